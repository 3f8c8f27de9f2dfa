/-
  Part of the proof of StoreWhole.
-/
import Derived.Maps.RangeWalk
import Derived.Lib.Hide
import Derived.WalkKit
import Derived.Deep.Draws
import Derived.Laws.BytesArg
import Derived.Lib.FrozenHead
import Derived.Great.BuildSlice
import Derived.ProofKit
import Derived.OpenShut
import Derived.Deep.Slices
import Derived.HandedShaped
import Derived.BigQuiet
import Derived.StillTailTactics
set_option linter.unusedSimpArgs false
set_option linter.unusedVariables false
namespace Go.Sep
open Go

def Hp:=Nat->Option Obj
def Hp.sub (h k:Hp):Prop:=∀b o,h b=some o->k b=some o
def Hp.apart (h k:Hp):Prop:=∀b,h b=none∨k b=none
def aA:=Hp->Prop

theorem Hp.xK (h:Hp):h.sub h:=fun _ _ e=>e
theorem Hp.yR {h k l:Hp} (a:h.sub k) (b:k.sub l):h.sub l:=fun _ _ e=>b _ _ (a _ _ e)
theorem Hp.Bt {h k:Hp} (a:h.apart k):k.apart h:=fun b=>(a b).symm
theorem Hp.Ad {h k h' k':Hp} (a:h.apart k) (s:h'.sub h) (t:k'.sub k):h'.apart k':=fun b=>by
 rcases a b with e|e
 ·left
  cases x:h' b with
  |none=>rfl
  |some o=>rw[s _ _ x] at e;cases e
 ·right
  cases x:k' b with
  |none=>rfl
  |some o=>rw[t _ _ x] at e;cases e

def iL:List aA->Hp->Prop
 |[],_=>True
 |A::L,h=>∃I H:Hp,I.sub h/\H.sub h/\I.apart H/\A I/\iL L H

theorem iL.mono {L:List aA} {h k:Hp} (s:h.sub k) (hs:iL L h):iL L k:=by
 cases L with
 |nil=>trivial
 |cons A L=>
  obtain⟨I,H,s1,s2,d,a,r⟩:=hs;exact⟨I,H,Hp.yR s1 s,Hp.yR s2 s,d,a,r⟩

def Hp.or (h k:Hp):Hp:=fun b=>(h b).or (k b)
theorem Hp.K3 (h k:Hp):h.sub (h.or k):=fun b o e=>by simp[Hp.or,e]
theorem Hp.K4 {h k:Hp} (d:h.apart k):k.sub (h.or k):=fun b o e=>by
 rcases d b with x|x
 ·simp[Hp.or,x,e]
 ·rw[x] at e;cases e
theorem Hp.Ku {h k l:Hp} (s:h.sub l) (t:k.sub l):(h.or k).sub l:=fun b o e=>by
 unfold Hp.or at e
 cases x:h b with
 |none=>rw[x] at e;simp at e;exact t _ _ e
 |some y=>rw[x] at e;simp at e;rw[<-e];exact s _ _ x
theorem Hp.Kt {h k l:Hp} (s:h.apart l) (t:k.apart l):(h.or k).apart l:=fun b=>by
 rcases s b with x|x
 ·rcases t b with y|y
  ·left;simp[Hp.or,x,y]
  ·right;exact y
 ·right;exact x

theorem iL.swap {A B:aA} {L:List aA} {h:Hp} (hs:iL (A::B::L) h):iL (B::A::L) h:=by
 obtain⟨I,H,s1,s2,d,a,g1,g2,t1,t2,e,b,r⟩:=hs;refine⟨g1,I.or g2,Hp.yR t1 s2,Hp.Ku s1 (Hp.yR t2 s2),?_,b,I,g2,Hp.K3 _ _,?_,?_,a,r⟩
 ·exact Hp.Bt (Hp.Kt (Hp.Ad d (Hp.xK _) t1) (Hp.Bt e))
 ·exact Hp.K4 (Hp.Ad d (Hp.xK _) t2)
 ·exact Hp.Ad d (Hp.xK _) t2

theorem iL.MP {A:aA} {L M:List aA} {h:Hp} (f:∀k,iL L k->iL M k) (hs:iL (A::L) h):iL (A::M) h:=by
 obtain⟨I,H,s1,s2,d,a,r⟩:=hs;exact⟨I,H,s1,s2,d,a,f _ r⟩

theorem iL.perm {L M:List aA} (p:L.Perm M):∀h,iL L h->iL M h:=by
 induction p with
 |nil=>exact fun _ h=>h
 |cons A _ ih=>exact fun h hs=>hs.MP ih
 |swap A B L=>exact fun h hs=>hs.swap
 |trans _ _ i j=>exact fun h hs=>j h (i h hs)

def St (L:List aA):aA:=iL L
def Ex {α:Type} (f:α->aA):aA:=fun h=>∃x,f x h
def Pu (p:Prop):aA:=fun _=>p
def rT (b:Nat) (o:Obj):aA:=fun h=>h b=some o
def Old (W:World):aA:=fun h=>∀b o,W.heap[b]? =some o->h b=some o

theorem iL.append {L M:List aA} :∀ {h:Hp},iL (St L::M) h↔iL (L++M) h:=by
 induction L with
 |nil=>
  intro h
  constructor
  ·rintro⟨I,H,s1,s2,d,_,r⟩;exact r.mono s2
  ·intro r;exact⟨fun _=>none,h,(fun _ _ e=>by cases e),Hp.xK _,fun _=> .inl rfl,trivial,r⟩
 |cons A L ih=>
  intro h
  constructor
  ·rintro⟨I,H,s1,s2,d,⟨g1,g2,t1,t2,e,a,r⟩,m⟩;refine⟨g1,g2.or H,Hp.yR t1 s1,Hp.Ku (Hp.yR t2 s1) s2,?_,a,ih.1 ⟨g2,H,Hp.K3 _ _,?_,?_,r,m⟩⟩
   ·exact Hp.Bt (Hp.Kt (Hp.Bt e) (Hp.Bt (Hp.Ad d t1 (Hp.xK _))))
   ·exact Hp.K4 (Hp.Ad d t2 (Hp.xK _))
   ·exact Hp.Ad d t2 (Hp.xK _)
  ·rintro⟨g1,H,s1,s2,d,a,m⟩;obtain⟨k1,k2,t1,t2,e,r,m⟩:=ih.2 m;refine⟨g1.or k1,k2,Hp.Ku s1 (Hp.yR t1 s2),Hp.yR t2 s2,?_,⟨g1,k1,Hp.K3 _ _,Hp.K4 ?_,?_,a,r⟩,m⟩
   ·exact Hp.Kt (Hp.Ad d (Hp.xK _) t2) e
   ·exact Hp.Ad d (Hp.xK _) t1
   ·exact Hp.Ad d (Hp.xK _) t1

theorem iL.ex {α:Type} {f:α->aA} {L:List aA} {h:Hp} :iL (Ex f::L) h↔ ∃x,iL (f x::L) h:=
 ⟨fun⟨I,H,s1,s2,d,⟨x,a⟩,r⟩=>⟨x,I,H,s1,s2,d,a,r⟩,fun⟨x,I,H,s1,s2,d,a,r⟩=>⟨I,H,s1,s2,d,⟨x,a⟩,r⟩⟩
theorem iL.pu {p:Prop} {L:List aA} {h:Hp} :iL (Pu p::L) h↔p/\iL L h:=
 ⟨fun⟨_,_,_,s2,_,a,r⟩=>⟨a,r.mono s2⟩,fun⟨a,r⟩=>⟨fun _=>none,h,(fun _ _ e=>by cases e),Hp.xK _,fun _=> .inl rfl,a,r⟩⟩

def hp (w:World):Hp:=fun b=>w.heap[b]?

structure Sat (W w:World) (L:List aA):Prop where
 os:w.os=W.os
 output:w.output=W.output
 AP:iL (Old W::L) (hp w)

section
variable {W w:World} {L M R:List aA} {A B C D E oL G:aA}

theorem Sat.start (W:World):Sat W W []:=
 ⟨rfl,rfl,hp W,fun _=>none,Hp.xK _,(fun _ _ e=>by cases e),fun _=> .inr rfl,fun _ _ e=>e,trivial⟩

theorem Sat.map (h:Sat W w L) (f:∀k,iL L k->iL M k):Sat W w M:=⟨h.os,h.output,h.AP.MP f⟩
theorem Sat.perm (h:Sat W w L) (p:L.Perm M):Sat W w M:=h.map (iL.perm p)
theorem Sat.drop (h:Sat W w (A::L)):Sat W w L:=h.map fun _ ⟨_,_,_,s2,_,_,r⟩=>r.mono s2
theorem Sat.bW (h:Sat W w (A::B::L)):Sat W w (B::A::L):=h.map fun _=>iL.swap
theorem Sat.Oi (h:Sat W w (A::B::C::L)):Sat W w (C::A::B::L):=(h.map fun _=>iL.MP fun _=>iL.swap).bW
theorem Sat.ak4 (h:Sat W w (A::B::C::D::L)):Sat W w (D::A::B::C::L):=h.perm (by
 exact List.perm_middle (l₁:=[A,B,C]) |>.trans (List.Perm.refl _))
theorem Sat.front (h:Sat W w L) (k:Nat) (hk:L[k]? =some A):Sat W w (A::L.eraseIdx k):=h.perm (by
 induction L generalizing k with
 |nil=>simp at hk
 |cons B L ih=>
  cases k with
  |zero=>simp at hk;subst hk;exact List.Perm.refl _
  |succ k=>
   simp only[List.getElem?_cons_succ] at hk;rw[List.eraseIdx_cons_succ]
   refine((ih (h:=⟨h.os,h.output,h.drop.AP⟩) k hk).cons B).trans (List.Perm.swap _ _ _))
def reorder:Nat->List aA->List Nat->List aA
 |n+1,L,k::ks=>match L[k]? with
  |some A=>A::reorder n (L.eraseIdx k) (ks.map fun j=>if k<j then j-1 else j)
  |none=>L
 |_,L,_=>L
theorem iL.reorder:∀(n:Nat) (ks:List Nat) (L:List aA) (h:Hp),iL L h->iL (reorder n L ks) h
 |0,_,_,_,hs=>hs
 |n+1,[],_,_,hs=>hs
 |n+1,k::ks,L,h,hs=>by
  unfold Sep.reorder
  split
  ·rename_i A hk
   have hp:L.Perm (A::L.eraseIdx k):=by
    clear hs
    induction L generalizing k with
    |nil=>simp at hk
    |cons B L ih=>
     cases k with
     |zero=>simp at hk;subst hk;exact List.Perm.refl _
     |succ k=>
      simp only[List.getElem?_cons_succ] at hk;rw[List.eraseIdx_cons_succ];exact((ih k hk).cons B).trans (List.Perm.swap _ _ _)
   exact(iL.perm hp h hs).MP fun k'=>iL.reorder n _ _ k'
  ·exact hs
theorem Sat.re (h:Sat W w L) (ks:List Nat):Sat W w (reorder ks.length L ks):=h.map fun k hs=>iL.reorder _ ks L k hs
theorem Sat.ex {α:Type} {f:α->aA} (h:Sat W w (Ex f::L)):∃x,Sat W w (f x::L):=by
 obtain⟨x,V⟩:=iL.ex.1 h.AP.swap;exact⟨x,h.os,h.output,V.swap⟩
theorem Sat.yH {α:Type} {f:α->aA} (x:α) (h:Sat W w (f x::L)):Sat W w (Ex f::L):=h.map fun _ hs=>iL.ex.2 ⟨x,hs⟩
theorem Sat.pu {p:Prop} (h:Sat W w (Pu p::L)):p/\Sat W w L:=by
 obtain⟨x,V⟩:=iL.pu.1 h.AP.swap;exact⟨x,h.os,h.output,V⟩
theorem Sat.E9 {p:Prop} (x:p) (h:Sat W w L):Sat W w (Pu p::L):=h.map fun _ hs=>iL.pu.2 ⟨x,hs⟩
theorem Sat.open (h:Sat W w (St M::L)):Sat W w (M++L):=h.map fun _=>iL.append.1
theorem Sat.sH (h:Sat W w (M++L)):Sat W w (St M::L):=h.map fun _=>iL.append.2

theorem Sat.blk {b:Nat} {o:Obj} (h:Sat W w (rT b o::L)):w.heap[b]? =some o:=by
 obtain⟨I,H,_,s2,_,_,g1,g2,t1,_,_,e,_⟩:=h.AP;exact s2 _ _ (t1 _ _ e)
theorem Sat.old (h:Sat W w L) {b:Nat} (hb:b<W.heap.size):w.heap[b]? =W.heap[b]? :=by
 obtain⟨I,H,s1,_,_,e,_⟩:=h.AP;have:=e b W.heap[b] (by simp[hb]);have:=s1 _ _ this;unfold hp at this;rw[this];simp[hb]
theorem Sat.size (h:Sat W w L):W.heap.size<=w.heap.size:=by
 rcases Nat.lt_or_ge w.heap.size W.heap.size with g|g
 ·have:=h.old g;simp[g] at this
 ·exact g
theorem Sat.lt {b:Nat} {o:Obj} (h:Sat W w (rT b o::L)):b<w.heap.size:=(Array.getElem?_eq_some_iff.1 h.blk).1
theorem Sat.turn {w':World} {b:Nat} {o o':Obj} (h:Sat W w (rT b o::L)) (hos:w'.os=w.os) (hout:w'.output=w.output)
  (hb:w'.heap[b]? =some o') (hr:∀c p,c≠b->w.heap[c]? =some p->w'.heap[c]? =some p):Sat W w' (rT b o'::L):=by
 refine⟨hos.trans h.os,hout.trans h.output,?_⟩;obtain⟨I,H,s1,s2,d,e,g1,g2,t1,t2,f,e2,r⟩:=h.AP;have e2':g1 b=some o:=e2;have n1:I b=none:=(d b).resolve_right (by rw[t1 _ _ e2'];simp);have n2:g2 b=none:=(f b).resolve_left (by rw[e2'];simp)
 let one:Hp:=fun c=>if c=b then some o' else none
 have a1:one.apart g2:=fun c=>by
  by_cases hc:c=b
  ·subst hc;exact .inr n2
  ·left;simp[one,hc]
 refine⟨I,one.or g2,?_,?_,?_,e,one,g2,Hp.K3 _ _,Hp.K4 a1,a1,by simp[rT,one],r⟩
 ·intro c p hc
  by_cases hcb:c=b
  ·subst hcb;rw[n1] at hc;cases hc
  ·exact hr c p hcb (s1 _ _ hc)
 ·refine Hp.Ku ?_ ?_
  ·intro c p hc
   by_cases hcb:c=b
   ·subst hcb;simp[one] at hc;subst hc;exact hb
   ·simp[one,hcb] at hc
  ·intro c p hc
   by_cases hcb:c=b
   ·subst hcb;rw[n2] at hc;cases hc
   ·exact hr c p hcb (s2 _ _ (t2 _ _ hc))
 ·refine Hp.Bt (Hp.Kt ?_ ?_)
  ·intro c
   by_cases hc:c=b
   ·subst hc;exact .inr n1
   ·left;simp[one,hc]
  ·exact Hp.Bt (Hp.Ad d (Hp.xK _) t2)

theorem Sat.alloc (h:Sat W w L) (o:Obj):Sat W (w.alloc o) (rT w.heap.size o::L):=by
 refine⟨h.os,h.output,?_⟩;obtain⟨I,H,s1,s2,d,e,r⟩:=h.AP
 let one:Hp:=fun c=>if c=w.heap.size then some o else none
 have aaJ:∀ {g:Hp},g.sub (hp w)->g w.heap.size=none:=fun {g} s=>by
  cases x:g w.heap.size with
  |none=>rfl
  |some p=>have:=s _ _ x;simp[hp] at this
 have n1:=aaJ s1;have n2:=aaJ s2
 have a1:∀ {g:Hp},g w.heap.size=none->one.apart g:=fun {g} n c=>by
  by_cases hc:c=w.heap.size
  ·subst hc;exact .inr n
  ·left;simp[one,hc]
 have up:(hp w).sub (hp (w.alloc o)):=fun c p hc=>by
  have hlt:c<w.heap.size:=(Array.getElem?_eq_some_iff.1 hc).1;simp only[hp] at hc ⊢;rw[show(w.alloc o).heap=w.heap.push o from rfl,Array.getElem?_push];rw[if_neg (by omega)];exact hc
 have on:one.sub (hp (w.alloc o)):=fun c p hc=>by
  by_cases hcb:c=w.heap.size
  ·subst hcb;simp[one] at hc;subst hc;simp only[hp];rw[show(w.alloc o).heap=w.heap.push o from rfl];simp
  ·simp[one,hcb] at hc
 exact⟨I,one.or H,Hp.yR s1 up,Hp.Ku on (Hp.yR s2 up),Hp.Bt (Hp.Kt (a1 n1) (Hp.Bt d)),e,one,H,
  Hp.K3 _ _,Hp.K4 (a1 n2),a1 n2,by simp[rT,one],r⟩
theorem Sat.of_heap {w':World} (h:Sat W w L) (hh:w'.heap=w.heap) (hos:w'.os=w.os) (hout:w'.output=w.output):Sat W w' L:=
 ⟨hos.trans h.os,hout.trans h.output,by have:=h.AP;unfold hp at*;rw[hh];exact this⟩
theorem Sat.drew (h:Sat W w L):Sat W w.drew L:=h.of_heap rfl rfl rfl
theorem Sat.drewN (h:Sat W w L) (n:Nat):Sat W (w.drewN n) L:=h.of_heap rfl rfl rfl

theorem Sat.kept (h:Sat W w L):W.keptBut w (fun _=>False):=by
 refine⟨h.os,h.output,fun i hi=>?_⟩;rw[h.old hi];have:W.heap[i]? =some W.heap[i]:=by simp[hi]
 rw[this]
 cases W.heap[i]<;>simp
end
end Go.Sep
namespace Go.Sep
open Go

def Es (fz:Nat×Nat) (n:Nat):Prop:=fz.1=fz.2∨n<=fz.1
def Cs (b:Nat) (T:TypeId) (l:List Value):aA:=Ex fun fz:Nat×Nat=>St [Pu (Es fz l.length),rT b (.cells l.toArray T fz)]
def Has (L:List aA) (k:Nat) (A:aA):Prop:=L[k]? =some A
theorem Has.z {L:List aA} {A:aA} :Has (A::L) 0 A:=rfl
theorem Has.s {L:List aA} {k:Nat} {A B:aA} (h:Has L k A):Has (B::L) (k+1) A:=h

section
variable {P:Program} {W w:World} {L:List aA} {k b off:Nat} {T:TypeId} {l:List Value}

theorem Sat.Kr (h:Sat W w (Cs b T l::L)):∃fz,Es fz l.length/\Sat W w (rT b (.cells l.toArray T fz)::L):=by
 obtain⟨fz,h⟩:=h.ex;have H:Sat W w (Pu (Es fz l.length)::rT b (.cells l.toArray T fz)::L):=h.open
 exact⟨fz,H.pu⟩
theorem Sat.Kj {fz:Nat×Nat} (ht:Es fz l.length) (h:Sat W w (rT b (.cells l.toArray T fz)::L)):Sat W w (Cs b T l::L):=
 Sat.yH fz (Sat.sH (Sat.E9 ht h))
theorem Sat.cells (h:Sat W w L) (hk:Has L k (Cs b T l)):∃fz,Es fz l.length/\w.heap[b]? =some (.cells l.toArray T fz):=by
 obtain⟨fz,ht,h⟩:=(h.front k hk).Kr;exact⟨fz,ht,h.blk⟩
theorem Sat.cell (h:Sat W w L) (hk:Has L k (Cs b T l)) {v:Value} (hv:l[off]? =some v):w.cell? ⟨b,off,none⟩=some v:=by
 obtain⟨fz,_,hb⟩:=h.cells hk;simp[World.cell?,hb,hv]
theorem Sat.back {A B:aA} (h:Sat W w (B::L.eraseIdx k)) (hk:Has L k A):Sat W w (L.set k B):=h.perm (by
 clear h
 induction L generalizing k with
 |nil=>simp[Has] at hk
 |cons C L ih=>
  cases k with
  |zero=>exact List.Perm.refl _
  |succ k=>
   simp only[Has,List.getElem?_cons_succ] at hk;rw[List.eraseIdx_cons_succ,List.set_cons_succ]
   exact(List.Perm.swap _ _ _).trans ((ih hk).cons C))
theorem Sat.setRow (h:Sat W w L) (hk:Has L k (Cs b T l)) (l':List Value) (hl:l'.length=l.length):Sat W (w.setRow b l'.toArray) (L.set k (Cs b T l')):=by
 obtain⟨fz,ht,h⟩:=(h.front k hk).Kr;have H:Sat W (w.setRow b l'.toArray) (rT b (.cells l'.toArray T fz)::L.eraseIdx k):=
  h.turn rfl rfl (setRow_heap w b _ _ T fz h.blk) fun c p hc hp=>by rw[setRow_other w b c _ hc];exact hp
 exact(H.Kj (by rw[hl];exact ht)).back hk
theorem Sat.Dl (h:Sat W w L) (l:List Value) (T:TypeId):Sat W (w.alloc (.cells l.toArray T)) (Cs w.heap.size T l::L):=
 (h.alloc (.cells l.toArray T)).Kj (.inl rfl)

/-! ### closed facts on types -/
def jk (P:Program) (T:TypeId):Option Bool:=(P.underlying T).map fun d=>match d with| .struct _| .array _ _=>true|_=>false
def kr (P:Program) (T:TypeId):Option Nat:=(P.info? T).map (·.size)
def nU (P:Program) (T:TypeId):Option (Option Value):=(P.info? T).map (·.zero)
def lV (P:Program) (T:TypeId):Option (TypeId×Nat×Nat×Option Value):=
 match P.underlying T with|some (.slice e)=>(P.info? e).map fun i=>(e,i.size,i.bytes,i.zero)|_=>none

theorem ab1 {T:TypeId} {x:Bool} (h:jk P T=some x) (w:World):(isAgg T).run P w= .ok x w:=by
 unfold jk at h
 cases hu:P.underlying T with
 |none=>simp[hu] at h
 |some d=>
  simp only[hu,Option.map_some,Option.some.injEq] at h;subst h;unfold isAgg;rw[Sem.run_bind,run_underlying hu w]
  cases d<;>simp
theorem KQ {T n:Nat} (h:kr P T=some n) (w:World):(sizeOf T).run P w= .ok n w:=by
 unfold kr at h
 cases hu:P.info? T with
 |none=>simp[hu] at h
 |some d=>
  simp only[hu,Option.map_some,Option.some.injEq] at h;subst h;simp[sizeOf,typeInfo,hu]
theorem ab5 {T:TypeId} {z:Value} (h:nU P T=some (some z)) (w:World):(zeroValue T).run P w= .ok z w:=by
 unfold nU at h
 cases hu:P.info? T with
 |none=>simp[hu] at h
 |some d=>
  simp only[hu,Option.map_some,Option.some.injEq] at h;simp[zeroValue,typeInfo,hu,h]
theorem zm {T e size bytes:Nat} {z:Option Value} (h:lV P T=some (e,size,bytes,z)):
  P.underlying T=some (.slice e)/\∃i,P.info? e=some i/\i.size=size/\i.bytes=bytes/\i.zero=z:=by
 unfold lV at h
 split at h
 ·rename_i e' hu
  cases hi:P.info? e' with
  |none=>simp[hi] at h
  |some i=>
   simp only[hi,Option.map_some,Option.some.injEq,Prod.mk.injEq] at h;obtain⟨rfl,rfl,rfl,rfl⟩:=h;exact⟨hu,i,hi,rfl,rfl,rfl⟩
 ·cases h

theorem aS (x:Array Value):Value.cells (.agg x)=x:=rfl
theorem sV {a:Act} {v:Value} :a.eval (.const v)=v:=rfl
theorem rA {l:List Value} {ds:List Deferred} {n:Nat} {v:Value} (h:l[n]? =some v):Act.eval {tmps:=l.toArray,defers:=ds} (.tmp n)=v:=by
 simp[Act.eval,h]

/-! ### an operation that yields a value; one that yields none -/
variable {o:Oper} {a:Act} {K:Act->World->Prop} {Q:Exit->Act->World->Prop}
theorem vG {s:Sem Value} (hs:execOp a.eval o=(do let x <-s;pure (.value x))) {v:Value} {w':World} (hr:s.run P w= .ok v w')
  (h:K (a.put o.dst v) w'):o.wp P a w K Q:=by
 unfold Oper.wp;rw[hs];simp[hr,Oper.upon,h]
theorem IM {s:Sem Unit} (hs:execOp a.eval o=(do s;pure .skip)) {w':World} (hr:s.run P w= .ok () w')
  (h:K (a.put o.dst undef) w'):o.wp P a w K Q:=by
 unfold Oper.wp;rw[hs];simp[hr,Oper.upon,h]

theorem toList {ops:Array Oper} {rest:List Oper} (hw:Region.wanted o (yielded ops a.tmps)=true) (h:o.wp P a w (wpList P ops Q rest) Q):wpList P ops Q (o::rest) a w:=by
 unfold wpList;rw[if_pos hw];exact .inl h

/-! ### loads -/
theorem Ce {v:Value} (hT:jk P T=some false) (hc:w.cell? ⟨b,off,none⟩=some v):(loadVar T ⟨b,off,none⟩).run P w= .ok v w:=by
 simp[loadVar,ab1 hT,hc]
theorem AB {n:Nat} {vs:List Value} (hT:jk P T=some true) (hn:kr P T=some n) (hl:vs.length=n) (hc:∀j v,vs[j]? =some v->w.cell? ⟨b,off+j,none⟩=some v):
  (loadVar T ⟨b,off,none⟩).run P w= .ok (.agg vs.toArray) w:=by
 subst hl;have:=run_loadCells_list (P:=P) w ⟨b,off,none⟩ vs (fun j v hv=>by rw[Addr.add_lit];exact hc j v hv);simp[loadVar,ab1 hT,KQ hn,this]
theorem ld (O:Sat W w L) (T:TypeId) (x:Operand) (ho:o.op= .load T x) (b off:Nat) (V:a.eval x= .pointer (some ⟨b,off,none⟩)) (hT:jk P T=some false)
  {k E l v} (hk:Has L k (Cs b E l)) (hv:l[off]? =some v) (h:K (a.put o.dst v) w):o.wp P a w K Q:=
 vG (s:=loadVar T ⟨b,off,none⟩) (by simp[execOp,ho,V,Instr.loadAt,Instr.sureAddr]) (Ce hT (O.cell hk hv)) h
theorem rE (O:Sat W w L) (T:TypeId) (x:Operand) (ho:o.op= .load T x) (b off:Nat) (V:a.eval x= .pointer (some ⟨b,off,none⟩)) (hT:jk P T=some true)
  {n} (hn:kr P T=some n) {k E l} (hk:Has L k (Cs b E l)) (hb:off+n<=l.length) (h:K (a.put o.dst (.agg ((l.drop off).take n).toArray)) w):o.wp P a w K Q:=
 vG (s:=loadVar T ⟨b,off,none⟩) (by simp[execOp,ho,V,Instr.loadAt,Instr.sureAddr])
  (AB hT hn (by simp;omega) fun j v hv=>O.cell hk (by
   rw[List.getElem?_take] at hv
   split at hv
   ·rwa [List.getElem?_drop] at hv
   ·cases hv)) h
/-! ### stores -/
theorem ab4 (g o:Nat) (t:TypeId) (fz:Nat×Nat):∀(vs:List Value) (i:Nat) (cur:List Value) (w:World),w.heap[g]? =some (.cells cur.toArray t fz)->Es fz cur.length->o+i+vs.length<=cur.length->(∀v∈vs,v.oneCell'=true)->
  (storeCells ⟨g,o,none⟩ vs i).run P w= .ok () (w.setRow g (cur.take (o+i)++vs++cur.drop (o+i+vs.length)).toArray)
 |[],i,cur,w,hg,_,_,_=>by
  simp only[storeCells,List.append_nil,List.length_nil,Nat.add_zero,List.take_append_drop];rw[setRow_self w g cur.toArray t fz hg];rfl
 |v::rest,i,cur,w,hg,ht,hl,I=>by
  have hi:o+i<cur.length:=by simp at hl;omega
  have hadd:(⟨g,o,none⟩:Addr).add i=⟨g,o+i,none⟩:=Addr.add_lit _ _ _;have hcell:w.cell? ⟨g,o+i,none⟩=some cur[o+i]:=by simp[World.cell?,hg,hi]
  have hfro:w.frozen? ⟨g,o+i,none⟩=false:=by
   simp only[World.frozen?,hg]
   rcases Nat.lt_or_ge (o+i) fz.1 with h|h
   ·simp;omega
   ·rcases ht with H|H
    ·simp;omega
    ·omega
  have hst:(store ((⟨g,o,none⟩:Addr).add i) v).run P w= .ok () (w.setRow g (cur.set (o+i) v).toArray):=by
   rw[hadd,run_store P w _ v _ (I v (by simp)),hcell];simp[hfro,setCell_eq_setRow w g (o+i) cur.toArray t fz v hg]
  have ih:=ab4 g o t fz rest (i+1) (cur.set (o+i) v) (w.setRow g (cur.set (o+i) v).toArray) (setRow_heap w g cur.toArray _ t _ hg) (by simpa using ht) (by simp at hl ⊢;omega) (fun x V=>I x (by simp[V]));simp only[storeCells,Sem.run_bind,hst,Result.andThen_ok,ih,setRow_setRow];congr 3;have e:=list_seg_step cur (o+i) v rest (by simp at hl ⊢;omega)
  simpa [Nat.add_assoc] using e
theorem Sat.storeCells (O:Sat W w L) (hk:Has L k (Cs b T l)) (vs:List Value) (hb:off+vs.length<=l.length) (I:∀v∈vs,v.oneCell'=true):
  ∃w',(storeCells ⟨b,off,none⟩ vs).run P w= .ok () w'/\Sat W w' (L.set k (Cs b T (l.take off++vs++l.drop (off+vs.length)))):=by
 obtain⟨fz,ht,hh⟩:=O.cells hk;have:=ab4 (P:=P) b off T fz vs 0 l w hh ht (by simpa using hb) I;exact⟨_,this,O.setRow hk _ (by simp;omega)⟩
theorem ank {l:List Value} {v:Value} (h:off<l.length):l.take off++[v]++l.drop (off+1)=l.set off v:=by
 rw[List.set_eq_take_append_cons_drop];simp[h]
theorem st (O:Sat W w L) (T:TypeId) (x y:Operand) (ho:o.op= .store T x y) (b off:Nat) (V:a.eval x= .pointer (some ⟨b,off,none⟩)) (v:Value) (hy:a.eval y=v) (hv:v.oneCell'=true) (hn:kr P T=some 1)
  {k E l} (hk:Has L k (Cs b E l)) (hb:off<l.length) (h:∀w',Sat W w' (L.set k (Cs b E (l.set off v)))->K (a.put o.dst undef) w'):o.wp P a w K Q:=by
 obtain⟨w',hr,hS'⟩:=O.storeCells (P:=P) (off:=off) hk [v] (by simp;omega) (by simp[hv]);have hc:v.cells= #[v]:=by cases v<;>simp_all [Value.oneCell',Value.cells]
 refine IM (s:=storeVar T ⟨b,off,none⟩ v) (w':=w') (by simp[execOp,ho,V,hy,Instr.storeAt,Instr.sureAddr]) ?_ (h w' ?_)
 ·simp[storeVar,KQ hn,hc,hr]
 ·have e:=ank (v:=v) hb;simp only[List.length_cons,List.length_nil,Nat.zero_add] at hS';rw[e] at hS';exact hS'
theorem stA (O:Sat W w L) (T:TypeId) (x y:Operand) (ho:o.op= .store T x y) (b off:Nat) (V:a.eval x= .pointer (some ⟨b,off,none⟩)) (vs:List Value) (hy:a.eval y= .agg vs.toArray) (hv:∀v∈vs,v.oneCell'=true) (hn:kr P T=some vs.length)
  {k E l} (hk:Has L k (Cs b E l)) (hb:off+vs.length<=l.length) (h:∀w',Sat W w' (L.set k (Cs b E (l.take off++vs++l.drop (off+vs.length))))->K (a.put o.dst undef) w'):o.wp P a w K Q:=by
 obtain⟨w',hr,hS'⟩:=O.storeCells (P:=P) (off:=off) hk vs hb hv;refine IM (s:=storeVar T ⟨b,off,none⟩ (.agg vs.toArray)) (w':=w') (by simp[execOp,ho,V,hy,Instr.storeAt,Instr.sureAddr]) ?_ (h w' hS');simp[storeVar,KQ hn,Value.cells,hr]

/-! ### new memory -/
theorem al (O:Sat W w L) (T:TypeId) (ho:o.op= .alloc T) {z:Value} (hz:nU P T=some (some z))
  (h:∀b w',Sat W w' (Cs b T z.cells.toList::L)->K (a.put o.dst (.pointer (some ⟨b,0,none⟩))) w'):o.wp P a w K Q:=by
 refine vG (s:=Instr.alloc T true (.tuple #[])) (v:= .pointer (some ⟨w.heap.size,0,none⟩)) (w':=w.alloc (.cells z.cells T)) (by simp[execOp,ho]) ?_ (h _ _ ?_)
 ·simp[Instr.alloc,ab5 hz,newVar,newRow]
 ·have:=O.Dl z.cells.toList T;simpa using this
theorem bx (O:Sat W w L) (T:TypeId) (x:Operand) (ho:o.op= .box T x) (v:Value) (V:a.eval x=v)
  (h:∀b w',Sat W w' (Cs b T v.cells.toList::L)->K (a.put o.dst (.pointer (some ⟨b,0,none⟩))) w'):o.wp P a w K Q:=by
 refine vG (s:=Instr.box T v) (v:= .pointer (some ⟨w.heap.size,0,none⟩)) (w':=w.alloc (.cells v.cells T)) (by simp[execOp,ho,V]) ?_ (h _ _ ?_)
 ·simp[Instr.box,newVar,newRow]
 ·have:=O.Dl v.cells.toList T;simpa using this
theorem mk (O:Sat W w L) (T:TypeId) (x y:Operand) (ho:o.op= .makeSlice T x y) (n c:Nat) (kx ky:IntKind) (V:a.eval x= .int kx n) (hy:a.eval y= .int ky c)
  {e size bytes:Nat} {z:Value} (hT:lV P T=some (e,size,bytes,some z)) (hnc:n<=c) (hb:c*bytes<=281474976710656) (hm:c<=9223372036854775807)
  (h:∀b w',Sat W w' (Cs b e (madeCells z.cells (c*size)).toList::L)->K (a.put o.dst (.slice (some ⟨b,0,none⟩) n c)) w'):o.wp P a w K Q:=by
 obtain⟨hu,i,hi,rfl,rfl,hz⟩:=zm hT
 have hb2:(i.bytes:Int)*(c:Int)<=281474976710656:=by
  have h:((c*i.bytes:Nat):Int)<=281474976710656:=Int.ofNat_le.2 hb
  rwa [Int.natCast_mul,Int.mul_comm] at h
 have hr:=run_make (P:=P) w T e i z hu hi hz kx ky n c (Int.natCast_nonneg _) (Int.ofNat_le.2 hnc) hb2 (Int.ofNat_le.2 hm);simp only[Int.toNat_natCast] at hr;refine vG (s:=Instr.makeSlice T (.int kx n) (.int ky c)) (by simp[execOp,ho,V,hy]) hr (h _ _ ?_);have:=O.Dl (madeCells z.cells (c*i.size)).toList e
 simpa using this
theorem bs (O:Sat W w L) (T:TypeId) (n:Nat) (ps:Array (Nat×Operand)) (ho:o.op= .buildSlice T n ps)
  {e size bytes:Nat} {z:Value} (hT:lV P T=some (e,size,bytes,some z)) (hn:0<n*size) (hm:n*size<=2 ^ 24) (cs:List Value)
  (hf:Instr.fill (fun i=>some (i*size,size)) ((Array.range (n*size)).map (z.cells[· % z.cells.size]!)) (ps.map fun(i,x)=>(i,a.eval x)).toList=some cs.toArray)
  (h:∀b w',Sat W w' (Cs b e cs::L)->K (a.put o.dst (.slice (some ⟨b,0,none⟩) n n)) w'):o.wp P a w K Q:=by
 obtain⟨hu,i,hi,rfl,rfl,hz⟩:=zm hT;have I:¬n*i.size > 2 ^ 24:=Nat.not_lt.2 hm;have H:¬n*i.size=0:=Nat.ne_of_gt hn;have hr:=run_buildSlice (P:=P) w T e n (ps.map fun(i,x)=>(i,a.eval x)) cs.toArray i z hu hi hz I H hf;have h3:=h _ _ (O.Dl cs e);have h4:execOp a.eval o=(do let x <-Instr.buildSlice T n (ps.map fun(i,x)=>(i,a.eval x));pure (.value x)):=by simp only[execOp,ho]
 exact vG h4 hr h3
def W9 (P:Program) (T:TypeId):Bool:=match P.underlying T with|some (.slice e)=>(match P.underlying e with|some (.int .u8)=>true|_=>false)|_=>false
theorem YA (O:Sat W w L) (T:TypeId) (x:Operand) (ho:o.op= .convert T T x) (b off n c:Nat) (V:a.eval x= .slice (some ⟨b,off,none⟩) n c) (hT:W9 P T=true)
  {k E l} (hk:Has L k (Cs b E l)) (h:∀w',Sat W w' L->K (a.put o.dst (.slice (some ⟨b,off,none⟩) n c)) w'):o.wp P a w K Q:=by
 unfold W9 at hT
 split at hT
 ·rename_i e hu
  split at hT
  ·rename_i he
   obtain⟨fz,ht,hS2⟩:=(O.front k hk).Kr;have hb:=hS2.blk;have hsh:w.shape? b=some (E,l.length):=by simp[World.shape?,hb]
   have hfr:w.freeze ⟨b,l.length,none⟩ 1= {w with heap:=w.heap.modify b fun| .cells c elem (lo,hi)=> .cells c elem (if lo==hi then(l.length,l.length+1) else(min lo l.length,max hi (l.length+1)))|o=>o} :=by
    unfold World.freeze;rw[if_neg (by omega)];rfl
   refine vG (s:=convert T T (.slice (some ⟨b,off,none⟩) n c)) (v:= .slice (some ⟨b,off,none⟩) n c) (w':=w.freeze ⟨b,l.length,none⟩ 1) (by simp[execOp,ho,V]) ?_ (h _ ?_)
   ·simp[convert,run_underlying hu,run_underlying he,markStringish,hsh]
   ·have xw:Sat W (w.freeze ⟨b,l.length,none⟩ 1) (rT b (.cells l.toArray E (if fz.1==fz.2 then(l.length,l.length+1) else(min fz.1 l.length,max fz.2 (l.length+1))))::L.eraseIdx k):=by
     rw[hfr];refine hS2.turn rfl rfl ?_ fun c p hc hp=>?_
     ·simp[Array.getElem?_modify,hb]
     ·simp[Array.getElem?_modify,Ne.symm hc,hp]
    refine Eq.mp ?_ ((xw.Kj (l:=l) ?_).back hk)
    ·rw[show L.set k (Cs b E l)=L from by
      unfold Has at hk;obtain⟨hlt,he⟩:=List.getElem?_eq_some_iff.1 hk
      rw[<-he,List.set_getElem_self]]
    ·unfold Es
     rcases ht with I|I
     ·simp[I]
     ·by_cases H:fz.1=fz.2
      ·simp[H]
      ·right;simp[H];omega
  ·cases hT
 ·cases hT
/-! a slice literal, all its places written one after the other -/
theorem acb (off:Nat):∀(cs:List Value) (j:Nat) (A:List Value),off+j+cs.length<=A.length->
  (cs.zipIdx j).foldl (fun(B:Array Value) (x:Value×Nat)=>B.setIfInBounds (off+x.2) x.1) A.toArray=(A.take (off+j)++cs++A.drop (off+j+cs.length)).toArray
 |[],j,A,_=>by simp
 |c::cs,j,A,h=>by
  simp only[List.length_cons] at h;rw[List.zipIdx_cons,List.foldl_cons,List.setIfInBounds_toArray,acb off cs (j+1) (A.set (off+j) c) (by simp;omega)];congr 1;have:=list_seg_step A (off+j) c cs (by omega)
  simpa [Nat.add_assoc] using this
theorem Ya (size:Nat):∀(vs:List Value) (i:Nat) (pre rest:List Value),(∀v∈vs,v.cells.size=size)->pre.length=i*size->rest.length=vs.length*size->
  Instr.fill (fun i=>some (i*size,size)) (pre++rest).toArray ((vs.zipIdx i).map fun x=>(x.2,x.1))=some (pre++vs.flatMap fun v=>v.cells.toList).toArray
 |[],i,pre,rest,_,_,hr=>by
  have:rest=[]:=List.eq_nil_of_length_eq_zero (by simpa using hr);subst this;simp[Instr.fill]
 |v::vs,i,pre,rest,hv,hp,hr=>by
  have hc:=hv v (by simp);simp only[List.length_cons,Nat.add_mul] at hr;have I:¬((v.cells.size≠size || i*size+v.cells.size > (pre++rest).toArray.size)=true):=by simp[hc];omega
  simp only[List.zipIdx_cons,List.map_cons,Instr.fill];rw[if_neg I]
  have H:v.cells.zipIdx.foldl (fun cs x=>cs.setIfInBounds (i*size+x.2) x.1) (pre++rest).toArray=(pre++v.cells.toList++rest.drop size).toArray:=by
   have:=acb (i*size) v.cells.toList 0 (pre++rest) (by simp[hc];omega);rw[<-Array.foldl_toList,Array.toList_zipIdx,this];congr 1;simp only[Nat.add_zero,Array.length_toList,hc,<-hp,List.take_left',List.drop_append,Nat.add_sub_cancel_left];simp
  rw[H];have ih:=Ya size vs (i+1) (pre++v.cells.toList) (rest.drop size) (fun x V=>hv x (by simp[V])) (by simp[hp,hc,Nat.add_mul]) (by simp;omega);rw[ih];simp
theorem WW (O:Sat W w L) (T:TypeId) (n:Nat) (ps:Array (Nat×Operand)) (ho:o.op= .buildSlice T n ps)
  {e size bytes:Nat} {z:Value} (hT:lV P T=some (e,size,bytes,some z)) (vs:List Value) (hvs:ps.toList.map (fun p=>a.eval p.2)=vs) (hix:ps.toList.map (·.1)=List.range n) (hn:0<n*size) (hm:n*size<=2 ^ 24) (hc:∀v∈vs,v.cells.size=size)
  (h:∀b w',Sat W w' (Cs b e (vs.flatMap fun v=>v.cells.toList)::L)->K (a.put o.dst (.slice (some ⟨b,0,none⟩) n n)) w'):o.wp P a w K Q:=by
 refine bs O T n ps ho hT hn hm _ ?_ h
 have hlen:vs.length=n:=by
  have:=congrArg List.length hix;rw[<-hvs];simpa using this
 have hl:(ps.map fun(i,x)=>(i,a.eval x)).toList=(vs.zipIdx 0).map fun x=>(x.2,x.1):=by
  apply List.ext_getElem?;intro j;have e1:=congrArg (·[j]?) hix;have e2:=congrArg (·[j]?) hvs;simp only[List.getElem?_map] at e1 e2;simp only[Array.toList_map,List.getElem?_map,List.getElem?_zipIdx]
  cases hj:ps.toList[j]? with
  |none=>rw[hj] at e2;simp at e2;simp[e2]
  |some p=>
   rw[hj] at e1 e2
   have hjn:j<n:=by
    have:=(List.getElem?_eq_some_iff.1 hj).1;have h3:=congrArg List.length hvs;simp at h3 this;omega
   simp[hjn] at e1 e2;simp[<-e2,e1]
 rw[hl];have:=Ya size vs 0 [] ((Array.range (n*size)).map (z.cells[· % z.cells.size]!)).toList hc (by simp) (by simp[hlen]);simp only[List.nil_append,Array.toArray_toList] at this;exact this
end
attribute [irreducible] Cs
end Go.Sep
namespace Go.Sep
open Go

def U1 (b:Nat) (l:List Value):aA:=Ex fun E:Nat=>Cs b E l
def Sl (_E sz:Nat) (v:Value) (n:Nat) (vs:List Value):aA:=
 Ex fun x:Option (Nat×Nat×Nat)×List Value×List Value=>match x.1 with
  |none=>Pu (v= .slice none 0 0/\n=0/\vs=[])
  |some (b,off,cap)=>St [Pu (v= .slice (some ⟨b,off,none⟩) n cap/\n<=cap/\cap<=9223372036854775807/\vs.length=n*sz/\x.2.1.length=off/\cap*sz<=vs.length+x.2.2.length),U1 b (x.2.1++vs++x.2.2)]
def Rd (w:World) (v:Value) (n sz:Nat) (vs:List Value):Prop:=
 ∃ao c,v= .slice ao n c/\n<=c/\c<=9223372036854775807/\vs.length=n*sz/\(0<n->∃b off,ao=some ⟨b,off,none⟩/\∀j u,vs[j]? =some u->w.cell? ⟨b,off+j,none⟩=some u)
def u8 (b:UInt8):Value:= .int .u8 (b.toNat:Int)
def bv (l:List UInt8):List Value:=l.map u8
theorem jR (l:List UInt8):(bv l).length=l.length:=by simp[bv]
theorem agq (l m:List UInt8):bv (l++m)=bv l++bv m:=by simp[bv]
theorem uk (l:List UInt8):∀u∈bv l,u.oneCell'=true:=by
 intro u hu;obtain⟨_,_,rfl⟩:=List.mem_map.1 hu;rfl

section
variable {P:Program} {W w:World} {L:List aA} {k b off E sz n m:Nat} {T:TypeId} {v xv:Value} {vs l pre rest:List Value}

theorem Sat.kJ (h:Sat W w L):Sat W w (Sl E sz (.slice none 0 0) 0 []::L):=Sat.yH (none,[],[]) (Sat.E9 ⟨rfl,rfl,rfl⟩ h)
theorem Sat.pW {cap E':Nat} (h:Sat W w (Cs b E' (pre++vs++rest)::L)) (I:n<=cap) (H:cap<=9223372036854775807) (h3:vs.length=n*sz) (h4:pre.length=off) (h5:cap*sz<=vs.length+rest.length):
  Sat W w (Sl E sz (.slice (some ⟨b,off,none⟩) n cap) n vs::L):=
 Sat.yH (some (b,off,cap),pre,rest) (Sat.sH (Sat.E9 ⟨rfl,I,H,h3,h4,h5⟩ (Sat.yH E' h)))
theorem Sat.wJ (h:Sat W w (Sl E sz v n vs::L)):(v= .slice none 0 0/\n=0/\vs=[]/\Sat W w L)∨
  ∃E' b off cap pre rest,v= .slice (some ⟨b,off,none⟩) n cap/\n<=cap/\cap<=9223372036854775807/\vs.length=n*sz/\pre.length=off/\cap*sz<=vs.length+rest.length/\Sat W w (Cs b E' (pre++vs++rest)::L):=by
 obtain⟨⟨x,pre,rest⟩,h⟩:=h.ex
 cases x with
 |none=>
  obtain⟨⟨I,H,h3⟩,h⟩:=h.pu;exact .inl ⟨I,H,h3,h⟩
 |some x=>
  obtain⟨b,off,cap⟩:=x;have H:Sat W w (Pu _::U1 b (pre++vs++rest)::L):=h.open
  obtain⟨⟨I,h3,h4,h5,h6,h7⟩,h⟩:=H.pu;obtain⟨E',h⟩:=h.ex;exact .inr ⟨E',b,off,cap,pre,rest,I,h3,h4,h5,h6,h7,h⟩
theorem Sat.tK (h:Sat W w L) (hk:Has L k (Sl E sz v n vs)):∃ao c,v= .slice ao n c/\n<=c/\vs.length=n*sz:=by
 rcases(h.front k hk).wJ with⟨rfl,rfl,rfl,_⟩|⟨E',b,off,cap,pre,rest,rfl,I,_,h3,_⟩
 ·exact⟨none,0,rfl,Nat.le_refl _,by simp⟩
 ·exact⟨_,_,rfl,I,h3⟩
theorem Sat.Xt {cap:Nat} (h:Sat W w L) (hk:Has L k (Cs b E (pre++vs++rest))) (I:n<=cap) (H:cap<=9223372036854775807) (h3:vs.length=n*sz) (h4:pre.length=off):Rd w (.slice (some ⟨b,off,none⟩) n cap) n sz vs:=
 ⟨_,_,rfl,I,H,h3,fun _=>⟨b,off,rfl,fun j u hu=>h.cell hk (by
  have hj:=(List.getElem?_eq_some_iff.1 hu).1;rw[List.append_assoc,List.getElem?_append_right (by omega),List.getElem?_append_left (by omega),<-h4]
  simpa using hu)⟩⟩
theorem Sat.dY (h:Sat W w L) (hk:Has L k (Sl E sz v n vs)):Rd w v n sz vs:=by
 have h:=h.front k hk
 rcases h.wJ with⟨rfl,rfl,rfl,_⟩|⟨E',b,off,cap,pre,rest,rfl,I,H,h3,h4,_,h⟩
 ·exact⟨_,_,rfl,Nat.le_refl _,by omega,by simp,fun h=>by omega⟩
 ·exact h.Xt (k:=0) rfl I H h3 h4
theorem Sat.jc (h:Sat W w L) (hk:Has L k (Cs b E vs)) (H:n<=9223372036854775807) (h3:vs.length=n*sz):Rd w (.slice (some ⟨b,0,none⟩) n n) n sz vs:=
 h.Xt (pre:=[]) (rest:=[]) (by simpa using hk) (Nat.le_refl _) H h3 rfl
theorem Rd.old (h:Rd W v n sz vs) (O:Sat W w L):Rd w v n sz vs:=by
 obtain⟨ao,c,I,H,h3,h4,h5⟩:=h
 exact⟨ao,c,I,H,h3,h4,fun hn=>by
  obtain⟨b,off,hb,hc⟩:=h5 hn
  exact⟨b,off,hb,fun j u hu=>by rw[World.cell?_of_block (O.old (World.block_lt_of_cell? W _ (hc j u hu)))];exact hc j u hu⟩⟩
theorem Rd.drew (h:Rd w v n sz vs):Rd w.drew v n sz vs:=h
theorem Rd.firstCells (h:Rd w v n sz vs) (m:Nat) (hm:m<=n):(Builtin.firstCells sz m v).run P w= .ok (vs.take (m*sz)).toArray w:=by
 obtain⟨ao,c,rfl,_,_,h4,h5⟩:=h
 have hl:(vs.take (m*sz)).length=m*sz:=by
  have:=Nat.mul_le_mul_right sz hm;simp;omega
 rcases Nat.eq_zero_or_pos m with h0|h0
 ·subst h0
  cases ao with
  |none=>simp[Builtin.firstCells]
  |some ad=>exact run_firstCells_some w sz 0 ad n c _ hl (by simp)
 ·obtain⟨b,off,rfl,hc⟩:=h5 (by omega);refine run_firstCells_some w sz m _ n c _ hl (fun j u hu=>?_);rw[Addr.add_lit];rw[List.getElem?_take] at hu
  split at hu
  ·exact hc j u hu
  ·cases hu

def Src (w:World) (x:Value) (m sz:Nat) (news:List Value):Prop:=
 Rd w x m sz news∨ ∃s:ByteArray,x= .string s/\m=s.size/\sz=1/\news=bv s.data.toList
theorem Src.length {x:Value} {news:List Value} (h:Src w x m sz news):news.length=m*sz:=by
 rcases h with⟨_,_,_,_,_,h,_⟩|⟨s,_,rfl,rfl,rfl⟩
 ·exact h
 ·simp[bv]
theorem Src.lenOf {x:Value} {news:List Value} (h:Src w x m sz news) (w':World):(Builtin.lenOf x).run P w'= .ok m w':=by
 rcases h with⟨_,_,rfl,_⟩|⟨s,rfl,rfl,_⟩<;>simp[Builtin.lenOf]
theorem Src.cells {x:Value} {news:List Value} (h:Src w x m sz news):(Builtin.firstCells sz m x).run P w= .ok news.toArray w:=by
 rcases h with h|⟨s,rfl,rfl,rfl,rfl⟩
 ·have hl:news.length=m*sz:=Src.length (.inl h);have:=h.firstCells (P:=P) m (Nat.le_refl _)
  rwa [<-hl,List.take_length] at this
 ·simp[Builtin.firstCells,bv];apply Array.ext';simp[u8]

def Ht:TypeDesc->Bool
 | .int _=>true
 |_=>false
def rD (P:Program) (T:TypeId):Option Bool:=(P.underlying T).map Ht
theorem Ni {need old bytes:Nat} (h:old<need) (hb:need*bytes<=140737488355328):Builtin.nextslicecap need old*bytes<=281474976710656:=growslice_fits h hb

theorem acL (z:Array Value) (j:Nat):(Builtin.zeroCells z j).size=j*z.size:=by simp[Builtin.zeroCells]

theorem amK (T T2 ty:TypeId) {e:TypeId} {d2:TypeDesc} (hu:P.underlying T=some (.slice e)) (hu2:P.underlying T2=some d2) (hd2:Ht d2=false) {i:TypeInfo} (hi:P.info? e=some i) (ao:Option Addr) (n c:Nat) (x:Value) (w:World):
  (Builtin.append_ #[T,T2] ty #[.slice ao n c,x]).run P w=(Builtin.append_ #[T,T] ty #[.slice ao n c,x]).run P w:=by
 have hsz:∀w,(sizeOf e).run P w= .ok i.size w:=fun w=>by simp[sizeOf,typeInfo,hi]
 cases d2<;>first
  |(simp[Ht] at hd2;done)
  |(simp only[Builtin.append_,List.getElem?_toArray,List.getElem?_cons_zero,List.getElem?_cons_succ,Sem.run_bind,run_underlying hu,run_underlying hu2,Result.andThen_ok,Sem.run_pure,hsz];done)
  |(simp only[Builtin.append_,List.getElem?_toArray,List.getElem?_cons_zero,List.getElem?_cons_succ,Sem.run_bind,run_underlying hu,run_underlying hu2,Result.andThen_ok,Sem.run_pure,hsz];rfl)

theorem Sat.abY (O:Sat W w L) (T T2 ty:TypeId) {e size bytes:Nat} {z:Value} (hT:lV P T=some (e,size,bytes,some z)) (hz:z.cells.size=size) (hpos:0<size) (kR:rD P T2=some false)
  (hk:Has L k (Sl e size v n vs)) {news:List Value} (hsrc:Src w xv m size news) (I:∀u∈news,u.oneCell'=true) (hb:(n+m)*bytes<=140737488355328) (hm:n+m<=9223372036854775807):
  ∃v' w',(Builtin.append_ #[T,T2] ty #[v,xv]).run P w= .ok v' w'/\Sat W w' (L.set k (Sl e size v' (n+m) (vs++news))):=by
 obtain⟨hu,i,hi,rfl,rfl,hiz⟩:=zm hT
 have hu2:∃d,P.underlying T2=some d/\Ht d=false:=by
  unfold rD at kR
  cases h:P.underlying T2 with
  |none=>simp[h] at kR
  |some d=>simp only[h,Option.map_some,Option.some.injEq] at kR;exact⟨d,rfl,kR⟩
 obtain⟨d2,hu2,hd2⟩:=hu2
 rw[show(∃v' w',(Builtin.append_ #[T,T2] ty #[v,xv]).run P w= .ok v' w'/\Sat W w' (L.set k (Sl e i.size v' (n+m) (vs++news))))=(∃v' w',(Builtin.append_ #[T,T] ty #[v,xv]).run P w= .ok v' w'/\Sat W w' (L.set k (Sl e i.size v' (n+m) (vs++news)))) from by
  obtain⟨ao,c,rfl,_⟩:=O.tK hk
  rw[amK T T2 ty hu hu2 hd2 hi]]
 clear hu2 hd2;have hnl:=hsrc.length;have hrd:=O.dY hk;have h63':¬(9223372036854775807< ((n:Int)+(m:Int))):=by omega
 rcases(O.front k hk).wJ with⟨rfl,rfl,rfl,h⟩|⟨E',b,off,cap,pre,rest,rfl,g1,g2,g3,g4,g5,h⟩
 ·rcases Nat.eq_zero_or_pos m with hm0|hm0
  ·subst hm0;have hnews:news=[]:=List.eq_nil_of_length_eq_zero (by simpa using hnl);subst hnews;refine⟨.slice none 0 0,w,?_,?_⟩
   ·have hl:=hsrc.lenOf (P:=P) w;have hc:=hsrc.cells (P:=P);simp[Builtin.append_,run_underlying hu,sizeOf,typeInfo,hi,hl,hc]
   ·exact(Sat.kJ h).back hk
  ·have hl:=hsrc.lenOf (P:=P) w
   have hc:(Builtin.firstCells i.size m xv).run P w.drew= .ok news.toArray w.drew:=by
    rcases hsrc with hr|hr
    ·exact Src.cells (.inl hr.drew)
    ·exact Src.cells (.inr hr)
   have aiQ:¬m=0:=by omega
   have h48:¬(281474976710656<Builtin.nextslicecap m 0*i.bytes):=by
    have:=Ni (old:=0) (bytes:=i.bytes) hm0 (by simpa using hb);omega
   have h63:¬(9223372036854775807< (m:Int)):=by omega
   refine⟨.slice (some ⟨w.heap.size,0,none⟩) m (grownCap w m 0 e),w.drew.alloc (.cells (news.toArray++Builtin.zeroCells z.cells (grownCap w m 0 e-m)) e),?_,?_⟩
   ·simp[Builtin.append_,run_underlying hu,sizeOf,typeInfo,zeroValue,hi,hiz,hl,hc,aiQ,h63,h48,Question.forced,run_firstCells_none,newRow,grownCap]
   ·have hge:=grownCap_ge w m 0 e;have hle:=grownCap_le_maxLen w m 0 e (by unfold maxLen;omega);unfold maxLen at hle;have hn:=h.drew.Dl (news++(Builtin.zeroCells z.cells (grownCap w m 0 e-m)).toList) e;rw[show(news++(Builtin.zeroCells z.cells (grownCap w m 0 e-m)).toList).toArray=news.toArray++Builtin.zeroCells z.cells (grownCap w m 0 e-m) from by simp] at hn;simp only[Nat.zero_add,List.nil_append];have hzl:(Builtin.zeroCells z.cells (grownCap w m 0 e-m)).toList.length=(grownCap w m 0 e-m)*i.size:=by rw[Array.length_toList,acL,hz]
    refine Sat.back (Sat.pW (n:=m) (sz:=i.size) (cap:=grownCap w m 0 e) (pre:=[]) (rest:=(Builtin.zeroCells z.cells (grownCap w m 0 e-m)).toList) (by simpa using hn) (by omega) (by omega) hnl rfl ?_) hk;rw[hzl,hnl,<-Nat.add_mul];exact Nat.mul_le_mul_right _ (by omega)
 ·have hl:=hsrc.lenOf (P:=P) w
  rcases Nat.lt_or_ge cap (n+m) with hgr|hroom
  ·have hc:(Builtin.firstCells i.size m xv).run P w.drew= .ok news.toArray w.drew:=by
    rcases hsrc with hr|hr
    ·exact Src.cells (.inl hr.drew)
    ·exact Src.cells (.inr hr)
   have hco:(Builtin.firstCells i.size n (.slice (some ⟨b,off,none⟩) n cap)).run P w.drew= .ok vs.toArray w.drew:=by
    have:=hrd.drew.firstCells (P:=P) n (Nat.le_refl _)
    rwa [<-g3,List.take_length] at this
   have hn:¬(n+m<=cap):=by omega
   have h48:¬(281474976710656<Builtin.nextslicecap (n+m) cap*i.bytes):=by
    have:=Ni (bytes:=i.bytes) hgr hb;omega
   refine⟨.slice (some ⟨w.heap.size,0,none⟩) (n+m) (grownCap w (n+m) cap e),w.drew.alloc (.cells (vs.toArray++news.toArray++Builtin.zeroCells z.cells (grownCap w (n+m) cap e-(n+m))) e),?_,?_⟩
   ·simp[Builtin.append_,run_underlying hu,sizeOf,typeInfo,zeroValue,hi,hiz,hl,hc,hco,hn,h63',h48,Question.forced,newRow,grownCap];congr 2;apply Array.ext';simp[List.append_assoc]
   ·have hge:=grownCap_ge w (n+m) cap e;have hle:=grownCap_le_maxLen w (n+m) cap e (by unfold maxLen;omega);unfold maxLen at hle;have hn:=h.drop.drew.Dl (vs++news++(Builtin.zeroCells z.cells (grownCap w (n+m) cap e-(n+m))).toList) e;rw[show(vs++news++(Builtin.zeroCells z.cells (grownCap w (n+m) cap e-(n+m))).toList).toArray=vs.toArray++news.toArray++Builtin.zeroCells z.cells (grownCap w (n+m) cap e-(n+m)) from by simp] at hn;have hzl:(Builtin.zeroCells z.cells (grownCap w (n+m) cap e-(n+m))).toList.length=(grownCap w (n+m) cap e-(n+m))*i.size:=by rw[Array.length_toList,acL,hz]
    refine Sat.back (Sat.pW (n:=n+m) (sz:=i.size) (cap:=grownCap w (n+m) cap e) (pre:=[]) (rest:=(Builtin.zeroCells z.cells (grownCap w (n+m) cap e-(n+m))).toList) (by simpa using hn) (by omega) (by omega) (by simp[g3,hnl,Nat.add_mul]) rfl ?_) hk;rw[hzl,List.length_append,g3,hnl,<-Nat.add_mul,<-Nat.add_mul];exact Nat.mul_le_mul_right _ (by omega)
  ·have hc:=hsrc.cells (P:=P);have hmul:(n+m)*i.size<=cap*i.size:=Nat.mul_le_mul_right _ hroom;rw[Nat.add_mul] at hmul;obtain⟨w',hr,hS'⟩:=h.storeCells (P:=P) (k:=0) (off:=off+n*i.size) rfl news (by simp;omega) I;refine⟨.slice (some ⟨b,off,none⟩) (n+m) cap,w',?_,?_⟩
   ·simp[Builtin.append_,run_underlying hu,sizeOf,typeInfo,hi,hl,hc,hroom,Addr.add_lit,hr]
   ·have e1:(pre++vs++rest).take (off+n*i.size)=pre++vs:=by
     rw[<-g4,<-g3,<-List.length_append,List.take_left'];rfl
    have e2:(pre++vs++rest).drop (off+n*i.size+news.length)=rest.drop news.length:=by
     rw[<-g4,<-g3,<-List.length_append,<-List.drop_drop,List.drop_left'];rfl
    simp only[List.set_cons_zero] at hS';rw[e1,e2] at hS';refine Sat.back (Sat.pW (pre:=pre) (vs:=vs++news) (rest:=rest.drop news.length) (by simpa [List.append_assoc] using hS') hroom g2 (by simp[g3,hnl,Nat.add_mul]) g4 ?_) hk;simp;omega

variable {o:Oper} {a:Act} {K:Act->World->Prop} {Q:Exit->Act->World->Prop}
theorem ap (O:Sat W w L) (T T2:TypeId) (x y:Operand) (ho:o.op= .call {callee:= .builtin .append,args:= #[x,y],argTypes:= #[T,T2]}) (v xv:Value) (V:a.eval x=v) (hy:a.eval y=xv)
  {e size bytes:Nat} {z:Value} (hT:lV P T=some (e,size,bytes,some z)) (hz:z.cells.size=size) (hpos:0<size) (kR:rD P T2=some false)
  {n m vs news} (hk:Has L k (Sl e size v n vs)) (hsrc:Src w xv m size news) (I:∀u∈news,u.oneCell'=true) (hb:(n+m)*bytes<=140737488355328) (hm:n+m<=9223372036854775807)
  (h:∀v' w',Sat W w' (L.set k (Sl e size v' (n+m) (vs++news)))->K (a.put o.dst v') w'):o.wp P a w K Q:=by
 obtain⟨v',w',hr,hS'⟩:=O.abY (P:=P) T T2 o.type hT hz hpos kR hk hsrc I hb hm;have h3:=h v' w' hS';unfold Oper.wp;simp[execOp,ho,resolve,invoke,builtin,V,hy,hr,Oper.upon,h3]

theorem cp (O:Sat W w L) (T T2:TypeId) (x y:Operand) (ho:o.op= .call {callee:= .builtin .copy,args:= #[x,y],argTypes:= #[T,T2]}) (b off dn dc:Nat) (xv:Value) (V:a.eval x= .slice (some ⟨b,off,none⟩) dn dc) (hy:a.eval y=xv)
  {e size bytes:Nat} {z:Option Value} (hT:lV P T=some (e,size,bytes,z)) (hpos:0<size)
  {E l m vs} (hk:Has L k (Cs b E l)) (hsrc:Rd w xv m size vs) (I:∀u∈vs,u.oneCell'=true) (hb:off+dn*size<=l.length)
  (h:∀w',Sat W w' (L.set k (Cs b E (l.take off++vs.take (min m dn*size)++l.drop (off+min m dn*size))))->K (a.put o.dst (.int .i64 (min m dn:Nat))) w'):o.wp P a w K Q:=by
 obtain⟨hu,i,hi,rfl,rfl,hiz⟩:=zm hT;have hl:=Src.lenOf (P:=P) (.inl hsrc) w;have hc:=hsrc.firstCells (P:=P) (min m dn) (Nat.min_le_left _ _)
 have hlen:(vs.take (min m dn*i.size)).length=min m dn*i.size:=by
  have I:vs.length=m*i.size:=Src.length (.inl hsrc);have H:=Nat.mul_le_mul_right i.size (Nat.min_le_left m dn);simp;omega
 have hle:=Nat.mul_le_mul_right i.size (Nat.min_le_right m dn);obtain⟨w',hr,hS'⟩:=O.storeCells (P:=P) (off:=off) hk (vs.take (min m dn*i.size)) (by omega) (fun u hu=>I u (List.mem_of_mem_take hu));rw[hlen] at hS';have h3:=h w' hS';have hmin:Nat.min m dn=min m dn:=rfl;unfold Oper.wp;simp[execOp,ho,resolve,invoke,builtin,V,hy,Builtin.copy_,run_underlying hu,sizeOf,typeInfo,hi,hl,hmin,hc,hr,Oper.upon,goInt,h3]

/-! ### strings and bytes -/
def IB (P:Program) (S T:TypeId):Option TypeId:=
 match P.underlying S,P.underlying T with
 |some (.slice e),some .string=>(match P.underlying e with|some (.int .u8)=>some e|_=>none)
 |_,_=>none
theorem Rd.bytes {x:Value} {l:List UInt8} (h:Rd w x n 1 (bv l)):(Conv.bytesToString x).run P w= .ok (.string ⟨l.toArray⟩) w:=by
 obtain⟨ao,c,rfl,_,_,h4,h5⟩:=h;have hl:l.length=n:=by simpa [bv] using h4
 subst hl
 have hs:∀s:List Int,(s.foldl (fun r n=>r.push (UInt8.ofNat n.toNat)) ByteArray.empty)=⟨(s.map fun n=>UInt8.ofNat n.toNat).toArray⟩:=fun s=>by
  rw[foldl_push_bytes];simp[ByteArray.empty,ByteArray.emptyWithCapacity];rfl
 have hm:(l.map fun b:UInt8=>(b.toNat:Int)).map (fun n=>UInt8.ofNat n.toNat)=l:=by
  rw[List.map_map];conv=>rhs;rw[<-List.map_id l]
  apply List.map_congr_left;intro b _;simp
 cases l with
 |nil=>
  cases ao with
  |none=>simp[Conv.bytesToString];rfl
  |some ad=>simp[Conv.bytesToString,loadCells,loadCellsFrom];rfl
 |cons x r=>
  obtain⟨b,off,rfl,hc⟩:=h5 (by simp);have hl:=run_loadCells_list (P:=P) w ⟨b,off,none⟩ (bv (x::r)) (fun j v hv=>by rw[Addr.add_lit];exact hc j v hv);rw[jR] at hl;have e:bv (x::r)=((x::r).map fun b:UInt8=>(b.toNat:Int)).map (Value.int .u8):=by rw[List.map_map];rfl
  rw[e] at hl;have:=run_bytesToString (P:=P) w ⟨b,off,none⟩ (x::r).length c _ hl;rw[this,hs,hm]
theorem ou (S T:TypeId) (x:Operand) (ho:o.op= .convert S T x) (xv:Value) (V:a.eval x=xv) {e:TypeId} (hST:IB P S T=some e)
  {n:Nat} {l:List UInt8} (hr:Rd w xv n 1 (bv l)) (h:K (a.put o.dst (.string ⟨l.toArray⟩)) w):o.wp P a w K Q:=by
 unfold IB at hST
 split at hST
 ·rename_i e' O hT
  split at hST
  ·rename_i he
   have hrun:=hr.bytes (P:=P);obtain⟨ao,c,rfl,_⟩:=hr;refine vG (s:=convert S T (.slice ao n c)) (by simp[execOp,ho,V]) (v:= .string ⟨l.toArray⟩) (w':=w) ?_ h
   cases ao<;>simp[convert,run_underlying O,run_underlying hT,run_underlying he,hrun]
  ·cases hST
 ·cases hST
/-! ### elements of a slice that owns its row -/
theorem Sat.kV (O:Sat W w L) {k E sz n v vs} (hk:Has L k (Sl E sz v n vs)) (hn:0<n):∃b off c,v= .slice (some ⟨b,off,none⟩) n c/\n<=c:=by
 rcases(O.front k hk).wJ with⟨_,rfl,_⟩|⟨E',b,off,cap,pre,rest,rfl,I,_⟩
 ·omega
 ·exact⟨b,off,cap,rfl,I⟩
theorem aam {pre vs rest:List Value} {j:Nat} {v:Value} (hv:vs[j]? =some v):(pre++vs++rest)[pre.length+j]? =some v:=by
 have hj:=(List.getElem?_eq_some_iff.1 hv).1;rw[List.append_assoc,List.getElem?_append_right (by omega),List.getElem?_append_left (by omega),Nat.add_sub_cancel_left,hv]
theorem aao {pre vs rest:List Value} {j:Nat} (v:Value) (hj:j<vs.length):(pre++vs++rest).set (pre.length+j) v=pre++vs.set j v++rest:=by
 rw[List.append_assoc,List.set_append_right _ _ (by omega),List.set_append_left _ _ (by omega),Nat.add_sub_cancel_left,List.append_assoc]
theorem SL (O:Sat W w L) (T:TypeId) (x:Operand) (ho:o.op= .load T x) (b ad:Nat) (V:a.eval x= .pointer (some ⟨b,ad,none⟩)) (hT:jk P T=some false)
  {k E sz off c n vs} (hk:Has L k (Sl E sz (.slice (some ⟨b,off,none⟩) n c) n vs)) (j:Nat) (hj:ad=off+j) {v:Value} (hv:vs[j]? =some v) (h:K (a.put o.dst v) w):o.wp P a w K Q:=by
 subst hj;refine vG (s:=loadVar T ⟨b,off+j,none⟩) (by simp[execOp,ho,V,Instr.loadAt,Instr.sureAddr]) (Ce hT ?_) h
 rcases(O.front k hk).wJ with⟨I,_⟩|⟨E',b',off',cap,pre,rest,I,_,_,_,h4,_,h5⟩
 ·cases I
 ·simp only[Value.slice.injEq,Option.some.injEq,Addr.mk.injEq,true_and,and_true] at I;obtain⟨⟨rfl,rfl⟩,rfl⟩:=I;exact h5.cell (k:=0) rfl (by rw[<-h4];exact aam hv)
theorem Cf (O:Sat W w L) (T:TypeId) (x y:Operand) (ho:o.op= .store T x y) (b ad:Nat) (V:a.eval x= .pointer (some ⟨b,ad,none⟩)) (v:Value) (hy:a.eval y=v) (hv:v.oneCell'=true) (hn:kr P T=some 1)
  {k E sz off c n vs} (hk:Has L k (Sl E sz (.slice (some ⟨b,off,none⟩) n c) n vs)) (j:Nat) (hj:ad=off+j) (hlt:j<vs.length)
  (h:∀w',Sat W w' (L.set k (Sl E sz (.slice (some ⟨b,off,none⟩) n c) n (vs.set j v)))->K (a.put o.dst undef) w'):o.wp P a w K Q:=by
 subst hj
 rcases(O.front k hk).wJ with⟨I,_⟩|⟨E',b',off',cap,pre,rest,I,g1,g2,g3,h4,g5,h5⟩
 ·cases I
 ·simp only[Value.slice.injEq,Option.some.injEq,Addr.mk.injEq,true_and,and_true] at I;obtain⟨⟨rfl,rfl⟩,rfl⟩:=I;refine st h5 T x y ho b (off+j) V v hy hv hn (k:=0) rfl (by simp;omega) fun w' hS'=>h w' ?_
  simp only[List.set_cons_zero] at hS';rw[<-h4,aao v hlt] at hS';exact(Sat.pW hS' g1 g2 (by simp[g3]) h4 (by simp;omega)).back hk
theorem Sat.Ub (O:Sat W w L) {k E sz b off c n vs} (hk:Has L k (Sl E sz (.slice (some ⟨b,off,none⟩) n c) n vs)) {j:Nat} {v:Value} (hv:vs[j]? =some v):
  w.cell? ⟨b,off+j,none⟩=some v/\w.frozen? ⟨b,off+j,none⟩=false:=by
 rcases(O.front k hk).wJ with⟨I,_⟩|⟨E',b',off',cap,pre,rest,I,_,_,_,h4,_,h5⟩
 ·cases I
 ·simp only[Value.slice.injEq,Option.some.injEq,Addr.mk.injEq,true_and,and_true] at I;obtain⟨⟨rfl,rfl⟩,rfl⟩:=I;have hc:=h5.cell (k:=0) rfl (show(pre++vs++rest)[off+j]? =some v by rw[<-h4];exact aam hv);refine⟨hc,?_⟩;obtain⟨fz,ht,hh⟩:=h5.cells (k:=0) rfl;have hj:=(List.getElem?_eq_some_iff.1 hv).1;simp only[World.frozen?,hh]
  rcases ht with H|H
  ·simp;omega
  ·simp at H ⊢;omega
theorem Sat.slE {E':Nat} (h:Sat W w (Sl E sz v n vs::L)):Sat W w (Sl E' sz v n vs::L):=h
end
attribute [irreducible] Sl
end Go.Sep
namespace Go.Sep
open Go Go.ChangeShapes Go.WideShapes Go.ChangeAt Go.RowKit

section
variable {fP:Type} {enc:TypeId×Value->fP} {P:Program} {W w:World} {L:List aA}

theorem Sat.sameAt (h:Sat W w L) {p:MemPlace} (hp:p.block<W.heap.size):W.sameAt w p:=by
 cases p with
 |cell b off=>exact World.cell?_of_block (a:=⟨b,off,none⟩) (h.old hp)
 |map b=>exact h.old hp

theorem acW (hl:laidOutB P=true) {W':World} {sp':Nat->Bool} :∀ {ts:List TypeId} {vs:List Value} {ds:List (DataW fP)} {ps:List MemPlace},
  (ts.all fun t=>P.readableRec t&&decide (t<P.types.size))=true->
  DataW.TrodAll enc P W 0 (fun _=>true) true ts vs ds ps->(∀p∈ps,W.sameAt W' p)->(∀p∈ps,sp' p.block=true)->DataW.TrodAll enc P W' 0 sp' true ts vs ds ps
 |[],vs,ds,ps,_,h,_,_=>by
  obtain⟨rfl,rfl,rfl⟩:=trodAll_nil h;exact h
 |t::ts,vs,ds,ps,hr,h,hs,hsp=>by
  simp only[List.all_cons,Bool.and_eq_true,decide_eq_true_eq] at hr;obtain⟨v,vs1,d,ds1,a,b,rfl,rfl,rfl,I,H⟩:=trodAll_cons h;refine trodAll_cons_mk (WideElems.Trod_stays hl hr.1.1 hr.1.2 I (fun p hp=>hs p (List.mem_append_left _ hp)) (fun p hp=>hsp p (List.mem_append_left _ hp))) ?_;exact acW hl (by simpa using hr.2) H (fun p hp=>hs p (List.mem_append_right _ hp)) (fun p hp=>hsp p (List.mem_append_right _ hp))

theorem ajA (hl:laidOutB P=true) {f:Func} {s:ChangeSpec} {tb:TypeId} (hro:(f.params.toList.all fun t=>P.readableRec t&&decide (t<P.types.size))=true)
  (hret:f.resultTypes= #[tb]) (htb:P.underlying tb=some .bool) (hvars:s.vars=[]) {args:Array Value} {ds gs:List (DataW fP)} {before:List MemPlace}
  (hW:DataW.Whole enc P f.params.toList s.vars false W args.toList ds gs before) (hfn:s.fn fP (ds++gs)= {results:=[.lit (.bool true)],args:=ds}) (h:Sat W w L):
  s.post enc P f false true false false W args (.bool true) w:=by
 have hW':=hW;obtain⟨p,q,hA,hV,rfl,_,_⟩:=hW;rw[hvars] at hV;obtain⟨rfl,rfl⟩:=trodVars_none hV;have hlt:∀x∈p++[],x.block<W.heap.size:=hW'.lt;refine⟨ds,[],p++[],[],p,[],hW',?_,?_,?_,World.keptBut_mono (fun _ h=>h.elim) h.kept,fun h=>by cases h⟩
 ·rw[hfn,hret];exact trodAll_cons_mk (shut_bool htb _) trodAll_mk0
 ·rw[hfn];exact acW hl hro hA (fun x V=>h.sameAt (hlt x (by simpa using V))) (fun x V=>by simpa using hlt x (by simpa using V))
 ·rw[hvars,hfn];exact rfl

/-! ### the arguments -/
theorem mapM_at {α β:Type} {f:α->Option β} :∀ {l:List α} {r:List β},l.mapM f=some r->∀(i:Nat) (x:α),l[i]? =some x->∃y,f x=some y/\r[i]? =some y:=by
 intro l
 induction l with
 |nil=>intro r _ i x h;simp at h
 |cons a l ih=>
  intro r h i x V;rw[List.mapM_cons] at h
  cases ha:f a with
  |none=>simp[ha] at h
  |some b=>
   cases hl:l.mapM f with
   |none=>simp[ha,hl] at h
   |some bs=>
    simp[ha,hl] at h;subst h
    cases i with
    |zero=>simp at V;subst V;exact⟨b,ha,rfl⟩
    |succ i=>simp at V;simpa using ih hl i x V
theorem MK {a:Addr} {n:Nat} {r:List Value} (h:W.cells? 0 a n=some r):r.length=n/\∀j u,r[j]? =some u->W.cell? (a.add j)=some u:=by
 unfold World.cells? at h;simp only[Nat.zero_le,↓reduceIte] at h;have hl:=mapM_some_length h;simp at hl;refine⟨hl,fun j u hu=>?_⟩;have hj:j<n:=by have:=(List.getElem?_eq_some_iff.1 hu).1;omega
 obtain⟨y,hy,hy2⟩:=mapM_at h j j (by simp[hj]);rw[hy2] at hu;rw[hy];exact hu
theorem Ye {α:Type} {sz:Nat} (hs:0<sz):∀ {rows:List (List α)},(∀r∈rows,r.length=sz)->∀j,rows.flatten[j]? =(rows[j / sz]?).bind fun r=>r[j % sz]?
 |[],_,j=>by simp
 |r::rows,h,j=>by
  have hr:=h r (by simp);rw[List.flatten_cons]
  rcases Nat.lt_or_ge j sz with hj|hj
  ·rw[List.getElem?_append_left (by omega),Nat.div_eq_of_lt hj,Nat.mod_eq_of_lt hj];simp
  ·rw[List.getElem?_append_right (by omega),hr,Ye hs (fun x V=>h x (by simp[V]))];have e1:j / sz=(j-sz) / sz+1:=by rw[Nat.div_eq_sub_div hs hj]
   have e2:j % sz=(j-sz) % sz:=by rw[Nat.mod_eq_sub_mod hj]
   rw[e1,e2];simp
theorem Yf {α:Type} {sz:Nat} :∀ {rows:List (List α)},(∀r∈rows,r.length=sz)->rows.flatten.length=rows.length*sz
 |[],_=>by simp
 |r::rows,h=>by
  rw[List.flatten_cons,List.length_append,h r (by simp),Yf (fun x V=>h x (by simp[V])),List.length_cons,Nat.add_mul];omega

theorem akI {t e sz:Nat} (ht:P.underlying t=some (.slice e)) (hc:P.cellsOf e=sz) (hs:0<sz) {ao:Option Addr} {len cap:Nat} {d:DataW fP} {ps:List MemPlace}
  (h:DataW.Trod enc P W 0 (fun _=>true) true t (.slice ao len cap) d ps):
  ∃rows:List (List Value),rows.length=len/\Rd W (.slice ao len cap) len sz rows.flatten/\(d= .nil/\rows=[]∨ ∃es sp,d= .slice es sp/\es.length=len)/\
   ∀(i:Nat) (r:List Value),rows[i]? =some r->r.length=sz/\∃(n:Nat) (x:DataW fP×List MemPlace),DataW.trod enc P W 0 (fun _=>true) true n e r=some x/\∀(es sp:List (DataW fP)),d= .slice es sp->es[i]? =some x.1:=by
 subst hc;obtain⟨fuel,h⟩:=h
 rcases DataW.trod_slice ht h with⟨I,H⟩|⟨a,len',cap',elems,rest,n,_,I,H,_,hl,hm,hlen,hel,_,_⟩
 ·simp[Value.cells] at I;obtain⟨rfl,rfl,rfl⟩:=I;simp only[Prod.mk.injEq] at H;exact⟨[],rfl,⟨none,0,rfl,Nat.le_refl _,by omega,by simp,fun h=>by omega⟩, .inl ⟨H.1,rfl⟩,fun i r hr=>by simp at hr⟩
 ·simp[Value.cells] at I;obtain⟨rfl,rfl,rfl⟩:=I;simp only[Prod.mk.injEq] at H
  have hex:∀i,i<len->∃r x,W.cells? 0 (a.add (i*P.cellsOf e)) (P.cellsOf e)=some r/\DataW.trod enc P W 0 (fun _=>true) true n e r=some x/\elems[i]? =some x:=fun i hi=>by
   have h3:=hel i hi;rw[List.getElem?_eq_getElem (by omega)] at h3;obtain⟨r,hr,V⟩:=Option.bind_eq_some_iff.1 h3;exact⟨r,_,hr,V,by rw[List.getElem?_eq_getElem (by omega)]⟩
  let rows:=(List.range len).map fun i=>(W.cells? 0 (a.add (i*P.cellsOf e)) (P.cellsOf e)).getD []
  have hrow:∀i r,rows[i]? =some r->i<len/\W.cells? 0 (a.add (i*P.cellsOf e)) (P.cellsOf e)=some r:=fun i r hr=>by
   have hi:i<len:=by have:=(List.getElem?_eq_some_iff.1 hr).1;simpa [rows] using this
   refine⟨hi,?_⟩;obtain⟨r',x,I,_⟩:=hex i hi;simp[rows,hi,I] at hr;rw[I,hr]
  have Zb:∀r∈rows,r.length=P.cellsOf e:=fun r hr=>by
   obtain⟨i,hi⟩:=List.getElem?_of_mem hr;exact(MK (hrow i r hi).2).1
  refine⟨rows,by simp[rows],⟨some a,cap,rfl,hl,by unfold maxLen at hm;omega,by rw[Yf Zb];simp[rows],fun hn=>?_⟩, .inr ⟨_,_,H.1,by simpa using hlen⟩,fun i r hr=>?_⟩
  ·obtain⟨r0,x0,h0,_⟩:=hex 0 hn;have hc0:=MK h0
   have hsp:a.spot=none:=by
    have:=hc0.2 0 (r0[0]'(by omega)) (by simp);simp only[Nat.zero_mul] at this;rw[show(a.add 0).add 0=a from by simp[Addr.add]] at this
    cases hsp:a.spot with
    |none=>rfl
    |some y=>
     unfold World.cell? at this
     split at this
     ·simp[hsp] at this
     ·cases this
   obtain⟨b,off,spot⟩:=a;simp at hsp;subst hsp;refine⟨b,off,rfl,fun j u hu=>?_⟩;rw[Ye hs Zb] at hu;obtain⟨r,hr,hu⟩:=Option.bind_eq_some_iff.1 hu;have:=(MK (hrow _ _ hr).2).2 _ _ hu;rw[Addr.add_lit,Addr.add_lit] at this;rw[show off+j=off+j / P.cellsOf e*P.cellsOf e+j % P.cellsOf e from by rw[Nat.add_assoc,Nat.div_add_mod']];exact this
  ·obtain⟨hi,hr2⟩:=hrow i r hr;obtain⟨r',x,h3,h4,h5⟩:=hex i hi;rw[h3] at hr2;cases hr2;refine⟨(MK h3).1,n,x,h4,fun es sp hd=>?_⟩;rw[H.1] at hd;simp only[DataW.slice.injEq] at hd;rw[<-hd.1,List.getElem?_map,h5];rfl

/-! ### the form's own reach -/
theorem SX {ts:List TypeId} {ds:List (DataW fP)} (h:(DataW.weightsEach P ts ds).all (· <=reachBytes)=true) (i:Nat) {t:TypeId} {d:DataW fP} (ht:ts[i]? =some t) (hd:ds[i]? =some d):∀n∈d.weights P t,n<=reachBytes:=by
 induction ts generalizing ds i with
 |nil=>simp at ht
 |cons t0 ts ih=>
  cases ds with
  |nil=>simp at hd
  |cons d0 ds=>
   simp only[DataW.weightsEach,List.all_append,Bool.and_eq_true] at h
   cases i with
   |zero=>
    simp at ht hd;subst ht;subst hd;intro n hn;have:=List.all_eq_true.1 h.1 n hn
    simpa using this
   |succ i=>exact ih h.2 i (by simpa using ht) (by simpa using hd)
end
end Go.Sep
namespace Go.Sep
open Go

section
variable {α:Type} {sz:Nat} {f:α->List Value}
theorem BD {xs:List α} (h:∀x∈xs,(f x).length=sz):(xs.flatMap f).length=xs.length*sz:=by
 induction xs with
 |nil=>simp
 |cons x r ih=>
  rw[List.flatMap_cons,List.length_append,h x (by simp),ih (fun y hy=>h y (by simp[hy])),List.length_cons,Nat.add_mul];omega
theorem zn {xs:List α} {i:Nat} {x:α} (V:xs[i]? =some x):xs.flatMap f=(xs.take i).flatMap f++f x++(xs.drop (i+1)).flatMap f:=by
 have hi:=(List.getElem?_eq_some_iff.1 V).1;have he:xs[i]=x:=(List.getElem?_eq_some_iff.1 V).2
 conv=>lhs;rw[<-List.take_append_drop i xs,List.drop_eq_getElem_cons hi,he]
 rw[List.flatMap_append,List.flatMap_cons,List.append_assoc]
theorem EK {xs:List α} {i:Nat} (h:∀x∈xs,(f x).length=sz) (hi:i<=xs.length):((xs.take i).flatMap f).length=i*sz:=by
 rw[BD (sz:=sz) (fun x V=>h x (List.mem_of_mem_take V))];simp[Nat.min_eq_left hi]
theorem ahK {xs:List α} {i:Nat} {x:α} (h:∀x∈xs,(f x).length=sz) (V:xs[i]? =some x):((xs.flatMap f).drop (i*sz)).take sz=f x:=by
 have hi:=(List.getElem?_eq_some_iff.1 V).1;have hl:=EK h (Nat.le_of_lt hi);have hfx:=h x (List.mem_of_getElem? V);rw[zn V,List.append_assoc,<-hl,List.drop_left',<-hfx,List.take_left']
 ·rfl
 ·rfl
theorem M3 {xs:List α} {i j:Nat} {x:α} {v:Value} (h:∀x∈xs,(f x).length=sz) (V:xs[i]? =some x) (hv:(f x)[j]? =some v):(xs.flatMap f)[i*sz+j]? =some v:=by
 have hj:=(List.getElem?_eq_some_iff.1 hv).1;have hfx:=h x (List.mem_of_getElem? V);rw[<-ahK h V,List.getElem?_take,if_pos (by omega),List.getElem?_drop] at hv;exact hv
theorem Yj {xs:List α} {i:Nat} (y:α) (h:∀x∈xs,(f x).length=sz) (hi:i<xs.length):
  (xs.set i y).flatMap f=(xs.flatMap f).take (i*sz)++f y++(xs.flatMap f).drop (i*sz+sz):=by
 have V:xs[i]? =some xs[i]:=List.getElem?_eq_getElem hi
 have hl:=EK h (Nat.le_of_lt hi);have hfx:=h xs[i] (List.getElem_mem hi);have H:(xs.set i y)[i]? =some y:=by simp[hi]
 rw[zn H,zn V,List.take_set_of_le (Nat.le_refl i),List.drop_set_of_lt (by omega)];rw[<-hl];congr 1
 ·congr 1;rw[List.append_assoc,List.take_left'];rfl
 ·conv=>rhs;rw[<-List.drop_drop,List.append_assoc,List.drop_left' rfl,<-hfx,List.drop_left' rfl]
end

theorem aap {pre m rest:List Value} {t:Nat} (h:t<=m.length):(pre++m++rest).take (pre.length+t)=pre++m.take t:=by
 rw[List.append_assoc,List.take_length_add_append,List.take_append_of_le_length h]
theorem aan {pre m rest:List Value} {t:Nat} (h:t<=m.length):(pre++m++rest).drop (pre.length+t)=m.drop t++rest:=by
 rw[List.append_assoc,List.drop_length_add_append,List.drop_append_of_le_length h]

def Tb {α:Type} (E sz:Nat) (f:α->List Value) (v:Value) (xs:List α):aA:=St [Pu (∀x∈xs,(f x).length=sz),Sl E sz v xs.length (xs.flatMap f)]

section
variable {α:Type} {P:Program} {W w:World} {L:List aA} {k b off E sz c i j:Nat} {f:α->List Value} {v:Value} {xs:List α} {x:α}
theorem Sat.Ci (h:Sat W w (Tb E sz f v xs::L)):(∀x∈xs,(f x).length=sz)/\Sat W w (Sl E sz v xs.length (xs.flatMap f)::L):=by
 have H:Sat W w (Pu (∀x∈xs,(f x).length=sz)::Sl E sz v xs.length (xs.flatMap f)::L):=h.open
 exact H.pu
theorem Sat.K5 (hf:∀x∈xs,(f x).length=sz) (h:Sat W w (Sl E sz v xs.length (xs.flatMap f)::L)):Sat W w (Tb E sz f v xs::L):=Sat.sH (Sat.E9 hf h)
theorem Sat.DI (h:Sat W w L) (hk:Has L k (Tb E sz f v xs)):∀x∈xs,(f x).length=sz:=(h.front k hk).Ci.1
theorem Sat.fA (h:Sat W w L) (hk:Has L k (Tb E sz f v xs)):∃ao c,v= .slice ao xs.length c/\xs.length<=c:=by
 obtain⟨ao,c,I,H,_⟩:=(h.front k hk).Ci.2.tK (k:=0) rfl;exact⟨ao,c,I,H⟩
theorem Sat.pX (h:Sat W w L) (hk:Has L k (Tb E sz f v xs)) (hn:0<xs.length):∃b off c,v= .slice (some ⟨b,off,none⟩) xs.length c/\xs.length<=c:=
 (h.front k hk).Ci.2.kV (k:=0) rfl hn
theorem Sat.jb:Sat W w L->Sat W w (Tb E sz f (.slice none 0 0) []::L):=fun h=>Sat.K5 (by simp) (by simpa using h.kJ)
theorem Sat.Rj {n:Nat} (hf:∀x∈xs,(f x).length=sz) (hn:xs.length=n) (hm:n<=9223372036854775807) (h:Sat W w (Cs b E (xs.flatMap f)::L)):Sat W w (Tb E sz f (.slice (some ⟨b,0,none⟩) n n) xs::L):=by
 subst hn;exact Sat.K5 hf (Sat.pW (pre:=[]) (rest:=[]) (by simpa using h) (Nat.le_refl _) hm (BD hf) rfl (by rw[BD hf];omega))
theorem Sat.kK (h:Sat W w L) (hk:Has L k (Tb E sz f v xs)):Rd w v xs.length sz (xs.flatMap f):=(h.front k hk).Ci.2.dY (k:=0) rfl
theorem Sat.Pk (h:Sat W w L) (hk:Has L k (Tb E sz f (.slice (some ⟨b,off,none⟩) xs.length c) xs)) (V:xs[i]? =some x) {u:Value} (hu:(f x)[j]? =some u):
  w.cell? ⟨b,off+(i*sz+j),none⟩=some u/\w.frozen? ⟨b,off+(i*sz+j),none⟩=false:=by
 obtain⟨hf,H⟩:=(h.front k hk).Ci;exact H.Ub (k:=0) rfl (M3 hf V hu)

variable {o:Oper} {a:Act} {K:Act->World->Prop} {Q:Exit->Act->World->Prop}
theorem mh (O:Sat W w L) (T:TypeId) (y:Operand) (ho:o.op= .load T y) (b ad:Nat) (hy:a.eval y= .pointer (some ⟨b,ad,none⟩)) (hT:jk P T=some false)
  (hk:Has L k (Tb E sz f (.slice (some ⟨b,off,none⟩) xs.length c) xs)) (i j:Nat) (hj:ad=off+(i*sz+j)) (V:xs[i]? =some x) {u:Value} (hu:(f x)[j]? =some u) (h:K (a.put o.dst u) w):o.wp P a w K Q:=by
 subst hj;exact vG (s:=loadVar T ⟨b,off+(i*sz+j),none⟩) (by simp[execOp,ho,hy,Instr.loadAt,Instr.sureAddr]) (Ce hT (O.Pk hk V hu).1) h
theorem ZU (O:Sat W w L) (T:TypeId) (y:Operand) (ho:o.op= .load T y) (b ad:Nat) (hy:a.eval y= .pointer (some ⟨b,ad,none⟩)) (hT:jk P T=some true) (hn:kr P T=some sz)
  (hk:Has L k (Tb E sz f (.slice (some ⟨b,off,none⟩) xs.length c) xs)) (i:Nat) (hj:ad=off+i*sz) (V:xs[i]? =some x) (h:K (a.put o.dst (.agg (f x).toArray)) w):o.wp P a w K Q:=by
 subst hj;have hl:=O.DI hk x (List.mem_of_getElem? V);exact vG (s:=loadVar T ⟨b,off+i*sz,none⟩) (by simp[execOp,ho,hy,Instr.loadAt,Instr.sureAddr])
  (AB hT hn hl fun j u hu=>by rw[Nat.add_assoc];exact(O.Pk hk V hu).1) h
theorem Sat.acP (O:Sat W w L) (hk:Has L k (Tb E sz f (.slice (some ⟨b,off,none⟩) xs.length c) xs)) (y:α) (hi:i<xs.length) (hy:(f y).length=sz) (I:∀u∈f y,u.oneCell'=true):
  ∃w',(Go.storeCells ⟨b,off+i*sz,none⟩ (f y)).run P w= .ok () w'/\Sat W w' (L.set k (Tb E sz f (.slice (some ⟨b,off,none⟩) xs.length c) (xs.set i y))):=by
 obtain⟨hf,H⟩:=(O.front k hk).Ci
 rcases H.wJ with⟨e,_⟩|⟨E',b',off',cap,pre,rest,e,g1,g2,g3,g4,g5,h5⟩
 ·cases e
 ·simp only[Value.slice.injEq,Option.some.injEq,Addr.mk.injEq,true_and,and_true] at e;obtain⟨⟨rfl,rfl⟩,rfl⟩:=e;have hle:(i+1)*sz<=xs.length*sz:=Nat.mul_le_mul_right _ hi;rw[Nat.add_mul,Nat.one_mul] at hle;obtain⟨w',hr,h6⟩:=h5.storeCells (P:=P) (k:=0) (off:=off+i*sz) rfl (f y) (by simp[g3];omega) I;refine⟨w',hr,?_⟩;simp only[List.set_cons_zero] at h6;have hs:=Yj y hf hi;have hfl:=BD hf;have e1:(pre++xs.flatMap f++rest).take (off+i*sz)=pre++(xs.flatMap f).take (i*sz):=by rw[<-g4];exact aap (by omega)
  have e2:(pre++xs.flatMap f++rest).drop (off+i*sz+(f y).length)=(xs.flatMap f).drop (i*sz+sz)++rest:=by rw[<-g4,hy,Nat.add_assoc];exact aan (by omega)
  rw[e1,e2] at h6
  have hset:∀z∈xs.set i y,(f z).length=sz:=fun z hz=>by
   rcases List.mem_or_eq_of_mem_set hz with hz|rfl
   ·exact hf z hz
   ·exact hy
  have h7:Sat W w' (Cs b E' (pre++(xs.set i y).flatMap f++rest)::L.eraseIdx k):=by rw[hs];simpa [List.append_assoc] using h6
  have h8:=Sat.pW (E:=E) (n:=(xs.set i y).length) (sz:=sz) (cap:=c) (pre:=pre) (vs:=(xs.set i y).flatMap f) (rest:=rest) h7 (by simpa using g1) g2 (BD hset) g4 (by rw[BD hset];simp;omega);have h9:=(Sat.K5 hset h8).back hk
  rwa [List.length_set] at h9
theorem acp (O:Sat W w L) (T:TypeId) (z y:Operand) (ho:o.op= .store T z y) (b ad:Nat) (hz:a.eval z= .pointer (some ⟨b,ad,none⟩)) (x':α) (hy:a.eval y= .agg (f x').toArray) (I:∀u∈f x',u.oneCell'=true) (hlen:(f x').length=sz) (hn:kr P T=some sz)
  (hk:Has L k (Tb E sz f (.slice (some ⟨b,off,none⟩) xs.length c) xs)) (i:Nat) (hj:ad=off+i*sz) (hi:i<xs.length)
  (h:∀w',Sat W w' (L.set k (Tb E sz f (.slice (some ⟨b,off,none⟩) xs.length c) (xs.set i x')))->K (a.put o.dst undef) w'):o.wp P a w K Q:=by
 subst hj;obtain⟨w',hr,hS'⟩:=O.acP (P:=P) hk x' hi hlen I;refine IM (s:=storeVar T ⟨b,off+i*sz,none⟩ (.agg (f x').toArray)) (w':=w') (by simp[execOp,ho,hz,hy,Instr.storeAt,Instr.sureAddr]) ?_ (h w' hS');simp[storeVar,KQ hn,Value.cells,hr,hlen]
theorem bd (T:TypeId) (ps:Array (Nat×Operand)) (ho:o.op= .build T ps) {cs:Array Value} {parts:Array (Nat×Value)} (hp:(ps.map fun(i,x)=>(i,a.eval x))=parts) (hr:∀u,(Instr.build T parts).run P u= .ok (.agg cs) u)
  (h:K (a.put o.dst (.agg cs)) w):o.wp P a w K Q:=by
 subst hp;exact vG (s:=Instr.build T (ps.map fun(i,x)=>(i,a.eval x))) (by simp only[execOp,ho]) (hr w) h
theorem qJ (O:Sat W w L) (T T2:TypeId) (y z:Operand) (ho:o.op= .call {callee:= .builtin .append,args:= #[y,z],argTypes:= #[T,T2]}) (v xv:Value) (hy:a.eval y=v) (hz:a.eval z=xv)
  {e size bytes:Nat} {zv:Value} (hT:lV P T=some (e,size,bytes,some zv)) (hzs:zv.cells.size=size) (hpos:0<size) (kR:rD P T2=some false)
  (hk:Has L k (Tb e size f v xs)) (ys:List α) (hlen:∀x∈ys,(f x).length=size) (hsrc:Src w xv ys.length size (ys.flatMap f)) (I:∀u∈ys.flatMap f,u.oneCell'=true) (hb:(xs.length+ys.length)*bytes<=140737488355328) (hm:xs.length+ys.length<=9223372036854775807)
  (h:∀v' w',Sat W w' (L.set k (Tb e size f v' (xs++ys)))->K (a.put o.dst v') w'):o.wp P a w K Q:=by
 obtain⟨hf,H⟩:=(O.front k hk).Ci;refine ap H T T2 y z ho v xv hy hz hT hzs hpos kR (k:=0) rfl hsrc I hb hm fun v' w' hS'=>h v' w' ?_
 simp only[List.set_cons_zero] at hS';refine Sat.back (Sat.K5 (fun x V=>?_) (by simpa [List.flatMap_append] using hS')) hk
 rcases List.mem_append.1 V with V|V
 ·exact hf x V
 ·exact hlen x V
end
attribute [irreducible] Tb
end Go.Sep
namespace Go.Sep
open Go

def Ix (W:World) (L:List aA):Type:= {w:World // Sat W w L}

section
variable {P:Program} {W w:World} {L:List aA}
/-! ### a region whose first operations only read, and whose last ones stand in one order -/
theorem aoD {id:Nat} {Q:Exit->Act->World->Prop} {a:Act} {l:List Oper} (n:Nat) (O:Sat W w L) (hm:P.follows .mixedOrders=true) (hB:Region.lexTailB .any l.toArray n=true)
  (h:∀w',Sat W w' L->wpStill P l.toArray w' (fun a'=>wpList P l.toArray Q (l.drop n) a' w') (l.take n) a):(Code.region id l.toArray true).wp P Q a w:=
 wp_region_still_tail n hm hB (h _ (O.of_heap rfl rfl rfl))
variable {ops:Array Oper} {o:Oper} {rest:List Oper} {a:Act} {K:Act->Prop} {Q:Act->Prop}
theorem acs (hw:Region.wanted o (yielded ops a.tmps)=true) (h:o.still P a w (wpStill P ops w Q rest)):wpStill P ops w Q (o::rest) a:=by
 unfold wpStill;rw[if_pos hw];exact h
theorem acu {s:Sem Value} (hs:execOp a.eval o=(do let x <-s;pure (.value x))) {v:Value} (hr:s.run P w= .ok v w) (h:K (a.put o.dst v)):o.still P a w K:=by
 unfold Oper.still;rw[hs];simp[hr,Oper.stillUpon,h]
theorem ldS (O:Sat W w L) (T:TypeId) (x:Operand) (ho:o.op= .load T x) (b off:Nat) (V:a.eval x= .pointer (some ⟨b,off,none⟩)) (hT:jk P T=some false)
  {k E l v} (hk:Has L k (Cs b E l)) (hv:l[off]? =some v) (h:K (a.put o.dst v)):o.still P a w K:=
 acu (s:=loadVar T ⟨b,off,none⟩) (by simp[execOp,ho,V,Instr.loadAt,Instr.sureAddr]) (Ce hT (O.cell hk hv)) h
theorem ajD (O:Sat W w L) (T:TypeId) (x:Operand) (ho:o.op= .load T x) (b off:Nat) (V:a.eval x= .pointer (some ⟨b,off,none⟩)) (hT:jk P T=some true)
  {n} (hn:kr P T=some n) {k E l} (hk:Has L k (Cs b E l)) {vs:List Value} (hvs:(l.drop off).take n=vs) (hb:vs.length=n) (h:K (a.put o.dst (.agg vs.toArray))):o.still P a w K:=by
 subst hvs;exact acu (s:=loadVar T ⟨b,off,none⟩) (by simp[execOp,ho,V,Instr.loadAt,Instr.sureAddr])
  (AB hT hn hb fun j v hv=>O.cell hk (by
   rw[List.getElem?_take] at hv
   split at hv
   ·rwa [List.getElem?_drop] at hv
   ·cases hv)) h
end
end Go.Sep
namespace Go.Sep
theorem Z {p:Prop} (h:p):Go.RowKit.Hid p:=Lib.hid h
theorem _root_.Go.RowKit.Hid.F {p:Prop} (h:Go.RowKit.Hid p):p:=h.out
theorem gq {a b:Option Addr} {n c d:Nat} (h:Value.slice a n c= .slice b n d):a=b/\c=d:=by simpa using h
theorem aa {A:aA} {L:List aA} :Has (A::L) 0 A:=Has.z
theorem au {α:Sort _} (a:α):∃x,a=x:=⟨a,rfl⟩
theorem aD {α:Type _} {a b:α} {l:List α} :(a::l).set 0 b=b::l:=rfl
theorem aN {α:Type _} {a b:α} {l:List α} {n:Nat} :(a::l).set (n+1) b=a::l.set n b:=rfl
abbrev aZ:= @Nat.le_refl
abbrev dB:= @List.cons_append
abbrev ed:= @Bool.and_eq_true
abbrev gy:= @List.mem_append
abbrev ik:= @List.take_add_one
abbrev rP:= @List.getElem?_append_right
abbrev xN:= @List.getElem?_append_left
abbrev iP:= @List.nil_append
abbrev ig:= @Option.some.inj
abbrev eG:= @Nat.zero_le
abbrev jV:= @List.all_eq_true
abbrev nD:= @List.mem_append_right
abbrev nC:= @List.mem_append_left
abbrev oJ:= @List.drop_eq_nil_of_le
abbrev lZ:= @List.nodup_append
abbrev kv:= @List.append_nil
abbrev jD:= @List.mem_range
abbrev rR:= @List.take_append_drop
abbrev qE:= @List.getElem?_eq_none
abbrev kz:= @List.drop_zero
abbrev lC:= @List.map_append
abbrev pY:= @List.flatMap_cons
abbrev jN:= @List.map_cons
abbrev kY:= @List.getElem?_map
abbrev nE:= @List.not_mem_nil
abbrev mE:= @List.mem_flatMap
abbrev qd:= @Nat.not_lt_zero
abbrev yX:= @List.getElem?_set
abbrev oK:= @List.mem_cons
abbrev aqx:= @List.length_flatMap
abbrev rQ:= @List.mem_map
abbrev yY:= @List.length_drop
abbrev aR:= @List.getElem?_eq_getElem
abbrev bZ:= @List.getElem?_eq_some_iff
abbrev bJ:= @List.mem_of_getElem?
abbrev dC:= @List.length_singleton
abbrev bP:= @List.length_append
abbrev jJ:= @List.getElem?_of_mem
abbrev dF:= @List.take_of_length_le
abbrev bf:= @decide_eq_false
abbrev bL:= @decide_eq_true
abbrev yZ:= @List.length_eq_zero_iff
abbrev dH:= @beq_eq_false_iff_ne
abbrev dX:= @List.append_assoc
abbrev kZ:= @List.length_replicate
abbrev fB:= @List.length_cons
abbrev fu:= @Int.toNat_natCast
abbrev eD:= @List.mem_singleton
abbrev jr:= @List.length_take
abbrev gV:= @List.length_set
abbrev qa:= @List.length_map
abbrev xO:= @List.getElem?_cons_succ
end Go.Sep
