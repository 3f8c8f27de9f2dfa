/-
  Part of the proof of StoreWhole.
-/
import Derived.Test.YtjbiihbicknemaaGreatMDsk
import Derived.Test.YtjbiihbicknemaaGreatMRpt
set_option linter.unusedSimpArgs false
set_option linter.unusedVariables false
set_option maxRecDepth 20000
set_option maxHeartbeats 40000000
namespace Go.Proofs.YtjbiihbicknemaaGreat
open Go.RowKit Go.Sep
variable {W w:World} {L:List aA}
attribute [local irreducible] Oper.wp wpList Calls Code.wp Sep.dR
def Gj (p:Nat×Nat) (x:UInt8):Nat×Nat:=((p.1+x.toNat) % 65521,(p.2+(p.1+x.toNat) % 65521) % 65521)
def sP (p:Nat×Nat) (l:List UInt8):Nat×Nat:=l.foldl Gj p
def Jq (p:Nat×Nat):Nat:=p.2*65536+p.1
def sQ (s:Nat):Nat×Nat:=(s % 65536 % 65521,s / 65536 % 65521)
def qI (s:Nat) (l:List UInt8):Nat:=Jq (sP (sQ s) l)
theorem adm {k:IntKind} {a b:Int} (h:a=b):Ending.returned (.int k a)= .returned (.int k b):=by rw[h]
theorem Mo {p:Nat×Nat} (h:p.1<65521/\p.2<65521):∀l,(sP p l).1<65521/\(sP p l).2<65521:=by
 intro l
 induction l generalizing p with
 |nil=>exact h
 |cons x l ih=>exact ih ⟨Nat.mod_lt _ (by omega),Nat.mod_lt _ (by omega)⟩
theorem Mq (s:Nat):(sQ s).1<65521/\(sQ s).2<65521:=⟨Nat.mod_lt _ (by omega),Nat.mod_lt _ (by omega)⟩
theorem Wq (p:Nat×Nat) (l:List UInt8) (k:Nat) (h:k<l.length):sP p (l.take (k+1))=Gj (sP p (l.take k)) l[k]:=by
 rw[List.take_succ_eq_append_getElem h];unfold sP;rw[List.foldl_append];rfl
theorem WX {l:List UInt8} {k:Nat} (h:k<l.length):(bv l)[k]? =some (.int .u8 ((l[k]).toNat:Int)):=by simp[bv,h,u8]
theorem af4 (s:Nat) (h:s<4294967296):bits .and .u32 (s:Int) 65535=((s % 65536:Nat):Int):=by
 have:=u32_and_nat s 65535 h (by omega);rw[show(65535:Int)=((65535:Nat):Int) from rfl,this,show 65535=2 ^ 16-1 from rfl,Nat.and_two_pow_sub_one_eq_mod]
theorem akK (c a:Nat) (hc:c<65536) (ha:a<65536):bits .or .u32 ((c:Int)*65536) (a:Int)=((c*65536+a:Nat):Int):=by
 have h:=u32_or_nat (c*65536) a (by omega) (by omega);rw[nat_join 16 (c*65536) a (by rw[show(2:Nat) ^ 16=65536 from rfl];omega) (by rw[show(2:Nat) ^ 16=65536 from rfl];omega)] at h;rw[<-h];simp
theorem aau (s:Nat) (hs:s<4294967296) (l:List UInt8) (v:Value) (w:World) (h:Rd w v l.length 1 (bv l)):
  Calls Tryz.prog 125 #[.int .u32 s,v] w fun e w'=>e= .returned (.int .u32 (qI s l))/\w=w':=by
 obtain⟨ao,cap,rfl,I,H,h3,h4⟩:=h;have hl:=af4 s hs;have hlm:l.length<=9223372036854775807:=by omega
 go_enter Tryz.func125,Tryz.ntmps125;go_wp2
 go_loop [5,6,16] (fun a c i=>∃k:Nat,k<=l.length/\i= .int .i64 k/\a= .int .u32 ((sP (sQ s) (l.take k)).1:Nat)/\c= .int .u32 ((sP (sQ s) (l.take k)).2:Nat)) (fun _ _ i=>l.length-(intOf i).toNat)
 case atStart=>exact⟨0,eG _,rfl,by simp[sP,sQ],by simp[sP,sQ]⟩
 case round=>
  obtain⟨k,hk,rfl,rfl,rfl⟩:=hrel;have hlt:=Mo (Mq s) (l.take k);have hst:=Wq (sQ s) l k;generalize hp:sP (sQ s) (l.take k)=p at*;have Hp:=Z hp;clear hp;obtain⟨a,c⟩:=p;obtain⟨ha,hc⟩:=hlt;simp only at ha hc
  by_cases hkl:k<l.length
  ·obtain⟨b,off,rfl,hcell⟩:=h4 (by omega);have hc0:=hcell k _ (WX hkl);have V:(l[k]).toNat<256:=UInt8.toNat_lt _;have hst:=hst hkl;have Jo:=Z hst;clear hst h4 hcell;go_wp2
   go_round
   case rel=>exact⟨k+1,by omega,by go_num,by rw[Jo.F];simp[Gj],by rw[Jo.F];simp[Gj]⟩
   case measure=>simp[intOf];omega
  ·obtain rfl:k=l.length:=by omega
   go_wp2;go_ret;refine⟨adm ?_,rfl⟩;have hp:=Hp.out;rw[List.take_length] at hp;rw[akK c a (by omega) (by omega),qI,hp];rfl
theorem akm (l:List UInt8) (v:Value) (w:World) (h:Rd w v l.length 1 (bv l)):
  Calls Tryz.prog 124 #[v] w fun e w'=>e= .returned (.int .u32 (qI 1 l))/\w=w':=by
 go_enter Tryz.func124,Tryz.ntmps124
 go_wp2_with (go_at_call 125;refine(aau 1 (by omega) l _ _ h).mono ?_;rintro e w' ⟨rfl,rfl⟩)
 go_ret;exact⟨rfl,rfl⟩
theorem abN (s:Nat) (hs:s<4294967296) (l:List UInt8) (v:Value) (w:World) (h:Rd w v l.length 1 (bv l)):
  Calls Tryz.prog 136 #[.int .u32 s,v] w fun e w'=>e= .returned (.int .u32 (qI s l))/\w=w':=by
 obtain⟨ao,cap,rfl,I,H,h3,h4⟩:=h;have hlm:l.length<=9223372036854775807:=by omega
 go_enter Tryz.func136,Tryz.ntmps136;go_wp2
 go_loop [5,6,7] (fun a c i=>∃k:Nat,k<=l.length/\i= .int .i64 k/\a= .int .u32 ((sP (sQ s) (l.take k)).1:Nat)/\c= .int .u32 ((sP (sQ s) (l.take k)).2:Nat)) (fun _ _ i=>l.length-(intOf i).toNat)
 case atStart=>exact⟨0,eG _,rfl,by simp[sP,sQ],by simp[sP,sQ]⟩
 case round=>
  obtain⟨k,hk,rfl,rfl,rfl⟩:=hrel;have hlt:=Mo (Mq s) (l.take k);have hst:=Wq (sQ s) l k;generalize hp:sP (sQ s) (l.take k)=p at*;have Hp:=Z hp;clear hp;obtain⟨a,c⟩:=p;obtain⟨ha,hc⟩:=hlt;simp only at ha hc
  by_cases hkl:k<l.length
  ·obtain⟨b,off,rfl,hcell⟩:=h4 (by omega);have hc0:=hcell k _ (WX hkl);have V:(l[k]).toNat<256:=UInt8.toNat_lt _;have hst:=hst hkl;have Jo:=Z hst;clear hst h4 hcell;go_wp2
   go_round
   case rel=>exact⟨k+1,by omega,by go_num,by rw[Jo.F];simp[Gj],by rw[Jo.F];simp[Gj]⟩
   case measure=>simp[intOf];omega
  ·obtain rfl:k=l.length:=by omega
   go_wp2;go_ret;refine⟨adm ?_,rfl⟩;have hp:=Hp.out;rw[List.take_length] at hp;rw[qI,hp];simp[Jq]
theorem amy (l:List UInt8) (v:Value) (w:World) (h:Rd w v l.length 1 (bv l)):
  Calls Tryz.prog 135 #[v] w fun e w'=>e= .returned (.int .u32 (qI 1 l))/\w=w':=by
 go_enter Tryz.func135,Tryz.ntmps135
 go_wp2_with (go_at_call 136;refine(abN 1 (by omega) l _ _ h).mono ?_;rintro e w' ⟨rfl,rfl⟩)
 go_ret;exact⟨rfl,rfl⟩
theorem afV (p:Nat×Nat) (I:p.1<65521) (H:p.2<65521):sQ (Jq p)=p:=by
 obtain⟨a,c⟩:=p;simp only[sQ,Jq] at*;rw[Prod.mk.injEq];omega
theorem afW (s:Nat) (l m:List UInt8):qI (qI s l) m=qI s (l++m):=by
 have h:=Mo (Mq s) l;unfold qI;rw[afV _ h.1 h.2];unfold sP;rw[List.foldl_append]
theorem Ws (s:Nat) (l:List UInt8):qI s l % 65536<65521/\qI s l / 65536<65521/\qI s l<4294967296:=by
 have h:=Mo (Mq s) l;unfold qI Jq;omega
def aqp (l:List UInt8):Nat:=(l.map UInt8.toNat).sum
open Go.Sep
abbrev G2:=List (Int×List UInt8)
def okW (n:Int) (x:Int×List UInt8):Bool:=decide (x.2.length=128)&&decide (0<=x.1)&&decide (x.1<n)&& !(decide (2<=x.1)&&decide (x.1<26))
def twice (g:G2) (i:Nat) (a:Int):Bool:=(g.take i).any fun y=>y.1==a
def Ij (n:Int) (g:G2) (i:Nat):Bool:=match g[i]? with
 |none=>false
 |some x=>okW n x&& !twice g i x.1
def wC (n:Int) (g:G2) (i:Nat):Bool:=(List.range i).all (Ij n g)
def gT (n:Int) (g:G2):Bool:=decide (1<=g.length)&&decide (g.length<=20)&&wC n g g.length
theorem N8 (n:Int) (g:G2) (i:Nat):wC n g (i+1)=(wC n g i&&Ij n g i):=by simp[wC,List.range_succ]
theorem aaS {n:Int} {g:G2} {i j:Nat} (h:j<=i) (k:wC n g i=true):wC n g j=true:=by
 unfold wC at k ⊢;rw[jV] at k ⊢;exact fun x V=>k x (jD.2 (Nat.lt_of_lt_of_le (jD.1 V) h))
theorem aaT {n:Int} {g:G2} {i:Nat} (hi:i<g.length) (h:Ij n g i=false):gT n g=false:=by
 cases hk:wC n g g.length with
 |false=>unfold gT;rw[hk,Bool.and_false]
 |true=>
  have:=aaS (j:=i+1) hi hk;rw[N8,h,Bool.and_false] at this;cases this
theorem Tn {n:Int} {g:G2} (I:1<=g.length) (H:g.length<=20):gT n g=wC n g g.length:=by unfold gT;rw[bL I,bL H];rfl
theorem Fp {n:Int} {g:G2} (h:gT n g=true):1<=g.length/\g.length<=20:=by
 unfold gT at h;simp only[ed,decide_eq_true_eq] at h;exact h.1
theorem Aw {n:Int} {g:G2} (h:gT n g=true) {i:Nat} {x:Int×List UInt8} (V:g[i]? =some x):okW n x=true/\twice g i x.1=false:=by
 have hl:=(bZ.1 V).1;unfold gT at h;simp only[ed,decide_eq_true_eq] at h;have:=aaS (j:=i+1) hl h.2;rw[N8] at this;simp only[ed] at this;have H:=this.2;unfold Ij at H;rw[V] at H
 simpa using H
theorem Oa {n:Int} {x:Int×List UInt8} (h:okW n x=true):x.2.length=128:=by
 unfold okW at h;simp only[ed,decide_eq_true_eq] at h;exact h.1.1.1
theorem Du {n:Int} {x:Int×List UInt8} (h:okW n x=true):0<=x.1/\x.1<n/\¬(2<=x.1/\x.1<26):=by
 unfold okW at h;simp only[ed,decide_eq_true_eq,Bool.not_eq_true',Bool.and_eq_false_iff,decide_eq_false_iff_not] at h;omega
theorem an8 {g:G2} {k:Nat} {y:Int×List UInt8} (h:g[k]? =some y) (a:Int):twice g (k+1) a=(twice g k a || (y.1==a)):=by
 unfold twice;rw[ik,h,List.any_append];simp
/-! ### the header -/
def Am (g:G2):List UInt8:=le g.length 1++g.flatMap fun x=>le x.1 2
def qO (g:G2):List UInt8:=rG (Am g) 60
def MZ (g:G2):List UInt8:=g.flatMap (·.2)
def BK (g:G2):Nat:=qI 1 (qO g++MZ g)
def BJ (g:G2):List UInt8:=qO g++le (BK g) 4
def hdr (g:G2):List UInt8:=rG (BJ g) 128
theorem UF {α:Type} (f:α->List UInt8) (n:Nat):∀l:List α,(∀x∈l,(f x).length=n)->(l.flatMap f).length=l.length*n
 |[],_=>by simp
 |x::l,h=>by
  rw[pY,bP,UF f n l (fun y hy=>h y (List.mem_cons_of_mem _ hy)),h x (List.mem_cons_self ..),fB];rw[Nat.succ_mul];omega
theorem Sa (g:G2):(Am g).length=1+2*g.length:=by
 unfold Am;rw[bP,fK,UF _ 2 g (fun x _=>fK _ _)];omega
theorem Sc {g:G2} (h:g.length<=20):(qO g).length=60:=Ky (by rw[Sa];omega)
theorem Sb {g:G2} (h:g.length<=20):(BJ g).length=64:=by unfold BJ;rw[bP,Sc h,fK]
theorem G9 {g:G2} (h:g.length<=20):(hdr g).length=128:=Ky (by rw[Sb h];omega)
theorem Y7 (g:G2):BK g<4294967296:=(Ws 1 _).2.2
def hsum (g:G2) (i:Nat):Nat:=qI 1 (qO g++MZ (g.take i))
theorem Zo (g:G2):hsum g 0=qI 1 (qO g):=by unfold hsum MZ;simp
theorem Zn {g:G2} {i:Nat} {x:Int×List UInt8} (h:g[i]? =some x):hsum g (i+1)=qI (hsum g i) x.2:=by
 unfold hsum MZ;rw[ik,h,List.flatMap_append,afW,<-dX];simp
theorem Zl (g:G2):hsum g g.length=BK g:=by unfold hsum BK;rw[List.take_length]
theorem Zm (g:G2) (i:Nat):hsum g i<4294967296:=(Ws 1 _).2.2
/-! ### several writes, one by one -/
def bH:aG->G2->Int×aG
 |D,[]=>(0,D)
 |D,x::l=>if gp D x.1 x.2.length=0 then bH (fG D x.1 x.2) l else(gp D x.1 x.2.length,fG D x.1 x.2)
theorem wG (l m:G2):∀D,bH D (l++m)=if(bH D l).1=0 then bH (bH D l).2 m else bH D l:=by
 induction l with
 |nil=>intro D;rfl
 |cons x l ih=>
  intro D;show(if gp D x.1 x.2.length=0 then bH (fG D x.1 x.2) (l++m) else _)=_
  by_cases h:gp D x.1 x.2.length=0
  ·have e:bH D (x::l)=bH (fG D x.1 x.2) l:=by show(if _ then _ else _)=_;rw[if_pos h]
   rw[if_pos h,e];exact ih _
  ·have e:bH D (x::l)=(gp D x.1 x.2.length,fG D x.1 x.2):=by show(if _ then _ else _)=_;rw[if_neg h]
   rw[if_neg h,e,if_neg h]
theorem abX (D:aG) (x:Int×List UInt8):bH D [x]=(gp D x.1 x.2.length,fG D x.1 x.2):=by
 show(if gp D x.1 x.2.length=0 then bH (fG D x.1 x.2) [] else _)=_
 by_cases h:gp D x.1 x.2.length=0
 ·rw[if_pos h,h];rfl
 ·rw[if_neg h]
theorem Dz {D D':aG} {l:G2} {i:Nat} {x:Int×List UInt8} (h:bH D (l.take i)=(0,D')) (V:l[i]? =some x):bH D (l.take (i+1))=(gp D' x.1 x.2.length,fG D' x.1 x.2):=by
 rw[ik,V,wG,h,if_pos rfl];exact abX D' x
theorem OO {D:aG} {l:G2} {i:Nat} (h:(bH D (l.take i)).1≠0):bH D l=bH D (l.take i):=by
 conv=>lhs;rw[<-rR i l]
 rw[wG,if_neg h]
theorem ade (D:aG) (n:Int) (b:List UInt8):(fG D n b).blocks.length=D.blocks.length:=by
 unfold fG
 split
 ·rfl
 ·split
  ·rfl
  ·split
   ·rfl
   ·simp[aG.wrote]
structure DG (D:aG) (k:Nat):Prop where
 ok:D.Ok
 lo: -1<=D.left
 hi:D.left<=9223372036854775807
 wr:D.writes.length<=k
theorem DG.next {D:aG} {k:Nat} (h:DG D k) (n:Int) (b:List UInt8):DG (fG D n b) (k+1):=by
 have h4:=h.wr;unfold fG
 split
 ·exact⟨h.ok,h.lo,h.hi,by omega⟩
 ·split
  ·exact⟨h.ok,h.lo,h.hi,by omega⟩
  ·rename_i H
   split
   ·exact⟨⟨h.ok.len,h.ok.base,h.ok.at_⟩,h.lo,h.hi,by show D.writes.length<=_;omega⟩
   ·unfold bad at H;refine⟨⟨by simp only[aG.wrote,gV];exact h.ok.len,by simp only[aG.wrote,gV];exact h.ok.base,?_⟩,?_,?_,by simp[aG.wrote];omega⟩
    ·intro x V;simp only[aG.wrote,gy,eD,gV] at V ⊢
     rcases V with V|rfl
     ·exact h.ok.at_ x V
     ·show n.toNat<_;omega
    ·have:=h.lo;have:=h.hi;simp only[aG.wrote];split<;>omega
    ·have:=h.lo;have:=h.hi;simp only[aG.wrote];split<;>omega
theorem DG.run {D:aG} {k:Nat} (l:G2):DG D k->DG (bH D l).2 (k+l.length):=by
 induction l generalizing D k with
 |nil=>exact fun h=>h
 |cons x l ih=>
  intro h;show DG (if gp D x.1 x.2.length=0 then bH (fG D x.1 x.2) l else(gp D x.1 x.2.length,fG D x.1 x.2)).2 _;have H:=h.next x.1 x.2
  split
  ·have:=ih H;simp only[fB]
   rwa [show k+(l.length+1)=k+1+l.length by omega]
  ·exact⟨H.ok,H.lo,H.hi,by have:=H.wr;simp only[fB];omega⟩
theorem DG.mono {D:aG} {k m:Nat} (h:DG D k) (hk:k<=m):DG D m:=⟨h.ok,h.lo,h.hi,by have:=h.wr;omega⟩
/-! ### a group: into the log, its header, to its places -/
def kF (g:G2):G2:=(List.range g.length).map fun i=>((3+i:Nat),(g.map (·.2))[i]?.getD [])
def fC (g:G2):G2:=g++[(2,zeros 128)]
def jA (g:G2):G2:=kF g++(2,hdr g)::fC g
theorem wm (g:G2):(kF g).length=g.length:=by simp[kF]
theorem Hw {g:G2} {i:Nat} {x:Int×List UInt8} (h:g[i]? =some x):(kF g)[i]? =some (((3+i:Nat):Int),x.2):=by
 obtain⟨hl,V⟩:=bZ.1 h;simp[kF,hl,V]
def jm (D:aG) (g:G2):Int×aG:=if gT D.blocks.length g then bH D (jA g) else(1,D)
def jZ (D:aG) (n:Nat):List UInt8:=D.blocks[n]?.getD []
def qx (D:aG):Nat:=fV (jZ D 2) 0 1
def jL (D:aG) (n:Nat):G2:=(List.range n).map fun i=>((fV (jZ D 2) (1+2*i) 2:Nat),jZ D (3+i))
theorem J8 (D:aG) (n:Nat):(jL D n).length=n:=by simp[jL]
theorem Z5 (D:aG) (n:Nat):jL D (n+1)=jL D n++[(((fV (jZ D 2) (1+2*n) 2:Nat):Int),jZ D (3+n))]:=by simp[jL,List.range_succ]
def mV (D:aG):Bool:=decide (qx D<=20)&&gT D.blocks.length (jL D (qx D))&&decide (hdr (jL D (qx D))=jZ D 2)
def o6 (D:aG):Int×aG:=if mV D then bH D (fC (jL D (qx D))) else(0,D)
def yO (D:aG):Bool:=mV D&&decide ((o6 D).1=0)
open Go.Sep
theorem Rs {α:Type} :∀(A B:List α) (i:Nat),(A++B).drop (A.length+i)=B.drop i
 |[],B,i=>by simp
 |x::A,B,i=>by
  have:=Rs A B i;rw[dB,fB,show A.length+1+i=(A.length+i)+1 by omega,List.drop_succ_cons];exact this
theorem acJ {α:Type} (A B:List α):(A++B).take A.length=A:=List.take_left' rfl
theorem XM {α:Type} (f:α->List UInt8) (n:Nat) (t:List UInt8):∀(l:List α) (i:Nat) (x:α),(∀y,(f y).length=n)->l[i]? =some x->((l.flatMap f++t).drop (i*n)).take n=f x
 |[],i,x,_,h=>by simp at h
 |y::l,0,x,hf,h=>by
  simp at h;subst h;rw[Nat.zero_mul,kz,pY,dX,<-hf y];exact acJ _ _
 |y::l,i+1,x,hf,h=>by
  have:=XM f n t l i x hf (by simpa using h);rw[pY,dX,show(i+1)*n=(f y).length+i*n by rw[hf y,Nat.succ_mul];omega,Rs];exact this
theorem Y8 (g:G2):∃T,hdr g=le g.length 1++(g.flatMap (fun x=>le x.1 2)++T):=by
 exact⟨List.replicate (60-(Am g).length) 0++(le (BK g) 4++List.replicate (128-(BJ g).length) 0),by simp only[hdr,BJ,qO,Am,rG,dX]⟩
theorem aiH {g:G2} (h:g.length<=20):fV (hdr g) 0 1=g.length:=by
 obtain⟨T,hT⟩:=Y8 g;unfold fV;rw[if_pos (by rw[G9 h];omega),hT,kz];have:=acJ (le g.length 1) (g.flatMap (fun x=>le x.1 2)++T);rw[fK] at this;rw[this,K7 1 g.length (by omega)]
theorem aiG {g:G2} (h:g.length<=20) {i:Nat} {x:Int×List UInt8} (V:g[i]? =some x) (h0:0<=x.1) (I:x.1<65536):((fV (hdr g) (1+2*i) 2:Nat):Int)=x.1:=by
 obtain⟨T,hT⟩:=Y8 g;have hl:=(bZ.1 V).1;unfold fV;rw[if_pos (by rw[G9 h];omega),hT];have H:=Rs (le g.length 1) (g.flatMap (fun x=>le x.1 2)++T) (2*i);rw[fK] at H;have h3:=XM (fun x:Int×List UInt8=>le x.1 2) 2 T g i x (fun y=>fK _ _) V;rw[H,Nat.mul_comm 2 i,h3];obtain⟨k,hk⟩:=Int.eq_ofNat_of_zero_le h0;rw[hk,K7 2 k (by omega)]
/-! ### writes to blocks -/
def Good (n:Nat) (l:G2):Prop:=∀x∈l,0<=x.1/\x.1<n/\x.2.length=128
def lH (bs:List (List UInt8)) (l:G2):List (List UInt8):=l.foldl (fun bs x=>bs.set x.1.toNat x.2) bs
theorem KE (l:G2):∀bs,(lH bs l).length=bs.length:=by
 induction l with
 |nil=>intro bs;rfl
 |cons x l ih=>intro bs;show(lH (bs.set x.1.toNat x.2) l).length=_;rw[ih,gV]
theorem Fz (bs:List (List UInt8)) (l m:G2):lH bs (l++m)=lH (lH bs l) m:=by unfold lH;rw[List.foldl_append]
theorem AA (l:G2):∀(bs:List (List UInt8)) (m:Nat),(∀x∈l,x.1.toNat≠m)->(lH bs l)[m]? =bs[m]? :=by
 induction l with
 |nil=>intro bs m _;rfl
 |cons x l ih=>
  intro bs m h;show(lH (bs.set x.1.toNat x.2) l)[m]? =_
  rw[ih _ m (fun y hy=>h y (List.mem_cons_of_mem _ hy)),List.getElem?_set_ne (h x (List.mem_cons_self ..))]
theorem akq {n:Int} {g:G2} (h:gT n g=true) {i j:Nat} {x y:Int×List UInt8} (hij:i<j) (V:g[i]? =some x) (hy:g[j]? =some y):x.1≠y.1:=by
 intro e;have:=(Aw h hy).2;unfold twice at this;rw[List.any_eq_false] at this;have H:x∈g.take j:=bJ (i:=i) (by rw[List.getElem?_take,if_pos hij,V]);exact this x H (by simp[e])
theorem abt {n:Int} {g:G2} (h:gT n g=true) (bs:List (List UInt8)) (hn:(bs.length:Int)=n) {i:Nat} {x:Int×List UInt8} (V:g[i]? =some x):(lH bs g)[x.1.toNat]? =some x.2:=by
 have hw:=Du (Aw h V).1
 have e:g=g.take i++[x]++g.drop (i+1):=by
  conv=>lhs;rw[<-rR (i+1) g]
  rw[ik,V];rfl
 conv=>lhs;rw[e]
 rw[Fz,AA,Fz]
 ·show((lH bs (g.take i)).set x.1.toNat x.2)[x.1.toNat]? =_
  rw[List.getElem?_set_self (by rw[KE];omega)]
 ·intro y hy hxy;obtain⟨j,hj⟩:=List.mem_iff_getElem?.1 hy;rw[List.getElem?_drop] at hj;have hwy:=Du (Aw h hj).1;exact akq h (show i<i+1+j by omega) V hj (by omega)
theorem amI (l:G2):∀D:aG,D.dead=false->Good D.blocks.length l->∃j,j<=l.length/\(bH D l).2.blocks=lH D.blocks (l.take j)/\(bH D l).2.writes.length=D.writes.length+j/\((bH D l).1=0↔j=l.length)/\(D.left= -1->j=l.length/\(bH D l).2.dead=false/\(bH D l).2.left= -1):=by
 induction l with
 |nil=>exact fun D hd _=>⟨0,aZ _,rfl,rfl,by simp[bH],fun h=>⟨rfl,hd,h⟩⟩
 |cons x l ih=>
  intro D hd hG;obtain⟨g1,g2,g3⟩:=hG x (List.mem_cons_self ..);have hb:¬bad D.blocks.length x.1 x.2.length:=by unfold bad;omega
  by_cases hl:D.left=0
  ·have hc:gp D x.1 x.2.length=22:=by unfold gp;rw[hd,if_neg (by simp),if_neg hb,if_pos hl]
   have hn:fG D x.1 x.2= {D with dead:=true} :=by unfold fG;rw[if_neg (by simp[hd]),if_neg hb,if_pos hl]
   have e:bH D (x::l)=(22,{D with dead:=true}):=by show(if _ then _ else _)=_;rw[hc,if_neg (by decide),hn]
   rw[e];refine⟨0,eG _,rfl,rfl,by simp,fun h=>?_⟩;rw[hl] at h;cases h
  ·have hc:gp D x.1 x.2.length=0:=by unfold gp;rw[hd,if_neg (by simp),if_neg hb,if_neg hl]
   have hn:fG D x.1 x.2=D.wrote x.1.toNat x.2:=by unfold fG;rw[if_neg (by simp[hd]),if_neg hb,if_neg hl]
   have e:bH D (x::l)=bH (D.wrote x.1.toNat x.2) l:=by show(if _ then _ else _)=_;rw[hc,if_pos rfl,hn]
   rw[e];obtain⟨j,I,H,h3,h4,h5⟩:=ih (D.wrote x.1.toNat x.2) hd (fun y hy=>by rw[Lj];exact hG y (List.mem_cons_of_mem _ hy));refine⟨j+1,by simp only[fB];omega,by rw[H];rfl,?_,by rw[h4,fB];omega,fun h=>?_⟩
   ·rw[h3];simp[aG.wrote];omega
   ·obtain⟨q1,q2,q3⟩:=h5 (by simp[aG.wrote,h]);exact⟨by rw[q1,fB],q2,q3⟩
structure Inv (D:aG):Prop where
 ok:D.Ok
 blk:D.blocks=nL D.start D.writes
theorem Inv.next {D:aG} (h:Inv D) (n:Int) (b:List UInt8):Inv (fG D n b):=by
 unfold fG
 split
 ·exact h
 ·split
  ·exact h
  ·rename_i H
   unfold bad at H
   split
   ·exact⟨⟨h.ok.len,h.ok.base,h.ok.at_⟩,h.blk⟩
   ·refine⟨⟨by simp only[aG.wrote,gV];exact h.ok.len,by simp only[aG.wrote,gV];exact h.ok.base,?_⟩,?_⟩
    ·intro x V;simp only[aG.wrote,gy,eD,gV] at V ⊢
     rcases V with V|rfl
     ·exact h.ok.at_ x V
     ·show n.toNat<_;omega
    ·have hs:(D.wrote n.toNat b).start=D.start:=by simp[aG.start,aG.wrote]
     rw[hs];show D.blocks.set n.toNat b=nL D.start (D.writes++[(n.toNat,b)]);rw[WG,<-h.blk]
theorem Inv.run (l:G2):∀ {D:aG},Inv D->Inv (bH D l).2:=by
 induction l with
 |nil=>exact fun h=>h
 |cons x l ih=>
  intro D h;show Inv (if gp D x.1 x.2.length=0 then bH (fG D x.1 x.2) l else(gp D x.1 x.2.length,fG D x.1 x.2)).2
  split
  ·exact ih (h.next _ _)
  ·exact h.next _ _
theorem TU (l:G2):∀D:aG,(bH D l).2.blocks.length=D.blocks.length:=by
 induction l with
 |nil=>exact fun D=>rfl
 |cons x l ih=>
  intro D;show(if gp D x.1 x.2.length=0 then bH (fG D x.1 x.2) l else(gp D x.1 x.2.length,fG D x.1 x.2)).2.blocks.length=_
  split
  ·rw[ih,ade]
  ·exact ade _ _ _
theorem Inv.image {D:aG} (h:Inv D):(D.image D.writes.length).blocks=D.blocks/\Inv (D.image D.writes.length):=by
 have e:(D.image D.writes.length).blocks=D.blocks:=by
  show nL D.start (D.writes.take D.writes.length)=_;rw[List.take_length,<-h.blk]
 refine⟨e,⟨⟨by rw[e];exact h.ok.len,aZ _,fun x V=>by cases V⟩,?_⟩⟩;show(D.image D.writes.length).blocks=(D.image D.writes.length).start;unfold aG.start;show _=(D.image D.writes.length).blocks++_;rw[show(D.image D.writes.length).blocks.length-(D.image D.writes.length).base.length=0 from Nat.sub_self _];simp
theorem Inv.new (n:Nat) (h:n<=1024):Inv {blocks:=List.replicate n (zeros 128),base:=[],writes:=[],left:= -1,dead:=false} :=
 ⟨⟨by simp;exact h,eG _,fun x V=>by cases V⟩,by simp[aG.start,nL]⟩
/-! ### what the log says -/
theorem Jt {D:aG} {n:Nat} {b:List UInt8} (h:D.blocks[n]? =some b):jZ D n=b:=by unfold jZ;rw[h];rfl
theorem ajU {D:aG} {g:G2} {n:Int} (hg:gT n g=true) (hn:n<=65536) (H:D.blocks[2]? =some (hdr g)) (hd:∀i x,g[i]? =some x->D.blocks[3+i]? =some x.2):qx D=g.length/\jL D g.length=g:=by
 have hl:=Fp hg;refine⟨by unfold qx;rw[Jt H,aiH hl.2],?_⟩;apply List.ext_getElem?;intro i
 by_cases hi:i<g.length
 ·obtain⟨x,V⟩:∃x,g[i]? =some x:=⟨_,aR hi⟩
  have hw:=Du (Aw hg V).1;rw[V,jL,kY,List.getElem?_range hi,Jt H];show some (((fV (hdr g) (1+2*i) 2:Nat):Int),jZ D (3+i))=some x;rw[aiG hl.2 V hw.1 (by omega),Jt (hd i x V)]
 ·rw[qE (by rw[J8];omega),qE (by omega)]
theorem alP {D:aG} {g:G2} (hg:gT D.blocks.length g=true) (hn:D.blocks.length<=1024) (H:D.blocks[2]? =some (hdr g)) (hd:∀i x,g[i]? =some x->D.blocks[3+i]? =some x.2):mV D=true/\o6 D=bH D (fC g):=by
 obtain⟨e1,e2⟩:=ajU hg (by omega) H hd
 have h:mV D=true:=by
  unfold mV;rw[e1,e2,hg,Jt H,bL (Fp hg).2];simp
 refine⟨h,?_⟩;unfold o6;rw[h,if_pos rfl,e1,e2]
theorem ah8:fV (zeros 128) 0 1=0:=by decide+kernel
theorem TR {D:aG} (H:D.blocks[2]? =some (zeros 128)):mV D=false/\o6 D=(0,D):=by
 have e:qx D=0:=by unfold qx;rw[Jt H];exact ah8
 have h:mV D=false:=by unfold mV;rw[e];rfl
 refine⟨h,?_⟩;unfold o6;rw[h];rfl
/-! ### cut anywhere -/
def tC (m:Nat):Prop:=¬(2<=m/\m<26)
def yl (B C:List (List UInt8)):Prop:=∀m,tC m->B[m]? =C[m]?
theorem YO {n:Nat} {g:G2} (h:gT n g=true) (hn:26<=n):Good n (fC g):=by
 intro x V
 rcases gy.1 V with V|V
 ·obtain⟨i,hi⟩:=List.mem_iff_getElem?.1 V;have I:=Aw h hi;have H:=Du I.1;exact⟨H.1,H.2.1,Oa I.1⟩
 ·rw[eD.1 V];exact⟨by show(0:Int)<=2;decide,by show(2:Int)<n;omega,by simp[zeros]⟩
theorem YN {n:Nat} {g:G2} (h:gT n g=true) (hn:26<=n):Good n (jA g):=by
 have hl:=Fp h;intro x V
 rcases gy.1 V with V|V
 ·obtain⟨i,hi⟩:=List.mem_iff_getElem?.1 V;have hil:=(bZ.1 hi).1;rw[wm] at hil;obtain⟨y,hy⟩:∃y,g[i]? =some y:=⟨_,aR hil⟩
  rw[Hw hy] at hi;cases hi;exact⟨by show(0:Int)<=((3+i:Nat):Int);omega,by show((3+i:Nat):Int)<n;omega,(Oa (Aw h hy).1:y.2.length=128)⟩
 ·rcases oK.1 V with rfl|V
  ·exact⟨by show(0:Int)<=2;decide,by show(2:Int)<n;omega,G9 hl.2⟩
  ·exact YO h hn x V
theorem akr {n:Int} {g:G2} (h:gT n g=true) {x:Int×List UInt8} (V:x∈g):tC x.1.toNat:=by
 obtain⟨i,hi⟩:=List.mem_iff_getElem?.1 V;have H:=Du (Aw h hi).1;unfold tC;omega
def Ml (B0:List (List UInt8)) (g:G2) (f:Int) (B:List (List UInt8)):Prop:=
 (B[2]? =some (zeros 128)/\(yl B (lH B0 g)∨(f≠0/\yl B B0)))∨
 (f≠0/\B[2]? =some (hdr g)/\(∀i x,g[i]? =some x->B[3+i]? =some x.2)/\∀m,tC m->(∀x∈g,x.1.toNat≠m)->B[m]? =B0[m]?)
theorem alb {n:Int} {g:G2} (h:gT n g=true) {B B0:List (List UInt8)} (hB:(B.length:Int)=n) (hB0:(B0.length:Int)=n) (hm:∀m,tC m->(∀x∈g,x.1.toNat≠m)->B[m]? =B0[m]?):yl (lH B g) (lH B0 g):=by
 intro m ho
 by_cases V:∃x∈g,x.1.toNat=m
 ·obtain⟨x,V,rfl⟩:=V;obtain⟨i,hi⟩:=List.mem_iff_getElem?.1 V;rw[abt h B hB hi,abt h B0 hB0 hi]
 ·have V:∀x∈g,x.1.toNat≠m:=fun x hy e=>V ⟨x,hy,e⟩
  rw[AA g B m V,AA g B0 m V];exact hm m ho V
theorem ahh {g:G2} {j:Nat} (h:j<=g.length):(fC g).take j=g.take j:=by unfold fC;rw[List.take_append_of_le_length h]
theorem acN {n:Int} {g:G2} (h:gT n g=true) (j m:Nat) (hm:2<=m/\m<26):∀x∈g.take j,x.1.toNat≠m:=fun x V e=>akr h (List.mem_of_mem_take V) (e▸hm)
theorem abu {n:Int} {g:G2} (h:gT n g=true) {B B0:List (List UInt8)} (hB:(B.length:Int)=n) (hB0:(B0.length:Int)=n) (hn:26<=n) (hm:∀m,tC m->(∀x∈g,x.1.toNat≠m)->B[m]? =B0[m]?):
  (lH B (fC g))[2]? =some (zeros 128)/\yl (lH B (fC g)) (lH B0 g):=by
 unfold fC;rw[Fz];show((lH B g).set 2 (zeros 128))[2]? =_/\yl ((lH B g).set 2 (zeros 128)) _
 refine⟨by rw[List.getElem?_set_self (by rw[KE];omega)],fun m ho=>?_⟩;rw[List.getElem?_set_ne (by unfold tC at ho;omega)];exact alb h hB hB0 hm m ho
theorem Ml.EG {D:aG} {g:G2} (hd:D.dead=false) (hg:gT D.blocks.length g=true) (hn:26<=D.blocks.length) (H:D.blocks[2]? =some (zeros 128)):
  Ml D.blocks g (bH D (jA g)).1 (bH D (jA g)).2.blocks:=by
 obtain⟨j,hj,hb,_,hc,_⟩:=amI (jA g) D hd (YN hg hn);have hl:=Fp hg;have hcl:(jA g).length=g.length+(1+(g.length+1)):=by unfold jA fC;simp[wm];omega
 rw[hb]
 by_cases I:j<=g.length
 ·have hf:(bH D (jA g)).1≠0:=fun e=>by have:=hc.1 e;omega
  have ht:(jA g).take j=(kF g).take j:=by unfold jA;rw[List.take_append_of_le_length (by rw[wm];exact I)]
  have Zd:∀x∈(kF g).take j,3<=x.1.toNat/\x.1.toNat<26:=fun x V=>by
   obtain⟨i,hi⟩:=List.mem_iff_getElem?.1 (List.mem_of_mem_take V);have hil:=(bZ.1 hi).1;rw[wm] at hil;obtain⟨y,hy⟩:∃y,g[i]? =some y:=⟨_,aR hil⟩
   rw[Hw hy] at hi;cases hi;show 3<=(((3+i:Nat):Int)).toNat/\(((3+i:Nat):Int)).toNat<26;omega
  rw[ht];refine .inl ⟨by rw[AA _ _ 2 (fun x V=>by have:=Zd x V;omega)];exact H, .inr ⟨hf,fun m ho=>?_⟩⟩;exact AA _ _ m (fun x V=>by have:=Zd x V;unfold tC at ho;omega)
 ·-- the header is there
  have hsplit:(jA g).take j=kF g++((2,hdr g)::(fC g).take (j-g.length-1)):=by
   unfold jA;rw[List.take_append,wm,dF (by rw[wm];omega)];rw[show j-g.length=(j-g.length-1)+1 by omega,List.take_succ_cons];rfl
  have hB1:∀B1,B1=lH D.blocks (kF g++[(2,hdr g)])->(B1.length=D.blocks.length/\B1[2]? =some (hdr g)/\(∀i x,g[i]? =some x->B1[3+i]? =some x.2)/\∀m,tC m->B1[m]? =D.blocks[m]?):=by
   intro B1 hB;subst hB;rw[Fz];show(((lH D.blocks (kF g)).set 2 (hdr g)).length=_/\((lH D.blocks (kF g)).set 2 (hdr g))[2]? =_/\_);refine⟨by rw[gV,KE],by rw[List.getElem?_set_self (by rw[KE];omega)],fun i x V=>?_,fun m ho=>?_⟩
   ·show((lH D.blocks (kF g)).set 2 (hdr g))[3+i]? =_
    have hil:=(bZ.1 V).1;rw[List.getElem?_set_ne (by omega)]
    have e:kF g=(kF g).take i++[(((3+i:Nat):Int),x.2)]++(kF g).drop (i+1):=by
     conv=>lhs;rw[<-rR (i+1) (kF g)]
     rw[ik,Hw V];rfl
    rw[e,Fz,AA,Fz]
    ·show((lH D.blocks ((kF g).take i)).set (((3+i:Nat):Int)).toNat x.2)[3+i]? =_
     rw[fu,List.getElem?_set_self (by rw[KE];omega)]
    ·intro y hy hyi;obtain⟨k,hk⟩:=List.mem_iff_getElem?.1 hy;rw[List.getElem?_drop] at hk;have hkl:=(bZ.1 hk).1;rw[wm] at hkl;obtain⟨z,hz⟩:∃z,g[i+1+k]? =some z:=⟨_,aR hkl⟩
     rw[Hw hz] at hk;cases hk;have:(((3+(i+1+k):Nat):Int)).toNat=3+i:=hyi;omega
   ·show((lH D.blocks (kF g)).set 2 (hdr g))[m]? =_
    unfold tC at ho;rw[List.getElem?_set_ne (by omega)];refine AA _ _ m (fun x V=>?_);obtain⟨i,hi⟩:=List.mem_iff_getElem?.1 V;have hil:=(bZ.1 hi).1;rw[wm] at hil;obtain⟨y,hy⟩:∃y,g[i]? =some y:=⟨_,aR hil⟩
    rw[Hw hy] at hi;cases hi;show(((3+i:Nat):Int)).toNat≠m;omega
  obtain⟨b1,b2,b3,b4⟩:=hB1 _ rfl
  have hput:lH D.blocks ((jA g).take j)=lH (lH D.blocks (kF g++[(2,hdr g)])) ((fC g).take (j-g.length-1)):=by
   rw[hsplit,<-Fz];simp
  rw[hput];generalize lH D.blocks (kF g++[(2,hdr g)])=B1 at b1 b2 b3 b4 ⊢
  by_cases h3:j-g.length-1<=g.length
  ·have hf:(bH D (jA g)).1≠0:=fun e=>by have:=hc.1 e;omega
   rw[ahh h3];refine .inr ⟨hf,by rw[AA _ _ 2 (acN hg _ 2 (by omega))];exact b2,fun i x V=>?_,fun m ho V=>?_⟩
   ·have hil:=(bZ.1 V).1;rw[AA _ _ (3+i) (acN hg _ (3+i) (by omega))];exact b3 i x V
   ·rw[AA _ _ m (fun x hxm=>V x (List.mem_of_mem_take hxm))];exact b4 m ho
  ·have e:(fC g).take (j-g.length-1)=fC g:=dF (by unfold fC;simp;omega);rw[e];have:=abu hg (B:=B1) (B0:=D.blocks) (by rw[b1]) rfl (by omega) (fun m ho _=>b4 m ho);exact .inl ⟨this.1, .inl this.2⟩
def aqh (B:List (List UInt8)):List UInt8:=(List.range B.length).flatMap fun i=>if decide (i<2) || decide (26<=i) then B[i]?.getD [] else []
structure GW where
 at_:Int
 val:Value
 data:List UInt8
def gw (x:GW):List Value:=[.int .i64 x.at_,x.val]
theorem vU (l:List GW):∀x∈l,(gw x).length=2:=fun _ _=>rfl
def g2 (xs:List GW):G2:=xs.map fun x=>(x.at_,x.data)
theorem qp (xs:List GW):(g2 xs).length=xs.length:=by simp[g2]
theorem EL {xs:List GW} {i:Nat} {x:GW} (h:xs[i]? =some x):(g2 xs)[i]? =some (x.at_,x.data):=by simp[g2,h]
def yj (w:World) (v:Value) (xs:List GW):Prop:=Rd w v xs.length 2 (xs.flatMap gw)/\∀x∈xs,Rd w x.val x.data.length 1 (bv x.data)
theorem yj.slice {w:World} {v:Value} {xs:List GW} {i:Nat} {x:GW} (h:yj w v xs) (V:xs[i]? =some x):∃ao c,x.val= .slice ao x.data.length c:=by
 obtain⟨ao,c,he,_⟩:=h.2 x (bJ V);exact⟨ao,c,he⟩
theorem vV {ao:Option Addr} {n c:Nat} (a:Int) (d:List UInt8):∀u∈gw ⟨a, .slice ao n c,d⟩,u.oneCell'=true:=fun u hu=>by
 simp only[gw,oK,nE,or_false] at hu
 rcases hu with rfl|rfl<;>rfl
def Aj (ys:List GW) (a:Int):Bool:=ys.any fun y=>y.at_==a
theorem aiz (xs:List GW) (i:Nat) (a:Int):Aj (xs.take i) a=twice (g2 xs) i a:=by
 unfold Aj twice g2;rw[<-List.map_take,List.any_map];rfl
theorem aiy {ys:List GW} {k:Nat} {y:GW} (h:ys[k]? =some y) (a:Int):Aj (ys.take (k+1)) a=(Aj (ys.take k) a || (y.at_==a)):=by
 unfold Aj;rw[ik,h,List.any_append];simp
theorem aiA {ys:List GW} {k:Nat} {y:GW} (h:ys[k]? =some y) {a:Int} (e:(y.at_==a)=true):Aj ys a=true:=List.any_eq_true.2 ⟨y,bJ h,e⟩
theorem yj.take {w:World} {ao:Option Addr} {c:Nat} {xs:List GW} {i:Nat} (h:yj w (.slice ao xs.length c) xs) (hi:i<=xs.length):yj w (.slice ao (xs.take i).length c) (xs.take i):=by
 refine⟨?_,fun x V=>h.2 x (List.mem_of_mem_take V)⟩;obtain⟨Mt,c',he,I,H,h3,h5⟩:=h.1;obtain⟨rfl,rfl⟩:=gq he;have hl:(xs.take i).length=i:=by rw[jr];omega
 have hf:(xs.take i).flatMap gw=(xs.flatMap gw).take (i*2):=by
  have:∀(ys:List GW) (j:Nat),(ys.take j).flatMap gw=(ys.flatMap gw).take (j*2):=by
   intro ys
   induction ys with
   |nil=>intro j;simp
   |cons y ys ih=>
    intro j
    cases j with
    |zero=>simp
    |succ j=>rw[List.take_succ_cons,pY,pY,ih,show(j+1)*2=j*2+2 by omega];simp[gw]
  exact this xs i
 have hxl:(xs.flatMap gw).length=xs.length*2:=by
  have:∀ys:List GW,(ys.flatMap gw).length=ys.length*2:=by
   intro ys
   induction ys with
   |nil=>rfl
   |cons y ys ih=>rw[pY,bP,ih,fB];show 2+_=_;omega
  exact this xs
 refine⟨ao,c,rfl,by omega,by omega,by rw[hf,jr,hxl,hl];omega,fun hn=>?_⟩;obtain⟨b,off,hb,h6⟩:=h5 (by omega);refine⟨b,off,hb,fun j u hj=>h6 j u ?_⟩;rw[hf,List.getElem?_take] at hj
 split at hj
 ·exact hj
 ·cases hj
theorem Xe {pw:Nat} {a:Int} {av:Value} (O:Sat W w (Cs pw 129 [.int .i64 a,av]::L)) (x:Int) (xv:Value):
  Calls Tryz.prog 123 #[.agg #[.int .i64 x,xv], .pointer (some ⟨pw,0,none⟩)] w fun e w'=>e= .returned (.bool (x==a))/\Sat W w' (Cs pw 129 [.int .i64 a,av]::L):=by
 go_enter Tryz.func123,Tryz.ntmps123
 go_wp2_with (first
  |(refine bV O ?_;clear O;intro px J O;rw[aS] at O)
  |(refine bB O ?_ (hk:=aa))
  |(refine bB O ?_ (hk:=hz1)))
 go_ret;exact⟨rfl,O.drop⟩
theorem ajk {pw:Nat} {a:Int} {av:Value} (O:Sat W w (Cs pw 129 [.int .i64 a,av]::L)) (ys:List GW) (ao:Option Addr) (c:Nat) (hr:∀w,Sat W w L->yj w (.slice ao ys.length c) ys) (hb:ys.length<=1000000):
  Calls Tryz.prog 144 #[.slice ao ys.length c, .func (.func 123) #[] #[.pointer (some ⟨pw,0,none⟩)]] w fun e w'=>∃i:Int,e= .returned (.int .i64 i)/\decide (0<=i)=Aj ys a/\Sat W w' (Cs pw 129 [.int .i64 a,av]::L):=by
 have HR:=Z hr;obtain⟨_,_,he,hc1,hc2,_,h5⟩:=(hr w O.drop).1;obtain⟨rfl,rfl⟩:=gq he;have H5:=Z h5;clear hr h5;have i5:(ys.length:Int)<=1000000:=by omega
 go_enter Tryz.func144,Tryz.ntmps144;go_wp2;have H0:=Z O;go_loopw [8] (fun v wz=>∃k:Nat,v= .int .i64 k/\k<=ys.length/\Aj (ys.take k) a=false/\Sat W wz (Cs pw 129 [.int .i64 a,av]::L)) (fun v _=>ys.length-(intOf v).toNat)
 case atStart=>exact⟨0,rfl,by omega,rfl,H0.F⟩
 case round=>
  clear O H0;obtain⟨k,rfl,hk,hn,O⟩:=hrel
  by_cases hl:k<ys.length
  ·have k1:(k:Int)< (ys.length:Int):=by omega
   obtain⟨b,off,rfl,_⟩:=H5.F (by omega);obtain⟨⟨xa,xv,xd⟩,V⟩:∃x,ys[k]? =some x:=⟨_,aR hl⟩
   have HX:=Z V;have HL:=Z hl;have HN:=Z (aiy V a);have HY:=Z (aiA V (a:=a));rw[hn,Bool.false_or] at HN;clear V hl hn
   cases hq:(xa==a)
   ·have HQ:=Z hq;clear hq
    go_wp2_with (first
     |(refine bN (nz (HR.F _ O.drop).1 (vU ys) _ _ (by rfl) _ (by rfl) (aI (by rfl)) (bz (by rfl)) k (by omega) HX.F (by omega)) ?_)
     |(go_at_call 123;refine(Xe O xa xv).mono ?_;rintro e J ⟨rfl,hS1⟩;rw[HQ.F];clear O;have O:=hS1;clear hS1))
    exact⟨⟨k+1,by go_num,HL.F,by rw[HN.F];exact HQ.F,O⟩,by simp[intOf];have:=HL.F;omega⟩
   ·have HQ:=Z hq;clear hq
    go_wp2_with (first
     |(refine bN (nz (HR.F _ O.drop).1 (vU ys) _ _ (by rfl) _ (by rfl) (aI (by rfl)) (bz (by rfl)) k (by omega) HX.F (by omega)) ?_)
     |(go_at_call 123;refine(Xe O xa xv).mono ?_;rintro e J ⟨rfl,hS1⟩;rw[HQ.F];clear O;have O:=hS1;clear hS1))
    go_ret;exact⟨k,rfl,by rw[HY.F HQ.F];simp,O⟩
  ·have k1:¬(k:Int)< (ys.length:Int):=by omega
   have HN:=Z (show Aj ys a=false by rw[<-hn,dF (by omega)]);clear hl hn;go_wp2;go_ret;exact⟨-1,rfl,by rw[HN.F];rfl,O⟩
theorem agV {pw:Nat} {a:Int} {av:Value} (O:Sat W w (Cs pw 129 [.int .i64 a,av]::L)) (ys:List GW) (ao:Option Addr) (c:Nat) (hr:∀w,Sat W w L->yj w (.slice ao ys.length c) ys) (hb:ys.length<=1000000):
  Calls Tryz.prog 122 #[.slice ao ys.length c, .func (.func 123) #[] #[.pointer (some ⟨pw,0,none⟩)]] w fun e w'=>e= .returned (.bool (Aj ys a))/\Sat W w' (Cs pw 129 [.int .i64 a,av]::L):=by
 go_enter Tryz.func122,Tryz.ntmps122
 go_wp2_with (go_at_call 144;refine(ajk O ys ao c hr hb).mono ?_;clear O;rintro e J ⟨i,rfl,hi,O⟩)
 go_ret;rw[<-hi];exact⟨rfl,O⟩
theorem Tm {n:Int} {g:G2} {i:Nat} {x:Int×List UInt8} (h:g[i]? =some x):Ij n g i=(okW n x&& !twice g i x.1):=by unfold Ij;rw[h]
theorem aku {n:Int} {a:Int} {d:List UInt8} (h:okW n (a,d)=false):decide (a<0)=true∨(decide (a<0)=false/\decide (n<=a)=true)∨(decide (a<0)=false/\decide (n<=a)=false/\decide (2<=a)=true/\decide (a<26)=true)∨
  (decide (a<0)=false/\decide (n<=a)=false/\decide (2<=a)=false/\((d.length:Int) != 128)=true)∨(decide (a<0)=false/\decide (n<=a)=false/\decide (2<=a)=true/\decide (a<26)=false/\((d.length:Int) != 128)=true):=by
 unfold okW at h;simp only[Bool.and_eq_false_iff,decide_eq_false_iff_not,Bool.not_eq_false',ed,decide_eq_true_eq,bne_iff_ne] at h ⊢;omega
theorem aaX {n:Int} {a:Int} {d:List UInt8} (h:okW n (a,d)=true):decide (a<0)=false/\decide (n<=a)=false/\(decide (2<=a)=false∨(decide (2<=a)=true/\decide (a<26)=false))/\((d.length:Int) != 128)=false:=by
 have I:=Du h;have H:=Oa h;dsimp only at I H;simp only[decide_eq_false_iff_not,decide_eq_true_eq,bne_eq_false_iff_eq];omega
theorem ac3 (O:Sat W w L) (xs:List GW) (ao:Option Addr) (c:Nat) (hr:∀w,Sat W w L->yj w (.slice ao xs.length c) xs) (hb:xs.length<=1000000) (n:Int):
  Calls Tryz.prog 96 #[.slice ao xs.length c, .int .i64 n] w fun e w'=>e= .returned (.bool (gT n (g2 xs)))/\Sat W w' L:=by
 have HR:=Z hr;obtain⟨_,_,he,hc1,hc2,_,h5⟩:=(hr w O).1;obtain⟨rfl,rfl⟩:=gq he;have H5:=Z h5;clear hr h5
 by_cases I:xs.length<1
 ·have i1:(xs.length:Int)<1:=by omega
  have HO:=Z (show gT n (g2 xs)=false by unfold gT;rw[qp,bf (by omega:¬1<=xs.length)];rfl);clear I;rw[HO.F];go_enter Tryz.func96,Tryz.ntmps96;go_wp2;go_ret;exact⟨rfl,O⟩
 by_cases H:20<xs.length
 ·have i1:¬(xs.length:Int)<1:=by omega
  have i2:(20:Int)< (xs.length:Int):=by omega
  have HO:=Z (show gT n (g2 xs)=false by unfold gT;rw[qp,bf (by omega:¬xs.length<=20)];simp);clear I H;rw[HO.F];go_enter Tryz.func96,Tryz.ntmps96;go_wp2;go_ret;exact⟨rfl,O⟩
 have i1:¬(xs.length:Int)<1:=by omega
 have i2:¬(20:Int)< (xs.length:Int):=by omega
 have HO:=Z (Tn (n:=n) (g:=g2 xs) (by rw[qp];omega) (by rw[qp];omega));clear I H;go_enter Tryz.func96,Tryz.ntmps96;go_wp2;have H0:=Z O;go_loopw [18] (fun v wz=>∃k:Nat,v= .int .i64 k/\k<=xs.length/\wC n (g2 xs) k=true/\Sat W wz L) (fun v _=>xs.length-(intOf v).toNat)
 case atStart=>exact⟨0,rfl,by omega,rfl,H0.F⟩
 case round=>
  clear O H0;obtain⟨k,rfl,hk,hp,O⟩:=hrel
  by_cases hl:k<xs.length
  ·have k1:(k:Int)< (xs.length:Int):=by omega
   have k2:(k:Int)<=(c:Int):=by omega
   obtain⟨b,off,rfl,_⟩:=H5.F (by omega);obtain⟨⟨xa,xv,xd⟩,V⟩:∃x,xs[k]? =some x:=⟨_,aR hl⟩
   obtain⟨ad,cd,rfl⟩:∃ad cd,xv= .slice ad xd.length cd:=(HR.F _ O).slice V;have HX:=Z V;have HL:=Z hl;have HP:=Z hp;have hat:=Tm (n:=n) (EL V);have htk:(xs.take k).length=k:=by rw[jr];omega
   have I1:=Z (fun(pw:Nat) w (h:Sat W w (Cs pw 129 [.int .i64 xa, .slice ad xd.length cd]::L))=>by
    have:=agV h (xs.take k) (some ⟨b,off,none⟩) c (fun w h=>(HR.F w h).take (by omega)) (by rw[htk];omega);rw[htk,aiz] at this
    exact this)
   have HST:=Z (N8 n (g2 xs) k);have dx:=Z (aaT (n:=n) (g:=g2 xs) (i:=k) (by rw[qp];exact hl));have HAT:=Z hat;clear V hl hp hat htk
   cases ht:twice (g2 xs) k xa
   ·have HT:=Z ht;rw[ht] at I1;clear ht
    cases hw:okW n (xa,xd)
    ·have HF:=Z (dx.F (by rw[HAT.F,hw];rfl))
     rcases aku hw with q1|⟨q1,q2⟩|⟨q1,q2,q3,q4⟩|⟨q1,q2,q3,q4⟩|⟨q1,q2,q3,q4,q5⟩
     all_goals
      clear hw
      go_wp2_with (first
       |(refine bN (nz (HR.F _ O).1 (vU xs) _ _ (by rfl) _ (by rfl) (aI (by rfl)) (bz (by rfl)) k (by omega) HX.F (by omega)) ?_)
       |(refine dU O ?_;clear O;intro px J O;rw[aS] at O)
       |(refine eT (gw ⟨xa, .slice ad xd.length cd,xd⟩) O aa ?_ (hv:=(vV _ _));clear O;intro J O;dsimp only[aD] at O)
       |(go_at_call 122;refine ak (I1.F _ _ O) ?_;clear O;intro J O)
       |(refine bB O ?_ (hk:=aa)))
      go_ret;rw[HF.F];exact⟨rfl,O.drop⟩
    ·obtain⟨q1,q2,q3,q4⟩:=aaX hw;have HQ:=Z (show wC n (g2 xs) (k+1)=true by rw[HST.F,HP.F,HAT.F,hw,HT.F];rfl);clear hw
     rcases q3 with q3|⟨q3,q5⟩
     all_goals
      go_wp2_with (first
       |(refine bN (nz (HR.F _ O).1 (vU xs) _ _ (by rfl) _ (by rfl) (aI (by rfl)) (bz (by rfl)) k (by omega) HX.F (by omega)) ?_)
       |(refine dU O ?_;clear O;intro px J O;rw[aS] at O)
       |(refine eT (gw ⟨xa, .slice ad xd.length cd,xd⟩) O aa ?_ (hv:=(vV _ _));clear O;intro J O;dsimp only[aD] at O)
       |(go_at_call 122;refine ak (I1.F _ _ O) ?_;clear O;intro J O)
       |(refine bB O ?_ (hk:=aa)))
      exact⟨⟨k+1,by go_num,HL.F,HQ.F,O.drop⟩,by simp[intOf];have:=HL.F;omega⟩
   ·have HF:=Z (dx.F (by rw[HAT.F];dsimp only;rw[ht];simp));rw[ht] at I1;clear ht
    go_wp2_with (first
     |(refine bN (nz (HR.F _ O).1 (vU xs) _ _ (by rfl) _ (by rfl) (aI (by rfl)) (bz (by rfl)) k (by omega) HX.F (by omega)) ?_)
     |(refine dU O ?_;clear O;intro px J O;rw[aS] at O)
     |(refine eT (gw ⟨xa, .slice ad xd.length cd,xd⟩) O aa ?_ (hv:=(vV _ _));clear O;intro J O;dsimp only[aD] at O)
     |(go_at_call 122;refine ak (I1.F _ _ O) ?_;clear O;intro J O)
     |(refine bB O ?_ (hk:=aa)))
    go_ret;rw[HF.F];exact⟨rfl,O.drop⟩
  ·have k1:¬(k:Int)< (xs.length:Int):=by omega
   have HF:=Z (show gT n (g2 xs)=true by rw[HO.F,qp,show xs.length=k by omega];exact hp);clear hl hp;go_wp2;go_ret;rw[HF.F];exact⟨rfl,O⟩
end Go.Proofs.YtjbiihbicknemaaGreat
