/-
  Part of the proof of StoreWhole.
-/
import Derived.Test.YtjbiihbicknemaaGreatStCommit
import Derived.Test.YtjbiihbicknemaaGreatMArg
import Derived.Laws.Tables
set_option linter.unusedSimpArgs false
set_option linter.unusedVariables false
set_option maxRecDepth 20000
set_option maxHeartbeats 40000000
namespace Go.Proofs.YtjbiihbicknemaaGreat
open Go.RowKit Go.Sep
variable {W w:World} {L:List aA}
structure aoZ (S:aK) (x:aT) (n:Nat) (y:aL):Prop where
 at_:x.at_=(n:Int)
 n48:n<48
 ino:S.aB[n]? =some y
 dl:x.data.length=x.pieces.length
 d128:∀d∈x.data,d.length=128
 next:lX y x.ino x.pieces (iR y.ptrs x.pieces.length)=true
structure aoY (B:List (List UInt8)) (S:aK) (gs:List Nat) (x:aT) (n:Nat) (y:aL) (next:Int) (shown:Bool) (B':List (List UInt8)) (S':aK):Prop where
 ok:bA B' S' gs
 len:B'.length=B.length
 aB:S'.aB=S.aB.set n (gX S [x] 0 x)
 sup:S'.sup=lq S next shown
 recs:S'.recs=S.recs
 last:S'.last=S.last
 set:sO S [x] 0 x n y
 data:∀(k p:Nat) d,(je S [x] 0 x)[k]? =some p->x.data[k]? =some d->B'[p]? =some d
 keep:∀p∈dE S.aB,B'[p]? =B[p]?
def ups (m:Nat):List Int:=(List.range m).map fun i:Nat=>(i:Int)
def apF (m:Nat) (obj:Int):aL:=⟨1,(m:Int)*128,1,obj,0,List.replicate 32 0⟩
structure KpS (i:Nat) (want:Nat->UInt8) (there:Nat->Bool) (size:Int) (f:aL) (D:aG) (B:List (List UInt8)) (S:aK):Prop where
 i12:i<=12
 lv:Lv D B (60+43*i)
 ok:bA B S [74]
 bl:B.length=400
 aB:S.aB=(S0 400).aB.set 5 f
 fk:(f=bC/\size=0)∨(f.kind=1/\f.obj=9/\f.size=size/\0<size)
 next:S.sup.next<=10
 ptr:∀j,j<32->∃p:Nat,f.ptrs[j]? =some (p:Int)/\((there j=true/\p≠0/\B[p]? =some (List.replicate 128 (want j)))∨(there j=false/\p=0))
def ap0 (there:Nat->Bool) (n k:Nat):Nat->Bool:=upd (fun j=>there j&&decide (j<n)) k true
def ap1 (z:Int) (i k:Nat) (v:UInt8) (pv dv:Value) (l9:List Value):aT:=⟨5,⟨1,z,1,9,(i:Int),List.replicate 32 0⟩,[(k:Int)],[List.replicate 128 v],pv,dv,l9⟩
structure apb (k nb c:Nat) (gs:List Nat) (D:aG) (B:List (List UInt8)) (S:aK):Prop where
 lv:Lv D B k
 ok:bA B S gs
 bl:B.length=nb
 cnt:(dE S.aB).length=c
structure ao6 (S:aK) (x:aT) (n m:Nat) (next:Int) (B B':List (List UInt8)) (S':aK):Prop where
 next:S'.sup.next=next
 recs:S'.recs=S.recs
 aB:∃f,S'.aB=S.aB.set n f/\(oo f).length=m/\∀j,j<m->∃p:Nat,f.ptrs[j]? =some (p:Int)/\p∈dE S'.aB/\B'[p]? =x.data[j]?
 keep:∀p∈dE S.aB,B'[p]? =B[p]?
attribute [local irreducible] Oper.wp wpList Calls Code.wp Sep.dR
def Br (u:Value) (d:List UInt8):aA:=Sl 5 1 u d.length (bv d)
def xv (a:Int) (x:aL) (vp vd:Value):List Value:= .int .i64 a::(inv x++[vp,vd])
theorem aoN {a:Int} {x:aL} {vp vd:Value} (h:x.ptrs.length=32):(xv a x vp vd).length=40:=by
 unfold xv;rw[fB,bP,fe,h];rfl
theorem aoM {a:Int} {x:aL} {vp vd:Value} (h:x.ptrs.length=32):(xv a x vp vd)[39]? =some vd:=by
 unfold xv;rw[xO,rP (by rw[fe,h];decide),fe,h];rfl
theorem aoP {a:Int} {x:aL} {vp vd u:Value} (h:x.ptrs.length=32):(xv a x vp vd).set 39 u=xv a x vp u:=by
 unfold xv;rw[aN,List.set_append_right _ _ (by rw[fe,h];decide),fe,h];rfl
theorem aoO {a:Int} {x:aL} {vp vd:Value} (I:vp.oneCell'=true) (H:vd.oneCell'=true):∀u∈xv a x vp vd,u.oneCell'=true:=by
 intro u hu;unfold xv at hu
 rcases oK.1 hu with rfl|hu
 ·rfl
 ·rcases gy.1 hu with hu|hu
  ·exact inv_one _ u hu
  ·simp only[oK,nE,or_false] at hu
   rcases hu with rfl|rfl
   ·exact I
   ·exact H
def aT.core (x:aT):aT:= {x with nP:= .slice none 0 0,uq:= .slice none 0 0,l9:=[]}
def iO (l:List aT):List aT:=l.map aT.core
section
variable (S:aK) (l:List aT)
theorem amU (i q:Nat):o8 (iO l) i q=o8 l i q:=by
 unfold o8 iO;rw[<-List.map_take,List.any_map];rfl
theorem am2 (i:Nat) (x:aT):wI S (iO l) i x.core=wI S l i x:=by
 unfold wI;rw[show x.core.at_=x.at_ from rfl,amU];rfl
theorem amr:jT S (iO l)=jT S l:=by
 unfold jT;rw[show(iO l).length=l.length from qa ..];congr 1;congr 1;funext i;unfold iO;rw[kY]
 cases h:l[i]? with
 |none=>rfl
 |some x=>exact am2 S l i x
theorem xL:∀l:List aT,fq (iO l)=fq l
 |[]=>rfl
 |x::l=>by
  show x.pieces.length+fq (iO l)=x.pieces.length+fq l;rw[xL l]
theorem akn (i:Nat):jG (iO l) i=jG l i:=by
 unfold jG iO;rw[<-List.map_take];exact xL _
theorem acG:dW S (iO l)=dW S l:=by unfold dW;rw[xL]
theorem aaq (i:Nat) (x:aT):je S (iO l) i x.core=je S l i x:=by unfold je;rw[acG,akn];rfl
theorem Ta (i:Nat) (x:aT):gX S (iO l) i x.core=gX S l i x:=by unfold gX;rw[aaq];rfl
theorem aik (i:Nat) (x:aT):qM S (iO l) i x.core=qM S l i x:=by unfold qM;rw[Ta];rfl
theorem MQ (i:Nat):(iO l)[i]? =(l[i]?).map aT.core:=by unfold iO;rw[kY]
theorem ZF:∀n,eP S (iO l) n=eP S l n
 |0=>rfl
 |n+1=>by
  rw[eP,eP,MQ,ZF n]
  cases l[n]? with
  |none=>rfl
  |some x=>show _=(eP S l n).set x.at_.toNat (gX S l n x);rw[<-Ta];rfl
theorem YH:∀n,gN S (iO l) n=gN S l n
 |0=>rfl
 |n+1=>by
  rw[gN,gN,MQ,YH n]
  cases l[n]? with
  |none=>rfl
  |some x=>show _=gN S l n++qM S l n x;rw[<-aik];rfl
theorem adk:∀n,jq S (iO l) n=jq S l n
 |0=>rfl
 |n+1=>by
  rw[jq,jq,MQ,adk n]
  cases l[n]? with
  |none=>rfl
  |some x=>show _=jq S l n++[(26+x.at_,encI (gX S l n x))];rw[<-Ta];rfl
theorem ag3 (i:Nat) (x:aT) (n:Nat):oW S (iO l) i x.core n=oW S l i x n:=by unfold oW;rw[aaq];rfl
theorem Xw:∀n,iJ S (iO l) n=iJ S l n
 |0=>rfl
 |n+1=>by
  rw[iJ,iJ,MQ,Xw n]
  cases l[n]? with
  |none=>rfl
  |some x=>show _=iJ S l n++oW S l n x x.data.length;rw[<-ag3];rfl
theorem Jz:iO l=[]↔l=[]:=by unfold iO;exact List.map_eq_nil_iff
theorem Gv:(iO l).length=l.length:=qa ..
theorem aaf:gm S (iO l)=gm S l:=by
 unfold gm;rw[Gv,YH,acG]
 by_cases h:l=[]
 ·rw[if_pos h,if_pos ((Jz l).2 h)]
 ·rw[if_neg h,if_neg (fun e=>h ((Jz l).1 e))]
theorem aoF (next:Int) (shown:Bool):lu S (iO l) next shown=lu S l next shown:=by
 unfold lu;rw[Gv,adk,aaf]
 by_cases h:l=[]
 ·rw[if_pos h,if_pos ((Jz l).2 h)]
 ·rw[if_neg h,if_neg (fun e=>h ((Jz l).1 e))]
theorem agS (next:Int) (shown:Bool):S.zk (iO l) next shown=S.zk l next shown:=by
 unfold aK.zk;rw[Gv,aaf,ZF]
theorem agM (next:Int):sj S (iO l) next=sj S l next:=by unfold sj;rw[amr]
theorem Rh (D:aG) (next:Int) (shown:Bool):iQ S D (iO l) next shown=iQ S D l next shown:=by
 unfold iQ;rw[agM,xL,Gv,Xw,aoF,agS];have e:((iO l=[]/\lq S next shown=S.sup)↔(l=[]/\lq S next shown=S.sup)):=by rw[Jz]
 simp only[e]
end
theorem agR {S:aK} {D:aG} {l m:List aT} (h:iO l=iO m) (next:Int) (shown:Bool):iQ S D l next shown=iQ S D m next shown:=by
 rw[<-Rh S l,h,Rh]
theorem an6 {l m:List aT} (h:iO l=iO m):fq l=fq m:=by rw[<-xL l,h,xL]
def nS (x:mI):Nat:=if x.raw then x.data.length else x.pieces.length
def yz (x:mI) (k:Nat):List UInt8:=if x.raw then x.data[k]?.getD [] else pad (x.data[k]?.getD [])
def qo (x:mI) (k:Nat):List (List UInt8):=(List.range k).map (yz x)
def zl (x:mI):List (List UInt8):=qo x (nS x)
theorem ag2 (x:mI) (k:Nat):qo x (k+1)=qo x k++[yz x k]:=by unfold qo;rw[List.range_succ,lC];rfl
theorem MX (x:mI) (k:Nat):(qo x k).length=k:=by unfold qo;rw[qa,List.length_range]
def yu (x:mI):aT:=⟨x.at_,x.ino,x.pieces,zl x, .slice none 0 0, .slice none 0 0,[]⟩
def xg (l:List mI):List aT:=(l.take 10).map yu
theorem ahr {x:mI} (h:vS x=true) (k:Nat):(yz x k).length<=200:=by
 unfold yz
 have I:(x.data[k]?.getD []).length<=200:=by
  cases e:x.data[k]? with
  |none=>simp
  |some d=>
   unfold vS at h;have:=jV.1 h d (bJ e)
   simpa using this
 split
 ·exact I
 ·rw[aba];omega
def jw (own:Bool) (x:aT):aA:=St [if own then Sl 3 1 x.nP x.pieces.length (pv x.pieces) else St [],Tb 69 1 eF x.uq x.l9,St (List.zipWith Br x.l9 x.data)]
structure zZ (W:World) (own:Bool) (x:aT):Prop where
 pl:x.ino.ptrs.length=32
 s1: -9223372036854775808<=x.ino.size
 s2:x.ino.size<=9223372036854775807
 dl:x.l9.length=x.data.length
 p:own=false->Rd W x.nP x.pieces.length 1 (pv x.pieces)
theorem jw.rd {own:Bool} {x:aT} (h:Sat W w (jw own x::L)) (hg:zZ W own x):QT w x:=by
 have H:Sat W w (_::Tb 69 1 eF x.uq x.l9::St (List.zipWith Br x.l9 x.data)::L):=h.open
 exact
  {pl:=hg.pl
   s1:=hg.s1
   s2:=hg.s2
   p:=by
    cases own with
    |false=>exact(hg.p rfl).old h
    |true=>exact(show Sat W w (Sl 3 1 x.nP x.pieces.length (pv x.pieces)::_) from H).dY (k:=0) rfl
   dl:=hg.dl
   d:=by
    have:=H.kK (k:=1) rfl;rw[TA,hg.dl] at this;exact this
   b:=fun n v c hv hc=>by
    obtain⟨L',h3⟩:=H.Uj (k:=2) rfl hv hc
    exact(show Sat W w (Sl 5 1 v c.length (bv c)::L') from h3).dY (k:=0) rfl}
theorem ace {W w:World} {M:List aA} {E k1 k2:Nat} {own:Bool} {v:Value} {A:List aT} (h:Sat W w M) (I:Has M k1 (Tb E 40 bX v A)) (H:Has M k2 (St (A.map (jw own)))) (hg:∀x∈A,zZ W own x):Gg w v A:=by
 refine⟨h.kK I,fun x V=>?_⟩;have h3:Sat W w (A.map (jw own)++M.eraseIdx k2):=(h.front k2 H).open
 obtain⟨i,hi⟩:=jJ V;have hil:=(bZ.1 hi).1;exact jw.rd (h3.front i (show(A.map (jw own)++M.eraseIdx k2)[i]? =some _ by rw[xN (by rw[qa];exact hil),kY,hi];rfl)) (hg x V)
/-! ### a struct built of a struct -/
theorem KH {P:Program} {a:Act} {o:Oper} {T:TypeId} {ps:Array (Nat×Operand)} (ho:o.op= .build T ps) {parts:Array (Nat×Value)} (hp:(ps.map fun(i,x)=>(i,a.eval x))=parts) {cs:Array Value} (h:P.built T parts.toList=some cs) (w:World):(execOp a.eval o).run P w= .ok (.value (.agg cs)) w:=by
 subst hp;exact uL (s:=Instr.build T (ps.map fun(i,x)=>(i,a.eval x))) (by simp only[execOp,ho]) (run_build w T _ cs h)
theorem OX {k E sz n:Nat} {v:Value} {vs:List Value} (h:Sat W w L) (hk:Has L k (Sl E sz v n vs)):∃ao m c,v= .slice ao m c:=by
 obtain⟨ao,c,rfl,_⟩:=h.tK hk;exact⟨ao,n,c,rfl⟩
theorem _root_.Go.Sep.Sat.am7 {A:aA} {E sz n m:Nat} {v:Value} {vs:List Value} (h:Sat W w (A::Sl E sz v n vs::L)) (hn:n=m):Rd w v m sz vs:=by
 subst hn;exact h.dY (k:=1) rfl
theorem adw {R:Value->List UInt8->aA} {vs:List Value} {xs:List (List UInt8)} {v:Value} {x:List UInt8} (h:vs.length=xs.length):List.zipWith R (vs++[v]) (xs++[x])=List.zipWith R vs xs++[R v x]:=by rw[List.zipWith_append h];rfl
theorem Xr {b E:Nat} {d:List UInt8} (hd:d.length=128) (h:Sat W w (Cs b E (bv d)::L)):Sat W w (Br (.slice (some ⟨b,0,none⟩) 128 128) d::L):=by
 unfold Br;rw[hd];have H:Sat W w (Cs b E ([]++bv d++[])::L):=by simpa using h
 exact Sat.pW (n:=128) (cap:=128) (sz:=1) H (aZ _) (by decide) (by rw[jR,hd]) rfl (by rw[jR,hd];decide)
theorem acm {α:Type} {l:List α} {n:Nat} (h:l.length=n+1):∃a t,l=a::t/\t.length=n:=by
 cases l with
 |nil=>simp at h
 |cons a t=>exact⟨a,t,rfl,by simpa using h⟩
theorem agn (a:Int) (x:aL) (V:x.ptrs.length=32) (v:Value) (hv:∃ao n c,v= .slice ao n c):Tryz.prog.built 133 (#[(0, .int .i64 a),(1, .agg (inv x).toArray),(2,v)]:Array (Nat×Value)).toList=some (xv a x v (.slice none 0 0)).toArray:=by
 obtain⟨ao,n,c,rfl⟩:=hv;obtain⟨k,z,l,o,nd,ps⟩:=x;dsimp only at V
 iterate 32 (have I:=acm V;clear V;obtain⟨_,_,rfl,V⟩:=I)
 obtain rfl:=yZ.1 V;show _=_
 kernel_rfl
theorem agp (a:Int) (x:aL) (V:x.ptrs.length=32) (v:Value) (hv:∃ao n c,v= .slice ao n c):Tryz.prog.built 134 (#[(0, .int .i64 a),(1, .agg (inv x).toArray),(2,v)]:Array (Nat×Value)).toList=some (xv a x v (.slice none 0 0)).toArray:=by
 obtain⟨ao,n,c,rfl⟩:=hv;obtain⟨k,z,l,o,nd,ps⟩:=x;dsimp only at V
 iterate 32 (have I:=acm V;clear V;obtain⟨_,_,rfl,V⟩:=I)
 obtain rfl:=yZ.1 V;show _=_
 kernel_rfl
end Go.Proofs.YtjbiihbicknemaaGreat
