/-
  Part of the proof of StoreWhole.
-/
import Derived.Test.YtjbiihbicknemaaGreatStTake
set_option linter.unusedSimpArgs false
set_option linter.unusedVariables false
set_option maxRecDepth 20000
set_option maxHeartbeats 40000000
namespace Go.Proofs.YtjbiihbicknemaaGreat
open Go.RowKit Go.Sep
variable {W w:World} {L:List aA}
attribute [local irreducible] Oper.wp wpList Calls Code.wp Sep.dR Sep.fJ
structure aK where
 sup:di
 U:Nat->Bool
 aB:List aL
 recs:List bM
 last:Nat
def bF (ps pd:Nat) (S:aK):aA:=Ex fun x:Value×Value=>St [Cs ps 112 (bU pd S.sup x.1 S.aB x.2 S.last),IsMap x.1 S.U,Tb 100 3 rv x.2 S.recs]
theorem bF.open {ps pd:Nat} {S:aK} (h:Sat W w (bF ps pd S::L)):∃fv r,Sat W w (Cs ps 112 (bU pd S.sup fv S.aB r S.last)::IsMap fv S.U::Tb 100 3 rv r S.recs::L):=by
 obtain⟨⟨fv,r⟩,h⟩:=h.ex;exact⟨fv,r,h.open⟩
theorem bF.mk {ps pd:Nat} {S:aK} {fv r:Value} (h:Sat W w (Cs ps 112 (bU pd S.sup fv S.aB r S.last)::IsMap fv S.U::Tb 100 3 rv r S.recs::L)):Sat W w (bF ps pd S::L):=
 Sat.yH (fv,r) (Sat.sH h)
theorem Ux {v:Value} {S:Nat->Bool} (O:Sat W w (IsMap v S::L)) (n:Nat) (hn:n<1024) (hu:S n=false):
  Calls Tryz.prog 56 #[v, .int .i64 (n:Int)] w fun e w'=>e= .returned (.bool true)/\Sat W w' (IsMap v (upd S n true)::L):=by
 have HB:=Z (Gp O n hn true);unfold IsMap at*;obtain⟨b,off,c,rfl,_⟩:=O.kV (k:=0) rfl (by decide);have HU:=Z (Ps O S b off c n hn (fun w h=>h.dY (k:=0) rfl));rw[hu] at HU;clear hn hu O;go_enter Tryz.func56,Tryz.ntmps56
 go_wp2_with (first
  |(go_at_call 100;refine HU.F.mono ?_;rintro e J ⟨rfl,rfl⟩)
  |(go_at_call 28;refine HB.F.mono ?_;rintro e J ⟨rfl,O⟩))
 go_ret;exact⟨rfl,O⟩
theorem aci {ps pd:Nat} {S:aK} (O:Sat W w (bF ps pd S::L)) (hX:iH S.aB) (n:Nat) (hn:n<=1000) (hl:S.last<=15):
  Calls Tryz.prog 61 #[.pointer (some ⟨ps,0,none⟩), .int .i64 (n:Int)] w fun e w'=>e= .returned (.int .i64 (((n+S.last-1) / 15:Nat):Int))/\w=w':=by
 obtain⟨fv,r,O⟩:=bF.open O
 have HL:=Z (Uk (pd:=pd) (s:=S.sup) (fv:=fv) (r:=r) (last:=S.last) hX);have n1:(n:Int)<=1000:=by omega
 have n2:(S.last:Int)<=15:=by omega
 obtain⟨m,hm⟩:=au S.last;rw[hm] at HL O n2 hl ⊢
 by_cases h0:n<=15-m
 ·have HE:=Z (show(n+m-1) / 15=0 by omega);have e1:(n:Int)-(15-(m:Int))<=0:=by omega
  clear hm hn hl h0;go_enter Tryz.func61,Tryz.ntmps61
  go_wp2_with (refine aH O aa HL.F ?_)
  go_ret;exact⟨by rw[HE.F];rfl,rfl⟩
 ·obtain⟨k,hk⟩:=au (n+m-16);have HE:=Z (show(n+m-1) / 15=k / 15+1 by omega);have e1:¬(n:Int)-(15-(m:Int))<=0:=by omega
  clear hm hn hl h0 hk;go_enter Tryz.func61,Tryz.ntmps61
  go_wp2_with (refine aH O aa HL.F ?_)
  go_ret;exact⟨congrArg (fun z=>Ending.returned (Value.int IntKind.i64 z)) (by omega),rfl⟩
theorem Ui {ps pd:Nat} {S:aK} (O:Sat W w (bF ps pd S::L)) (hX:iH S.aB):
  Calls Tryz.prog 23 #[.pointer (some ⟨ps,0,none⟩)] w fun e w'=>e= .returned (.agg (sv S.sup).toArray)/\Sat W w' (bF ps pd S::L):=by
 obtain⟨fv,r,O⟩:=bF.open O
 have HL:=Z (vD (pd:=pd) (s:=S.sup) (fv:=fv) (r:=r) (last:=S.last) hX);have HS:=Z (Pb (pd:=pd) (s:=S.sup) (fv:=fv) (X:=S.aB) (r:=r) (last:=S.last));have HM:=Z (fun w (h:Sat W w (_::_))=>bF.mk (W:=W) (w:=w) (L:=L) (ps:=ps) (pd:=pd) (S:=S) (fv:=fv) (r:=r) h);obtain⟨kN,hV⟩:=au (bU pd S.sup fv S.aB r S.last);rw[hV] at O HL HS HM;clear hV;go_enter Tryz.func23,Tryz.ntmps23
 go_wp2_with (first
  |(refine dU O ?_;clear O;intro p2 J O;rw[aS] at O)
  |(refine dm O hz1 (sv S.sup) ?_ (hvs:=HS.F))
  |(refine eT (sv S.sup) O aa ?_ (hv:=(lI _));clear O;intro J O;dsimp only[aD,aN] at O))
 refine agk O rfl (by rfl) (aI (by rfl)) (bz (by rfl)) aa (by rfl) rfl ?_;exact⟨rfl,HM.F _ O.drop⟩
theorem has_add {M:List aA} {k:Nat} {A:aA} (h:Has M k A) (L':List aA):Has (L'++M) (L'.length+k) A:=by
 induction L' with
 |nil=>rw[List.length_nil,Nat.zero_add];exact h
 |cons x L' ih=>rw[fB,Nat.add_right_comm];exact Has.s ih
theorem qy {W:World} {M:List aA} {k:Nat} {v:Value} {U:Nat->Bool} (h:Has M k (IsMap v U)):∀w L',Sat W w (L'++M)->Rd w v 128 1 (bv (cO U)):=by
 intro w L' O;have H:=has_add h L';unfold IsMap at H;exact O.dY H
theorem acf {ps pd n:Nat} {S:aK} (O:Sat W w (bF ps pd S::L)) (hn:S.sup.blocks=(n:Int)) (h0:0<n) (I:n<=1024):
  Calls Tryz.prog 41 #[.pointer (some ⟨ps,0,none⟩)] w fun e w'=>e= .returned (.int .i64 (((bT S.U n).length:Nat):Int))/\Sat W w' (bF ps pd S::L):=by
 obtain⟨fv,r,O⟩:=bF.open O
 obtain⟨b,off,c,rfl,_⟩:∃b off c,fv= .slice (some ⟨b,off,none⟩) 128 c/\128<=c:=by
  have hk:Has (Cs ps 112 (bU pd S.sup fv S.aB r S.last)::IsMap fv S.U::Tb 100 3 rv r S.recs::L) 1 (IsMap fv S.U):=hz1;unfold IsMap at hk;exact O.kV hk (by decide)
 have g1:(bU pd S.sup (.slice (some ⟨b,off,none⟩) 128 c) S.aB r S.last)[1]? =some (.int .i64 (n:Int)):=by rw[Cg (by decide),<-hn];rfl
 have g8:(bU pd S.sup (.slice (some ⟨b,off,none⟩) 128 c) S.aB r S.last)[8]? =some (.slice (some ⟨b,off,none⟩) 128 c):=O6
 have HM:=Z (fun w h=>bF.mk (W:=W) (w:=w) (L:=L) (ps:=ps) (pd:=pd) (S:=S) (fv:= .slice (some ⟨b,off,none⟩) 128 c) (r:=r) h);obtain⟨kN,hV⟩:=au (bU pd S.sup (.slice (some ⟨b,off,none⟩) 128 c) S.aB r S.last);rw[hV] at O HM g1 g8;have HF:=Z (fun w (h:Sat W w (Cs ps 112 kN::IsMap (.slice (some ⟨b,off,none⟩) 128 c) S.U::Tb 100 3 rv r S.recs::L))=>ahV h S.U b off c n I h0 (qy hz1));have G1:=Z g1;have G8:=Z g8;clear hV g1 g8 hn h0 I;go_enter Tryz.func41,Tryz.ntmps41;go_wp2
 (refine cB (pO [0,1,2]<|rO [3]<|pO [4,5,6,7]<|rO [8]<|aO [9]<|pO [10]<| .e) [9] O ?_;clear O;intro J O)
 repeat (first
  |(refine bG O ?_;go_frame)
  |(refine bR O ?_;(first
   |refine bK aa G1.F ?_
   |refine bK aa G8.F ?_);go_frame)
  |(refine bY fun K hK=>?_;(refine jy (HF.F _ O) ?_;clear O;intro J O);refine hK.go O ?_;clear hK K;go_frame))
 refine bO ?_;go_wp2;go_ret;exact⟨rfl,HM.F _ O⟩
def iW (n:Nat) (l:List Nat) (p:Nat):Bool:=lJ n p || l.contains p
theorem UB (n:Nat):iW n []=lJ n:=by funext p;simp[iW]
theorem Pq (n:Nat) (l:List Nat) (q:Nat):upd (iW n l) q true=iW n (l++[q]):=by
 funext p;unfold upd iW
 by_cases h:p=q
 ·subst h;simp
 ·rw[if_neg h];simp[h]
theorem UA {n:Nat} {l:List Nat} {q:Nat} (I:74<=q) (H:q<n) (h3:q∉l):iW n l q=false:=by
 unfold iW lJ;rw[bf (by omega),bf (by omega)];simp[h3]
def oo (x:aL):List Nat:=(x.ptrs.filter (fun p=>decide (p≠0))).map Int.toNat
def dE (X:List aL):List Nat:=X.flatMap oo
def chunk (l:List bM) (i:Nat):List bM:=(l.drop (15*i)).take 15
def jo (gs:List Nat) (i:Nat):Int:=((gs[i+1]?.getD 0:Nat):Int)
structure bA (B:List (List UInt8)) (S:aK) (gs:List Nat):Prop where
 n1:160<=B.length
 n2:B.length<=1024
 x:iH S.aB
 sup:eQ S.sup=true
 blocks:S.sup.blocks=(B.length:Int)
 ne:gs≠[]
 head:S.sup.head=((gs.head ne:Nat):Int)
 tail:S.sup.tail=((gs.getLast ne:Nat):Int)
 recs:S.sup.records=((S.recs.length:Nat):Int)
 low:15*(gs.length-1)<=S.recs.length
 high:S.recs.length<=15*gs.length
 last:S.last=S.recs.length-15*(gs.length-1)
 zK:S.recs.all mq=true
 gr:(Gr.new.jl S.recs).2=S.recs.length
 gU:∀p∈dE S.aB++gs,74<=p/\p<B.length
 nd:(dE S.aB++gs).Nodup
 u:S.U=iW B.length (dE S.aB++gs)
 b0:B[0]? =some (encS S.sup)
 b1:B[1]? =some (cO S.U)
 b2:B[2]? =some (zeros 128)
 bi:∀(i:Nat) x,S.aB[i]? =some x->B[26+i]? =some (encI x)
 bg:∀(i:Nat) g,gs[i]? =some g->B[g]? =some (gL (chunk S.recs i) (jo gs i))
theorem Ig:∀(n:Nat) (l:List Nat),l.Nodup->(∀x∈l,x<n)->l.length<=n
 |0,l,_,h=>by
  cases l with
  |nil=>exact aZ _
  |cons x l=>exact absurd (h x (List.mem_cons_self ..)) (qd _)
 |n+1,l,hn,h=>by
  by_cases hm:n∈l
  ·have:=Ig n (l.erase n) (hn.erase n) (fun x V=>by
    have H:=(hn.mem_erase_iff).1 V;have:=h x H.2;have:=H.1
    omega)
   rw[List.length_erase_of_mem hm] at this;omega
  ·have:=Ig n l hn (fun x V=>by
    have:=h x V;have:x≠n:=fun e=>hm (e▸V)
    omega)
   omega
theorem bA.Ai {B:List (List UInt8)} {S:aK} {gs:List Nat} (h:bA B S gs):gs.length<=1024:=by
 have I:gs.Nodup:=(lZ.1 h.nd).2.1;have H:∀p∈gs,p<1024:=fun p hp=>by have:=(h.gU p (nD _ hp)).2;have:=h.n2;omega
 exact Ig 1024 gs I H
theorem um {l:List bM} {i:Nat} :(chunk l i).length=min 15 (l.length-15*i):=by unfold chunk;rw[jr,yY]
theorem Xf (l:List bM) (i:Nat):l.take (15*i)++chunk l i=l.take (15*(i+1)):=by
 unfold chunk;rw[show 15*(i+1)=15*i+15 by omega,List.take_add]
theorem bA.jM {B:List (List UInt8)} {S:aK} {gs:List Nat} (h:bA B S gs) (i:Nat):jM (chunk S.recs i) (jo gs i)=true:=by
 unfold Proofs.YtjbiihbicknemaaGreat.jM
 have I:(chunk S.recs i).all mq=true:=by
  rw[jV];intro x V;exact jV.1 h.zK x (List.mem_of_mem_drop (List.mem_of_mem_take V))
 have H:tu (jo gs i)=true:=by
  unfold jo
  cases hg:gs[i+1]? with
  |none=>rfl
  |some g=>
   have:=h.gU g (nD _ (bJ hg));have:=h.n2;unfold tu bI;simp;omega
 rw[I,H,bL (by rw[um];omega)];rfl
def S0 (n:Nat):aK:=⟨vE n,U0 n,(List.range 48).map sD,[],0⟩
theorem agf {x:aL} (h:x.ptrs=List.replicate 32 0):oo x=[]:=by unfold oo;rw[h];rfl
theorem ajl (i:Nat):(sD i).ptrs=List.replicate 32 0:=by unfold sD;split<;>rfl
theorem MH (n:Nat):dE (S0 n).aB=[]:=by
 unfold dE S0;rw[List.flatMap_eq_nil_iff];intro x V;obtain⟨i,_,rfl⟩:=rQ.1 V;exact agf (ajl i)
theorem amP {n i:Nat} {x:aL} (h:(S0 n).aB[i]? =some x):i<48/\x=sD i:=by
 unfold S0 at h;dsimp only at h;have hi:=(bZ.1 h).1;rw[qa,List.length_range] at hi;rw[kY,List.getElem?_range hi] at h;exact⟨hi,(ig h).symm⟩
theorem OZ {n:Nat} (I:160<=n) (H:n<=1024):bA (sW n) (S0 n) [74] where
 n1:=by rw[GI];exact I
 n2:=by rw[GI];exact H
 x:=⟨by unfold S0;simp,fun x V=>by
  obtain⟨i,_,rfl⟩:=rQ.1 V
  exact Tq i⟩
 sup:=Ik I H
 blocks:=by rw[GI];rfl
 ne:=by simp
 head:=rfl
 tail:=rfl
 recs:=rfl
 low:=aZ _
 high:=eG _
 last:=rfl
 zK:=rfl
 gr:=rfl
 gU p hp:=by
  rw[MH,iP,eD] at hp;subst hp;rw[GI];omega
 nd:=by rw[MH];simp
 u:=by
  rw[MH,GI,<-Pq,UB];rfl
 b0:=ahM I
 b1:=ahN I
 b2:=ahO I
 bi i x V:=by
  obtain⟨hi,rfl⟩:=amP V;exact ahQ I hi
 bg i g hg:=by
  have hi:=(bZ.1 hg).1;obtain rfl:i=0:=by simp at hi;omega
  obtain rfl:74=g:=by simpa using hg
  exact ahP I
theorem bA.Xi {B:List (List UInt8)} {S:aK} {gs:List Nat} (h:bA B S gs) (s':di):w9 B.length [(0,encS s')]:=by
 have I:=h.n1
 exact Tp (aZ _) (by simp) (fun x V=>by
  rw[eD.1 V]
  exact⟨⟨Int.le_refl _,(by show(0:Int)<_;omega),oD s'⟩, .inl (show(0:Int)<2 by decide)⟩) (by simp)
theorem bA.ak7 {B:List (List UInt8)} {S:aK} {gs:List Nat} (h:bA B S gs) {s':di} (hs:eQ s'=true) (e1:s'.blocks=S.sup.blocks) (e2:s'.head=S.sup.head) (e3:s'.tail=S.sup.tail) (e4:s'.records=S.sup.records):
  bA (oV B [(0,encS s')]) {S with sup:=s'} gs:=by
 have hg:=h.Xi s';have hn1:=h.n1
 have ho:∀j:Nat,j≠0->(j<2∨26<=j)->(oV B [(0,encS s')])[j]? =B[j]? :=fun j hj hj2=>CU hg hj2 (fun x V=>by
  rw[eD.1 V];show(0:Int).toNat≠j;have:(0:Int).toNat=0:=rfl
  omega)
 exact
  {n1:=by rw[qK];exact h.n1
   n2:=by rw[qK];exact h.n2
   x:=h.x
   sup:=hs
   blocks:=by rw[qK];exact e1.trans h.blocks
   ne:=h.ne
   head:=e2.trans h.head
   tail:=e3.trans h.tail
   recs:=e4.trans h.recs
   low:=h.low
   high:=h.high
   last:=h.last
   zK:=h.zK
   gr:=h.gr
   gU:=by rw[qK];exact h.gU
   nd:=h.nd
   u:=by rw[qK];exact h.u
   b0:=EE hg (j:=0) (eD.2 rfl)
   b1:=(ho 1 (by omega) (by omega)).trans h.b1
   b2:=Rc (by omega)
   bi:=fun i x V=>(ho (26+i) (by omega) (by omega)).trans (h.bi i x V)
   bg:=fun i g hg'=>by
    have:=(h.gU g (nD _ (bJ hg'))).1
    exact(ho g (by omega) (by omega)).trans (h.bg i g hg')}
theorem ah5 (xs:List GW) (a:Int) (v:Value) (d:List UInt8):g2 (xs++[⟨a,v,d⟩])=g2 xs++[(a,d)]:=by simp[g2]
theorem RQ {ps pd k:Nat} {v:Value} {kN:List Value} {xs:List GW} {D:aG} (O:Sat W w (Tb 129 2 gw v xs::Cs ps 112 kN::aP pd D::L)) (g0:kN[0]? =some (.pointer (some ⟨pd,0,none⟩)))
  (hG:DG D k) (hk:k<=90000) (s':di) (hs:eQ s'=true) (V:xs.length<=1000)
  (hd:∀w L',Sat W w (L'++L)->∀x∈xs,Rd w x.val x.data.length 1 (bv x.data)):
  Calls Tryz.prog 62 #[.pointer (some ⟨ps,0,none⟩),v, .agg (sv s').toArray] w fun e w'=>e= .returned (.int .i64 (jm D (g2 xs++[(0,encS s')])).1)/\Sat W w' (Cs ps 112 kN::aP pd (jm D (g2 xs++[(0,encS s')])).2::L):=by
 have G0:=Z g0;have PU:=Z hG;have nI:=Z hs;have Cv:=Z (wL hs);have HD:=Z hd;have eY:=Z V;have LM:=Z (fun v=>ah5 xs 0 v (encS s'));obtain⟨es,hes⟩:=au (encS s');have iT:=Z (show es.length=128 by rw[<-hes];exact oD s');clear hG hs hd g0 V;rw[hes] at Cv LM ⊢;go_enter Tryz.func62,Tryz.ntmps62
 go_wp2_with (first
  |(refine bV O ?_;clear O;intro pb J O;rw[aS] at O)
  |(refine dm O aa (sv s') ?_)
  |(go_at_call 31;refine(IA O s').mono ?_;rintro e J ⟨v7,rfl,hS1⟩;rw[nI.F];rw[Cv.F] at hS1;clear O;have O:=hS1;clear hS1))
 obtain⟨b7,o7,c7,rfl,_⟩:=O.kV (k:=0) rfl (by rw[iT.F];decide);obtain⟨x0,hx0⟩:∃x0:GW,x0=⟨0, .slice (some ⟨b7,o7,none⟩) es.length c7,es⟩:=⟨_,rfl⟩;have HX0:=Z hx0;have ug:=Z (show gw x0=[.int .i64 0, .slice (some ⟨b7,o7,none⟩) es.length c7] by rw[hx0];rfl);have mH:=Z (show ∀x∈[x0],(gw x).length=2 from fun _ _=>rfl);have Ej:=Z (show ∀u∈gw x0,u.oneCell'=true by rw[hx0];exact vV 0 es)
 have HCM:=Z (fun w b1 Gm c4 (h:Sat W w (Cs b1 129 (gw x0)::Sl 5 1 (.slice (some ⟨b7,o7,none⟩) es.length c7) es.length (bv es)::Cs pb 55 (sv s')::Tb 129 2 gw (.slice Gm (xs++[x0]).length c4) (xs++[x0])::Cs ps 112 kN::aP pd D::L))=>
  aok (h.re [5,3,0,1,2,4]) PU.F hk (xs++[x0]) Gm c4 (fun w h=>⟨h.kK (k:=0) rfl,fun x V=>by
   rcases gy.1 V with V|V
   ·exact HD.F w [_,_,_,_,_] h x V
   ·rw[eD.1 V,HX0.F]
    exact h.dY (k:=2) rfl⟩) (by have:=eY.F;rw[bP,dC];omega))
 rw[show g2 (xs++[x0])=g2 xs++[(0,es)] by rw[hx0];exact LM.F _] at HCM;clear hx0
 (refine ll (pO [0,1,2]<|rO [3]<|pO [4,5,6]<|aO [7,8,9]<|pO [10]<| .e) [9] O (fun _ h=>h.one hz3) ?_;clear O;intro J O)
 repeat (first
  |(refine bG O ?_ (hL:=fun _ h=>by first|exact h|exact h.one hz3|(first|exact h.one hz3|exact h.drop.one hz3));go_frame)
  |(refine bR O ?_ (hL:=fun _ h=>by first|exact h|exact h.one hz3|(first|exact h.one hz3|exact h.drop.one hz3));(refine bK aa G0.F ?_);go_frame)
  |(refine bY fun K hK=>?_;(first
   |(refine jy (HCM.F _ _ _ _ O) ?_;clear O;intro J O)
   |(refine mJ [.agg (gw x0).toArray] O ?_ (hvs:=by rw[ug.F];rfl) (hc:=by rw[ug.F];simp[Value.cells]);clear O;intro b1 J O;rw[kP] at O)
   |(refine Js O hz3 [x0] ?_ (hlen:=mH.F) (hsrc:=by exact O.gZ aa rfl) (I:=by rw[xh];exact Ej.F) (hb:=by have:=eY.F;simp;omega) (hm:=by have:=eY.F;simp;omega);clear O;intro Gm c4 J _ O;dsimp only[aD,aN] at O));first|refine hK.gu O ?_|refine hK.gu O ?_ (.inr ⟨rfl,fun _ h=>by first|exact h.one hz3|exact h.drop.one hz3⟩);clear hK K;go_frame))
 refine bO ?_;go_wp2;go_ret;exact⟨rfl,(O.re [1,2,3,4,5,0]).drop.drop.drop.drop⟩
theorem YR {ps pd k:Nat} {v:Value} {xs:List GW} {S:aK} {D:aG} (O:Sat W w (Tb 129 2 gw v xs::bF ps pd S::aP pd D::L))
  (hG:DG D k) (hk:k<=90000) (s':di) (hs:eQ s'=true) (V:xs.length<=1000)
  (hd:∀w L',Sat W w (L'++L)->∀x∈xs,Rd w x.val x.data.length 1 (bv x.data)):
  Calls Tryz.prog 62 #[.pointer (some ⟨ps,0,none⟩),v, .agg (sv s').toArray] w fun e w'=>e= .returned (.int .i64 (jm D (g2 xs++[(0,encS s')])).1)/\Sat W w' (bF ps pd S::aP pd (jm D (g2 xs++[(0,encS s')])).2::L):=by
 obtain⟨fv,r,hS1⟩:=bF.open (O.bW)
 refine(RQ (L:=IsMap fv S.U::Tb 100 3 rv r S.recs::L) (hS1.re [3,0,4]) rfl hG hk s' hs V (fun w L' h=>hd w (L'++[_,_]) (by rw[dX];exact h))).mono ?_;rintro e w' ⟨I,H⟩;exact⟨I,bF.mk (H.re [0,2,3])⟩
def zM (s:di):di:= {s with cZ:=s.cZ+1}
theorem Ut {s:di} (h:eQ s=true) (H:s.cZ<16777215):eQ (zM s)=true:=by
 unfold eQ zM bI at*;simp only[ed,decide_eq_true_eq] at h ⊢;obtain⟨h,h3⟩:=h;exact⟨h,by omega,by omega⟩
def pR (S:aK) (D:aG):Int×aK×aG:=
 if 16777215<=S.sup.cZ then(5,S,D)
 else((jm D [(0,encS (zM S.sup))]).1,(if(jm D [(0,encS (zM S.sup))]).1=0 then {S with sup:=zM S.sup} else S),(jm D [(0,encS (zM S.sup))]).2)
theorem aaW {s:di} (h:eQ s=true):0<=s.cZ/\s.cZ<=16777215:=by
 unfold eQ bI at h;simp only[ed,decide_eq_true_eq] at h;exact h.2
theorem ana {ps pd k:Nat} {S:aK} {D:aG} (O:Sat W w (bF ps pd S::aP pd D::L)) (hX:iH S.aB)
  (hD:DG D k) (hk:k<=90000) (hs:eQ S.sup=true):
  Calls Tryz.prog 46 #[.pointer (some ⟨ps,0,none⟩)] w fun e w'=>e= .returned (.int .i64 (pR S D).1)/\Sat W w' (bF ps pd (pR S D).2.1::aP pd (pR S D).2.2::L):=by
 obtain⟨s',he⟩:=au (zM S.sup);obtain⟨fv,r,hS1⟩:=bF.open O
 obtain⟨hm1,hm2⟩:=aaW hs;have nJ:=Z (Pb (pd:=pd) (s:=S.sup) (fv:=fv) (X:=S.aB) (r:=r) (last:=S.last));have nX:=Z (fun fv r=>vD (pd:=pd) (s:=S.sup) (fv:=fv) (r:=r) (last:=S.last) hX);have HST:=Z (fun fv r=>KW (pd:=pd) (s:=S.sup) (s':=s') (fv:=fv) (X:=S.aB) (r:=r) (last:=S.last));have HM:=Z (fun w L fv r h=>bF.mk (W:=W) (w:=w) (L:=L) (ps:=ps) (pd:=pd) (S:= {S with sup:=s'}) (fv:=fv) (r:=r) h);have CF:=Z (fun w L fv r h=>bF.mk (W:=W) (w:=w) (L:=L) (ps:=ps) (pd:=pd) (S:=S) (fv:=fv) (r:=r) h);have jQ:=Z (show ∀v∈sv s',v.oneCell'=true by intro v hv;simp only[sv,oK,nE,or_false] at hv;rcases hv with rfl|rfl|rfl|rfl|rfl|rfl|rfl<;>rfl);have jK:=Z (show(sv S.sup).set 6 (.int .i64 (S.sup.cZ+1))=sv s' by rw[<-he];rfl);have HO:=Z (fun w L (h:Sat W w (bF ps pd S::L))=>bF.open h)
 by_cases hfull:16777215<=S.sup.cZ
 ·rw[show pR S D=(5,S,D) from if_pos hfull];have hmm:S.sup.cZ=16777215:=by omega
  have iK:=Z (show(sv S.sup)[6]? =some (.int .i64 16777215) by rw[<-hmm];rfl);rw[hmm] at jK;have jK:=Z (show(sv S.sup).set 6 (.int .i64 16777216)=sv s' from jK.F);have Md:=Z (show(sv s')[6]? =some (.int .i64 16777216) by rw[<-jK.F];rfl);obtain⟨kN,hV⟩:∃kN:Value->Value->List Value,(fun fv r=>bU pd S.sup fv S.aB r S.last)=kN:=⟨_,rfl⟩;have hV1:∀fv r,bU pd S.sup fv S.aB r S.last=kN fv r:=fun fv r=>congrFun (congrFun hV fv) r
  simp only[hV1] at hS1 nJ nX HST CF HO;clear O hV hV1 he hs hD hX hfull hm1 hm2 hmm;have O:=hS1;clear hS1;go_enter Tryz.func46,Tryz.ntmps46
  go_wp2_with (first
    |(refine dm O aa (sv S.sup) ?_ (hvs:=nJ.F))
    |(refine dU O ?_;clear O;intro p3 J O;rw[aS] at O)
    |(refine eT (sv S.sup) O aa ?_ (hv:=(lI _));clear O;intro J O;rw[aD] at O)
    |(refine aH O aa iK.F ?_)
    |(refine aH O aa Md.F ?_)
    |(refine dm O aa (sv s') ?_)
    |(refine dm O fD (sv s') ?_)
    |(go_at_call 62;refine(HG.F _ _ O).mono ?_;rintro e J ⟨rfl,hS2⟩;obtain⟨RA,r2,hS1⟩:=HO.F _ _ hS2;clear hS2;clear O;have O:=hS1;clear hS1)
    |(refine kW (sv s') O aa ?_ (hv:=jQ.F) (hb:=by rw[nX.F];show 8<=1787;decide);clear O;intro J O;rw[aD,show 1+(sv s').length=8 from rfl,HST.F] at O)
    |(refine iA O aa ?_;clear O;intro J O;rw[aD,jK.F] at O))
  go_ret;exact⟨rfl,CF.F _ _ _ _ O.drop⟩
 ·have hs2:eQ s'=true:=by rw[<-he];exact Ut hs (by omega)
  obtain⟨c,D',hc⟩:∃c D',jm D [(0,encS s')]=(c,D'):=⟨_,_,rfl⟩
  have hmr:pR S D=(c,(if c=0 then {S with sup:=s'} else S),D'):=by
   unfold pR;rw[if_neg hfull,he,hc]
  rw[hmr]
  have HG:=Z (fun w p3 (h:Sat W w (Cs p3 55 (sv s')::Cs ps 112 (bU pd S.sup fv S.aB r S.last)::IsMap fv S.U::Tb 100 3 rv r S.recs::aP pd D::L))=>
   YR (v:= .slice none 0 0) (xs:=[]) (L:=Cs p3 55 (sv s')::L) (Sat.jb (bF.mk ((h.re [1,2,3,4,0])))) hD hk s' hs2 (eG _) (fun _ _ _ _ h=>nomatch h))
  rw[show g2 ([]:List GW)++[(0,encS s')]=[(0,encS s')] from rfl,hc] at HG;have m1:S.sup.cZ+1<=16777215:=by omega
  have m2: -1<=S.sup.cZ:=by omega
  obtain⟨m,hm⟩:=au S.sup.cZ;have iK:=Z (show(sv S.sup)[6]? =some (.int .i64 m) by rw[<-hm];rfl);have Md:=Z (show(sv s')[6]? =some (.int .i64 (m+1)) by rw[<-jK.F,hm];rfl);rw[hm] at jK m1 m2;obtain⟨kN,hV⟩:∃kN:Value->Value->List Value,(fun fv r=>bU pd S.sup fv S.aB r S.last)=kN:=⟨_,rfl⟩;have hV1:∀fv r,bU pd S.sup fv S.aB r S.last=kN fv r:=fun fv r=>congrFun (congrFun hV fv) r
  simp only[hV1] at hS1 HG nJ nX HST CF HO;clear O hV hV1 he hs hs2 hD hX hfull hm1 hm2 hc hmr;have O:=hS1;clear hS1
  by_cases hc0:c=0
  ·subst hc0;go_enter Tryz.func46,Tryz.ntmps46
   go_wp2_with (first
     |(refine dm O aa (sv S.sup) ?_ (hvs:=nJ.F))
     |(refine dU O ?_;clear O;intro p3 J O;rw[aS] at O)
     |(refine eT (sv S.sup) O aa ?_ (hv:=(lI _));clear O;intro J O;rw[aD] at O)
     |(refine aH O aa iK.F ?_)
     |(refine aH O aa Md.F ?_)
     |(refine dm O aa (sv s') ?_)
     |(refine dm O fD (sv s') ?_)
     |(go_at_call 62;refine(HG.F _ _ O).mono ?_;rintro e J ⟨rfl,hS2⟩;obtain⟨RA,r2,hS1⟩:=HO.F _ _ hS2;clear hS2;clear O;have O:=hS1;clear hS1)
     |(refine kW (sv s') O aa ?_ (hv:=jQ.F) (hb:=by rw[nX.F];show 8<=1787;decide);clear O;intro J O;rw[aD,show 1+(sv s').length=8 from rfl,HST.F] at O)
     |(refine iA O aa ?_;clear O;intro J O;rw[aD,jK.F] at O))
   go_ret;exact⟨rfl,HM.F _ _ _ _ (O.re [4,0,1,2,3]).drop⟩
  ·have e1:(c==0)=false:=dH.2 hc0;rw[if_neg hc0];clear hc0;go_enter Tryz.func46,Tryz.ntmps46
   go_wp2_with (first
     |(refine dm O aa (sv S.sup) ?_ (hvs:=nJ.F))
     |(refine dU O ?_;clear O;intro p3 J O;rw[aS] at O)
     |(refine eT (sv S.sup) O aa ?_ (hv:=(lI _));clear O;intro J O;rw[aD] at O)
     |(refine aH O aa iK.F ?_)
     |(refine aH O aa Md.F ?_)
     |(refine dm O aa (sv s') ?_)
     |(refine dm O fD (sv s') ?_)
     |(go_at_call 62;refine(HG.F _ _ O).mono ?_;rintro e J ⟨rfl,hS2⟩;obtain⟨RA,r2,hS1⟩:=HO.F _ _ hS2;clear hS2;clear O;have O:=hS1;clear hS1)
     |(refine kW (sv s') O aa ?_ (hv:=jQ.F) (hb:=by rw[nX.F];show 8<=1787;decide);clear O;intro J O;rw[aD,show 1+(sv s').length=8 from rfl,HST.F] at O)
     |(refine iA O aa ?_;clear O;intro J O;rw[aD,jK.F] at O))
   go_ret;exact⟨rfl,CF.F _ _ _ _ (O.re [4,0,1,2,3]).drop⟩
end Go.Proofs.YtjbiihbicknemaaGreat
