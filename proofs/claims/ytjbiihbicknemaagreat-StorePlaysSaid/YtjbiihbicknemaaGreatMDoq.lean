/-
  Part of the proof of StoreWhole.
-/
import Derived.Test.YtjbiihbicknemaaGreatMSro
import Derived.Test.YtjbiihbicknemaaGreatMSeP
import Derived.Test.YtjbiihbicknemaaGreatSrGrw
set_option linter.unusedSimpArgs false
set_option linter.unusedVariables false
set_option maxRecDepth 20000
set_option maxHeartbeats 40000000
namespace Go.Proofs.YtjbiihbicknemaaGreat
open Go.RowKit Go.Sep
variable {W w:World} {L:List aA}
attribute [local irreducible] Oper.wp wpList Calls Code.wp Sep.dR
inductive yg (S:aK) (D:aG) (gs:List Nat):Int×aK×aG->List Nat->Prop
 |grow (l:List bM) (shown:Bool) (h:l.length<=200):yg S D gs (jd S D l shown) (Db S gs l (jd S D l shown).1)
 |mount:yg S D gs (pR S D) gs
 |EG (l:List aT) (next:Int) (shown:Bool) (h:fq l<=200):yg S D gs (iQ S D l next shown) gs
 |fits:yg S D gs (0,S,D) gs
/-! ### a call that is small -/
def IE (x:ji) (i:Nat):Nat:=x.recs.length+fq ((x.sets.take i).map yu)
theorem acA (x:ji) (i:Nat):IE x (i+1)=IE x i+(x.sets[i]?.map (·.pieces.length)).getD 0:=by
 unfold IE;rw[ik]
 cases h:x.sets[i]? with
 |none=>simp
 |some y=>
  rw[lC,Po];show _+(_+(y.pieces.length+0))=_+_+y.pieces.length;omega
theorem acz {W:World} {x:ji} (V:x.Ok W):∀i,IE x i<=(i+1)*reachBytes
 |0=>by
  show x.recs.length+0<=_;have:=V.lw;omega
 |i+1=>by
  rw[acA];have I:=acz V i
  have H:(x.sets[i]?.map (·.pieces.length)).getD 0<=reachBytes:=by
   cases h:x.sets[i]? with
   |none=>exact eG _
   |some y=>
    have:=(V.so y (bJ h)).pw;show y.pieces.length<=_;omega
  rw[Nat.add_mul (i+1) 1];omega
theorem acB {W:World} {x:ji} (V:x.Ok W):∀i,i<=12->yS x i=((IE x i:Nat):Int)
 |0,_=>rfl
 |i+1,hi=>by
  have I:=acz V (i+1);have H:(i+1+1)*reachBytes<=14*reachBytes:=Nat.mul_le_mul_right _ (by omega);have h3:14*reachBytes<=9223372036854775807:=by decide
  rw[acA] at I ⊢;unfold yS;rw[acB V i (by omega),IntWalk.i64_in _ (by omega)];omega
theorem an5 {l:List aT} {x:aT} (h:x∈l):x.pieces.length<=fq l:=by
 induction l with
 |nil=>cases h
 |cons y l ih=>
  rcases oK.1 h with rfl|h
  ·exact Nat.le_add_right _ _
  ·exact Nat.le_trans (ih h) (Nat.le_add_left _ _)
structure Small (x:ji):Prop where
 recs:x.recs.length<=200
 tot:fq (xg x.sets)<=200
 dat:x.sets.all vS=true
 sets:x.sets.length<=12
 pcs:∀y∈x.sets,y.pieces.length<=200
theorem OY {W:World} {x:ji} (V:x.Ok W) (h:uM x=true):Small x:=by
 unfold uM at h;rw[ed,ed] at h;obtain⟨I,H,h3⟩:=h;have h3:=of_decide_eq_true h3;have H:=of_decide_eq_true H;rw[acB V _ h3] at H;unfold IE at H;rw[List.take_length] at H
 have h4:fq (xg x.sets)<=fq (x.sets.map yu):=by
  have e:x.sets.map yu=xg x.sets++(x.sets.drop 10).map yu:=by
   unfold xg;rw[<-lC,rR]
  rw[e,Po];omega
 exact⟨by omega,by omega,I,h3,fun y hy=>by
  have:=an5 (List.mem_map_of_mem (f:=yu) hy);show(yu y).pieces.length<=200
  omega⟩
theorem Small.nS {W:World} {x:ji} (V:x.Ok W) (h:Small x):∀y∈x.sets,nS y*24<=reachBytes:=by
 intro y hy;unfold Go.Proofs.YtjbiihbicknemaaGreat.nS;have I:=h.pcs y hy;have H:=(V.so y hy).dw
 split
 ·exact H
 ·have:200*24<=reachBytes:=by decide
  omega
/-! ### the rows -/
def vB (pd ps pe pw:Nat):List Value:=[.pointer (some ⟨pd,0,none⟩), .pointer (some ⟨ps,0,none⟩), .pointer (some ⟨pe,0,none⟩), .pointer (some ⟨pw,0,none⟩)]
def DoE (W:World) (L:List aA) (po pd ps pe pw:Nat) (S:aK) (gs:List Nat) (D:aG) (e:Ending) (w':World):Prop:=
 e= .returned (.bool true)/\∃r gs' R',yg S D gs r gs'/\Rel r.2.2 R'/\Sat W w' (Cs po 36 (vB pd ps pe pw)::bF ps pd r.2.1::aP pd r.2.2::dz pw pe r.2.1 gs'::aW pe R'::L)
section
variable {W w:World} {L:List aA} {A B:aA} {po pd ps pe pw k:Nat} {S:aK} {gs:List Nat} {D:aG} {R:dh}
theorem aha {D2 E2 zf:aA} (h:Sat W w (B::zf::D2::E2::aW pe R::L)):∃v1 v2,Sat W w (Cs pe 68 [v1,v2, .bool R.armed, .int .i64 R.left, .bool R.dead]::Tb 9 1 iF v1 R.L::Tb 150 2 wv v2 R.Log::B::zf::D2::E2::L):=
 aW.open (h.re [4,0,1,2,3])
theorem JB {D2 E2 zf:aA} {v1 v2:Value} (h:Sat W w (A::Cs pe 68 [v1,v2, .bool R.armed, .int .i64 R.left, .bool R.dead]::Tb 9 1 iF v1 R.L::Tb 150 2 wv v2 R.Log::B::zf::D2::E2::L)):
  Sat W w (A::B::zf::D2::E2::aW pe R::L):=(aW.mk (h.re [1,2,3])).re [1,2,3,4,5,0]
theorem XL {C E:aA} (O:Sat W w (A::B::C::E::L)) (l:List bM) (ao:Option Addr) (cq:Nat) {m:Nat} (hm:l.length=m) (h:Rd w (.slice ao m cq) m 3 (l.flatMap rv)) (hb:m<=1000000):
  Calls Tryz.prog 20 #[.slice ao m cq] w fun e w'=>∃a c,e= .returned (.slice a m c)/\Sat W w' (A::B::C::E::Tb 100 3 rv (.slice a m c) l::L):=by
 subst hm;refine(alQ O l _ h hb).mono ?_;rintro e w' ⟨v,rfl,I⟩;obtain⟨a,c,rfl,_⟩:=I.fA aa;exact⟨a,c,rfl,I.re [1,2,3,4,0]⟩
theorem XG (O:Sat W w (A::B::bF ps pd S::aP pd D::L)) (hok:bA D.blocks S gs) (hD:DG D k) (hk:k<=90000) (l:List bM) (shown:Bool) (aq:Option Addr) (cq:Nat) {m:Nat} (hm:l.length=m) {M:List aA} (hL:L=Tb 100 3 rv (.slice aq m cq) l::M) (hl:m<=100000):
  Calls Tryz.prog 19 #[.pointer (some ⟨ps,0,none⟩), .slice aq m cq, .bool shown] w fun e w'=>e= .returned (.int .i64 (jd S D l shown).1)/\Sat W w' (A::B::bF ps pd (jd S D l shown).2.1::aP pd (jd S D l shown).2.2::L):=by
 subst hm;subst hL;refine(am5 (O.re [2,3]) hok hD hk l shown aq cq (fun w L' h=>h.kK (has_add hz2 L')) hl).mono ?_;rintro e w' ⟨rfl,I⟩;exact⟨rfl,I.re [2,3]⟩
theorem ahk {C E T:aA} (O:Sat W w (A::B::C::E::T::dz pw pe S gs::aW pe R::L)) (hok:bA D.blocks S gs) (hR:Rel D R) (hD:DG D k) (hk:k<=90000) (l:List bM) (shown:Bool) (aq:Option Addr) (cq:Nat) {m:Nat} (hm:l.length=m) (hr:Rd W (.slice aq m cq) m 3 (l.flatMap rv)) (hl:m<=100000):
  Calls Tryz.prog 43 #[.pointer (some ⟨pw,0,none⟩), .slice aq m cq, .bool shown] w fun e w'=>e= .returned (.int .i64 (jd S D l shown).1)/\∃R',Rel (jd S D l shown).2.2 R'/\Sat W w' (A::B::C::E::dz pw pe (jd S D l shown).2.1 (Db S gs l (jd S D l shown).1)::aW pe R'::L):=by
 subst hm;refine(amq hok (O.re [5,6]) hR hD hk l aq cq (fun w L' h=>hr.old h) (by omega) shown).mono ?_;rintro e w' ⟨rfl,R',hR',I⟩;exact⟨rfl,R',hR',((I.re [2,3,4,5,0,1]).re [6]).drop⟩
theorem bA.SH {B:List (List UInt8)} (h:bA B S gs):S.last<=15:=by
 have:=h.last;have:=h.high;have:=h.low;have:=List.length_pos_iff.2 h.ne;omega
theorem ag4 (O:Sat W w (A::B::bF ps pd S::L)) (hok:bA D.blocks S gs) (r p:Int):
  Calls Tryz.prog 44 #[.pointer (some ⟨ps,0,none⟩), .int .i64 r, .int .i64 p] w fun e w'=>e= .returned (.bool (C9 S D.blocks.length r p))/\Sat W w' (A::B::bF ps pd S::L):=by
 refine(am3 (O.re [2]) hok.x hok.blocks (by have:=hok.n1;omega) hok.n2 hok.SH r p).mono ?_;rintro e w' ⟨rfl,I⟩;exact⟨rfl,I.re [1,2]⟩
theorem ahj {C E:aA} (O:Sat W w (A::B::C::E::dz pw pe S gs::aW pe R::L)) (hok:bA D.blocks S gs) (hR:Rel D R) (r p:Int):
  Calls Tryz.prog 45 #[.pointer (some ⟨pw,0,none⟩), .int .i64 r, .int .i64 p] w fun e w'=>e= .returned (.bool (C9 S D.blocks.length r p))/\Sat W w' (A::B::C::E::dz pw pe S gs::aW pe R::L):=by
 refine(amk (O.re [4,5]) hok.x hok.ne hok.low hok.last (by have:=hok.high;have:=hok.Ai;omega) hok.SH (by rw[<-hR.blocks]) hok.n2 r p).mono ?_;rintro e w' ⟨rfl,I⟩;exact⟨rfl,I.re [2,3,4,5]⟩
theorem ag6 (O:Sat W w (A::B::bF ps pd S::aP pd D::L)) (hok:bA D.blocks S gs) (hD:DG D k) (hk:k<=90000):
  Calls Tryz.prog 46 #[.pointer (some ⟨ps,0,none⟩)] w fun e w'=>e= .returned (.int .i64 (pR S D).1)/\Sat W w' (A::B::bF ps pd (pR S D).2.1::aP pd (pR S D).2.2::L):=by
 refine(ana (O.re [2,3]) hok.x hD hk hok.sup).mono ?_;rintro e w' ⟨rfl,I⟩;exact⟨rfl,I.re [2,3]⟩
theorem ahl {C E:aA} (O:Sat W w (A::B::C::E::dz pw pe S gs::aW pe R::L)) (hok:bA D.blocks S gs) (hR:Rel D R) (hD:DG D k) (hk:k<=90000):
  Calls Tryz.prog 47 #[.pointer (some ⟨pw,0,none⟩)] w fun e w'=>e= .returned (.int .i64 (pR S D).1)/\∃R',Rel (pR S D).2.2 R'/\Sat W w' (A::B::C::E::dz pw pe (pR S D).2.1 gs::aW pe R'::L):=by
 refine(amw (O.re [4,5]) hR hD hk hok.sup).mono ?_;rintro e w' ⟨rfl,R',hR',I⟩;exact⟨rfl,R',hR',I.re [2,3,4,5]⟩
def CQ (va vb:Value) (X Y:List aT) (L:List aA):List aA:=Tb 133 40 bX va X::St (X.map (jw true))::Tb 134 40 bX vb Y::St (Y.map (jw false))::L
theorem Rp {C E:aA} {X Y:List aT} {vb:Value} (aq:Option Addr) (cq:Nat) {m:Nat} (hm:X.length=m) (O:Sat W w (A::B::bF ps pd S::aP pd D::C::E::CQ (.slice aq m cq) vb X Y L)) (hg:∀x∈X,zZ W true x) (hok:bA D.blocks S gs) (hD:DG D k) (hk:k+fq X<=80000) (next:Int) (shown:Bool):
  Calls Tryz.prog 22 #[.pointer (some ⟨ps,0,none⟩), .slice aq m cq, .int .i64 next, .bool shown] w fun e w'=>e= .returned (.int .i64 (iQ S D X next shown).1)/\Sat W w' (A::B::bF ps pd (iQ S D X next shown).2.1::aP pd (iQ S D X next shown).2.2::C::E::CQ (.slice aq m cq) vb X Y L):=by
 subst hm;refine(amR (O.re [2,3]) hok hD X hk next shown aq cq (fun w L' h=>ace h (has_add fD L') (has_add vk L') hg)).mono ?_;rintro e w' ⟨rfl,I⟩;exact⟨rfl,I.re [2,3]⟩
end
def Up (D:aG):Prop:=D.left= -1/\D.dead=false
section
variable {B:List (List UInt8)} {S:aK} {gs:List Nat}
theorem YS (h:bA B S gs) (l:List bM) (shown:Bool):∃c1 S1 B1,bA B1 S1 (Db S gs l c1)/\B1.length=B.length/\∀D:aG,D.dead=false->D.blocks=B->CR S gs B c1 S1 (Db S gs l c1) B1 D (jd S D l shown):=by
 by_cases hb1:qN S l=true
 ·refine⟨1,S,B,h,rfl,fun D hd hb=>?_⟩;have e:jd S D l shown=(1,S,D):=by unfold jd;rw[if_pos hb1]
  rw[e];exact FL hd hb
 by_cases hf:(bT S.U S.sup.blocks.toNat).length<gG S l
 ·refine⟨2,S,B,h,rfl,fun D hd hb=>?_⟩;have e:jd S D l shown=(2,S,D):=by unfold jd;rw[if_neg hb1,if_pos hf]
  rw[e];exact FL hd hb
 by_cases hs:nA S l shown=S.sup
 ·have hl:l=[]:=by
   have I:=congrArg di.records hs;have H:=h.recs;unfold nA df at I;dsimp only at I;rw[bP] at I;exact yZ.1 (by omega)
  have e0:Db S gs l 0=gs:=by unfold Db;rw[if_pos rfl];exact YT h.SH hl
  refine⟨0,S,B,by rw[e0];exact h,rfl,fun D hd hb=>?_⟩;have e:jd S D l shown=(0,S,D):=by unfold jd;rw[if_neg hb1,if_neg hf,if_pos hs]
  rw[e,e0];exact FL hd hb
 have hb2:qN S l=false:=by simpa using hb1
 have hg:=h.RL (RS hb2).2.2 (by omega:gG S l<=_) shown;have I:=h.grow hb2 (by omega:gG S l<=_) shown;refine⟨0,S.grown l shown,oV B (kM S l shown),I,qK _ _,fun D hd hb=>?_⟩;refine UH (dl:=[]) h (fun x V=>nomatch V) (by decide) hg I hd hb ?_;unfold jd;rw[if_neg hb1,if_neg hf,if_neg hs,Rf hg (by rw[hb])];rfl
structure nK (D:aG) (S:aK) (gs:List Nat) (k:Nat):Prop where
 ok:bA D.blocks S gs
 up:Up D
 dg:DG D k
 inv:Inv D
end
end Go.Proofs.YtjbiihbicknemaaGreat
