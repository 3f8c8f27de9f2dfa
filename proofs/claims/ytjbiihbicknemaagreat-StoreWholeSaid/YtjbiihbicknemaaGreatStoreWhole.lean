/-
  For every script, call and cut, StoreWhole answers true: no condition.
-/
import Derived.Test.YtjbiihbicknemaaGreatMWho
import Derived.Test.YtjbiihbicknemaaGreatStDo
set_option linter.unusedSimpArgs false
set_option linter.unusedVariables false
set_option maxRecDepth 20000
set_option maxHeartbeats 40000000
namespace Go.Proofs.YtjbiihbicknemaaGreat
open Go.RowKit Go.Sep
variable {W w:World} {L:List aA}
open Go.RowKit Go.Sep Go.ChangeShapes Go.WideShapes Go.ChangeAt
attribute [local irreducible] Oper.wp wpList Calls Code.wp Sep.dR Sep.fJ
theorem nK.to {D:aG} {S:aK} {gs:List Nat} {k m:Nat} (h:nK D S gs k) (hk:k<=m):nK D S gs m:= {h with dg:=h.dg.mono hk}
def Wo (W:World) (L:List aA) (p4 po pd ps pe pw:Nat) (lx:List Value) (n:Nat) (v10:Value) (wz:World):Prop:=
 ∃(i:Nat) (S:aK) (gs:List Nat) (D:aG) (R:dh),v10= .int .i64 (i:Int)/\i<=10/\i<=n/\nK D S gs (52+500*i)/\Rel D R/\
  Sat W wz (Cs p4 26 lx::Cs po 36 (vB pd ps pe pw)::bF ps pd S::aP pd D::dz pw pe S gs::aW pe R::L)
theorem aow {A:aA} {po pd ps pe pw k:Nat} {S:aK} {gs:List Nat} {D:aG} {R:dh} (hl:nK D S gs k) (hR:Rel D R) (hk:k<=60000) (x:ji) (V:x.Ok W) (hs:uM x=true) (h8:x.kind % 10<8)
  (O:Sat W w (A::Cs po 36 (vB pd ps pe pw)::bF ps pd S::aP pd D::dz pw pe S gs::aW pe R::L)):
  Calls Tryz.prog 13 #[.pointer (some ⟨po,0,none⟩), .agg (j6 x).toArray] w fun e w'=>e= .returned (.bool true)/\∃S' gs' D' R',nK D' S' gs' (k+500)/\Rel D' R'/\Sat W w' (A::Cs po 36 (vB pd ps pe pw)::bF ps pd S'::aP pd D'::dz pw pe S' gs'::aW pe R'::L):=by
 refine(ag9 hl hR hk x V hs h8 (O.re [1,2,3,4,5])).mono ?_;rintro e w' ⟨rfl,S',gs',D',R',I,H,h3⟩;exact⟨rfl,S',gs',D',R',I,H,h3.re [5]⟩
theorem Whole.walk (O:Sat W w L) (l:List ji) (ao:Option Addr) (cap:Nat) (hr:Rd W (.slice ao l.length cap) l.length 6 (l.flatMap j6)) (hl:∀y∈l,y.Ok W) (x:ji) (V:x.Ok W) (cut:Int):
  Calls Tryz.prog 3 #[.slice ao l.length cap, .agg (j6 x).toArray, .int .i64 cut] w fun e w'=>e= .returned (.bool true)/\Sat W w' L:=by
 cases hs:uM x with
 |false=>exact anv O x V _ cut hs
 |true=>
 have F6:=Z (fun w A (h:Sat W w (A::L))=>Ib h 160 (by decide) (by decide));have F9:=Z (fun w A B (h:Sat W w (A::B::L))=>abF h 160 (by decide) (by decide));have HF:=Z (fun w A B pd M (h:Sat W w (A::B::aP pd (.new 160)::M))=>ac5 h);have Ma:=Z (fun w A B C pe M (h:Sat W w (A::B::C::aW pe (.new 160)::M))=>adn adl h);have HX:=Z V;have uT:=Z hs;have iK:=Z (fun w M (h:Sat W w M)=>Ud h x HX.F);have IY:=Z (fun w M (h:Sat W w M)=>Q0 h);rw[hs] at iK;obtain⟨lx,hlx⟩:=au (j6 x);have xX:=Z hlx;have qG:=Z (show(lx.drop 0).take 6=lx by rw[<-hlx];rfl);have aM:=Z (show lx.length=6 by rw[<-hlx];rfl);have HRR:=Z hr;have jO:=Z hl;obtain⟨_,_,he,hc1,hc2,_,h5⟩:=hr;obtain⟨rfl,rfl⟩:=gq he;have H5:=Z h5;obtain⟨n,hn⟩:=au l.length;have HN:=Z hn;have hni:(n:Int)<=9223372036854775807:=by omega
 rw[hlx] at iK ⊢;rw[hn];clear V hs hlx hl h5 hc1 hc2 hn;go_enter Tryz.func3,Tryz.ntmps3;refine dK (fun KX aF=>?_)
 go_wp2_with (refine bV O ?_;clear O;intro p4 J O;rw[aS] at O)
 refine aF.F _ _ ?_;clear aF;refine dK (fun KX aF=>?_)
 go_wp2_with (go_at_call 5;refine(F6.F _ _ O).mono ?_;clear O;rintro e J ⟨pd,rfl,O⟩)
 refine aF.F _ _ ?_;clear aF;refine dK (fun KX aF=>?_)
 go_wp2_with (first
  |(go_at_call 6;refine(F9.F _ _ _ O.bW).mono ?_;clear O;rintro e J ⟨pe,rfl,O⟩)
  |(refine bV O ?_;clear O;intro po J O;rw[aS] at O))
 refine aF.F _ _ ?_;clear aF;have hS2:=O.re [2,0,3,1];clear O;have O:Sat W _ (Cs p4 26 lx::Cs po 36 [.pointer (some ⟨pd,0,none⟩), .pointer none, .pointer (some ⟨pe,0,none⟩), .pointer none]::aP pd (.new 160)::aW pe (.new 160)::L):=hS2;clear hS2;refine dK (fun KX aF=>?_);go_wp2
 (refine ll (pO [0,1,2,3,4,5]<|rO [6]<|pO [7,8,9,10,12,13,14]<|rO [15]<|aO [11,16]<|pO [17,18,19,20]<|aO [21]<|pO [22,23,24]<|rO [25]<|aO [26]<|pO [27,28]<| .e) [16,21,26] O (fun _ h=>h.take2) ?_;clear O;intro J O)
 repeat (first
  |(refine bG O ?_;go_frame)
  |(refine sK O ?_;go_frame)
  |(refine OH O ?_;(first
   |refine rM hz1 ?_
   |(refine lY aa lx ?_ (hvs:=qG.F) (hb:=aM.F)));go_frame)
  |(refine bY fun K hK=>?_;(first
   |(refine jy (HF.F _ _ _ _ _ O) ?_;clear O;intro J O)
   |(refine cK (Ma.F _ _ _ _ _ _ O) ?_;clear O;rintro e J ⟨rfl,R1,vW,O⟩;have HR1:=Z vW;clear vW;refine⟨_,rfl,?_⟩)
   |(refine cK (adf HR1.F O) ?_;clear O;rintro e J ⟨rfl,ps,pw,R2,hR2,O⟩;have HR2:=Z hR2;clear hR2;refine⟨_,rfl,?_⟩)
   |(refine jy (iK.F _ _ O) ?_;clear O;intro J O));refine hK.gu O ?_;clear hK K;go_frame))
 refine bO ?_;go_wp2;refine aF.F _ _ ?_;clear aF;clear F6 F9 HF Ma iK HR1;have HJ:=Z (fun a w (h:IL W L p4 po lx (.slice ao n cap) cut a w)=>aos HX.F uT.F xX.F h);refine pV (IL W L p4 po lx (.slice ao n cap) cut) (fun KX aF=>?_) ?_;rotate_left
 ·clear O;exact fun a w h=>(HJ.F a w h).use Tryz.func3 rfl rfl
 have H0:=Z (show Wo W L p4 po pd ps pe pw lx n (.int .i64 0) _ from⟨0,_,_,_,_,rfl,eG _,eG _,Ym.1,HR2.F,O⟩);clear O HR2;go_wp2;go_loopw [10] (fun v10 wz=>Wo W L p4 po pd ps pe pw lx n v10 wz) (fun v10 _=>iV 10 v10)
 case atStart=>exact H0.F
 case round=>
  clear H0;obtain⟨i,S,gs,D,R,rfl,Nq,hin,Zc,hrl,O⟩:=hrel;have CE:=Z Zc;have gB:=Z hrl;clear Zc hrl
  by_cases hlt:i<n/\i<10
  ·obtain⟨hlt1,hlt2⟩:=hlt;have k1:(i:Int)< (n:Int):=by omega
   have k2:(i:Int)<10:=by omega
   have uP:=Z hlt1;have HL2:=Z hlt2;obtain⟨lb,lo,rfl,_⟩:=H5.F (by have:=HN.F;omega);obtain⟨y,hy⟩:∃y,l[i]? =some y:=⟨_,aR (by have:=HN.F;omega)⟩
   have zW:=Z hy;have VR:=Z (jO.F y (bJ hy));obtain⟨ly,Nr⟩:=au (j6 y);have Em:=Z (show((j6 y).drop 0).take 6=ly by rw[<-Nr];rfl);have QN:=Z (show ly.length=6 by rw[<-Nr];rfl);have GY:=Z (show(j6 y)[0]? =some (.int .i64 y.kind) from rfl);have iY:=Z (HRR.F.old O);have Jb:=Z (show ∀y∈l,(j6 y).length=6 from fun y _=>ajX y);have eX:=Z (fun w=>Io y.kind 10 (by decide) (by decide) w);have uU:=Z (fun w M (h:Sat W w M)=>Ud h y VR.F);obtain⟨sb,hsb⟩:=au (uM y);obtain⟨kk,hkk⟩:=au (y.kind % 10);have Cu:=Z (fun(I:sb=true) (H:kk<8) w (h:Sat W w (Cs p4 26 lx::Cs po 36 (vB pd ps pe pw)::bF ps pd S::aP pd D::dz pw pe S gs::aW pe R::L))=>aow CE.F gB.F (by omega) y VR.F (hsb.trans I) (by rw[hkk];exact H) h);have PU:=Z (CE.F.to (show 52+500*i<=52+500*(i+1) by omega));rw[Nr] at uU Cu;rw[hsb] at uU;rw[hkk] at eX;clear hlt1 hlt2 hy Nr hsb hkk
   cases sb with
   |false=>
    go_wp2_with (first
     |(go_at_call 10;refine ak (uU.F _ _ O) ?_;clear O;intro J O)
     |(go_at_call 11;refine ak (IY.F _ _ O) ?_;clear O;intro J O)
     |(refine bN (Dw (f:=j6) (x:=y) iY.F Jb.F _ _ (by rfl) _ (by rfl) (aI (by rfl)) (bz (by rfl)) i 0 (by omega) zW.F (vs:=ly) Em.F QN.F (by have:=uP.F;have:=HN.F;omega)) ?_))
    go_ret;exact⟨rfl,O.drop.drop.drop.drop.drop.drop⟩
   |true=>
    replace Cu:=Z (Cu.F rfl)
    by_cases h8:kk<8
    ·replace Cu:=Z (Cu.F h8)
     go_wp2_with (first
      |(go_at_call 10;refine ak (uU.F _ _ O) ?_;clear O;intro J O)
      |(go_at_call 12;refine ak (eX.F _) ?_;rintro J rfl)
      |(go_at_call 13;refine(Cu.F _ O).mono ?_;rintro e J hE;obtain⟨rfl,S',gs',D',R',hl',hR',hS1⟩:=hE;have aeh:=Z hl';have aeH:=Z hR';clear hl' hR';clear O;have O:=hS1;clear hS1)
      |(refine bN (fE (f:=j6) (x:=y) (HRR.F.old O) Jb.F _ _ (by rfl) _ (by rfl) (aI (by rfl)) i 0 (by omega) zW.F GY.F (by have:=uP.F;have:=HN.F;omega)) ?_)
      |(refine bN (Dw (f:=j6) (x:=y) (HRR.F.old O) Jb.F _ _ (by rfl) _ (by rfl) (aI (by rfl)) (bz (by rfl)) i 0 (by omega) zW.F (vs:=ly) Em.F QN.F (by have:=uP.F;have:=HN.F;omega)) ?_))
     exact⟨⟨i+1,S',gs',D',R',by go_num,HL2.F,uP.F,aeh.F,aeH.F,O⟩,fZ HL2.F⟩
    ·go_wp2_with (first
      |(go_at_call 10;refine ak (uU.F _ _ O) ?_;clear O;intro J O)
      |(go_at_call 12;refine ak (eX.F _) ?_;rintro J rfl)
      |(refine bN (fE (f:=j6) (x:=y) (HRR.F.old O) Jb.F _ _ (by rfl) _ (by rfl) (aI (by rfl)) i 0 (by omega) zW.F GY.F (by have:=uP.F;have:=HN.F;omega)) ?_)
      |(refine bN (Dw (f:=j6) (x:=y) (HRR.F.old O) Jb.F _ _ (by rfl) _ (by rfl) (aI (by rfl)) (bz (by rfl)) i 0 (by omega) zW.F (vs:=ly) Em.F QN.F (by have:=uP.F;have:=HN.F;omega)) ?_))
     exact⟨⟨i+1,S,gs,D,R,by go_num,HL2.F,uP.F,PU.F,gB.F,O⟩,fZ HL2.F⟩
  ·have hex:(¬i<n)∨(i<n/\¬i<10):=by omega
   have Vm:=Z (show ∃pd ps pe pw S gs D,nK D S gs 5052/\Sat W _ (Cs p4 26 lx::Cs po 36 (vB pd ps pe pw)::bF ps pd S::aP pd D::L) from⟨pd,ps,pe,pw,S,gs,D,CE.F.to (by omega),((O.re [4,5]).drop.drop)⟩);clear hlt O
   rcases hex with k1|⟨k1,k2⟩
   ·have e1:¬(i:Int)< (n:Int):=by omega
    clear k1;go_wp2;refine aF.F _ _ ?_;unfold IL;exact⟨Vm.F,rfl⟩
   ·have e1:(i:Int)< (n:Int):=by omega
    have e2:¬(i:Int)<10:=by omega
    clear k1 k2;go_wp2;refine aF.F _ _ ?_;unfold IL;exact⟨Vm.F,rfl⟩
set_option maxRecDepth 100000 in
theorem akE {fP:Type} {enc:TypeId×Value->fP} {W:World} {base:Nat} {v:Value} {d:DataW fP} {ps:List MemPlace} (hv:Value.okWide Tryz.prog W .any base 26 v)
  (h:DataW.Trod enc Tryz.prog W 0 (fun _=>true) true 26 v d ps) (hw:∀m∈d.weights Tryz.prog 26,m<=reachBytes):∃y:ji,v= .agg (j6 y).toArray/\y.Ok W:=by
 obtain⟨cs,rfl,hsz⟩:=okWide_struct Tryz.underlying26 hv;obtain⟨n,h⟩:=h;simp only[Value.cells] at h;obtain⟨y,I,H⟩:=aaY (by rw[Array.length_toList,hsz];kernel_rfl) h hw;exact⟨y,by rw[<-I],H⟩

set_option maxRecDepth 100000 in
theorem Whole.contract (fP:Type) (enc:TypeId×Value->fP) (W:World) (base:Nat) (args:Array Value) (ds gs:List (DataW fP)) (before:List MemPlace)
  (hval:∀(j:Nat) t v,Tryz.f3.params[j]? =some t->args[j]? =some v->Value.okWide Tryz.prog W .any base t v)
  (hW:DataW.Whole enc Tryz.prog Tryz.f3.params.toList Rows.storeWholeSpec.vars false W args.toList ds gs before)
  (JY:(DataW.weightsEach Tryz.prog (Tryz.f3.params.toList++Rows.storeWholeSpec.plain.varTypes Tryz.prog) (ds++gs)).all (· <=reachBytes)=true):
  Calls Tryz.prog 3 args W fun e W'=>∃v,e= .returned v/\Rows.storeWholeSpec.post enc Tryz.prog Tryz.f3 false true false false W args v W':=by
 have hW':=hW;obtain⟨p,q,hA,hV,rfl,hfz,hnd⟩:=hW;rw[Tryz.params3] at hA hval JY;obtain⟨v0,vs0,d0,ds0,p0,q0,hargs,rfl,rfl,h0,r0⟩:=trodAll_cons hA;obtain⟨v1,vs1,d1,ds1,p1,q1,rfl,rfl,rfl,I,r1⟩:=trodAll_cons r0;obtain⟨v2,vs2,d2,ds2,p2,q2,rfl,rfl,rfl,H,r2⟩:=trodAll_cons r1;obtain⟨rfl,rfl,rfl⟩:=trodAll_nil r2;obtain rfl:args= #[v0,v1,v2]:=by cases args;simp_all
 obtain⟨rfl,rfl⟩:=trodVars_none hV;obtain⟨ao,len,cap,rfl⟩:=okWide_slice Tryz.underlying22 (hval 0 22 v0 rfl rfl);obtain⟨x,rfl,V⟩:=akE (hval 1 26 v1 rfl rfl) I (SX JY 1 rfl rfl);obtain⟨cut,rfl⟩:=okWide_int Tryz.underlying3 (hval 2 3 v2 rfl rfl);obtain⟨l,rfl,hr,hl⟩:=akF h0 (SX JY 0 rfl rfl);refine(Whole.walk (Sat.start W) l ao cap hr hl x V cut).mono ?_;refine fun e W' ⟨he,O⟩=>?_
 subst he;exact⟨_,rfl,ajA (tb:=4) (by kernel_rfl) (by kernel_rfl) rfl Tryz.underlying4 rfl hW' rfl O⟩

theorem Whole.own:ownKnob Tryz.prog.godebug=none:=by kernel_rfl
set_option maxRecDepth 100000 in
theorem Whole.lifted (os:Os) (started:os.Started) (fP:Type) (enc:TypeId×Value->fP):
  ReturnsInHanded {} Tryz.checked os 3 .any (Rows.storeWholeSpec.pre6 enc Tryz.prog Tryz.f3 Rows.storeWholeRow.domain false) (Rows.storeWholeSpec.post enc Tryz.prog Tryz.f3 false true false false):=by
 refine returnsInHanded_of_change_shaped (C:=Tryz.checked) Whole.own started (by kernel_rfl) Tryz.func3
  (ChangeSpec.witness6 (enc:=enc) (C:=Tryz.checked) false ⟨#[], #[.slice none 0 0, .agg #[.int .i64 0, .int .i64 0, .int .i64 0, .bool false, .slice none 0 0, .slice none 0 0], .int .i64 0],[]⟩ 8 (by kernel_rfl) (by kernel_rfl) (by kernel_rfl) (by kernel_rfl)) ?_
 intro W base args ds gs before hval hW _ JY _ _;exact Whole.contract fP enc W base args ds gs before hval hW JY

theorem Whole.holds:Rows.StoreWholeSaid:=
 OpenClaim.holds_of_wide 3 Tryz.f3 rfl rfl rfl rfl rfl rfl rfl ⟨rfl,rfl,rfl,rfl,rfl⟩ rfl rfl rfl rfl rfl (by kernel_rfl) Tryz.func3 (by kernel_rfl)
  (of_decide_eq_true (by kernel_rfl)) (by unfold Func.isWrapper;first|(rw[if_pos (by decide+kernel)];kernel_rfl)|(rw[if_neg (by decide+kernel)];exact⟨rfl,rfl⟩))
  (fun os started fP enc _=>Whole.lifted os started fP enc)
end Go.Proofs.YtjbiihbicknemaaGreat
