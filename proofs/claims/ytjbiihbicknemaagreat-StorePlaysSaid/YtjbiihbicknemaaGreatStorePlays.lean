/-
  For every number of blocks and every script, StorePlays answers true: no condition.
-/
import Derived.Test.YtjbiihbicknemaaGreatMPly
set_option linter.unusedSimpArgs false
set_option linter.unusedVariables false
set_option maxRecDepth 20000
set_option maxHeartbeats 40000000
namespace Go.Proofs.YtjbiihbicknemaaGreat
open Go.RowKit Go.Sep
variable {W w:World} {L:List aA}
open Go.RowKit Go.Sep Go.ChangeShapes Go.WideShapes Go.ChangeAt
attribute [local irreducible] Oper.wp wpList Calls Code.wp Sep.dR Sep.fJ
def gQ (W:World) (L:List aA) (po n:Nat) (v9:Value) (wz:World):Prop:=
 ∃(i pd ps pe pw:Nat) (S:aK) (gs:List Nat) (D:aG) (R:dh),v9= .int .i64 (i:Int)/\i<=30/\i<=n/\ah D S gs (52+500*i)/\Rel D R/\Sat W wz (Cs po 36 (vB pd ps pe pw)::bF ps pd S::aP pd D::dz pw pe S gs::aW pe R::L)
theorem Plays.walk (O:Sat W w L) (blocks:Int) (l:List ji) (ao:Option Addr) (cap:Nat) (hr:Rd W (.slice ao l.length cap) l.length 6 (l.flatMap j6)) (hl:∀y∈l,y.Ok W):
  Calls Tryz.prog 4 #[.int .i64 blocks, .slice ao l.length cap] w fun e w'=>e= .returned (.bool true)/\Sat W w' L:=by
 obtain⟨j,hj⟩:∃j:Nat,blocks % 60=(j:Int):=⟨(blocks % 60).toNat,by omega⟩;obtain⟨n0,hn0⟩:=au (160+j);have I:160<=n0:=by omega
 have H:n0<=1024:=by omega
 have IW:(j:Int)<60:=by omega
 have eX:=Z (fun w=>Io blocks 60 (by decide) (by decide) w);rw[hj] at eX;have F6:=Z (fun w M (h:Sat W w M)=>Ib h (n0:Int) (by omega) (by omega));have F9:=Z (fun w M (h:Sat W w M)=>abF h n0 I H);have HF:=Z (fun w A pd M (h:Sat W w (A::aP pd (.new (n0:Int))::M))=>z8 I H h);have Ma:=Z (fun w A B pe M (h:Sat W w (A::B::aW pe (.new n0)::M))=>BP I H h);have CE:=Z (mF I H).1;have Ea:=Z (fun w po pd pe s0 w0 R M (hR:Rel (rC n0 (.new (n0:Int))) R) (h:Sat W w (Cs po 36 [.pointer (some ⟨pd,0,none⟩),s0, .pointer (some ⟨pe,0,none⟩),w0]::aP pd (rC n0 (.new (n0:Int)))::aW pe R::M))=>AU I H hR h);have IY:=Z (fun w M (h:Sat W w M)=>Q0 h);have HRR:=Z hr;have jO:=Z hl;obtain⟨_,_,he,hc1,hc2,_,h5⟩:=hr;obtain⟨rfl,rfl⟩:=gq he;have H5:=Z h5;obtain⟨n,hn⟩:=au l.length;have HN:=Z hn;have hni:(n:Int)<=9223372036854775807:=by omega
 rw[hn];obtain⟨DNq,lL⟩:=au (rC n0 (.new (n0:Int)));rw[lL] at HF Ma CE Ea;have Vs:=Z (show 160+(j:Int)=(n0:Int) by omega);clear hl h5 hc1 hc2 hn hj hn0 I H lL;go_enter Tryz.func4,Tryz.ntmps4;refine qP ?_;refine dK (fun KX aF=>?_)
 go_wp2_with (go_at_call 12;refine ak (eX.F _) ?_;rintro J rfl)
 refine aF.F _ _ ?_;clear aF;rw[Vs.F];refine dK (fun KX aF=>?_)
 go_wp2_with (go_at_call 5;refine(F6.F _ _ O).mono ?_;clear O;rintro e J ⟨pd,rfl,O⟩)
 refine aF.F _ _ ?_;clear aF;refine dK (fun KX aF=>?_)
 go_wp2_with (first
  |(go_at_call 6;refine(F9.F _ _ O).mono ?_;clear O;rintro e J ⟨pe,rfl,O⟩)
  |(refine bV O ?_;clear O;intro po J O;rw[aS] at O))
 refine aF.F _ _ ?_;clear aF;have hS2:=O.re [0,2];clear O;have O:Sat W _ (Cs po 36 [.pointer (some ⟨pd,0,none⟩), .pointer none, .pointer (some ⟨pe,0,none⟩), .pointer none]::aP pd (.new (n0:Int))::aW pe (.new n0)::L):=hS2;clear hS2;refine dK (fun KX aF=>?_);go_wp2
 (refine ll (pO [0,1,2,3,4,5]<|rO [6]<|pO [7,8,9,10,12,13,14]<|rO [15]<|aO [11,16]<|pO [17,18,19,20]<|aO [21]<|pO [22,23]<| .e) [16,21] O (fun _ h=>h.one aa) ?_;clear O;intro J O)
 repeat (first
  |(refine bG O ?_;go_frame)
  |(refine sK O ?_;go_frame)
  |(refine OH O ?_;(first
   |refine rM aa ?_);go_frame)
  |(refine bY fun K hK=>?_;(first
   |(refine jy (HF.F _ _ _ _ O) ?_;clear O;intro J O)
   |(refine cK (Ma.F _ _ _ _ _ O) ?_;clear O;rintro e J ⟨rfl,R1,vW,O⟩;have HR1:=Z vW;clear vW;refine⟨_,rfl,?_⟩)
   |(refine cK (Ea.F _ _ _ _ _ _ _ _ HR1.F O) ?_;clear O;rintro e J ⟨rfl,ps,pw,R2,hR2,O⟩;have HR2:=Z hR2;clear hR2;refine⟨_,rfl,?_⟩));refine hK.gu O ?_;clear hK K;go_frame))
 refine bO ?_;go_wp2;refine aF.F _ _ ?_;clear aF;clear F6 F9 HF Ma HR1 Ea eX;refine dK (fun KX aF=>?_);have H0:=Z (show gQ W L po n (.int .i64 0) _ from⟨0,pd,ps,pe,pw,_,_,_,_,rfl,eG _,eG _,CE.F,HR2.F,O⟩);clear O HR2 CE;go_wp2;go_loopw [9] (fun v9 wz=>gQ W L po n v9 wz) (fun v9 _=>iV 30 v9)
 case atStart=>exact H0.F
 case round=>
  clear H0;obtain⟨i,pd,ps,pe,pw,S,gs,D,R,rfl,lM,hin,l8,hrl,O⟩:=hrel;have HPO:=Z l8;have gB:=Z hrl;clear l8 hrl
  by_cases hlt:i<n/\i<30
  ·obtain⟨hlt1,hlt2⟩:=hlt;have k1:(i:Int)< (n:Int):=by omega
   have k2:(i:Int)<30:=by omega
   have uP:=Z hlt1;have HL2:=Z hlt2;obtain⟨lb,lo,rfl,_⟩:=H5.F (by have:=HN.F;omega);obtain⟨y,hy⟩:∃y,l[i]? =some y:=⟨_,aR (by have:=HN.F;omega)⟩
   have zW:=Z hy;have VR:=Z (jO.F y (bJ hy));obtain⟨ly,Nr⟩:=au (j6 y);have Em:=Z (show((j6 y).drop 0).take 6=ly by rw[<-Nr];rfl);have QN:=Z (show ly.length=6 by rw[<-Nr];rfl);have Jb:=Z (show ∀y∈l,(j6 y).length=6 from fun _ _=>rfl);have uU:=Z (fun w M (h:Sat W w M)=>Ud h y VR.F);obtain⟨sb,hsb⟩:=au (uM y);have Cu:=Z (fun(I:sb=true) w (h:Sat W w (Cs po 36 (vB pd ps pe pw)::bF ps pd S::aP pd D::dz pw pe S gs::aW pe R::L))=>zz HPO.F gB.F (by omega) y VR.F (hsb.trans I) h);have QB:=Z (fun w pd ps pe pw S gs D R (ho:ah D S gs (52+500*i+500)) (hR:Rel D R) (h:Sat W w (Cs po 36 (vB pd ps pe pw)::bF ps pd S::aP pd D::dz pw pe S gs::aW pe R::L))=>nG ho hR (by omega) h);have HK:=Z (show 52+500*i+500<=52+500*(i+1) by omega);rw[Nr] at uU Cu;rw[hsb] at uU;clear hlt1 hlt2 hy Nr hsb lM hin
   cases sb with
   |false=>
    go_wp2_with (first
     |(go_at_call 10;refine ak (uU.F _ _ O) ?_;clear O;intro J O)
     |(go_at_call 11;refine ak (IY.F _ _ O) ?_;clear O;intro J O)
     |(refine bN (Dw (f:=j6) (x:=y) (HRR.F.old O) Jb.F _ _ (by rfl) _ (by rfl) (aI (by rfl)) (bz (by rfl)) i 0 (by omega) zW.F (vs:=ly) Em.F QN.F (by have:=uP.F;have:=HN.F;omega)) ?_))
    go_ret;exact⟨rfl,O.drop.drop.drop.drop.drop⟩
   |true=>
    replace Cu:=Z (Cu.F rfl)
    go_wp2_with (first
     |(go_at_call 10;refine ak (uU.F _ _ O) ?_;clear O;intro J O)
     |(go_at_call 13;refine(Cu.F _ O).mono ?_;rintro e J hE;obtain⟨rfl,yn,ps2,dL,eU,S2,gs2,D2,R2,hO2,hR2,hS1⟩:=hE;have HO2:=Z hO2;have HR2:=Z hR2;clear hO2 hR2;clear O;have O:=hS1;clear hS1)
     |(go_at_call 25;refine ak (QB.F _ _ _ _ _ _ _ _ _ HO2.F HR2.F O) ?_;clear O;intro J O)
     |(refine bN (Dw (f:=j6) (x:=y) (HRR.F.old O) Jb.F _ _ (by rfl) _ (by rfl) (aI (by rfl)) (bz (by rfl)) i 0 (by omega) zW.F (vs:=ly) Em.F QN.F (by have:=uP.F;have:=HN.F;omega)) ?_))
    exact⟨⟨i+1,yn,ps2,dL,eU,S2,gs2,D2,R2,by go_num,HL2.F,uP.F,HO2.F.to HK.F,HR2.F,O⟩,fZ HL2.F⟩
  ·have hex:(¬(i:Int)< (n:Int))∨((i:Int)< (n:Int)/\¬(i:Int)<30):=by omega
   have QB:=Z (fun w (h:Sat W w (Cs po 36 (vB pd ps pe pw)::bF ps pd S::aP pd D::dz pw pe S gs::aW pe R::L))=>nG HPO.F gB.F (by omega) h);clear hlt lM hin
   rcases hex with e1|⟨e1,e2⟩
   all_goals
    go_wp2;refine aF.F _ _ ?_;clear aF
    go_wp2_with (first
     |(go_at_call 25;refine ak (QB.F _ O) ?_;clear O;intro J O)
     |(go_at_call 11;refine ak (IY.F _ _ O) ?_;clear O;intro J O))
    go_ret;exact⟨rfl,O.drop.drop.drop.drop.drop⟩

set_option maxRecDepth 100000 in
theorem Plays.contract (fP:Type) (enc:TypeId×Value->fP) (W:World) (base:Nat) (args:Array Value) (ds gs:List (DataW fP)) (before:List MemPlace)
  (hval:∀(j:Nat) t v,Tryz.f4.params[j]? =some t->args[j]? =some v->Value.okWide Tryz.prog W .any base t v)
  (hW:DataW.Whole enc Tryz.prog Tryz.f4.params.toList Rows.storePlaysSpec.vars false W args.toList ds gs before)
  (JY:(DataW.weightsEach Tryz.prog (Tryz.f4.params.toList++Rows.storePlaysSpec.plain.varTypes Tryz.prog) (ds++gs)).all (· <=reachBytes)=true):
  Calls Tryz.prog 4 args W fun e W'=>∃v,e= .returned v/\Rows.storePlaysSpec.post enc Tryz.prog Tryz.f4 false true false false W args v W':=by
 have hW':=hW;obtain⟨p,q,hA,hV,rfl,hfz,hnd⟩:=hW;rw[Tryz.params4] at hA hval JY;obtain⟨v0,Jp,d0,ds0,p0,q0,hargs,rfl,rfl,h0,r0⟩:=trodAll_cons hA;obtain⟨v1,vs1,d1,ds1,p1,q1,rfl,rfl,rfl,I,r1⟩:=trodAll_cons r0;obtain⟨rfl,rfl,rfl⟩:=trodAll_nil r1;obtain rfl:args= #[v0,v1]:=by cases args;simp_all
 obtain⟨rfl,rfl⟩:=trodVars_none hV;obtain⟨blocks,rfl⟩:=okWide_int Tryz.underlying3 (hval 0 3 v0 rfl rfl);obtain⟨ao,len,cap,rfl⟩:=okWide_slice Tryz.underlying22 (hval 1 22 v1 rfl rfl);obtain⟨l,rfl,hr,hl⟩:=akF I (SX JY 1 rfl rfl);refine(Plays.walk (Sat.start W) blocks l ao cap hr hl).mono ?_;refine fun e W' ⟨he,O⟩=>?_
 subst he;exact⟨_,rfl,ajA (tb:=4) (by kernel_rfl) (by kernel_rfl) rfl Tryz.underlying4 rfl hW' rfl O⟩

theorem Plays.own:ownKnob Tryz.prog.godebug=none:=by kernel_rfl
set_option maxRecDepth 100000 in
theorem Plays.lifted (os:Os) (started:os.Started) (fP:Type) (enc:TypeId×Value->fP):
  ReturnsInHanded {} Tryz.checked os 4 .any (Rows.storePlaysSpec.pre6 enc Tryz.prog Tryz.f4 Rows.storePlaysRow.domain false) (Rows.storePlaysSpec.post enc Tryz.prog Tryz.f4 false true false false):=by
 refine returnsInHanded_of_change_shaped (C:=Tryz.checked) Plays.own started (by kernel_rfl) Tryz.func4
  (ChangeSpec.witness6 (enc:=enc) (C:=Tryz.checked) false ⟨#[], #[.int .i64 0, .slice none 0 0],[]⟩ 8 (by kernel_rfl) (by kernel_rfl) (by kernel_rfl) (by kernel_rfl)) ?_
 intro W base args ds gs before hval hW _ JY _ _;exact Plays.contract fP enc W base args ds gs before hval hW JY

theorem Plays.holds:Rows.StorePlaysSaid:=
 OpenClaim.holds_of_wide 4 Tryz.f4 rfl rfl rfl rfl rfl rfl rfl ⟨rfl,rfl,rfl,rfl,rfl⟩ rfl rfl rfl rfl rfl (by kernel_rfl) Tryz.func4 (by kernel_rfl)
  (of_decide_eq_true (by kernel_rfl)) (by unfold Func.isWrapper;first|(rw[if_pos (by decide+kernel)];kernel_rfl)|(rw[if_neg (by decide+kernel)];exact⟨rfl,rfl⟩))
  (fun os started fP enc _=>Plays.lifted os started fP enc)
end Go.Proofs.YtjbiihbicknemaaGreat
