/-
  Part of the proof of StoreWhole.
-/
import Derived.Test.YtjbiihbicknemaaGreatMSeP
set_option linter.unusedSimpArgs false
set_option linter.unusedVariables false
set_option maxRecDepth 20000
set_option maxHeartbeats 40000000
namespace Go.Proofs.YtjbiihbicknemaaGreat
open Go.RowKit Go.Sep
variable {W w:World} {L:List aA}
attribute [local irreducible] Oper.wp wpList Calls Code.wp Sep.dR Sep.fJ
def afG (W:World) (L:List aA) (l:List mI) (e:Ending) (w':World):Prop:=
 ∃(va vb:Value) (A B:List aT),e= .returned (.tuple #[va,vb])/\iO A=xg l/\iO B=xg l/\(∀x∈A,zZ W true x)/\(∀x∈B,zZ W false x)/\
  Sat W w' (Tb 133 40 bX va A::St (A.map (jw true))::Tb 134 40 bX vb B::St (B.map (jw false))::L)
def V7 (W:World) (L:List aA) (l:List mI) (v6 v4 v5:Value) (wz:World):Prop:=
 ∃(i:Nat) (A B:List aT),v6= .int .i64 (i:Int)/\i<=l.length/\i<=10/\iO A=(l.take i).map yu/\iO B=(l.take i).map yu/\(∀x∈A,zZ W true x)/\(∀x∈B,zZ W false x)/\
  Sat W wz (Tb 133 40 bX v4 A::St (A.map (jw true))::Tb 134 40 bX v5 B::St (B.map (jw false))::L)
def V6 (W:World) (M:List aA) (x:mI) (p7 p8:Nat) (vp:Value) (v10:Value) (wz:World):Prop:=
 ∃(k:Nat) (vx vy:Value) (sx sy:List Value),v10= .int .i64 (k:Int)/\k<=nS x/\sx.length=k/\sy.length=k/\
  Sat W wz (Cs p7 133 (xv x.at_ x.ino vp vx)::Tb 69 1 eF vx sx::St (List.zipWith Br sx (qo x k))::Cs p8 134 (xv x.at_ x.ino x.nP vy)::Tb 69 1 eF vy sy::St (List.zipWith Br sy (qo x k))::M)
def OJ (W:World) (M:List aA) (x:mI) (p7 p8:Nat) (vp:Value) (ao:Option Addr) (ln cq i:Nat) (v4 v5:Value):Act->World->Prop:=(fun(a':Act) (w':World)=>(Sat W w' (Cs p7 133 (xv x.at_ x.ino vp (.slice none 0 0))::Cs p8 134 (xv x.at_ x.ino x.nP (.slice none 0 0))::M))/\xQ 133 [(0, .slice ao ln cq),(1,(undef)),(2, .slice none 0 0),(3, .slice none 0 0),(4,v4),(5,v5),(6, .int .i64 (i:Int)),(7, .pointer (some ⟨p7,0,none⟩)),(8, .pointer (some ⟨p8,0,none⟩)),(9, .int .i64 ((nS x:Nat):Int)),(131,(undef)),(132,(undef))] a')
def KN (W:World) (R:List aA) (x:mI) (p7 p8:Nat) (ao:Option Addr) (ln cq i k:Nat) (v4 v5:Value) (y:Nat->Value):Act->World->Prop:=(fun(a':Act) (w':World)=>(Sat W w' (Br (a'.tmps.getD 11 undef) (yz x k)::R))/\tN 133 [(0, .slice ao ln cq),(1,(undef)),(2, .slice none 0 0),(3, .slice none 0 0),(4,v4),(5,v5),(6, .int .i64 (i:Int)),(7, .pointer (some ⟨p7,0,none⟩)),(8, .pointer (some ⟨p8,0,none⟩)),(9, .int .i64 ((nS x:Nat):Int)),(10, .int .i64 (k:Int)),(131,(undef)),(132,(undef))] [11,72,73,74,75,76,77,78,79,80,81,82,83,84,85,86,87,88,89,90,91,92,93,94,95,96,97,98,99,100,101,102,103,104,105,106,107,108,109,110,111,112,113,114,115,116,117,118,119,120,121,122] y a')
theorem acd (O:Sat W w L) (l:List mI) (ao:Option Addr) (cq:Nat) (hv:Rd W (.slice ao l.length cq) l.length 41 (l.flatMap kg)) (hl:∀y∈l,y.Ok W) (hd:l.all vS=true) (hb:∀y∈l,nS y*24<=reachBytes):
  Calls Tryz.prog 21 #[.slice ao l.length cq] w fun e w'=>afG W L l e w':=by
 have HV:=Z hv;have bq:=Z hl;have Cu:=Z hd;have rV:=Z hb;have HF:=Z (show ∀y∈l,(kg y).length=41 from fun y hy=>aaa (hl y hy).pl);obtain⟨_,_,he,hc1,hc2,_,h5⟩:=id hv;obtain⟨rfl,rfl⟩:=gq he;have H5:=Z h5;obtain⟨ln,hln⟩:=au l.length;have aM:=Z hln;have pM:(ln:Int)<=9223372036854775807:=by omega
 rw[hln];clear hv hl hd hb h5 hc1 hc2 hln;go_enter Tryz.func21,Tryz.ntmps21;go_wp2;have H0:=Z (show V7 W L l (.int .i64 0) (.slice none 0 0) (.slice none 0 0) _ from⟨0,[],[],rfl,eG _,by decide,rfl,rfl,fun _ h=>(nomatch h),fun _ h=>(nomatch h),((Sat.jb (Sat.yQ (Sat.jb (Sat.yQ O)))))⟩);clear O;go_loopw [6,4,5] (fun v6 v4 v5 wz=>V7 W L l v6 v4 v5 wz) (fun v6 _ _ _=>iV 10 v6)
 case atStart=>exact H0.F
 case round=>
  clear H0;obtain⟨i,A,B,rfl,hi,Nq,hcA,hcB,hgA,hgB,O⟩:=hrel;rw[aM.F] at hi;have LF:=Z hcA;have oM:=Z hcB;have tV:=Z hgA;have FX:=Z hgB;clear hcA hcB hgA hgB
  have EP:A.length=i:=by
   have I:=congrArg List.length LF.F;rw[Gv,qa,jr,aM.F] at I;omega
  have hBl:B.length=i:=by
   have I:=congrArg List.length oM.F;rw[Gv,qa,jr,aM.F] at I;omega
  have nH:=Z EP;have pE:=Z hBl
  by_cases hgo:i<ln/\i<10
  ·have k1:(i:Int)< (ln:Int):=by omega
   have k2:(i:Int)<10:=by omega
   have dV:=Z hgo;obtain⟨pb,po,rfl,_⟩:=H5.F (by have:=aM.F;omega);obtain⟨x,V⟩:∃x,l[i]? =some x:=⟨_,aR (by have:=aM.F;omega)⟩
   have dD:=Z V;have hxm:=bJ V;have hxo:=bq.F x hxm;have eH:=Z hxo;have VN:=Z (jV.1 Cu.F x hxm);have HXB:=Z (rV.F x hxm);obtain⟨JM,JN,YC⟩:=aab hxo.pl;have qW:=Z (ajZ hxo.pl);obtain⟨ap,cp,hpv⟩:∃ao c,x.nP= .slice ao x.pieces.length c:=by obtain⟨ao,c,he,_⟩:=hxo.p;exact⟨ao,c,he⟩
   obtain⟨ad,cd,hdv⟩:∃ao c,x.uq= .slice ao x.data.length c:=by obtain⟨ao,c,he,_⟩:=hxo.d;exact⟨ao,c,he⟩
   have uR:=Z hpv;have zQ:=Z hdv;obtain⟨np,fT⟩:=au x.pieces.length;obtain⟨nd,hnd⟩:=au x.data.length;obtain⟨rb,hrb⟩:=au x.raw;have qH:=Z fT;have dP:=Z hnd;have jX:=Z hrb;obtain⟨q0,ha⟩:=au x.at_;have HA:=Z ha;have G0:=Z (show(kg x)[0]? =some (.int .i64 q0) by rw[<-ha];rfl);have jf:=Z JM;have jW:=Z JN;have wN:=Z YC;rw[hpv,fT] at jf;rw[hdv,hnd] at jW;rw[hrb] at wN;have dI:=Z (show(inv x.ino).length=37 by rw[fe,hxo.pl]);have IZ:=Z (fun v hv=>agn q0 x.ino eH.F.pl v hv);have y5:=Z (fun v hv=>agp q0 x.ino eH.F.pl v hv);have eY:=Z (fun vp vd=>show(xv q0 x.ino vp vd).length=40 from aoN eH.F.pl);have mH:=Z (fun vp vd I H=>show ∀u∈xv q0 x.ino vp vd,u.oneCell'=true from aoO I H)
   have DZ:=Z (fun w M (h:Sat W w M)=>by
    have I:=ajo h x.pieces x.nP (eH.F.p.old h) eH.F.pw;rw[qH.F,uR.F,qH.F] at I
    exact I)
   have hpi:(np:Int)<=9223372036854775807:=by have:=hxo.pw;unfold reachBytes at this;omega
   have hdi:(nd:Int)<=9223372036854775807:=by have:=hxo.dw;unfold reachBytes at this;omega
   obtain⟨iz,hiz⟩:=au (inv x.ino);rw[hiz] at qW dI IZ y5;clear hi Nq EP hBl hgo V hxm hxo JM JN YC hpv hdv fT hnd hrb ha hiz;refine dK (fun KO I7=>?_);go_wp2;refine I7.F _ _ ?_;clear I7;refine dK (fun KO I7=>?_);refine wp_block ?_;refine dK (fun KX aF=>?_);go_wp2
   (refine ll (pO [0,1]<|tO [2]<|pO [3]<|rO [4]<|pO [5,6]<|tO [7]<|pO [8]<|rO [9]<|pO [10,11]<|tO [12]<|pO [13]<|rO [14]<| .m 15 17 (tO [16]<|aO [17]<| .e) (aO [15]<|tO [16]<| .e)) [18] O (fun _ h=>h) ?_;clear O;intro J O)
   repeat (first
    |(refine bG O ?_ (hL:=fun _ h=>by first|exact h|exact h|(first|exact h|exact h.drop|exact h.drop.drop));go_frame)
    |(refine oI O ?_ (hL:=fun _ h=>by first|exact h|exact h|(first|exact h|exact h.drop|exact h.drop.drop));apply Exists.intro;apply And.intro;(intro w;first|first|exact KH (by rfl) (by simp only[List.map_toArray,jN,List.map_nil];rfl) (IZ.F _ (OX O aa)) w|exact KH (by rfl) (by simp only[List.map_toArray,jN,List.map_nil];rfl) (IZ.F _ (OX O hz1)) w|(go_simp;rw[if_pos (by omega)])|(go_simp;try with_reducible rfl));go_frame)
    |(refine bR O ?_ (hL:=fun _ h=>by first|exact h|exact h|(first|exact h|exact h.drop|exact h.drop.drop));(first
       |refine⟨_,fun u hu=>fE (f:=kg) (x:=x) (HV.F.old hu) HF.F _ _ (by rfl) _ (by rfl) (aI (by rfl)) i 0 (by omega) dD.F G0.F (by have:=dV.F;have:=aM.F;omega),?_⟩
       |refine⟨_,fun u hu=>fE (f:=kg) (x:=x) (HV.F.old hu) HF.F _ _ (by rfl) _ (by rfl) (aI (by rfl)) i 38 (by omega) dD.F jf.F (by have:=dV.F;have:=aM.F;omega),?_⟩
       |refine⟨_,fun u hu=>Dw (f:=kg) (x:=x) (HV.F.old hu) HF.F _ _ (by rfl) _ (by rfl) (aI (by rfl)) (bz (by rfl)) i 1 (by omega) dD.F (vs:=iz) qW.F dI.F (by have:=dV.F;have:=aM.F;omega),?_⟩);go_frame))
   revert O;apply Ca (aO [18]<| .e) (fun(p7 _b2 _b3:Nat) (vp _v2 _v3:Value) w'=>Sat W w' (Cs p7 133 (xv 0 bC (.slice none 0 0) (.slice none 0 0))::Sl 3 1 vp np (pv x.pieces)::Tb 133 40 bX u4 A::St (A.map (jw true))::Tb 134 40 bX u5 B::St (B.map (jw false))::L)) (Tb 133 40 bX u4 A::St (A.map (jw true))::Tb 134 40 bX u5 B::St (B.map (jw false))::L)
   case I=>
    intro hJ O
    repeat' (first
     |(refine oI O ?_ (hL:=fun _ h=>by first|exact h|exact h|(first|exact h|exact h.drop|exact h.drop.drop));apply Exists.intro;apply And.intro;(intro w;first|first|exact KH (by rfl) (by simp only[List.map_toArray,jN,List.map_nil];rfl) (IZ.F _ (OX O aa)) w|exact KH (by rfl) (by simp only[List.map_toArray,jN,List.map_nil];rfl) (IZ.F _ (OX O hz1)) w|(go_simp;rw[if_pos (by omega)])|(go_simp;try with_reducible rfl));go_frame)
       |(refine bY fun K hK=>?_;(first|(refine dst 37 ?_;refine cK (DZ.F _ _ O) ?_;clear O;rintro e J ⟨vp,rfl,O⟩;refine⟨_,rfl,?_⟩)|(refine dst 7 ?_;refine uW O ?_;clear O;intro p7 J O;rw[aS] at O));refine hK.up O ?_ (.inr ⟨rfl,fun _ h=>by first|exact h|exact h.drop|exact h.drop.drop⟩);clear hK K;go_frame)
       |(refine Cc ?_ ?_<;>(intro K hK;(first|(refine dst 37 ?_;refine cK (DZ.F _ _ O) ?_;clear O;rintro e J ⟨vp,rfl,O⟩;refine⟨_,rfl,?_⟩)|(refine dst 7 ?_;refine uW O ?_;clear O;intro p7 J O;rw[aS] at O));refine hK.up O ?_ (.inr ⟨rfl,fun _ h=>by first|exact h|exact h.drop|exact h.drop.drop⟩);clear hK K;go_frame))
       |(refine Cb ?_;refine(fun(g:Nat->Nat->Value->Value->_)=>g 0 0 (.slice none 0 0) (.slice none 0 0)) ?_;intro x2 x3 y2 y3;first|exact hJ p7 x2 x3 vp y2 y3 _ O|exact hJ p7 x2 x3 vp y2 y3 _ (O.re [1,0])))
   intro p7 _ _ vp _ _ J O
   repeat (first
    |(refine bY fun K hK=>?_;(refine DF (xv q0 x.ino vp (.slice none 0 0)) O aa ?_ (hv:=(mH.F _ _ (QS (O.dY (k:=1) rfl)) rfl)) (hn:=by rw[eY.F];exact bz (by rfl)) (hb:=by rw[eY.F];rfl);clear O;intro J O;rw[aD] at O);first|refine hK.up O ?_|refine hK.up O ?_ (.inr ⟨rfl,fun _ h=>by first|exact h|exact h.drop|exact h.drop.drop⟩);clear hK K;go_frame))
   refine bO ?_;refine aF.F _ _ ?_;clear aF;refine dK (fun KX aF=>?_);go_wp2
   (refine cB (pO [0,1]<|tO [2]<|pO [3]<|rO [4]<|pO [5,6]<|tO [7]<|pO [8]<|rO [9]<|pO [10,11]<|tO [12]<|pO [13]<|rO [14]<|tO [15]<|aO [16,17]<| .e) [17] O ?_;clear O;intro J O)
   repeat (first
    |(refine bG O ?_;go_frame)
    |(refine oI O ?_;apply Exists.intro;apply And.intro;(intro w;first|first|exact KH (by rfl) (by simp only[List.map_toArray,jN,List.map_nil];rfl) (y5.F _ ⟨_,_,_,rfl⟩) w|(go_simp;rw[if_pos (by omega)])|(go_simp;try with_reducible rfl));go_frame)
    |(refine bR O ?_;(first
       |refine⟨_,fun u hu=>fE (f:=kg) (x:=x) (HV.F.old hu) HF.F _ _ (by rfl) _ (by rfl) (aI (by rfl)) i 0 (by omega) dD.F G0.F (by have:=dV.F;have:=aM.F;omega),?_⟩
       |refine⟨_,fun u hu=>fE (f:=kg) (x:=x) (HV.F.old hu) HF.F _ _ (by rfl) _ (by rfl) (aI (by rfl)) i 38 (by omega) dD.F jf.F (by have:=dV.F;have:=aM.F;omega),?_⟩
       |refine⟨_,fun u hu=>Dw (f:=kg) (x:=x) (HV.F.old hu) HF.F _ _ (by rfl) _ (by rfl) (aI (by rfl)) (bz (by rfl)) i 1 (by omega) dD.F (vs:=iz) qW.F dI.F (by have:=dV.F;have:=aM.F;omega),?_⟩);go_frame)
    |(refine bY fun K hK=>?_;(first
       |(refine DF (xv q0 x.ino (.slice ap np cp) (.slice none 0 0)) O aa ?_ (hv:=(mH.F _ _ rfl rfl)) (hn:=by rw[eY.F];exact bz (by rfl)) (hb:=by rw[eY.F];rfl);clear O;intro J O;rw[aD] at O)
       |(refine uW O ?_;clear O;intro p8 J O;rw[aS] at O));refine hK.go O ?_;clear hK K;go_frame))
   refine bO ?_;go_wp2;refine aF.F _ _ ?_;clear aF;have iY:=Z (HV.F.old O);refine dK (fun KX aF=>?_)
   go_wp2_with (refine bN (fE (f:=kg) (x:=x) iY.F HF.F _ _ (by rfl) _ (by rfl) (aI (by rfl)) i 38 (by omega) dD.F jf.F (by have:=dV.F;have:=aM.F;omega)) ?_)
   refine aF.F _ _ ?_;clear aF;refine pV (OJ W (Sl 3 1 vp np (pv x.pieces)::Tb 133 40 bX u4 A::St (A.map (jw true))::Tb 134 40 bX u5 B::St (B.map (jw false))::L) x p7 p8 vp (some ⟨pb,po,none⟩) ln cq i u4 u5) (fun KX aF=>?_) ?_
   ·cases rb with
    |true=>
     go_wp2_with (first
      |(refine bN (fE (f:=kg) (x:=x) iY.F HF.F _ _ (by rfl) _ (by rfl) (aI (by rfl)) i 40 (by omega) dD.F wN.F (by have:=dV.F;have:=aM.F;omega)) ?_)
      |(refine bN (fE (f:=kg) (x:=x) iY.F HF.F _ _ (by rfl) _ (by rfl) (aI (by rfl)) i 39 (by omega) dD.F jW.F (by have:=dV.F;have:=aM.F;omega)) ?_))
     refine aF.F _ _ ?_;unfold OJ;rw[show nS x=nd by unfold nS;rw[if_pos jX.F,dP.F],HA.F,uR.F,qH.F];exact⟨O.bW,rfl⟩
    |false=>
     go_wp2_with (refine bN (fE (f:=kg) (x:=x) iY.F HF.F _ _ (by rfl) _ (by rfl) (aI (by rfl)) i 40 (by omega) dD.F wN.F (by have:=dV.F;have:=aM.F;omega)) ?_)
     refine aF.F _ _ ?_;unfold OJ;rw[show nS x=np by unfold nS;rw[if_neg (by rw[jX.F];decide),qH.F],HA.F,uR.F,qH.F];exact⟨O.bW,rfl⟩
   clear O iY;rintro a wz hinv;unfold OJ at hinv;obtain⟨hrel,ha⟩:=hinv;obtain⟨z,hz⟩:∃z:Nat->Value,∀i,a.tmps.getD i undef=z i:=⟨_,fun _=>rfl⟩
   try simp only[hz] at hrel
   replace ha:=ha.at hz;simp only[mM,lh] at ha;clear hz;subst ha;have O:=hrel;clear hrel;obtain⟨nn,hnn⟩:=au (nS x);have qf:=Z hnn;rw[hnn];have nni:(nn:Int)<=9223372036854775807:=by have:=HXB.F;rw[hnn] at this;unfold reachBytes at this;omega
   rw[HA.F] at O;clear hnn;refine dK (fun KX aF=>?_)
   have H1:=Z (show V6 W (Sl 3 1 vp np (pv x.pieces)::Tb 133 40 bX u4 A::St (A.map (jw true))::Tb 134 40 bX u5 B::St (B.map (jw false))::L) x p7 p8 vp (.int .i64 0) _ from⟨0,_,_,[],[],rfl,eG _,rfl,rfl,by
    rw[HA.F]
    exact(Sat.jb (Sat.yQ (Sat.jb (Sat.yQ O)))).re [4,0,1,5,2,3]⟩)
   clear O;go_wp2;go_loopw [10] (fun v10 wz=>V6 W (Sl 3 1 vp np (pv x.pieces)::Tb 133 40 bX u4 A::St (A.map (jw true))::Tb 134 40 bX u5 B::St (B.map (jw false))::L) x p7 p8 vp v10 wz) (fun v10 _=>iV nn v10)
   case atStart=>exact H1.F
   case round=>
    clear H1;obtain⟨k,vx,vy,sx,sy,rfl,hk,hsx,hsy,O⟩:=hrel;rw[qf.F] at hk;rw[HA.F] at O;have uT:=Z hsx;have uU:=Z hsy;clear hsx hsy
    by_cases hkn:k<nn
    ·have k3:(k:Int)< (nn:Int):=by omega
     have FZ:=Z hkn;clear hk hkn;refine dK (fun KX2 I8=>?_);go_wp2;refine I8.F _ _ ?_;clear I8;refine dK (fun KX2 I8=>?_);refine wp_block ?_;refine dK (fun VT Bf=>?_)
     go_wp2_with (refine aU ?_;refine mk O _ _ _ (by rfl) 128 128 _ _ (by rfl) (by rfl) (bS (by rfl)) (by omega) (by omega) (by omega) ?_;clear O;intro pc J O;rw[zA] at O)
     refine Bf.F _ _ ?_;clear Bf;have iY:=Z (HV.F.old O);have hrd:=eH.F.d;rw[zQ.F,dP.F] at hrd;refine pV (KN W (Cs p7 133 (xv q0 x.ino vp vx)::Tb 69 1 eF vx sx::St (List.zipWith Br sx (qo x k))::Cs p8 134 (xv q0 x.ino x.nP vy)::Tb 69 1 eF vy sy::St (List.zipWith Br sy (qo x k))::Sl 3 1 vp np (pv x.pieces)::Tb 133 40 bX u4 A::St (A.map (jw true))::Tb 134 40 bX u5 B::St (B.map (jw false))::L) x p7 p8 (some ⟨pb,po,none⟩) ln cq i k u4 u5 z) (fun VT Bf=>?_) ?_
     ·by_cases hkd:k<nd
      ·have k4:(k:Int)< (nd:Int):=by omega
       have Cy:=Z hkd;obtain⟨_,_,he,_,_,_,h7⟩:=id hrd;obtain⟨rfl,rfl⟩:=gq he;obtain⟨db,Gx,rfl,_⟩:=h7 (by omega);obtain⟨d,hd⟩:∃d,x.data[k]? =some d:=⟨_,aR (by rw[dP.F];exact hkd)⟩
       obtain⟨u,hu⟩:∃u,x.l9[k]? =some u:=⟨_,aR (by rw[eH.F.dl,dP.F];exact hkd)⟩
       have Sn:=eH.F.b k u d hu hd;obtain⟨uc,ucc,rfl,_⟩:=id Sn;have iB:=Z (fun w M (h:Sat W w M)=>hrd.old h);have HU:=Z hu;have VA:=Z Sn
       have Y6:d.length<=200:=by
        have I:=VN.F;unfold vS at I;have:=jV.1 I d (bJ hd)
        simpa using this
       have adZ:=Z Y6;have vK:=Z (fun w M (h:Sat W w M)=>Xa h d (.slice uc d.length ucc) (VA.F.old h) (by have:=adZ.F;omega));have xZ:=Z (akQ d);have eX:=Z (aba d);obtain⟨dl,hdl⟩:=au d.length;have mW:=Z hdl;have iT:=Z (show yz x k=if rb then d else pad d by unfold yz;rw[jX.F,hd];rfl);have dli:(dl:Int)<=200:=by omega
       rw[hdl] at HU vK xZ;clear hkd h7 hd hu Sn hrd Y6 hdl;have F8:=Z (show Rd W (.slice uc dl ucc) dl 1 (bv d) from by have:=VA.F;rw[mW.F] at this;exact this)
       cases rb with
       |true=>
        replace iT:=Z (show yz x k=d from iT.F.trans (if_pos rfl))
        go_wp2_with (first
         |(refine bN (fE (f:=kg) (x:=x) (HV.F.old O) HF.F _ _ (by rfl) _ (by rfl) (aI (by rfl)) i 39 (by omega) dD.F jW.F (by have:=dV.F;have:=aM.F;omega)) ?_)
         |(refine bN (fE (f:=kg) (x:=x) (HV.F.old O) HF.F _ _ (by rfl) _ (by rfl) (aI (by rfl)) i 40 (by omega) dD.F wN.F (by have:=dV.F;have:=aM.F;omega)) ?_)
         |(refine bN (fF (iB.F _ _ O) _ _ (by rfl) _ (by rfl) (aI (by rfl)) k (by omega) HU.F (by have:=Cy.F;omega)) ?_)
         |(refine aU ?_;refine Go.Sep.cp O _ _ _ _ (by rfl) _ _ _ _ _ (by rfl) (by rfl) (bS (by rfl)) (by omega) aa (by exact F8.F.old O) (uk _) (by simp[bv,zeros]) ?_;clear O;intro J O;rw[xZ.F] at O;dsimp only[aD] at O)
         |(go_at_call 64;refine(vK.F _ _ O).mono ?_;clear O;rintro e J ⟨v11,rfl,O⟩))
        refine Bf.F _ _ ?_;unfold KN;rw[iT.F,qf.F];rw[show Sl 5 1 v11 dl (bv d)=Br v11 d by unfold Br;rw[mW.F]] at O;exact⟨O.bW.drop,rfl⟩
       |false=>
        replace iT:=Z (show yz x k=pad d from iT.F.trans (if_neg (by decide)))
        go_wp2_with (first
         |(refine bN (fE (f:=kg) (x:=x) (HV.F.old O) HF.F _ _ (by rfl) _ (by rfl) (aI (by rfl)) i 39 (by omega) dD.F jW.F (by have:=dV.F;have:=aM.F;omega)) ?_)
         |(refine bN (fE (f:=kg) (x:=x) (HV.F.old O) HF.F _ _ (by rfl) _ (by rfl) (aI (by rfl)) i 40 (by omega) dD.F wN.F (by have:=dV.F;have:=aM.F;omega)) ?_)
         |(refine bN (fF (iB.F _ _ O) _ _ (by rfl) _ (by rfl) (aI (by rfl)) k (by omega) HU.F (by have:=Cy.F;omega)) ?_)
         |(refine aU ?_;refine Go.Sep.cp O _ _ _ _ (by rfl) _ _ _ _ _ (by rfl) (by rfl) (bS (by rfl)) (by omega) aa (by exact F8.F.old O) (uk _) (by simp[bv,zeros]) ?_;clear O;intro J O;rw[xZ.F] at O;dsimp only[aD] at O))
        refine Bf.F _ _ ?_;unfold KN;rw[iT.F,qf.F];exact⟨Xr eX.F O,rfl⟩
      ·have k4:¬(k:Int)< (nd:Int):=by omega
       have iT:=Z (show yz x k=zeros 128 by
        unfold yz;rw[jX.F]
        cases rb with
        |true=>
         have:=qf.F;unfold nS at this;rw[if_pos jX.F,dP.F] at this;have:=FZ.F;omega
        |false=>rw[qE (by rw[dP.F];omega)];rfl)
       clear hkd hrd
       go_wp2_with (refine bN (fE (f:=kg) (x:=x) (HV.F.old O) HF.F _ _ (by rfl) _ (by rfl) (aI (by rfl)) i 39 (by omega) dD.F jW.F (by have:=dV.F;have:=aM.F;omega)) ?_)
       refine Bf.F _ _ ?_;unfold KN;rw[iT.F,qf.F];exact⟨Xr (by simp[zeros]) O,rfl⟩
     have LH:=Z (ahr VN.F k);clear O iY hrd;rintro a wz hinv;unfold KN at hinv;obtain⟨hrel,ha⟩:=hinv;obtain⟨z,hz⟩:∃z:Nat->Value,∀i,a.tmps.getD i undef=z i:=⟨_,fun _=>rfl⟩
     try simp only[hz] at hrel
     replace ha:=ha.at hz;simp only[mM,lh] at ha;clear hz;subst ha;have O:=hrel;clear hrel;rw[qf.F];obtain⟨v11,Zq⟩:=au (z 11);rw[Zq] at O ⊢;clear Zq;have I4:=Z (ag2 x k);obtain⟨d,hd⟩:=au (yz x k);rw[hd] at O LH I4;clear hd;obtain⟨xc,c11,rfl,_⟩:=(show Sat W _ (Sl 5 1 v11 d.length (bv d)::_) from O).tK (k:=0) rfl;obtain⟨dl,hdl⟩:=au d.length;have mW:=Z hdl;rw[hdl] at O LH ⊢;have dli:(dl:Int)<=200:=by have:=LH.F;omega
     clear hdl;have VL:=Z (fun vp vd=>show(xv q0 x.ino vp vd)[39]? =some vd from aoM eH.F.pl);have VP:=Z (fun vp vd u=>show(xv q0 x.ino vp vd).set 39 u=_ from aoP eH.F.pl)
     have Cx:=Z (show(k+1)*24<=140737488351232 by
      have I:=HXB.F;have H:=qf.F;have h3:=FZ.F;unfold reachBytes at I;rw[H] at I
      omega)
     refine dK (fun VT Bf=>?_)
     go_wp2_with (first
      |(refine aH O hz1 (VL.F _ _) ?_)
      |(refine il [.slice xc dl c11] O ?_ (hc:=by simp[Value.cells]);clear O;intro b19 J O;rw[jC rfl] at O)
      |(at_builtin;refine og (f:=eF) O hz3 [.slice xc dl c11] ?_ (hlen:=by intro x V;rfl) (hsrc:=by exact O.gZ (f:=eF) (x:= .slice xc dl c11) aa rfl) (I:=by intro u hu;rw[TA] at hu;rw[eD.1 hu];rfl) (hb:=by rw[uT.F];have:=Cx.F;simp only[dC];omega) (hm:=by rw[uT.F];have:=Cx.F;simp only[dC];omega);clear O;intro a19 c19 J _ O;rw[aN,aN,aN,aD] at O)
      |(refine iA O hz2 ?_ (hb:=by rw[eY.F];decide);clear O;intro J O;rw[aN,aN,aD,VP.F] at O))
     refine Bf.F _ _ ?_;clear Bf
     have vK:=Z (fun w M (h:Sat W w M) (hr:Rd w (.slice xc dl c11) dl 1 (bv d))=>by
      have I:=Xa h d (.slice xc dl c11) (by rw[mW.F];exact hr) (by rw[mW.F];have:=LH.F;omega);rw[mW.F] at I
      exact I)
     go_wp2
     (refine cB (pO [0]<|rO [1]<|pO [2]<|aO [3,4,5]<|pO [6]<|aO [7]<| .e) [5,7] O ?_;clear O;intro J O)
     repeat (first
      |(refine bG O ?_;go_frame)
      |(refine OH O ?_;(first
           |refine bK vk (VL.F _ _) ?_);go_frame)
      |(refine bY fun K hK=>?_;(first
           |(refine cK (vK.F _ _ O ((show Sat W _ (_::Sl 5 1 (.slice xc dl c11) d.length (bv d)::_) from O).am7 mW.F)) ?_;clear O;rintro e J ⟨v12,rfl,O⟩;obtain⟨a12,c12,rfl,_⟩:=O.tK (k:=0) rfl;refine⟨_,rfl,?_⟩)
           |(refine mJ [.slice a12 dl c12] O ?_ (hc:=by simp[Value.cells]);clear O;intro b20 J O;rw[jC rfl] at O)
           |(refine Js (f:=eF) O BO [.slice a12 dl c12] ?_ (hlen:=by intro x V;rfl) (hsrc:=by exact O.gZ (f:=eF) (x:= .slice a12 dl c12) aa rfl) (I:=by intro u hu;rw[TA] at hu;rw[eD.1 hu];rfl) (hb:=by rw[uU.F];have:=Cx.F;simp only[dC];omega) (hm:=by rw[uU.F];have:=Cx.F;simp only[dC];omega);clear O;intro a22 c22 J _ O;rw[aN,aN,aN,aN,aN,aN,aN,aN,aD] at O)
           |(refine O5 O Ho ?_ (hb:=by rw[eY.F];decide);clear O;intro J O;rw[aN,aN,aN,aN,aN,aN,aN,aD,VP.F] at O));refine hK.go O ?_;clear hK K;go_frame))
     refine bO ?_;go_wp2;refine I8.F _ _ ?_;clear I8;have e1:List.zipWith Br (sx++[.slice xc dl c11]) (qo x (k+1))=List.zipWith Br sx (qo x k)++[Br (.slice xc dl c11) d]:=by rw[I4.F,adw (by rw[uT.F,MX])]
     have e2:List.zipWith Br (sy++[.slice a12 dl c12]) (qo x (k+1))=List.zipWith Br sy (qo x k)++[Br (.slice a12 dl c12) d]:=by rw[I4.F,adw (by rw[uU.F,MX])]
     have f2:Sl 5 1 (.slice a12 dl c12) dl (bv d)=Br (.slice a12 dl c12) d:=by unfold Br;rw[mW.F]
     have E1:=Z e1;have E2:=Z e2;rw[f2] at O;clear e1 e2 f2;simp only[bP,dC] at O;have I:=Sat.AO (show Sat W _ (Br (.slice xc dl c11) d::St (List.zipWith Br sx (qo x k))::_) from O.re [3,6]);have H:=Sat.AO (show Sat W _ (Br (.slice a12 dl c12) d::St (List.zipWith Br sy (qo x k))::_) from I.re [2,8]);rw[<-E1.F,<-E2.F] at H;have Nj:=((H.re [4,5,1,6,7,0]).re [6,7]).drop.drop;clear I H;clear O E1 E2;go_wp2;exact⟨⟨k+1,_,_,sx++[.slice xc dl c11],sy++[.slice a12 dl c12],by go_num,by rw[qf.F];exact FZ.F,by rw[bP,uT.F];rfl,by rw[bP,uU.F];rfl,by rw[HA.F];exact Nj⟩,fZ FZ.F⟩
    ·obtain rfl:k=nn:=by omega
     have k3:¬(k:Int)< (k:Int):=by omega
     clear hk hkn;go_wp2;refine aF.F _ _ ?_;clear aF;have hpl:=eH.F.pl;have jK:=Z (fun vp vd=>show((xv q0 x.ino vp vd).drop 0).take 40=xv q0 x.ino vp vd by rw[kz,dF (by rw[eY.F];exact aZ _)]);have Zv:vx.oneCell'=true:=by obtain⟨_,_,rfl,_⟩:=O.fA (k:=1) rfl;rfl
     have Zw:vy.oneCell'=true:=by obtain⟨_,_,rfl,_⟩:=O.fA (k:=4) rfl;rfl
     have Zu:vp.oneCell'=true:=by obtain⟨_,_,rfl,_⟩:=O.tK (k:=6) rfl;rfl
     have qg:=Z (show ∀u∈xv q0 x.ino vp vx,u.oneCell'=true from mH.F _ _ Zu Zv);have HS2:=Z (show ∀u∈xv q0 x.ino (.slice ap np cp) vy,u.oneCell'=true from mH.F _ _ rfl Zw);have Vx:=Z (show x.nP= .slice ap np cp by rw[uR.F,qH.F]);rw[Vx.F] at O;have U5:=Z (show A.length<=10 by have:=nH.F;have:=dV.F;omega);have U7:=Z (show B.length<=10 by have:=pE.F;have:=dV.F;omega);have El:=Z (fun(y:aT) (hy:(bX y).length=40)=>show ∀z∈[y],(bX z).length=40 from fun z hz=>by rw[eD.1 hz];exact hy);clear Zv Zw Zu hpl
     go_wp2_with (first
      |(refine dm O aa (xv q0 x.ino vp vx) ?_ (hvs:=(jK.F _ _)) (hb:=(eY.F _ _)))
      |(refine il [.agg (xv q0 x.ino vp vx).toArray] O ?_ (hc:=by intro u hu;rw[eD.1 hu];simp[Value.cells,eY.F]);clear O;intro b21 J O;rw[kP] at O)
      |(at_builtin;refine og (f:=bX) O BO [⟨q0,x.ino,x.pieces,zl x,vp,vx,sx⟩] ?_ (hlen:=(El.F _ (eY.F _ _))) (hsrc:=by exact O.gZ (f:=bX) (x:=⟨q0,x.ino,x.pieces,zl x,vp,vx,sx⟩) aa (eY.F _ _)) (I:=by rw[xh];exact qg.F) (hb:=by have:=U5.F;simp only[dC];omega) (hm:=by have:=U5.F;simp only[dC];omega);clear O;intro a4 c4 J _ O;rw[aN,aN,aN,aN,aN,aN,aN,aN,aD] at O)
      |(refine dm O fD (xv q0 x.ino (.slice ap np cp) vy) ?_ (hvs:=(jK.F _ _)) (hb:=(eY.F _ _)))
      |(refine il [.agg (xv q0 x.ino (.slice ap np cp) vy).toArray] O ?_ (hc:=by intro u hu;rw[eD.1 hu];simp[Value.cells,eY.F]);clear O;intro b22 J O;rw[kP] at O)
      |(at_builtin;refine og (f:=bX) O (Has.s (Has.s hz9)) [⟨q0,x.ino,x.pieces,zl x, .slice ap np cp,vy,sy⟩] ?_ (hlen:=(El.F _ (eY.F _ _))) (hsrc:=by exact O.gZ (f:=bX) (x:=⟨q0,x.ino,x.pieces,zl x, .slice ap np cp,vy,sy⟩) aa (eY.F _ _)) (I:=by rw[xh];exact HS2.F) (hb:=by have:=U7.F;simp only[dC];omega) (hm:=by have:=U7.F;simp only[dC];omega);clear O;intro a5 c5 J _ O;rw[aN,aN,aN,aN,aN,aN,aN,aN,aN,aN,aN,aD] at O))
     refine I7.F _ _ ?_;clear I7;have hdat:zl x=qo x k:=by unfold zl;rw[qf.F]
     obtain⟨XA,Dc⟩:∃y:aT,y=⟨q0,x.ino,x.pieces,zl x,vp,vx,sx⟩:=⟨_,rfl⟩;obtain⟨XB,BI⟩:∃y:aT,y=⟨q0,x.ino,x.pieces,zl x, .slice ap np cp,vy,sy⟩:=⟨_,rfl⟩;rw[<-Dc,<-BI] at O
     have hA1:jw true XA=St [Sl 3 1 vp np (pv x.pieces),Tb 69 1 eF vx sx,St (List.zipWith Br sx (qo x k))]:=by
      rw[Dc];unfold jw;rw[if_pos rfl];dsimp only;rw[qH.F,hdat]
     have hB1:jw false XB=St [St [],Tb 69 1 eF vy sy,St (List.zipWith Br sy (qo x k))]:=by
      rw[BI];unfold jw;rw[if_neg (by decide)];dsimp only;rw[hdat]
     have I:=Sat.sH (M:=[Sl 3 1 vp np (pv x.pieces),Tb 69 1 eF vx sx,St (List.zipWith Br sx (qo x k))]) (O.re [8,3,4]);rw[<-hA1] at I;have H:=Sat.sH (M:=[St [],Tb 69 1 eF vy sy,St (List.zipWith Br sy (qo x k))]) ((Sat.yQ I).re [0,6,7]);rw[<-hB1] at H;have h3:=Sat.AO (show Sat W _ (jw true XA::St (A.map (jw true))::_) from H.re [1,7]);have h4:=Sat.AO (show Sat W _ (jw false XB::St (B.map (jw false))::_) from h3.re [1,8]);have eA:A.map (jw true)++[jw true XA]=(A++[XA]).map (jw true):=by rw[lC];rfl
     have eB:B.map (jw false)++[jw false XB]=(B++[XB]).map (jw false):=by rw[lC];rfl
     rw[eA,eB] at h4;have Nj:=((h4.re [6,1,7,0]).re [4,5,6,7]).drop.drop.drop.drop;clear I H h3 h4 eA eB;have QA:=Z Nj;have HG1:=Z (show zZ W true XA from⟨by rw[Dc];exact eH.F.pl,by rw[Dc];exact eH.F.s.1,by rw[Dc];exact eH.F.s.2,by rw[Dc];show sx.length=(zl x).length;rw[hdat,MX,uT.F],fun h=>absurd h (by decide)⟩);have HG2:=Z (show zZ W false XB from⟨by rw[BI];exact eH.F.pl,by rw[BI];exact eH.F.s.1,by rw[BI];exact eH.F.s.2,by rw[BI];show sy.length=(zl x).length;rw[hdat,MX,uU.F],fun _=>by rw[BI];have I:=eH.F.p;rw[Vx.F] at I;exact I⟩);have htk:l.take (i+1)=l.take i++[x]:=by rw[ik,dD.F];rfl
     have HC1:=Z (show iO (A++[XA])=(l.take (i+1)).map yu by
      rw[htk,lC,<-LF.F,Dc,<-HA.F];unfold iO;rw[lC]
      rfl)
     have HC2:=Z (show iO (B++[XB])=(l.take (i+1)).map yu by
      rw[htk,lC,<-oM.F,BI,<-HA.F];unfold iO;rw[lC]
      rfl)
     clear O Nj hA1 hB1 Dc BI hdat htk;go_wp2;have YW:=QA.F;simp only[bP,dC] at YW
     exact⟨⟨i+1,A++[XA],B++[XB],by go_num,by rw[aM.F];exact dV.F.1,dV.F.2,HC1.F,HC2.F,fun y hy=>by
      rcases gy.1 hy with h|h
      ·exact tV.F y h
      ·rw[eD.1 h];exact HG1.F,fun y hy=>by
      rcases gy.1 hy with h|h
      ·exact FX.F y h
      ·rw[eD.1 h];exact HG2.F,YW⟩,fZ dV.F.2⟩
  ·have DY:=Z (show(l.take i).map yu=xg l by
    unfold xg;congr 1
    by_cases h:i<ln
    ·rw[show i=10 by omega]
    ·rw[dF (by rw[aM.F];omega),dF (by rw[aM.F];omega)])
   by_cases I:i<ln
   ·have k1:(i:Int)< (ln:Int):=by omega
    obtain rfl:i=10:=by omega
    have k2:¬(((10:Nat):Int)<10):=by decide
    clear hi Nq EP hBl hgo I;go_wp2
    go_ret2
    exact⟨_,_,A,B,rfl,LF.F.trans DY.F,oM.F.trans DY.F,tV.F,FX.F,O⟩
   ·have k1:¬(i:Int)< (ln:Int):=by omega
    clear hi Nq EP hBl hgo I;go_wp2
    go_ret2
    exact⟨_,_,A,B,rfl,LF.F.trans DY.F,oM.F.trans DY.F,tV.F,FX.F,O⟩
end Go.Proofs.YtjbiihbicknemaaGreat
