/-
  Part of the proof of StoreWhole.
-/
import Derived.Test.YtjbiihbicknemaaGreatMDoq
import Derived.Test.YtjbiihbicknemaaGreatStSets
import Derived.Test.YtjbiihbicknemaaGreatMCmb
set_option linter.unusedSimpArgs false
set_option linter.unusedVariables false
set_option maxRecDepth 20000
set_option maxHeartbeats 40000000
namespace Go.Proofs.YtjbiihbicknemaaGreat
open Go.RowKit Go.Sep
variable {W w:World} {L:List aA}
attribute [local irreducible] Oper.wp wpList Calls Code.wp Sep.dR Sep.fJ
theorem XK {A B C E:aA} {pw pe k:Nat} {S:aK} {gs:List Nat} {D:aG} {R:dh} {X Y:List aT} {va:Value} (aq:Option Addr) (cq:Nat) {m:Nat} (hm:Y.length=m) (O:Sat W w (A::B::C::E::dz pw pe S gs::aW pe R::CQ va (.slice aq m cq) X Y L)) (hg:∀x∈Y,zZ W false x) (hc:iO Y=iO X) (hok:bA D.blocks S gs) (hR:Rel D R) (hD:DG D k) (hk:k+fq X<=80000) (next:Int) (shown:Bool):
  Calls Tryz.prog 48 #[.pointer (some ⟨pw,0,none⟩), .slice aq m cq, .int .i64 next, .bool shown] w fun e w'=>e= .returned (.int .i64 (iQ S D X next shown).1)/\∃R',Rel (iQ S D X next shown).2.2 R'/\Sat W w' (A::B::C::E::dz pw pe (iQ S D X next shown).2.1 gs::aW pe R'::L):=by
 subst hm;rw[<-agR hc next shown];refine(alG hok (O.re [4,5]) hR hD Y (by rw[an6 hc];exact hk) next shown aq cq (fun w L' h=>ace h (has_add BN L') (has_add Ho L') hg)).mono ?_;rintro e w' ⟨rfl,R',hR',I⟩;exact⟨rfl,R',hR',((I.re [2,3,4,5,0,1]).re [6,7,8,9]).drop.drop.drop.drop⟩
theorem XH {S1 S2 S3 S4 zf A B C D E oL G:aA} (h:Sat W w (S1::S2::S3::S4::zf::A::B::C::D::E::oL::G::L)):Sat W w (zf::A::B::C::D::E::oL::G::S1::S2::S3::S4::L):=h.re [4,5,6,7,8,9,10,11]
theorem ahb {A B C E:aA} {pw pe:Nat} {S:aK} {gs:List Nat} (h:Sat W w (A::B::C::E::dz pw pe S gs::L)):∃fv r g,Sat W w (A::B::Cs pw 96 (bE pe S.sup fv S.aB r g)::IsMap fv S.U::Tb 100 3 rv r S.recs::Ir g gs::C::E::L):=by
 obtain⟨fv,r,g,I⟩:=dz.open (h.re [4])
 exact⟨fv,r,g,I.re [4,5,0,1,2,3]⟩
theorem ag8 {A B C E:aA} {pw pe:Nat} {S:aK} {gs:List Nat} {fv r g:Value} (h:Sat W w (A::B::Cs pw 96 (bE pe S.sup fv S.aB r g)::IsMap fv S.U::Tb 100 3 rv r S.recs::Ir g gs::C::E::L)):Sat W w (A::B::C::E::dz pw pe S gs::L):=
 (dz.mk (h.re [2,3,4,5])).re [1,2,3,4,0]
theorem ag7 {po pd ps pe pw k:Nat} {S:aK} {gs:List Nat} {D:aG} {R:dh} (hok:bA D.blocks S gs) (hR:Rel D R) (hD:DG D k) (hk:k<=60000) (hdd:D.dead=false) (x:ji) (V:x.Ok W) (hs:uM x=true) (h8:x.kind % 10<8)
  (O:Sat W w (Cs po 36 (vB pd ps pe pw)::bF ps pd S::aP pd D::dz pw pe S gs::aW pe R::L)):
  Calls Tryz.prog 13 #[.pointer (some ⟨po,0,none⟩), .agg (j6 x).toArray] w fun e w'=>DoE W L po pd ps pe pw S gs D e w':=by
 have hsm:=OY V hs;have iK:=Z hsm;have bq:=Z hok;have HR:=Z hR;have HD:=Z hD;have HX:=Z V;obtain⟨iI,gF,hlv⟩:∃ao c,x.lv= .slice ao x.recs.length c:=by obtain⟨ao,c,he,_⟩:=V.l;exact⟨ao,c,he⟩
 obtain⟨Ev,EI,hsv⟩:∃ao c,x.mD= .slice ao x.sets.length c:=by obtain⟨ao,c,he,_⟩:=V.s;exact⟨ao,c,he⟩
 have hrl:=V.l;have hrs:=V.s;rw[hlv] at hrl;rw[hsv] at hrs;obtain⟨n,hn⟩:=au x.sets.length;obtain⟨rl,hr⟩:=au x.recs.length;have HN:=Z hn;have gB:=Z hr;have hr2:rl<=200:=by have:=hsm.recs;omega
 have HR2:=Z hr2;rw[hr] at hrl;have HQ:=Z hrl;have x8:=Z hrs;obtain⟨lx,hlx⟩:=au (j6 x);have G0:=Z (show lx[0]? =some (.int .i64 x.kind) by rw[<-hlx];rfl);have G1:=Z (show lx[1]? =some (.int .i64 x.n) by rw[<-hlx];rfl);have G2:=Z (show lx[2]? =some (.int .i64 x.m) by rw[<-hlx];rfl);have G3:=Z (show lx[3]? =some (.bool x.shown) by rw[<-hlx];rfl);have G4:=Z (show lx[4]? =some (.slice iI rl gF) by rw[<-hlx,<-hr,<-hlv];rfl);have G5:=Z (show lx[5]? =some (.slice Ev n EI) by rw[<-hlx,<-hn,<-hsv];rfl);obtain⟨kk,hkk⟩:=au (x.kind % 10);have eX:=Z (fun w=>Io x.kind 10 (by decide) (by decide) w);have nW:=Z (fun w=>Io x.n 4 (by decide) (by decide) w);rw[hkk] at eX h8;have k0:0<=kk:=by omega
 have k8:¬kk=8:=by omega
 have k9:¬kk=9:=by omega
 have F4:=Z (show ∀v1 v2:Value,[v1,v2, .bool R.armed, .int .i64 R.left, .bool R.dead][4]? =some (.bool false) from fun v1 v2=>by rw[<-hR.dead,hdd];rfl);obtain⟨x0,hx0⟩:=au x.kind;obtain⟨xn,uA⟩:=au x.n;obtain⟨xm,hxm⟩:=au x.m;obtain⟨xs,hxs⟩:=au x.shown;rw[hx0] at G0 eX;rw[uA] at G1 nW;rw[hxm] at G2;rw[hxs] at G3;obtain⟨v1,v2,hS1⟩:=aha O;clear O;replace F4:=Z (F4.F v1 v2);have O:=hS1;rw[hlx];clear hS1 hok hR hD V hs hsm hlv hsv hrl hrs hn hr hr2 hlx hkk hx0 uA hxm hxs hdd;unfold vB at O
 by_cases k3:kk<3
 ·go_enter Tryz.func13,Tryz.ntmps13
  go_wp2_with (first
    |(refine bV O ?_;clear O;intro p3 J O;rw[aS] at O)
    |(refine aH O aa G0.F ?_)
    |(refine aH O aa G1.F ?_)
    |(refine aH O aa G5.F ?_)
    |(refine bB O ?_ (hk:=fD))
    |(refine aH O hz1 F4.F ?_)
    |(go_at_call 12;refine ak (eX.F _) ?_;rintro J rfl))
  replace O:=JB O;have HA:=Z (fun w A B M (h:Sat W w (A::B::bF ps pd S::aP pd D::M))=>XL h x.recs iI gF gB.F (HQ.F.old h) (by have:=HR2.F;omega));have HB:=Z (fun w A B a c M (h:Sat W w (A::B::bF ps pd S::aP pd D::Tb 100 3 rv (.slice a rl c) x.recs::M))=>XG h bq.F HD.F (by omega) x.recs xs a c gB.F rfl (by have:=HR2.F;omega));have HC:=Z (fun w A B C E T M (h:Sat W w (A::B::C::E::T::dz pw pe S gs::aW pe R::M))=>ahk h bq.F HR.F HD.F (by omega) x.recs xs iI gF gB.F HQ.F (by have:=HR2.F;omega));have HO:=Z (yg.grow (S:=S) (D:=D) (gs:=gs) x.recs xs (by rw[gB.F];exact HR2.F));obtain⟨r,hr⟩:=au (jd S D x.recs xs);rw[hr] at HB HC HO;clear hr
  (refine ll (pO [0,1,2]<|rO [3]<|pO [4]<|rO [5]<|pO [7]<|rO [8]<|pO [10,11,12]<|rO [13]<|pO [14]<|rO [15]<|pO [16]<|rO [17]<|aO [6,9,18]<|pO [19,20]<| .e) [18] O (fun _ h=>h.take2) ?_;clear O;intro J O)
  repeat (first
   |(refine bG O ?_;go_frame)
   |(refine bR O ?_;(first
      |refine rM hz1 ?_
      |refine bK aa G4.F ?_
      |refine bK aa G3.F ?_
      |refine bK aa G1.F ?_
      |refine bK aa G2.out ?_);go_frame)
   |(refine bY fun K hK=>?_;(first
     |(refine cK (HA.F _ _ _ _ O) ?_;clear O;rintro e J ⟨a6,c6,rfl,O⟩;refine⟨_,rfl,?_⟩)
     |(refine jy (HB.F _ _ _ _ _ _ O) ?_;clear O;intro J O)
     |(refine cK (HC.F _ _ _ _ _ _ _ O) ?_;clear O;rintro e J ⟨rfl,R',hR',O⟩;have Bj:=Z hR';clear hR';refine⟨_,rfl,?_⟩));refine hK.gu O ?_;clear hK K;go_frame))
  refine bO ?_;go_wp2;go_ret;exact⟨rfl,r,_,R',HO.F,Bj.F,O.drop⟩
 ·by_cases k6:kk=6
  ·subst k6;go_enter Tryz.func13,Tryz.ntmps13
   go_wp2_with (first
     |(refine bV O ?_;clear O;intro p3 J O;rw[aS] at O)
     |(refine aH O aa G0.F ?_)
     |(refine aH O aa G1.F ?_)
     |(refine aH O aa G5.F ?_)
     |(refine bB O ?_ (hk:=fD))
     |(refine aH O hz1 F4.F ?_)
     |(go_at_call 12;refine ak (eX.F _) ?_;rintro J rfl))
   replace O:=JB O;have HB:=Z (fun w A B M (h:Sat W w (A::B::bF ps pd S::M))=>ag4 h bq.F xn xm);have HC:=Z (fun w A B C E M (h:Sat W w (A::B::C::E::dz pw pe S gs::aW pe R::M))=>ahj h bq.F HR.F xn xm)
   (refine ll (pO [0,1,2]<|rO [3]<|pO [4]<|rO [5]<|pO [6]<|rO [7]<|pO [9,10,11]<|rO [12]<|pO [13]<|rO [14]<|pO [15]<|rO [16]<|aO [8,17]<|pO [18,19]<| .e) [17] O (fun _ h=>h.take2) ?_;clear O;intro J O)
   repeat (first
    |(refine bG O ?_;go_frame)
    |(refine bR O ?_;(first
        |refine rM hz1 ?_
        |refine bK aa G4.F ?_
        |refine bK aa G3.F ?_
        |refine bK aa G1.F ?_
        |refine bK aa G2.out ?_);go_frame)
    |(refine bY fun K hK=>?_;(first
       |(refine jy (HB.F _ _ _ _ O) ?_;clear O;intro J O)
       |(refine jy (HC.F _ _ _ _ _ _ O) ?_;clear O;intro J O));refine hK.gu O ?_;clear hK K;go_frame))
   refine bO ?_;go_wp2;go_ret;exact⟨by simp,(0,S,D),gs,R,yg.fits,HR.F,O.drop⟩
  by_cases k7:kk=7
  ·subst k7;go_enter Tryz.func13,Tryz.ntmps13
   go_wp2_with (first
     |(refine bV O ?_;clear O;intro p3 J O;rw[aS] at O)
     |(refine aH O aa G0.F ?_)
     |(refine aH O aa G1.F ?_)
     |(refine aH O aa G5.F ?_)
     |(refine bB O ?_ (hk:=fD))
     |(refine aH O hz1 F4.F ?_)
     |(go_at_call 12;refine ak (eX.F _) ?_;rintro J rfl))
   replace O:=JB O;have HB:=Z (fun w A B M (h:Sat W w (A::B::bF ps pd S::aP pd D::M))=>ag6 h bq.F HD.F (by omega));have HC:=Z (fun w A B C E M (h:Sat W w (A::B::C::E::dz pw pe S gs::aW pe R::M))=>ahl h bq.F HR.F HD.F (by omega));have HO:=Z (yg.mount (S:=S) (D:=D) (gs:=gs));obtain⟨r,hr⟩:=au (pR S D);rw[hr] at HB HC HO;clear hr
   (refine ll (pO [0,1,2]<|rO [3]<|pO [5,6,7]<|rO [8]<|aO [4,9]<|pO [10,11]<| .e) [9] O (fun _ h=>h.take2) ?_;clear O;intro J O)
   repeat (first
    |(refine bG O ?_;go_frame)
    |(refine bR O ?_;(first
        |refine rM hz1 ?_
        |refine bK aa G4.F ?_
        |refine bK aa G3.F ?_
        |refine bK aa G1.F ?_
        |refine bK aa G2.out ?_);go_frame)
    |(refine bY fun K hK=>?_;(first
       |(refine jy (HB.F _ _ _ _ O) ?_;clear O;intro J O)
       |(refine cK (HC.F _ _ _ _ _ _ O) ?_;clear O;rintro e J ⟨rfl,R',hR',O⟩;have Bj:=Z hR';clear hR';refine⟨_,rfl,?_⟩));refine hK.gu O ?_;clear hK K;go_frame))
   refine bO ?_;go_wp2;go_ret;exact⟨rfl,r,_,R',HO.F,Bj.F,O.drop⟩
  have HST:=Z (fun w M (h:Sat W w M)=>acd h x.sets Ev EI x8.F HX.F.so iK.F.dat (iK.F.nS HX.F));rw[HN.F] at HST;go_enter Tryz.func13,Tryz.ntmps13
  by_cases kn:0<xn
  ·go_wp2_with (first
    |(go_at_call 21;refine(HST.F _ _ O).mono ?_;clear O;rintro e J ⟨va,vb,X,Y,rfl,Al,ES,Df,hgY,O⟩;obtain⟨aX,cX,rfl,_⟩:=O.fA (k:=0) aa;obtain⟨aY,cY,rfl,_⟩:=O.fA (k:=2) hz2;replace O:=XH O;have zP:=Z Al;have PQ:=Z (ES.trans Al.symm);have y8:=Z Df;have Qb:=Z hgY;clear Al ES Df hgY)
    |(refine bV O ?_;clear O;intro p3 J O;rw[aS] at O)
    |(refine aH O aa G0.F ?_)
    |(refine aH O aa G1.F ?_)
    |(refine aH O aa G5.F ?_)
    |(refine bB O ?_ (hk:=fD))
    |(refine aH O hz1 F4.F ?_)
    |(go_at_call 12;refine ak (eX.F _) ?_;rintro J rfl))
   replace O:=JB O;obtain⟨fv,r,g,hS1⟩:=ahb O;clear O;have O:=hS1;clear hS1
   (refine cB (pO [0,1,2]<|rO [3]<|pO [4,5,6]<|rO [7]<|pO [8,11]<|rO [12]<|pO [13]<|aO [9]<|wO [10,14]<|pO [15]<| .e) [] O ?_;clear O;intro J O)
   repeat (first
    |(refine bG O ?_;go_frame)
    |(refine mR O ?_;go_frame;try simp(disch:=omega) only[IntWalk.i64_in])
    |(refine bR O ?_;(first
       |refine rM hz1 ?_
       |refine bK aa G2.out ?_
       |refine rM hz2 ?_);go_frame)
    |(refine bY fun K hK=>?_;((refine jy (nW.F _) ?_;rintro J rfl));refine hK.go O ?_;clear hK K;go_frame))
   refine bO ?_;go_wp2;replace O:=ag8 O;have HB:=Z (fun w A B C E M (h:Sat W w (A::B::bF ps pd S::aP pd D::C::E::CQ (.slice aX X.length cX) (.slice aY Y.length cY) X Y M)) nx=>Rp aX cX rfl h y8.F bq.F HD.F (by have I:=iK.F.tot;rw[<-zP.F,xL] at I;omega) nx xs);have HC:=Z (fun w A B C E M (h:Sat W w (A::B::C::E::dz pw pe S gs::aW pe R::CQ (.slice aX X.length cX) (.slice aY Y.length cY) X Y M)) nx=>XK aY cY rfl h Qb.F PQ.F bq.F HR.F HD.F (by have I:=iK.F.tot;rw[<-zP.F,xL] at I;omega) nx xs);have HO:=Z (fun nx=>yg.EG (S:=S) (D:=D) (gs:=gs) X nx xs (by have I:=iK.F.tot;rw[<-zP.F,xL] at I;exact I))
   (refine ll (pO [0,1,2]<|rO [3]<|pO [4,5,6]<|rO [7]<|pO [9,10,11]<|rO [12]<|pO [13,14,15]<|rO [16]<|aO [8,17]<|pO [18,19]<| .e) [17] O (fun _ h=>h.take2) ?_;clear O;intro J O)
   repeat (first
    |(refine bG O ?_;go_frame)
    |(refine bR O ?_;(first
        |refine rM hz1 ?_
        |refine bK aa G4.F ?_
        |refine bK aa G3.F ?_
        |refine bK aa G1.F ?_
        |refine bK aa G2.out ?_);go_frame)
    |(refine bY fun K hK=>?_;(first
       |(refine jy (HB.F _ _ _ _ _ _ O _) ?_;clear O;intro J O)
       |(refine cK (HC.F _ _ _ _ _ _ O _) ?_;clear O;rintro e J ⟨rfl,R',hR',O⟩;have Bj:=Z hR';clear hR';refine⟨_,rfl,?_⟩));refine hK.gu O ?_;clear hK K;go_frame))
   refine bO ?_;go_wp2;go_ret;exact⟨rfl,_,_,R',HO.F _,Bj.F,O.drop⟩
  ·go_wp2_with (first
    |(go_at_call 21;refine(HST.F _ _ O).mono ?_;clear O;rintro e J ⟨va,vb,X,Y,rfl,Al,ES,Df,hgY,O⟩;obtain⟨aX,cX,rfl,_⟩:=O.fA (k:=0) aa;obtain⟨aY,cY,rfl,_⟩:=O.fA (k:=2) hz2;replace O:=XH O;have zP:=Z Al;have PQ:=Z (ES.trans Al.symm);have y8:=Z Df;have Qb:=Z hgY;clear Al ES Df hgY)
    |(refine bV O ?_;clear O;intro p3 J O;rw[aS] at O)
    |(refine aH O aa G0.F ?_)
    |(refine aH O aa G1.F ?_)
    |(refine aH O aa G5.F ?_)
    |(refine bB O ?_ (hk:=fD))
    |(refine aH O hz1 F4.F ?_)
    |(go_at_call 12;refine ak (eX.F _) ?_;rintro J rfl))
   replace O:=JB O;have HB:=Z (fun w A B C E M (h:Sat W w (A::B::bF ps pd S::aP pd D::C::E::CQ (.slice aX X.length cX) (.slice aY Y.length cY) X Y M)) nx=>Rp aX cX rfl h y8.F bq.F HD.F (by have I:=iK.F.tot;rw[<-zP.F,xL] at I;omega) nx xs);have HC:=Z (fun w A B C E M (h:Sat W w (A::B::C::E::dz pw pe S gs::aW pe R::CQ (.slice aX X.length cX) (.slice aY Y.length cY) X Y M)) nx=>XK aY cY rfl h Qb.F PQ.F bq.F HR.F HD.F (by have I:=iK.F.tot;rw[<-zP.F,xL] at I;omega) nx xs);have HO:=Z (fun nx=>yg.EG (S:=S) (D:=D) (gs:=gs) X nx xs (by have I:=iK.F.tot;rw[<-zP.F,xL] at I;exact I))
   (refine ll (pO [0,1,2]<|rO [3]<|pO [4,5,6]<|rO [7]<|pO [9,10,11]<|rO [12]<|pO [13,14,15]<|rO [16]<|aO [8,17]<|pO [18,19]<| .e) [17] O (fun _ h=>h.take2) ?_;clear O;intro J O)
   repeat (first
    |(refine bG O ?_;go_frame)
    |(refine bR O ?_;(first
        |refine rM hz1 ?_
        |refine bK aa G4.F ?_
        |refine bK aa G3.F ?_
        |refine bK aa G1.F ?_
        |refine bK aa G2.out ?_);go_frame)
    |(refine bY fun K hK=>?_;(first
       |(refine jy (HB.F _ _ _ _ _ _ O _) ?_;clear O;intro J O)
       |(refine cK (HC.F _ _ _ _ _ _ O _) ?_;clear O;rintro e J ⟨rfl,R',hR',O⟩;have Bj:=Z hR';clear hR';refine⟨_,rfl,?_⟩));refine hK.gu O ?_;clear hK K;go_frame))
   refine bO ?_;go_wp2;go_ret;exact⟨rfl,_,_,R',HO.F _,Bj.F,O.drop⟩
end Go.Proofs.YtjbiihbicknemaaGreat
