/-
  Part of the proof of StoreWhole.
-/
import Derived.Test.YtjbiihbicknemaaGreatMDoq
import Derived.Test.YtjbiihbicknemaaGreatStSets
import Derived.Test.YtjbiihbicknemaaGreatMFmx
set_option linter.unusedSimpArgs false
set_option linter.unusedVariables false
set_option maxRecDepth 20000
set_option maxHeartbeats 40000000
namespace Go.Proofs.YtjbiihbicknemaaGreat
open Go.RowKit Go.Sep
variable {W w:World} {L:List aA}
attribute [local irreducible] Oper.wp wpList Calls Code.wp Sep.dR Sep.fJ
def Fe (S:aK) (x:ji):Int:=IntKind.i64.wrap (S.sup.next+x.n % 3)
noncomputable def iZ (S:aK) (D:aG) (x:ji) (kk:Int):Int×aK×aG:=if kk<3 then jd S D x.recs x.shown else iQ S D (xg x.sets) (Fe S x) x.shown
theorem agy {S1 S2 S3 S4 zf A B C D E:aA} (h:Sat W w (S1::S2::S3::S4::zf::A::B::C::D::E::L)):Sat W w (zf::A::B::C::D::E::S1::S2::S3::S4::L):=h.re [4,5,6,7,8,9]
theorem ahm {A B:aA} {ps pd:Nat} {S:aK} (O:Sat W w (A::B::bF ps pd S::L)) (hX:iH S.aB):
  Calls Tryz.prog 23 #[.pointer (some ⟨ps,0,none⟩)] w fun e w'=>e= .returned (.agg (sv S.sup).toArray)/\Sat W w' (A::B::bF ps pd S::L):=by
 refine(Ui (O.re [2]) hX).mono ?_;rintro e w' ⟨rfl,I⟩;exact⟨rfl,I.re [1,2]⟩
theorem Xc {p4 ps pd k:Nat} {S:aK} {gs:List Nat} {D:aG} (hok:bA D.blocks S gs) (hD:DG D k) (hk:k<=60000) (x:ji) (V:x.Ok W) (hs:uM x=true) (kk:Int) (lx:List Value) (hlx:lx=(j6 x).set 0 (.int .i64 kk))
  (O:Sat W w (Cs p4 26 lx::bF ps pd S::aP pd D::L)):
  Calls Tryz.prog 18 #[.pointer (some ⟨ps,0,none⟩), .pointer (some ⟨p4,0,none⟩)] w fun e w'=>e= .returned (.int .i64 (iZ S D x kk).1)/\Sat W w' (Cs p4 26 lx::bF ps pd (iZ S D x kk).2.1::aP pd (iZ S D x kk).2.2::L):=by
 have hsm:=OY V hs;have iK:=Z hsm;have bq:=Z hok;have HD:=Z hD;have HX:=Z V;obtain⟨iI,gF,hlv⟩:∃ao c,x.lv= .slice ao x.recs.length c:=by obtain⟨ao,c,he,_⟩:=V.l;exact⟨ao,c,he⟩
 obtain⟨Ev,EI,hsv⟩:∃ao c,x.mD= .slice ao x.sets.length c:=by obtain⟨ao,c,he,_⟩:=V.s;exact⟨ao,c,he⟩
 have hrl:=V.l;have hrs:=V.s;rw[hlv] at hrl;rw[hsv] at hrs;obtain⟨n,hn⟩:=au x.sets.length;obtain⟨rl,hr⟩:=au x.recs.length;have HN:=Z hn;have gB:=Z hr;have hr2:rl<=200:=by have:=hsm.recs;omega
 have HR2:=Z hr2;rw[hr] at hrl;have HQ:=Z hrl;have x8:=Z hrs;have G0:=Z (show lx[0]? =some (.int .i64 kk) by rw[hlx];rfl);have G1:=Z (show lx[1]? =some (.int .i64 x.n) by rw[hlx];rfl);have G3:=Z (show lx[3]? =some (.bool x.shown) by rw[hlx];rfl);have G4:=Z (show lx[4]? =some (.slice iI rl gF) by rw[hlx,<-hr,<-hlv];rfl);have G5:=Z (show lx[5]? =some (.slice Ev n EI) by rw[hlx,<-hn,<-hsv];rfl);have nW:=Z (fun w=>Io x.n 3 (by decide) (by decide) w);have Jd:=Z (show IntKind.i64.wrap (S.sup.next+x.n % 3)=Fe S x from rfl);obtain⟨xn,uA⟩:=au x.n;obtain⟨xs,hxs⟩:=au x.shown;have Vd:=Z (show iZ S D x kk=if kk<3 then jd S D x.recs xs else iQ S D (xg x.sets) (Fe S x) xs by rw[<-hxs];rfl);rw[uA] at G1 nW Jd;rw[hxs] at G3;clear hok hD V hs hsm hlv hsv hrl hrs hn hr hr2 hlx uA hxs;have hS2:=(Sat.yQ (Sat.yQ (Sat.yQ O))).re [3,0,4,5,1,2];clear O;have O:Sat W w (Cs p4 26 lx::St []::bF ps pd S::aP pd D::St []::St []::L):=hS2;clear hS2
 by_cases k3:kk<3
 ·rw[show iZ S D x kk=jd S D x.recs xs from Vd.F.trans (if_pos k3)];obtain⟨r,hr⟩:=au (jd S D x.recs xs);have HRR:=Z hr;rw[hr];clear hr;go_enter Tryz.func18,Tryz.ntmps18
  go_wp2_with (first
   |(refine aH O aa G0.F ?_))
  have HA:=Z (fun w A B M (h:Sat W w (A::B::bF ps pd S::aP pd D::M))=>XL h x.recs iI gF gB.F (HQ.F.old h) (by have:=HR2.F;omega));have HB:=Z (fun w A B a c M (h:Sat W w (A::B::bF ps pd S::aP pd D::Tb 100 3 rv (.slice a rl c) x.recs::M))=>XG h bq.F HD.F (by omega) x.recs xs a c gB.F rfl (by have:=HR2.F;omega));rw[HRR.F] at HB
  (refine ll (pO [0,1]<|rO [2]<|pO [4]<|rO [5]<|aO [3,6]<|pO [7]<| .e) [6] O (fun _ h=>h.one aa) ?_;clear O;intro J O)
  repeat (first
   |(refine bG O ?_;go_frame)
   |(refine bR O ?_;(first
      |refine bK aa G4.F ?_
      |refine bK aa G3.F ?_
      |refine bK aa G1.F ?_);go_frame)
   |(refine bY fun K hK=>?_;(first
     |(refine cK (HA.F _ _ _ _ O) ?_;clear O;rintro e J ⟨a6,c6,rfl,O⟩;refine⟨_,rfl,?_⟩)
     |(refine jy (HB.F _ _ _ _ _ _ O) ?_;clear O;intro J O));refine hK.gu O ?_;clear hK K;go_frame))
  refine bO ?_;go_wp2;go_ret;exact⟨rfl,((O.re [0,2,3]).re [3,4,5,6]).drop.drop.drop.drop⟩
 ·rw[show iZ S D x kk=iQ S D (xg x.sets) (Fe S x) xs from Vd.F.trans (if_neg k3)];have HST:=Z (fun w M (h:Sat W w M)=>acd h x.sets Ev EI x8.F HX.F.so iK.F.dat (iK.F.nS HX.F));rw[HN.F] at HST;obtain⟨r,hr⟩:=au (iQ S D (xg x.sets) (Fe S x) xs);have HRR:=Z hr;rw[hr];clear hr;go_enter Tryz.func18,Tryz.ntmps18
  go_wp2_with (first
   |(go_at_call 21;refine(HST.F _ _ O).mono ?_;clear O;rintro e J ⟨va,vb,X,Y,rfl,Al,ES,Df,hgY,O⟩;obtain⟨aX,cX,rfl,_⟩:=O.fA (k:=0) aa;obtain⟨aY,cY,rfl,_⟩:=O.fA (k:=2) hz2;replace O:=agy O;have zP:=Z Al;have y8:=Z Df;clear Al ES Df hgY)
   |(refine aH O aa G0.F ?_)
   |(refine aH O aa G5.F ?_))
  have HB:=Z (fun w A B C E M (h:Sat W w (A::B::bF ps pd S::aP pd D::C::E::CQ (.slice aX X.length cX) (.slice aY Y.length cY) X Y M))=>Rp aX cX rfl h y8.F bq.F HD.F (by have I:=iK.F.tot;rw[<-zP.F,xL] at I;omega) (Fe S x) xs);rw[<-Rh S X,zP.F,HRR.F] at HB;have iD:=Z (fun w A B M (h:Sat W w (A::B::bF ps pd S::M))=>ahm h bq.F.x);rw[<-Jd.F] at HB;have Y9:=fun w=>Yg w S.sup
  (refine ll (pO [0,1,2,5]<|rO [6]<|pO [9]<|rO [10]<|aO [3]<|pO [4]<|aO [7]<|wO [8]<|aO [11]<|pO [12]<| .e) [11] O (fun _ h=>h.one aa) ?_;clear O;intro J O)
  repeat (first
   |(refine bG O ?_;go_frame)
   |(refine mR O ?_;go_frame;try simp(disch:=omega) only[IntWalk.i64_in])
   |(refine bR O ?_;(first
      |refine bK aa G4.F ?_
      |refine bK aa G3.F ?_
      |refine bK aa G1.F ?_);go_frame)
   |(refine bY fun K hK=>?_;(first
     |(refine jy (iD.F _ _ _ _ O) ?_;clear O;intro J O)
     |(refine jy (nW.F _) ?_;rintro J rfl)
     |(refine jy (HB.F _ _ _ _ _ _ O) ?_;clear O;intro J O));refine hK.gu O ?_;clear hK K;go_frame))
  refine bO ?_;go_wp2;go_ret;exact⟨rfl,((O.re [0,2,3]).re [3,4,5,6,7,8,9]).drop.drop.drop.drop.drop.drop.drop⟩
def Wm (W:World) (M:List aA) (S:aK) (v7 v3:Value) (wz:World):Prop:=
 ∃i:Nat,v7= .int .i64 (i:Int)/\v3=gM (yT S i)/\i<=S.recs.length/\Sat W wz M
def Wn (W:World) (M:List aA) (B:List (List UInt8)) (S:aK) (v8 v3:Value) (wz:World):Prop:=
 ∃i:Nat,v8= .int .i64 (i:Int)/\v3=gM (uN B S i)/\i<=48/\Sat W wz M
def Wl (W:World) (M:List aA) (B:List (List UInt8)) (t:List UInt8) (x:aL) (v11 v3:Value) (wz:World):Prop:=
 ∃k:Nat,v11= .int .i64 (k:Int)/\v3=gM (t++wM B x k)/\k<=32/\(x.kind=0->k=0)/\Sat W wz M
theorem anY (r:bM):[Value.int .u8 (r.k % 256), .int .u8 (r.a % 256), .int .u8 (r.a / 256 % 256), .int .u8 (r.b % 256), .int .u8 (r.b / 256 % 256), .int .u8 (r.b / 65536 % 256)]=bv (Cj r):=by
 unfold Cj bv u8;simp only[jN,List.map_nil,J6];simp
theorem anZ (r:bM):[Value.int .u8 (r.k % 256), .int .u8 (r.a % 256), .int .u8 (r.a / 256 % 256), .int .u8 (r.b % 256), .int .u8 (r.b / 256 % 256), .int .u8 (r.b / 65536 % 256)].flatMap (fun v=>v.cells.toList)=bv (Cj r):=anY r
theorem anT (x:aL):[Value.int .u8 (x.kind % 256), .int .u8 (x.size % 256), .int .u8 (x.size / 256 % 256), .int .u8 (x.links % 256), .int .u8 (x.obj % 256), .int .u8 (x.node % 256)]=bv (DJ x):=by
 unfold DJ bv u8;simp only[jN,List.map_nil,J6];simp
theorem anU (x:aL):[Value.int .u8 (x.kind % 256), .int .u8 (x.size % 256), .int .u8 (x.size / 256 % 256), .int .u8 (x.links % 256), .int .u8 (x.obj % 256), .int .u8 (x.node % 256)].flatMap (fun v=>v.cells.toList)=bv (DJ x):=anT x
theorem an4 {ps pd:Nat} {S:aK} {D:aG} {gs:List Nat} (O:Sat W w (bF ps pd S::aP pd D::L)) (hok:bA D.blocks S gs):
  Calls Tryz.prog 14 #[.pointer (some ⟨ps,0,none⟩)] w fun e w'=>e= .returned (gM (qU D.blocks S))/\Sat W w' (bF ps pd S::aP pd D::L):=by
 have HB:=Z (show ∀b∈D.blocks,b.length=128 from aP.WI (O.re [1]));have eH:=Z hok.x;have bq:=Z hok
 have hrl:S.recs.length<=15360:=by
  have:=hok.high;have:=hok.Ai;omega
 have gB:=Z hrl;have iD:=Z (fun w (h:Sat W w (bF ps pd S::aP pd D::L))=>Ui h hok.x)
 have rY:=Z (fun w L (h:Sat W w L)=>by
  have:=Dy h S.sup;rw[wL hok.sup] at this
  exact this)
 have CJ:=Z (fun w M (h:Sat W w (bF ps pd S::M))=>acn h hok.x (by omega));have DZ:=Z (fun w M i x (V:S.aB[i]? =some x) (h:Sat W w (bF ps pd S::M))=>acg h hok.x i V)
 have Cq:=Z (fun w M i k x p (V:S.aB[i]? =some x) (hp:x.ptrs[k]? =some p) (h:Sat W w (bF ps pd S::aP pd D::M))=>amQ h hok.x hok.n2 i k V hp (fun h0=>by
  have I:=(hok.x.ok x (bJ V)).pt k p hp h0;have H:=(hok.gU p.toNat (nC _ (hok.Aq V (Kg.2 ⟨p,bJ hp,h0,rfl⟩)))).2
  omega))
 obtain⟨es,hes⟩:=au (encS S.sup);have HE:=Z hes;have hel:es.length=128:=by rw[<-hes];exact oD _
 rw[hes] at rY;have hadd:=fun w=>Mr [] es w (by rw[hel,List.length_nil];omega)
 rw[iP] at hadd;have Me:=Z (fun i=>acT (S:=S) (by have:=gB.F;omega) i);have QF:=Z (fun i (hi:i<=48)=>an1 (B:=D.blocks) (S:=S) HB.F (by have:=gB.F;omega) i hi);clear hok hes hel hrl;go_enter Tryz.func14,Tryz.ntmps14;refine qP ?_;refine qP ?_;rw[show(Value.string ⟨#[]⟩)=gM [] from rfl]
 go_wp2_with (first
  |(go_at_call 23;refine ak (iD.F _ O) ?_;clear O;intro J O)
  |(refine dU O ?_;clear O;intro p4 J O;rw[aS] at O)
  |(refine eT (sv S.sup) O aa ?_ (hv:=(lI _));clear O;intro J O;rw[aD] at O)
  |(refine dm O aa (sv S.sup) ?_)
  |(go_at_call 39;refine(rY.F _ _ O).mono ?_;clear O;rintro e J ⟨vp,rfl,O⟩)
  |(refine aU ?_;refine ou _ _ _ (by rfl) _ (by rfl) jI (l:=es) (O.dY (k:=0) rfl) ?_)
  |(go_at_call 49;refine(CJ.F _ _ (show Sat W _ (bF ps pd S::aP pd D::_::_::L) from O.re [2,3])).mono ?_;rintro e J ⟨vr,rfl,hS1⟩;clear O;have O:Sat W _ (Tb 100 3 rv vr S.recs::bF ps pd S::aP pd D::L):=(hS1.re [3,4]).drop.drop;clear hS1))
 have H0:=Z (show Wm W (Tb 100 3 rv vr S.recs::bF ps pd S::aP pd D::L) S (.int .i64 0) (gM es) _ from⟨0,rfl,by rw[anS,HE.F],eG _,O⟩);obtain⟨ar,cr,rfl,_⟩:=O.fA (k:=0) rfl;obtain⟨rl,hrl⟩:=au S.recs.length;have HL:=Z hrl;rw[hrl] at H0 ⊢;have rli:(rl:Int)<=15360:=by have:=gB.F;omega
 clear O hadd hrl;go_loopw [7,3] (fun v7 v3 wz=>Wm W (Tb 100 3 rv (.slice ar rl cr) S.recs::bF ps pd S::aP pd D::L) S v7 v3 wz) (fun v7 _ _=>iV rl v7)
 case atStart=>exact H0.F
 case round=>
  clear H0;obtain⟨i,rfl,rfl,hi,O⟩:=hrel;rw[HL.F] at hi;obtain⟨t,ht⟩:=au (yT S i);have HT:=Z ht;have htl:t.length<=600128:=by rw[<-ht];exact Me.F i
  by_cases hlt:i<rl
  ·have k1:(i:Int)< (rl:Int):=by omega
   have ay:=Z hlt;obtain⟨r,hr⟩:∃r,S.recs[i]? =some r:=⟨_,aR (by rw[HL.F];exact hlt)⟩
   have HR:=Z hr;obtain⟨rb,ro,rc,e9,_⟩:=O.pX (k:=0) rfl (by rw[HL.F];omega);rw[HL.F] at e9;simp only[Value.slice.injEq,true_and] at e9;obtain⟨rfl,rfl⟩:=e9;have hadd:=fun w=>Mr t (Cj r) w (by show _+6<=_;omega)
   have zV:=Z (show yT S (i+1)=t++Cj r by rw[anR hr,ht]);have HI:=Z (show Has (Tb 100 3 rv (.slice (some ⟨rb,ro,none⟩) rl cr) S.recs::bF ps pd S::aP pd D::L) 0 (Tb 100 3 rv (.slice (some ⟨rb,ro,none⟩) S.recs.length cr) S.recs) by rw[HL.F];exact aa);rw[ht];clear hi ht htl hlt hr;go_wp2
   (refine cB (pO [0,1,2]<|tO [3]<|pO [4]<|rO [5]<|pO [6,7,8]<|tO [9]<|pO [10]<|rO [11]<|pO [12,13,14]<|tO [15]<|pO [16]<|rO [17]<|pO [18,19,20,21]<|tO [22]<|pO [23]<|rO [24]<|pO [25,26,27]<|tO [28]<|pO [29]<|rO [30]<|pO [31,32,33,34]<|tO [35]<|pO [36]<|rO [37]<|pO [38,39]<|aO [40]<|rO [41]<|wO [42]<|pO [43]<| .e) [40] O ?_;clear O;intro J O)
   repeat (first
    |(refine bG O ?_;go_frame)
    |(refine mR O ?_;go_frame;try simp(disch:=omega) only[IntWalk.i64_in])
    |(refine oI O ?_;apply Exists.intro;apply And.intro;(intro w;first|go_simp;rw[if_pos (by omega)]|(go_simp;try with_reducible rfl));go_frame)
    |(refine bR O ?_;(first
       |refine⟨_,AX _ _ (by rfl) _ _ (by rfl) (aI (by rfl)) HI.F i 0 (by omega) HR.F (by rfl),?_⟩
       |refine⟨_,AX _ _ (by rfl) _ _ (by rfl) (aI (by rfl)) HI.F i 1 (by omega) HR.F (by rfl),?_⟩
       |refine⟨_,AX _ _ (by rfl) _ _ (by rfl) (aI (by rfl)) HI.F i 2 (by omega) HR.F (by rfl),?_⟩
       |refine⟨_,xM _ _ _ (by rfl) _ (by rfl) jI (l:=Cj r) (fun u hu=>hu.jc (n:=6) (sz:=1) aa (by decide) (by rfl)),?_⟩);go_frame)
    |(refine bY fun K hK=>?_;((refine mJ [Value.int .u8 (r.k % 256), .int .u8 (r.a % 256), .int .u8 (r.a / 256 % 256), .int .u8 (r.b % 256), .int .u8 (r.b / 256 % 256), .int .u8 (r.b / 65536 % 256)] O ?_ (hc:=by simp[Value.cells]);clear O;intro b1 J O;rw[anZ] at O));refine hK.go O ?_;clear hK K;go_frame))
   refine bO ?_;go_wp2;exact⟨⟨i+1,by go_num,by rw[zV.F],by rw[HL.F];exact ay.F,O.drop⟩,fZ ay.F⟩
  ·obtain rfl:i=rl:=by omega
   have k1:¬(i:Int)< (i:Int):=by omega
   have aeP:=Z (show t=uN D.blocks S 0 by rw[an3,HL.F,HT.F]);clear ht htl hlt hi;rw[HT.F,aeP.F];go_wp2;have H1:=Z (show Wn W (bF ps pd S::aP pd D::L) D.blocks S (.int .i64 0) (gM (uN D.blocks S 0)) _ from⟨0,rfl,rfl,eG _,O.drop⟩);clear O;go_loopw [8,3] (fun v8 v3 wz=>Wn W (bF ps pd S::aP pd D::L) D.blocks S v8 v3 wz) (fun v8 _ _=>iV 48 v8)
   case atStart=>exact H1.F
   case round=>
    clear H1;obtain⟨j,rfl,rfl,hj,O⟩:=hrel;obtain⟨t2,ht⟩:=au (uN D.blocks S j);have htl:t2.length<=800000:=by rw[<-ht];exact QF.F j hj
    rw[ht]
    by_cases hlt:j<48
    ·have k2:(j:Int)<48:=by omega
     have ay:=Z hlt;obtain⟨x,V⟩:∃x,S.aB[j]? =some x:=⟨_,aR (by rw[eH.F.len];exact hlt)⟩
     have HX:=Z V;have hxo:=eH.F.ok x (bJ V);have wZ:=Z hxo.pl;have hadd:=fun w=>Mr t2 (DJ x) w (by show _+6<=_;omega)
     have HI:=Z (fun w (h:Sat W w (bF ps pd S::aP pd D::L))=>DZ.F w _ j x HX.F h);have HI1:=Z (inv_one x);have dI:=Z (show(inv x).length=37 by rw[fe,hxo.pl]);have vM:=Z (fun(k:Nat) p (h:x.ptrs[k]? =some p)=>xA h);have Ef:=Z (show ∀y,wM D.blocks x 32=y->uN D.blocks S (j+1)=(t2++DJ x)++(if x.kind=0 then [] else y) from fun y h=>by rw[an2 V,ht,<-h,dX];rfl);have oN:=Z (fun k (hk:k<=32)=>acU HB.F x k hk);obtain⟨xk,hxk⟩:=au x.kind;obtain⟨xz,hxz⟩:=au x.size;obtain⟨xl,hxl⟩:=au x.links;obtain⟨xo,hxo⟩:=au x.obj;obtain⟨xn,uA⟩:=au x.node;have QI:=Z hxk;have g0:=Z (show(inv x)[0]? =some (.int .i64 xk) by rw[<-hxk];rfl);have g1:=Z (show(inv x)[1]? =some (.int .i64 xz) by rw[<-hxz];rfl);have YB:=Z (show(inv x)[2]? =some (.int .i64 xl) by rw[<-hxl];rfl);have g3:=Z (show(inv x)[3]? =some (.int .i64 xo) by rw[<-hxo];rfl);have g4:=Z (show(inv x)[4]? =some (.int .i64 xn) by rw[<-uA];rfl);have zO:=Z (anU x);rw[hxk,hxz,hxl,hxo,uA] at zO;rw[hxk] at Ef;obtain⟨th,hth⟩:=au (DJ x);have VF:=Z (show th.length=6 by rw[<-hth];rfl);rw[hth] at hadd Ef zO;obtain⟨xv,hxv⟩:=au (inv x);rw[hxv] at g0 g1 YB g3 g4 HI HI1 dI vM;have T2L:=Z htl;clear hj ht htl hlt V hxk hxz hxl hxo uA hth hxv
     go_wp2_with (first
      |(go_at_call 50;refine ak (HI.F _ O) ?_;clear O;intro J O)
      |(refine dU O ?_;clear O;intro p9 J O;rw[aS] at O)
      |(refine eT xv O aa ?_ (hv:=HI1.F) (hn:=by rw[dI.F];exact bz (by rfl)) (hb:=by rw[dI.F];rfl);clear O;intro J O;rw[aD] at O)
      |(refine aH O aa g0.out ?_)
      |(refine aH O aa g1.out ?_)
      |(refine aH O aa YB.out ?_)
      |(refine aH O aa g3.out ?_)
      |(refine aH O aa g4.out ?_)
      |(refine il [Value.int .u8 (xk % 256), .int .u8 (xz % 256), .int .u8 (xz / 256 % 256), .int .u8 (xl % 256), .int .u8 (xo % 256), .int .u8 (xn % 256)] O ?_ (hc:=by simp[Value.cells]);clear O;intro b1 J O;rw[zO.F] at O)
      |(refine aU ?_;refine ou _ _ _ (by rfl) _ (by rfl) jI (l:=th) (O.jc (n:=6) (sz:=1) aa (by decide) (by rw[jR,VF.F])) ?_))
     obtain⟨t3,ht3⟩:=au (t2++th);rw[ht3] at Ef ⊢;have Zp:t3.length<=800006:=by rw[<-ht3,bP,VF.F];have:=T2L.F;omega
     have T3L:=Z Zp;have H2:=Z (show Wl W (Cs p9 78 xv::bF ps pd S::aP pd D::L) D.blocks t3 x (.int .i64 0) (gM t3) _ from⟨0,rfl,by rw[acV,kv],eG _,fun _=>rfl,O.drop⟩);clear O hadd ht3 Zp;go_loopw [11,3] (fun v11 v3 wz=>Wl W (Cs p9 78 xv::bF ps pd S::aP pd D::L) D.blocks t3 x v11 v3 wz) (fun v11 _ _=>iV 32 v11)
     case atStart=>exact H2.F
     case round=>
      clear H2;obtain⟨k,rfl,rfl,hk,hk0,O⟩:=hrel;rw[QI.F] at hk0;obtain⟨t4,ht⟩:=au (t3++wM D.blocks x k);have VD:=Z ht;have htl:t4.length<=804102:=by rw[<-ht,bP];have:=T3L.F;have:=oN.F k hk;omega
      rw[ht]
      by_cases h0:xk=0
      ·obtain rfl:k=0:=hk0 h0;have k3:(0:Int)<32:=by decide
       have e0:(xk != 0)=false:=by rw[h0];rfl
       have zV:=Z (show t4=uN D.blocks S (j+1) by rw[Ef.F _ rfl,if_pos h0,<-VD.F,acV]);clear hk hk0 ht htl h0
       go_wp2_with (refine aH O aa g0.out ?_)
       rw[zV.F];exact⟨⟨j+1,by go_num,rfl,ay.F,O.drop⟩,fZ ay.F⟩
      ·have e0:(xk != 0)=true:=bne_iff_ne.2 h0;have PE:=Z h0;clear h0
       by_cases hkl:k<32
       ·have k3:(k:Int)<32:=by omega
        have HKK:=Z hkl;obtain⟨p,hp⟩:∃p,x.ptrs[k]? =some p:=⟨_,aR (by rw[wZ.F];exact hkl)⟩
        have PN:=Z (fun w (h:Sat W w (bF ps pd S::aP pd D::Cs p9 78 xv::L))=>Cq.F w _ j k x p HX.F hp h);have GP:=Z (vM.F k p hp);have hks:=anW (B:=D.blocks) hp
        by_cases hp0:p=0
        ·have e1:(p != 0)=false:=by rw[hp0];rfl
         have QD:=Z (show t3++wM D.blocks x (k+1)=t4 by rw[hks,<-ht];unfold AR;rw[if_pos hp0,kv]);clear hk hk0 ht htl hkl hp hks hp0
         go_wp2_with (first
          |(refine aH O aa g0.out ?_)
          |(go_at_call 51;refine(PN.F _ (O.re [1,2])).mono ?_;clear O;rintro e J ⟨q,rfl,E,O⟩)
          |(refine aH O hz3 GP.F ?_))
         exact⟨⟨k+1,by go_num,by rw[QD.F],HKK.F,fun h=>absurd h (by rw[QI.F];exact PE.F),(O.re [3,1,2]).re [3] |>.drop⟩,fZ HKK.F⟩
        ·have e1:(p != 0)=true:=bne_iff_ne.2 hp0;have hrg:p.toNat<D.blocks.length:=(bq.F.gU p.toNat (nC _ (bq.F.Aq HX.F (Kg.2 ⟨p,bJ hp,hp0,rfl⟩)))).2;obtain⟨d,hd⟩:∃d,D.blocks[p.toNat]? =some d:=⟨_,aR hrg⟩
         have G7:=HB.F d (bJ hd);have qX:=Z (show Bw D.blocks p=d by unfold Bw;rw[if_neg hp0,hd];rfl);have hadd:=fun w=>Mr t4 d w (by rw[G7];omega)
         have PR:=Z G7;have QD:=Z (show t3++wM D.blocks x (k+1)=t4++d by rw[hks,<-ht,dX];unfold AR;rw[if_neg hp0,hd];rfl);rw[qX.F] at PN;clear hk hk0 ht htl hkl hp hks hp0 hrg hd G7
         go_wp2_with (first
          |(refine aH O aa g0.out ?_)
          |(go_at_call 51;refine(PN.F _ (O.re [1,2])).mono ?_;clear O;rintro e J ⟨q,rfl,E,O⟩)
          |(refine aH O hz3 GP.F ?_)
          |(refine aU ?_;refine ou _ _ _ (by rfl) _ (by rfl) jI (l:=d) (O.jc (n:=128) (sz:=1) aa (by decide) (by rw[jR,PR.F])) ?_))
         exact⟨⟨k+1,by go_num,by rw[QD.F],HKK.F,fun h=>absurd h (by rw[QI.F];exact PE.F),(O.re [3,1,2]).re [3] |>.drop⟩,fZ HKK.F⟩
       ·obtain rfl:k=32:=by omega
        have zV:=Z (show t4=uN D.blocks S (j+1) by rw[Ef.F _ rfl,if_neg PE.F,<-VD.F]);clear hk hk0 ht htl hkl;go_wp2;rw[zV.F];exact⟨⟨j+1,by go_num,rfl,ay.F,O.drop⟩,fZ ay.F⟩
    ·obtain rfl:j=48:=by omega
     have zV:=Z (show t2=qU D.blocks S from ht.symm);clear hj ht htl hlt;go_wp2;go_ret;rw[zV.F];exact⟨rfl,O⟩
section
variable {B:List (List UInt8)} {D:aG} {S:aK} {gs:List Nat} {k:Nat}
theorem EY (h:Inv D):Fr (D.image D.writes.length):=⟨rfl,rfl,⟨h.image.2.ok,by show(-1:Int)<= -1;decide,by show(-1:Int)<=_;decide,aZ _⟩⟩
theorem Sv (h:nK D S gs k):nK (D.image D.writes.length) S gs 0:=
 ⟨by rw[h.inv.image.1];exact h.ok,⟨rfl,rfl⟩,(EY h.inv).dg,h.inv.image.2⟩
theorem Xb (h:bA B S gs) {x:ji} (V:Small x) (kk:Int):∃c1 S1 gs1 B1,bA B1 S1 gs1/\B1.length=B.length/\∀D:aG,D.dead=false->D.blocks=B->CR S gs B c1 S1 gs1 B1 D (iZ S D x kk):=by
 by_cases h3:kk<3
 ·obtain⟨c1,S1,B1,I,H,h4⟩:=YS h x.recs x.shown;refine⟨c1,S1,_,B1,I,H,fun D hd hb=>?_⟩;unfold iZ;rw[if_pos h3];exact h4 D hd hb
 ·obtain⟨c1,S1,B1,I,H,h4⟩:=Xo h (xg x.sets) (by have:=V.tot;omega) (Fe S x) x.shown;refine⟨c1,S1,_,B1,I,H,fun D hd hb=>?_⟩;unfold iZ;rw[if_neg h3];exact h4 D hd hb
theorem agx {x:ji} (h:bA D.blocks S gs) (V:Small x) (kk:Int) (hd:D.dead=false) (hg:DG D k) (hi:Inv D):DG (iZ S D x kk).2.2 (k+500)/\Inv (iZ S D x kk).2.2/\(iZ S D x kk).2.2.blocks.length=D.blocks.length:=by
 obtain⟨c1,S1,gs1,B1,_,_,h3⟩:=Xb h V kk;obtain⟨⟨l,hl,e⟩,_⟩:=h3 D hd rfl;rw[e];refine⟨(hg.run l).mono (by omega),Inv.run l hi,TU _ _⟩
theorem ada (h:nK D S gs k) {x:ji} (V:Small x) (kk n:Int):∃gs1,nK (iZ S (D.image D.writes.length) x kk).2.2 (iZ S (D.image D.writes.length) x kk).2.1 gs1 500/\
  ((iZ S {D with left:=n} x kk).1=(iZ S (D.image D.writes.length) x kk).1/\yh ((iZ S {D with left:=n} x kk).2.2.image (iZ S {D with left:=n} x kk).2.2.writes.length) (iZ S (D.image D.writes.length) x kk).2.1 gs1 (iZ S (D.image D.writes.length) x kk).2.2.blocks∨
   (iZ S {D with left:=n} x kk).1=22/\(yh ((iZ S {D with left:=n} x kk).2.2.image (iZ S {D with left:=n} x kk).2.2.writes.length) S gs D.blocks∨
    yh ((iZ S {D with left:=n} x kk).2.2.image (iZ S {D with left:=n} x kk).2.2.writes.length) (iZ S (D.image D.writes.length) x kk).2.1 gs1 (iZ S (D.image D.writes.length) x kk).2.2.blocks)):=by
 obtain⟨c1,S1,gs1,B1,I,_,h3⟩:=Xb h.ok V kk;have hI:=Sv h;have J:=h3 (D.image D.writes.length) rfl h.inv.image.1;have w2:=h3 {D with left:=n} h.up.2 rfl;have hiD:Inv {D with left:=n} :=⟨⟨h.inv.ok.len,h.inv.ok.base,h.inv.ok.at_⟩,h.inv.blk⟩;generalize iZ S (D.image D.writes.length) x kk=r0 at J ⊢;generalize iZ S {D with left:=n} x kk=r at w2 ⊢
 have hB:r0.1=c1/\nK r0.2.2 r0.2.1 gs1 500/\r0.2.1=S1/\r0.2.2.blocks=B1:=by
  have hw:CR S gs (D.image D.writes.length).blocks c1 S1 gs1 B1 (D.image D.writes.length) r0:=by rw[h.inv.image.1];exact J
  have a:=Pw hI I hw;rw[Nat.zero_add] at a;obtain⟨⟨l,hl,e⟩,w⟩:=J
  rcases w with⟨a1,a2,_,a4⟩|⟨_,_,a3,_⟩
  ·exact⟨a1,a.2,a2,a4⟩
  ·have:=a.2.up.2;rw[this] at a3
   cases a3
 obtain⟨b1,b2,b3,b4⟩:=hB;refine⟨gs1,b2,?_⟩;obtain⟨⟨l,hl,e⟩,w⟩:=w2;have hi:Inv r.2.2:=by rw[e];exact Inv.run l hiD
 rw[b1,b3,b4]
 rcases w with⟨a1,a2,_,a4⟩|⟨a1,_,_,a4⟩
 ·exact .inl ⟨a1,Ox (EY hi) (by rw[hi.image.1,a4];exact I) (fun p _=>by rw[hi.image.1,a4])⟩
 ·exact .inr ⟨a1,a4 _ (EY hi) hi.image.1⟩
end
theorem alH {pm:Nat} {M:aG} {S:aK} {gs:List Nat} {C:List (List UInt8)} (h:yh M S gs C) (hM:Fr M) (hw:M.writes.length<=60000) (h26:26<=M.blocks.length) (O:Sat W w (aP pm M::L)):
  Calls Tryz.prog 17 #[.pointer (some ⟨pm,0,none⟩)] w fun e w'=>∃ps E,e= .returned (.tuple #[.pointer (some ⟨ps,0,none⟩), .int .i64 0])/\bA E.blocks S gs/\qU E.blocks S=qU C S/\Sat W w' (bF ps pm S::aP pm E::L):=by
 obtain⟨E,k,I,H,h3,h4,h5⟩:=h;refine(Od h4 hM.dg (by omega) h26 I H O).mono ?_;rintro e w' ⟨ps,rfl,hS1⟩;exact⟨ps,E,rfl,h4,an0 h4.x h5,hS1⟩
theorem Inv.wrote {D:aG} {B:List (List UInt8)} {k n:Nat} {b:List UInt8} (h:Inv D) (hl:Lv D B k) (hn:n<B.length) (hb:b.length=128):Inv (D.wrote n b):=by
 have I:=h.next (n:Int) b
 have hw:fG D (n:Int) b=D.wrote n b:=by
  unfold fG;rw[hl.dead,if_neg (by decide),if_neg (by rw[hl.bl];unfold bad;omega),if_neg (by rw[hl.left];decide),fu]
 rw[hw] at I;exact I
theorem Inv.pJ {D:aG} {n:Nat} (hi:Inv D) (h:Lv D (List.replicate n (zeros 128)) 0) (I:160<=n):∀k,k<=48->Inv (pJ n D k)
 |0,_=>((hi.wrote h (n:=2) (by rw[kZ];omega) (by simp[zeros])).wrote (h.M0 I).1 (n:=1) (by rw[gV,kZ];omega) (uC _)).wrote (h.M0 I).2 (n:=74) (by rw[gV,gV,kZ];omega) (vT 0 (by decide))
 |k+1,hk=>(Inv.pJ hi h I k (by omega)).wrote (h.pJ I k (by omega)) (by rw[qL];omega) (CY _ (Tq k).pl)
theorem Inv.rC {D:aG} {n:Nat} (hi:Inv D) (h:Lv D (List.replicate n (zeros 128)) 0) (I:160<=n):Inv (rC n D):=
 (hi.pJ h I 48 (aZ _)).wrote (h.pJ I 48 (aZ _)) (by rw[qL];omega) (oD _)
theorem adl:Rel (.new 160) (.new 160):=⟨rfl,rfl,rfl,rfl,by decide,by decide,(Inv.new 160 (by decide)).ok⟩
theorem Ym:nK (rC 160 (.new 160)) (S0 160) [74] 52/\o6 (rC 160 (.new 160))=(0,rC 160 (.new 160)):=by
 have h0:Lv (aG.new (160:Nat)) (List.replicate 160 (zeros 128)) 0:=Lv.new (by decide);have h:Lv (rC 160 (.new 160)) (sW 160) 52:=h0.rC (by decide);have hs:=OZ (n:=160) (by decide) (by decide);refine⟨⟨by rw[h.bl];exact hs,⟨h.left,h.dead⟩,h.ok,Inv.rC (Inv.new 160 (by decide)) h0 (by decide)⟩,(Z0 h hs.b2).2⟩
section
variable {W w:World} {L:List aA} {A B C:aA} {po pd pe:Nat}
theorem ac5 (O:Sat W w (A::B::aP pd (.new 160)::L)):
  Calls Tryz.prog 7 #[.pointer (some ⟨pd,0,none⟩)] w fun e w'=>e= .returned (.int .i64 0)/\Sat W w' (A::B::aP pd (rC 160 (.new 160))::L):=by
 refine(ahR (n:=160) (O.re [2]) (Lv.new (n:=160) (by decide)) (by decide) (by decide)).mono ?_;rintro e w' ⟨rfl,I⟩;exact⟨rfl,I.re [1,2]⟩
theorem adn {R:dh} (hR:Rel (.new 160) R) (O:Sat W w (A::B::C::aW pe R::L)):
  Calls Tryz.prog 8 #[.pointer (some ⟨pe,0,none⟩)] w fun e w'=>e= .returned (.int .i64 0)/\∃R',Rel (rC 160 (.new 160)) R'/\Sat W w' (A::B::C::aW pe R'::L):=by
 refine(aml (n:=160) (O.re [3]) (Lv.new (n:=160) (by decide)) hR (by decide) (by decide)).mono ?_;rintro e w' ⟨rfl,R',hR',I⟩;exact⟨rfl,R',hR',I.re [1,2,3]⟩
theorem adf {R:dh} {s0 w0:Value} (hR:Rel (rC 160 (.new 160)) R) (O:Sat W w (A::Cs po 36 [.pointer (some ⟨pd,0,none⟩),s0, .pointer (some ⟨pe,0,none⟩),w0]::aP pd (rC 160 (.new 160))::aW pe R::L)):
  Calls Tryz.prog 9 #[.pointer (some ⟨po,0,none⟩)] w fun e w'=>e= .returned (.bool true)/\∃ps pw R',Rel (rC 160 (.new 160)) R'/\Sat W w' (A::Cs po 36 (vB pd ps pe pw)::bF ps pd (S0 160)::aP pd (rC 160 (.new 160))::dz pw pe (S0 160) [74]::aW pe R'::L):=by
 have h0:=Ym;have hb:∀b∈(rC 160 (.new 160)).blocks,b.length=128:=aP.WI (O.re [2]);refine(akx h0.1.ok hR h0.1.dg (by decide) (by have:=h0.1.ok.n1;omega) hb h0.2 ⟨rfl,h0.1.up.1,h0.1.up.2,h0.1.dg⟩ (O.re [1,2,3])).mono ?_;rintro e w' ⟨rfl,ps,pw,R',hR',I⟩;exact⟨rfl,ps,pw,R',hR',I.re [5]⟩
end
theorem anv (O:Sat W w L) (x:ji) (V:x.Ok W) (ls:Value) (cut:Int) (hs:uM x=false):
  Calls Tryz.prog 3 #[ls, .agg (j6 x).toArray, .int .i64 cut] w fun e w'=>e= .returned (.bool true)/\Sat W w' L:=by
 have F6:=Z (fun w A (h:Sat W w (A::L))=>Ib h 160 (by decide) (by decide));have F9:=Z (fun w A B (h:Sat W w (A::B::L))=>abF h 160 (by decide) (by decide));have HF:=Z (fun w A B pd M (h:Sat W w (A::B::aP pd (.new 160)::M))=>ac5 h);have Ma:=Z (fun w A B C pe M (h:Sat W w (A::B::C::aW pe (.new 160)::M))=>adn adl h);have HX:=Z V;have iK:=Z (fun w M (h:Sat W w M)=>Ud h x HX.F);have IY:=Z (fun w M (h:Sat W w M)=>Q0 h);rw[hs] at iK;obtain⟨lx,hlx⟩:=au (j6 x);have qG:=Z (show(lx.drop 0).take 6=lx by rw[<-hlx];rfl);have aM:=Z (show lx.length=6 by rw[<-hlx];rfl);rw[hlx] at iK ⊢;clear V hs hlx;go_enter Tryz.func3,Tryz.ntmps3
 go_wp2_with (refine bV O ?_;clear O;intro p4 J O;rw[aS] at O)
 go_wp2_with (first
  |(go_at_call 5;refine(F6.F _ _ O).mono ?_;clear O;rintro e J ⟨pd,rfl,O⟩)
  |(go_at_call 6;refine(F9.F _ _ _ O.bW).mono ?_;clear O;rintro e J ⟨pe,rfl,O⟩)
  |(refine bV O ?_;clear O;intro po J O;rw[aS] at O))
 have hS2:=O.re [2,0,3,1];clear O;have O:Sat W _ (Cs p4 26 lx::Cs po 36 [.pointer (some ⟨pd,0,none⟩), .pointer none, .pointer (some ⟨pe,0,none⟩), .pointer none]::aP pd (.new 160)::aW pe (.new 160)::L):=hS2;clear hS2
 (refine ll (pO [0,1,2,3,4,5]<|rO [6]<|pO [7,8,9,10,12,13,14]<|rO [15]<|aO [11,16]<|pO [17,18,19,20]<|aO [21]<|pO [22,23,24]<|rO [25]<|aO [26]<|pO [27,28]<| .e) [16,21,26] O (fun _ h=>h.take2) ?_;clear O;intro J O)
 repeat (first
  |(refine bG O ?_;go_frame)
  |(refine sK O ?_;go_frame)
  |(refine OH O ?_;(first
   |refine rM hz1 ?_
   |(refine lY aa lx ?_ (hvs:=qG.F) (hb:=aM.F)));go_frame)
  |(refine bY fun K hK=>?_;(first
   |(refine jy (HF.F _ _ _ _ _ O) ?_;clear O;intro J O)
   |(refine cK (Ma.F _ _ _ _ _ _ O) ?_;clear O;rintro e J ⟨rfl,R1,vW,O⟩;have HR1:=Z vW;clear vW;refine⟨_,rfl,?_⟩)
   |(refine cK (adf HR1.F O) ?_;clear O;rintro e J ⟨rfl,ps,pw,R2,hR2,O⟩;have HR2:=Z hR2;clear hR2;refine⟨_,rfl,?_⟩)
   |(refine jy (iK.F _ _ O) ?_;clear O;intro J O));refine hK.gu O ?_;clear hK K;go_frame))
 refine bO ?_
 go_wp2_with (first
  |(refine dm O aa lx ?_ (hvs:=qG.F) (hb:=aM.F))
  |(go_at_call 10;refine ak (iK.F _ _ O) ?_;clear O;intro J O)
  |(go_at_call 11;refine ak (IY.F _ _ O) ?_;clear O;intro J O))
 go_ret;exact⟨rfl,(O.re []).drop.drop.drop.drop.drop.drop⟩
theorem akc (a b:List UInt8) (x y:Operand) (w:World):(eqGuard .neq 9 x y (gM a) (gM b)).run Tryz.prog w= .ok () w:=by simp[eqGuard,gM]
def IL (W:World) (L:List aA) (p4 po:Nat) (lx:List Value) (ls:Value) (cut:Int):Act->World->Prop:=(fun(a':Act) (w':World)=>(∃pd ps pe pw S gs D,nK D S gs 5052/\Sat W w' (Cs p4 26 lx::Cs po 36 (vB pd ps pe pw)::bF ps pd S::aP pd D::L))/\xQ 220 [(0,ls),(1, .agg lx.toArray),(2, .int .i64 cut),(4, .pointer (some ⟨p4,0,none⟩)),(9, .pointer (some ⟨po,0,none⟩))] a')
def ac8 (p4:Nat):Value:= .func (.func 18) #[] #[.pointer (some ⟨p4,0,none⟩)]
def Pv (W:World) (L:List aA) (p4 po:Nat) (x:ji) (kk cut:Int):Act->World->Prop:=(fun(a':Act) (w':World)=>(∃pd ps pe pw S gs D,nK D S gs 5052/\(a'.tmps.getD 12 undef)=gM (qU D.blocks S)/\(a'.tmps.getD 18 undef)= .int .i64 (iZ S (D.image D.writes.length) x kk).1/\(a'.tmps.getD 19 undef)=gM (qU (iZ S (D.image D.writes.length) x kk).2.2.blocks (iZ S (D.image D.writes.length) x kk).2.1)/\Sat W w' (Cs p4 26 ((j6 x).set 0 (.int .i64 kk))::Cs po 36 (vB pd ps pe pw)::bF ps pd S::aP pd D::L))/\xQ 220 [(2, .int .i64 cut),(4, .pointer (some ⟨p4,0,none⟩)),(9, .pointer (some ⟨po,0,none⟩)),(17,ac8 p4)] a')
def UG (W:World) (L:List aA) (po pd:Nat) (F1 F2:List UInt8) (c:Int) (D:aG) (v1 v2 v3:Value):Act->World->Prop:=(fun(a':Act) (w':World)=>(Sat W w' (Cs po 36 [.pointer (some ⟨pd,0,none⟩),v1,v2,v3]::aP pd D::L))/\xQ 220 [(9, .pointer (some ⟨po,0,none⟩)),(12,gM F1),(19,gM F2),(20, .int .i64 c)] a')
structure QU (c c0:Int) (T F1 F2:List UInt8):Prop where
 mid:(c != c0)=false∨((c != c0)=true/\(c != 22)=false)
 fin:((c != 22)=true/\(T==F2)=true)∨((c != 22)=false/\((T==F1)=true∨((T==F1)=false/\(T==F2)=true)))
theorem aoq (c:Int) (F1 F2:List UInt8):QU c c F2 F1 F2:=by
 refine⟨.inl (by simp),?_⟩
 by_cases h:c=22
 ·refine .inr ⟨by simp[h],?_⟩
  by_cases H:F2=F1
  ·exact .inl (by simp[H])
  ·exact .inr ⟨by simp[H],by simp⟩
 ·exact .inl ⟨by simp[h],by simp⟩
theorem ac7 (c0:Int) {T F1 F2:List UInt8} (h:T=F1∨T=F2):QU 22 c0 T F1 F2:=by
 refine⟨?_, .inr ⟨by simp,?_⟩⟩
 ·by_cases h:(22:Int)=c0
  ·exact .inl (by simp[h])
  ·exact .inr ⟨by simp[h],by simp⟩
 ·by_cases H:T=F1
  ·exact .inl (by simp[H])
  ·exact .inr ⟨by simp[H],by rcases h with h|h;exact absurd h H;simp[h]⟩
theorem Rm {D:aG} {S:aK} {gs:List Nat} {k:Nat} (h:nK D S gs k) {n:Int} (h0:0<=n) (I:n<60):bA ({D with left:=n} :aG).blocks S gs/\DG {D with left:=n} k/\Inv {D with left:=n} :=
 ⟨h.ok,⟨⟨h.inv.ok.len,h.inv.ok.base,h.inv.ok.at_⟩,by show -1<=n;omega,by show n<=_;omega,h.dg.wr⟩,⟨⟨h.inv.ok.len,h.inv.ok.base,h.inv.ok.at_⟩,h.inv.blk⟩⟩
theorem aoz {D:aG} {S:aK} {gs:List Nat} {k:Nat} (h:nK D S gs k) {x:ji} (V:Small x) (kk:Int) {n:Int} (h0:0<=n) (I:n<60) {r r0:Int×aK×aG} (hr:iZ S {D with left:=n} x kk=r) (hr0:iZ S (D.image D.writes.length) x kk=r0):
  ∃Sx YU C,yh (r.2.2.image r.2.2.writes.length) Sx YU C/\QU r.1 r0.1 (qU C Sx) (qU D.blocks S) (qU r0.2.2.blocks r0.2.1)/\r.2.2.Ok/\Fr (r.2.2.image r.2.2.writes.length)/\26<=(r.2.2.image r.2.2.writes.length).blocks.length:=by
 obtain⟨gs1,hl1,hc⟩:=ada h V kk n;obtain⟨c1,c2,c3⟩:=Rm h h0 I;obtain⟨d1,d2,d3⟩:=agx c1 V kk h.up.2 c2 c3;rw[hr] at d1 d2 d3 hc;rw[hr0] at hc
 have h26:26<=(r.2.2.image r.2.2.writes.length).blocks.length:=by
  rw[d2.image.1,d3];have h4:=h.ok.n1;show 26<=D.blocks.length;omega
 rcases hc with⟨e,hc⟩|⟨e,hc⟩
 ·exact⟨_,_,_,hc,by rw[e];exact aoq _ _ _,d1.ok,EY d2,h26⟩
 ·rcases hc with hc|hc
  ·exact⟨_,_,_,hc,by rw[e];exact ac7 _ (.inl rfl),d1.ok,EY d2,h26⟩
  ·exact⟨_,_,_,hc,by rw[e];exact ac7 _ (.inr rfl),d1.ok,EY d2,h26⟩
theorem aoy {D:aG} {S:aK} {gs:List Nat} {k:Nat} (h:nK D S gs k) {x:ji} (V:Small x) (kk:Int) {r0:Int×aK×aG} (hr0:iZ S (D.image D.writes.length) x kk=r0):∃gs1,bA r0.2.2.blocks r0.2.1 gs1:=by
 obtain⟨gs1,hl1,hc⟩:=ada h V kk 0;rw[hr0] at hl1;exact⟨gs1,hl1.ok⟩
theorem ajq {q:Nat} {D:aG} {S:aK} {gs:List Nat} {k:Nat} (h:nK D S gs k) (O:Sat W w (aP q (D.image D.writes.length)::L)):
  Calls Tryz.prog 17 #[.pointer (some ⟨q,0,none⟩)] w fun e w'=>∃ps,e= .returned (.tuple #[.pointer (some ⟨ps,0,none⟩), .int .i64 0])/\Sat W w' (bF ps q S::aP q (D.image D.writes.length)::L):=by
 have hi:=Sv h;have hf:=EY h.inv;refine(Od hi.ok hf.dg (eG _) (by have:=hi.ok.n1;omega) (TR hi.ok.b2).2 hf.lv O).mono ?_;rintro e w' ⟨ps,rfl,I⟩;exact⟨ps,rfl,I⟩
theorem Pn {ps pd:Nat} {S:aK} {D:aG} {gs:List Nat} {T:List UInt8} (O:Sat W w (bF ps pd S::aP pd D::L)) (hok:bA D.blocks S gs) (ht:qU D.blocks S=T):
  Calls Tryz.prog 14 #[.pointer (some ⟨ps,0,none⟩)] w fun e w'=>e= .returned (gM T)/\Sat W w' (bF ps pd S::aP pd D::L):=by
 rw[<-ht];exact an4 O hok
theorem ajX (x:ji):(j6 x).length=6:=rfl
theorem aov {p4 po:Nat} {x:ji} (V:x.Ok W) (hs:uM x=true) {kk cut:Int} {a:Act} (hinv:Pv W L p4 po x kk cut a w):
  From Tryz.prog 3 14 (fun e w'=>e= .returned (.bool true)/\Sat W w' L) a w:=by
 have HX:=Z V;have Ga:=Z hs;have iK:=Z (OY V hs);clear V hs;refine From.intro Tryz.func3 rfl ?_;unfold Pv ac8 at hinv;obtain⟨hrel,ha⟩:=hinv;obtain⟨z,hz⟩:∃z:Nat->Value,∀i,a.tmps.getD i undef=z i:=⟨_,fun _=>rfl⟩
 try simp only[hz] at hrel
 replace ha:=ha.at hz;simp only[mM,lh] at ha;clear hz;subst ha;obtain⟨pd,ps,pe,pw,S,gs,D,hl,h12,h18,h19,O⟩:=hrel;rw[h12,h18,h19];clear h12 h18 h19;have HL:=Z hl;have eX:=Z (fun w=>Io cut 60 (by decide) (by decide) w);obtain⟨n,hn⟩:=au (cut % 60);have n0:0<=n:=by omega
 have n60:n<60:=by omega
 rw[hn] at eX;obtain⟨r0,hr0⟩:=au (iZ S (D.image D.writes.length) x kk);obtain⟨r,hr⟩:∃r,iZ S {D with left:=n} x kk=r:=⟨_,rfl⟩;have hsum:=aoz hl iK.F kk n0 n60 hr hr0;rw[hr0];obtain⟨Sx,YU,C,Zj,hE,hok,hfr,h26⟩:=hsum;have adY:=Z (fun w A B C M (h:Sat W w (A::B::C::aP pd D::M))=>ag1 (h.re [3]) n n0);obtain⟨lx,hlx⟩:=au ((j6 x).set 0 (.int .i64 kk));have xU:=Z (fun w M (h:Sat W w (Cs p4 26 lx::bF ps pd S::aP pd {D with left:=n} ::M))=>Xc (Rm HL.F n0 n60).1 (Rm HL.F n0 n60).2.1 (by decide) x HX.F Ga.F kk lx hlx.symm h);rw[hr] at xU;rw[hlx] at O;have Be:=Z (fun w A M (h:Sat W w (A::aP pd r.2.2::M))=>ZE h.bW hok r.2.2.writes.length (aZ _));have gW:=Z (fun w A M (h:Sat W w (A::aP pd r.2.2::M))=>adp (n:=(r.2.2.writes.length:Int)) h.bW rfl);have Ea:=Z (fun w q M (h:Sat W w (aP q (r.2.2.image r.2.2.writes.length)::M))=>alH Zj hfr (eG _) h26 h);have IY:=Z (fun w M (h:Sat W w M)=>Q0 h);obtain⟨F1,hF1⟩:=au (qU D.blocks S);obtain⟨F2,hF2⟩:=au (qU r0.2.2.blocks r0.2.1);obtain⟨T,hT⟩:=au (qU C Sx);rw[hF1,hF2,hT] at hE;rw[hF1,hF2];have HT:=Z hT;obtain⟨c,hc⟩:=au r.1;obtain⟨c0,hc0⟩:=au r0.1;rw[hc] at xU hE;rw[hc0] at hE ⊢;obtain⟨hmid,hfin⟩:=hE;obtain⟨D2,hD2⟩:=au r.2.2;obtain⟨S2,hS2⟩:=au r.2.1;obtain⟨I2,hI2⟩:=au (D2.image D2.writes.length);rw[hD2,hS2] at xU;rw[hD2,hI2] at Be Ea;rw[hD2] at gW;obtain⟨n2,hn2⟩:=au D2.writes.length;rw[hn2] at Be gW;unfold vB at O;clear hl hn hr0 hr Zj hok hfr h26 hlx hF1 hF2 hT hc hc0 hD2 hS2 hI2 hn2;have ad5:=Z hfin;clear hfin
 -- the cut
 refine dK (fun KX aF=>?_);go_wp2
 (refine cB (pO [0,1,2]<|rO [3]<|pO [4]<|aO [5,6]<| .e) [6] O ?_;clear O;intro J O)
 repeat (first
  |(refine bG O ?_;go_frame)
  |(refine bR O ?_;(first
   |refine rM hz1 ?_);go_frame)
  |(refine bY fun K hK=>?_;(first
   |(refine jy (eX.F _) ?_;rintro J rfl)
   |(refine jy (adY.F _ _ _ _ _ O) ?_;clear O;intro J O));refine hK.go O ?_;clear hK K;go_frame))
 refine bO ?_;go_wp2;refine aF.F _ _ ?_;clear aF;replace O:=O.re [1,2,3,0]
 -- the call
 refine dK (fun KX aF=>?_)
 go_wp2_with (first
  |(refine bB O ?_ (hk:=hz1))
  |(refine aU ?_;refine Xg _ _ _ _ (by rfl) (by rfl) (by rfl) (by kernel_rfl) (xU.F _ _ (O.re [0,2,3])) ?_;clear O;rintro e J ⟨rfl,O⟩;refine⟨_,rfl,?_⟩))
 refine aF.F _ _ ?_;clear aF xU;replace O:=((O.re [3,2,0,1]).re [2,3,0,1]).drop.drop;refine pV (UG W L po pd F1 F2 c D2 (.pointer (some ⟨ps,0,none⟩)) (.pointer (some ⟨pe,0,none⟩)) (.pointer (some ⟨pw,0,none⟩))) (fun KX aF=>?_) ?_
 ·rcases hmid with e1|⟨e1,e2⟩
  all_goals
   go_wp2;refine aF.F _ _ ?_;unfold UG;exact⟨O,rfl⟩
 clear O hmid;rintro a wz hinv;unfold UG at hinv;obtain⟨hrel,ha⟩:=hinv;obtain⟨z,hz⟩:∃z:Nat->Value,∀i,a.tmps.getD i undef=z i:=⟨_,fun _=>rfl⟩
 try simp only[hz] at hrel
 replace ha:=ha.at hz;simp only[mM,lh] at ha;clear hz;subst ha;have O:=hrel;clear hrel
 -- the image
 refine dK (fun KX aF=>?_);go_wp2
 (refine cB (pO [0,1,2]<|rO [3]<|pO [4,5,6]<|rO [7]<|aO [8,9]<|pO [10,11,12,13,14]<| .e) [9] O ?_;clear O;intro J O)
 repeat (first
  |(refine bG O ?_;go_frame)
  |(refine bR O ?_;(first
   |refine rM aa ?_);go_frame)
  |(refine bY fun K hK=>?_;(first
   |(refine jy (gW.F _ _ _ O) ?_;rintro J rfl)
   |(refine cK (Be.F _ _ _ O) ?_;clear O;rintro e J ⟨q,rfl,O⟩;refine⟨_,rfl,?_⟩));refine hK.go O ?_;clear hK K;go_frame))
 refine bO ?_;go_wp2;refine aF.F _ _ ?_;clear aF gW Be;refine qP ?_;refine dK (fun KX aF=>?_)
 go_wp2_with (go_at_call 17;refine(Ea.F _ _ _ O).mono ?_;rintro e J hE;obtain⟨py,E,rfl,hE1,hE2,hS1⟩:=hE;clear O;have O:=hS1;clear hS1)
 refine aF.F _ _ ?_;clear aF Ea;have Mf:=Z (fun w M (h:Sat W w (bF py q Sx::aP q E::M))=>Pn h hE1 (hE2.trans HT.F));clear hE1 hE2;refine qP ?_;refine dK (fun KX aF=>?_)
 go_wp2_with (go_at_call 14;refine ak (Mf.F _ _ O) ?_;clear O;intro J O)
 refine aF.F _ _ ?_;clear aF Mf;have q1:=X8 T F2;have q2:=X9 T F2;have q3:=X8 T F1;have q4:=X9 T F1
 rcases ad5.F with⟨f1,f2⟩|⟨f1,f2|⟨f2,f3⟩⟩
 all_goals
  go_wp2_with (go_at_call 11;refine ak (IY.F _ _ O) ?_;clear O;intro J O)
  go_ret;exact⟨rfl,O.drop.drop.drop.drop⟩
theorem aos {p4 po:Nat} {x:ji} (V:x.Ok W) (hs:uM x=true) {cut:Int} {ls:Value} {lx:List Value} (hlx:j6 x=lx) {a:Act} (hinv:IL W L p4 po lx ls cut a w):
  From Tryz.prog 3 5 (fun e w'=>e= .returned (.bool true)/\Sat W w' L) a w:=by
 have HX:=Z V;have Ga:=Z hs;have iK:=Z (OY V hs);have qG:=Z hlx;clear V hs hlx;refine From.intro Tryz.func3 rfl ?_;unfold IL at hinv;obtain⟨hrel,ha⟩:=hinv;obtain⟨z,hz⟩:∃z:Nat->Value,∀i,a.tmps.getD i undef=z i:=⟨_,fun _=>rfl⟩
 try simp only[hz] at hrel
 replace ha:=ha.at hz;simp only[mM,lh] at ha;clear hz;subst ha;obtain⟨pd,ps,pe,pw,S,gs,D,hl,O⟩:=hrel;have HL:=Z hl;obtain⟨kk,hkk⟩:=au (x.kind % 6);have eX:=Z (fun w=>Io x.kind 6 (by decide) (by decide) w);rw[hkk] at eX;have G0:=Z (show lx[0]? =some (.int .i64 x.kind) by rw[<-qG.F];rfl);obtain⟨x0,hx0⟩:=au x.kind;rw[hx0] at G0 eX;have aM:=Z (show 0<lx.length by rw[<-qG.F];exact Nat.zero_lt_succ _);obtain⟨SQ,Sm⟩:=au (lx.set 0 (.int .i64 kk));have aei:=Z Sm;have Vo:=Z (show SQ=(j6 x).set 0 (.int .i64 kk) by rw[qG.F];exact Sm.symm);obtain⟨F1,hF1⟩:=au (qU D.blocks S);obtain⟨r0,hr0⟩:=au (iZ S (D.image D.writes.length) x kk);obtain⟨gs1,hok1⟩:=aoy hl iK.F kk hr0;have aez:=Z hok1;have dA:=Sv hl;have HI:=Z dA;have Ef:=Z (show qU (D.image D.writes.length).blocks S=F1 by rw[hl.inv.image.1];exact hF1);have FW:=Z hF1;obtain⟨F2,hF2⟩:=au (qU r0.2.2.blocks r0.2.1);have I5:=Z hF2;obtain⟨n2,hn2⟩:=au D.writes.length;have Me:=Z (fun w M (h:Sat W w (bF ps pd S::aP pd D::M))=>Pn h HL.F.ok FW.F);have gW:=Z (fun w A B C M (h:Sat W w (A::B::C::aP pd D::M))=>adp (n:=(D.writes.length:Int)) (h.re [3]) rfl);have Be:=Z (fun w A B C M (h:Sat W w (A::B::C::aP pd D::M))=>ZE (h.re [3]) HL.F.inv.ok D.writes.length (aZ _));have Ea:=Z (fun w q M (h:Sat W w (aP q (D.image D.writes.length)::M))=>ajq HL.F h);have Gc:=Z (fun w py q M (h:Sat W w (bF py q S::aP q (D.image D.writes.length)::M))=>Pn h HI.F.ok Ef.F);have xU:=Z (fun w py q M (h:Sat W w (Cs p4 26 SQ::bF py q S::aP q (D.image D.writes.length)::M))=>Xc HI.F.ok HI.F.dg (by decide) x HX.F Ga.F kk SQ Vo.F h);rw[hr0] at xU;have VE:=Z (fun w py q M (h:Sat W w (bF py q r0.2.1::aP q r0.2.2::M))=>Pn h aez.F I5.F);have HJ:=Z (show ∀(c:Int),r0.1=c->(iZ S (D.image D.writes.length) x kk).1=c by rw[hr0];exact fun _ h=>h);have HJ2:=Z (show qU (iZ S (D.image D.writes.length) x kk).2.2.blocks (iZ S (D.image D.writes.length) x kk).2.1=F2 by rw[hr0];exact hF2);obtain⟨gP,hI⟩:=au (D.image D.writes.length);rw[hI] at Be Ea Gc xU;rw[hn2] at gW Be;obtain⟨c0,hc0⟩:=au r0.1;rw[hc0] at xU;have FQ:=Z (HJ.F c0 hc0);obtain⟨S2,hS2⟩:=au r0.2.1;obtain⟨D2,hD2⟩:=au r0.2.2;rw[hS2,hD2] at xU VE;unfold vB at O;clear hl hkk hx0 Sm hF1 hr0 hok1 dA hF2 hn2 hI hc0 hS2 hD2 HJ
 -- its kind
 refine dK (fun KX aF=>?_)
 go_wp2_with (first
  |(refine aH O aa G0.F ?_)
  |(go_at_call 12;refine ak (eX.F _) ?_;rintro J rfl)
  |(refine iA O aa ?_ (hb:=aM.F);clear O;intro J O;rw[aD,aei.F] at O))
 refine aF.F _ _ ?_;clear aF
 -- what it tells ahead
 refine dK (fun KX aF=>?_)
 go_wp2_with (first
  |(refine bB O ?_ (hk:=hz1))
  |(go_at_call 14;refine(Me.F _ _ (O.re [2,3])).mono ?_;rintro e J ⟨rfl,hS1⟩;clear O;have O:=hS1.re [2,3,0,1];clear hS1))
 refine aF.F _ _ ?_;clear aF Me
 -- the image
 refine dK (fun KX aF=>?_);go_wp2
 (refine cB (pO [0,1,2]<|rO [3]<|pO [4,5,6]<|rO [7]<|aO [8,9]<|pO [10,11,12,13,14]<| .e) [9] O ?_;clear O;intro J O)
 repeat (first
  |(refine bG O ?_;go_frame)
  |(refine bR O ?_;(first
   |refine rM hz1 ?_);go_frame)
  |(refine bY fun K hK=>?_;(first
   |(refine jy (gW.F _ _ _ _ _ O) ?_;rintro J rfl)
   |(refine cK (Be.F _ _ _ _ _ O) ?_;clear O;rintro e J ⟨q,rfl,O⟩;refine⟨_,rfl,?_⟩));refine hK.go O ?_;clear hK K;go_frame))
 refine bO ?_;go_wp2;refine aF.F _ _ ?_;clear aF gW Be;refine qP ?_;refine dK (fun KX aF=>?_)
 go_wp2_with (go_at_call 17;refine(Ea.F _ _ _ O).mono ?_;rintro e J hE;obtain⟨py,rfl,hS1⟩:=hE;clear O;have O:=hS1;clear hS1)
 refine aF.F _ _ ?_;clear aF Ea;have q1:=aay F1 F1;have q2:=akc F1 F1;refine dK (fun KX aF=>?_)
 go_wp2_with (go_at_call 14;refine ak (Gc.F _ _ _ _ O) ?_;clear O;intro J O)
 refine aF.F _ _ ?_;clear aF Gc q1 q2;refine qP ?_
 -- its call
 replace O:=O.re [3,0,1,4,5,2];refine dK (fun KX aF=>?_)
 go_wp2_with (refine aU ?_;refine Xg _ _ _ _ (by rfl) (by rfl) (by rfl) (by kernel_rfl) (xU.F _ _ _ _ O) ?_;clear O;rintro e J ⟨rfl,O⟩;refine⟨_,rfl,?_⟩)
 refine aF.F _ _ ?_;clear aF xU;replace O:=O.re [1,2,0,3,4,5];refine pV (Pv W L p4 po x kk cut) (fun KX aF=>?_) ?_
 ·go_wp2_with (go_at_call 14;refine ak (VE.F _ _ _ _ O) ?_;clear O;intro J O)
  refine aF.F _ _ ?_;unfold Pv;refine⟨⟨pd,ps,pe,pw,S,gs,D,HL.F,?_,?_,?_,?_⟩,rfl⟩
  ·rw[FW.F];rfl
  ·rw[FQ.F];rfl
  ·rw[HJ2.F];rfl
  ·rw[<-Vo.F];exact O.drop.drop
 clear O;exact fun a w h=>(aov HX.F Ga.F h).use Tryz.func3 rfl rfl
end Go.Proofs.YtjbiihbicknemaaGreat
