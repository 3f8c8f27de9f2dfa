/-
  Part of the proof of StoreWhole.
-/
import Derived.Test.YtjbiihbicknemaaGreatMSrs
set_option linter.unusedSimpArgs false
set_option linter.unusedVariables false
set_option maxRecDepth 20000
set_option maxHeartbeats 40000000
namespace Go.Proofs.YtjbiihbicknemaaGreat
open Go.RowKit Go.Sep
variable {W w:World} {L:List aA}
attribute [local irreducible] Oper.wp wpList Calls Code.wp Sep.dR
def pJ (n:Nat) (D:aG):Nat->aG
 |0=>((D.wrote 2 (zeros 128)).wrote 1 (cO (U0 n))).wrote 74 (gL [] 0)
 |k+1=>(pJ n D k).wrote (26+k) (encI (sD k))
def rC (n:Nat) (D:aG):aG:=(pJ n D 48).wrote 0 (encS (vE n))
theorem Lv.M0 {D:aG} {n:Nat} (h:Lv D (List.replicate n (zeros 128)) 0) (I:160<=n):Lv (D.wrote 2 (zeros 128)) ((List.replicate n (zeros 128)).set 2 (zeros 128)) 1/\
  Lv ((D.wrote 2 (zeros 128)).wrote 1 (cO (U0 n))) (((List.replicate n (zeros 128)).set 2 (zeros 128)).set 1 (cO (U0 n))) 2:=by
 have a:=h.wrote (n:=2) (by rw[kZ];omega) (zeros 128);exact⟨a,a.wrote (n:=1) (by rw[gV,kZ];omega) (cO (U0 n))⟩
theorem Lv.pJ {D:aG} {n:Nat} (h:Lv D (List.replicate n (zeros 128)) 0) (I:160<=n):∀k,k<=48->Lv (pJ n D k) (xq n k) (3+k)
 |0,_=>(h.M0 I).2.wrote (n:=74) (by rw[gV,gV,kZ];omega) (gL [] 0)
 |k+1,hk=>(Lv.pJ h I k (by omega)).wrote (by rw[qL];omega) _
theorem Lv.rC {D:aG} {n:Nat} (h:Lv D (List.replicate n (zeros 128)) 0) (I:160<=n):Lv (rC n D) (sW n) 52:=(h.pJ I 48 (aZ _)).wrote (by rw[qL];omega) _
theorem KR {p k:Nat} {D:aG} {R:dh} {B:List (List UInt8)} (O:Sat W w (aW p R::L)) (hl:Lv D B k) (hR:Rel D R) (hk:k<=90000) {a:Int} {n:Nat} (ha:a=(n:Int)) (hn:n<B.length) (v:Value) (b:List UInt8) (hb1:b.length=128) (hb:∀w,Sat W w L->Rd w v 128 1 (bv b)):
  Calls Tryz.prog 35 #[.pointer (some ⟨p,0,none⟩), .int .i64 a,v] w fun e w'=>e= .returned (.int .i64 0)/\∃R',Rel (D.wrote n b) R'/\Sat W w' (aW p R'::L):=by
 subst ha;have hbad:¬bad D.blocks.length (n:Int) b.length:=by rw[hl.bl];unfold bad;omega
 have hleft:¬D.left=0:=by rw[hl.left];decide
 have hc:gp D (n:Int) b.length=0:=by unfold gp;rw[hl.dead,if_neg (by decide),if_neg hbad,if_neg hleft]
 have hw:fG D (n:Int) b=D.wrote n b:=by unfold fG;rw[hl.dead,if_neg (by decide),if_neg hbad,if_neg hleft,fu]
 have hN:=hR.next (n:Int) b
 rw[hw] at hN;refine(Iw O hR hl.ok (by omega) (n:Int) v b hb1 hb).mono ?_;rintro e w' ⟨rfl,h⟩;rw[hc];exact⟨rfl,_,hN,h⟩
def VZ (W:World) (L:List aA) (p n:Nat) (D:aG) (v7:Value) (w':World):Prop:=
 ∃(i:Nat) (R:dh),v7= .int .i64 (i:Int)/\i<=48/\Rel (pJ n D i) R/\Sat W w' (aW p R::L)
theorem aml {p n:Nat} {D:aG} {R:dh} (O:Sat W w (aW p R::L)) (hD:Lv D (List.replicate n (zeros 128)) 0) (hR:Rel D R) (I:160<=n) (H:n<=1024):
  Calls Tryz.prog 8 #[.pointer (some ⟨p,0,none⟩)] w fun e w'=>e= .returned (.int .i64 0)/\∃R',Rel (rC n D) R'/\Sat W w' (aW p R'::L):=by
 have HD:=Z hD;have HR:=Z hR;have gB:=Z (fun i (hi:i<=48) R' (h:Rel (pJ n D i) R')=>show R'.L.length=n by rw[<-h.blocks,(hD.pJ I i hi).bl,qL]);have LK:=Z (fun i hi=>hD.pJ I i hi);have F9:=Z (show R.L.length=n by rw[<-hR.blocks,hD.bl,kZ]);have n1:(160:Int)<=(n:Int):=by omega
 have n2:(n:Int)<=1024:=by omega
 have l6:=Z I;have Cv:=Z (wL (Ik I H));have HW:=Z (hD.M0 I);have HME:=Z (show(mb (lJ n)).set 74 (.bool true)=mb (U0 n) from yF _ _ (by decide));have jg:=Z qz;obtain⟨v1,v2,O⟩:=aW.open O
 obtain⟨iI,gF,rfl,_⟩:=O.fA (k:=1) rfl;rw[F9.F] at O;have iG:=Z (fun w L h=>aW.mk (W:=W) (w:=w) (L:=L) (p:=p) (D:=R) (v1:= .slice iI n gF) (v2:=v2) h);clear hD hR I H;have HW0:=Z (fun w L v (h:Sat W w (aW p R::L)) hb=>KR h HD.F HR.F (by omega) (a:=2) (n:=2) rfl (by rw[kZ];have:=l6.F;omega) v (zeros 128) (by simp[zeros]) hb);have HW1:=Z (fun w L v R1 (hR:Rel (D.wrote 2 (zeros 128)) R1) (h:Sat W w (aW p R1::L)) hb=>KR h HW.F.1 hR (by omega) (a:=1) (n:=1) rfl (by rw[gV,kZ];have:=l6.F;omega) v (cO (U0 n)) (uC _) hb);have HW2:=Z (fun w L v R1 (hR:Rel ((D.wrote 2 (zeros 128)).wrote 1 (cO (U0 n))) R1) (h:Sat W w (aW p R1::L)) hb=>KR h HW.F.2 hR (by omega) (a:=74) (n:=74) rfl (by rw[gV,gV,kZ];have:=l6.F;omega) v (gL [] 0) (vT 0 (by decide)) hb);go_enter Tryz.func8,Tryz.ntmps8
 go_wp2_with (first
  |(refine bB O ?_)
  |(go_at_call 34;refine(abO O n (by omega)).mono ?_;clear O;rintro e J ⟨v3,rfl,O⟩;obtain⟨yE,mo,mc,rfl,_⟩:∃b off c,v3= .slice (some ⟨b,off,none⟩) 128 c/\128<=c:=(by have hk:=O;unfold IsMap at hk;exact hk.kV (k:=0) rfl (by decide)))
  |(go_at_call 33;refine(OG O (lJ n) yE mo mc (qy aa)).mono ?_;rintro e J ⟨v4,rfl,hS1⟩;clear O;have hS2:Sat W _ (_::_::_::_::_::L):=hS1.re [2,3,4,0,1];clear hS1;have O:=iG.F _ _ hS2;clear hS2;obtain⟨nb_,no,nc,rfl,_⟩:=O.kV (k:=1) rfl (by decide))
  |(refine aU ?_;refine Cf O _ _ _ (by rfl) _ _ (by rfl) _ (by first|exact sV|exact rA (by rfl)) (by rfl) (bz (by rfl)) hz1 74 (by omega) (by rw[jg.F];decide) ?_;clear O;intro J O;rw[aN,aD,HME.F] at O)
  |(refine aU ?_;refine mk O _ _ _ (by rfl) 128 128 _ _ (by rfl) (by rfl) (bS (by rfl)) (by omega) (by omega) (by omega) ?_;clear O;intro pz J O;rw[zA] at O)
  |(go_at_call 35;refine(HW0.F _ _ _ O.bW (fun w h=>h.jc (n:=128) (sz:=1) aa (by decide) (by simp[jR,zeros]))).mono ?_;rintro e J ⟨rfl,R1,vW,hS1⟩;have HR1:=Z vW;clear vW;clear O;have O:=hS1.bW.drop;clear hS1)
  |(go_at_call 36;refine(Oq O (U0 n) (some ⟨nb_,no,none⟩) nc (fun w L' h=>h.dY (has_add hz1 L'))).mono ?_;clear O;rintro e J ⟨v5,rfl,O⟩)
  |(go_at_call 35;refine(HW1.F _ _ _ _ HR1.F O.bW (fun w h=>by unfold IsMap at h;exact h.dY (k:=0) rfl)).mono ?_;rintro e J ⟨rfl,R2,hR2,hS1⟩;have HR2:=Z hR2;clear hR2;clear O;have O:=hS1;clear hS1)
  |(go_at_call 37;refine(KL O [] none 0 (fun w h=>TN w) (by decide) 0).mono ?_;rintro e J ⟨v6,rfl,hS1⟩;rw[TG,vT 0 (by decide)] at hS1;clear O;have O:=hS1;clear hS1)
  |(go_at_call 35;refine(HW2.F _ _ _ _ HR2.F O.bW (fun w h=>h.dY (k:=0) rfl)).mono ?_;rintro e J ⟨rfl,R3,GV,hS1⟩;have HR3:=Z GV;clear GV;clear O;have O:=hS1;clear hS1))
 have H0:=Z ((show ∀R w,Rel (((D.wrote 2 (zeros 128)).wrote 1 (cO (U0 n))).wrote 74 (gL [] 0)) R->Sat W w (aW p R::L)->VZ W L p n D (.int .i64 0) w from fun R w I H=>⟨0,R,rfl,eG _,I,H⟩) _ _ HR3.F (O.re [1,2,3,4]).drop.drop.drop.drop);clear O HR1 HR2 HR3 HW0 HW1 HW2;go_loopw [7] (fun v7 wz=>VZ W L p n D v7 wz) (fun v7 _=>48-(intOf v7).toNat)
 case atStart=>exact H0.F
 case round=>
  clear H0;obtain⟨i,R1,rfl,hi,hr,O⟩:=hrel
  by_cases hlt:i<48
  ·have j1:(i:Int)<48:=by omega
   have ay:=Z hlt;have Mh:=Z (fun w L v (h:Sat W w (aW p R1::L)) hb=>KR h (LK.F i (by omega)) hr (by omega) (a:=26+(i:Int)) (n:=26+i) (by omega) (by rw[qL];have:=l6.F;omega) v (encI (sD i)) (CY _ (Tq i).pl) hb);have HZ:=Z (show nU Tryz.prog 78=some (some (.agg (inv bC).toArray)) by kernel_rfl);have HB0:=Z (show ∀u:World,(Instr.build 78 #[]).run Tryz.prog u= .ok (.agg (inv bC).toArray) u from fun u=>run_build u _ _ _ (by kernel_rfl));have y5:=Z (show ∀u:World,(Instr.build 78 #[(0, .int .i64 2),(2, .int .i64 1),(3, .int .i64 1)]).run Tryz.prog u= .ok (.agg (inv jU).toArray) u from fun u=>run_build u _ _ _ (by kernel_rfl));have dJ:=Z (show ∀R2,Rel ((pJ n D i).wrote (26+i) (encI (sD i))) R2->Rel (pJ n D (i+1)) R2 from fun _ h=>h)
   by_cases h0:i=0
   ·subst h0;rw[show sD 0=jU from rfl] at Mh dJ;clear hlt hi hr
    go_wp2_with (first
     |(refine aU ?_;refine bd _ _ (by rfl) (by simp only[List.map_toArray,jN,List.map_nil];rfl) HB0.F ?_)
     |(refine aU ?_;refine bd _ _ (by rfl) (by simp only[List.map_toArray,jN,List.map_nil];rfl) y5.F ?_)
     |(refine dU O ?_ (hz:=HZ.F);clear O;intro px J O;rw[aS] at O)
     |(refine kW (inv bC) O aa ?_ (hv:=(inv_one _));clear O;intro J O;rw[aD,show(List.take 0 (inv bC)++inv bC++List.drop (0+(inv bC).length) (inv bC))=inv bC from rfl] at O)
     |(refine kW (inv jU) O aa ?_ (hv:=(inv_one _));clear O;intro J O;rw[aD,show(List.take 0 (inv bC)++inv jU++List.drop (0+(inv jU).length) (inv bC))=inv jU from rfl] at O)
     |(refine aU ?_;refine rE O _ _ (by rfl) _ _ (by rfl) (aI (by rfl)) (bz (by rfl)) aa (by decide) ?_)
     |(go_at_call 38;refine(OI O jU N7).mono ?_;clear O;rintro e J ⟨v11,rfl,O⟩;replace O:=O.bW.drop)
     |(go_at_call 35;refine(Mh.F _ _ _ O.bW (fun w h=>h.dY (k:=0) rfl)).mono ?_;clear O;rintro e J ⟨rfl,R2,hR2,O⟩;replace O:=O.bW.drop))
    exact⟨⟨0+1,R2,rfl,ay.F,dJ.F _ hR2,O⟩,by simp[intOf]⟩
   ·have e0:((i:Int)==0)=false:=dH.2 (by omega);rw[show sD i=bC from if_neg h0] at Mh dJ;clear hlt hi h0 hr
    go_wp2_with (first
     |(refine aU ?_;refine bd _ _ (by rfl) (by simp only[List.map_toArray,jN,List.map_nil];rfl) HB0.F ?_)
     |(refine aU ?_;refine bd _ _ (by rfl) (by simp only[List.map_toArray,jN,List.map_nil];rfl) y5.F ?_)
     |(refine dU O ?_ (hz:=HZ.F);clear O;intro px J O;rw[aS] at O)
     |(refine kW (inv bC) O aa ?_ (hv:=(inv_one _));clear O;intro J O;rw[aD,show(List.take 0 (inv bC)++inv bC++List.drop (0+(inv bC).length) (inv bC))=inv bC from rfl] at O)
     |(refine kW (inv jU) O aa ?_ (hv:=(inv_one _));clear O;intro J O;rw[aD,show(List.take 0 (inv bC)++inv jU++List.drop (0+(inv jU).length) (inv bC))=inv jU from rfl] at O)
     |(refine aU ?_;refine rE O _ _ (by rfl) _ _ (by rfl) (aI (by rfl)) (bz (by rfl)) aa (by decide) ?_)
     |(go_at_call 38;refine(OI O bC Dt).mono ?_;clear O;rintro e J ⟨v11,rfl,O⟩;replace O:=O.bW.drop)
     |(go_at_call 35;refine(Mh.F _ _ _ O.bW (fun w h=>h.dY (k:=0) rfl)).mono ?_;clear O;rintro e J ⟨rfl,R2,hR2,O⟩;replace O:=O.bW.drop))
    exact⟨⟨i+1,R2,by go_num,ay.F,dJ.F _ hR2,O⟩,by simp[intOf];have:=ay.F;omega⟩
  ·have j1:¬(i:Int)<48:=by omega
   obtain rfl:i=48:=by omega
   have aeI:=Z (gB.F 48 (aZ _) R1 hr);have HWE:=Z (fun w L v (h:Sat W w (aW p R1::L)) hb=>KR h (LK.F 48 (aZ _)) hr (by omega) (a:=0) (n:=0) rfl (by rw[qL];have:=l6.F;omega) v (encS (vE n)) (oD _) hb);obtain⟨u1,u2,O⟩:=aW.open O
   obtain⟨am,cm,rfl,_⟩:=O.fA (k:=1) rfl;rw[aeI.F] at O;have Qm:=Z (fun w L h=>aW.mk (W:=W) (w:=w) (L:=L) (p:=p) (D:=R1) (v1:= .slice am n cm) (v2:=u2) h);clear hlt hi hr iG
   go_wp2_with (first
    |(refine bB O ?_)
    |(refine aU ?_;refine bd _ _ (by rfl) (by simp only[List.map_toArray,jN,List.map_nil];rfl) (r:= .agg (sv (vE n)).toArray) (fun u=>run_build u _ _ _ (by kernel_rfl)) ?_)
    |(go_at_call 39;refine(Dy O (vE n)).mono ?_;rintro e J ⟨v8,rfl,hS1⟩;rw[Cv.F,oD] at hS1;clear O;have hS2:Sat W _ (_::_::_::_::L):=hS1.re [1,2,3,0];clear hS1;have O:=Qm.F _ _ hS2;clear hS2)
    |(go_at_call 35;refine(HWE.F _ _ _ O (fun w h=>h.dY (k:=0) rfl)).mono ?_;clear O;rintro e J ⟨rfl,R2,hR2,O⟩))
   go_ret;exact⟨rfl,R2,hR2,O.bW.drop⟩
def adI (W:World) (L:List aA) (D0:aG) (p n:Nat) (v6 v8:Value) (w':World):Prop:=
 ∃i:Nat,v6= .int .i64 (i:Int)/\i<=48/\Sat W w' (aP p (pJ n D0 i)::Sl 5 1 v8 128 (bv (encS (vE n)))::L)
set_option maxRecDepth 100000 in
def Yn (W:World) (L:List aA) (D0:aG) (p n:Nat):Act->World->Prop:=(fun(a':Act) (w':World)=>(adI W L D0 p n (a'.tmps.getD 6 undef) (a'.tmps.getD 8 undef) w')/\tN 70 [(0, .pointer (some ⟨p,0,none⟩)),(2, .int .i64 0),(7, .int .i64 0)] [1,3,4,5,6,8,9,10,11,12,13,14,15,16,17,18,19,20,21,22,23,24,25,26,27,28,29,30,31,32,33,34,35,36,37,38,39,40,41,42,43,44,45,46,47,48,49,50,51,52,53,54,55,56,57,58,59,60,61,62,63] (fun _=>undef) a')
theorem ahR {p n:Nat} {D:aG} (O:Sat W w (aP p D::L)) (hD:Lv D (List.replicate n (zeros 128)) 0) (I:160<=n) (H:n<=1024):
  Calls Tryz.prog 7 #[.pointer (some ⟨p,0,none⟩)] w fun e w'=>e= .returned (.int .i64 0)/\Sat W w' (aP p (rC n D)::L):=by
 have HD:=Z hD;have LK:=Z (fun i hi=>hD.pJ I i hi);have FR:=Z (show(D.blocks.length:Int)=(n:Int) by rw[hD.bl,kZ]);have n1:(160:Int)<=(n:Int):=by omega
 have n2:(n:Int)<=1024:=by omega
 have l6:=Z I;have nI:=Z (Ik I H);have Cv:=Z (wL (Ik I H));have HW1:=Z (hD.wrote (n:=2) (by rw[kZ];omega) (zeros 128));have HW2:=Z (HW1.F.wrote (n:=1) (by rw[gV,kZ];omega) (cO (U0 n)));have PT:=Z (show((D.wrote 2 (zeros 128)).blocks.length:Int)=(n:Int) by rw[HW1.F.bl,gV,kZ]);clear hD I H;go_enter Tryz.func7,Tryz.ntmps7;go_wp2;refine UK 0 (Yn W L D p n) (fun a' _=>48-(intOf (a'.tmps.getD 6 undef)).toNat) rfl ?_ ?_
 ·clear O;intro a w hinv;unfold Yn at hinv;obtain⟨hrel,ha⟩:=hinv;obtain⟨z,hz⟩:∃z:Nat->Value,∀i,a.tmps.getD i undef=z i:=⟨_,fun _=>rfl⟩
  try simp only[hz] at hrel
  replace ha:=ha.at hz;simp only[mM,lh] at ha;clear hz;subst ha;obtain⟨i,h6,hi,O⟩:=hrel;have hl:=LK.F i hi;have HX:=Z (show ∀d,d=pJ n D i->d.wrote (26+i) (encI (sD i))=pJ n D (i+1) from fun d h=>by rw[h];rfl);rw[h6];have HL:=Z hl;obtain⟨v8,J3⟩:=au (z 8);rw[J3] at O ⊢;clear h6 hl J3
  by_cases hlt:i<48
  ·have j1:(i:Int)<48:=by omega
   have ay:=Z hlt;have HZ:=Z (show nU Tryz.prog 78=some (some (.agg (inv bC).toArray)) by kernel_rfl);have HB0:=Z (show ∀u:World,(Instr.build 78 #[]).run Tryz.prog u= .ok (.agg (inv bC).toArray) u from fun u=>run_build u _ _ _ (by kernel_rfl));have y5:=Z (show ∀u:World,(Instr.build 78 #[(0, .int .i64 2),(2, .int .i64 1),(3, .int .i64 1)]).run Tryz.prog u= .ok (.agg (inv jU).toArray) u from fun u=>run_build u _ _ _ (by kernel_rfl))
   by_cases h0:i=0
   ·subst h0;clear hlt hi
    go_wp2_with (first
     |(refine aU ?_;refine bd _ _ (by rfl) (by simp only[List.map_toArray,jN,List.map_nil];rfl) HB0.F ?_)
     |(refine aU ?_;refine bd _ _ (by rfl) (by simp only[List.map_toArray,jN,List.map_nil];rfl) y5.F ?_)
     |(refine dU O ?_ (hz:=HZ.F);clear O;intro px J O;rw[aS] at O)
     |(refine kW (inv bC) O aa ?_ (hv:=(inv_one _));clear O;intro J O;rw[aD,show(List.take 0 (inv bC)++inv bC++List.drop (0+(inv bC).length) (inv bC))=inv bC from rfl] at O)
     |(refine kW (inv jU) O aa ?_ (hv:=(inv_one _));clear O;intro J O;rw[aD,show(List.take 0 (inv bC)++inv jU++List.drop (0+(inv jU).length) (inv bC))=inv jU from rfl] at O)
     |(refine aU ?_;refine rE O _ _ (by rfl) _ _ (by rfl) (aI (by rfl)) (bz (by rfl)) aa (by decide) ?_)
     |(go_at_call 32;refine(Hr O jU N7).mono ?_;rintro e J ⟨v11,rfl,hS1⟩;clear O;have O:=hS1.re [2,0,1];clear hS1)
     |(go_at_call 30;refine ak (yx O HL.F (by omega) (n:=26+0) (by omega) (by rw[qL];have:=l6.F;omega) _ (encI jU) (fun w h=>h.dY (k:=0) rfl)) ?_;clear O;intro J O))
    go_step3
    refine And.intro rfl (And.intro ⟨⟨0+1,rfl,ay.F,HX.F _ rfl▸(O.re [1,2]).drop.drop⟩,rfl⟩ ?_);have:=ay.F;simp[intOf]
    try omega
   ·have e0:((i:Int)==0)=false:=dH.2 (by omega);have HA:=Z (show sD i=bC from if_neg h0);clear hlt hi h0
    go_wp2_with (first
     |(refine aU ?_;refine bd _ _ (by rfl) (by simp only[List.map_toArray,jN,List.map_nil];rfl) HB0.F ?_)
     |(refine aU ?_;refine bd _ _ (by rfl) (by simp only[List.map_toArray,jN,List.map_nil];rfl) y5.F ?_)
     |(refine dU O ?_ (hz:=HZ.F);clear O;intro px J O;rw[aS] at O)
     |(refine kW (inv bC) O aa ?_ (hv:=(inv_one _));clear O;intro J O;rw[aD,show(List.take 0 (inv bC)++inv bC++List.drop (0+(inv bC).length) (inv bC))=inv bC from rfl] at O)
     |(refine kW (inv jU) O aa ?_ (hv:=(inv_one _));clear O;intro J O;rw[aD,show(List.take 0 (inv bC)++inv jU++List.drop (0+(inv jU).length) (inv bC))=inv jU from rfl] at O)
     |(refine aU ?_;refine rE O _ _ (by rfl) _ _ (by rfl) (aI (by rfl)) (bz (by rfl)) aa (by decide) ?_)
     |(go_at_call 32;refine(Hr O bC Dt).mono ?_;rintro e J ⟨v11,rfl,hS1⟩;clear O;have O:=hS1.re [2,0,1];clear hS1)
     |(go_at_call 30;refine ak (yx O HL.F (by omega) (n:=26+i) (by omega) (by rw[qL];have:=l6.F;omega) _ (encI bC) (fun w h=>h.dY (k:=0) rfl)) ?_;clear O;intro J O))
    go_step3
    refine And.intro rfl (And.intro ⟨⟨i+1,by go_num,ay.F,by rw[<-HX.F _ rfl,HA.F];exact(O.re [1,2]).drop.drop⟩,rfl⟩ ?_);have:=ay.F;simp[intOf]
    try omega
  ·obtain rfl:i=48:=by omega
   clear hlt hi
   go_wp2_with (go_at_call 30;refine ak (yx O HL.F (by decide) (a:=0) (n:=0) rfl (by rw[qL];have:=l6.F;omega) _ (encS (vE n)) (fun w h=>h.dY (k:=0) rfl)) ?_;clear O;intro J O)
   simp only[Exit.jump];go_ret;exact⟨rfl,(O.bW).drop⟩
 ·intro HP
  go_wp2_with (first
   |(go_at_call 27;refine ak (zh O FR.F) ?_;rintro J rfl)
   |(go_at_call 26;refine(Q5 O n (by omega)).mono ?_;clear O;rintro e J ⟨v3,rfl,O⟩)
   |(go_at_call 28;refine ak (Gp O 74 (by omega) true) ?_;clear O;intro J O)
   |(go_at_call 29;refine(Iq O [] none 0 (fun w h=>TN w) (by decide) 0).mono ?_;rintro e J ⟨v4,rfl,hS1⟩;rw[Tv];rw[TG,vT 0 (by decide)] at hS1;clear O;have O:=hS1;clear hS1)
   |(refine aU ?_;refine mk O _ _ _ (by rfl) 128 128 _ _ (by rfl) (by rfl) (bS (by rfl)) (by omega) (by omega) (by omega) ?_;intro pz J hS1;clear O;rw[zA] at hS1;have O:Sat W J (aP p D::Cs pz 5 (bv (zeros 128))::Sl 5 1 v4 128 (bv (gL [] 0))::IsMap v3 (U0 n)::L):=hS1.re [3,0,1,2];clear hS1)
   |(go_at_call 30;refine ak (yx O HD.F (by decide) (a:=2) (n:=2) rfl (by rw[kZ];have:=l6.F;omega) _ (zeros 128) (fun w h=>h.jc (n:=128) (sz:=1) aa (by decide) (by simp[jR,zeros]))) ?_;clear O;intro J O)
   |(go_at_call 27;refine ak (zh O PT.F) ?_;rintro J rfl)
   |(go_at_call 31;refine(IA O (vE n)).mono ?_;rintro e J ⟨v8,rfl,hS1⟩;rw[nI.F];rw[Cv.F,oD] at hS1;clear O;have O:=hS1.bW;clear hS1)
   |(go_at_call 30;refine ak (yx O HW1.F (by decide) (a:=1) (n:=1) rfl (by rw[gV,kZ];have:=l6.F;omega) _ (cO (U0 n)) (fun w h=>by unfold IsMap at h;exact h.dY (k:=3) rfl)) ?_;clear O;intro J O)
   |(go_at_call 30;refine ak (yx O HW2.F (by decide) (a:=74) (n:=74) rfl (by rw[gV,gV,kZ];have:=l6.F;omega) _ (gL [] 0) (fun w h=>h.dY (k:=2) rfl)) ?_;clear O;intro J O))
  go_step3
  rename_i K hK
  exact hK _ _ (HP _ _ ⟨⟨0,rfl,eG _,(O.re [2,3,4,0,1]).drop.drop.drop⟩,rfl⟩)
end Go.Proofs.YtjbiihbicknemaaGreat
