/-
  Part of the proof of StoreWhole.
-/
import Derived.Test.YtjbiihbicknemaaGreatMNxt
import Derived.Test.YtjbiihbicknemaaGreatMGrw
set_option linter.unusedSimpArgs false
set_option linter.unusedVariables false
set_option maxRecDepth 20000
set_option maxHeartbeats 40000000
namespace Go.Sep
open Go
theorem Af {P:Program} {W w:World} {L:List aA} {a:Act} {fn:Func} {R:Ending->World->Prop} {p u x:Tmp} {ty:TypeId} {k b E n:Nat} {vs:List Value} (O:Sat W w L) (h:fn.results= #[.cell p ty, .tmp u, .tmp x]) (ha:a.tmps.getD p undef= .pointer (some ⟨b,0,none⟩))
  (hT:jk P ty=some true) (hn:kr P ty=some n) (hk:Has L k (Cs b E vs)) (hl:vs.length=n) (hd:a.defers=[]) (hR:R (.returned (.tuple #[.agg vs.toArray,a.tmps.getD u undef,a.tmps.getD x undef])) w):bodyPost P fn R .ret a w:=by
 refine bodyPost_ret ?_ hd hR;have:=AB (P:=P) (w:=w) (b:=b) (off:=0) hT hn hl (fun j v hv=>by rw[Nat.zero_add];exact O.cell hk hv);have ha':a.tmps[p]?.getD undef= .pointer (some ⟨b,0,none⟩):=by rw[<-ha];simp
 simp[results,h,ha',asAddr,this,Result.andThen]
end Go.Sep
namespace Go.Proofs.YtjbiihbicknemaaGreat
open Go.RowKit Go.Sep
set_option linter.unusedSimpArgs false
set_option linter.unusedVariables false
attribute [local irreducible] Go.Oper.wp Go.wpList Go.Calls Go.Code.wp Go.Sep.dR
def Bo (W:World) (L:List aA) (p4 p5 p8 iw:Nat) (ov:List Value) (x:aL) (wz:World):Prop:=
 Sat W wz (Cs iw 78 (inv bC)::Cs p8 78 (inv bC)::Cs p5 78 (inv x)::Cs p4 78 ov::L)
def afj (W:World) (L:List aA) (p4 p5 p8 iw:Nat) (ov:List Value) (old now:aL) (v44:Value) (wz:World):Prop:=
 ∃k:Nat,v44= .int .i64 (k:Int)/\k<=32/\Bo W L p4 p5 p8 iw ov (nT (Av now) (kS old now k)) wz
def afk (W:World) (L:List aA) (p4 p5 p8 iw:Nat) (ov:List Value) (x0:aL) (K:List Int) (b:Int) (pieces:List Int) (taken:List Nat) (v72 v14:Value) (wz:World):Prop:=
 ∃i:Nat,v72= .int .i64 (i:Int)/\v14= .int .i64 (wD pieces i)/\i<=pieces.length/\(∀j,j<i->tH b pieces j=true)/\Bo W L p4 p5 p8 iw ov (nT x0 (kU K pieces taken i)) wz
def afl (W:World) (L:List aA) (p4 p5 p8 iw qB:Nat) (ov:List Value) (x:aL) (v105:Value) (wz:World):Prop:=
 ∃k:Nat,v105= .int .i64 (k:Int)/\k<=32/\Sat W wz (Cs qB 182 (mb (tJ x.ptrs k))::Cs iw 78 (inv bC)::Cs p8 78 (inv bC)::Cs p5 78 (inv x)::Cs p4 78 ov::L)
def afm (W:World) (L:List aA) (p4 p5 p8 iw qB:Nat) (ov:List Value) (old x:aL) (Lb v20:Value) (wz:World):Prop:=
 ∃k:Nat,Lb= .int .i64 (k:Int)/\k<=32/\Sat W wz (Ir v20 (nu old x k)::Cs qB 182 (mb (tJ x.ptrs 32))::Cs iw 78 (inv bC)::Cs p8 78 (inv bC)::Cs p5 78 (inv x)::Cs p4 78 ov::L)
def zY (W:World) (L:List aA) (old now:aL) (pieces:List Int) (taken:List Nat) (e:Ending) (w':World):Prop:=
 (lX old now pieces taken=true/\∃v,e= .returned (.tuple #[.agg (inv (jF old now pieces taken)).toArray,v, .bool true])/\Sat W w' (Ir v (nu old (jF old now pieces taken) 32)::L))∨
 (lX old now pieces taken=false/\e= .returned (.tuple #[.agg (inv bC).toArray, .slice none 0 0, .bool false])/\Sat W w' L)
def VU (W:World) (L:List aA) (p4 p5 p8 iw:Nat) (ov xv:List Value) (wz:World):Prop:=
 Sat W wz (Cs iw 78 (inv bC)::Cs p8 78 (inv bC)::Cs p5 78 xv::Cs p4 78 ov::L)
def NW (W:World) (L:List aA) (ov nv:List Value) (x0:aL) (ap at_:Option Addr) (n cp ct p4 p5 p8 iw:Nat) (b:Int):Act->World->Prop:=(fun(a':Act) (w':World)=>(VU W L p4 p5 p8 iw ov (inv x0) w')/\tN 131 [(0, .agg ov.toArray),(1, .agg nv.toArray),(2, .slice ap n cp),(3, .slice at_ n ct),(4, .pointer (some ⟨p4,0,none⟩)),(5, .pointer (some ⟨p5,0,none⟩)),(8, .pointer (some ⟨p8,0,none⟩)),(9, .slice none 0 0),(10, .bool false),(11, .pointer (some ⟨iw,0,none⟩)),(12, .int .i64 b)] [23,24,25,26,27,28,29,30,31,32,33,34,35,36,37,38,39,40] (fun _=>undef) a')
theorem akg {W w:World} {L:List aA} (O:Sat W w L) (old now:aL) (ho:kD old) (hn:now.ptrs.length=32) (hs1: -9223372036854775808<=now.size) (hs2:now.size<=9223372036854775807) (pieces:List Int) (taken:List Nat) (ap at_:Option Addr) (cp ct:Nat)
  (zw:∀w L',Sat W w (L'++L)->Rd w (.slice ap pieces.length cp) pieces.length 1 (pv pieces)) (hrt:∀w L',Sat W w (L'++L)->Rd w (.slice at_ taken.length ct) taken.length 1 (iv taken)):
  Calls Tryz.prog 67 #[.agg (inv old).toArray, .agg (inv now).toArray, .slice ap pieces.length cp, .slice at_ taken.length ct] w fun e w'=>zY W L old now pieces taken e w':=by
 have hzl:(inv bC).length=37:=rfl;have fQ:=Z hzl;have HZ1:=Z (inv_one bC);have HZT:=Z (show((inv bC).drop 0).take 37=inv bC from rfl);have HZ:=Z (show nU Tryz.prog 78=some (some (.agg (inv bC).toArray)) by kernel_rfl);have HZP:=Z (show((inv bC).drop 5).take 32=pv (List.replicate 32 0) from rfl);have Gd:=Z (show(pv (List.replicate 32 0)).length=32 by rw[zI];simp);have Qt:=Z Oj;have D9:=Z (show(inv old).length=37 by rw[fe,ho.pl]);have q8:=Z (show((inv old).drop 0).take 37=inv old by rw[kz,dF (by rw[fe,ho.pl];decide)]);have HO:=Z ho;have vL:=Z (fun w L (h:Sat W w L)=>ZB h old ho);have oM:=Z (fun w=>agE w now.size hs1 hs2);have wW:=Z zw;have wX:=Z hrt;obtain⟨ov,hov⟩:=au (inv old);have vM:=Z (show ∀(k:Nat) p,old.ptrs[k]? =some p->ov[5+k]? =some (.int .i64 p) from fun k p h=>by rw[<-hov];exact xA h);have wN:=Z (show ov[0]? =some (.int .i64 old.kind) by rw[<-hov];rfl);have IQ:=Z (show ov[3]? =some (.int .i64 old.obj) by rw[<-hov];rfl)
 have gz:=Z (show(ov.drop 5).take 32=pv old.ptrs by
  rw[<-hov];show((pv old.ptrs)).take 32=_
  rw[dF (by rw[zI,ho.pl];decide)])
 obtain⟨nv,uz⟩:=au (inv now);have AZ:=Z (show nv[0]? =some (.int .i64 now.kind) by rw[<-uz];rfl);have FO:=Z (show nv[1]? =some (.int .i64 now.size) by rw[<-uz];rfl);have uf:=Z (show nv.length=37 by rw[<-uz,fe,hn]);obtain⟨x0,hx0⟩:=au (Av now);have qZ:=Z hx0
 have hxl:x0.ptrs.length=32:=by
  rw[<-hx0];unfold Av
  split
  ·rfl
  ·exact hn
 have aeY:=Z (show(inv x0).length=37 by rw[fe,hxl])
 have Bc:=Z (show(inv x0).take 5++pv (List.replicate 32 0)++(inv x0).drop (5+(pv (List.replicate 32 0)).length)=inv (nT x0 (kS old now 0)) by
  rw[aaO];exact ZH _ _ hxl (by simp))
 obtain⟨b,hb⟩:=au (sI now);have mG:=Z hb;have HNV:=Z uz;rw[hov] at D9 q8 vL ⊢;rw[uz];obtain⟨_,_,he,hc1,hc2,_,h5⟩:=zw w [] O;obtain⟨rfl,rfl⟩:=gq he;have H5:=Z h5;obtain⟨_,_,he,hd1,hd2,_,h6⟩:=hrt w [] O;obtain⟨rfl,rfl⟩:=gq he;have H6:=Z h6;have Qn:=Z (show(pieces.length:Int)<=9223372036854775807 by omega);clear hov uz ho zw hrt hn h5 h6 hc1 hc2 hd1 hd2 hzl hs1 hs2 hx0 hxl hb
 by_cases hll:taken.length=pieces.length
 ·have jO:=Z hll;rw[hll];clear hll;go_enter Tryz.func67,Tryz.ntmps67;refine dK (fun KX aF=>?_)
  go_wp2_with (first
   |(refine bV (show Sat W _ L from O) ?_;clear O;intro p4 J O;rw[aS] at O)
   |(refine bV (show Sat W _ (_::L) from O) ?_;clear O;intro p5 J O;rw[aS] at O)
   |(refine dU (show Sat W _ (_::_::L) from O) ?_ (hz:=HZ.F);clear O;intro p8 J O;rw[aS] at O))
  refine aF.F _ _ ?_;clear aF KX;refine dK (fun KX aF=>?_)
  go_wp2_with (refine dU (show Sat W _ (_::_::_::L) from O) ?_ (hz:=HZ.F);clear O;intro iw J O;rw[aS] at O)
  refine aF.F _ _ ?_;clear aF KX;refine dK (fun KX aF=>?_)
  go_wp2_with (first
   |(refine dm O hz3 ov ?_ (hvs:=q8.F) (hb:=D9.F))
   |(go_at_call 76;refine ak (vL.F _ _ O) ?_;clear O;intro J O))
  refine aF.F _ _ ?_;clear aF KX;refine dK (fun KX aF=>?_)
  go_wp2_with (first
   |(refine aH O hz2 FO.F ?_)
   |(go_at_call 109;refine ak (oM.F _) ?_;rintro J rfl))
  refine aF.F _ _ ?_;clear aF KX;refine pV (NW W L ov nv x0 ap at_ pieces.length cp ct p4 p5 p8 iw b) (fun KX aF=>?_) ?_
  ·by_cases hk:now.kind=0
   ·have hxz:x0=bC:=by rw[<-qZ.F];exact if_pos hk
    have hbz:b=0:=by rw[<-mG.F];exact if_pos hk
    subst hxz hbz;rw[hk] at AZ;clear hk
    go_wp2_with (first
     |(refine aH O hz2 AZ.F ?_)
     |(refine dm O aa (inv bC) ?_ (hvs:=HZT.F) (hb:=fQ.F))
     |(refine eT (inv bC) O hz2 ?_ (hv:=HZ1.F) (hn:=by rw[fQ.F];exact bz (by rfl)) (hb:=by rw[fQ.F,uf.F]);clear O;intro J O;dsimp only[aD,aN] at O))
    refine aF.F _ _ ?_;unfold NW;refine⟨O,rfl⟩
   ·have hxz:inv x0=nv:=by rw[<-qZ.F,<-HNV.F,show Av now=now from if_neg hk]
    have hbz:Ah now.size=b:=by rw[<-mG.F];exact(if_neg hk).symm
    have e1:(now.kind==0)=false:=dH.2 hk;have CO:=Z hxz;rw[hbz];clear hk hxz hbz
    go_wp2_with (refine aH O hz2 AZ.F ?_)
    refine aF.F _ _ ?_;unfold NW;rw[<-CO.F] at O;refine⟨O,rfl⟩
  clear O vL oM AZ FO uf;rintro a wz hinv;unfold NW at hinv;obtain⟨hrel,ha⟩:=hinv;obtain⟨z,hz⟩:∃z:Nat->Value,∀i,a.tmps.getD i undef=z i:=⟨_,fun _=>rfl⟩
  try simp only[hz] at hrel
  replace ha:=ha.at hz;simp only[mM,lh] at ha;clear hz;subst ha;have O:=hrel;unfold VU at O;clear hrel
  go_wp2_with (first
   |(refine dm O aa (pv (List.replicate 32 0)) ?_ (hvs:=HZP.F) (hb:=Gd.F))
   |(refine kW (pv (List.replicate 32 0)) O hz2 ?_ (hv:=(Qt.F _)) (hn:=by rw[Gd.F];exact bz (by rfl)) (hb:=by rw[Gd.F,aeY.F];decide);clear O;intro J O;dsimp only[aD,aN] at O;rw[Bc.F] at O))
  have H0:=Z O;clear O HZ Bc;go_loopw [44] (fun v44 wz=>afj W L p4 p5 p8 iw ov old now v44 wz) (fun v44 _=>iV 32 v44)
  case atStart=>exact⟨0,rfl,by decide,by unfold Bo;rw[qZ.F];exact H0.F⟩
  case round=>
   clear H0;obtain⟨k,rfl,hk,O⟩:=hrel;unfold Bo at O;rw[qZ.F] at O
   by_cases hlt:k<32
   ·have k1:(k:Int)<32:=by omega
    have ay:=Z hlt;have IU:=Z (show(inv (nT x0 (kS old now k)))[3]? =some (.int .i64 x0.obj) from rfl);obtain⟨q,hq⟩:∃q,old.ptrs[k]? =some q:=⟨_,aR (by rw[HO.F.pl];exact hlt)⟩
    have GQ:=Z (vM.F k q hq);have hkp:BS old now k=(decide ((k:Int)<b)&&(old.kind != 0&&old.obj==x0.obj)):=by unfold BS;rw[mG.F,qZ.F]
    have JV:ny old now k=if BS old now k then q else 0:=by unfold ny;rw[hq];rfl
    have rY:=Z (fun h=>Tf old now hlt h);have HST:=Z (aaN old now hlt);have rf:=Z (show 5+k< (inv (nT x0 (kS old now k))).length by rw[fe];show 5+k<5+(kS old now k).length;rw[Ih _ _ hk];omega);obtain⟨c1,hc1⟩:∃c,decide ((k:Int)<b)=c:=⟨_,rfl⟩;obtain⟨c2,hc2⟩:=au (old.kind != 0);obtain⟨c3,hc3⟩:=au (old.obj==x0.obj);rw[hc1,hc2,hc3] at hkp;have Cz:=Z hkp;have CB:=Z JV;clear hkp JV hq hlt hk
    cases c1 with
    |false=>
     go_wp2;have hz:ny old now k=0:=by rw[CB.F,Cz.F];rfl
     rw[rY.F hz] at O;exact⟨⟨k+1,by go_num,ay.F,by unfold Bo;rw[qZ.F];exact O⟩,fZ ay.F⟩
    |true=>
     cases c2 with
     |false=>
      go_wp2_with (refine aH O hz3 wN.F ?_)
      have hz:ny old now k=0:=by rw[CB.F,Cz.F];rfl
      rw[rY.F hz] at O;exact⟨⟨k+1,by go_num,ay.F,by unfold Bo;rw[qZ.F];exact O⟩,fZ ay.F⟩
     |true=>
      cases c3 with
      |false=>
       go_wp2_with (first
        |(refine aH O hz3 wN.F ?_)
        |(refine aH O hz3 IQ.F ?_)
        |(refine aH O hz2 IU.F ?_))
       have hz:ny old now k=0:=by rw[CB.F,Cz.F];rfl
       rw[rY.F hz] at O;exact⟨⟨k+1,by go_num,ay.F,by unfold Bo;rw[qZ.F];exact O⟩,fZ ay.F⟩
      |true=>
       have hz:ny old now k=q:=by rw[CB.F,Cz.F];rfl
       rw[hz] at HST;have jK:=Z ((Nz x0 (kS old now k) k q).trans (by rw[HST.F]));clear hz
       go_wp2_with (first
        |(refine aH O hz3 wN.F ?_)
        |(refine aH O hz3 IQ.F ?_)
        |(refine aH O hz2 IU.F ?_)
        |(refine aH O hz3 GQ.F ?_)
        |(refine iA O hz2 ?_ (hb:=rf.F);clear O;intro J O;dsimp only[aD,aN] at O;rw[jK.F] at O))
       exact⟨⟨k+1,by go_num,ay.F,by unfold Bo;rw[qZ.F];exact O⟩,fZ ay.F⟩
   ·obtain rfl:k=32:=by omega
    obtain⟨K,hK⟩:=au (kS old now 32);have oN:=Z (show K.length=32 by rw[<-hK];exact Ih _ _ (aZ _));have Jn:=Z (show jF old now pieces taken=nT x0 (kU K pieces taken pieces.length) by unfold jF;rw[qZ.F,hK]);rw[hK] at O;have H1:=Z O;have uZ:=Qn.F;clear hlt hk hK O;go_wp2;go_loopw [72,14] (fun v72 v14 wz=>afk W L p4 p5 p8 iw ov x0 K b pieces taken v72 v14 wz) (fun v72 _ _=>iV pieces.length v72)
    case atStart=>exact⟨0,rfl,rfl,eG _,fun j hj=>absurd hj (qd _),H1.F⟩
    case round=>
     clear H1;obtain⟨i,rfl,rfl,hi,hall,O⟩:=hrel;unfold Bo at O;have jE:=Z hall;have xX:=Z (Oh hall);clear hall
     by_cases hlt:i<pieces.length
     ·have k1:(i:Int)< (pieces.length:Int):=by omega
      have ay:=Z hlt;obtain⟨pb,po,rfl,_⟩:=H5.F (by omega);obtain⟨tb,Pm,rfl,_⟩:=H6.F (by rw[jO.F];omega);obtain⟨l,hl⟩:∃l,pieces[i]? =some l:=⟨_,aR hlt⟩
      obtain⟨t,ht⟩:∃t,taken[i]? =some t:=⟨_,aR (by rw[jO.F];exact hlt)⟩
      have fU:=Z (show(pv pieces)[i]? =some (.int .i64 l) by simp[pv,hl]);have FY:=Z (qw ht);have hpc:tH b pieces i=(!decide (l<=wD pieces i)&&(!decide (b<=l)&& !decide (32<=l))):=by unfold tH;rw[hl];rfl
      obtain⟨z,hz⟩:=au (wD pieces i);have nW:=Z (show wD pieces (i+1)=l by show pieces[i]?.getD 0=l;rw[hl];rfl);have sN:=Z (show kU K pieces taken (i+1)=(kU K pieces taken i).set l.toNat ((t:Nat):Int) by rw[kU,hl,ht];rfl);have Qv:=Z (show(kU K pieces taken i).length=32 by rw[KF];exact oN.F);have HRR:=Z (wW.F _ [_,_,_,_] O);have x8:=Z (wX.F _ [_,_,_,_] O);obtain⟨c1,hc1⟩:=au (decide (l<=z));obtain⟨c2,hc2⟩:=au (decide (b<=l));obtain⟨c3,hc3⟩:=au (decide (32<=l));rw[hz] at hpc xX ⊢;rw[hc1,hc2,hc3] at hpc;have xZ:=Z hpc;clear hl ht hpc hi hlt hz
      cases c1 with
      |true=>
       go_wp2_with (first
        |(refine bN (fF HRR.F _ _ (by rfl) _ (by rfl) (aI (by rfl)) i (by omega) fU.F (by have:=ay.F;omega)) ?_)
        |(refine eT (inv bC) O hz1 ?_ (hv:=HZ1.F) (hn:=by rw[fQ.F];exact bz (by rfl));clear O;intro J O;dsimp only[aD,aN] at O)
        |(refine dm O aa (inv bC) ?_ (hb:=fQ.F)))
       ((try simp only[Exit.inBlock,Exit.then]);refine Af O rfl (by rfl) (aI (by rfl)) (bz (by rfl)) (k:=1) rfl fQ.F rfl ?_;exact Or.inr ⟨by unfold lX;rw[mG.F,Og ay.F (xZ.F.trans rfl),Bool.false_and,Bool.and_false],rfl,O.drop.drop.drop.drop⟩)
      |false=>
       cases c2 with
       |true=>
        go_wp2_with (first
         |(refine bN (fF HRR.F _ _ (by rfl) _ (by rfl) (aI (by rfl)) i (by omega) fU.F (by have:=ay.F;omega)) ?_)
         |(refine eT (inv bC) O hz1 ?_ (hv:=HZ1.F) (hn:=by rw[fQ.F];exact bz (by rfl));clear O;intro J O;dsimp only[aD,aN] at O)
         |(refine dm O aa (inv bC) ?_ (hb:=fQ.F)))
        ((try simp only[Exit.inBlock,Exit.then]);refine Af O rfl (by rfl) (aI (by rfl)) (bz (by rfl)) (k:=1) rfl fQ.F rfl ?_;exact Or.inr ⟨by unfold lX;rw[mG.F,Og ay.F (xZ.F.trans rfl),Bool.false_and,Bool.and_false],rfl,O.drop.drop.drop.drop⟩)
       |false=>
        cases c3 with
        |true=>
         go_wp2_with (first
          |(refine bN (fF HRR.F _ _ (by rfl) _ (by rfl) (aI (by rfl)) i (by omega) fU.F (by have:=ay.F;omega)) ?_)
          |(refine eT (inv bC) O hz1 ?_ (hv:=HZ1.F) (hn:=by rw[fQ.F];exact bz (by rfl));clear O;intro J O;dsimp only[aD,aN] at O)
          |(refine dm O aa (inv bC) ?_ (hb:=fQ.F)))
         ((try simp only[Exit.inBlock,Exit.then]);refine Af O rfl (by rfl) (aI (by rfl)) (bz (by rfl)) (k:=1) rfl fQ.F rfl ?_;exact Or.inr ⟨by unfold lX;rw[mG.F,Og ay.F (xZ.F.trans rfl),Bool.false_and,Bool.and_false],rfl,O.drop.drop.drop.drop⟩)
        |false=>
         have hlr:0<=l/\l<32:=by
          have I:=of_decide_eq_false hc1;have h3:=of_decide_eq_false hc3;have:=xX.F;omega
         obtain⟨m,rfl⟩:∃m:Nat,l=(m:Int):=⟨l.toNat,by omega⟩;have m1:(m:Int)<32:=by omega
         rw[fu] at sN;have rf:=Z (show 5+m< (inv (nT x0 (kU K pieces taken i))).length by rw[fe];show 5+m<5+(kU K pieces taken i).length;rw[Qv.F];omega);have jK:=Z ((Nz x0 (kU K pieces taken i) m ((t:Nat):Int)).trans (by rw[<-sN.F]));clear hlr
         go_wp2_with (first
          |(refine bN (fF HRR.F _ _ (by rfl) _ (by rfl) (aI (by rfl)) i (by omega) fU.F (by have:=ay.F;omega)) ?_)
          |(refine bN (fF x8.F _ _ (by rfl) _ (by rfl) (aI (by rfl)) i (by omega) FY.F (by rw[jO.F];have:=ay.F;omega)) ?_)
          |(refine iA O hz2 ?_ (hb:=rf.F);clear O;intro J O;dsimp only[aD,aN] at O;rw[jK.F] at O))
         exact⟨⟨_,_,_,_,_,_,_,_,_,_,_,_,_,_,_,_,_,_,_,_,_,_,_,_,_,_,_,_,_,_,_,_,⟨i+1,by go_num,by rw[nW.F],ay.F,abj jE.F (xZ.F.trans rfl),O⟩,rfl⟩,fZ ay.F⟩
     ·obtain rfl:i=pieces.length:=by omega
      have k1:¬(pieces.length:Int)< (pieces.length:Int):=by omega
      have Je:=Z (show tF (sI now) pieces=true by rw[mG.F];exact abh jE.F);have hxl:(jF old now pieces taken).ptrs.length=32:=Dp;have CO:=Z (fun h=>Km (old:=old) (taken:=taken) Je.F h);rw[<-Jn.F] at O;obtain⟨x,V⟩:=au (jF old now pieces taken);have HX:=Z V;rw[V] at O hxl CO;have CL:=Z (show((inv x).drop 0).take 37=inv x by rw[kz,dF (by rw[fe,hxl];decide)]);have eY:=Z (show(inv x).length=37 by rw[fe,hxl]);have wZ:=Z hxl;have mH:=Z (inv_one x);have Cw:=Z (fun w L (h:Sat W w L)=>ajf h x hxl CO.F);obtain⟨r,hr⟩:=au (yL x);have HR:=Z hr;have Bi:=Z (show lX old now pieces taken=r by unfold lX;rw[Je.F,V,hr,bL jO.F.symm];rfl);rw[hr] at Cw;clear hlt hi V hr
      cases r with
      |false=>
       clear hxl
       go_wp2_with (first
        |(refine dm O hz2 (inv x) ?_ (hvs:=CL.F) (hb:=eY.F))
        |(go_at_call 76;refine ak (Cw.F _ _ O) ?_;clear O;intro J O)
        |(refine eT (inv bC) O hz1 ?_ (hv:=HZ1.F) (hn:=by rw[fQ.F];exact bz (by rfl));clear O;intro J O;dsimp only[aD,aN] at O)
        |(refine dm O aa (inv bC) ?_ (hb:=fQ.F)))
       ((try simp only[Exit.inBlock,Exit.then]);refine Af O rfl (by rfl) (aI (by rfl)) (bz (by rfl)) (k:=1) rfl fQ.F rfl ?_;exact Or.inr ⟨Bi.F,rfl,O.drop.drop.drop.drop⟩)
      |true=>
       have q9:=Z (Tt hxl CO.F HR.F);have En:=Z (show nU Tryz.prog 182=some (some (.agg (mb fun _=>false).toArray)) by kernel_rfl)
       have Mi:=Z (show((inv x).drop 5).take 32=pv x.ptrs by
        show(pv x.ptrs).take 32=_
        rw[dF (by rw[zI,hxl];decide)])
       have QM:=Z (show(pv x.ptrs).length=32 by rw[zI,hxl]);clear hxl
       go_wp2_with (first
        |(refine dm O hz2 (inv x) ?_ (hvs:=CL.F) (hb:=eY.F))
        |(go_at_call 76;refine ak (Cw.F _ _ O) ?_;clear O;intro J O)
        |(refine dU O ?_ (hz:=En.F);clear O;intro qB J O;rw[aS,<-aca x.ptrs] at O)
        |(refine dm O hz3 (pv x.ptrs) ?_ (hvs:=Mi.F) (hb:=QM.F)))
       have H2:=Z O;clear O En;go_loopw [105] (fun v105 wz=>afl W L p4 p5 p8 iw qB ov x v105 wz) (fun v105 _=>iV 32 v105)
       case atStart=>exact⟨0,rfl,by decide,H2.F⟩
       case round=>
        clear H2;obtain⟨k,rfl,hk,O⟩:=hrel
        by_cases hlt:k<32
        ·have k2:(k:Int)<32:=by omega
         have ay:=Z hlt;obtain⟨p,hp⟩:∃p,x.ptrs[k]? =some p:=⟨_,aR (by rw[wZ.F];exact hlt)⟩
         obtain⟨I,H⟩:=Fq q9.F hp;obtain⟨q,rfl⟩:∃q:Nat,p=(q:Int):=⟨p.toNat,by omega⟩;have hix:=fun w=>Ny hlt hp w
         have q1:(q:Int)<1024:=by omega
         have rf:=Z (show q< (mb (tJ x.ptrs k)).length by rw[qz];omega);have jK:=Z ((yF (tJ x.ptrs k) true (show q<1024 by omega)).trans (by rw[ab9 hp]));clear hlt hk hp I H
         go_wp2_with (refine iA O aa ?_ (hb:=rf.F);clear O;intro J O;dsimp only[aD,aN] at O;rw[jK.F] at O)
         exact⟨⟨k+1,by go_num,ay.F,O⟩,fZ ay.F⟩
        ·obtain rfl:k=32:=by omega
         have aeC:=Z (show(pv old.ptrs).length=32 by rw[zI,HO.F.pl]);clear hlt hk
         go_wp2_with (refine dm O fD (pv old.ptrs) ?_ (hvs:=gz.F) (hb:=aeC.F))
         have H3:=Z (by have:=O.wh;rw[<-YM old x] at this;exact this);clear O;go_loopw [113,20] (fun Lb v20 wz=>afm W L p4 p5 p8 iw qB ov old x Lb v20 wz) (fun Lb _ _=>iV 32 Lb)
         case atStart=>exact⟨0,rfl,by decide,H3.F⟩
         case round=>
          clear H3;obtain⟨k,rfl,hk,O⟩:=hrel
          by_cases hlt:k<32
          ·have k2:(k:Int)<32:=by omega
           have ay:=Z hlt;obtain⟨p,hp⟩:∃p,old.ptrs[k]? =some p:=⟨_,aR (by rw[HO.F.pl];exact hlt)⟩
           obtain⟨I,H⟩:=Fq HO.F hp;obtain⟨q,rfl⟩:∃q:Nat,p=(q:Int):=⟨p.toNat,by omega⟩;have hix:=fun w=>Ny hlt hp w
           by_cases h0:q=0
           ·subst h0;have HG:=Z (YK (x:=x) hp);clear hlt hk hp I H;go_wp2;rw[HG.F] at O;exact⟨⟨k+1,by go_num,ay.F,O⟩,fZ ay.F⟩
           ·have q1:(q:Int)<1024:=by omega
            have e1:((q:Int) != 0)=true:=bne_iff_ne.2 (by omega);have HQ:=Z (xC (tJ x.ptrs 32) (show q<1024 by omega));rw[ab8 wZ.F] at HQ;obtain⟨s,hs⟩:=au (x.ptrs.contains (q:Int));rw[hs] at HQ
            cases s with
            |true=>
             have HG:=Z (YJ hp hs);clear hlt hk hp I H h0 hs
             go_wp2_with (refine aH O hz1 HQ.F ?_)
             rw[HG.F] at O;exact⟨⟨k+1,by go_num,ay.F,O⟩,fZ ay.F⟩
            |false=>
             have HG:=Z (YL hp h0 hs);have lN:=Z (show(nu old x k).length<=32 by unfold nu;rw[qa];exact Nat.le_trans (List.length_filter_le _ _) (by rw[jr];omega));clear hlt hk hp I H h0 hs
             go_wp2_with (first
              |(refine aH O hz1 HQ.F ?_)
              |(refine il [.int .i64 ((q:Nat):Int)] O ?_ (hc:=by simp[Value.cells]);clear O;intro b1 J O;rw[jC rfl] at O)
              |(at_builtin;refine aU ?_;refine rz O _ _ _ _ (by rfl) (by rfl) (by rfl) (bS (by rfl)) (by rfl) (by rfl) (by rfl) (dO (by rfl)) hz1 (m:=[q]) (by exact O.jc (sz:=1) aa (by decide) rfl) (by have:=lN.F;simp;omega) ?_;intro v' J hS1;clear O;have O:=hS1;clear hS1;dsimp only[aD,aN] at O;rw[HG.F] at O))
             exact⟨⟨k+1,by go_num,ay.F,O.drop⟩,fZ ay.F⟩
          ·obtain rfl:k=32:=by omega
           clear hlt hk
           go_wp2_with (first
            |(refine dm O fD (inv x) ?_ (hvs:=CL.F) (hb:=eY.F))
            |(refine eT (inv x) O hz3 ?_ (hv:=mH.F) (hn:=by rw[eY.F];exact bz (by rfl)) (hb:=by rw[eY.F,fQ.F]);clear O;intro J O;dsimp only[aD,aN] at O))
           (try simp only[Exit.inBlock,Exit.then])
           refine Af O rfl (by rfl) (aI (by rfl)) (bz (by rfl)) (k:=3) rfl eY.F rfl ?_;refine Or.inl ⟨Bi.F,?_⟩;rw[HX.F];exact⟨_,rfl,(O.re [1,2,3,4,5,0]).drop.drop.drop.drop.drop⟩
 ·have e1:((pieces.length:Int) != (taken.length:Int))=true:=bne_iff_ne.2 (by omega);have Bi:=Z (show lX old now pieces taken=false by unfold lX;rw[bf (fun h=>hll h.symm)];rfl);clear hll;go_enter Tryz.func67,Tryz.ntmps67
  go_wp2_with (first
   |(refine bV (show Sat W _ L from O) ?_;clear O;intro p4 J O;rw[aS] at O)
   |(refine bV (show Sat W _ (_::L) from O) ?_;clear O;intro p5 J O;rw[aS] at O)
   |(refine dU (show Sat W _ (_::_::L) from O) ?_ (hz:=HZ.F);clear O;intro p8 J O;rw[aS] at O)
   |(refine dU (show Sat W _ (_::_::_::L) from O) ?_ (hz:=HZ.F);clear O;intro iw J O;rw[aS] at O)
   |(refine dm O hz3 ov ?_ (hvs:=q8.F) (hb:=D9.F))
   |(go_at_call 76;refine ak (vL.F _ _ O) ?_;clear O;intro J O)
   |(refine eT (inv bC) O hz1 ?_ (hv:=HZ1.F) (hn:=by rw[fQ.F];exact bz (by rfl));clear O;intro J O;dsimp only[aD,aN] at O)
   |(refine dm O aa (inv bC) ?_ (hb:=fQ.F)))
  ((try simp only[Exit.inBlock,Exit.then]);refine Af O rfl (by rfl) (aI (by rfl)) (bz (by rfl)) (k:=1) rfl fQ.F rfl ?_;exact Or.inr ⟨Bi.F,rfl,O.drop.drop.drop.drop⟩)
end Go.Proofs.YtjbiihbicknemaaGreat
