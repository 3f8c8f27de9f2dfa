/-
  Part of the proof of StoreWhole.
-/
import Derived.Test.YtjbiihbicknemaaGreatMCmt
import Derived.Test.YtjbiihbicknemaaGreatStGrow
set_option linter.unusedSimpArgs false
set_option linter.unusedVariables false
set_option maxRecDepth 20000
set_option maxHeartbeats 40000000
namespace Go.Proofs.YtjbiihbicknemaaGreat
open Go.RowKit Go.Sep
variable {W w:World} {L:List aA}
attribute [local irreducible] Oper.wp wpList Calls Code.wp Sep.dR Sep.fJ
def CmE (W:World) (L:List aA) (ps pd:Nat) (R:Int×aK×aG) (e:Ending) (w':World):Prop:=e= .returned (.int .i64 R.1)/\Sat W w' (bF ps pd R.2.1::aP pd R.2.2::L)
def MO (ps pd:Nat) (S:aK) (D:aG) (fv r:Value):List aA:=[Cs ps 112 (bU pd S.sup fv S.aB r S.last),IsMap fv S.U,Tb 100 3 rv r S.recs,aP pd D]
def MM (W:World) (L:List aA) (ps pd pU tot:Nat) (S:aK) (D:aG) (l:List aT) (next:Int) (shown:Bool) (aq:Option Addr) (ln cq:Nat) (fv r vt:Value):Act->World->Prop:=(fun(a':Act) (w':World)=>(Sat W w' (Cs pU 55 (sv (lq S next shown))::Ir vt (dW S l)::(MO ps pd S D fv r++L)))/\tN 229 [(0, .pointer (some ⟨ps,0,none⟩)),(1, .slice aq ln cq),(9, .int .i64 ((tot:Nat):Int)),(12,vt),(14, .pointer (some ⟨pU,0,none⟩))] [2,3,4,5,6,7,8,10,11,13,31,32,33,34,35,36,37,38,39,40,41,42,43,44,45,46,47,48,49,50,51,52,53,54,55,56,57,58,59,60,61,62,63,64,65,66,67,68,69,70,71,72,73,74,75,76,77,78,79,80,81,82,83,84,85] (fun _=>undef) a')
def MN (W:World) (L:List aA) (ps pd pU tot:Nat) (S:aK) (D:aG) (l:List aT) (next:Int) (shown:Bool) (aq:Option Addr) (ln cq:Nat) (fv r vt:Value):Act->World->Prop:=(fun(a':Act) (w':World)=>(¬(l=[]/\lq S next shown=S.sup)/\Sat W w' (Cs pU 55 (sv (lq S next shown))::Ir vt (dW S l)::(MO ps pd S D fv r++L)))/\tN 229 [(0, .pointer (some ⟨ps,0,none⟩)),(1, .slice aq ln cq),(9, .int .i64 ((tot:Nat):Int)),(12,vt),(14, .pointer (some ⟨pU,0,none⟩))] [2,3,4,5,6,7,8,10,11,13,31,32,33,34,35,36,37,38,39,40,41,42,43,44,45,46,47,48,49,50,51,52,53,54,55,56,57,58,59,60,61,62,63,64,65,66,67,68,69,70,71,72,73,74,75,76,77,78,79,80,81,82,83,84,85,86,87,88,89,90,91,92,93,94,95,96] (fun _=>undef) a')
theorem anw {pd:Nat} {s:di} {fv:Value} {X:List aL} {r:Value} {last:Int} (h:iH X):((bU pd s fv X r last).drop 9).take 1776=X.flatMap inv:=by
 show(X.flatMap inv++[r, .int .i64 last]).take 1776=_;rw[List.take_append_of_le_length (by rw[h.mK];exact aZ _),dF (by rw[h.mK];exact aZ _)]
theorem anD (s:di) (x:Int):(sv s).set 5 (.int .i64 x)=sv {s with next:=x} :=rfl
def CmN (W:World) (L:List aA) (ps pd:Nat) (S:aK) (D:aG) (l:List aT) (v9 v50:Value) (wz:World):Prop:=
 ∃i:Nat,v50= .int .i64 (i:Int)/\v9= .int .i64 ((jG l i:Nat):Int)/\i<=l.length/\Sat W wz (bF ps pd S::aP pd D::L)
theorem acv {pd:Nat} {s:di} {fv:Value} {X Y:List aL} {r:Value} {last:Int} (h:iH X):(bU pd s fv X r last).take 9++Y.flatMap inv++(bU pd s fv X r last).drop 1785=bU pd s fv Y r last:=by
 have e:∀X:List aL,bU pd s fv X r last=(.pointer (some ⟨pd,0,none⟩)::sv s++[fv])++(X.flatMap inv++[r, .int .i64 last]):=by intro X;unfold bU;simp
 have h9:(Value.pointer (some ⟨pd,0,none⟩)::sv s++[fv]).length=9:=by rw[bP,fB,mU];rfl
 rw[e X,e Y,List.take_left' h9,List.drop_append,h9,oJ (by rw[h9];decide),iP,List.drop_append,h.mK,oJ (by rw[h.mK];decide),iP,dX];rfl
def UZ (W:World) (L:List aA) (ps pd pU qB:Nat) (S:aK) (D:aG) (l:List aT) (sc:di) (fv r vt:Value) (La v18 v19 v15 v16:Value) (wz:World):Prop:=
 ∃(j:Nat) (dG:List GW) (D1:aG),La= .int .i64 (j:Int)/\v18= .int .i64 ((jG l j:Nat):Int)/\v19= .int .i64 0/\j<=l.length/\g2 dG=jq S l j/\bH D (iJ S l j)=(0,D1)/\
  Sat W wz (aP pd D1::Cs ps 112 (bU pd S.sup fv S.aB r S.last)::Ir vt (dW S l)::Cs qB 94 ((eP S l j).flatMap inv)::Ir v16 (gN S l j)::Tb 129 2 gw v15 dG::St (dG.map grow)::Cs pU 55 (sv sc)::IsMap fv S.U::Tb 100 3 rv r S.recs::L)
def UY (W:World) (M:List aA) (pd Fv:Nat) (S:aK) (D1:aG) (l:List aT) (j:Nat) (x:aT) (Ld v19:Value) (wz:World):Prop:=
 ∃(q:Nat) (D2:aG),Ld= .int .i64 (q:Int)/\v19= .int .i64 0/\q<=x.data.length/\bH D1 (oW S l j x q)=(0,D2)/\Sat W wz (aP pd D2::Cs Fv 133 (bX x)::M)
theorem amR {ps pd k:Nat} {S:aK} {D:aG} {gs:List Nat} (O:Sat W w (bF ps pd S::aP pd D::L)) (hok:bA D.blocks S gs) (hD:DG D k)
  (l:List aT) (hk:k+fq l<=80000) (next:Int) (shown:Bool) (aq:Option Addr) (cq:Nat) (hr:∀w L',Sat W w (L'++L)->Gg w (.slice aq l.length cq) l):
  Calls Tryz.prog 22 #[.pointer (some ⟨ps,0,none⟩), .slice aq l.length cq, .int .i64 next, .bool shown] w fun e w'=>CmE W L ps pd (iQ S D l next shown) e w':=by
 have bq:=Z hok;have HD:=Z hD;have HR:=Z hr;have wX:=Z (fun w (h:Sat W w (bF ps pd S::aP pd D::L))=>ams h hok.x l aq cq (fun w L' h=>hr w (L'++[_]) (by rw[dX];exact h)));obtain⟨_,_,he,hc1,hc2,_,h5⟩:=(hr w [_,_] O).1;obtain⟨rfl,rfl⟩:=gq he;have H5:=Z h5;obtain⟨ln,hln⟩:=au l.length;have aM:=Z hln;have pM:(ln:Int)<=9223372036854775807:=by omega
 have Vq:=Z (fun w M (h:Sat W w (bF ps pd S::M))=>bF.open h);have iG:=Z (fun w M fv r h=>bF.mk (W:=W) (w:=w) (L:=M) (ps:=ps) (pd:=pd) (S:=S) (fv:=fv) (r:=r) h);have y9:=Z (fun fv r=>show(bU pd S.sup fv S.aB r S.last)[6]? =some (.int .i64 S.sup.next) by rw[Cg (by decide)];rfl);rw[hln] at wX ⊢;obtain⟨sn,hsn⟩:=au S.sup.next
 rw[hsn] at y9;have hcb:sj S l next=(decide (next<sn) || (decide (16777215<next) || !jT S l)):=by unfold sj;rw[hsn]
 obtain⟨c1,I⟩:=au (decide (next<sn));obtain⟨c2,H⟩:=au (decide (16777215<next));obtain⟨c3,h3⟩:=au (jT S l);rw[I,H,h3] at hcb;rw[h3] at wX;have oM:=Z hcb;have jX:=Z h3;clear hok hD hr h5 hc1 hc2 hln hcb h3;have rq:=Z hsn;clear hsn;go_enter Tryz.func22,Tryz.ntmps22;go_wp2;refine adj 1 0 (fun _ _=>False) (fun _ _=>0) rfl rfl ?_ (fun a w h=>h.elim);refine dK (fun KX aF=>?_);obtain⟨fv,r,hS1⟩:=Vq.F _ _ O;clear O;have O:=hS1;clear hS1
 cases c1 with
 |true=>
  have HBAD:=Z (EH (D:=D) (shown:=shown) (oM.F.trans rfl))
  go_wp2_with (refine aH O aa (y9.F _ _) ?_)
  ((try simp only[Exit.then,Exit.inBlock,Exit.Au]);go_ret)
  rw[HBAD.F];exact⟨rfl,iG.F _ _ _ _ O⟩
 |false=>
 cases c2 with
 |true=>
  have HBAD:=Z (EH (D:=D) (shown:=shown) (oM.F.trans rfl))
  go_wp2_with (refine aH O aa (y9.F _ _) ?_)
  ((try simp only[Exit.then,Exit.inBlock,Exit.Au]);go_ret)
  rw[HBAD.F];exact⟨rfl,iG.F _ _ _ _ O⟩
 |false=>
 cases c3 with
 |false=>
  have HBAD:=Z (EH (D:=D) (shown:=shown) (oM.F.trans rfl))
  go_wp2_with (first
   |(refine aH O aa (y9.F _ _) ?_)
   |(go_at_call 65;refine ak (wX.F _ (iG.F _ _ _ _ O)) ?_;clear O;intro J O))
  ((try simp only[Exit.then,Exit.inBlock,Exit.Au]);go_ret)
  rw[HBAD.F];exact⟨rfl,O⟩
 |true=>
 have HB:=Z (show sj S l next=false from oM.F.trans rfl);have h1n:¬next<sn:=of_decide_eq_false I
 have h2n:¬16777215<next:=of_decide_eq_false H
 go_wp2_with (first
  |(refine aH O aa (y9.F _ _) ?_)
  |(go_at_call 65;refine ak (wX.F _ (iG.F _ _ _ _ O)) ?_;clear O;intro J O))
 refine aF.F _ _ ?_;clear aF KX oM wX I H;have Gc:=Z (show fq l<=80000 by omega);have HK:=Z hk;clear hk
 -- how many
 refine dK (fun KX aF=>?_);go_wp2;refine aF.F _ _ ?_;clear aF KX;refine dK (fun KX aF=>?_);go_wp2;have H0:=Z O;clear O;go_loopw [9,50] (fun v9 v50 wz=>CmN W L ps pd S D l v9 v50 wz) (fun _ v50 _=>iV ln v50)
 case atStart=>exact⟨0,rfl,rfl,eG _,H0.F⟩
 case round=>
  clear H0;obtain⟨i,rfl,rfl,hi,O⟩:=hrel;rw[aM.F] at hi
  by_cases hlt:i<ln
  ·have k1:(i:Int)< (ln:Int):=by omega
   have ay:=Z hlt;obtain⟨pb,po,rfl,_⟩:=H5.F (by have:=aM.F;omega);obtain⟨x,V⟩:∃x,l[i]? =some x:=⟨_,aR (by have:=aM.F;omega)⟩
   have dD:=Z V;have hrs:=HR.F _ [_,_] O;have hsx:=hrs.2 x (bJ V);have iY:=Z hrs.1;have iC:=Z (show ∀x∈l,(bX x).length=40 from fun x V=>AJ ((hrs.2 x V).pl));have eY:=Z (AJ hsx.pl);have mH:=Z (T9 hsx);have jf:=Z (FI hsx.pl);obtain⟨mD,hsv⟩:=au (bX x);rw[hsv] at eY mH jf;have vP:=Z hsv;obtain⟨ap,cp,hpv⟩:∃ao c,x.nP= .slice ao x.pieces.length c:=by obtain⟨ao,c,he,_⟩:=hsx.p;exact⟨ao,c,he⟩
   obtain⟨np,fT⟩:=au x.pieces.length;obtain⟨kH,hof⟩:=au (jG l i);have hsum:=Ii V;have nI:=Z (zF V);rw[hof,fT] at hsum nI;have hs1:(kH:Int)+(np:Int)<=80000:=by have:=Gc.F;omega
   rw[hpv,fT] at jf;rw[hof];clear hlt hi V hrs hsx hsv hpv fT hof hsum
   go_wp2_with (first|(refine dU O ?_;clear O;intro iw J O;rw[aS] at O)|(refine eT mD O aa ?_ (hv:=mH.F) (hn:=by rw[eY.F];exact bz (by rfl)) (hb:=by rw[eY.F];rfl);clear O;intro J O;rw[aD] at O)|(refine aH O aa jf.F ?_)|(refine bN (v:= .agg mD.toArray) ((nz (f:=bX) (x:=x) iY.F iC.F _ _ (by rfl) _ (by rfl) (aI (by rfl)) (bz (by rfl)) i (by omega) dD.F (by have:=ay.F;have:=aM.F;omega)).trans (by rw[vP.F])) ?_))
   exact⟨⟨i+1,by go_num,by rw[nI.F];go_num,by rw[aM.F];exact ay.F,O.drop⟩,fZ ay.F⟩
  ·obtain rfl:i=ln:=by omega
   have k1:¬(i:Int)< (i:Int):=by omega
   have hot:jG l i=fq l:=by rw[<-aM.F,Fh]
   rw[hot];clear hlt hi hot;go_wp2;refine aF.F _ _ ?_;clear aF
   -- the blocks
   refine dK (fun KX aF=>?_);obtain⟨fv,r,hS1⟩:=Vq.F _ _ O;clear O;have O:=hS1;clear hS1;have hk1:Has _ 1 (IsMap fv S.U):=(hz1:Has (Cs ps 112 (bU pd S.sup fv S.aB r S.last)::IsMap fv S.U::Tb 100 3 rv r S.recs::aP pd D::L) 1 (IsMap fv S.U));unfold IsMap at hk1;obtain⟨fb,fo,fc,rfl,_⟩:=O.kV hk1 (by decide);clear hk1;obtain⟨nb,hnb⟩:=au D.blocks.length;have Vt:=Z hnb;have hbl:S.sup.blocks=(nb:Int):=by rw[<-hnb];exact bq.F.blocks
   have qF:=Z (show S.sup.blocks.toNat=nb by rw[hbl];exact fu nb);have n1:160<=nb:=by rw[<-hnb];exact bq.F.n1
   have n2:nb<=1024:=by rw[<-hnb];exact bq.F.n2
   have G1:=Z (show(bU pd S.sup (.slice (some ⟨fb,fo,none⟩) 128 fc) S.aB r S.last)[1]? =some (.int .i64 (nb:Int)) by rw[Cg (by decide),<-hbl];rfl);have G8:=Z (O6 (pd:=pd) (s:=S.sup) (fv:= .slice (some ⟨fb,fo,none⟩) 128 fc) (X:=S.aB) (r:=r) (last:=S.last));obtain⟨tot,htot⟩:=au (fq l);have lg:=Z htot;rw[htot];have hti:(tot:Int)<=80000:=by have:=Gc.F;omega
   by_cases hno:(bT S.U nb).length<tot
   ·have zU:=Z (fun w (h:Sat W w (Cs ps 112 (bU pd S.sup (.slice (some ⟨fb,fo,none⟩) 128 fc) S.aB r S.last)::IsMap (.slice (some ⟨fb,fo,none⟩) 128 fc) S.U::Tb 100 3 rv r S.recs::aP pd D::L))=>acM h S.U fb fo fc nb tot n2 (by omega) hno (qy hz1))
    have dx:=Z (show iQ S D l next shown=(2,S,D) by
     unfold iQ
     rw[if_neg (by rw[HB.F];decide),if_pos (by rw[qF.F,lg.F];exact hno)])
    clear hno hnb hbl n1 n2 htot;go_wp2
    (refine cB (pO [0,1,2]<|rO [3]<|pO [4,5,6,7]<|rO [8]<|pO [9]<|aO [10]<|pO [11,12,13,14,15]<| .e) [10] O ?_;clear O;intro J O)
    repeat (first
     |(refine bG O ?_;go_frame)
     |(refine bR O ?_;(first
         |refine bK aa G1.F ?_
         |refine bK aa G8.F ?_);go_frame)
     |(refine bY fun K hK=>?_;(refine jy (zU.F _ O) ?_;clear O;intro J O);refine hK.go O ?_;clear hK K;go_frame))
    refine bO ?_;refine aF.F _ _ ?_;go_wp2
    ((try simp only[Exit.then,Exit.inBlock,Exit.Au]);go_ret)
    rw[dx.F];exact⟨rfl,iG.F _ _ _ _ O⟩
   have hf:tot<=(bT S.U nb).length:=by omega
   have HF:=Z (show fq l<=(bT S.U S.sup.blocks.toNat).length by rw[lg.F,qF.F];exact hf);have htk:(bT S.U nb).take tot=dW S l:=by unfold dW;rw[lg.F,qF.F]
   have zU:=Z (fun w (h:Sat W w (Cs ps 112 (bU pd S.sup (.slice (some ⟨fb,fo,none⟩) 128 fc) S.aB r S.last)::IsMap (.slice (some ⟨fb,fo,none⟩) 128 fc) S.U::Tb 100 3 rv r S.recs::aP pd D::L))=>acI h S.U fb fo fc nb tot n2 (by omega) hf (qy hz1));rw[htk] at zU;have nJ:=Z (Pb (pd:=pd) (s:=S.sup) (fv:= .slice (some ⟨fb,fo,none⟩) 128 fc) (X:=S.aB) (r:=r) (last:=S.last));have mX:=Z (show(dW S l).length=tot by rw[IG HF.F,lg.F]);clear hno hnb hbl n1 n2 htot hf htk;go_wp2
   (refine cB (pO [0,1,2]<|rO [3]<|pO [4,5,6,7]<|rO [8]<|pO [9]<|aO [10]<|pO [11,12,13,14,15]<| .e) [10] O ?_;clear O;intro J O)
   repeat (first
    |(refine bG O ?_;go_frame)
    |(refine bR O ?_;(first
       |refine bK aa G1.F ?_
       |refine bK aa G8.F ?_);go_frame)
    |(refine bY fun K hK=>?_;(refine cK (zU.F _ O) ?_;rintro e J hE;obtain⟨vt,rfl,hS1⟩:=hE;clear O;have O:=hS1;clear hS1;refine⟨_,rfl,?_⟩);refine hK.go O ?_;clear hK K;go_frame))
   refine bO ?_;refine aF.F _ _ ?_;clear aF zU;obtain⟨at_,ct,rfl,_⟩:=O.mg aa;rw[mX.F] at O ⊢;refine qP ?_;refine dK (fun KX aF=>?_)
   go_wp2_with (first
    |(refine dU O ?_;clear O;intro pU J O;rw[aS] at O)
    |(refine eT (sv S.sup) O aa ?_ (hv:=(lI _));clear O;intro J O;rw[aD] at O)
    |(refine dm O hz1 (sv S.sup) ?_ (hvs:=nJ.F)))
   refine aF.F _ _ ?_;clear aF;refine dK (fun KX aF=>?_)
   go_wp2_with (refine iA O aa ?_;clear O;intro J O;rw[aD,anD] at O)
   refine aF.F _ _ ?_;clear aF;refine pV (MM W L ps pd pU tot S D l next shown aq i cq (.slice (some ⟨fb,fo,none⟩) 128 fc) r (.slice at_ tot ct)) (fun KX aF=>?_) ?_
   ·have qg:=Z (show ∀b,lq S next b=if b then {S.sup with next:=next,shown:=S.sup.records} else {S.sup with next:=next} by
     intro b;unfold lq;cases b<;>rfl)
    have G3:=Z (show(sv {S.sup with next:=next})[3]? =some (.int .i64 S.sup.records) from rfl)
    cases shown with
    |false=>
     go_wp2;refine aF.F _ _ ?_;unfold MM;refine⟨?_,rfl⟩;rw[qg.F];exact O
    |true=>
     go_wp2_with (first
      |(refine aH O aa G3.F ?_)
      |(refine iA O aa ?_;clear O;intro J O;rw[aD,Ph] at O))
     refine aF.F _ _ ?_;unfold MM;refine⟨?_,rfl⟩;rw[qg.F];exact O
   clear O nJ;rintro a wz hinv;unfold MM at hinv;obtain⟨hrel,ha⟩:=hinv;obtain⟨z,hz⟩:∃z:Nat->Value,∀i,a.tmps.getD i undef=z i:=⟨_,fun _=>rfl⟩
   try simp only[hz] at hrel
   replace ha:=ha.at hz;simp only[mM,lh] at ha;clear hz;subst ha;have O:=hrel;clear hrel;unfold MO at O;rw[dB,dB,dB,dB,iP] at O;obtain⟨sc,hsc⟩:=au (lq S next shown);have Bl:=Z hsc;rw[hsc] at O;have qY:=fun u=>X7 u sc S.sup
   refine pV (MN W L ps pd pU tot S D l next shown aq i cq (.slice (some ⟨fb,fo,none⟩) 128 fc) r (.slice at_ tot ct)) (fun KX aF=>?_) ?_
   ·by_cases hi0:i=0
    ·subst hi0;have hl0:l=[]:=yZ.1 aM.F
     by_cases hsame:sc=S.sup
     ·rw[bL hsame] at qY
      have iK:=Z (show iQ S D l next shown=(0,S,D) by
       unfold iQ
       rw[if_neg (by rw[HB.F];decide),if_neg (by have:=HF.F;omega),if_pos ⟨hl0,by rw[Bl.F];exact hsame⟩])
      clear hsame hl0 hsc;go_wp2
      (refine cB (pO [0,1,2,3]<|rO [4]<|pO [5,6,7]<|rO [8]<|pO [9,10]<| .e) [] O ?_;clear O;intro J O)
      repeat (first
       |(refine bG O ?_;go_frame)
       |(refine sK O ?_;go_frame)
       |(refine bR O ?_;(first
             |refine lY aa (sv sc) ?_
             |refine lY hz2 (sv S.sup) ?_);go_frame))
      refine bO ?_;go_wp2
      ((try simp only[Exit.then,Exit.inBlock,Exit.Au]);go_ret)
      rw[iK.F];exact⟨rfl,iG.F _ _ _ _ (O.drop.drop)⟩
     ·rw[bf hsame] at qY;have oO:=Z (show ¬(l=[]/\lq S next shown=S.sup) by rw[hsc];exact fun h=>hsame h.2);clear hsame hl0 hsc;go_wp2
      (refine cB (pO [0,1,2,3]<|rO [4]<|pO [5,6,7]<|rO [8]<|pO [9,10]<| .e) [] O ?_;clear O;intro J O)
      repeat (first
       |(refine bG O ?_;go_frame)
       |(refine sK O ?_;go_frame)
       |(refine bR O ?_;(first
             |refine lY aa (sv sc) ?_
             |refine lY hz2 (sv S.sup) ?_);go_frame))
      refine bO ?_;go_wp2;refine aF.F _ _ ?_;unfold MN;refine⟨⟨oO.F,?_⟩,rfl⟩;rw[Bl.F];exact O
    ·have e0:((i:Int)==0)=false:=dH.2 (by omega);have oO:=Z (show ¬(l=[]/\lq S next shown=S.sup) from fun h=>hi0 (by rw[<-aM.F,h.1];rfl));clear hi0 hsc qY;go_wp2
     (refine cB (pO [0,1,2,3]<|rO [4]<|pO [5,6,7]<|rO [8]<|pO [9,10]<| .e) [] O ?_;clear O;intro J O)
     repeat (first
      |(refine bG O ?_;go_frame)
      |(refine sK O ?_;go_frame)
      |(refine bR O ?_;(first
            |refine lY aa (sv sc) ?_
            |refine lY hz2 (sv S.sup) ?_);go_frame))
     refine bO ?_;go_wp2;refine aF.F _ _ ?_;unfold MN;refine⟨⟨oO.F,?_⟩,rfl⟩;rw[Bl.F];exact O
   clear O qY hsc;rintro a wz hinv;unfold MN at hinv;obtain⟨hrel,ha⟩:=hinv;obtain⟨z,hz⟩:∃z:Nat->Value,∀i,a.tmps.getD i undef=z i:=⟨_,fun _=>rfl⟩
   try simp only[hz] at hrel
   replace ha:=ha.at hz;simp only[mM,lh] at ha;clear hz;subst ha;obtain⟨hne,O⟩:=hrel;have oO:=Z hne;clear hne;rw[Bl.F] at O;unfold MO at O;rw[dB,dB,dB,dB,iP] at O;refine qP ?_;refine qP ?_;have eH:=Z bq.F.x;have El:=Z (eH.F.mK);have QP:=Z (show nU Tryz.prog 94=some (some (.agg (zX.flatMap inv).toArray)) by kernel_rfl);have QQ:=Z (show(zX.flatMap inv).length=1776 from UQ.mK);have DZ:=Z (anw (pd:=pd) (s:=S.sup) (fv:= .slice (some ⟨fb,fo,none⟩) 128 fc) (r:=r) (last:=S.last) eH.F)
   have HI1:=Z (show ∀v∈S.aB.flatMap inv,v.oneCell'=true from fun v hv=>by
    obtain⟨y,_,hy⟩:=mE.1 hv
    exact inv_one _ v hy)
   obtain⟨xi,hxi⟩:=au (S.aB.flatMap inv);have Jn:=Z hxi;rw[hxi] at El DZ HI1;obtain⟨zi,hzi⟩:=au (zX.flatMap inv);rw[hzi] at QP QQ;clear hxi hzi;refine dK (fun KX aF=>?_)
   go_wp2_with (first
    |(refine dU O ?_ (hz:=QP.F);clear O;intro qB J O;rw[aS] at O)
    |(refine eT xi O aa ?_ (hv:=HI1.F) (hn:=by rw[El.F];exact bz (by rfl)) (hb:=by rw[El.F,QQ.F]);clear O;intro J O;rw[aD] at O)
    |(refine dm O hz2 xi ?_ (hvs:=DZ.F) (hb:=El.F)))
   refine aF.F _ _ ?_;clear aF QP QQ zi;refine qP ?_;refine qP ?_;refine dK (fun KX aF=>?_);refine wp_label (show KX _ _ from ?_);refine aF.F _ _ ?_;clear aF;refine dK (fun KX aF=>?_);go_wp2
   have H0:=Z (show UZ W L ps pd pU qB S D l sc (.slice (some ⟨fb,fo,none⟩) 128 fc) r (.slice at_ tot ct) (.int .i64 0) (.int .i64 0) (.int .i64 0) (.slice none 0 0) (.slice none 0 0) _ from
    ⟨0,[],D,rfl,rfl,rfl,eG _,rfl,rfl,by
     rw[<-Jn.F] at O;have I:=(O.re [6,3,2,0,1,4,5])
     exact(((Sat.yQ (Sat.jb (Sat.wh I))).re [3,4,5,6,2,1,0]))⟩)
   clear O;go_loopw [103,18,19,15,16] (fun La v18 v19 v15 v16 wz=>UZ W L ps pd pU qB S D l sc (.slice (some ⟨fb,fo,none⟩) 128 fc) r (.slice at_ tot ct) La v18 v19 v15 v16 wz) (fun La _ _ _ _ _=>iV i La)
   case atStart=>exact H0.F
   case round=>
    clear H0;obtain⟨j,dG,D1,rfl,rfl,rfl,hj,hg,hrun,O⟩:=hrel;rw[aM.F] at hj;have HG:=Z hg;have jP:=Z hrun;clear hg hrun
    by_cases hlt:j<i
    ·have k1:(j:Int)< (i:Int):=by omega
     have ay:=Z hlt;obtain⟨pb,po,rfl,_⟩:=H5.F (by have:=aM.F;omega);obtain⟨x,V⟩:∃x,l[j]? =some x:=⟨_,aR (by have:=aM.F;omega)⟩
     have dD:=Z V;have hxm:=bJ V;have ru:=Z hxm;obtain⟨n,y,hq⟩:=bq.F.qQ jX.F HF.F V;have HQ:=Z hq;have hrs:=HR.F _ [_,_,_,_,_,_,_,_,_,_] O;have hsx:=hrs.2 x hxm;have iY:=Z hrs.1;have iC:=Z (show ∀x∈l,(bX x).length=40 from fun x V=>AJ ((hrs.2 x V).pl));have eY:=Z (AJ hsx.pl);have mH:=Z (T9 hsx);have G0:=Z (show(bX x)[0]? =some (.int .i64 (n:Int)) by rw[<-hq.at_];rfl);have jf:=Z (FI hsx.pl);have jW:=Z (OV hsx.pl);have qW:=Z (OW hsx.pl);have zb:=Z hsx.pl;have qg:=Z hsx.s1;have HS2:=Z hsx.s2;obtain⟨mD,hsv⟩:=au (bX x);rw[hsv] at eY mH G0 jf jW qW;have vP:=Z hsv;obtain⟨ap,cp,hpv⟩:∃ao c,x.nP= .slice ao x.pieces.length c:=by obtain⟨ao,c,he,_⟩:=hsx.p;exact⟨ao,c,he⟩
     obtain⟨ad,cd,hdv⟩:∃ao c,x.uq= .slice ao x.data.length c:=by obtain⟨ao,c,he,_⟩:=hsx.d;exact⟨ao,c,he⟩
     obtain⟨np,fT⟩:=au x.pieces.length;have hnd:x.data.length=np:=by rw[hq.dl,fT]
     obtain⟨kH,hof⟩:=au (jG l j);have hsum:=Ii V;have nI:=Z (zF V);rw[hof,fT] at hsum nI;rw[lg.F] at hsum;have hs1:(kH:Int)+(np:Int)<=80000:=by omega
     rw[hpv,fT] at jf;rw[hdv,hnd] at jW;rw[hof];have JW:((dW S l).drop kH).take np=je S l j x:=by unfold je;rw[hof,fT]
     have vN:=Z (fun w M k (h:Sat W w M) (hk:Has M k (Ir (.slice at_ tot ct) (dW S l)))=>(show Rd w (.slice (uY at_ ct kH 1) np (ct-kH)) np 1 (iv (je S l j x)) from by
      obtain⟨ao,c,he,_,h3⟩:=Pg (h.zx mX.F hk) mX.F hsum;obtain⟨rfl,rfl⟩:=gq he;rw[JW] at h3
      exact h3))
     have wP:=Z (show kH+np<=ct from by
      obtain⟨ao,c,he,H,_⟩:=Pg (O.zx mX.F hz2) mX.F hsum;obtain⟨rfl,rfl⟩:=gq he
      exact H)
     obtain⟨am,R8⟩:=au (uY at_ ct kH 1);obtain⟨cm,hcm⟩:=au (ct-kH);rw[R8,hcm] at vN;have HAM:=Z R8;have HCM:=Z hcm;have qH:=Z fT;have dP:=Z hnd;have uR:=Z hpv;have zQ:=Z hdv;have jg:=Z (show(je S l j x).length=np by rw[Ki HF.F V,fT]);have Gb:=Z hsum;have D5:=Z (show k+tot<=80000 by rw[<-lg.F];exact HK.F)
     have FT:=Z (show DG D1 (k+kH) from by
      have h:=HD.F.run (iJ S l j);rw[jP.F,Gw bq.F jX.F HF.F j (by have:=aM.F;omega),hof] at h
      exact h)
     have VC:=Z (show(bU pd S.sup (.slice (some ⟨fb,fo,none⟩) 128 fc) S.aB r S.last)[0]? =some (.pointer (some ⟨pd,0,none⟩)) from rfl);clear hlt hj V hxm hq hrs hsx hsv hpv hdv fT hnd hof hsum JW R8 hcm
     go_wp2_with (first|(refine dU O ?_;clear O;intro Fv J O;rw[aS] at O)|(refine eT mD O aa ?_ (hv:=mH.F) (hn:=by rw[eY.F];exact bz (by rfl)) (hb:=by rw[eY.F];rfl);clear O;intro J O;rw[aD] at O)|(refine aH O aa jf.F ?_)|(refine aH O aa jW.F ?_)|(refine bN (v:= .slice am np cm) ((Om (lo:=kH) (m:=np) (by rfl) (by rfl) (by rfl) (by rfl) (by first|rfl|omega) (by omega) wP.F (bS (by rfl)) _).trans (by rw[HAM.F,HCM.F])) ?_)|(refine bN (v:= .agg mD.toArray) ((nz (f:=bX) (x:=x) iY.F iC.F _ _ (by rfl) _ (by rfl) (aI (by rfl)) (bz (by rfl)) j (by omega) dD.F (by have:=ay.F;have:=aM.F;omega)).trans (by rw[vP.F])) ?_))
     have H1:=Z (show UY W (Cs ps 112 (bU pd S.sup (.slice (some ⟨fb,fo,none⟩) 128 fc) S.aB r S.last)::Ir (.slice at_ tot ct) (dW S l)::Cs qB 94 ((eP S l j).flatMap inv)::Ir u16 (gN S l j)::Tb 129 2 gw u15 dG::St (dG.map grow)::Cs pU 55 (sv sc)::IsMap (.slice (some ⟨fb,fo,none⟩) 128 fc) S.U::Tb 100 3 rv r S.recs::L) pd Fv S D1 l j x (.int .i64 0) (.int .i64 0) _ from⟨0,D1,rfl,rfl,eG _,rfl,by rw[vP.F];exact O.bW⟩);clear O;go_loopw [122,19] (fun Ld v19 wz=>UY W (Cs ps 112 (bU pd S.sup (.slice (some ⟨fb,fo,none⟩) 128 fc) S.aB r S.last)::Ir (.slice at_ tot ct) (dW S l)::Cs qB 94 ((eP S l j).flatMap inv)::Ir u16 (gN S l j)::Tb 129 2 gw u15 dG::St (dG.map grow)::Cs pU 55 (sv sc)::IsMap (.slice (some ⟨fb,fo,none⟩) 128 fc) S.U::Tb 100 3 rv r S.recs::L) pd Fv S D1 l j x Ld v19 wz) (fun Ld _ _=>iV np Ld)
     case atStart=>exact H1.F
     case round=>
      clear H1;obtain⟨q,D2,rfl,rfl,hq,xy,O⟩:=hrel;rw[dP.F] at hq;have wY:=Z xy;clear xy
      have PV:=Z (show DG D2 (k+kH+q) from by
       have h:=FT.F.run (oW S l j x q);rw[wY.F,Xy] at h
       exact h)
      by_cases oF:q<np
      ·have k2:(q:Int)< (np:Int):=by omega
       have oP:=Z oF;have hsx:=(HR.F _ [_,_,_,_,_,_,_,_,_,_,_] O).2 x ru.F;have hrd:=hsx.d;rw[zQ.F,dP.F] at hrd;obtain⟨_,_,he,_,_,_,h7⟩:=id hrd;obtain⟨rfl,rfl⟩:=gq he;obtain⟨db,Gx,rfl,_⟩:=h7 (by omega);have iB:=Z hrd;obtain⟨d,hd⟩:∃d,x.data[q]? =some d:=⟨_,aR (by rw[dP.F];exact oF)⟩
       obtain⟨v,hv⟩:∃v,x.l9[q]? =some v:=⟨_,aR (by rw[hsx.dl,dP.F];exact oF)⟩
       obtain⟨vc,IJ,rfl,_⟩:=hsx.b q v d hv hd;have h128:d.length=128:=HQ.F.d128 d (bJ hd);rw[h128] at hv;obtain⟨p,hp⟩:∃p,(je S l j x)[q]? =some p:=⟨_,aR (by rw[jg.F];exact oF)⟩
       have zt:=vN.F _ _ 3 O hz3;obtain⟨_,_,he,_,_,_,h8⟩:=id zt;obtain⟨rfl,rfl⟩:=gq he;obtain⟨mb,mo,rfl,_⟩:=h8 (by omega);have HV:=Z hv;have HP:=Z (qw hp);have hn:=XC hp hd wY.F
       have gW:=Z (fun w (h:Sat W w (aP pd D2::Cs Fv 133 (bX x)::Cs ps 112 (bU pd S.sup (.slice (some ⟨fb,fo,none⟩) 128 fc) S.aB r S.last)::Ir (.slice at_ tot ct) (dW S l)::Cs qB 94 ((eP S l j).flatMap inv)::Ir u16 (gN S l j)::Tb 129 2 gw u15 dG::St (dG.map grow)::Cs pU 55 (sv sc)::IsMap (.slice (some ⟨fb,fo,none⟩) 128 fc) S.U::Tb 100 3 rv r S.recs::L))=>Li h PV.F (by have:=D5.F;have:=Gb.F;omega) (p:Int) (.slice vc 128 IJ) d h128 (fun w h=>by
        have h3:=((HR.F w [_,_,_,_,_,_,_,_,_,_] h).2 x ru.F).b q _ d HV.F hd;rw[h128] at h3
        exact h3))
       rw[h128] at hn gW;obtain⟨c,hc⟩:=au (gp D2 (p:Int) 128);obtain⟨D3,hD3⟩:=au (fG D2 (p:Int) d);rw[hc,hD3] at hn gW;have HN:=Z hn;clear hq oF hsx hrd h7 hd hv hp zt h8 hn hc hD3
       by_cases hc0:c=0
       ·subst hc0
        go_wp2_with (refine bN (fF iB.F _ _ (by rfl) _ (by rfl) (aI (by rfl)) q (by omega) HV.F (by have:=oP.F;omega)) ?_)
        (refine cB (pO [0,1,2]<|rO [3]<|pO [4,5,6]<|rO [7]<|pO [8]<|aO [9]<|pO [10]<| .e) [9] O ?_;clear O;intro J O)
        repeat (first
         |(refine bG O ?_;go_frame)
         |(refine bR O ?_;(first
                 |refine bK hz2 VC.F ?_
                 |refine⟨_,fun w O=>fF (vN.F w _ 3 O hz3) _ _ (by rfl) _ (by rfl) (aI (by rfl)) q (by omega) HP.F (by have:=oP.F;omega),?_⟩);go_frame)
         |(refine bY fun K hK=>?_;(refine jy (gW.F _ O) ?_;clear O;intro J O);refine hK.go O ?_;clear hK K;go_frame))
        refine bO ?_;go_wp2;exact⟨⟨q+1,D3,by go_num,rfl,by rw[dP.F];exact oP.F,HN.F,O⟩,fZ oP.F⟩
       ·have e9:(c != 0)=true:=bne_iff_ne.2 hc0;have QC:=Z (Xn HB.F HF.F oO.F (XF dD.F (by rw[dP.F];exact oP.F) jP.F HN.F hc0) hc0);clear hc0
        go_wp2_with (refine bN (fF iB.F _ _ (by rfl) _ (by rfl) (aI (by rfl)) q (by omega) HV.F (by have:=oP.F;omega)) ?_)
        (refine cB (pO [0,1,2]<|rO [3]<|pO [4,5,6]<|rO [7]<|pO [8]<|aO [9]<|pO [10]<| .e) [9] O ?_;clear O;intro J O)
        repeat (first
         |(refine bG O ?_;go_frame)
         |(refine bR O ?_;(first
                 |refine bK hz2 VC.F ?_
                 |refine⟨_,fun w O=>fF (vN.F w _ 3 O hz3) _ _ (by rfl) _ (by rfl) (aI (by rfl)) q (by omega) HP.F (by have:=oP.F;omega),?_⟩);go_frame)
         |(refine bY fun K hK=>?_;(refine jy (gW.F _ O) ?_;clear O;intro J O);refine hK.go O ?_;clear hK K;go_frame))
        refine bO ?_;go_wp2
        go_step3
        refine .inr ⟨rfl,?_⟩;go_wp2;rw[Exit.noGoto_ret];go_ret;rw[QC.F];exact⟨rfl,((iG.F _ _ _ _ (O.re [2,9,10,0,1,3,4,5,6,7,8])).re [2,3,4,5,6,7,8,0,1]).drop.drop.drop.drop.drop.drop.drop⟩
      ·obtain rfl:q=np:=by omega
       have k2:¬(q:Int)< (q:Int):=by omega
       have hy:=HQ.F.ino;have oU:=Z (O7 (pd:=pd) (s:=S.sup) (fv:= .slice (some ⟨fb,fo,none⟩) 128 fc) (r:=r) (last:=S.last) eH.F hy);have tT:=Z (XE dD.F jP.F (by rw[dP.F];exact wY.F))
       have wW:=Z (show ∀w M,Sat W w (M++L)->Rd w (.slice ap q cp) q 1 (pv x.pieces) from fun w M h=>by
        have:=((HR.F w M h).2 x ru.F).p;rw[uR.F,qH.F] at this
        exact this)
       have dJ:=Z (fun w M k (h:Sat W w (M++L)) (hk:Has (M++L) k (Ir (.slice at_ tot ct) (dW S l)))=>
        (aaE h y x.ino HQ.F.uH zb.F qg.F HS2.F x.pieces (je S l j x) ap (.slice am q cm) cp qH.F (fun w L' h=>wW.F w (L'++M) (by rw[dX];exact h)) (fun w L' h=>by
         have h3:=vN.F w _ _ h (has_add hk L');rw[jg.F]
         exact h3)).mono (fun e w' (hE:zY W _ _ _ _ _ e w')=>(show ∃yU,e= .returned (.tuple #[.agg (inv (gX S l j x)).toArray,yU, .bool true])/\Sat W w' (Ir yU (qM S l j x)::(M++L)) from by
          rcases hE with⟨_,h⟩|⟨hn,_⟩
          ·unfold qM;rw[HQ.F.pQ,HQ.F.NU];exact h
          ·rw[HQ.F.next] at hn
           exact absurd hn (by decide))))
       have wT:=Z (show(inv y).length=37 by rw[fe,HQ.F.uH.pl]);have wS:=Z (show(inv x.ino).length=37 by rw[fe,zb.F]);have ad7:=Z (show((eP S l j).flatMap inv).length=1776 from(Sy bq.F jX.F HF.F j (by have:=aM.F;have:=ay.F;omega)).mK);have tZ:=Z (inv_one (gX S l j x));have jh:=Z (show(inv (gX S l j x)).length=37 by rw[fe,HQ.F.ok.pl]);have P7:=Z (ahJ (X:=eP S l j) (show iH (eP S l j) from Sy bq.F jX.F HF.F j (by have:=aM.F;have:=ay.F;omega)) HQ.F.n48 (gX S l j x) HQ.F.ok.pl);rw[show(eP S l j).set n (gX S l j x)=eP S l (j+1) by rw[Sz dD.F,HQ.F.at_,fu]] at P7;have vO:=Z (fun w M (h:Sat W w M)=>Hr h (gX S l j x) HQ.F.ok);obtain⟨iy,vY⟩:=au (inv y);obtain⟨ix,hix⟩:=au (inv x.ino);obtain⟨ni,hni⟩:=au (inv (gX S l j x));obtain⟨ei,De⟩:=au (encI (gX S l j x));have HEI:=Z De;have LZ:=Z (show(ni.drop 0).take 37=ni by rw[<-hni,kz,dF (by rw[jh.F];exact aZ _)]);rw[vY] at oU wT dJ;rw[hix] at qW wS dJ;rw[hni] at dJ tZ jh P7 vO;rw[De] at vO;have tV:=Z (Nc (S:=S) dD.F);have Eh:=Z (Lh (S:=S) dD.F);rw[De,HQ.F.at_] at Eh;obtain⟨gone,vX⟩:=au (qM S l j x);rw[vX] at dJ tV
       have hgl:(gN S l j).length+gone.length<=1000:=by
        have I:=(GN bq.F jX.F HF.F (j+1) (by have:=aM.F;have:=ay.F;omega)).2;rw[tV.F,bP] at I;have:=(zJ jX.F).1;have:=ay.F;have:=aM.F;omega
       have hwl:dG.length<=8:=by
        have I:=congrArg List.length HG.F;rw[qp,Le j (by have:=aM.F;have:=ay.F;omega)] at I;have:=(zJ jX.F).1;have:=ay.F;have:=aM.F;omega
       have fU:=Z hgl;have x9:=Z hwl;have F5:=Z HQ.F.n48;have n48:(n:Int)<48:=by have:=F5.F;omega
       rw[vP.F] at O;have hS2:=O.re [1,2];clear O;have O:=hS2;clear hS2 hq oF hy vY hix hni De vX hgl hwl;go_wp2
       (refine ll (pO [0,1]<|rO [2]<|pO [3,4,5]<|rO [6]<|pO [7]<|rO [8]<|pO [9]<|rO [10]<|pO [11]<| .m 12 17 (pO [13,14,15,16]<|aO [17]<| .e) (aO [12]<|pO [13,14,15,16]<| .e)) [12,18] O (fun _ h=>h.take2) ?_;clear O;intro J O)
       repeat (first
        |(refine bG O ?_ (hL:=fun _ h=>by first|exact h|exact h.take2|(first|exact h.take2|exact h.drop.take2|exact h.drop.drop.take2));go_frame)
        |(refine bR O ?_ (hL:=fun _ h=>by first|exact h|exact h.take2|(first|exact h.take2|exact h.drop.take2|exact h.drop.drop.take2));(first
               |refine bK aa G0.F ?_
               |refine bK aa jf.F ?_
               |refine lY hz1 iy ?_ (hvs:=oU.F) (hb:=wT.F)
               |refine lY aa ix ?_ (hvs:=qW.F) (hb:=wS.F));go_frame))
       revert O;apply Ca (aO [18]<|pO [19,20]<| .e) (fun(p25 _b2 _b3:Nat) (yU _v2 _v3:Value) w'=>Sat W w' (Cs p25 78 (List.replicate 37 (.int .i64 0))::Ir yU gone::Cs Fv 133 mD::Cs ps 112 (bU pd S.sup (.slice (some ⟨fb,fo,none⟩) 128 fc) S.aB r S.last)::aP pd D2::Ir (.slice at_ tot ct) (dW S l)::Cs qB 94 ((eP S l j).flatMap inv)::Ir u16 (gN S l j)::Tb 129 2 gw u15 dG::St (dG.map grow)::Cs pU 55 (sv sc)::IsMap (.slice (some ⟨fb,fo,none⟩) 128 fc) S.U::Tb 100 3 rv r S.recs::L)) ([Cs Fv 133 mD,Cs ps 112 (bU pd S.sup (.slice (some ⟨fb,fo,none⟩) 128 fc) S.aB r S.last)])
       case I=>
        intro hJ O
        repeat' (first
         |(refine bG O ?_ (hL:=fun _ h=>by first|exact h|exact h.take2|(first|exact h.take2|exact h.drop.take2|exact h.drop.drop.take2));go_frame)
           |(refine bY fun K hK=>?_;(first|(refine dst 153 ?_;(first|refine cK (dJ.F _ [_,_,_,_,_,_,_,_,_,_,_] 3 O hz3) ?_|refine cK (dJ.F _ [_,_,_,_,_,_,_,_,_,_,_,_] 4 O fD) ?_);clear O;rintro e J ⟨yU,rfl,O⟩;refine⟨_,rfl,?_⟩)|(refine dst 25 ?_;refine uW O ?_;clear O;intro p25 J O;rw[aS] at O));refine hK.up O ?_ (.inr ⟨rfl,fun _ h=>by first|exact h.take2|exact h.drop.take2|exact h.drop.drop.take2⟩);clear hK K;go_frame)
           |(refine Cc ?_ ?_<;>(intro K hK;(first|(refine dst 153 ?_;(first|refine cK (dJ.F _ [_,_,_,_,_,_,_,_,_,_,_] 3 O hz3) ?_|refine cK (dJ.F _ [_,_,_,_,_,_,_,_,_,_,_,_] 4 O fD) ?_);clear O;rintro e J ⟨yU,rfl,O⟩;refine⟨_,rfl,?_⟩)|(refine dst 25 ?_;refine uW O ?_;clear O;intro p25 J O;rw[aS] at O));refine hK.up O ?_ (.inr ⟨rfl,fun _ h=>by first|exact h.take2|exact h.drop.take2|exact h.drop.drop.take2⟩);clear hK K;go_frame))
           |(refine Cb ?_;refine(fun(g:Nat->Nat->Value->Value->_)=>g 0 0 (.slice none 0 0) (.slice none 0 0)) ?_;intro x2 x3 y2 y3;first|exact hJ p25 x2 x3 yU y2 y3 _ O|exact hJ p25 x2 x3 yU y2 y3 _ (O.re [1,0])))
       intro p25 _ _ yU _ _ J O
       repeat (first
        |(refine bG O ?_ (hL:=fun _ h=>by first|exact h|exact h.take2|(first|exact h.take2|exact h.drop.take2|exact h.drop.drop.take2));go_frame)
        |(refine bY fun K hK=>?_;(refine DF ni O aa ?_ (hv:=tZ.F) (hn:=by rw[jh.F];exact bz (by rfl)) (hb:=by rw[jh.F];rfl);clear O;intro J O;dsimp only[aD,aN] at O);first|refine hK.up O ?_|refine hK.up O ?_ (.inr ⟨rfl,fun _ h=>by first|exact h.take2|exact h.drop.take2|exact h.drop.drop.take2⟩);clear hK K;go_frame))
       refine bO ?_;replace O:Sat W _ (_::_::_::_::_::_::_::_::_::_::_::_::_::L):=O.re [0,2,6,7,1,8];obtain⟨QZ,Rn,J2,_⟩:=O.fA (k:=5) rfl;subst J2
       have LQ:=Z (show ∀v,Sl 5 1 v 128 (bv ei)=grow ⟨26+(n:Int),v,ei⟩ from fun v=>by
        unfold grow
        rw[<-HEI.F,CY _ HQ.F.ok.pl])
       have LY:=Z (fun(x:GW)=>(show dG.map grow++[grow x]=(dG++[x]).map grow by rw[lC];rfl))
       have HG2:=Z (show ∀v,g2 (dG++[⟨26+(n:Int),v,ei⟩])=jq S l (j+1) from fun v=>by
        rw[RP,HG.F,Eh.F])
       have aeD:=Z (show(kH:Int)+(q:Int)=((jG l (j+1):Nat):Int) by rw[nI.F];omega);obtain⟨ng,zu⟩:=au dG.length;have aer:=Z (show ∀x:GW,(dG++[x]).length=ng+1 from fun x=>by rw[bP,zu];rfl);rw[zu] at O ⊢;clear zu
       go_wp2_with (first
        |(refine aH O hz1 G0.F ?_)
        |(refine aH O hz2 G0.F ?_)
        |(refine kW ni O hz2 ?_ (hv:=tZ.F) (hn:=by rw[jh.F];exact bz (by rfl)) (hb:=by rw[jh.F,ad7.F];have:=F5.F;omega);clear O;intro J O;dsimp only[aD,aN] at O;rw[jh.F,P7.F] at O)
        |(go_at_call 32;refine(vO.F _ _ O).mono ?_;clear O;rintro e J ⟨v28,rfl,O⟩;obtain⟨b7,o7,c7,rfl,_⟩:=O.kV (k:=0) rfl (by decide))
        |(refine il [.agg (gw ⟨26+(n:Int), .slice (some ⟨b7,o7,none⟩) 128 c7,ei⟩).toArray] O ?_ (hc:=by simp[gw,Value.cells]);clear O;intro b1 J O;rw[kP] at O)
        |(at_builtin;refine aU ?_;refine rz O _ _ _ _ (by rfl) (by rfl) (by rfl) (bS (by rfl)) (by rfl) (by rfl) (by rfl) (dO (by rfl)) hz3 (m:=gone) (by exact O.oG fD) (by have:=fU.F;omega) ?_;clear O;intro vg3 J O;dsimp only[aD,aN] at O;rw[<-tV.F] at O)
        |(at_builtin;refine og O Ho [⟨26+(n:Int), .slice (some ⟨b7,o7,none⟩) 128 c7,ei⟩] ?_ (hlen:=(fun _ _=>rfl)) (hsrc:=by exact O.gZ aa rfl) (I:=by rw[xh];exact vV _ _) (hb:=by have:=x9.F;simp;omega) (hm:=by have:=x9.F;simp;omega);clear O;intro aw cw J _ O;dsimp only[aD,aN] at O;rw[aer.F] at O ⊢)
        |(refine dm O aa ni ?_ (hvs:=LZ.F) (hb:=jh.F)))
       have h3:=O.drop.re [0,10];rw[LQ.F] at h3;have h4:=Sat.AO h3;rw[LY.F] at h4;exact⟨⟨j+1,_,D2,by go_num,by rw[aeD.F],rfl,by rw[aM.F];exact ay.F,HG2.F _,tT.F,(h4.re [1,2,5,8,7,9,3,4,6,0]).drop.drop.drop⟩,fZ ay.F⟩
    ·obtain rfl:j=i:=by omega
     have k1:¬(j:Int)< (j:Int):=by omega
     have jE:=Z (show bH D (iJ S l l.length)=(0,D1) by rw[aM.F];exact jP.F);have tV:=Z (show g2 dG=jq S l l.length by rw[aM.F];exact HG.F)
     have FT:=Z (show DG D1 (k+tot) from by
      have h:=HD.F.run (iJ S l l.length);rw[jE.F,Gw bq.F jX.F HF.F l.length (aZ _),Fh,lg.F] at h
      exact h)
     have D5:=Z (show k+tot<=80000 by rw[<-lg.F];exact HK.F);have LP:=Z (GN bq.F jX.F HF.F l.length (aZ _));have aea:=Z (show Ba S.U nb (gN S l l.length) from by rw[<-Vt.F];exact bq.F.YI jX.F HF.F);have I9:=Z (zJ jX.F).1;have nI:=Z (show eQ sc=true by rw[<-Bl.F];exact bq.F.csup (by rw[rq.F];exact h1n) h2n shown);have L8:=Z (show iH (eP S l l.length) from bq.F.NV jX.F HF.F);have aeM:=Z (show(bT S.U nb).take tot=dW S l by unfold dW;rw[lg.F,qF.F]);have rV:=Z (show 160<=nb/\nb<=1024 by rw[<-Vt.F];exact⟨bq.F.n1,bq.F.n2⟩);have HTF:=Z (show tot<=(bT S.U nb).length by rw[<-lg.F,<-qF.F];exact HF.F);rw[<-aM.F] at O;go_wp2;refine aF.F _ _ ?_;clear aF
     by_cases hj0:j=0
     ·subst hj0;have hl0:l=[]:=yZ.1 aM.F
      have hwr:g2 dG++[(0,encS sc)]=lu S l next shown:=by
       unfold lu;rw[tV.F,Bl.F,if_pos hl0,kv]
      have HMU:=Z (show gm S l=S.U from if_pos hl0)
      have hgw:dG.length<=8:=by
       have I:=congrArg List.length tV.F;rw[qp,Le _ (aZ _),aM.F] at I;omega
      obtain⟨QZ,Rn,J2,_⟩:=O.fA (k:=5) rfl;subst J2;have nX:=Z (fun s=>vD (pd:=pd) (s:=s) (fv:= .slice (some ⟨fb,fo,none⟩) 128 fc) (r:=r) (last:=(S.last:Int)) eH.F);have Bn:=Z (vD (pd:=pd) (s:=sc) (fv:= .slice (some ⟨fb,fo,none⟩) 128 fc) (r:=r) (last:=(S.last:Int)) L8.F);have HST:=Z (KW (pd:=pd) (s:=S.sup) (s':=sc) (fv:= .slice (some ⟨fb,fo,none⟩) 128 fc) (X:=S.aB) (r:=r) (last:=(S.last:Int)));have oU:=Z (acv (pd:=pd) (s:=sc) (fv:= .slice (some ⟨fb,fo,none⟩) 128 fc) (Y:=eP S l l.length) (r:=r) (last:=(S.last:Int)) eH.F);have Ec:=Z (show(bU pd sc (.slice (some ⟨fb,fo,none⟩) 128 fc) (eP S l l.length) r (S.last:Int)).set 8 (.slice (some ⟨fb,fo,none⟩) 128 fc)=_ from O9);have jQ:=Z (show ∀v∈sv sc,v.oneCell'=true from lI _);have ze:=Z (show((eP S l l.length).flatMap inv).length=1776 from L8.F.mK)
      have QK:=Z (show ∀v∈(eP S l l.length).flatMap inv,v.oneCell'=true from fun v hv=>by
       obtain⟨y,_,hy⟩:=mE.1 hv
       exact inv_one _ v hy)
      have QL:=Z (show(((eP S l l.length).flatMap inv).drop 0).take 1776=(eP S l l.length).flatMap inv by rw[kz,dF (by rw[ze.F];exact aZ _)])
      have D6:=Z (fun w M fv (h:Sat W w (Cs ps 112 (bU pd sc fv (eP S l l.length) r S.last)::IsMap fv (gm S l)::Tb 100 3 rv r S.recs::M))=>bF.mk (S:=S.zk l next shown) (by
       show Sat W w (Cs ps 112 (bU pd (lq S next shown) fv (eP S l l.length) r S.last)::IsMap fv (gm S l)::Tb 100 3 rv r S.recs::M);rw[Bl.F]
       exact h))
      have HG:=Z (fun w UM (h:Sat W w (Tb 129 2 gw UM dG::Cs pU 55 (sv sc)::Cs qB 94 ((eP S l l.length).flatMap inv)::Cs ps 112 (bU pd S.sup (.slice (some ⟨fb,fo,none⟩) 128 fc) S.aB r S.last)::IsMap (.slice (some ⟨fb,fo,none⟩) 128 fc) S.U::Tb 100 3 rv r S.recs::aP pd D1::St (dG.map grow)::Ir (.slice at_ tot ct) (dW S l)::Ir u16 (gN S l l.length)::L))=>
       RQ (L:=Cs pU 55 (sv sc)::Cs qB 94 ((eP S l l.length).flatMap inv)::IsMap (.slice (some ⟨fb,fo,none⟩) 128 fc) S.U::Tb 100 3 rv r S.recs::St (dG.map grow)::Ir (.slice at_ tot ct) (dW S l)::Ir u16 (gN S l l.length)::L) (h.re [0,3,6]) rfl FT.F (by have:=D5.F;omega) sc nI.F (by omega) (fun w L' h x V=>by
        obtain⟨q,hq⟩:=jJ V;obtain⟨L2,H⟩:=h.KV (j:=q) (A:=grow x) (has_add fD L') (by unfold Has;rw[kY,hq];rfl)
        exact H.dY aa))
      rw[hwr] at HG;obtain⟨cc,hcc⟩:=au (jm D1 (lu S l next shown));obtain⟨c,D2⟩:=cc;rw[hcc] at HG;have DX:=Z (Ri HB.F HF.F oO.F jE.F hcc);have hS2:Sat W _ (_::_::_::_::_::_::_::_::_::_::L):=O.re [5,7,3,1,8,9,0,6,2,4];clear O;have O:=hS2;clear hS2 hl0 hwr hgw hcc
      by_cases hc0:c=0
      ·subst hc0
       go_wp2_with (first
        |(refine aH O hz3 G8.F ?_)
        |(go_at_call 62;refine ak (HG.F _ _ O) ?_;clear O;intro J O)
        |(refine dm O hz1 (sv sc) ?_))
       (refine ll (pO [0,1,2]<|rO [3,4]<|pO [5,6,7]<|aO [8]<|pO [9,10]<|aO [11]<|pO [12,13]<|aO [14]<| .e) [11,14] O (fun _ h=>h.drop.drop.take2) ?_;clear O;intro J O)
       repeat (first
        |(refine bG O ?_ (hL:=fun _ h=>by first|exact h|exact h.drop.drop.take2|(exact h.drop.drop.take2));go_frame)
        |(refine bR O ?_ (hL:=fun _ h=>by first|exact h|exact h.drop.drop.take2|(exact h.drop.drop.take2));(first
               |refine lY aa (sv sc) ?_
               |refine lY hz1 ((eP S l l.length).flatMap inv) ?_ (hvs:=QL.F) (hb:=ze.F));go_frame)
        |(refine bY fun K hK=>?_;(first
               |(refine FJ (sv sc) O aa ?_ (hv:=jQ.F) (hb:=by rw[nX.F];show 8<=1787;decide);clear O;intro J O;rw[aD,show 1+(sv sc).length=8 from rfl,HST.F] at O)
               |(refine FJ ((eP S l l.length).flatMap inv) O aa ?_ (hv:=QK.F) (hn:=by rw[ze.F];exact bz (by rfl)) (hb:=by rw[nX.F,ze.F];show 9+1776<=1787;decide);clear O;intro J O;rw[aD,ze.F,show 9+1776=1785 from rfl,oU.F] at O)
               |(refine O5 O aa ?_ (hb:=by rw[Bn.F];decide);clear O;intro J O;rw[aD,Ec.F] at O));first|refine hK.gu O ?_|refine hK.gu O ?_ (.inr ⟨rfl,fun _ h=>by exact h.drop.drop.take2⟩);clear hK K;go_frame))
       refine bO ?_;go_wp2
       first
        |(rename_i K hK;refine wp_label (show K _ _ from ?_);refine hK _ _ ?_)
        |(rename_i K hK _;refine wp_label (show K _ _ from ?_);refine hK _ _ ?_)
        |(rename_i K hK _ _;refine wp_label (show K _ _ from ?_);refine hK _ _ ?_)
        |(rename_i K hK _ _ _;refine wp_label (show K _ _ from ?_);refine hK _ _ ?_)
        |(rename_i K hK _ _ _ _;refine wp_label (show K _ _ from ?_);refine hK _ _ ?_)
        |(rename_i K hK _ _ _ _ _;refine wp_label (show K _ _ from ?_);refine hK _ _ ?_)
        |(rename_i K hK _ _ _ _ _ _;refine wp_label (show K _ _ from ?_);refine hK _ _ ?_)
       go_wp2
       ((try simp only[Exit.then,Exit.inBlock,Exit.Au]);go_ret)
       rw[DX.F];exact⟨rfl,((D6.F _ _ _ (show Sat W _ (_::IsMap _ (gm S l)::_) by rw[HMU.F];exact O.re [0,4,5,1])).re [2,3,4,5,6]).drop.drop.drop.drop.drop⟩
      ·have e9:(c==0)=false:=dH.2 hc0;rw[if_neg hc0] at DX;clear hc0
       go_wp2_with (first
        |(refine aH O hz3 G8.F ?_)
        |(go_at_call 62;refine ak (HG.F _ _ O) ?_;clear O;intro J O)
        |(refine dm O hz1 (sv sc) ?_))
       first
        |(rename_i K hK;refine wp_label (show K _ _ from ?_);refine hK _ _ ?_)
        |(rename_i K hK _;refine wp_label (show K _ _ from ?_);refine hK _ _ ?_)
        |(rename_i K hK _ _;refine wp_label (show K _ _ from ?_);refine hK _ _ ?_)
        |(rename_i K hK _ _ _;refine wp_label (show K _ _ from ?_);refine hK _ _ ?_)
        |(rename_i K hK _ _ _ _;refine wp_label (show K _ _ from ?_);refine hK _ _ ?_)
        |(rename_i K hK _ _ _ _ _;refine wp_label (show K _ _ from ?_);refine hK _ _ ?_)
        |(rename_i K hK _ _ _ _ _ _;refine wp_label (show K _ _ from ?_);refine hK _ _ ?_)
       go_wp2
       ((try simp only[Exit.then,Exit.inBlock,Exit.Au]);go_ret)
       rw[DX.F];exact⟨rfl,((iG.F _ _ _ _ (O.re [0,4,5,1])).re [2,3,4,5,6]).drop.drop.drop.drop.drop⟩
     ·have hl0:l≠[]:=fun e=>hj0 (by rw[<-aM.F,e];rfl)
      have hji:(0:Int)< (j:Int):=by omega
      obtain⟨ag,cg,aiZ,_⟩:=O.mg fD;subst aiZ;obtain⟨QZ,Rn,J2,_⟩:=O.fA (k:=5) rfl;subst J2;have HMC:=Z (show tq (mP S.U (gN S l l.length)) (dW S l)=gm S l by unfold gm;rw[if_neg hl0])
      have eX:=Z (fun w (h:Sat W w (aP pd D1::Cs ps 112 (bU pd S.sup (.slice (some ⟨fb,fo,none⟩) 128 fc) S.aB r S.last)::Ir (.slice at_ tot ct) (dW S l)::Cs qB 94 ((eP S l l.length).flatMap inv)::Ir (.slice ag (gN S l l.length).length cg) (gN S l l.length)::Tb 129 2 gw (.slice QZ dG.length Rn) dG::St (dG.map grow)::Cs pU 55 (sv sc)::IsMap (.slice (some ⟨fb,fo,none⟩) 128 fc) S.U::Tb 100 3 rv r S.recs::L))=>
       abl h S.U fb fo fc nb tot rV.F.2 (by have:=rV.F.1;omega) HTF.F (qy BO) (gN S l l.length) ag cg (fun w L' h=>h.oG (has_add fD L')) aea.F (by have:=LP.F.2;have:=I9.F;omega))
      unfold Mj at eX;rw[aeM.F,HMC.F] at eX;obtain⟨ng,zu⟩:=au dG.length
      have hgw:dG.length<=8:=by
       have I:=congrArg List.length tV.F;rw[qp,Le _ (aZ _)] at I;have:=I9.F;omega
      have I6:=Z hgw;have VO:=Z (show ∀x:GW,(dG++[x]).length=ng+1 from fun x=>by rw[bP,zu];rfl);clear hj0 hgw
      go_wp2_with (refine aH O hz1 G8.F ?_)
      (refine cB (pO [0,1,2]<|rO [3]<|pO [4,5,6,7]<|rO [8]<|pO [9,10]<|aO [11]<|pO [12,13,14,15,16]<| .e) [11] O ?_;clear O;intro J O)
      repeat (first
       |(refine bG O ?_;go_frame)
       |(refine bR O ?_;(first
             |refine bK hz1 G1.F ?_
             |refine bK hz1 G8.F ?_);go_frame)
       |(refine bY fun K hK=>?_;(refine cK (eX.F _ O) ?_;rintro e J hE;obtain⟨IK,vm,rfl,hS1⟩:=hE;clear O;have O:=hS1;clear hS1;refine⟨_,rfl,?_⟩);refine hK.go O ?_;clear hK K;go_frame))
      refine bO ?_
      have mH:=Z (show ∀(w:World),Sat W w (Ir IK (dW S l)::IsMap vm (gm S l)::L)->∃b o c,vm= .slice (some ⟨b,o,none⟩) 128 c from fun w h=>by
       have H:=h.drop;unfold IsMap at H;obtain⟨b,o,c,he,_⟩:=H.kV (k:=0) rfl (by decide)
       exact⟨b,o,c,he⟩)
      obtain⟨vb,vo,vc,hvm⟩:=mH.F _ ((O.re [0,1,11,10,9,8,7,6,5,4,3,2]).re [2,3,4,5,6,7,8,9,10,11,0,1]).drop.drop.drop.drop.drop.drop.drop.drop.drop.drop;subst hvm;clear mH
      have hwr:∀v,g2 (dG++[⟨1,v,cO (gm S l)⟩])++[(0,encS sc)]=lu S l next shown:=fun v=>by
       unfold lu;rw[RP,tV.F,Bl.F,if_neg hl0]
      have nX:=Z (fun s=>vD (pd:=pd) (s:=s) (fv:= .slice (some ⟨fb,fo,none⟩) 128 fc) (r:=r) (last:=(S.last:Int)) eH.F);have Bn:=Z (vD (pd:=pd) (s:=sc) (fv:= .slice (some ⟨fb,fo,none⟩) 128 fc) (r:=r) (last:=(S.last:Int)) L8.F);have HST:=Z (KW (pd:=pd) (s:=S.sup) (s':=sc) (fv:= .slice (some ⟨fb,fo,none⟩) 128 fc) (X:=S.aB) (r:=r) (last:=(S.last:Int)));have oU:=Z (acv (pd:=pd) (s:=sc) (fv:= .slice (some ⟨fb,fo,none⟩) 128 fc) (Y:=eP S l l.length) (r:=r) (last:=(S.last:Int)) eH.F);have Ec:=Z (show(bU pd sc (.slice (some ⟨fb,fo,none⟩) 128 fc) (eP S l l.length) r (S.last:Int)).set 8 (.slice (some ⟨vb,vo,none⟩) 128 vc)=_ from O9);have jQ:=Z (show ∀v∈sv sc,v.oneCell'=true from lI _);have ze:=Z (show((eP S l l.length).flatMap inv).length=1776 from L8.F.mK)
      have QK:=Z (show ∀v∈(eP S l l.length).flatMap inv,v.oneCell'=true from fun v hv=>by
       obtain⟨y,_,hy⟩:=mE.1 hv
       exact inv_one _ v hy)
      have QL:=Z (show(((eP S l l.length).flatMap inv).drop 0).take 1776=(eP S l l.length).flatMap inv by rw[kz,dF (by rw[ze.F];exact aZ _)])
      have D6:=Z (fun w M fv (h:Sat W w (Cs ps 112 (bU pd sc fv (eP S l l.length) r S.last)::IsMap fv (gm S l)::Tb 100 3 rv r S.recs::M))=>bF.mk (S:=S.zk l next shown) (by
       show Sat W w (Cs ps 112 (bU pd (lq S next shown) fv (eP S l l.length) r S.last)::IsMap fv (gm S l)::Tb 100 3 rv r S.recs::M);rw[Bl.F]
       exact h))
      have HG:=Z (fun w UM (h:Sat W w (Tb 129 2 gw UM (dG++[⟨1, .slice (some ⟨vb,vo,none⟩) 128 vc,cO (gm S l)⟩])::Cs pU 55 (sv sc)::Cs qB 94 ((eP S l l.length).flatMap inv)::Cs ps 112 (bU pd S.sup (.slice (some ⟨fb,fo,none⟩) 128 fc) S.aB r S.last)::IsMap (.slice (some ⟨fb,fo,none⟩) 128 fc) S.U::Tb 100 3 rv r S.recs::aP pd D1::St (dG.map grow)::IsMap (.slice (some ⟨vb,vo,none⟩) 128 vc) (gm S l)::Ir IK (dW S l)::Ir (.slice at_ tot ct) (dW S l)::Ir (.slice ag (gN S l l.length).length cg) (gN S l l.length)::L))=>
       RQ (L:=Cs pU 55 (sv sc)::Cs qB 94 ((eP S l l.length).flatMap inv)::IsMap (.slice (some ⟨fb,fo,none⟩) 128 fc) S.U::Tb 100 3 rv r S.recs::St (dG.map grow)::IsMap (.slice (some ⟨vb,vo,none⟩) 128 vc) (gm S l)::Ir IK (dW S l)::Ir (.slice at_ tot ct) (dW S l)::Ir (.slice ag (gN S l l.length).length cg) (gN S l l.length)::L) (h.re [0,3,6]) rfl FT.F (by have:=D5.F;omega) sc nI.F (by have:=I6.F;simp;omega) (fun w L' h x V=>by
        rcases gy.1 V with V|V
        ·obtain⟨q,hq⟩:=jJ V;obtain⟨L2,H⟩:=h.KV (j:=q) (A:=grow x) (has_add fD L') (by unfold Has;rw[kY,hq];rfl);exact H.dY aa
        ·rw[eD.1 V];have H:=has_add (vk:Has (Cs pU 55 (sv sc)::Cs qB 94 ((eP S l l.length).flatMap inv)::IsMap (.slice (some ⟨fb,fo,none⟩) 128 fc) S.U::Tb 100 3 rv r S.recs::St (dG.map grow)::IsMap (.slice (some ⟨vb,vo,none⟩) 128 vc) (gm S l)::Ir IK (dW S l)::Ir (.slice at_ tot ct) (dW S l)::Ir (.slice ag (gN S l l.length).length cg) (gN S l l.length)::L) 5 (IsMap (.slice (some ⟨vb,vo,none⟩) 128 vc) (gm S l))) L';unfold IsMap at H;have h3:=h.dY H;show Rd w _ (cO (gm S l)).length 1 _;rw[uC]
         exact h3))
      rw[hwr] at HG;obtain⟨cc,hcc⟩:=au (jm D1 (lu S l next shown));obtain⟨c,D2⟩:=cc;rw[hcc] at HG;have DX:=Z (Ri HB.F HF.F oO.F jE.F hcc);have hS2:Sat W _ (_::_::_::_::_::_::_::_::_::_::_::_::L):=O.re [7,9,5,3,10,11,2,8,1,0,4,6];clear O;have O:=hS2;clear hS2 hl0 hwr hcc;rw[zu] at O;clear zu
      by_cases hc0:c=0
      ·subst hc0
       go_wp2_with (first
        |(refine il [.agg (gw ⟨1, .slice (some ⟨vb,vo,none⟩) 128 vc,cO (gm S l)⟩).toArray] O ?_ (hc:=by simp[gw,Value.cells]);clear O;intro b1 J O;rw[kP] at O)
        |(at_builtin;refine og O hz1 [⟨1, .slice (some ⟨vb,vo,none⟩) 128 vc,cO (gm S l)⟩] ?_ (hlen:=(fun _ _=>rfl)) (hsrc:=by exact O.gZ aa rfl) (I:=by rw[xh];exact vV _ _) (hb:=by have:=I6.F;simp;omega) (hm:=by have:=I6.F;simp;omega);clear O;intro aw cw J _ O;rw[aN,aD] at O;replace O:=O.drop;rw[VO.F] at O ⊢)
        |(go_at_call 62;refine ak (HG.F _ _ O) ?_;clear O;intro J O)
        |(refine dm O hz1 (sv sc) ?_))
       (refine ll (pO [0,1,2]<|rO [3,4]<|pO [5,6,7]<|aO [8]<|pO [9,10]<|aO [11]<|pO [12,13]<|aO [14]<| .e) [11,14] O (fun _ h=>h.drop.drop.take2) ?_;clear O;intro J O)
       repeat (first
        |(refine bG O ?_ (hL:=fun _ h=>by first|exact h|exact h.drop.drop.take2|(exact h.drop.drop.take2));go_frame)
        |(refine bR O ?_ (hL:=fun _ h=>by first|exact h|exact h.drop.drop.take2|(exact h.drop.drop.take2));(first
               |refine lY aa (sv sc) ?_
               |refine lY hz1 ((eP S l l.length).flatMap inv) ?_ (hvs:=QL.F) (hb:=ze.F));go_frame)
        |(refine bY fun K hK=>?_;(first
               |(refine FJ (sv sc) O aa ?_ (hv:=jQ.F) (hb:=by rw[nX.F];show 8<=1787;decide);clear O;intro J O;rw[aD,show 1+(sv sc).length=8 from rfl,HST.F] at O)
               |(refine FJ ((eP S l l.length).flatMap inv) O aa ?_ (hv:=QK.F) (hn:=by rw[ze.F];exact bz (by rfl)) (hb:=by rw[nX.F,ze.F];show 9+1776<=1787;decide);clear O;intro J O;rw[aD,ze.F,show 9+1776=1785 from rfl,oU.F] at O)
               |(refine O5 O aa ?_ (hb:=by rw[Bn.F];decide);clear O;intro J O;rw[aD,Ec.F] at O));first|refine hK.gu O ?_|refine hK.gu O ?_ (.inr ⟨rfl,fun _ h=>by exact h.drop.drop.take2⟩);clear hK K;go_frame))
       refine bO ?_;go_wp2
       first
        |(rename_i K hK;refine wp_label (show K _ _ from ?_);refine hK _ _ ?_)
        |(rename_i K hK _;refine wp_label (show K _ _ from ?_);refine hK _ _ ?_)
        |(rename_i K hK _ _;refine wp_label (show K _ _ from ?_);refine hK _ _ ?_)
        |(rename_i K hK _ _ _;refine wp_label (show K _ _ from ?_);refine hK _ _ ?_)
        |(rename_i K hK _ _ _ _;refine wp_label (show K _ _ from ?_);refine hK _ _ ?_)
        |(rename_i K hK _ _ _ _ _;refine wp_label (show K _ _ from ?_);refine hK _ _ ?_)
        |(rename_i K hK _ _ _ _ _ _;refine wp_label (show K _ _ from ?_);refine hK _ _ ?_)
       go_wp2
       ((try simp only[Exit.then,Exit.inBlock,Exit.Au]);go_ret)
       rw[DX.F];exact⟨rfl,((D6.F _ _ _ (O.re [0,7,5,1])).re [2,3,4,5,6,7,8]).drop.drop.drop.drop.drop.drop.drop⟩
      ·have e9:(c==0)=false:=dH.2 hc0;rw[if_neg hc0] at DX;clear hc0
       go_wp2_with (first
        |(refine il [.agg (gw ⟨1, .slice (some ⟨vb,vo,none⟩) 128 vc,cO (gm S l)⟩).toArray] O ?_ (hc:=by simp[gw,Value.cells]);clear O;intro b1 J O;rw[kP] at O)
        |(at_builtin;refine og O hz1 [⟨1, .slice (some ⟨vb,vo,none⟩) 128 vc,cO (gm S l)⟩] ?_ (hlen:=(fun _ _=>rfl)) (hsrc:=by exact O.gZ aa rfl) (I:=by rw[xh];exact vV _ _) (hb:=by have:=I6.F;simp;omega) (hm:=by have:=I6.F;simp;omega);clear O;intro aw cw J _ O;rw[aN,aD] at O;replace O:=O.drop;rw[VO.F] at O ⊢)
        |(go_at_call 62;refine ak (HG.F _ _ O) ?_;clear O;intro J O)
        |(refine dm O hz1 (sv sc) ?_))
       first
        |(rename_i K hK;refine wp_label (show K _ _ from ?_);refine hK _ _ ?_)
        |(rename_i K hK _;refine wp_label (show K _ _ from ?_);refine hK _ _ ?_)
        |(rename_i K hK _ _;refine wp_label (show K _ _ from ?_);refine hK _ _ ?_)
        |(rename_i K hK _ _ _;refine wp_label (show K _ _ from ?_);refine hK _ _ ?_)
        |(rename_i K hK _ _ _ _;refine wp_label (show K _ _ from ?_);refine hK _ _ ?_)
        |(rename_i K hK _ _ _ _ _;refine wp_label (show K _ _ from ?_);refine hK _ _ ?_)
        |(rename_i K hK _ _ _ _ _ _;refine wp_label (show K _ _ from ?_);refine hK _ _ ?_)
       go_wp2
       ((try simp only[Exit.then,Exit.inBlock,Exit.Au]);go_ret)
       rw[DX.F];exact⟨rfl,((iG.F _ _ _ _ (O.re [0,4,5,1])).re [2,3,4,5,6,7,8]).drop.drop.drop.drop.drop.drop.drop⟩
end Go.Proofs.YtjbiihbicknemaaGreat
