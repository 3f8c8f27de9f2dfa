/-
  Part of the proof of StoreWhole.
-/
import Derived.Test.YtjbiihbicknemaaGreatSrCmtC
set_option linter.unusedSimpArgs false
set_option linter.unusedVariables false
set_option maxRecDepth 20000
set_option maxHeartbeats 40000000
namespace Go.Proofs.YtjbiihbicknemaaGreat
open Go.RowKit Go.Sep
variable {W w:World} {L:List aA}
attribute [local irreducible] Oper.wp wpList Calls Code.wp Sep.dR Sep.fJ
theorem alz {pw pe k tot:Nat} {S:aK} {gs:List Nat} {D:aG} {R:dh} {l:List aT} {next:Int} {aq:Option Addr} {j cq:Nat} (q:Mk W L pw pe k tot S gs D R l next aq j cq) (shown:Bool) 
  {fv r g:Value} {a:Act} (hinv:Ot W L pw pe tot S gs R l next shown aq j cq fv r g a w):
  From Tryz.prog 48 5 (fun e w'=>Er W L pw pe gs (iQ S D l next shown) e w') a w:=by
 have Jg:=Z q;have bq:=Z q.ok;have HRR:=Z q.rel;have jX:=Z (show R.L=D.blocks from q.rel.blocks.symm);have iG:=Z (fun w M R (h:Sat W w (Cs pw 96 (bE pe S.sup fv S.aB r g)::IsMap fv S.U::Tb 100 3 rv r S.recs::Ir g gs::aW pe R::M))=>show Sat W w (dz pw pe S gs::aW pe R::M) from dz.mk h);have pM:=q.lb;have lg:=Z q.tot;have hti:(tot:Int)<=80000:=by have:=q.kt;omega
 have HB:=Z q.bad;clear q;refine From.intro Tryz.func48 rfl ?_;unfold Ot at hinv;obtain⟨hrel,ha⟩:=hinv;obtain⟨z,hz⟩:∃z:Nat->Value,∀i,a.tmps.getD i undef=z i:=⟨_,fun _=>rfl⟩
 try simp only[hz] at hrel
 replace ha:=ha.at hz;simp only[mM,lh] at ha;clear hz;subst ha;have O:=hrel.2;clear hrel
 -- the blocks
 obtain⟨v1,v2,hS1⟩:=aW.open (O.re [4])
 have hS2:Sat W _ (Cs pw 96 (bE pe S.sup fv S.aB r g)::IsMap fv S.U::Tb 100 3 rv r S.recs::Ir g gs::Cs pe 68 [v1,v2, .bool R.armed, .int .i64 R.left, .bool R.dead]::Tb 9 1 iF v1 R.L::Tb 150 2 wv v2 R.Log::L):=hS1.re [3,4,5,6,0,1,2];clear O hS1;have O:=hS2;clear hS2
 obtain⟨fb,fo,fc,rfl,_⟩:∃b off c,fv= .slice (some ⟨b,off,none⟩) 128 c/\128<=c:=by
  have hk:=O.bW;unfold IsMap at hk;exact hk.kV (k:=0) rfl (by decide)
 obtain⟨iI,gF,rfl,_⟩:=O.fA (k:=5) rfl;obtain⟨nb,hnb⟩:=au R.L.length;have hbl:S.sup.blocks=(nb:Int):=by rw[<-hnb,jX.F];exact bq.F.blocks
 have qF:=Z (show S.sup.blocks.toNat=nb by rw[hbl];exact fu nb);have n2:nb<=1024:=by rw[<-hnb,jX.F];exact bq.F.n2
 have G0:=Z (show(bE pe S.sup (.slice (some ⟨fb,fo,none⟩) 128 fc) S.aB r g)[0]? =some (.pointer (some ⟨pe,0,none⟩)) from rfl);have G8:=Z (KY (pd:=pe) (s:=S.sup) (fv:=(.slice (some ⟨fb,fo,none⟩) 128 fc)) (X:=S.aB) (r:=r) (last:=g));rw[hnb] at O;have xY:=Z (fun w M (h:Sat W w (Cs pw 96 (bE pe S.sup (.slice (some ⟨fb,fo,none⟩) 128 fc) S.aB r g)::IsMap (.slice (some ⟨fb,fo,none⟩) 128 fc) S.U::Tb 100 3 rv r S.recs::Ir g gs::Cs pe 68 [.slice iI nb gF,v2, .bool R.armed, .int .i64 R.left, .bool R.dead]::Tb 9 1 iF (.slice iI nb gF) R.L::Tb 150 2 wv v2 R.Log::M))=>show Sat W w (Cs pw 96 (bE pe S.sup (.slice (some ⟨fb,fo,none⟩) 128 fc) S.aB r g)::IsMap (.slice (some ⟨fb,fo,none⟩) 128 fc) S.U::Tb 100 3 rv r S.recs::Ir g gs::aW pe R::M) from((aW.mk (p:=pe) (D:=R) (v1:= .slice iI nb gF) (v2:=v2) (show Sat W w (Cs pe 68 [.slice iI nb gF,v2, .bool R.armed, .int .i64 R.left, .bool R.dead]::Tb 9 1 iF (.slice iI nb gF) R.L::Tb 150 2 wv v2 R.Log::Cs pw 96 (bE pe S.sup (.slice (some ⟨fb,fo,none⟩) 128 fc) S.aB r g)::IsMap (.slice (some ⟨fb,fo,none⟩) 128 fc) S.U::Tb 100 3 rv r S.recs::Ir g gs::M) from h.re [4,5,6])).re [1,2,3,4,0]));refine dK (fun KX aF=>?_)
 by_cases hno:(bT S.U nb).length<tot
 ·have zU:=Z (fun w (h:Sat W w (Cs pw 96 (bE pe S.sup (.slice (some ⟨fb,fo,none⟩) 128 fc) S.aB r g)::IsMap (.slice (some ⟨fb,fo,none⟩) 128 fc) S.U::Tb 100 3 rv r S.recs::Ir g gs::Cs pe 68 [.slice iI nb gF,v2, .bool R.armed, .int .i64 R.left, .bool R.dead]::Tb 9 1 iF (.slice iI nb gF) R.L::Tb 150 2 wv v2 R.Log::L))=>(OL h S.U fb fo fc nb tot n2 (by omega) (qy hz1)).mono (fun e w' hE=>(show ∃v,e= .returned (.tuple #[v, .bool false])/\Sat W w' (Cs pw 96 (bE pe S.sup (.slice (some ⟨fb,fo,none⟩) 128 fc) S.aB r g)::IsMap (.slice (some ⟨fb,fo,none⟩) 128 fc) S.U::Tb 100 3 rv r S.recs::Ir g gs::Cs pe 68 [.slice iI nb gF,v2, .bool R.armed, .int .i64 R.left, .bool R.dead]::Tb 9 1 iF (.slice iI nb gF) R.L::Tb 150 2 wv v2 R.Log::L) from by
   obtain⟨v,he,_,H⟩:=hE;rw[bf (by omega)] at he
   exact⟨v,he,H (by omega)⟩)))
  have dx:=Z (show iQ S D l next shown=(2,S,D) by
   unfold iQ
   rw[if_neg (by rw[HB.F];decide),if_pos (by rw[qF.F,lg.F];exact hno)])
  clear hno hnb hbl n2;go_wp2
  (refine cB (pO [0,1,2]<|rO [3]<|pO [4,5,6]<|rO [7]<|pO [8,9]<|rO [10]<|pO [11,12]<|aO [13]<|pO [14,15,16,17,18]<| .e) [] O ?_;clear O;intro J O)
  repeat (first
   |(refine bG O ?_;go_frame)
   |(refine bR O ?_;(first
    |refine bK aa G0.F ?_
    |refine bK aa G8.F ?_
    |refine rM fD ?_);go_frame)
   |(refine bY fun K hK=>?_;(refine cK (zU.F _ O) ?_;rintro e J hE;obtain⟨vt,rfl,hS1⟩:=hE;clear O;have O:=hS1;clear hS1;refine⟨_,rfl,?_⟩);refine hK.go O ?_;clear hK K;go_frame))
  refine bO ?_;go_wp2;refine aF.F _ _ ?_;clear aF;go_wp2;go_ret;rw[dx.F];exact⟨rfl,R,HRR.F,iG.F _ _ _ (xY.F _ _ O)⟩
 have hf:tot<=(bT S.U nb).length:=by omega
 have HF:=Z (show fq l<=(bT S.U S.sup.blocks.toNat).length by rw[lg.F,qF.F];exact hf);have htk:(bT S.U nb).take tot=dW S l:=by unfold dW;rw[lg.F,qF.F]
 have zU:=Z (fun w (h:Sat W w (Cs pw 96 (bE pe S.sup (.slice (some ⟨fb,fo,none⟩) 128 fc) S.aB r g)::IsMap (.slice (some ⟨fb,fo,none⟩) 128 fc) S.U::Tb 100 3 rv r S.recs::Ir g gs::Cs pe 68 [.slice iI nb gF,v2, .bool R.armed, .int .i64 R.left, .bool R.dead]::Tb 9 1 iF (.slice iI nb gF) R.L::Tb 150 2 wv v2 R.Log::L))=>(OL h S.U fb fo fc nb tot n2 (by omega) (qy hz1)).mono (fun e w' hE=>(show ∃v,e= .returned (.tuple #[v, .bool true])/\Sat W w' (Ir v (dW S l)::Cs pw 96 (bE pe S.sup (.slice (some ⟨fb,fo,none⟩) 128 fc) S.aB r g)::IsMap (.slice (some ⟨fb,fo,none⟩) 128 fc) S.U::Tb 100 3 rv r S.recs::Ir g gs::Cs pe 68 [.slice iI nb gF,v2, .bool R.armed, .int .i64 R.left, .bool R.dead]::Tb 9 1 iF (.slice iI nb gF) R.L::Tb 150 2 wv v2 R.Log::L) from by
  obtain⟨v,he,H,_⟩:=hE;rw[bL hf] at he;rw[<-htk]
  exact⟨v,he,H hf⟩)))
 have mX:=Z (show(dW S l).length=tot by rw[IG HF.F,lg.F]);clear hno hnb hbl n2 hf htk;go_wp2
 (refine cB (pO [0,1,2]<|rO [3]<|pO [4,5,6]<|rO [7]<|pO [8,9]<|rO [10]<|pO [11,12]<|aO [13]<|pO [14,15,16,17,18]<| .e) [] O ?_;clear O;intro J O)
 repeat (first
  |(refine bG O ?_;go_frame)
  |(refine bR O ?_;(first
   |refine bK aa G0.F ?_
   |refine bK aa G8.F ?_
   |refine rM fD ?_);go_frame)
  |(refine bY fun K hK=>?_;(refine cK (zU.F _ O) ?_;rintro e J hE;obtain⟨vt,rfl,hS1⟩:=hE;clear O;have O:=hS1;clear hS1;refine⟨_,rfl,?_⟩);refine hK.go O ?_;clear hK K;go_frame))
 refine bO ?_;go_wp2;refine aF.F _ _ ?_;clear aF zU;have h9:=xY.F _ _ (show Sat W _ (Cs pw 96 (bE pe S.sup (.slice (some ⟨fb,fo,none⟩) 128 fc) S.aB r g)::IsMap (.slice (some ⟨fb,fo,none⟩) 128 fc) S.U::Tb 100 3 rv r S.recs::Ir g gs::Cs pe 68 [.slice iI nb gF,v2, .bool R.armed, .int .i64 R.left, .bool R.dead]::Tb 9 1 iF (.slice iI nb gF) R.L::Tb 150 2 wv v2 R.Log::Ir vt (dW S l)::L) from O.re [1,2,3,4,5,6,7,0]);have hS2:Sat W _ (Ir vt (dW S l)::Cs pw 96 (bE pe S.sup (.slice (some ⟨fb,fo,none⟩) 128 fc) S.aB r g)::IsMap (.slice (some ⟨fb,fo,none⟩) 128 fc) S.U::Tb 100 3 rv r S.recs::Ir g gs::aW pe R::L):=h9.re [5];clear O h9;have O:=hS2;clear hS2;obtain⟨at_,ct,rfl,_⟩:=O.mg aa;rw[mX.F] at O ⊢;refine qP ?_;refine qP ?_;refine qP ?_;refine qP ?_;refine pV (Ou W L pw pe tot S gs R l next shown aq j cq (.slice (some ⟨fb,fo,none⟩) 128 fc) r g (.slice at_ tot ct)) (fun KX aF=>?_) ?_
 ·go_wp2;refine aF.F _ _ ?_;unfold Ou;exact⟨O,rfl⟩
 clear O;exact fun a w h=>(alA Jg.F shown HF.F h).use Tryz.func48 rfl rfl
theorem alG {pw pe k:Nat} {S:aK} {gs:List Nat} {D:aG} {R:dh} (hok:bA D.blocks S gs) (O:Sat W w (dz pw pe S gs::aW pe R::L)) (hR:Rel D R) (hD:DG D k)
  (l:List aT) (hk:k+fq l<=80000) (next:Int) (shown:Bool) (aq:Option Addr) (cq:Nat) (hr:∀w L',Sat W w (L'++L)->Gg w (.slice aq l.length cq) l):
  Calls Tryz.prog 48 #[.pointer (some ⟨pw,0,none⟩), .slice aq l.length cq, .int .i64 next, .bool shown] w fun e w'=>Er W L pw pe gs (iQ S D l next shown) e w':=by
 have bq:=Z hok;have HD:=Z hD;have HR:=Z hr;have HRR:=Z hR;have HK:=Z hk;have eH:=Z hok.x;obtain⟨fv,r,g,O⟩:=dz.open O
 have Jc:=Z (fun w (h:Sat W w (Cs pw 96 (bE pe S.sup fv S.aB r g)::IsMap fv S.U::Tb 100 3 rv r S.recs::Ir g gs::aW pe R::L))=>amv h l aq cq (fun w L' h=>hr w (L'++[_,_,_,_,_]) (by rw[dX];exact h)));have zT:=Z (fun w (h:Sat W w (Cs pw 96 (bE pe S.sup fv S.aB r g)::IsMap fv S.U::Tb 100 3 rv r S.recs::Ir g gs::aW pe R::L))=>hr w [_,_,_,_,_] h);have iG:=Z (fun w M R (h:Sat W w (Cs pw 96 (bE pe S.sup fv S.aB r g)::IsMap fv S.U::Tb 100 3 rv r S.recs::Ir g gs::aW pe R::M))=>show Sat W w (dz pw pe S gs::aW pe R::M) from dz.mk h);obtain⟨_,_,he,hc1,hc2,_,h5⟩:=(hr w [_,_,_,_,_] O).1;obtain⟨rfl,rfl⟩:=gq he;have H5:=Z h5;obtain⟨ln,hln⟩:=au l.length;have aM:=Z hln;have pM:(ln:Int)<=9223372036854775807:=by omega
 rw[hln] at Jc ⊢;obtain⟨sn,hsn⟩:=au S.sup.next
 have y9:=Z (show(bE pe S.sup fv S.aB r g)[6]? =some (.int .i64 sn) by rw[Ch (by decide),<-hsn];rfl);have hcb:sj S l next=(decide (next<sn) || (decide (16777215<next) || !(wo l&&CZ S l))):=by unfold sj;rw[hsn,abM]
 obtain⟨c1,I⟩:=au (decide (next<sn));obtain⟨c2,H⟩:=au (decide (16777215<next));obtain⟨c3,h3⟩:=au (wo l);rw[I,H,h3] at hcb;rw[h3] at Jc;have oM:=Z hcb;have Ql:=Z h3;have rq:=Z hsn;clear hok hD hr hR hk h5 hc1 hc2 hln hcb h3 hsn;go_enter Tryz.func48,Tryz.ntmps48;refine qP ?_;refine dK (fun KX aF=>?_)
 cases c1 with
 |true=>
  have HBAD:=Z (EH (D:=D) (shown:=shown) (oM.F.trans rfl))
  go_wp2_with (refine aH O aa y9.F ?_)
  go_ret;rw[HBAD.F];exact⟨rfl,R,HRR.F,iG.F _ _ _ O⟩
 |false=>
 cases c2 with
 |true=>
  have HBAD:=Z (EH (D:=D) (shown:=shown) (oM.F.trans rfl))
  go_wp2_with (refine aH O aa y9.F ?_)
  go_ret;rw[HBAD.F];exact⟨rfl,R,HRR.F,iG.F _ _ _ O⟩
 |false=>
 cases c3 with
 |false=>
  have HBAD:=Z (EH (D:=D) (shown:=shown) (oM.F.trans rfl))
  go_wp2_with (first
   |(refine aH O aa y9.F ?_)
   |(go_at_call 91;refine ak (Jc.F _ O) ?_;clear O;intro J O))
  go_ret;rw[HBAD.F];exact⟨rfl,R,HRR.F,iG.F _ _ _ O⟩
 |true=>
 go_wp2_with (first
  |(refine aH O aa y9.F ?_)
  |(go_at_call 91;refine ak (Jc.F _ O) ?_;clear O;intro J O))
 refine aF.F _ _ ?_;clear aF Jc y9;have Qr:=Z (of_decide_eq_false I);have Qs:=Z (of_decide_eq_false H);clear I H
 -- how many
 have iC:=Z (show ∀x∈l,(bX x).length=40 from fun x V=>AJ ((zT.F _ O).2 x V).pl);have eX:=Z (show ∀x∈l,x.ino.ptrs.length=32 from fun x V=>((zT.F _ O).2 x V).pl);refine dK (fun KX HKY=>?_);go_wp2;refine HKY.F _ _ ?_;clear HKY;refine dK (fun KX aF=>?_);have H0:=Z (show VY W (Cs pw 96 (bE pe S.sup fv S.aB r g)::IsMap fv S.U::Tb 100 3 rv r S.recs::Ir g gs::aW pe R::L) l (.int .i64 0) (.int .i64 0) _ from⟨0,rfl,rfl,eG _,O⟩);clear O;go_wp2;go_loopw [10,9] (fun v10 v9 wz=>VY W (Cs pw 96 (bE pe S.sup fv S.aB r g)::IsMap fv S.U::Tb 100 3 rv r S.recs::Ir g gs::aW pe R::L) l v10 v9 wz) (fun v10 _ _=>iV ln v10)
 case atStart=>exact H0.F
 case round=>
  clear H0;obtain⟨i,rfl,rfl,hi,O⟩:=hrel;rw[aM.F] at hi
  by_cases hlt:i<ln
  ·have k1:(i:Int)< (ln:Int):=by omega
   have ay:=Z hlt;obtain⟨pb,po,rfl,_⟩:=H5.F (by have:=aM.F;omega);obtain⟨x,V⟩:∃x,l[i]? =some x:=⟨_,aR (by have:=aM.F;omega)⟩
   have dD:=Z V;have hrs:=zT.F _ O;have iY:=Z hrs.1;have hsx:=hrs.2 x (bJ V);have jf:=Z (FI hsx.pl);obtain⟨ap,cp,hpv⟩:∃ao c,x.nP= .slice ao x.pieces.length c:=by obtain⟨ao,c,he,_⟩:=hsx.p;exact⟨ao,c,he⟩
   obtain⟨np,fT⟩:=au x.pieces.length;obtain⟨kH,hof⟩:=au (jG l i);have hsum:=Ii V;have nI:=Z (zF V);rw[hof,fT] at hsum nI;have hs1:(kH:Int)+(np:Int)<=80000:=by have:=HK.F;omega
   rw[hpv,fT] at jf;rw[hof];clear hlt hi V hrs hsx hpv fT hof hsum
   go_wp2_with (refine bN (fE (f:=bX) (x:=x) iY.F iC.F _ _ (by rfl) _ (by rfl) (aI (by rfl)) i 38 (by omega) dD.F jf.F (by have:=ay.F;have:=aM.F;omega)) ?_)
   exact⟨⟨i+1,by go_num,by rw[nI.F];go_num,by rw[aM.F];exact ay.F,O⟩,fZ ay.F⟩
  ·obtain rfl:i=ln:=by omega
   have k1:¬(i:Int)< (i:Int):=by omega
   have hot:jG l i=fq l:=by rw[<-aM.F,Fh]
   rw[hot];clear hlt hi hot;go_wp2;refine aF.F _ _ ?_;clear aF;obtain⟨tot,htot⟩:=au (fq l);have lg:=Z htot;rw[htot];have hti:(tot:Int)<=80000:=by have:=HK.F;omega
   clear htot
   -- do they fit
   refine pV (Ot W L pw pe tot S gs R l next shown aq i cq fv r g) (fun KX aF=>?_) ?_;rotate_left
   ·clear O;exact fun a w h=>(alz {ok:=bq.F,rel:=HRR.F,dg:=HD.F,kt:=by rw[<-lg.F];exact HK.F,rd:=HR.F,Ms:=fun h=>by obtain⟨b,o,e,_⟩:=H5.F h;exact⟨b,o,e,trivial⟩,lb:=pM,ln:=aM.F,pl:=eX.F,may:=Ql.F,nx1:=by have:=Qr.F;rw[rq.F];omega,nx2:=by have:=Qs.F;omega,tot:=lg.F,right:=h.1.1.1,bad:=h.1.1.2} shown h).use Tryz.func48 rfl rfl
   have H0:=Z (show VW W (Cs pw 96 (bE pe S.sup fv S.aB r g)::IsMap fv S.U::Tb 100 3 rv r S.recs::Ir g gs::aW pe R::L) S l (.int .i64 0) _ from⟨0,rfl,eG _,fun j x hj=>absurd hj (qd _),O⟩);clear O;go_wp2;go_loopw [11] (fun v11 wz=>VW W (Cs pw 96 (bE pe S.sup fv S.aB r g)::IsMap fv S.U::Tb 100 3 rv r S.recs::Ir g gs::aW pe R::L) S l v11 wz) (fun v11 _=>iV i v11)
   case atStart=>exact H0.F
   case round=>
    clear H0;obtain⟨j,rfl,hj,hall,O⟩:=hrel;rw[aM.F] at hj;have jE:=Z hall;clear hall
    by_cases hlt:j<i
    ·have k1:(j:Int)< (i:Int):=by omega
     have ay:=Z hlt;obtain⟨pb,po,rfl,_⟩:=H5.F (by have:=aM.F;omega);obtain⟨x,V⟩:∃x,l[j]? =some x:=⟨_,aR (by have:=aM.F;omega)⟩
     have dD:=Z V;have hxm:=bJ V;have hmx:=(aai Ql.F).2 j x V;have hsx:=(zT.F _ O).2 x hxm
     obtain⟨n,hn,Ns⟩:∃n:Nat,x.at_=(n:Int)/\n<48:=by
      unfold uE at hmx;simp only[ed,Bool.not_eq_eq_eq_not,Bool.not_true,decide_eq_false_iff_not] at hmx;exact⟨x.at_.toNat,by omega,by omega⟩
     have aiV:x.data.length=x.pieces.length:=by
      unfold uE at hmx;simp only[ed,beq_iff_eq] at hmx;exact hmx.2.1
     obtain⟨y,hy⟩:∃y,S.aB[n]? =some y:=⟨_,aR (by rw[eH.F.len];exact Ns)⟩
     have yA:=eH.F.ok y (bJ hy);have hyv:pQ S x=y:=by unfold pQ;rw[hn,fu,hy];rfl
     have n48:(n:Int)<48:=by omega
     have G0:=Z (show(bX x)[0]? =some (.int .i64 (n:Int)) by rw[<-hn];rfl);have jf:=Z (FI hsx.pl);have qW:=Z (OW hsx.pl);have zb:=Z hsx.pl;have qg:=Z hsx.s1;have HS2:=Z hsx.s2;obtain⟨ap,cp,hpv⟩:∃ao c,x.nP= .slice ao x.pieces.length c:=by obtain⟨ao,c,he,_⟩:=hsx.p;exact⟨ao,c,he⟩
     have Hm:x.pieces.length<=9223372036854775807:=by
      obtain⟨_,_,he,I,H,_⟩:=hsx.p;omega
     obtain⟨np,fT⟩:=au x.pieces.length;rw[hpv,fT] at jf;rw[fT] at Hm;have qH:=Z fT;have uR:=Z hpv;have ru:=Z hxm
     have wW:=Z (show ∀w M,Sat W w (M++L)->Rd w (.slice ap np cp) np 1 (pv x.pieces) from fun w M h=>by
      have:=((HR.F w M h).2 x ru.F).p;rw[uR.F,qH.F] at this
      exact this)
     have hfx:C8 S x=lX y x.ino x.pieces (iR y.ptrs np):=by unfold C8;rw[hyv,fT]
     have oU:=Z (Un (pd:=pe) (s:=S.sup) (fv:=fv) (r:=r) (last:=g) eH.F hy);have q8:=Z (fun w M (h:Sat W w M)=>amj h y yA np Hm);have dJ:=Z (fun w vo (M:List aA) (h:Sat W w (Ir vo (iR y.ptrs np)::(M++L)))=>abP h y x.ino yA zb.F qg.F HS2.F x.pieces (iR y.ptrs np) ap vo cp qH.F (fun w L' h=>wW.F w (L'++(Ir vo (iR y.ptrs np)::M)) (by rw[dX];exact h)) (fun w L' h=>h.oG (has_add aa L')));have wT:=Z (show(inv y).length=37 by rw[fe,yA.pl]);have wS:=Z (show(inv x.ino).length=37 by rw[fe,zb.F]);obtain⟨iy,vY⟩:=au (inv y);obtain⟨ix,hix⟩:=au (inv x.ino);rw[vY] at oU wT;rw[hix] at qW wS;obtain⟨ok,hok⟩:=au (lX y x.ino x.pieces (iR y.ptrs np));rw[hok] at hfx;have Vi:=Z hfx;have tZ:=Z (inv_one (jF y x.ino x.pieces (iR y.ptrs np)));have jh:=Z (show(inv (jF y x.ino x.pieces (iR y.ptrs np))).length=37 by rw[fe,Dp]);have HZ1:=Z (inv_one bC);have fQ:=Z (show(inv bC).length=37 from rfl)
     have wU:=Z (fun(ht:ok=true) w vo M (h:Sat W w (Ir vo (iR y.ptrs np)::(M++L)))=>(dJ.F w vo M h).mono (fun e w' (hE:zY W _ _ _ _ _ e w')=>(show ∃vg,e= .returned (.tuple #[.agg (inv (jF y x.ino x.pieces (iR y.ptrs np))).toArray,vg, .bool true])/\Sat W w' (Ir vg (nu y (jF y x.ino x.pieces (iR y.ptrs np)) 32)::Ir vo (iR y.ptrs np)::(M++L)) from by
      rcases hE with⟨_,h⟩|⟨hn,_⟩
      ·exact h
      ·rw[hok,ht] at hn
       exact absurd hn (by decide))))
     have za:=Z (fun(ht:ok=false) w vo M (h:Sat W w (Ir vo (iR y.ptrs np)::(M++L)))=>(dJ.F w vo M h).mono (fun e w' (hE:zY W _ _ _ _ _ e w')=>(show e= .returned (.tuple #[.agg (inv bC).toArray, .slice none 0 0, .bool false])/\Sat W w' (Ir vo (iR y.ptrs np)::(M++L)) from by
      rcases hE with⟨hn,_⟩|⟨_,h⟩
      ·rw[hok,ht] at hn;exact absurd hn (by decide)
      ·exact h)))
     rw[vY,hix] at wU za;rw[vY] at q8;obtain⟨gone,vX⟩:=au (nu y (jF y x.ino x.pieces (iR y.ptrs np)) 32);obtain⟨ni,hni⟩:=au (inv (jF y x.ino x.pieces (iR y.ptrs np)));obtain⟨zi,hzi⟩:=au (inv bC);rw[hni] at wU tZ jh;rw[vX] at wU;rw[hzi] at za HZ1 fQ;clear hj hlt V hxm hmx hsx hn Ns aiV hy yA hyv hpv Hm fT hfx vY hix hok vX hni hzi dJ
     cases ok with
     |true=>
      have dJ:=Z (wU.F rfl);clear wU za;go_wp2
      (refine ll (pO [0,1,2]<|tO [3]<|pO [4]<|rO [5]<|pO [6,7]<|tO [8]<|rO [9]<|pO [10,11]<|tO [12]<|pO [13]<|rO [14]<|pO [15,16]<|tO [17]<|pO [18]<|rO [19]<|pO [20,21,22]<|tO [23]<|pO [24]<|rO [25]<|pO [26,27]<|tO [28]<|rO [29]<|pO [30,31]<|tO [32]<|pO [33]<|rO [34]<|pO [35]<| .m 36 42 (.m 37 42 (pO [38,39,40,41]<|aO [42]<| .e) (aO [37]<|pO [38,39,40,41]<| .e)) (aO [36]<|aO [37]<|pO [38,39,40,41]<| .e)) [43] O (fun _ h=>h) ?_;clear O;intro J O)
      repeat (first
       |(refine bG O ?_ (hL:=fun _ h=>by first|exact h|exact h|(first|exact h|exact h.drop|exact h.drop.drop|exact h.drop.drop.drop));go_frame)
       |(refine oI O ?_ (hL:=fun _ h=>by first|exact h|exact h|(first|exact h|exact h.drop|exact h.drop.drop|exact h.drop.drop.drop));apply Exists.intro;apply And.intro;(intro w;first|go_simp;rw[if_pos (by omega)]|(go_simp;try with_reducible rfl));go_frame)
       |(refine bR O ?_ (hL:=fun _ h=>by first|exact h|exact h|(first|exact h|exact h.drop|exact h.drop.drop|exact h.drop.drop.drop));(first
             |refine⟨_,fun u hu=>fE (f:=bX) (x:=x) (zT.F u hu).1 iC.F _ _ (by rfl) _ (by rfl) (aI (by rfl)) j 0 (by omega) dD.F G0.F (by have:=ay.F;have:=aM.F;omega),?_⟩
             |refine⟨_,fun u hu=>fE (f:=bX) (x:=x) (zT.F u hu).1 iC.F _ _ (by rfl) _ (by rfl) (aI (by rfl)) j 38 (by omega) dD.F jf.F (by have:=ay.F;have:=aM.F;omega),?_⟩
             |refine lY aa iy ?_ (hvs:=oU.F) (hb:=wT.F)
             |refine⟨_,fun u hu=>Dw (f:=bX) (x:=x) (zT.F u hu).1 iC.F _ _ (by rfl) _ (by rfl) (aI (by rfl)) (bz (by rfl)) j 1 (by omega) dD.F (vs:=ix) qW.F wS.F (by have:=ay.F;have:=aM.F;omega),?_⟩);go_frame))
      revert O;apply Ca (aO [43]<|pO [44,45]<| .e) (fun(vC _b2 _b3:Nat) (vo vg _v3:Value) w'=>Sat W w' (Cs vC 78 (List.replicate 37 (.int .i64 0))::Ir vg gone::Ir vo (iR y.ptrs np)::Cs pw 96 (bE pe S.sup fv S.aB r g)::IsMap fv S.U::Tb 100 3 rv r S.recs::Ir g gs::aW pe R::L)) (Cs pw 96 (bE pe S.sup fv S.aB r g)::IsMap fv S.U::Tb 100 3 rv r S.recs::Ir g gs::aW pe R::L)
      case I=>
       intro hJ O
       repeat' (first
        |(refine bG O ?_ (hL:=fun _ h=>by first|exact h|exact h|(first|exact h|exact h.drop|exact h.drop.drop|exact h.drop.drop.drop));go_frame)
          |(refine bY fun K hK=>?_;(first|(refine dst 108 ?_;refine cK (q8.F _ _ O) ?_;clear O;rintro e J ⟨vo,rfl,O⟩;refine⟨_,rfl,?_⟩)|(refine dst 109 ?_;(first|refine cK (dJ.F _ _ [_,_,_,_,_] O) ?_|refine cK (dJ.F _ _ [_,_,_,_,_,_] O.bW) ?_|refine cK (dJ.F _ _ [_,_,_,_,_,_] O) ?_);clear O;rintro e J ⟨vg,rfl,O⟩;refine⟨_,rfl,?_⟩)|(refine dst 12 ?_;refine uW O ?_;clear O;intro vC J O;rw[aS] at O));refine hK.up O ?_ (.inr ⟨rfl,fun _ h=>by first|exact h|exact h.drop|exact h.drop.drop|exact h.drop.drop.drop⟩);clear hK K;go_frame)
          |(refine Cc ?_ ?_<;>(intro K hK;(first|(refine dst 108 ?_;refine cK (q8.F _ _ O) ?_;clear O;rintro e J ⟨vo,rfl,O⟩;refine⟨_,rfl,?_⟩)|(refine dst 109 ?_;(first|refine cK (dJ.F _ _ [_,_,_,_,_] O) ?_|refine cK (dJ.F _ _ [_,_,_,_,_,_] O.bW) ?_|refine cK (dJ.F _ _ [_,_,_,_,_,_] O) ?_);clear O;rintro e J ⟨vg,rfl,O⟩;refine⟨_,rfl,?_⟩)|(refine dst 12 ?_;refine uW O ?_;clear O;intro vC J O;rw[aS] at O));refine hK.up O ?_ (.inr ⟨rfl,fun _ h=>by first|exact h|exact h.drop|exact h.drop.drop|exact h.drop.drop.drop⟩);clear hK K;go_frame))
          |(refine Cb ?_;refine(fun(g:Nat->Nat->Value->Value->_)=>g 0 0 (.slice none 0 0) (.slice none 0 0)) ?_;intro x2 x3 y2 y3;first|exact hJ vC x2 x3 vo vg y3 _ O|exact hJ vC x2 x3 vo vg y3 _ (O.re [2,0,1])|exact hJ vC x2 x3 vo vg y3 _ (O.re [1,0])))
      intro vC _ _ vo vg _ J O
      repeat (first
       |(refine bG O ?_ (hL:=fun _ h=>by first|exact h|exact h|(first|exact h|exact h.drop|exact h.drop.drop|exact h.drop.drop.drop));go_frame)
       |(refine bY fun K hK=>?_;(refine DF ni O aa ?_ (hv:=tZ.F) (hn:=by rw[jh.F];exact bz (by rfl)) (hb:=by rw[jh.F];rfl);clear O;intro J O;dsimp only[aD,aN] at O);first|refine hK.up O ?_|refine hK.up O ?_ (.inr ⟨rfl,fun _ h=>by first|exact h|exact h.drop|exact h.drop.drop|exact h.drop.drop.drop⟩);clear hK K;go_frame))
      refine bO ?_;go_wp2
      exact⟨⟨j+1,by go_num,by rw[aM.F];exact ay.F,fun m z hm hz=>by
       by_cases e:m=j
       ·subst e;rw[dD.F] at hz;rw[<-ig hz];exact Vi.F
       ·exact jE.F m z (by omega) hz,O.drop.drop.drop⟩,fZ ay.F⟩
     |false=>
      have dJ:=Z (za.F rfl);clear wU za;go_wp2
      (refine ll (pO [0,1,2]<|tO [3]<|pO [4]<|rO [5]<|pO [6,7]<|tO [8]<|rO [9]<|pO [10,11]<|tO [12]<|pO [13]<|rO [14]<|pO [15,16]<|tO [17]<|pO [18]<|rO [19]<|pO [20,21,22]<|tO [23]<|pO [24]<|rO [25]<|pO [26,27]<|tO [28]<|rO [29]<|pO [30,31]<|tO [32]<|pO [33]<|rO [34]<|pO [35]<| .m 36 42 (.m 37 42 (pO [38,39,40,41]<|aO [42]<| .e) (aO [37]<|pO [38,39,40,41]<| .e)) (aO [36]<|aO [37]<|pO [38,39,40,41]<| .e)) [43] O (fun _ h=>h) ?_;clear O;intro J O)
      repeat (first
       |(refine bG O ?_ (hL:=fun _ h=>by first|exact h|exact h|(first|exact h|exact h.drop|exact h.drop.drop|exact h.drop.drop.drop));go_frame)
       |(refine oI O ?_ (hL:=fun _ h=>by first|exact h|exact h|(first|exact h|exact h.drop|exact h.drop.drop|exact h.drop.drop.drop));apply Exists.intro;apply And.intro;(intro w;first|go_simp;rw[if_pos (by omega)]|(go_simp;try with_reducible rfl));go_frame)
       |(refine bR O ?_ (hL:=fun _ h=>by first|exact h|exact h|(first|exact h|exact h.drop|exact h.drop.drop|exact h.drop.drop.drop));(first
             |refine⟨_,fun u hu=>fE (f:=bX) (x:=x) (zT.F u hu).1 iC.F _ _ (by rfl) _ (by rfl) (aI (by rfl)) j 0 (by omega) dD.F G0.F (by have:=ay.F;have:=aM.F;omega),?_⟩
             |refine⟨_,fun u hu=>fE (f:=bX) (x:=x) (zT.F u hu).1 iC.F _ _ (by rfl) _ (by rfl) (aI (by rfl)) j 38 (by omega) dD.F jf.F (by have:=ay.F;have:=aM.F;omega),?_⟩
             |refine lY aa iy ?_ (hvs:=oU.F) (hb:=wT.F)
             |refine⟨_,fun u hu=>Dw (f:=bX) (x:=x) (zT.F u hu).1 iC.F _ _ (by rfl) _ (by rfl) (aI (by rfl)) (bz (by rfl)) j 1 (by omega) dD.F (vs:=ix) qW.F wS.F (by have:=ay.F;have:=aM.F;omega),?_⟩);go_frame))
      revert O;apply Ca (aO [43]<|pO [44,45]<| .e) (fun(vC _b2 _b3:Nat) (vo _vg _v3:Value) w'=>Sat W w' (Cs vC 78 (List.replicate 37 (.int .i64 0))::Ir vo (iR y.ptrs np)::Cs pw 96 (bE pe S.sup fv S.aB r g)::IsMap fv S.U::Tb 100 3 rv r S.recs::Ir g gs::aW pe R::L)) (Cs pw 96 (bE pe S.sup fv S.aB r g)::IsMap fv S.U::Tb 100 3 rv r S.recs::Ir g gs::aW pe R::L)
      case I=>
       intro hJ O
       repeat' (first
        |(refine bG O ?_ (hL:=fun _ h=>by first|exact h|exact h|(first|exact h|exact h.drop|exact h.drop.drop|exact h.drop.drop.drop));go_frame)
          |(refine bY fun K hK=>?_;(first|(refine dst 108 ?_;refine cK (q8.F _ _ O) ?_;clear O;rintro e J ⟨vo,rfl,O⟩;refine⟨_,rfl,?_⟩)|(refine dst 109 ?_;(first|refine cK (dJ.F _ _ [_,_,_,_,_] O) ?_|refine cK (dJ.F _ _ [_,_,_,_,_,_] O.bW) ?_|refine cK (dJ.F _ _ [_,_,_,_,_,_] O) ?_);clear O;rintro e J ⟨rfl,O⟩;refine⟨_,rfl,?_⟩)|(refine dst 12 ?_;refine uW O ?_;clear O;intro vC J O;rw[aS] at O));refine hK.up O ?_ (.inr ⟨rfl,fun _ h=>by first|exact h|exact h.drop|exact h.drop.drop|exact h.drop.drop.drop⟩);clear hK K;go_frame)
          |(refine Cc ?_ ?_<;>(intro K hK;(first|(refine dst 108 ?_;refine cK (q8.F _ _ O) ?_;clear O;rintro e J ⟨vo,rfl,O⟩;refine⟨_,rfl,?_⟩)|(refine dst 109 ?_;(first|refine cK (dJ.F _ _ [_,_,_,_,_] O) ?_|refine cK (dJ.F _ _ [_,_,_,_,_,_] O.bW) ?_|refine cK (dJ.F _ _ [_,_,_,_,_,_] O) ?_);clear O;rintro e J ⟨rfl,O⟩;refine⟨_,rfl,?_⟩)|(refine dst 12 ?_;refine uW O ?_;clear O;intro vC J O;rw[aS] at O));refine hK.up O ?_ (.inr ⟨rfl,fun _ h=>by first|exact h|exact h.drop|exact h.drop.drop|exact h.drop.drop.drop⟩);clear hK K;go_frame))
          |(refine Cb ?_;refine(fun(g:Nat->Nat->Value->Value->_)=>g 0 0 (.slice none 0 0) (.slice none 0 0)) ?_;intro x2 x3 y2 y3;first|exact hJ vC x2 x3 vo y2 y3 _ O|exact hJ vC x2 x3 vo y2 y3 _ (O.re [2,0,1])|exact hJ vC x2 x3 vo y2 y3 _ (O.re [1,0])))
      intro vC _ _ vo vg _ J O
      repeat (first
       |(refine bG O ?_ (hL:=fun _ h=>by first|exact h|exact h|(first|exact h|exact h.drop|exact h.drop.drop|exact h.drop.drop.drop));go_frame)
       |(refine bY fun K hK=>?_;(refine DF zi O aa ?_ (hv:=HZ1.F) (hn:=by rw[fQ.F];exact bz (by rfl)) (hb:=by rw[fQ.F];rfl);clear O;intro J O;dsimp only[aD,aN] at O);first|refine hK.up O ?_|refine hK.up O ?_ (.inr ⟨rfl,fun _ h=>by first|exact h|exact h.drop|exact h.drop.drop|exact h.drop.drop.drop⟩);clear hK K;go_frame))
      refine bO ?_;go_wp2;go_ret;rw[EH (D:=D) (shown:=shown) (oM.F.trans (by rw[ahD ru.F Vi.F];rfl))];exact⟨rfl,R,HRR.F,iG.F _ _ _ O.drop.drop⟩
    ·obtain rfl:j=i:=by omega
     have k1:¬(j:Int)< (j:Int):=by omega
     have P8:=Z (ahE (S:=S) (l:=l) (fun x V=>by
      obtain⟨m,hm⟩:=jJ V
      exact jE.F m x (by have:=(bZ.1 hm).1;have:=aM.F;omega) hm))
     have rW:=Z (show jT S l=true by rw[abM,Ql.F,P8.F];rfl);have HB:=Z (show sj S l next=false from oM.F.trans (by rw[P8.F];rfl));clear hlt hj jE P8;go_wp2;refine aF.F _ _ ?_;unfold Ot;exact⟨⟨⟨rW.F,HB.F⟩,O⟩,rfl⟩
end Go.Proofs.YtjbiihbicknemaaGreat
