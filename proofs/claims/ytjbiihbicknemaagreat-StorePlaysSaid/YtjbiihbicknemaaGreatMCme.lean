/-
  Part of the proof of StoreWhole.
-/
import Derived.Test.YtjbiihbicknemaaGreatMArg
import Derived.Test.YtjbiihbicknemaaGreatSrNext
import Derived.Test.YtjbiihbicknemaaGreatStGrow
set_option linter.unusedSimpArgs false
set_option linter.unusedVariables false
set_option maxRecDepth 20000
set_option maxHeartbeats 40000000
namespace Go.Proofs.YtjbiihbicknemaaGreat
open Go.RowKit Go.Sep
variable {W w:World} {L:List aA}
attribute [local irreducible] Oper.wp wpList Calls Code.wp Sep.dR
theorem abP (O:Sat W w L) (old now:aL) (ho:kD old) (hn:now.ptrs.length=32) (hs1: -9223372036854775808<=now.size) (hs2:now.size<=9223372036854775807) (pieces:List Int) (taken:List Nat) (ap:Option Addr) (tv:Value) (cp:Nat) {np:Nat} (fT:pieces.length=np)
  (zw:∀w L',Sat W w (L'++L)->Rd w (.slice ap np cp) np 1 (pv pieces)) (hrt:∀w L',Sat W w (L'++L)->Rd w tv taken.length 1 (iv taken)):
  Calls Tryz.prog 92 #[.agg (inv old).toArray, .agg (inv now).toArray, .slice ap np cp,tv] w fun e w'=>zY W L old now pieces taken e w':=by
 subst fT;obtain⟨at_,ct,rfl,_⟩:=hrt w [] O;exact amx O old now ho hn hs1 hs2 pieces taken ap at_ cp ct zw hrt
theorem anE (s:di) (x:Int):(sv s).set 5 (.int .i64 x)=sv {s with next:=x} :=rfl
def RcT (pw pe:Nat) (S:aK) (gs:List Nat) (R:dh) (fv r g:Value):List aA:=[Cs pw 96 (bE pe S.sup fv S.aB r g),IsMap fv S.U,Tb 100 3 rv r S.recs,Ir g gs,aW pe R]
def VY (W:World) (M:List aA) (l:List aT) (v10 v9:Value) (wz:World):Prop:=
 ∃i:Nat,v10= .int .i64 (i:Int)/\v9= .int .i64 ((jG l i:Nat):Int)/\i<=l.length/\Sat W wz M
def VW (W:World) (M:List aA) (S:aK) (l:List aT) (v11:Value) (wz:World):Prop:=
 ∃i:Nat,v11= .int .i64 (i:Int)/\i<=l.length/\(∀j x,j<i->l[j]? =some x->C8 S x=true)/\Sat W wz M
def VX (W:World) (L:List aA) (pw pe:Nat) (S:aK) (gs:List Nat) (R:dh) (l:List aT) (fv r g vt:Value) (v21 v20 v17 v18 v19:Value) (wz:World):Prop:=
 ∃j:Nat,v21= .int .i64 (j:Int)/\v20= .int .i64 ((jG l j:Nat):Int)/\j<=l.length/\
  Sat W wz (Ir v17 (gN S l j)::Tb 78 37 inv v18 (jS S l j)::Tb 150 2 dS v19 (jq S l j)::Ir vt (dW S l)::Cs pw 96 (bE pe S.sup fv S.aB r g)::IsMap fv S.U::Tb 100 3 rv r S.recs::Ir g gs::aW pe R::L)
def Ov (W:World) (L:List aA) (pw pe tot:Nat) (S:aK) (gs:List Nat) (R:dh) (l:List aT) (next:Int) (shown:Bool) (aq:Option Addr) (ln cq:Nat) (fv r g vt v17 v18 v19:Value):Act->World->Prop:=(fun(a':Act) (w':World)=>(¬(l=[]/\lq S next shown=S.sup)/\Sat W w' (Ir v17 (gN S l l.length)::Tb 78 37 inv v18 (jS S l l.length)::Tb 150 2 dS v19 (jq S l l.length)::Ir vt (dW S l)::Cs pw 96 (bE pe S.sup fv S.aB r g)::IsMap fv S.U::Tb 100 3 rv r S.recs::Ir g gs::aW pe R::L))/\xQ 350 [(0, .pointer (some ⟨pw,0,none⟩)),(1, .slice aq ln cq),(2, .int .i64 next),(3, .bool shown),(9, .int .i64 ((tot:Nat):Int)),(15,vt),(17,v17),(18,v18),(19,v19)] a')
def V9 (W:World) (M:List aA) (pe:Nat) (S:aK) (D:aG) (l:List aT) (v29 v20:Value) (wz:World):Prop:=
 ∃(i:Nat) (D1:aG) (R1:dh),v29= .int .i64 (i:Int)/\v20= .int .i64 ((jG l i:Nat):Int)/\i<=l.length/\bH D (iJ S l i)=(0,D1)/\Rel D1 R1/\Sat W wz (aW pe R1::M)
def V8 (W:World) (M:List aA) (pe:Nat) (S:aK) (D1:aG) (l:List aT) (i:Nat) (x:aT) (v30 v20:Value) (wz:World):Prop:=
 ∃(q:Nat) (D2:aG) (R2:dh),v30= .int .i64 (q:Int)/\v20= .int .i64 ((jG l i+q:Nat):Int)/\q<=x.data.length/\bH D1 (oW S l i x q)=(0,D2)/\Rel D2 R2/\Sat W wz (aW pe R2::M)
def KI (W:World) (L:List aA) (pw pe tot:Nat) (S:aK) (gs:List Nat) (R:dh) (l:List aT) (next:Int) (shown:Bool) (aq:Option Addr) (ln cq:Nat) (fv r g v18 vm:Value):Act->World->Prop:=(fun(a':Act) (w':World)=>(Sat W w' (aW pe R::Tb 150 2 dS (a'.tmps.getD 19 undef) (Cn S l)::Tb 78 37 inv v18 (jS S l l.length)::IsMap vm (gm S l)::Cs pw 96 (bE pe S.sup fv S.aB r g)::IsMap fv S.U::Tb 100 3 rv r S.recs::Ir g gs::L))/\xQ 350 [(0, .pointer (some ⟨pw,0,none⟩)),(1, .slice aq ln cq),(2, .int .i64 next),(3, .bool shown),(18,v18),(27,vm)] a')
def Ow (W:World) (L:List aA) (pw pe p32 tot:Nat) (S:aK) (gs:List Nat) (R:dh) (l:List aT) (next:Int) (shown:Bool) (aq:Option Addr) (ln cq:Nat) (fv r g v18 vm v19:Value):Act->World->Prop:=(fun(a':Act) (w':World)=>(Sat W w' (Cs p32 55 (sv {S.sup with shown:=if shown then S.sup.records else S.sup.shown})::aW pe R::Tb 150 2 dS v19 (Cn S l)::Tb 78 37 inv v18 (jS S l l.length)::IsMap vm (gm S l)::Cs pw 96 (bE pe S.sup fv S.aB r g)::IsMap fv S.U::Tb 100 3 rv r S.recs::Ir g gs::L))/\xQ 350 [(0, .pointer (some ⟨pw,0,none⟩)),(1, .slice aq ln cq),(2, .int .i64 next),(3, .bool shown),(18,v18),(19,v19),(27,vm),(32, .pointer (some ⟨p32,0,none⟩))] a')
def V4 (W:World) (M:List aA) (pw pe:Nat) (S:aK) (l:List aT) (sc:di) (fv r g:Value) (v34:Value) (wz:World):Prop:=
 ∃i:Nat,v34= .int .i64 (i:Int)/\i<=l.length/\Sat W wz (Cs pw 96 (bE pe sc fv (eP S l i) r g)::M)
def Ot (W:World) (L:List aA) (pw pe tot:Nat) (S:aK) (gs:List Nat) (R:dh) (l:List aT) (next:Int) (shown:Bool) (aq:Option Addr) (ln cq:Nat) (fv r g:Value):Act->World->Prop:=(fun(a':Act) (w':World)=>((jT S l=true/\sj S l next=false)/\Sat W w' (Cs pw 96 (bE pe S.sup fv S.aB r g)::IsMap fv S.U::Tb 100 3 rv r S.recs::Ir g gs::aW pe R::L))/\xQ 350 [(0, .pointer (some ⟨pw,0,none⟩)),(1, .slice aq ln cq),(2, .int .i64 next),(3, .bool shown),(9, .int .i64 ((tot:Nat):Int))] a')
def Ou (W:World) (L:List aA) (pw pe tot:Nat) (S:aK) (gs:List Nat) (R:dh) (l:List aT) (next:Int) (shown:Bool) (aq:Option Addr) (ln cq:Nat) (fv r g vt:Value):Act->World->Prop:=(fun(a':Act) (w':World)=>(Sat W w' (Ir vt (dW S l)::Cs pw 96 (bE pe S.sup fv S.aB r g)::IsMap fv S.U::Tb 100 3 rv r S.recs::Ir g gs::aW pe R::L))/\xQ 350 [(0, .pointer (some ⟨pw,0,none⟩)),(1, .slice aq ln cq),(2, .int .i64 next),(3, .bool shown),(9, .int .i64 ((tot:Nat):Int)),(15,vt),(17, .slice none 0 0),(18, .slice none 0 0),(19, .slice none 0 0),(20, .int .i64 0)] a')
structure Mk (W:World) (L:List aA) (pw pe k tot:Nat) (S:aK) (gs:List Nat) (D:aG) (R:dh) (l:List aT) (next:Int) (aq:Option Addr) (ln cq:Nat):Prop where
 ok:bA D.blocks S gs
 rel:Rel D R
 dg:DG D k
 kt:k+tot<=80000
 rd:∀w L',Sat W w (L'++L)->Gg w (.slice aq l.length cq) l
 Ms:0<l.length->∃b o,aq=some ⟨b,o,none⟩/\True
 lb:(ln:Int)<=9223372036854775807
 ln:l.length=ln
 pl:∀x∈l,x.ino.ptrs.length=32
 may:wo l=true
 nx1:¬next<S.sup.next
 nx2:¬16777215<next
 tot:fq l=tot
 right:jT S l=true
 bad:sj S l next=false
attribute [local irreducible] Sep.fJ
theorem alC {pw pe k tot:Nat} {S:aK} {gs:List Nat} {D:aG} {R:dh} {l:List aT} {next:Int} {aq:Option Addr} {n cq:Nat} (q:Mk W L pw pe k tot S gs D R l next aq n cq) (shown:Bool) (hF:fq l<=(bT S.U S.sup.blocks.toNat).length) (hne:¬(l=[]/\lq S next shown=S.sup)) {D1:aG} {R1:dh} (zq:bH D (iJ S l l.length)=(0,D1)) (vW:Rel D1 R1)
  {fb fo fc:Nat} {r g u18 vm:Value} {a:Act} (hinv:KI W L pw pe tot S gs R1 l next shown aq n cq (.slice (some ⟨fb,fo,none⟩) 128 fc) r g u18 vm a w):
  From Tryz.prog 48 17 (fun e w'=>Er W L pw pe gs (iQ S D l next shown) e w') a w:=by
 have bq:=Z q.ok;have HD:=Z q.dg;have HR:=Z q.rd;have HK:=Z (show k+fq l<=80000 by rw[q.tot];exact q.kt);have eH:=Z q.ok.x;have jX:=Z (show R.L=D.blocks from q.rel.blocks.symm);have iG:=Z (fun w M R (h:Sat W w (Cs pw 96 (bE pe S.sup (.slice (some ⟨fb,fo,none⟩) 128 fc) S.aB r g)::IsMap (.slice (some ⟨fb,fo,none⟩) 128 fc) S.U::Tb 100 3 rv r S.recs::Ir g gs::aW pe R::M))=>show Sat W w (dz pw pe S gs::aW pe R::M) from dz.mk h);have H5:=Z q.Ms;have aM:=Z q.ln;have pM:=q.lb;have iC:=Z (show ∀x∈l,(bX x).length=40 from fun x V=>AJ (q.pl x V));have Qr:=Z q.nx1;have Qs:=Z q.nx2;have lg:=Z q.tot;have hti:(tot:Int)<=80000:=by have:=q.kt;omega
 have rW:=Z q.right;have HB:=Z q.bad;obtain⟨nb,hnb⟩:=au R.L.length;have hbl:S.sup.blocks=(nb:Int):=by rw[<-hnb,jX.F];exact bq.F.blocks
 have n2:nb<=1024:=by rw[<-hnb,jX.F];exact bq.F.n2
 have G0:=Z (show(bE pe S.sup (.slice (some ⟨fb,fo,none⟩) 128 fc) S.aB r g)[0]? =some (.pointer (some ⟨pe,0,none⟩)) from rfl);clear hnb hbl n2;have HF:=Z hF;have oO:=Z hne;have PS:=Z zq;have Vy:=Z vW;clear q hF hne zq vW;refine From.intro Tryz.func48 rfl ?_;unfold KI at hinv;obtain⟨hrel,ha⟩:=hinv;obtain⟨z,hz⟩:∃z:Nat->Value,∀i,a.tmps.getD i undef=z i:=⟨_,fun _=>rfl⟩
 try simp only[hz] at hrel
 replace ha:=ha.at hz;simp only[mM,lh] at ha;clear hz;subst ha;have O:=hrel;clear hrel;obtain⟨v19,Zt⟩:=au (z 19);rw[Zt] at O ⊢;clear Zt
 -- the anC
 have nJ:=Z (Ur (pd:=pe) (s:=S.sup) (fv:=(.slice (some ⟨fb,fo,none⟩) 128 fc)) (X:=S.aB) (r:=r) (last:=g));refine dK (fun KX aF=>?_)
 go_wp2_with (first
  |(refine dU O ?_;clear O;intro p32 J O;rw[aS] at O)
  |(refine eT (sv S.sup) O aa ?_ (hv:=(lI _));clear O;intro J O;rw[aD] at O)
  |(refine dm O fD (sv S.sup) ?_ (hvs:=nJ.F)))
 refine aF.F _ _ ?_;clear aF;refine pV (Ow W L pw pe p32 tot S gs R1 l next shown aq n cq (.slice (some ⟨fb,fo,none⟩) 128 fc) r g u18 vm v19) (fun KX aF=>?_) ?_
 ·have G3:=Z (show(sv S.sup)[3]? =some (.int .i64 S.sup.records) from rfl)
  cases shown with
  |false=>
   go_wp2;refine aF.F _ _ ?_;unfold Ow;exact⟨O,rfl⟩
  |true=>
   go_wp2_with (first
    |(refine aH O aa G3.F ?_)
    |(refine iA O aa ?_;clear O;intro J O;rw[aD,Ph] at O))
   refine aF.F _ _ ?_;unfold Ow;exact⟨O,rfl⟩
 clear O nJ;rintro a wz hinv;unfold Ow at hinv;obtain⟨hrel,ha⟩:=hinv;obtain⟨z,hz⟩:∃z:Nat->Value,∀i,a.tmps.getD i undef=z i:=⟨_,fun _=>rfl⟩
 try simp only[hz] at hrel
 replace ha:=ha.at hz;simp only[mM,lh] at ha;clear hz;subst ha;have O:=hrel;clear hrel;refine dK (fun KX aF=>?_)
 go_wp2_with (refine iA O aa ?_;clear O;intro J O;rw[aD,anE] at O)
 refine aF.F _ _ ?_;clear aF;obtain⟨s',hs'⟩:=au (lq S next shown);have uS:=Z hs';have hS2:Sat W _ (Cs p32 55 (sv (lq S next shown))::aW pe R1::Tb 150 2 dS v19 (Cn S l)::Tb 78 37 inv u18 (jS S l l.length)::IsMap vm (gm S l)::Cs pw 96 (bE pe S.sup (.slice (some ⟨fb,fo,none⟩) 128 fc) S.aB r g)::IsMap (.slice (some ⟨fb,fo,none⟩) 128 fc) S.U::Tb 100 3 rv r S.recs::Ir g gs::L):=O;rw[hs'] at hS2;clear O;have O:=hS2;clear hS2;have hs2:eQ s'=true:=by rw[<-hs'];exact bq.F.csup (by have:=Qr.F;omega) (by have:=Qs.F;omega) shown
 obtain⟨c,D2,hc⟩:∃c D',jm D1 (lu S l next shown)=(c,D'):=⟨_,_,rfl⟩;have uO:=Z (Ri HB.F HF.F oO.F PS.F hc)
 have hbl:D1.blocks.length=D.blocks.length:=by
  have h:=TU (iJ S l l.length) D;rw[PS.F] at h;exact h
 have hgl:=(bq.F.Rb rW.F HF.F next shown).hi;have rX:=Z (show Rel D2 (uK D1 R1 (lu S l next shown)) by have:=TK Vy.F (lu S l next shown);rw[hc] at this;exact this)
 have rY:=Z (fun w L (h:Sat W w L)=>by
  have:=Dy h s';rw[wL hs2] at this
  exact this)
 obtain⟨es,hes⟩:=au (encS s');have Ei:=Z (show Cn S l++[((0:Int),es)]=lu S l next shown by rw[<-hes,<-hs'];rfl);rw[hes] at rY
 have ad2:=Z (show DG D1 (k+tot) from by
  have h:=HD.F.run (iJ S l l.length);rw[PS.F,Gw bq.F rW.F HF.F l.length (aZ _),Fh,lg.F] at h
  exact h)
 have oQ:=Z (fun w ao c M (h:Sat W w (aW pe R1::Tb 150 2 dS (.slice ao (lu S l next shown).length c) (lu S l next shown)::M))=>TM h Vy.F ad2.F (by have:=HK.F;rw[lg.F] at this;omega) (lu S l next shown) ao c (fun w h=>h.kK (k:=0) rfl) (by omega));rw[hc] at oQ;obtain⟨gr,hgr⟩:=au (lu S l next shown);rw[hgr] at Ei rX oQ hgl;have Jl:=Z (show(Cn S l).length+1<=gr.length by rw[<-Ei.F,bP,dC];exact aZ _);have lN:=Z hgl;have uT:=Z (Pf (pd:=pe) (s:=S.sup) (s':=s') (fv:=(.slice (some ⟨fb,fo,none⟩) 128 fc)) (X:=S.aB) (r:=r) (last:=g));have Ec:=Z (fun zo=>acx (pd:=pe) (s:=s') (fv:=(.slice (some ⟨fb,fo,none⟩) 128 fc)) (zo:=zo) (X:=S.aB) (r:=r) (last:=g));have jQ:=Z (show ∀v∈sv s',v.oneCell'=true from lI _);have nX:=Z (fun s fv=>FK (pd:=pe) (s:=s) (fv:=fv) (r:=r) (last:=g) eH.F);clear hs' hs2 hc hgl hes hgr hbl;refine dK (fun KX aF=>?_)
 go_wp2_with (first
  |(go_at_call 39;refine(rY.F _ _ O).mono ?_;clear O;rintro e J ⟨vp,rfl,O⟩)
  |(refine aU ?_;refine ou _ _ _ (by rfl) _ (by rfl) jI (l:=es) (O.dY (k:=0) rfl) ?_)
  |(refine il [.agg (dS ((0:Int),es)).toArray] O ?_ (hc:=by simp[dS,Value.cells,gM]);clear O;intro b1 J O;rw[kP] at O)
  |(at_builtin;refine og (f:=dS) O fD [((0:Int),es)] ?_ (hsrc:=by exact O.gZ (f:=dS) aa rfl) (I:=by exact DN _) (hb:=by have:=Jl.F;have:=lN.F;simp only[dC];omega) (hm:=by have:=Jl.F;have:=lN.F;simp only[dC];omega);clear O;intro uj c5 J _ O;dsimp only[aD,aN] at O;rw[Ei.F] at O ⊢)
  |(refine dm O aa (sv s') ?_))
 refine aF.F _ _ ?_;clear aF
 -- b1 vp p32 ref w aB map store ..
 replace O:Sat W _ (aW pe R1::Tb 150 2 dS (.slice uj gr.length c5) gr::Tb 78 37 inv u18 (jS S l l.length)::IsMap vm (gm S l)::Cs pw 96 (bE pe S.sup (.slice (some ⟨fb,fo,none⟩) 128 fc) S.aB r g)::IsMap (.slice (some ⟨fb,fo,none⟩) 128 fc) S.U::Tb 100 3 rv r S.recs::Ir g gs::Cs p32 55 (sv s')::_::_::L):=O.re [3,4,5,6,7,8,9,10,2]
 have aem:=Z (fun w M fv (h:Sat W w (Cs pw 96 (bE pe s' fv (eP S l l.length) r g)::IsMap fv (gm S l)::Tb 100 3 rv r S.recs::Ir g gs::M))=>dz.mk (S:=S.zk l next shown) (gs:=gs) (by
  show Sat W w (Cs pw 96 (bE pe (lq S next shown) fv (eP S l l.length) r g)::IsMap fv (gm S l)::Tb 100 3 rv r S.recs::Ir g gs::M);rw[uS.F]
  exact h))
 refine dK (fun KX aF=>?_)
 by_cases hc0:c=0
 ·subst hc0
  go_wp2_with (first
   |(refine aH O fD G0.F ?_)
   |(go_at_call 90;refine ak (oQ.F _ _ _ _ O) ?_;clear O;intro J O))
  refine aF.F _ _ ?_;clear aF
  obtain⟨zB,zD,zC,rfl,_⟩:∃b off c,vm= .slice (some ⟨b,off,none⟩) 128 c/\128<=c:=by
   have hk:=O.front 3 hz3;unfold IsMap at hk;exact hk.kV (k:=0) rfl (by decide)
  refine dK (fun KX aF=>?_)
  go_wp2_with (first
   |(refine kW (sv s') O fD ?_ (hv:=jQ.F) (hb:=by rw[nX.F];show 8<=1787;decide);clear O;intro J O;dsimp only[aD,aN] at O;rw[show 1+(sv s').length=8 from rfl,uT.F] at O)
   |(refine dm O BO (sv s') ?_))
  refine aF.F _ _ ?_;clear aF;refine dK (fun KX aF=>?_)
  go_wp2_with (refine iA O fD ?_ (hb:=by rw[nX.F];decide);clear O;intro J O;dsimp only[aD,aN] at O;rw[Ec.F] at O)
  refine aF.F _ _ ?_;clear aF;have xw:Sat W _ (Cs pw 96 (bE pe s' (.slice (some ⟨zB,zD,none⟩) 128 zC) S.aB r g)::Tb 78 37 inv u18 (jS S l l.length)::IsMap (.slice (some ⟨zB,zD,none⟩) 128 zC) (gm S l)::Tb 100 3 rv r S.recs::Ir g gs::aW pe (uK D1 R1 gr)::_::_::_::_::_::L):=O.re [4,2,3,6,7,0];clear O;have O:=(xw.re [6,7,8,9,10]).drop.drop.drop.drop.drop;clear xw;refine dK (fun KX aF=>?_);have H9:=Z (show V4 W (Tb 78 37 inv u18 (jS S l l.length)::IsMap (.slice (some ⟨zB,zD,none⟩) 128 zC) (gm S l)::Tb 100 3 rv r S.recs::Ir g gs::aW pe (uK D1 R1 gr)::L) pw pe S l s' (.slice (some ⟨zB,zD,none⟩) 128 zC) r g (.int .i64 0) _ from⟨0,rfl,eG _,O⟩);clear O;go_wp2;go_loopw [34] (fun v34 wz=>V4 W (Tb 78 37 inv u18 (jS S l l.length)::IsMap (.slice (some ⟨zB,zD,none⟩) 128 zC) (gm S l)::Tb 100 3 rv r S.recs::Ir g gs::aW pe (uK D1 R1 gr)::L) pw pe S l s' (.slice (some ⟨zB,zD,none⟩) 128 zC) r g v34 wz) (fun v34 _=>iV n v34)
  case atStart=>exact H9.F
  case round=>
   clear H9;obtain⟨i,rfl,hi,O⟩:=hrel;rw[aM.F] at hi
   by_cases hlt:i<n
   ·have k1:(i:Int)< (n:Int):=by omega
    have ay:=Z hlt;obtain⟨pb,po,rfl,_⟩:=H5.F (by have:=aM.F;omega);obtain⟨x,V⟩:∃x,l[i]? =some x:=⟨_,aR (by have:=aM.F;omega)⟩
    have dD:=Z V;obtain⟨m,y,hq⟩:=bq.F.qQ rW.F HF.F V;have m48:(m:Int)<48:=by have:=hq.n48;omega
    have aej:=Z hq.n48;have DU:=Z (show(bX x)[0]? =some (.int .i64 (m:Int)) by rw[<-hq.at_];rfl);have Qq:=Z (show(jS S l l.length).length=n by rw[Hz _ (aZ _),aM.F]);obtain⟨ib,io,ic,rfl,_⟩:=O.pX (k:=1) rfl (by rw[Qq.F];omega);rw[Qq.F] at O ⊢;have HI:=Z (show Has (Cs pw 96 (bE pe s' (.slice (some ⟨zB,zD,none⟩) 128 zC) (eP S l i) r g)::Tb 78 37 inv (.slice (some ⟨ib,io,none⟩) n ic) (jS S l l.length)::IsMap (.slice (some ⟨zB,zD,none⟩) 128 zC) (gm S l)::Tb 100 3 rv r S.recs::Ir g gs::aW pe (uK D1 R1 gr)::L) 1 (Tb 78 37 inv (.slice (some ⟨ib,io,none⟩) (jS S l l.length).length ic) (jS S l l.length)) by rw[Qq.F];exact hz1);have rU:=Z (aaC (S:=S) V l.length (by have:=aM.F;omega) (aZ _));have R7:=Sy bq.F rW.F HF.F i (by have:=aM.F;omega);have Bn:=Z (FK (pd:=pe) (s:=s') (fv:=(.slice (some ⟨zB,zD,none⟩) 128 zC)) (r:=r) (last:=g) R7);have tZ:=Z (inv_one (gX S l i x));have jh:=Z (show(inv (gX S l i x)).length=37 by rw[fe,hq.ok.pl]);have hset:=acy (pd:=pe) (s:=s') (fv:=(.slice (some ⟨zB,zD,none⟩) 128 zC)) (r:=r) (last:=g) R7 hq.n48 (gX S l i x) hq.ok.pl;rw[show(eP S l i).set m (gX S l i x)=eP S l (i+1) by rw[Sz V,hq.at_,fu]] at hset;have VB:=Z hset;obtain⟨ni,hni⟩:=au (inv (gX S l i x));have Qp:=Z hni;rw[hni] at tZ jh VB;clear hi hlt V hq R7 hset hni;go_wp2
    (refine cB (pO [0,1,2]<|tO [3]<|pO [4]<|rO [5]<|pO [6,7]<|tO [8]<|rO [9]<|pO [10,11]<|tO [12]<|aO [13]<| .e) [13] O ?_;clear O;intro J O)
    repeat (first
     |(refine bG O ?_;go_frame)
     |(refine oI O ?_;apply Exists.intro;apply And.intro;(intro w;first|go_simp;rw[if_pos (by omega)]|(go_simp;try with_reducible rfl));go_frame)
     |(refine bR O ?_;(first
         |refine⟨_,fun u hu=>fE (f:=bX) (x:=x) (HR.F u [_,_,_,_,_,_] hu).1 iC.F _ _ (by rfl) _ (by rfl) (aI (by rfl)) i 0 (by omega) dD.F DU.F (by have:=ay.F;have:=aM.F;omega),?_⟩
         |(refine⟨_,aoQ _ _ (by rfl) _ _ (by rfl) (aI (by rfl)) (bz (by rfl)) HI.F i (by omega) rU.F,?_⟩;rw[Qp.F]));go_frame)
     |(refine bY fun K hK=>?_;(refine FJ ni O aa ?_ (hv:=tZ.F) (hn:=by rw[jh.F];exact bz (by rfl)) (hb:=by rw[Bn.F,jh.F];have:=aej.F;omega);clear O;intro J O;rw[aD,jh.F,VB.F] at O);refine hK.go O ?_;clear hK K;go_frame))
    refine bO ?_;go_wp2;exact⟨⟨i+1,by go_num,by rw[aM.F];exact ay.F,O⟩,fZ ay.F⟩
   ·obtain rfl:i=n:=by omega
    have k1:¬(i:Int)< (i:Int):=by omega
    rw[<-aM.F] at O;clear hlt hi;go_wp2;refine aF.F _ _ ?_;clear aF;go_wp2;go_ret;rw[uO.F];exact⟨rfl,uK D1 R1 gr,rX.F,((aem.F _ _ _ (O.re [0,2,3,4,5])).re [2]).drop⟩
 ·have e1:(c != 0)=true:=bne_iff_ne.2 hc0;have FQ:=Z hc0;clear hc0
  go_wp2_with (first
   |(refine aH O fD G0.F ?_)
   |(go_at_call 90;refine ak (oQ.F _ _ _ _ O) ?_;clear O;intro J O))
  go_ret;rw[uO.F];refine⟨rfl,uK D1 R1 gr,rX.F,?_⟩;show Sat W _ (dz pw pe (if c=0 then S.zk l next shown else S) gs::_::L);rw[if_neg FQ.F];exact((iG.F _ _ _ (O.re [4,5,6,7,0])).re [2,3,4,5,6,7]).drop.drop.drop.drop.drop.drop
theorem alB {pw pe k tot:Nat} {S:aK} {gs:List Nat} {D:aG} {R:dh} {l:List aT} {next:Int} {aq:Option Addr} {i cq:Nat} (q:Mk W L pw pe k tot S gs D R l next aq i cq) (shown:Bool) (hF:fq l<=(bT S.U S.sup.blocks.toNat).length) 
  {fb fo fc ct:Nat} {at_:Option Addr} {r g u17 u18 u19:Value} {a:Act} (hinv:Ov W L pw pe tot S gs R l next shown aq i cq (.slice (some ⟨fb,fo,none⟩) 128 fc) r g (.slice at_ tot ct) u17 u18 u19 a w):
  From Tryz.prog 48 13 (fun e w'=>Er W L pw pe gs (iQ S D l next shown) e w') a w:=by
 have Jg:=Z q;have bq:=Z q.ok;have HD:=Z q.dg;have HR:=Z q.rd;have HRR:=Z q.rel;have D5:=Z q.kt;have HK:=Z (show k+fq l<=80000 by rw[q.tot];exact q.kt);have jX:=Z (show R.L=D.blocks from q.rel.blocks.symm);have iG:=Z (fun w M R (h:Sat W w (Cs pw 96 (bE pe S.sup (.slice (some ⟨fb,fo,none⟩) 128 fc) S.aB r g)::IsMap (.slice (some ⟨fb,fo,none⟩) 128 fc) S.U::Tb 100 3 rv r S.recs::Ir g gs::aW pe R::M))=>show Sat W w (dz pw pe S gs::aW pe R::M) from dz.mk h);have H5:=Z q.Ms;have aM:=Z q.ln;have pM:=q.lb;have iC:=Z (show ∀x∈l,(bX x).length=40 from fun x V=>AJ (q.pl x V));have lg:=Z q.tot;have hti:(tot:Int)<=80000:=by have:=q.kt;omega
 have rW:=Z q.right;have HB:=Z q.bad;obtain⟨nb,hnb⟩:=au R.L.length;have rV:=Z hnb;have hbl:S.sup.blocks=(nb:Int):=by rw[<-hnb,jX.F];exact bq.F.blocks
 have qF:=Z (show S.sup.blocks.toNat=nb by rw[hbl];exact fu nb);have n2:nb<=1024:=by rw[<-hnb,jX.F];exact bq.F.n2
 have N2:=Z n2;have G0:=Z (show(bE pe S.sup (.slice (some ⟨fb,fo,none⟩) 128 fc) S.aB r g)[0]? =some (.pointer (some ⟨pe,0,none⟩)) from rfl);have G8:=Z (KY (pd:=pe) (s:=S.sup) (fv:=(.slice (some ⟨fb,fo,none⟩) 128 fc)) (X:=S.aB) (r:=r) (last:=g));clear hnb hbl n2;have HF:=Z hF;have mX:=Z (show(dW S l).length=tot by rw[IG HF.F,lg.F]);clear q hF;refine From.intro Tryz.func48 rfl ?_;unfold Ov at hinv;obtain⟨hrel,ha⟩:=hinv;obtain⟨z,hz⟩:∃z:Nat->Value,∀i,a.tmps.getD i undef=z i:=⟨_,fun _=>rfl⟩
 try simp only[hz] at hrel
 replace ha:=ha.at hz;simp only[mM,lh,Nat.reduceAdd,Nat.zero_add] at ha;clear hz;subst ha;obtain⟨hne,O⟩:=hrel;have oO:=Z hne;clear hne
 -- the map
 obtain⟨v1,v3,hS1⟩:=aW.open (O.re [8])
 have hS2:Sat W _ (Cs pw 96 (bE pe S.sup (.slice (some ⟨fb,fo,none⟩) 128 fc) S.aB r g)::IsMap (.slice (some ⟨fb,fo,none⟩) 128 fc) S.U::Tb 100 3 rv r S.recs::Ir g gs::Cs pe 68 [v1,v3, .bool R.armed, .int .i64 R.left, .bool R.dead]::Tb 9 1 iF v1 R.L::Tb 150 2 wv v3 R.Log::Ir u17 (gN S l l.length)::Tb 78 37 inv u18 (jS S l l.length)::Tb 150 2 dS u19 (jq S l l.length)::Ir (.slice at_ tot ct) (dW S l)::L):=hS1.re [7,8,9,10,0,1,2,3,4,5,6];clear O hS1;have O:=hS2;clear hS2;obtain⟨Bq,BA,rfl,_⟩:=O.fA (k:=5) rfl;obtain⟨ag,cg,rfl,_⟩:=O.mg (k:=7) rfl;obtain⟨gn,hgn⟩:=au ((gN S l l.length).length);rw[rV.F,hgn] at O;rw[hgn];have Vr:=Z (fun w M (h:Sat W w (Cs pe 68 [.slice Bq nb BA,v3, .bool R.armed, .int .i64 R.left, .bool R.dead]::Tb 9 1 iF (.slice Bq nb BA) R.L::Tb 150 2 wv v3 R.Log::M))=>aW.mk (W:=W) (w:=w) (L:=M) (p:=pe) (D:=R) (v1:= .slice Bq nb BA) (v2:=v3) h);have htk:(bT S.U nb).take tot=dW S l:=by unfold dW;rw[lg.F,qF.F]
 have hgo:=bq.F.YI rW.F HF.F;rw[<-jX.F,rV.F] at hgo;have hg2:=(GN bq.F rW.F HF.F l.length (aZ _)).2;have hg3:=(zJ rW.F).1
 have nW:=Z (fun w (h:Sat W w (Cs pw 96 (bE pe S.sup (.slice (some ⟨fb,fo,none⟩) 128 fc) S.aB r g)::IsMap (.slice (some ⟨fb,fo,none⟩) 128 fc) S.U::Tb 100 3 rv r S.recs::Ir g gs::Cs pe 68 [.slice Bq nb BA,v3, .bool R.armed, .int .i64 R.left, .bool R.dead]::Tb 9 1 iF (.slice Bq nb BA) R.L::Tb 150 2 wv v3 R.Log::Ir (.slice ag gn cg) (gN S l l.length)::Tb 78 37 inv u18 (jS S l l.length)::Tb 150 2 dS u19 (jq S l l.length)::Ir (.slice at_ tot ct) (dW S l)::L))=>by
  have I:=abS h S.U fb fo fc nb tot N2.F (by have:=HF.F;rw[lg.F,qF.F] at this;exact this) (qy hz1) (gN S l l.length) ag cg (fun w L' h=>by have H:=h.oG (has_add (k:=7) Ho L');rw[<-hgn] at H;exact H) hgo (by omega);rw[htk,hgn] at I
  exact I.mono (fun e w' (hE:Mj W _ _ _ e w')=>(show ∃v v',e= .returned (.tuple #[v,v', .bool true])/\Sat W w' (Ir v (dW S l)::IsMap v' (gm S l)::Cs pw 96 (bE pe S.sup (.slice (some ⟨fb,fo,none⟩) 128 fc) S.aB r g)::IsMap (.slice (some ⟨fb,fo,none⟩) 128 fc) S.U::Tb 100 3 rv r S.recs::Ir g gs::Cs pe 68 [.slice Bq nb BA,v3, .bool R.armed, .int .i64 R.left, .bool R.dead]::Tb 9 1 iF (.slice Bq nb BA) R.L::Tb 150 2 wv v3 R.Log::Ir (.slice ag gn cg) (gN S l l.length)::Tb 78 37 inv u18 (jS S l l.length)::Tb 150 2 dS u19 (jq S l l.length)::Ir (.slice at_ tot ct) (dW S l)::L) from by
   obtain⟨v,v',he,h⟩:=hE;rw[aj1] at h
   exact⟨v,v',he,h⟩)))
 clear htk hgo hg2 hg3 hgn;refine dK (fun KX aF=>?_);go_wp2
 (refine cB (pO [0,1,2]<|rO [3]<|pO [4,5,6]<|rO [7]<|pO [8,9]<|rO [10]<|pO [11,12,13]<|aO [14]<|pO [15,16,17,18,19,20,21]<| .e) [] O ?_;clear O;intro J O)
 repeat (first
  |(refine bG O ?_;go_frame)
  |(refine bR O ?_;(first
   |refine bK aa G0.F ?_
   |refine bK aa G8.F ?_
   |refine rM fD ?_);go_frame)
  |(refine bY fun K hK=>?_;(refine cK (nW.F _ O) ?_;rintro e J hE;obtain⟨IK,vm,rfl,hS1⟩:=hE;clear O;have O:=hS1;clear hS1;refine⟨_,rfl,?_⟩);refine hK.go O ?_;clear hK K;go_frame))
 refine bO ?_;go_wp2;refine aF.F _ _ ?_;clear aF nW;have h9:=Vr.F _ _ (show Sat W _ (Cs pe 68 [.slice Bq nb BA,v3, .bool R.armed, .int .i64 R.left, .bool R.dead]::Tb 9 1 iF (.slice Bq nb BA) R.L::Tb 150 2 wv v3 R.Log::Ir IK (dW S l)::IsMap vm (gm S l)::Cs pw 96 (bE pe S.sup (.slice (some ⟨fb,fo,none⟩) 128 fc) S.aB r g)::IsMap (.slice (some ⟨fb,fo,none⟩) 128 fc) S.U::Tb 100 3 rv r S.recs::Ir g gs::Ir (.slice ag gn cg) (gN S l l.length)::Tb 78 37 inv u18 (jS S l l.length)::Tb 150 2 dS u19 (jq S l l.length)::Ir (.slice at_ tot ct) (dW S l)::L) from O.re [6,7,8]);have hS2:Sat W _ (aW pe R::Tb 150 2 dS u19 (jq S l l.length)::Tb 78 37 inv u18 (jS S l l.length)::Ir (.slice at_ tot ct) (dW S l)::IsMap vm (gm S l)::Cs pw 96 (bE pe S.sup (.slice (some ⟨fb,fo,none⟩) 128 fc) S.aB r g)::IsMap (.slice (some ⟨fb,fo,none⟩) 128 fc) S.U::Tb 100 3 rv r S.recs::Ir g gs::L):=((h9.re [0,9,8,10,2,3,4,5,6]).re [9,10]).drop.drop;clear O h9;have O:=hS2;clear hS2 Vr;refine qP ?_
 -- the data
 refine dK (fun KX aF=>?_);have H0:=Z (show V9 W (Tb 150 2 dS u19 (jq S l l.length)::Tb 78 37 inv u18 (jS S l l.length)::Ir (.slice at_ tot ct) (dW S l)::IsMap vm (gm S l)::Cs pw 96 (bE pe S.sup (.slice (some ⟨fb,fo,none⟩) 128 fc) S.aB r g)::IsMap (.slice (some ⟨fb,fo,none⟩) 128 fc) S.U::Tb 100 3 rv r S.recs::Ir g gs::L) pe S D l (.int .i64 0) (.int .i64 0) _ from⟨0,D,R,rfl,rfl,eG _,rfl,HRR.F,O⟩);clear O;go_wp2;go_loopw [29,20] (fun v29 v20 wz=>V9 W (Tb 150 2 dS u19 (jq S l l.length)::Tb 78 37 inv u18 (jS S l l.length)::Ir (.slice at_ tot ct) (dW S l)::IsMap vm (gm S l)::Cs pw 96 (bE pe S.sup (.slice (some ⟨fb,fo,none⟩) 128 fc) S.aB r g)::IsMap (.slice (some ⟨fb,fo,none⟩) 128 fc) S.U::Tb 100 3 rv r S.recs::Ir g gs::L) pe S D l v29 v20 wz) (fun v29 _ _=>iV i v29)
 case atStart=>exact H0.F
 case round=>
  clear H0;obtain⟨n,D1,R1,rfl,rfl,hn,hrun,vW,O⟩:=hrel;rw[aM.F] at hn;have jP:=Z hrun;have HR1:=Z vW;clear hrun vW
  by_cases hlt:n<i
  ·have k1:(n:Int)< (i:Int):=by omega
   have ay:=Z hlt;obtain⟨pb,po,rfl,_⟩:=H5.F (by have:=aM.F;omega);obtain⟨x,V⟩:∃x,l[n]? =some x:=⟨_,aR (by have:=aM.F;omega)⟩
   have dD:=Z V;have hxm:=bJ V;have ru:=Z hxm;obtain⟨m,y,hq⟩:=bq.F.qQ rW.F HF.F V;have HQ:=Z hq;have hsx:=(HR.F _ [_,_,_,_,_,_,_,_,_] O).2 x hxm;have jW:=Z (OV hsx.pl);obtain⟨ad,cd,hdv⟩:∃ao c,x.uq= .slice ao x.data.length c:=by obtain⟨ao,c,he,_⟩:=hsx.d;exact⟨ao,c,he⟩
   obtain⟨np,fT⟩:=au x.pieces.length;have hnd:x.data.length=np:=by rw[hq.dl,fT]
   obtain⟨kH,hof⟩:=au (jG l n);have hsum:=Ii V;have nI:=Z (zF V);rw[hof,fT] at hsum nI;rw[lg.F] at hsum;have hs1:(kH:Int)+(np:Int)<=80000:=by omega
   rw[hdv,hnd] at jW;rw[hof];have dP:=Z hnd;have zQ:=Z hdv;have wV:=Z hof;have Gb:=Z hsum;have jg:=Z (show(je S l n x).length=np by rw[Ki HF.F V,fT]);have D5:=Z (show k+tot<=80000 by rw[<-lg.F];exact HK.F)
   have FT:=Z (show DG D1 (k+kH) from by
    have h:=HD.F.run (iJ S l n);rw[jP.F,Gw bq.F rW.F HF.F n (by have:=aM.F;omega),hof] at h
    exact h)
   clear hlt hn V hxm hq hsx hdv fT hnd hof hsum;go_wp2;have H1:=Z (show V8 W (Tb 150 2 dS u19 (jq S l l.length)::Tb 78 37 inv u18 (jS S l l.length)::Ir (.slice at_ tot ct) (dW S l)::IsMap vm (gm S l)::Cs pw 96 (bE pe S.sup (.slice (some ⟨fb,fo,none⟩) 128 fc) S.aB r g)::IsMap (.slice (some ⟨fb,fo,none⟩) 128 fc) S.U::Tb 100 3 rv r S.recs::Ir g gs::L) pe S D1 l n x (.int .i64 0) (.int .i64 (kH:Int)) _ from⟨0,D1,R1,rfl,by rw[wV.F];rfl,eG _,rfl,HR1.F,O⟩);clear O;go_loopw [30,20] (fun v30 v20 wz=>V8 W (Tb 150 2 dS u19 (jq S l l.length)::Tb 78 37 inv u18 (jS S l l.length)::Ir (.slice at_ tot ct) (dW S l)::IsMap vm (gm S l)::Cs pw 96 (bE pe S.sup (.slice (some ⟨fb,fo,none⟩) 128 fc) S.aB r g)::IsMap (.slice (some ⟨fb,fo,none⟩) 128 fc) S.U::Tb 100 3 rv r S.recs::Ir g gs::L) pe S D1 l n x v30 v20 wz) (fun v30 _ _=>iV np v30)
   case atStart=>exact H1.F
   case round=>
    clear H1;obtain⟨q,D2,R2,rfl,rfl,hq,xy,hR2,O⟩:=hrel;rw[dP.F] at hq;rw[wV.F];have wY:=Z xy;have HR2:=Z hR2;clear xy hR2
    have PV:=Z (show DG D2 (k+kH+q) from by
     have h:=FT.F.run (oW S l n x q);rw[wY.F,Xy] at h
     exact h)
    have iY:=Z (HR.F _ [_,_,_,_,_,_,_,_,_] O).1
    by_cases oF:q<np
    ·have k2:(q:Int)< (np:Int):=by omega
     have oP:=Z oF;have hsx:=(HR.F _ [_,_,_,_,_,_,_,_,_] O).2 x ru.F;have hrd:=hsx.d;rw[zQ.F,dP.F] at hrd;obtain⟨_,_,he,_,_,_,h7⟩:=id hrd;obtain⟨rfl,rfl⟩:=gq he;obtain⟨db,Gx,rfl,_⟩:=h7 (by omega);obtain⟨d,hd⟩:∃d,x.data[q]? =some d:=⟨_,aR (by rw[dP.F];exact oF)⟩
     obtain⟨v,hv⟩:∃v,x.l9[q]? =some v:=⟨_,aR (by rw[hsx.dl,dP.F];exact oF)⟩
     obtain⟨vc,IJ,rfl,_⟩:=hsx.b q v d hv hd;have h128:d.length=128:=HQ.F.d128 d (bJ hd);rw[h128] at hv;obtain⟨p,hp⟩:∃p,(je S l n x)[q]? =some p:=⟨_,aR (by rw[jg.F];exact oF)⟩
     have hpt:=(SY hp).1;rw[wV.F] at hpt;have hrt:=O.zx mX.F hz3;obtain⟨_,_,he,_,_,_,h8⟩:=id hrt;obtain⟨rfl,rfl⟩:=gq he;obtain⟨mb,mo,rfl,_⟩:=h8 (by have:=Gb.F;omega)
     have iB:=Z (fun w (h:Sat W w (aW pe R2::Tb 150 2 dS u19 (jq S l l.length)::Tb 78 37 inv u18 (jS S l l.length)::Ir (.slice (some ⟨mb,mo,none⟩) tot ct) (dW S l)::IsMap vm (gm S l)::Cs pw 96 (bE pe S.sup (.slice (some ⟨fb,fo,none⟩) 128 fc) S.aB r g)::IsMap (.slice (some ⟨fb,fo,none⟩) 128 fc) S.U::Tb 100 3 rv r S.recs::Ir g gs::L))=>show Rd w (.slice (some ⟨db,Gx,none⟩) np cd) np 1 x.l9 from by
      have I:=((HR.F w [_,_,_,_,_,_,_,_,_] h).2 x ru.F).d;rw[zQ.F,dP.F] at I
      exact I)
     have HV:=Z hv;have HP:=Z (qw hpt);have hn:=XC hp hd wY.F;have HR3:=Z (HR2.F.next (p:Int) d)
     have gW:=Z (fun w (h:Sat W w (aW pe R2::Tb 150 2 dS u19 (jq S l l.length)::Tb 78 37 inv u18 (jS S l l.length)::Ir (.slice (some ⟨mb,mo,none⟩) tot ct) (dW S l)::IsMap vm (gm S l)::Cs pw 96 (bE pe S.sup (.slice (some ⟨fb,fo,none⟩) 128 fc) S.aB r g)::IsMap (.slice (some ⟨fb,fo,none⟩) 128 fc) S.U::Tb 100 3 rv r S.recs::Ir g gs::L))=>Iw h HR2.F PV.F (by have:=D5.F;have:=Gb.F;omega) (p:Int) (.slice vc 128 IJ) d h128 (fun w h=>by
      have h3:=((HR.F w [_,_,_,_,_,_,_,_] h).2 x ru.F).b q _ d HV.F hd;rw[h128] at h3
      exact h3))
     rw[h128] at hn gW;have oq:(kH:Int)+(q:Int)< (tot:Int):=by have:=Gb.F;omega
     have Vw:=Z (show kH+q<tot by have:=Gb.F;omega);have ti:(tot:Int)<=80000:=by omega
     obtain⟨R3,GV⟩:=au (rH D2 R2 (p:Int) d);obtain⟨c,hc⟩:=au (gp D2 (p:Int) 128);obtain⟨D3,hD3⟩:=au (fG D2 (p:Int) d);rw[hc,hD3] at hn;rw[hc,GV] at gW;rw[hD3,GV] at HR3;have HN:=Z hn;clear hq oF hsx hrd h7 hd hv hp hpt hrt h8 hn hc hD3 GV
     by_cases hc0:c=0
     ·subst hc0
      go_wp2_with (refine bN (fE (f:=bX) (x:=x) iY.F iC.F _ _ (by rfl) _ (by rfl) (aI (by rfl)) n 39 (by omega) dD.F jW.F (by have:=ay.F;have:=aM.F;omega)) ?_)
      (refine cB (pO [0,1,2]<|rO [3]<|pO [4,5]<|tO [6]<|rO [7]<|pO [8,9]<|tO [10]<|pO [11]<|rO [12]<|pO [13]<|tO [14]<|rO [15]<|aO [16]<|pO [17]<| .e) [16] O ?_;clear O;intro J O)
      repeat (first
       |(refine bG O ?_;go_frame)
       |(refine oI O ?_;apply Exists.intro;apply And.intro;(intro w;first|go_simp;rw[if_pos (by omega)]|(go_simp;try with_reducible rfl));go_frame)
       |(refine bR O ?_;(first
             |refine bK vk G0.F ?_
             |refine⟨_,fun u hu=>fF (hu.zx mX.F hz3) _ _ (by rfl) _ (by rfl) (aI (by rfl)) (kH+q) (by omega) HP.F (by have:=Vw.F;omega),?_⟩
             |refine⟨_,fun u hu=>fE (f:=bX) (x:=x) (HR.F u [_,_,_,_,_,_,_,_,_] hu).1 iC.F _ _ (by rfl) _ (by rfl) (aI (by rfl)) n 39 (by omega) dD.F jW.F (by have:=ay.F;have:=aM.F;omega),?_⟩
             |refine⟨_,fun u hu=>fF (iB.F u hu) _ _ (by rfl) _ (by rfl) (aI (by rfl)) q (by omega) HV.F (by have:=oP.F;omega),?_⟩);go_frame)
       |(refine bY fun K hK=>?_;(refine jy (gW.F _ O) ?_;clear O;intro J O);refine hK.go O ?_;clear hK K;go_frame))
      refine bO ?_;go_wp2;exact⟨⟨q+1,D3,R3,by go_num,by rw[wV.F];first|rfl|(congr 1;omega)|congr 1,by rw[dP.F];exact oP.F,HN.F,HR3.F,O⟩,fZ oP.F⟩
     ·have e9:(c != 0)=true:=bne_iff_ne.2 hc0;have QC:=Z (Xn HB.F HF.F oO.F (XF dD.F (by rw[dP.F];exact oP.F) jP.F HN.F hc0) hc0);clear hc0
      go_wp2_with (refine bN (fE (f:=bX) (x:=x) iY.F iC.F _ _ (by rfl) _ (by rfl) (aI (by rfl)) n 39 (by omega) dD.F jW.F (by have:=ay.F;have:=aM.F;omega)) ?_)
      (refine cB (pO [0,1,2]<|rO [3]<|pO [4,5]<|tO [6]<|rO [7]<|pO [8,9]<|tO [10]<|pO [11]<|rO [12]<|pO [13]<|tO [14]<|rO [15]<|aO [16]<|pO [17]<| .e) [16] O ?_;clear O;intro J O)
      repeat (first
       |(refine bG O ?_;go_frame)
       |(refine oI O ?_;apply Exists.intro;apply And.intro;(intro w;first|go_simp;rw[if_pos (by omega)]|(go_simp;try with_reducible rfl));go_frame)
       |(refine bR O ?_;(first
             |refine bK vk G0.F ?_
             |refine⟨_,fun u hu=>fF (hu.zx mX.F hz3) _ _ (by rfl) _ (by rfl) (aI (by rfl)) (kH+q) (by omega) HP.F (by have:=Vw.F;omega),?_⟩
             |refine⟨_,fun u hu=>fE (f:=bX) (x:=x) (HR.F u [_,_,_,_,_,_,_,_,_] hu).1 iC.F _ _ (by rfl) _ (by rfl) (aI (by rfl)) n 39 (by omega) dD.F jW.F (by have:=ay.F;have:=aM.F;omega),?_⟩
             |refine⟨_,fun u hu=>fF (iB.F u hu) _ _ (by rfl) _ (by rfl) (aI (by rfl)) q (by omega) HV.F (by have:=oP.F;omega),?_⟩);go_frame)
       |(refine bY fun K hK=>?_;(refine jy (gW.F _ O) ?_;clear O;intro J O);refine hK.go O ?_;clear hK K;go_frame))
      refine bO ?_;go_wp2;go_ret;rw[QC.F];exact⟨rfl,R3,HR3.F,((iG.F _ _ _ (O.re [5,6,7,8,0])).re [2,3,4,5]).drop.drop.drop.drop⟩
    ·obtain rfl:q=np:=by omega
     have k2:¬(q:Int)< (q:Int):=by omega
     have tT:=Z (XE dD.F jP.F (by rw[dP.F];exact wY.F));clear hq oF
     go_wp2_with (refine bN (fE (f:=bX) (x:=x) iY.F iC.F _ _ (by rfl) _ (by rfl) (aI (by rfl)) n 39 (by omega) dD.F jW.F (by have:=ay.F;have:=aM.F;omega)) ?_)
     exact⟨⟨n+1,D2,R2,by go_num,by rw[nI.F];first|rfl|(congr 1;omega),by rw[aM.F];exact ay.F,tT.F,HR2.F,O⟩,fZ ay.F⟩
  ·obtain rfl:n=i:=by omega
   have k1:¬(n:Int)< (n:Int):=by omega
   have ad1:=Z (show bH D (iJ S l l.length)=(0,D1) by rw[aM.F];exact jP.F);clear hlt hn;go_wp2;refine aF.F _ _ ?_;clear aF;have VJ:=Z (UL (S:=S) (l:=l) l.length);have I9:=Z (zJ rW.F).1;refine pV (KI W L pw pe tot S gs R1 l next shown aq n cq (.slice (some ⟨fb,fo,none⟩) 128 fc) r g u18 vm) (fun KX aF=>?_) ?_
   ·by_cases h0:n=0
    ·have k0:¬(0:Int)< (n:Int):=by omega
     have l0:l=[]:=yZ.1 (by rw[aM.F];exact h0);have HW0:=Z (show Cn S l=jq S l l.length by unfold Cn;rw[if_pos l0,kv]);clear h0 l0;go_wp2;refine aF.F _ _ ?_;unfold KI;refine⟨?_,rfl⟩;rw[HW0.F];exact(O.re [0,1,2,4,5,6,7,8,3]).re [8] |>.drop
    ·have k0:(0:Int)< (n:Int):=by omega
     have l0:l≠[]:=fun h=>h0 (by rw[<-aM.F,h];rfl)
     have HW0:=Z (show jq S l l.length++[((1:Int),cO (gm S l))]=Cn S l by unfold Cn;rw[if_neg l0]);clear h0 l0
     go_wp2_with (first
      |(refine aU ?_;refine ou _ _ _ (by rfl) _ (by rfl) jI (qy fD _ [] O) ?_)
      |(refine il [.agg (dS ((1:Int),cO (gm S l))).toArray] O ?_ (hc:=by simp[dS,Value.cells,gM]);clear O;intro b1 J O;rw[kP] at O)
      |(at_builtin;refine og (f:=dS) O hz2 [((1:Int),cO (gm S l))] ?_ (hsrc:=by exact O.gZ (f:=dS) aa rfl) (I:=by exact DN _) (hb:=by have:=VJ.F;have:=I9.F;simp only[dC];omega) (hm:=by have:=VJ.F;have:=I9.F;simp only[dC];omega);clear O;intro uj c5 J _ O;dsimp only[aD,aN] at O;rw[HW0.F] at O ⊢))
     refine aF.F _ _ ?_;unfold KI;refine⟨?_,rfl⟩;exact((O.re [1,2,3,5,6,7,8,9,0,4]).re [8,9]).drop.drop
   exact fun a w h=>(alC Jg.F shown HF.F oO.F ad1.F HR1.F h).use Tryz.func48 rfl rfl
end Go.Proofs.YtjbiihbicknemaaGreat
