/-
  Part of the proof of StoreWhole.
-/
import Derived.Test.YtjbiihbicknemaaGreatMSrs
set_option linter.unusedSimpArgs false
set_option linter.unusedVariables false
set_option maxRecDepth 20000
set_option maxHeartbeats 40000000
namespace Go.Proofs.YtjbiihbicknemaaGreat
open Go.RowKit Go.Sep
variable {W w:World} {L:List aA}
attribute [local irreducible] Oper.wp wpList Calls Code.wp Sep.dR Sep.fJ
theorem abV (O:Sat W w L) (b:List UInt8) (ao:Option Addr) (c:Nat) {m:Nat} (hm:b.length=m) (hr:∀w,Sat W w L->Rd w (.slice ao m c) m 1 (bv b)) (hb:m<=140737488355328) {l:List bM} {x:Int} (I:BF b=l) (H:BG b=x) (h3:lW b=true):
  Calls Tryz.prog 117 #[.slice ao m c] w fun e w'=>∃v',e= .returned (.tuple #[v', .int .i64 x, .bool true])/\Sat W w' (Tb 100 3 rv v' l::L):=by
 subst hm I H;rw[<-h3];exact alU O b ao c hr hb
def UU (W:World) (L:List aA) (pw pe:Nat) (S:aK) (gs:List Nat) (R:dh) (v3 v4:Value) (wz:World):Prop:=
 ∃k:Nat,k<gs.length/\v3= .int .i64 ((lU gs k:Nat):Int)/\v4= .int .i64 (k:Int)/\Sat W wz (dz pw pe {S with recs:=S.recs.take (15*k)} (gs.take k)::aW pe R::L)
theorem bA.gle {B:List (List UInt8)} {S:aK} {gs:List Nat} (h:bA B S gs):gs.length<=B.length:=
 Ig B.length gs (lZ.1 h.nd).2.1 (fun x V=>(h.gU x (nD _ V)).2)
def EB (n:Nat) (v:Value):Nat:=n-(intOf v).toNat
theorem Jy {n i:Nat} (h:i<n):EB n (.int .i64 ((i+1:Nat):Int))<EB n (.int .i64 (i:Int)):=by
 unfold EB;show n-(((i+1:Nat):Int)).toNat<n-((i:Int)).toNat;rw[fu,fu];omega
theorem alD {pw pe:Nat} {S:aK} {gs:List Nat} {R:dh} (hok:bA R.L S gs) (O:Sat W w (dz pw pe {S with recs:=[]} []::aW pe R::L)):
  Calls Tryz.prog 84 #[.pointer (some ⟨pw,0,none⟩)] w fun e w'=>e= .returned (.bool true)/\Sat W w' (dz pw pe S gs::aW pe R::L):=by
 have HK:=Z hok;have eH:=Z hok.x;have hpos:0<gs.length:=List.length_pos_iff.2 hok.ne
 have YZ:S.sup.head=((lU gs 0:Nat):Int):=by
  rw[hok.head];unfold lU
  cases gs with
  |nil=>exact absurd rfl hok.ne
  |cons g gs=>rfl
 have H0:=Z (show UU W L pw pe S gs R (.int .i64 ((lU gs 0:Nat):Int)) (.int .i64 0) w from⟨0,hpos,rfl,rfl,O⟩);obtain⟨fv,r,g,O⟩:=dz.open O
 have GH:=Z (show(bE pe S.sup fv S.aB r g)[2]? =some (.int .i64 ((lU gs 0:Nat):Int)) by
  rw[Ch (by decide)];show some (Value.int .i64 S.sup.head)=_
  rw[YZ])
 have hgl:=hok.gle;have hgn:=hok.n2;clear hok hpos YZ;go_enter Tryz.func84,Tryz.ntmps84
 go_wp2_with (refine aH O aa GH.F ?_)
 clear O GH;go_loopw [3,4] (fun v3 v4 wz=>UU W L pw pe S gs R v3 v4 wz) (fun _ v4 _=>EB gs.length v4)
 case atStart=>exact H0.F
 case round=>
  clear H0;obtain⟨k,hk,rfl,rfl,O⟩:=hrel;obtain⟨fv,r,g,v1,v2,O⟩:=Iu O;dsimp only at O;obtain⟨q,hq⟩:∃q,gs[k]? =some q:=⟨_,aR hk⟩
  have hat:lU gs k=q:=by unfold lU;rw[hq];rfl
  rw[hat];have hrg:=HK.F.gU q (nD _ (bJ hq));have g1:(74:Int)<=(q:Int):=by omega
  have g2:(q:Int)< (R.L.length:Int):=by omega
  have g3:(R.L.length:Int)<=1024:=by omega
  have k1:(k:Int)<=(R.L.length:Int):=by omega
  have b1:decide ((q:Int)<74)=false:=bf (by omega);have b2:decide (q<74)=false:=bf (by omega);have b3:decide ((R.L.length:Int)<=(q:Int))=false:=bf (by omega);have b4:decide (R.L.length<=q)=false:=bf (by omega);obtain⟨Ey,Fs,gF,rfl,_⟩:=O.pX (k:=5) rfl (by omega);have FP:=Z (HK.F.bg k q hq);have he:=YE (HK.F.jM k);have FU:=Z he.2.1;have HE2:=Z he.2.2;have FV:=Z he.1;have iT:=Z (vT (jo gs k) (l:=chunk S.recs k) (by rw[um];omega));obtain⟨d,hd⟩:=au (gL (chunk S.recs k) (jo gs k));rw[hd] at FP FU HE2 FV iT;clear hd;have G0:=Z (show ∀r g,(bE pe S.sup fv S.aB r g)[0]? =some (.pointer (some ⟨pe,0,none⟩)) from fun _ _=>rfl);have G6:=Z (show ∀r g,(bE pe S.sup fv S.aB r g)[1786]? =some g from fun _ _=>KZ eH.F);have fU:=Z (show(gs.take k).length<=1024 by rw[jr];omega);have gB:=Z (show ∀x∈chunk S.recs k,(rv x).length=3 from fun _ _=>rfl)
  have Jh:=Z (show ∀u∈(chunk S.recs k).flatMap rv,u.oneCell'=true from fun u hu=>by
   obtain⟨x,_,V⟩:=mE.1 hu
   exact xI x u V)
  have lT:=Z (show(S.recs.take (15*k)).length<=15360 by rw[jr];omega);have Bd:=Z (show(chunk S.recs k).length<=15 by rw[um];omega);have wP:=Z (Xf S.recs k);obtain⟨nn,hnn⟩:=au ((S.recs.take (15*k)++chunk S.recs k).length);have qf:=Z hnn;obtain⟨gk,Ao⟩:=au (gs.take (k+1));have FY:=Z (show gs.take k++[q]=gk by rw[<-Ao,ik,hq];rfl);have Vk:=Z Ao;clear Ao;have HKK:=Z hk;have xX:=Z HK.F.low;have iG:=Z (fun w r g h=>FH (W:=W) (w:=w) (L:=L) (pw:=pw) (pe:=pe) (S:= {S with recs:=S.recs.take (15*(k+1))}) (gs:=gk) (R:=R) (fv:=fv) (r:=r) (g:=g) (v1:= .slice (some ⟨Ey,Fs,none⟩) R.L.length gF) (v2:=v2) h);dsimp only at iG
  by_cases hl:k+1<gs.length
  ·have aiD:(chunk S.recs k).length=15:=by rw[um];have:=xX.F;omega
   obtain⟨q2,hq2⟩:∃q,gs[k+1]? =some q:=⟨_,aR hl⟩
   have hr2:=HK.F.gU q2 (nD _ (bJ hq2));have hnx:jo gs k=(q2:Int):=by unfold jo;rw[hq2];rfl
   have Y0:lU gs (k+1)=q2:=by unfold lU;rw[hq2];rfl
   rw[hnx] at HE2;have adV:=Z (show((chunk S.recs k).length:Int)=15 by omega);have e1:((q2:Int) != 0)=true:=bne_iff_ne.2 (by omega);have e3:(((chunk S.recs k).length:Int) != 15)=false:=by rw[adV.F];rfl
   have e2:((q2:Int)==0)=false:=dH.2 (by omega);have HL:=Z hl;have HA2:=Z Y0;have kC:=Z hnx;clear hq hat hrg he hnn hk aiD hq2 hr2 hnx Y0 hl hgl hgn
   go_wp2_with (first
    |(refine aH O aa (G0.F _ _) ?_)
    |(refine bB O ?_ (hk:=fD))
    |(refine aU ?_;refine mh O _ _ (by rfl) _ _ (by rfl) (aI (by rfl)) vk q 0 (by omega) FP.F (by rfl) ?_)
    |(refine aU ?_;refine yw O _ _ _ (by rfl) d (by rfl) yo (by rw[iT.F];decide) ?_;clear O;intro qb cq J O;rw[iT.F] at O ⊢)
    |(go_at_call 117;refine(abV O _ (some ⟨qb,0,none⟩) cq iT.F (fun w h=>h.dY (k:=0) rfl) (by decide) FU.F HE2.F FV.F).mono ?_;clear O;rintro e J ⟨v9,rfl,O⟩;obtain⟨Jr,c9,rfl,_⟩:=O.fA (k:=0) rfl)
    |(refine aH O hz2 (G6.F _ _) ?_)
    |(refine il [.int .i64 (q:Int)] O ?_ (hc:=by simp[Value.cells]);clear O;intro b1 J O;rw[jC rfl] at O)
    |(at_builtin;refine aU ?_;refine rz O _ _ _ _ (by rfl) (by rfl) (by rfl) (bS (by rfl)) (by rfl) (by rfl) (by rfl) (dO (by rfl)) BN (m:=[q]) (by exact O.jc (sz:=1) aa (by decide) rfl) (by have:=fU.F;simp;omega) ?_;clear O;intro v2g J O;dsimp only[aD,aN] at O;replace O:=O.drop;rw[FY.F] at O;obtain⟨ag,cg,rfl,_⟩:=O.mg (k:=5) rfl)
    |(refine iA O hz2 ?_ (hb:=by rw[FK eH.F];decide);clear O;intro J O;dsimp only[aD,aN] at O;first|rw[Uq eH.F] at O|rw[Uo eH.F] at O)
    |(refine aH O hz2 (IC eH.F) ?_)
    |(refine og O fD (chunk S.recs k) ?_ (hlen:=gB.F) (hsrc:=(.inl (O.kK aa))) (I:=Jh.F) (hb:=by have:=lT.F;have:=Bd.F;omega) (hm:=by have:=lT.F;have:=Bd.F;omega);clear O;intro Mw cr2 J _ O;dsimp only[aD,aN] at O;rw[qf.F] at O ⊢))
   rw[wP.F] at O;exact⟨⟨k+1,HL.F,by rw[HA2.F],by go_num,by rw[Vk.F];exact iG.F _ _ _ O.drop.drop⟩,Jy HKK.F⟩
  ·have hke:k+1=gs.length:=by omega
   have hnx:jo gs k=0:=by unfold jo;rw[qE (by omega)];rfl
   rw[hnx] at HE2;have kC:=Z hnx
   have htl:S.sup.tail=(q:Int):=by
    rw[HK.F.tail,List.getLast_eq_getElem];congr 1;have:gs[k]? =some gs[gs.length-1]:=by rw[<-aR];congr 1;omega
    rw[hq] at this;exact(ig this).symm
   have hall:S.recs.take (15*(k+1))=S.recs:=dF (by rw[hke];exact HK.F.high);have Za:gs.take (k+1)=gs:=dF (by omega);have G3:=Z (show ∀r g,(bE pe S.sup fv S.aB r g)[3]? =some (.int .i64 (q:Int)) from fun r g=>by rw[Ch (by decide),<-htl];rfl);have G4:=Z (show ∀r g,(bE pe S.sup fv S.aB r g)[4]? =some (.int .i64 ((S.recs.length:Nat):Int)) from fun r g=>by rw[Ch (by decide),<-HK.F.recs];rfl);have G5:=Z (show ∀r g,(bE pe S.sup fv S.aB r g)[1785]? =some r from fun r g=>IC eH.F);rw[hall] at iG;have LM:=Z (show gk=gs by rw[<-Vk.F,Za]);have oO:=Z (show nn=S.recs.length by rw[<-hnn,wP.F,hall]);have nH:=Z hall;have e1:((q:Int)==(q:Int))=true:=by simp
   have e2:((S.recs.length:Int)==(S.recs.length:Int))=true:=by simp
   clear hq hat hrg he hnn hk hnx hl hgl hgn htl hall Za hke
   go_wp2_with (first
    |(refine aH O aa (G0.F _ _) ?_)
    |(refine bB O ?_ (hk:=fD))
    |(refine aU ?_;refine mh O _ _ (by rfl) _ _ (by rfl) (aI (by rfl)) vk q 0 (by omega) FP.F (by rfl) ?_)
    |(refine aU ?_;refine yw O _ _ _ (by rfl) d (by rfl) yo (by rw[iT.F];decide) ?_;clear O;intro qb cq J O;rw[iT.F] at O ⊢)
    |(go_at_call 117;refine(abV O _ (some ⟨qb,0,none⟩) cq iT.F (fun w h=>h.dY (k:=0) rfl) (by decide) FU.F HE2.F FV.F).mono ?_;clear O;rintro e J ⟨v9,rfl,O⟩;obtain⟨Jr,c9,rfl,_⟩:=O.fA (k:=0) rfl)
    |(refine aH O hz2 (G6.F _ _) ?_)
    |(refine il [.int .i64 (q:Int)] O ?_ (hc:=by simp[Value.cells]);clear O;intro b1 J O;rw[jC rfl] at O)
    |(at_builtin;refine aU ?_;refine rz O _ _ _ _ (by rfl) (by rfl) (by rfl) (bS (by rfl)) (by rfl) (by rfl) (by rfl) (dO (by rfl)) BN (m:=[q]) (by exact O.jc (sz:=1) aa (by decide) rfl) (by have:=fU.F;simp;omega) ?_;clear O;intro v2g J O;dsimp only[aD,aN] at O;replace O:=O.drop;rw[FY.F] at O;obtain⟨ag,cg,rfl,_⟩:=O.mg (k:=5) rfl)
    |(refine iA O hz2 ?_ (hb:=by rw[FK eH.F];decide);clear O;intro J O;dsimp only[aD,aN] at O;first|rw[Uq eH.F] at O|rw[Uo eH.F] at O)
    |(refine aH O hz2 (IC eH.F) ?_)
    |(refine og O fD (chunk S.recs k) ?_ (hlen:=gB.F) (hsrc:=(.inl (O.kK aa))) (I:=Jh.F) (hb:=by have:=lT.F;have:=Bd.F;omega) (hm:=by have:=lT.F;have:=Bd.F;omega);clear O;intro Mw cr2 J _ O;dsimp only[aD,aN] at O;rw[qf.F] at O ⊢))
   rw[wP.F,nH.F,oO.F] at O
   (refine cB (pO [0,1,2,3,4]<|rO [5]<|pO [6,7,8,9,10]<|rO [11]<|pO [12,13,14,15,16]<|rO [17]<|pO [18,19,20]<| .e) [] O ?_;clear O;intro J O)
   repeat (first
    |(refine bG O ?_;go_frame)
    |(refine sK O ?_;go_frame)
    |(refine bR O ?_;(first
       |refine bK hz2 (G3.F _ _) ?_
       |refine bK hz2 (G5.F _ _) ?_
       |refine bK hz2 (G4.F _ _) ?_);go_frame))
   refine bO ?_;go_wp2;go_ret;have hE:=iG.F _ _ _ O.drop.drop;rw[LM.F] at hE;exact⟨rfl,hE⟩
theorem WQ (l:List Int):(kQ l).length<=l.length:=by
 unfold kQ;rw[qa];exact List.length_filter_le _ _
theorem WT:∀X:List aL,(∀x∈X,x.ptrs.length=32)->(dE X).length<=32*X.length
 |[],_=>by simp[dE]
 |x::X,h=>by
  have I:=WT X (fun y hy=>h y (List.mem_cons_of_mem _ hy));have H:=WQ x.ptrs;rw[h x (List.mem_cons_self ..),MG] at H;show(List.flatMap oo (x::X)).length<=_;rw[pY,bP,fB];show _+(dE X).length<=_;omega
theorem aof (n:Nat) (a b:List Nat):iW n (a++b)=iW n (b++a):=by
 funext p;unfold iW;congr 1;rw[List.contains_append,List.contains_append,Bool.or_comm]
def Wd (W:World) (L:List aA) (vm:Value) (n:Nat) (S:aK) (gs:List Nat) (v4 v5:Value) (wz:World):Prop:=
 ∃i:Nat,v5= .int .i64 (i:Int)/\i<=48/\Sat W wz (Ir v4 (gs++dE (S.aB.take i))::Sl 4 1 vm 1024 (mb (lJ n))::L)
def We (W:World) (L:List aA) (vm:Value) (n i:Nat) (x:aL) (S:aK) (gs:List Nat) (v4 v6:Value) (wz:World):Prop:=
 ∃k:Nat,v6= .int .i64 (k:Int)/\k<=32/\Sat W wz (Ir v4 (gs++(dE (S.aB.take i)++kQ (x.ptrs.take k)))::Sl 4 1 vm 1024 (mb (lJ n))::L)
def Wh (W:World) (L:List aA) (v4 vm:Value) (n:Nat) (all:List Nat) (v8:Value) (wz:World):Prop:=
 ∃j:Nat,v8= .int .i64 (j:Int)/\j<=all.length/\Sat W wz (Ir v4 all::Sl 4 1 vm 1024 (mb (iW n (all.take j)))::L)
theorem amF {pw pe:Nat} {S:aK} {gs:List Nat} {R:dh} (hok:bA R.L S gs) (O:Sat W w (dz pw pe S gs::aW pe R::L)):
  Calls Tryz.prog 85 #[.pointer (some ⟨pw,0,none⟩)] w fun e w'=>e= .returned (.bool true)/\Sat W w' (dz pw pe S gs::aW pe R::L):=by
 have HK:=Z hok;obtain⟨fv,r,g,v1,v2,O⟩:=Iu O;obtain⟨iI,gF,rfl,_⟩:=O.fA (k:=5) rfl;have G0:=Z (show(bE pe S.sup fv S.aB r g)[0]? =some (.pointer (some ⟨pe,0,none⟩)) from rfl);have G8:=Z (KY (pd:=pe) (s:=S.sup) (fv:=fv) (X:=S.aB) (r:=r) (last:=g));have G6:=Z (KZ (pd:=pe) (s:=S.sup) (fv:=fv) (r:=r) (last:=g) hok.x)
 have GP:=Z (fun i x (V:S.aB[i]? =some x) k p (hp:x.ptrs[k]? =some p)=>show(bE pe S.sup fv S.aB r g)[9+i*37+5+k]? =some (.int .i64 p) by
  have hk:k<32:=by have:=(bZ.1 hp).1;rw[(hok.x.ok x (bJ V)).pl] at this;exact this
  have I:=acw (pd:=pe) (s:=S.sup) (fv:=fv) (r:=r) (last:=g) hok.x V
  have H:(((bE pe S.sup fv S.aB r g).drop (9+i*37+5)).take 32)[k]? =some (.int .i64 p):=by
   rw[I];simp[pv,hp]
  rw[List.getElem?_take_of_lt hk,List.getElem?_drop] at H
  exact H)
 have iG:=Z (fun w h=>FH (W:=W) (w:=w) (L:=L) (pw:=pw) (pe:=pe) (S:=S) (gs:=gs) (R:=R) (fv:=fv) (r:=r) (g:=g) (v1:= .slice iI R.L.length gF) (v2:=v2) h);obtain⟨kN,hV⟩:=au (bE pe S.sup fv S.aB r g);rw[hV] at O iG G0 G8 G6 GP;obtain⟨n,hn⟩:=au R.L.length;have HN:=Z hn;have n1:(n:Int)<=1024:=by have:=hok.n2;omega
 have fU:=Z (show gs.length<=1024 from hok.Ai);rw[hn] at O iG;clear hV hn hok;go_enter Tryz.func85,Tryz.ntmps85
 go_wp2_with (first
  |(refine aH O aa G0.F ?_)
  |(refine bB O ?_ (hk:=fD))
  |(go_at_call 34;refine(abO O n (by omega)).mono ?_;clear O;rintro e J ⟨v3,rfl,O⟩;obtain⟨yE,mo,mc,rfl,_⟩:∃b off c,v3= .slice (some ⟨b,off,none⟩) 128 c/\128<=c:=(by have hk:=O;unfold IsMap at hk;exact hk.kV (k:=0) rfl (by decide)))
  |(go_at_call 33;refine(OG O (lJ n) yE mo mc (qy aa)).mono ?_;rintro e J ⟨vm,rfl,hS1⟩;clear O;have O:=hS1.bW.drop;clear hS1;obtain⟨nb_,no,nc,rfl,_⟩:=O.kV (k:=0) rfl (by decide))
  |(refine aH O hz1 G6.F ?_)
  |(at_builtin;refine aU ?_;refine rz O.wh _ _ _ _ (by rfl) (by rfl) (by rfl) (bS (by rfl)) (by rfl) (by rfl) (by rfl) (dO (by rfl)) aa (m:=gs) (by exact O.oG fD) (by have:=fU.F;simp;omega) ?_;clear O;intro v4 J O;rw[aD,iP] at O))
 obtain⟨L2,hL2⟩:=au (Cs pw 96 kN::IsMap fv S.U::Tb 100 3 rv r S.recs::Ir g gs::Cs pe 68 [.slice iI n gF,v2, .bool R.armed, .int .i64 R.left, .bool R.dead]::Tb 9 1 iF (.slice iI n gF) R.L::Tb 150 2 wv v2 R.Log::L);have H0:=Z (show Wd W L2 (.slice (some ⟨nb_,no,none⟩) 1024 nc) n S gs v4 (.int .i64 0) _ from⟨0,rfl,by decide,by rw[<-hL2,show dE (S.aB.take 0)=[] from rfl,kv];exact O⟩);have HL2:=Z hL2;have HH:=Z (show Has L2 0 (Cs pw 96 kN) by rw[<-hL2];exact aa);clear O hL2;go_loopw [4,5] (fun v4 v5 wz=>Wd W L2 (.slice (some ⟨nb_,no,none⟩) 1024 nc) n S gs v4 v5 wz) (fun _ v5 _=>EB 48 v5)
 case atStart=>exact H0.F
 case round=>
  clear H0;obtain⟨i,rfl,hi,O⟩:=hrel
  by_cases hlt:i<48
  ·have i1:(i:Int)<48:=by omega
   have ay:=Z hlt;obtain⟨x,V⟩:∃x,S.aB[i]? =some x:=⟨_,aR (by rw[HK.F.x.len];exact hlt)⟩
   have HX:=Z V;have q9:=Z (HK.F.x.ok x (bJ V))
   have pE:=Z (show(dE (S.aB.take i)).length<=1536 by
    have:=WT (S.aB.take i) (fun y hy=>(HK.F.x.ok y (List.mem_of_mem_take hy)).pl);rw[jr] at this
    omega)
   clear hlt hi V;go_wp2;have H1:=Z (show We W L2 (.slice (some ⟨nb_,no,none⟩) 1024 nc) n i x S gs u4 (.int .i64 0) _ from⟨0,rfl,by decide,by rw[show dE (S.aB.take i)++kQ (x.ptrs.take 0)=dE (S.aB.take i) from kv _];exact O⟩);clear O;go_loopw [4,6] (fun v4 v6 wz=>We W L2 (.slice (some ⟨nb_,no,none⟩) 1024 nc) n i x S gs v4 v6 wz) (fun _ v6 _=>EB 32 v6)
   case atStart=>exact H1.F
   case round=>
    clear H1;obtain⟨k,rfl,hk,O⟩:=hrel
    by_cases hkl:k<32
    ·obtain⟨p,hp⟩:∃p,x.ptrs[k]? =some p:=⟨_,aR (by rw[q9.F.pl];exact hkl)⟩
     have k1:(k:Int)<32:=by omega
     have HJ:=Z hkl;have HG:=Z (GP.F i x HX.F k p hp)
     by_cases h0:p=0
     ·subst h0;have kC:=Z (WR hp);clear hp hkl hk
      go_wp2_with (refine bB O ?_ (hk:=(Has.s (Has.s HH.F))) (hv:=by first|exact HG.F|(rw[<-HG.F];congr 1;omega)))
      rw[<-kC.F] at O;exact⟨⟨k+1,by go_num,HJ.F,O⟩,Jy HJ.F⟩
     ·have hpt:=q9.F.pt k p hp h0;obtain⟨q,rfl⟩:∃q:Nat,p=(q:Int):=⟨p.toNat,by omega⟩
      have kC:=Z (show gs++(dE (S.aB.take i)++kQ (x.ptrs.take k))++[q]=gs++(dE (S.aB.take i)++kQ (x.ptrs.take (k+1))) by
       rw[WS hp (by omega)];simp only[dX])
      have eX:=Z (show(gs++(dE (S.aB.take i)++kQ (x.ptrs.take k))).length<=10000 by
       have I:=WQ (x.ptrs.take k);rw[jr] at I;have:=pE.F;have:=fU.F;rw[bP,bP]
       omega)
      have e1:((q:Int) != 0)=true:=bne_iff_ne.2 h0;obtain⟨A,hA⟩:=au (gs++(dE (S.aB.take i)++kQ (x.ptrs.take k)));rw[hA] at O kC eX;clear hp hkl hk hpt h0 hA
      go_wp2_with (first
       |(refine bB O ?_ (hk:=(Has.s (Has.s HH.F))) (hv:=by first|exact HG.F|(rw[<-HG.F];congr 1;omega)))
       |(refine il [.int .i64 (q:Int)] O ?_ (hc:=by simp[Value.cells]);clear O;intro b1 J O;rw[jC rfl] at O)
       |(at_builtin;refine aU ?_;refine rz O _ _ _ _ (by rfl) (by rfl) (by rfl) (bS (by rfl)) (by rfl) (by rfl) (by rfl) (dO (by rfl)) hz1 (m:=[q]) (by exact O.jc (sz:=1) aa (by decide) rfl) (by have:=eX.F;simp;omega) ?_;intro v4' J hS1;clear O;have O:=hS1;clear hS1;dsimp only[aD,aN] at O;replace O:=O.drop;rw[kC.F] at O))
      exact⟨⟨k+1,by go_num,HJ.F,O⟩,Jy HJ.F⟩
    ·obtain rfl:k=32:=by omega
     have Cr:=Z (show dE (S.aB.take i)++kQ (x.ptrs.take 32)=dE (S.aB.take (i+1)) by
      rw[WU HX.F,show x.ptrs.take 32=x.ptrs from dF (by rw[q9.F.pl];exact aZ _),MG])
     rw[Cr.F] at O;clear hkl hk;go_wp2;exact⟨⟨i+1,by go_num,ay.F,O⟩,Jy ay.F⟩
  ·obtain rfl:i=48:=by omega
   rw[show((48:Nat):Int)=48 from rfl];rw[show S.aB.take 48=S.aB from dF (by rw[HK.F.x.len];exact aZ _)] at O;have PK:=Z (show(gs++dE S.aB).Nodup from(List.perm_append_comm.nodup_iff).1 HK.F.nd)
   have PL:=Z (show ∀q∈gs++dE S.aB,74<=q/\q<n from fun q hq=>by
    rw[<-HN.F];refine HK.F.gU q ?_
    rcases gy.1 hq with h|h
    ·exact nD _ h
    ·exact nC _ h)
   have U6:=Z (show iW n (gs++dE S.aB)=S.U by rw[aof,<-HN.F,HK.F.u]);obtain⟨all,ha⟩:=au (gs++dE S.aB);rw[ha] at O PK PL U6
   have al1:(all.length:Int)<=1024:=by
    have:=Ig 1024 all PK.F (fun q hq=>by have:=(PL.F q hq).2;omega);omega
   clear hlt hi ha;go_wp2;have H1:=Z (show Wh W L2 u4 (.slice (some ⟨nb_,no,none⟩) 1024 nc) n all (.int .i64 0) _ from⟨0,rfl,eG _,by rw[List.take_zero,UB];exact O⟩);obtain⟨at_,ct,rfl,_⟩:=O.mg (k:=0) rfl;clear O;go_loopw [8] (fun v8 wz=>Wh W L2 (.slice at_ all.length ct) (.slice (some ⟨nb_,no,none⟩) 1024 nc) n all v8 wz) (fun v8 _=>EB all.length v8)
   case atStart=>exact H1.F
   case round=>
    clear H1;obtain⟨j,rfl,hj,O⟩:=hrel
    by_cases hjl:j<all.length
    ·have j1:(j:Int)< (all.length:Int):=by omega
     have HJ:=Z hjl;obtain⟨q,hq⟩:∃q,all[j]? =some q:=⟨_,aR hjl⟩
     obtain⟨I,H⟩:=PL.F q (bJ hq)
     have hnm:q∉all.take j:=by
      intro hm;obtain⟨m,hm⟩:=jJ hm;have hmj:m<j:=by have:=(bZ.1 hm).1;simp at this;omega
      rw[List.getElem?_take_of_lt hmj] at hm;have:=(List.getElem?_inj (by omega) PK.F).1 (hm.trans hq.symm);omega
     have HY:=Z (xC (iW n (all.take j)) (show q<1024 by omega));rw[UA I H hnm] at HY;have HE:=Z (yF (iW n (all.take j)) true (show q<1024 by omega));rw[Pq,show all.take j++[q]=all.take (j+1) by rw[ik,hq];rfl] at HE;have HX:=Z (qw hq);have iB:=Z (O.oG (k:=0) rfl);obtain⟨tb,Pm,cc,e9,_⟩:=O.kV (k:=0) (by unfold Ir;rfl) (by omega);simp only[Value.slice.injEq,true_and] at e9;obtain⟨rfl,rfl⟩:=e9;have q1:(q:Int)<1024:=by omega
     have HQ:=Z (show q<1024 by omega);clear hq I H hnm hjl hj
     go_wp2_with (first
      |(refine bN (fF iB.F _ _ (by rfl) _ (by rfl) (aI (by rfl)) j (by omega) HX.F (by have:=HJ.F;omega)) ?_)
      |(refine aU ?_;refine SL O _ _ (by rfl) _ _ (by rfl) (aI (by rfl)) hz1 q (by omega) HY.F ?_)
      |(refine aU ?_;refine Cf O _ _ _ (by rfl) _ _ (by rfl) _ (by first|exact sV|exact rA (by rfl)) (by rfl) (bz (by rfl)) hz1 q (by omega) (by rw[qz];exact HQ.F) ?_;clear O;intro J O;rw[aN,aD,HE.F] at O))
     exact⟨⟨j+1,by go_num,HJ.F,O⟩,Jy HJ.F⟩
    ·obtain rfl:j=all.length:=by omega
     have j1:¬(all.length:Int)< (all.length:Int):=by omega
     rw[List.take_length,U6.F] at O;have hS2:=O.drop;rw[<-HL2.F] at hS2;have vK:=Z (fun w (h:Sat W w (Sl 4 1 (.slice (some ⟨nb_,no,none⟩) 1024 nc) 1024 (mb S.U)::Cs pw 96 kN::IsMap fv S.U::Tb 100 3 rv r S.recs::Ir g gs::Cs pe 68 [.slice iI n gF,v2, .bool R.armed, .int .i64 R.left, .bool R.dead]::Tb 9 1 iF (.slice iI n gF) R.L::Tb 150 2 wv v2 R.Log::L))=>Oq h S.U (some ⟨nb_,no,none⟩) nc (fun w L' h=>h.dY (Nl _ _ _)));clear O hjl hj;have O:=hS2;clear hS2;have e1:∀b:List UInt8,(b==b)=true:=fun b=>by simp
     go_wp2
     (refine cB (pO [0,3,4,5]<|rO [6,7]<|aO [1]<|rO [2]<|pO [8,9]<| .e) [] O ?_;clear O;intro J O)
     repeat (first
      |(refine bG O ?_;go_frame)
      |(refine bR O ?_;(first
           |refine bK hz1 G8.F ?_
           |refine bK hz2 G8.F ?_
           |refine⟨_,xM _ _ _ (by rfl) vb (by rfl) jI (fun u hu=>qy aa u [] hu),?_⟩
           |refine⟨_,xM _ _ _ (by rfl) fv (by rfl) jI (fun u hu=>qy hz2 u [] hu),?_⟩
           |refine⟨_,xM _ _ _ (by rfl) fv (by rfl) jI (fun u hu=>qy hz3 u [] hu),?_⟩);go_frame)
      |(refine bY fun K hK=>?_;(refine cK (vK.F _ O) ?_;clear O;rintro e J ⟨vb,rfl,O⟩;refine⟨_,rfl,?_⟩);refine hK.go O ?_;clear hK K;go_frame))
     refine bO ?_;go_wp2;go_ret;exact⟨rfl,iG.F _ O.drop.drop⟩
theorem amf {D:aG} {R:dh} (h:Rel D R):Rel (o6 D).2 (FD D R):=by
 cases hb:mV D with
 |false=>rw[Oz hb,(BZ hb).1];exact h
 |true=>rw[(TQ (R:=R) hb rfl).1,(TQ (R:=R) hb rfl).2.2];exact h.run _
def RoE (W:World) (L:List aA) (pe:Nat) (S:aK) (gs:List Nat) (D:aG) (e:Ending) (w':World):Prop:=∃pw R',e= .returned (.tuple #[.pointer (some ⟨pw,0,none⟩), .int .i64 0])/\Rel D R'/\Sat W w' (dz pw pe S gs::aW pe R'::L)
def V5 (W:World) (L:List aA) (pw pe:Nat) (S:aK) (fv:Value) (v9:Value) (wz:World):Prop:=
 ∃i:Nat,v9= .int .i64 (i:Int)/\i<=48/\Sat W wz (Cs pw 96 (bE pe S.sup fv (o9 S.aB i) (.slice none 0 0) (.slice none 0 0))::L)
theorem amz {pe k k0:Nat} {S:aK} {D0 D:aG} {B:List (List UInt8)} {gs:List Nat} {R:dh} (hok:bA B S gs) (hR:Rel D0 R) (hG:DG D0 k0) (hk:k0<=90000) (h26:26<=D0.blocks.length) (hD:∀b∈D0.blocks,b.length=128) (hrec:o6 D0=(0,D)) (hl:Lv D B k) (O:Sat W w (aW pe R::L)):
  Calls Tryz.prog 40 #[.pointer (some ⟨pe,0,none⟩)] w fun e w'=>RoE W L pe S gs D e w':=by
 have Eb:=Z (fun w (h:Sat W w (aW pe R::L))=>amC h hR hG hk h26 hD);have hR2:=amf hR;rw[hrec] at Eb hR2;obtain⟨rb,hrb⟩:=au (yO D0);obtain⟨R2,R4⟩:=au (FD D0 R);rw[hrb,R4] at Eb;rw[R4] at hR2;have gB:=Z hR2;have hRB:R2.L=B:=by rw[<-hR2.blocks,hl.bl]
 subst hRB;have HK:=Z hok;have n1:(160:Int)<=(R2.L.length:Int):=by have:=hok.n1;omega
 have n2:(R2.L.length:Int)<=1024:=by have:=hok.n2;omega
 have hse:=YF hok.sup;have HB0:=Z hok.b0;have HB1:=Z hok.b1;have jg:=Z (uC S.U);have iT:=Z (oD S.sup)
 have Ed:=Z (fun w L q c (h:Sat W w (Sl 5 1 (.slice (some ⟨q,0,none⟩) 128 c) 128 (bv (encS S.sup))::L))=>by
  have:=alW h (encS S.sup) (some ⟨q,0,none⟩) c (fun w h=>by rw[oD];exact h.dY (k:=0) rfl) (by rw[oD];decide);rw[oD,hse.1,hse.2] at this
  exact this)
 have qX:=Z (show ∀(q c:Nat) (u:World),(Instr.build 96 #[(0, .pointer (some ⟨pe,0,none⟩)),(2, .slice (some ⟨q,0,none⟩) 128 c)]).run Tryz.prog u= .ok (.agg (bE pe nV (.slice (some ⟨q,0,none⟩) 128 c) zX (.slice none 0 0) (.slice none 0 0)).toArray) u from fun q c u=>run_build u _ _ _ (by kernel_rfl));have HZ7:=Z (show nU Tryz.prog 55=some (some (.agg (sv nV).toArray)) by kernel_rfl);have G1:=Z (show(sv S.sup)[0]? =some (.int .i64 (R2.L.length:Int)) by show some (Value.int .i64 S.sup.blocks)=_;rw[hok.blocks]);have e0:((R2.L.length:Int) != (R2.L.length:Int))=false:=by simp
 have sM:=Z (show 160<=R2.L.length from hok.n1);have fQ:=Z (fun fv=>FK (pd:=pe) (s:=nV) (fv:=fv) (r:= .slice none 0 0) (last:= .slice none 0 0) UQ);have uS:=Z (fun fv=>Pf (pd:=pe) (s:=nV) (s':=S.sup) (fv:=fv) (X:=zX) (r:= .slice none 0 0) (last:= .slice none 0 0));obtain⟨nZ,hZ⟩:∃nZ,(fun fv=>bE pe nV fv zX (.slice none 0 0) (.slice none 0 0))=nZ:=⟨_,rfl⟩;have QO:=Z (show ∀fv,bE pe nV fv zX (.slice none 0 0) (.slice none 0 0)=nZ fv from fun fv=>by rw[<-hZ]);have HZD:=Z (show ∀(q c:Nat) (u:World),(Instr.build 96 #[(0, .pointer (some ⟨pe,0,none⟩)),(2, .slice (some ⟨q,0,none⟩) 128 c)]).run Tryz.prog u= .ok (.agg (nZ (.slice (some ⟨q,0,none⟩) 128 c)).toArray) u from fun q c u=>by rw[<-QO.F];exact qX.F q c u);have HZM:=Z (show ∀fv,(nZ fv).length=1787 from fun fv=>by rw[<-QO.F];exact fQ.F fv);have HZS:=Z (show ∀fv,(nZ fv).take 1++sv S.sup++(nZ fv).drop 8=bE pe S.sup fv zX (.slice none 0 0) (.slice none 0 0) from fun fv=>by rw[<-QO.F];exact uS.F fv);clear hok hl hrec hse hk hG h26 hD hrb R4 hR hR2 hZ qX fQ uS;go_enter Tryz.func40,Tryz.ntmps40
 go_wp2_with (first
  |(go_at_call 81;refine(Eb.F _ O).mono ?_;rintro e J ⟨rfl,hS1⟩;clear O;obtain⟨v1,v2,O⟩:=aW.open hS1;clear hS1;obtain⟨Ey,Fs,gF,rfl,_⟩:=O.pX (k:=1) rfl (by have:=sM.F;omega))
  |(refine bB O ?_ (hk:=aa))
  |(refine aU ?_;refine mh O _ _ (by rfl) _ _ (by rfl) (aI (by rfl)) hz1 1 0 (by omega) HB1.F (by rfl) ?_)
  |(refine aU ?_;refine yw O _ _ _ (by rfl) (cO S.U) (by rfl) yo (by rw[jg.F];decide) ?_;clear O;intro qm cm J O;rw[jg.F] at O ⊢)
  |(refine aU ?_;refine bd _ _ (by rfl) (by simp only[List.map_toArray,jN,List.map_nil];rfl) (HZD.F _ _) ?_)
  |(refine bV O ?_;clear O;intro pw J O;rw[aS] at O;replace O:=(show Sat W _ (_::_::_::_::_::L) from O.re [2,3,4,0,1]))
  |(refine aU ?_;refine mh O _ _ (by rfl) _ _ (by rfl) (aI (by rfl)) hz1 0 0 (by omega) HB0.F (by rfl) ?_)
  |(refine aU ?_;refine yw O _ _ _ (by rfl) (encS S.sup) (by rfl) yo (by rw[iT.F];decide) ?_;clear O;intro qs cs J O;rw[iT.F] at O ⊢)
  |(go_at_call 82;refine ak (Ed.F _ _ _ _ O) ?_;clear O;intro J O;replace O:=O.drop)
  |(refine dU O ?_ (hz:=HZ7.F);clear O;intro p7 J O;rw[aS] at O)
  |(refine eT (sv S.sup) O aa ?_ (hv:=(lI _));clear O;intro J O;rw[aD] at O))
 (refine cB (pO [0,1,2,3]<|rO [4]<|pO [5,6,7]<|rO [8]<|pO [9,10,11]<| .e) [] O ?_;clear O;intro J O)
 repeat (first
  |(refine bG O ?_;go_frame)
  |(refine sK O ?_;go_frame)
  |(refine bR O ?_;(first
   |refine bK aa G1.F ?_
   |refine rM hz1 ?_);go_frame))
 refine bO ?_
 go_wp2_with (first
  |(refine aU ?_;refine rE O _ _ (by rfl) _ _ (by rfl) (aI (by rfl)) (bz (by rfl)) aa (by exact aZ 7) ?_)
  |(refine kW (sv S.sup) O fD ?_ (hv:=(lI _)) (hb:=by rw[HZM.F];show 8<=1787;decide);clear O;intro J O;dsimp only[aD,aN] at O;rw[show 1+(sv S.sup).length=8 from rfl,HZS.F] at O))
 obtain⟨L2,hL2⟩:=au (Cs p7 55 (sv S.sup)::Cs pe 68 [.slice (some ⟨Ey,Fs,none⟩) R2.L.length gF,v2, .bool R2.armed, .int .i64 R2.left, .bool R2.dead]::Tb 9 1 iF (.slice (some ⟨Ey,Fs,none⟩) R2.L.length gF) R2.L::Tb 150 2 wv v2 R2.Log::Sl 5 1 (.slice (some ⟨qm,0,none⟩) 128 cm) 128 (bv (cO S.U))::L);have HL2:=Z hL2;have HE:=Z (show Has L2 1 (Cs pe 68 [.slice (some ⟨Ey,Fs,none⟩) R2.L.length gF,v2, .bool R2.armed, .int .i64 R2.left, .bool R2.dead]) by rw[<-hL2];exact hz1);have HT:=Z (show Has L2 2 (Tb 9 1 iF (.slice (some ⟨Ey,Fs,none⟩) R2.L.length gF) R2.L) by rw[<-hL2];exact hz2);have H0:=Z (show V5 W L2 pw pe S (.slice (some ⟨qm,0,none⟩) 128 cm) (.int .i64 0) _ from⟨0,rfl,by decide,by rw[<-hL2,acS];exact O.re [4]⟩);clear O hL2;go_loopw [9] (fun v9 wz=>V5 W L2 pw pe S (.slice (some ⟨qm,0,none⟩) 128 cm) v9 wz) (fun v9 _=>Gf 48 v9)
 case atStart=>exact H0.F
 case round=>
  clear H0;obtain⟨i,rfl,hi,O⟩:=hrel
  by_cases hlt:i<48
  ·have k1:(i:Int)<48:=by omega
   have ay:=Z hlt;obtain⟨x,V⟩:∃x,S.aB[i]? =some x:=⟨_,aR (by rw[HK.F.x.len];exact hlt)⟩
   have q9:=Z (HK.F.x.ok x (bJ V));have PO:=Z (HK.F.bi i x V);have y8:=Z (fun w L q c (h:Sat W w (Sl 5 1 (.slice (some ⟨q,0,none⟩) 128 c) 128 (bv (encI x))::L))=>amn h x q9.F (some ⟨q,0,none⟩) c (fun w L' h=>h.dY (has_add aa L')));have lT:=Z (FK (pd:=pe) (s:=S.sup) (fv:= .slice (some ⟨qm,0,none⟩) 128 cm) (r:= .slice none 0 0) (last:= .slice none 0 0) (K6 HK.F.x hi));have dI:=Z (show(inv x).length=37 by rw[fe,q9.F.pl]);have HI1:=Z (inv_one x);have DY:=Z (CY x q9.F.pl);have VS:=Z (show nU Tryz.prog 78=some (some (.agg (inv bC).toArray)) by kernel_rfl);have fQ:=Z (show(inv bC).length=37 from rfl)
   have oU:=Z (show(bE pe S.sup (.slice (some ⟨qm,0,none⟩) 128 cm) (o9 S.aB i) (.slice none 0 0) (.slice none 0 0)).take (9+i*37)++inv x++(bE pe S.sup (.slice (some ⟨qm,0,none⟩) 128 cm) (o9 S.aB i) (.slice none 0 0) (.slice none 0 0)).drop (9+i*37+(inv x).length)=bE pe S.sup (.slice (some ⟨qm,0,none⟩) 128 cm) (o9 S.aB (i+1)) (.slice none 0 0) (.slice none 0 0) by
    rw[dI.F,acy (K6 HK.F.x hi) hlt x q9.F.pl,acR HK.F.x.len V])
   obtain⟨iv,dA⟩:=au (inv x);rw[dA] at y8 dI HI1 oU;have HIT:=Z (show(iv.drop 0).take 37=iv by rw[kz];exact dF (by rw[dI.F];exact aZ _));obtain⟨zi,hzi⟩:=au (inv bC);rw[hzi] at VS fQ;clear hlt hi V dA hzi
   go_wp2_with (first
    |(refine bB O ?_ (hk:=(Has.s HE.F)))
    |(refine aU ?_;refine mh O _ _ (by rfl) _ _ (by rfl) (aI (by rfl)) (Has.s HT.F) (26+i) 0 (by omega) PO.F (by rfl) ?_)
    |(refine aU ?_;refine yw O _ _ _ (by rfl) (encI x) (by rfl) yo (by rw[DY.F];decide) ?_;clear O;intro qi ci J O;rw[DY.F] at O ⊢)
    |(go_at_call 83;refine ak (y8.F _ _ _ _ O) ?_;clear O;intro J O)
    |(refine dU O ?_ (hz:=VS.F);clear O;intro uJ J O;rw[aS] at O)
    |(refine eT iv O aa ?_ (hv:=HI1.F) (hn:=by rw[dI.F];exact bz (by rfl)) (hb:=by rw[dI.F,fQ.F]);clear O;intro J O;rw[aD] at O))
   (refine cB (pO [0,1]<|rO [2]<|pO [3,4,5]<|aO [6]<| .e) [6] O ?_;clear O;intro J O)
   repeat (first
    |(refine bG O ?_;go_frame)
    |(refine bR O ?_;(refine lY aa iv ?_ (hvs:=HIT.F) (hb:=dI.F));go_frame)
    |(refine bY fun K hK=>?_;(refine FJ iv O hz2 ?_ (hv:=HI1.F) (hn:=by rw[dI.F];exact bz (by rfl)) (hb:=by rw[lT.F,dI.F];have:=ay.F;omega);clear O;intro J O;dsimp only[aD,aN] at O);refine hK.go O ?_;clear hK K;go_frame))
   refine bO ?_;rw[oU.F] at O;go_wp2;exact⟨⟨i+1,by go_num,ay.F,O.drop.drop⟩,Ob ay.F⟩
  ·obtain rfl:i=48:=by omega
   rw[acQ HK.F.x.len] at O;rw[<-HL2.F] at O;have hS2:Sat W _ (dz pw pe {S with recs:=[]} []::aW pe R2::Cs p7 55 (sv S.sup)::L):=FH (S:= {S with recs:=[]}) (gs:=[]) (R:=R2) ((O.jb (E:=100) (sz:=3) (f:=rv)).wh.re [2,7,1,0,4,5,6,3]);have jv:=Z (fun w h=>alD (W:=W) (w:=w) (L:=Cs p7 55 (sv S.sup)::L) (pw:=pw) (pe:=pe) HK.F h);have Mf:=Z (fun w h=>amF (W:=W) (w:=w) (L:=Cs p7 55 (sv S.sup)::L) (pw:=pw) (pe:=pe) HK.F h);have eH:=Z HK.F.x;have HG:=Z (bL HK.F.gr);have oQ:=Z (show S.recs.length<=900000 by have:=HK.F.high;have:=HK.F.Ai;omega);clear hlt hi O;have O:=hS2;clear hS2
   go_wp2_with (first
    |(go_at_call 84;refine ak (jv.F _ O) ?_;clear O;intro J O)
    |(go_at_call 85;refine(Mf.F _ O).mono ?_;rintro e J ⟨rfl,hS1⟩;clear O;obtain⟨fv,r,g,v1,v3,O⟩:=Iu hS1;clear hS1;obtain⟨ar,cr,rfl,_⟩:=O.fA (k:=2) rfl)
    |(refine aH O aa (IC eH.F) ?_)
    |(go_at_call 86;refine(abI O S.recs ar cr (fun w h=>h.kK (k:=2) rfl) oQ.F).mono ?_;rintro e J ⟨pg,rfl,hS1⟩;rw[HG.F];clear O;have O:=hS1.drop;clear hS1))
   go_ret2
   exact⟨pw,R2,rfl,gB.F,(FH O).Oi.drop⟩
def onv (d s e w:Value):List Value:=[d,s,e,w]
def ptr (p:Nat):Value:= .pointer (some ⟨p,0,none⟩)
def OnE (W:World) (L:List aA) (po pd pe:Nat) (S:aK) (gs:List Nat) (D:aG) (e:Ending) (w':World):Prop:=
 e= .returned (.bool true)/\∃ps pw R',Rel D R'/\Sat W w' (Cs po 36 [.pointer (some ⟨pd,0,none⟩), .pointer (some ⟨ps,0,none⟩), .pointer (some ⟨pe,0,none⟩), .pointer (some ⟨pw,0,none⟩)]::bF ps pd S::aP pd D::dz pw pe S gs::aW pe R'::L)
theorem akx {po pd pe k k0:Nat} {S:aK} {D0 D:aG} {B:List (List UInt8)} {gs:List Nat} {R:dh} {s0 w0:Value} (hok:bA B S gs) (hR:Rel D0 R) (hG:DG D0 k0) (hk:k0<=90000) (h26:26<=D0.blocks.length) (hD:∀b∈D0.blocks,b.length=128) (hrec:o6 D0=(0,D)) (hl:Lv D B k)
  (O:Sat W w (Cs po 36 [.pointer (some ⟨pd,0,none⟩),s0, .pointer (some ⟨pe,0,none⟩),w0]::aP pd D0::aW pe R::L)):
  Calls Tryz.prog 9 #[.pointer (some ⟨po,0,none⟩)] w fun e w'=>OnE W L po pd pe S gs D e w':=by
 have HO:=Z (fun w M (h:Sat W w (aP pd D0::M))=>Od hok hG hk h26 hrec hl h);have HP:=Z (fun w M (h:Sat W w (aW pe R::M))=>amz hok hR hG hk h26 hD hrec hl h);clear hok hR hG hk h26 hD hrec hl;go_enter Tryz.func9,Tryz.ntmps9
 go_wp2_with (first
  |(refine bB O ?_ (hk:=aa))
  |(refine bB O ?_ (hk:=hz2))
  |(go_at_call 17;refine(HO.F _ _ O.bW).mono ?_;rintro e J hE;obtain⟨ps,rfl,hS1⟩:=hE;clear O;have O:=hS1;clear hS1)
  |(go_at_call 40;refine(HP.F _ _ (O.re [3])).mono ?_;rintro e J hE;obtain⟨pw,R',rfl,hR',hS1⟩:=hE;clear O;have O:Sat W _ (Cs po 36 _::bF ps pd S::aP pd D::dz pw pe S gs::aW pe R'::L):=hS1.re [4,2,3,0,1];clear hS1;have Bj:=Z hR';clear hR')
  |(refine iA O aa ?_;clear O;intro J O;dsimp only[List.set] at O))
 go_ret;exact⟨rfl,ps,pw,R',Bj.F,O⟩
end Go.Proofs.YtjbiihbicknemaaGreat
