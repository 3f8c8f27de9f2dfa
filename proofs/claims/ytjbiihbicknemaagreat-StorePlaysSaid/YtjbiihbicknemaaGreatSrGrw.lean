/-
  Part of the proof of StoreWhole.
-/
import Derived.Test.YtjbiihbicknemaaGreatMCrs
import Derived.Test.YtjbiihbicknemaaGreatStGrow
import Derived.Test.YtjbiihbicknemaaGreatMSrs
set_option linter.unusedSimpArgs false
set_option linter.unusedVariables false
set_option maxRecDepth 20000
set_option maxHeartbeats 40000000
namespace Go.Proofs.YtjbiihbicknemaaGreat
open Go.RowKit Go.Sep
variable {W w:World} {L:List aA}
attribute [local irreducible] Oper.wp wpList Calls Code.wp Sep.dR Sep.fJ
theorem amD (O:Sat W w L) (l:List bM) (ao:Option Addr) (c:Nat) {q:Nat} (hq:l.length=q) (hr:∀w,Sat W w L->Rd w (.slice ao q c) q 3 (l.flatMap rv)) (next:Int) (hok:jM l next=true) {d:List UInt8} (hd:gL l next=d) (hdl:d.length=128):
  Calls Tryz.prog 37 #[.slice ao q c, .int .i64 next] w fun e w'=>∃v',e= .returned v'/\Sat W w' (Sl 5 1 v' 128 (bv d)::L):=by
 subst hq;have h15:l.length<=15:=(Kq hok).1;refine(KL O l ao c hr (by omega) next).mono ?_;rintro e w' ⟨v',he,h⟩;rw[BV hok,hd,hdl] at h;exact⟨v',he,h⟩
def uh (pw pe:Nat) (S:aK) (gs:List Nat) (R:dh) (l:List bM) (fv r g va vt vm:Value):List aA:=
 [Ir vt (kX S l),IsMap vm (mi S l),Cs pw 96 (bE pe S.sup fv S.aB r g),IsMap fv S.U,Tb 100 3 rv r S.recs,Ir g gs,aW pe R,Tb 100 3 rv va (df S l)]
def TT (W:World) (L:List aA) (pw pe:Nat) (S:aK) (gs:List Nat) (R:dh) (l:List bM) (shown:Bool) (aq:Option Addr) (nl cq m:Nat) (fv r g va vt vm:Value):Act->World->Prop:=(fun(a':Act) (w':World)=>(nA S l shown≠S.sup/\Sat W w' (uh pw pe S gs R l fv r g va vt vm++L))/\tN 196 [(0, .pointer (some ⟨pw,0,none⟩)),(1, .slice aq nl cq),(2, .bool shown),(7,va),(11, .int .i64 (m:Int)),(12,vt),(13,vm)] [6,8,9,10,14,22,23,24,25,26,27,28,29,30,31,32,33,34,35,36,37,38,39,40,41,42,43,44,45,46,47,48,49,50,51,52,53,54,55,56,57,58,59,60,61,62,63,64,65,66,67,68,69,70,71,72,73,74,75,76,77,78,79,80,81,82,83] (fun _=>undef) a')
def OB (W:World) (L:List aA) (pw pe:Nat) (S:aK) (gs:List Nat) (R:dh) (l:List bM) (shown:Bool) (aq:Option Addr) (nl cq m:Nat) (fv r g va vt vm vb:Value):Act->World->Prop:=(fun(a':Act) (w':World)=>(Sat W w' (Tb 150 2 dS (a'.tmps.getD 15 undef) (pq S l)::Ir vb (eO S gs l)::(uh pw pe S gs R l fv r g va vt vm++L)))/\tN 196 [(0, .pointer (some ⟨pw,0,none⟩)),(1, .slice aq nl cq),(2, .bool shown),(7,va),(11, .int .i64 (m:Int)),(12,vt),(13,vm),(16,vb)] [6,8,9,10,14,15,17,18,19,22,23,24,25,26,27,28,29,30,31,32,33,34,35,36,37,38,39,40,41,42,43,44,45,46,47,48,49,50,51,52,53,54,55,56,57,58,59,60,61,62,63,64,65,66,67,68,69,70,71,72,73,74,75,76,77,78,79,80,81,82,83,84,85,86,87,88,89,90,91,92,93,94,95,96,97,98,99,100,101,102,103,104,105,106,107,108,109,110,111,112,113,114,115,116,117,118,119,120,121,122,123,124,125,126,127,128,129,130,131,132,133,134,135,136,137] (fun _=>undef) a')
def OC (W:World) (L:List aA) (pw pe:Nat) (S:aK) (gs:List Nat) (R:dh) (l:List bM) (shown:Bool) (aq:Option Addr) (nl cq m:Nat) (fv r g va vt vm vb:Value):Act->World->Prop:=(fun(a':Act) (w':World)=>(Sat W w' (Tb 150 2 dS (a'.tmps.getD 15 undef) (tL S l)::Ir vb (eO S gs l)::(uh pw pe S gs R l fv r g va vt vm++L)))/\tN 196 [(0, .pointer (some ⟨pw,0,none⟩)),(1, .slice aq nl cq),(2, .bool shown),(7,va),(11, .int .i64 (m:Int)),(12,vt),(13,vm),(16,vb)] [6,8,9,10,14,15,17,18,19,22,23,24,25,26,27,28,29,30,31,32,33,34,35,36,37,38,39,40,41,42,43,44,45,46,47,48,49,50,51,52,53,54,55,56,57,58,59,60,61,62,63,64,65,66,67,68,69,70,71,72,73,74,75,76,77,78,79,80,81,82,83,84,85,86,87,88,89,90,91,92,93,94,95,96,97,98,99,100,101,102,103,104,105,106,107,108,109,110,111,112,113,114,115,116,117,118,119,120,121,122,123,124,125,126,127,128,129,130,131,132,133,134,135,136,137,138,139,140,141,142,143,144,145] (fun _=>undef) a')
def OD (W:World) (L:List aA) (pw pe Kv:Nat) (S:aK) (gs:List Nat) (R:dh) (l:List bM) (shown:Bool) (aq:Option Addr) (nl cq m:Nat) (fv r g va vt vm vb v15:Value):Act->World->Prop:=(fun(a':Act) (w':World)=>(Sat W w' (Cs Kv 55 (sv (gD S l shown))::Tb 150 2 dS v15 (tL S l)::Ir vb (eO S gs l)::(uh pw pe S gs R l fv r g va vt vm++L)))/\tN 196 [(0, .pointer (some ⟨pw,0,none⟩)),(1, .slice aq nl cq),(2, .bool shown),(7,va),(11, .int .i64 (m:Int)),(12,vt),(13,vm),(15,v15),(16,vb),(20, .pointer (some ⟨Kv,0,none⟩))] [6,8,9,10,14,17,18,19,22,23,24,25,26,27,28,29,30,31,32,33,34,35,36,37,38,39,40,41,42,43,44,45,46,47,48,49,50,51,52,53,54,55,56,57,58,59,60,61,62,63,64,65,66,67,68,69,70,71,72,73,74,75,76,77,78,79,80,81,82,83,84,85,86,87,88,89,90,91,92,93,94,95,96,97,98,99,100,101,102,103,104,105,106,107,108,109,110,111,112,113,114,115,116,117,118,119,120,121,122,123,124,125,126,127,128,129,130,131,132,133,134,135,136,137,138,139,140,141,142,143,144,145,146,147,148,149,150,151,152,153,154,155,156,157,158,159,160,161,162,163] (fun _=>undef) a')
def V3 (W:World) (L:List aA) (mm m:Nat) (S:aK) (gs:List Nat) (l:List bM) (vb:Value) (v15 v17:Value) (wz:World):Prop:=
 ∃i:Nat,v17= .int .i64 ((mm+i:Nat):Int)/\i<=m+1/\Sat W wz (Tb 150 2 dS v15 (wE (eO S gs l) (df S l) mm i)::Ir vb (eO S gs l)::L)
theorem amq {pw pe k:Nat} {S:aK} {gs:List Nat} {D:aG} {R:dh} (hok:bA D.blocks S gs) (O:Sat W w (dz pw pe S gs::aW pe R::L)) (hR:Rel D R) (hD:DG D k) (hk:k<=90000)
  (l:List bM) (aq:Option Addr) (cq:Nat) (hr:∀w L',Sat W w (L'++L)->Rd w (.slice aq l.length cq) l.length 3 (l.flatMap rv)) (hl:l.length<=1000000) (shown:Bool):
  Calls Tryz.prog 43 #[.pointer (some ⟨pw,0,none⟩), .slice aq l.length cq, .bool shown] w fun e w'=>Er W L pw pe (Db S gs l (jd S D l shown).1) (jd S D l shown) e w':=by
 have bq:=Z hok;have HR:=Z hR;have eH:=Z hok.x;have hrl:S.recs.length<=15360:=by have:=hok.high;have:=hok.Ai;omega
 have gB:=Z hrl;have jO:=Z hl;have jX:=Z (show R.L=D.blocks from hR.blocks.symm);obtain⟨fv,r,g,O⟩:=dz.open O
 have aiP:(l.length:Int)<=1000000:=by omega
 obtain⟨nl,hnl⟩:=au l.length;have sM:=Z hnl;have nX:=Z (show ∀x∈S.recs,(rv x).length=3 from fun _ _=>rfl)
 have HVO:=Z (show ∀u∈S.recs.flatMap rv,u.oneCell'=true from fun u hu=>by
  obtain⟨x,_,V⟩:=mE.1 hu
  exact xI x u V)
 have Bn:=Z (show ∀x∈l,(rv x).length=3 from fun _ _=>rfl)
 have aeV:=Z (show ∀u∈l.flatMap rv,u.oneCell'=true from fun u hu=>by
  obtain⟨x,_,V⟩:=mE.1 hu
  exact xI x u V)
 obtain⟨na,hna⟩:=au ((df S l).length);have rU:=Z hna;have rV:=Z (show(S.recs++l).length=na from hna);have HAB:=Z (show na<=1015360 by rw[<-hna,Ab];omega);rw[hnl] at aiP hr ⊢;clear hok hR hl hrl hnl hna;go_enter Tryz.func43,Tryz.ntmps43;refine dK (fun KX aF=>?_);go_wp2;refine aF.F _ _ ?_;clear aF KX;refine dK (fun KX aF=>?_)
 go_wp2_with (first
  |(refine aH O aa (IC eH.F) ?_)
  |(refine og (O.jb (E:=100) (sz:=3) (f:=rv)) aa S.recs ?_ (hlen:=nX.F) (hsrc:=(.inl (O.kK hz2))) (I:=HVO.F) (hb:=by have:=gB.F;simp only[List.length_nil];omega) (hm:=by have:=gB.F;simp only[List.length_nil];omega);clear O;intro Mw cr J _ O;rw[aD,iP] at O;rw[iP])
  |(refine og O aa l ?_ (hlen:=Bn.F) (hsrc:=by rw[sM.F];exact .inl (hr _ [_,_,_,_,_,_] O)) (I:=aeV.F) (hb:=by have:=gB.F;have:=jO.F;omega) (hm:=by have:=gB.F;have:=jO.F;omega);clear O;intro lG ca J _ O;rw[aD] at O;rw[rV.F] at O ⊢))
 refine aF.F _ _ ?_;clear aF KX;have hS0:Sat W _ (dz pw pe S gs::aW pe R::Tb 100 3 rv (.slice lG na ca) (df S l)::L):=(dz.mk (S:=S) (gs:=gs) (show Sat W _ (Cs pw 96 (bE pe S.sup fv S.aB r g)::IsMap fv S.U::Tb 100 3 rv r S.recs::Ir g gs::aW pe R::Tb 100 3 rv (.slice lG na ca) (df S l)::L) from O.re [1,2,3,4,5]));clear O;have O:=hS0;clear hS0;refine dK (fun KX aF=>?_)
 by_cases h60:60<nl
 ·have k1:(60:Int)< (nl:Int):=by omega
  have HB:=Z (JP (D:=D) (shown:=shown) (aio (S:=S) (l:=l) (by rw[sM.F];exact h60)));clear h60;go_wp2;go_ret;rw[HB.F];exact⟨rfl,R,HR.F,O.Oi.drop⟩
 have k1:¬(60:Int)< (nl:Int):=by omega
 have xS:=Z (show nl<=60 by omega);clear h60;go_wp2;refine aF.F _ _ ?_;clear aF KX k1;have k60:(nl:Int)<=60:=by have:=xS.F;omega
 have wQ:=Z (fun w (h:Sat W w (dz pw pe S gs::aW pe R::Tb 100 3 rv (.slice lG na ca) (df S l)::L))=>by
  have:=abI h (df S l) lG ca (fun w h=>by have:=h.kK (k:=2) rfl;rw[rU.F] at this ⊢;exact this) (by rw[rU.F];have:=HAB.F;have:=xS.F;have:=gB.F;rw[<-rU.F,Ab,sM.F];omega);rw[rU.F] at this
  exact this)
 obtain⟨gb,hgb⟩:∃b,decide ((Gr.new.jl (df S l)).2=na)=b:=⟨_,rfl⟩;rw[hgb] at wQ;have FX:=Z hgb;clear hgb;refine dK (fun KX aF=>?_)
 cases gb with
 |false=>
  have HB:=Z (JP (D:=D) (shown:=shown) (aiq (S:=S) (l:=l) (by rw[rU.F];exact FX.F)))
  go_wp2_with (go_at_call 86;refine(wQ.F _ O).mono ?_;rintro e J ⟨pg,rfl,hS1⟩;clear O;have O:=hS1.drop;clear hS1)
  go_ret;rw[HB.F];exact⟨rfl,R,HR.F,O.Oi.drop⟩
 |true=>
 go_wp2_with (go_at_call 86;refine(wQ.F _ O).mono ?_;rintro e J ⟨pg,rfl,hS1⟩;clear O;have O:=hS1.drop;clear hS1)
 refine aF.F _ _ ?_;clear aF KX wQ;have HB:=Z (aip (S:=S) (l:=l) (by rw[rU.F];exact of_decide_eq_true FX.F) (by rw[sM.F];exact xS.F));obtain⟨m,hm⟩:=au (gG S l);have HM:=Z hm;have EU:m<=5:=by rw[<-hm];unfold gG;rw[sM.F];have:=bq.F.Dg;have:=xS.F;omega
 have zR:=Z EU
 have xY:=Z (fun w (h:Sat W w (dz pw pe S gs::aW pe R::Tb 100 3 rv (.slice lG na ca) (df S l)::L))=>by
  have:=abw h eH.F bq.F.ne bq.F.low bq.F.last (by have:=gB.F;omega) bq.F.Dg nl (by have:=xS.F;omega);rw[show(nl+S.last-1) / 15=m by rw[<-HM.F,<-sM.F];rfl] at this
  exact this)
 clear hm EU;refine dK (fun KX aF=>?_)
 go_wp2_with (go_at_call 88;refine ak (xY.F _ O) ?_;clear O;intro J O)
 refine aF.F _ _ ?_;clear aF KX xY
 -- the plan
 obtain⟨zo,r',g',v1,v2,hS1⟩:=Iu O;clear O;have O:=hS1;clear hS1
 obtain⟨fb,fo,fc,rfl,_⟩:∃b off c,zo= .slice (some ⟨b,off,none⟩) 128 c/\128<=c:=by
  have hk:=O.bW;unfold IsMap at hk;exact hk.kV (k:=0) rfl (by decide)
 obtain⟨iI,gF,rfl,_⟩:=O.fA (k:=5) rfl;obtain⟨nb,hnb⟩:=au R.L.length;have hbl:S.sup.blocks=(nb:Int):=by rw[<-hnb,jX.F];exact bq.F.blocks
 have qF:=Z (show S.sup.blocks.toNat=nb by rw[hbl];exact fu nb);have n2:nb<=1024:=by rw[<-hnb,jX.F];exact bq.F.n2
 have G0:=Z (show(bE pe S.sup (.slice (some ⟨fb,fo,none⟩) 128 fc) S.aB r' g')[0]? =some (.pointer (some ⟨pe,0,none⟩)) from rfl);have G8:=Z (KY (pd:=pe) (s:=S.sup) (fv:= .slice (some ⟨fb,fo,none⟩) 128 fc) (X:=S.aB) (r:=r') (last:=g'));rw[hnb] at O;have iG:=Z (fun w M h=>FH (W:=W) (w:=w) (L:=M) (pw:=pw) (pe:=pe) (S:=S) (gs:=gs) (R:=R) (fv:= .slice (some ⟨fb,fo,none⟩) 128 fc) (r:=r') (g:=g') (v1:= .slice iI nb gF) (v2:=v2) h);have xY:=Z (fun w M h=>aW.mk (W:=W) (w:=w) (L:=M) (p:=pe) (D:=R) (v1:= .slice iI nb gF) (v2:=v2) h);refine dK (fun KX aF=>?_)
 by_cases hno:(bT S.U nb).length<m
 ·have nW:=Z (fun w (h:Sat W w (Cs pw 96 (bE pe S.sup (.slice (some ⟨fb,fo,none⟩) 128 fc) S.aB r' g')::IsMap (.slice (some ⟨fb,fo,none⟩) 128 fc) S.U::Tb 100 3 rv r' S.recs::Ir g' gs::Cs pe 68 [.slice iI nb gF,v2, .bool R.armed, .int .i64 R.left, .bool R.dead]::Tb 9 1 iF (.slice iI nb gF) R.L::Tb 150 2 wv v2 R.Log::Tb 100 3 rv (.slice lG na ca) (df S l)::L))=>amA h S.U fb fo fc nb m n2 hno (by have:=zR.F;omega) (qy hz1) (.slice none 0 0))
  have dx:=Z (show jd S D l shown=(2,S,D) by
   unfold jd
   rw[if_neg (by rw[HB.F];decide),if_pos (by rw[qF.F,HM.F];exact hno)])
  clear hno hnb hbl n2;go_wp2
  (refine cB (pO [0,1,2]<|rO [3]<|pO [4,5,6]<|rO [7]<|pO [8,9]<|rO [10]<|pO [11,12]<|aO [13]<|pO [14,15,16,17,18,19,20]<| .e) [] O ?_;clear O;intro J O)
  repeat (first
   |(refine bG O ?_;go_frame)
   |(refine bR O ?_;(first
     |refine bK aa G0.F ?_
     |refine bK aa G8.F ?_
     |refine rM fD ?_);go_frame)
   |(refine bY fun K hK=>?_;((refine jy (nW.F _ O) ?_;clear O;intro J O));refine hK.go O ?_;clear hK K;go_frame))
  refine bO ?_;go_wp2;refine aF.F _ _ ?_;go_wp2;go_ret;rw[dx.F];exact⟨rfl,R,HR.F,(iG.F _ _ O).Oi.drop⟩
 ·have hf:m<=(bT S.U nb).length:=by omega
  have HF:=Z (show gG S l<=(bT S.U S.sup.blocks.toNat).length by rw[HM.F,qF.F];exact hf);have htk:(bT S.U nb).take m=kX S l:=by unfold kX;rw[HM.F,qF.F]
  have nW:=Z (fun w (h:Sat W w (Cs pw 96 (bE pe S.sup (.slice (some ⟨fb,fo,none⟩) 128 fc) S.aB r' g')::IsMap (.slice (some ⟨fb,fo,none⟩) 128 fc) S.U::Tb 100 3 rv r' S.recs::Ir g' gs::Cs pe 68 [.slice iI nb gF,v2, .bool R.armed, .int .i64 R.left, .bool R.dead]::Tb 9 1 iF (.slice iI nb gF) R.L::Tb 150 2 wv v2 R.Log::Tb 100 3 rv (.slice lG na ca) (df S l)::L))=>abS h S.U fb fo fc nb m n2 hf (qy hz1) [] none 0 (fun w L' h=>abB w) ⟨fun _ h=>(nomatch h),(by simp)⟩ (by decide));rw[htk] at nW;clear hno hnb hbl n2 hf htk;go_wp2
  (refine cB (pO [0,1,2]<|rO [3]<|pO [4,5,6]<|rO [7]<|pO [8,9]<|rO [10]<|pO [11,12]<|aO [13]<|pO [14,15,16,17,18,19,20]<| .e) [] O ?_;clear O;intro J O)
  repeat (first
   |(refine bG O ?_;go_frame)
   |(refine bR O ?_;(first
     |refine bK aa G0.F ?_
     |refine bK aa G8.F ?_
     |refine rM fD ?_);go_frame)
   |(refine bY fun K hK=>?_;((refine cK (nW.F _ O) ?_;rintro e J hE;obtain⟨vt,vm,rfl,hS1⟩:=hE;clear O;have O:=hS1;clear hS1;refine⟨_,rfl,?_⟩));refine hK.go O ?_;clear hK K;go_frame))
  refine bO ?_;go_wp2;refine aF.F _ _ ?_;clear aF KX nW;refine dK (fun KX aF=>?_);go_wp2;refine aF.F _ _ ?_;clear aF KX;have I:=xY.F _ _ (show Sat W _ (Cs pe 68 [.slice iI nb gF,v2, .bool R.armed, .int .i64 R.left, .bool R.dead]::Tb 9 1 iF (.slice iI nb gF) R.L::Tb 150 2 wv v2 R.Log::Ir vt (kX S l)::IsMap vm (mi S l)::Cs pw 96 (bE pe S.sup (.slice (some ⟨fb,fo,none⟩) 128 fc) S.aB r' g')::IsMap (.slice (some ⟨fb,fo,none⟩) 128 fc) S.U::Tb 100 3 rv r' S.recs::Ir g' gs::Tb 100 3 rv (.slice lG na ca) (df S l)::L) from O.re [6,7,8]);have hS0:Sat W _ (Ir vt (kX S l)::IsMap vm (mi S l)::Cs pw 96 (bE pe S.sup (.slice (some ⟨fb,fo,none⟩) 128 fc) S.aB r' g')::IsMap (.slice (some ⟨fb,fo,none⟩) 128 fc) S.U::Tb 100 3 rv r' S.recs::Ir g' gs::aW pe R::Tb 100 3 rv (.slice lG na ca) (df S l)::L):=I.re [1,2,3,4,5,6,0];clear I;clear O;have O:=hS0;clear hS0;have YV:∀ {w A B},Sat W w (A::B::Cs pw 96 (bE pe S.sup (.slice (some ⟨fb,fo,none⟩) 128 fc) S.aB r' g')::IsMap (.slice (some ⟨fb,fo,none⟩) 128 fc) S.U::Tb 100 3 rv r' S.recs::Ir g' gs::aW pe R::Tb 100 3 rv (.slice lG na ca) (df S l)::L)->Sat W w (Cs pw 96 (bE pe S.sup (.slice (some ⟨fb,fo,none⟩) 128 fc) S.aB r' g')::IsMap (.slice (some ⟨fb,fo,none⟩) 128 fc) S.U::Tb 100 3 rv r' S.recs::Ir g' gs::aW pe R::L):=fun {w A B} h=>(show Sat W w (Tb 100 3 rv (.slice lG na ca) (df S l)::_::_::_::_::_::L) from h.drop.drop.re [5]).drop
  have HDR:=Z (fun w A B h=> @YV w A B h);clear YV;obtain⟨sh,hsh⟩:=au S.sup.shown;obtain⟨rc,hrc⟩:=au S.sup.records;have G5:=Z (show(bE pe S.sup (.slice (some ⟨fb,fo,none⟩) 128 fc) S.aB r' g')[5]? =some (.int .i64 sh) by rw[Ch (by decide),<-hsh];rfl);have G4:=Z (show(bE pe S.sup (.slice (some ⟨fb,fo,none⟩) 128 fc) S.aB r' g')[4]? =some (.int .i64 rc) by rw[Ch (by decide),<-hrc];rfl)
  have hcase:(nA S l shown=S.sup/\((((nl:Int)==0)=true/\shown=false)∨(((nl:Int)==0)=true/\shown=true/\(sh==rc)=true)))∨(nA S l shown≠S.sup/\((((nl:Int)==0)=false)∨(((nl:Int)==0)=true/\shown=true/\(sh==rc)=false))):=by
   have hrl:S.sup.records=((S.recs.length:Nat):Int):=bq.F.recs;have hal:(((df S l).length:Nat):Int)=S.sup.records+nl:=by rw[Ab,sM.F,hrl];omega
   by_cases h0:nl=0
   ·have e0:((nl:Int)==0)=true:=by rw[h0];rfl
    have e1:(((df S l).length:Nat):Int)=S.sup.records:=by rw[hal,h0];simp
    cases shown with
    |false=>exact .inl ⟨by unfold nA;rw[e1];rfl, .inl ⟨e0,rfl⟩⟩
    |true=>
     by_cases I:sh=rc
     ·refine .inl ⟨?_, .inr ⟨e0,rfl,by rw[I];simp⟩⟩;unfold nA;rw[e1,if_pos rfl];have:S.sup.records=S.sup.shown:=by rw[hsh,hrc,I]
      conv=>lhs;rw[show({S.sup with records:=S.sup.records,shown:=S.sup.records} :di)= {S.sup with shown:=S.sup.records} from rfl,this]
     ·refine .inr ⟨fun h=>I ?_, .inr ⟨e0,rfl,dH.2 I⟩⟩;have H:=congrArg di.shown h;unfold nA at H;rw[if_pos rfl,e1] at H;rw[<-hsh,<-hrc];exact H.symm
   ·refine .inr ⟨fun h=>?_, .inl (dH.2 (by omega))⟩;have H:=congrArg di.records h;unfold nA at H;have h3:(((df S l).length:Nat):Int)=S.sup.records:=H;omega
  clear hsh hrc;refine pV (TT W L pw pe S gs R l shown aq nl cq m (.slice (some ⟨fb,fo,none⟩) 128 fc) r' g' (.slice lG na ca) vt vm) (fun KX aF=>?_) ?_
  ·rcases hcase with⟨hsame,hc⟩|⟨hsame,hc⟩
   ·have aec:=Z (show l=[] from by
     rcases hc with⟨e0,_⟩|⟨e0,_⟩<;>exact yZ.1 (by rw[sM.F];exact Int.natCast_eq_zero.1 (beq_iff_eq.1 e0)))
    have iK:=Z (show jd S D l shown=(0,S,D) by
     unfold jd
     rw[if_neg (by rw[HB.F];decide),if_neg (by have:=HF.F;omega),if_pos hsame])
    clear hsame
    rcases hc with⟨e0,rfl⟩|⟨e0,rfl,e1⟩
    all_goals
     go_wp2
     (refine cB (pO [0,1,2,3,4,5,6,7,8,9,10]<|rO [11]<|pO [12,13,14,15]<|rO [16]<|pO [17,18,19]<| .e) [] O ?_;clear O;intro J O)
     repeat (first
      |(refine bG O ?_;go_frame)
      |(refine sK O ?_;go_frame)
      |(refine bR O ?_;(first
           |refine bK hz2 G5.F ?_
           |refine bK hz2 G4.F ?_);go_frame))
     refine bO ?_;go_wp2;go_ret;rw[iK.F,show Db S gs l (0,S,D).1=gs from YT bq.F.Dg aec.F];exact⟨rfl,R,HR.F,(dz.mk (S:=S) (gs:=gs) (show Sat W _ (Cs pw 96 (bE pe S.sup (.slice (some ⟨fb,fo,none⟩) 128 fc) S.aB r' g')::IsMap (.slice (some ⟨fb,fo,none⟩) 128 fc) S.U::Tb 100 3 rv r' S.recs::Ir g' gs::aW pe R::L) from HDR.F _ _ _ O))⟩
   ·have oO:=Z hsame;clear hsame
    rcases hc with e0|⟨e0,rfl,e1⟩
    all_goals
     go_wp2
     (refine cB (pO [0,1,2,3,4,5,6,7,8,9,10]<|rO [11]<|pO [12,13,14,15]<|rO [16]<|pO [17,18,19]<| .e) [] O ?_;clear O;intro J O)
     repeat (first
      |(refine bG O ?_;go_frame)
      |(refine sK O ?_;go_frame)
      |(refine bR O ?_;(first
           |refine bK hz2 G5.F ?_
           |refine bK hz2 G4.F ?_);go_frame))
     refine bO ?_;go_wp2;refine aF.F _ _ ?_;unfold TT;refine⟨⟨oO.F,?_⟩,rfl⟩;unfold uh;exact O
  clear O hcase HDR G5 G4;rintro a wz hinv;unfold TT at hinv;obtain⟨hrel,ha⟩:=hinv;obtain⟨z,hz⟩:∃z:Nat->Value,∀i,a.tmps.getD i undef=z i:=⟨_,fun _=>rfl⟩
  try simp only[hz] at hrel
  replace ha:=ha.at hz;simp only[mM,lh] at ha;clear hz;subst ha;obtain⟨hne,O⟩:=hrel;have oO:=Z hne;clear hne;unfold uh at O;rw[dB,dB,dB,dB,dB,dB,dB,dB,iP] at O;have LU:=Z (show gs.length<=1024 from bq.F.Ai);have mX:=Z (show(kX S l).length=m by rw[bq.F.taken HF.F,HM.F]);refine dK (fun KX aF=>?_);go_wp2;refine aF.F _ _ ?_;clear aF KX;refine dK (fun KX aF=>?_)
  go_wp2_with (first
   |(refine aH O hz2 (KZ eH.F) ?_)
   |(at_builtin;refine aU ?_;refine rz O.wh _ _ _ _ (by rfl) (by rfl) (by rfl) (bS (by rfl)) (by rfl) (by rfl) (by rfl) (dO (by rfl)) aa (m:=gs) (by exact O.oG vk) (by have:=LU.F;simp;omega) ?_;clear O;intro vb0 J O;rw[aD,iP] at O)
   |(at_builtin;refine aU ?_;refine rz O _ _ _ _ (by rfl) (by rfl) (by rfl) (bS (by rfl)) (by rfl) (by rfl) (by rfl) (dO (by rfl)) aa (m:=kX S l) (by exact O.oG hz1) (by have:=LU.F;have:=mX.F;have:=zR.F;omega) ?_;clear O;intro vb J O;rw[aD] at O;replace O:=(show Sat W J (Ir vb (eO S gs l)::_) from O)))
  refine aF.F _ _ ?_;clear aF KX;obtain⟨mm,hmm,hmt⟩:=bq.F.BH;have F3:=Z hmm;obtain⟨ab,cb,rfl,_⟩:=O.mg (k:=0) rfl;obtain⟨nt,hnt⟩:=au (mm+1+m);have uf:=Z hnt;have fU:=Z (show(eO S gs l).length=nt by rw[bq.F.RN HF.F,hmm,HM.F,hnt]);rw[fU.F] at O ⊢;obtain⟨ag,cg,rfl,_⟩:=O.mg (k:=6) rfl;clear hmm hmt hnt;refine pV (OB W L pw pe S gs R l shown aq nl cq m (.slice (some ⟨fb,fo,none⟩) 128 fc) r' (.slice ag gs.length cg) (.slice lG na ca) vt vm (.slice ab nt cb)) (fun KX aF=>?_) ?_
  ·by_cases h0:nl=0
   ·have k0:¬(0:Int)< (nl:Int):=by omega
    have Bg:=Z (show l=[] from yZ.1 (by rw[sM.F];exact h0));clear h0;go_wp2;refine aF.F _ _ ?_;unfold OB;refine⟨?_,rfl⟩;have e0:pq S l=[]:=by unfold pq;rw[if_pos Bg.F]
    rw[e0];unfold uh;exact O.jb
   ·have k0:(0:Int)< (nl:Int):=by omega
    have Bg:=Z (show l≠[] from fun h=>h0 (by rw[<-sM.F,h];rfl));have gi:(gs.length:Int)=(mm:Int)+1:=by rw[F3.F];omega
    have mmi:(mm:Int)<=1023:=by have:=LU.F;omega
    have m4:(m:Int)<=5:=by have:=zR.F;omega
    clear h0;obtain⟨L2,hL2⟩:=au (uh pw pe S gs R l (.slice (some ⟨fb,fo,none⟩) 128 fc) r' (.slice ag gs.length cg) (.slice lG na ca) vt vm++L);have HL2:=Z hL2;have xw:Sat W _ (Ir (.slice ab nt cb) (eO S gs l)::L2):=(show ∀w,Sat W w (Ir (.slice ab nt cb) (eO S gs l)::(uh pw pe S gs R l (.slice (some ⟨fb,fo,none⟩) 128 fc) r' (.slice ag gs.length cg) (.slice lG na ca) vt vm++L))->Sat W w (Ir (.slice ab nt cb) (eO S gs l)::L2) from fun w h=>by rw[<-hL2];exact h) _ O;have HC:=Z (show Has L2 2 (Cs pw 96 (bE pe S.sup (.slice (some ⟨fb,fo,none⟩) 128 fc) S.aB r' (.slice ag gs.length cg))) by rw[<-hL2];exact hz2);have HV:=Z (show Has L2 7 (Tb 100 3 rv (.slice lG na ca) (df S l)) by rw[<-hL2];exact Ho);clear O hL2;have O:=xw;clear xw
    go_wp2_with (refine aH O (Has.s HC.F) (KZ eH.F) ?_)
    have H0:=Z (show V3 W L2 mm m S gs l (.slice ab nt cb) (.slice none 0 0) (.int .i64 (mm:Int)) _ from⟨0,rfl,eG _,O.jb⟩);clear O;go_loopw [15,17] (fun v15 v17 wz=>V3 W L2 mm m S gs l (.slice ab nt cb) v15 v17 wz) (fun _ v17 _=>iV nt v17)
    case atStart=>exact H0.F
    case round=>
     clear H0;obtain⟨i,rfl,hi,O⟩:=hrel
     by_cases hlt:i<m+1
     ·obtain⟨kk,hkk⟩:=au (mm+i);rw[hkk];have HKK:=Z hkk;have ay:=Z hlt;have hgl:(eO S gs l).length=nt:=fU.F;have hnt:mm+1+m=nt:=uf.F;obtain⟨q,hq⟩:∃q,(eO S gs l)[kk]? =some q:=⟨_,aR (by omega)⟩
      have hbq:iM (eO S gs l) kk=q:=by unfold iM;rw[hq];rfl
      have HX:=Z (qw hq);have iB:=Z (O.oG hz1);rw[hgl] at iB;have hlen:=bq.F.lens F3.F;have hal:na=S.recs.length+nl:=by rw[<-rU.F,Ab,sM.F]
      have hmv:(nl+S.last-1) / 15=m:=by rw[<-HM.F,<-sM.F];rfl
      have fT:0<nl:=by omega
      have hlo:15*kk<=na:=by omega
      obtain⟨ql,oF⟩:=au ((chunk (df S l) kk).length);have hqm:ql=min 15 (na-15*kk):=by rw[<-oF,um,rU.F]
      have oP:=Z oF;have hput:=aim bq.F HB.F HF.F (l:=l) F3.F (i:=i) (by rw[HM.F];exact hlt);rw[hkk] at hput;have vO:=Z hput;obtain⟨d,hd⟩:=au (gL (chunk (df S l) kk) (jo (eO S gs l) kk));have hdl:d.length=128:=by rw[<-hd];exact vT _ (by rw[oF,hqm];omega)
      have mW:=Z hdl;have LG:=Z hd;have rq:=Z (show wE (eO S gs l) (df S l) mm (i+1)=wE (eO S gs l) (df S l) mm i++[((q:Int),d)] by rw[akW,hkk,hbq,hd]);have x9:=Z (akV (eO S gs l) (df S l) mm i);have vN:=Z (show min (15*(kk:Int)+15) (na:Int)=((15*kk+ql:Nat):Int) by omega)
      have hca:na<=ca:=by
       obtain⟨_,_,e9,h9⟩:=O.fA (Has.s (Has.s HV.F));simp only[Value.slice.injEq] at e9;obtain⟨_,_,rfl⟩:=e9;rw[rU.F] at h9;exact h9
      have wP:=Z (show 15*kk+ql<=ca by omega)
      have jv:=Z (fun w (h:Rd w (.slice lG na ca) na 3 ((df S l).flatMap rv))=>show Rd w (.slice (uY lG ca (15*kk) 3) ql (ca-15*kk)) ql 3 ((chunk (df S l) kk).flatMap rv) from by
       have I:=(h.MS (15*kk) hlo).Rk ql (by omega);rw[M5 (f:=rv) (sz:=3) _ _ (fun _ _=>rfl),Ry (f:=rv) (sz:=3) _ _ (fun _ _=>rfl)] at I
       have H:chunk (df S l) kk=((df S l).drop (15*kk)).take ql:=by
        unfold chunk;rw[hqm];have h3:((df S l).drop (15*kk)).length=na-15*kk:=by rw[yY,rU.F]
        by_cases h15:15<=na-15*kk
        ·rw[Nat.min_eq_left h15]
        ·rw[Nat.min_eq_right (by omega),dF (by omega),dF (by omega)]
       rw[H]
       exact I)
      obtain⟨nx,hnx⟩:=au (jo (eO S gs l) kk);rw[hnx] at vO LG;have gz:=Z (fun w M (h:Sat W w (Tb 150 2 dS u15 (wE (eO S gs l) (df S l) mm i)::M)) (hm:∀w,Sat W w (Tb 150 2 dS u15 (wE (eO S gs l) (df S l) mm i)::M)->Rd w (.slice lG na ca) na 3 ((df S l).flatMap rv))=>amD h (chunk (df S l) kk) (uY lG ca (15*kk) 3) (ca-15*kk) oP.F (fun w h=>jv.F w (hm w h)) nx vO.F LG.F mW.F);have k1:(kk:Int)< (nt:Int):=by omega
      have k2:(kk:Int)<=1100:=by omega
      obtain⟨bb,bo,bc,e9,_⟩:=O.kV (k:=1) (by unfold Ir;rfl) (by omega);simp only[Value.slice.injEq] at e9;obtain⟨rfl,e10,rfl⟩:=e9;clear e10
      have hcase:(((kk:Int)+1< (nt:Int))/\∃q2:Nat,(eO S gs l)[kk+1]? =some q2/\nx=(q2:Int))∨(¬((kk:Int)+1< (nt:Int))/\nx=0):=by
       by_cases h:i<m
       ·obtain⟨q2,hq2⟩:∃q,(eO S gs l)[kk+1]? =some q:=⟨_,aR (by omega)⟩
        exact .inl ⟨by omega,q2,hq2,by rw[<-hnx];unfold jo;rw[hq2];rfl⟩
       ·exact .inr ⟨by omega,by rw[<-hnx];unfold jo;rw[qE (by omega)];rfl⟩
      have P9:=Z (show 0<nt by omega);have LW:=Z (fun(A B:aA) (M:List aA)=>show Has (A::B::Ir (.slice (some ⟨bb,bo,none⟩) nt cb) (eO S gs l)::M) 2 (Sl 0 1 (.slice (some ⟨bb,bo,none⟩) nt cb) nt (iv (eO S gs l))) from by unfold Ir;rw[fU.F];exact hz2);have dI:=Z (show i<=10 by have:=zR.F;omega);have oN:=Z (show kk<nt by omega);clear hnt hkk hlt hgl hq hbq hlen hal hmv fT hlo oF hqm hput hd hdl hnx hca hi;have Ve:=Z (fun w (h:Sat W w (Tb 150 2 dS u15 (wE (eO S gs l) (df S l) mm i)::Ir (.slice (some ⟨bb,bo,none⟩) nt cb) (eO S gs l)::L2))=>(show Rd w (.slice lG na ca) na 3 ((df S l).flatMap rv) from by have:=h.kK (Has.s (Has.s HV.F));rw[rU.F] at this;exact this))
      rcases hcase with⟨k3,q2,hq2,rfl⟩|⟨k3,rfl⟩
      ·have Ej:=Z (qw hq2);clear hq2
       go_wp2_with (first
        |(refine bN (fF iB.F _ _ (by rfl) _ (by rfl) (aI (by rfl)) (kk+1) (by omega) Ej.F (by have:=P9.F;omega)) ?_)
        |(refine bN (Om (lo:=15*kk) (m:=ql) (by rfl) (by rfl) (by rfl) (by rfl) (by omega) (by exact vN.F) wP.F (bS (by rfl)) _) ?_)
        |(go_at_call 37;refine(gz.F _ _ O (fun w h=>Ve.F w h)).mono ?_;clear O;rintro e J ⟨v19,rfl,O⟩))
       (refine cB (pO [0,1,2]<|tO [3]<|rO [4]<|pO [5]<|rO [6]<|pO [7]<|aO [8,9]<|pO [10]<| .e) [8,9] O ?_;clear O;intro J O)
       repeat (first
        |(refine bG O ?_;go_frame)
        |(refine oI O ?_;apply Exists.intro;apply And.intro;(intro w;first|go_simp;rw[if_pos (by omega)]|(go_simp;try with_reducible rfl));go_frame)
        |(refine bR O ?_;(first
               |refine⟨_,xM _ _ _ (by rfl) _ (by rfl) jI (l:=d) (fun u hu=>hu.dY (k:=0) rfl),?_⟩
               |refine⟨_,FN _ _ (by rfl) _ _ (by rfl) (aI (by rfl)) (Has.s (LW.F _ _ _)) kk (by omega) HX.F,?_⟩
               |refine⟨_,FN _ _ (by rfl) _ _ (by rfl) (aI (by rfl)) (LW.F _ _ _) kk (by omega) HX.F,?_⟩);go_frame)
        |(refine bY fun K hK=>?_;(first
               |(refine mJ [.agg (dS ((q:Int),d)).toArray] O ?_ (hc:=by simp[dS,Value.cells,gM]);clear O;intro b1 J O;rw[kP] at O)
               |(refine Js (f:=dS) O hz2 [((q:Int),d)] ?_ (hsrc:=by exact O.gZ (f:=dS) aa rfl) (I:=by exact DN _) (hb:=by rw[x9.F];have:=dI.F;simp only[dC];omega) (hm:=by rw[x9.F];have:=dI.F;simp only[dC];omega);clear O;intro uj c5 J _ O;dsimp only[aD,aN] at O;rw[<-rq.F] at O ⊢));refine hK.go O ?_;clear hK K;go_frame))
       refine bO ?_;go_wp2;exact⟨⟨i+1,show Value.int .i64 ((kk:Int)+1)= .int .i64 ((mm+(i+1):Nat):Int) from by have:=HKK.F;congr 1;omega,ay.F,O.drop.drop⟩,fZ oN.F⟩
      ·go_wp2_with (first
        |(refine bN (Om (lo:=15*kk) (m:=ql) (by rfl) (by rfl) (by rfl) (by rfl) (by omega) (by exact vN.F) wP.F (bS (by rfl)) _) ?_)
        |(go_at_call 37;refine(gz.F _ _ O (fun w h=>Ve.F w h)).mono ?_;clear O;rintro e J ⟨v19,rfl,O⟩))
       (refine cB (pO [0,1,2]<|tO [3]<|rO [4]<|pO [5]<|rO [6]<|pO [7]<|aO [8,9]<|pO [10]<| .e) [8,9] O ?_;clear O;intro J O)
       repeat (first
        |(refine bG O ?_;go_frame)
        |(refine oI O ?_;apply Exists.intro;apply And.intro;(intro w;first|go_simp;rw[if_pos (by omega)]|(go_simp;try with_reducible rfl));go_frame)
        |(refine bR O ?_;(first
               |refine⟨_,xM _ _ _ (by rfl) _ (by rfl) jI (l:=d) (fun u hu=>hu.dY (k:=0) rfl),?_⟩
               |refine⟨_,FN _ _ (by rfl) _ _ (by rfl) (aI (by rfl)) (Has.s (LW.F _ _ _)) kk (by omega) HX.F,?_⟩
               |refine⟨_,FN _ _ (by rfl) _ _ (by rfl) (aI (by rfl)) (LW.F _ _ _) kk (by omega) HX.F,?_⟩);go_frame)
        |(refine bY fun K hK=>?_;(first
               |(refine mJ [.agg (dS ((q:Int),d)).toArray] O ?_ (hc:=by simp[dS,Value.cells,gM]);clear O;intro b1 J O;rw[kP] at O)
               |(refine Js (f:=dS) O hz2 [((q:Int),d)] ?_ (hsrc:=by exact O.gZ (f:=dS) aa rfl) (I:=by exact DN _) (hb:=by rw[x9.F];have:=dI.F;simp only[dC];omega) (hm:=by rw[x9.F];have:=dI.F;simp only[dC];omega);clear O;intro uj c5 J _ O;dsimp only[aD,aN] at O;rw[<-rq.F] at O ⊢));refine hK.go O ?_;clear hK K;go_frame))
       refine bO ?_;go_wp2;exact⟨⟨i+1,show Value.int .i64 ((kk:Int)+1)= .int .i64 ((mm+(i+1):Nat):Int) from by have:=HKK.F;congr 1;omega,ay.F,O.drop.drop⟩,fZ oN.F⟩
     ·obtain rfl:i=m+1:=by omega
      have j1:¬((mm+(m+1):Nat):Int)< (nt:Int):=by have:=uf.F;omega
      clear hlt hi;go_wp2;refine aF.F _ _ ?_;unfold OB;refine⟨?_,rfl⟩;have e0:pq S l=wE (eO S gs l) (df S l) mm (m+1):=by unfold pq;rw[if_neg Bg.F,HM.F,akU bq.F F3.F]
      rw[e0,HL2.F];exact O
  clear O;rintro a wz hinv;unfold OB at hinv;obtain⟨hrel,ha⟩:=hinv;obtain⟨z,hz⟩:∃z:Nat->Value,∀i,a.tmps.getD i undef=z i:=⟨_,fun _=>rfl⟩
  try simp only[hz] at hrel
  replace ha:=ha.at hz;simp only[mM,lh] at ha;clear hz;subst ha;have O:=hrel;clear hrel;unfold uh at O;rw[dB,dB,dB,dB,dB,dB,dB,dB,iP] at O
  have VI:=Z (show(pq S l).length<=10 by
   unfold pq
   split
   ·exact eG _
   ·rw[KC,HM.F];have:=zR.F;omega)
  refine pV (OC W L pw pe S gs R l shown aq nl cq m (.slice (some ⟨fb,fo,none⟩) 128 fc) r' (.slice ag gs.length cg) (.slice lG na ca) vt vm (.slice ab nt cb)) (fun KX aF=>?_) ?_
  ·by_cases h0:m=0
   ·have k0:¬(0:Int)< (m:Int):=by omega
    have HT0:=Z (show kX S l=[] from yZ.1 (by rw[mX.F];exact h0));clear h0;go_wp2;refine aF.F _ _ ?_;unfold OC;refine⟨?_,rfl⟩;unfold uh;rw[show tL S l=pq S l by unfold tL;rw[if_pos HT0.F,kv]];exact O
   ·have k0:(0:Int)< (m:Int):=by omega
    have HT0:=Z (show kX S l≠[] from fun h=>h0 (by rw[<-mX.F,h];rfl));have aeW:=Z (show pq S l++[((1:Int),cO (mi S l))]=tL S l by unfold tL;rw[if_neg HT0.F]);clear h0
    go_wp2_with (first
     |(refine aU ?_;refine ou _ _ _ (by rfl) _ (by rfl) jI (qy hz3 _ [] O) ?_)
     |(refine il [.agg (dS ((1:Int),cO (mi S l))).toArray] O ?_ (hc:=by simp[dS,Value.cells,gM]);clear O;intro b1 J O;rw[kP] at O)
     |(at_builtin;refine og (f:=dS) O hz1 [((1:Int),cO (mi S l))] ?_ (hsrc:=by exact O.gZ (f:=dS) aa rfl) (I:=by exact DN _) (hb:=by have:=VI.F;simp only[dC];omega) (hm:=by have:=VI.F;simp only[dC];omega);clear O;intro uj c5 J _ O;dsimp only[aD,aN] at O;rw[aeW.F] at O ⊢))
    refine aF.F _ _ ?_;unfold OC;refine⟨?_,rfl⟩;unfold uh;exact O.drop
  clear O;rintro a wz hinv;unfold OC at hinv;obtain⟨hrel,ha⟩:=hinv;obtain⟨z,hz⟩:∃z:Nat->Value,∀i,a.tmps.getD i undef=z i:=⟨_,fun _=>rfl⟩
  try simp only[hz] at hrel
  replace ha:=ha.at hz;simp only[mM,lh] at ha;clear hz;subst ha;have O:=hrel;clear hrel;unfold uh at O;rw[dB,dB,dB,dB,dB,dB,dB,dB,iP] at O
  -- the anC
  have nJ:=Z (Ur (pd:=pe) (s:=S.sup) (fv:= .slice (some ⟨fb,fo,none⟩) 128 fc) (X:=S.aB) (r:=r') (last:= .slice ag gs.length cg));refine dK (fun KX aF=>?_)
  go_wp2_with (first
   |(refine dm O fD (sv S.sup) ?_ (hvs:=nJ.F))
   |(refine dU O ?_;clear O;intro Kv J O;rw[aS] at O)
   |(refine eT (sv S.sup) O aa ?_ (hv:=(lI _));clear O;intro J O;rw[aD] at O))
  refine aF.F _ _ ?_;clear aF KX;obtain⟨bb,bo,bc,e9,_⟩:=O.kV (k:=2) (by unfold Ir;rfl) (by rw[fU.F];have:=uf.F;omega);simp only[Value.slice.injEq] at e9;obtain⟨rfl,e10,rfl⟩:=e9;clear e10;obtain⟨kk,hkk⟩:=au (mm+m);obtain⟨q,hq⟩:∃q,(eO S gs l)[kk]? =some q:=⟨_,aR (by rw[fU.F];have:=uf.F;omega)⟩
  have HX:=Z (qw hq);have iB:=Z (O.oG hz2);rw[fU.F] at iB;have FZ:=Z (show kk<nt by have:=uf.F;omega);have n1:(nt:Int)<=(kk:Int)+1:=by have:=uf.F;omega
  have n3:(kk:Int)+1<=(nt:Int):=by have:=uf.F;omega
  have n4:(kk:Int)<=2000:=by have:=zR.F;have:=F3.F;have:=LU.F;omega
  have HST:=Z (show gD S l shown= {nA S l shown with tail:=(q:Int)} by
   have I:=bq.F.anB HF.F shown F3.F;rw[HM.F,hkk] at I;rw[I];unfold iM;rw[hq]
   rfl)
  have Ed:=Z (show nA S l shown= {S.sup with records:=(na:Int),shown:=if shown then(na:Int) else S.sup.shown} by unfold nA;rw[rU.F]);clear hkk hq;refine dK (fun KX aF=>?_)
  go_wp2_with (first
   |(refine bN (fF iB.F _ _ (by rfl) _ (by rfl) (aI (by rfl)) kk (by omega) HX.F (by have:=FZ.F;omega)) ?_)
   |(refine iA O aa ?_;clear O;intro J O;rw[aD,anG] at O))
  refine aF.F _ _ ?_;clear aF KX iB;refine dK (fun KX aF=>?_)
  go_wp2_with (refine iA O aa ?_;clear O;intro J O;rw[aD,acF] at O)
  refine aF.F _ _ ?_;clear aF KX;obtain⟨v15,Zr⟩:=au (z 15);rw[Zr] at O ⊢;clear Zr;refine pV (OD W L pw pe Kv S gs R l shown aq nl cq m (.slice (some ⟨fb,fo,none⟩) 128 fc) r' (.slice ag gs.length cg) (.slice lG na ca) vt vm (.slice (some ⟨bb,bo,none⟩) nt cb) v15) (fun KX aF=>?_) ?_
  ·cases shown with
   |false=>
    go_wp2;refine aF.F _ _ ?_;unfold OD;refine⟨?_,rfl⟩;unfold uh;rw[HST.F,Ed.F];exact O
   |true=>
    go_wp2_with (refine iA O aa ?_;clear O;intro J O;rw[aD,Ph] at O)
    refine aF.F _ _ ?_;unfold OD;refine⟨?_,rfl⟩;unfold uh;rw[HST.F,Ed.F];exact O
  clear O Ed HX n1 n3 n4 nJ;rintro a wz hinv;unfold OD at hinv;obtain⟨hrel,ha⟩:=hinv;obtain⟨z,hz⟩:∃z:Nat->Value,∀i,a.tmps.getD i undef=z i:=⟨_,fun _=>rfl⟩
  try simp only[hz] at hrel
  replace ha:=ha.at hz;simp only[mM,lh] at ha;clear hz;subst ha;have O:=hrel;clear hrel;unfold uh at O;rw[dB,dB,dB,dB,dB,dB,dB,dB,iP] at O;obtain⟨s',hs'⟩:=au (gD S l shown);have uS:=Z hs';have RY:l.length<=60:=by rw[sM.F];exact xS.F
  have hs2:eQ s'=true:=by rw[<-hs'];exact bq.F.RV RY HF.F shown
  rw[hs'] at O;obtain⟨c,D',hc⟩:∃c D',jm D (kM S l shown)=(c,D'):=⟨_,_,rfl⟩
  have uO:=Z (show jd S D l shown=(c,(if c=0 then S.grown l shown else S),D') by
   unfold jd
   rw[if_neg (by rw[HB.F];decide),if_neg (by have:=HF.F;omega),if_neg oO.F,hc])
  have hgl:=(bq.F.RL RY HF.F shown).hi;have rX:=Z (show Rel D' (uK D R (kM S l shown)) by have:=TK HR.F (kM S l shown);rw[hc] at this;exact this)
  have rY:=Z (fun w L (h:Sat W w L)=>by
   have:=Dy h s';rw[wL hs2] at this
   exact this)
  obtain⟨es,hes⟩:=au (encS s');have Ei:=Z (show tL S l++[((0:Int),es)]=kM S l shown by unfold kM;rw[hs',hes]);rw[hes] at rY;have oQ:=Z (fun w ao c M (h:Sat W w (aW pe R::Tb 150 2 dS (.slice ao (kM S l shown).length c) (kM S l shown)::M))=>TM h HR.F hD hk (kM S l shown) ao c (fun w h=>h.kK (k:=0) rfl) (by omega));rw[hc] at oQ;obtain⟨gr,hgr⟩:=au (kM S l shown);rw[hgr] at Ei rX oQ hgl;have Jl:=Z (show(tL S l).length+1<=gr.length by rw[<-Ei.F,bP,dC];exact aZ _);have lN:=Z hgl;have nX:=Z (fun s fv r g=>FK (pd:=pe) (s:=s) (fv:=fv) (r:=r) (last:=g) eH.F);have uT:=Z (Pf (pd:=pe) (s:=S.sup) (s':=s') (fv:=(.slice (some ⟨fb,fo,none⟩) 128 fc)) (X:=S.aB) (r:=r') (last:= .slice ag gs.length cg));have Ec:=Z (acx (pd:=pe) (s:=s') (fv:=(.slice (some ⟨fb,fo,none⟩) 128 fc)) (zo:=vm) (X:=S.aB) (r:=r') (last:= .slice ag gs.length cg));have CJ:=Z (Uq (pd:=pe) (s:=s') (fv:=vm) (X:=S.aB) (r:=r') (r':= .slice lG na ca) (last:= .slice ag gs.length cg) eH.F);have rf:=Z (Uo (pd:=pe) (s:=s') (fv:=vm) (X:=S.aB) (r:= .slice lG na ca) (last:= .slice ag gs.length cg) (last':= .slice (some ⟨bb,bo,none⟩) nt cb) eH.F);have jQ:=Z (show ∀v∈sv s',v.oneCell'=true from lI _);have DU:=Z (show(bE pe S.sup (.slice (some ⟨fb,fo,none⟩) 128 fc) S.aB r' (.slice ag gs.length cg))[0]? =some (.pointer (some ⟨pe,0,none⟩)) from rfl)
  have D6:=Z (fun w M (h:Sat W w (Cs pw 96 (bE pe s' vm S.aB (.slice lG na ca) (.slice (some ⟨bb,bo,none⟩) nt cb))::IsMap vm (mi S l)::Tb 100 3 rv (.slice lG na ca) (df S l)::Ir (.slice (some ⟨bb,bo,none⟩) nt cb) (eO S gs l)::M))=>dz.mk (S:=S.grown l shown) (gs:=eO S gs l) (by
   show Sat W w (Cs pw 96 (bE pe (gD S l shown) vm S.aB (.slice lG na ca) (.slice (some ⟨bb,bo,none⟩) nt cb))::IsMap vm (mi S l)::Tb 100 3 rv (.slice lG na ca) (df S l)::Ir (.slice (some ⟨bb,bo,none⟩) nt cb) (eO S gs l)::M);rw[uS.F]
   exact h))
  have Qm:=Z (fun w M (h:Sat W w (Cs pw 96 (bE pe S.sup (.slice (some ⟨fb,fo,none⟩) 128 fc) S.aB r' (.slice ag gs.length cg))::IsMap (.slice (some ⟨fb,fo,none⟩) 128 fc) S.U::Tb 100 3 rv r' S.recs::Ir (.slice ag gs.length cg) gs::M))=>dz.mk (S:=S) (gs:=gs) h);clear hs' RY hs2 hc hgl hes hgr;refine dK (fun KX aF=>?_)
  go_wp2_with (first
   |(refine dm O aa (sv s') ?_)
   |(go_at_call 39;refine(rY.F _ _ O).mono ?_;clear O;rintro e J ⟨vp,rfl,O⟩)
   |(refine aU ?_;refine ou _ _ _ (by rfl) _ (by rfl) jI (l:=es) (O.dY (k:=0) rfl) ?_)
   |(refine il [.agg (dS ((0:Int),es)).toArray] O ?_ (hc:=by simp[dS,Value.cells,gM]);clear O;intro b1 J O;rw[kP] at O)
   |(at_builtin;refine og (f:=dS) O hz3 [((0:Int),es)] ?_ (hsrc:=by exact O.gZ (f:=dS) aa rfl) (I:=by exact DN _) (hb:=by have:=Jl.F;have:=lN.F;simp only[dC];omega) (hm:=by have:=Jl.F;have:=lN.F;simp only[dC];omega);clear O;intro uj c5 J _ O;dsimp only[aD,aN] at O;rw[Ei.F] at O ⊢))
  refine aF.F _ _ ?_;clear aF KX;replace O:Sat W _ (aW pe R::Tb 150 2 dS (.slice uj gr.length c5) gr::Cs Kv 55 (sv s')::Ir (.slice (some ⟨bb,bo,none⟩) nt cb) (eO S gs l)::IsMap vm (mi S l)::Cs pw 96 (bE pe S.sup (.slice (some ⟨fb,fo,none⟩) 128 fc) S.aB r' (.slice ag gs.length cg))::IsMap (.slice (some ⟨fb,fo,none⟩) 128 fc) S.U::Tb 100 3 rv r' S.recs::Ir (.slice ag gs.length cg) gs::Tb 100 3 rv (.slice lG na ca) (df S l)::_::_::_::L):=O.re [11,3,2,4,6,7,8,9,10,12];refine dK (fun KX aF=>?_)
  by_cases hc0:c=0
  ·subst hc0
   go_wp2_with (first
    |(refine aH O vk DU.F ?_)
    |(go_at_call 90;refine ak (oQ.F _ _ _ _ O) ?_;clear O;intro J O))
   refine aF.F _ _ ?_;clear aF KX
   obtain⟨zB,zD,zC,rfl,_⟩:∃b off c,vm= .slice (some ⟨b,off,none⟩) 128 c/\128<=c:=by
    have hk:=O.front 4 fD;unfold IsMap at hk;exact hk.kV (k:=0) rfl (by decide)
   go_wp2_with (first
    |(refine dm O hz2 (sv s') ?_)
    |(refine kW (sv s') O vk ?_ (hv:=jQ.F) (hb:=by rw[nX.F];show 8<=1787;decide);clear O;intro J O;dsimp only[aD,aN] at O;rw[show 1+(sv s').length=8 from rfl,uT.F] at O)
    |(refine iA O vk ?_ (hb:=by rw[nX.F];decide);clear O;intro J O;dsimp only[aD,aN] at O;first|rw[Ec.F] at O|rw[CJ.F] at O|rw[rf.F] at O))
   go_ret;rw[uO.F];exact⟨rfl,uK D R gr,rX.F,((D6.F _ _ (O.re [5,4,9,3,0])).re [2,3,4,5,6,7,8,9]).drop.drop.drop.drop.drop.drop.drop.drop⟩
  ·have e1:(c != 0)=true:=bne_iff_ne.2 hc0;have FQ:=Z hc0;clear hc0
   go_wp2_with (first
    |(refine aH O vk DU.F ?_)
    |(go_at_call 90;refine ak (oQ.F _ _ _ _ O) ?_;clear O;intro J O))
   go_ret;rw[uO.F];refine⟨rfl,uK D R gr,rX.F,?_⟩;show Sat W _ (dz pw pe (if c=0 then S.grown l shown else S) (if c=0 then eO S gs l else gs)::_::L);rw[if_neg FQ.F,if_neg FQ.F];exact((Qm.F _ _ (O.re [5,6,7,8,0])).re [2,3,4,5,6,7,8,9]).drop.drop.drop.drop.drop.drop.drop.drop
end Go.Proofs.YtjbiihbicknemaaGreat
