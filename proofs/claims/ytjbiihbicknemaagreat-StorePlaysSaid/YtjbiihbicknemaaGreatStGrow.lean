/-
  Part of the proof of StoreWhole.
-/
import Derived.Test.YtjbiihbicknemaaGreatMGrw
set_option linter.unusedSimpArgs false
set_option linter.unusedVariables false
set_option maxRecDepth 20000
set_option maxHeartbeats 40000000
namespace Go.Proofs.YtjbiihbicknemaaGreat
open Go.RowKit Go.Sep
variable {W w:World} {L:List aA}
attribute [local irreducible] Oper.wp wpList Calls Code.wp Sep.dR Sep.fJ
def GrC (W:World) (L:List aA) (ps pd:Nat) (S:aK) (D:aG) (l:List bM) (va:Value) (v33:Value) (wz:World):Prop:=
 ∃i:Nat,v33= .int .i64 (i:Int)/\i<=l.length/\(∀j x,j<i->l[j]? =some x->mq x=true)/\Sat W wz (Tb 100 3 rv va (df S l)::bF ps pd S::aP pd D::L)
def tQ (ps pd:Nat) (S:aK) (D:aG) (l:List bM) (fv r va vt vm:Value):List aA:=
 [Ir vt (kX S l),IsMap vm (mi S l),Cs ps 112 (bU pd S.sup fv S.aB r S.last),IsMap fv S.U,Tb 100 3 rv r S.recs,Tb 100 3 rv va (df S l),aP pd D]
def IX (L:List aA) (ps pd p16:Nat) (S:aK) (D:aG) (l:List bM) (shown:Bool) (fv r va vt vm vb vw:Value) (dG:List GW):List aA:=
 Tb 129 2 gw vw dG::St (dG.map grow)::Ir vb (eZ S l)::Cs p16 55 (sv (gD S l shown))::(tQ ps pd S D l fv r va vt vm++L)
def Nf (W:World) (L:List aA) (ps pd p16:Nat) (S:aK) (D:aG) (l:List bM) (shown:Bool) (aq:Option Addr) (ln cq:Nat) (fv r va vt vm:Value):Act->World->Prop:=(fun(a':Act) (w':World)=>(Sat W w' (Cs p16 55 (sv (nA S l shown))::(tQ ps pd S D l fv r va vt vm++L)))/\tN 194 [(0, .pointer (some ⟨ps,0,none⟩)),(1, .slice aq ln cq),(2, .bool shown),(7,va),(13,vt),(14,vm),(16, .pointer (some ⟨p16,0,none⟩))] [3,4,5,6,8,9,10,11,12,15,27,28,29,30,31,32,33,34,35,36,37,38,39,40,41,42,43,44,45,46,47,48,49,50,51,52,53,54,55,56,57,58,59,60,61,62,63,64,65,66,67,68,69,70,71,72,73,74,75,76,77,78,79,80,81,82,83,84] (fun _=>undef) a')
def Ng (W:World) (L:List aA) (ps pd p16:Nat) (S:aK) (D:aG) (l:List bM) (shown:Bool) (aq:Option Addr) (ln cq:Nat) (fv r va vt vm:Value):Act->World->Prop:=(fun(a':Act) (w':World)=>(∃dG:List GW,g2 dG=pq S l/\Sat W w' (Tb 129 2 gw (a'.tmps.getD 17 undef) dG::St (dG.map grow)::Cs p16 55 (sv (gD S l shown))::(tQ ps pd S D l fv r va vt vm++L)))/\tN 194 [(0, .pointer (some ⟨ps,0,none⟩)),(1, .slice aq ln cq),(7,va),(13,vt),(14,vm),(16, .pointer (some ⟨p16,0,none⟩)),(18, .int .i64 ((zy S l:Nat):Int))] [2,3,4,5,6,8,9,10,11,12,15,17,19,20,21,22,23,24,25,26,27,28,29,30,31,32,33,34,35,36,37,38,39,40,41,42,43,44,45,46,47,48,49,50,51,52,53,54,55,56,57,58,59,60,61,62,63,64,65,66,67,68,69,70,71,72,73,74,75,76,77,78,79,80,81,82,83,84,85,86,87,88,89,90,91,92,93,94,95,96,97,98,99,100,101,102,103,104,105,106,107,108,109,110,111,112,113,114,115,116,117,118,119,120,121,122,123,124,125,126,127,128,129,130,131,132,133,134,135,136,137,138,139,140,141,142,143,144,145,146,147,148,149,150,151,152,153,154,155,156,157,158,159,160,161,162] (fun _=>undef) a')
def BQ (S:aK) (l:List bM) (vm:Value):List GW:=if kX S l=[] then [] else [⟨1,vm,cO (mi S l)⟩]
def Nh (W:World) (L:List aA) (ps pd p16:Nat) (S:aK) (D:aG) (l:List bM) (shown:Bool) (aq:Option Addr) (ln cq:Nat) (fv r va vt vm:Value):Act->World->Prop:=(fun(a':Act) (w':World)=>(∃dG:List GW,g2 dG=pq S l/\Sat W w' (Tb 129 2 gw (a'.tmps.getD 17 undef) (dG++BQ S l vm)::St (dG.map grow)::Cs p16 55 (sv (gD S l shown))::(tQ ps pd S D l fv r va vt vm++L)))/\tN 194 [(0, .pointer (some ⟨ps,0,none⟩)),(1, .slice aq ln cq),(7,va),(13,vt),(14,vm),(16, .pointer (some ⟨p16,0,none⟩)),(18, .int .i64 ((zy S l:Nat):Int))] [2,3,4,5,6,8,9,10,11,12,15,17,19,20,21,22,23,24,25,26,27,28,29,30,31,32,33,34,35,36,37,38,39,40,41,42,43,44,45,46,47,48,49,50,51,52,53,54,55,56,57,58,59,60,61,62,63,64,65,66,67,68,69,70,71,72,73,74,75,76,77,78,79,80,81,82,83,84,85,86,87,88,89,90,91,92,93,94,95,96,97,98,99,100,101,102,103,104,105,106,107,108,109,110,111,112,113,114,115,116,117,118,119,120,121,122,123,124,125,126,127,128,129,130,131,132,133,134,135,136,137,138,139,140,141,142,143,144,145,146,147,148,149,150,151,152,153,154,155,156,157,158,159,160,161,162,163,164,165,166,167,168,169,170] (fun _=>undef) a')
def Ka (S:aK) (l:List bM):Nat->Nat
 |0=>S.last
 |i+1=>(chunk (jB S l) i).length
def GrL (W:World) (L:List aA) (ps pd p16 m:Nat) (S:aK) (D:aG) (l:List bM) (shown:Bool) (fv r va vt vm vb:Value) (v127 v17 v18 v20:Value) (wz:World):Prop:=
 ∃(i:Nat) (dG:List GW) (ao:Option Addr) (n c:Nat),v127= .int .i64 (i:Int)/\i<=m+1/\v18= .int .i64 ((Ka S l i:Nat):Int)/\v20= .slice ao n c/\n=(jB S l).length-15*i/\
  (∀w L',Sat W w (L'++(Tb 100 3 rv va (df S l)::aP pd D::L))->Rd w (.slice ao n c) n 3 (((jB S l).drop (15*i)).flatMap rv))/\g2 dG=wF (eZ S l) (jB S l) i/\
  Sat W wz (Tb 129 2 gw v17 dG::St (dG.map grow)::Ir vb (eZ S l)::Cs p16 55 (sv (gD S l shown))::(tQ ps pd S D l fv r va vt vm++L))
theorem agX {b E:Nat} (x:Nat) (h:Sat W w (Cs b E [.int .i64 (x:Int)]::L)):Sat W w (Ir (.slice (some ⟨b,0,none⟩) 1 1) [x]::L):=by
 have H:Sat W w (Cs b E ([]++iv [x]++[])::L):=h;exact Sat.pW (n:=1) (cap:=1) (sz:=1) H (aZ _) (by decide) rfl rfl (aZ 1)
theorem _root_.Go.Sep.Sat.zx {k m:Nat} {v:Value} {l:List Nat} (h:Sat W w L) (hm:l.length=m) (hk:Has L k (Ir v l)):Rd w v m 1 (iv l):=by
 have:=h.oG hk;rw[hm] at this;exact this
theorem _root_.Go.Sep.Sat.ajr {k m:Nat} {v:Value} {l:List Nat} (h:Sat W w L) (hm:l.length=m+1) (hk:Has L k (Ir v l)):∃b off c,v= .slice (some ⟨b,off,none⟩) (m+1) c:=by
 unfold Ir at hk;obtain⟨b,off,c,he,_⟩:=h.kV hk (by omega);rw[hm] at he;exact⟨b,off,c,he⟩
theorem RP (xs:List GW) (a:Int) (v:Value) (d:List UInt8):g2 (xs++[⟨a,v,d⟩])=g2 xs++[(a,d)]:=by simp[g2]
theorem aj2 {W w:World} {R:List aA} {A:aA} {v:Value} {U:Nat->Bool} (h:Sat W w (A::IsMap v U::R)):v.oneCell'=true:=by
 have H:=h.drop;unfold IsMap at H;obtain⟨b,o,c,rfl,_⟩:=H.kV (k:=0) rfl (by decide);rfl
theorem abT (O:Sat W w L) (l:List bM) (ao:Option Addr) (c:Nat) {q:Nat} (hq:l.length=q) (hr:∀w,Sat W w L->Rd w (.slice ao q c) q 3 (l.flatMap rv)) (next:Int) (hok:jM l next=true) {d:List UInt8} (hd:gL l next=d) (hdl:d.length=128):
  Calls Tryz.prog 29 #[.slice ao q c, .int .i64 next] w fun e w'=>∃v',e= .returned (.tuple #[v', .bool true])/\Sat W w' (Sl 5 1 v' 128 (bv d)::L):=by
 subst hq;have h15:l.length<=15:=(Kq hok).1;refine(Iq O l ao c hr (by omega) next).mono ?_;rintro e w' ⟨v',he,h⟩;rw[hok] at he;rw[BV hok,hd,hdl] at h;exact⟨v',he,h⟩
def GrE (W:World) (L:List aA) (ps pd:Nat) (R:Int×aK×aG) (e:Ending) (w':World):Prop:=e= .returned (.int .i64 R.1)/\Sat W w' (bF ps pd R.2.1::aP pd R.2.2::L)
theorem abB (w:World):Rd w (.slice none 0 0) ([]:List Nat).length 1 (iv []):=⟨none,0,rfl,aZ _,by decide,rfl,fun h=>absurd h (Nat.lt_irrefl 0)⟩
theorem acF (s:di) (x:Int):(sv s).set 3 (.int .i64 x)=sv {s with records:=x} :=rfl
theorem Ph (s:di) (x:Int):(sv s).set 4 (.int .i64 x)=sv {s with shown:=x} :=rfl
theorem anG (s:di) (x:Int):(sv s).set 2 (.int .i64 x)=sv {s with tail:=x} :=rfl
theorem ain (O:Sat W w L) (l:List bM) (ao:Option Addr) (c:Nat) {m:Nat} (hm:l.length=m) (hr:∀w,Sat W w L->Rd w (.slice ao m c) m 3 (l.flatMap rv)) (hb:m<=900000):
  Calls Tryz.prog 59 #[.slice ao m c] w fun e w'=>∃p,e= .returned (.tuple #[.pointer (some ⟨p,0,none⟩), .int .i64 ((Gr.new.jl l).2:Nat), .bool (decide ((Gr.new.jl l).2=m))])/\Sat W w' (dQ p (Gr.new.jl l).1::L):=by
 subst hm;exact YQ O l ao c hr hb
theorem X7 (u:World) (x y:di):(binOp .eql 55 (.agg (sv x).toArray) (.agg (sv y).toArray)).run Tryz.prog u= .ok (.bool (decide (x=y))) u:=by
 rw[run_eql_struct,ahz];rfl
theorem JP {S:aK} {D:aG} {l:List bM} {shown:Bool} (h:qN S l=true):jd S D l shown=(1,S,D):=if_pos h
theorem am5 {ps pd k:Nat} {S:aK} {D:aG} {gs:List Nat} (O:Sat W w (bF ps pd S::aP pd D::L)) (hok:bA D.blocks S gs) (hD:DG D k) (hk:k<=90000)
  (l:List bM) (shown:Bool) (aq:Option Addr) (cq:Nat) (hr:∀w L',Sat W w (L'++L)->Rd w (.slice aq l.length cq) l.length 3 (l.flatMap rv)) (hl:l.length<=100000):
  Calls Tryz.prog 19 #[.pointer (some ⟨ps,0,none⟩), .slice aq l.length cq, .bool shown] w fun e w'=>GrE W L ps pd (jd S D l shown) e w':=by
 have bq:=Z hok;have HD:=Z hD;have HR:=Z hr;have hrl:S.recs.length<=15360:=by have:=hok.high;have:=hok.Ai;omega
 have gB:=Z hrl;have jO:=Z hl;have CJ:=Z (fun w L (h:Sat W w (bF ps pd S::L))=>acn h hok.x (by omega));have H3:=Z (show ∀x∈l,(rv x).length=3 from fun _ _=>rfl)
 have HO:=Z (show ∀u∈l.flatMap rv,u.oneCell'=true from fun u hu=>by
  obtain⟨x,_,V⟩:=mE.1 hu
  exact xI x u V)
 obtain⟨_,_,he,hc1,hc2,_,h5⟩:=hr w [_,_] O;obtain⟨rfl,rfl⟩:=gq he;have H5:=Z h5;obtain⟨ln,hln⟩:=au l.length;have aM:=Z hln;have pM:(ln:Int)<=100000:=by omega
 obtain⟨na,hna⟩:=au ((df S l).length);have rU:=Z (show(S.recs++l).length=na from hna);have rV:=Z hna;have adR:=Z (show(df S l).length<=200000 by rw[Ab];omega);clear hok hD hr hl h5 hc1 hc2 hrl hln hna;go_enter Tryz.func19,Tryz.ntmps19;refine dK (fun KX aF=>?_);go_wp2;refine aF.F _ _ ?_;clear aF KX;refine dK (fun KX aF=>?_)
 go_wp2_with (first
  |(go_at_call 49;refine(CJ.F _ _ O).mono ?_;clear O;rintro e J ⟨v0,rfl,O⟩;obtain⟨ao0,c0,rfl,_⟩:=O.fA (k:=0) rfl)
  |(at_builtin;refine og O aa l ?_ (hlen:=H3.F) (hsrc:=(.inl (HR.F _ [_,_,_] O))) (I:=HO.F) (hb:=by have:=gB.F;have:=jO.F;omega) (hm:=by have:=gB.F;have:=jO.F;omega);clear O;intro mY c7 J _ O;rw[aD] at O;rw[rU.F] at O ⊢))
 refine aF.F _ _ ?_;clear aF KX;have H0:Hid (Sat W _ (Tb 100 3 rv (.slice mY na c7) (df S l)::bF ps pd S::aP pd D::L)):=Z O;clear O;refine dK (fun KX aF=>?_);go_wp2;rw[aM.F];go_loopw [33] (fun v33 wz=>GrC W L ps pd S D l (.slice mY na c7) v33 wz) (fun v33 _=>iV ln v33)
 case atStart=>exact⟨0,rfl,eG _,fun j x hj=>absurd hj (qd _),H0.F⟩
 case round=>
  clear H0;obtain⟨i,rfl,hi,hall,O⟩:=hrel;rw[aM.F] at hi;have HA:=Z hall;clear hall
  by_cases hlt:i<ln
  ·have k1:(i:Int)< (ln:Int):=by omega
   have ay:=Z hlt;obtain⟨pb,po,rfl,_⟩:=H5.F (by have:=aM.F;omega);obtain⟨x,V⟩:∃x,l[i]? =some x:=⟨_,aR (by have:=aM.F;omega)⟩
   have HX:=Z V;have iY:=Z (HR.F _ [_,_,_] O);have vL:=Z (fun w L (h:Sat W w L)=>Bz w W L h x.k x.a x.b);obtain⟨c,hc⟩:=au (sJ x.k x.a x.b);have hcx:mq x=c:=hc;have HC:=Z hcx;rw[hc] at vL;clear hc hcx V hi hlt;obtain⟨xk,xa,xb⟩:=x
   cases c with
   |false=>
    have hbad:qN S l=true:=by
     unfold qN
     have:l.all mq=false:=by
      rw[List.all_eq_false];exact⟨_,bJ HX.F,by rw[HC.F];decide⟩
     rw[this];rfl
    have HBAD:=Z (JP (D:=D) (shown:=shown) hbad);clear hbad
    go_wp2_with (first
     |(refine bN (nz (f:=rv) (x:=⟨xk,xa,xb⟩) iY.F (fun _ _=>rfl) _ _ (by rfl) _ (by rfl) (aI (by rfl)) (bz (by rfl)) i (by omega) HX.F (by have:=ay.F;have:=aM.F;omega)) ?_)
     |(refine dU O ?_;clear O;intro p9 J O;rw[aS] at O)
     |(refine eT (rv ⟨xk,xa,xb⟩) O aa ?_ (hv:=(xI _));clear O;intro J O;rw[aD] at O)
     |(refine dm O aa (rv ⟨xk,xa,xb⟩) ?_)
     |(go_at_call 58;refine ak (vL.F _ _ O) ?_;clear O;intro J O))
    go_ret;rw[HBAD.F];exact⟨rfl,O.drop.drop⟩
   |true=>
    go_wp2_with (first
     |(refine bN (nz (f:=rv) (x:=⟨xk,xa,xb⟩) iY.F (fun _ _=>rfl) _ _ (by rfl) _ (by rfl) (aI (by rfl)) (bz (by rfl)) i (by omega) HX.F (by have:=ay.F;have:=aM.F;omega)) ?_)
     |(refine dU O ?_;clear O;intro p9 J O;rw[aS] at O)
     |(refine eT (rv ⟨xk,xa,xb⟩) O aa ?_ (hv:=(xI _));clear O;intro J O;rw[aD] at O)
     |(refine dm O aa (rv ⟨xk,xa,xb⟩) ?_)
     |(go_at_call 58;refine ak (vL.F _ _ O) ?_;clear O;intro J O))
    exact⟨⟨i+1,by go_num,by rw[aM.F];exact ay.F,fun j y hj hy=>by
     by_cases e:j=i
     ·subst e;rw[HX.F] at hy;rw[<-ig hy];exact HC.F
     ·exact HA.F j y (by omega) hy,O.drop⟩,fZ ay.F⟩
  ·obtain rfl:i=ln:=by omega
   have k1:¬(i:Int)< (i:Int):=by omega
   have hok:l.all mq=true:=by
    rw[jV];intro x V;obtain⟨j,hj⟩:=jJ V;exact HA.F j x (by have:=(bZ.1 hj).1;have:=aM.F;omega) hj
   have HAO:=Z hok;clear hlt hi hok HA;go_wp2;refine aF.F _ _ ?_;clear aF
   -- the graph; too many
   have wQ:=Z (fun w h=>ain (W:=W) (w:=w) (L:=Tb 100 3 rv (.slice mY na c7) (df S l)::bF ps pd S::aP pd D::L) h (df S l) mY c7 rV.F (fun w h=>by have:=h.kK (k:=0) rfl;rw[rV.F] at this;exact this) (by have:=adR.F;have:=rV.F;omega));obtain⟨g2v,hgv⟩:=au ((Gr.new.jl (df S l)).2);obtain⟨YG,hgo⟩:∃b,decide ((Gr.new.jl (df S l)).2=na)=b:=⟨_,rfl⟩;have dV:=Z hgo;rw[hgo,hgv] at wQ;clear hgo hgv;refine dK (fun KX aF=>?_);obtain⟨big,hbg⟩:=au (decide (60<i));have apK:decide ((60:Int)< (i:Int))=big:=by rw[<-hbg];exact decide_eq_decide.2 (by omega)
   have mG:=Z (show qN S l=(!YG || big) by unfold qN;rw[HAO.F,rV.F,dV.F,aM.F,hbg];rfl);have LD:=Z (show big=false->i<=60 from fun h=>by rw[h] at hbg;have:=of_decide_eq_false hbg;omega);clear hbg
   cases YG with
   |false=>
    have HBAD:=Z (JP (D:=D) (shown:=shown) (mG.F.trans rfl))
    go_wp2_with (go_at_call 59;refine(wQ.F _ O).mono ?_;rintro e J ⟨pg,rfl,hS1⟩;clear O;have O:=hS1.drop;clear hS1)
    go_ret;rw[HBAD.F];exact⟨rfl,O.drop⟩
   |true=>
   cases big with
   |true=>
    have HBAD:=Z (JP (D:=D) (shown:=shown) (mG.F.trans rfl))
    go_wp2_with (go_at_call 59;refine(wQ.F _ O).mono ?_;rintro e J ⟨pg,rfl,hS1⟩;clear O;have O:=hS1.drop;clear hS1)
    go_ret;rw[HBAD.F];exact⟨rfl,O.drop⟩
   |false=>
   have HB:=Z (show qN S l=false from mG.F.trans rfl);have h60:=LD.F rfl;have aed:=Z (show l.length<=60 by rw[aM.F];exact h60);have n60:(i:Int)<=60:=by omega
   clear mG LD
   go_wp2_with (go_at_call 59;refine(wQ.F _ O).mono ?_;rintro e J ⟨pg,rfl,hS1⟩;clear O;have O:=hS1.drop;clear hS1)
   refine aF.F _ _ ?_;clear aF
   -- the plan
   refine dK (fun KX aF=>?_);obtain⟨fv,r,hS1⟩:=bF.open O.bW
   clear O;have O:=hS1;clear hS1;have hSm:=O;have hk1:Has _ 1 (IsMap fv S.U):=(hz1:Has (Cs ps 112 (bU pd S.sup fv S.aB r S.last)::IsMap fv S.U::Tb 100 3 rv r S.recs::Tb 100 3 rv (.slice mY na c7) (df S l)::aP pd D::L) 1 (IsMap fv S.U));unfold IsMap at hk1;obtain⟨fb,fo,fc,rfl,_⟩:=O.kV hk1 (by decide);clear hk1 hSm;obtain⟨nb,hnb⟩:=au D.blocks.length;have hbl:S.sup.blocks=(nb:Int):=by rw[<-hnb];exact bq.F.blocks
   have qF:=Z (show S.sup.blocks.toNat=nb by rw[hbl];exact fu nb);have n1:160<=nb:=by rw[<-hnb];exact bq.F.n1
   have n2:nb<=1024:=by rw[<-hnb];exact bq.F.n2
   have G1:=Z (show(bU pd S.sup (.slice (some ⟨fb,fo,none⟩) 128 fc) S.aB r S.last)[1]? =some (.int .i64 (nb:Int)) by rw[Cg (by decide),<-hbl];rfl);have G8:=Z (O6 (pd:=pd) (s:=S.sup) (fv:= .slice (some ⟨fb,fo,none⟩) 128 fc) (X:=S.aB) (r:=r) (last:=S.last));have iG:=Z (fun w M h=>bF.mk (W:=W) (w:=w) (L:=M) (ps:=ps) (pd:=pd) (S:=S) (fv:= .slice (some ⟨fb,fo,none⟩) 128 fc) (r:=r) h);have xY:=Z (fun w M (h:Sat W w (bF ps pd S::M))=>aci h bq.F.x i (by omega) bq.F.Dg);obtain⟨m,hm⟩:=au ((i+S.last-1) / 15);have HM:=Z (show gG S l=m by unfold gG;rw[aM.F];exact hm);rw[hm] at xY;have EU:m<=4:=by have:=bq.F.Dg;omega
   have m4:(m:Int)<=4:=by omega
   by_cases hno:(bT S.U nb).length<m
   ·have nW:=Z (fun w (h:Sat W w (Cs ps 112 (bU pd S.sup (.slice (some ⟨fb,fo,none⟩) 128 fc) S.aB r S.last)::IsMap (.slice (some ⟨fb,fo,none⟩) 128 fc) S.U::Tb 100 3 rv r S.recs::Tb 100 3 rv (.slice mY na c7) (df S l)::aP pd D::L))=>akZ h S.U fb fo fc nb m n2 (by omega) hno (qy hz1) (.slice none 0 0))
    have dx:=Z (show jd S D l shown=(2,S,D) by
     unfold jd
     rw[if_neg (by rw[HB.F];decide),if_pos (by rw[qF.F,HM.F];exact hno)])
    clear hno hnb hbl n1 n2 hm EU
    (refine cB (pO [0,1,2]<|rO [3]<|pO [4,5,6,7]<|rO [8]<|pO [9,10,11]<|aO [12,13]<|pO [14,15,16,17,18,19,20]<| .e) [13] O ?_;clear O;intro J O)
    repeat (first
     |(refine bG O ?_;go_frame)
     |(refine bR O ?_;(first
         |refine bK aa G1.F ?_
         |refine bK aa G8.F ?_);go_frame)
     |(refine bY fun K hK=>?_;(first
         |(refine jy (xY.F _ _ (iG.F _ _ O)) ?_;rintro J rfl)
         |(refine jy (nW.F _ O) ?_;clear O;intro J O));refine hK.go O ?_;clear hK K;go_frame))
    refine bO ?_;refine aF.F _ _ ?_;go_wp2;go_ret;rw[dx.F];exact⟨rfl,((iG.F _ _ O).re [1,0,2]).drop⟩
   ·have hf:m<=(bT S.U nb).length:=by omega
    have HF:=Z (show gG S l<=(bT S.U S.sup.blocks.toNat).length by rw[HM.F,qF.F];exact hf);have htk:(bT S.U nb).take m=kX S l:=by unfold kX;rw[HM.F,qF.F]
    have nW:=Z (fun w (h:Sat W w (Cs ps 112 (bU pd S.sup (.slice (some ⟨fb,fo,none⟩) 128 fc) S.aB r S.last)::IsMap (.slice (some ⟨fb,fo,none⟩) 128 fc) S.U::Tb 100 3 rv r S.recs::Tb 100 3 rv (.slice mY na c7) (df S l)::aP pd D::L))=>abl h S.U fb fo fc nb m n2 (by omega) hf (qy hz1) [] none 0 (fun w _ _=>abB w) (Ba.nil _ _) (by decide));rw[htk] at nW;have nJ:=Z (Pb (pd:=pd) (s:=S.sup) (fv:= .slice (some ⟨fb,fo,none⟩) 128 fc) (X:=S.aB) (r:=r) (last:=S.last));have mX:=Z (show(kX S l).length=m by rw[bq.F.taken HF.F,HM.F]);have zR:=Z EU;clear hno hnb hbl n1 n2 hm EU hf htk
    (refine cB (pO [0,1,2]<|rO [3]<|pO [4,5,6,7]<|rO [8]<|pO [9,10,11]<|aO [12,13]<|pO [14,15,16,17,18,19,20]<| .e) [13] O ?_;clear O;intro J O)
    repeat (first
     |(refine bG O ?_;go_frame)
     |(refine bR O ?_;(first
         |refine bK aa G1.F ?_
         |refine bK aa G8.F ?_);go_frame)
     |(refine bY fun K hK=>?_;(first
         |(refine jy (xY.F _ _ (iG.F _ _ O)) ?_;rintro J rfl)
         |(refine cK (nW.F _ O) ?_;rintro e J hE;obtain⟨vt,vm,rfl,hS1⟩:=hE;clear O;have O:=hS1;clear hS1;refine⟨_,rfl,?_⟩));refine hK.go O ?_;clear hK K;go_frame))
    refine bO ?_;refine aF.F _ _ ?_;clear aF nW xY;obtain⟨at_,ct,rfl,_⟩:=O.mg aa;have HVM:=Z (aj2 O);rw[mX.F] at O ⊢;refine qP ?_;refine dK (fun KX aF=>?_)
    go_wp2_with (first
     |(refine dm O hz2 (sv S.sup) ?_ (hvs:=nJ.F))
     |(refine dU O ?_;clear O;intro p16 J O;rw[aS] at O)
     |(refine eT (sv S.sup) O aa ?_ (hv:=(lI _));clear O;intro J O;rw[aD] at O))
    refine aF.F _ _ ?_;clear aF;refine dK (fun KX aF=>?_)
    go_wp2_with (refine iA O aa ?_;clear O;intro J O;rw[aD,acF] at O)
    refine aF.F _ _ ?_;clear aF;refine pV (Nf W L ps pd p16 S D l shown aq i cq (.slice (some ⟨fb,fo,none⟩) 128 fc) r (.slice mY na c7) (.slice at_ m ct) vm) (fun KX aF=>?_) ?_
    ·have qg:=Z (show ∀b,nA S l b=if b then {S.sup with records:=(na:Int),shown:=(na:Int)} else {S.sup with records:=(na:Int)} by
      intro b;unfold nA;rw[rV.F];cases b<;>rfl)
     have G3:=Z (show(sv {S.sup with records:=(na:Int)})[3]? =some (.int .i64 (na:Int)) from rfl)
     cases shown with
     |false=>
      go_wp2;refine aF.F _ _ ?_;unfold Nf;refine⟨?_,rfl⟩;rw[qg.F];exact O
     |true=>
      go_wp2_with (first
       |(refine aH O aa G3.F ?_)
       |(refine iA O aa ?_;clear O;intro J O;rw[aD,Ph] at O))
      refine aF.F _ _ ?_;unfold Nf;refine⟨?_,rfl⟩;rw[qg.F];exact O
    clear O nJ CJ;rintro a wz hinv;unfold Nf at hinv;obtain⟨hrel,ha⟩:=hinv;obtain⟨z,hz⟩:∃z:Nat->Value,∀i,a.tmps.getD i undef=z i:=⟨_,fun _=>rfl⟩
    try simp only[hz] at hrel
    replace ha:=ha.at hz;simp only[mM,lh] at ha;clear hz;subst ha;have O:=hrel;clear hrel;unfold tQ at O;rw[dB,dB,dB,dB,dB,dB,dB,iP] at O;have qY:=fun u=>X7 u (nA S l shown) S.sup
    refine dK (fun KX aF=>?_)
    by_cases hsame:nA S l shown=S.sup
    ·rw[bL hsame] at qY
     have iK:=Z (show jd S D l shown=(0,S,D) by
      unfold jd
      rw[if_neg (by rw[HB.F];decide),if_neg (by have:=HF.F;omega),if_pos hsame])
     clear hsame;go_wp2
     (refine cB (rO [0]<|pO [1,2,3]<|rO [4]<|pO [5]<| .e) [] O ?_;clear O;intro J O)
     repeat (first
      |(refine bG O ?_;go_frame)
      |(refine bR O ?_;(first
           |refine lY aa (sv (nA S l shown)) ?_
           |refine lY hz3 (sv S.sup) ?_);go_frame))
     refine bO ?_;go_wp2;go_ret;rw[iK.F];exact⟨rfl,((iG.F _ _ (O.re [3,4,5,7,0,1,2,6])).re [2,3,4,5,0,1]).drop.drop.drop.drop⟩
    ·rw[bf hsame] at qY
     have uO:=Z (show jd S D l shown=((jm D (kM S l shown)).1,(if(jm D (kM S l shown)).1=0 then S.grown l shown else S),(jm D (kM S l shown)).2) by
      unfold jd
      rw[if_neg (by rw[HB.F];decide),if_neg (by have:=HF.F;omega),if_neg hsame])
     clear hsame;go_wp2
     (refine cB (rO [0]<|pO [1,2,3]<|rO [4]<|pO [5]<| .e) [] O ?_;clear O;intro J O)
     repeat (first
      |(refine bG O ?_;go_frame)
      |(refine bR O ?_;(first
           |refine lY aa (sv (nA S l shown)) ?_
           |refine lY hz3 (sv S.sup) ?_);go_frame))
     refine bO ?_;go_wp2;refine aF.F _ _ ?_;clear aF qY;refine qP ?_;have GL:=Z (Uk (pd:=pd) (s:=S.sup) (fv:= .slice (some ⟨fb,fo,none⟩) 128 fc) (r:=r) (last:=S.last) bq.F.x);have GR:=Z (O8 (pd:=pd) (s:=S.sup) (fv:= .slice (some ⟨fb,fo,none⟩) 128 fc) (r:=r) (last:=S.last) bq.F.x);have aiY:0<=S.sup.tail:=by rw[bq.F.tail];omega
     obtain⟨tl,htl⟩:∃n:Nat,S.sup.tail=(n:Int):=⟨S.sup.tail.toNat,by omega⟩;have GT:=Z (show(bU pd S.sup (.slice (some ⟨fb,fo,none⟩) 128 fc) S.aB r S.last)[3]? =some (.int .i64 (tl:Int)) by rw[Cg (by decide),<-htl];rfl);have Cq:=Z (show eZ S l=[tl]++kX S l by unfold eZ;rw[htl,fu];rfl);clear htl aiY;refine dK (fun KX aF=>?_)
     go_wp2_with (refine aH O hz3 GL.F ?_)
     refine aF.F _ _ ?_;clear aF;refine pV (Ng W L ps pd p16 S D l shown aq i cq (.slice (some ⟨fb,fo,none⟩) 128 fc) r (.slice mY na c7) (.slice at_ m ct) vm) (fun KX aF=>?_) ?_
     ·by_cases hi0:i=0
      ·subst hi0;have hl0:l=[]:=yZ.1 aM.F;have hla:zy S l=S.last:=if_pos hl0;have hsu:gD S l shown=nA S l shown:=if_pos hl0;have hw0:pq S l=[]:=if_pos hl0;have Qg:=Z hla;have iD:=Z hsu;have HW0:=Z hw0;clear hl0 hla hsu hw0;go_wp2;refine aF.F _ _ ?_;unfold Ng;refine⟨⟨[],HW0.F.symm,Sat.jb ((Sat.yQ ?_))⟩,?_⟩
       ·rw[iD.F];exact O
       ·rw[Qg.F];rfl
      ·have hl0:l≠[]:=fun e=>hi0 (by rw[<-aM.F,e];rfl)
       have i0:(0:Int)< (i:Int):=by omega
       have Qg:=Z (show zy S l=Ka S l (m+1) by rw[<-HM.F];exact if_neg hl0);have iD:=Z (show gD S l shown= {nA S l shown with tail:=((iM (eZ S l) m:Nat):Int)} by rw[<-HM.F];exact if_neg hl0);have HW0:=Z (show pq S l=wF (eZ S l) (jB S l) (m+1) by rw[<-HM.F];exact if_neg hl0);have pE:=Z (show(eZ S l).length=m+1 by rw[Cq.F,bP,mX.F];simp;omega)
       have GZ:(eZ S l)[m]? =some (iM (eZ S l) m):=by
        rw[aR (by rw[pE.F];omega)];unfold iM;rw[aR (by rw[pE.F];omega)];rfl
       have U9:=Z (qw GZ);obtain⟨tb,htb⟩:=au (iM (eZ S l) m);rw[htb] at U9 iD;have QA:=Z (show(sv (nA S l shown)).set 2 (.int .i64 (tb:Int))=sv (gD S l shown) by rw[iD.F];rfl);obtain⟨ar,cr,rfl,_⟩:=O.fA (k:=5) rfl;obtain⟨nr,hnr⟩:=au S.recs.length;obtain⟨la,hla⟩:=au S.last;have aiO:la<=nr:=by rw[<-hla,<-hnr];obtain⟨m',hm',_⟩:=bq.F.BH;have:=bq.F.lens hm';omega
       have hnar:na=nr+i:=by rw[<-hnr,<-aM.F,<-rV.F];exact Ab
       have xX:=Z (show jB S l=(df S l).drop (nr-la) by unfold jB;rw[hnr,hla]);have J4:(nr:Int)-(la:Int)=((nr-la:Nat):Int):=by omega
       obtain⟨lo,hlo⟩:=au (nr-la);rw[hlo] at J4 xX;have nr1:(nr:Int)<=15360:=by have:=gB.F;omega
       have la1:(la:Int)<=15:=by have:=bq.F.Dg;omega
       have QH:=Z J4;have Qj:=Z (show lo<=na by omega)
       have Jd:=Z (show na<=c7 by
        obtain⟨_,_,Ha,hc7,_⟩:=O.kK BN;simp only[Value.slice.injEq] at Ha;rw[Ha.2.1,Ha.2.2]
        exact hc7)
       have m5:(m:Int)+1<=5:=by omega
       rw[hla] at O GL GR GT ⊢;rw[hnr] at O GR GL GT;have aee:=Z hla;have aev:=Z hnr;clear GZ htb hnr hla hlo hi0 hl0 J4 aiO hnar
       go_wp2_with (first
        |(refine aH O hz3 GT.F ?_)
        |(refine il [.int .i64 (tl:Int)] O ?_ (hc:=by simp[Value.cells]);clear O;intro b1 J O;rw[jC rfl] at O;replace O:=agX _ O)
        |(at_builtin;refine aU ?_;refine rz O _ _ _ _ (by rfl) (by rfl) (by rfl) (bS (by rfl)) (by rfl) (by rfl) (by rfl) (dO (by rfl)) aa (m:=kX S l) (by exact O.oG hz2) (by rw[mX.F];simp;omega) ?_;clear O;intro vb J O;rw[aD,<-Cq.F] at O;obtain⟨Gh,Gi,cb,rfl⟩:=O.ajr pE.F aa)
        |(refine bN (fF (O.zx pE.F aa) _ _ (by rfl) _ (by rfl) (aI (by rfl)) m (by omega) U9.F (by omega)) ?_)
        |(refine iA O hz1 ?_;clear O;intro J O;rw[aN,aD,QA.F] at O))
       have J4:=QH.F
       (refine cB (pO [0,1,2,3]<|rO [4]<|pO [5,6,7,8]<|rO [9]<|wO [10]<|tO [11]<|pO [12]<| .e) [] O ?_;clear O;intro J O)
       repeat (first
        |(refine bG O ?_;go_frame)
        |(refine mR O ?_;go_frame;try simp(disch:=omega) only[IntWalk.i64_in])
        |(refine oI O ?_;apply Exists.intro;apply And.intro;(intro w;first|exact TJ (lo:=lo) (by rfl) (by rfl) (by rfl) (by first|exact QH.F|omega) Qj.F Jd.F (bS (by rfl)) w|(go_simp;try with_reducible rfl));go_frame)
        |(refine bR O ?_;(first
               |refine bK fD GL.F ?_
               |refine bK fD GR.F ?_);go_frame))
       refine bO ?_;clear J4;rw[<-aee.F] at O ⊢
       have Vz:=Z (show ∀w L',Sat W w (L'++(Tb 100 3 rv (.slice mY na c7) (df S l)::aP pd D::L))->Rd w (.slice (uY mY c7 lo 3) (na-lo) (c7-lo)) (na-lo) 3 (((jB S l).drop (15*0)).flatMap rv) from fun w L' h=>by
        have I:=h.kK (has_add aa L');rw[rV.F] at I;have H:=I.MS lo Qj.F;rw[M5 (f:=rv) (sz:=3) _ _ (fun _ _=>rfl),<-xX.F] at H
        exact H)
       have Vs:=Z (show na-lo=(jB S l).length-15*0 by rw[xX.F,yY,rV.F];omega);have H1:=Z ((show ∀w,Sat W w (Ir (.slice (some ⟨Gh,Gi,none⟩) (m+1) cb) (eZ S l)::Cs p16 55 (sv (gD S l shown))::(tQ ps pd S D l (.slice (some ⟨fb,fo,none⟩) 128 fc) (.slice ar nr cr) (.slice mY na c7) (.slice at_ m ct) vm++L))->Sat W w (Tb 129 2 gw (.slice none 0 0) ([]:List GW)::St (([]:List GW).map grow)::Ir (.slice (some ⟨Gh,Gi,none⟩) (m+1) cb) (eZ S l)::Cs p16 55 (sv (gD S l shown))::(tQ ps pd S D l (.slice (some ⟨fb,fo,none⟩) 128 fc) (.slice ar nr cr) (.slice mY na c7) (.slice at_ m ct) vm++L)) from fun w h=>Sat.jb (Sat.yQ h)) _ O);have HPO:=Z (fun j (h:j<m+1)=>bq.F.YP HB.F HF.F (i:=j) (by rw[HM.F];exact h));have aeJ:=Z (show(jB S l).length=S.last+i by rw[amh bq.F,aM.F]);have HMV:=Z (show(i+S.last-1) / 15=m by rw[<-HM.F];unfold gG;rw[aM.F]);have EU:=zR.F;clear O QH Qj Jd;go_wp2;go_loopw [127,17,18,20] (fun v127 v17 v18 v20 wz=>GrL W L ps pd p16 m S D l shown (.slice (some ⟨fb,fo,none⟩) 128 fc) (.slice ar nr cr) (.slice mY na c7) (.slice at_ m ct) vm (.slice (some ⟨Gh,Gi,none⟩) (m+1) cb) v127 v17 v18 v20 wz) (fun v127 _ _ _ _=>iV (m+1) v127)
       case atStart=>exact⟨0,[],_,_,_,rfl,eG _,rfl,rfl,Vs.F,Vz.F,rfl,H1.F⟩
       case round=>
        clear H1 Vz Vs;obtain⟨j,dG,ao,n,c,rfl,hj,rfl,rfl,hn,hrd,hg2,O⟩:=hrel;have iB:=Z hrd;have HG2:=Z hg2;unfold tQ at O;rw[dB,dB,dB,dB,dB,dB,dB,iP] at O
        have hgl:dG.length=j:=by
         have:=congrArg List.length hg2;rw[qp,KC] at this;exact this
        have fU:=Z (show dG.length<=5 by omega);have Vl:=Z (show ∀x:GW,(dG++[x]).length=j+1 from fun x=>by rw[bP,hgl];rfl);clear hrd hg2 hgl
        by_cases hlt:j<m+1
        ·have k2:(j:Int)< (m:Int)+1:=by omega
         have ay:=Z hlt
         have hbj:(eZ S l)[j]? =some (iM (eZ S l) j):=by
          rw[aR (by rw[pE.F];omega)];unfold iM;rw[aR (by rw[pE.F];omega)];rfl
         have U8:=Z (qw hbj);have hrd:=iB.F _ [_,_,_,_,_,_,_,_,_] O
         have HC:=Z (show n<=c by
          obtain⟨_,_,Ha,hcc,_⟩:=hrd;simp only[Value.slice.injEq] at Ha;rw[Ha.2.2]
          exact hcc)
         obtain⟨d,hd⟩:=au (gL (chunk (jB S l) j) (jo (eZ S l) j));have hdl:d.length=128:=by rw[<-hd];exact vT _ (by rw[um];omega)
         have LY:=Z (fun(x:GW)=>(show dG.map grow++[grow x]=(dG++[x]).map grow by rw[lC];rfl));have LQ:=Z (show ∀v,Sl 5 1 v 128 (bv d)=grow ⟨((iM (eZ S l) j:Nat):Int),v,d⟩ from fun v=>by unfold grow;rw[hdl])
         have LP:=Z (show ∀v,g2 (dG++[⟨((iM (eZ S l) j:Nat):Int),v,d⟩])=wF (eZ S l) (jB S l) (j+1) from fun v=>by
          rw[RP,HG2.F,akX,hd])
         have hrl:=aeJ.F;have hmv:=HMV.F;have L9:=Z (HPO.F j hlt);have L6:=Z hd;have mW:=Z hdl
         have jv:=Z (fun q (hq:q<=n) (hq2:(chunk (jB S l) j).length=q)=>(show ∀w vw,Sat W w (IX L ps pd p16 S D l shown (.slice (some ⟨fb,fo,none⟩) 128 fc) (.slice ar nr cr) (.slice mY na c7) (.slice at_ m ct) vm (.slice (some ⟨Gh,Gi,none⟩) (m+1) cb) vw dG)->Rd w (.slice ao q c) q 3 ((chunk (jB S l) j).flatMap rv) from fun w vw h=>by
          have I:=(iB.F w [_,_,_,_,_,_,_,_,_] h).Rk q hq;rw[Ry (f:=rv) (sz:=3) _ _ (fun _ _=>rfl)] at I
          have H:((jB S l).drop (15*j)).take q=chunk (jB S l) j:=by
           have oF:q=min 15 n:=by rw[<-hq2,um,hn]
           by_cases h15:15<=n
           ·rw[oF,Nat.min_eq_left h15];rfl
           ·rw[oF,Nat.min_eq_right (by omega)];unfold chunk;rw[dF (i:=n) (by rw[yY,hn];exact aZ _),dF (i:=15) (by rw[yY];omega)]
          rw[H] at I
          exact I))
         have Vb:=Z (fun q (hq:q<=n) (apU:q<=15) (hq2:15*(j+1)=15*j+q∨n<=q)=>(show ∀w L',Sat W w (L'++(Tb 100 3 rv (.slice mY na c7) (df S l)::aP pd D::L))->Rd w (.slice (uY ao c q 3) (n-q) (c-q)) (n-q) 3 (((jB S l).drop (15*(j+1))).flatMap rv) from fun w L' h=>by
          have I:=(iB.F w L' h).MS q hq;rw[M5 (f:=rv) (sz:=3) _ _ (fun _ _=>rfl),List.drop_drop] at I
          have H:(jB S l).drop (15*j+q)=(jB S l).drop (15*(j+1)):=by
           rcases hq2 with hq2|hq2
           ·rw[hq2]
           ·rw[oJ (by omega),oJ (by omega)]
          rw[H] at I
          exact I))
         by_cases hjm:j<m
         ·obtain⟨nx,hnx⟩:∃nx,(eZ S l)[j+1]? =some nx:=⟨_,aR (by rw[pE.F];omega)⟩
          have dJ:=Z (qw hnx);have JX:jo (eZ S l) j=(nx:Int):=by unfold jo;rw[hnx];rfl
          rw[JX] at L9 L6;have hq:(chunk (jB S l) j).length=15:=by rw[um];omega
          have Qk:=Z (show Value.int .i64 15= .int .i64 ((Ka S l (j+1):Nat):Int) by show _=Value.int .i64 (((chunk (jB S l) j).length:Nat):Int);rw[hq];rfl);have vO:=Z (fun w vw (h:Sat W w (IX L ps pd p16 S D l shown (.slice (some ⟨fb,fo,none⟩) 128 fc) (.slice ar nr cr) (.slice mY na c7) (.slice at_ m ct) vm (.slice (some ⟨Gh,Gi,none⟩) (m+1) cb) vw dG))=>abT h (chunk (jB S l) j) ao c hq (fun w h=>jv.F 15 (by omega) hq w vw h) (nx:Int) L9.F L6.F mW.F);have F7:=Z (Vb.F 15 (by omega) (aZ _) (.inl (by omega)));have qf:=Z (show n-15=(jB S l).length-15*(j+1) by omega);have hmin:min (n:Int) 15=15:=Int.min_eq_right (by omega);have aiT:(15:Int)< (n:Int):=by omega
          have k3:(j:Int)+1< (m:Int)+1:=by omega
          have k4:(j:Int)< (m:Int):=by omega
          have hnn:=Z (show 15<=n by omega);clear hbj hrd hd hdl hnx JX hq hn hlt hj hrl hmv hjm
          go_wp2_with (first
           |(refine bN (fF (O.zx pE.F hz2) _ _ (by rfl) _ (by rfl) (aI (by rfl)) j (by omega) U8.F (by omega)) ?_)
           |(refine bN (fF (O.zx pE.F hz2) _ _ (by rfl) _ (by rfl) (aI (by rfl)) (j+1) (by omega) dJ.F (by omega)) ?_)
           |(refine bN (TI (hi:=15) (by rfl) (by rfl) (by rfl) (by first|rfl|omega) (by have:=HC.F;omega) (bS (by rfl)) _) ?_)
           |(go_at_call 29;refine(vO.F _ _ O).mono ?_;clear O;rintro e J ⟨v7,rfl,O⟩;unfold IX tQ at O;rw[dB,dB,dB,dB,dB,dB,dB,iP] at O;obtain⟨b7,o7,EA,rfl,_⟩:=O.kV (k:=0) rfl (by decide))
           |(refine il [.agg (gw ⟨((iM (eZ S l) j:Nat):Int), .slice (some ⟨b7,o7,none⟩) 128 EA,d⟩).toArray] O ?_ (hc:=by simp[gw,Value.cells]);clear O;intro b1 J O;rw[kP] at O)
           |(at_builtin;refine og O hz2 [⟨((iM (eZ S l) j:Nat):Int), .slice (some ⟨b7,o7,none⟩) 128 EA,d⟩] ?_ (hlen:=(fun _ _=>rfl)) (hsrc:=by exact O.gZ aa rfl) (I:=by rw[xh];exact vV _ _) (hb:=by have:=fU.F;simp;omega) (hm:=by have:=fU.F;simp;omega);clear O;intro aw cw J _ O;rw[aN,aN,aD] at O;rw[Vl.F] at O ⊢)
           |(refine bN (TJ (lo:=15) (by rfl) (by rfl) (by rfl) (by first|rfl|omega) (by omega) HC.F (bS (by rfl)) _) ?_))
          have h3:=(O.drop.re [0,2]);rw[LQ.F] at h3;have h4:=(Sat.AO h3).bW;rw[LY.F] at h4;exact⟨⟨j+1,dG++[⟨((iM (eZ S l) j:Nat):Int), .slice (some ⟨b7,o7,none⟩) 128 EA,d⟩],_,_,_,by go_num,ay.F,Qk.F,rfl,qf.F,F7.F,LP.F _,h4⟩,fZ ay.F⟩
         ·obtain rfl:m=j:=by omega
          have JX:jo (eZ S l) m=0:=by unfold jo;rw[qE (by rw[pE.F];omega)];rfl
          rw[JX] at L9 L6;have Zf:n<=15:=by omega
          have hq:(chunk (jB S l) m).length=n:=by rw[um];omega
          have Qk:=Z (show Value.int .i64 (n:Int)= .int .i64 ((Ka S l (m+1):Nat):Int) by show _=Value.int .i64 (((chunk (jB S l) m).length:Nat):Int);rw[hq]);have vO:=Z (fun w vw (h:Sat W w (IX L ps pd p16 S D l shown (.slice (some ⟨fb,fo,none⟩) 128 fc) (.slice ar nr cr) (.slice mY na c7) (.slice at_ m ct) vm (.slice (some ⟨Gh,Gi,none⟩) (m+1) cb) vw dG))=>abT h (chunk (jB S l) m) ao c hq (fun w h=>jv.F n (aZ _) hq w vw h) 0 L9.F L6.F mW.F);have F7:=Vb.F n (aZ _) Zf (.inr (aZ _));rw[Nat.sub_self] at F7;have F7:=Z F7;have qf:=Z (show 0=(jB S l).length-15*(m+1) by omega);have hmin:min (n:Int) 15=(n:Int):=Int.min_eq_left (by omega);have aiT:(n:Int)<=15:=by omega
          have k3:¬(m:Int)+1< (m:Int)+1:=by omega
          have hnn:=Z (show n<=n by omega);clear hbj hrd hd hdl JX hq hn hlt hj hrl hmv hjm Zf
          go_wp2_with (first
           |(refine bN (fF (O.zx pE.F hz2) _ _ (by rfl) _ (by rfl) (aI (by rfl)) m (by omega) U8.F (by omega)) ?_)
           |(refine bN (TI (hi:=n) (by rfl) (by rfl) (by rfl) (by first|rfl|omega) (by have:=HC.F;omega) (bS (by rfl)) _) ?_)
           |(go_at_call 29;refine(vO.F _ _ O).mono ?_;clear O;rintro e J ⟨v7,rfl,O⟩;unfold IX tQ at O;rw[dB,dB,dB,dB,dB,dB,dB,iP] at O;obtain⟨b7,o7,EA,rfl,_⟩:=O.kV (k:=0) rfl (by decide))
           |(refine il [.agg (gw ⟨((iM (eZ S l) m:Nat):Int), .slice (some ⟨b7,o7,none⟩) 128 EA,d⟩).toArray] O ?_ (hc:=by simp[gw,Value.cells]);clear O;intro b1 J O;rw[kP] at O)
           |(at_builtin;refine og O hz2 [⟨((iM (eZ S l) m:Nat):Int), .slice (some ⟨b7,o7,none⟩) 128 EA,d⟩] ?_ (hlen:=(fun _ _=>rfl)) (hsrc:=by exact O.gZ aa rfl) (I:=by rw[xh];exact vV _ _) (hb:=by have:=fU.F;simp;omega) (hm:=by have:=fU.F;simp;omega);clear O;intro aw cw J _ O;rw[aN,aN,aD] at O;rw[Vl.F] at O ⊢)
           |(refine bN (TJ (lo:=n) (by rfl) (by rfl) (by rfl) (by first|rfl|omega) (by omega) HC.F (bS (by rfl)) _) ?_))
          have h3:=(O.drop.re [0,2]);rw[LQ.F] at h3;have h4:=(Sat.AO h3).bW;rw[LY.F] at h4;exact⟨⟨m+1,dG++[⟨((iM (eZ S l) m:Nat):Int), .slice (some ⟨b7,o7,none⟩) 128 EA,d⟩],_,_,_,by go_num,ay.F,Qk.F,rfl,qf.F,F7.F,LP.F _,h4⟩,fZ ay.F⟩
        ·obtain rfl:j=m+1:=by omega
         have k2:¬((m:Int)+1< (m:Int)+1):=by omega
         have HG3:=Z (HG2.F.trans HW0.F.symm);have aef:=Z (show Value.int .i64 ((Ka S l (m+1):Nat):Int)= .int .i64 ((zy S l:Nat):Int) by rw[Qg.F]);rw[<-aev.F] at O;clear hlt hj hn iB HG2;go_wp2;refine aF.F _ _ ?_;unfold Ng;refine⟨⟨dG,HG3.F,(O.re [2]).drop⟩,?_⟩;rw[aef.F];rfl
     clear O GL GR GT Cq;rintro a wz hinv;unfold Ng at hinv;obtain⟨hrel,ha⟩:=hinv;obtain⟨z,hz⟩:∃z:Nat->Value,∀i,a.tmps.getD i undef=z i:=⟨_,fun _=>rfl⟩
     try simp only[hz] at hrel
     replace ha:=ha.at hz;simp only[mM,lh] at ha;clear hz;subst ha;obtain⟨dG,hg2,O⟩:=hrel;have HG2:=Z hg2
     have hgl:dG.length<=m+1:=by
      have:=congrArg List.length hg2;rw[qp] at this;rw[this];unfold pq
      split
      ·simp
      ·rw[KC,HM.F];exact aZ _
     have fU:=Z (show dG.length<=5 by have:=zR.F;omega);clear hg2 hgl;unfold tQ at O;rw[dB,dB,dB,dB,dB,dB,dB,iP] at O;refine pV (Nh W L ps pd p16 S D l shown aq i cq (.slice (some ⟨fb,fo,none⟩) 128 fc) r (.slice mY na c7) (.slice at_ m ct) vm) (fun KX aF=>?_) ?_
     ·by_cases hm0:m=0
      ·have hmi:¬((0:Int)< (m:Int)):=by omega
       have hmw:BQ S l vm=[]:=if_pos (yZ.1 (mX.F.trans hm0));have Qo:=Z hmw;clear hm0 hmw;go_wp2;refine aF.F _ _ ?_;unfold Nh;refine⟨⟨dG,HG2.F,?_⟩,rfl⟩;rw[Qo.F,kv];exact O
      ·have hmi:(0:Int)< (m:Int):=by omega
       have hk4:Has _ 4 (IsMap vm (mi S l)):=(show Has (Tb 129 2 gw (z 17) dG::St (dG.map grow)::Cs p16 55 (sv (gD S l shown))::(tQ ps pd S D l (.slice (some ⟨fb,fo,none⟩) 128 fc) r (.slice mY na c7) (.slice at_ m ct) vm++L)) 4 (IsMap vm (mi S l)) from rfl);have hS2:=(show Sat W wz (Tb 129 2 gw (z 17) dG::St (dG.map grow)::Cs p16 55 (sv (gD S l shown))::(tQ ps pd S D l (.slice (some ⟨fb,fo,none⟩) 128 fc) r (.slice mY na c7) (.slice at_ m ct) vm++L)) from O);unfold IsMap at hk4;obtain⟨vb,vo,vc,hve,_⟩:=hS2.kV hk4 (by decide);clear hS2 hk4;have Qo:=Z (show BQ S l vm=[⟨1,vm,cO (mi S l)⟩] from if_neg (fun e=>hm0 (by rw[<-mX.F,e];rfl)));subst hve;obtain⟨az,cz,Zx,_⟩:=O.fA (k:=0) rfl;clear hm0;rw[Zx] at O ⊢;obtain⟨ng,zu⟩:=au dG.length;have HNG:=Z (show ∀x:GW,(dG++[x]).length=ng+1 from fun x=>by rw[bP,zu];rfl);rw[zu] at O ⊢;clear zu Zx
       go_wp2_with (first
        |(refine il [.agg (gw ⟨1, .slice (some ⟨vb,vo,none⟩) 128 vc,cO (mi S l)⟩).toArray] O ?_ (hc:=by simp[gw,Value.cells]);clear O;intro b1 J O;rw[kP] at O)
        |(at_builtin;refine og O hz1 [⟨1, .slice (some ⟨vb,vo,none⟩) 128 vc,cO (mi S l)⟩] ?_ (hlen:=(fun _ _=>rfl)) (hsrc:=by exact O.gZ aa rfl) (I:=by rw[xh];exact vV _ _) (hb:=by have:=fU.F;simp;omega) (hm:=by have:=fU.F;simp;omega);clear O;intro aw cw J _ O;rw[aN,aD] at O;rw[HNG.F] at O ⊢))
       refine aF.F _ _ ?_;unfold Nh;refine⟨⟨dG,HG2.F,?_⟩,rfl⟩;rw[Qo.F];exact O.drop
     clear O HG2 fU;rintro a wz hinv;unfold Nh at hinv;obtain⟨hrel,ha⟩:=hinv;obtain⟨z,hz⟩:∃z:Nat->Value,∀i,a.tmps.getD i undef=z i:=⟨_,fun _=>rfl⟩
     try simp only[hz] at hrel
     replace ha:=ha.at hz;simp only[mM,lh] at ha;clear hz;subst ha;obtain⟨dG,hg2,O⟩:=hrel;unfold tQ at O;rw[dB,dB,dB,dB,dB,dB,dB,iP] at O
     have hgl:dG.length<=m+1:=by
      have:=congrArg List.length hg2;rw[qp] at this;rw[this];unfold pq
      split
      ·simp
      ·rw[KC,HM.F];exact aZ _
     have uZ:(dG++BQ S l vm).length<=1000:=by
      rw[bP];have:=zR.F;unfold BQ
      split<;>simp<;>omega
     have hgw:g2 (dG++BQ S l vm)++[(0,encS (gD S l shown))]=kM S l shown:=by
      unfold kM tL;congr 1;unfold g2 at hg2 ⊢;rw[lC,hg2];congr 1;unfold BQ
      split<;>rfl
     have nI:=Z (bq.F.RV aed.F HF.F shown)
     have HG:=Z (fun w v (h:Sat W w (Tb 129 2 gw v (dG++BQ S l vm)::St (dG.map grow)::Cs p16 55 (sv (gD S l shown))::(tQ ps pd S D l (.slice (some ⟨fb,fo,none⟩) 128 fc) r (.slice mY na c7) (.slice at_ m ct) vm++L)))=>
      YR (L:=St (dG.map grow)::Cs p16 55 (sv (gD S l shown))::Ir (.slice at_ m ct) (kX S l)::IsMap vm (mi S l)::Tb 100 3 rv (.slice mY na c7) (df S l)::L) (iG.F _ _ (h.re [5,6,7,0,9,1,2,3,4,8])).bW HD.F hk (gD S l shown) nI.F uZ (fun w L' h x V=>by
       rcases gy.1 V with V|V
       ·obtain⟨j,hj⟩:=jJ V;obtain⟨L2,H⟩:=h.KV (j:=j) (A:=grow x) (has_add aa L') (by unfold Has;rw[kY,hj];rfl);exact H.dY aa
       ·unfold BQ at V
        split at V
        ·exact absurd V nE
        ·rw[eD.1 V];have H:=has_add (hz3:Has (St (dG.map grow)::Cs p16 55 (sv (gD S l shown))::Ir (.slice at_ m ct) (kX S l)::IsMap vm (mi S l)::Tb 100 3 rv (.slice mY na c7) (df S l)::L) 3 (IsMap vm (mi S l))) L';unfold IsMap at H;have h3:=h.dY H;show Rd w vm (cO (mi S l)).length 1 _;rw[uC]
         exact h3))
     rw[hgw] at HG;obtain⟨cc,hcc⟩:=au (jm D (kM S l shown));obtain⟨cd,D'⟩:=cc;rw[hcc] at HG uO;have nX:=Z (fun fv r=>vD (pd:=pd) (s:=S.sup) (fv:=fv) (r:=r) (last:=S.last) bq.F.x);have Bn:=Z (fun fv r=>vD (pd:=pd) (s:=gD S l shown) (fv:=fv) (r:=r) (last:=S.last) bq.F.x);have aeS:=Z (fun fv r=>vD (pd:=pd) (s:=gD S l shown) (fv:=fv) (r:=r) (last:=(zy S l:Int)) bq.F.x);have HST:=Z (fun fv r=>KW (pd:=pd) (s:=S.sup) (s':=gD S l shown) (fv:=fv) (X:=S.aB) (r:=r) (last:=S.last));have aeL:=Z (fun fv r r'=>Um (pd:=pd) (s:=gD S l shown) (fv:=fv) (r:=r) (r':=r') (last:=S.last) bq.F.x);have rf:=Z (fun fv r=>Ul (pd:=pd) (s:=gD S l shown) (fv:=fv) (r:=r) (last:=S.last) (last':=(zy S l:Int)) bq.F.x);have jQ:=Z (show ∀v∈sv (gD S l shown),v.oneCell'=true from lI _);have HO2:=Z (fun w L (h:Sat W w (bF ps pd S::L))=>bF.open h);have D6:=Z (fun w M (h:Sat W w (Cs ps 112 (bU pd (gD S l shown) vm S.aB (.slice mY na c7) (zy S l))::IsMap vm (mi S l)::Tb 100 3 rv (.slice mY na c7) (df S l)::M))=>bF.mk (S:=S.grown l shown) h);clear hg2 hgl uZ hgw hcc
     by_cases hc0:cd=0
     ·subst hc0;have Qa:=Z (show jd S D l shown=(0,S.grown l shown,D') from uO.F);clear uO
      go_wp2_with (first
       |(refine dm O hz2 (sv (gD S l shown)) ?_)
       |(go_at_call 62;refine(HG.F _ _ O).mono ?_;rintro e J ⟨rfl,hS2⟩;obtain⟨RA,r2,hS1⟩:=HO2.F _ _ hS2;clear hS2;clear O;have O:=hS1;clear hS1)
       |(refine dm O vk (sv (gD S l shown)) ?_)
       |(refine kW (sv (gD S l shown)) O aa ?_ (hv:=jQ.F) (hb:=by rw[nX.F];show 8<=1787;decide);clear O;intro J O;rw[aD,show 1+(sv (gD S l shown)).length=8 from rfl,HST.F] at O)
       |(refine iA O aa ?_ (hv:=by first|exact HVM.F|rfl) (hb:=by first|(rw[Bn.F];decide)|(rw[aeS.F];decide));clear O;intro J O;rw[aD] at O;first|rw[aeL.F] at O|rw[rf.F] at O|rw[O9] at O))
      go_ret;rw[Qa.F];exact⟨rfl,((D6.F _ _ (O.re [0,7,8,3,1,2,4,5,6])).re [2,3,4,5,6,0,1]).drop.drop.drop.drop.drop⟩
     ·have e9:(cd != 0)=true:=bne_iff_ne.2 hc0;have Qa:=Z (show jd S D l shown=(cd,S,D') by rw[uO.F];dsimp only;rw[if_neg hc0]);clear uO hc0
      go_wp2_with (first
       |(refine dm O hz2 (sv (gD S l shown)) ?_)
       |(go_at_call 62;refine ak (HG.F _ _ O) ?_;clear O;intro J O))
      go_ret;rw[Qa.F];exact⟨rfl,(O.re [2,3,4,5,6,0,1]).drop.drop.drop.drop.drop⟩
end Go.Proofs.YtjbiihbicknemaaGreat
