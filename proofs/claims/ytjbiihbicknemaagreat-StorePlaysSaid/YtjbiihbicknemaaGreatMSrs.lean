/-
  Part of the proof of StoreWhole.
-/
import Derived.Test.YtjbiihbicknemaaGreatMSrm
import Derived.Test.YtjbiihbicknemaaGreatMRwl
set_option linter.unusedSimpArgs false
set_option linter.unusedVariables false
set_option maxRecDepth 20000
set_option maxHeartbeats 40000000
namespace Go.Proofs.YtjbiihbicknemaaGreat
open Go.RowKit Go.Sep
variable {W w:World} {L:List aA}
attribute [local irreducible] Oper.wp wpList Calls Code.wp Sep.dR
def bE (pd:Nat) (s:di) (fv:Value) (X:List aL) (TW:Value) (last:Value):List Value:=
 (.pointer (some ⟨pd,0,none⟩)::sv s)++(fv::(X.flatMap inv++[TW,last]))
theorem FK {pd:Nat} {s:di} {fv:Value} {X:List aL} {r:Value} {last:Value} (h:iH X):(bE pd s fv X r last).length=1787:=by
 unfold bE;rw[bP,fB,mU,fB,bP,h.mK];rfl
theorem Ch {pd:Nat} {s:di} {fv:Value} {X:List aL} {r:Value} {last:Value} {k:Nat} (h:k<8):(bE pd s fv X r last)[k]? =(Value.pointer (some ⟨pd,0,none⟩)::sv s)[k]? :=by
 unfold bE;rw[xN (by rw[fB,mU];omega)]
theorem KY {pd:Nat} {s:di} {fv:Value} {X:List aL} {r:Value} {last:Value} :(bE pd s fv X r last)[8]? =some fv:=rfl
theorem IC {pd:Nat} {s:di} {fv:Value} {X:List aL} {r:Value} {last:Value} (h:iH X):(bE pd s fv X r last)[1785]? =some r:=by
 unfold bE;rw[rP (by rw[fB,mU];omega),fB,mU];show(fv::(X.flatMap inv++[r,last]))[1776+1]? =_
 rw[xO,rP (by rw[h.mK];omega),h.mK];rfl
theorem KZ {pd:Nat} {s:di} {fv:Value} {X:List aL} {r:Value} {last:Value} (h:iH X):(bE pd s fv X r last)[1786]? =some (last):=by
 unfold bE;rw[rP (by rw[fB,mU];omega),fB,mU];show(fv::(X.flatMap inv++[r,last]))[1777+1]? =_
 rw[xO,rP (by rw[h.mK];omega),h.mK];rfl
theorem Un {pd:Nat} {s:di} {fv:Value} {X:List aL} {r:Value} {last:Value} (h:iH X) {i:Nat} {x:aL} (V:X[i]? =some x):((bE pd s fv X r last).drop (9+i*37)).take 37=inv x:=by
 have hi:=(bZ.1 V).1;have e:bE pd s fv X r last=(.pointer (some ⟨pd,0,none⟩)::sv s++[fv])++(X.flatMap inv++[r,last]):=by unfold bE;simp
 rw[e,List.drop_append,oJ (by rw[bP,fB,mU,dC];omega),iP];rw[show 9+i*37-(Value.pointer (some ⟨pd,0,none⟩)::sv s++[fv]).length=i*37 by rw[bP,fB,mU,dC];omega];rw[zn V,dX,dX];have h3:=EK h.fl (Nat.le_of_lt hi);rw[List.drop_append_of_le_length (by rw[h3];exact aZ _),oJ (by rw[h3];exact aZ _),iP];rw[List.take_append_of_le_length (by rw[h.fl x (bJ V)];exact aZ _),dF (by rw[h.fl x (bJ V)];exact aZ _)]
theorem Ur {pd:Nat} {s:di} {fv:Value} {X:List aL} {r:Value} {last:Value} :((bE pd s fv X r last).drop 1).take 7=sv s:=rfl
theorem Pf {pd:Nat} {s s':di} {fv:Value} {X:List aL} {r:Value} {last:Value} :(bE pd s fv X r last).take 1++sv s'++(bE pd s fv X r last).drop 8=bE pd s' fv X r last:=rfl
theorem acx {pd:Nat} {s:di} {fv zo:Value} {X:List aL} {r:Value} {last:Value} :(bE pd s fv X r last).set 8 zo=bE pd s zo X r last:=rfl
theorem Uq {pd:Nat} {s:di} {fv:Value} {X:List aL} {r r':Value} {last:Value} (h:iH X):(bE pd s fv X r last).set 1785 r'=bE pd s fv X r' last:=by
 unfold bE;rw[List.set_append_right _ _ (by rw[fB,mU];omega),fB,mU];show _++(fv::(X.flatMap inv++[r,last])).set (1776+1) r'=_;rw[aN,List.set_append_right _ _ (by rw[h.mK];omega),h.mK];rfl
theorem Uo {pd:Nat} {s:di} {fv:Value} {X:List aL} {r:Value} {last last':Value} (h:iH X):(bE pd s fv X r last).set 1786 (last')=bE pd s fv X r last':=by
 unfold bE;rw[List.set_append_right _ _ (by rw[fB,mU];omega),fB,mU];show _++(fv::(X.flatMap inv++[r,last])).set (1777+1) _=_;rw[aN,List.set_append_right _ _ (by rw[h.mK];omega),h.mK];rfl
theorem acy {pd:Nat} {s:di} {fv:Value} {X:List aL} {r:Value} {last:Value} (h:iH X) {i:Nat} (hi:i<48) (y:aL) (hy:y.ptrs.length=32):
  (bE pd s fv X r last).take (9+i*37)++inv y++(bE pd s fv X r last).drop (9+i*37+37)=bE pd s fv (X.set i y) r last:=by
 obtain⟨x,V⟩:∃x,X[i]? =some x:=⟨_,aR (by rw[h.len];exact hi)⟩
 have hil:i<X.length:=by rw[h.len];exact hi
 have e:∀X:List aL,bE pd s fv X r last=(.pointer (some ⟨pd,0,none⟩)::sv s++[fv])++(X.flatMap inv++[r,last]):=by intro X;unfold bE;simp
 have h9:(Value.pointer (some ⟨pd,0,none⟩)::sv s++[fv]).length=9:=by rw[bP,fB,mU];rfl
 have h3:=EK h.fl (Nat.le_of_lt hil);have hxl:=h.fl x (bJ V);have hx2:(X.set i y)[i]? =some y:=by rw[List.getElem?_set_self hil]
 rw[e,e,List.take_append,List.drop_append,h9];rw[dF (by rw[h9];omega),oJ (by rw[h9];omega),iP];rw[show 9+i*37-9=i*37 by omega,show 9+i*37+37-9=i*37+37 by omega];rw[zn hx2,List.take_set_of_le (aZ i),List.drop_set_of_lt (by omega)];have hs:=zn (f:=inv) V
 have t1:(X.flatMap inv++[r,last]).take (i*37)=(X.take i).flatMap inv:=by
  rw[hs,dX,dX,List.take_append_of_le_length (by rw[h3];exact aZ _),dF (by rw[h3];exact aZ _)]
 have t2:(X.flatMap inv++[r,last]).drop (i*37+37)=(X.drop (i+1)).flatMap inv++[r,last]:=by
  rw[hs,dX];exact List.drop_left' (by rw[bP,h3,hxl])
 rw[t1,t2];simp only[dX]
theorem acw {pd:Nat} {s:di} {fv:Value} {X:List aL} {r:Value} {last:Value} (h:iH X) {i:Nat} {x:aL} (V:X[i]? =some x):((bE pd s fv X r last).drop (9+i*37+5)).take 32=pv x.ptrs:=by
 have I:=Un (pd:=pd) (s:=s) (fv:=fv) (r:=r) (last:=last) h V;rw[<-List.drop_drop];have H:(((bE pd s fv X r last).drop (9+i*37)).drop 5).take 32=(((bE pd s fv X r last).drop (9+i*37)).take 37).drop 5:=by rw[List.drop_take]
 rw[H,I];rfl
def dz (pw pe:Nat) (S:aK) (gs:List Nat):aA:=Ex fun x:Value×Value×Value=>St [Cs pw 96 (bE pe S.sup x.1 S.aB x.2.1 x.2.2),IsMap x.1 S.U,Tb 100 3 rv x.2.1 S.recs,Ir x.2.2 gs]
theorem dz.open {pw pe:Nat} {S:aK} {gs:List Nat} (h:Sat W w (dz pw pe S gs::L)):∃fv r g,Sat W w (Cs pw 96 (bE pe S.sup fv S.aB r g)::IsMap fv S.U::Tb 100 3 rv r S.recs::Ir g gs::L):=by
 obtain⟨⟨fv,r,g⟩,h⟩:=h.ex;exact⟨fv,r,g,h.open⟩
theorem dz.mk {pw pe:Nat} {S:aK} {gs:List Nat} {fv r g:Value} (h:Sat W w (Cs pw 96 (bE pe S.sup fv S.aB r g)::IsMap fv S.U::Tb 100 3 rv r S.recs::Ir g gs::L)):Sat W w (dz pw pe S gs::L):=
 Sat.yH (fv,r,g) (Sat.sH h)
attribute [local irreducible] Sep.fJ
theorem Iu {pw pe:Nat} {S:aK} {gs:List Nat} {R:dh} (h:Sat W w (dz pw pe S gs::aW pe R::L)):∃fv r g v1 v2,Sat W w (Cs pw 96 (bE pe S.sup fv S.aB r g)::IsMap fv S.U::Tb 100 3 rv r S.recs::Ir g gs::
  Cs pe 68 [v1,v2, .bool R.armed, .int .i64 R.left, .bool R.dead]::Tb 9 1 iF v1 R.L::Tb 150 2 wv v2 R.Log::L):=by
 obtain⟨v1,v2,H⟩:=aW.open h.bW
 obtain⟨fv,r,g,h3⟩:=dz.open (H.re [3])
 exact⟨fv,r,g,v1,v2,h3⟩
theorem FH {pw pe:Nat} {S:aK} {gs:List Nat} {R:dh} {fv r g v1 v2:Value} (h:Sat W w (Cs pw 96 (bE pe S.sup fv S.aB r g)::IsMap fv S.U::Tb 100 3 rv r S.recs::Ir g gs::
  Cs pe 68 [v1,v2, .bool R.armed, .int .i64 R.left, .bool R.dead]::Tb 9 1 iF v1 R.L::Tb 150 2 wv v2 R.Log::L)):Sat W w (dz pw pe S gs::aW pe R::L):=by
 have H:=dz.mk h;have h3:=aW.mk (H.re [1,2,3,0]);exact h3.bW
theorem amE {pw pe:Nat} {S:aK} {gs:List Nat} (O:Sat W w (dz pw pe S gs::L)) (hX:iH S.aB) (hne:gs≠[]) (hlow:15*(gs.length-1)<=S.recs.length) (hl:S.last=S.recs.length-15*(gs.length-1)) (hb:S.recs.length<=900000):
  Calls Tryz.prog 120 #[.pointer (some ⟨pw,0,none⟩)] w fun e w'=>e= .returned (.int .i64 ((S.last:Nat):Int))/\Sat W w' (dz pw pe S gs::L):=by
 obtain⟨fv,r,g,O⟩:=dz.open O
 obtain⟨ar,cr,rfl,_⟩:=O.fA (k:=2) rfl;obtain⟨ag,cg,rfl,_⟩:=O.mg (k:=3) rfl;have G4:=Z (IC (pd:=pe) (s:=S.sup) (fv:=fv) (r:= .slice ar S.recs.length cr) (last:= .slice ag gs.length cg) hX);have G5:=Z (KZ (pd:=pe) (s:=S.sup) (fv:=fv) (r:= .slice ar S.recs.length cr) (last:= .slice ag gs.length cg) hX);have HM:=Z (fun w h=>dz.mk (W:=W) (w:=w) (L:=L) (pw:=pw) (pe:=pe) (S:=S) (gs:=gs) (fv:=fv) (r:= .slice ar S.recs.length cr) (g:= .slice ag gs.length cg) h);have hp:=List.length_pos_iff.2 hne;obtain⟨kN,hV⟩:=au (bE pe S.sup fv S.aB (.slice ar S.recs.length cr) (.slice ag gs.length cg));obtain⟨a,ha⟩:=au S.recs.length;obtain⟨b,hb2⟩:=au gs.length;have HV:=Z (show(a:Int)-15*((b:Int)-1)=((S.last:Nat):Int) by rw[ha,hb2] at hl;rw[ha,hb2] at hlow;omega);rw[hV] at O G4 G5 HM;rw[ha] at G4 hb hlow;rw[hb2] at G5 hp hlow;have b1:(1:Int)<=(b:Int):=by omega
 have b2:(b:Int)<=100000:=by omega
 have a1:(a:Int)<=900000:=by omega
 clear hV ha hb2 hl hlow hb hp hne;go_enter Tryz.func120,Tryz.ntmps120;go_wp2
 (refine cB (pO [0,1,2]<|rO [3]<|pO [4,5,6,7]<|rO [8]<|pO [9]<|wO [10,11,12]<|pO [13]<| .e) [] O ?_;clear O;intro J O)
 repeat (first
  |(refine bG O ?_;go_frame)
  |(refine mR O ?_;go_frame;try simp(disch:=omega) only[IntWalk.i64_in])
  |(refine bR O ?_;(first
   |refine bK aa G4.F ?_
   |refine bK aa G5.F ?_);go_frame))
 refine bO ?_;go_wp2;go_ret;exact⟨by rw[HV.F];rfl,HM.F _ O⟩
theorem abw {pw pe:Nat} {S:aK} {gs:List Nat} (O:Sat W w (dz pw pe S gs::L)) (hX:iH S.aB) (hne:gs≠[]) (hlow:15*(gs.length-1)<=S.recs.length) (hl:S.last=S.recs.length-15*(gs.length-1)) (hb:S.recs.length<=900000) (h15:S.last<=15) (n:Nat) (hn:n<=1000):
  Calls Tryz.prog 88 #[.pointer (some ⟨pw,0,none⟩), .int .i64 (n:Int)] w fun e w'=>e= .returned (.int .i64 (((n+S.last-1) / 15:Nat):Int))/\Sat W w' (dz pw pe S gs::L):=by
 have HT:=Z (amE O hX hne hlow hl hb);obtain⟨m,hm⟩:=au S.last;rw[hm] at HT h15 ⊢;have hq:Int.tdiv ((m:Int)+(n:Int)+14) 15=((m+n+14) / 15:Nat):=by rw[Int.tdiv_eq_ediv_of_nonneg (by omega)];omega
 obtain⟨q,hqq⟩:=au ((m+n+14) / 15);rw[hqq] at hq;have HV:=Z (show max 0 ((q:Int)-1)=(((n+m-1) / 15:Nat):Int) by omega);have q1:(q:Int)<=100:=by omega
 have m1:(m:Int)<=15:=by omega
 have n1:(n:Int)<=1000:=by omega
 clear hqq hm hl hlow hb hne h15 hn O;go_enter Tryz.func88,Tryz.ntmps88
 go_wp2_with (go_at_call 120;refine HT.F.mono ?_;rintro e J ⟨rfl,O⟩)
 go_ret;exact⟨by rw[HV.F];rfl,O⟩
theorem amm {pw pe n:Nat} {S:aK} {gs:List Nat} {R:dh} (O:Sat W w (dz pw pe S gs::aW pe R::L)) (hn:R.L.length=n) (I:n<=1024):
  Calls Tryz.prog 69 #[.pointer (some ⟨pw,0,none⟩)] w fun e w'=>e= .returned (.int .i64 (((bT S.U n).length:Nat):Int))/\Sat W w' (dz pw pe S gs::aW pe R::L):=by
 obtain⟨fv,r,g,v1,v2,O⟩:=Iu O
 obtain⟨b,off,c,rfl,_⟩:∃b off c,fv= .slice (some ⟨b,off,none⟩) 128 c/\128<=c:=by
  have hk:=O.bW;unfold IsMap at hk;exact hk.kV (k:=0) rfl (by decide)
 obtain⟨iI,gF,rfl,_⟩:=O.fA (k:=5) rfl;rw[hn] at O;have G2:=Z (KY (pd:=pe) (s:=S.sup) (fv:= .slice (some ⟨b,off,none⟩) 128 c) (X:=S.aB) (r:=r) (last:=g));have G0:=Z (show(bE pe S.sup (.slice (some ⟨b,off,none⟩) 128 c) S.aB r g)[0]? =some (.pointer (some ⟨pe,0,none⟩)) from rfl);have HM:=Z (fun w h=>FH (W:=W) (w:=w) (L:=L) (pw:=pw) (pe:=pe) (S:=S) (gs:=gs) (R:=R) (fv:= .slice (some ⟨b,off,none⟩) 128 c) (r:=r) (g:=g) (v1:= .slice iI n gF) (v2:=v2) h);obtain⟨kN,hV⟩:=au (bE pe S.sup (.slice (some ⟨b,off,none⟩) 128 c) S.aB r g);rw[hV] at O HM G2 G0;have HF:=Z (fun w (h:Sat W w (Cs pw 96 kN::IsMap (.slice (some ⟨b,off,none⟩) 128 c) S.U::Tb 100 3 rv r S.recs::Ir g gs::Cs pe 68 [.slice iI n gF,v2, .bool R.armed, .int .i64 R.left, .bool R.dead]::Tb 9 1 iF (.slice iI n gF) R.L::Tb 150 2 wv v2 R.Log::L))=>abG h S.U b off c n I (qy hz1));have n1:(n:Int)<=1024:=by omega
 clear hV hn I;go_enter Tryz.func69,Tryz.ntmps69;go_wp2
 (refine cB (pO [0,1,2]<|rO [3]<|pO [4,5,6]<|rO [7]<|pO [8,9]<|rO [10]<|pO [11]<|aO [12]<|pO [13,14]<| .e) [] O ?_;clear O;intro J O)
 repeat (first
  |(refine bG O ?_;go_frame)
  |(refine bR O ?_;(first
   |refine bK aa G2.out ?_
   |refine bK aa G0.F ?_
   |refine rM fD ?_);go_frame)
  |(refine bY fun K hK=>?_;(refine cK (HF.F _ O) ?_;clear O;rintro e J ⟨vf,rfl,O⟩;obtain⟨af,cf,rfl,_⟩:=O.mg (k:=0) rfl;refine⟨_,rfl,?_⟩);refine hK.go O ?_;clear hK K;go_frame))
 refine bO ?_;go_wp2;go_ret;exact⟨rfl,HM.F _ O.drop⟩
def C9 (S:aK) (n:Nat) (r p:Int):Bool:=decide (0<=r/\r<=60/\0<=p/\p+(((r.toNat+S.last-1) / 15:Nat):Int)+4<=(((bT S.U n).length:Nat):Int))
theorem amk {pw pe n:Nat} {S:aK} {gs:List Nat} {R:dh} (O:Sat W w (dz pw pe S gs::aW pe R::L)) (hX:iH S.aB) (hne:gs≠[]) (hlow:15*(gs.length-1)<=S.recs.length) (hl:S.last=S.recs.length-15*(gs.length-1)) (hb:S.recs.length<=900000) (h15:S.last<=15)
  (hn:R.L.length=n) (I:n<=1024) (r p:Int):
  Calls Tryz.prog 45 #[.pointer (some ⟨pw,0,none⟩), .int .i64 r, .int .i64 p] w fun e w'=>e= .returned (.bool (C9 S n r p))/\Sat W w' (dz pw pe S gs::aW pe R::L):=by
 have HF:=Z (fun w (h:Sat W w (dz pw pe S gs::aW pe R::L))=>amm h hn I);have HM:=Z (fun w (h:Sat W w (dz pw pe S gs::aW pe R::L)) m hm=>abw h hX hne hlow hl hb h15 m hm);have hfl:=M8 S.U n;have mO:C9 S n r p=decide (0<=r/\r<=60/\0<=p/\p+(((r.toNat+S.last-1) / 15:Nat):Int)+4<=(((bT S.U n).length:Nat):Int)):=rfl;obtain⟨f,hf⟩:=au ((bT S.U n).length);rw[hf] at HF hfl mO;have f1:(f:Int)<=1024:=by omega
 clear hX hne hlow hl hb hn
 by_cases c1:r<0
 ·have e1:decide (r<0)=true:=bL c1;rw[mO,bf (by omega)];clear c1 mO hf;go_enter Tryz.func45,Tryz.ntmps45;go_wp2;go_ret;exact⟨rfl,O⟩
 have e1:decide (r<0)=false:=bf c1
 by_cases c2:60<r
 ·have e2:decide (60<r)=true:=bL c2;rw[mO,bf (by omega)];clear c1 c2 mO hf;go_enter Tryz.func45,Tryz.ntmps45;go_wp2;go_ret;exact⟨rfl,O⟩
 have e2:decide (60<r)=false:=bf c2
 by_cases c3:p<0
 ·have e3:decide (p<0)=true:=bL c3;rw[mO,bf (by omega)];clear c1 c2 c3 mO hf;go_enter Tryz.func45,Tryz.ntmps45;go_wp2;go_ret;exact⟨rfl,O⟩
 have e3:decide (p<0)=false:=bf c3
 by_cases c4:1024<p
 ·have e4:decide (1024<p)=true:=bL c4;rw[mO,bf (by omega)];clear c1 c2 c3 c4 mO hf;go_enter Tryz.func45,Tryz.ntmps45;go_wp2;go_ret;exact⟨rfl,O⟩
 have e4:decide (1024<p)=false:=bf c4;obtain⟨m,rfl⟩:∃m:Nat,r=(m:Int):=⟨r.toNat,by omega⟩;have Bh:=Z (fun w h=>HM.F w h m (by omega));rw[fu] at mO;obtain⟨q,hq⟩:=au ((m+S.last-1) / 15);rw[hq] at Bh mO;have q1:(q:Int)<=100:=by omega
 have e5:decide ((60:Int)< (m:Int))=false:=e2;have e6:decide (60<m)=false:=bf (by omega);have p1:0<=p:=by omega
 have p2:p<=1024:=by omega
 have hv:C9 S n (m:Int) p=decide ((q:Int)+p+4<=(f:Int)):=by
  rw[mO];refine decide_eq_decide.2 ?_
  constructor
  ·rintro⟨_,_,_,h⟩;omega
  ·intro h;exact⟨by omega,by omega,by omega,by omega⟩
 rw[hv];clear c1 c2 c3 c4 mO hf hq HM hv h15;go_enter Tryz.func45,Tryz.ntmps45
 go_wp2_with (first
  |(go_at_call 88;refine ak (Bh.F _ O) ?_;clear O;intro J O)
  |(go_at_call 69;refine ak (HF.F _ O) ?_;clear O;intro J O))
 go_ret;exact⟨rfl,O⟩
theorem aqj {pw pe:Nat} {S:aK} {gs:List Nat} {R:dh} (O:Sat W w (dz pw pe S gs::aW pe R::L)) (hX:iH S.aB) (hB:∀b∈R.L,b.length=128) (hD:R.L.length<=1024) (i k:Nat) {x:aL} (V:S.aB[i]? =some x) {p:Int} (hp:x.ptrs[k]? =some p)
  (hr:p≠0->0<=p/\p<R.L.length):
  Calls Tryz.prog 71 #[.pointer (some ⟨pw,0,none⟩), .int .i64 (i:Int), .int .i64 (k:Int)] w fun e w'=>∃v,e= .returned v/\Sat W w' (Sl 5 1 v 128 (bv (Bw R.L p))::dz pw pe S gs::aW pe R::L):=by
 obtain⟨fv,r,g,v1,v2,O⟩:=Iu O;have hi:i<48:=by have:=(bZ.1 V).1;rw[hX.len] at this;exact this
 have hk:k<32:=by have:=(bZ.1 hp).1;rw[(hX.ok x (bJ V)).pl] at this;exact this
 have GP:=Z (show(bE pe S.sup fv S.aB r g)[9+i*37+5+k]? =some (.int .i64 p) by
  have I:=acw (pd:=pe) (s:=S.sup) (fv:=fv) (r:=r) (last:=g) hX V
  have H:(((bE pe S.sup fv S.aB r g).drop (9+i*37+5)).take 32)[k]? =some (.int .i64 p):=by
   rw[I];simp[pv,hp]
  rw[List.getElem?_take_of_lt hk,List.getElem?_drop] at H
  exact H)
 have G0:=Z (show(bE pe S.sup fv S.aB r g)[0]? =some (.pointer (some ⟨pe,0,none⟩)) from rfl);have HM:=Z (fun w L v1 h=>FH (W:=W) (w:=w) (L:=L) (pw:=pw) (pe:=pe) (S:=S) (gs:=gs) (R:=R) (fv:=fv) (r:=r) (g:=g) (v1:=v1) (v2:=v2) h);obtain⟨kN,hV⟩:=au (bE pe S.sup fv S.aB r g);rw[hV] at O HM GP G0;have i1:(i:Int)<48:=by omega
 have k1:(k:Int)<32:=by omega
 clear hV V hX hi hk hp
 by_cases h0:p=0
 ·subst h0;rw[show Bw R.L 0=zeros 128 from rfl];clear hr hB hD;go_enter Tryz.func71,Tryz.ntmps71
  go_wp2_with (first
   |(refine bB O ?_ (hk:=aa) (hv:=by first|exact GP.F|(rw[<-GP.F];congr 1;omega)))
   |(refine aU ?_;refine mk O _ _ _ (by rfl) 128 128 _ _ (by rfl) (by rfl) (bS (by rfl)) (by omega) (by omega) (by omega) ?_;clear O;intro pb J O;rw[zA] at O))
  go_ret;exact⟨_,rfl,(HM.F _ _ _ ((MR O (n:=128) (by simp[zeros,bv]) (by decide)).re [1,2,3,4,5,6,7,0])).re [2]⟩
 ·obtain⟨q,rfl⟩:∃q:Nat,p=(q:Int):=⟨p.toNat,by have:=hr h0;omega⟩;have hq:=hr h0;have oF:q<R.L.length:=by omega
  obtain⟨d,hd⟩:∃d,R.L[q]? =some d:=⟨_,aR oF⟩
  have LG:=Z hd;have hdl:=hB d (bJ hd);have mW:=Z hdl;have JS:Bw R.L (q:Int)=d:=by unfold Bw;rw[if_neg h0,fu,hd];rfl
  rw[JS];obtain⟨Ey,Fs,gF,rfl,_⟩:=O.pX (k:=5) rfl (by omega);have e1:((q:Int)==0)=false:=dH.2 h0;have n1:(q:Int)< (R.L.length:Int):=by omega
  have n2:(R.L.length:Int)<=1024:=by omega
  clear hr hB hD h0 hq oF hd hdl JS;go_enter Tryz.func71,Tryz.ntmps71
  go_wp2_with (first
   |(refine bB O ?_ (hk:=aa) (hv:=by first|exact GP.F|exact G0.F|(rw[<-GP.F];congr 1;omega)))
   |(refine bB O ?_ (hk:=fD))
   |(refine aU ?_;refine mh O _ _ (by rfl) _ _ (by rfl) (aI (by rfl)) vk q 0 (by omega) LG.F (by rfl) ?_)
   |(refine aU ?_;refine yw O _ _ _ (by rfl) d (by rfl) yo (by rw[mW.F];decide) ?_;clear O;intro qb cq J O))
  go_ret;refine⟨_,rfl,?_⟩;rw[<-mW.F];exact(HM.F _ _ _ (O.re [1,2,3,4,5,6,7,0])).re [2]
def uK (D:aG) (R:dh) (g:G2):dh:=if gT D.blocks.length g then mr D R (jA g) else R
theorem TK {D:aG} {R:dh} (h:Rel D R) (g:G2):Rel (jm D g).2 (uK D R g):=by
 unfold jm uK
 cases gT D.blocks.length g with
 |true=>exact h.run _
 |false=>exact h
def Er (W:World) (L:List aA) (pw pe:Nat) (gs:List Nat) (r:Int×aK×aG) (e:Ending) (w':World):Prop:=e= .returned (.int .i64 r.1)/\∃R',Rel r.2.2 R'/\Sat W w' (dz pw pe r.2.1 gs::aW pe R'::L)
theorem amw {pw pe k:Nat} {S:aK} {gs:List Nat} {D:aG} {R:dh} (O:Sat W w (dz pw pe S gs::aW pe R::L)) (hR:Rel D R) (hD:DG D k) (hk:k<=90000) (hs:eQ S.sup=true):
  Calls Tryz.prog 47 #[.pointer (some ⟨pw,0,none⟩)] w fun e w'=>Er W L pw pe gs (pR S D) e w':=by
 obtain⟨s',he⟩:=au (zM S.sup);obtain⟨fv,r,g,O⟩:=dz.open O
 obtain⟨hm1,hm2⟩:=aaW hs;have nJ:=Z (Ur (pd:=pe) (s:=S.sup) (fv:=fv) (X:=S.aB) (r:=r) (last:=g));have HST:=Z (Pf (pd:=pe) (s:=S.sup) (s':=s') (fv:=fv) (X:=S.aB) (r:=r) (last:=g));have G0:=Z (show(bE pe S.sup fv S.aB r g)[0]? =some (.pointer (some ⟨pe,0,none⟩)) from rfl);have HM:=Z (fun w L h=>dz.mk (W:=W) (w:=w) (L:=L) (pw:=pw) (pe:=pe) (S:= {S with sup:=s'}) (gs:=gs) (fv:=fv) (r:=r) (g:=g) h);have CF:=Z (fun w L h=>dz.mk (W:=W) (w:=w) (L:=L) (pw:=pw) (pe:=pe) (S:=S) (gs:=gs) (fv:=fv) (r:=r) (g:=g) h);have jQ:=Z (lI s');have jK:=Z (show(sv S.sup).set 6 (.int .i64 (S.sup.cZ+1))=sv s' by rw[<-he];rfl);have nX:=Z (show 8<=(bE pe S.sup fv S.aB r g).length by unfold bE;simp[sv]);obtain⟨m,hm⟩:=au S.sup.cZ;have iK:=Z (show(sv S.sup)[6]? =some (.int .i64 m) by rw[<-hm];rfl);rw[hm] at jK;obtain⟨kN,hV⟩:=au (bE pe S.sup fv S.aB r g);rw[hV] at O nJ HST G0 CF nX
 by_cases hfull:16777215<=m
 ·rw[show pR S D=(5,S,D) from if_pos (by rw[hm];exact hfull)];have HR:=Z hR;clear hV he hs hD hm1 hm2 hm;go_enter Tryz.func47,Tryz.ntmps47
  go_wp2_with (first
    |(refine dm O aa (sv S.sup) ?_ (hvs:=nJ.F))
    |(refine dU O ?_;clear O;intro p3 J O;rw[aS] at O)
    |(refine eT (sv S.sup) O aa ?_ (hv:=(lI _));clear O;intro J O;rw[aD] at O)
    |(refine aH O aa iK.F ?_)
    |(refine iA O aa ?_;clear O;intro J O;rw[aD,jK.F] at O))
  go_ret;exact⟨rfl,_,HR.F,CF.F _ _ O.drop⟩
 ·have hs2:eQ s'=true:=by rw[<-he];exact Ut hs (by omega)
  obtain⟨c,D',hc⟩:∃c D',jm D [(0,encS s')]=(c,D'):=⟨_,_,rfl⟩
  have hmr:pR S D=(c,(if c=0 then {S with sup:=s'} else S),D'):=by
   unfold pR;rw[if_neg (by rw[hm];exact hfull),he,hc]
  rw[hmr];have rX:=Z (show Rel D' (uK D R [(0,encS s')]) by have:=TK hR [(0,encS s')];rw[hc] at this;exact this)
  have rY:=Z (fun w L (h:Sat W w L)=>by
   have:=Dy h s';rw[wL hs2] at this
   exact this)
  have iT:=Z (oD s')
  have oQ:=Z (fun w b1 (L:List aA) (h:Sat W w (aW pe R::Cs b1 150 (dS (0,encS s'))::L))=>TM h hR hD hk [(0,encS s')] (some ⟨b1,0,none⟩) 1 (fun w h=>by
   rw[xh]
   exact h.jc (n:=1) (sz:=2) aa (by decide) rfl) (by simp))
  rw[hc] at oQ;obtain⟨es,hes⟩:=au (encS s');rw[hes] at rX rY iT oQ;have m1:m+1<=16777215:=by omega
  have m2: -1<=m:=by omega
  have e0:decide (16777215<=m)=false:=bf hfull;clear hV he hs hD hm1 hm2 hm hs2 hc hmr hes hR;go_enter Tryz.func47,Tryz.ntmps47
  go_wp2_with (first
    |(refine dm O aa (sv S.sup) ?_ (hvs:=nJ.F))
    |(refine dU O ?_;clear O;intro p3 J O;rw[aS] at O)
    |(refine eT (sv S.sup) O aa ?_ (hv:=(lI _));clear O;intro J O;rw[aD] at O)
    |(refine aH O aa iK.F ?_)
    |(refine iA O aa ?_;clear O;intro J O;rw[aD,jK.F] at O))
  (refine cB (pO [0,1,2]<|rO [3,4]<|aO [5]<|rO [6]<|pO [7]<|aO [8,9]<|pO [10]<| .e) [9] O ?_;clear O;intro J O)
  repeat (first
   |(refine bG O ?_;go_frame)
   |(refine bR O ?_;(first
     |refine bK hz1 G0.F ?_
     |refine lY aa (sv s') ?_
     |refine⟨_,xM _ _ _ (by rfl) _ (by rfl) jI (l:=es) (fun u hu=>hu.dY (k:=0) rfl),?_⟩);go_frame)
   |(refine bY fun K hK=>?_;(first
     |(refine cK (rY.F _ _ O) ?_;clear O;rintro e J ⟨vp,rfl,O⟩;refine⟨_,rfl,?_⟩)
     |(refine mJ [.agg (dS (0,es)).toArray] O ?_ (hc:=by simp[dS,Value.cells,gM]);clear O;intro b1 J O;rw[kP] at O)
     |(refine jy (oQ.F _ _ _ (O.re [7,0])) ?_;clear O;intro J O));refine hK.go O ?_;clear hK K;go_frame))
  refine bO ?_;replace O:Sat W _ (_::_::_::Cs p3 55 (sv s')::Cs pw 96 kN::_::_::_::L):=O
  by_cases hc0:c=0
  ·subst hc0
   go_wp2_with (first
    |(refine dm O hz3 (sv s') ?_)
    |(refine kW (sv s') O fD ?_ (hv:=jQ.F) (hb:=by exact nX.F);clear O;intro J O;dsimp only[aD,aN] at O;rw[show 1+(sv s').length=8 from rfl,HST.F] at O))
   go_ret;exact⟨rfl,uK D R [(0,es)],rX.F,((HM.F _ _ (O.re [4,5,6,7,0])).re [2,3,4]).drop.drop.drop⟩
  ·have e1:(c==0)=false:=dH.2 hc0;go_wp2;go_ret;refine⟨rfl,uK D R [(0,es)],rX.F,?_⟩;have xw:Sat W _ (Cs pw 96 kN::IsMap fv S.U::Tb 100 3 rv r S.recs::Ir g gs::aW pe (uK D R [(0,es)])::_::_::_::L):=O.re [4,5,6,7,0];exact((CF.F _ _ xw).re [2,3,4]).drop.drop.drop
end Go.Proofs.YtjbiihbicknemaaGreat
