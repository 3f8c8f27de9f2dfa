/-
  Part of the proof of StorePlays.
-/
import Derived.Test.YtjbiihbicknemaaGreatMDoq
import Derived.ChangeKeysEq
set_option linter.unusedSimpArgs false
set_option linter.unusedVariables false
set_option maxRecDepth 20000
set_option maxHeartbeats 40000000
namespace Go.Proofs.YtjbiihbicknemaaGreat
open Go.RowKit Go.Sep
variable {W w:World} {L:List aA}
attribute [local irreducible] Oper.wp wpList Calls Code.wp Sep.dR
theorem fI {ps:Nat} (O:Sat W w L) {i:Int} (hi:i<0∨48<=i):
  Calls Tryz.prog 50 #[.pointer (some ⟨ps,0,none⟩), .int .i64 i] w fun e w'=>e= .returned (.tuple #[.agg (inv bC).toArray, .bool false])/\Sat W w' L:=by
 rcases hi with I|I
 ·have e1:decide (i<0)=true:=bL I;go_enter Tryz.func50,Tryz.ntmps50
  go_wp2_with (first
    |(refine dU O ?_;clear O;intro p2 J O;rw[aS] at O)
    |(refine eT (inv bC) O aa ?_ (hv:=(inv_one _));clear O;intro J O;dsimp only[aD,aN] at O))
  refine Ae O rfl (by rfl) (aI (by rfl)) (bz (by rfl)) aa rfl rfl ?_;exact⟨rfl,O.drop⟩
 ·have e1:decide (i<0)=false:=bf (by omega);have e2:decide ((48:Int)<=i)=true:=bL I;go_enter Tryz.func50,Tryz.ntmps50
  go_wp2_with (first
    |(refine dU O ?_;clear O;intro p2 J O;rw[aS] at O)
    |(refine eT (inv bC) O aa ?_ (hv:=(inv_one _));clear O;intro J O;dsimp only[aD,aN] at O))
  refine Ae O rfl (by rfl) (aI (by rfl)) (bz (by rfl)) aa rfl rfl ?_;exact⟨rfl,O.drop⟩
theorem FB {ps pd:Nat} {S:aK} (O:Sat W w (bF ps pd S::L)) (hX:iH S.aB) {i k:Int} (hi:i<0∨48<=i∨k<0∨32<=k):
  Calls Tryz.prog 51 #[.pointer (some ⟨ps,0,none⟩), .int .i64 i, .int .i64 k] w fun e w'=>e= .returned (.tuple #[.slice none 0 0, .bool false])/\Sat W w' (bF ps pd S::L):=by
 have hI:∃(x:aL) (ok:Bool),x.ptrs.length=32/\(ok=true->k<0∨32<=k)/\∀w,Sat W w (bF ps pd S::L)->Calls Tryz.prog 50 #[.pointer (some ⟨ps,0,none⟩), .int .i64 i] w fun e w'=>e= .returned (.tuple #[.agg (inv x).toArray, .bool ok])/\Sat W w' (bF ps pd S::L):=by
  by_cases h:i<0∨48<=i
  ·exact⟨bC,false,rfl,(fun h=>by cases h),fun w O=>fI O h⟩
  ·obtain⟨m,rfl⟩:∃m:Nat,i=(m:Int):=⟨i.toNat,by omega⟩;obtain⟨x,V⟩:∃x,S.aB[m]? =some x:=⟨_,aR (by rw[hX.len];omega)⟩
   exact⟨x,true,(hX.ok x (bJ V)).pl,fun _=>by omega,fun w O=>acg O hX m V⟩
 obtain⟨x,ok,hpl,hok,hc⟩:=hI;have HI:=Z hc;have dI:=Z (show(inv x).length=37 by rw[fe,hpl]);have HI1:=Z (inv_one x);obtain⟨iv,dA⟩:=au (inv x);rw[dA] at HI dI HI1
 have hcase:ok=false∨(ok=true/\decide (k<0)=true)∨(ok=true/\decide (k<0)=false/\decide ((32:Int)<=k)=true):=by
  cases ok with
  |false=>exact .inl rfl
  |true=>
   by_cases h:k<0
   ·exact .inr (.inl ⟨rfl,bL h⟩)
   ·exact .inr (.inr ⟨rfl,bf h,bL (by have:=hok rfl;omega)⟩)
 clear hi dA hc hok hpl
 rcases hcase with rfl|⟨rfl,e1⟩|⟨rfl,e1,e2⟩
 all_goals
  go_enter Tryz.func51,Tryz.ntmps51
  go_wp2_with (first
   |(go_at_call 50;refine ak (HI.F _ O) ?_;clear O;intro J O)
   |(refine dU O ?_;clear O;intro p2 J O;rw[aS] at O)
   |(refine eT iv O aa ?_ (hv:=HI1.F) (hn:=by rw[dI.F];exact bz (by rfl)) (hb:=by rw[dI.F];rfl);clear O;intro J O;dsimp only[aD,aN] at O))
  go_ret2
  exact⟨rfl,O.drop⟩
attribute [local irreducible] Sep.fJ
def ax (W:World) (L:List aA) (po pd ps pe pw:Nat) (D:aG) (R:dh) (v1 v2:Value):Act->World->Prop:=(fun(a':Act) (w':World)=>(Sat W w' (Cs po 36 [.pointer (some ⟨pd,0,none⟩), .pointer (some ⟨ps,0,none⟩), .pointer (some ⟨pe,0,none⟩), .pointer (some ⟨pw,0,none⟩)]::aP pd D::Cs pe 68 [v1,v2, .bool R.armed, .int .i64 R.left, .bool R.dead]::Tb 9 1 iF v1 R.L::Tb 150 2 wv v2 R.Log::L))/\xQ 213 [(0, .pointer (some ⟨po,0,none⟩))] a')
def iX (W:World) (M:List aA) (n:Nat) (v3:Value) (wz:World):Prop:=∃i:Nat,v3= .int .i64 (i:Int)/\i<=n/\Sat W wz M
theorem DT {po pd ps pe pw:Nat} {D:aG} {R:dh} (hR:Rel D R) (hl:D.blocks.length<=1024) (hw:D.writes.length<=1000000) {Q:Ending->World->Prop}
  (O:Sat W w (Cs po 36 (vB pd ps pe pw)::aP pd D::aW pe R::L))
  (hT:D.dead=false->∀v1 v2 a w,ax W L po pd ps pe pw D R v1 v2 a w->From Tryz.prog 25 4 Q a w)
  (hD:D.dead=true->∀w,Sat W w (Cs po 36 (vB pd ps pe pw)::aP pd D::aW pe R::L)->Q (.returned (.bool true)) w):
  Calls Tryz.prog 25 #[.pointer (some ⟨po,0,none⟩)] w Q:=by
 obtain⟨v1,v2,hS1⟩:=aW.open (O.re [2,0,1])
 clear O;have O:Sat W w (Cs po 36 [.pointer (some ⟨pd,0,none⟩), .pointer (some ⟨ps,0,none⟩), .pointer (some ⟨pe,0,none⟩), .pointer (some ⟨pw,0,none⟩)]::aP pd D::Cs pe 68 [v1,v2, .bool R.armed, .int .i64 R.left, .bool R.dead]::Tb 9 1 iF v1 R.L::Tb 150 2 wv v2 R.Log::L):=hS1.re [3,4,0,1,2];clear hS1;have iG:=Z (fun w (h:Sat W w (Cs po 36 [.pointer (some ⟨pd,0,none⟩), .pointer (some ⟨ps,0,none⟩), .pointer (some ⟨pe,0,none⟩), .pointer (some ⟨pw,0,none⟩)]::aP pd D::Cs pe 68 [v1,v2, .bool R.armed, .int .i64 R.left, .bool R.dead]::Tb 9 1 iF v1 R.L::Tb 150 2 wv v2 R.Log::L))=>show Sat W w (Cs po 36 (vB pd ps pe pw)::aP pd D::aW pe R::L) from(aW.mk (h.re [2,3,4])).re [1,2,0]);have LG:=Z hD;have gK:=Z (fun h=>hT h v1 v2);have jX:=Z hR.blocks;have jO:=Z hl;obtain⟨m,hm⟩:=au R.L.length;obtain⟨q,hq⟩:=au R.Log.length;have HM:=Z hm;have hm2:m<=1024:=by rw[<-hm,<-hR.blocks];exact hl
 obtain⟨dd,hdd⟩:=au R.dead;have FR:=Z (show D.dead=dd by rw[hR.dead,hdd]);have gW:=Z (fun w (h:Sat W w (Cs po 36 [.pointer (some ⟨pd,0,none⟩), .pointer (some ⟨ps,0,none⟩), .pointer (some ⟨pe,0,none⟩), .pointer (some ⟨pw,0,none⟩)]::aP pd D::Cs pe 68 [v1,v2, .bool R.armed, .int .i64 R.left, .bool R.dead]::Tb 9 1 iF v1 R.L::Tb 150 2 wv v2 R.Log::L))=>adp (n:=(q:Int)) h.bW (by rw[hR.writes,hq]));have LH:=Z (fun w (h:Sat W w (Cs po 36 [.pointer (some ⟨pd,0,none⟩), .pointer (some ⟨ps,0,none⟩), .pointer (some ⟨pe,0,none⟩), .pointer (some ⟨pw,0,none⟩)]::aP pd D::Cs pe 68 [v1,v2, .bool R.armed, .int .i64 R.left, .bool R.dead]::Tb 9 1 iF v1 R.L::Tb 150 2 wv v2 R.Log::L))=>apv h.bW (hR.dead.trans hdd));have iB:=Z (fun w i b (hb:D.blocks[i]? =some b) (h:Sat W w (Cs po 36 [.pointer (some ⟨pd,0,none⟩), .pointer (some ⟨ps,0,none⟩), .pointer (some ⟨pe,0,none⟩), .pointer (some ⟨pw,0,none⟩)]::aP pd D::Cs pe 68 [v1,v2, .bool R.armed, .int .i64 R.left, .bool R.dead]::Tb 9 1 iF v1 R.L::Tb 150 2 wv v2 R.Log::L))=>Oy h.bW i b hb jO.F);obtain⟨al,cl',rfl,_⟩:=O.fA (k:=3) rfl;obtain⟨ag,cg,rfl,_⟩:=O.fA (k:=4) rfl;rw[hm,hq,hdd] at O iG gW LH iB;rw[hm,hq] at gK;have qj:=Z hdd;clear hD hT hR hl hw hm hq hdd;go_enter Tryz.func25,Tryz.ntmps25;refine qP ?_;refine dK (fun KX aF=>?_);go_wp2
 (refine cB (pO [0,1,2]<|rO [3]<|pO [5,6,7]<|rO [8]<|pO [9,10]<|rO [11]<|pO [12]<|aO [4]<|pO [13,14,15,16,17]<|rO [18]<|pO [20,21,22]<|rO [23]<|pO [24,25]<|rO [26]<|aO [19]<|pO [27,28]<| .e) [] O ?_;clear O;intro J O)
 repeat (first
  |(refine bG O ?_;go_frame)
  |(refine sK O ?_;go_frame)
  |(refine bR O ?_;(first
   |refine rM aa ?_
   |refine rM hz2 ?_);go_frame)
  |(refine bY fun K hK=>?_;(first
   |(refine jy (gW.F _ O) ?_;rintro J rfl)
   |(refine jy (LH.F _ O) ?_;rintro J rfl));refine hK.go O ?_;clear hK K;go_frame))
 refine bO ?_;go_wp2;refine aF.F _ _ ?_;clear aF gW LH
 -- the blocks
 refine dK (fun KX aF=>?_);have H0:=Z (show iX W (Cs po 36 [.pointer (some ⟨pd,0,none⟩), .pointer (some ⟨ps,0,none⟩), .pointer (some ⟨pe,0,none⟩), .pointer (some ⟨pw,0,none⟩)]::aP pd D::Cs pe 68 [.slice al m cl', .slice ag q cg, .bool R.armed, .int .i64 R.left, .bool dd]::Tb 9 1 iF (.slice al m cl') R.L::Tb 150 2 wv (.slice ag q cg) R.Log::L) m (.int .i64 0) _ from⟨0,rfl,eG _,O⟩);clear O;go_wp2;go_loopw [3] (fun v3 wz=>iX W (Cs po 36 [.pointer (some ⟨pd,0,none⟩), .pointer (some ⟨ps,0,none⟩), .pointer (some ⟨pe,0,none⟩), .pointer (some ⟨pw,0,none⟩)]::aP pd D::Cs pe 68 [.slice al m cl', .slice ag q cg, .bool R.armed, .int .i64 R.left, .bool dd]::Tb 9 1 iF (.slice al m cl') R.L::Tb 150 2 wv (.slice ag q cg) R.Log::L) m v3 wz) (fun v3 _=>iV m v3)
 case atStart=>exact H0.F
 case round=>
  clear H0;obtain⟨i,rfl,hi,O⟩:=hrel
  by_cases hlt:i<m
  ·have k1:(i:Int)< (m:Int):=by omega
   have ay:=Z hlt;obtain⟨b,hb⟩:∃b,R.L[i]? =some b:=⟨_,aR (by have:=HM.F;omega)⟩
   have mG:=Z hb;have rW:=Z (show D.blocks[i]? =some b by rw[jX.F];exact hb);obtain⟨lb,lo,lc,hal,_⟩:=O.pX (k:=3) rfl (by have:=HM.F;omega);simp only[Value.slice.injEq] at hal;obtain⟨rfl,_,rfl⟩:=hal;have hq1:=aaz b b;have hq2:=aaB b b;clear hlt hi hb
   go_wp2_with (first
    |(refine bB O ?_ (hk:=aa))
    |(refine bB O ?_ (hk:=hz2))
    |(go_at_call 53;refine(iB.F _ i b rW.F O).mono ?_;rintro e J hE;obtain⟨qb,rfl,hbl,hS1⟩:=hE;have pE:=Z hbl;clear hbl;clear O;have O:=hS1;clear hS1;replace O:=O.re [0,2]))
   have HI:=Z (show Has (Cs qb 106 (bv b)::Cs po 36 [.pointer (some ⟨pd,0,none⟩), .pointer (some ⟨ps,0,none⟩), .pointer (some ⟨pe,0,none⟩), .pointer (some ⟨pw,0,none⟩)]::aP pd D::Cs pe 68 [.slice (some ⟨lb,lo,none⟩) m cl', .slice ag q cg, .bool R.armed, .int .i64 R.left, .bool dd]::Tb 9 1 iF (.slice (some ⟨lb,lo,none⟩) m cl') R.L::Tb 150 2 wv (.slice ag q cg) R.Log::L) 4 (Tb 9 1 iF (.slice (some ⟨lb,lo,none⟩) R.L.length cl') R.L) by rw[HM.F];exact fD)
   (refine cB (pO [0]<|rO [1]<|pO [2,3,4]<|rO [5]<|pO [6,7]<|rO [8]<|pO [9]<|tO [10]<|rO [11]<|pO [12]<| .e) [] O ?_;clear O;intro J O)
   repeat (first
    |(refine bG O ?_;go_frame)
    |(refine oI O ?_;apply Exists.intro;apply And.intro;(intro w;first|go_simp;rw[if_pos (by omega)]|(go_simp;try with_reducible rfl));go_frame)
    |(refine bR O ?_;(first
       |refine⟨_,xM _ _ _ (by rfl) _ (by rfl) jI (l:=b) (fun u hu=>hu.jc (n:=128) (sz:=1) aa (by decide) (by rw[jR,pE.F])),?_⟩
       |refine rM hz1 ?_
       |refine rM hz3 ?_
       |refine⟨_,AX _ _ (by rfl) _ _ (by rfl) (aI (by rfl)) HI.F i 0 (by omega) mG.F (by rfl),?_⟩);go_frame))
   refine bO ?_;go_wp2;exact⟨⟨i+1,by go_num,ay.F,O.drop⟩,fZ ay.F⟩
  ·obtain rfl:i=m:=by omega
   have k1:¬(i:Int)< (i:Int):=by omega
   clear hlt hi
   go_wp2_with (first
    |(refine bB O ?_ (hk:=aa))
    |(refine bB O ?_ (hk:=hz2)))
   refine aF.F _ _ ?_;clear aF iB
   cases dd with
   |true=>
    refine dK (fun KX aF=>?_)
    go_wp2_with (first
     |(refine bB O ?_ (hk:=aa))
     |(refine bB O ?_ (hk:=hz2)))
    exact LG.F FR.F _ (iG.F _ O)
   |false=>
    refine pV (ax W L po pd ps pe pw D R (.slice al i cl') (.slice ag q cg)) (fun KX aF=>?_) ?_
    ·go_wp2_with (first
      |(refine bB O ?_ (hk:=aa))
      |(refine bB O ?_ (hk:=hz2)))
     refine aF.F _ _ ?_;unfold ax;exact⟨by rw[qj.F];exact O,rfl⟩
    clear O;exact fun a w h=>(gK.F FR.F a w h).use Tryz.func25 rfl rfl
def aC (W:World) (L:List aA) (po pd ps pe pw:Nat) (S:aK) (D:aG) (gs:List Nat) (R:dh):Act->World->Prop:=(fun(a':Act) (w':World)=>(Sat W w' (Cs po 36 (vB pd ps pe pw)::bF ps pd S::aP pd D::dz pw pe S gs::aW pe R::L))/\xQ 213 [(0, .pointer (some ⟨po,0,none⟩))] a')
theorem xG (u:World) (x:di):(binOp .neq 55 (.agg (sv x).toArray) (.agg (sv x).toArray)).run Tryz.prog u= .ok (.bool false) u:=by
 rw[run_neq_struct,ahz,bL rfl];rfl
section
variable {W w:World} {L M:List aA} {A B:aA} {po pd ps pe pw n:Nat} {S:aK} {gs:List Nat} {D:aG} {R:dh}
theorem Et (O:Sat W w M) {l:List bM} (hn:l.length=n) (ao Mt:Option Addr) (c c':Nat) {i j:Nat} (I:Has M i (Tb 100 3 rv (.slice ao n c) l)) (H:Has M j (Tb 100 3 rv (.slice Mt n c') l)) (hb:n<=1000000):
  Calls Tryz.prog 70 #[.slice ao n c, .slice Mt n c'] w fun e w'=>e= .returned (.bool true)/\Sat W w' M:=by
 subst hn;have HR:=Z (fun u (hu:Sat W u M)=>hu.kK I);have Bj:=Z (fun u (hu:Sat W u M)=>hu.kK H);obtain⟨_,_,he,hc1,hc2,_,h5⟩:=HR.F w O;obtain⟨rfl,rfl⟩:=gq he;obtain⟨_,_,he,hc1',hc2',_,h5'⟩:=Bj.F w O;obtain⟨rfl,rfl⟩:=gq he;have i5:(l.length:Int)<=1000000:=by omega
 have HS:=Z O;clear I H;go_enter Tryz.func70,Tryz.ntmps70;go_wp2;go_loopw [5] (fun vi wz=>∃k:Nat,k<=l.length/\vi= .int .i64 k/\Sat W wz M) (fun vi _=>l.length-(intOf vi).toNat)
 case atStart=>exact⟨0,by omega,rfl,HS.F⟩
 case round=>
  clear O HS;obtain⟨k,hk,rfl,O⟩:=hrel
  by_cases hlt:k<l.length
  ·obtain⟨b,off,rfl,_⟩:=h5 (by omega);obtain⟨b',off',rfl,_⟩:=h5' (by omega);obtain⟨⟨a1,a2,a3⟩,V⟩:∃x,l[k]? =some x:=⟨_,aR hlt⟩
   have HX:=Z V;have j1:(k:Int)< (l.length:Int):=by omega
   clear V h5 h5';go_wp2
   (refine cB (pO [0,1,2]<|rO [3]<|pO [4,5,6]<|rO [7]<|pO [8]<| .e) [] O ?_;clear O;intro J O)
   repeat (first
    |(refine bG O ?_;go_frame)
    |(refine bR O ?_;(first
       |refine⟨.agg #[.int .i64 a1, .int .i64 a2, .int .i64 a3],fun u hu=>nz (f:=rv) (x:=⟨a1,a2,a3⟩) (HR.F _ hu) (wH l) _ _ (by rfl) _ (by rfl) (aI (by rfl)) (bz (by rfl)) k (by omega) HX.F (by omega),?_⟩
       |refine⟨.agg #[.int .i64 a1, .int .i64 a2, .int .i64 a3],fun u hu=>nz (f:=rv) (x:=⟨a1,a2,a3⟩) (Bj.F _ hu) (wH l) _ _ (by rfl) _ (by rfl) (aI (by rfl)) (bz (by rfl)) k (by omega) HX.F (by omega),?_⟩);go_frame))
   refine bO ?_;go_wp2;exact⟨⟨k+1,by omega,by go_num,O⟩,by simp[intOf];omega⟩
  ·obtain rfl:k=l.length:=by omega
   go_wp2;go_ret;exact⟨rfl,O⟩
theorem IP (hn:S.recs.length=n) (O:Sat W w (A::bF ps pd S::M)) (hX:iH S.aB) (hb:n<=900000):
  Calls Tryz.prog 49 #[.pointer (some ⟨ps,0,none⟩)] w fun e w'=>∃a c,e= .returned (.slice a n c)/\Sat W w' (Tb 100 3 rv (.slice a n c) S.recs::A::bF ps pd S::M):=by
 subst hn;refine(acn (O.re [1]) hX hb).mono ?_;rintro e w' ⟨v,rfl,h⟩;obtain⟨a,c,rfl,_⟩:=h.fA (k:=0) aa;exact⟨a,c,rfl,h.re [0,2]⟩
theorem IV (O:Sat W w (A::bF ps pd S::M)) (hX:iH S.aB):
  Calls Tryz.prog 23 #[.pointer (some ⟨ps,0,none⟩)] w fun e w'=>e= .returned (.agg (sv S.sup).toArray)/\Sat W w' (A::bF ps pd S::M):=by
 refine(Ui (O.re [1]) hX).mono ?_;rintro e w' ⟨rfl,h⟩;exact⟨rfl,h.re [1]⟩
theorem FM {f:Nat} (hf:(bT S.U n).length=f) (O:Sat W w (A::bF ps pd S::M)) (hn:S.sup.blocks=(n:Int)) (h0:0<n) (I:n<=1024):
  Calls Tryz.prog 41 #[.pointer (some ⟨ps,0,none⟩)] w fun e w'=>e= .returned (.int .i64 (f:Int))/\Sat W w' (A::bF ps pd S::M):=by
 subst hf;refine(acf (O.re [1]) hn h0 I).mono ?_;rintro e w' ⟨rfl,h⟩;exact⟨rfl,h.re [1]⟩
theorem CV {f:Nat} {fv r g:Value} {kN:List Value} (hf:(bT S.U n).length=f) (hn:R.L.length=n) (I:n<=1024) (hV:bE pe S.sup fv S.aB r g=kN) (O:Sat W w (A::B::Cs pw 96 kN::IsMap fv S.U::aW pe R::L)):
  Calls Tryz.prog 69 #[.pointer (some ⟨pw,0,none⟩)] w fun e w'=>e= .returned (.int .i64 (f:Int))/\Sat W w' (A::B::Cs pw 96 kN::IsMap fv S.U::aW pe R::L):=by
 obtain⟨v1,v2,hS1⟩:=aW.open (O.re [4,2,3,0,1])
 clear O;have O:Sat W w (Cs pw 96 kN::IsMap fv S.U::Cs pe 68 [v1,v2, .bool R.armed, .int .i64 R.left, .bool R.dead]::Tb 9 1 iF v1 R.L::Tb 150 2 wv v2 R.Log::A::B::L):=hS1.re [3,4,0,1,2];clear hS1;have HM:=Z (fun w (h:Sat W w (Cs pw 96 kN::IsMap fv S.U::Cs pe 68 [v1,v2, .bool R.armed, .int .i64 R.left, .bool R.dead]::Tb 9 1 iF v1 R.L::Tb 150 2 wv v2 R.Log::A::B::L))=>show Sat W w (A::B::Cs pw 96 kN::IsMap fv S.U::aW pe R::L) from(aW.mk (h.re [2,3,4])).re [3,4,1,2,0])
 obtain⟨b,off,c,rfl,_⟩:∃b off c,fv= .slice (some ⟨b,off,none⟩) 128 c/\128<=c:=by
  have hk:=O.bW;unfold IsMap at hk;exact hk.kV (k:=0) rfl (by decide)
 obtain⟨iI,gF,rfl,_⟩:=O.fA (k:=3) rfl;rw[hn] at O HM;have G2:=Z (show kN[8]? =some (.slice (some ⟨b,off,none⟩) 128 c) by rw[<-hV];exact KY);have G0:=Z (show kN[0]? =some (.pointer (some ⟨pe,0,none⟩)) by rw[<-hV];rfl);have HF:=Z (fun w (h:Sat W w (Cs pw 96 kN::IsMap (.slice (some ⟨b,off,none⟩) 128 c) S.U::Cs pe 68 [.slice iI n gF,v2, .bool R.armed, .int .i64 R.left, .bool R.dead]::Tb 9 1 iF (.slice iI n gF) R.L::Tb 150 2 wv v2 R.Log::A::B::L))=>abG h S.U b off c n I (qy hz1));have n1:(n:Int)<=1024:=by omega
 subst hf;clear hV hn I;go_enter Tryz.func69,Tryz.ntmps69;go_wp2
 (refine cB (pO [0,1,2]<|rO [3]<|pO [4,5,6]<|rO [7]<|pO [8,9]<|rO [10]<|pO [11]<|aO [12]<|pO [13,14]<| .e) [] O ?_;clear O;intro J O)
 repeat (first
  |(refine bG O ?_;go_frame)
  |(refine bR O ?_;(first
   |refine bK aa G2.out ?_
   |refine bK aa G0.F ?_
   |refine rM hz2 ?_);go_frame)
  |(refine bY fun K hK=>?_;(refine cK (HF.F _ O) ?_;clear O;rintro e J ⟨vf,rfl,O⟩;obtain⟨af,cf,rfl,_⟩:=O.mg (k:=0) rfl;refine⟨_,rfl,?_⟩);refine hK.go O ?_;clear hK K;go_frame))
 refine bO ?_;go_wp2;go_ret;exact⟨rfl,HM.F _ O.drop⟩
end
theorem DV {po pd ps pe pw:Nat} {S:aK} {gs:List Nat} {D:aG} {R:dh} {v1 v2:Value} (hok:bA D.blocks S gs) (hR:Rel D R) {Q:Ending->World->Prop} {a:Act}
  (hinv:ax W (bF ps pd S::dz pw pe S gs::L) po pd ps pe pw D R v1 v2 a w)
  (hT:∀a w,aC W L po pd ps pe pw S D gs R a w->From Tryz.prog 25 5 Q a w):From Tryz.prog 25 4 Q a w:=by
 have HT:=Z hT
 have hrl:S.recs.length<=15360:=by
  have:=hok.high;have:=hok.Ai;omega
 have HX:=Z hok.x;have gB:=Z hR.blocks;have HB:=Z hok.blocks;have hn1:=hok.n1;have hn2:=hok.n2;refine From.intro Tryz.func25 rfl ?_;unfold ax at hinv;obtain⟨hrel,ha⟩:=hinv;obtain⟨z,hz⟩:∃z:Nat->Value,∀i,a.tmps.getD i undef=z i:=⟨_,fun _=>rfl⟩
 try simp only[hz] at hrel
 replace ha:=ha.at hz;simp only[mM,lh] at ha;clear hz;subst ha;have hS1:=aW.mk (hrel.re [2,3,4]);clear hrel;obtain⟨fv,r,g,hS2⟩:=dz.open (hS1.re [4])
 clear hS1;obtain⟨ar,cr,rfl,_⟩:=hS2.fA (k:=2) rfl;obtain⟨n,hn⟩:=au S.recs.length;obtain⟨m,hm⟩:=au D.blocks.length;obtain⟨f,hf⟩:=au ((bT S.U m).length);have G4:=Z (IC (pd:=pe) (s:=S.sup) (fv:=fv) (r:= .slice ar S.recs.length cr) (last:=g) HX.F);have GS:=Z (Ur (pd:=pe) (s:=S.sup) (fv:=fv) (X:=S.aB) (r:= .slice ar S.recs.length cr) (last:=g));rw[hn] at hS2 G4 GS;obtain⟨kN,hV⟩:=au (bE pe S.sup fv S.aB (.slice ar n cr) g);have HV:=Z hV;rw[hV] at hS2 G4 GS;have O:Sat W w (Cs po 36 [.pointer (some ⟨pd,0,none⟩), .pointer (some ⟨ps,0,none⟩), .pointer (some ⟨pe,0,none⟩), .pointer (some ⟨pw,0,none⟩)]::bF ps pd S::Cs pw 96 kN::IsMap fv S.U::aW pe R::Tb 100 3 rv (.slice ar n cr) S.recs::Ir g gs::aP pd D::L):=hS2.re [5,7,0,1,4,2,3,6];clear hS2;have iG:=Z (fun w (h:Sat W w (Cs po 36 [.pointer (some ⟨pd,0,none⟩), .pointer (some ⟨ps,0,none⟩), .pointer (some ⟨pe,0,none⟩), .pointer (some ⟨pw,0,none⟩)]::bF ps pd S::Cs pw 96 kN::IsMap fv S.U::aW pe R::Tb 100 3 rv (.slice ar n cr) S.recs::Ir g gs::aP pd D::L))=>show Sat W w (Cs po 36 (vB pd ps pe pw)::bF ps pd S::aP pd D::dz pw pe S gs::aW pe R::L) from(dz.mk (by rw[HV.F];exact h.re [2,3,5,6])).re [1,2,4,0,3]);have iD:=Z (fun w A M (h:Sat W w (A::bF ps pd S::M))=>IV h HX.F);have Vh:=Z (fun w A M (h:Sat W w (A::bF ps pd S::M))=>FM hf h (by rw[HB.F,hm]) (by omega) (by omega));have Ma:=Z (fun w A B M (h:Sat W w (A::B::Cs pw 96 kN::IsMap fv S.U::aW pe R::M))=>CV hf (by rw[<-gB.F];exact hm) (by omega) hV h);have oQ:=Z (fun w A M (h:Sat W w (A::bF ps pd S::M))=>IP hn h HX.F (by omega));have CJ:=Z (fun w a c A B C E oL M (h:Sat W w (Tb 100 3 rv (.slice a n c) S.recs::A::B::C::E::oL::Tb 100 3 rv (.slice ar n cr) S.recs::M))=>Et h hn a ar c cr aa BN (by omega));have q1:=fun u=>xG u S.sup
 clear hok hR hT hrl hn1 hn2 hn hm hf hV;refine pV (aC W L po pd ps pe pw S D gs R) (fun KX aF=>?_) (fun a w h=>(HT.F a w h).use Tryz.func25 rfl rfl);go_wp2
 (refine cB (pO [0,1,2]<|rO [3]<|pO [5,6,7]<|rO [8]<|pO [9,10]<|rO [11]<|aO [4]<|pO [12,13,14,15,16]<|rO [17]<|pO [19,20,21]<|rO [22]<|aO [18,23]<|pO [24,25,26,27,28,29]<|rO [30]<|pO [32,33,34]<|rO [35]<|pO [36,37]<|rO [38]<|aO [31,39]<|pO [40,41]<| .e) [] O ?_;clear O;intro J O)
 repeat (first
  |(refine bG O ?_;go_frame)
  |(refine sK O ?_;go_frame)
  |(refine bR O ?_;(first
   |refine rM aa ?_
   |refine bK hz2 G4.F ?_
   |refine lY hz2 (sv S.sup) ?_ (hvs:=GS.F));go_frame)
  |(refine bY fun K hK=>?_;(first
   |(refine jy (iD.F _ _ _ O) ?_;clear O;intro J O)
   |(refine jy (Vh.F _ _ _ O) ?_;clear O;intro J O)
   |(refine jy (Ma.F _ _ _ _ O) ?_;clear O;intro J O)
   |(refine cK (oQ.F _ _ _ O) ?_;clear O;rintro e J ⟨a6,c6,rfl,O⟩;refine⟨_,rfl,?_⟩)
   |(refine jy (CJ.F _ _ _ _ _ _ _ _ _ O) ?_;clear O;intro J O));refine hK.go O ?_;clear hK K;go_frame))
 refine bO ?_;go_wp2;refine aF.F _ _ ?_;unfold aC;exact⟨iG.F _ O.drop,rfl⟩
theorem vJ (a b:List UInt8) (w:World):(binOp .neq 9 (.string ⟨a.toArray⟩) (.string ⟨b.toArray⟩)).run Tryz.prog w= .ok (.bool (!(a==b))) w:=aay a b w
theorem wu (a b:List UInt8) (x y:Operand) (w:World):(eqGuard .neq 9 x y (.string ⟨a.toArray⟩) (.string ⟨b.toArray⟩)).run Tryz.prog w= .ok () w:=by simp[eqGuard]
theorem cell1 {α:Type} {l:List α} {n:Nat} (h:l.length=n+1):∃a t,l=a::t/\t.length=n:=by
 cases l with
 |nil=>simp at h
 |cons a t=>exact⟨a,t,rfl,by simpa using h⟩
theorem lF (d:Nat) {l:List Int} (u:World):∀is:List Nat,(∀i∈is,i<l.length)->(Op.eqItems (d+1) 3 1 (pv l).toArray (pv l).toArray is).run Tryz.prog u= .ok true u
 |[],_=>by simp[Op.eqItems]
 |i::is,h=>by
  have hi:=h i (List.mem_cons_self ..);have e:(pv l).toArray[i*1]? =some (.int .i64 l[i]):=by simp[pv,hi]
  have e2:=run_part_plain (P:=Tryz.prog) u (e:=3) (by kernel_rfl) e;have e3:=run_equalIn_int (P:=Tryz.prog) u d 3 .i64 .i64 l[i] l[i] Tryz.underlying3;simp only[Op.eqItems,Sem.run_bind,e2,e3,Result.andThen_ok,beq_self_eq_true,Bool.not_true,Bool.false_eq_true,if_false];exact lF d u is fun j hj=>h j (List.mem_cons_of_mem _ hj)
theorem uG (u:World) {l:List Int} (hl:l.length=32):(Op.equalIn 9999 76 (.agg (pv l).toArray) (.agg (pv l).toArray)).run Tryz.prog u= .ok true u:=by
 obtain⟨i,hi⟩:∃i,Tryz.prog.info? 3=some i:=⟨_,rfl⟩;rw[run_equalIn_array u 9998 _ _ Tryz.underlying76 hi,show Tryz.prog.cellsOf 3=1 by kernel_rfl];exact lF 9997 u _ fun i hi=>by rw[hl];exact jD.1 hi
theorem uF (u:World) (x:aL) (V:x.ptrs.length=32):(Op.equalIn 10000 78 (.agg (inv x).toArray) (.agg (inv x).toArray)).run Tryz.prog u= .ok true u:=by
 obtain⟨k,z,l,o,nd,ps⟩:=x;dsimp only at V;have hp:=fun u=>uG u V
 iterate 32 (have I:=cell1 V;clear V;obtain⟨_,_,rfl,V⟩:=I)
 obtain rfl:=yZ.1 V;unfold inv;unfold pv at hp ⊢;simp only[jN,List.map_nil,dB,iP] at hp ⊢;go_simp
theorem xz (u:World) (x:aL) (V:x.ptrs.length=32):(binOp .neq 78 (.agg (inv x).toArray) (.agg (inv x).toArray)).run Tryz.prog u= .ok (.bool false) u:=by
 rw[run_neq_struct,uF u x V];rfl
def aJ (v:Value):Nat:=(60-intOf v).toNat
theorem aj {i j:Int} (h:i<j) (H:i<60):aJ (.int .i64 j)<aJ (.int .i64 i):=by
 show(60-j).toNat< (60-i).toNat;omega
def iq (W:World) (M:List aA) (v:Value) (wz:World):Prop:=∃i:Int,v= .int .i64 i/\ -1<=i/\i<=49/\Sat W wz M
def aV (W:World) (M:List aA) (v:Value) (wz:World):Prop:=∃i:Int,v= .int .i64 i/\ -1<=i/\i<=43/\Sat W wz M
section
variable {W w:World} {L M:List aA} {A B C E:aA} {po pd ps pe pw n:Nat} {S:aK} {gs:List Nat} {D:aG} {R:dh}
theorem Im (O:Sat W w (A::bF ps pd S::M)) (hX:iH S.aB) (i:Nat) {x:aL} (V:S.aB[i]? =some x):
  Calls Tryz.prog 50 #[.pointer (some ⟨ps,0,none⟩), .int .i64 (i:Int)] w fun e w'=>e= .returned (.tuple #[.agg (inv x).toArray, .bool true])/\Sat W w' (A::bF ps pd S::M):=by
 refine(acg (O.re [1]) hX i V).mono ?_;rintro e w' ⟨rfl,h⟩;exact⟨rfl,h.re [1]⟩
theorem fH (O:Sat W w (A::bF ps pd S::M)) (hX:iH S.aB) {i k:Int} (hi:i<0∨48<=i∨k<0∨32<=k):
  Calls Tryz.prog 51 #[.pointer (some ⟨ps,0,none⟩), .int .i64 i, .int .i64 k] w fun e w'=>e= .returned (.tuple #[.slice none 0 0, .bool false])/\Sat W w' (A::bF ps pd S::M):=by
 refine(FB (O.re [1]) hX hi).mono ?_;rintro e w' ⟨rfl,h⟩;exact⟨rfl,h.re [1]⟩
theorem eu (hok:bA D.blocks S gs) {i:Nat} {x:aL} (V:S.aB[i]? =some x) {k:Nat} {p:Int} (hp:x.ptrs[k]? =some p) (h0:p≠0):0<=p/\p<D.blocks.length:=by
 have I:=(hok.x.ok x (bJ V)).pt k p hp h0;have H:=(hok.gU p.toNat (nC _ (hok.Aq V (Kg.2 ⟨p,bJ hp,h0,rfl⟩)))).2;omega
theorem Eu (O:Sat W w (A::bF ps pd S::aP pd D::M)) (hok:bA D.blocks S gs) (i k:Nat) {x:aL} (V:S.aB[i]? =some x) {p:Int} (hp:x.ptrs[k]? =some p) {b:List UInt8} (hb:Bw D.blocks p=b):
  Calls Tryz.prog 51 #[.pointer (some ⟨ps,0,none⟩), .int .i64 (i:Int), .int .i64 (k:Int)] w fun e w'=>∃q E,e= .returned (.tuple #[.slice (some ⟨q,0,none⟩) 128 128, .bool true])/\Sat W w' (Cs q E (bv b)::A::bF ps pd S::aP pd D::M):=by
 subst hb;refine(amQ (O.re [1,2]) hok.x hok.n2 i k V hp (eu hok V hp)).mono ?_;rintro e w' ⟨q,rfl,E,h⟩;exact⟨q,E,rfl,h.re [0,3]⟩
theorem BU (O:Sat W w (A::B::C::E::dz pw pe S gs::aW pe R::M)) (hok:bA D.blocks S gs) (hR:Rel D R) (hB:∀b∈D.blocks,b.length=128) (i k:Nat) {x:aL} (V:S.aB[i]? =some x) {p:Int} (hp:x.ptrs[k]? =some p) {b:List UInt8} (hb:Bw D.blocks p=b):
  Calls Tryz.prog 71 #[.pointer (some ⟨pw,0,none⟩), .int .i64 (i:Int), .int .i64 (k:Int)] w fun e w'=>∃a c,e= .returned (.slice a 128 c)/\Sat W w' (Sl 5 1 (.slice a 128 c) 128 (bv b)::A::B::C::E::dz pw pe S gs::aW pe R::M):=by
 subst hb;rw[hR.blocks] at hok hB ⊢
 have hr:p≠0->0<=p/\p<R.L.length:=by
  have:=eu (D:=D) (by rw[hR.blocks];exact hok) V hp;rw[hR.blocks] at this;exact this
 refine(aqj (O.re [4,5]) hok.x hB hok.n2 i k V hp hr).mono ?_;rintro e w' ⟨v,rfl,h⟩;obtain⟨a,o,c,rfl,_⟩:=h.kV (k:=0) aa (by decide);exact⟨_,c,rfl,h.re [0,3,4,5,6]⟩
theorem su (hok:bA D.blocks S gs) (hB:∀b∈D.blocks,b.length=128) {i k:Nat} {x:aL} (V:S.aB[i]? =some x) {p:Int} (hp:x.ptrs[k]? =some p):(Bw D.blocks p).length=128:=by
 unfold Bw
 by_cases h0:p=0
 ·rw[if_pos h0];exact kZ
 ·rw[if_neg h0];have I:=eu hok V hp h0;have H:p.toNat<D.blocks.length:=by omega
  rw[aR H];exact hB _ (List.getElem_mem H)
end
theorem Ep {po pd ps pe pw:Nat} {S:aK} {gs:List Nat} {D:aG} {R:dh} (hok:bA D.blocks S gs) (hR:Rel D R) {Q:Ending->World->Prop} {a:Act}
  (hinv:aC W L po pd ps pe pw S D gs R a w)
  (hT:∀w,Sat W w (Cs po 36 (vB pd ps pe pw)::bF ps pd S::aP pd D::dz pw pe S gs::aW pe R::L)->Q (.returned (.bool true)) w):From Tryz.prog 25 5 Q a w:=by
 have HT:=Z hT;have bq:=Z hok;have HR:=Z hR;clear hok hR hT;refine From.intro Tryz.func25 rfl ?_;unfold aC at hinv;obtain⟨hrel,ha⟩:=hinv;obtain⟨z,hz⟩:∃z:Nat->Value,∀i,a.tmps.getD i undef=z i:=⟨_,fun _=>rfl⟩
 try simp only[hz] at hrel
 replace ha:=ha.at hz;simp only[mM,lh,Nat.reduceAdd,Nat.zero_add] at ha;clear hz;subst ha;have O:Sat W w (Cs po 36 [.pointer (some ⟨pd,0,none⟩), .pointer (some ⟨ps,0,none⟩), .pointer (some ⟨pe,0,none⟩), .pointer (some ⟨pw,0,none⟩)]::bF ps pd S::aP pd D::dz pw pe S gs::aW pe R::L):=hrel;clear hrel;have HB:=Z (show ∀b∈D.blocks,b.length=128 from aP.WI (O.re [2]));refine dK (fun KX aF=>?_);go_wp2;have H0:=Z (show iq W (Cs po 36 [.pointer (some ⟨pd,0,none⟩), .pointer (some ⟨ps,0,none⟩), .pointer (some ⟨pe,0,none⟩), .pointer (some ⟨pw,0,none⟩)]::bF ps pd S::aP pd D::dz pw pe S gs::aW pe R::L) (.int .i64 (-1)) _ from⟨-1,rfl,by decide,by decide,O⟩);clear O;go_loopw [6] (fun v6 wz=>iq W (Cs po 36 [.pointer (some ⟨pd,0,none⟩), .pointer (some ⟨ps,0,none⟩), .pointer (some ⟨pe,0,none⟩), .pointer (some ⟨pw,0,none⟩)]::bF ps pd S::aP pd D::dz pw pe S gs::aW pe R::L) v6 wz) (fun v6 _=>aJ v6)
 case atStart=>exact H0.F
 case round=>
  clear H0;obtain⟨i,rfl,hi0,hi1,O⟩:=hrel
  by_cases hlt:i<=48
  ·by_cases hin:0<=i/\i<48
   ·obtain⟨m,rfl⟩:∃m:Nat,i=(m:Int):=⟨i.toNat,by omega⟩;obtain⟨k1,k2⟩:=hin;obtain⟨x,V⟩:∃x,S.aB[m]? =some x:=⟨_,aR (by rw[bq.F.x.len];omega)⟩
    have dD:=Z V;have hpl:=(bq.F.x.ok x (bJ V)).pl;have eX:=Z hpl;have HI:=Z (fun w A M (h:Sat W w (A::bF ps pd S::M))=>Im h bq.F.x m dD.F);have dI:=Z (show(inv x).length=37 by rw[fe,hpl]);have HI1:=Z (inv_one x);have ai:=Z (fun fv r g=>Un (pd:=pe) (s:=S.sup) (fv:=fv) (r:=r) (last:=g) bq.F.x dD.F);have q1:=fun u=>xz u x hpl
    have oQ:=Z (fun w M (h:Sat W w (dz pw pe S gs::M))=>dz.open h);have zT:=Z (fun w M fv r g (h:Sat W w (Cs pw 96 (bE pe S.sup fv S.aB r g)::IsMap fv S.U::Tb 100 3 rv r S.recs::Ir g gs::M))=>dz.mk h);obtain⟨iv,dA⟩:=au (inv x);rw[dA] at HI dI HI1 ai q1;have HIT:=Z (show(iv.drop 0).take 37=iv by rw[kz];exact dF (by rw[dI.F];exact aZ _));have k3:(m:Int)<=48:=by omega
    clear hi0 hi1 hlt V hpl dA
    go_wp2_with (first
     |(go_at_call 50;refine ak (HI.F _ _ _ O) ?_;clear O;intro J O)
     |(refine bB O ?_ (hk:=aa))
     |(refine dU O ?_;clear O;intro p7 J O;rw[aS] at O)
     |(refine eT iv O aa ?_ (hv:=HI1.F) (hn:=by rw[dI.F];exact bz (by rfl)) (hb:=by rw[dI.F];rfl);clear O;intro J O;dsimp only[aD,aN] at O))
    obtain⟨fv,r,g,hS1⟩:=oQ.F _ _ (O.re [4]);clear O;have O:=hS1;clear hS1;replace ai:=Z (ai.F fv r g);replace zT:=Z (fun w M=>zT.F w M fv r g);obtain⟨kN,hV⟩:=au (bE pe S.sup fv S.aB r g);rw[hV] at O ai zT;clear hV oQ
    (refine cB (pO [0,1,2,3,4,5]<|rO [6]<|pO [7,8,9]<|rO [10]<|pO [11,12,13,14]<|rO [15]<|pO [16,17,18]<| .e) [] O ?_;clear O;intro J O)
    repeat (first
     |(refine bG O ?_;go_frame)
     |(refine sK O ?_;go_frame)
     |(refine bR O ?_;(first
         |refine lY fD iv ?_ (hvs:=HIT.F) (hb:=dI.F)
         |refine lY aa iv ?_ (hvs:=ai.F) (hb:=dI.F)
         |refine rM vk ?_);go_frame))
    refine bO ?_;replace O:=(zT.F _ _ O).re [1,2,3,4,0];have H1:=Z (show aV W (Cs po 36 [.pointer (some ⟨pd,0,none⟩), .pointer (some ⟨ps,0,none⟩), .pointer (some ⟨pe,0,none⟩), .pointer (some ⟨pw,0,none⟩)]::bF ps pd S::aP pd D::dz pw pe S gs::aW pe R::L) (.int .i64 (-1)) _ from⟨-1,rfl,by decide,by decide,O.drop⟩);clear O q1 ai zT HIT dI HI1 HI;go_wp2;go_loopw [10] (fun v10 wz=>aV W (Cs po 36 [.pointer (some ⟨pd,0,none⟩), .pointer (some ⟨ps,0,none⟩), .pointer (some ⟨pe,0,none⟩), .pointer (some ⟨pw,0,none⟩)]::bF ps pd S::aP pd D::dz pw pe S gs::aW pe R::L) v10 wz) (fun v10 _=>aJ v10)
    case atStart=>exact H1.F
    case round=>
     clear H1;obtain⟨k,rfl,hk0,hk1,O⟩:=hrel
     by_cases hk:k<=32
     ·by_cases hkn:0<=k/\k<32
      ·obtain⟨q,rfl⟩:∃q:Nat,k=(q:Int):=⟨k.toNat,by omega⟩;obtain⟨e1,e2⟩:=hkn;obtain⟨p,hp⟩:∃p,x.ptrs[q]? =some p:=⟨_,aR (by rw[eX.F];omega)⟩
       obtain⟨b,hb⟩:=au (Bw D.blocks p);have pE:=Z (show b.length=128 by rw[<-hb];exact su bq.F HB.F dD.F hp);have uQ:=Z (fun w A M (h:Sat W w (A::bF ps pd S::aP pd D::M))=>Eu h bq.F m q dD.F hp hb);have jX:=Z (fun w A B C E M (h:Sat W w (A::B::C::E::dz pw pe S gs::aW pe R::M))=>BU h bq.F HR.F HB.F m q dD.F hp hb);have q1:=vJ b b;have q2:=wu b b;clear hp hb
       go_wp2_with (first
        |(go_at_call 51;refine(uQ.F _ _ _ O).mono ?_;rintro e J hE;obtain⟨bqq,be,rfl,hS1⟩:=hE;clear O;have O:=hS1;clear hS1)
        |(refine bB O ?_ (hk:=aa)))
       (refine cB (pO [0,1,2,3,4,5,6]<|rO [7]<|pO [8,9,10]<|rO [11]<|pO [12,13]<|aO [14]<|rO [15]<|pO [16,17,18]<| .e) [] O ?_;clear O;intro J O)
       repeat (first
        |(refine bG O ?_;go_frame)
        |(refine sK O ?_;go_frame)
        |(refine bR O ?_;(first
               |refine⟨_,xM _ _ _ (by rfl) _ (by rfl) jI (l:=b) (fun u hu=>hu.jc (n:=128) (sz:=1) aa (by decide) (by rw[jR,pE.F])),?_⟩
               |refine⟨_,xM _ _ _ (by rfl) _ (by rfl) jI (l:=b) (fun u hu=>hu.dY (k:=0) rfl),?_⟩
               |refine rM hz1 ?_);go_frame)
        |(refine bY fun K hK=>?_;(refine cK (jX.F _ _ _ _ _ _ O) ?_;clear O;rintro e J ⟨a7,c7,rfl,O⟩;refine⟨_,rfl,?_⟩);refine hK.go O ?_;clear hK K;go_frame))
       refine bO ?_;go_wp2;exact⟨⟨(q:Int)+11,by go_num,by omega,by omega,O.drop.drop⟩,aj (by omega) (by omega)⟩
      ·have hex:decide (0<=k)=false∨(decide (0<=k)=true/\decide (k<32)=false):=by
        by_cases h:0<=k
        ·exact .inr ⟨bL h,bf (by omega)⟩
        ·exact .inl (bf h)
       have bD:=Z (fun w A M (h:Sat W w (A::bF ps pd S::M))=>fH (i:=(m:Int)) h bq.F.x (.inr (.inr (show k<0∨32<=k by omega))));clear hkn
       rcases hex with e1|⟨e1,e2⟩
       all_goals
        go_wp2_with (first
         |(go_at_call 51;refine ak (bD.F _ _ _ O) ?_;clear O;intro J O)
         |(refine bB O ?_ (hk:=aa)))
        (refine cB (pO [0,1,2,3,4,5,6]<|rO [7]<|pO [8,9,10]<|rO [11]<|pO [12,13]<|aO [14]<|rO [15]<|pO [16,17,18]<| .e) [] O ?_;clear O;intro J O)
        repeat (first
         |(refine bG O ?_;go_frame)
         |(refine sK O ?_;go_frame)
         |(refine bR O ?_;(first
                 |refine⟨_,xM _ _ _ (by rfl) _ (by rfl) jI (l:=b) (fun u hu=>hu.jc (n:=128) (sz:=1) aa (by decide) (by rw[jR,pE.F])),?_⟩
                 |refine⟨_,xM _ _ _ (by rfl) _ (by rfl) jI (l:=b) (fun u hu=>hu.dY (k:=0) rfl),?_⟩
                 |refine rM hz1 ?_);go_frame)
         |(refine bY fun K hK=>?_;(refine cK (jX.F _ _ _ _ _ _ O) ?_;clear O;rintro e J ⟨a7,c7,rfl,O⟩;refine⟨_,rfl,?_⟩);refine hK.go O ?_;clear hK K;go_frame))
        refine bO ?_;go_wp2;exact⟨⟨k+11,by go_num,by omega,by omega,O⟩,aj (by omega) (by omega)⟩
     ·go_wp2;exact⟨⟨(m:Int)+1,by go_num,by omega,by omega,O⟩,aj (by omega) (by omega)⟩
   ·have hex:i= -1∨i=48:=by omega
    clear hi0 hi1 hlt hin
    rcases hex with rfl|rfl
    all_goals
     have HI:=Z (fun w M (h:Sat W w M)=>fI (ps:=ps) h (i:=48) (.inr (by decide)));have HI2:=Z (fun w M (h:Sat W w M)=>fI (ps:=ps) h (i:= -1) (.inl (by decide)))
     go_wp2_with (first
      |(go_at_call 50;refine ak (HI.F _ _ O) ?_;clear O;intro J O)
      |(go_at_call 50;refine ak (HI2.F _ _ O) ?_;clear O;intro J O)
      |(refine bB O ?_ (hk:=aa))
      |(refine dU O ?_;clear O;intro p7 J O;rw[aS] at O)
      |(refine eT (inv bC) O aa ?_ (hv:=(inv_one _));clear O;intro J O;dsimp only[aD,aN] at O))
     (refine cB (pO [0,1,2,3,4,5]<|rO [6]<|pO [7,8,9]<|rO [10]<|pO [11,12,13,14]<|rO [15]<|pO [16,17,18]<| .e) [] O ?_;clear O;intro J O)
     repeat (first
      |(refine bG O ?_;go_frame)
      |(refine sK O ?_;go_frame)
      |(refine bR O ?_;(exact mf);go_frame))
     refine bO ?_;have H1:=Z (show aV W (Cs po 36 [.pointer (some ⟨pd,0,none⟩), .pointer (some ⟨ps,0,none⟩), .pointer (some ⟨pe,0,none⟩), .pointer (some ⟨pw,0,none⟩)]::bF ps pd S::aP pd D::dz pw pe S gs::aW pe R::L) (.int .i64 (-1)) _ from⟨-1,rfl,by decide,by decide,O.drop⟩);clear O HI HI2;go_wp2;go_loopw [10] (fun v10 wz=>aV W (Cs po 36 [.pointer (some ⟨pd,0,none⟩), .pointer (some ⟨ps,0,none⟩), .pointer (some ⟨pe,0,none⟩), .pointer (some ⟨pw,0,none⟩)]::bF ps pd S::aP pd D::dz pw pe S gs::aW pe R::L) v10 wz) (fun v10 _=>aJ v10)
     case atStart=>exact H1.F
     case round=>
      clear H1;obtain⟨k,rfl,hk0,hk1,O⟩:=hrel
      by_cases hk:k<=32
      ·have bD:=Z (fun w A M (h:Sat W w (A::bF ps pd S::M))=>fH (i:= -1) (k:=k) h bq.F.x (.inl (by decide)));have pG:=Z (fun w A M (h:Sat W w (A::bF ps pd S::M))=>fH (i:=48) (k:=k) h bq.F.x (.inr (.inl (by decide))))
       go_wp2_with (first
        |(go_at_call 51;refine ak (bD.F _ _ _ O) ?_;clear O;intro J O)
        |(go_at_call 51;refine ak (pG.F _ _ _ O) ?_;clear O;intro J O)
        |(refine bB O ?_ (hk:=aa)))
       (refine cB (pO [0,1,2,3,4,5,6]<|rO [7]<|pO [8,9,10]<|rO [11]<|pO [12,13]<|aO [14]<|rO [15]<|pO [16,17,18]<| .e) [] O ?_;clear O;intro J O)
       repeat (first
        |(refine bG O ?_;go_frame)
        |(refine sK O ?_;go_frame)
        |(refine bR O ?_;(exact mf);go_frame)
        |(refine bY fun K hK=>?_;(exact mf);refine hK.go O ?_;clear hK K;go_frame))
       refine bO ?_;go_wp2;exact⟨⟨k+11,by go_num,by omega,by omega,O⟩,aj (by omega) (by omega)⟩
      ·go_wp2
       first
        |exact⟨⟨0,by go_num,by omega,by omega,O⟩,aj (by omega) (by omega)⟩
        |exact⟨⟨49,by go_num,by omega,by omega,O⟩,aj (by omega) (by omega)⟩
  ·go_wp2;refine aF.F _ _ ?_;clear aF;go_wp2;exact HT.F _ O
end Go.Proofs.YtjbiihbicknemaaGreat
