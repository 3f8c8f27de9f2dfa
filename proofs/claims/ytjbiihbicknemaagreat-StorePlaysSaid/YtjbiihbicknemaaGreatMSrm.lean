/-
  Part of the proof of StoreWhole.
-/
import Derived.Test.YtjbiihbicknemaaGreatMNxt
import Derived.Test.YtjbiihbicknemaaGreatMRwi
import Derived.Test.YtjbiihbicknemaaGreatMGrw
set_option linter.unusedSimpArgs false
set_option linter.unusedVariables false
set_option maxRecDepth 20000
set_option maxHeartbeats 40000000
namespace Go.Proofs.YtjbiihbicknemaaGreat
open Go.RowKit Go.Sep
variable {W w:World} {L:List aA}
attribute [local irreducible] Oper.wp wpList Calls Code.wp Sep.dR
def kG (U:Nat->Bool) (k:Nat) (n:Nat):Bool:=decide (n<k)&&U n
theorem SN (U:Nat->Bool):kG U 0=fun _=>false:=by funext n;simp[kG]
theorem NI (U:Nat->Bool) (k:Nat):upd (kG U k) k (U k)=kG U (k+1):=by
 funext n;unfold upd kG
 by_cases h:n=k
 ·subst h;rw[if_pos rfl,bL (by omega:n<n+1),Bool.true_and]
 ·rw[if_neg h]
  by_cases H:n<k
  ·rw[bL H,bL (by omega:n<k+1)]
  ·rw[bf H,bf (by omega:¬n<k+1)]
theorem Z7 (U:Nat->Bool) (k:Nat):kG U k k=false:=by unfold kG;rw[bf (by omega)];rfl
theorem aj7 {S T:Nat->Bool} (h:∀n,n<1024->S n=T n):mb S=mb T:=by
 unfold mb;exact List.map_congr_left fun i hi=>by rw[h i (jD.1 hi)]
theorem Z8 (U:Nat->Bool):mb (kG U 1024)=mb U:=aj7 fun n hn=>by unfold kG;rw[bL hn,Bool.true_and]
theorem ajY (U:Nat->Bool):cO (kG U 1024)=cO U:=aae fun n hn=>by unfold kG;rw[bL hn,Bool.true_and]
theorem aal:mb (fun _=>false)=List.replicate 1024 (.bool false):=by
 unfold mb;rw[List.map_const',List.length_range]
theorem aad (n:Nat):(madeCells (Value.bool false).cells (n*1)).toList=List.replicate n (.bool false):=by
 have:=Kb 1 n (by decide) (.bool false);rw[Nat.mul_one];exact this
theorem amg:∀x:Fin 256,(Int.tmod ((x.val:Nat):Int) 2==1)=((x.val % 2)==1):=by decide+kernel
theorem aga (f:Nat->Bool) {j:Nat} (h:j<8):(Int.tmod (((iN f:Nat):Int) % 256 / 2 ^ j) 2==1)=f j:=by
 have hl:iN f / 2 ^ j<256:=Nat.lt_of_le_of_lt (Nat.div_le_self _ _) (Jw f);rw[WZ,amg ⟨iN f / 2 ^ j,hl⟩,WY f h]
 cases f j<;>rfl
def MpI (W:World) (L:List aA) (U:Nat->Bool) (pb:Nat) (v4:Value) (wz:World):Prop:=
 ∃k:Nat,v4= .int .i64 (k:Int)/\k<=1024/\Sat W wz (Cs pb 4 (mb (kG U k))::L)
def Fa (v:Value):Nat:=1024-(intOf v).toNat
theorem Fb {i:Nat} (h:i<1024):Fa (.int .i64 ((i+1:Nat):Int))<Fa (.int .i64 (i:Int)):=by
 unfold Fa;show 1024-(((i+1:Nat):Int)).toNat<1024-((i:Int)).toNat;rw[fu,fu];omega
theorem MR {b E n:Nat} {l:List Value} (h:Sat W w (Cs b E l::L)) (hl:l.length=n) (hn:n<=1000000):Sat W w (Sl E 1 (.slice (some ⟨b,0,none⟩) n n) n l::L):=by
 have H:Sat W w (Cs b E ([]++l++[])::L):=by simpa using h
 exact Sat.pW (n:=n) (cap:=n) (sz:=1) H (aZ _) (by omega) (by rw[hl,Nat.mul_one]) rfl (by rw[hl];simp)
theorem OG (O:Sat W w L) (U:Nat->Bool) (b off c:Nat) (hr:∀w L',Sat W w (L'++L)->Rd w (.slice (some ⟨b,off,none⟩) 128 c) 128 1 (bv (cO U))):
  Calls Tryz.prog 33 #[.slice (some ⟨b,off,none⟩) 128 c] w fun e w'=>∃v,e= .returned v/\Sat W w' (Sl 4 1 v 1024 (mb U)::L):=by
 have HR:=Z hr;clear hr;go_enter Tryz.func33,Tryz.ntmps33
 go_wp2_with (refine aU ?_;refine mk O _ _ _ (by rfl) 1024 1024 _ _ (by rfl) (by rfl) (bS (by rfl)) (by omega) (by omega) (by omega) ?_;clear O;intro pb J O;rw[aad,<-aal,<-SN U] at O)
 have H0:=Z O;clear O;go_loopw [4] (fun v4 wz=>MpI W L U pb v4 wz) (fun v4 _=>Fa v4)
 case atStart=>exact⟨0,rfl,by decide,H0.F⟩
 case round=>
  clear H0;obtain⟨k,rfl,hk,O⟩:=hrel
  by_cases hlt:k<1024
  ·have k1:(k:Int)<1024:=by omega
   have ay:=Z hlt;have HX:=Z (Jv (E8 U (i:=k / 8) (by omega)));have hq:Int.tdiv (k:Int) 8=((k / 8:Nat):Int):=rfl;have hm:Int.tmod (k:Int) 8=((k % 8:Nat):Int):=rfl;have q1:((k / 8:Nat):Int)<128:=by omega
   have q2:((k % 8:Nat):Int)<8:=by omega
   have HRR:=Z (HR.F _ [_] O)
   have HE:=Z (show(mb (kG U k)).set k (.bool (Int.tmod (((iN fun j=>U (8*(k / 8)+j)):Nat) % 256 / 2 ^ (k % 8)) 2==1))=mb (kG U (k+1)) by
    have e:=aga (fun j=>U (8*(k / 8)+j)) (j:=k % 8) (by omega);rw[show 8*(k / 8)+k % 8=k by omega] at e
    rw[e,yF _ _ hlt,NI])
   clear hlt hk
   go_wp2_with (first
    |(refine bN (fF HRR.F _ _ (by rfl) _ (by rfl) (aI (by rfl)) (k / 8) (by omega) HX.F (by omega)) ?_)
    |(refine iA O aa ?_ (hb:=by rw[qz];have:=ay.F;omega);clear O;intro J O;rw[aD,HE.F] at O))
   exact⟨⟨k+1,by go_num,ay.F,O⟩,Fb ay.F⟩
  ·obtain rfl:k=1024:=by omega
   rw[Z8] at O;clear hlt hk;go_wp2;go_ret;exact⟨_,rfl,MR O (qz U) (by decide)⟩
theorem afY:∀b0 b1 b2 b3 b4 b5 b6 b7:Bool,∀j:Fin 8,Da b0 b1 b2 b3 b4 b5 b6 b7 j.val=false->iN (Da b0 b1 b2 b3 b4 b5 b6 b7)+2 ^ j.val=iN (upd (Da b0 b1 b2 b3 b4 b5 b6 b7) j.val true):=by decide+kernel
theorem agt (f:Nat->Bool) {j:Nat} (h:j<8) (h0:f j=false):iN f+2 ^ j=iN (upd f j true):=by
 have I:=afY (f 0) (f 1) (f 2) (f 3) (f 4) (f 5) (f 6) (f 7) ⟨j,h⟩ (by rw[<-JJ f j h];exact h0);rw[Gq (JJ f),I]
 exact Gq fun i hi=>by
  unfold upd
  by_cases e:i=j
  ·rw[if_pos e,if_pos e]
  ·rw[if_neg e,if_neg e,JJ f i hi]
def ByI (W:World) (L:List aA) (U:Nat->Bool) (pb:Nat) (v4:Value) (wz:World):Prop:=
 ∃k:Nat,v4= .int .i64 (k:Int)/\k<=1024/\Sat W wz (IsMap (.slice (some ⟨pb,0,none⟩) 128 128) (kG U k)::L)
theorem Oq (O:Sat W w L) (U:Nat->Bool) (ao:Option Addr) (c:Nat) (hr:∀w L',Sat W w (L'++L)->Rd w (.slice ao 1024 c) 1024 1 (mb U)):
  Calls Tryz.prog 36 #[.slice ao 1024 c] w fun e w'=>∃v,e= .returned v/\Sat W w' (IsMap v U::L):=by
 have HR:=Z hr;obtain⟨_,_,he,hc1,hc2,_,h5⟩:=hr w [] O;obtain⟨rfl,rfl⟩:=gq he;obtain⟨b,off,rfl,_⟩:=h5 (by decide);clear hr h5 hc1 hc2;go_enter Tryz.func36,Tryz.ntmps36
 go_wp2_with (refine aU ?_;refine mk O _ _ _ (by rfl) 128 128 _ _ (by rfl) (by rfl) (bS (by rfl)) (by omega) (by omega) (by omega) ?_;clear O;intro pb J O;rw[zA] at O)
 have H0:Hid (Sat W J (IsMap (.slice (some ⟨pb,0,none⟩) 128 128) (kG U 0)::L)):=by
  unfold IsMap;rw[SN,show cO (fun _=>false)=zeros 128 by decide+kernel];exact Z (MR O (by simp[zeros,bv]) (by decide))
 clear O;go_loopw [4] (fun v4 wz=>ByI W L U pb v4 wz) (fun v4 _=>Fa v4)
 case atStart=>exact⟨0,rfl,by decide,H0.F⟩
 case round=>
  clear H0;obtain⟨k,rfl,hk,O⟩:=hrel
  by_cases hlt:k<1024
  ·have k1:(k:Int)<1024:=by omega
   have ay:=Z hlt;have HRR:=Z (HR.F _ [_] O);have HX:=Z (xC U hlt);obtain⟨u,hu⟩:=au (U k);rw[hu] at HX
   cases u with
   |false=>
    have HE:=Z (show cO (kG U k)=cO (kG U (k+1)) by
     rw[<-NI,hu,<-Z7 U k];congr 1;funext n;unfold upd
     by_cases e:n=k
     ·rw[if_pos e,e]
     ·rw[if_neg e])
    clear hlt hk hu
    go_wp2_with (refine bN (fF HRR.F _ _ (by rfl) _ (by rfl) (aI (by rfl)) k (by omega) HX.F (by have:=ay.F;omega)) ?_)
    unfold IsMap at O;rw[HE.F] at O;exact⟨⟨k+1,by go_num,ay.F,O⟩,Fb ay.F⟩
   |true=>
    have hm:Int.tmod (k:Int) 8=((k % 8:Nat):Int):=rfl;have hq:Int.tdiv (k:Int) 8=((k / 8:Nat):Int):=rfl;have q1:((k / 8:Nat):Int)<128:=by omega
    have q2:((k % 8:Nat):Int)<8:=by omega
    have HY:=Z (Jv (E8 (kG U k) (i:=k / 8) (by omega)));have hj:k % 8<8:=by omega
    have R9:=agt (fun j=>kG U k (8*(k / 8)+j)) hj (by
     show kG U k (8*(k / 8)+k % 8)=false;rw[show 8*(k / 8)+k % 8=k by omega]
     exact Z7 U k)
    have HE:=Z (show(bv (cO (kG U k))).set (k / 8) (.int .u8 ((((iN fun j=>kG U k (8*(k / 8)+j)):Nat)+2 ^ (k % 8) % 256) % 256))=bv (cO (kG U (k+1))) by
     rw[<-NI,hu];refine map_set (kG U k) true hlt ?_;rw[<-R9];have I:=Jw (upd (fun j=>kG U k (8*(k / 8)+j)) (k % 8) true);rw[<-R9] at I;rw[Int.natCast_add,Int.natCast_pow]
     have e2:((iN (fun j=>kG U k (8*(k / 8)+j)):Nat):Int)+((2:Nat):Int) ^ (k % 8)<256:=by
      have:((iN (fun j=>kG U k (8*(k / 8)+j))+2 ^ (k % 8):Nat):Int)<256:=by omega
      rwa [Int.natCast_add,Int.natCast_pow] at this
     have e3:(0:Int)<=((2:Nat):Int) ^ (k % 8):=Int.pow_nonneg (by decide);have e4:(0:Int)<=((iN (fun j=>kG U k (8*(k / 8)+j)):Nat):Int):=Int.natCast_nonneg _;show(((iN (fun j=>kG U k (8*(k / 8)+j)):Nat):Int)+((2:Nat):Int) ^ (k % 8) % 256) % 256=_;generalize ((2:Nat):Int) ^ (k % 8)=q at e2 e3 ⊢
     omega)
    unfold IsMap at O;rw[Uy] at HY;clear hlt hk hu hj R9
    go_wp2_with (first
     |(refine bN (fF HRR.F _ _ (by rfl) _ (by rfl) (aI (by rfl)) k (by omega) HX.F (by have:=ay.F;omega)) ?_)
     |(refine aU ?_;refine SL O _ _ (by rfl) _ _ (by rfl) (aI (by rfl)) aa (k / 8) (by omega) HY.F ?_)
     |(refine aU ?_;refine Cf O _ _ _ (by rfl) _ _ (by rfl) _ (by first|exact sV|exact rA (by rfl)) (by rfl) (bz (by rfl)) aa (k / 8) (by omega) (by rw[jR,uC];omega) ?_;clear O;intro J O;rw[aD,HE.F] at O))
    exact⟨⟨k+1,by go_num,ay.F,O⟩,Fb ay.F⟩
  ·obtain rfl:k=1024:=by omega
   unfold IsMap at O;rw[ajY] at O;clear hlt hk;go_wp2;go_ret;exact⟨_,rfl,O⟩
def NwI (W:World) (L:List aA) (b pb:Nat) (v4:Value) (wz:World):Prop:=
 ∃k:Nat,v4= .int .i64 (k:Int)/\k<=1024/\Sat W wz (Cs pb 4 (mb (kG (lJ b) k))::L)
theorem abO (O:Sat W w L) (b:Nat) (hb:b<=1100):
  Calls Tryz.prog 34 #[.int .i64 (b:Int)] w fun e w'=>∃v,e= .returned v/\Sat W w' (IsMap v (lJ b)::L):=by
 have hbi:(b:Int)<=1100:=by omega
 clear hb;go_enter Tryz.func34,Tryz.ntmps34
 go_wp2_with (refine aU ?_;refine mk O _ _ _ (by rfl) 1024 1024 _ _ (by rfl) (by rfl) (bS (by rfl)) (by omega) (by omega) (by omega) ?_;clear O;intro pb J O;rw[aad,<-aal,<-SN (lJ b)] at O)
 have H0:=Z O;clear O;go_loopw [4] (fun v4 wz=>NwI W L b pb v4 wz) (fun v4 _=>Fa v4)
 case atStart=>exact⟨0,rfl,by decide,H0.F⟩
 case round=>
  clear H0;obtain⟨k,rfl,hk,O⟩:=hrel
  by_cases hlt:k<1024
  ·have k1:(k:Int)<1024:=by omega
   have ay:=Z hlt;obtain⟨u,hu⟩:=au (lJ b k);have HE:=Z (show(mb (kG (lJ b) k)).set k (.bool u)=mb (kG (lJ b) (k+1)) by rw[yF _ _ hlt,<-hu,NI])
   have hu2:(decide ((k:Int)<74) || decide ((b:Int)<=(k:Int)))=u:=by
    rw[<-hu];unfold lJ;congr 1
    ·exact decide_eq_decide.2 (by omega)
    ·exact decide_eq_decide.2 (by omega)
   clear hlt hk hu
   by_cases h74:(k:Int)<74
   ·rw[bL h74,Bool.true_or] at hu2;subst hu2;have e1:decide ((k:Int)<74)=true:=bL h74;have e4:decide (k<74)=true:=bL (by omega);clear h74
    go_wp2_with (refine iA O aa ?_ (hb:=by rw[qz];have:=ay.F;omega);clear O;intro J O;rw[aD,HE.F] at O)
    exact⟨⟨k+1,by go_num,ay.F,O⟩,Fb ay.F⟩
   ·rw[bf h74,Bool.false_or] at hu2;have e1:decide ((k:Int)<74)=false:=bf h74;have e4:decide (k<74)=false:=bf (by omega);have e2:=hu2;have e3:decide (b<=k)=u:=by rw[<-hu2];exact decide_eq_decide.2 (by omega)
    clear h74
    go_wp2_with (refine iA O aa ?_ (v:=(.bool u)) (hy:=by first|exact sV|exact rA (by rfl)|(rw[<-e3];exact rA (by rfl))|(rw[<-hu2];exact rA (by rfl))) (hb:=by rw[qz];have:=ay.F;omega);clear O;intro J O;rw[aD,HE.F] at O)
    exact⟨⟨k+1,by go_num,ay.F,O⟩,Fb ay.F⟩
  ·obtain rfl:k=1024:=by omega
   rw[Z8] at O;have HB:=Z (Oq (MR O (qz _) (by decide)) (lJ b) (some ⟨pb,0,none⟩) 1024 (fun w L' h=>h.dY (Nl _ _ _)));clear hlt hk O
   go_wp2_with (go_at_call 36;refine HB.F.mono ?_;rintro e J ⟨v,rfl,O⟩)
   go_ret;exact⟨_,rfl,O.bW.drop⟩
def FrI (W:World) (L:List aA) (U:Nat->Bool) (b:Nat) (v7 v6:Value) (wz:World):Prop:=
 ∃k:Nat,v7= .int .i64 (k:Int)/\k<=b/\Sat W wz (Ir v6 (bT U k)::L)
theorem M8 (U:Nat->Bool) (k:Nat):(bT U k).length<=k:=by
 unfold bT;have:=List.length_filter_le (fun i=> !U i) (List.range k);rw[List.length_range] at this;exact this
theorem abG (O:Sat W w L) (U:Nat->Bool) (p off c b:Nat) (hb:b<=1024) (hr:∀w L',Sat W w (L'++L)->Rd w (.slice (some ⟨p,off,none⟩) 128 c) 128 1 (bv (cO U))):
  Calls Tryz.prog 110 #[.slice (some ⟨p,off,none⟩) 128 c, .int .i64 (b:Int)] w fun e w'=>∃v,e= .returned v/\Sat W w' (Ir v (bT U b)::L):=by
 have HM:=Z (OG O U p off c hr);have HB:=Z hb;have hbi:(b:Int)<=1024:=by omega
 clear hr hb O;go_enter Tryz.func110,Tryz.ntmps110
 go_wp2_with (go_at_call 33;refine HM.F.mono ?_;rintro e J ⟨v,rfl,O⟩)
 obtain⟨pb,po,cc,rfl,_⟩:=O.kV (k:=0) rfl (by decide);have H0:=Z O.wh;clear O;obtain⟨L2,hL2⟩:=au (Sl 4 1 (.slice (some ⟨pb,po,none⟩) 1024 cc) 1024 (mb U)::L);have HQ:=Z (show ∀w A,Sat W w (A::L2)->Sat W w (A::L) from fun w A h=>by rw[<-hL2] at h;exact h.bW.drop);have HR:=Z (show ∀w A,Sat W w (A::L2)->Rd w (.slice (some ⟨pb,po,none⟩) 1024 cc) 1024 1 (mb U) from fun w A h=>by rw[<-hL2] at h;exact h.dY hz1);rw[hL2] at H0;clear hL2;go_loopw [7,6] (fun v7 v6 wz=>FrI W L2 U b v7 v6 wz) (fun v7 _ _=>Fa v7)
 case atStart=>exact⟨0,rfl,eG _,H0.F⟩
 case round=>
  clear H0;obtain⟨k,rfl,hk,O⟩:=hrel
  by_cases hlt:k<b
  ·have k1:(k:Int)< (b:Int):=by omega
   have k2:(k:Int)<1024:=by omega
   have k3:decide ((k:Int)<1024)=true:=bL k2;have k4:decide ((k:Int)< (b:Int))=true:=bL k1;have k5:decide (k<1024)=true:=bL (by omega);have k6:decide (k<b)=true:=bL hlt;have ay:=Z hlt;have HX:=Z (xC U (show k<1024 by omega));have P5:=Z (M8 U k);have HN:=Z (M9 U k);obtain⟨u,hu⟩:=au (U k);rw[hu] at HX HN;clear hlt hk hu
   cases u with
   |true=>
    go_wp2_with (refine bN (fF (HR.F _ _ O) _ _ (by rfl) _ (by rfl) (aI (by rfl)) k (by omega) HX.F (by have:=ay.F;have:=HB.F;omega)) ?_)
    have e:bT U (k+1)=bT U k:=by rw[HN.F];exact kv _
    exact⟨⟨k+1,by go_num,ay.F,by rw[e];exact O⟩,Fb (by have:=ay.F;have:=HB.F;omega)⟩
   |false=>
    go_wp2_with (first
     |(refine bN (fF (HR.F _ _ O) _ _ (by rfl) _ (by rfl) (aI (by rfl)) k (by omega) HX.F (by have:=ay.F;have:=HB.F;omega)) ?_)
     |(refine il [.int .i64 (k:Int)] O ?_ (hc:=by simp[Value.cells]);clear O;intro b1 J O;rw[jC rfl] at O)
     |(at_builtin;refine aU ?_;refine rz O _ _ _ _ (by rfl) (by rfl) (by rfl) (bS (by rfl)) (by rfl) (by rfl) (by rfl) (dO (by rfl)) hz1 (m:=[k]) (by exact O.jc (sz:=1) aa (by decide) rfl) (by have:=P5.F;have:=ay.F;have:=HB.F;simp;omega) ?_;clear O;intro v2 J O;dsimp only[aD,aN] at O;replace O:=O.drop))
    have e:bT U (k+1)=bT U k++[k]:=HN.F;exact⟨⟨k+1,by go_num,ay.F,by rw[e];exact O⟩,Fb (by have:=ay.F;have:=HB.F;omega)⟩
  ·obtain rfl:k=b:=by omega
   have k1:¬((k:Int)< (k:Int)):=by omega
   by_cases h10:k=1024
   ·have k2:decide ((k:Int)<1024)=false:=bf (by omega);have k3:¬((k:Int)<1024):=by omega
    have k5:decide (k<1024)=false:=bf (by omega);have hS2:=HQ.F _ _ O;clear hlt hk O h10;go_wp2;go_ret;exact⟨_,rfl,hS2⟩
   ·have k2:decide ((k:Int)<1024)=true:=bL (by omega);have k3:(k:Int)<1024:=by omega
    have k5:decide (k<1024)=true:=bL (by omega);have hS2:=HQ.F _ _ O;clear hlt hk O h10;go_wp2;go_ret;exact⟨_,rfl,hS2⟩
theorem ajs {ao:Option Addr} {c m n:Nat} {l:List Nat} (h:Sat W w (Ir (.slice ao n c) l::L)) (hm:m<=l.length):Sat W w (Ir (.slice ao m c) (l.take m)::L):=by
 unfold Ir at*
 rcases h.wJ with⟨e,h0,I,H⟩|⟨E',b,off,cap,pre,rest,e,I,H,h3,h4,h5,h6⟩
 ·simp only[Value.slice.injEq] at e;obtain⟨rfl,_,rfl⟩:=e;obtain rfl:m=0:=by omega
  have h3:l=[]:=List.eq_nil_of_length_eq_zero h0;subst h3;exact H.kJ
 ·simp only[Value.slice.injEq] at e;obtain⟨rfl,e2,rfl⟩:=e;have hs:iv l=iv (l.take m)++iv (l.drop m):=by unfold iv;rw[<-lC,rR]
  rw[hs] at h6;have h7:Sat W w (Cs b E' (pre++iv (l.take m)++(iv (l.drop m)++rest))::L):=by simpa only[dX] using h6
  have hl:(l.take m).length=m:=by rw[jr];omega
  have:=Sat.pW (E:=0) (n:=m) (sz:=1) (cap:=c) h7 (by omega) H (by unfold iv;rw[qa,hl];omega) h4 (by have e5:=congrArg List.length hs;rw[bP] at e5;rw[bP];omega);rw[hl];exact this
theorem OL (O:Sat W w L) (U:Nat->Bool) (p off c b n:Nat) (hb:b<=1024) (hn:n<=1000000) (hr:∀w L',Sat W w (L'++L)->Rd w (.slice (some ⟨p,off,none⟩) 128 c) 128 1 (bv (cO U))):
  Calls Tryz.prog 94 #[.slice (some ⟨p,off,none⟩) 128 c, .int .i64 (b:Int), .int .i64 (n:Int)] w fun e w'=>∃v,e= .returned (.tuple #[v, .bool (decide (n<=(bT U b).length))])/\((n<=(bT U b).length->Sat W w' (Ir v ((bT U b).take n)::L))/\(¬n<=(bT U b).length->Sat W w' L)):=by
 have HF:=Z (abG O U p off c b hb hr);have hfl:=M8 U b;obtain⟨f,hf⟩:=au ((bT U b).length);have PZ:=Z hf;rw[hf] at hfl ⊢;have f1:(f:Int)<=1024:=by omega
 have n1:decide ((n:Int)<0)=false:=bf (by omega);clear hf hr hb O
 by_cases hlt:f<n
 ·have k1:decide ((f:Int)< (n:Int))=true:=bL (by omega);have k2:decide (f<n)=true:=bL hlt;have dx:=Z (show ¬n<=f by omega);rw[bf dx.F];clear hlt;go_enter Tryz.func94,Tryz.ntmps94
  go_wp2_with (go_at_call 110;refine HF.F.mono ?_;rintro e J ⟨v,rfl,O⟩;obtain⟨ao,cc,rfl,_⟩:=O.mg (k:=0) rfl;rw[PZ.F])
  go_ret2
  exact⟨_,rfl,fun h=>absurd h dx.F,fun _=>O.drop⟩
 ·have k1:decide ((f:Int)< (n:Int))=false:=bf (by omega);have k2:decide (f<n)=false:=bf hlt;have nY:=Z (show n<=f by omega);have n2:(n:Int)<=(f:Int):=by omega
  rw[bL nY.F];clear hlt;go_enter Tryz.func94,Tryz.ntmps94
  go_wp2_with (first
   |(go_at_call 110;refine HF.F.mono ?_;rintro e J ⟨v,rfl,O⟩;obtain⟨ao,cc,rfl,hcc⟩:=O.mg (k:=0) rfl;rw[PZ.F] at hcc ⊢;have HCC:=Z hcc;clear hcc)
   |(refine bN (TI (hi:=n) (by rfl) (by rfl) (by rfl) (by first|rfl|omega) (by have:=HCC.F;have:=nY.F;omega) (bS (by rfl)) _) ?_))
  go_ret2
  refine⟨_,rfl,fun _=>?_,fun h=>absurd nY.F h⟩;have H:=ajs O (m:=n) (by rw[PZ.F];exact nY.F);exact H
theorem KM (w:World) (v a b:Int) {r:Bool} (h:bI v a b=r):
  Calls Tryz.prog 137 #[.int .i64 v, .int .i64 a, .int .i64 b] w fun e w'=>e= .returned (.bool r)/\w=w':=by
 subst h;unfold bI
 by_cases I:a<=v
 ·by_cases H:v<=b
  ·go_enter Tryz.func137,Tryz.ntmps137;go_wp2;go_ret;exact⟨by simp[I,H],rfl⟩
  ·have H:b<v:=by omega
   go_enter Tryz.func137,Tryz.ntmps137;go_wp2;go_ret;exact⟨by simp[I];omega,rfl⟩
 ·have I:v<a:=by omega
  go_enter Tryz.func137,Tryz.ntmps137;go_wp2;go_ret;exact⟨by simp;omega,rfl⟩
theorem amS {l:List Int} {k q:Nat} (h:∀i:Nat,i<k->l[i]? ≠some (q:Int)):ko l k q=false:=by
 unfold ko;rw[Bool.and_eq_false_iff];right;rw[<-Bool.not_eq_true];intro H;rw[List.contains_iff_mem] at H;obtain⟨j,hj⟩:=jJ H
 have hjk:j<k:=by
  have:=(bZ.1 hj).1;simp at this;omega
 rw[List.getElem?_take_of_lt hjk] at hj;exact h j hjk hj
theorem amT {l:List Int} {k q i:Nat} (hi:i<k) (h:l[i]? =some (q:Int)) (hq:q≠0):ko l k q=true:=by
 unfold ko;have hm:(q:Int)∈l.take k:=bJ (i:=i) (by rw[List.getElem?_take_of_lt hi];exact h);rw[bL hq,Bool.true_and,List.contains_iff_mem.2 hm]
def PsI (W:World) (L:List aA) (x:aL) (iv:List Value) (px:Nat) (v4:Value) (wz:World):Prop:=
 ∃k:Nat,v4= .int .i64 (k:Int)/\k<=32/\(∀j,j<k->xE x j=true)/\Sat W wz (Cs px 78 iv::L)
def PjI (W:World) (L:List aA) (x:aL) (iv:List Value) (px k:Nat) (p:Int) (v6:Value) (wz:World):Prop:=
 ∃j:Nat,v6= .int .i64 (j:Int)/\j<=k/\(∀i:Nat,i<j->x.ptrs[i]? ≠some p)/\Sat W wz (Cs px 78 iv::L)
theorem Z9 {i n:Nat} (h:i<n):n-(intOf (.int .i64 ((i+1:Nat):Int))).toNat<n-(intOf (.int .i64 (i:Int))).toNat:=by
 show n-(((i+1:Nat):Int)).toNat<n-((i:Int)).toNat;rw[fu,fu];omega
theorem amB (O:Sat W w L) (x:aL) (hl:x.ptrs.length=32) (hz1:0<=x.size) (hz2:x.size<=4096):Calls Tryz.prog 138 #[.agg (inv x).toArray] w fun e w'=>e= .returned (.bool (yM x))/\Sat W w' L:=by
 obtain⟨iv,dA⟩:=au (inv x);have vM:=Z (show ∀(k:Nat) p,x.ptrs[k]? =some p->iv[5+k]? =some (.int .i64 p) from fun k p h=>by rw[<-dA];exact xA h);have eX:=Z hl;obtain⟨kd,hkd⟩:=au x.kind;obtain⟨z,hz⟩:=au x.size;have Cy:=Z hkd;have HZ:=Z hz;have G0:=Z (show iv[0]? =some (.int .i64 kd) by rw[<-dA,<-hkd];rfl);have G1:=Z (show iv[1]? =some (.int .i64 z) by rw[<-dA,<-hz];rfl);rw[hz] at hz1 hz2;rw[dA];obtain⟨n,hn⟩:∃n:Nat,(z+127) / 128=(n:Int):=⟨((z+127) / 128).toNat,by omega⟩;have hq:Int.tdiv (z+128-1) 128=(n:Int):=by rw[Int.tdiv_eq_ediv_of_nonneg (by omega),<-hn];congr 1;omega
 have hq2:Int.tdiv (z+127) 128=(n:Int):=by rw[Int.tdiv_eq_ediv_of_nonneg (by omega),<-hn]
 have hn1:(n:Int)<=33:=by omega
 have HNZ:=Z (fun k:Nat=>show decide (z<=(k:Int)*128)= !decide ((k:Int)< (n:Int)) by
  by_cases h:z<=(k:Int)*128
  ·rw[bL h,bf (by omega)];rfl
  ·rw[bf h,bL (by omega)];rfl)
 clear dA hkd hz hn hl;go_enter Tryz.func138,Tryz.ntmps138
 go_wp2_with (first
  |(refine bV O ?_;clear O;intro px J O;rw[aS] at O)
  |(refine aH O aa G1.F ?_))
 have H0:=Z O;clear O;go_loopw [4] (fun v4 wz=>PsI W L x iv px v4 wz) (fun v4 _=>Gt v4)
 case atStart=>exact⟨0,rfl,by decide,fun j hj=>absurd hj (qd _),H0.F⟩
 case round=>
  clear H0;obtain⟨k,rfl,hk,hall,O⟩:=hrel;have jE:=Z hall;clear hall
  by_cases hlt:k<32
  ·have k1:(k:Int)<32:=by omega
   have ay:=Z hlt;obtain⟨p,hp⟩:∃p,x.ptrs[k]? =some p:=⟨_,aR (by rw[eX.F];exact hlt)⟩
   have GP:=Z (vM.F k p hp);obtain⟨c,hc⟩:∃c,decide ((k:Int)< (n:Int))=c:=⟨_,rfl⟩;have hc2:decide (k<n)=c:=by rw[<-hc];exact decide_eq_decide.2 (by omega)
   have hc3:decide ((n:Int)<=(k:Int))= !c:=by
    rw[<-hc]
    by_cases h:(k:Int)< (n:Int)
    ·rw[bL h,bf (by omega)];rfl
    ·rw[bf h,bL (by omega)];rfl
   have hc4:decide (n<=k)= !c:=by rw[<-hc3];exact decide_eq_decide.2 (by omega)
   have hcz:=HNZ.F k;rw[hc] at hcz
   by_cases h0:p=0
   ·subst h0;have gz:=Z (Ko hp);rw[Cy.F,HZ.F,hcz] at gz;obtain⟨d,hd⟩:=au (kd==2);rw[hd] at gz;clear hp hlt hk hcz
    cases d with
    |false=>
     go_wp2_with (first
      |(refine aH O aa GP.F ?_)
      |(refine aH O aa G0.F ?_))
     exact⟨⟨k+1,by go_num,ay.F,ED jE.F (gz.F.trans rfl),O⟩,EC ay.F⟩
    |true=>
     cases c with
     |true=>
      go_wp2_with (first
       |(refine aH O aa GP.F ?_)
       |(refine aH O aa G0.F ?_))
      go_ret;rw[zG ay.F (gz.F.trans rfl)];exact⟨rfl,O.drop⟩
     |false=>
      go_wp2_with (first
       |(refine aH O aa GP.F ?_)
       |(refine aH O aa G0.F ?_))
      exact⟨⟨k+1,by go_num,ay.F,ED jE.F (gz.F.trans rfl),O⟩,EC ay.F⟩
   ·have gz:=Z (Kn hp h0);have e2:(p==0)=false:=dH.2 h0;obtain⟨r,hr⟩:=au (bI p 74 1023);have HI:=Z (fun w=>KM w p 74 1023 hr);rw[HZ.F,hcz,hr] at gz
    cases r with
    |false=>
     clear hp hlt hk h0 hr hcz
     go_wp2_with (first
      |(refine aH O aa GP.F ?_)
      |(go_at_call 137;refine ak (HI.F _) ?_;rintro J rfl))
     go_ret;rw[zG ay.F (gz.F.trans (by simp))];exact⟨rfl,O.drop⟩
    |true=>
     have hr2:74<=p/\p<=1023:=by unfold bI at hr;simpa using hr
     obtain⟨q,rfl⟩:∃q:Nat,p=(q:Int):=⟨p.toNat,by omega⟩;have HQ:=Z (show q≠0 by omega);rw[fu] at gz
     cases c with
     |false=>
      clear hp hlt hk h0 hr hcz hr2
      go_wp2_with (first
       |(refine aH O aa GP.F ?_)
       |(go_at_call 137;refine ak (HI.F _) ?_;rintro J rfl))
      go_ret;rw[zG ay.F (gz.F.trans (by simp))];exact⟨rfl,O.drop⟩
     |true=>
      clear hp hlt hk h0 hr hcz hr2
      go_wp2_with (first
       |(refine aH O aa GP.F ?_)
       |(go_at_call 137;refine ak (HI.F _) ?_;rintro J rfl))
      have H1:=Z O;clear O;go_loopw [6] (fun v6 wz=>PjI W L x iv px k (q:Int) v6 wz) (fun v6 _=>k-(intOf v6).toNat)
      case atStart=>exact⟨0,rfl,eG _,fun i hi=>absurd hi (qd _),H1.F⟩
      case round=>
       clear H1;obtain⟨j,rfl,hj,hne,O⟩:=hrel;have oO:=Z hne;clear hne
       by_cases hjl:j<k
       ·have j1:(j:Int)< (k:Int):=by omega
        have j2:(j:Int)<32:=by omega
        have tX:=Z hjl;obtain⟨p2,hp2⟩:∃p2,x.ptrs[j]? =some p2:=⟨_,aR (by rw[eX.F];have:=ay.F;omega)⟩
        have U3:=Z (vM.F j p2 hp2)
        by_cases he:p2=(q:Int)
        ·subst he;have rq:=Z (amT hjl hp2 HQ.F);rw[rq.F] at gz;have e9:((q:Int)==(q:Int))=true:=beq_self_eq_true _;clear hp2 hjl hj
         go_wp2_with (refine aH O aa U3.F ?_)
         go_ret;rw[zG ay.F (gz.F.trans (by simp))];exact⟨rfl,O.drop⟩
        ·have e9:(p2==(q:Int))=false:=dH.2 he
         have kC:=Z (show ∀i:Nat,i<j+1->x.ptrs[i]? ≠some (q:Int) from fun i hi=>by
          by_cases e:i=j
          ·subst e;rw[hp2];intro e3;exact he (ig e3)
          ·exact oO.F i (by omega))
         clear hp2 hjl hj he
         go_wp2_with (refine aH O aa U3.F ?_)
         exact⟨⟨j+1,by go_num,tX.F,kC.F,O⟩,Z9 tX.F⟩
       ·obtain rfl:j=k:=by omega
        have j1:¬((j:Int)< (j:Int)):=by omega
        have rq:=Z (amS oO.F);rw[rq.F] at gz;clear hjl hj;go_wp2;exact⟨⟨j+1,by go_num,ay.F,ED jE.F (gz.F.trans (by simp)),O⟩,EC ay.F⟩
  ·obtain rfl:k=32:=by omega
   clear hlt hk;go_wp2;go_ret;rw[N9 jE.F];exact⟨rfl,O.drop⟩
theorem alE (O:Sat W w L):Calls Tryz.prog 116 #[.agg (inv bC).toArray] w fun e w'=>e= .returned (.bool true)/\Sat W w' L:=by
 have hbd:∀u:World,(Instr.build 78 #[]).run Tryz.prog u= .ok (.agg (inv bC).toArray) u:=fun u=>by kernel_rfl
 have heq:∀u:World,(binOp .eql 78 (.agg (inv bC).toArray) (.agg #[.int .i64 0, .int .i64 0, .int .i64 0, .int .i64 0, .int .i64 0, .int .i64 0, .int .i64 0, .int .i64 0, .int .i64 0, .int .i64 0, .int .i64 0, .int .i64 0, .int .i64 0, .int .i64 0, .int .i64 0, .int .i64 0, .int .i64 0, .int .i64 0, .int .i64 0, .int .i64 0, .int .i64 0, .int .i64 0, .int .i64 0, .int .i64 0, .int .i64 0, .int .i64 0, .int .i64 0, .int .i64 0, .int .i64 0, .int .i64 0, .int .i64 0, .int .i64 0, .int .i64 0, .int .i64 0, .int .i64 0, .int .i64 0, .int .i64 0])).run Tryz.prog u= .ok (.bool true) u:=fun u=>by kernel_rfl
 go_enter Tryz.func116,Tryz.ntmps116
 go_wp2_with (first
  |(refine bV O ?_;clear O;intro pb J O;rw[aS] at O)
  |(refine bB O ?_)
  |(refine aU ?_;refine rE O _ _ (by rfl) _ _ (by rfl) (aI (by rfl)) (bz (by rfl)) aa (by decide) ?_;rw[show((inv bC).drop 0).take 37=inv bC from rfl]))
 go_ret;exact⟨rfl,O.drop⟩
theorem TL (O:Sat W w L) (x:aL) (hl:x.ptrs.length=32) (hzz:x.kind=0->x=bC):Calls Tryz.prog 116 #[.agg (inv x).toArray] w fun e w'=>e= .returned (.bool (yL x))/\Sat W w' L:=by
 by_cases h0:x.kind=0
 ·rw[hzz h0];exact alE O
 have hk0:(x.kind==0)=false:=dH.2 h0;have hok:yL x=(wB x&&yM x):=by unfold yL;rw[hk0,Bool.false_or]
 have dI:=Z (show(inv x).length=37 by rw[fe,hl])
 have Jf:Hid (yK x=true->∀w L (h:Sat W w L),Calls Tryz.prog 138 #[.agg (inv x).toArray] w fun e w'=>e= .returned (.bool (yM x))/\Sat W w' L):=Z (fun h w L O=>by
  unfold yK bI at h;simp only[ed,decide_eq_true_eq] at h
  exact amB O x hl h.2.1.1 h.2.1.2)
 have wR:=Z (show wB x=(yK x&&(x.kind != 2 || (x.links==1&&x.size % 128==0))) from rfl);have xV:=Z (show yK x=(bI x.kind 1 2&&(bI x.size 0 4096&&(bI x.links 0 10000&&(bI x.obj 1 16777215&&bI x.node 0 16777215)))) from rfl);rw[hok];obtain⟨ps,hps⟩:=au (yM x);obtain⟨oh,Zg⟩:=au (wB x);obtain⟨Fj,Zh⟩:=au (yK x);rw[hps] at Jf ⊢;rw[Zg] at wR ⊢;rw[Zh] at Jf wR xV;obtain⟨iv,dA⟩:=au (inv x);obtain⟨k,hk⟩:=au x.kind;obtain⟨sz,hsz⟩:=au x.size;obtain⟨lk,hlk⟩:=au x.links;obtain⟨ob,Nt⟩:=au x.obj;obtain⟨nd,hnd⟩:=au x.node;have G0:=Z (show iv[0]? =some (.int .i64 k) by rw[<-dA,<-hk];rfl);have G1:=Z (show iv[1]? =some (.int .i64 sz) by rw[<-dA,<-hsz];rfl);have G2:=Z (show iv[2]? =some (.int .i64 lk) by rw[<-dA,<-hlk];rfl);have G3:=Z (show iv[3]? =some (.int .i64 ob) by rw[<-dA,<-Nt];rfl);have G4:=Z (show iv[4]? =some (.int .i64 nd) by rw[<-dA,<-hnd];rfl);rw[hk,hsz,hlk] at wR;rw[hk,hsz,hlk,Nt,hnd] at xV;rw[hk] at hk0 h0;rw[dA] at dI Jf ⊢;have e0:(k==0)=false:=hk0;clear hok hps Zg Zh dA hk hsz hlk Nt hnd hl hzz hk0;obtain⟨r2,H⟩:=au (bI sz 0 4096);obtain⟨r3,h3⟩:=au (bI lk 0 10000);obtain⟨r4,h4⟩:=au (bI ob 1 16777215);obtain⟨r5,h5⟩:=au (bI nd 0 16777215);have lS:=Z (fun w=>KM w sz 0 4096 H);have lD:=Z (fun w=>KM w lk 0 10000 h3);have lQ:=Z (fun w=>KM w ob 1 16777215 h4);have dP:=Z (fun w=>KM w nd 0 16777215 h5);rw[H,h3,h4,h5] at xV;have HS2:=Z (show r2=true->0<=sz from fun h=>by rw[h] at H;unfold bI at H;simp at H;omega);clear H h3 h4 h5;have sN:Hid (∀w L (h:Sat W w L),Fj=true->Calls Tryz.prog 138 #[.agg iv.toArray] w fun e w'=>e= .returned (.bool ps)/\Sat W w' L):=Z (fun w L h H=>Jf.F H w L h);clear Jf
 by_cases Hg:k=1∨k=2
 ·have hr1:bI k 1 2=true:=by unfold bI;simp;omega
  rw[hr1,Bool.true_and] at xV
  cases r2 with
  |false=>
   obtain rfl:Fj=false:=xV.F;obtain rfl:oh=false:=wR.F;clear hr1 h0
   rcases Hg with rfl|rfl<;>(go_enter Tryz.func116,Tryz.ntmps116;go_wp2_with (first|(refine bV O ?_;clear O;intro px J O;rw[aS] at O)|(refine aH O aa G0.F ?_)|(refine aH O aa G1.F ?_)|(refine aH O aa G2.out ?_)|(refine aH O aa G3.F ?_)|(refine aH O aa G4.F ?_)|(go_at_call 137;refine ak (lS.F _) ?_;rintro J rfl)|(go_at_call 137;refine ak (lD.F _) ?_;rintro J rfl)|(go_at_call 137;refine ak (lQ.F _) ?_;rintro J rfl)|(go_at_call 137;refine ak (dP.F _) ?_;rintro J rfl)|(go_at_call 138;refine ak (sN.F _ _ O) ?_;clear O;intro J O)|(refine aU ?_;refine rE O _ _ (by rfl) _ _ (by rfl) (aI (by rfl)) (bz (by rfl)) aa (by rw[dI.F];exact aZ _) ?_;rw[kz,dF (by rw[dI.F];exact aZ _)]));go_ret;first|exact⟨rfl,O.drop⟩|(rw[zS.F];exact⟨rfl,O.drop⟩))
  |true=>
   cases r3 with
   |false=>
    obtain rfl:Fj=false:=xV.F;obtain rfl:oh=false:=wR.F;clear hr1 h0
    rcases Hg with rfl|rfl<;>(go_enter Tryz.func116,Tryz.ntmps116;go_wp2_with (first|(refine bV O ?_;clear O;intro px J O;rw[aS] at O)|(refine aH O aa G0.F ?_)|(refine aH O aa G1.F ?_)|(refine aH O aa G2.out ?_)|(refine aH O aa G3.F ?_)|(refine aH O aa G4.F ?_)|(go_at_call 137;refine ak (lS.F _) ?_;rintro J rfl)|(go_at_call 137;refine ak (lD.F _) ?_;rintro J rfl)|(go_at_call 137;refine ak (lQ.F _) ?_;rintro J rfl)|(go_at_call 137;refine ak (dP.F _) ?_;rintro J rfl)|(go_at_call 138;refine ak (sN.F _ _ O) ?_;clear O;intro J O)|(refine aU ?_;refine rE O _ _ (by rfl) _ _ (by rfl) (aI (by rfl)) (bz (by rfl)) aa (by rw[dI.F];exact aZ _) ?_;rw[kz,dF (by rw[dI.F];exact aZ _)]));go_ret;first|exact⟨rfl,O.drop⟩|(rw[zS.F];exact⟨rfl,O.drop⟩))
   |true=>
    cases r4 with
    |false=>
     obtain rfl:Fj=false:=xV.F;obtain rfl:oh=false:=wR.F;clear hr1 h0
     rcases Hg with rfl|rfl<;>(go_enter Tryz.func116,Tryz.ntmps116;go_wp2_with (first|(refine bV O ?_;clear O;intro px J O;rw[aS] at O)|(refine aH O aa G0.F ?_)|(refine aH O aa G1.F ?_)|(refine aH O aa G2.out ?_)|(refine aH O aa G3.F ?_)|(refine aH O aa G4.F ?_)|(go_at_call 137;refine ak (lS.F _) ?_;rintro J rfl)|(go_at_call 137;refine ak (lD.F _) ?_;rintro J rfl)|(go_at_call 137;refine ak (lQ.F _) ?_;rintro J rfl)|(go_at_call 137;refine ak (dP.F _) ?_;rintro J rfl)|(go_at_call 138;refine ak (sN.F _ _ O) ?_;clear O;intro J O)|(refine aU ?_;refine rE O _ _ (by rfl) _ _ (by rfl) (aI (by rfl)) (bz (by rfl)) aa (by rw[dI.F];exact aZ _) ?_;rw[kz,dF (by rw[dI.F];exact aZ _)]));go_ret;first|exact⟨rfl,O.drop⟩|(rw[zS.F];exact⟨rfl,O.drop⟩))
    |true=>
     cases r5 with
     |false=>
      obtain rfl:Fj=false:=xV.F;obtain rfl:oh=false:=wR.F;clear hr1 h0
      rcases Hg with rfl|rfl<;>(go_enter Tryz.func116,Tryz.ntmps116;go_wp2_with (first|(refine bV O ?_;clear O;intro px J O;rw[aS] at O)|(refine aH O aa G0.F ?_)|(refine aH O aa G1.F ?_)|(refine aH O aa G2.out ?_)|(refine aH O aa G3.F ?_)|(refine aH O aa G4.F ?_)|(go_at_call 137;refine ak (lS.F _) ?_;rintro J rfl)|(go_at_call 137;refine ak (lD.F _) ?_;rintro J rfl)|(go_at_call 137;refine ak (lQ.F _) ?_;rintro J rfl)|(go_at_call 137;refine ak (dP.F _) ?_;rintro J rfl)|(go_at_call 138;refine ak (sN.F _ _ O) ?_;clear O;intro J O)|(refine aU ?_;refine rE O _ _ (by rfl) _ _ (by rfl) (aI (by rfl)) (bz (by rfl)) aa (by rw[dI.F];exact aZ _) ?_;rw[kz,dF (by rw[dI.F];exact aZ _)]));go_ret;first|exact⟨rfl,O.drop⟩|(rw[zS.F];exact⟨rfl,O.drop⟩))
     |true=>
      obtain rfl:Fj=true:=xV.F;replace sN:Hid (∀w L (h:Sat W w L),Calls Tryz.prog 138 #[.agg iv.toArray] w fun e w'=>e= .returned (.bool ps)/\Sat W w' L):=Z (fun w L h=>sN.F w L h rfl);have hs0:=HS2.F rfl;have hm:Int.tmod sz 128=sz % 128:=Int.tmod_eq_emod_of_nonneg hs0;clear hr1 h0 xV
      rcases Hg with rfl|rfl
      ·obtain rfl:oh=true:=wR.F;have zS:=Z (show(true&&ps)=ps from Bool.true_and _);clear hm hs0
       (go_enter Tryz.func116,Tryz.ntmps116;go_wp2_with (first|(refine bV O ?_;clear O;intro px J O;rw[aS] at O)|(refine aH O aa G0.F ?_)|(refine aH O aa G1.F ?_)|(refine aH O aa G2.out ?_)|(refine aH O aa G3.F ?_)|(refine aH O aa G4.F ?_)|(go_at_call 137;refine ak (lS.F _) ?_;rintro J rfl)|(go_at_call 137;refine ak (lD.F _) ?_;rintro J rfl)|(go_at_call 137;refine ak (lQ.F _) ?_;rintro J rfl)|(go_at_call 137;refine ak (dP.F _) ?_;rintro J rfl)|(go_at_call 138;refine ak (sN.F _ _ O) ?_;clear O;intro J O)|(refine aU ?_;refine rE O _ _ (by rfl) _ _ (by rfl) (aI (by rfl)) (bz (by rfl)) aa (by rw[dI.F];exact aZ _) ?_;rw[kz,dF (by rw[dI.F];exact aZ _)]));go_ret;first|exact⟨rfl,O.drop⟩|(rw[zS.F];exact⟨rfl,O.drop⟩))
      ·obtain⟨m,hm2⟩:=au (sz % 128);rw[hm2] at hm wR;clear hm2 hs0
       by_cases hl1:lk=1
       ·subst hl1
        by_cases hm0:m=0
        ·subst hm0;obtain rfl:oh=true:=wR.F;have zS:=Z (show(true&&ps)=ps from Bool.true_and _)
         (go_enter Tryz.func116,Tryz.ntmps116;go_wp2_with (first|(refine bV O ?_;clear O;intro px J O;rw[aS] at O)|(refine aH O aa G0.F ?_)|(refine aH O aa G1.F ?_)|(refine aH O aa G2.out ?_)|(refine aH O aa G3.F ?_)|(refine aH O aa G4.F ?_)|(go_at_call 137;refine ak (lS.F _) ?_;rintro J rfl)|(go_at_call 137;refine ak (lD.F _) ?_;rintro J rfl)|(go_at_call 137;refine ak (lQ.F _) ?_;rintro J rfl)|(go_at_call 137;refine ak (dP.F _) ?_;rintro J rfl)|(go_at_call 138;refine ak (sN.F _ _ O) ?_;clear O;intro J O)|(refine aU ?_;refine rE O _ _ (by rfl) _ _ (by rfl) (aI (by rfl)) (bz (by rfl)) aa (by rw[dI.F];exact aZ _) ?_;rw[kz,dF (by rw[dI.F];exact aZ _)]));go_ret;first|exact⟨rfl,O.drop⟩|(rw[zS.F];exact⟨rfl,O.drop⟩))
        ·have e7:(m==0)=false:=dH.2 hm0;have e8:(m != 0)=true:=bne_iff_ne.2 hm0;obtain rfl:oh=false:=by have:=wR.F;rw[e7] at this;exact this
         clear hm0
         (go_enter Tryz.func116,Tryz.ntmps116;go_wp2_with (first|(refine bV O ?_;clear O;intro px J O;rw[aS] at O)|(refine aH O aa G0.F ?_)|(refine aH O aa G1.F ?_)|(refine aH O aa G2.out ?_)|(refine aH O aa G3.F ?_)|(refine aH O aa G4.F ?_)|(go_at_call 137;refine ak (lS.F _) ?_;rintro J rfl)|(go_at_call 137;refine ak (lD.F _) ?_;rintro J rfl)|(go_at_call 137;refine ak (lQ.F _) ?_;rintro J rfl)|(go_at_call 137;refine ak (dP.F _) ?_;rintro J rfl)|(go_at_call 138;refine ak (sN.F _ _ O) ?_;clear O;intro J O)|(refine aU ?_;refine rE O _ _ (by rfl) _ _ (by rfl) (aI (by rfl)) (bz (by rfl)) aa (by rw[dI.F];exact aZ _) ?_;rw[kz,dF (by rw[dI.F];exact aZ _)]));go_ret;first|exact⟨rfl,O.drop⟩|(rw[zS.F];exact⟨rfl,O.drop⟩))
       ·have e7:(lk==1)=false:=dH.2 hl1;have e8:(lk != 1)=true:=bne_iff_ne.2 hl1;obtain rfl:oh=false:=by have:=wR.F;rw[e7] at this;exact this
        clear hl1
        (go_enter Tryz.func116,Tryz.ntmps116;go_wp2_with (first|(refine bV O ?_;clear O;intro px J O;rw[aS] at O)|(refine aH O aa G0.F ?_)|(refine aH O aa G1.F ?_)|(refine aH O aa G2.out ?_)|(refine aH O aa G3.F ?_)|(refine aH O aa G4.F ?_)|(go_at_call 137;refine ak (lS.F _) ?_;rintro J rfl)|(go_at_call 137;refine ak (lD.F _) ?_;rintro J rfl)|(go_at_call 137;refine ak (lQ.F _) ?_;rintro J rfl)|(go_at_call 137;refine ak (dP.F _) ?_;rintro J rfl)|(go_at_call 138;refine ak (sN.F _ _ O) ?_;clear O;intro J O)|(refine aU ?_;refine rE O _ _ (by rfl) _ _ (by rfl) (aI (by rfl)) (bz (by rfl)) aa (by rw[dI.F];exact aZ _) ?_;rw[kz,dF (by rw[dI.F];exact aZ _)]));go_ret;first|exact⟨rfl,O.drop⟩|(rw[zS.F];exact⟨rfl,O.drop⟩))
 ·have hr1:bI k 1 2=false:=by unfold bI;simp;omega
  rw[hr1,Bool.false_and] at xV;obtain rfl:Fj=false:=xV.F;obtain rfl:oh=false:=wR.F;have e1:(k != 1)=true:=bne_iff_ne.2 (by omega);have e2:(k != 2)=true:=bne_iff_ne.2 (by omega);clear hr1 h0 Hg
  (go_enter Tryz.func116,Tryz.ntmps116;go_wp2_with (first|(refine bV O ?_;clear O;intro px J O;rw[aS] at O)|(refine aH O aa G0.F ?_)|(refine aH O aa G1.F ?_)|(refine aH O aa G2.out ?_)|(refine aH O aa G3.F ?_)|(refine aH O aa G4.F ?_)|(go_at_call 137;refine ak (lS.F _) ?_;rintro J rfl)|(go_at_call 137;refine ak (lD.F _) ?_;rintro J rfl)|(go_at_call 137;refine ak (lQ.F _) ?_;rintro J rfl)|(go_at_call 137;refine ak (dP.F _) ?_;rintro J rfl)|(go_at_call 138;refine ak (sN.F _ _ O) ?_;clear O;intro J O)|(refine aU ?_;refine rE O _ _ (by rfl) _ _ (by rfl) (aI (by rfl)) (bz (by rfl)) aa (by rw[dI.F];exact aZ _) ?_;rw[kz,dF (by rw[dI.F];exact aZ _)]));go_ret;first|exact⟨rfl,O.drop⟩|(rw[zS.F];exact⟨rfl,O.drop⟩))
attribute [local irreducible] Sep.fJ
def Ip8 (W:World) (L:List aA) (x:aL) (px:Nat) (v4 v3:Value) (wz:World):Prop:=
 ∃k:Nat,v4= .int .i64 (k:Int)/\k<=32/\Sat W wz (Sl 5 1 v3 (uu x k).length (bv (uu x k))::Cs px 78 (inv x)::L)
theorem OI (O:Sat W w L) (x:aL) (V:kD x):Calls Tryz.prog 38 #[.agg (inv x).toArray] w fun e w'=>∃v,e= .returned v/\Sat W w' (Sl 5 1 v 128 (bv (encI x))::L):=by
 have HX:=Z V;have eX:=Z V.pl;have tY:=Z (show(inv x).length=37 by rw[fe,V.pl]);have g0:(inv x)[0]? =some (.int .i64 x.kind):=rfl
 have g1:(inv x)[1]? =some (.int .i64 x.size):=rfl
 have g2:(inv x)[2]? =some (.int .i64 x.links):=rfl
 have g3:(inv x)[3]? =some (.int .i64 x.obj):=rfl
 have g4:(inv x)[4]? =some (.int .i64 x.node):=rfl
 have G0:=Z g0;have G1:=Z g1;have G2:=Z g2;have G3:=Z g3;have G4:=Z g4;have q0:=V.kd;have q1:=V.sz;have q2:=V.lk;have q3:=V.ob;have q4:=V.nd;obtain⟨q01,q02⟩:=q0;obtain⟨q11,q12⟩:=q1;obtain⟨q21,q22⟩:=q2;obtain⟨q31,q32⟩:=q3;obtain⟨q41,q42⟩:=q4;have Qu:=Z (JE x V.pl);clear g0 g1 g2 g3 g4 V;obtain⟨iv,dA⟩:=au (inv x);rw[dA] at G0 G1 G2 G3 G4 tY ⊢;go_enter Tryz.func38,Tryz.ntmps38
 go_wp2_with (first
  |(refine bV O ?_;clear O;intro px J O;rw[aS] at O)
  |(refine aH O aa G0.F ?_)
  |(go_at_call 78;refine(qD O x.kind (by omega) (by omega) 1 (by omega)).mono ?_;clear O;rintro e J ⟨v1,rfl,O⟩))
 (refine ll (pO [0,1]<|rO [2]<|pO [5]<|rO [6]<|aO [3,4,7,8]<|pO [9]<| .e) [7,8] O (fun _ h=>h.one hz1) ?_;clear O;intro J O)
 repeat (first
  |(refine bG O ?_;go_frame)
  |(refine bR O ?_;(first|refine bK aa G1.F ?_|refine bK aa G2.out ?_);go_frame)
  |(refine bY fun K hK=>?_;(first
   |(refine cK (qD O x.size (by omega) (by omega) 2 (by omega)) ?_;clear O;rintro e J ⟨v2,rfl,O⟩;refine⟨_,rfl,?_⟩)
   |(refine cK (qD O x.links (by omega) (by omega) 2 (by omega)) ?_;clear O;rintro e J ⟨v2,rfl,O⟩;refine⟨_,rfl,?_⟩)
   |((refine Ac O _ _ _ _ (by rfl) (by rfl) (by rfl) (bS (by rfl)) (by rfl) (by rfl) (by rfl) (dO (by rfl)) hz1 aa (by simp only[bP,fK];omega) ?_;clear O;intro v1 J O;dsimp only[aD,aN] at O);replace O:=O.drop));refine hK.gu O ?_;clear hK K;go_frame))
 refine bO ?_;go_wp2
 (refine ll (pO [0,1]<|rO [2]<|pO [5]<|rO [6]<|aO [3,4,7,8]<|pO [9]<| .e) [7,8] O (fun _ h=>h.one hz1) ?_;clear O;intro J O)
 repeat (first
  |(refine bG O ?_;go_frame)
  |(refine bR O ?_;(first|refine bK aa G3.F ?_|refine bK aa G4.F ?_);go_frame)
  |(refine bY fun K hK=>?_;(first
   |(refine cK (qD O x.obj (by omega) (by omega) 3 (by omega)) ?_;clear O;rintro e J ⟨v2,rfl,O⟩;refine⟨_,rfl,?_⟩)
   |(refine cK (qD O x.node (by omega) (by omega) 3 (by omega)) ?_;clear O;rintro e J ⟨v2,rfl,O⟩;refine⟨_,rfl,?_⟩)
   |((refine Ac O _ _ _ _ (by rfl) (by rfl) (by rfl) (bS (by rfl)) (by rfl) (by rfl) (by rfl) (dO (by rfl)) hz1 aa (by simp only[bP,fK];omega) ?_;clear O;intro v1 J O;dsimp only[aD,aN] at O);replace O:=O.drop));refine hK.gu O ?_;clear hK K;go_frame))
 refine bO ?_;rw[XQ] at O;have H0:=Z O;clear O;go_wp2;go_loopw [4,3] (fun v4 v3 wz=>Ip8 W L x px v4 v3 wz) (fun v4 _ _=>32-(intOf v4).toNat)
 case atStart=>exact⟨0,rfl,by decide,by rw[dA];exact H0.F⟩
 case round=>
  clear H0;obtain⟨k,rfl,hk,O⟩:=hrel;rw[dA] at O
  by_cases hlt:k<32
  ·have k1:(k:Int)<32:=by omega
   have ay:=Z hlt;obtain⟨p,hp⟩:∃p,x.ptrs[k]? =some p:=⟨_,aR (by have:=eX.F;omega)⟩
   have hpr:=Fq HX.F hp;obtain⟨hp1,hp2⟩:=hpr;have GP:=Z (xA hp);rw[dA] at GP;have HN:=Z (XP x hp);have aM:=Z (CX x (k:=k) (by have:=eX.F;omega));clear hp hlt hk
   go_wp2_with (first
    |(refine aH O hz1 GP.F ?_)
    |(go_at_call 78;refine(qD O p (by omega) (by omega) 2 (by omega)).mono ?_;clear O;rintro e J ⟨v1,rfl,O⟩)
    |(at_builtin;refine aU ?_;(refine Ac O _ _ _ _ (by rfl) (by rfl) (by rfl) (bS (by rfl)) (by rfl) (by rfl) (by rfl) (dO (by rfl)) hz1 aa (by have:=aM.F;have:=ay.F;rw[fK];omega) ?_;clear O;intro v1 J O;dsimp only[aD,aN] at O)))
   rw[HN.F] at O;exact⟨⟨k+1,by go_num,ay.F,by rw[dA];exact O.drop⟩,Z9 ay.F⟩
  ·obtain rfl:k=32:=by omega
   have aM:=Z (CX x (k:=32) (by have:=eX.F;omega));clear hlt hk
   go_wp2_with (go_at_call 80;refine(KJ O 128 (by have:=aM.F;omega) (by omega)).mono ?_;clear O;rintro e J ⟨v3,rfl,O⟩)
   rw[Qu.F] at O;go_ret;exact⟨_,rfl,O.bW.drop⟩
theorem Ip (O:Sat W w L) {b:List UInt8} (hb:b.length=128) (ao:Option Addr) (c:Nat) (hr:∀w,Sat W w L->Rd w (.slice ao 128 c) 128 1 (bv b)) {a v:Int} {t n:Nat} (ha:a=(t:Nat)) (hn:1<=n) (hn2:n<=7) (hv:((fV b t n:Nat):Int)=v):
  Calls Tryz.prog 112 #[.slice ao 128 c, .int .i64 a, .int .i64 n] w fun e w'=>∃ok,e= .returned (.tuple #[.int .i64 v, .bool ok])/\w=w':=by
 subst hv;have h:=mQ O ao c b (by rw[hb];exact hr) a t n ha hn hn2 (by omega);rw[hb] at h;exact h
def Ig8 (W:World) (L:List aA) (x:aL) (p2 p4:Nat) (v5:Value) (wz:World):Prop:=
 ∃k:Nat,v5= .int .i64 (k:Int)/\k<=32/\Sat W wz (Cs p4 78 (inv (upto x k))::Cs p2 78 (inv bC)::L)
theorem amn (O:Sat W w L) (x:aL) (V:kD x) (ao:Option Addr) (c:Nat) (hr:∀w L',Sat W w (L'++L)->Rd w (.slice ao 128 c) 128 1 (bv (encI x))):
  Calls Tryz.prog 83 #[.slice ao 128 c] w fun e w'=>e= .returned (.tuple #[.agg (inv x).toArray, .bool true])/\Sat W w' L:=by
 have HZ:=Z (show nU Tryz.prog 78=some (some (.agg (inv bC).toArray)) by kernel_rfl);have HR:=Z hr;have HX:=Z V;have hbl:=CY x V.pl;have PW:=Z (fun w A B (h:Sat W w (A::B::L))=>Ip h hbl ao c (fun w h=>hr w [_,_] h) (a:=0) (t:=0) (n:=1) rfl (by decide) (by decide) (XR V));have FW:=Z (fun w A B (h:Sat W w (A::B::L))=>Ip h hbl ao c (fun w h=>hr w [_,_] h) (a:=1) (t:=1) (n:=2) rfl (by decide) (by decide) (XT V));have I5:=Z (fun w A B (h:Sat W w (A::B::L))=>Ip h hbl ao c (fun w h=>hr w [_,_] h) (a:=3) (t:=3) (n:=2) rfl (by decide) (by decide) (XU V));have PX:=Z (fun w A B (h:Sat W w (A::B::L))=>Ip h hbl ao c (fun w h=>hr w [_,_] h) (a:=5) (t:=5) (n:=3) rfl (by decide) (by decide) (XV V));have PY:=Z (fun w A B (h:Sat W w (A::B::L))=>Ip h hbl ao c (fun w h=>hr w [_,_] h) (a:=8) (t:=8) (n:=3) rfl (by decide) (by decide) (XW V));have P6:=Z (fun w A B (h:Sat W w (A::B::L)) k p (hp:x.ptrs[k]? =some p) (a:Int) (ha:a=((11+2*k:Nat):Int))=>Ip h hbl ao c (fun w h=>hr w [_,_] h) (a:=a) (t:=11+2*k) (n:=2) ha (by decide) (by decide) (XX V hp));have eX:=Z V.pl;have Eg:=Z (ac2 x);have QG:=Z (acZ V.pl);have CK:=Z (fun k (h:k<=32)=>ac0 V.pl h);have Jk:=Z (fun k p (h:x.ptrs[k]? =some p)=>ac1 V.pl h);clear V hr hbl;obtain⟨zv,hz⟩:=au (inv bC);have fQ:=Z (show zv.length=37 by rw[<-hz];rfl);have HZO:=Z (show ∀u∈zv,u.oneCell'=true by rw[<-hz];exact inv_one _);rw[hz] at HZ Eg;go_enter Tryz.func83,Tryz.ntmps83
 go_wp2_with (first
  |(refine dU (show Sat W _ L from O) ?_ (hz:=HZ.F);clear O;intro p2 J O;rw[aS] at O)
  |(refine dU (show Sat W _ (_::L) from O) ?_ (hz:=HZ.F);clear O;intro p4 J O;rw[aS] at O)
  |(go_at_call 112;refine(PW.F _ _ _ O).mono ?_;rintro e J ⟨ok1,rfl,rfl⟩)
  |(go_at_call 112;refine(FW.F _ _ _ O).mono ?_;rintro e J ⟨ok1,rfl,rfl⟩)
  |(go_at_call 112;refine(I5.F _ _ _ O).mono ?_;rintro e J ⟨ok1,rfl,rfl⟩)
  |(go_at_call 112;refine(PX.F _ _ _ O).mono ?_;rintro e J ⟨ok1,rfl,rfl⟩)
  |(go_at_call 112;refine(PY.F _ _ _ O).mono ?_;rintro e J ⟨ok1,rfl,rfl⟩)
  |(refine eT zv O aa ?_ (hy:=by rw[<-hz];rfl) (hv:=HZO.F) (hn:=by rw[fQ.F];exact bz (by rfl));clear O;intro J O;rw[aD] at O)
  |(refine iA O aa ?_ (hb:=by(try simp only[gV]);rw[fQ.F];decide);clear O;intro J O;rw[aD] at O))
 rw[Eg.F] at O;have H0:=Z O;clear O HZ Eg;go_loopw [5] (fun v5 wz=>Ig8 W L x p2 p4 v5 wz) (fun v5 _=>32-(intOf v5).toNat)
 case atStart=>exact⟨0,rfl,by decide,by rw[hz];exact H0.F⟩
 case round=>
  clear H0;obtain⟨k,rfl,hk,O⟩:=hrel;rw[hz] at O
  by_cases hlt:k<32
  ·have k1:(k:Int)<32:=by omega
   have ay:=Z hlt;obtain⟨p,hp⟩:∃p,x.ptrs[k]? =some p:=⟨_,aR (by have:=eX.F;omega)⟩
   have HP:=Z hp;clear hp hlt hk
   go_wp2_with (first
    |(go_at_call 112;refine(P6.F _ _ _ O k p HP.F _ (by omega)).mono ?_;rintro e J ⟨ok1,rfl,rfl⟩)
    |(refine iA O aa ?_ (hb:=by rw[CK.F k (Nat.le_of_lt ay.F)];have:=ay.F;omega);clear O;intro J O;rw[aD,Jk.F k p HP.F] at O))
   exact⟨⟨k+1,by go_num,ay.F,by rw[hz];exact O⟩,by have:=ay.F;simp[intOf];omega⟩
  ·obtain rfl:k=32:=by omega
   rw[QG.F] at O;have HC:=Z (fun w L (h:Sat W w L)=>TL h x HX.F.pl HX.F.zero);rw[NZ HX.F] at HC;have HP:=Z (fun w L (h:Sat W w L)=>OI h x HX.F);have HI1:=Z (inv_one x);have dI:=Z (show(inv x).length=37 by rw[fe,eX.F]);obtain⟨d,hd⟩:=au (encI x);have e9:(d==d)=true:=by simp
   have e8:(d != d)=false:=by simp
   obtain⟨iv,dA⟩:=au (inv x);rw[hd] at HR HP;rw[dA] at O HC HP HI1 dI;clear hlt hk hd hz;go_wp2
   (refine cB (rO [0]<|aO [1]<|pO [2,3]<|rO [4]<|pO [7]<|rO [8]<|aO [5]<|rO [6]<|pO [9,10]<| .e) [1] O ?_;clear O;intro J O)
   repeat (first
    |(refine bG O ?_;go_frame)
    |(refine sK O ?_;go_frame)
    |(refine bR O ?_;(first
       |refine lY aa iv ?_ (hvs:=by rw[kz,dF (by rw[dI.F];exact aZ _)]) (hb:=dI.F)
       |refine⟨_,xM _ _ _ (by rfl) _ (by rfl) jI (l:=d) (fun u hu=>by first|exact HR.F _ [_,_] hu|exact HR.F _ [_,_,_] hu|exact hu.dY aa),?_⟩);go_frame)
    |(refine bY fun K hK=>?_;(first
       |(refine jy (HC.F _ _ O) ?_;clear O;intro J O)
       |(refine cK (HP.F _ _ O) ?_;clear O;rintro e J ⟨v2,rfl,O⟩;refine⟨_,rfl,?_⟩));refine hK.go O ?_;clear hK K;go_frame))
   refine bO ?_
   go_wp2_with (first
    |(refine dm O hz1 iv ?_ (hvs:=by rw[kz,dF (by rw[dI.F];exact aZ _)]) (hb:=dI.F))
    |(refine kW iv O hz2 ?_ (hv:=HI1.F) (hn:=by rw[dI.F];exact bz (by rfl)) (hb:=by rw[dI.F,fQ.F];exact aZ _);clear O;intro J O;dsimp only[aD,aN] at O;rw[List.take_zero,iP,oJ (by rw[dI.F,fQ.F];exact aZ _),kv] at O))
   refine Ae O rfl (by rfl) (aI (by rfl)) (bz (by rfl)) hz2 dI.F rfl ?_;exact⟨by rw[dA];rfl,O.drop.drop.drop⟩
def RpG (W:World) (L:List aA) (U:Nat->Bool) (gone taken:List Nat) (vt vm vn v15:Value) (wz:World):Prop:=
 ∃i:Nat,v15= .int .i64 (i:Int)/\i<=gone.length/\Sat W wz (Sl 4 1 vm 1024 (mb (mP U (gone.take i)))::Sl 4 1 vn 1024 (mb (mP U (gone.take i)))::Ir vt taken::L)
def RpT (W:World) (L:List aA) (U:Nat->Bool) (taken:List Nat) (vt vn v17:Value) (wz:World):Prop:=
 ∃i:Nat,v17= .int .i64 (i:Int)/\i<=taken.length/\Sat W wz (Sl 4 1 vn 1024 (mb (tq U (taken.take i)))::Ir vt taken::L)
theorem abS (O:Sat W w L) (U:Nat->Bool) (p off c b n:Nat) (hb:b<=1024) (hn:n<=(bT U b).length) (hr:∀w L',Sat W w (L'++L)->Rd w (.slice (some ⟨p,off,none⟩) 128 c) 128 1 (bv (cO U)))
  (gone:List Nat) (ag:Option Addr) (cg:Nat) (hgr:∀w L',Sat W w (L'++L)->Rd w (.slice ag gone.length cg) gone.length 1 (iv gone)) (hg:Ba U b gone) (hgl:gone.length<=2000):
  Calls Tryz.prog 89 #[.slice (some ⟨p,off,none⟩) 128 c, .int .i64 (b:Int), .int .i64 (n:Int), .slice ag gone.length cg] w fun e w'=>Mj W L (mP U gone) ((bT U b).take n) e w':=by
 have hfl:=M8 U b;have HT0:=OL O U p off c b n hb (by omega) hr;rw[bL hn] at HT0;have HT:Hid (Calls Tryz.prog 94 #[.slice (some ⟨p,off,none⟩) 128 c, .int .i64 (b:Int), .int .i64 (n:Int)] w fun e w'=>∃v,e= .returned (.tuple #[v, .bool true])/\Sat W w' (Ir v ((bT U b).take n)::L)):=Z (HT0.mono fun e w' ⟨v,I,H,_⟩=>⟨v,I,H hn⟩);have HMP:=Z (fun w A (h:Sat W w (A::L))=>OG h U p off c (fun w L' h=>hr w (L'++[A]) (by rw[dX];exact h)));have uO:=Z hgr;have HG:=Z hg;obtain⟨_,_,he,hc1,hc2,_,h5⟩:=hgr w [] O;obtain⟨rfl,rfl⟩:=gq he;have H5:=Z h5;have lT:=Z (show((bT U b).take n).length<=1024 by rw[jr];omega);have Jj:=Z (show ∀g∈(bT U b).take n,g<1024 from fun g hg=>by have:=Yo U b (List.mem_of_mem_take hg);omega);have HB:=Z (show(b:Int)<=1024 by omega);have jg:=Z qz;obtain⟨taken,ht⟩:=au ((bT U b).take n);rw[ht] at HT lT Jj ⊢;have gli:(gone.length:Int)<=9223372036854775807:=by omega
 clear ht hr hgr hg h5 hc1 hc2 hb hn hgl hfl HT0;go_enter Tryz.func89,Tryz.ntmps89
 go_wp2_with (first
  |(go_at_call 94;refine HT.F.mono ?_;clear O;rintro e J ⟨vt,rfl,O⟩;obtain⟨at_,ct,rfl,_⟩:=O.mg aa)
  |(go_at_call 33;refine(HMP.F _ _ O).mono ?_;clear O;rintro e J ⟨vm,rfl,O⟩;obtain⟨yE,mo,mc,rfl,_⟩:=O.kV (k:=0) rfl (by decide))
  |(at_builtin;refine aU ?_;refine ap (O.kJ (E:=4) (sz:=1)) _ _ _ _ (by rfl) _ _ (by rfl) (by rfl) (bS (by rfl)) (by rfl) (by omega) (dO (by rfl)) aa (m:=1024) (by exact .inl (O.dY aa)) (Kc _) (by omega) (by omega) ?_;clear O;intro vn J O;rw[aD] at O))
 have hS2:Sat W _ (Sl 4 1 vn 1024 (mb U)::Sl 4 1 (.slice (some ⟨yE,mo,none⟩) 1024 mc) 1024 (mb U)::Ir (.slice at_ taken.length ct) taken::L):=O;obtain⟨nb_,no,nc,rfl,_⟩:=hS2.kV (k:=0) rfl (by decide);have H0:=Z (hS2.re [1]);clear O hS2;go_loopw [15] (fun v15 wz=>RpG W L U gone taken (.slice at_ taken.length ct) (.slice (some ⟨yE,mo,none⟩) 1024 mc) (.slice (some ⟨nb_,no,none⟩) 1024 nc) v15 wz) (fun v15 _=>iV gone.length v15)
 case atStart=>exact⟨0,rfl,eG _,H0.F⟩
 case round=>
  clear H0;obtain⟨i,rfl,hi,O⟩:=hrel
  by_cases hlt:i<gone.length
  ·have k1:(i:Int)< (gone.length:Int):=by omega
   have ay:=Z hlt;obtain⟨g,hg⟩:∃g,gone[i]? =some g:=⟨_,aR hlt⟩
   obtain⟨I,H,_⟩:=HG.F.gU g (bJ hg);have hb:=HB.F;have HY:=Z (xC (mP U (gone.take i)) (show g<1024 by omega));rw[HG.F.still hg] at HY;have HE:=Z (yF (mP U (gone.take i)) false (show g<1024 by omega));rw[ZX hg] at HE;obtain⟨gb,go_,rfl,_⟩:=H5.F (by omega);have HX:=Z (qw hg);have iB:=Z (uO.F _ [_,_,_] O);have e1:decide ((g:Int)<74)=false:=bf (by omega);have e2:decide ((b:Int)<=(g:Int))=false:=bf (by omega);have e3:decide (b<=g)=false:=bf (by omega);have e4:decide (g<74)=false:=bf (by omega);have e5:decide ((1024:Int)<=(g:Int))=false:=bf (by omega);have e6:decide (1024<=g)=false:=bf (by omega);have fU:=Z (show g<1024 by omega);have g1:(g:Int)<1024:=by omega
   clear hg I H hlt hi hb
   go_wp2_with (first
    |(refine bN (fF iB.F _ _ (by rfl) _ (by rfl) (aI (by rfl)) i (by omega) HX.F (by have:=ay.F;omega)) ?_)
    |(refine aU ?_;refine SL O _ _ (by rfl) _ _ (by rfl) (aI (by rfl)) aa g (by omega) HY.F ?_)
    |(refine aU ?_;refine Cf O _ _ _ (by rfl) _ _ (by rfl) _ (by first|exact sV|exact rA (by rfl)) (by rfl) (bz (by rfl)) aa g (by omega) (by rw[jg.F];exact fU.F) ?_;clear O;intro J O;rw[aD,HE.F] at O)
    |(refine aU ?_;refine Cf O _ _ _ (by rfl) _ _ (by rfl) _ (by first|exact sV|exact rA (by rfl)) (by rfl) (bz (by rfl)) hz1 g (by omega) (by rw[jg.F];exact fU.F) ?_;clear O;intro J O;rw[aN,aD,HE.F] at O))
   exact⟨⟨i+1,by go_num,ay.F,O⟩,fZ ay.F⟩
  ·obtain rfl:i=gone.length:=by omega
   have k1:¬(gone.length:Int)< (gone.length:Int):=by omega
   rw[List.take_length] at O;have tli:(taken.length:Int)<=9223372036854775807:=by have:=lT.F;omega
   clear hlt hi;go_wp2;have R5:=O.drop;have H1:=Z ((show ∀w,Sat W w (Sl 4 1 (.slice (some ⟨nb_,no,none⟩) 1024 nc) 1024 (mb (mP U gone))::Ir (.slice at_ taken.length ct) taken::L)->Sat W w (Sl 4 1 (.slice (some ⟨nb_,no,none⟩) 1024 nc) 1024 (mb (tq (mP U gone) (taken.take 0)))::Ir (.slice at_ taken.length ct) taken::L) from fun _ h=>h) _ R5);obtain⟨_,_,he,_,_,_,h5⟩:=R5.oG hz1;obtain⟨rfl,rfl⟩:=gq he;have H6:=Z h5;clear O R5 h5;go_loopw [17] (fun v17 wz=>RpT W L (mP U gone) taken (.slice at_ taken.length ct) (.slice (some ⟨nb_,no,none⟩) 1024 nc) v17 wz) (fun v17 _=>iV taken.length v17)
   case atStart=>exact⟨0,rfl,eG _,H1.F⟩
   case round=>
    clear H1;obtain⟨i,rfl,hi,O⟩:=hrel
    by_cases hlt:i<taken.length
    ·have k2:(i:Int)< (taken.length:Int):=by omega
     have ay:=Z hlt;obtain⟨g,hg⟩:∃g,taken[i]? =some g:=⟨_,aR hlt⟩
     have I:=Jj.F g (bJ hg);have HE:=Z (yF (tq (mP U gone) (taken.take i)) true I);rw[aat hg] at HE;obtain⟨tb,Pm,rfl,_⟩:=H6.F (by omega);have HX:=Z (qw hg);have iB:=Z (O.oG hz1);have g1:(g:Int)<1024:=by omega
     have fU:=Z I;clear hg I hlt hi
     go_wp2_with (first
      |(refine bN (fF iB.F _ _ (by rfl) _ (by rfl) (aI (by rfl)) i (by omega) HX.F (by have:=ay.F;omega)) ?_)
      |(refine aU ?_;refine Cf O _ _ _ (by rfl) _ _ (by rfl) _ (by first|exact sV|exact rA (by rfl)) (by rfl) (bz (by rfl)) aa g (by omega) (by rw[jg.F];exact fU.F) ?_;clear O;intro J O;rw[aD,HE.F] at O))
     exact⟨⟨i+1,by go_num,ay.F,O⟩,fZ ay.F⟩
    ·obtain rfl:i=taken.length:=by omega
     have k2:¬(taken.length:Int)< (taken.length:Int):=by omega
     rw[List.take_length] at O;have vK:=Z (Oq O (tq (mP U gone) taken) (some ⟨nb_,no,none⟩) nc (fun w L' h=>h.dY (Nl _ _ _)));clear hlt hi O
     go_wp2_with (go_at_call 36;refine vK.F.mono ?_;rintro e J ⟨vb,rfl,O⟩)
     go_ret3
     exact⟨_,_,rfl,(O.re [1,2,0]).drop⟩
theorem amA (O:Sat W w L) (U:Nat->Bool) (p off c b n:Nat) (hb:b<=1024) (hn:(bT U b).length<n) (hn2:n<=1000000) (hr:∀w L',Sat W w (L'++L)->Rd w (.slice (some ⟨p,off,none⟩) 128 c) 128 1 (bv (cO U))) (gv:Value):
  Calls Tryz.prog 89 #[.slice (some ⟨p,off,none⟩) 128 c, .int .i64 (b:Int), .int .i64 (n:Int),gv] w fun e w'=>e= .returned (.tuple #[.slice none 0 0, .slice none 0 0, .bool false])/\Sat W w' L:=by
 have hno:¬n<=(bT U b).length:=by omega
 have HT0:=OL O U p off c b n hb hn2 hr;rw[bf hno] at HT0;have HT:Hid (Calls Tryz.prog 94 #[.slice (some ⟨p,off,none⟩) 128 c, .int .i64 (b:Int), .int .i64 (n:Int)] w fun e w'=>∃v,e= .returned (.tuple #[v, .bool false])/\Sat W w' L):=Z (HT0.mono fun e w' ⟨v,I,_,H⟩=>⟨v,I,H hno⟩);clear HT0 hr hb hn hno;go_enter Tryz.func89,Tryz.ntmps89
 go_wp2_with (go_at_call 94;refine HT.F.mono ?_;clear O;rintro e J ⟨vt,rfl,O⟩)
 go_ret3
 exact⟨rfl,O⟩
end Go.Proofs.YtjbiihbicknemaaGreat
