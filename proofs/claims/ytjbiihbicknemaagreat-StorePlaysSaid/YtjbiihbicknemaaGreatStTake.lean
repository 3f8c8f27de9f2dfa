/-
  Part of the proof of StoreWhole.
-/
import Derived.Test.YtjbiihbicknemaaGreatStCut
set_option linter.unusedSimpArgs false
set_option linter.unusedVariables false
set_option maxRecDepth 20000
set_option maxHeartbeats 40000000
namespace Go.Proofs.YtjbiihbicknemaaGreat
open Go.RowKit Go.Sep
variable {W w:World} {L:List aA}
attribute [local irreducible] Oper.wp wpList Calls Code.wp Sep.dR
theorem ahH {T:List (Nat×Nat)} {k:Nat} {x:Nat×Nat} (h:T[k]? =some x):flat (T.take (k+1))=flat (T.take k)++List.range' x.1 x.2:=by
 rw[ik,h,Option.toList_some,GA];obtain⟨a,m⟩:=x;rw[JH]
theorem ahF (T:List (Nat×Nat)) (k:Nat):(flat (T.take k)).length<=(flat T).length:=by
 conv=>rhs;rw[<-rR k T,GA,bP]
 omega
theorem Nl (L' L:List aA) (A:aA):Has (L'++A::L) L'.length A:=by
 induction L' with
 |nil=>exact aa
 |cons x L' ih=>exact Has.s ih
def Wj (T:List (Nat×Nat)) (v28:Value):Nat:=T.length-(intOf v28).toNat
def TkI (W:World) (L:List aA) (T:List (Nat×Nat)) (vt:Value) (v28 v11:Value) (wz:World):Prop:=
 ∃k:Nat,v28= .int .i64 (k:Int)/\k<=T.length/\Sat W wz (Ir v11 (flat (T.take k))::qh vt T::L)
def TjI (W:World) (L:List aA) (T:List (Nat×Nat)) (vt:Value) (k a m:Nat) (v16 v11:Value) (wz:World):Prop:=
 ∃j:Nat,v16= .int .i64 ((a:Int)+(j:Int))/\j<=m/\Sat W wz (Ir v11 (flat (T.take k)++List.range' a j)::qh vt T::L)
theorem anO {T:List (Nat×Nat)} {k a m j:Nat} (V:T[k]? =some (a,m)) (hf:(flat T).length<=1100) (hm:m<=1100) (hj:j<=m):(flat (T.take k)++List.range' a j).length+1<=17592186044416:=by
 have:=ahF T k;rw[bP,List.length_range'];omega
theorem acI (O:Sat W w L) (S:Nat->Bool) (p off c b n:Nat) (hb:b<=1024) (h0:0<b) (hn:n<=(bT S b).length) (hr:∀w L',Sat W w (L'++L)->Rd w (.slice (some ⟨p,off,none⟩) 128 c) 128 1 (bv (cO S))):
  Calls Tryz.prog 66 #[.slice (some ⟨p,off,none⟩) 128 c, .int .i64 (b:Int), .int .i64 (n:Int)] w fun e w'=>∃v,e= .returned (.tuple #[v, .bool true])/\Sat W w' (Ir v ((bT S b).take n)::L):=by
 have HA:=Z (Uh O S p off c b hb h0 hr);obtain⟨hok,hfl⟩:=O1 S hb;have hsum:=Ug S hb;have hle:=JK S b;have hsl:(spansOf S b).length<=1100:=by have:=ack S b (b+1);unfold spansOf;omega
 have HC:=Z (fun w (ao:Option Addr) (c:Nat) (h:Sat W w (qh (.slice ao (spansOf S b).length c) (spansOf S b)::L))=>ani h (spansOf S b) hok (by omega) n (by omega) ao c (fun w L' h=>Sat.KU (k:=L'.length) h (Nl _ _ _)) hsl);have hT:=agY (spansOf S b) hok.pos n;rw[hfl] at hT;have R6:=ag0 (spansOf S b) hok.pos n;have YX:=agZ (spansOf S b) hok.pos n;obtain⟨T,hTe⟩:=au (JA (spansOf S b) n);rw[hTe] at hT R6 YX HC;have P5:=Z (show(flat T).length<=1100 by rw[hT,jr];omega);have HT:=Z hT;have HTP:=Z R6;have lT:=Z (show T.length<=1100 by omega);clear hTe YX R6 hT hsl hle hsum hfl hok hr hb;go_enter Tryz.func66,Tryz.ntmps66
 go_wp2_with (first
  |(go_at_call 107;refine HA.F.mono ?_;clear O;rintro e J ⟨v,rfl,O⟩;obtain⟨ao,cc,rfl,_⟩:=Sat.O0 O aa)
  |(go_at_call 106;refine(HC.F _ _ _ O).mono ?_;clear O;rintro e J ⟨vt,v2,rfl,O⟩;obtain⟨Wx,ct,rfl,_⟩:=Sat.O0 O aa))
 have H0:=Z O.wh;obtain⟨L2,hL2⟩:=au (qh (.slice ao (spansOf S b).length cc) (spansOf S b)::L);have HQ:=Z (show ∀w A,Sat W w (A::L2)->Sat W w (A::L) from fun w A h=>by rw[<-hL2] at h;exact h.bW.drop);rw[hL2] at O H0;clear hL2;have HRR:=Z (fun w A (h:Sat W w (A::qh (.slice Wx T.length ct) T::L2))=>Sat.KU h hz1);obtain⟨_,_,he,hc1,hc2,_,h5⟩:=Sat.KU O aa;obtain⟨rfl,rfl⟩:=gq he;have H5:=Z h5;have pM:(T.length:Int)<=9223372036854775807:=by have:=lT.F;omega
 clear h5 O hc1 hc2;go_loopw [28,11] (fun v28 v11 wz=>TkI W L2 T (.slice Wx T.length ct) v28 v11 wz) (fun v28 _ _=>Wj T v28)
 case atStart=>exact⟨0,rfl,eG _,H0.F⟩
 case round=>
  clear H0;obtain⟨k,rfl,hk,O⟩:=hrel
  by_cases hlt:k<T.length
  ·have k1:(k:Int)< (T.length:Int):=by omega
   have ay:=Z hlt;obtain⟨pb,po,rfl,_⟩:=H5.F (by omega);obtain⟨⟨a,m⟩,V⟩:∃x,T[k]? =some x:=⟨_,aR hlt⟩
   have hp:=HTP.F _ (bJ V);have HX:=Z (O3 V);have HN:=Z (ahH V);have ad6:=Z (fun j h=>anO (j:=j) V P5.F (by dsimp only at hp;omega) h);have HE:=Z (fun w=>Rw (a:=a) (n:=m) (by exact hp.2) (by exact hp.1) w);dsimp only at hp HN;obtain⟨z,hz⟩:∃z:Int,((a+m:Nat):Int)=z:=⟨_,rfl⟩;rw[hz] at HE;have z1:z<=(a:Int)+(m:Int):=by omega
   have z2:(a:Int)+(m:Int)<=z:=by omega
   have z5:(a:Int)+(m:Int)<=1100:=by omega
   obtain⟨u,hu⟩:=au (ja (a,m));have hu1:∃x y,u= .complex .f64 x y:=⟨_,_,hu.symm⟩;rw[hu] at HX HE;obtain⟨ux,uy,rfl⟩:=hu1;clear V hp hlt hk hu hz
   go_wp2_with (first
    |(refine bN (fF (HRR.F _ _ O) _ _ (by rfl) _ (by rfl) (aI (by rfl)) k (by omega) HX.F (by have:=ay.F;omega)) ?_)
    |(go_at_call 108;refine ak (HE.F _) ?_;rintro J rfl))
   have H1:=Z O;clear O;go_loopw [16,11] (fun v16 v11 wz=>TjI W L2 T (.slice (some ⟨pb,po,none⟩) T.length ct) k a m v16 v11 wz) (fun v16 _ _=>a+m-(intOf v16).toNat)
   case atStart=>exact⟨0,by simp,eG _,by rw[show List.range' a 0=[] from rfl,kv];exact H1.F⟩
   case round=>
    clear H1;obtain⟨j,rfl,hj,O⟩:=hrel
    by_cases hjl:j<m
    ·have k2:(a:Int)+(j:Int)<z:=by omega
     have HJ:=Z hjl;clear hj hjl
     go_wp2_with (first
      |(refine il [.int .i64 ((a+j:Nat):Int)] O ?_ (hc:=by simp[Value.cells]);clear O;intro b1 J O;rw[jC rfl] at O)
      |(at_builtin;refine aU ?_;refine rz O _ _ _ _ (by rfl) (by rfl) (by rfl) (bS (by rfl)) (by rfl) (by rfl) (by rfl) (dO (by rfl)) hz1 (m:=[a+j]) (by exact O.jc (sz:=1) aa (by decide) rfl) (ad6.F _ (Nat.le_of_lt HJ.F)) ?_;clear O;intro v2 J O;dsimp only[aD,aN] at O;replace O:=O.drop))
     rw[dX,show List.range' a j++[a+j]=List.range' a (j+1) from(abz a j).symm] at O;exact⟨⟨j+1,by congr 1,HJ.F,O⟩,by have:=HJ.F;simp only[intOf];omega⟩
    ·obtain rfl:j=m:=by omega
     have k2:¬((a:Int)+(j:Int)<z):=by omega
     rw[<-HN.F] at O;clear hj hjl;go_wp2;exact⟨⟨k+1,by go_num,ay.F,O⟩,by have:=ay.F;simp only[Wj,intOf];omega⟩
  ·obtain rfl:k=T.length:=by omega
   have k1:¬(T.length:Int)< (T.length:Int):=by omega
   rw[List.take_length,HT.F] at O;have hS2:=HQ.F _ _ O.bW.drop;clear hlt hk O;go_wp2
   go_ret2
   exact⟨_,rfl,hS2⟩
theorem acM (O:Sat W w L) (S:Nat->Bool) (p off c b n:Nat) (hb:b<=1024) (h0:0<b) (hn:(bT S b).length<n) (hr:∀w L',Sat W w (L'++L)->Rd w (.slice (some ⟨p,off,none⟩) 128 c) 128 1 (bv (cO S))):
  Calls Tryz.prog 66 #[.slice (some ⟨p,off,none⟩) 128 c, .int .i64 (b:Int), .int .i64 (n:Int)] w fun e w'=>e= .returned (.tuple #[.slice none 0 0, .bool false])/\Sat W w' L:=by
 have HA:=Z (Uh O S p off c b hb h0 hr);obtain⟨hok,hfl⟩:=O1 S hb;have hsum:=Ug S hb;have hle:=JK S b;have HC:=Z (fun w (ao:Option Addr) (c:Nat) (h:Sat W w (qh (.slice ao (spansOf S b).length c) (spansOf S b)::L))=>anj h (spansOf S b) hok (by omega) n (by omega) ao c (fun w h=>Sat.KU h aa));clear hle hsum hfl hok hr hb;go_enter Tryz.func66,Tryz.ntmps66
 go_wp2_with (first
  |(go_at_call 107;refine HA.F.mono ?_;clear O;rintro e J ⟨v,rfl,O⟩;obtain⟨ao,cc,rfl,_⟩:=Sat.O0 O aa)
  |(go_at_call 106;refine ak (HC.F _ _ _ O) ?_;rintro J rfl))
 have O:=O.drop;go_loopw [28,11] (fun v28 v11 wz=>v28= .int .i64 0/\v11= .slice none 0 0/\Sat W wz L) (fun _ _ _=>0)
 case atStart=>exact⟨rfl,rfl,O⟩
 case round=>
  clear O;obtain⟨rfl,rfl,O⟩:=hrel;go_wp2
  go_ret2
  exact⟨rfl,O⟩
end Go.Proofs.YtjbiihbicknemaaGreat
