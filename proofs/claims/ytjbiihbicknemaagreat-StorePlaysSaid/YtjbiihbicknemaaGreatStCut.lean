/-
  Part of the proof of StoreWhole.
-/
import Derived.Test.YtjbiihbicknemaaGreatMTak
set_option linter.unusedSimpArgs false
set_option linter.unusedVariables false
set_option maxRecDepth 20000
set_option maxHeartbeats 40000000
namespace Go.Proofs.YtjbiihbicknemaaGreat
open Go.RowKit Go.Sep
variable {W w:World} {L:List aA}
attribute [local irreducible] Oper.wp wpList Calls Code.wp Sep.dR
theorem ahV (O:Sat W w L) (S:Nat->Bool) (p off c b:Nat) (hb:b<=1024) (h0:0<b) (hr:∀w L',Sat W w (L'++L)->Rd w (.slice (some ⟨p,off,none⟩) 128 c) 128 1 (bv (cO S))):
    Calls Tryz.prog 87 #[.slice (some ⟨p,off,none⟩) 128 c, .int .i64 (b:Int)] w fun e w'=>e= .returned (.int .i64 (((bT S b).length:Nat):Int))/\Sat W w' L:=by
  have HA:=Z (Uh O S p off c b hb h0 hr)
  have hok:=(O1 S hb).1
  have hsum:=Ug S hb
  have hle:=JK S b
  have HB:=Z (fun w (ao:Option Addr) (c:Nat) (h:Sat W w (qh (.slice ao (spansOf S b).length c) (spansOf S b)::L))=>Us h (spansOf S b) hok (by omega) ao c (fun w h=>Sat.KU h aa))
  rw[hsum] at HB
  clear hr hb hok hsum hle
  go_enter Tryz.func87,Tryz.ntmps87
  go_wp2_with (first
    |(go_at_call 107;refine HA.F.mono ?_;clear O;rintro e J ⟨v,rfl,O⟩;obtain⟨ao,cc,rfl,_⟩:=Sat.O0 O aa)
    |(go_at_call 119;refine ak (HB.F _ _ _ O) ?_;rintro J rfl))
  go_ret
  exact⟨rfl,O.drop⟩
def aoU (l:List (Nat×Nat)) (v29:Value):Nat:=l.length-(intOf v29).toNat
def adB (W:World) (L:List aA) (l:List (Nat×Nat)) (n:Nat) (v29 v1 v7 v8:Value) (wz:World):Prop:=
  ∃k:Nat,v29= .int .i64 (k:Int)/\k<=l.length/\v1= .int .i64 (((nM l n k).n:Nat):Int)/\Sat W wz (qh v8 (nM l n k).R::qh v7 (nM l n k).T::L)
theorem ani (O:Sat W w L) (l:List (Nat×Nat)) (hl:vR l) (hs:nR l<=1100) (n:Nat) (hn:n<=nR l) (ao:Option Addr) (c:Nat) (hr:∀w L',Sat W w (L'++L)->Rd w (.slice ao l.length c) l.length 1 (l.map ja)) (hll:l.length<=1100):
    Calls Tryz.prog 106 #[.slice ao l.length c, .int .i64 (n:Int)] w fun e w'=>∃v1 v2,e= .returned (.tuple #[v1,v2, .bool true])/\Sat W w' (qh v1 (JA l n)::L):=by
  have HO:=Z (TB O l hl ao c (fun w h=>hr w [] h))
  have iD:=Z (Us O l hl hs ao c (fun w h=>hr w [] h))
  have hni:(n:Int)<=1100:=by omega
  have hnn:¬((n:Int)<0):=by omega
  have hn1:decide ((n:Int)<0)=false:=bf hnn
  have hn2:decide (((nR l:Nat):Int)< (n:Int))=false:=bf (by omega)
  have hn3:decide (nR l<n)=false:=bf (by omega)
  have hsi:((nR l:Nat):Int)<=1100:=by omega
  have HR:=Z (fun w L' h=>hr w L' h)
  have H0:=Z (Uf (Uf O))
  have bq:=Z (fun k h=>MV l hl.pos n k h)
  have HP:=Z (hl.pos)
  have jO:=Z hll
  obtain⟨_,_,he,hc1,hc2,_,h5⟩:=hr w [] O
  obtain⟨rfl,rfl⟩:=gq he
  have H5:=Z h5
  have pM:(l.length:Int)<=9223372036854775807:=by omega
  clear hr h5 hl hc1 hs hn hll O
  go_enter Tryz.func106,Tryz.ntmps106
  go_wp2_with (first
    |(go_at_call 131;refine HO.F.mono ?_;rintro e J ⟨rfl,rfl⟩)
    |(go_at_call 119;refine iD.F.mono ?_;rintro e J ⟨rfl,rfl⟩))
  go_loopw [29,1,7,8] (fun v29 v1 v7 v8 wz=>adB W L l n v29 v1 v7 v8 wz) (fun v29 _ _ _ _=>l.length-(intOf v29).toNat)
  case atStart=>exact⟨0,rfl,eG _,rfl,H0.F⟩
  case round=>
    clear H0
    obtain⟨k,rfl,hk,rfl,O⟩:=hrel
    have ho:=bq.F k hk
    have lT:=Z (show(nM l n k).T.length<=l.length by have:=ho.tl;simp at this;omega)
    have gB:=Z (show(nM l n k).R.length<=l.length by have:=ho.rl;simp at this;omega)
    have hrn:(((nM l n k).n:Nat):Int)<=(n:Int):=by have:=ho.left;omega
    clear ho
    by_cases hlt:k<l.length
    · have k1:(k:Int)< (l.length:Int):=by omega
      have ay:=Z hlt
      obtain⟨b,off,rfl,_⟩:=H5.F (by omega)
      obtain⟨⟨a,m⟩,V⟩:∃x,l[k]? =some x:=⟨_,aR hlt⟩
      have hp:=HP.F _ (bJ V)
      have HX:=Z (O3 V)
      have hn':=Xu (n:=n) V
      have HE:=Z (fun w=>Rw (a:=a) (n:=m) (by exact hp.2) (by exact hp.1) w)
      dsimp only at hp
      obtain⟨⟨r,T,R⟩,hc⟩:∃x,nM l n k=x:=⟨_,rfl⟩
      rw[hc] at hn' lT gB hrn O ⊢
      dsimp only at lT gB hrn O ⊢
      unfold Rl CW MU at hn'
      dsimp only at hn'
      obtain⟨u,hu⟩:=au (ja (a,m))
      have hu1:∃x y,u= .complex .f64 x y:=⟨_,_,hu.symm⟩
      by_cases hA:m<=r
      · have HS:=Z (show nM l n (k+1)=⟨r-m,T++[(a,m)],R⟩ by rw[hn',show min m r=m by omega,if_pos (by omega),if_neg (by omega)])
        have HB:=Z (fun w=>MC (a:=a) (b:=a+m) (by omega) (by omega) w)
        rw[show a+m-a=m by omega,show yI (a,m)=ja (a,m) from if_pos hp.1] at HB
        obtain⟨z,hz⟩:∃z:Int,((a+m:Nat):Int)=z:=⟨_,rfl⟩
        rw[hz] at HE HB
        have z1:z<=(a:Int)+(m:Int):=by omega
        have z2:(a:Int)+(m:Int)<=z:=by omega
        have z3:(m:Int)<=(r:Int):=by omega
        have hmin:min z ((a:Int)+(r:Int))=z:=Int.min_eq_left (by omega)
        have z4:(1:Int)<=(m:Int):=by omega
        have z5:(a:Int)+(m:Int)<=1100:=by omega
        rw[hu] at HX HE
        obtain⟨ux,uy,rfl⟩:=hu1
        clear V hp hlt hk hu hz hA hn' hc
        go_wp2_with (first
          |(refine bN (fF (HR.F _ [_,_] O) _ _ (by rfl) _ (by rfl) (aI (by rfl)) k (by omega) HX.F (by have:=ay.F;omega)) ?_)
          |(go_at_call 108;refine ak (HE.F _) ?_;rintro J rfl)
          |(go_at_call 132;refine ak (HB.F _) ?_;rintro J rfl)
          |(refine il [ja (a,m)] O ?_ (hc:=by simp[ja,Value.cells]);clear O;intro b1 J O;rw[jC rfl] at O)
          |(at_builtin;refine aU ?_;refine Gn O _ _ _ _ (by rfl) (by rfl) (by rfl) (bS (by rfl)) (by rfl) (by rfl) (by rfl) (dO (by rfl)) hz2 (m:=[(a,m)]) (by exact O.jc (sz:=1) aa (by decide) rfl) (by have:=lT.F;have:=gB.F;have:=jO.F;simp;omega) ?_;clear O;intro v2 J O;dsimp only[aD,aN] at O;replace O:=O.drop))
        exact⟨⟨k+1,by go_num,ay.F,by rw[HS.F];exact congrArg (Value.int IntKind.i64) (by dsimp only;omega),by rw[HS.F];exact O⟩,by have:=ay.F;simp[intOf];omega⟩
      · by_cases h0:r=0
        · subst h0
          have HS:=Z (show nM l n (k+1)=⟨0,T,R++[(a,m)]⟩ by rw[hn',show min m 0=0 by omega,if_neg (by omega),if_pos (by omega)];rfl)
          have HB:=Z (fun w=>MC (a:=a) (b:=a+m) (by omega) (by omega) w)
          rw[show a+m-a=m by omega,show yI (a,m)=ja (a,m) from if_pos hp.1] at HB
          obtain⟨z,hz⟩:∃z:Int,((a+m:Nat):Int)=z:=⟨_,rfl⟩
          rw[hz] at HE HB
          have z1:z<=(a:Int)+(m:Int):=by omega
          have z2:(a:Int)+(m:Int)<=z:=by omega
          have hmin:min z (a:Int)=(a:Int):=Int.min_eq_right (by omega)
          have apR:min z ((a:Int)+0)=(a:Int):=by rw[Int.add_zero];exact hmin
          have z4:(1:Int)<=(m:Int):=by omega
          have z5:(a:Int)+(m:Int)<=1100:=by omega
          rw[hu] at HX HE
          obtain⟨ux,uy,rfl⟩:=hu1
          clear V hp hlt hk hu hz hA hn' hc
          go_wp2_with (first
          |(refine bN (fF (HR.F _ [_,_] O) _ _ (by rfl) _ (by rfl) (aI (by rfl)) k (by omega) HX.F (by have:=ay.F;omega)) ?_)
            |(go_at_call 108;refine ak (HE.F _) ?_;rintro J rfl)
            |(go_at_call 132;refine ak (HB.F _) ?_;rintro J rfl)
          |(refine il [ja (a,m)] O ?_ (hc:=by simp[ja,Value.cells]);clear O;intro b1 J O;rw[jC rfl] at O)
          |(at_builtin;refine aU ?_;refine Gn O _ _ _ _ (by rfl) (by rfl) (by rfl) (bS (by rfl)) (by rfl) (by rfl) (by rfl) (dO (by rfl)) hz1 (m:=[(a,m)]) (by exact O.jc (sz:=1) aa (by decide) rfl) (by have:=lT.F;have:=gB.F;have:=jO.F;simp;omega) ?_;clear O;intro v2 J O;dsimp only[aD,aN] at O;replace O:=O.drop))
          exact⟨⟨k+1,by go_num,ay.F,by rw[HS.F];exact congrArg (Value.int IntKind.i64) (by dsimp only;omega),by rw[HS.F];exact O⟩,by have:=ay.F;simp[intOf];omega⟩
        · have HS:=Z (show nM l n (k+1)=⟨0,T++[(a,r)],R++[(a+r,m-r)]⟩ by rw[hn',show min m r=r by omega,if_pos (by omega),if_pos (by omega),Nat.sub_self])
          have HB:=Z (fun w=>MC (a:=a) (b:=a+r) (by omega) (by omega) w)
          rw[show a+r-a=r by omega,show yI (a,r)=ja (a,r) from if_pos (by show 1<=r;omega),show((a+r:Nat):Int)=(a:Int)+(r:Int) by omega] at HB
          have HC:=Z (fun w=>MC (a:=a+r) (b:=a+m) (by omega) (by omega) w)
          rw[show a+m-(a+r)=m-r by omega,show yI (a+r,m-r)=ja (a+r,m-r) from if_pos (by show 1<=m-r;omega),show((a+r:Nat):Int)=(a:Int)+(r:Int) by omega] at HC
          obtain⟨z,hz⟩:∃z:Int,((a+m:Nat):Int)=z:=⟨_,rfl⟩
          rw[hz] at HE HC
          have z1:z<=(a:Int)+(m:Int):=by omega
          have z2:(a:Int)+(m:Int)<=z:=by omega
          have z3:(r:Int)< (m:Int):=by omega
          have hmin:min z ((a:Int)+(r:Int))=(a:Int)+(r:Int):=Int.min_eq_right (by omega)
          have z4:(1:Int)<=(r:Int):=by omega
          have z5:(a:Int)+(m:Int)<=1100:=by omega
          rw[hu] at HX HE
          obtain⟨ux,uy,rfl⟩:=hu1
          clear V hp hlt hk hu hz hA hn' hc h0
          go_wp2_with (first
          |(refine bN (fF (HR.F _ [_,_] O) _ _ (by rfl) _ (by rfl) (aI (by rfl)) k (by omega) HX.F (by have:=ay.F;omega)) ?_)
            |(go_at_call 108;refine ak (HE.F _) ?_;rintro J rfl)
            |(go_at_call 132;refine ak (HB.F _) ?_;rintro J rfl)
            |(go_at_call 132;refine ak (HC.F _) ?_;rintro J rfl)
          |(refine il [ja (a,r)] O ?_ (hc:=by simp[ja,Value.cells]);clear O;intro b1 J O;rw[jC rfl] at O)
          |(at_builtin;refine aU ?_;refine Gn O _ _ _ _ (by rfl) (by rfl) (by rfl) (bS (by rfl)) (by rfl) (by rfl) (by rfl) (dO (by rfl)) hz2 (m:=[(a,r)]) (by exact O.jc (sz:=1) aa (by decide) rfl) (by have:=lT.F;have:=gB.F;have:=jO.F;simp;omega) ?_;clear O;intro v2 J O;dsimp only[aD,aN] at O;replace O:=O.drop)
          |(refine il [ja (a+r,m-r)] O ?_ (hc:=by simp[ja,Value.cells]);clear O;intro b1 J O;rw[jC rfl] at O)
          |(at_builtin;refine aU ?_;refine Gn O _ _ _ _ (by rfl) (by rfl) (by rfl) (bS (by rfl)) (by rfl) (by rfl) (by rfl) (dO (by rfl)) hz1 (m:=[(a+r,m-r)]) (by exact O.jc (sz:=1) aa (by decide) rfl) (by have:=lT.F;have:=gB.F;have:=jO.F;simp;omega) ?_;clear O;intro v2 J O;dsimp only[aD,aN] at O;replace O:=O.drop))
          exact⟨⟨k+1,by go_num,ay.F,by rw[HS.F];exact congrArg (Value.int IntKind.i64) (by dsimp only;omega),by rw[HS.F];exact O⟩,by have:=ay.F;simp[intOf];omega⟩
    · obtain rfl:k=l.length:=by omega
      have k1:¬(l.length:Int)< (l.length:Int):=by omega
      clear hlt lT gB hrn hk
      go_wp2
      go_ret3
      exact⟨_,⟨_,rfl⟩,O.drop⟩
theorem anj (O:Sat W w L) (l:List (Nat×Nat)) (hl:vR l) (hs:nR l<=1100) (n:Nat) (hn:nR l<n) (ao:Option Addr) (c:Nat) (hr:∀w,Sat W w L->Rd w (.slice ao l.length c) l.length 1 (l.map ja)):
    Calls Tryz.prog 106 #[.slice ao l.length c, .int .i64 (n:Int)] w fun e w'=>e= .returned (.tuple #[.slice none 0 0, .slice none 0 0, .bool false])/\w=w':=by
  have HO:=Z (TB O l hl ao c hr)
  have iD:=Z (Us O l hl hs ao c hr)
  have hnn:¬((n:Int)<0):=by omega
  have hn1:decide ((n:Int)<0)=false:=bf hnn
  have hn2:decide (((nR l:Nat):Int)< (n:Int))=true:=bL (by omega)
  have hn3:decide (nR l<n)=true:=bL (by omega)
  clear hr hl hs hn
  go_enter Tryz.func106,Tryz.ntmps106
  go_wp2_with (first
    |(go_at_call 131;refine HO.F.mono ?_;rintro e J ⟨rfl,rfl⟩)
    |(go_at_call 119;refine iD.F.mono ?_;rintro e J ⟨rfl,rfl⟩))
  go_ret3
  try exact⟨rfl,rfl⟩
end Go.Proofs.YtjbiihbicknemaaGreat
