/-
  Part of the proof of StoreWhole.
-/
import Derived.Test.YtjbiihbicknemaaGreatMRpt
set_option linter.unusedSimpArgs false
set_option linter.unusedVariables false
set_option maxRecDepth 20000
set_option maxHeartbeats 40000000
namespace Go.Proofs.YtjbiihbicknemaaGreat
open Go.RowKit Go.Sep
variable {W w:World} {L:List aA}
attribute [local irreducible] Oper.wp wpList Calls Code.wp Sep.dR

theorem ajG {x:Int} {U:Nat} (h:(U:Int)=x % 18446744073709551616) (k:Nat) (hk:k<8):Value.int .u8 (((U / 256 ^ k:Nat):Int) % 256)=u8 (lb x k):=by
 unfold u8;rw[J6];congr 1
 match k,hk with
 |0,_=>simp;omega
 |1,_=>simp;omega
 |2,_=>simp;omega
 |3,_=>simp;omega
 |4,_=>simp;omega
 |5,_=>simp;omega
 |6,_=>simp;omega
 |7,_=>simp;omega
theorem qD (O:Sat W w L) (x:Int) (hx1: -9223372036854775808<=x) (hx2:x<=9223372036854775807) (n:Nat) (hn:n<=7):
  Calls Tryz.prog 78 #[.int .i64 x, .int .i64 n] w fun e w'=>∃v',e= .returned v'/\Sat W w' (Sl 5 1 v' (le x n).length (bv (le x n))::L):=by
 have i1:(n:Int)<=7:=by omega
 have H0:Hid (Sat W w (Sl 5 1 (.slice none 0 0) (le x 0).length (bv (le x 0))::L)):=Z (O.kJ (E:=5) (sz:=1));go_enter Tryz.func78,Tryz.ntmps78;obtain⟨U,Nk⟩:∃U:Nat,(U:Int)=x % 18446744073709551616:=⟨(x % 18446744073709551616).toNat,by omega⟩;have hU:IntKind.u64.wrap x=(U:Int):=by rw[Nk];simp[IntKind.wrap,IntKind.bits,IntKind.signed]
 have HU:=Z hU;have vQ:=Z Nk;have CK:U<=18446744073709551615:=by omega
 have aeR:=Z CK;clear hU Nk CK;go_wp2;rw[HU.F];go_loopw [7,5,6] (fun vi vb vu wz=>∃k:Nat,k<=n/\vi= .int .i64 k/\vu= .int .u64 ((U / 256 ^ k:Nat):Int)/\Sat W wz (Sl 5 1 vb (le x k).length (bv (le x k))::L)) (fun vi _ _ _=>n-(intOf vi).toNat)
 case atStart=>exact⟨0,by omega,rfl,by simp,H0.F⟩
 case round=>
  clear H0 O;obtain⟨k,hk,rfl,rfl,O⟩:=hrel
  by_cases hlt:k<n
  ·have j1:(k:Int)< (n:Int):=by omega
   have j2:(k:Int)<8:=by omega
   have hle:U / 256 ^ k<=U:=Nat.div_le_self _ _;have hnx:U / 256 ^ (k+1)=U / 256 ^ k / 256:=by rw[Nat.pow_succ,Nat.div_div_eq_div_mul]
   have hby:=ajG vQ.F k (by omega);have hln:(le x k).length<=8:=by rw[fK];omega
   obtain⟨y,hy⟩:=au (U / 256 ^ k);rw[hy] at hle hnx hby ⊢;have hy2:(y:Int)<=18446744073709551615:=by have:=aeR.F;omega
   have dJ:=Z hnx;have vK:=Z hby;clear hy hle hnx hby
   go_wp2_with (first
    |(refine il [.int .u8 ((y:Int) % 256)] O ?_ (hc:=by simp[Value.cells]);clear O;intro b1 J O;rw[jC rfl,vK.F] at O)
    |(at_builtin;refine aU ?_;refine ap O _ _ _ _ (by rfl) _ _ (by rfl) (by rfl) (bS (by rfl)) (by rfl) (by decide) (dO (by rfl)) hz1 (m:=1) (by exact .inl (O.jc (sz:=1) aa (by decide) rfl)) (by simp[u8,Value.oneCell']) (by omega) (by omega) ?_;clear O;intro v2 J O;rw[MJ,NH _ (lb x k),<-le_succ] at O;dsimp only[aD,aN] at O))
   exact⟨⟨k+1,by omega,by go_num,by rw[dJ.F];simp,O.drop⟩,by simp[intOf];omega⟩
  ·obtain rfl:k=n:=by omega
   go_wp2;go_ret;exact⟨_,rfl,O⟩
theorem KJ {v:Value} {l:List UInt8} (O:Sat W w (Sl 5 1 v l.length (bv l)::L)) (n:Nat) (hl:l.length<=n) (hn:n<=1000000):
  Calls Tryz.prog 80 #[v, .int .i64 n] w fun e w'=>∃v',e= .returned v'/\Sat W w' (Sl 5 1 v' n (bv (rG l n))::L):=by
 have i2:(n:Int)<=1000000:=by omega
 have HU0:=Z (show Value.int .u8 0=u8 0 by simp[u8]);have H0:Hid (Sat W w (Sl 5 1 v (l++List.replicate 0 0).length (bv (l++List.replicate 0 0))::L)):=Z (by simpa using O);go_enter Tryz.func80,Tryz.ntmps80;go_wp2;go_loopw [0] (fun vb wz=>∃(k:Nat) (ao:Option Addr) (c:Nat),l.length+k<=n/\vb= .slice ao (l.length+k) c/\Sat W wz (Sl 5 1 vb (l++List.replicate k 0).length (bv (l++List.replicate k 0))::L)) (fun vb _=>match vb with| .slice _ m _=>n-m|_=>0)
 case atStart=>
  obtain⟨ao,c,rfl,_⟩:=O.tK (k:=0) rfl;exact⟨0,ao,c,by omega,rfl,H0.F⟩
 case round=>
  clear H0 O;obtain⟨k,ao,c,hk,rfl,O⟩:=hrel;have aM:=Z (show(l++List.replicate k (0:UInt8)).length=l.length+k by simp);have wW:=Z (show(l++List.replicate k (0:UInt8))++[0]=l++List.replicate (k+1) 0 by rw[dX,<-List.replicate_succ'])
  by_cases hlt:l.length+k<n
  ·have j1:(l.length:Int)+(k:Int)< (n:Int):=by omega
   go_wp2_with (first
    |(refine il [.int .u8 0] O ?_ (hc:=by simp[Value.cells]);clear O;intro b1 J O;rw[jC rfl,HU0.F] at O)
    |(at_builtin;refine aU ?_;refine ap O _ _ _ _ (by rfl) _ _ (by rfl) (by rfl) (bS (by rfl)) (by rfl) (by decide) (dO (by rfl)) hz1 (m:=1) (by exact .inl (O.jc (sz:=1) aa (by decide) rfl)) (by simp[Go.Sep.u8,Value.oneCell']) (by rw[aM.F];omega) (by rw[aM.F];omega) ?_;clear O;intro v2 J O;rw[MJ,NH _ 0,wW.F] at O;dsimp only[aD,aN] at O))
   obtain⟨sS,c2,rfl,_⟩:=O.tK (k:=1) rfl;have e:(l++List.replicate (k+1) (0:UInt8)).length=l.length+(k+1):=by simp
   exact⟨⟨k+1,sS,c2,by omega,by rw[e],O.drop⟩,by simp;omega⟩
  ·have hk2:k=n-l.length:=by omega
   have HE:=Z (show(l++List.replicate k (0:UInt8)).length=n by simp;omega);have HP:=Z (show rG l n=l++List.replicate k 0 by rw[hk2];rfl);have j1:(n:Int)<=(l.length:Int)+(k:Int):=by omega
   clear hk2;go_wp2;go_ret;rw[HP.F];rw[HE.F] at O;exact⟨_,rfl,O⟩
theorem an9 (A:List UInt8) (j:Nat) (h:j<A.length):un (A.drop j)=(A[j]).toNat+256*un (A.drop (j+1)):=by
 rw[List.drop_eq_getElem_cons h,un]
theorem alT (O:Sat W w L) (ao:Option Addr) (c:Nat) (l:List UInt8) (hr:∀w,Sat W w L->Rd w (.slice ao l.length c) l.length 1 (bv l)) (t n:Nat) (hn:1<=n) (hn2:n<=7) (ht:t+n<=l.length) (hl:l.length<=140737488355328):
  Calls Tryz.prog 112 #[.slice ao l.length c, .int .i64 t, .int .i64 n] w fun e w'=>e= .returned (.tuple #[.int .i64 (un ((l.drop t).take n):Nat), .bool true])/\w=w':=by
 have h0:=hr w O;obtain⟨Mt,c',he,hc1,hc2,_,h5⟩:=h0;obtain⟨rfl,rfl⟩:=gq he;obtain⟨b,off,rfl,hcell⟩:=h5 (by omega);have HC:=Z hcell;clear hcell h5;have i1:(1:Int)<=(n:Int):=by omega
 have i2:(n:Int)<=7:=by omega
 have i3:(t:Int)<=(l.length:Int):=by omega
 have i4:(n:Int)<=(l.length:Int)-(t:Int):=by omega
 have i5:(l.length:Int)<=140737488355328:=by omega
 have i6:(t:Int)+(n:Int)<=(c:Int):=by omega
 obtain⟨A,hA⟩:=au ((l.drop t).take n);have EP:A.length=n:=by rw[<-hA];simp;omega
 have HA:=Z hA;have nH:=Z EP;rw[hA];clear hA EP;go_enter Tryz.func112,Tryz.ntmps112;go_wp2
 go_loop [9,8] (fun vi vv=>∃(k:Nat) (i:Int),k<=n/\i=(k:Int)-1/\vi= .int .i64 i/\vv= .int .i64 (un (A.drop k):Nat)) (fun vi _=>(intOf vi+1).toNat)
 case atStart=>exact⟨n,(n:Int)-1,by omega,rfl,rfl,by rw[oJ (by rw[nH.F];exact aZ _)];rfl⟩
 case round=>
  obtain⟨k,i,hk,hi,rfl,rfl⟩:=hrel
  by_cases hlt:0<=i
  ·obtain⟨j,rfl⟩:=Int.eq_ofNat_of_zero_le hlt;obtain rfl:k=j+1:=by omega
   have hjn:j<A.length:=by rw[nH.F];omega
   have hel:A[j]=l[t+j]'(by omega):=by
    have:=HA.F;subst this;simp
   have V:(bv l)[t+j]? =some (u8 (l[t+j]'(by omega))):=by simp only[bv,kY];rw[aR (by omega)];rfl
   have hc0:=HC.F _ _ V;rw[<-Nat.add_assoc] at hc0;have hc1:w.cell? ⟨b,off+(t+j),none⟩=some (.int .u8 ((l[t+j]'(by omega)).toNat:Int)):=by rw[<-Nat.add_assoc];exact hc0
   have hu:=Pp (A.drop (j+1));have hl2:(A.drop (j+1)).length<=6:=by simp[nH.F];omega
   have hp:256 ^ (A.drop (j+1)).length<=281474976710656:=abr (by omega);have hd:=an9 A j hjn;rw[hel] at hd;obtain⟨U,hU⟩:=au (un (A.drop (j+1)));rw[hU] at hu hd ⊢;have Nk:(U:Int)<=281474976710656:=by omega
   have HD:=Z hd;have j1:(t:Int)+(j:Int)< (l.length:Int):=by omega
   have j2:(j:Int)<7:=by omega
   clear hd hU hu hl2 hp hel V hc0 hi;have hbl:=(l[t+j]'(by omega)).toNat_lt;have HW:=Z (show 256*(U:Int)+((l[t+j]'(by omega)).toNat:Int)=((un (A.drop j):Nat):Int) by rw[HD.F];omega);go_wp2;exact⟨⟨j,(j:Int)-1,by omega,rfl,rfl,by rw[HW.F]⟩,by simp[intOf]⟩
  ·obtain rfl:k=0:=by omega
   have hi2:i<0:=by omega
   clear hi hlt;go_wp2
   go_ret2
   exact⟨rfl,rfl⟩
theorem alS (w:World) (ao:Option Addr) (m c:Nat) (at_ n:Int) (h:n<1∨7<n∨at_<0∨(m:Int)<at_∨(m:Int)-at_<n) (hm:(m:Int)<=9223372036854775807):
  Calls Tryz.prog 112 #[.slice ao m c, .int .i64 at_, .int .i64 n] w fun e w'=>e= .returned (.tuple #[.int .i64 0, .bool false])/\w=w':=by
 by_cases I:n<1
 ·go_enter Tryz.func112,Tryz.ntmps112;go_wp2
  go_ret2
  exact⟨rfl,rfl⟩
 by_cases H:7<n
 ·have g1:1<=n:=by omega
  clear h I;go_enter Tryz.func112,Tryz.ntmps112;go_wp2
  go_ret2
  exact⟨rfl,rfl⟩
 by_cases h3:at_<0
 ·have g1:1<=n:=by omega
  have g2:n<=7:=by omega
  clear h I H;go_enter Tryz.func112,Tryz.ntmps112;go_wp2
  go_ret2
  exact⟨rfl,rfl⟩
 obtain⟨t,rfl⟩:=Int.eq_ofNat_of_zero_le (show 0<=at_ by omega)
 by_cases h4:(m:Int)< (t:Int)
 ·have g1:1<=n:=by omega
  have g2:n<=7:=by omega
  clear h I H h3;go_enter Tryz.func112,Tryz.ntmps112;go_wp2
  go_ret2
  exact⟨rfl,rfl⟩
 ·have g1:1<=n:=by omega
  have g2:n<=7:=by omega
  have g3:(t:Int)<=(m:Int):=by omega
  have g4:(m:Int)-(t:Int)<n:=by omega
  clear h I H h3 h4;go_enter Tryz.func112,Tryz.ntmps112;go_wp2
  go_ret2
  exact⟨rfl,rfl⟩
theorem mQ (O:Sat W w L) (ao:Option Addr) (c:Nat) (l:List UInt8) (hr:∀w,Sat W w L->Rd w (.slice ao l.length c) l.length 1 (bv l)) (a:Int) (t n:Nat) (ha:a=(t:Nat)) (hn:1<=n) (hn2:n<=7) (hl:l.length<=140737488355328):
  Calls Tryz.prog 112 #[.slice ao l.length c, .int .i64 a, .int .i64 n] w fun e w'=>∃ok,e= .returned (.tuple #[.int .i64 (fV l t n:Nat), .bool ok])/\w=w':=by
 subst ha;unfold fV
 by_cases h:t+n<=l.length
 ·rw[if_pos h];exact(alT O ao c l hr t n hn hn2 h hl).mono fun e w' ⟨I,H⟩=>⟨_,I,H⟩
 ·rw[if_neg h];exact(alS w ao l.length c t n (by omega) (by omega)).mono fun e w' ⟨I,H⟩=>⟨_,I,H⟩
attribute [local irreducible] Sep.fJ
theorem KL (O:Sat W w L) (l:List bM) (ao:Option Addr) (c:Nat) (hr:∀w,Sat W w L->Rd w (.slice ao l.length c) l.length 3 (l.flatMap rv)) (hb:l.length<=1000000) (next:Int):
  Calls Tryz.prog 37 #[.slice ao l.length c, .int .i64 next] w fun e w'=>∃v',e= .returned v'/\Sat W w' (Sl 5 1 v' (zH l next).length (bv (zH l next))::L):=by
 have HR:Hid (∀w,Sat W w L->Rd w (.slice ao l.length c) l.length 3 (l.flatMap rv)):=Z hr;obtain⟨_,_,he,hc1,hc2,_,h5⟩:=hr w O;obtain⟨rfl,rfl⟩:=gq he;clear hr
 by_cases hlen:15<l.length
 ·have j1:(15:Int)< (l.length:Int):=by omega
  rw[Fy (Tx hlen)];go_enter Tryz.func37,Tryz.ntmps37;go_wp2;go_ret;exact⟨_,rfl,O.kJ⟩
 by_cases hnx:tu next=false
 ·have hne:next≠0:=fun e=>by subst e;exact absurd hnx (by decide)
  have hin:bI next 74 1023=false:=by unfold tu at hnx;simpa [hne] using hnx
  rw[Fy (Ty hnx)];have j1:(l.length:Int)<=15:=by omega
  have e1:(next != 0)=true:=bne_iff_ne.2 hne;clear hlen hnx;go_enter Tryz.func37,Tryz.ntmps37
  go_wp2_with (go_at_call 77;refine ak (gI _ next _ _ hin) ?_;rintro J rfl)
  go_ret;exact⟨_,rfl,O.kJ⟩
 have dJ:=Z (show tu next=true by simpa using hnx);have hrg:=Tu dJ.F
 have hcase:(next != 0)=false∨((next != 0)=true/\bI next 74 1023=true):=by
  by_cases h0:next=0
  ·exact .inl (by subst h0;rfl)
  ·refine .inr ⟨bne_iff_ne.2 h0,?_⟩;have:=dJ.F;unfold tu at this;simpa [h0] using this
 have i5:(l.length:Int)<=15:=by omega
 have Sk:l.length<=15:=by omega
 clear hnx hlen
 rcases hcase with e1|⟨e1,hin⟩
 all_goals
  go_enter Tryz.func37,Tryz.ntmps37
  go_wp2_with (first
   |(go_at_call 77;refine ak (gI _ next _ _ hin) ?_;rintro J rfl)
   |(go_at_call 78;refine(qD O next (by omega) (by omega) 2 (by omega)).mono ?_;clear O;rintro e J ⟨v1,rfl,O⟩)
   |(go_at_call 78;refine(qD O (l.length:Nat) (by omega) (by omega) 1 (by omega)).mono ?_;clear O;rintro e J ⟨v1,rfl,O⟩)
   |(at_builtin;refine aU ?_;(refine Ac O _ _ _ _ (by rfl) (by rfl) (by rfl) (bS (by rfl)) (by rfl) (by rfl) (by rfl) (dO (by rfl)) hz1 aa (by simp only[fK];omega) ?_;clear O;intro v1 J O;dsimp only[aD,aN] at O)))
  have H0:Hid (Sat W _ (Sl 5 1 _ (nk l.length next++(l.take 0).flatMap encR).length (bv (nk l.length next++(l.take 0).flatMap encR))::L)):=Z (by simpa [nk] using O.drop);go_loopw [6,5] (fun vi vb wz=>∃k:Nat,k<=l.length/\vi= .int .i64 k/\(l.take k).all mq=true/\Sat W wz (Sl 5 1 vb (nk l.length next++(l.take k).flatMap encR).length (bv (nk l.length next++(l.take k).flatMap encR))::L)) (fun vi _ _=>l.length-(intOf vi).toNat)
  case atStart=>exact⟨0,by omega,rfl,rfl,H0.F⟩
  case round=>
   clear H0 O;obtain⟨k,hk,rfl,hall,O⟩:=hrel
   by_cases hlt:k<l.length
   ·obtain⟨b,off,rfl,_⟩:=h5 (by omega);obtain⟨⟨xk,xa,xb⟩,V⟩:∃x,l[k]? =some x:=⟨_,aR hlt⟩
    have j1:(k:Int)< (l.length:Int):=by omega
    have HX:=Z V
    by_cases hok:mq ⟨xk,xa,xb⟩=true
    ·have hrx:=TP hok;obtain⟨r1,r2,r3,r4,r5,r6⟩:=hrx;dsimp only at r1 r2 r3 r4 r5 r6;have bq:Hid (sJ xk xa xb=true):=Z hok;have aM:=Z (show(nk l.length next++(l.take k).flatMap encR).length<=200 by rw[bP,Gy,Gz,jr];omega);have QE:=Z (acK (nk l.length next) V);have nH:=Z (show(l.take (k+1)).all mq=true by rw[ik,V];simp[hall,hok]);clear V hall hok
     go_wp2_with (first
      |(refine bN (nz (HR.F _ O.drop) (wH l) _ _ (by rfl) _ (by rfl) (aI (by rfl)) (bz (by rfl)) k (by omega) HX.F (by omega)) ?_)
      |(go_at_call 79;refine(Dx _ W _ O xk xa xb).mono ?_;rintro e J ⟨rfl,hS1⟩;rw[bq.F];clear O;have O:=hS1;clear hS1))
     (refine ll (pO [0,1,2,3,4]<|rO [5]<|pO [8,9,10,11]<|rO [12]<|pO [15,16,17,18]<|rO [19]<|aO [6,7,13,14,20,21]<|pO [22]<| .e) [] O (fun _ h=>h.drop) ?_;clear O;intro J O)
     repeat (first
      |(refine bG O ?_;go_frame)
      |(refine bR O ?_;(first
           |refine⟨_,fun u hu=>fE (HR.F _ hu) (wH l) _ _ (by rfl) _ (by rfl) (aI (by rfl)) k 0 (by omega) HX.F (by rfl) (by omega),?_⟩
           |refine⟨_,fun u hu=>fE (HR.F _ hu) (wH l) _ _ (by rfl) _ (by rfl) (aI (by rfl)) k 1 (by omega) HX.F (by rfl) (by omega),?_⟩
           |refine⟨_,fun u hu=>fE (HR.F _ hu) (wH l) _ _ (by rfl) _ (by rfl) (aI (by rfl)) k 2 (by omega) HX.F (by rfl) (by omega),?_⟩);go_frame)
      |(refine bY fun K hK=>?_;(first
           |(refine cK (qD O xk (by omega) (by omega) 1 (by omega)) ?_;clear O;rintro e J ⟨v2,rfl,O⟩;refine⟨_,rfl,?_⟩)
           |(refine cK (qD O xa (by omega) (by omega) 3 (by omega)) ?_;clear O;rintro e J ⟨v2,rfl,O⟩;refine⟨_,rfl,?_⟩)
           |(refine cK (qD O xb (by omega) (by omega) 3 (by omega)) ?_;clear O;rintro e J ⟨v2,rfl,O⟩;refine⟨_,rfl,?_⟩)
           |((refine Ac O _ _ _ _ (by rfl) (by rfl) (by rfl) (bS (by rfl)) (by rfl) (by rfl) (by rfl) (dO (by rfl)) hz1 aa (by have:=aM.F;simp only[bP,fK] at this ⊢;omega) ?_;clear O;intro v1 J O;dsimp only[aD,aN] at O);replace O:=O.drop));refine hK.gu O ?_;clear hK K;go_frame))
     refine bO ?_;go_wp2;rw[QE.F] at O;exact⟨⟨k+1,by omega,by go_num,nH.F,O⟩,by simp[intOf];omega⟩
    ·have hok:mq ⟨xk,xa,xb⟩=false:=by simpa using hok
     have dx:=Z (aaU (next:=next) V hok);have bq:Hid (sJ xk xa xb=false):=Z hok;clear V hall hok
     go_wp2_with (first
      |(refine bN (nz (HR.F _ O.drop) (wH l) _ _ (by rfl) _ (by rfl) (aI (by rfl)) (bz (by rfl)) k (by omega) HX.F (by omega)) ?_)
      |(go_at_call 79;refine(Dx _ W _ O xk xa xb).mono ?_;rintro e J ⟨rfl,hS1⟩;rw[bq.F];clear O;have O:=hS1;clear hS1))
     go_ret;rw[Fy dx.F];exact⟨_,rfl,O.drop.kJ⟩
   ·obtain rfl:k=l.length:=by omega
    rw[List.take_length] at hall O;have aM:=Z (show(nk l.length next++l.flatMap encR).length<=128 by rw[bP,Gy,Gz];omega);have nY:=Z (show jM l next=true by unfold jM;rw[dJ.F,hall];simp;omega);have HB:=Z (vT next Sk);clear hall
    go_wp2_with (go_at_call 80;refine(KJ O 128 aM.F (by omega)).mono ?_;clear O;rintro e J ⟨v3,rfl,O⟩)
    go_ret;rw[BV nY.F,HB.F];exact⟨_,rfl,O⟩
theorem Tw {l:List bM} {next:Int} (h:jM l next=true):l.length<=15:=by
 unfold jM at h;simp only[ed,decide_eq_true_eq] at h;exact h.1.1
theorem aia {b:List UInt8} (h:lW b=true):b.length=128:=by
 unfold lW at h;simp only[ed,decide_eq_true_eq] at h;have:=vT (oH b) (Tw h.1);rw[h.2] at this;exact this
theorem ah9 {b:List UInt8} (h:lW b=true):fV b 0 1<=15:=by
 unfold lW at h;simp only[ed,decide_eq_true_eq] at h;have:=Tw h.1;rw[parse,OA,EF] at this;omega
theorem ah7 {b:List UInt8} {x:UInt8} (h:b[0]? =some x):fV b 0 1=x.toNat:=by
 cases b with
 |nil=>simp at h
 |cons y b=>simp at h;subst h;simp[fV,un]
theorem Q7 {p:Prop} {b:Bool} (h:b=true->p) (hp:¬p):b=false:=by cases b<;>simp_all
theorem alU (O:Sat W w L) (b:List UInt8) (ao:Option Addr) (c:Nat) (hr:∀w,Sat W w L->Rd w (.slice ao b.length c) b.length 1 (bv b)) (hb:b.length<=140737488355328):
  Calls Tryz.prog 117 #[.slice ao b.length c] w fun e w'=>∃v',e= .returned (.tuple #[v', .int .i64 (BG b), .bool (lW b)])/\Sat W w' (Tb 100 3 rv v' (BF b)::L):=by
 by_cases hlen:b.length=128
 ·obtain⟨x0,hx0⟩:∃x,b[0]? =some x:=⟨_,aR (by omega)⟩
  have hg:=ah7 hx0;have hbv:(bv b)[0]? =some (.int .u8 (x0.toNat:Int)):=by rw[bv,kY,hx0];rfl
  obtain⟨g,hgg⟩:=au x0.toNat;have hgb:=x0.toNat_lt;rw[hgg] at hg hbv hgb;have zO:=Z hbv;have HR:Hid (∀w,Sat W w L->Rd w (.slice ao b.length c) b.length 1 (bv b)):=Z hr;obtain⟨_,_,he,hc1,hc2,_,h5⟩:=hr w O;obtain⟨rfl,rfl⟩:=gq he;obtain⟨bb,off,rfl,_⟩:=h5 (by omega);have j0:(b.length:Int)<=128:=by omega
  have ZO:128<=(b.length:Int):=by omega
  have e8:((b.length:Int) != 128)=false:=by simp;omega
  have hne:b≠[]:=by intro h;subst h;simp at ZO
  clear hlen
  by_cases hc:15<g
  ·have dV:=Z (Q7 (ah9 (b:=b)) (by rw[hg];omega));have j1:(15:Int)< (g:Int):=by omega
   clear hr hgg hx0 hbv hg;go_enter Tryz.func117,Tryz.ntmps117
   go_wp2_with (refine bN (fF (HR.F _ O) _ _ (by rfl) _ (by rfl) (aI (by rfl)) 0 (by omega) zO.F (by omega)) ?_)
   go_ret3
   rw[GJ dV.F,GM dV.F,dV.F];exact⟨_,rfl,O.jb⟩
  have Qw:=Z (show parse b=xH b g by rw[parse,EF,hg,Nat.min_eq_left (by omega)]);have jh:=Z (O.jb (α:=bM) (f:=rv) (E:=100) (sz:=3));have j1:(g:Int)<=15:=by omega
  have H0:Hid (Sat W w (Tb 100 3 rv (.slice none 0 0) (xH b 0)::L)):=Z jh.F;clear hr hgg hx0 hbv hg;go_enter Tryz.func117,Tryz.ntmps117
  go_wp2_with (first
   |(refine bN (fF (HR.F _ O) _ _ (by rfl) _ (by rfl) (aI (by rfl)) 0 (by omega) zO.F (by omega)) ?_)
   |(go_at_call 112;refine(mQ O _ _ b HR.F _ 1 2 (by rfl) (by omega) (by omega) hb).mono ?_;rintro e J ⟨ok2,rfl,rfl⟩))
  go_loopw [8,7] (fun vi vl wz=>∃k:Nat,k<=g/\vi= .int .i64 k/\Sat W wz (Tb 100 3 rv vl (xH b k)::L)) (fun vi _ _=>g-(intOf vi).toNat)
  case atStart=>exact⟨0,by omega,rfl,H0.F⟩
  case round=>
   clear H0 O;obtain⟨k,hk,rfl,O⟩:=hrel;have HRW:Hid (∀w (A:aA),Sat W w (A::L)->Rd w (.slice (some ⟨bb,off,none⟩) b.length c) b.length 1 (bv b)):=Z (fun w A h=>HR.F w h.drop)
   by_cases hlt:k<g
   ·have j1:(k:Int)< (g:Int):=by omega
    have j2:(k:Int)<16:=by omega
    have iD:=Z (abE b k);have aM:=Z (OA b k)
    go_wp2_with (first
     |(refine bN (fF (HRW.F _ _ O) _ _ (by rfl) _ (by rfl) (aI (by rfl)) 0 (by omega) zO.F (by omega)) ?_)
     |(go_at_call 112;refine(mQ O _ _ b (HRW.F · _) _ (3+7*k) 1 (by omega) (by omega) (by omega) hb).mono ?_;rintro e J ⟨ok1,rfl,rfl⟩)
     |(go_at_call 112;refine(mQ O _ _ b (HRW.F · _) _ (4+7*k) 3 (by omega) (by omega) (by omega) hb).mono ?_;rintro e J ⟨ok1,rfl,rfl⟩)
     |(go_at_call 112;refine(mQ O _ _ b (HRW.F · _) _ (7+7*k) 3 (by omega) (by omega) (by omega) hb).mono ?_;rintro e J ⟨ok1,rfl,rfl⟩)
     |(refine il [.agg (rv (recAt b k)).toArray] O ?_ (hc:=by intro v hv;rw[eD.1 hv];rfl);clear O;intro b1 J O;rw[kP] at O)
     |(refine aU ?_;refine zg (f:=rv) O _ _ _ _ (by rfl) _ _ (by rfl) (by rfl) (bS (by rfl)) (by rfl) (by decide) (dO (by rfl)) (by repeat first|exact Has.z|apply Has.s) [(recAt b k)] (by exact wH _) (by exact O.gZ (f:=rv) aa rfl) (by exact TV _) (by rw[aM.F];simp;omega) (by rw[aM.F];simp;omega) ?_;clear O;intro uj c5 J hcap5 O;dsimp only[aD,aN] at O))
    exact⟨⟨k+1,by omega,by go_num,by rw[iD.F];simpa only[bP,fB,List.length_nil] using O.drop⟩,by simp[intOf];omega⟩
   ·obtain rfl:k=g:=by omega
    clear hlt;obtain⟨Jr,c9,rfl,_⟩:=O.fA (k:=0) rfl;rw[<-Qw.F] at O ⊢;have eX:=Z (abf b)
    cases hok:jM (parse b) (oH b)
    ·have bq:=Z hok;have uQ:=Z (Fy hok);have dV:=Z (show lW b=false by unfold lW;rw[hok];rfl);clear hok
     go_wp2_with (first
      |(refine bN (fF (HRW.F _ _ O) _ _ (by rfl) _ (by rfl) (aI (by rfl)) 0 (by omega) zO.F (by omega)) ?_)
      |(go_at_call 37;refine(KL O (parse b) _ _ (fun w h=>h.kK aa) (by have:=eX.F;omega) (oH b)).mono ?_;rintro e J ⟨v2,rfl,hS1⟩;rw[uQ.F] at hS1;clear O;have O:=hS1;clear hS1;obtain⟨sS,c2,rfl,_⟩:=O.tK (k:=0) rfl;dsimp only[List.length_nil] at O ⊢))
     go_ret3
     rw[GJ dV.F,GM dV.F,dV.F];exact⟨_,rfl,O.drop.drop.jb⟩
    ·have bq:=Z hok;have hel:=vT (oH b) (Tw hok)
     by_cases he:gL (parse b) (oH b)=b
     ·have HE:=Z he;have dV:=Z (show lW b=true by unfold lW;rw[hok,he];simp);clear hok he hel;have e10:((b.length:Int)==0)=false:=dH.2 (by omega);clear hne
      go_wp2_with (first
       |(refine bN (fF (HRW.F _ _ O) _ _ (by rfl) _ (by rfl) (aI (by rfl)) 0 (by omega) zO.F (by omega)) ?_)
       |(go_at_call 37;refine(KL O (parse b) _ _ (fun w h=>h.kK aa) (by have:=eX.F;omega) (oH b)).mono ?_;rintro e J ⟨v2,rfl,hS1⟩;rw[BV bq.F,HE.F] at hS1;clear O;have O:=hS1;clear hS1;obtain⟨sS,c2,rfl,_⟩:=O.tK (k:=0) rfl)
       |(refine aU ?_;refine ou _ _ _ (by rfl) _ (by rfl) jI (l:=b) (by first|exact HR.F _ O.drop.drop|exact O.dY aa) ?_))
      go_ret3
      rw[RG dV.F,RJ dV.F,dV.F];exact⟨_,rfl,O.drop⟩
     ·have dV:=Z (show lW b=false by unfold lW;simp[he]);have uQ:=Z (show zH (parse b) (oH b)=gL (parse b) (oH b) from BV hok);obtain⟨d,hd⟩:=au (gL (parse b) (oH b));rw[hd] at he uQ hel;have e9:(!d==b)=true:=by simp[he]
      have aiI:(d.length:Int)=128:=by omega
      clear hok hd he hel;have e10:((d.length:Int)==0)=false:=dH.2 (by omega)
      go_wp2_with (first
       |(refine bN (fF (HRW.F _ _ O) _ _ (by rfl) _ (by rfl) (aI (by rfl)) 0 (by omega) zO.F (by omega)) ?_)
       |(go_at_call 37;refine(KL O (parse b) _ _ (fun w h=>h.kK aa) (by have:=eX.F;omega) (oH b)).mono ?_;rintro e J ⟨v2,rfl,hS1⟩;rw[uQ.F] at hS1;clear O;have O:=hS1;clear hS1;obtain⟨sS,c2,rfl,_⟩:=O.tK (k:=0) rfl)
       |(refine aU ?_;refine ou _ _ _ (by rfl) _ (by rfl) jI (l:=b) (by exact HR.F _ O.drop.drop) ?_)
       |(refine aU ?_;refine ou _ _ _ (by rfl) _ (by rfl) jI (l:=d) (by exact O.dY aa) ?_))
      go_ret3
      rw[GJ dV.F,GM dV.F,dV.F];exact⟨_,rfl,O.drop.drop.jb⟩
 ·have dV:=Z (Q7 (aia (b:=b)) hlen);have j0:(b.length:Int)<128∨128< (b.length:Int):=by omega
  have e9:((b.length:Int) != 128)=true:=bne_iff_ne.2 (by omega);clear hr hlen;go_enter Tryz.func117,Tryz.ntmps117;go_wp2
  go_ret3
  rw[GJ dV.F,GM dV.F,dV.F];exact⟨_,rfl,O.jb⟩
theorem alX (O:Sat W w L) (blocks head tail records shown next cZ:Int):
  Calls Tryz.prog 39 #[.agg (sv ⟨blocks,head,tail,records,shown,next,cZ⟩).toArray] w fun e w'=>∃v',e= .returned v'/\Sat W w' (Sl 5 1 v' (wK ⟨blocks,head,tail,records,shown,next,cZ⟩).length (bv (wK ⟨blocks,head,tail,records,shown,next,cZ⟩))::L):=by
 cases h0:bI blocks 160 1024
 ·have dx:Hid (eQ ⟨blocks,head,tail,records,shown,next,cZ⟩=false):=Z (by unfold eQ;simp only[bI,ed,Bool.and_eq_false_iff,decide_eq_true_eq,decide_eq_false_iff_not] at h0 ⊢;omega);go_enter Tryz.func39,Tryz.ntmps39
  go_wp2_with (first
   |(refine bV O ?_;clear O;intro ps J O;rw[aS] at O)
   |(refine bB O ?_)
   |(go_at_call 77;refine ak (gI _ blocks _ _ h0) ?_;rintro J rfl))
  go_ret;rw[vF dx.F];exact⟨_,rfl,O.drop.kJ⟩
 cases I:bI head 74 (blocks-1)
 ·have dx:Hid (eQ ⟨blocks,head,tail,records,shown,next,cZ⟩=false):=Z (by unfold eQ;simp only[bI,ed,Bool.and_eq_false_iff,decide_eq_true_eq,decide_eq_false_iff_not] at h0 I ⊢;omega);have hb0:160<=blocks/\blocks<=1024:=by simpa [bI] using h0
  obtain⟨hb1,hb2⟩:=hb0;go_enter Tryz.func39,Tryz.ntmps39
  go_wp2_with (first
   |(refine bV O ?_;clear O;intro ps J O;rw[aS] at O)
   |(refine bB O ?_)
   |(go_at_call 77;refine ak (gI _ blocks _ _ h0) ?_;rintro J rfl)
   |(go_at_call 77;refine ak (gI _ head _ _ I) ?_;rintro J rfl))
  go_ret;rw[vF dx.F];exact⟨_,rfl,O.drop.kJ⟩
 cases H:bI tail 74 (blocks-1)
 ·have dx:Hid (eQ ⟨blocks,head,tail,records,shown,next,cZ⟩=false):=Z (by unfold eQ;simp only[bI,ed,Bool.and_eq_false_iff,decide_eq_true_eq,decide_eq_false_iff_not] at h0 I H ⊢;omega);have hb0:160<=blocks/\blocks<=1024:=by simpa [bI] using h0
  obtain⟨hb1,hb2⟩:=hb0;go_enter Tryz.func39,Tryz.ntmps39
  go_wp2_with (first
   |(refine bV O ?_;clear O;intro ps J O;rw[aS] at O)
   |(refine bB O ?_)
   |(go_at_call 77;refine ak (gI _ blocks _ _ h0) ?_;rintro J rfl)
   |(go_at_call 77;refine ak (gI _ head _ _ I) ?_;rintro J rfl)
   |(go_at_call 77;refine ak (gI _ tail _ _ H) ?_;rintro J rfl))
  go_ret;rw[vF dx.F];exact⟨_,rfl,O.drop.kJ⟩
 cases h3:bI records 0 16777215
 ·have dx:Hid (eQ ⟨blocks,head,tail,records,shown,next,cZ⟩=false):=Z (by unfold eQ;simp only[bI,ed,Bool.and_eq_false_iff,decide_eq_true_eq,decide_eq_false_iff_not] at h0 I H h3 ⊢;omega);have hb0:160<=blocks/\blocks<=1024:=by simpa [bI] using h0
  obtain⟨hb1,hb2⟩:=hb0;go_enter Tryz.func39,Tryz.ntmps39
  go_wp2_with (first
   |(refine bV O ?_;clear O;intro ps J O;rw[aS] at O)
   |(refine bB O ?_)
   |(go_at_call 77;refine ak (gI _ blocks _ _ h0) ?_;rintro J rfl)
   |(go_at_call 77;refine ak (gI _ head _ _ I) ?_;rintro J rfl)
   |(go_at_call 77;refine ak (gI _ tail _ _ H) ?_;rintro J rfl)
   |(go_at_call 77;refine ak (gI _ records _ _ h3) ?_;rintro J rfl))
  go_ret;rw[vF dx.F];exact⟨_,rfl,O.drop.kJ⟩
 cases h4:bI shown 0 records
 ·have dx:Hid (eQ ⟨blocks,head,tail,records,shown,next,cZ⟩=false):=Z (by unfold eQ;simp only[bI,ed,Bool.and_eq_false_iff,decide_eq_true_eq,decide_eq_false_iff_not] at h0 I H h3 h4 ⊢;omega);have hb0:160<=blocks/\blocks<=1024:=by simpa [bI] using h0
  obtain⟨hb1,hb2⟩:=hb0;go_enter Tryz.func39,Tryz.ntmps39
  go_wp2_with (first
   |(refine bV O ?_;clear O;intro ps J O;rw[aS] at O)
   |(refine bB O ?_)
   |(go_at_call 77;refine ak (gI _ blocks _ _ h0) ?_;rintro J rfl)
   |(go_at_call 77;refine ak (gI _ head _ _ I) ?_;rintro J rfl)
   |(go_at_call 77;refine ak (gI _ tail _ _ H) ?_;rintro J rfl)
   |(go_at_call 77;refine ak (gI _ records _ _ h3) ?_;rintro J rfl)
   |(go_at_call 77;refine ak (gI _ shown _ _ h4) ?_;rintro J rfl))
  go_ret;rw[vF dx.F];exact⟨_,rfl,O.drop.kJ⟩
 cases h5:bI next 1 16777215
 ·have dx:Hid (eQ ⟨blocks,head,tail,records,shown,next,cZ⟩=false):=Z (by unfold eQ;simp only[bI,ed,Bool.and_eq_false_iff,decide_eq_true_eq,decide_eq_false_iff_not] at h0 I H h3 h4 h5 ⊢;omega);have hb0:160<=blocks/\blocks<=1024:=by simpa [bI] using h0
  obtain⟨hb1,hb2⟩:=hb0;go_enter Tryz.func39,Tryz.ntmps39
  go_wp2_with (first
   |(refine bV O ?_;clear O;intro ps J O;rw[aS] at O)
   |(refine bB O ?_)
   |(go_at_call 77;refine ak (gI _ blocks _ _ h0) ?_;rintro J rfl)
   |(go_at_call 77;refine ak (gI _ head _ _ I) ?_;rintro J rfl)
   |(go_at_call 77;refine ak (gI _ tail _ _ H) ?_;rintro J rfl)
   |(go_at_call 77;refine ak (gI _ records _ _ h3) ?_;rintro J rfl)
   |(go_at_call 77;refine ak (gI _ shown _ _ h4) ?_;rintro J rfl)
   |(go_at_call 77;refine ak (gI _ next _ _ h5) ?_;rintro J rfl))
  go_ret;rw[vF dx.F];exact⟨_,rfl,O.drop.kJ⟩
 cases h6:bI cZ 0 16777215
 ·have dx:Hid (eQ ⟨blocks,head,tail,records,shown,next,cZ⟩=false):=Z (by unfold eQ;simp only[bI,ed,Bool.and_eq_false_iff,decide_eq_true_eq,decide_eq_false_iff_not] at h0 I H h3 h4 h5 h6 ⊢;omega);have hb0:160<=blocks/\blocks<=1024:=by simpa [bI] using h0
  obtain⟨hb1,hb2⟩:=hb0;go_enter Tryz.func39,Tryz.ntmps39
  go_wp2_with (first
   |(refine bV O ?_;clear O;intro ps J O;rw[aS] at O)
   |(refine bB O ?_)
   |(go_at_call 77;refine ak (gI _ blocks _ _ h0) ?_;rintro J rfl)
   |(go_at_call 77;refine ak (gI _ head _ _ I) ?_;rintro J rfl)
   |(go_at_call 77;refine ak (gI _ tail _ _ H) ?_;rintro J rfl)
   |(go_at_call 77;refine ak (gI _ records _ _ h3) ?_;rintro J rfl)
   |(go_at_call 77;refine ak (gI _ shown _ _ h4) ?_;rintro J rfl)
   |(go_at_call 77;refine ak (gI _ next _ _ h5) ?_;rintro J rfl)
   |(go_at_call 77;refine ak (gI _ cZ _ _ h6) ?_;rintro J rfl))
  go_ret;rw[vF dx.F];exact⟨_,rfl,O.drop.kJ⟩
 have nY:Hid (eQ ⟨blocks,head,tail,records,shown,next,cZ⟩=true):=Z (by unfold eQ;simp only[bI,ed,decide_eq_true_eq] at h0 I H h3 h4 h5 h6 ⊢;omega);have hb0:160<=blocks/\blocks<=1024:=by simpa [bI] using h0
 obtain⟨hb1,hb2⟩:=hb0
 have hr:(0<=head/\head<=1024)/\(0<=tail/\tail<=1024)/\(0<=records/\records<=16777215)/\(0<=shown/\shown<=16777215)/\(0<=next/\next<=16777215)/\(0<=cZ/\cZ<=16777215):=by
  simp only[bI,ed,decide_eq_true_eq] at h0 I H h3 h4 h5 h6;omega
 obtain⟨⟨r1,r2⟩,⟨r3,r4⟩,⟨r5,r6⟩,⟨r7,r8⟩,⟨r9,r10⟩,r11,r12⟩:=hr;go_enter Tryz.func39,Tryz.ntmps39
 go_wp2_with (first
  |(refine bV O ?_;clear O;intro ps J O;rw[aS] at O)
  |(refine bB O ?_)
  |(go_at_call 77;refine ak (gI _ blocks _ _ h0) ?_;rintro J rfl)
  |(go_at_call 77;refine ak (gI _ head _ _ I) ?_;rintro J rfl)
  |(go_at_call 77;refine ak (gI _ tail _ _ H) ?_;rintro J rfl)
  |(go_at_call 77;refine ak (gI _ records _ _ h3) ?_;rintro J rfl)
  |(go_at_call 77;refine ak (gI _ shown _ _ h4) ?_;rintro J rfl)
  |(go_at_call 77;refine ak (gI _ next _ _ h5) ?_;rintro J rfl)
  |(go_at_call 77;refine ak (gI _ cZ _ _ h6) ?_;rintro J rfl)
  |(refine il [.int .u8 112, .int .u8 101, .int .u8 100, .int .u8 105] O ?_;clear O;intro b1 J O)
  |(refine aU ?_;refine YA O _ _ (by rfl) _ _ _ _ (by rfl) (by kernel_rfl) (by repeat first|exact Has.z|apply Has.s) ?_;clear O;intro J O))
 have hS1:Sat W _ (Sl 5 1 (.slice (some ⟨b1,0,none⟩) 4 4) (oC ⟨blocks,head,tail,records,shown,next,cZ⟩ 0).length (bv (oC ⟨blocks,head,tail,records,shown,next,cZ⟩ 0))::_):=Sat.pW (n:=4) (sz:=1) (cap:=4) (pre:=[]) (vs:=bv uB) (rest:=[]) (by exact O) (aZ _) (by decide) (by rfl) rfl (by decide);have Bg:=Z (Rv ⟨blocks,head,tail,records,shown,next,cZ⟩ (eG 3));clear O;have O:=hS1;clear hS1
 (refine ll (pO [0,1]<|rO [2]<|pO [5]<|rO [6]<|pO [9]<|rO [10]<|aO [3,4,7,8,11,12]<|pO [13]<| .e) [] O (fun _ h=>h.one hz1) ?_;clear O;intro J O)
 repeat (first
  |(refine bG O ?_;go_frame)
  |(refine bR O ?_;(first
   |refine qV ?_);go_frame)
  |(refine bY fun K hK=>?_;(first
   |(refine cK (qD O blocks (by omega) (by omega) 2 (by omega)) ?_;clear O;rintro e J ⟨v2,rfl,O⟩;refine⟨_,rfl,?_⟩)
   |(refine cK (qD O head (by omega) (by omega) 2 (by omega)) ?_;clear O;rintro e J ⟨v2,rfl,O⟩;refine⟨_,rfl,?_⟩)
   |(refine cK (qD O tail (by omega) (by omega) 2 (by omega)) ?_;clear O;rintro e J ⟨v2,rfl,O⟩;refine⟨_,rfl,?_⟩)
   |((refine Ac O _ _ _ _ (by rfl) (by rfl) (by rfl) (bS (by rfl)) (by rfl) (by rfl) (by rfl) (dO (by rfl)) hz1 aa (by have:=Bg.F;simp only[bP,fK];omega) ?_;clear O;intro v1 J O;dsimp only[aD,aN] at O);replace O:=O.drop));refine hK.gu O ?_;clear hK K;go_frame))
 refine bO ?_;rw[XY,XZ,X0,ahw] at O;have uP:=Z (JG ⟨blocks,head,tail,records,shown,next,cZ⟩ (eG 4));go_wp2
 (refine ll (pO [0,1]<|rO [2]<|pO [5]<|rO [6]<|aO [3,4,7,8]<|pO [9]<| .e) [7,8] O (fun _ h=>h.one hz1) ?_;clear O;intro J O)
 repeat (first
  |(refine bG O ?_;go_frame)
  |(refine bR O ?_;(first
   |refine qV ?_);go_frame)
  |(refine bY fun K hK=>?_;(first
   |(refine cK (qD O records (by omega) (by omega) 3 (by omega)) ?_;clear O;rintro e J ⟨v2,rfl,O⟩;refine⟨_,rfl,?_⟩)
   |(refine cK (qD O shown (by omega) (by omega) 3 (by omega)) ?_;clear O;rintro e J ⟨v2,rfl,O⟩;refine⟨_,rfl,?_⟩)
   |((refine Ac O _ _ _ _ (by rfl) (by rfl) (by rfl) (bS (by rfl)) (by rfl) (by rfl) (by rfl) (dO (by rfl)) hz1 aa (by have:=uP.F;simp only[bP,fK];omega) ?_;clear O;intro v1 J O;dsimp only[aD,aN] at O);replace O:=O.drop));refine hK.gu O ?_;clear hK K;go_frame))
 refine bO ?_;go_wp2
 (refine ll (pO [0,1]<|rO [2]<|pO [5]<|rO [6]<|aO [3,4,7,8]<|pO [9]<| .e) [7,8] O (fun _ h=>h.one hz1) ?_;clear O;intro J O)
 repeat (first
  |(refine bG O ?_;go_frame)
  |(refine bR O ?_;(first
   |refine qV ?_);go_frame)
  |(refine bY fun K hK=>?_;(first
   |(refine cK (qD O next (by omega) (by omega) 3 (by omega)) ?_;clear O;rintro e J ⟨v2,rfl,O⟩;refine⟨_,rfl,?_⟩)
   |(refine cK (qD O cZ (by omega) (by omega) 3 (by omega)) ?_;clear O;rintro e J ⟨v2,rfl,O⟩;refine⟨_,rfl,?_⟩)
   |((refine Ac O _ _ _ _ (by rfl) (by rfl) (by rfl) (bS (by rfl)) (by rfl) (by rfl) (by rfl) (dO (by rfl)) hz1 aa (by have:=uP.F;simp only[bP,fK];omega) ?_;clear O;intro v1 J O;dsimp only[aD,aN] at O);replace O:=O.drop));refine hK.gu O ?_;clear hK K;go_frame))
 refine bO ?_;rw[X3,X4,X5,X6] at O;have tY:=Z (JG ⟨blocks,head,tail,records,shown,next,cZ⟩ (aZ 4));have iT:=Z (oD ⟨blocks,head,tail,records,shown,next,cZ⟩)
 go_wp2_with (go_at_call 80;refine(KJ O 128 (by have:=tY.F;omega) (by omega)).mono ?_;clear O;rintro e J ⟨v3,rfl,O⟩)
 go_ret;rw[wL nY.F,iT.F];exact⟨_,rfl,O.bW.drop⟩
theorem Dy (O:Sat W w L) (s:di):
  Calls Tryz.prog 39 #[.agg (sv s).toArray] w fun e w'=>∃v',e= .returned v'/\Sat W w' (Sl 5 1 v' (wK s).length (bv (wK s))::L):=by
 cases s;exact alX O _ _ _ _ _ _ _
theorem alW (O:Sat W w L) (b:List UInt8) (ao:Option Addr) (c:Nat) (hr:∀w,Sat W w L->Rd w (.slice ao b.length c) b.length 1 (bv b)) (hb:b.length<=140737488355328):
  Calls Tryz.prog 82 #[.slice ao b.length c] w fun e w'=>e= .returned (.tuple #[.agg (sv (EM b)).toArray, .bool (pK b)])/\Sat W w' L:=by
 have HR:Hid (∀w (A B:aA),Sat W w (A::B::L)->Rd w (.slice ao b.length c) b.length 1 (bv b)):=Z (fun w A B h=>hr w h.drop.drop);have HR2:Hid (∀w (A B C:aA),Sat W w (A::B::C::L)->Rd w (.slice ao b.length c) b.length 1 (bv b)):=Z (fun w A B C h=>HR.F w B C h.drop);clear hr
 by_cases hlen:b.length=128
 ·have e8:((b.length:Int) != 128)=false:=by simp;omega
  have j0:(b.length:Int)<=128:=by omega
  have ZO:128<=(b.length:Int):=by omega
  clear hlen
  cases hok:eQ (jH b)
  ·have dV:=Z (show pK b=false by unfold pK;rw[hok];rfl);have uQ:=Z (vF hok);clear hok;go_enter Tryz.func82,Tryz.ntmps82
   go_wp2_with (first
    |(refine dU (show Sat W _ L from O) ?_;clear O;intro p2 J O;rw[aS] at O)
    |(refine dU O ?_;clear O;intro p4 J O;rw[aS] at O)
    |(go_at_call 112;refine(mQ O _ _ b (HR.F · _ _) _ 4 2 (by rfl) (by omega) (by omega) hb).mono ?_;rintro e J ⟨ok1,rfl,rfl⟩)
    |(go_at_call 112;refine(mQ O _ _ b (HR.F · _ _) _ 6 2 (by rfl) (by omega) (by omega) hb).mono ?_;rintro e J ⟨ok1,rfl,rfl⟩)
    |(go_at_call 112;refine(mQ O _ _ b (HR.F · _ _) _ 8 2 (by rfl) (by omega) (by omega) hb).mono ?_;rintro e J ⟨ok1,rfl,rfl⟩)
    |(go_at_call 112;refine(mQ O _ _ b (HR.F · _ _) _ 10 3 (by rfl) (by omega) (by omega) hb).mono ?_;rintro e J ⟨ok1,rfl,rfl⟩)
    |(go_at_call 112;refine(mQ O _ _ b (HR.F · _ _) _ 13 3 (by rfl) (by omega) (by omega) hb).mono ?_;rintro e J ⟨ok1,rfl,rfl⟩)
    |(go_at_call 112;refine(mQ O _ _ b (HR.F · _ _) _ 16 3 (by rfl) (by omega) (by omega) hb).mono ?_;rintro e J ⟨ok1,rfl,rfl⟩)
    |(go_at_call 112;refine(mQ O _ _ b (HR.F · _ _) _ 19 3 (by rfl) (by omega) (by omega) hb).mono ?_;rintro e J ⟨ok1,rfl,rfl⟩)
    |(refine qR O ?_;clear O;intro J O;dsimp only[List.set] at O)
    |(refine dm O aa (sv (jH b)) ?_)
    |(go_at_call 39;refine(Dy O (jH b)).mono ?_;rintro e J ⟨v2,rfl,hS1⟩;rw[uQ.F] at hS1;clear O;have O:=hS1;clear hS1;obtain⟨sS,c2,rfl,_⟩:=O.tK (k:=0) rfl;dsimp only[List.length_nil] at O ⊢)
    |(refine eT (sv nV) O aa ?_ (hv:=(lI _));clear O;intro J O;dsimp only[aD,aN] at O)
    |(refine eT (sv nV) O hz2 ?_ (hv:=(lI _));clear O;intro J O;dsimp only[aD,aN] at O))
   refine Ae O rfl (by rfl) (aI (by rfl)) (bz (by rfl)) hz2 (by rfl) rfl ?_;rw[JO dV.F,dV.F];exact⟨rfl,O.drop.drop.drop⟩
  ·have bq:=Z hok;have hel:=oD (jH b)
   by_cases he:encS (jH b)=b
   ·have HE:=Z he;have dV:=Z (show pK b=true by unfold pK;rw[hok,he];simp);have e10:((b.length:Int)==0)=false:=dH.2 (by omega);clear hok he hel;go_enter Tryz.func82,Tryz.ntmps82
    go_wp2_with (first
     |(refine dU (show Sat W _ L from O) ?_;clear O;intro p2 J O;rw[aS] at O)
     |(refine dU O ?_;clear O;intro p4 J O;rw[aS] at O)
     |(go_at_call 112;refine(mQ O _ _ b (HR.F · _ _) _ 4 2 (by rfl) (by omega) (by omega) hb).mono ?_;rintro e J ⟨ok1,rfl,rfl⟩)
     |(go_at_call 112;refine(mQ O _ _ b (HR.F · _ _) _ 6 2 (by rfl) (by omega) (by omega) hb).mono ?_;rintro e J ⟨ok1,rfl,rfl⟩)
     |(go_at_call 112;refine(mQ O _ _ b (HR.F · _ _) _ 8 2 (by rfl) (by omega) (by omega) hb).mono ?_;rintro e J ⟨ok1,rfl,rfl⟩)
     |(go_at_call 112;refine(mQ O _ _ b (HR.F · _ _) _ 10 3 (by rfl) (by omega) (by omega) hb).mono ?_;rintro e J ⟨ok1,rfl,rfl⟩)
     |(go_at_call 112;refine(mQ O _ _ b (HR.F · _ _) _ 13 3 (by rfl) (by omega) (by omega) hb).mono ?_;rintro e J ⟨ok1,rfl,rfl⟩)
     |(go_at_call 112;refine(mQ O _ _ b (HR.F · _ _) _ 16 3 (by rfl) (by omega) (by omega) hb).mono ?_;rintro e J ⟨ok1,rfl,rfl⟩)
     |(go_at_call 112;refine(mQ O _ _ b (HR.F · _ _) _ 19 3 (by rfl) (by omega) (by omega) hb).mono ?_;rintro e J ⟨ok1,rfl,rfl⟩)
     |(refine qR O ?_;clear O;intro J O;dsimp only[List.set] at O)
     |(refine dm O aa (sv (jH b)) ?_)
     |(go_at_call 39;refine(Dy O (jH b)).mono ?_;rintro e J ⟨v2,rfl,hS1⟩;rw[wL bq.F,HE.F] at hS1;clear O;have O:=hS1;clear hS1;obtain⟨sS,c2,rfl,_⟩:=O.tK (k:=0) rfl)
     |(refine dm O hz1 (sv (jH b)) ?_)
     |(refine aU ?_;refine ou _ _ _ (by rfl) _ (by rfl) jI (l:=b) (by first|exact HR2.F _ _ _ _ O|exact O.dY aa) ?_)
     |(refine eT (sv nV) O aa ?_ (hv:=(lI _));clear O;intro J O;dsimp only[aD,aN] at O)
     |(refine eT (sv (jH b)) O hz2 ?_ (hv:=(lI _));clear O;intro J O;dsimp only[aD,aN] at O))
    refine Ae O rfl (by rfl) (aI (by rfl)) (bz (by rfl)) hz2 (by rfl) rfl ?_;rw[RI dV.F,dV.F];exact⟨rfl,O.drop.drop.drop⟩
   ·have dV:=Z (show pK b=false by unfold pK;simp[he]);have uQ:=Z (show wK (jH b)=encS (jH b) from wL hok);obtain⟨d,hd⟩:=au (encS (jH b));rw[hd] at he uQ hel;have e9:(!d==b)=true:=by simp[he]
    have aiI:(d.length:Int)=128:=by omega
    have e10:((d.length:Int)==0)=false:=dH.2 (by omega);clear hok hd he hel;go_enter Tryz.func82,Tryz.ntmps82
    go_wp2_with (first
     |(refine dU (show Sat W _ L from O) ?_;clear O;intro p2 J O;rw[aS] at O)
     |(refine dU O ?_;clear O;intro p4 J O;rw[aS] at O)
     |(go_at_call 112;refine(mQ O _ _ b (HR.F · _ _) _ 4 2 (by rfl) (by omega) (by omega) hb).mono ?_;rintro e J ⟨ok1,rfl,rfl⟩)
     |(go_at_call 112;refine(mQ O _ _ b (HR.F · _ _) _ 6 2 (by rfl) (by omega) (by omega) hb).mono ?_;rintro e J ⟨ok1,rfl,rfl⟩)
     |(go_at_call 112;refine(mQ O _ _ b (HR.F · _ _) _ 8 2 (by rfl) (by omega) (by omega) hb).mono ?_;rintro e J ⟨ok1,rfl,rfl⟩)
     |(go_at_call 112;refine(mQ O _ _ b (HR.F · _ _) _ 10 3 (by rfl) (by omega) (by omega) hb).mono ?_;rintro e J ⟨ok1,rfl,rfl⟩)
     |(go_at_call 112;refine(mQ O _ _ b (HR.F · _ _) _ 13 3 (by rfl) (by omega) (by omega) hb).mono ?_;rintro e J ⟨ok1,rfl,rfl⟩)
     |(go_at_call 112;refine(mQ O _ _ b (HR.F · _ _) _ 16 3 (by rfl) (by omega) (by omega) hb).mono ?_;rintro e J ⟨ok1,rfl,rfl⟩)
     |(go_at_call 112;refine(mQ O _ _ b (HR.F · _ _) _ 19 3 (by rfl) (by omega) (by omega) hb).mono ?_;rintro e J ⟨ok1,rfl,rfl⟩)
     |(refine qR O ?_;clear O;intro J O;dsimp only[List.set] at O)
     |(refine dm O aa (sv (jH b)) ?_)
     |(go_at_call 39;refine(Dy O (jH b)).mono ?_;rintro e J ⟨v2,rfl,hS1⟩;rw[uQ.F] at hS1;clear O;have O:=hS1;clear hS1;obtain⟨sS,c2,rfl,_⟩:=O.tK (k:=0) rfl)
     |(refine aU ?_;refine ou _ _ _ (by rfl) _ (by rfl) jI (l:=b) (by exact HR2.F _ _ _ _ O) ?_)
     |(refine aU ?_;refine ou _ _ _ (by rfl) _ (by rfl) jI (l:=d) (by exact O.dY aa) ?_)
     |(refine eT (sv nV) O aa ?_ (hv:=(lI _));clear O;intro J O;dsimp only[aD,aN] at O)
     |(refine eT (sv nV) O hz2 ?_ (hv:=(lI _));clear O;intro J O;dsimp only[aD,aN] at O))
    refine Ae O rfl (by rfl) (aI (by rfl)) (bz (by rfl)) hz2 (by rfl) rfl ?_;rw[JO dV.F,dV.F];exact⟨rfl,O.drop.drop.drop⟩
 ·have dV:=Z (Q7 (aib (b:=b)) hlen);have e9:((b.length:Int) != 128)=true:=bne_iff_ne.2 (by omega);clear hlen;go_enter Tryz.func82,Tryz.ntmps82
  go_wp2_with (first
   |(refine dU (show Sat W _ L from O) ?_;clear O;intro p2 J O;rw[aS] at O)
   |(refine eT (sv nV) O aa ?_ (hv:=(lI _));clear O;intro J O;dsimp only[aD,aN] at O))
  refine Ae O rfl (by rfl) (aI (by rfl)) (bz (by rfl)) aa (by rfl) rfl ?_;rw[JO dV.F,dV.F];exact⟨rfl,O.drop⟩
end Go.Proofs.YtjbiihbicknemaaGreat
