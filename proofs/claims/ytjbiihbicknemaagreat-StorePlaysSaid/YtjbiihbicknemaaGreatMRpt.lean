/-
  Part of the proof of StoreWhole.
-/
import Derived.Test.YtjbiihbicknemaaGreatMRec
set_option linter.unusedSimpArgs false
set_option linter.unusedVariables false
set_option maxRecDepth 20000
set_option maxHeartbeats 40000000
namespace Go.Proofs.YtjbiihbicknemaaGreat
open Go.RowKit Go.Sep
variable {W w:World} {L:List aA}
open Go.Sep

def lb (v:Int) (i:Nat):UInt8:=UInt8.ofNat ((v / 256 ^ i) % 256).toNat
def le (v:Int) (n:Nat):List UInt8:=(List.range n).map (lb v)
def un:List UInt8->Nat
 |[]=>0
 |b::l=>b.toNat+256*un l
theorem fK (v:Int) (n:Nat):(le v n).length=n:=by simp[le]
theorem le_zero (v:Int):le v 0=[]:=rfl
theorem le_succ (v:Int) (n:Nat):le v (n+1)=le v n++[lb v n]:=by simp[le,List.range_succ]
theorem J6 (v:Int) (i:Nat):((lb v i).toNat:Int)=(v / 256 ^ i) % 256:=by
 have I:=Int.emod_nonneg (v / 256 ^ i) (show(256:Int)≠0 by decide);have H:=Int.emod_lt_of_pos (v / 256 ^ i) (show(0:Int)<256 by decide);unfold lb;rw[UInt8.toNat_ofNat_of_lt' (by show _<256;omega)];omega
theorem ajC (v:Int):((lb v 0).toNat:Int)=v % 256:=by rw[J6];simp
theorem ajB (v:Int) (i:Nat):lb v (i+1)=lb (v / 256) i:=by
 unfold lb;rw[Int.pow_succ,Int.mul_comm,Int.ediv_ediv_of_nonneg (by decide)]
theorem ajF (v:Int) (n:Nat):le v (n+1)=lb v 0::le (v / 256) n:=by
 unfold le;rw[List.range_succ_eq_map,jN,List.map_map];congr 1;apply List.map_congr_left;intro i _;exact ajB v i
theorem K7:∀(n:Nat) (v:Nat),v<256 ^ n->un (le v n)=v
 |0,v,h=>by simp at h;subst h;rfl
 |n+1,v,h=>by
  rw[ajF,un];have h0:(lb v 0).toNat=v % 256:=by have:=ajC (v:Int);omega
  have I:((v:Int) / 256)=((v / 256:Nat):Int):=by omega
  rw[I,K7 n (v / 256) (by rw[Nat.pow_succ] at h;omega),h0];omega
theorem Pp:∀(l:List UInt8),un l<256 ^ l.length
 |[]=>by simp[un]
 |b::l=>by
  have:=Pp l;have hb:=b.toNat_lt;rw[un,fB,Nat.pow_succ];omega
theorem ai9 (a b:Nat) (ha:a<9223372036854775808) (hb:b<9223372036854775808):bits .or .i64 (a:Int) (b:Int)=((a |||b:Nat):Int):=by
 have V:a |||b<2 ^ 63:=Nat.or_lt_two_pow (by omega) (by omega)
 show IntKind.i64.wrap ((BitVec.ofInt 64 (a:Int) |||BitVec.ofInt 64 (b:Int)).toNat:Int)=_
 have e:∀n:Nat,n<9223372036854775808->(BitVec.ofInt 64 (n:Int)).toNat=n:=fun n hn=>by
  rw[BitVec.ofInt_natCast,BitVec.toNat_ofNat];exact Nat.mod_eq_of_lt (by omega)
 rw[BitVec.toNat_or,e a ha,e b hb,IntWalk.i64_in _ (by omega)]
theorem TE (k:Nat):256 ^ k=2 ^ (8*k):=by rw[Nat.pow_mul]
theorem abr {k:Nat} (h:k<7):256 ^ k<=281474976710656:=by
 have:256 ^ k<=256 ^ 6:=Nat.pow_le_pow_right (by decide) (by omega);omega
open RowKit in
theorem aie (u k:Nat) (b:UInt8) (hk:k<7) (hu:u<256 ^ k):bits .or .i64 (u:Int) (wrap64 (wrap64 (b.toNat:Int)*2 ^ (8*k)))=((u+b.toNat*256 ^ k:Nat):Int):=by
 have hb:=b.toNat_lt;have hp:=abr hk;have hm:b.toNat*256 ^ k<=255*281474976710656:=Nat.mul_le_mul (by omega) hp;have e1:wrap64 (b.toNat:Int)=(b.toNat:Int):=IntWalk.wrap64_in _ (by omega);have e2:(b.toNat:Int)*2 ^ (8*k)=((b.toNat*256 ^ k:Nat):Int):=by rw[TE];simp
 rw[e1,e2,IntWalk.wrap64_in _ (by omega),ai9 _ _ (by omega) (by omega),Nat.or_comm];rw[nat_join (8*k) _ _ (by rw[TE];exact Nat.mul_mod_left _ _) (by rw[<-TE];exact hu)];congr 1;omega
attribute [local irreducible] Oper.wp wpList Calls Code.wp Sep.dR

theorem ZV (l:List UInt8) (x:Int) (k:Nat):(l++le x k)++[lb x k]=l++le x (k+1):=by rw[dX,<-le_succ]
theorem ZT (x:Int) (k:Nat):Value.int .u8 (x / 2 ^ (8*k) % 256)=u8 (lb x k):=by
 unfold u8;rw[J6,Int.pow_mul];rfl
theorem MJ (l:List UInt8) (b:UInt8):bv l++[u8 b]=bv (l++[b]):=by simp[bv]
theorem NH (l:List UInt8) (b:UInt8):l.length+1=(l++[b]).length:=by simp
theorem qC {v:Value} {l:List UInt8} (O:Sat W w (Sl 5 1 v l.length (bv l)::L)) (x:Int) (hx1: -9223372036854775808<=x) (hx2:x<=9223372036854775807) (n:Nat) (hn0:0<n) (hn:n<=8) (hl:l.length<=1000000):
  Calls Tryz.prog 74 #[v, .int .i64 x, .int .i64 n] w fun e w'=>∃v',e= .returned v'/\Sat W w' (Sl 5 1 v' (l++le x n).length (bv (l++le x n))::L):=by
 have i1:(n:Int)<=8:=by omega
 have i2:(0:Int)< (n:Int):=by omega
 rcases O.Ua (k:=0) rfl with⟨rfl,hl0,_⟩|⟨b,off,c,rfl,hc1,hc2⟩
 ·obtain rfl:l=[]:=List.eq_nil_of_length_eq_zero hl0;clear hl0;have H0:Hid (Sat W w (Sl 5 1 (.slice none 0 0) (([]:List UInt8)++le x 0).length (bv ([]++le x 0))::L)):=Z O;go_enter Tryz.func74,Tryz.ntmps74;go_wp2;go_loopw [17,0] (fun vi vb wz=>∃k:Nat,k<=n/\vi= .int .i64 k/\Sat W wz (Sl 5 1 vb (([]:List UInt8)++le x k).length (bv (([]:List UInt8)++le x k))::L)) (fun vi _ _=>n-(intOf vi).toNat)
  case atStart=>exact⟨0,by omega,rfl,H0.F⟩
  case round=>
   clear H0 O;obtain⟨k,hk,rfl,O⟩:=hrel
   by_cases hlt:k<n
   ·have j1:(k:Int)< (n:Int):=by omega
    have j2:(k:Int)<8:=by omega
    have hln:(([]:List UInt8)++le x k).length<=1000008:=by simp[fK];omega
    have HV:=Z (ZT x k)
    go_wp2_with (first
     |(refine il [.int .u8 (x / 2 ^ (8*k) % 256)] O ?_ (hc:=by simp[Value.cells]);clear O;intro b1 J O;rw[jC rfl,HV.F] at O)
     |(at_builtin;refine aU ?_;refine ap O _ _ _ _ (by rfl) _ _ (by rfl) (by rfl) (bS (by rfl)) (by rfl) (by decide) (dO (by rfl)) hz1 (m:=1) (by exact .inl (O.jc (sz:=1) aa (by decide) rfl)) (by simp[u8,Value.oneCell']) (by omega) (by omega) ?_;clear O;intro v2 J O;rw[MJ,NH _ (lb x k),ZV] at O;dsimp only[aD,aN] at O))
    exact⟨⟨k+1,by omega,by go_num,O.drop⟩,by simp[intOf];omega⟩
   ·obtain rfl:k=n:=by omega
    go_wp2;go_ret;exact⟨_,rfl,O⟩
 ·have H0:Hid (Sat W w (Sl 5 1 (.slice (some ⟨b,off,none⟩) l.length l.length) (l++le x 0).length (bv (l++le x 0))::L)):=Z (by rw[le_zero,kv];exact O.Uc);go_enter Tryz.func74,Tryz.ntmps74;go_wp2;go_loopw [17,0] (fun vi vb wz=>∃k:Nat,k<=n/\vi= .int .i64 k/\Sat W wz (Sl 5 1 vb (l++le x k).length (bv (l++le x k))::L)) (fun vi _ _=>n-(intOf vi).toNat)
  case atStart=>exact⟨0,by omega,rfl,H0.F⟩
  case round=>
   clear H0 O;obtain⟨k,hk,rfl,O⟩:=hrel
   by_cases hlt:k<n
   ·have j1:(k:Int)< (n:Int):=by omega
    have j2:(k:Int)<8:=by omega
    have hln:(l++le x k).length<=1000008:=by simp[fK];omega
    have HV:=Z (ZT x k)
    go_wp2_with (first
     |(refine il [.int .u8 (x / 2 ^ (8*k) % 256)] O ?_ (hc:=by simp[Value.cells]);clear O;intro b1 J O;rw[jC rfl,HV.F] at O)
     |(at_builtin;refine aU ?_;refine ap O _ _ _ _ (by rfl) _ _ (by rfl) (by rfl) (bS (by rfl)) (by rfl) (by decide) (dO (by rfl)) hz1 (m:=1) (by exact .inl (O.jc (sz:=1) aa (by decide) rfl)) (by simp[u8,Value.oneCell']) (by omega) (by omega) ?_;clear O;intro v2 J O;rw[MJ,NH _ (lb x k),ZV] at O;dsimp only[aD,aN] at O))
    exact⟨⟨k+1,by omega,by go_num,O.drop⟩,by simp[intOf];omega⟩
   ·obtain rfl:k=n:=by omega
    go_wp2;go_ret;exact⟨_,rfl,O⟩
def rG (l:List UInt8) (n:Nat):List UInt8:=l++List.replicate (n-l.length) 0
theorem Ky {l:List UInt8} {n:Nat} (h:l.length<=n):(rG l n).length=n:=by simp[rG];omega
theorem Kz {v:Value} {l:List UInt8} (O:Sat W w (Sl 5 1 v l.length (bv l)::L)) (n:Nat) (hl:l.length<=n) (hn:n<=1000000):
  Calls Tryz.prog 75 #[v, .int .i64 n] w fun e w'=>∃v',e= .returned (.tuple #[v', .bool true])/\Sat W w' (Sl 5 1 v' n (bv (rG l n))::L):=by
 have i1:(l.length:Int)<=(n:Int):=by omega
 have i2:(n:Int)<=1000000:=by omega
 have HN:=Z (show(n:Int)-(l.length:Int)=((n-l.length:Nat):Int) by omega);have HM:=Z (show l.length+(n-l.length)=n by omega)
 rcases O.Ua (k:=0) rfl with⟨rfl,hl0,_⟩|⟨b,off,c,rfl,hc1,hc2⟩
 ·obtain rfl:l=[]:=List.eq_nil_of_length_eq_zero hl0;clear hl0 HN HM;have i3:(0:Int)<=(n:Int):=by omega
  go_enter Tryz.func75,Tryz.ntmps75
  go_wp2_with (refine aU ?_;refine Wy (l:=[]) O _ _ _ _ (by rfl) (by rfl) (m:=n) (by rfl) (bS (by rfl)) (dO (by rfl)) (dO (by rfl)) aa (by simp;omega) ?_;clear O;intro v2 J O;dsimp only[aD] at O)
  go_ret2
  exact⟨_,rfl,by simpa [rG] using O⟩
 ·have O:=O.Uc;go_enter Tryz.func75,Tryz.ntmps75
  go_wp2_with (refine aU ?_;refine Wy O _ _ _ _ (by rfl) (by rfl) (m:=n-l.length) (by rw[<-HN.F];rfl) (bS (by rfl)) (dO (by rfl)) (dO (by rfl)) aa (by rw[HM.F];omega) ?_;clear O;intro v2 J O;rw[HM.F] at O;dsimp only[aD] at O)
  go_ret2
  exact⟨_,rfl,O⟩
theorem aoc (l:List UInt8) (k:Nat) (h:k<l.length):un (l.take (k+1))=un (l.take k)+(l[k]).toNat*256 ^ k:=by
 induction l generalizing k with
 |nil=>simp at h
 |cons b l ih=>
  cases k with
  |zero=>simp[un]
  |succ k=>
   simp only[fB] at h;rw[List.take_succ_cons,un,ih k (by omega),List.take_succ_cons,un];simp only[List.getElem_cons_succ];rw[Nat.pow_succ]
   have e:256*((l[k]'(by omega)).toNat*256 ^ k)=(l[k]'(by omega)).toNat*(256 ^ k*256):=by
    rw[Nat.mul_comm 256,Nat.mul_assoc]
   omega
theorem aic (w:World) (ao:Option Addr) (m c:Nat) (at_ n:Int) (h:n<1∨7<n∨at_<0∨(m:Int)<at_∨(m:Int)-at_<n) (hm:(m:Int)<=9223372036854775807):
  Calls Tryz.prog 95 #[.slice ao m c, .int .i64 at_, .int .i64 n] w fun e w'=>e= .returned (.tuple #[.int .i64 0, .bool false])/\w=w':=by
 by_cases I:n<1
 ·go_enter Tryz.func95,Tryz.ntmps95;go_wp2
  go_ret2
  exact⟨rfl,rfl⟩
 by_cases H:7<n
 ·have g1:1<=n:=by omega
  clear h I;go_enter Tryz.func95,Tryz.ntmps95;go_wp2
  go_ret2
  exact⟨rfl,rfl⟩
 by_cases h3:at_<0
 ·have g1:1<=n:=by omega
  have g2:n<=7:=by omega
  clear h I H;go_enter Tryz.func95,Tryz.ntmps95;go_wp2
  go_ret2
  exact⟨rfl,rfl⟩
 obtain⟨t,rfl⟩:=Int.eq_ofNat_of_zero_le (show 0<=at_ by omega)
 by_cases h4:(m:Int)< (t:Int)
 ·have g1:1<=n:=by omega
  have g2:n<=7:=by omega
  clear h I H h3;go_enter Tryz.func95,Tryz.ntmps95;go_wp2
  go_ret2
  exact⟨rfl,rfl⟩
 ·have g1:1<=n:=by omega
  have g2:n<=7:=by omega
  have g3:(t:Int)<=(m:Int):=by omega
  have g4:(m:Int)-(t:Int)<n:=by omega
  clear h I H h3 h4;go_enter Tryz.func95,Tryz.ntmps95;go_wp2
  go_ret2
  exact⟨rfl,rfl⟩
theorem aid (O:Sat W w L) (ao:Option Addr) (c:Nat) (l:List UInt8) (hr:∀w,Sat W w L->Rd w (.slice ao l.length c) l.length 1 (bv l)) (t n:Nat) (hn:1<=n) (hn2:n<=7) (ht:t+n<=l.length) (hl:l.length<=140737488355328):
  Calls Tryz.prog 95 #[.slice ao l.length c, .int .i64 t, .int .i64 n] w fun e w'=>e= .returned (.tuple #[.int .i64 (un ((l.drop t).take n):Nat), .bool true])/\w=w':=by
 have h0:=hr w O;obtain⟨Mt,c',he,hc1,hc2,_,h5⟩:=h0;obtain⟨rfl,rfl⟩:=gq he;obtain⟨b,off,rfl,hcell⟩:=h5 (by omega);have HC:=Z hcell;clear hcell h5;have i1:(1:Int)<=(n:Int):=by omega
 have i2:(n:Int)<=7:=by omega
 have i3:(t:Int)<=(l.length:Int):=by omega
 have i4:(n:Int)<=(l.length:Int)-(t:Int):=by omega
 have i5:(l.length:Int)<=140737488355328:=by omega
 have i6:(t:Int)+(n:Int)<=(c:Int):=by omega
 go_enter Tryz.func95,Tryz.ntmps95;go_wp2
 go_loop [42,8] (fun vi vv=>∃k:Nat,k<=n/\vi= .int .i64 k/\vv= .int .i64 (un ((l.drop t).take k):Nat)) (fun vi _=>n-(intOf vi).toNat)
 case atStart=>exact⟨0,by omega,rfl,rfl⟩
 case round=>
  obtain⟨k,hk,rfl,rfl⟩:=hrel
  by_cases hlt:k<n
  ·have j1:(k:Int)< (n:Int):=by omega
   have j2:k<t+n-t:=by omega
   have j3:(k:Int)<7:=by omega
   have hcl:W.cell? ⟨0,0,none⟩=W.cell? ⟨0,0,none⟩:=rfl;clear hcl;have V:(bv l)[t+k]? =some (u8 (l[t+k]'(by omega))):=by simp only[bv,kY];rw[aR (by omega)];rfl
   have hc0:=HC.F _ _ V;rw[<-Nat.add_assoc] at hc0;have hlt2:=Pp ((l.drop t).take k);have hc1:w.cell? ⟨b,off+t+k,none⟩=some (.int .u8 ((l[t+k]'(by omega)).toNat:Int)):=hc0;clear hc0 V
   have hst:=aie (un ((l.drop t).take k)) k (l[t+k]'(by omega)) (by omega) (by
    have H:((l.drop t).take k).length=k:=by simp;omega
    rw[H] at hlt2;exact hlt2)
   have hsu:=aoc (l.drop t) k (by simp;omega);have hel:(l.drop t)[k]'(by simp;omega)=l[t+k]'(by omega):=by simp
   rw[hel] at hsu;rw[<-hsu] at hst;have HST:=Z hst;clear hst hsu hel hlt2;go_wp2;exact⟨⟨k+1,by omega,by go_num,by rw[HST.F]⟩,by simp[intOf];omega⟩
  ·obtain rfl:k=n:=by omega
   go_wp2
   go_ret2
   exact⟨rfl,rfl⟩
attribute [local irreducible] Sep.fJ
def mq (x:bM):Bool:=sJ x.k x.a x.b
def encR (x:bM):List UInt8:=le x.k 1++le x.a 3++le x.b 3
def nk (n:Nat) (next:Int):List UInt8:=le n 1++le next 2
def tu (next:Int):Bool:=decide (next=0) || bI next 74 1023
def jM (l:List bM) (next:Int):Bool:=decide (l.length<=15)&&tu next&&l.all mq
def gL (l:List bM) (next:Int):List UInt8:=rG (nk l.length next++l.flatMap encR) 128
def zH (l:List bM) (next:Int):List UInt8:=if jM l next then gL l next else []
theorem ahv (x:bM):(encR x).length=7:=by simp[encR,fK]
theorem Gy (n:Nat) (next:Int):(nk n next).length=3:=by simp[nk,fK]
theorem Gz (l:List bM):(l.flatMap encR).length=7*l.length:=by
 induction l with
 |nil=>rfl
 |cons x l ih=>rw[pY,bP,ahv,ih,fB];omega
theorem vT {l:List bM} (next:Int) (h:l.length<=15):(gL l next).length=128:=Ky (by rw[bP,Gy,Gz];omega)
theorem TP {x:bM} (h:mq x=true):0<=x.k/\x.k<=5/\0<=x.a/\x.a<=16777215/\0<=x.b/\x.b<=16777215:=by
 unfold mq sJ bI at h
 split at h
 ·simp only[ed,decide_eq_true_eq] at h;omega
 split at h
 ·simp only[ed,decide_eq_true_eq] at h;omega
 split at h
 ·simp only[ed,decide_eq_true_eq] at h;omega
 ·cases h
theorem Tu {n:Int} (h:tu n=true):0<=n/\n<=1023:=by
 unfold tu bI at h;simp only[Bool.or_eq_true,ed,decide_eq_true_eq] at h;omega
theorem acK {l:List bM} {k:Nat} {x:bM} (hd:List UInt8) (h:l[k]? =some x):((hd++(l.take k).flatMap encR)++le x.k 1)++le x.a 3++le x.b 3=hd++(l.take (k+1)).flatMap encR:=by
 rw[ik,h,List.flatMap_append];simp[encR]
theorem Fy {l:List bM} {next:Int} (h:jM l next=false):zH l next=[]:=by simp[zH,h]
theorem BV {l:List bM} {next:Int} (h:jM l next=true):zH l next=gL l next:=by simp[zH,h]
theorem Tx {l:List bM} {next:Int} (h:15<l.length):jM l next=false:=by
 unfold jM;rw[show decide (l.length<=15)=false by simp;omega];rfl
theorem Ty {l:List bM} {next:Int} (h:tu next=false):jM l next=false:=by unfold jM;rw[h];simp
theorem aaU {l:List bM} {next:Int} {x:bM} {k:Nat} (V:l[k]? =some x) (h:mq x=false):jM l next=false:=by
 unfold jM;have:l.all mq=false:=List.all_eq_false.2 ⟨x,bJ V,by simp[h]⟩;rw[this];simp
theorem Iq (O:Sat W w L) (l:List bM) (ao:Option Addr) (c:Nat) (hr:∀w,Sat W w L->Rd w (.slice ao l.length c) l.length 3 (l.flatMap rv)) (hb:l.length<=1000000) (next:Int):
  Calls Tryz.prog 29 #[.slice ao l.length c, .int .i64 next] w fun e w'=>∃v',e= .returned (.tuple #[v', .bool (jM l next)])/\Sat W w' (Sl 5 1 v' (zH l next).length (bv (zH l next))::L):=by
 have HR:Hid (∀w,Sat W w L->Rd w (.slice ao l.length c) l.length 3 (l.flatMap rv)):=Z hr;obtain⟨_,_,he,hc1,hc2,_,h5⟩:=hr w O;obtain⟨rfl,rfl⟩:=gq he;clear hr
 by_cases hlen:15<l.length
 ·have j1:(15:Int)< (l.length:Int):=by omega
  rw[Tx hlen,Fy (Tx hlen)];go_enter Tryz.func29,Tryz.ntmps29;go_wp2
  go_ret2
  exact⟨_,rfl,O.kJ⟩
 by_cases hnx:tu next=false
 ·have hne:next≠0:=fun e=>by subst e;exact absurd hnx (by decide)
  have hin:bI next 74 1023=false:=by unfold tu at hnx;simpa [hne] using hnx
  rw[Ty hnx,Fy (Ty hnx)];have j1:(l.length:Int)<=15:=by omega
  have e1:(next != 0)=true:=bne_iff_ne.2 hne;clear hlen hnx;go_enter Tryz.func29,Tryz.ntmps29
  go_wp2_with (go_at_call 73;refine ak (gY _ next _ _ hin) ?_;rintro J rfl)
  go_ret2
  exact⟨_,rfl,O.kJ⟩
 have dJ:=Z (show tu next=true by simpa using hnx);have hrg:=Tu dJ.F
 have hcase:(next != 0)=false∨((next != 0)=true/\bI next 74 1023=true):=by
  by_cases h0:next=0
  ·exact .inl (by subst h0;rfl)
  ·refine .inr ⟨bne_iff_ne.2 h0,?_⟩;have:=dJ.F;unfold tu at this;simpa [h0] using this
 have i5:(l.length:Int)<=15:=by omega
 have Sk:l.length<=15:=by omega
 have jh:=Z (O.kJ (E:=5) (sz:=1));clear hnx hlen
 rcases hcase with e1|⟨e1,hin⟩
 all_goals
  go_enter Tryz.func29,Tryz.ntmps29
  go_wp2_with (first
   |(go_at_call 73;refine ak (gY _ next _ _ hin) ?_;rintro J rfl)
   |(go_at_call 74;refine(qC (l:=[]) jh.F (l.length:Nat) (by omega) (by omega) 1 (by omega) (by omega) (by simp)).mono ?_;clear O;rintro e J ⟨v1,rfl,O⟩)
   |(go_at_call 74;refine(qC O _ (by omega) (by omega) 2 (by omega) (by omega) (by simp[fK])).mono ?_;clear O;rintro e J ⟨v1,rfl,O⟩))
  have H0:Hid (Sat W _ (Sl 5 1 v1 (nk l.length next++(l.take 0).flatMap encR).length (bv (nk l.length next++(l.take 0).flatMap encR))::L)):=Z (by simpa [nk] using O);go_loopw [28,6] (fun vi vb wz=>∃k:Nat,k<=l.length/\vi= .int .i64 k/\(l.take k).all mq=true/\Sat W wz (Sl 5 1 vb (nk l.length next++(l.take k).flatMap encR).length (bv (nk l.length next++(l.take k).flatMap encR))::L)) (fun vi _ _=>l.length-(intOf vi).toNat)
  case atStart=>exact⟨0,by omega,rfl,rfl,H0.F⟩
  case round=>
   clear H0 O;obtain⟨k,hk,rfl,hall,O⟩:=hrel
   by_cases hlt:k<l.length
   ·obtain⟨b,off,rfl,_⟩:=h5 (by omega);obtain⟨⟨xk,xa,xb⟩,V⟩:∃x,l[k]? =some x:=⟨_,aR hlt⟩
    have j1:(k:Int)< (l.length:Int):=by omega
    have HX:=Z V
    by_cases hok:mq ⟨xk,xa,xb⟩=true
    ·have hrx:=TP hok;obtain⟨r1,r2,r3,r4,r5,r6⟩:=hrx;dsimp only at r1 r2 r3 r4 r5 r6;have bq:Hid (sJ xk xa xb=true):=Z hok;have aM:=Z (show(nk l.length next++(l.take k).flatMap encR).length<=200 by rw[bP,Gy,Gz,jr];omega);have QE:=Z (acK (nk l.length next) V);have nH:=Z (show(l.take (k+1)).all mq=true by rw[ik,V];simp[hall,hok]);clear V hall hok
     go_wp2_with (first
      |(refine bN (nz (HR.F _ O.drop) (wH l) _ _ (by rfl) _ (by rfl) (aI (by rfl)) (bz (by rfl)) k (by omega) HX.F (by omega)) ?_)
      |(refine dU O ?_;clear O;intro px J O;rw[aS] at O)
      |(refine eT (rv ⟨xk,xa,xb⟩) O aa ?_ (hv:=(xI _));clear O;intro J O;dsimp only[aD] at O)
      |(refine dm O aa (rv ⟨xk,xa,xb⟩) ?_)
      |(go_at_call 58;refine(Bz _ W _ O xk xa xb).mono ?_;rintro e J ⟨rfl,hS1⟩;rw[bq.F];clear O;have O:=hS1;clear hS1))
     (refine ll (pO [0,1]<|rO [2]<|pO [4]<|rO [5]<|pO [7]<|rO [8]<|aO [3,6,9]<|pO [10]<| .e) [9] O (fun _ h=>h.one aa) ?_;clear O;intro J O)
     repeat (first
      |(refine bG O ?_;go_frame)
      |(refine bR O ?_;(first
           |refine qV ?_);go_frame)
      |(refine bY fun K hK=>?_;(first
           |(refine cK (Calls.Bu O (by repeat first|exact Has.z|apply Has.s) (fun hF=>qC hF xk (by omega) (by omega) 1 (by omega) (by omega) (by have:=aM.F;omega))) ?_;clear O;rintro e J ⟨v2,rfl,O⟩;dsimp only[aD,aN] at O;refine⟨_,rfl,?_⟩)
           |(refine cK (Calls.Bu O (by repeat first|exact Has.z|apply Has.s) (fun hF=>qC hF xa (by omega) (by omega) 3 (by omega) (by omega) (by have:=aM.F;simp only[bP,fK] at this ⊢;omega))) ?_;clear O;rintro e J ⟨v2,rfl,O⟩;dsimp only[aD,aN] at O;refine⟨_,rfl,?_⟩)
           |(refine cK (Calls.Bu O (by repeat first|exact Has.z|apply Has.s) (fun hF=>qC hF xb (by omega) (by omega) 3 (by omega) (by omega) (by have:=aM.F;simp only[bP,fK] at this ⊢;omega))) ?_;clear O;rintro e J ⟨v2,rfl,O⟩;dsimp only[aD,aN] at O;refine⟨_,rfl,?_⟩));refine hK.gu O ?_;clear hK K;go_frame))
     refine bO ?_;go_wp2;have H:=O.drop;rw[QE.F] at H;exact⟨⟨k+1,by omega,by go_num,nH.F,H⟩,by simp[intOf];omega⟩
    ·have hok:mq ⟨xk,xa,xb⟩=false:=by simpa using hok
     have dx:=Z (aaU (next:=next) V hok);have bq:Hid (sJ xk xa xb=false):=Z hok;clear V hall hok
     go_wp2_with (first
      |(refine bN (nz (HR.F _ O.drop) (wH l) _ _ (by rfl) _ (by rfl) (aI (by rfl)) (bz (by rfl)) k (by omega) HX.F (by omega)) ?_)
      |(refine dU O ?_;clear O;intro px J O;rw[aS] at O)
      |(refine eT (rv ⟨xk,xa,xb⟩) O aa ?_ (hv:=(xI _));clear O;intro J O;dsimp only[aD] at O)
      |(refine dm O aa (rv ⟨xk,xa,xb⟩) ?_)
      |(go_at_call 58;refine(Bz _ W _ O xk xa xb).mono ?_;rintro e J ⟨rfl,hS1⟩;rw[bq.F];clear O;have O:=hS1;clear hS1))
     go_ret2
     rw[dx.F,Fy dx.F];exact⟨_,rfl,O.drop.drop.kJ⟩
   ·obtain rfl:k=l.length:=by omega
    rw[List.take_length] at hall O;have aM:=Z (show(nk l.length next++l.flatMap encR).length<=128 by rw[bP,Gy,Gz];omega);have nY:=Z (show jM l next=true by unfold jM;rw[dJ.F,hall];simp;omega);have HB:=Z (vT next Sk);clear hall
    go_wp2_with (go_at_call 75;refine(Kz O 128 aM.F (by omega)).mono ?_;clear O;rintro e J ⟨v3,rfl,O⟩)
    go_ret2
    rw[nY.F,BV nY.F,HB.F];exact⟨_,rfl,O⟩
def fV (b:List UInt8) (t n:Nat):Nat:=if t+n<=b.length then un ((b.drop t).take n) else 0
theorem xu (O:Sat W w L) (ao:Option Addr) (c:Nat) (l:List UInt8) (hr:∀w,Sat W w L->Rd w (.slice ao l.length c) l.length 1 (bv l)) (a:Int) (t n:Nat) (ha:a=(t:Nat)) (hn:1<=n) (hn2:n<=7) (hl:l.length<=140737488355328):
  Calls Tryz.prog 95 #[.slice ao l.length c, .int .i64 a, .int .i64 n] w fun e w'=>∃ok,e= .returned (.tuple #[.int .i64 (fV l t n:Nat), .bool ok])/\w=w':=by
 subst ha;unfold fV
 by_cases h:t+n<=l.length
 ·rw[if_pos h];exact(aid O ao c l hr t n hn hn2 h hl).mono fun e w' ⟨I,H⟩=>⟨_,I,H⟩
 ·rw[if_neg h];exact(aic w ao l.length c t n (by omega) (by omega)).mono fun e w' ⟨I,H⟩=>⟨_,I,H⟩
def recAt (b:List UInt8) (i:Nat):bM:=⟨fV b (3+7*i) 1,fV b (4+7*i) 3,fV b (7+7*i) 3⟩
def xH (b:List UInt8) (n:Nat):List bM:=(List.range n).map (recAt b)
def EF (b:List UInt8):Nat:=min (fV b 0 1) 16
def parse (b:List UInt8):List bM:=xH b (EF b)
def oH (b:List UInt8):Int:=(fV b 1 2:Nat)
def lW (b:List UInt8):Bool:=jM (parse b) (oH b)&&decide (gL (parse b) (oH b)=b)
def BF (b:List UInt8):List bM:=if lW b then parse b else []
def BG (b:List UInt8):Int:=if lW b then oH b else 0
theorem GJ {b:List UInt8} (h:lW b=false):BF b=[]:=by simp[BF,h]
theorem GM {b:List UInt8} (h:lW b=false):BG b=0:=by simp[BG,h]
theorem RG {b:List UInt8} (h:lW b=true):BF b=parse b:=by simp[BF,h]
theorem RJ {b:List UInt8} (h:lW b=true):BG b=oH b:=by simp[BG,h]
theorem abE (b:List UInt8) (n:Nat):xH b (n+1)=xH b n++[recAt b n]:=by simp[xH,List.range_succ]
theorem OA (b:List UInt8) (n:Nat):(xH b n).length=n:=by simp[xH]
theorem abf (b:List UInt8):(parse b).length<=16:=by rw[parse,OA];exact Nat.min_le_right _ _
theorem aob (l:List UInt8) {n:Nat} (h:l.length<=n):un l<256 ^ n:=Nat.lt_of_lt_of_le (Pp l) (Nat.pow_le_pow_right (by decide) h)
theorem Nb (b:List UInt8) (t n:Nat):fV b t n<256 ^ n:=by
 unfold fV
 split
 ·exact aob _ (List.length_take_le _ _)
 ·exact Nat.pow_pos (by decide)
theorem amo (O:Sat W w L) (b:List UInt8) (ao:Option Addr) (c:Nat) (hr:∀w,Sat W w L->Rd w (.slice ao b.length c) b.length 1 (bv b)) (hb:b.length<=140737488355328):
  Calls Tryz.prog 101 #[.slice ao b.length c] w fun e w'=>∃v',e= .returned (.tuple #[v', .int .i64 (BG b), .bool (lW b)])/\Sat W w' (Tb 100 3 rv v' (BF b)::L):=by
 have HR:Hid (∀w,Sat W w L->Rd w (.slice ao b.length c) b.length 1 (bv b)):=Z hr;have hg0:=Nb b 0 1;have hcd:EF b=min (fV b 0 1) 16:=rfl;obtain⟨m,hm⟩:=au (EF b);obtain⟨g,hg⟩:=au (fV b 0 1);have Qw:=Z (show parse b=xH b m by rw[parse,hm]);have hcase:((g:Int)<=16/\(m:Int)=g)∨((16:Int)<g/\(m:Int)=16):=by rw[hm,hg] at hcd;omega
 have apN:m<=16:=by rw[hm,hg] at hcd;omega
 have HG:=Z hg;have jh:=Z (O.jb (α:=bM) (f:=rv) (E:=100) (sz:=3));clear hg0 hcd hm hg hr
 rcases hcase with⟨c1,c2⟩|⟨c1,c2⟩
 all_goals
  go_enter Tryz.func101,Tryz.ntmps101
  go_wp2_with (first
   |(go_at_call 95;refine(xu O _ _ b HR.F _ 0 1 (by rfl) (by omega) (by omega) hb).mono ?_;rintro e J ⟨ok1,rfl,rfl⟩;rw[HG.F])
   |(go_at_call 95;refine(xu O _ _ b HR.F _ 1 2 (by rfl) (by omega) (by omega) hb).mono ?_;rintro e J ⟨ok2,rfl,rfl⟩))
  have H0:Hid (Sat W _ (Tb 100 3 rv (.slice none 0 0) (xH b 0)::L)):=Z jh.F;go_loopw [32,9] (fun vi vl wz=>∃k:Nat,k<=m/\vi= .int .i64 k/\Sat W wz (Tb 100 3 rv vl (xH b k)::L)) (fun vi _ _=>m-(intOf vi).toNat)
  case atStart=>exact⟨0,by omega,rfl,H0.F⟩
  case round=>
   clear H0 O;obtain⟨k,hk,rfl,O⟩:=hrel
   by_cases hlt:k<m
   ·have j1:(k:Int)< (m:Int):=by omega
    have j2:(k:Int)<16:=by omega
    have iD:=Z (abE b k);have aM:=Z (OA b k);have HRW:Hid (∀w (A:aA),Sat W w (A::L)->Rd w (.slice ao b.length c) b.length 1 (bv b)):=Z (fun w A h=>HR.F w h.drop)
    go_wp2_with (first
     |(go_at_call 95;refine(xu O _ _ b (HRW.F · _) _ (3+7*k) 1 (by omega) (by omega) (by omega) hb).mono ?_;rintro e J ⟨ok1,rfl,rfl⟩)
     |(go_at_call 95;refine(xu O _ _ b (HRW.F · _) _ (4+7*k) 3 (by omega) (by omega) (by omega) hb).mono ?_;rintro e J ⟨ok1,rfl,rfl⟩)
     |(go_at_call 95;refine(xu O _ _ b (HRW.F · _) _ (7+7*k) 3 (by omega) (by omega) (by omega) hb).mono ?_;rintro e J ⟨ok1,rfl,rfl⟩)
     |(refine il [.agg (rv (recAt b k)).toArray] O ?_ (hc:=by intro v hv;rw[eD.1 hv];rfl);clear O;intro b1 J O;rw[kP] at O)
     |(refine aU ?_;refine zg (f:=rv) O _ _ _ _ (by rfl) _ _ (by rfl) (by rfl) (bS (by rfl)) (by rfl) (by decide) (dO (by rfl)) (by repeat first|exact Has.z|apply Has.s) [(recAt b k)] (by exact wH _) (by exact O.gZ (f:=rv) aa rfl) (by exact TV _) (by rw[aM.F];simp;omega) (by rw[aM.F];simp;omega) ?_;clear O;intro uj c5 J hcap5 O;dsimp only[aD,aN] at O))
    exact⟨⟨k+1,by omega,by go_num,by rw[iD.F];simpa only[bP,fB,List.length_nil] using O.drop⟩,by simp[intOf];omega⟩
   ·obtain rfl:k=m:=by omega
    clear hlt;obtain⟨Jr,c9,rfl,_⟩:=O.fA (k:=0) rfl;rw[<-Qw.F] at O ⊢;have eX:=Z (abf b);have HRW:Hid (∀w (A:aA),Sat W w (A::L)->Rd w (.slice ao b.length c) b.length 1 (bv b)):=Z (fun w A h=>HR.F w h.drop)
    cases hok:jM (parse b) (oH b)
    ·have bq:=Z hok;have dV:=Z (show lW b=false by unfold lW;rw[hok];rfl);clear hok
     go_wp2_with (first
      |(go_at_call 29;refine(Iq O (parse b) _ _ (fun w h=>h.kK aa) (by have:=eX.F;omega) (oH b)).mono ?_;rintro e J ⟨v2,rfl,hS1⟩;rw[bq.F];clear O;have O:=hS1;clear hS1))
     go_ret3
     rw[GJ dV.F,GM dV.F,dV.F];exact⟨_,rfl,O.drop.drop.jb⟩
    ·have bq:=Z hok
     by_cases he:gL (parse b) (oH b)=b
     ·have HE:=Z he;have dV:=Z (show lW b=true by unfold lW;rw[hok,he];simp);clear hok he
      go_wp2_with (first
       |(go_at_call 29;refine(Iq O (parse b) _ _ (fun w h=>h.kK aa) (by have:=eX.F;omega) (oH b)).mono ?_;rintro e J ⟨v2,rfl,hS1⟩;rw[bq.F];rw[BV bq.F,HE.F] at hS1;clear O;have O:=hS1;clear hS1)
       |(refine aU ?_;refine ou _ _ _ (by rfl) _ (by rfl) jI (l:=b) (by first|exact HR.F _ O.drop.drop|exact O.dY aa) ?_))
      go_ret3
      rw[RG dV.F,RJ dV.F,dV.F];exact⟨_,rfl,O.drop⟩
     ·have dV:=Z (show lW b=false by unfold lW;simp[he]);have uQ:=Z (show zH (parse b) (oH b)=gL (parse b) (oH b) from BV hok);obtain⟨d,hd⟩:=au (gL (parse b) (oH b));rw[hd] at he uQ;have e9:(!d==b)=true:=by simp[he]
      clear hok hd he
      go_wp2_with (first
       |(go_at_call 29;refine(Iq O (parse b) _ _ (fun w h=>h.kK aa) (by have:=eX.F;omega) (oH b)).mono ?_;rintro e J ⟨v2,rfl,hS1⟩;rw[bq.F];rw[uQ.F] at hS1;clear O;have O:=hS1;clear hS1)
       |(refine aU ?_;refine ou _ _ _ (by rfl) _ (by rfl) jI (l:=b) (by exact HR.F _ O.drop.drop) ?_)
       |(refine aU ?_;refine ou _ _ _ (by rfl) _ (by rfl) jI (l:=d) (by exact O.dY aa) ?_))
      go_ret3
      rw[GJ dV.F,GM dV.F,dV.F];exact⟨_,rfl,O.drop.drop.jb⟩
structure di where
 blocks:Int
 head:Int
 tail:Int
 records:Int
 shown:Int
 next:Int
 cZ:Int
instance:DecidableEq di:=fun x y=>if h:x.blocks=y.blocks/\x.head=y.head/\x.tail=y.tail/\x.records=y.records/\x.shown=y.shown/\x.next=y.next/\x.cZ=y.cZ then isTrue (by cases x;cases y;simp_all) else isFalse (fun e=>by subst e;exact h ⟨rfl,rfl,rfl,rfl,rfl,rfl,rfl⟩)
def sv (s:di):List Value:=[.int .i64 s.blocks, .int .i64 s.head, .int .i64 s.tail, .int .i64 s.records, .int .i64 s.shown, .int .i64 s.next, .int .i64 s.cZ]
def eQ (s:di):Bool:=bI s.blocks 160 1024&&bI s.head 74 (s.blocks-1)&&bI s.tail 74 (s.blocks-1)&&bI s.shown 0 s.records&&decide (s.records<=16777215)&&bI s.next 1 16777215&&bI s.cZ 0 16777215
def uB:List UInt8:=[112,101,100,105]
def oC (s:di) (k:Nat):List UInt8:=uB++([s.blocks,s.head,s.tail].take k).flatMap (le · 2)
def ma (s:di) (k:Nat):List UInt8:=oC s 3++([s.records,s.shown,s.next,s.cZ].take k).flatMap (le · 3)
def encS (s:di):List UInt8:=rG (ma s 4) 128
def wK (s:di):List UInt8:=if eQ s then encS s else []
theorem vF {s:di} (h:eQ s=false):wK s=[]:=by simp[wK,h]
theorem wL {s:di} (h:eQ s=true):wK s=encS s:=by simp[wK,h]
theorem Rv (s:di) {k:Nat} (h:k<=3):(oC s k).length<=10:=by
 match k,h with
 |0,_=>simp[oC,uB,fK]
 |1,_=>simp[oC,uB,fK]
 |2,_=>simp[oC,uB,fK]
 |3,_=>simp[oC,uB,fK]
theorem JG (s:di) {k:Nat} (h:k<=4):(ma s k).length<=22:=by
 have:=Rv s (aZ 3)
 match k,h with
 |0,_=>simp[ma,fK] at this ⊢;omega
 |1,_=>simp[ma,fK] at this ⊢;omega
 |2,_=>simp[ma,fK] at this ⊢;omega
 |3,_=>simp[ma,fK] at this ⊢;omega
 |4,_=>simp[ma,fK] at this ⊢;omega
theorem oD (s:di):(encS s).length=128:=Ky (by have:=JG s (aZ 4);omega)
theorem XY (s:di):oC s 0++le s.blocks 2=oC s 1:=by simp[oC]
theorem XZ (s:di):oC s 1++le s.head 2=oC s 2:=by simp[oC]
theorem X0 (s:di):oC s 2++le s.tail 2=oC s 3:=by simp[oC]
theorem X3 (s:di):ma s 0++le s.records 3=ma s 1:=by simp[ma]
theorem X4 (s:di):ma s 1++le s.shown 3=ma s 2:=by simp[ma]
theorem X5 (s:di):ma s 2++le s.next 3=ma s 3:=by simp[ma]
theorem X6 (s:di):ma s 3++le s.cZ 3=ma s 4:=by simp[ma]
theorem ahw (s:di):oC s 3=ma s 0:=by simp[ma]
theorem lI (x:di):∀u∈sv x,u.oneCell'=true:=fun u hu=>by
 simp only[sv,oK,nE,or_false] at hu
 rcases hu with rfl|rfl|rfl|rfl|rfl|rfl|rfl<;>rfl
theorem anl (O:Sat W w L) (blocks head tail records shown next cZ:Int):
  Calls Tryz.prog 31 #[.agg (sv ⟨blocks,head,tail,records,shown,next,cZ⟩).toArray] w fun e w'=>∃v',e= .returned (.tuple #[v', .bool (eQ ⟨blocks,head,tail,records,shown,next,cZ⟩)])/\Sat W w' (Sl 5 1 v' (wK ⟨blocks,head,tail,records,shown,next,cZ⟩).length (bv (wK ⟨blocks,head,tail,records,shown,next,cZ⟩))::L):=by
 cases h0:bI blocks 160 1024
 ·have dx:Hid (eQ ⟨blocks,head,tail,records,shown,next,cZ⟩=false):=Z (by unfold eQ;simp only[h0,Bool.false_and,Bool.and_false,Bool.true_and,Bool.and_true]);go_enter Tryz.func31,Tryz.ntmps31
  go_wp2_with (first
   |(refine bV O ?_;clear O;intro ps J O;rw[aS] at O)
   |(refine bB O ?_)
   |(go_at_call 73;refine ak (gY _ blocks _ _ h0) ?_;rintro J rfl))
  go_ret2
  rw[dx.F,vF dx.F];exact⟨_,rfl,O.drop.kJ⟩
 cases I:bI head 74 (blocks-1)
 ·have dx:Hid (eQ ⟨blocks,head,tail,records,shown,next,cZ⟩=false):=Z (by unfold eQ;simp only[h0,I,Bool.false_and,Bool.and_false,Bool.true_and,Bool.and_true]);have hb0:160<=blocks/\blocks<=1024:=by simpa [bI] using h0
  obtain⟨hb1,hb2⟩:=hb0;go_enter Tryz.func31,Tryz.ntmps31
  go_wp2_with (first
   |(refine bV O ?_;clear O;intro ps J O;rw[aS] at O)
   |(refine bB O ?_)
   |(go_at_call 73;refine ak (gY _ blocks _ _ h0) ?_;rintro J rfl)
   |(go_at_call 73;refine ak (gY _ head _ _ I) ?_;rintro J rfl))
  go_ret2
  rw[dx.F,vF dx.F];exact⟨_,rfl,O.drop.kJ⟩
 cases H:bI tail 74 (blocks-1)
 ·have dx:Hid (eQ ⟨blocks,head,tail,records,shown,next,cZ⟩=false):=Z (by unfold eQ;simp only[h0,I,H,Bool.false_and,Bool.and_false,Bool.true_and,Bool.and_true]);have hb0:160<=blocks/\blocks<=1024:=by simpa [bI] using h0
  obtain⟨hb1,hb2⟩:=hb0;go_enter Tryz.func31,Tryz.ntmps31
  go_wp2_with (first
   |(refine bV O ?_;clear O;intro ps J O;rw[aS] at O)
   |(refine bB O ?_)
   |(go_at_call 73;refine ak (gY _ blocks _ _ h0) ?_;rintro J rfl)
   |(go_at_call 73;refine ak (gY _ head _ _ I) ?_;rintro J rfl)
   |(go_at_call 73;refine ak (gY _ tail _ _ H) ?_;rintro J rfl))
  go_ret2
  rw[dx.F,vF dx.F];exact⟨_,rfl,O.drop.kJ⟩
 cases h3:bI shown 0 records
 ·have dx:Hid (eQ ⟨blocks,head,tail,records,shown,next,cZ⟩=false):=Z (by unfold eQ;simp only[h0,I,H,h3,Bool.false_and,Bool.and_false,Bool.true_and,Bool.and_true]);have hb0:160<=blocks/\blocks<=1024:=by simpa [bI] using h0
  obtain⟨hb1,hb2⟩:=hb0;go_enter Tryz.func31,Tryz.ntmps31
  go_wp2_with (first
   |(refine bV O ?_;clear O;intro ps J O;rw[aS] at O)
   |(refine bB O ?_)
   |(go_at_call 73;refine ak (gY _ blocks _ _ h0) ?_;rintro J rfl)
   |(go_at_call 73;refine ak (gY _ head _ _ I) ?_;rintro J rfl)
   |(go_at_call 73;refine ak (gY _ tail _ _ H) ?_;rintro J rfl)
   |(go_at_call 73;refine ak (gY _ shown _ _ h3) ?_;rintro J rfl))
  go_ret2
  rw[dx.F,vF dx.F];exact⟨_,rfl,O.drop.kJ⟩
 by_cases h4:records<=16777215
 rotate_left
 ·have dx:Hid (eQ ⟨blocks,head,tail,records,shown,next,cZ⟩=false):=Z (by unfold eQ;simp only[bI,ed,Bool.and_eq_false_iff,decide_eq_true_eq,decide_eq_false_iff_not] at h0 I H h3 h4 ⊢;omega);have hb0:160<=blocks/\blocks<=1024:=by simpa [bI] using h0
  obtain⟨hb1,hb2⟩:=hb0;have h4':16777215<records:=by omega
  go_enter Tryz.func31,Tryz.ntmps31
  go_wp2_with (first
   |(refine bV O ?_;clear O;intro ps J O;rw[aS] at O)
   |(refine bB O ?_)
   |(go_at_call 73;refine ak (gY _ blocks _ _ h0) ?_;rintro J rfl)
   |(go_at_call 73;refine ak (gY _ head _ _ I) ?_;rintro J rfl)
   |(go_at_call 73;refine ak (gY _ tail _ _ H) ?_;rintro J rfl)
   |(go_at_call 73;refine ak (gY _ shown _ _ h3) ?_;rintro J rfl))
  go_ret2
  rw[dx.F,vF dx.F];exact⟨_,rfl,O.drop.kJ⟩
 cases h5:bI next 1 16777215
 ·have dx:Hid (eQ ⟨blocks,head,tail,records,shown,next,cZ⟩=false):=Z (by unfold eQ;simp only[h0,I,H,h3,h4,h5,Bool.false_and,Bool.and_false,Bool.true_and,Bool.and_true]);have hb0:160<=blocks/\blocks<=1024:=by simpa [bI] using h0
  obtain⟨hb1,hb2⟩:=hb0;have e4:decide (16777215<records)=false:=by simp;omega
  go_enter Tryz.func31,Tryz.ntmps31
  go_wp2_with (first
   |(refine bV O ?_;clear O;intro ps J O;rw[aS] at O)
   |(refine bB O ?_)
   |(go_at_call 73;refine ak (gY _ blocks _ _ h0) ?_;rintro J rfl)
   |(go_at_call 73;refine ak (gY _ head _ _ I) ?_;rintro J rfl)
   |(go_at_call 73;refine ak (gY _ tail _ _ H) ?_;rintro J rfl)
   |(go_at_call 73;refine ak (gY _ shown _ _ h3) ?_;rintro J rfl)
   |(go_at_call 73;refine ak (gY _ next _ _ h5) ?_;rintro J rfl))
  go_ret2
  rw[dx.F,vF dx.F];exact⟨_,rfl,O.drop.kJ⟩
 cases h6:bI cZ 0 16777215
 ·have dx:Hid (eQ ⟨blocks,head,tail,records,shown,next,cZ⟩=false):=Z (by unfold eQ;simp only[h0,I,H,h3,h4,h5,h6,Bool.false_and,Bool.and_false,Bool.true_and,Bool.and_true]);have hb0:160<=blocks/\blocks<=1024:=by simpa [bI] using h0
  obtain⟨hb1,hb2⟩:=hb0;have e4:decide (16777215<records)=false:=by simp;omega
  go_enter Tryz.func31,Tryz.ntmps31
  go_wp2_with (first
   |(refine bV O ?_;clear O;intro ps J O;rw[aS] at O)
   |(refine bB O ?_)
   |(go_at_call 73;refine ak (gY _ blocks _ _ h0) ?_;rintro J rfl)
   |(go_at_call 73;refine ak (gY _ head _ _ I) ?_;rintro J rfl)
   |(go_at_call 73;refine ak (gY _ tail _ _ H) ?_;rintro J rfl)
   |(go_at_call 73;refine ak (gY _ shown _ _ h3) ?_;rintro J rfl)
   |(go_at_call 73;refine ak (gY _ next _ _ h5) ?_;rintro J rfl)
   |(go_at_call 73;refine ak (gY _ cZ _ _ h6) ?_;rintro J rfl))
  go_ret2
  rw[dx.F,vF dx.F];exact⟨_,rfl,O.drop.kJ⟩
 have nY:Hid (eQ ⟨blocks,head,tail,records,shown,next,cZ⟩=true):=Z (by unfold eQ;simp only[bI,ed,decide_eq_true_eq] at h0 I H h3 h4 h5 h6 ⊢;omega);have hb0:160<=blocks/\blocks<=1024:=by simpa [bI] using h0
 obtain⟨hb1,hb2⟩:=hb0
 have hr:(0<=head/\head<=1024)/\(0<=tail/\tail<=1024)/\(0<=records/\records<=16777215)/\(0<=shown/\shown<=16777215)/\(0<=next/\next<=16777215)/\(0<=cZ/\cZ<=16777215):=by
  simp only[bI,ed,decide_eq_true_eq] at h0 I H h3 h4 h5 h6;omega
 obtain⟨⟨r1,r2⟩,⟨r3,r4⟩,⟨r5,r6⟩,⟨r7,r8⟩,⟨r9,r10⟩,r11,r12⟩:=hr;have e4:decide (16777215<records)=false:=by simp;omega
 go_enter Tryz.func31,Tryz.ntmps31
 go_wp2_with (first
  |(refine bV O ?_;clear O;intro ps J O;rw[aS] at O)
  |(refine bB O ?_)
  |(go_at_call 73;refine ak (gY _ blocks _ _ h0) ?_;rintro J rfl)
  |(go_at_call 73;refine ak (gY _ head _ _ I) ?_;rintro J rfl)
  |(go_at_call 73;refine ak (gY _ tail _ _ H) ?_;rintro J rfl)
  |(go_at_call 73;refine ak (gY _ shown _ _ h3) ?_;rintro J rfl)
  |(go_at_call 73;refine ak (gY _ next _ _ h5) ?_;rintro J rfl)
  |(go_at_call 73;refine ak (gY _ cZ _ _ h6) ?_;rintro J rfl)
  |(refine il [.int .u8 112, .int .u8 101, .int .u8 100, .int .u8 105] O ?_;clear O;intro b1 J O)
  |(refine aU ?_;refine YA O _ _ (by rfl) _ _ _ _ (by rfl) (by kernel_rfl) (by repeat first|exact Has.z|apply Has.s) ?_;clear O;intro J O))
 have i00:∀w,(Instr.index 146 (.agg #[.int .i64 blocks, .int .i64 head, .int .i64 tail]) (.int .i64 0)).run Tryz.prog w= .ok (.int .i64 blocks) w:=fun _=>by kernel_rfl
 have i01:∀w,(Instr.index 146 (.agg #[.int .i64 blocks, .int .i64 head, .int .i64 tail]) (.int .i64 1)).run Tryz.prog w= .ok (.int .i64 head) w:=fun _=>by kernel_rfl
 have i02:∀w,(Instr.index 146 (.agg #[.int .i64 blocks, .int .i64 head, .int .i64 tail]) (.int .i64 2)).run Tryz.prog w= .ok (.int .i64 tail) w:=fun _=>by kernel_rfl
 have i10:∀w,(Instr.index 147 (.agg #[.int .i64 records, .int .i64 shown, .int .i64 next, .int .i64 cZ]) (.int .i64 0)).run Tryz.prog w= .ok (.int .i64 records) w:=fun _=>by kernel_rfl
 have i11:∀w,(Instr.index 147 (.agg #[.int .i64 records, .int .i64 shown, .int .i64 next, .int .i64 cZ]) (.int .i64 1)).run Tryz.prog w= .ok (.int .i64 shown) w:=fun _=>by kernel_rfl
 have i12:∀w,(Instr.index 147 (.agg #[.int .i64 records, .int .i64 shown, .int .i64 next, .int .i64 cZ]) (.int .i64 2)).run Tryz.prog w= .ok (.int .i64 next) w:=fun _=>by kernel_rfl
 have i13:∀w,(Instr.index 147 (.agg #[.int .i64 records, .int .i64 shown, .int .i64 next, .int .i64 cZ]) (.int .i64 3)).run Tryz.prog w= .ok (.int .i64 cZ) w:=fun _=>by kernel_rfl
 have Bg:∀k,k<=3->Hid ((oC ⟨blocks,head,tail,records,shown,next,cZ⟩ k).length<=1000000):=fun k hk=>Z (by have:=Rv ⟨blocks,head,tail,records,shown,next,cZ⟩ hk;omega)
 have uP:∀k,k<=4->Hid ((ma ⟨blocks,head,tail,records,shown,next,cZ⟩ k).length<=1000000):=fun k hk=>Z (by have:=JG ⟨blocks,head,tail,records,shown,next,cZ⟩ hk;omega)
 have hS1:Sat W _ (Sl 5 1 (.slice (some ⟨b1,0,none⟩) 4 4) (oC ⟨blocks,head,tail,records,shown,next,cZ⟩ 0).length (bv (oC ⟨blocks,head,tail,records,shown,next,cZ⟩ 0))::_):=Sat.pW (n:=4) (sz:=1) (cap:=4) (pre:=[]) (vs:=bv uB) (rest:=[]) (by exact O) (aZ _) (by decide) (by rfl) rfl (by decide);have H0:=Z hS1;clear hS1 O;go_loopw [65,4] (fun vi vb wz=>∃k:Nat,k<=3/\vi= .int .i64 k/\Sat W wz (Sl 5 1 vb (oC ⟨blocks,head,tail,records,shown,next,cZ⟩ k).length (bv (oC ⟨blocks,head,tail,records,shown,next,cZ⟩ k))::Cs ps 55 (sv ⟨blocks,head,tail,records,shown,next,cZ⟩)::L)) (fun vi _ _=>3-(intOf vi).toNat)
 case atStart=>exact⟨0,by omega,rfl,H0.F⟩
 case round=>
  clear H0;obtain⟨k,hk,rfl,O⟩:=hrel
  rcases(show k=0∨k=1∨k=2∨k=3 by omega) with rfl|rfl|rfl|rfl
  ·go_wp2_with (go_at_call 74;refine(qC O blocks (by omega) (by omega) 2 (by omega) (by omega) (Bg 0 (by omega)).out).mono ?_;clear O;rintro e J ⟨v1,rfl,O⟩)
   rw[XY] at O;exact⟨⟨1,by omega,rfl,O⟩,by simp[intOf]⟩
  ·go_wp2_with (go_at_call 74;refine(qC O head (by omega) (by omega) 2 (by omega) (by omega) (Bg 1 (by omega)).out).mono ?_;clear O;rintro e J ⟨v1,rfl,O⟩)
   rw[XZ] at O;exact⟨⟨2,by omega,rfl,O⟩,by simp[intOf]⟩
  ·go_wp2_with (go_at_call 74;refine(qC O tail (by omega) (by omega) 2 (by omega) (by omega) (Bg 2 (by omega)).out).mono ?_;clear O;rintro e J ⟨v1,rfl,O⟩)
   rw[X0] at O;exact⟨⟨3,by omega,rfl,O⟩,by simp[intOf]⟩
  have H1:Hid (Sat W wr (Sl 5 1 _ (ma ⟨blocks,head,tail,records,shown,next,cZ⟩ 0).length (bv (ma ⟨blocks,head,tail,records,shown,next,cZ⟩ 0))::Cs ps 55 (sv ⟨blocks,head,tail,records,shown,next,cZ⟩)::L)):=Z (by simpa [ma] using O)
  go_wp2_with (refine bB O ?_)
  clear O;go_loopw [81,4] (fun vi vb wz=>∃k:Nat,k<=4/\vi= .int .i64 k/\Sat W wz (Sl 5 1 vb (ma ⟨blocks,head,tail,records,shown,next,cZ⟩ k).length (bv (ma ⟨blocks,head,tail,records,shown,next,cZ⟩ k))::Cs ps 55 (sv ⟨blocks,head,tail,records,shown,next,cZ⟩)::L)) (fun vi _ _=>4-(intOf vi).toNat)
  case atStart=>exact⟨0,by omega,rfl,H1.F⟩
  case round=>
   clear H1;obtain⟨k,hk,rfl,O⟩:=hrel
   rcases(show k=0∨k=1∨k=2∨k=3∨k=4 by omega) with rfl|rfl|rfl|rfl|rfl
   ·go_wp2_with (go_at_call 74;refine(qC O records (by omega) (by omega) 3 (by omega) (by omega) (uP 0 (by omega)).out).mono ?_;clear O;rintro e J ⟨v1,rfl,O⟩)
    rw[X3] at O;exact⟨⟨1,by omega,rfl,O⟩,by simp[intOf]⟩
   ·go_wp2_with (go_at_call 74;refine(qC O shown (by omega) (by omega) 3 (by omega) (by omega) (uP 1 (by omega)).out).mono ?_;clear O;rintro e J ⟨v1,rfl,O⟩)
    rw[X4] at O;exact⟨⟨2,by omega,rfl,O⟩,by simp[intOf]⟩
   ·go_wp2_with (go_at_call 74;refine(qC O next (by omega) (by omega) 3 (by omega) (by omega) (uP 2 (by omega)).out).mono ?_;clear O;rintro e J ⟨v1,rfl,O⟩)
    rw[X5] at O;exact⟨⟨3,by omega,rfl,O⟩,by simp[intOf]⟩
   ·go_wp2_with (go_at_call 74;refine(qC O cZ (by omega) (by omega) 3 (by omega) (by omega) (uP 3 (by omega)).out).mono ?_;clear O;rintro e J ⟨v1,rfl,O⟩)
    rw[X6] at O;exact⟨⟨4,by omega,rfl,O⟩,by simp[intOf]⟩
   have tY:=Z (JG ⟨blocks,head,tail,records,shown,next,cZ⟩ (aZ 4));have iT:=Z (oD ⟨blocks,head,tail,records,shown,next,cZ⟩)
   go_wp2_with (go_at_call 75;refine(Kz O 128 (by have:=tY.F;omega) (by omega)).mono ?_;clear O;rintro e J ⟨v3,rfl,O⟩)
   go_ret2
   rw[nY.F,wL nY.F,iT.F];exact⟨_,rfl,O.bW.drop⟩
def jH (b:List UInt8):di:=⟨(fV b 4 2:Nat),(fV b 6 2:Nat),(fV b 8 2:Nat),(fV b 10 3:Nat),(fV b 13 3:Nat),(fV b 16 3:Nat),(fV b 19 3:Nat)⟩
def nV:di:=⟨0,0,0,0,0,0,0⟩
def pK (b:List UInt8):Bool:=eQ (jH b)&&decide (encS (jH b)=b)
def EM (b:List UInt8):di:=if pK b then jH b else nV
theorem JO {b:List UInt8} (h:pK b=false):EM b=nV:=by simp[EM,h]
theorem RI {b:List UInt8} (h:pK b=true):EM b=jH b:=by simp[EM,h]
theorem aib {b:List UInt8} (h:pK b=true):b.length=128:=by
 unfold pK at h;simp only[ed,decide_eq_true_eq] at h;have:=oD (jH b);rw[h.2] at this;exact this
def Uu (b:List UInt8) (k:Nat):List Value:=(sv (jH b)).take k++(sv nV).drop k
theorem IA (O:Sat W w L) (s:di):
  Calls Tryz.prog 31 #[.agg (sv s).toArray] w fun e w'=>∃v',e= .returned (.tuple #[v', .bool (eQ s)])/\Sat W w' (Sl 5 1 v' (wK s).length (bv (wK s))::L):=by
 cases s;exact anl O _ _ _ _ _ _ _
theorem am4 (O:Sat W w L) (b:List UInt8) (ao:Option Addr) (c:Nat) (hr:∀w,Sat W w L->Rd w (.slice ao b.length c) b.length 1 (bv b)) (hb:b.length<=140737488355328):
  Calls Tryz.prog 54 #[.slice ao b.length c] w fun e w'=>e= .returned (.tuple #[.agg (sv (EM b)).toArray, .bool (pK b)])/\Sat W w' L:=by
 have HR:Hid (∀w (A B:aA),Sat W w (A::B::L)->Rd w (.slice ao b.length c) b.length 1 (bv b)):=Z (fun w A B h=>hr w h.drop.drop);clear hr;go_enter Tryz.func54,Tryz.ntmps54
 go_wp2_with (first|(refine dU (show Sat W _ L from O) ?_;clear O;intro p2 J O;rw[aS] at O)|(refine dU O ?_;clear O;intro p4 J O;rw[aS] at O))
 have i00:∀w,(Instr.index 168 (.agg #[.pointer (some ⟨p4,0,none⟩), .pointer (some ⟨p4,1,none⟩), .pointer (some ⟨p4,2,none⟩)]) (.int .i64 0)).run Tryz.prog w= .ok (.pointer (some ⟨p4,0,none⟩)) w:=fun _=>by kernel_rfl
 have i01:∀w,(Instr.index 168 (.agg #[.pointer (some ⟨p4,0,none⟩), .pointer (some ⟨p4,1,none⟩), .pointer (some ⟨p4,2,none⟩)]) (.int .i64 1)).run Tryz.prog w= .ok (.pointer (some ⟨p4,1,none⟩)) w:=fun _=>by kernel_rfl
 have i02:∀w,(Instr.index 168 (.agg #[.pointer (some ⟨p4,0,none⟩), .pointer (some ⟨p4,1,none⟩), .pointer (some ⟨p4,2,none⟩)]) (.int .i64 2)).run Tryz.prog w= .ok (.pointer (some ⟨p4,2,none⟩)) w:=fun _=>by kernel_rfl
 have i10:∀w,(Instr.index 169 (.agg #[.pointer (some ⟨p4,3,none⟩), .pointer (some ⟨p4,4,none⟩), .pointer (some ⟨p4,5,none⟩), .pointer (some ⟨p4,6,none⟩)]) (.int .i64 0)).run Tryz.prog w= .ok (.pointer (some ⟨p4,3,none⟩)) w:=fun _=>by kernel_rfl
 have i11:∀w,(Instr.index 169 (.agg #[.pointer (some ⟨p4,3,none⟩), .pointer (some ⟨p4,4,none⟩), .pointer (some ⟨p4,5,none⟩), .pointer (some ⟨p4,6,none⟩)]) (.int .i64 1)).run Tryz.prog w= .ok (.pointer (some ⟨p4,4,none⟩)) w:=fun _=>by kernel_rfl
 have i12:∀w,(Instr.index 169 (.agg #[.pointer (some ⟨p4,3,none⟩), .pointer (some ⟨p4,4,none⟩), .pointer (some ⟨p4,5,none⟩), .pointer (some ⟨p4,6,none⟩)]) (.int .i64 2)).run Tryz.prog w= .ok (.pointer (some ⟨p4,5,none⟩)) w:=fun _=>by kernel_rfl
 have i13:∀w,(Instr.index 169 (.agg #[.pointer (some ⟨p4,3,none⟩), .pointer (some ⟨p4,4,none⟩), .pointer (some ⟨p4,5,none⟩), .pointer (some ⟨p4,6,none⟩)]) (.int .i64 3)).run Tryz.prog w= .ok (.pointer (some ⟨p4,6,none⟩)) w:=fun _=>by kernel_rfl
 have H0:Hid (Sat W _ (Cs p4 55 (Uu b 0)::Cs p2 55 (sv nV)::L)):=Z O;clear O;go_loopw [15] (fun vi wz=>∃k:Nat,k<=3/\vi= .int .i64 k/\Sat W wz (Cs p4 55 (Uu b k)::Cs p2 55 (sv nV)::L)) (fun vi _=>3-(intOf vi).toNat)
 case atStart=>exact⟨0,by omega,rfl,H0.F⟩
 case round=>
  clear H0;obtain⟨k,hk,rfl,O⟩:=hrel
  rcases(show k=0∨k=1∨k=2∨k=3 by omega) with rfl|rfl|rfl|rfl
  ·go_wp2_with (first
    |(go_at_call 95;refine(xu O _ _ b (HR.F · _ _) _ 4 2 (by rfl) (by omega) (by omega) hb).mono ?_;rintro e J ⟨ok1,rfl,rfl⟩)
    |(refine qR O ?_;clear O;intro J O;dsimp only[List.set] at O))
   exact⟨⟨1,by omega,rfl,O⟩,by simp[intOf]⟩
  ·go_wp2_with (first
    |(go_at_call 95;refine(xu O _ _ b (HR.F · _ _) _ 6 2 (by rfl) (by omega) (by omega) hb).mono ?_;rintro e J ⟨ok1,rfl,rfl⟩)
    |(refine qR O ?_;clear O;intro J O;dsimp only[List.set] at O))
   exact⟨⟨2,by omega,rfl,O⟩,by simp[intOf]⟩
  ·go_wp2_with (first
    |(go_at_call 95;refine(xu O _ _ b (HR.F · _ _) _ 8 2 (by rfl) (by omega) (by omega) hb).mono ?_;rintro e J ⟨ok1,rfl,rfl⟩)
    |(refine qR O ?_;clear O;intro J O;dsimp only[List.set] at O))
   exact⟨⟨3,by omega,rfl,O⟩,by simp[intOf]⟩
  go_wp2;have H1:=Z O;clear O;go_loopw [35] (fun vi wz=>∃k:Nat,k<=4/\vi= .int .i64 k/\Sat W wz (Cs p4 55 (Uu b (3+k))::Cs p2 55 (sv nV)::L)) (fun vi _=>4-(intOf vi).toNat)
  case atStart=>exact⟨0,by omega,rfl,H1.F⟩
  case round=>
   clear H1;obtain⟨k,hk,rfl,O⟩:=hrel
   rcases(show k=0∨k=1∨k=2∨k=3∨k=4 by omega) with rfl|rfl|rfl|rfl|rfl
   ·go_wp2_with (first
     |(go_at_call 95;refine(xu O _ _ b (HR.F · _ _) _ 10 3 (by rfl) (by omega) (by omega) hb).mono ?_;rintro e J ⟨ok1,rfl,rfl⟩)
     |(refine qR O ?_;clear O;intro J O;dsimp only[List.set] at O))
    exact⟨⟨_,_,_,_,_,_,_,_,_,_,_,_,_,_,_,_,_,⟨1,by omega,rfl,O⟩,rfl⟩,by simp[intOf]⟩
   ·go_wp2_with (first
     |(go_at_call 95;refine(xu O _ _ b (HR.F · _ _) _ 13 3 (by rfl) (by omega) (by omega) hb).mono ?_;rintro e J ⟨ok1,rfl,rfl⟩)
     |(refine qR O ?_;clear O;intro J O;dsimp only[List.set] at O))
    exact⟨⟨_,_,_,_,_,_,_,_,_,_,_,_,_,_,_,_,_,⟨2,by omega,rfl,O⟩,rfl⟩,by simp[intOf]⟩
   ·go_wp2_with (first
     |(go_at_call 95;refine(xu O _ _ b (HR.F · _ _) _ 16 3 (by rfl) (by omega) (by omega) hb).mono ?_;rintro e J ⟨ok1,rfl,rfl⟩)
     |(refine qR O ?_;clear O;intro J O;dsimp only[List.set] at O))
    exact⟨⟨_,_,_,_,_,_,_,_,_,_,_,_,_,_,_,_,_,⟨3,by omega,rfl,O⟩,rfl⟩,by simp[intOf]⟩
   ·go_wp2_with (first
     |(go_at_call 95;refine(xu O _ _ b (HR.F · _ _) _ 19 3 (by rfl) (by omega) (by omega) hb).mono ?_;rintro e J ⟨ok1,rfl,rfl⟩)
     |(refine qR O ?_;clear O;intro J O;dsimp only[List.set] at O))
    exact⟨⟨_,_,_,_,_,_,_,_,_,_,_,_,_,_,_,_,_,⟨4,by omega,rfl,O⟩,rfl⟩,by simp[intOf]⟩
   have H:Sat W wr (Cs p4 55 (sv (jH b))::Cs p2 55 (sv nV)::L):=O;clear O;have O:=H;clear H;have HR2:Hid (∀w (A B C:aA),Sat W w (A::B::C::L)->Rd w (.slice ao b.length c) b.length 1 (bv b)):=Z (fun w A B C h=>HR.F w B C h.drop)
   cases hok:eQ (jH b)
   ·have dV:=Z (show pK b=false by unfold pK;rw[hok];rfl);have bq:=Z hok;clear hok
    go_wp2_with (first
     |(refine dm O aa (sv (jH b)) ?_)
     |(go_at_call 31;refine(IA O (jH b)).mono ?_;rintro e J ⟨v2,rfl,hS1⟩;rw[bq.F];clear O;have O:=hS1;clear hS1)
     |(refine eT (sv nV) O hz2 ?_ (hv:=(lI _));clear O;intro J O;dsimp only[aD,aN] at O))
    refine Ae O rfl (by rfl) (aI (by rfl)) (bz (by rfl)) hz2 (by rfl) rfl ?_;rw[JO dV.F,dV.F];exact⟨rfl,O.drop.drop.drop⟩
   ·have bq:=Z hok
    by_cases he:encS (jH b)=b
    ·have HE:=Z he;have dV:=Z (show pK b=true by unfold pK;rw[hok,he];simp);clear hok he
     go_wp2_with (first
      |(refine dm O aa (sv (jH b)) ?_)
      |(refine dm O hz1 (sv (jH b)) ?_)
      |(go_at_call 31;refine(IA O (jH b)).mono ?_;rintro e J ⟨v2,rfl,hS1⟩;rw[bq.F];rw[wL bq.F,HE.F] at hS1;clear O;have O:=hS1;clear hS1)
      |(refine aU ?_;refine ou _ _ _ (by rfl) _ (by rfl) jI (l:=b) (by first|exact HR2.F _ _ _ _ O|exact O.dY aa) ?_)
      |(refine eT (sv (jH b)) O hz2 ?_ (hv:=(lI _));clear O;intro J O;dsimp only[aD,aN] at O))
     refine Ae O rfl (by rfl) (aI (by rfl)) (bz (by rfl)) hz2 (by rfl) rfl ?_;rw[RI dV.F,dV.F];exact⟨rfl,O.drop.drop.drop⟩
    ·have dV:=Z (show pK b=false by unfold pK;simp[he]);have uQ:=Z (show wK (jH b)=encS (jH b) from wL hok);obtain⟨d,hd⟩:=au (encS (jH b));rw[hd] at he uQ;have e9:(!d==b)=true:=by simp[he]
     clear hok hd he
     go_wp2_with (first
      |(refine dm O aa (sv (jH b)) ?_)
      |(refine dm O hz1 (sv (jH b)) ?_)
      |(go_at_call 31;refine(IA O (jH b)).mono ?_;rintro e J ⟨v2,rfl,hS1⟩;rw[bq.F];rw[uQ.F] at hS1;clear O;have O:=hS1;clear hS1)
      |(refine aU ?_;refine ou _ _ _ (by rfl) _ (by rfl) jI (l:=b) (by exact HR2.F _ _ _ _ O) ?_)
      |(refine aU ?_;refine ou _ _ _ (by rfl) _ (by rfl) jI (l:=d) (by exact O.dY aa) ?_)
      |(refine eT (sv nV) O hz2 ?_ (hv:=(lI _));clear O;intro J O;dsimp only[aD,aN] at O))
     refine Ae O rfl (by rfl) (aI (by rfl)) (bz (by rfl)) hz2 (by rfl) rfl ?_;rw[JO dV.F,dV.F];exact⟨rfl,O.drop.drop.drop⟩
theorem yP (A C:List UInt8) (v:Int) (n t:Nat) (h0:0<=v) (h:v< (256 ^ n:Nat)) (ht:A.length=t):((fV (A++le v n++C) t n:Nat):Int)=v:=by
 subst ht;obtain⟨k,rfl⟩:=Int.eq_ofNat_of_zero_le h0;unfold fV;rw[if_pos (by simp[fK])];rw[dX,List.drop_left',List.take_left' (fK _ _),K7 n k (by omega)];rfl
theorem aht {l:List bM} {next:Int} {i:Nat} {x:bM} (V:l[i]? =some x):
  ∃A C,gL l next=A++encR x++C/\A.length=3+7*i:=by
 have hi:=(bZ.1 V).1;refine⟨nk l.length next++(l.take i).flatMap encR,(l.drop (i+1)).flatMap encR++List.replicate (128-(nk l.length next++l.flatMap encR).length) 0,?_,?_⟩
 ·have hs:l.flatMap encR=(l.take i).flatMap encR++encR x++(l.drop (i+1)).flatMap encR:=by
   have he:l[i]=x:=(bZ.1 V).2
   conv=>lhs;rw[<-rR i l,List.drop_eq_getElem_cons hi,he]
   rw[List.flatMap_append,pY,dX]
  unfold gL rG
  conv=>lhs;arg 1;rw[hs]
  simp only[dX]
 ·rw[bP,Gy,Gz,jr];omega
theorem alK {l:List bM} {next:Int} {i:Nat} {x:bM} (V:l[i]? =some x) (hok:mq x=true):recAt (gL l next) i=x:=by
 obtain⟨A,C,I,H⟩:=aht (next:=next) V;obtain⟨r1,r2,r3,r4,r5,r6⟩:=TP hok;obtain⟨k,a,b⟩:=x;dsimp only at r1 r2 r3 r4 r5 r6;unfold recAt;rw[I];unfold encR;congr 1
 ·have:=yP A (le a 3++le b 3++C) k 1 (3+7*i) r1 (by simp;omega) H
  simpa only[dX] using this
 ·have:=yP (A++le k 1) (le b 3++C) a 3 (4+7*i) r3 (by simp;omega) (by rw[bP,H,fK];omega)
  simpa only[dX] using this
 ·have:=yP (A++le k 1++le a 3) C b 3 (7+7*i) r5 (by simp;omega) (by rw[bP,bP,H,fK,fK];omega)
  simpa only[dX] using this
theorem Kq {l:List bM} {next:Int} (h:jM l next=true):l.length<=15/\tu next=true/\∀x∈l,mq x=true:=by
 unfold jM at h;simp only[ed,decide_eq_true_eq,jV] at h;exact⟨h.1.1,h.1.2,h.2⟩
theorem agQ {l:List bM} {next:Int} (h:jM l next=true):EF (gL l next)=l.length:=by
 obtain⟨I,_,_⟩:=Kq h;have:=yP [] (le next 2++(l.flatMap encR++List.replicate (128-(nk l.length next++l.flatMap encR).length) 0)) (l.length:Nat) 1 0 (by omega) (by simp;omega) rfl
 have H:fV (gL l next) 0 1=l.length:=by
  unfold gL rG nk;simp only[iP,dX] at this ⊢;unfold nk at this;simp only[dX] at this
  exact_mod_cast this
 rw[EF,H];omega
theorem aaF {l:List bM} {next:Int} (h:jM l next=true):oH (gL l next)=next:=by
 obtain⟨_,I,_⟩:=Kq h;have hr:=Tu I;have:=yP (le l.length 1) (l.flatMap encR++List.replicate (128-(nk l.length next++l.flatMap encR).length) 0) next 2 1 hr.1 (by simp;omega) (fK _ _)
 unfold oH gL rG
 conv=>lhs;arg 1;arg 1;arg 1;arg 1;unfold nk
 simpa only[dX] using this
theorem abe {l:List bM} {next:Int} (h:jM l next=true):parse (gL l next)=l:=by
 obtain⟨_,_,h3⟩:=Kq h;unfold parse xH;rw[agQ h];apply List.ext_getElem?;intro i;rw[kY]
 rcases Nat.lt_or_ge i l.length with hi|hi
 ·rw[List.getElem?_range hi,aR hi];exact congrArg some (alK (aR hi) (h3 _ (List.getElem_mem hi)))
 ·rw[qE (by simpa using hi),qE hi];rfl
theorem YE {l:List bM} {next:Int} (h:jM l next=true):lW (gL l next)=true/\BF (gL l next)=l/\BG (gL l next)=next:=by
 have I:lW (gL l next)=true:=by unfold lW;rw[abe h,aaF h,h];simp
 exact⟨I,by rw[RG I,abe h],by rw[RJ I,aaF h]⟩
theorem abd {s:di} (h:eQ s=true):jH (encS s)=s:=by
 obtain⟨b1,b2,b3,b4,b5,b6,b7⟩:=s
 have hr:(160<=b1/\b1<=1024)/\(0<=b2/\b2<=1024)/\(0<=b3/\b3<=1024)/\(0<=b4/\b4<=16777215)/\(0<=b5/\b5<=16777215)/\(0<=b6/\b6<=16777215)/\(0<=b7/\b7<=16777215):=by
  unfold eQ bI at h;simp only[ed,decide_eq_true_eq] at h;omega
 obtain⟨⟨g1,g2⟩,⟨g3,g4⟩,⟨g5,g6⟩,⟨g7,g8⟩,⟨g9,g10⟩,⟨g11,g12⟩,g13,g14⟩:=hr
 obtain⟨nZ,hZ⟩:∃nZ,encS ⟨b1,b2,b3,b4,b5,b6,b7⟩=uB++le b1 2++le b2 2++le b3 2++le b4 3++le b5 3++le b6 3++le b7 3++nZ:=⟨_,by
  unfold encS rG
  conv=>lhs;arg 1;simp[ma,oC]
  simp only[dX];rfl⟩
 rw[hZ];unfold jH;have hm:uB.length=4:=rfl;congr 1
 ·have:=yP uB (le b2 2++le b3 2++le b4 3++le b5 3++le b6 3++le b7 3++nZ) b1 2 4 (by omega) (by simp;omega) rfl
  simpa only[dX] using this
 ·have:=yP (uB++le b1 2) (le b3 2++le b4 3++le b5 3++le b6 3++le b7 3++nZ) b2 2 6 (by omega) (by simp;omega) (by simp[fK,hm])
  simpa only[dX] using this
 ·have:=yP (uB++le b1 2++le b2 2) (le b4 3++le b5 3++le b6 3++le b7 3++nZ) b3 2 8 (by omega) (by simp;omega) (by simp[fK,hm])
  simpa only[dX] using this
 ·have:=yP (uB++le b1 2++le b2 2++le b3 2) (le b5 3++le b6 3++le b7 3++nZ) b4 3 10 (by omega) (by simp;omega) (by simp[fK,hm])
  simpa only[dX] using this
 ·have:=yP (uB++le b1 2++le b2 2++le b3 2++le b4 3) (le b6 3++le b7 3++nZ) b5 3 13 (by omega) (by simp;omega) (by simp[fK,hm])
  simpa only[dX] using this
 ·have:=yP (uB++le b1 2++le b2 2++le b3 2++le b4 3++le b5 3) (le b7 3++nZ) b6 3 16 (by omega) (by simp;omega) (by simp[fK,hm])
  simpa only[dX] using this
 ·have:=yP (uB++le b1 2++le b2 2++le b3 2++le b4 3++le b5 3++le b6 3) nZ b7 3 19 (by omega) (by simp;omega) (by simp[fK,hm])
  simpa only[dX] using this
theorem YF {s:di} (h:eQ s=true):pK (encS s)=true/\EM (encS s)=s:=by
 have I:pK (encS s)=true:=by unfold pK;rw[abd h,h];simp
 exact⟨I,by rw[RI I,abd h]⟩
theorem ahz (w:World) (x y:di):(Op.equalIn 10000 55 (.agg (sv x).toArray) (.agg (sv y).toArray)).run Tryz.prog w= .ok (decide (x=y)) w:=by
 obtain⟨a1,a2,a3,a4,a5,a6,a7⟩:=x;obtain⟨b1,b2,b3,b4,b5,b6,b7⟩:=y;simp only[di.mk.injEq];unfold sv
 by_cases I:a1=b1
 rotate_left
 ·have e3:(a1==b1)=false:=dH.2 I;go_simp
 by_cases H:a2=b2
 rotate_left
 ·have e3:(a2==b2)=false:=dH.2 H;go_simp
 by_cases h3:a3=b3
 rotate_left
 ·have e3:(a3==b3)=false:=dH.2 h3;go_simp
 by_cases h4:a4=b4
 rotate_left
 ·have e3:(a4==b4)=false:=dH.2 h4;go_simp
 by_cases h5:a5=b5
 rotate_left
 ·have e3:(a5==b5)=false:=dH.2 h5;go_simp
 by_cases h6:a6=b6
 rotate_left
 ·have e3:(a6==b6)=false:=dH.2 h6;go_simp
 by_cases h7:a7=b7
 rotate_left
 ·have e3:(a7==b7)=false:=dH.2 h7;go_simp
 subst I;subst H;subst h3;subst h4;subst h5;subst h6;subst h7;go_simp
end Go.Proofs.YtjbiihbicknemaaGreat
