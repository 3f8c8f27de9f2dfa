/-
  Part of the proof of StoreWhole.
-/
import Derived.Laws.ComplexArith
import Derived.Test.YtjbiihbicknemaaGreatMReg
import Derived.Test.YtjbiihbicknemaaGreatTypes
import Derived.Laws.Externs
import Derived.Laws.Cover3
set_option linter.unusedSimpArgs false
set_option linter.unusedVariables false
set_option maxRecDepth 20000
set_option maxHeartbeats 40000000
namespace Go.Proofs.YtjbiihbicknemaaGreat
open Go.RowKit Go.Sep
variable {W w:World} {L:List aA}
open Go
def fw (n:Nat):Nat:=floatOfInt .f64 (n:Int)
theorem Z4 (c p:Nat) (h:0<c):(c*2 ^ p).log2=c.log2+p:=by
 have h0:c*2 ^ p≠0:=Nat.ne_of_gt (Nat.mul_pos h (Nat.pow_pos (by decide)));rw[Nat.log2_eq_iff h0];have I:=(Nat.log2_eq_iff (n:=c) (k:=c.log2) (by omega)).1 rfl;have H:0<2 ^ p:=Nat.pow_pos (by decide);refine⟨?_,?_⟩
 ·rw[Nat.pow_add];exact Nat.mul_le_mul_right _ I.1
 ·rw[show c.log2+p+1=(c.log2+1)+p by omega,Nat.pow_add];exact Nat.mul_lt_mul_of_pos_right I.2 H
theorem Xv (m d:Nat) (hd:d<=(m*2 ^ d).log2+2):Ieee.Toward.even.cut false (m*2 ^ d) d=m:=by
 unfold Ieee.Toward.cut;have H:0<2 ^ d:=Nat.pow_pos (by decide);rw[Nat.min_eq_left hd,Nat.shiftLeft_eq,Nat.one_mul];simp only[Nat.mul_div_cancel _ H,Nat.mul_mod_left,Nat.mul_zero];have e1:decide (2 ^ d<0)=false:=bf (by omega);have e2:(2 ^ d==0)=false:=dH.2 (by omega);rw[e1,e2];rfl
theorem aaA (c p:Nat) (h:0<c) (hl:c.log2<=52):Ieee.Format.nearest Ieee.double false (c*2 ^ p) (-(p:Int))=Ieee.Format.word Ieee.double false (min ((c.log2+1022)*2 ^ 52+c*2 ^ (52-c.log2)) Ieee.double.infRung):=by
 have hlp:Ieee.double.leastPlace= -1074:=by decide
 have mO:Ieee.double.fractionBits=52:=rfl;have hbi:Ieee.double.binade=2 ^ 52:=rfl;have h0:c*2 ^ p≠0:=Nat.ne_of_gt (Nat.mul_pos h (Nat.pow_pos (by decide)));unfold Ieee.Format.nearest;rw[if_neg h0,hlp,mO,Z4 c p h];have e1:max (-(p:Int)+((c.log2+p:Nat):Int)-((52:Nat):Int)) (-1074)=(c.log2:Int)-52:=by omega
 simp only[e1,hbi];have e2:((c.log2:Int)-52 - -1074).toNat=c.log2+1022:=by omega
 rw[e2]
 have e3:Ieee.Toward.even.cut false ((c*2 ^ p)<<< (-(p:Int)-((c.log2:Int)-52)).toNat) ((c.log2:Int)-52 - -(p:Int)).toNat=c*2 ^ (52-c.log2):=by
  by_cases hp:p<=52-c.log2
  ·rw[show(-(p:Int)-((c.log2:Int)-52)).toNat=52-c.log2-p by omega,show((c.log2:Int)-52 - -(p:Int)).toNat=0 by omega,Nat.shiftLeft_eq,Nat.mul_assoc,<-Nat.pow_add,show p+(52-c.log2-p)=52-c.log2 by omega];have:=Xv (c*2 ^ (52-c.log2)) 0 (by omega)
   rwa [Nat.pow_zero,Nat.mul_one] at this
  ·rw[show(-(p:Int)-((c.log2:Int)-52)).toNat=0 by omega,show((c.log2:Int)-52 - -(p:Int)).toNat=p-(52-c.log2) by omega,Nat.shiftLeft_zero,show c*2 ^ p=(c*2 ^ (52-c.log2))*2 ^ (p-(52-c.log2)) by rw[Nat.mul_assoc,<-Nat.pow_add];congr 2;omega];refine Xv _ _ ?_;rw[Nat.mul_assoc,<-Nat.pow_add,Z4 c _ h];omega
 rw[e3]
theorem Z6 {n:Nat} (h:n<=1100):n.log2<=10:=by
 by_cases h0:n=0
 ·subst h0;decide
 ·have:=(Nat.log2_lt (k:=11) h0).2 (by omega);omega
theorem ah0 {n:Nat} (h0:0<n) (h:n<=1100) (p:Nat):Ieee.Format.nearest Ieee.double false (n*2 ^ p) (-(p:Int))=fw n:=by
 have hl:=Z6 h
 have e:fw n=Ieee.Format.nearest Ieee.double false (n*2 ^ 0) (-((0:Nat):Int)):=by
  have I:decide (((n:Nat):Int)<0)=false:=bf (by omega);show Ieee.Format.nearest Ieee.double (decide (((n:Nat):Int)<0)) ((n:Nat):Int).natAbs 0=_;rw[I,Int.natAbs_natCast,Nat.pow_zero,Nat.mul_one];rfl
 rw[e,aaA n p h0 (by omega),aaA n 0 h0 (by omega)]
def Yu (n:Nat):Bool:=n==0 || FloatKind.f64.decode (fw n)== .number false (n*2 ^ (52-n.log2)) (n.log2-52)
set_option maxRecDepth 100000 in
theorem ahX:(List.range 1101).all Yu=true:=by decide+kernel
def Yt (n:Nat):Bool:=floatToIntVal .f64 (fw n) .i64==some (n:Int)
set_option maxRecDepth 100000 in
theorem ahW:(List.range 1101).all Yt=true:=by decide+kernel
theorem JL {n:Nat} (h:n<=1100):∃(m:Nat) (i:Int),Ieee.double.read (fw n)= .number false m i/\i<=0/\∀(b:Int),b<=i->m<<< (i-b).toNat=n*2 ^ (-b).toNat:=by
 by_cases h0:n=0
 ·subst h0;refine⟨0, -1074,by decide,by decide,fun b _=>by simp⟩
 ·have:=jV.1 ahX n (jD.2 (by omega));simp only[Yu,Bool.or_eq_true,beq_iff_eq] at this;have hl:=Z6 h
  rcases this with I|I
  ·omega
  ·refine⟨_,_,I,by omega,fun b hb=>?_⟩;rw[Nat.shiftLeft_eq,Nat.mul_assoc,<-Nat.pow_add];congr 2;omega
theorem Yw {a b:Nat} (h:a+b<=1100):floatBits .add .f64 (fw a) (fw b)=some (fw (a+b)):=by
 obtain⟨m,i,I,hi,H⟩:=JL (n:=a) (by omega);obtain⟨n,j,h3,hj,h4⟩:=JL (n:=b) (by omega);show Ieee.Format.add Ieee.double (fw a) (fw b)=_;unfold Ieee.Format.add;rw[I,h3];unfold Ieee.Datum.sum;obtain⟨base,hbase⟩:∃base:Int,min i j=base:=⟨_,rfl⟩;obtain⟨p,hp⟩:∃p:Nat,(p:Int)= -base:=⟨(-base).toNat,by omega⟩;have hp2:(-base).toNat=p:=by omega
 simp only[hbase,Ieee.signed,Bool.false_eq_true,if_false,Option.map_some,Option.some.injEq];rw[H base (by omega),h4 base (by omega),hp2];have e1:((a*2 ^ p:Nat):Int)+((b*2 ^ p:Nat):Int)=(((a+b)*2 ^ p:Nat):Int):=by rw[Nat.add_mul];omega
 rw[e1,Int.natAbs_natCast];have hb2:base= -(p:Int):=by omega
 rw[hb2]
 by_cases hz:a+b=0
 ·rw[hz];simp only[Nat.zero_mul];rw[if_pos (by rfl)];show Ieee.Format.nearest Ieee.double _ 0 _=_;unfold Ieee.Format.nearest;rw[if_pos rfl];decide
 ·have hpos:0< (a+b)*2 ^ p:=Nat.mul_pos (by omega) (Nat.pow_pos (by decide));have e2:¬((((a+b)*2 ^ p:Nat):Int)=0):=by omega
  have e3:decide ((((a+b)*2 ^ p:Nat):Int)<0)=false:=bf (by omega);rw[if_neg e2,e3];exact ah0 (by omega) h p
theorem Na {a b:Nat} (ha:a<=1100) (hb:b<=1100):FloatKind.f64.format.order (fw a) (fw b)=some (compare a b):=by
 obtain⟨m,i,I,hi,H⟩:=JL ha;obtain⟨n,j,h3,hj,h4⟩:=JL hb;show Ieee.Format.order Ieee.double (fw a) (fw b)=_;unfold Ieee.Format.order;rw[I,h3];unfold Ieee.Datum.order;obtain⟨base,hbase⟩:∃base:Int,min i j=base:=⟨_,rfl⟩;simp only[hbase,Ieee.signed,Bool.false_eq_true,if_false,Option.some.injEq];rw[H base (by omega),h4 base (by omega)];have h5:0<2 ^ (-base).toNat:=Nat.pow_pos (by decide)
 rcases Nat.lt_trichotomy a b with h|h|h
 ·rw[Nat.compare_eq_lt.2 h,Int.compare_eq_lt.2 (by exact_mod_cast Nat.mul_lt_mul_of_pos_right h h5)]
 ·subst h;rw[Nat.compare_eq_eq.2 rfl,Int.compare_eq_eq.2 rfl]
 ·rw[Nat.compare_eq_gt.2 h,Int.compare_eq_gt.2 (by exact_mod_cast Nat.mul_lt_mul_of_pos_right h h5)]
theorem RD {n:Nat} (h:n<=1100):floatToIntVal .f64 (fw n) .i64=some (n:Int):=by
 have:=jV.1 ahW n (jD.2 (by omega))
 simpa [Yt] using this
open Go
def Yv (n:Nat):Bool:=FloatKind.f64.encode ((FloatKind.f64.decode (fw n)).integral .zero)==fw n
set_option maxRecDepth 100000 in
theorem ahY:(List.range 1101).all Yv=true:=by decide+kernel
def RB (n:Nat):Bool:=FloatKind.f64.format.order (fw n) 13943144446339055616==some .gt&&FloatKind.f64.format.order (fw n) 4719772409484279808==some .lt
set_option maxRecDepth 100000 in
theorem Yr:(List.range 1101).all RB=true:=by decide+kernel
theorem RF:fw 0=0:=by decide
theorem Yz:fw 1=4607182418800017408:=by decide
theorem ahZ {n:Nat} (h:n<=1100):FloatKind.f64.encode ((FloatKind.f64.decode (fw n)).integral .zero)=fw n:=by
 have:=jV.1 ahY n (jD.2 (by omega))
 simpa [Yv] using this
theorem ah1 {n:Nat} (h:n<=1100):FloatKind.f64.format.order (fw n) 13943144446339055616=some .gt:=by
 have:=jV.1 Yr n (jD.2 (by omega));simp only[RB,ed,beq_iff_eq] at this;exact this.1
theorem Yy {n:Nat} (h:n<=1100):FloatKind.f64.format.order (fw n) 4719772409484279808=some .lt:=by
 have:=jV.1 Yr n (jD.2 (by omega));simp only[RB,ed,beq_iff_eq] at this;exact this.2
theorem ah3 {n:Nat} (h:n<=1100):∃(m:Nat) (i:Int),FloatKind.f64.decode (fw n)= .number false m i:=by
 obtain⟨m,i,I,_⟩:=JL h;exact⟨m,i,I⟩
theorem ah4 {n:Nat} (h:n<=1100):FloatKind.f64.format.order (fw n) (fw n)=some .eq:=by
 rw[Na h h,Nat.compare_eq_eq.2 rfl]
theorem Yx {n m:Nat} (h:n<=1100) (hm:m<=1100) (hle:m<=n):(FloatKind.f64.format.order (fw n) (fw m)==some .gt || FloatKind.f64.format.order (fw n) (fw m)==some .eq)=true:=by
 rw[Na h hm]
 rcases Nat.lt_or_eq_of_le hle with I|I
 ·rw[Nat.compare_eq_gt.2 I];rfl
 ·rw[Nat.compare_eq_eq.2 I.symm];rfl
theorem ah2 {n m:Nat} (h:n<=1100) (hm:m<=1100) (hle:n<m):(FloatKind.f64.format.order (fw n) (fw m)==some .gt || FloatKind.f64.format.order (fw n) (fw m)==some .eq)=false:=by
 rw[Na h hm,Nat.compare_eq_lt.2 hle];rfl
open Go
def Ag (b0 b1 b2 b3 b4 b5 b6 b7:Bool):Nat:=b0.toNat+2*b1.toNat+4*b2.toNat+8*b3.toNat+16*b4.toNat+32*b5.toNat+64*b6.toNat+128*b7.toNat
def iN (f:Nat->Bool):Nat:=Ag (f 0) (f 1) (f 2) (f 3) (f 4) (f 5) (f 6) (f 7)
theorem ags:∀b0 b1 b2 b3 b4 b5 b6 b7,Ag b0 b1 b2 b3 b4 b5 b6 b7<256:=by decide
theorem Jw (f:Nat->Bool):iN f<256:=ags ..
theorem agr:∀b0 b1 b2 b3 b4 b5 b6 b7,(Ag b0 b1 b2 b3 b4 b5 b6 b7 / 1 % 2=b0.toNat)/\(Ag b0 b1 b2 b3 b4 b5 b6 b7 / 2 % 2=b1.toNat)/\(Ag b0 b1 b2 b3 b4 b5 b6 b7 / 4 % 2=b2.toNat)/\(Ag b0 b1 b2 b3 b4 b5 b6 b7 / 8 % 2=b3.toNat)/\
  (Ag b0 b1 b2 b3 b4 b5 b6 b7 / 16 % 2=b4.toNat)/\(Ag b0 b1 b2 b3 b4 b5 b6 b7 / 32 % 2=b5.toNat)/\(Ag b0 b1 b2 b3 b4 b5 b6 b7 / 64 % 2=b6.toNat)/\(Ag b0 b1 b2 b3 b4 b5 b6 b7 / 128 % 2=b7.toNat):=by decide
theorem WY (f:Nat->Bool) {j:Nat} (h:j<8):iN f / 2 ^ j % 2=(f j).toNat:=by
 have:=agr (f 0) (f 1) (f 2) (f 3) (f 4) (f 5) (f 6) (f 7);unfold iN
 match j,h with
 |0,_=>exact this.1
 |1,_=>exact this.2.1
 |2,_=>exact this.2.2.1
 |3,_=>exact this.2.2.2.1
 |4,_=>exact this.2.2.2.2.1
 |5,_=>exact this.2.2.2.2.2.1
 |6,_=>exact this.2.2.2.2.2.2.1
 |7,_=>exact this.2.2.2.2.2.2.2
def upd (S:Nat->Bool) (n:Nat) (u:Bool):Nat->Bool:=fun k=>if k=n then u else S k
def cO (S:Nat->Bool):List UInt8:=(List.range 128).map fun i=>UInt8.ofNat (iN fun j=>S (8*i+j))
theorem uC (S:Nat->Bool):(cO S).length=128:=by simp[cO]
theorem E8 (S:Nat->Bool) {i:Nat} (h:i<128):(cO S)[i]? =some (UInt8.ofNat (iN fun j=>S (8*i+j))):=by
 simp[cO,h]
theorem aae {S T:Nat->Bool} (h:∀n,n<1024->S n=T n):cO S=cO T:=by
 unfold cO;apply List.map_congr_left;intro i hi;have hi:=jD.1 hi;congr 1;unfold iN;congr 1<;>exact h _ (by omega)
theorem Gq {f g:Nat->Bool} (h:∀j,j<8->f j=g j):iN f=iN g:=by
 unfold iN;congr 1<;>exact h _ (by omega)
theorem aj0 (S:Nat->Bool) {n:Nat} (u:Bool) (h:n<1024):cO (upd S n u)=(cO S).set (n / 8) (UInt8.ofNat (iN (upd (fun j=>S (8*(n / 8)+j)) (n % 8) u))):=by
 apply List.ext_getElem?;intro i
 by_cases hi:i<128
 ·rw[E8 _ hi,yX,uC]
  by_cases hq:n / 8=i
  ·subst hq;rw[if_pos rfl,if_pos hi];congr 2;apply Gq;intro j hj;unfold upd
   by_cases hk:j=n % 8
   ·subst hk;rw[if_pos rfl,if_pos (by omega)]
   ·rw[if_neg hk,if_neg (by omega)]
  ·rw[if_neg hq,E8 _ hi];congr 2;apply Gq;intro j hj;unfold upd;rw[if_neg (by omega)]
 ·rw[qE (by rw[uC];omega),qE (by rw[gV,uC];omega)]
def bT (S:Nat->Bool) (n:Nat):List Nat:=(List.range n).filter fun k=> !S k
theorem M9 (S:Nat->Bool) (n:Nat):bT S (n+1)=bT S n++(if S n then [] else [n]):=by
 unfold bT;rw[List.range_succ,List.filter_append]
 cases h:S n<;>simp[h]
attribute [local irreducible] Oper.wp wpList Calls Code.wp Sep.dR
section
attribute [local irreducible] FloatKind.decode FloatKind.encode fw
theorem anQ {x m:Nat} {i:Int} (nm:String) (way:Ieee.Toward) (h:FloatKind.f64.decode x= .number false m i) (w:World):
  (Extern.MathFloor.toIntegral nm way #[.float .f64 x]).run Tryz.prog w= .ok (.float .f64 (FloatKind.f64.encode ((Ieee.Datum.number false m i).integral way))) w:=by
 have e:∀d:Ieee.Datum,FloatKind.f64.decode x=d->(∃m i,d= .number false m i)->Extern.MathFloor.toIntegral nm way #[.float .f64 x]=pure (.float .f64 (FloatKind.f64.encode (d.integral way))):=by
  intro d hd hn
  conv=>lhs;whnf
  rw[hd];obtain⟨m,i,rfl⟩:=hn;rfl
 rw[e _ h ⟨m,i,rfl⟩];rfl
end
theorem an7 {n:Nat} (h:n<=1100) (w:World):Calls Tryz.prog 168 #[.float .f64 (fw n)] w fun e w'=>e= .returned (.float .f64 (fw n))/\w=w':=by
 have HT:=ahZ h;obtain⟨m,i,HD⟩:=ah3 h
 have HX:∀w:World,(callFunc 174 #[.float .f64 (fw n)]).run Tryz.prog w= .ok (.value (.float .f64 (fw n))) w:=fun w=>by
  rw[run_callFunc_extern (fn:=Tryz.f174) (e:=Extern.MathFloor.toIntegral "math.archTrunc" .zero) (by kernel_rfl) (by kernel_rfl) (by kernel_rfl) (by kernel_rfl) (by kernel_rfl)];rw[HD] at HT;rw[anQ _ _ HD,HT];rfl
 clear h HD HT;go_enter Tryz.func168,Tryz.ntmps168;go_wp2;go_ret;exact⟨rfl,rfl⟩
theorem ac9 {n:Nat} (h:n<=1100) (w:World):Calls Tryz.prog 160 #[.float .f64 (fw n)] w fun e w'=>e= .returned (.bool true)/\w=w':=by
 have HT:=Z (fun w=>an7 h w);have I:=ah1 h;have H:=Yy h;have h3:=ah4 h
 have HS:Hid (∀w,Calls Tryz.prog 169 #[.float .f64 0] w fun e w'=>e= .returned (.bool false)/\w=w'):=Z fun w=>by
  have HX:∀w:World,(callFunc 176 #[.float .f64 0]).run Tryz.prog w= .ok (.value (.int .u64 0)) w:=fun w=>by
   rw[run_callFunc_extern (fn:=Tryz.f176) (e:=Extern.MathFloatBits.float64bits) (by kernel_rfl) (by kernel_rfl) (by kernel_rfl) (by kernel_rfl) (by kernel_rfl)];rfl
  go_enter Tryz.func169,Tryz.ntmps169;go_wp2;go_ret;exact⟨rfl,rfl⟩
 have h0:FloatKind.f64.format.order (fw n) 0=some (compare n 0):=by have:=Na h (eG 1100);rwa [RF] at this
 by_cases hz:n=0
 ·subst hz;rw[RF] at*;go_enter Tryz.func160,Tryz.ntmps160
  go_wp2_with (first
   |(go_at_call 168;refine ak (HT.F _) ?_;rintro J rfl)
   |(go_at_call 169;refine ak (HS.F _) ?_;rintro J rfl))
  go_ret;exact⟨rfl,rfl⟩
 ·rw[Nat.compare_eq_gt.2 (by omega)] at h0;generalize fw n=f at*;clear h hz;go_enter Tryz.func160,Tryz.ntmps160
  go_wp2_with (first
   |(go_at_call 168;refine ak (HT.F _) ?_;rintro J rfl)
   |(go_at_call 169;refine ak (HS.F _) ?_;rintro J rfl))
  go_ret;exact⟨rfl,rfl⟩
def ja (x:Nat×Nat):Value:= .complex .f64 (fw x.1) (fw x.2)
theorem air {a n:Nat} (ha:a<=1100) (hn:n<=1100) (w:World):Calls Tryz.prog 149 #[ja (a,n)] w fun e w'=>e= .returned (.bool true)/\w=w':=by
 have H1:=Z (fun w=>ac9 ha w);have H2:=Z (fun w=>ac9 hn w);show Calls Tryz.prog 149 #[.complex .f64 (fw a) (fw n)] w _;generalize fw a=f at*;generalize fw n=g at*;clear ha hn;go_enter Tryz.func149,Tryz.ntmps149
 go_wp2_with (first
  |(go_at_call 160;with_reducible refine ak (H1.F _) ?_;rintro J rfl)
  |(go_at_call 160;with_reducible refine ak (H2.F _) ?_;rintro J rfl))
 go_ret;exact⟨rfl,rfl⟩
theorem aak {a n:Nat} (h:a+n<=1100) (w:World):Calls Tryz.prog 134 #[ja (a,n)] w fun e w'=>e= .returned (.bool (decide (1<=n)))/\w=w':=by
 have HI:=Z (fun w=>air (a:=a) (n:=n) (by omega) (by omega) w);have I:=Yx (n:=a) (m:=0) (by omega) (by omega) (eG _);have H:∀w,(binOp .add 211 (.float .f64 (fw a)) (.float .f64 (fw n))).run Tryz.prog w= .ok (.float .f64 (fw (a+n))) w:=fun w=>run_float_arith w .add _ _ _ _ _ (Yw h)
 have h3:=Yy h;rw[RF] at I;unfold ja at HI;show Calls Tryz.prog 134 #[.complex .f64 (fw a) (fw n)] w _
 by_cases hn:1<=n
 ·have h4:=Yx (n:=n) (m:=1) (by omega) (by omega) hn;rw[Yz] at h4;rw[bL hn];generalize fw a=f at*;generalize fw n=g at*;generalize fw (a+n)=k at*;clear h hn;go_enter Tryz.func134,Tryz.ntmps134
  go_wp2_with (go_at_call 149;refine ak (HI.F _) ?_;rintro J rfl)
  go_ret;exact⟨rfl,rfl⟩
 ·have h4:=ah2 (n:=n) (m:=1) (by omega) (by omega) (by omega);rw[Yz] at h4;rw[bf hn];generalize fw a=f at*;generalize fw n=g at*;generalize fw (a+n)=k at*;clear h hn;go_enter Tryz.func134,Tryz.ntmps134
  go_wp2_with (go_at_call 149;refine ak (HI.F _) ?_;rintro J rfl)
  go_ret;exact⟨rfl,rfl⟩
theorem aii {a n:Nat} (ha:a<=1100) (hn:n<=1100) (w:World):Calls Tryz.prog 148 #[.int .i64 (a:Int), .int .i64 (n:Int)] w fun e w'=>e= .returned (.tuple #[ja (a,n), .bool true])/\w=w':=by
 have i1:(a:Int)<=1100:=by omega
 have i2:(n:Int)<=1100:=by omega
 have j1:decide ((a:Int)< -33554432)=false:=bf (by omega);have j2:decide ((33554432:Int)<a)=false:=bf (by omega);have j3:decide ((n:Int)< -33554432)=false:=bf (by omega);have j4:decide ((33554432:Int)<n)=false:=bf (by omega);have H1:∀w,(convert 3 211 (.int .i64 (a:Int))).run Tryz.prog w= .ok (.float .f64 (fw a)) w:=fun w=>by simp[convert,run_underlying Tryz.underlying3,run_underlying Tryz.underlying211,Conv.intToFloat];rfl
 have H2:∀w,(convert 3 211 (.int .i64 (n:Int))).run Tryz.prog w= .ok (.float .f64 (fw n)) w:=fun w=>by simp[convert,run_underlying Tryz.underlying3,run_underlying Tryz.underlying211,Conv.intToFloat];rfl
 unfold ja;clear ha hn;go_enter Tryz.func148,Tryz.ntmps148;go_wp2
 go_ret2
 exact⟨rfl,rfl⟩
def yI (x:Nat×Nat):Value:=if 1<=x.2 then ja x else .complex .f64 0 0
theorem ach {a n:Nat} (h:a+n<=1100) (w:World):Calls Tryz.prog 133 #[.int .i64 (a:Int), .int .i64 (n:Int)] w fun e w'=>e= .returned (.tuple #[yI (a,n), .bool (decide (1<=n))])/\w=w':=by
 have HG:=Z (fun w=>aii (a:=a) (n:=n) (by omega) (by omega) w);have HM:=Z (fun w=>aak h w);unfold yI;unfold ja at*
 by_cases hn:1<=n
 ·rw[bL hn] at HM ⊢;rw[if_pos (by exact hn)];generalize fw a=f at*;generalize fw n=g at*;clear h hn;go_enter Tryz.func133,Tryz.ntmps133
  go_wp2_with (first
   |(go_at_call 148;refine ak (HG.F _) ?_;rintro J rfl)
   |(go_at_call 134;refine ak (HM.F _) ?_;rintro J rfl))
  go_ret2
  exact⟨rfl,rfl⟩
 ·rw[bf hn] at HM ⊢;rw[if_neg (by exact hn)];generalize fw a=f at*;generalize fw n=g at*;clear h hn;go_enter Tryz.func133,Tryz.ntmps133
  go_wp2_with (first
   |(go_at_call 148;refine ak (HG.F _) ?_;rintro J rfl)
   |(go_at_call 134;refine ak (HM.F _) ?_;rintro J rfl))
  go_ret2
  exact⟨rfl,rfl⟩
theorem Rw {a n:Nat} (h:a+n<=1100) (hn:1<=n) (w:World):Calls Tryz.prog 108 #[ja (a,n)] w fun e w'=>e= .returned (.tuple #[.int .i64 (a:Int), .int .i64 ((a+n:Nat):Int)])/\w=w':=by
 have HM:=Z (fun w=>aak h w);rw[bL hn] at HM;have H:∀w,(binOp .add 211 (.float .f64 (fw a)) (.float .f64 (fw n))).run Tryz.prog w= .ok (.float .f64 (fw (a+n))) w:=fun w=>run_float_arith w .add _ _ _ _ _ (Yw h)
 have h3:∀w,(convert 211 3 (.float .f64 (fw a))).run Tryz.prog w= .ok (.int .i64 (a:Int)) w:=fun w=>run_convert_float_int w _ _ _ _ _ _ (by rw[Tryz.underlying211];rfl) Tryz.underlying3 (RD (by omega))
 have h4:∀w,(convert 211 3 (.float .f64 (fw (a+n)))).run Tryz.prog w= .ok (.int .i64 ((a+n:Nat):Int)) w:=fun w=>run_convert_float_int w _ _ _ _ _ _ (by rw[Tryz.underlying211];rfl) Tryz.underlying3 (RD (by omega))
 obtain⟨z,hz⟩:∃z:Int,((a+n:Nat):Int)=z:=⟨_,rfl⟩;rw[hz] at h4 ⊢;obtain⟨y,hy⟩:∃y:Int,(a:Int)=y:=⟨_,rfl⟩;rw[hy] at h3 ⊢;unfold ja at*;generalize fw (a+n)=k at*;generalize fw a=f at*;generalize fw n=g at*;clear h hn hz hy;go_enter Tryz.func108,Tryz.ntmps108
 go_wp2_with (go_at_call 134;refine ak (HM.F _) ?_;rintro J rfl)
 go_ret2
 exact⟨rfl,rfl⟩
theorem MC {a b:Nat} (h:b<=1100) (hab:a<=b) (w:World):Calls Tryz.prog 132 #[.int .i64 (a:Int), .int .i64 (b:Int)] w fun e w'=>e= .returned (yI (a,b-a))/\w=w':=by
 have HM:=Z (fun w=>ach (a:=a) (n:=b-a) (by omega) w);have i1:(a:Int)<=1100:=by omega
 have i2:(b:Int)<=1100:=by omega
 have i3:(b:Int)-(a:Int)=((b-a:Nat):Int):=by omega
 obtain⟨k,hk⟩:=au (b-a);rw[hk] at HM i3 ⊢;generalize yI (a,k)=v at*;clear h hab hk;go_enter Tryz.func132,Tryz.ntmps132
 go_wp2_with (go_at_call 133;refine ak (HM.F _) ?_;rintro J rfl)
 go_ret;exact⟨rfl,rfl⟩
structure vR (l:List (Nat×Nat)):Prop where
 pos:∀x∈l,1<=x.2/\x.1+x.2<=1100
 sep:∀(i:Nat) x y,l[i]? =some x->l[i+1]? =some y->x.1+x.2<y.1
def AL (l:List (Nat×Nat)):Nat->Int
 |0=> -1
 |k+1=>match l[k]? with
  |some x=>((x.1+x.2:Nat):Int)
  |none=> -1
theorem Ue {l:List (Nat×Nat)} {k:Nat} {x:Nat×Nat} (h:l[k]? =some x):AL l (k+1)=((x.1+x.2:Nat):Int):=by simp[AL,h]
theorem ane {l:List (Nat×Nat)} (hl:vR l) {i:Nat} {x:Nat×Nat} (h:l[i]? =some x):AL l i< (x.1:Int):=by
 cases i with
 |zero=>show(-1:Int)<_;omega
 |succ k=>
  have hk:=(bZ.1 h).1;obtain⟨y,hy⟩:∃y,l[k]? =some y:=⟨_,aR (by omega)⟩
  rw[Ue hy];have:=hl.sep k y x hy h;omega
theorem anc {l:List (Nat×Nat)} (hl:vR l) (i:Nat): -1<=AL l i/\AL l i<=1100:=by
 cases i with
 |zero=>exact⟨Int.le_refl (-1),show(-1:Int)<=1100 by decide⟩
 |succ k=>
  cases h:l[k]? with
  |none=>
   have e:AL l (k+1)= -1:=by simp[AL,h]
   rw[e];exact⟨by decide,by decide⟩
  |some x=>
   have:=hl.pos x (bJ h);rw[Ue h]
   constructor<;>omega
def nR (l:List (Nat×Nat)):Nat:=(l.map (·.2)).sum
theorem anh {l:List (Nat×Nat)} {i:Nat} {x:Nat×Nat} (h:l[i]? =some x):nR (l.take (i+1))=nR (l.take i)+x.2:=by
 unfold nR;rw[ik,h,lC,List.sum_append];simp
theorem O3 {l:List (Nat×Nat)} {i:Nat} {x:Nat×Nat} (h:l[i]? =some x):(l.map ja)[i]? =some (ja x):=by simp[h]
def afu (l:List (Nat×Nat)) (w:World) (v10 v3:Value) (wz:World):Prop:=∃i:Nat,v10= .int .i64 (i:Int)/\i<=l.length/\v3= .int .i64 (AL l i)/\w=wz
theorem TB (O:Sat W w L) (l:List (Nat×Nat)) (hl:vR l) (ao:Option Addr) (c:Nat) (hr:∀w,Sat W w L->Rd w (.slice ao l.length c) l.length 1 (l.map ja)):
  Calls Tryz.prog 131 #[.slice ao l.length c] w fun e w'=>e= .returned (.bool true)/\w=w':=by
 have HR:=Z (hr w O);obtain⟨_,_,he,hc1,hc2,_,h5⟩:=hr w O;obtain⟨rfl,rfl⟩:=gq he;have H5:=Z h5;have HL:=Z hl;have pM:(l.length:Int)<=9223372036854775807:=by omega
 clear hr h5 hl hc1;go_enter Tryz.func131,Tryz.ntmps131;go_wp2;go_loopw [10,3] (fun v10 v3 wz=>afu l w v10 v3 wz) (fun v10 _ _=>l.length-(intOf v10).toNat)
 case atStart=>exact⟨0,rfl,eG _,rfl,rfl⟩
 case round=>
  obtain⟨i,rfl,hi,rfl,rfl⟩:=hrel;have Vg:=Z (anc HL.F i)
  by_cases hlt:i<l.length
  ·have k1:(i:Int)< (l.length:Int):=by omega
   have ay:=Z hlt;obtain⟨b,off,rfl,_⟩:=H5.F (by omega);obtain⟨⟨a,n⟩,V⟩:∃x,l[i]? =some x:=⟨_,aR hlt⟩
   have hp:=HL.F.pos _ (bJ V);have Ze:=ane HL.F V;have HX:=Z (O3 V);have HN:=Z (Ue V);have HE:=Z (fun w=>Rw (a:=a) (n:=n) (by exact hp.2) (by exact hp.1) w);dsimp only at hp Ze;obtain⟨z,hz⟩:∃z:Int,((a+n:Nat):Int)=z:=⟨_,rfl⟩;have e1:(z==0)=false:=dH.2 (by omega);have e2:decide ((a:Int)<=AL l i)=false:=bf (by omega);dsimp only at HN;rw[hz] at HE HN;obtain⟨q,hq⟩:∃q:Int,AL l i=q:=⟨_,rfl⟩;rw[hq] at e2 ⊢;obtain⟨u,hu⟩:=au (ja (a,n));have hu1:∃x y,u= .complex .f64 x y:=⟨_,_,hu.symm⟩;rw[hu] at HX HE;obtain⟨ux,uy,rfl⟩:=hu1;clear V hp Ze hlt hi hu hz hq Vg
   go_wp2_with (first
    |(refine bN (fF HR.F _ _ (by rfl) _ (by rfl) (aI (by rfl)) i (by omega) HX.F (by have:=ay.F;omega)) ?_)
    |(go_at_call 108;refine ak (HE.F _) ?_;rintro J rfl))
   exact⟨⟨i+1,by go_num,ay.F,by rw[HN.F],rfl⟩,by simp[intOf];have:=ay.F;omega⟩
  ·obtain rfl:i=l.length:=by omega
   have k1:¬(l.length:Int)< (l.length:Int):=by omega
   clear hi hlt Vg;go_wp2;go_ret;exact⟨rfl,rfl⟩
def afL (l:List (Nat×Nat)) (w:World) (v11 v3:Value) (wz:World):Prop:=∃i:Nat,v11= .int .i64 (i:Int)/\i<=l.length/\v3= .int .i64 ((nR (l.take i):Nat):Int)/\w=wz
theorem ang (l:List (Nat×Nat)) (i:Nat):nR (l.take i)<=nR l:=by
 conv=>rhs;rw[<-rR i l]
 unfold nR;rw[lC,List.sum_append];omega
theorem Us (O:Sat W w L) (l:List (Nat×Nat)) (hl:vR l) (hs:nR l<=1100) (ao:Option Addr) (c:Nat) (hr:∀w,Sat W w L->Rd w (.slice ao l.length c) l.length 1 (l.map ja)):
  Calls Tryz.prog 119 #[.slice ao l.length c] w fun e w'=>e= .returned (.int .i64 ((nR l:Nat):Int))/\w=w':=by
 have HO:=Z (TB O l hl ao c hr);have HR:=Z (hr w O);obtain⟨_,_,he,hc1,hc2,_,h5⟩:=hr w O;obtain⟨rfl,rfl⟩:=gq he;have H5:=Z h5;have HL:=Z hl;have rf:=Z (fun i=>Nat.le_trans (ang l i) hs);have pM:(l.length:Int)<=9223372036854775807:=by omega
 have jE:=Z (show ∀i,i=l.length->nR (l.take i)=nR l from fun i h=>by rw[h,List.take_length]);clear hr h5 hl hc1 hs;go_enter Tryz.func119,Tryz.ntmps119
 go_wp2_with (go_at_call 131;refine HO.F.mono ?_;rintro e J ⟨rfl,rfl⟩)
 go_loopw [11,3] (fun v11 v3 wz=>afL l w v11 v3 wz) (fun v11 _ _=>l.length-(intOf v11).toNat)
 case atStart=>exact⟨0,rfl,eG _,rfl,rfl⟩
 case round=>
  obtain⟨i,rfl,hi,rfl,rfl⟩:=hrel;have hsi:((nR (l.take i):Nat):Int)<=1100:=by have:=rf.F i;omega
  by_cases hlt:i<l.length
  ·have k1:(i:Int)< (l.length:Int):=by omega
   have ay:=Z hlt;obtain⟨b,off,rfl,_⟩:=H5.F (by omega);obtain⟨⟨a,n⟩,V⟩:∃x,l[i]? =some x:=⟨_,aR hlt⟩
   have hp:=HL.F.pos _ (bJ V);have HX:=Z (O3 V);have HN:=Z (anh V);have h3:∀w,(convert 211 3 (.float .f64 (fw n))).run Tryz.prog w= .ok (.int .i64 (n:Int)) w:=fun w=>run_convert_float_int w _ _ _ _ _ _ (by rw[Tryz.underlying211];rfl) Tryz.underlying3 (RD (by dsimp only at hp;omega))
   have hni:(n:Int)<=1100:=by dsimp only at hp;omega
   dsimp only at HN;obtain⟨q,hq⟩:∃q:Nat,nR (l.take i)=q:=⟨_,rfl⟩;rw[hq] at HN hsi ⊢;unfold ja at HX;dsimp only at HX;generalize fw a=f at*;generalize fw n=g at*;clear V hp hlt hi hq
   go_wp2_with (first
    |(refine bN (fF HR.F _ _ (by rfl) _ (by rfl) (aI (by rfl)) i (by omega) HX.F (by have:=ay.F;omega)) ?_))
   exact⟨⟨i+1,by go_num,ay.F,by rw[HN.F];go_num,rfl⟩,by simp[intOf];have:=ay.F;omega⟩
  ·obtain rfl:i=l.length:=by omega
   have k1:¬(l.length:Int)< (l.length:Int):=by omega
   rw[jE.F _ rfl];clear hi hlt hsi;go_wp2;go_ret;exact⟨rfl,rfl⟩
attribute [local irreducible] Sep.fJ
theorem WV (w:World) (ao:Option Addr) (c:Nat) (n:Int) {r:Bool} (h:(decide (n<0) || decide (1024<=n))=r):
  Calls Tryz.prog 72 #[.slice ao 128 c, .int .i64 n] w fun e w'=>e= .returned (.bool r)/\w=w':=by
 subst h;go_enter Tryz.func72,Tryz.ntmps72
 by_cases I:n<0
 ·have k1:decide (n<0)=true:=bL I;go_wp2;go_ret;exact⟨by simp[k1],rfl⟩
 ·have k1:decide (n<0)=false:=bf I;go_wp2;go_ret;exact⟨by simp[k1],rfl⟩
theorem Jv {l:List UInt8} {i:Nat} {x:UInt8} (h:l[i]? =some x):(bv l)[i]? =some (.int .u8 (x.toNat:Int)):=by simp[bv,u8,h]
theorem af3:∀x:Fin 256,bits .and .u8 ((x.val:Nat):Int) 1=((x.val % 2:Nat):Int):=by decide+kernel
theorem WZ (f:Nat->Bool) (j:Nat):((iN f:Nat):Int) % 256 / 2 ^ j=((iN f / 2 ^ j:Nat):Int):=by
 have h:=Jw f;rw[show((iN f:Nat):Int) % 256=((iN f:Nat):Int) by omega,Int.natCast_ediv,Int.natCast_pow];rfl
theorem agb (f:Nat->Bool) {j:Nat} (h:j<8):(bits .and .u8 (((iN f:Nat):Int) % 256 / 2 ^ j) 1==1)=f j:=by
 have hl:iN f / 2 ^ j<256:=Nat.lt_of_le_of_lt (Nat.div_le_self _ _) (Jw f);rw[WZ,af3 ⟨iN f / 2 ^ j,hl⟩,WY f h]
 cases f j<;>rfl
theorem Ps (O:Sat W w L) (S:Nat->Bool) (b off c n:Nat) (hn:n<1024) (hr:∀w,Sat W w L->Rd w (.slice (some ⟨b,off,none⟩) 128 c) 128 1 (bv (cO S))):
  Calls Tryz.prog 100 #[.slice (some ⟨b,off,none⟩) 128 c, .int .i64 (n:Int)] w fun e w'=>e= .returned (.bool (S n))/\w=w':=by
 have HN:=Z (fun w=>WV w (some ⟨b,off,none⟩) c (n:Int) (r:=false) (by rw[bf (by omega),bf (by omega)];rfl));have HR:=Z (hr w O);have HX:=Z (Jv (E8 S (i:=n / 8) (by omega)));have hq:Int.tdiv (n:Int) 8=((n / 8:Nat):Int):=rfl;have hm:Int.tmod (n:Int) 8=((n % 8:Nat):Int):=rfl;have q1:((n / 8:Nat):Int)<128:=by omega
 have q2:((n % 8:Nat):Int)<8:=by omega
 clear hr;go_enter Tryz.func100,Tryz.ntmps100
 go_wp2_with (first
  |(go_at_call 72;refine ak (HN.F _) ?_;rintro J rfl)
  |(refine bN (fF HR.F _ _ (by rfl) _ (by rfl) (aI (by rfl)) (n / 8) (by omega) HX.F (by omega)) ?_))
 go_ret;refine⟨?_,rfl⟩;have e:=agb (fun j=>S (8*(n / 8)+j)) (j:=n % 8) (by omega);rw[show 8*(n / 8)+n % 8=n by omega] at e;show Ending.returned (.bool _)=Ending.returned (.bool (S n));rw[<-e]
def Da (b0 b1 b2 b3 b4 b5 b6 b7:Bool):Nat->Bool
 |0=>b0|1=>b1|2=>b2|3=>b3|4=>b4|5=>b5|6=>b6|_=>b7
set_option maxRecDepth 100000 in
theorem af5:∀b0 b1 b2 b3 b4 b5 b6 b7:Bool,∀j:Fin 8,bits .andNot .u8 ((iN (Da b0 b1 b2 b3 b4 b5 b6 b7):Nat):Int) (IntKind.u8.wrap (2 ^ j.val))=((iN (upd (Da b0 b1 b2 b3 b4 b5 b6 b7) j.val false):Nat):Int):=by decide+kernel
set_option maxRecDepth 100000 in
theorem akJ:∀b0 b1 b2 b3 b4 b5 b6 b7:Bool,∀j:Fin 8,bits .or .u8 ((iN (Da b0 b1 b2 b3 b4 b5 b6 b7):Nat):Int) (IntKind.u8.wrap (2 ^ j.val))=((iN (upd (Da b0 b1 b2 b3 b4 b5 b6 b7) j.val true):Nat):Int):=by decide+kernel
theorem JJ (f:Nat->Bool):∀j,j<8->f j=Da (f 0) (f 1) (f 2) (f 3) (f 4) (f 5) (f 6) (f 7) j:=by
 intro j hj
 match j,hj with
 |0,_=>rfl
 |1,_=>rfl
 |2,_=>rfl
 |3,_=>rfl
 |4,_=>rfl
 |5,_=>rfl
 |6,_=>rfl
 |7,_=>rfl
theorem agu (f:Nat->Bool) {j:Nat} (h:j<8):bits .andNot .u8 ((iN f:Nat):Int) (IntKind.u8.wrap (2 ^ j))=((iN (upd f j false):Nat):Int):=by
 have I:=af5 (f 0) (f 1) (f 2) (f 3) (f 4) (f 5) (f 6) (f 7) ⟨j,h⟩;rw[Gq (JJ f),I];congr 1
theorem agv (f:Nat->Bool) {j:Nat} (h:j<8):bits .or .u8 ((iN f:Nat):Int) (IntKind.u8.wrap (2 ^ j))=((iN (upd f j true):Nat):Int):=by
 have I:=akJ (f 0) (f 1) (f 2) (f 3) (f 4) (f 5) (f 6) (f 7) ⟨j,h⟩;rw[Gq (JJ f),I];congr 1
theorem aoe (S:Nat->Bool) (n:Nat) (u v:Bool):upd (upd S n u) n v=upd S n v:=by
 funext k;unfold upd
 by_cases e:k=n
 ·rw[if_pos e,if_pos e]
 ·rw[if_neg e,if_neg e,if_neg e]
theorem Uy (f:Nat->Bool):((UInt8.ofNat (iN f)).toNat:Int)=((iN f:Nat):Int):=by
 rw[UInt8.toNat_ofNat_of_lt' (by have:=Jw f;exact this)]
theorem map_set (S:Nat->Bool) {n:Nat} (u:Bool) (hn:n<1024) {z:Int} (hz:z=((iN (upd (fun j=>S (8*(n / 8)+j)) (n % 8) u):Nat):Int)):(bv (cO S)).set (n / 8) (.int .u8 z)=bv (cO (upd S n u)):=by
 subst hz;rw[aj0 S u hn];unfold bv;rw[List.map_set];congr 1;show _=u8 _;unfold u8;rw[Uy]
def IsMap (v:Value) (S:Nat->Bool):aA:=Sl 5 1 v 128 (bv (cO S))
theorem Gp {v:Value} {S:Nat->Bool} (O:Sat W w (IsMap v S::L)) (n:Nat) (hn:n<1024) (u:Bool):
  Calls Tryz.prog 28 #[v, .int .i64 (n:Int), .bool u] w fun e w'=>e= .returned (.bool true)/\Sat W w' (IsMap v (upd S n u)::L):=by
 unfold IsMap at*;obtain⟨b,off,c,rfl,_⟩:=O.kV (k:=0) rfl (by decide);have HN:=Z (fun w=>WV w (some ⟨b,off,none⟩) c (n:Int) (r:=false) (by rw[bf (by omega),bf (by omega)];rfl));have HX:=Z (Jv (E8 S (i:=n / 8) (by omega)));have Ej:=Z (Jv (E8 (upd S n false) (i:=n / 8) (by omega)));have q1:((n / 8:Nat):Int)<128:=by omega
 have q2:((n % 8:Nat):Int)<8:=by omega
 have hm:Int.tmod (n:Int) 8=(n:Int) % 8:=rfl;rw[Uy] at HX Ej;have hj:(((n:Int) % 8).toNat)=n % 8:=by omega
 have Vp:=Z (show(bv (cO S)).set (n / 8) (.int .u8 (bits .andNot .u8 ((iN fun j=>S (8*(n / 8)+j):Nat):Int) (IntKind.u8.wrap (2 ^ ((n:Int) % 8).toNat))))=bv (cO (upd S n false)) from map_set S false hn (by rw[hj];exact agu _ (by omega)))
 have Bh:=Z (show(bv (cO (upd S n false))).set (n / 8) (.int .u8 (bits .or .u8 ((iN fun j=>upd S n false (8*(n / 8)+j):Nat):Int) (IntKind.u8.wrap (2 ^ ((n:Int) % 8).toNat))))=bv (cO (upd S n true)) from by
  have:=map_set (upd S n false) true hn (z:=bits .or .u8 ((iN fun j=>upd S n false (8*(n / 8)+j):Nat):Int) (IntKind.u8.wrap (2 ^ ((n:Int) % 8).toNat))) (by rw[hj];exact agv _ (by omega))
  rwa [aoe] at this)
 clear hj;go_enter Tryz.func28,Tryz.ntmps28
 go_wp2_with (go_at_call 72;refine ak (HN.F _) ?_;rintro J rfl)
 (refine cB (pO [0,1]<|wO [2]<|tO [3]<|rO [4]<|pO [5]<|wO [6]<|pO [7,8]<|tO [9]<|aO [10]<| .e) [10] O ?_;clear O;intro J O)
 repeat (first
  |(refine bG O ?_;go_frame)
  |(refine mR O ?_;go_frame;try simp(disch:=omega) only[IntWalk.i64_in])
  |(refine oI O ?_;apply Exists.intro;apply And.intro;(intro w;first|go_simp;rw[if_pos (by omega)]|(go_simp;try with_reducible rfl));go_frame)
  |(refine bR O ?_;(refine⟨_,FN _ _ (by rfl) _ _ (by rfl) (aI (by rfl)) aa (n / 8) (by omega) HX.F,?_⟩);go_frame)
  |(refine bY fun K hK=>?_;(refine Cf O _ _ _ (by rfl) _ _ (by rfl) _ (by first|exact sV|exact rA (by rfl)) (by rfl) (bz (by rfl)) aa (n / 8) (by omega) (by simp[bv,uC];omega) ?_;clear O;intro J O;dsimp only[aD] at O);refine hK.go O ?_;clear hK K;go_frame))
 refine bO ?_;rw[Vp.F] at O;replace HX:=Ej;clear Vp Ej
 cases u with
 |false=>
  go_wp2;go_ret;exact⟨rfl,O⟩
 |true=>
  go_wp2
  (refine cB (pO [0,1]<|wO [2]<|tO [3]<|rO [4]<|pO [5]<|wO [6]<|pO [7,8]<|tO [9]<|aO [10]<| .e) [10] O ?_;clear O;intro J O)
  repeat (first
   |(refine bG O ?_;go_frame)
   |(refine mR O ?_;go_frame;try simp(disch:=omega) only[IntWalk.i64_in])
   |(refine oI O ?_;apply Exists.intro;apply And.intro;(intro w;first|go_simp;rw[if_pos (by omega)]|(go_simp;try with_reducible rfl));go_frame)
   |(refine bR O ?_;(refine⟨_,FN _ _ (by rfl) _ _ (by rfl) (aI (by rfl)) aa (n / 8) (by omega) HX.F,?_⟩);go_frame)
   |(refine bY fun K hK=>?_;(refine Cf O _ _ _ (by rfl) _ _ (by rfl) _ (by first|exact sV|exact rA (by rfl)) (by rfl) (bz (by rfl)) aa (n / 8) (by omega) (by simp[bv,uC];omega) ?_;clear O;intro J O;dsimp only[aD] at O);refine hK.go O ?_;clear hK K;go_frame))
  refine bO ?_;rw[Bh.F] at O;go_wp2;go_ret;exact⟨rfl,O⟩
open Go.Sep
def flat (l:List (Nat×Nat)):List Nat:=l.flatMap fun x=>List.range' x.1 x.2
theorem GA (l m:List (Nat×Nat)):flat (l++m)=flat l++flat m:=by simp[flat]
theorem JH (a n:Nat):flat [(a,n)]=List.range' a n:=by simp[flat]
theorem ahG (l:List (Nat×Nat)):(flat l).length=nR l:=by
 unfold flat nR
 induction l with
 |nil=>rfl
 |cons x l ih=>rw[pY,bP,ih,List.length_range',jN,List.sum_cons]
def DC (S:Nat->Bool) (b:Nat) (p:List (Nat×Nat)×Nat) (n:Nat):List (Nat×Nat)×Nat:=
 if n<b/\S n=false then p else(if p.2<n then p.1++[(p.2,n-p.2)] else p.1,n+1)
def nQ (S:Nat->Bool) (b k:Nat):List (Nat×Nat)×Nat:=(List.range k).foldl (DC S b) ([],0)
theorem KT (S:Nat->Bool) (b k:Nat):nQ S b (k+1)=DC S b (nQ S b k) k:=by
 unfold nQ;rw[List.range_succ,List.foldl_append];rfl
def spansOf (S:Nat->Bool) (b:Nat):List (Nat×Nat):=(nQ S b (b+1)).1
structure afK (S:Nat->Bool) (b k:Nat) (l:List (Nat×Nat)) (from_:Nat):Prop where
 le:from_<=k
 ok:vR l
 last:∀x∈l,x.1+x.2<from_
 free:flat l++List.range' from_ (k-from_)=bT S k
theorem abz (a n:Nat):List.range' a (n+1)=List.range' a n++[a+n]:=by
 rw[List.range'_concat];simp
theorem vR.nil:vR []:=⟨(fun _ h=>nomatch h),(fun i x y h=>by rw[List.getElem?_nil] at h;cases h)⟩
theorem vR.snoc {l:List (Nat×Nat)} {a n:Nat} (h:vR l) (I:1<=n) (H:a+n<=1100) (h3:∀x∈l,x.1+x.2<a):vR (l++[(a,n)]) where
 pos x V:=by
  rcases gy.1 V with V|V
  ·exact h.pos x V
  ·rw[eD.1 V];exact⟨I,H⟩
 sep i x y V hy:=by
  rw[List.getElem?_append] at V hy
  split at hy
  ·rename_i h4
   rw[if_pos (by omega)] at V;exact h.sep i x y V hy
  ·rename_i h4
   have h5:i+1-l.length=0:=by
    rcases Nat.eq_zero_or_pos (i+1-l.length) with h6|h6
    ·exact h6
    ·rw[qE (by simp;omega)] at hy;cases hy
   rw[h5] at hy;simp at hy;subst hy;rw[if_pos (by omega)] at V;exact h3 x (bJ V)
theorem acj (S:Nat->Bool) (b:Nat) (hb:b<=1024):∀k,k<=b->afK S b k (nQ S b k).1 (nQ S b k).2
 |0,_=>⟨aZ _,vR.nil,(fun _ h=>nomatch h),rfl⟩
 |k+1,hk=>by
  have ih:=acj S b hb k (by omega);rw[KT];unfold DC
  by_cases h:k<b/\S k=false
  ·rw[if_pos h];refine⟨by have:=ih.le;omega,ih.ok,ih.last,?_⟩;rw[M9,<-ih.free,h.2,show k+1-(nQ S b k).2=(k-(nQ S b k).2)+1 by have:=ih.le;omega,abz,show(nQ S b k).2+(k-(nQ S b k).2)=k by have:=ih.le;omega];simp
  ·rw[if_neg h]
   have hs:S k=true:=by
    cases hq:S k with
    |true=>rfl
    |false=>exact absurd ⟨by omega,hq⟩ h
   by_cases H:(nQ S b k).2<k
   ·simp only[if_pos H];refine⟨aZ _,ih.ok.snoc (by omega) (by omega) ih.last,fun x V=>?_,?_⟩
    ·rcases gy.1 V with V|V
     ·have:=ih.last x V;have:=ih.le;omega
     ·rw[eD.1 V];simp only;omega
    ·rw[M9,hs,<-ih.free,GA,JH,Nat.sub_self];simp
   ·simp only[if_neg H];refine⟨aZ _,ih.ok,fun x V=>by have:=ih.last x V;have:=ih.le;omega,?_⟩;rw[M9,hs,<-ih.free,Nat.sub_self,show k-(nQ S b k).2=0 by omega];simp
theorem O1 (S:Nat->Bool) {b:Nat} (hb:b<=1024):vR (spansOf S b)/\flat (spansOf S b)=bT S b:=by
 have h:=acj S b hb b (aZ _);unfold spansOf;rw[KT];unfold DC;rw[if_neg (by simp)]
 by_cases H:(nQ S b b).2<b
 ·simp only[if_pos H];refine⟨h.ok.snoc (by omega) (by omega) h.last,?_⟩;rw[GA,JH,h.free]
 ·simp only[if_neg H];refine⟨h.ok,?_⟩;rw[<-h.free,show b-(nQ S b b).2=0 by omega];simp
theorem JK (S:Nat->Bool) (b:Nat):(bT S b).length<=b:=by
 have:=List.length_filter_le (fun k=> !S k) (List.range b)
 rwa [List.length_range] at this
theorem Ug (S:Nat->Bool) {b:Nat} (hb:b<=1024):nR (spansOf S b)=(bT S b).length:=by
 rw[<-ahG,(O1 S hb).2]
end Go.Proofs.YtjbiihbicknemaaGreat
