/-
  Part of the proof of StoreWhole.
-/
import Derived.Test.YtjbiihbicknemaaGreatMSrm
import Derived.Test.YtjbiihbicknemaaGreatStNext
set_option linter.unusedSimpArgs false
set_option linter.unusedVariables false
set_option maxRecDepth 20000
set_option maxHeartbeats 40000000
namespace Go.Proofs.YtjbiihbicknemaaGreat
open Go.RowKit Go.Sep
variable {W w:World} {L:List aA}
attribute [local irreducible] Oper.wp wpList Calls Code.wp Sep.dR Sep.fJ
theorem aly (w:World) (z:Int) (H:z<=8192) (I: -9223372036854775808<=z):
  Calls Tryz.prog 121 #[.int .i64 z] w fun e w'=>e= .returned (.int .i64 (Ah z))/\w=w':=by
 unfold Ah
 by_cases h:z<=0
 ·rw[if_pos h];go_enter Tryz.func121,Tryz.ntmps121;go_wp2;go_ret;exact⟨rfl,rfl⟩
 ·rw[if_neg h];have hq:Int.tdiv z 128=z / 128:=Int.tdiv_eq_ediv_of_nonneg (by omega);have hm:Int.tmod z 128=z % 128:=Int.tmod_eq_emod_of_nonneg (by omega);have hr:Int.tdiv (z-1) 128=(z-1) / 128:=Int.tdiv_eq_ediv_of_nonneg (by omega);rw[hr];obtain⟨q,hq2⟩:=au (z / 128);obtain⟨m,hm2⟩:=au (z % 128);rw[hq2] at hq;rw[hm2] at hm;have q1:0<=q:=by omega
  have q2:q<=64:=by omega
  by_cases h0:0<m
  ·have HV:=Z (show(z-1) / 128+1=q+1 by omega);have e1:decide (0<m)=true:=bL h0;clear hq2 hm2 hr;go_enter Tryz.func121,Tryz.ntmps121;go_wp2;go_ret;rw[HV.F];exact⟨rfl,rfl⟩
  ·have HV:=Z (show(z-1) / 128+1=q by omega);have e1:decide (0<m)=false:=bf h0;clear hq2 hm2 hr;go_enter Tryz.func121,Tryz.ntmps121;go_wp2;go_ret;rw[HV.F];exact⟨rfl,rfl⟩
def Dq (now:aL):Int:=if now.kind=0 then 0 else Ah (min now.size 8192)
theorem akk (now:aL):0<=Dq now/\Dq now<=64:=by
 unfold Dq
 split
 ·omega
 ·unfold Ah
  split
  ·omega
  ·rw[Int.tdiv_eq_ediv_of_nonneg (by omega)];omega
theorem Tg (now:aL) {l:Int} (h:l<32):decide (Dq now<=l)=decide (sI now<=l):=by
 refine decide_eq_decide.2 ?_;unfold Dq sI
 by_cases hk:now.kind=0
 ·rw[if_pos hk,if_pos hk]
 ·rw[if_neg hk,if_neg hk];unfold Ah
  by_cases h0:now.size<=0
  ·rw[if_pos (by omega),if_pos h0]
  ·rw[if_neg (by omega),if_neg h0,Int.tdiv_eq_ediv_of_nonneg (by omega),Int.tdiv_eq_ediv_of_nonneg (by omega)];omega
theorem akj (old now:aL) {k:Nat} :∀d,k+d=32->(∀j,k<=j->j<32->ny old now j=0)->kS old now k=kS old now 32:=by
 intro d
 induction d generalizing k with
 |zero=>intro h _;rw[show k=32 by omega]
 |succ d ih=>
  intro h hz;rw[Tf old now (by omega) (hz k (aZ _) (by omega))];exact ih (by omega) (fun j I H=>hz j (by omega) H)
def yf (W:World) (L:List aA) (p4 p5 p8 iw:Nat) (ov nv xv:List Value) (wz:World):Prop:=
 Sat W wz (Cs iw 78 xv::Cs p8 78 (inv bC)::Cs p5 78 nv::Cs p4 78 ov::L)
def NY (W:World) (L:List aA) (ov nv:List Value) (x0:aL) (ap at_:Option Addr) (n cp ct p4 p5 p8 iw:Nat) (b:Int):Act->World->Prop:=(fun(a':Act) (w':World)=>(yf W L p4 p5 p8 iw ov nv (inv (nT x0 (List.replicate 32 0))) w')/\a'=⟨#[.agg ov.toArray, .agg nv.toArray, .slice ap n cp, .slice at_ n ct, .pointer (some ⟨p4,0,none⟩), .pointer (some ⟨p5,0,none⟩),undef,undef, .pointer (some ⟨p8,0,none⟩), .slice none 0 0, .bool false, .pointer (some ⟨iw,0,none⟩), .int .i64 b,undef,undef,undef,undef,undef,undef,undef,(a'.tmps.getD 20 undef),(a'.tmps.getD 21 undef),(a'.tmps.getD 22 undef),(a'.tmps.getD 23 undef),(a'.tmps.getD 24 undef),(a'.tmps.getD 25 undef),(a'.tmps.getD 26 undef),(a'.tmps.getD 27 undef),(a'.tmps.getD 28 undef),(a'.tmps.getD 29 undef),(a'.tmps.getD 30 undef),(a'.tmps.getD 31 undef),(a'.tmps.getD 32 undef),(a'.tmps.getD 33 undef),(a'.tmps.getD 34 undef),(a'.tmps.getD 35 undef),(a'.tmps.getD 36 undef),(a'.tmps.getD 37 undef),(a'.tmps.getD 38 undef),(a'.tmps.getD 39 undef),(a'.tmps.getD 40 undef),(a'.tmps.getD 41 undef),undef,undef,undef,undef,undef,undef,undef,undef,undef,undef,undef,undef,undef,undef,undef,undef,undef,undef,undef,undef,undef,undef,undef,undef,undef,undef,undef,undef,undef,undef,undef,undef,undef,undef,undef,undef,undef,undef,undef,undef,undef,undef,undef,undef,undef,undef,undef,undef,undef,undef,undef,undef,undef,undef,undef,undef,undef,undef,undef,undef,undef,undef,undef,undef,undef,undef,undef,undef,undef,undef,undef,undef,undef,undef,undef,undef,undef,undef,undef,undef,undef,undef,undef,undef,undef,undef,undef,undef,undef,undef,undef,undef,undef,undef,undef,undef,undef,undef,undef,undef,undef,undef,undef,undef,undef,undef,undef,undef,undef,undef,undef,undef,undef,undef],[]⟩)
def Ti (W:World) (L:List aA) (ov nv:List Value) (x0:aL) (K:List Int) (ap at_:Option Addr) (n cp ct p4 p5 p8 iw:Nat) (b:Int):Act->World->Prop:=(fun(a':Act) (w':World)=>(yf W L p4 p5 p8 iw ov nv (inv (nT x0 K)) w')/\a'=⟨#[.agg ov.toArray, .agg nv.toArray, .slice ap n cp, .slice at_ n ct, .pointer (some ⟨p4,0,none⟩), .pointer (some ⟨p5,0,none⟩),undef,undef, .pointer (some ⟨p8,0,none⟩), .slice none 0 0, .bool false, .pointer (some ⟨iw,0,none⟩), .int .i64 b,(a'.tmps.getD 13 undef),undef,undef,undef,undef,undef,undef,(a'.tmps.getD 20 undef),(a'.tmps.getD 21 undef),(a'.tmps.getD 22 undef),(a'.tmps.getD 23 undef),(a'.tmps.getD 24 undef),(a'.tmps.getD 25 undef),(a'.tmps.getD 26 undef),(a'.tmps.getD 27 undef),(a'.tmps.getD 28 undef),(a'.tmps.getD 29 undef),(a'.tmps.getD 30 undef),(a'.tmps.getD 31 undef),(a'.tmps.getD 32 undef),(a'.tmps.getD 33 undef),(a'.tmps.getD 34 undef),(a'.tmps.getD 35 undef),(a'.tmps.getD 36 undef),(a'.tmps.getD 37 undef),(a'.tmps.getD 38 undef),(a'.tmps.getD 39 undef),(a'.tmps.getD 40 undef),(a'.tmps.getD 41 undef),(a'.tmps.getD 42 undef),(a'.tmps.getD 43 undef),(a'.tmps.getD 44 undef),(a'.tmps.getD 45 undef),(a'.tmps.getD 46 undef),(a'.tmps.getD 47 undef),(a'.tmps.getD 48 undef),(a'.tmps.getD 49 undef),(a'.tmps.getD 50 undef),(a'.tmps.getD 51 undef),(a'.tmps.getD 52 undef),(a'.tmps.getD 53 undef),(a'.tmps.getD 54 undef),(a'.tmps.getD 55 undef),(a'.tmps.getD 56 undef),(a'.tmps.getD 57 undef),(a'.tmps.getD 58 undef),(a'.tmps.getD 59 undef),(a'.tmps.getD 60 undef),(a'.tmps.getD 61 undef),(a'.tmps.getD 62 undef),(a'.tmps.getD 63 undef),(a'.tmps.getD 64 undef),(a'.tmps.getD 65 undef),(a'.tmps.getD 66 undef),(a'.tmps.getD 67 undef),undef,undef,undef,undef,undef,undef,undef,undef,undef,undef,undef,undef,undef,undef,undef,undef,undef,undef,undef,undef,undef,undef,undef,undef,undef,undef,undef,undef,undef,undef,undef,undef,undef,undef,undef,undef,undef,undef,undef,undef,undef,undef,undef,undef,undef,undef,undef,undef,undef,undef,undef,undef,undef,undef,undef,undef,undef,undef,undef,undef,undef,undef,undef,undef,undef,undef,undef,undef,undef,undef,undef,undef,undef,undef,undef,undef,undef,undef,undef,undef,undef,undef,undef,undef,undef,undef,undef,undef],[]⟩)
def afn (W:World) (L:List aA) (p4 p5 p8 iw:Nat) (ov nv:List Value) (old now:aL) (v13:Value) (wz:World):Prop:=
 ∃k:Nat,v13= .int .i64 (k:Int)/\k<=32/\(k:Int)<=Dq now/\yf W L p4 p5 p8 iw ov nv (inv (nT (Av now) (kS old now k))) wz
def afo (W:World) (L:List aA) (p4 p5 p8 iw:Nat) (ov nv:List Value) (x0:aL) (K:List Int) (b:Int) (pieces:List Int) (taken:List Nat) (v14:Value) (wz:World):Prop:=
 ∃i:Nat,v14= .int .i64 (i:Int)/\i<=pieces.length/\(∀j,j<i->tH b pieces j=true)/\yf W L p4 p5 p8 iw ov nv (inv (nT x0 (kU K pieces taken i))) wz
def afp (W:World) (L:List aA) (p4 p5 p8 iw:Nat) (ov nv:List Value) (old x:aL) (v16 v15:Value) (wz:World):Prop:=
 ∃k:Nat,v16= .int .i64 (k:Int)/\k<=32/\Sat W wz (Ir v15 (nu old x k)::Cs iw 78 (inv x)::Cs p8 78 (inv bC)::Cs p5 78 nv::Cs p4 78 ov::L)
def afq (W:World) (R:List aA) (x:aL) (q:Int) (v19 v18:Value) (wz:World):Prop:=
 ∃j:Nat,v19= .int .i64 (j:Int)/\j<=32/\v18= .bool (q==0 || (x.ptrs.take j).contains q)/\Sat W wz R
theorem af6 {l:List Int} {j:Nat} {p q:Int} (h:l[j]? =some p):((l.take (j+1)).contains q)=((l.take j).contains q || p==q):=by
 rw[ik,h,Option.toList_some];rw[Bool.eq_iff_iff];simp only[List.contains_iff_mem,gy,eD,Bool.or_eq_true,beq_iff_eq]
 constructor
 ·rintro(h|h)
  ·exact .inl h
  ·exact .inr h.symm
 ·rintro(h|h)
  ·exact .inl h
  ·exact .inr h.symm
theorem amx (O:Sat W w L) (old now:aL) (ho:kD old) (hn:now.ptrs.length=32) (hs1: -9223372036854775808<=now.size) (hs2:now.size<=9223372036854775807) (pieces:List Int) (taken:List Nat) (ap at_:Option Addr) (cp ct:Nat)
  (zw:∀w L',Sat W w (L'++L)->Rd w (.slice ap pieces.length cp) pieces.length 1 (pv pieces)) (hrt:∀w L',Sat W w (L'++L)->Rd w (.slice at_ taken.length ct) taken.length 1 (iv taken)):
  Calls Tryz.prog 92 #[.agg (inv old).toArray, .agg (inv now).toArray, .slice ap pieces.length cp, .slice at_ taken.length ct] w fun e w'=>zY W L old now pieces taken e w':=by
 have hzl:(inv bC).length=37:=rfl;have fQ:=Z hzl;have HZ1:=Z (inv_one bC);have HZ:=Z (show nU Tryz.prog 78=some (some (.agg (inv bC).toArray)) by kernel_rfl);have Gd:=Z (show(pv (List.replicate 32 0)).length=32 by rw[zI];simp);have Qt:=Z Oj;have D9:=Z (show(inv old).length=37 by rw[fe,ho.pl]);have q8:=Z (show((inv old).drop 0).take 37=inv old by rw[kz,dF (by rw[fe,ho.pl];decide)]);have HO:=Z ho;have vL:=Z (fun w L (h:Sat W w L)=>TL h old ho.pl ho.zero);rw[NZ ho] at vL;have oM:=Z (fun w=>aly w (min now.size 8192) (by omega) (by omega));have wW:=Z zw;have wX:=Z hrt;obtain⟨ov,hov⟩:=au (inv old);have vM:=Z (show ∀(k:Nat) p,old.ptrs[k]? =some p->ov[5+k]? =some (.int .i64 p) from fun k p h=>by rw[<-hov];exact xA h);have wN:=Z (show ov[0]? =some (.int .i64 old.kind) by rw[<-hov];rfl);have IQ:=Z (show ov[3]? =some (.int .i64 old.obj) by rw[<-hov];rfl);obtain⟨nv,uz⟩:=au (inv now);have AZ:=Z (show nv[0]? =some (.int .i64 now.kind) by rw[<-uz];rfl);have FO:=Z (show nv[1]? =some (.int .i64 now.size) by rw[<-uz];rfl);have IU:=Z (show nv[3]? =some (.int .i64 now.obj) by rw[<-uz];rfl);have uf:=Z (show nv.length=37 by rw[<-uz,fe,hn]);have Vv:=Z (show(nv.drop 0).take 37=nv by rw[kz,dF (by rw[<-uz,fe,hn];decide)]);have l6:=Z (show ∀u∈nv,u.oneCell'=true by rw[<-uz];exact inv_one now)
 have Bc:=Z (show nv.take 5++pv (List.replicate 32 0)++nv.drop (5+(pv (List.replicate 32 0)).length)=inv (nT now (List.replicate 32 0)) by
  rw[<-uz];exact ZH _ _ hn (by simp))
 have x9:=Z (show(inv (nT now (List.replicate 32 0))).length=37 by rw[fe];rfl);rw[hov] at D9 q8 vL ⊢;rw[uz];obtain⟨_,_,he,hc1,hc2,_,h5⟩:=zw w [] O;obtain⟨rfl,rfl⟩:=gq he;have H5:=Z h5;obtain⟨_,_,he,hd1,hd2,_,h6⟩:=hrt w [] O;obtain⟨rfl,rfl⟩:=gq he;have H6:=Z h6;have Qn:=Z (show(pieces.length:Int)<=9223372036854775807 by omega);obtain⟨sz,hsz⟩:=au now.size;obtain⟨b,hb⟩:=au (Dq now);have mG:=Z hb;have hbl:=akk now;rw[hb] at hbl;obtain⟨hb1,hb2⟩:=hbl;have Cq:=Z (show now.kind≠0->Ah (min sz 8192)=b from fun h=>by rw[<-hb,<-hsz];exact(if_neg h).symm);have Va:=Z (show now.kind=0->b=0 from fun h=>by rw[<-hb];exact if_pos h);rw[hsz] at oM FO;clear hov uz ho zw hrt hn h5 h6 hc1 hc2 hd1 hd2 hzl hs1 hs2 hsz hb
 by_cases hll:taken.length=pieces.length
 ·have jO:=Z hll;rw[hll];clear hll;go_enter Tryz.func92,Tryz.ntmps92;refine dK (fun KX aF=>?_)
  go_wp2_with (first
   |(refine bV (show Sat W _ L from O) ?_;clear O;intro p4 J O;rw[aS] at O)
   |(refine bV (show Sat W _ (_::L) from O) ?_;clear O;intro p5 J O;rw[aS] at O)
   |(refine dU (show Sat W _ (_::_::L) from O) ?_ (hz:=HZ.F);clear O;intro p8 J O;rw[aS] at O))
  refine aF.F _ _ ?_;clear aF KX;refine dK (fun KX aF=>?_)
  go_wp2_with (first
   |(refine dm O hz2 ov ?_ (hvs:=q8.F) (hb:=D9.F))
   |(go_at_call 116;refine ak (vL.F _ _ O) ?_;clear O;intro J O))
  refine aF.F _ _ ?_;clear aF KX;refine dK (fun KX aF=>?_)
  go_wp2_with (first
   |(refine dm O hz1 nv ?_ (hvs:=Vv.F) (hb:=uf.F))
   |(refine dU (show Sat W _ (_::_::_::L) from O) ?_ (hz:=HZ.F);clear O;intro iw J O;rw[aS] at O)
   |(refine eT nv O aa ?_ (hv:=l6.F) (hn:=by rw[uf.F];exact bz (by rfl)) (hb:=by rw[uf.F,fQ.F]);clear O;intro J O;rw[aD] at O))
  refine aF.F _ _ ?_;clear aF KX;refine dK (fun KX aF=>?_)
  go_wp2_with (refine kW (pv (List.replicate 32 0)) O aa ?_ (hv:=(Qt.F _)) (hn:=by rw[Gd.F];exact bz (by rfl)) (hb:=by rw[Gd.F,uf.F];decide);clear O;intro J O;rw[aD,Bc.F] at O)
  refine aF.F _ _ ?_;clear aF KX;refine dK (fun KX aF=>?_)
  go_wp2_with (first
   |(refine aH O hz2 FO.F ?_)
   |(go_at_call 121;refine ak (oM.F _) ?_;rintro J rfl))
  refine aF.F _ _ ?_;clear aF KX;obtain⟨x0,hx0⟩:=au (Av now);have qZ:=Z hx0;refine pV (NY W L ov nv x0 ap at_ pieces.length cp ct p4 p5 p8 iw b) (fun KX aF=>?_) ?_
  ·by_cases hk:now.kind=0
   ·have hxz:x0=bC:=by rw[<-hx0];exact if_pos hk
    have hbz:b=0:=Va.F hk;subst hxz hbz;rw[hk] at AZ;clear hk hx0
    go_wp2_with (first
     |(refine aH O hz2 AZ.F ?_)
     |(refine eT (inv bC) O aa ?_ (hv:=HZ1.F) (hn:=by rw[fQ.F];exact bz (by rfl)) (hb:=by rw[fQ.F,x9.F]);clear O;intro J O;rw[aD] at O))
    refine aF.F _ _ ?_;unfold NY;refine⟨O,rfl⟩
   ·have hxz:x0=now:=by rw[<-hx0];exact if_neg hk
    have hbz:=Cq.F hk;have e1:(now.kind==0)=false:=dH.2 hk;rw[hbz];clear hk hbz hx0;subst hxz
    go_wp2_with (refine aH O hz2 AZ.F ?_)
    refine aF.F _ _ ?_;unfold NY;refine⟨O,rfl⟩
  clear O vL oM AZ FO uf hx0 Bc x9 Cq Va Vv l6;rintro a wz hinv;unfold NY at hinv;obtain⟨hrel,ha⟩:=hinv;obtain⟨z,hz⟩:∃z:Nat->Value,∀i,a.tmps.getD i undef=z i:=⟨_,fun _=>rfl⟩;simp only[hz] at hrel ha;clear hz;subst ha;have O:=hrel;unfold yf at O;clear hrel;have H0:=Z O;clear O HZ;obtain⟨K,hK⟩:=au (kS old now 32);have HKK:=Z hK;have oN:=Z (show K.length=32 by rw[<-hK];exact Ih _ _ (aZ _));have Jn:=Z (show jF old now pieces taken=nT x0 (kU K pieces taken pieces.length) by unfold jF;rw[qZ.F,hK]);clear hK;refine pV (Ti W L ov nv x0 K ap at_ pieces.length cp ct p4 p5 p8 iw b) (fun KX aF=>?_) ?_
  ·go_wp2;go_loopw [13] (fun v13 wz=>afn W L p4 p5 p8 iw ov nv old now v13 wz) (fun v13 _=>iV 32 v13)
   case atStart=>exact⟨0,rfl,by decide,by rw[mG.F];exact hb1,by unfold yf;rw[qZ.F,aaO];exact H0.F⟩
   case round=>
    clear H0;obtain⟨k,rfl,hk,hkb,O⟩:=hrel;rw[mG.F] at hkb;unfold yf at O;rw[qZ.F] at O
    by_cases hlt:k<32/\(k:Int)<b
    ·obtain⟨hlt,hkb2⟩:=hlt;have k1:(k:Int)<32:=by omega
     have e31:decide ((k:Int)<32)=true:=bL k1;have e32:decide ((k:Int)<b)=true:=bL hkb2;have e33:decide (k<32)=true:=bL hlt;have ay:=Z hlt;have Cx:=Z (show((k+1:Nat):Int)<=Dq now by rw[mG.F];omega);obtain⟨q,hq⟩:∃q,old.ptrs[k]? =some q:=⟨_,aR (by rw[HO.F.pl];exact hlt)⟩
     have GQ:=Z (vM.F k q hq)
     have hnb:decide ((k:Int)<sI now)=true:=by
      have H:=Tg now (l:=(k:Int)) k1;rw[mG.F,bf (by omega:¬b<=(k:Int))] at H;have h3:=of_decide_eq_false H.symm;exact bL (by omega)
     have hkn:now.kind≠0:=fun h=>by
      unfold sI at hnb;rw[if_pos h] at hnb;have:=of_decide_eq_true hnb;omega
     have uA:x0=now:=by rw[<-qZ.F];exact if_neg hkn
     have hkp:BS old now k=(true&&(old.kind != 0&&old.obj==now.obj)):=by unfold BS;rw[hnb,qZ.F,uA]
     have JV:ny old now k=if BS old now k then q else 0:=by unfold ny;rw[hq];rfl
     have rY:=Z (fun h=>Tf old now hlt h);have HST:=Z (aaN old now hlt);have rf:=Z (show 5+k< (inv (nT x0 (kS old now k))).length by rw[fe];show 5+k<5+(kS old now k).length;rw[Ih _ _ hk];omega);obtain⟨c2,hc2⟩:=au (old.kind != 0);obtain⟨c3,hc3⟩:=au (old.obj==now.obj);rw[hc2,hc3] at hkp;have Cz:=Z hkp;have CB:=Z JV;clear hkp JV hq hlt hk hkb hnb hkn uA
     cases c2 with
     |false=>
      go_wp2_with (refine aH O hz3 wN.F ?_)
      have hz:ny old now k=0:=by rw[CB.F,Cz.F];rfl
      rw[rY.F hz] at O;exact⟨⟨k+1,by go_num,ay.F,Cx.F,by unfold yf;rw[qZ.F];exact O⟩,fZ ay.F⟩
     |true=>
      cases c3 with
      |false=>
       go_wp2_with (first
        |(refine aH O hz3 wN.F ?_)
        |(refine aH O hz3 IQ.F ?_)
        |(refine aH O hz2 IU.F ?_))
       have hz:ny old now k=0:=by rw[CB.F,Cz.F];rfl
       rw[rY.F hz] at O;exact⟨⟨k+1,by go_num,ay.F,Cx.F,by unfold yf;rw[qZ.F];exact O⟩,fZ ay.F⟩
      |true=>
       have hz:ny old now k=q:=by rw[CB.F,Cz.F];rfl
       rw[hz] at HST;have jK:=Z ((Nz x0 (kS old now k) k q).trans (by rw[HST.F]));clear hz
       go_wp2_with (first
        |(refine aH O hz3 wN.F ?_)
        |(refine aH O hz3 IQ.F ?_)
        |(refine aH O hz2 IU.F ?_)
        |(refine aH O hz3 GQ.F ?_)
        |(refine iA O aa ?_ (hb:=rf.F);clear O;intro J O;dsimp only[aD,aN] at O;rw[jK.F] at O))
       exact⟨⟨k+1,by go_num,ay.F,Cx.F,by unfold yf;rw[qZ.F];exact O⟩,fZ ay.F⟩
    ·have hend:kS old now k=kS old now 32:=akj old now (32-k) (by omega) (fun j I H=>by
      have hb9:b<=(j:Int):=by omega
      have h3:=Tg now (l:=(j:Int)) (by omega);rw[mG.F,bL hb9] at h3;unfold ny BS;rw[bf (by have:=of_decide_eq_true h3.symm;omega)]
      rfl)
     have hcase:(¬((k:Int)<32))∨((k:Int)<32/\¬((k:Int)<b)):=by omega
     rw[hend,HKK.F] at O;clear hlt hk hend hkb
     rcases hcase with k1|⟨k1,k2⟩
     all_goals
      go_wp2;refine aF.F _ _ ?_;unfold Ti;exact⟨O,rfl⟩
  clear HKK;rintro a wz hinv;unfold Ti at hinv;obtain⟨hrel,ha⟩:=hinv;obtain⟨z,hz⟩:∃z:Nat->Value,∀i,a.tmps.getD i undef=z i:=⟨_,fun _=>rfl⟩;simp only[hz] at hrel ha;clear hz;subst ha;have O:=hrel;unfold yf at O;clear hrel;have H1:=Z O;have uZ:=Qn.F;clear O;go_wp2;go_loopw [14] (fun v14 wz=>afo W L p4 p5 p8 iw ov nv x0 K (sI now) pieces taken v14 wz) (fun v14 _=>iV pieces.length v14)
  case atStart=>exact⟨0,rfl,eG _,fun j hj=>absurd hj (qd _),H1.F⟩
  case round=>
   clear H1;obtain⟨i,rfl,hi,hall,O⟩:=hrel;unfold yf at O;have jE:=Z hall;have xX:=Z (Oh hall);clear hall
   by_cases hlt:i<pieces.length
   ·have k1:(i:Int)< (pieces.length:Int):=by omega
    have ay:=Z hlt;obtain⟨pb,po,rfl,_⟩:=H5.F (by omega);obtain⟨tb,Pm,rfl,_⟩:=H6.F (by rw[jO.F];omega);obtain⟨l,hl⟩:∃l,pieces[i]? =some l:=⟨_,aR hlt⟩
    obtain⟨t,ht⟩:∃t,taken[i]? =some t:=⟨_,aR (by rw[jO.F];exact hlt)⟩
    have fU:=Z (show(pv pieces)[i]? =some (.int .i64 l) by simp[pv,hl]);have FY:=Z (qw ht);have hpc:tH (sI now) pieces i=(!decide (l<=wD pieces i)&&(!decide (sI now<=l)&& !decide (32<=l))):=by unfold tH;rw[hl];rfl
    have sN:=Z (show kU K pieces taken (i+1)=(kU K pieces taken i).set l.toNat ((t:Nat):Int) by rw[kU,hl,ht];rfl);have Qv:=Z (show(kU K pieces taken i).length=32 by rw[KF];exact oN.F);have HRR:=Z (fun u (h:Sat W u [Cs iw 78 (inv (nT x0 (kU K pieces taken i))),Cs p8 78 (inv bC),Cs p5 78 nv,Cs p4 78 ov])=>True.intro);have HR1:=Z (fun u (h:Sat W u (Cs iw 78 (inv (nT x0 (kU K pieces taken i)))::Cs p8 78 (inv bC)::Cs p5 78 nv::Cs p4 78 ov::L))=>wW.F u [_,_,_,_] h);have HR2:=Z (fun u (h:Sat W u (Cs iw 78 (inv (nT x0 (kU K pieces taken i)))::Cs p8 78 (inv bC)::Cs p5 78 nv::Cs p4 78 ov::L))=>wX.F u [_,_,_,_] h);clear HRR
    -- what stands ahead
    have Nu:i=0/\wD pieces i= -1∨ ∃j z,i=j+1/\pieces[j]? =some z/\wD pieces i=z:=by
     cases i with
     |zero=>exact .inl ⟨rfl,rfl⟩
     |succ j=>
      obtain⟨z,hz⟩:∃z,pieces[j]? =some z:=⟨_,aR (by omega)⟩
      exact .inr ⟨j,z,rfl,hz,by show pieces[j]?.getD 0=z;rw[hz];rfl⟩
    have JR:=fun h=>Tg now (l:=l) h
    rw[mG.F] at JR
    cases hc:tH (sI now) pieces i with
    |false=>
     have xZ:=Z hc
     have hbad:decide (l<0)=true∨(decide (l<0)=false/\decide (b<=l)=true)∨(decide (l<0)=false/\decide (b<=l)=false/\decide (32<=l)=true)∨(∃(j:Nat) (z:Int),decide (l<0)=false/\decide (b<=l)=false/\decide (32<=l)=false/\(decide (0< (i:Int))=true/\decide (0<i)=true)/\decide (l<=z)=true/\((i:Int)<=(j:Int)+1/\(j:Int)+1<=(i:Int))/\(pv pieces)[j]? =some (.int .i64 z)):=by
      by_cases I:l<0
      ·exact .inl (bL I)
      by_cases H:b<=l
      ·exact .inr (.inl ⟨bf I,bL H⟩)
      by_cases h3:32<=l
      ·exact .inr (.inr (.inl ⟨bf I,bf H,bL h3⟩))
      refine .inr (.inr (.inr ?_));have h4:=JR (by omega);rw[bf H] at h4;rw[hc,<-h4,bf h3] at hpc;simp at hpc
      rcases Nu with⟨rfl,e⟩|⟨j,z,rfl,hz,e⟩
      ·rw[e] at hpc;omega
      ·exact⟨j,z,bf I,bf H,bf h3,⟨bL (by omega),bL (by omega)⟩,bL (by rw[e] at hpc;exact hpc),⟨by omega,by omega⟩,by simp[pv,hz]⟩
     have dx:=Z (show lX old now pieces taken=false by unfold lX;rw[Og ay.F xZ.F,Bool.false_and,Bool.and_false]);clear hl ht hpc hi JR Nu hc hlt
     rcases hbad with e1|⟨e1,e2⟩|⟨e1,e2,e3⟩|⟨j,z,e1,e2,e3,⟨e4,e5⟩,e6,⟨hj1,hj2⟩,hgz⟩
     all_goals
      (try have Qc:=Z hgz)
      (try clear hgz)
      go_wp2
      (refine cB (pO [0,1]<|tO [2]<|rO [3]<|pO [4,5,6,7]<|tO [8]<|rO [9]<|pO [10,11,12,13,14,15]<|tO [16]<|rO [17]<|pO [18,19,20,21,22,23,24,25]<|tO [26]<|rO [27]<|pO [28,29]<|wO [30]<|tO [31]<|rO [32]<|pO [33,34,35]<| .e) [] O ?_;clear O;intro J O)
      repeat (first
       |(refine bG O ?_;go_frame)
       |(refine mR O ?_;go_frame;try simp(disch:=omega) only[IntWalk.i64_in])
       |(refine oI O ?_;apply Exists.intro;apply And.intro;(intro w;first|go_simp;rw[if_pos (by omega)]|(go_simp;try with_reducible rfl));go_frame)
       |(refine sK O ?_;go_frame)
       |(refine bR O ?_;(first
             |refine⟨_,fun u hu=>fF (HR1.F _ hu) _ _ (by rfl) _ (by rfl) (aI (by rfl)) i (by omega) fU.F (by have:=ay.F;omega),?_⟩
             |refine⟨_,fun u hu=>fF (HR1.F _ hu) _ _ (by rfl) _ (by rfl) (aI (by rfl)) j (by omega) Qc.F (by have:=ay.F;omega),?_⟩);go_frame))
      refine bO ?_
      go_wp2_with (first|(refine eT (inv bC) O hz1 ?_ (hv:=HZ1.F) (hn:=by rw[fQ.F];exact bz (by rfl));clear O;intro J O;dsimp only[aD,aN] at O))
      ((try simp only[Exit.inBlock,Exit.then]);refine Af O rfl (by rfl) (aI (by rfl)) (bz (by rfl)) (k:=1) rfl fQ.F rfl ?_;exact Or.inr ⟨dx.F,rfl,O.drop.drop.drop.drop⟩)
    |true=>
     have xZ:=Z hc;rw[hc] at hpc
     have hp3:decide (l<=wD pieces i)=false/\decide (sI now<=l)=false/\decide (32<=l)=false:=by
      cases I:decide (l<=wD pieces i)<;>cases H:decide (sI now<=l)<;>cases h3:decide (32<=l)<;>rw[I,H,h3] at hpc<;>simp at hpc ⊢
     obtain⟨g1,g2,g3⟩:=hp3;have hlo:=xX.F;have hl0:0<=l:=by have:=of_decide_eq_false g1;omega
     have Sj:l<32:=by have:=of_decide_eq_false g3;omega
     have e1:decide (l<0)=false:=bf (by omega);have e2:decide (b<=l)=false:=(JR Sj).trans g2;have e3:decide (32<=l)=false:=g3
     have hok:(decide (0< (i:Int))=false/\decide (0<i)=false)∨(∃(j:Nat) (z:Int),(decide (0< (i:Int))=true/\decide (0<i)=true)/\decide (l<=z)=false/\((i:Int)<=(j:Int)+1/\(j:Int)+1<=(i:Int))/\(pv pieces)[j]? =some (.int .i64 z)):=by
      rcases Nu with⟨rfl,e⟩|⟨j,z,rfl,hz,e⟩
      ·exact .inl ⟨rfl,rfl⟩
      ·exact .inr ⟨j,z,⟨bL (by omega),bL (by omega)⟩,by rw[e] at g1;exact g1,⟨by omega,by omega⟩,by simp[pv,hz]⟩
     obtain⟨m,rfl⟩:∃m:Nat,l=(m:Int):=⟨l.toNat,by omega⟩;have m1:(m:Int)<32:=Sj;rw[fu] at sN;have rf:=Z (show 5+m< (inv (nT x0 (kU K pieces taken i))).length by rw[fe];show 5+m<5+(kU K pieces taken i).length;rw[Qv.F];omega);have jK:=Z ((Nz x0 (kU K pieces taken i) m ((t:Nat):Int)).trans (by rw[<-sN.F]));have e1':¬((m:Int)<0):=by omega
     clear hl ht hpc hi JR Nu hc hlt g1 g2 g3 hlo hl0 Sj
     rcases hok with⟨e4,e5⟩|⟨j,z,⟨e4,e5⟩,e6,⟨hj1,hj2⟩,hgz⟩
     all_goals
      (try have Qc:=Z hgz)
      (try clear hgz)
      go_wp2
      (refine cB (pO [0,1]<|tO [2]<|rO [3]<|pO [4,5,6,7]<|tO [8]<|rO [9]<|pO [10,11,12,13,14,15]<|tO [16]<|rO [17]<|pO [18,19,20,21,22,23,24,25]<|tO [26]<|rO [27]<|pO [28,29]<|wO [30]<|tO [31]<|rO [32]<|pO [33,34,35]<| .e) [] O ?_;clear O;intro J O)
      repeat (first
       |(refine bG O ?_;go_frame)
       |(refine mR O ?_;go_frame;try simp(disch:=omega) only[IntWalk.i64_in])
       |(refine oI O ?_;apply Exists.intro;apply And.intro;(intro w;first|go_simp;rw[if_pos (by omega)]|(go_simp;try with_reducible rfl));go_frame)
       |(refine sK O ?_;go_frame)
       |(refine bR O ?_;(first
             |refine⟨_,fun u hu=>fF (HR1.F _ hu) _ _ (by rfl) _ (by rfl) (aI (by rfl)) i (by omega) fU.F (by have:=ay.F;omega),?_⟩
             |refine⟨_,fun u hu=>fF (HR1.F _ hu) _ _ (by rfl) _ (by rfl) (aI (by rfl)) j (by omega) Qc.F (by have:=ay.F;omega),?_⟩);go_frame))
      refine bO ?_;go_wp2
      (refine cB (pO [0,1]<|tO [2]<|rO [3]<|pO [4,5]<|tO [6]<|rO [7]<|pO [8]<|tO [9]<|aO [10]<| .e) [10] O ?_;clear O;intro J O)
      repeat (first
       |(refine bG O ?_;go_frame)
       |(refine oI O ?_;apply Exists.intro;apply And.intro;(intro w;first|go_simp;rw[if_pos (by omega)]|(go_simp;try with_reducible rfl));go_frame)
       |(refine bR O ?_;(first
             |refine⟨_,fun u hu=>fF (HR1.F _ hu) _ _ (by rfl) _ (by rfl) (aI (by rfl)) i (by omega) fU.F (by have:=ay.F;omega),?_⟩
             |refine⟨_,fun u hu=>fF (HR2.F _ hu) _ _ (by rfl) _ (by rfl) (aI (by rfl)) i (by omega) FY.F (by rw[jO.F];have:=ay.F;omega),?_⟩);go_frame)
       |(refine bY fun K hK=>?_;(refine O5 O aa ?_ (hb:=rf.F);clear O;intro J O;dsimp only[aD,aN] at O;rw[jK.F] at O);refine hK.go O ?_;clear hK K;go_frame))
      refine bO ?_;go_wp2;exact⟨⟨i+1,by go_num,ay.F,abj jE.F xZ.F,O⟩,fZ ay.F⟩
   ·obtain rfl:i=pieces.length:=by omega
    have k1:¬(pieces.length:Int)< (pieces.length:Int):=by omega
    have Je:=Z (abh jE.F);have hxl:(jF old now pieces taken).ptrs.length=32:=Dp;have CO:=Z (fun h=>Km (old:=old) (taken:=taken) Je.F h);rw[<-Jn.F] at O;obtain⟨x,V⟩:=au (jF old now pieces taken);have HX:=Z V;rw[V] at O hxl CO;have CL:=Z (show((inv x).drop 0).take 37=inv x by rw[kz,dF (by rw[fe,hxl];decide)]);have eY:=Z (show(inv x).length=37 by rw[fe,hxl]);have wZ:=Z hxl;have mH:=Z (inv_one x);have Cw:=Z (fun w L (h:Sat W w L)=>TL h x hxl CO.F);obtain⟨r,hr⟩:=au (yL x);have Bi:=Z (show lX old now pieces taken=r by unfold lX;rw[Je.F,V,hr,bL jO.F.symm];rfl);rw[hr] at Cw;clear hlt hi V hr
    cases r with
    |false=>
     clear hxl
     go_wp2_with (first
      |(refine dm O aa (inv x) ?_ (hvs:=CL.F) (hb:=eY.F))
      |(go_at_call 116;refine ak (Cw.F _ _ O) ?_;clear O;intro J O)
      |(refine eT (inv bC) O hz1 ?_ (hv:=HZ1.F) (hn:=by rw[fQ.F];exact bz (by rfl));clear O;intro J O;dsimp only[aD,aN] at O))
     ((try simp only[Exit.inBlock,Exit.then]);refine Af O rfl (by rfl) (aI (by rfl)) (bz (by rfl)) (k:=1) rfl fQ.F rfl ?_;exact Or.inr ⟨Bi.F,rfl,O.drop.drop.drop.drop⟩)
    |true=>
     clear hxl
     go_wp2_with (first
      |(refine dm O aa (inv x) ?_ (hvs:=CL.F) (hb:=eY.F))
      |(go_at_call 116;refine ak (Cw.F _ _ O) ?_;clear O;intro J O))
     have H3:=Z (by have:=O.wh;rw[<-YM old x] at this;exact this);have Jm:=Z (fun(k:Nat) p (h:x.ptrs[k]? =some p)=>xA h);obtain⟨xv,hxv⟩:=au (inv x);have ug:=Z hxv;rw[hxv] at H3 CL eY mH Jm;clear O Cw hxv;go_loopw [16,15] (fun v16 v15 wz=>afp W L p4 p5 p8 iw ov nv old x v16 v15 wz) (fun v16 _ _=>iV 32 v16)
     case atStart=>exact⟨0,rfl,by decide,by rw[ug.F];exact H3.F⟩
     case round=>
      clear H3;obtain⟨k,rfl,hk,O⟩:=hrel;rw[ug.F] at O
      by_cases hlt:k<32
      ·have k2:(k:Int)<32:=by omega
       have ay:=Z hlt;obtain⟨p,hp⟩:∃p,old.ptrs[k]? =some p:=⟨_,aR (by rw[HO.F.pl];exact hlt)⟩
       obtain⟨I,H⟩:=Fq HO.F hp;obtain⟨q,rfl⟩:∃q:Nat,p=(q:Int):=⟨p.toNat,by omega⟩;have GQ:=Z (vM.F k _ hp);have Qx:=Z hp;have lN:=Z (show(nu old x k).length<=32 by unfold nu;rw[qa];exact Nat.le_trans (List.length_filter_le _ _) (by rw[jr];omega));clear hlt hk hp I H
       go_wp2_with (refine aH O fD GQ.F ?_)
       obtain⟨R,hR⟩:=au (Ir u15 (nu old x k)::Cs iw 78 xv::Cs p8 78 (inv bC)::Cs p5 78 nv::Cs p4 78 ov::L);have F8:=Z hR;have HH:=Z (show Has R 1 (Cs iw 78 xv) by rw[<-hR];exact hz1);rw[hR] at O;have H4:=Z O;clear O hR;go_loopw [19,18] (fun v19 v18 wz=>afq W R x (q:Int) v19 v18 wz) (fun v19 _ _=>iV 32 v19)
       case atStart=>exact⟨0,rfl,by decide,by simp,H4.F⟩
       case round=>
        clear H4;obtain⟨j,rfl,hj,rfl,O⟩:=hrel
        by_cases hjl:j<32
        ·have j2:(j:Int)<32:=by omega
         have tX:=Z hjl;obtain⟨p2,hp2⟩:∃p2,x.ptrs[j]? =some p2:=⟨_,aR (by rw[wZ.F];exact hjl)⟩
         have GX:=Z (Jm.F j p2 hp2);have hsn:=af6 (q:=(q:Int)) hp2;obtain⟨s,hs⟩:∃s,((q:Int)==0 || (x.ptrs.take j).contains (q:Int))=s:=⟨_,rfl⟩;obtain⟨t2,ht2⟩:∃t,(p2==(q:Int))=t:=⟨_,rfl⟩;have rq:=Z (show((q:Int)==0 || (x.ptrs.take (j+1)).contains (q:Int))=(s || t2) by rw[hsn,ht2,<-hs,Bool.or_assoc]);rw[hs];clear hjl hj hp2 hsn hs
         cases s with
         |true=>
          clear ht2;go_wp2;exact⟨⟨j+1,by go_num,tX.F,by rw[rq.F];rfl,O⟩,fZ tX.F⟩
         |false=>
          go_wp2_with (refine aH O HH.F GX.F ?_)
          exact⟨⟨j+1,by go_num,tX.F,by rw[rq.F];rfl,O⟩,fZ tX.F⟩
        ·obtain rfl:j=32:=by omega
         rw[<-F8.F] at O;have hal:x.ptrs.take 32=x.ptrs:=dF (by rw[wZ.F];exact aZ _);rw[hal];clear hal hjl hj
         by_cases h0:q=0
         ·subst h0;have HG:=Z (YK (x:=x) Qx.F);have e0:(((0:Nat):Int)==0 || x.ptrs.contains ((0:Nat):Int))=true:=rfl;rw[e0];go_wp2;rw[HG.F] at O;exact⟨⟨k+1,by go_num,ay.F,by rw[ug.F];exact O⟩,fZ ay.F⟩
         ·have e1:((q:Int)==0)=false:=dH.2 (by omega);obtain⟨s,hs⟩:=au (x.ptrs.contains (q:Int));rw[e1,hs,Bool.false_or]
          cases s with
          |true=>
           have HG:=Z (YJ Qx.F hs);clear hs h0;go_wp2;rw[HG.F] at O;exact⟨⟨k+1,by go_num,ay.F,by rw[ug.F];exact O⟩,fZ ay.F⟩
          |false=>
           have HG:=Z (YL Qx.F h0 hs);clear hs h0
           go_wp2_with (first
            |(refine il [.int .i64 ((q:Nat):Int)] O ?_ (hc:=by simp[Value.cells]);clear O;intro b1 J O;rw[jC rfl] at O)
            |(at_builtin;refine aU ?_;refine rz O _ _ _ _ (by rfl) (by rfl) (by rfl) (bS (by rfl)) (by rfl) (by rfl) (by rfl) (dO (by rfl)) hz1 (m:=[q]) (by exact O.jc (sz:=1) aa (by decide) rfl) (by have:=lN.F;simp;omega) ?_;intro v' J hS1;clear O;have O:=hS1;clear hS1;dsimp only[aD,aN] at O;rw[HG.F] at O))
           exact⟨⟨k+1,by go_num,ay.F,by rw[ug.F];exact O.drop⟩,fZ ay.F⟩
      ·obtain rfl:k=32:=by omega
       clear hlt hk
       go_wp2_with (first
        |(refine dm O hz1 xv ?_ (hvs:=CL.F) (hb:=eY.F))
        |(refine eT xv O hz2 ?_ (hv:=mH.F) (hn:=by rw[eY.F];exact bz (by rfl)) (hb:=by rw[eY.F,fQ.F]);clear O;intro J O;dsimp only[aD,aN] at O))
       (try simp only[Exit.inBlock,Exit.then])
       refine Af O rfl (by rfl) (aI (by rfl)) (bz (by rfl)) (k:=2) rfl eY.F rfl ?_;refine Or.inl ⟨Bi.F,?_⟩;rw[HX.F,ug.F];exact⟨_,rfl,(O.re [1,2,3,4,0]).drop.drop.drop.drop⟩
 ·have e1:((pieces.length:Int) != (taken.length:Int))=true:=bne_iff_ne.2 (by omega);have Bi:=Z (show lX old now pieces taken=false by unfold lX;rw[bf (fun h=>hll h.symm)];rfl);clear hll;go_enter Tryz.func92,Tryz.ntmps92
  go_wp2_with (first
   |(refine bV (show Sat W _ L from O) ?_;clear O;intro p4 J O;rw[aS] at O)
   |(refine bV (show Sat W _ (_::L) from O) ?_;clear O;intro p5 J O;rw[aS] at O)
   |(refine dU (show Sat W _ (_::_::L) from O) ?_ (hz:=HZ.F);clear O;intro p8 J O;rw[aS] at O)
   |(refine dm O hz2 ov ?_ (hvs:=q8.F) (hb:=D9.F))
   |(go_at_call 116;refine ak (vL.F _ _ O) ?_;clear O;intro J O)
   |(refine eT (inv bC) O aa ?_ (hv:=HZ1.F) (hn:=by rw[fQ.F];exact bz (by rfl));clear O;intro J O;dsimp only[aD,aN] at O))
  ((try simp only[Exit.inBlock,Exit.then]);refine Af O rfl (by rfl) (aI (by rfl)) (bz (by rfl)) (k:=0) rfl fQ.F rfl ?_;exact Or.inr ⟨Bi.F,rfl,O.drop.drop.drop⟩)
end Go.Proofs.YtjbiihbicknemaaGreat
