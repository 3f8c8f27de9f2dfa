/-
  Part of the proof of StoreWhole.
-/
import Derived.Test.YtjbiihbicknemaaGreatMIng
set_option linter.unusedSimpArgs false
set_option linter.unusedVariables false
set_option maxRecDepth 20000
set_option maxHeartbeats 40000000
namespace Go.Proofs.YtjbiihbicknemaaGreat
open Go.RowKit Go.Sep
variable {W w:World} {L:List aA}
attribute [local irreducible] Oper.wp wpList Calls Code.wp Sep.dR Sep.fJ
theorem sZ (w:World) (v a b:Int) {r:Bool} (h:bI v a b=r):
  Calls Tryz.prog 111 #[.int .i64 v, .int .i64 a, .int .i64 b] w fun e w'=>e= .returned (.bool r)/\w=w':=by
 subst h;unfold bI
 by_cases I:a<=v
 ·by_cases H:v<=b
  ·go_enter Tryz.func111,Tryz.ntmps111;go_wp2;go_ret;exact⟨by simp[I,H],rfl⟩
  ·go_enter Tryz.func111,Tryz.ntmps111;go_wp2;go_ret;exact⟨by simp[H],rfl⟩
 ·go_enter Tryz.func111,Tryz.ntmps111;go_wp2;go_ret;exact⟨by rw[bf (Int.not_le.2 I)];rfl,rfl⟩
def yK (x:aL):Bool:=bI x.kind 1 2&&(bI x.size 0 4096&&(bI x.links 0 10000&&(bI x.obj 1 16777215&&bI x.node 0 16777215)))
def wB (x:aL):Bool:=yK x&&(x.kind != 2 || (x.links==1&&x.size % 128==0))
def xE (x:aL) (k:Nat):Bool:=
 match x.ptrs[k]? with
 |none=>true
 |some p=>if p=0 then !(x.kind==2&& !decide (x.size<=(k:Int)*128)) else !decide (x.size<=(k:Int)*128)&&(bI p 74 1023&& !ko x.ptrs k p.toNat)
def yM (x:aL):Bool:=(List.range 32).all (xE x)
def yL (x:aL):Bool:=x.kind==0 || (wB x&&yM x)
theorem zG {x:aL} {k:Nat} (hk:k<32) (h:xE x k=false):yM x=false:=by
 unfold yM;rw[List.all_eq_false];exact⟨k,jD.2 hk,by rw[h];decide⟩
theorem N9 {x:aL} (h:∀k,k<32->xE x k=true):yM x=true:=by
 unfold yM;rw[jV];exact fun k hk=>h k (jD.1 hk)
theorem Ko {x:aL} {k:Nat} (hp:x.ptrs[k]? =some 0):xE x k= !(x.kind==2&& !decide (x.size<=(k:Int)*128)):=by
 unfold xE;rw[hp];rfl
theorem Kn {x:aL} {k:Nat} {p:Int} (hp:x.ptrs[k]? =some p) (h:p≠0):xE x k=(!decide (x.size<=(k:Int)*128)&&(bI p 74 1023&& !ko x.ptrs k p.toNat)):=by
 unfold xE;rw[hp];exact if_neg h
theorem Tt {x:aL} (hl:x.ptrs.length=32) (hz:x.kind=0->x=bC) (h:yL x=true):kD x:=by
 by_cases h0:x.kind=0
 ·rw[hz h0];exact Dt
 have hk0:(x.kind==0)=false:=dH.2 h0;unfold yL at h;rw[hk0,Bool.false_or,ed] at h;obtain⟨I,H⟩:=h
 have hps:∀k,k<32->xE x k=true:=fun k hk=>by
  unfold yM at H;exact jV.1 H k (jD.2 hk)
 unfold wB yK bI at I;simp only[ed,decide_eq_true_eq] at I;obtain⟨⟨⟨k1,k2⟩,⟨s1,s2⟩,⟨l1,l2⟩,⟨o1,o2⟩,n1,n2⟩,hd⟩:=I
 have hpt:∀(k:Nat) p,x.ptrs[k]? =some p->p≠0->(¬x.size<=(k:Int)*128)/\(74<=p/\p<=1023)/\ko x.ptrs k p.toNat=false:=fun k p hp hne=>by
  have hk:k<32:=by have:=(bZ.1 hp).1;omega
  have:=hps k hk;rw[Kn hp hne] at this;unfold bI at this
  simpa using this
 exact
  {pl:=hl
   zero:=fun h=>absurd h h0
   kd:=⟨by omega,k2⟩
   sz:=⟨s1,s2⟩
   lk:=⟨l1,l2⟩
   ob:=⟨by omega,o2⟩
   Dr:=fun _=>o1
   nd:=⟨n1,n2⟩
   dir:=fun hk2=>by
    rw[hk2] at hd;simp at hd;refine⟨hd.1,hd.2,fun k hp=>?_⟩;have hk:k<32:=by have:=(bZ.1 hp).1;omega
    have:=hps k hk;rw[Ko hp,hk2] at this
    simpa using this
   pt:=fun k p hp hne=>by
    obtain⟨a,b,_⟩:=hpt k p hp hne;exact⟨by omega,b⟩
   Dj:=fun j k p hjk hj hk=>by
    by_cases hne:p=0
    ·exact hne
    obtain⟨_,b,c⟩:=hpt k p hk hne;obtain⟨q,rfl⟩:∃q:Nat,p=(q:Int):=⟨p.toNat,by omega⟩;rw[fu] at c;unfold ko at c;have hm:(q:Int)∈x.ptrs.take k:=bJ (i:=j) (by rw[List.getElem?_take_of_lt hjk];exact hj);rw[bL (show q≠0 by omega),Bool.true_and,List.contains_iff_mem.2 hm] at c
    exact absurd c (by decide)}
theorem NZ {x:aL} (h:kD x):yL x=true:=by
 unfold yL
 by_cases h0:x.kind=0
 ·rw[h0];rfl
 rw[Bool.or_eq_true,ed];right;have hk:=h.kd;have hs:=h.sz;have hlk:=h.lk;have Nt:=h.ob;have apT:=h.Dr h0;have hn:=h.nd;refine⟨?_,N9 fun k hk=>?_⟩
 ·unfold wB yK bI;simp only[ed,decide_eq_true_eq];refine⟨⟨⟨by omega,by omega⟩,⟨by omega,by omega⟩,⟨by omega,by omega⟩,⟨by omega,by omega⟩,by omega,by omega⟩,?_⟩
  by_cases H:x.kind=2
  ·obtain⟨a,b,_⟩:=h.dir H;simp[a,b]
  ·simp[H]
 ·obtain⟨p,hp⟩:∃p,x.ptrs[k]? =some p:=⟨_,aR (by rw[h.pl];exact hk)⟩
  by_cases hne:p=0
  ·subst hne;rw[Ko hp]
   by_cases H:x.kind=2
   ·rw[bL ((h.dir H).2.2 k hp)];simp
   ·simp[H]
  ·obtain⟨a,b,c⟩:=h.pt k p hp hne;obtain⟨q,rfl⟩:∃q:Nat,p=(q:Int):=⟨p.toNat,by omega⟩;rw[Kn hp hne,bf (by omega),fu,TY h hp (by omega)];unfold bI;rw[bL b,bL c];rfl
theorem aja (O:Sat W w L) (x:aL) (h0:x.kind≠0) (hb:wB x=false):Calls Tryz.prog 76 #[.agg (inv x).toArray] w fun e w'=>e= .returned (.bool false)/\Sat W w' L:=by
 unfold wB yK at hb;obtain⟨k,sz,lk,ob,nd,ps⟩:=x;dsimp only at h0 hb;obtain⟨iv,dA⟩:=au (inv ⟨k,sz,lk,ob,nd,ps⟩);have G0:=Z (show iv[0]? =some (.int .i64 k) by rw[<-dA];rfl);have G1:=Z (show iv[1]? =some (.int .i64 sz) by rw[<-dA];rfl);have G2:=Z (show iv[2]? =some (.int .i64 lk) by rw[<-dA];rfl);have G3:=Z (show iv[3]? =some (.int .i64 ob) by rw[<-dA];rfl);have G4:=Z (show iv[4]? =some (.int .i64 nd) by rw[<-dA];rfl);rw[dA];clear dA;have e0:(k==0)=false:=dH.2 h0;obtain⟨d,hd⟩:=au (k==2);obtain⟨r1,I⟩:=au (bI k 1 2);obtain⟨r2,H⟩:=au (bI sz 0 4096);obtain⟨r3,h3⟩:=au (bI lk 0 10000);obtain⟨r4,h4⟩:=au (bI ob 1 16777215);obtain⟨r5,h5⟩:=au (bI nd 0 16777215);have HK:=Z (fun w=>sZ w k 1 2 I);have lS:=Z (fun w=>sZ w sz 0 4096 H);have lD:=Z (fun w=>sZ w lk 0 10000 h3);have lQ:=Z (fun w=>sZ w ob 1 16777215 h4);have dP:=Z (fun w=>sZ w nd 0 16777215 h5);rw[I,H,h3,h4,h5,show(k != 2)= !d by rw[<-hd];rfl] at hb
 cases r1 with
 |false=>clear hb I H h3 h4 h5 h0;cases d<;>(go_enter Tryz.func76,Tryz.ntmps76;go_wp2_with (first|(refine bV O ?_;clear O;intro px J O;rw[aS] at O)|(refine aH O aa G0.F ?_)|(refine aH O aa G1.F ?_)|(refine aH O aa G2.out ?_)|(refine aH O aa G3.F ?_)|(refine aH O aa G4.F ?_)|(go_at_call 111;refine ak (HK.F _) ?_;rintro J rfl)|(go_at_call 111;refine ak (lS.F _) ?_;rintro J rfl)|(go_at_call 111;refine ak (lD.F _) ?_;rintro J rfl)|(go_at_call 111;refine ak (lQ.F _) ?_;rintro J rfl)|(go_at_call 111;refine ak (dP.F _) ?_;rintro J rfl));go_ret;exact⟨rfl,O.drop⟩)
 |true=>
  cases r2 with
  |false=>clear hb I H h3 h4 h5 h0;cases d<;>(go_enter Tryz.func76,Tryz.ntmps76;go_wp2_with (first|(refine bV O ?_;clear O;intro px J O;rw[aS] at O)|(refine aH O aa G0.F ?_)|(refine aH O aa G1.F ?_)|(refine aH O aa G2.out ?_)|(refine aH O aa G3.F ?_)|(refine aH O aa G4.F ?_)|(go_at_call 111;refine ak (HK.F _) ?_;rintro J rfl)|(go_at_call 111;refine ak (lS.F _) ?_;rintro J rfl)|(go_at_call 111;refine ak (lD.F _) ?_;rintro J rfl)|(go_at_call 111;refine ak (lQ.F _) ?_;rintro J rfl)|(go_at_call 111;refine ak (dP.F _) ?_;rintro J rfl));go_ret;exact⟨rfl,O.drop⟩)
  |true=>
   cases r3 with
   |false=>clear hb I H h3 h4 h5 h0;cases d<;>(go_enter Tryz.func76,Tryz.ntmps76;go_wp2_with (first|(refine bV O ?_;clear O;intro px J O;rw[aS] at O)|(refine aH O aa G0.F ?_)|(refine aH O aa G1.F ?_)|(refine aH O aa G2.out ?_)|(refine aH O aa G3.F ?_)|(refine aH O aa G4.F ?_)|(go_at_call 111;refine ak (HK.F _) ?_;rintro J rfl)|(go_at_call 111;refine ak (lS.F _) ?_;rintro J rfl)|(go_at_call 111;refine ak (lD.F _) ?_;rintro J rfl)|(go_at_call 111;refine ak (lQ.F _) ?_;rintro J rfl)|(go_at_call 111;refine ak (dP.F _) ?_;rintro J rfl));go_ret;exact⟨rfl,O.drop⟩)
   |true=>
    cases r4 with
    |false=>clear hb I H h3 h4 h5 h0;cases d<;>(go_enter Tryz.func76,Tryz.ntmps76;go_wp2_with (first|(refine bV O ?_;clear O;intro px J O;rw[aS] at O)|(refine aH O aa G0.F ?_)|(refine aH O aa G1.F ?_)|(refine aH O aa G2.out ?_)|(refine aH O aa G3.F ?_)|(refine aH O aa G4.F ?_)|(go_at_call 111;refine ak (HK.F _) ?_;rintro J rfl)|(go_at_call 111;refine ak (lS.F _) ?_;rintro J rfl)|(go_at_call 111;refine ak (lD.F _) ?_;rintro J rfl)|(go_at_call 111;refine ak (lQ.F _) ?_;rintro J rfl)|(go_at_call 111;refine ak (dP.F _) ?_;rintro J rfl));go_ret;exact⟨rfl,O.drop⟩)
    |true=>
     cases r5 with
     |false=>clear hb I H h3 h4 h5 h0;cases d<;>(go_enter Tryz.func76,Tryz.ntmps76;go_wp2_with (first|(refine bV O ?_;clear O;intro px J O;rw[aS] at O)|(refine aH O aa G0.F ?_)|(refine aH O aa G1.F ?_)|(refine aH O aa G2.out ?_)|(refine aH O aa G3.F ?_)|(refine aH O aa G4.F ?_)|(go_at_call 111;refine ak (HK.F _) ?_;rintro J rfl)|(go_at_call 111;refine ak (lS.F _) ?_;rintro J rfl)|(go_at_call 111;refine ak (lD.F _) ?_;rintro J rfl)|(go_at_call 111;refine ak (lQ.F _) ?_;rintro J rfl)|(go_at_call 111;refine ak (dP.F _) ?_;rintro J rfl));go_ret;exact⟨rfl,O.drop⟩)
     |true=>
      cases d with
      |false=>simp at hb
      |true=>
       have hs0:0<=sz:=by unfold bI at H;simp at H;omega
       have hm:Int.tmod sz 128=sz % 128:=Int.tmod_eq_emod_of_nonneg hs0;obtain⟨m,hm2⟩:=au (sz % 128);rw[hm2] at hm hb
       by_cases hl1:lk=1
       ·subst hl1;have hm0:(m==0)=false:=by simpa using hb
        have hm1:(m != 0)=true:=by rw[bne,hm0];rfl
        clear hb I H h3 h4 h5 h0 hm2 hs0
        (go_enter Tryz.func76,Tryz.ntmps76;go_wp2_with (first|(refine bV O ?_;clear O;intro px J O;rw[aS] at O)|(refine aH O aa G0.F ?_)|(refine aH O aa G1.F ?_)|(refine aH O aa G2.out ?_)|(refine aH O aa G3.F ?_)|(refine aH O aa G4.F ?_)|(go_at_call 111;refine ak (HK.F _) ?_;rintro J rfl)|(go_at_call 111;refine ak (lS.F _) ?_;rintro J rfl)|(go_at_call 111;refine ak (lD.F _) ?_;rintro J rfl)|(go_at_call 111;refine ak (lQ.F _) ?_;rintro J rfl)|(go_at_call 111;refine ak (dP.F _) ?_;rintro J rfl));go_ret;exact⟨rfl,O.drop⟩)
       ·have hl2:(lk != 1)=true:=bne_iff_ne.2 hl1;clear hb I H h3 h4 h5 h0 hm2 hs0 hl1
        (go_enter Tryz.func76,Tryz.ntmps76;go_wp2_with (first|(refine bV O ?_;clear O;intro px J O;rw[aS] at O)|(refine aH O aa G0.F ?_)|(refine aH O aa G1.F ?_)|(refine aH O aa G2.out ?_)|(refine aH O aa G3.F ?_)|(refine aH O aa G4.F ?_)|(go_at_call 111;refine ak (HK.F _) ?_;rintro J rfl)|(go_at_call 111;refine ak (lS.F _) ?_;rintro J rfl)|(go_at_call 111;refine ak (lD.F _) ?_;rintro J rfl)|(go_at_call 111;refine ak (lQ.F _) ?_;rintro J rfl)|(go_at_call 111;refine ak (dP.F _) ?_;rintro J rfl));go_ret;exact⟨rfl,O.drop⟩)
def UW (W:World) (L:List aA) (x:aL) (iv:List Value) (px pb:Nat) (v60:Value) (wz:World):Prop:=
 ∃k:Nat,v60= .int .i64 (k:Int)/\k<=32/\(∀j,j<k->xE x j=true)/\Sat W wz (Cs pb 182 (mb (ko x.ptrs k))::Cs px 78 iv::L)
def Gt (v:Value):Nat:=32-(intOf v).toNat
theorem EC {i:Nat} (h:i<32):Gt (.int .i64 ((i+1:Nat):Int))<Gt (.int .i64 (i:Int)):=by
 unfold Gt;show 32-(((i+1:Nat):Int)).toNat<32-((i:Int)).toNat;rw[fu,fu];omega
theorem ED {x:aL} {k:Nat} (h:∀j,j<k->xE x j=true) (H:xE x k=true):∀j,j<k+1->xE x j=true:=fun j hj=>by
 by_cases e:j=k
 ·rw[e];exact H
 ·exact h j (by omega)
theorem aje (O:Sat W w L) (x:aL) (hl:x.ptrs.length=32) (I:x.kind=1) (hb:wB x=true):Calls Tryz.prog 76 #[.agg (inv x).toArray] w fun e w'=>e= .returned (.bool (yM x))/\Sat W w' L:=by
 have HZ:=Z (show nU Tryz.prog 182=some (some (.agg (mb fun _=>false).toArray)) by kernel_rfl);have HB:=Z (show ∀u:World,(Instr.build 182 #[]).run Tryz.prog u= .ok (.agg (mb fun _=>false).toArray) u from fun u=>run_build u _ _ _ (by kernel_rfl));have HO:=Z (Kc fun _=>false);have jg:=Z qz;obtain⟨iv,dA⟩:=au (inv x);have vM:=Z (show ∀(k:Nat) p,x.ptrs[k]? =some p->iv[5+k]? =some (.int .i64 p) from fun k p h=>by rw[<-dA];exact xA h);have eX:=Z hl;have Cy:=Z I;have G0:=Z (show iv[0]? =some (.int .i64 1) by rw[<-dA,show(inv x)[0]? =some (.int .i64 x.kind) from rfl,I]);have G1:=Z (show iv[1]? =some (.int .i64 x.size) by rw[<-dA];rfl);have G2:=Z (show iv[2]? =some (.int .i64 x.links) by rw[<-dA];rfl);have G3:=Z (show iv[3]? =some (.int .i64 x.obj) by rw[<-dA];rfl);have G4:=Z (show iv[4]? =some (.int .i64 x.node) by rw[<-dA];rfl);rw[dA];unfold wB yK at hb;rw[I] at hb;simp only[ed] at hb;have HK:=Z (fun w=>sZ w 1 1 2 hb.1.1);have lS:=Z (fun w=>sZ w x.size 0 4096 hb.1.2.1);have lD:=Z (fun w=>sZ w x.links 0 10000 hb.1.2.2.1);have lQ:=Z (fun w=>sZ w x.obj 1 16777215 hb.1.2.2.2.1);have dP:=Z (fun w=>sZ w x.node 0 16777215 hb.1.2.2.2.2)
 skip
 clear dA hb I hl;go_enter Tryz.func76,Tryz.ntmps76
 go_wp2_with (first
  |(first|(refine bV O ?_;clear O;intro px J O;rw[aS] at O)|(refine aH O aa G0.F ?_)|(refine aH O aa G1.F ?_)|(refine aH O aa G2.out ?_)|(refine aH O aa G3.F ?_)|(refine aH O aa G4.F ?_)|(go_at_call 111;refine ak (HK.F _) ?_;rintro J rfl)|(go_at_call 111;refine ak (lS.F _) ?_;rintro J rfl)|(go_at_call 111;refine ak (lD.F _) ?_;rintro J rfl)|(go_at_call 111;refine ak (lQ.F _) ?_;rintro J rfl)|(go_at_call 111;refine ak (dP.F _) ?_;rintro J rfl))
  |(refine aU ?_;refine bd _ _ (by rfl) (by simp only[List.map_toArray,jN,List.map_nil];rfl) HB.F ?_)
  |(refine dU O ?_ (hz:=HZ.F);clear O;intro pb J O;rw[aS] at O)
  |(refine kW (mb fun _=>false) O aa ?_ (hv:=HO.F) (hn:=by rw[jg.F];exact bz (by rfl)) (hb:=by rw[jg.F];exact aZ _);clear O;intro J O;rw[aD,List.take_zero,iP,oJ (by rw[jg.F];exact aZ _),kv,<-OU x.ptrs] at O))
 have H0:=Z O;clear O HZ HB HO jg HK lS lD lQ dP;go_loopw [60] (fun v60 wz=>UW W L x iv px pb v60 wz) (fun v60 _=>Gt v60)
 case atStart=>exact⟨0,rfl,by decide,fun j hj=>absurd hj (qd _),H0.F⟩
 case round=>
  clear H0;obtain⟨k,rfl,hk,hall,O⟩:=hrel;have jE:=Z hall;clear hall
  by_cases hlt:k<32
  ·have k1:(k:Int)<32:=by omega
   have ay:=Z hlt;obtain⟨p,hp⟩:∃p,x.ptrs[k]? =some p:=⟨_,aR (by rw[eX.F];exact hlt)⟩
   have GP:=Z (vM.F k p hp);obtain⟨c,hc⟩:∃c,decide (x.size<=(k:Int)*128)=c:=⟨_,rfl⟩
   by_cases h0:p=0
   ·subst h0;have HN:=Z (OQ hp);have gz:=Z (Ko hp);rw[Cy.F,hc] at gz;clear hp hlt hk;go_wp2
    (refine cB (pO [0,1,2]<|rO [3]<|pO [4]<|wO [5]<|pO [6]<|rO [7]<|pO [8,9,10]<| .e) [] O ?_;clear O;intro J O)
    repeat (first
     |(refine bG O ?_;go_frame)
     |(refine mR O ?_;go_frame;try simp(disch:=omega) only[IntWalk.i64_in])
     |(refine bR O ?_;(first|refine bK hz1 GP.F ?_|refine bK hz1 G1.F ?_);go_frame))
    refine bO ?_
    cases c
    all_goals
     go_wp2;rw[<-HN.F] at O;exact⟨⟨k+1,by go_num,ay.F,ED jE.F (gz.F.trans rfl),O⟩,EC ay.F⟩
   ·have gz:=Z (Kn hp h0);rw[hc] at gz;have e2:(p==0)=false:=dH.2 h0
    cases c with
    |true=>
     clear hp hlt hk h0;go_wp2
     (refine cB (pO [0,1,2]<|rO [3]<|pO [4]<|wO [5]<|pO [6]<|rO [7]<|pO [8,9,10]<| .e) [] O ?_;clear O;intro J O)
     repeat (first
      |(refine bG O ?_;go_frame)
      |(refine mR O ?_;go_frame;try simp(disch:=omega) only[IntWalk.i64_in])
      |(refine bR O ?_;(first|refine bK hz1 GP.F ?_|refine bK hz1 G1.F ?_);go_frame))
     refine bO ?_;go_wp2;go_ret;rw[zG ay.F (gz.F.trans rfl)];exact⟨rfl,O.drop.drop⟩
    |false=>
     obtain⟨r,hr⟩:=au (bI p 74 1023);have HI:=Z (fun w=>sZ w p 74 1023 hr);rw[hr] at gz
     cases r with
     |false=>
      clear hp hlt hk h0 hr;go_wp2
      (refine cB (pO [0,1,2]<|rO [3]<|pO [4]<|wO [5]<|pO [6]<|rO [7]<|pO [8,9,10]<| .e) [] O ?_;clear O;intro J O)
      repeat (first
       |(refine bG O ?_;go_frame)
       |(refine mR O ?_;go_frame;try simp(disch:=omega) only[IntWalk.i64_in])
       |(refine bR O ?_;(first|refine bK hz1 GP.F ?_|refine bK hz1 G1.F ?_);go_frame))
      refine bO ?_
      go_wp2_with (go_at_call 111;refine ak (HI.F _) ?_;rintro J rfl)
      go_ret;rw[zG ay.F (gz.F.trans rfl)];exact⟨rfl,O.drop.drop⟩
     |true=>
      have hr2:74<=p/\p<=1023:=by unfold bI at hr;simpa using hr
      obtain⟨q,rfl⟩:∃q:Nat,p=(q:Int):=⟨p.toNat,by omega⟩;have HN:=Z (OP hp (by omega));have HQ:=Z (xC (ko x.ptrs k) (show q<1024 by omega));have HS:=Z (yF (ko x.ptrs k) true (show q<1024 by omega));have e3:(q:Int)<1024:=by omega
      have oP:=Z (show q< (mb (ko x.ptrs k)).length by rw[qz];omega);rw[fu] at gz;obtain⟨s,hs⟩:=au (ko x.ptrs k q);rw[hs] at HQ gz;clear hp hlt hk h0 hr hr2 hs
      cases s with
      |true=>
       go_wp2
       (refine cB (pO [0,1,2]<|rO [3]<|pO [4]<|wO [5]<|pO [6]<|rO [7]<|pO [8,9,10]<| .e) [] O ?_;clear O;intro J O)
       repeat (first
        |(refine bG O ?_;go_frame)
        |(refine mR O ?_;go_frame;try simp(disch:=omega) only[IntWalk.i64_in])
        |(refine bR O ?_;(first|refine bK hz1 GP.F ?_|refine bK hz1 G1.F ?_);go_frame))
       refine bO ?_
       go_wp2_with (first
        |(go_at_call 111;refine ak (HI.F _) ?_;rintro J rfl)
        |(refine aH O aa HQ.F ?_))
       go_ret;rw[zG ay.F (gz.F.trans rfl)];exact⟨rfl,O.drop.drop⟩
      |false=>
       go_wp2
       (refine cB (pO [0,1,2]<|rO [3]<|pO [4]<|wO [5]<|pO [6]<|rO [7]<|pO [8,9,10]<| .e) [] O ?_;clear O;intro J O)
       repeat (first
        |(refine bG O ?_;go_frame)
        |(refine mR O ?_;go_frame;try simp(disch:=omega) only[IntWalk.i64_in])
        |(refine bR O ?_;(first|refine bK hz1 GP.F ?_|refine bK hz1 G1.F ?_);go_frame))
       refine bO ?_
       go_wp2_with (first
        |(go_at_call 111;refine ak (HI.F _) ?_;rintro J rfl)
        |(refine aH O aa HQ.F ?_)
        |(refine iA O aa ?_ (hb:=oP.F);clear O;intro J O;rw[aD,HS.F,HN.F] at O))
       exact⟨⟨k+1,by go_num,ay.F,ED jE.F (gz.F.trans rfl),O⟩,EC ay.F⟩
  ·obtain rfl:k=32:=by omega
   clear hlt hk;go_wp2;go_ret;rw[N9 jE.F];exact⟨rfl,O.drop.drop⟩
theorem ajc (O:Sat W w L) (x:aL) (hl:x.ptrs.length=32) (I:x.kind=2) (hb:wB x=true):Calls Tryz.prog 76 #[.agg (inv x).toArray] w fun e w'=>e= .returned (.bool (yM x))/\Sat W w' L:=by
 have HZ:=Z (show nU Tryz.prog 182=some (some (.agg (mb fun _=>false).toArray)) by kernel_rfl);have HB:=Z (show ∀u:World,(Instr.build 182 #[]).run Tryz.prog u= .ok (.agg (mb fun _=>false).toArray) u from fun u=>run_build u _ _ _ (by kernel_rfl));have HO:=Z (Kc fun _=>false);have jg:=Z qz;obtain⟨iv,dA⟩:=au (inv x);have vM:=Z (show ∀(k:Nat) p,x.ptrs[k]? =some p->iv[5+k]? =some (.int .i64 p) from fun k p h=>by rw[<-dA];exact xA h);have eX:=Z hl;have Cy:=Z I;have G0:=Z (show iv[0]? =some (.int .i64 2) by rw[<-dA,show(inv x)[0]? =some (.int .i64 x.kind) from rfl,I]);have G1:=Z (show iv[1]? =some (.int .i64 x.size) by rw[<-dA];rfl);have G2:=Z (show iv[2]? =some (.int .i64 x.links) by rw[<-dA];rfl);have G3:=Z (show iv[3]? =some (.int .i64 x.obj) by rw[<-dA];rfl);have G4:=Z (show iv[4]? =some (.int .i64 x.node) by rw[<-dA];rfl);rw[dA];unfold wB yK at hb;rw[I] at hb;simp only[ed] at hb;have HK:=Z (fun w=>sZ w 2 1 2 hb.1.1);have lS:=Z (fun w=>sZ w x.size 0 4096 hb.1.2.1);have lD:=Z (fun w=>sZ w x.links 0 10000 hb.1.2.2.1);have lQ:=Z (fun w=>sZ w x.obj 1 16777215 hb.1.2.2.2.1);have dP:=Z (fun w=>sZ w x.node 0 16777215 hb.1.2.2.2.2);have hd:=hb.2;simp at hd
 have hm:Int.tmod x.size 128=0:=by
  have H:=hb.1.2.1;unfold bI at H;simp at H;rw[Int.tmod_eq_emod_of_nonneg (by omega)];exact hd.2
 rw[hd.1] at G2 lD;clear hd;clear dA hb I hl;go_enter Tryz.func76,Tryz.ntmps76
 go_wp2_with (first
  |(first|(refine bV O ?_;clear O;intro px J O;rw[aS] at O)|(refine aH O aa G0.F ?_)|(refine aH O aa G1.F ?_)|(refine aH O aa G2.out ?_)|(refine aH O aa G3.F ?_)|(refine aH O aa G4.F ?_)|(go_at_call 111;refine ak (HK.F _) ?_;rintro J rfl)|(go_at_call 111;refine ak (lS.F _) ?_;rintro J rfl)|(go_at_call 111;refine ak (lD.F _) ?_;rintro J rfl)|(go_at_call 111;refine ak (lQ.F _) ?_;rintro J rfl)|(go_at_call 111;refine ak (dP.F _) ?_;rintro J rfl))
  |(refine aU ?_;refine bd _ _ (by rfl) (by simp only[List.map_toArray,jN,List.map_nil];rfl) HB.F ?_)
  |(refine dU O ?_ (hz:=HZ.F);clear O;intro pb J O;rw[aS] at O)
  |(refine kW (mb fun _=>false) O aa ?_ (hv:=HO.F) (hn:=by rw[jg.F];exact bz (by rfl)) (hb:=by rw[jg.F];exact aZ _);clear O;intro J O;rw[aD,List.take_zero,iP,oJ (by rw[jg.F];exact aZ _),kv,<-OU x.ptrs] at O))
 have H0:=Z O;clear O HZ HB HO jg HK lS lD lQ dP;go_loopw [60] (fun v60 wz=>UW W L x iv px pb v60 wz) (fun v60 _=>Gt v60)
 case atStart=>exact⟨0,rfl,by decide,fun j hj=>absurd hj (qd _),H0.F⟩
 case round=>
  clear H0;obtain⟨k,rfl,hk,hall,O⟩:=hrel;have jE:=Z hall;clear hall
  by_cases hlt:k<32
  ·have k1:(k:Int)<32:=by omega
   have ay:=Z hlt;obtain⟨p,hp⟩:∃p,x.ptrs[k]? =some p:=⟨_,aR (by rw[eX.F];exact hlt)⟩
   have GP:=Z (vM.F k p hp);obtain⟨c,hc⟩:∃c,decide (x.size<=(k:Int)*128)=c:=⟨_,rfl⟩
   by_cases h0:p=0
   ·subst h0;have HN:=Z (OQ hp);have gz:=Z (Ko hp);rw[Cy.F,hc] at gz;clear hp hlt hk
    cases c with
    |false=>
     go_wp2
     (refine cB (pO [0,1,2]<|rO [3]<|pO [4]<|wO [5]<|pO [6]<|rO [7]<|pO [8,9,10]<| .e) [] O ?_;clear O;intro J O)
     repeat (first
      |(refine bG O ?_;go_frame)
      |(refine mR O ?_;go_frame;try simp(disch:=omega) only[IntWalk.i64_in])
      |(refine bR O ?_;(first|refine bK hz1 GP.F ?_|refine bK hz1 G1.F ?_);go_frame))
     refine bO ?_;go_wp2;go_ret;rw[zG ay.F (gz.F.trans rfl)];exact⟨rfl,O.drop.drop⟩
    |true=>
     go_wp2
     (refine cB (pO [0,1,2]<|rO [3]<|pO [4]<|wO [5]<|pO [6]<|rO [7]<|pO [8,9,10]<| .e) [] O ?_;clear O;intro J O)
     repeat (first
      |(refine bG O ?_;go_frame)
      |(refine mR O ?_;go_frame;try simp(disch:=omega) only[IntWalk.i64_in])
      |(refine bR O ?_;(first|refine bK hz1 GP.F ?_|refine bK hz1 G1.F ?_);go_frame))
     refine bO ?_;go_wp2;rw[<-HN.F] at O;exact⟨⟨k+1,by go_num,ay.F,ED jE.F (gz.F.trans rfl),O⟩,EC ay.F⟩
   ·have gz:=Z (Kn hp h0);rw[hc] at gz;have e2:(p==0)=false:=dH.2 h0
    cases c with
    |true=>
     clear hp hlt hk h0;go_wp2
     (refine cB (pO [0,1,2]<|rO [3]<|pO [4]<|wO [5]<|pO [6]<|rO [7]<|pO [8,9,10]<| .e) [] O ?_;clear O;intro J O)
     repeat (first
      |(refine bG O ?_;go_frame)
      |(refine mR O ?_;go_frame;try simp(disch:=omega) only[IntWalk.i64_in])
      |(refine bR O ?_;(first|refine bK hz1 GP.F ?_|refine bK hz1 G1.F ?_);go_frame))
     refine bO ?_;go_wp2;go_ret;rw[zG ay.F (gz.F.trans rfl)];exact⟨rfl,O.drop.drop⟩
    |false=>
     obtain⟨r,hr⟩:=au (bI p 74 1023);have HI:=Z (fun w=>sZ w p 74 1023 hr);rw[hr] at gz
     cases r with
     |false=>
      clear hp hlt hk h0 hr;go_wp2
      (refine cB (pO [0,1,2]<|rO [3]<|pO [4]<|wO [5]<|pO [6]<|rO [7]<|pO [8,9,10]<| .e) [] O ?_;clear O;intro J O)
      repeat (first
       |(refine bG O ?_;go_frame)
       |(refine mR O ?_;go_frame;try simp(disch:=omega) only[IntWalk.i64_in])
       |(refine bR O ?_;(first|refine bK hz1 GP.F ?_|refine bK hz1 G1.F ?_);go_frame))
      refine bO ?_
      go_wp2_with (go_at_call 111;refine ak (HI.F _) ?_;rintro J rfl)
      go_ret;rw[zG ay.F (gz.F.trans rfl)];exact⟨rfl,O.drop.drop⟩
     |true=>
      have hr2:74<=p/\p<=1023:=by unfold bI at hr;simpa using hr
      obtain⟨q,rfl⟩:∃q:Nat,p=(q:Int):=⟨p.toNat,by omega⟩;have HN:=Z (OP hp (by omega));have HQ:=Z (xC (ko x.ptrs k) (show q<1024 by omega));have HS:=Z (yF (ko x.ptrs k) true (show q<1024 by omega));have e3:(q:Int)<1024:=by omega
      have oP:=Z (show q< (mb (ko x.ptrs k)).length by rw[qz];omega);rw[fu] at gz;obtain⟨s,hs⟩:=au (ko x.ptrs k q);rw[hs] at HQ gz;clear hp hlt hk h0 hr hr2 hs
      cases s with
      |true=>
       go_wp2
       (refine cB (pO [0,1,2]<|rO [3]<|pO [4]<|wO [5]<|pO [6]<|rO [7]<|pO [8,9,10]<| .e) [] O ?_;clear O;intro J O)
       repeat (first
        |(refine bG O ?_;go_frame)
        |(refine mR O ?_;go_frame;try simp(disch:=omega) only[IntWalk.i64_in])
        |(refine bR O ?_;(first|refine bK hz1 GP.F ?_|refine bK hz1 G1.F ?_);go_frame))
       refine bO ?_
       go_wp2_with (first
        |(go_at_call 111;refine ak (HI.F _) ?_;rintro J rfl)
        |(refine aH O aa HQ.F ?_))
       go_ret;rw[zG ay.F (gz.F.trans rfl)];exact⟨rfl,O.drop.drop⟩
      |false=>
       go_wp2
       (refine cB (pO [0,1,2]<|rO [3]<|pO [4]<|wO [5]<|pO [6]<|rO [7]<|pO [8,9,10]<| .e) [] O ?_;clear O;intro J O)
       repeat (first
        |(refine bG O ?_;go_frame)
        |(refine mR O ?_;go_frame;try simp(disch:=omega) only[IntWalk.i64_in])
        |(refine bR O ?_;(first|refine bK hz1 GP.F ?_|refine bK hz1 G1.F ?_);go_frame))
       refine bO ?_
       go_wp2_with (first
        |(go_at_call 111;refine ak (HI.F _) ?_;rintro J rfl)
        |(refine aH O aa HQ.F ?_)
        |(refine iA O aa ?_ (hb:=oP.F);clear O;intro J O;rw[aD,HS.F,HN.F] at O))
       exact⟨⟨k+1,by go_num,ay.F,ED jE.F (gz.F.trans rfl),O⟩,EC ay.F⟩
  ·obtain rfl:k=32:=by omega
   clear hlt hk;go_wp2;go_ret;rw[N9 jE.F];exact⟨rfl,O.drop.drop⟩
theorem ajf (O:Sat W w L) (x:aL) (hl:x.ptrs.length=32) (hz:x.kind=0->x=bC):Calls Tryz.prog 76 #[.agg (inv x).toArray] w fun e w'=>e= .returned (.bool (yL x))/\Sat W w' L:=by
 by_cases h0:x.kind=0
 ·rw[hz h0];exact ZC O
 have hk0:(x.kind==0)=false:=dH.2 h0;unfold yL;rw[hk0,Bool.false_or]
 cases hb:wB x with
 |false=>exact aja O x h0 hb
 |true=>
  rw[Bool.true_and]
  by_cases I:x.kind=1
  ·exact aje O x hl I hb
  ·refine ajc O x hl ?_ hb;unfold wB yK bI at hb;simp only[ed,decide_eq_true_eq] at hb;omega
def Ah (z:Int):Int:=if z<=0 then 0 else(z-1).tdiv 128+1
theorem agE (w:World) (z:Int) (I: -9223372036854775808<=z) (H:z<=9223372036854775807):
  Calls Tryz.prog 109 #[.int .i64 z] w fun e w'=>e= .returned (.int .i64 (Ah z))/\w=w':=by
 unfold Ah
 by_cases h:z<=0
 ·rw[if_pos h];go_enter Tryz.func109,Tryz.ntmps109;go_wp2;go_ret;exact⟨rfl,rfl⟩
 ·rw[if_neg h];have h3:0<=(z-1).tdiv 128:=Int.tdiv_nonneg (by omega) (by decide)
  have h4:(z-1).tdiv 128<=z-1:=by
   rw[Int.tdiv_eq_ediv_of_nonneg (by omega)];omega
  go_enter Tryz.func109,Tryz.ntmps109;go_wp2;go_ret;exact⟨rfl,rfl⟩
def sI (now:aL):Int:=if now.kind=0 then 0 else Ah now.size
def Av (now:aL):aL:=if now.kind=0 then bC else now
def BS (old now:aL) (k:Nat):Bool:=decide ((k:Int)<sI now)&&(old.kind != 0&&old.obj==(Av now).obj)
def ny (old now:aL) (k:Nat):Int:=if BS old now k then old.ptrs[k]?.getD 0 else 0
def kS (old now:aL) (n:Nat):List Int:=(List.range n).map (ny old now)++List.replicate (32-n) 0
def nT (x:aL) (l:List Int):aL:= {x with ptrs:=l}
def wD (l:List Int):Nat->Int
 |0=> -1
 |i+1=>l[i]?.getD 0
def tH (b:Int) (l:List Int) (i:Nat):Bool:= !decide (l[i]?.getD 0<=wD l i)&&(!decide (b<=l[i]?.getD 0)&& !decide (32<=l[i]?.getD 0))
def tF (b:Int) (l:List Int):Bool:=(List.range l.length).all (tH b l)
def kU (K:List Int) (l:List Int) (t:List Nat):Nat->List Int
 |0=>K
 |i+1=>(kU K l t i).set (l[i]?.getD 0).toNat ((t[i]?.getD 0:Nat):Int)
def jF (old now:aL) (pieces:List Int) (taken:List Nat):aL:=nT (Av now) (kU (kS old now 32) pieces taken pieces.length)
def nu (old x:aL) (n:Nat):List Nat:=((old.ptrs.take n).filter (fun p=>decide (p≠0)&& !x.ptrs.contains p)).map Int.toNat
def lX (old now:aL) (pieces:List Int) (taken:List Nat):Bool:=decide (pieces.length=taken.length)&&(tF (sI now) pieces&&yL (jF old now pieces taken))
theorem Ih (old now:aL) {n:Nat} (h:n<=32):(kS old now n).length=32:=by
 unfold kS;rw[bP,qa,List.length_range,kZ];omega
theorem aaN (old now:aL) {k:Nat} (h:k<32):(kS old now k).set k (ny old now k)=kS old now (k+1):=by
 unfold kS;rw[List.set_append_right _ _ (by simp),qa,List.length_range,Nat.sub_self,show 32-k=(32-(k+1))+1 by omega,List.replicate_succ,aD,List.range_succ,lC,dX];rfl
theorem Tf (old now:aL) {k:Nat} (h:k<32) (H:ny old now k=0):kS old now k=kS old now (k+1):=by
 unfold kS;rw[show 32-k=(32-(k+1))+1 by omega,List.replicate_succ,List.range_succ,lC,dX,jN,List.map_nil,H];rfl
theorem aaO (old now:aL):kS old now 0=List.replicate 32 0:=rfl
theorem KF (K:List Int) (l:List Int) (t:List Nat):∀i,(kU K l t i).length=K.length
 |0=>rfl
 |i+1=>by rw[kU,gV,KF K l t i]
theorem SC (x:aL) (l:List Int):inv (nT x l)=[.int .i64 x.kind, .int .i64 x.size, .int .i64 x.links, .int .i64 x.obj, .int .i64 x.node]++pv l:=rfl
theorem Nz (x:aL) (l:List Int) (k:Nat) (p:Int):(inv (nT x l)).set (5+k) (.int .i64 p)=inv (nT x (l.set k p)):=by
 rw[SC,SC,List.set_append_right _ _ (by simp)];rw[show 5+k - [Value.int .i64 x.kind, .int .i64 x.size, .int .i64 x.links, .int .i64 x.obj, .int .i64 x.node].length=k by simp];unfold pv;rw[List.map_set]
theorem ZH (x:aL) (l:List Int) (h:x.ptrs.length=32) (hl:l.length=32):(inv x).take 5++pv l++(inv x).drop (5+(pv l).length)=inv (nT x l):=by
 rw[SC,oJ (by rw[fe,zI,h,hl];exact aZ _),kv];rfl
theorem Oh {b:Int} {l:List Int} :∀ {i:Nat},(∀j,j<i->tH b l j=true)-> -1<=wD l i
 |0,_=>Int.le_refl _
 |i+1,h=>by
  have I:=Oh (i:=i) (fun j hj=>h j (by omega));have H:=h i (by omega);unfold tH at H;simp at H;show -1<=l[i]?.getD 0
  omega
theorem abj {b:Int} {l:List Int} {k:Nat} (h:∀j,j<k->tH b l j=true) (H:tH b l k=true):∀j,j<k+1->tH b l j=true:=fun j hj=>by
 by_cases e:j=k
 ·rw[e];exact H
 ·exact h j (by omega)
theorem Og {b:Int} {l:List Int} {k:Nat} (hk:k<l.length) (h:tH b l k=false):tF b l=false:=by
 unfold tF;rw[List.all_eq_false];exact⟨k,jD.2 hk,by rw[h];decide⟩
theorem abh {b:Int} {l:List Int} (h:∀k,k<l.length->tH b l k=true):tF b l=true:=by
 unfold tF;rw[jV];exact fun k hk=>h k (jD.1 hk)
def tJ (l:List Int) (k:Nat) (p:Nat):Bool:=(l.take k).contains (p:Int)
theorem aca (l:List Int):tJ l 0=fun _=>false:=by funext p;simp[tJ]
theorem ab9 {l:List Int} {k p:Nat} (h:l[k]? =some (p:Int)):upd (tJ l k) p true=tJ l (k+1):=by
 funext q;unfold upd tJ;rw[ik,h]
 by_cases hq:q=p
 ·subst hq;simp
 ·have:¬(q:Int)=(p:Int):=by omega
  simp[hq,this]
theorem ab8 {l:List Int} {n:Nat} (h:l.length=n) (p:Nat):tJ l n p=l.contains (p:Int):=by
 unfold tJ;rw[dF (by omega)]
theorem YM (old x:aL):nu old x 0=[]:=by simp[nu]
theorem YK {old x:aL} {k:Nat} (h:old.ptrs[k]? =some 0):nu old x k=nu old x (k+1):=by
 unfold nu;rw[ik,h];simp
theorem YJ {old x:aL} {k:Nat} {p:Int} (h:old.ptrs[k]? =some p) (H:x.ptrs.contains p=true):nu old x k=nu old x (k+1):=by
 unfold nu;rw[ik,h];rw[Option.toList_some,List.filter_append,List.filter_cons,H];simp
theorem YL {old x:aL} {k p:Nat} (h:old.ptrs[k]? =some (p:Int)) (h0:p≠0) (H:x.ptrs.contains (p:Int)=false):nu old x k++[p]=nu old x (k+1):=by
 unfold nu;rw[ik,h];rw[Option.toList_some,List.filter_append,List.filter_cons,H,if_pos (by simp;omega)];simp
theorem Dp {old now:aL} {pieces:List Int} {taken:List Nat} :(jF old now pieces taken).ptrs.length=32:=by
 show(kU _ _ _ _).length=32;rw[KF,Ih _ _ (aZ _)]
theorem Km {old now:aL} {pieces:List Int} {taken:List Nat} (hp:tF (sI now) pieces=true) (h:(jF old now pieces taken).kind=0):jF old now pieces taken=bC:=by
 have hk:now.kind=0:=by
  by_cases hk:now.kind=0
  ·exact hk
  ·unfold jF Av at h;rw[if_neg hk] at h;exact absurd h hk
 have hb:sI now=0:=if_pos hk
 have hl:pieces=[]:=by
  cases pieces with
  |nil=>rfl
  |cons p l=>
   unfold tF at hp;have:=jV.1 hp 0 (jD.2 (by simp));unfold tH wD at this;rw[hb] at this;simp at this;omega
 subst hl;unfold jF Av;rw[if_pos hk];show nT bC (kS old now 32)=bC
 have:kS old now 32=List.replicate 32 0:=by
  have I:∀k,ny old now k=0:=fun k=>by
   unfold ny BS;rw[hb,bf (by omega)];rfl
  apply List.ext_getElem?;intro i;unfold kS;rw[Nat.sub_self,List.replicate_zero,kv,kY,List.getElem?_replicate]
  by_cases hi:i<32
  ·rw[List.getElem?_range hi,if_pos hi,Option.map_some,I]
  ·rw[qE (by rw[List.length_range];omega),if_neg hi];rfl
 rw[this];rfl
end Go.Proofs.YtjbiihbicknemaaGreat
