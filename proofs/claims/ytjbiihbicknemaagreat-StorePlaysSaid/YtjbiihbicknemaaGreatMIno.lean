/-
  Part of the proof of StoreWhole.
-/
import Derived.Test.YtjbiihbicknemaaGreatMSpn
import Derived.Test.YtjbiihbicknemaaGreatMRpt
import Derived.Laws.PanicsMore
set_option linter.unusedSimpArgs false
set_option linter.unusedVariables false
set_option maxRecDepth 20000
set_option maxHeartbeats 40000000
namespace Go.Proofs.YtjbiihbicknemaaGreat
open Go.RowKit Go.Sep
variable {W w:World} {L:List aA}
structure aL where
 kind:Int
 size:Int
 links:Int
 obj:Int
 node:Int
 ptrs:List Int
def pv (l:List Int):List Value:=l.map (Value.int .i64)
def inv (x:aL):List Value:=[.int .i64 x.kind, .int .i64 x.size, .int .i64 x.links, .int .i64 x.obj, .int .i64 x.node]++pv x.ptrs
def bC:aL:=⟨0,0,0,0,0,List.replicate 32 0⟩
theorem zI (l:List Int):(pv l).length=l.length:=qa ..
theorem fe (x:aL):(inv x).length=5+x.ptrs.length:=by unfold inv;rw[bP,zI];rfl
theorem Oj (l:List Int):∀u∈pv l,u.oneCell'=true:=by
 intro u hu;obtain⟨x,_,rfl⟩:=rQ.1 hu;rfl
theorem inv_one (x:aL):∀u∈inv x,u.oneCell'=true:=by
 intro u hu
 rcases gy.1 hu with h|h
 ·simp only[oK,nE,or_false] at h
  rcases h with rfl|rfl|rfl|rfl|rfl<;>rfl
 ·exact Oj _ u h
theorem xA {x:aL} {k:Nat} {p:Int} (h:x.ptrs[k]? =some p):(inv x)[5+k]? =some (.int .i64 p):=by
 unfold inv;rw[rP (by simp)];simp[pv,h]
structure kD (x:aL):Prop where
 pl:x.ptrs.length=32
 zero:x.kind=0->x=bC
 kd:0<=x.kind/\x.kind<=2
 sz:0<=x.size/\x.size<=4096
 lk:0<=x.links/\x.links<=10000
 ob:0<=x.obj/\x.obj<=16777215
 Dr:x.kind≠0->1<=x.obj
 nd:0<=x.node/\x.node<=16777215
 dir:x.kind=2->x.links=1/\x.size % 128=0/\∀k:Nat,x.ptrs[k]? =some 0->x.size<=(k:Int)*128
 pt:∀(k:Nat) p,x.ptrs[k]? =some p->p≠0->(k:Int)*128<x.size/\74<=p/\p<=1023
 Dj:∀(j k:Nat) p,j<k->x.ptrs[j]? =some p->x.ptrs[k]? =some p->p=0
theorem Dt:kD bC where
 pl:=rfl
 zero _:=rfl
 kd:=by decide
 sz:=by decide
 lk:=by decide
 ob:=by decide
 Dr h:=absurd rfl h
 nd:=by decide
 dir h:=absurd h (by decide)
 pt k p h hp:=by
  have:=bJ h;exact absurd (List.eq_of_mem_replicate this) hp
 Dj j k p _ h _:=List.eq_of_mem_replicate (bJ h)
def ko (l:List Int) (k:Nat) (p:Nat):Bool:=decide (p≠0)&&(l.take k).contains (p:Int)
theorem OU (l:List Int):ko l 0=fun _=>false:=by
 funext p;simp[ko]
theorem OQ {l:List Int} {k:Nat} (h:l[k]? =some 0):ko l (k+1)=ko l k:=by
 funext p;unfold ko;rw[ik,h]
 by_cases hp:p=0
 ·subst hp;rfl
 ·have:¬(p:Int)=0:=by omega
  simp[hp]
theorem OP {l:List Int} {k p:Nat} (h:l[k]? =some (p:Int)) (hp:p≠0):upd (ko l k) p true=ko l (k+1):=by
 funext q;unfold upd ko;rw[ik,h]
 by_cases hq:q=p
 ·subst hq;simp[hp]
 ·have:¬(q:Int)=(p:Int):=by omega
  simp[hq,this]
theorem TY {x:aL} (V:kD x) {k p:Nat} (h:x.ptrs[k]? =some (p:Int)) (hp:p≠0):ko x.ptrs k p=false:=by
 unfold ko;rw[Bool.and_eq_false_iff];right;rw[<-Bool.not_eq_true];intro H;rw[List.contains_iff_mem] at H;obtain⟨j,hj⟩:=jJ H
 have hjk:j<k:=by
  have:=(bZ.1 hj).1;simp at this;omega
 rw[List.getElem?_take_of_lt hjk] at hj;have:=V.Dj j k _ hjk hj h;omega
def mb (S:Nat->Bool):List Value:=(List.range 1024).map fun i=>Value.bool (S i)
theorem qz (S:Nat->Bool):(mb S).length=1024:=by unfold mb;rw[qa,List.length_range]
theorem Kc (S:Nat->Bool):∀u∈mb S,u.oneCell'=true:=by
 intro u hu;obtain⟨x,_,rfl⟩:=rQ.1 hu;rfl
theorem xC (S:Nat->Bool) {n:Nat} (h:n<1024):(mb S)[n]? =some (.bool (S n)):=by
 unfold mb;rw[kY,List.getElem?_range h];rfl
theorem yF (S:Nat->Bool) {n:Nat} (u:Bool) (h:n<1024):(mb S).set n (.bool u)=mb (upd S n u):=by
 apply List.ext_getElem?;intro i;rw[yX]
 by_cases e:n=i
 ·subst e;rw[if_pos rfl,if_pos (by rw[qz];exact h),xC _ h];simp[upd]
 ·rw[if_neg e]
  by_cases hi:i<1024
  ·rw[xC _ hi,xC _ hi];simp[upd,Ne.symm e]
  ·rw[qE (by rw[qz];omega),qE (by rw[qz];omega)]
def encI (x:aL):List UInt8:=rG (le x.kind 1++le x.size 2++le x.links 2++le x.obj 3++le x.node 3++x.ptrs.flatMap (le · 2)) 128
attribute [local irreducible] Oper.wp wpList Calls Code.wp Sep.dR
theorem Ny {l:List Int} {j:Nat} {p:Int} (hj:j<32) (h:l[j]? =some p) (w:World):(Instr.index 76 (.agg (pv l).toArray) (.int .i64 (j:Int))).run Tryz.prog w= .ok (.int .i64 p) w:=by
 have hu:Tryz.prog.underlying 76=some (.array 32 3):=Tryz.underlying76;have hn:(0:Int)<=(j:Int)/\(j:Int)< ((32:Nat):Int):=by omega
 have hp:(pv l)[j]? =some (.int .i64 p):=by simp[pv,h]
 simp[Instr.index,run_underlying hu,asIntOf,hn,go_sem];rw[if_pos hj,hp];simp[go_sem]
attribute [local irreducible] Sep.fJ
theorem yB (w:World) (v a b:Int) (h:a<=v/\v<=b):
  Calls Tryz.prog 111 #[.int .i64 v, .int .i64 a, .int .i64 b] w fun e w'=>e= .returned (.bool true)/\w=w':=by
 obtain⟨I,H⟩:=h;go_enter Tryz.func111,Tryz.ntmps111;go_wp2;go_ret;exact⟨rfl,rfl⟩
theorem ZC (O:Sat W w L):Calls Tryz.prog 76 #[.agg (inv bC).toArray] w fun e w'=>e= .returned (.bool true)/\Sat W w' L:=by
 have hbd:∀u:World,(Instr.build 78 #[]).run Tryz.prog u= .ok (.agg (inv bC).toArray) u:=fun u=>by kernel_rfl
 have heq:∀u:World,(binOp .eql 78 (.agg (inv bC).toArray) (.agg #[.int .i64 0, .int .i64 0, .int .i64 0, .int .i64 0, .int .i64 0, .int .i64 0, .int .i64 0, .int .i64 0, .int .i64 0, .int .i64 0, .int .i64 0, .int .i64 0, .int .i64 0, .int .i64 0, .int .i64 0, .int .i64 0, .int .i64 0, .int .i64 0, .int .i64 0, .int .i64 0, .int .i64 0, .int .i64 0, .int .i64 0, .int .i64 0, .int .i64 0, .int .i64 0, .int .i64 0, .int .i64 0, .int .i64 0, .int .i64 0, .int .i64 0, .int .i64 0, .int .i64 0, .int .i64 0, .int .i64 0, .int .i64 0, .int .i64 0])).run Tryz.prog u= .ok (.bool true) u:=fun u=>by kernel_rfl
 go_enter Tryz.func76,Tryz.ntmps76
 go_wp2_with (first
  |(refine bV O ?_;clear O;intro pb J O;rw[aS] at O)
  |(refine bB O ?_)
  |(refine aU ?_;refine rE O _ _ (by rfl) _ _ (by rfl) (aI (by rfl)) (bz (by rfl)) aa (by decide) ?_;rw[show((inv bC).drop 0).take 37=inv bC from rfl]))
 go_ret;exact⟨rfl,O.drop⟩
def UX (W:World) (L:List aA) (x:aL) (px pb:Nat) (v60:Value) (wz:World):Prop:=
 ∃k:Nat,v60= .int .i64 (k:Int)/\k<=32/\Sat W wz (Cs pb 182 (mb (ko x.ptrs k))::Cs px 78 (inv x)::L)
theorem ajd (O:Sat W w L) (x:aL) (V:kD x) (I:x.kind=1):Calls Tryz.prog 76 #[.agg (inv x).toArray] w fun e w'=>e= .returned (.bool true)/\Sat W w' L:=by
 have HZ:=Z (show nU Tryz.prog 182=some (some (.agg (mb fun _=>false).toArray)) by kernel_rfl);have HB:=Z (show ∀u:World,(Instr.build 182 #[]).run Tryz.prog u= .ok (.agg (mb fun _=>false).toArray) u from fun u=>run_build u _ _ _ (by kernel_rfl));have HO:=Z (Kc fun _=>false);have jg:=Z qz;have HK:=Z (fun w=>yB w x.kind 1 2 (by omega));have lS:=Z (fun w=>yB w x.size 0 4096 V.sz);have lD:=Z (fun w=>yB w x.links 0 10000 V.lk);have lQ:=Z (fun w=>yB w x.obj 1 16777215 ⟨V.Dr (by omega),V.ob.2⟩);have dP:=Z (fun w=>yB w x.node 0 16777215 V.nd);obtain⟨z,hz⟩:∃z:Int,x.kind=z:=⟨_,rfl⟩;rw[hz] at HK I;have HX:=Z V;have tY:=Z (fe x);have g0:(inv x)[0]? =some (.int .i64 1):=by rw[show(inv x)[0]? =some (.int .i64 x.kind) from rfl,hz,I]
 have g1:(inv x)[1]? =some (.int .i64 x.size):=rfl
 have g2:(inv x)[2]? =some (.int .i64 x.links):=rfl
 have g3:(inv x)[3]? =some (.int .i64 x.obj):=rfl
 have g4:(inv x)[4]? =some (.int .i64 x.node):=rfl
 rw[I] at HK;have G0:=Z g0;have G1:=Z g1;have G2:=Z g2;have G3:=Z g3;have G4:=Z g4;clear V g0 g1 g2 g3 g4 hz I;obtain⟨iv,dA⟩:=au (inv x);rw[dA] at G0 G1 G2 G3 G4 tY ⊢;go_enter Tryz.func76,Tryz.ntmps76
 go_wp2_with (first
  |(refine bV O ?_;clear O;intro px J O;rw[aS] at O)
  |(refine aH O aa G0.F ?_)
  |(refine aH O aa G1.F ?_)
  |(refine aH O aa G2.out ?_)
  |(refine aH O aa G3.F ?_)
  |(refine aH O aa G4.F ?_)
  |(go_at_call 111;refine ak (HK.F _) ?_;rintro J rfl)
  |(go_at_call 111;refine ak (lS.F _) ?_;rintro J rfl)
  |(go_at_call 111;refine ak (lD.F _) ?_;rintro J rfl)
  |(go_at_call 111;refine ak (lQ.F _) ?_;rintro J rfl)
  |(go_at_call 111;refine ak (dP.F _) ?_;rintro J rfl)
  |(refine aU ?_;refine bd _ _ (by rfl) (by simp only[List.map_toArray,jN,List.map_nil];rfl) HB.F ?_)
  |(refine dU O ?_ (hz:=HZ.F);clear O;intro pb J O;rw[aS] at O)
  |(refine kW (mb fun _=>false) O aa ?_ (hv:=HO.F) (hn:=by rw[jg.F];exact bz (by rfl)) (hb:=by rw[jg.F];exact aZ _);clear O;intro J O;rw[aD,List.take_zero,iP,oJ (by rw[jg.F];exact aZ _),kv,<-OU x.ptrs] at O))
 have H0:=Z O;clear O HZ HB HO jg HK lS lD lQ dP;go_loopw [60] (fun v60 wz=>UX W L x px pb v60 wz) (fun v60 _=>32-(intOf v60).toNat)
 case atStart=>exact⟨0,rfl,by decide,by rw[dA];exact H0.F⟩
 case round=>
  clear H0;obtain⟨k,rfl,hk,O⟩:=hrel;rw[dA] at O
  by_cases hlt:k<32
  ·have k1:(k:Int)<32:=by omega
   have ay:=Z hlt;obtain⟨p,hp⟩:∃p,x.ptrs[k]? =some p:=⟨_,aR (by have:=HX.F.pl;omega)⟩
   have GP:=Z (xA hp);rw[dA] at GP
   by_cases h0:p=0
   ·subst h0;have HN:=Z (OQ hp);clear hp hlt hk;go_wp2
    (refine cB (pO [0,1,2]<|rO [3]<|pO [4]<|wO [5]<|pO [6]<|rO [7]<|pO [8,9,10]<| .e) [] O ?_;clear O;intro J O)
    repeat (first
     |(refine bG O ?_;go_frame)
     |(refine mR O ?_;go_frame;try simp(disch:=omega) only[IntWalk.i64_in])
     |(refine bR O ?_;(first|refine bK hz1 GP.F ?_|refine bK hz1 G1.F ?_);go_frame))
    refine bO ?_;go_wp2;rw[<-HN.F] at O;exact⟨⟨k+1,by go_num,ay.F,by rw[dA];exact O⟩,by have:=ay.F;simp[intOf];omega⟩
   ·have hpt:=HX.F.pt k p hp h0;obtain⟨q,rfl⟩:∃q:Nat,p=(q:Int):=⟨p.toNat,by omega⟩;have HN:=Z (OP hp (by omega));have CG:=Z (TY HX.F hp (by omega));have HQ:=Z (xC (ko x.ptrs k) (show q<1024 by omega));rw[CG.F] at HQ;have HS:=Z (yF (ko x.ptrs k) true (show q<1024 by omega));have HI:=Z (fun w=>yB w (q:Int) 74 1023 (by omega));have e1:decide (x.size<=(k:Int)*128)=false:=bf (by omega);have e2:((q:Int)==0)=false:=dH.2 h0;have e3:(q:Int)<1024:=by omega
    have oP:=Z (show q< (mb (ko x.ptrs k)).length by rw[qz];omega);clear hp hlt hk hpt h0;go_wp2
    (refine cB (pO [0,1,2]<|rO [3]<|pO [4]<|wO [5]<|pO [6]<|rO [7]<|pO [8,9,10]<| .e) [] O ?_;clear O;intro J O)
    repeat (first
     |(refine bG O ?_;go_frame)
     |(refine mR O ?_;go_frame;try simp(disch:=omega) only[IntWalk.i64_in])
     |(refine bR O ?_;(first|refine bK hz1 GP.F ?_|refine bK hz1 G1.F ?_);go_frame))
    refine bO ?_
    go_wp2_with (first
     |(go_at_call 111;refine ak (HI.F _) ?_;rintro J rfl)
     |(refine aH O aa HQ.F ?_)
     |(refine iA O aa ?_ (hb:=oP.F);clear O;intro J O;rw[aD,HS.F,HN.F] at O))
    exact⟨⟨k+1,by go_num,ay.F,by rw[dA];exact O⟩,by have:=ay.F;simp[intOf];omega⟩
  ·obtain rfl:k=32:=by omega
   clear hlt hk;go_wp2;go_ret;exact⟨rfl,O.drop.drop⟩
theorem ajb (O:Sat W w L) (x:aL) (V:kD x) (I:x.kind=2):Calls Tryz.prog 76 #[.agg (inv x).toArray] w fun e w'=>e= .returned (.bool true)/\Sat W w' L:=by
 have HZ:=Z (show nU Tryz.prog 182=some (some (.agg (mb fun _=>false).toArray)) by kernel_rfl);have HB:=Z (show ∀u:World,(Instr.build 182 #[]).run Tryz.prog u= .ok (.agg (mb fun _=>false).toArray) u from fun u=>run_build u _ _ _ (by kernel_rfl));have HO:=Z (Kc fun _=>false);have jg:=Z qz;have HK:=Z (fun w=>yB w x.kind 1 2 (by omega));have lS:=Z (fun w=>yB w x.size 0 4096 V.sz);obtain⟨hd1,hd2,hd3⟩:=V.dir I;have lD:=Z (fun w=>yB w 1 0 10000 (by omega));have hm:Int.tmod x.size 128=0:=by rw[Int.tmod_eq_emod_of_nonneg V.sz.1];exact hd2
 have HD3:=Z hd3;have lQ:=Z (fun w=>yB w x.obj 1 16777215 ⟨V.Dr (by omega),V.ob.2⟩);have dP:=Z (fun w=>yB w x.node 0 16777215 V.nd);obtain⟨z,hz⟩:∃z:Int,x.kind=z:=⟨_,rfl⟩;rw[hz] at HK I;have HX:=Z V;have tY:=Z (fe x);have g0:(inv x)[0]? =some (.int .i64 2):=by rw[show(inv x)[0]? =some (.int .i64 x.kind) from rfl,hz,I]
 have g1:(inv x)[1]? =some (.int .i64 x.size):=rfl
 have g2:(inv x)[2]? =some (.int .i64 1):=by rw[show(inv x)[2]? =some (.int .i64 x.links) from rfl,hd1]
 have g3:(inv x)[3]? =some (.int .i64 x.obj):=rfl
 have g4:(inv x)[4]? =some (.int .i64 x.node):=rfl
 rw[I] at HK;have G0:=Z g0;have G1:=Z g1;have G2:=Z g2;have G3:=Z g3;have G4:=Z g4;clear V g0 g1 g2 g3 g4 hz I hd1 hd2 hd3;obtain⟨iv,dA⟩:=au (inv x);rw[dA] at G0 G1 G2 G3 G4 tY ⊢;go_enter Tryz.func76,Tryz.ntmps76
 go_wp2_with (first
  |(refine bV O ?_;clear O;intro px J O;rw[aS] at O)
  |(refine aH O aa G0.F ?_)
  |(refine aH O aa G1.F ?_)
  |(refine aH O aa G2.out ?_)
  |(refine aH O aa G3.F ?_)
  |(refine aH O aa G4.F ?_)
  |(go_at_call 111;refine ak (HK.F _) ?_;rintro J rfl)
  |(go_at_call 111;refine ak (lS.F _) ?_;rintro J rfl)
  |(go_at_call 111;refine ak (lD.F _) ?_;rintro J rfl)
  |(go_at_call 111;refine ak (lQ.F _) ?_;rintro J rfl)
  |(go_at_call 111;refine ak (dP.F _) ?_;rintro J rfl)
  |(refine aU ?_;refine bd _ _ (by rfl) (by simp only[List.map_toArray,jN,List.map_nil];rfl) HB.F ?_)
  |(refine dU O ?_ (hz:=HZ.F);clear O;intro pb J O;rw[aS] at O)
  |(refine kW (mb fun _=>false) O aa ?_ (hv:=HO.F) (hn:=by rw[jg.F];exact bz (by rfl)) (hb:=by rw[jg.F];exact aZ _);clear O;intro J O;rw[aD,List.take_zero,iP,oJ (by rw[jg.F];exact aZ _),kv,<-OU x.ptrs] at O))
 have H0:=Z O;clear O HZ HB HO jg HK lS lD lQ dP;go_loopw [60] (fun v60 wz=>UX W L x px pb v60 wz) (fun v60 _=>32-(intOf v60).toNat)
 case atStart=>exact⟨0,rfl,by decide,by rw[dA];exact H0.F⟩
 case round=>
  clear H0;obtain⟨k,rfl,hk,O⟩:=hrel;rw[dA] at O
  by_cases hlt:k<32
  ·have k1:(k:Int)<32:=by omega
   have ay:=Z hlt;obtain⟨p,hp⟩:∃p,x.ptrs[k]? =some p:=⟨_,aR (by have:=HX.F.pl;omega)⟩
   have GP:=Z (xA hp);rw[dA] at GP
   by_cases h0:p=0
   ·subst h0;have HN:=Z (OQ hp);have e1:decide (x.size<=(k:Int)*128)=true:=bL (HD3.F k hp);clear hp hlt hk;go_wp2
    (refine cB (pO [0,1,2]<|rO [3]<|pO [4]<|wO [5]<|pO [6]<|rO [7]<|pO [8,9,10]<| .e) [] O ?_;clear O;intro J O)
    repeat (first
     |(refine bG O ?_;go_frame)
     |(refine mR O ?_;go_frame;try simp(disch:=omega) only[IntWalk.i64_in])
     |(refine bR O ?_;(first|refine bK hz1 GP.F ?_|refine bK hz1 G1.F ?_);go_frame))
    refine bO ?_;go_wp2;rw[<-HN.F] at O;exact⟨⟨k+1,by go_num,ay.F,by rw[dA];exact O⟩,by have:=ay.F;simp[intOf];omega⟩
   ·have hpt:=HX.F.pt k p hp h0;obtain⟨q,rfl⟩:∃q:Nat,p=(q:Int):=⟨p.toNat,by omega⟩;have HN:=Z (OP hp (by omega));have CG:=Z (TY HX.F hp (by omega));have HQ:=Z (xC (ko x.ptrs k) (show q<1024 by omega));rw[CG.F] at HQ;have HS:=Z (yF (ko x.ptrs k) true (show q<1024 by omega));have HI:=Z (fun w=>yB w (q:Int) 74 1023 (by omega));have e1:decide (x.size<=(k:Int)*128)=false:=bf (by omega);have e2:((q:Int)==0)=false:=dH.2 h0;have e3:(q:Int)<1024:=by omega
    have oP:=Z (show q< (mb (ko x.ptrs k)).length by rw[qz];omega);clear hp hlt hk hpt h0;go_wp2
    (refine cB (pO [0,1,2]<|rO [3]<|pO [4]<|wO [5]<|pO [6]<|rO [7]<|pO [8,9,10]<| .e) [] O ?_;clear O;intro J O)
    repeat (first
     |(refine bG O ?_;go_frame)
     |(refine mR O ?_;go_frame;try simp(disch:=omega) only[IntWalk.i64_in])
     |(refine bR O ?_;(first|refine bK hz1 GP.F ?_|refine bK hz1 G1.F ?_);go_frame))
    refine bO ?_
    go_wp2_with (first
     |(go_at_call 111;refine ak (HI.F _) ?_;rintro J rfl)
     |(refine aH O aa HQ.F ?_)
     |(refine iA O aa ?_ (hb:=oP.F);clear O;intro J O;rw[aD,HS.F,HN.F] at O))
    exact⟨⟨k+1,by go_num,ay.F,by rw[dA];exact O⟩,by have:=ay.F;simp[intOf];omega⟩
  ·obtain rfl:k=32:=by omega
   clear hlt hk;go_wp2;go_ret;exact⟨rfl,O.drop.drop⟩
theorem ZB (O:Sat W w L) (x:aL) (V:kD x):Calls Tryz.prog 76 #[.agg (inv x).toArray] w fun e w'=>e= .returned (.bool true)/\Sat W w' L:=by
 by_cases h0:x.kind=0
 ·rw[V.zero h0];exact ZC O
 by_cases I:x.kind=1
 ·exact ajd O x V I
 ·exact ajb O x V (by have:=V.kd;omega)
def uu (x:aL) (k:Nat):List UInt8:=(le x.kind 1++le x.size 2++le x.links 2++le x.obj 3++le x.node 3)++(x.ptrs.take k).flatMap (le · 2)
theorem CX (x:aL) {k:Nat} (h:k<=x.ptrs.length):(uu x k).length=11+2*k:=by
 have:∀l:List Int,(l.flatMap (le · 2)).length=2*l.length:=by
  intro l
  induction l with
  |nil=>rfl
  |cons a l ih=>rw[pY,bP,ih,fK,fB];omega
 unfold uu;simp only[bP,fK,this,jr];omega
theorem XP (x:aL) {k:Nat} {p:Int} (h:x.ptrs[k]? =some p):uu x k++le p 2=uu x (k+1):=by
 unfold uu;rw[ik,h,Option.toList_some,List.flatMap_append,dX];simp
theorem XQ (x:aL):le x.kind 1++le x.size 2++le x.links 2++le x.obj 3++le x.node 3=uu x 0:=by simp[uu]
theorem JE (x:aL) (h:x.ptrs.length=32):rG (uu x 32) 128=encI x:=by
 unfold encI uu;rw[dF (by omega)]
theorem CY (x:aL) (h:x.ptrs.length=32):(encI x).length=128:=by
 rw[<-JE x h,Ky (by rw[CX x (by omega)];omega)]
theorem Fq {x:aL} (V:kD x) {k:Nat} {p:Int} (h:x.ptrs[k]? =some p):0<=p/\p<=1023:=by
 by_cases h0:p=0
 ·omega
 ·have:=V.pt k p h h0;omega
def IpI (W:World) (L:List aA) (x:aL) (px:Nat) (v25 v4:Value) (wz:World):Prop:=
 ∃k:Nat,v25= .int .i64 (k:Int)/\k<=32/\Sat W wz (Sl 5 1 v4 (uu x k).length (bv (uu x k))::Cs px 78 (inv x)::L)
theorem Hr (O:Sat W w L) (x:aL) (V:kD x):Calls Tryz.prog 32 #[.agg (inv x).toArray] w fun e w'=>∃v,e= .returned (.tuple #[v, .bool true])/\Sat W w' (Sl 5 1 v 128 (bv (encI x))::L):=by
 have HC:=Z (fun w px (h:Sat W w (Cs px 78 (inv x)::L))=>ZB h x V);have HX:=Z V;have eX:=Z V.pl;have tY:=Z (show(inv x).length=37 by rw[fe,V.pl]);have g0:(inv x)[0]? =some (.int .i64 x.kind):=rfl
 have g1:(inv x)[1]? =some (.int .i64 x.size):=rfl
 have g2:(inv x)[2]? =some (.int .i64 x.links):=rfl
 have g3:(inv x)[3]? =some (.int .i64 x.obj):=rfl
 have g4:(inv x)[4]? =some (.int .i64 x.node):=rfl
 have G0:=Z g0;have G1:=Z g1;have G2:=Z g2;have G3:=Z g3;have G4:=Z g4;have q0:=V.kd;have q1:=V.sz;have q2:=V.lk;have q3:=V.ob;have q4:=V.nd;obtain⟨q01,q02⟩:=q0;obtain⟨q11,q12⟩:=q1;obtain⟨q21,q22⟩:=q2;obtain⟨q31,q32⟩:=q3;obtain⟨q41,q42⟩:=q4;have Qu:=Z (JE x V.pl);clear g0 g1 g2 g3 g4 V;obtain⟨iv,dA⟩:=au (inv x);rw[dA] at HC G0 G1 G2 G3 G4 tY ⊢;go_enter Tryz.func32,Tryz.ntmps32
 go_wp2_with (first
  |(refine bV O ?_;clear O;intro px J O;rw[aS] at O)
  |(refine aU ?_;refine rE O _ _ (by rfl) _ _ (by rfl) (aI (by rfl)) (bz (by rfl)) aa (by rw[tY.F];exact aZ _) ?_;rw[kz,dF (by rw[tY.F];exact aZ _)])
  |(go_at_call 76;refine ak (HC.F _ _ O) ?_;clear O;intro J O))
 have hS1:=O.kJ (E:=5) (sz:=1);clear O HC;have O:Sat W _ (Sl 5 1 (.slice none 0 0) ([]:List UInt8).length (bv [])::_):=hS1;clear hS1
 (refine ll (pO [0]<|rO [1]<|pO [3]<|rO [4]<|pO [6]<|rO [7]<|aO [2,5,8]<|pO [9]<| .e) [8] O (fun _ h=>h.one hz1) ?_;clear O;intro J O)
 repeat (first
  |(refine bG O ?_;go_frame)
  |(refine bR O ?_;(first|refine bK aa G0.F ?_|refine bK aa G1.F ?_|refine bK aa G2.out ?_);go_frame)
  |(refine bY fun K hK=>?_;(first
   |(refine cK (Calls.Bu O (by repeat first|exact Has.z|apply Has.s) (fun hF=>qC hF x.kind (by omega) (by omega) 1 (by omega) (by omega) (by simp))) ?_;clear O;rintro e J ⟨v2,rfl,O⟩;dsimp only[aD,aN] at O;refine⟨_,rfl,?_⟩)
   |(refine cK (Calls.Bu O (by repeat first|exact Has.z|apply Has.s) (fun hF=>qC hF x.size (by omega) (by omega) 2 (by omega) (by omega) (by simp[fK]))) ?_;clear O;rintro e J ⟨v2,rfl,O⟩;dsimp only[aD,aN] at O;refine⟨_,rfl,?_⟩)
   |(refine cK (Calls.Bu O (by repeat first|exact Has.z|apply Has.s) (fun hF=>qC hF x.links (by omega) (by omega) 2 (by omega) (by omega) (by simp[fK]))) ?_;clear O;rintro e J ⟨v2,rfl,O⟩;dsimp only[aD,aN] at O;refine⟨_,rfl,?_⟩));refine hK.gu O ?_;clear hK K;go_frame))
 refine bO ?_;go_wp2
 (refine ll (pO [0,1]<|rO [2]<|pO [4]<|rO [5]<|aO [3,6]<|pO [7]<| .e) [6] O (fun _ h=>h.one hz1) ?_;clear O;intro J O)
 repeat (first
  |(refine bG O ?_;go_frame)
  |(refine bR O ?_;(first|refine bK aa G3.F ?_|refine bK aa G4.F ?_);go_frame)
  |(refine bY fun K hK=>?_;(first
   |(refine cK (Calls.Bu O (by repeat first|exact Has.z|apply Has.s) (fun hF=>qC hF x.obj (by omega) (by omega) 3 (by omega) (by omega) (by simp[fK]))) ?_;clear O;rintro e J ⟨v2,rfl,O⟩;dsimp only[aD,aN] at O;refine⟨_,rfl,?_⟩)
   |(refine cK (Calls.Bu O (by repeat first|exact Has.z|apply Has.s) (fun hF=>qC hF x.node (by omega) (by omega) 3 (by omega) (by omega) (by simp[fK]))) ?_;clear O;rintro e J ⟨v2,rfl,O⟩;dsimp only[aD,aN] at O;refine⟨_,rfl,?_⟩));refine hK.gu O ?_;clear hK K;go_frame))
 refine bO ?_;rw[iP,XQ] at O;have H0:=Z O;clear O;go_wp2;go_loopw [25,4] (fun v25 v4 wz=>IpI W L x px v25 v4 wz) (fun v25 _ _=>32-(intOf v25).toNat)
 case atStart=>exact⟨0,rfl,by decide,by rw[dA];exact H0.F⟩
 case round=>
  clear H0;obtain⟨k,rfl,hk,O⟩:=hrel;rw[dA] at O
  by_cases hlt:k<32
  ·have k1:(k:Int)<32:=by omega
   have ay:=Z hlt;obtain⟨p,hp⟩:∃p,x.ptrs[k]? =some p:=⟨_,aR (by have:=eX.F;omega)⟩
   have hpr:=Fq HX.F hp;obtain⟨hp1,hp2⟩:=hpr;have GP:=Z (xA hp);rw[dA] at GP;have HN:=Z (XP x hp);have aM:=Z (CX x (k:=k) (by have:=eX.F;omega));clear hp hlt hk
   go_wp2_with (first
    |(refine aH O hz1 GP.F ?_)
    |(go_at_call 74;refine(qC O p (by omega) (by omega) 2 (by omega) (by omega) (by have:=aM.F;have:=ay.F;omega)).mono ?_;clear O;rintro e J ⟨v1,rfl,O⟩))
   rw[HN.F] at O;exact⟨⟨k+1,by go_num,ay.F,by rw[dA];exact O⟩,by have:=ay.F;simp[intOf];omega⟩
  ·obtain rfl:k=32:=by omega
   have aM:=Z (CX x (k:=32) (by have:=eX.F;omega));clear hlt hk
   go_wp2_with (go_at_call 75;refine(Kz O 128 (by have:=aM.F;omega) (by omega)).mono ?_;clear O;rintro e J ⟨v3,rfl,O⟩)
   rw[Qu.F] at O
   go_ret2
   exact⟨_,rfl,O.bW.drop⟩
end Go.Proofs.YtjbiihbicknemaaGreat
