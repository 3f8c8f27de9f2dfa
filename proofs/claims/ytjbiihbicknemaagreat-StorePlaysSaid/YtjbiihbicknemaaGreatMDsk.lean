/-
  Part of the proof of StoreWhole.
-/
import Derived.Test.YtjbiihbicknemaaGreatMReg
import Derived.Test.YtjbiihbicknemaaGreatTypes
set_option linter.unusedSimpArgs false
set_option linter.unusedVariables false
set_option maxRecDepth 20000
set_option maxHeartbeats 40000000
namespace Go.Proofs.YtjbiihbicknemaaGreat
open Go.RowKit Go.Sep
variable {W w:World} {L:List aA}
attribute [local irreducible] Oper.wp wpList Calls Code.wp Sep.dR

structure aG where
 blocks:List (List UInt8)
 base:List (List UInt8)
 writes:List (Nat×List UInt8)
 left:Int
 dead:Bool
def kL (x:Nat×List UInt8):List Value:= .int .i64 x.1::bv x.2
def aP (p:Nat) (D:aG):aA:=Ex fun x:Value×Value×Value=>St [Cs p 64 [x.1,x.2.1,x.2.2, .int .i64 D.left, .bool D.dead],
 Tb 106 128 bv x.1 D.blocks,Tb 106 128 bv x.2.1 D.base,Tb 108 129 kL x.2.2 D.writes]
theorem aP.open {p:Nat} {D:aG} (h:Sat W w (aP p D::L)):∃v1 v2 v3,Sat W w (Cs p 64 [v1,v2,v3, .int .i64 D.left, .bool D.dead]::
  Tb 106 128 bv v1 D.blocks::Tb 106 128 bv v2 D.base::Tb 108 129 kL v3 D.writes::L):=by
 obtain⟨⟨v1,v2,v3⟩,h⟩:=h.ex;exact⟨v1,v2,v3,h.open⟩
theorem aP.mk {p:Nat} {D:aG} {v1 v2 v3:Value} (h:Sat W w (Cs p 64 [v1,v2,v3, .int .i64 D.left, .bool D.dead]::
  Tb 106 128 bv v1 D.blocks::Tb 106 128 bv v2 D.base::Tb 108 129 kL v3 D.writes::L)):Sat W w (aP p D::L):=
 Sat.yH (v1,v2,v3) (Sat.sH h)

theorem Kb (s m:Nat) (hs:0<s) (u:Value):(madeCells (List.replicate s u).toArray m).toList=List.replicate m u:=by
 apply List.ext_getElem?;intro j;simp only[madeCells,Array.toList_map,Array.toList_range,kY,List.getElem?_replicate]
 by_cases h:j<m
 ·have hm:j % s<s:=Nat.mod_lt _ hs;simp[h,hm]
 ·simp[h]
theorem Yd {α:Type} {f:α->List Value} {x:α} {s:Nat} {u:Value} (h:f x=List.replicate s u) (n:Nat):(List.replicate n x).flatMap f=List.replicate (n*s) u:=by
 induction n with
 |zero=>simp
 |succ n ih=>rw[List.replicate_succ,pY,ih,h,List.replicate_append_replicate];congr 1;rw[Nat.add_mul];omega
def zeros (n:Nat):List UInt8:=List.replicate n 0
theorem Ra (n:Nat):bv (zeros n)=List.replicate n (.int .u8 0):=by simp[bv,zeros,u8]

theorem zA (n:Nat):(madeCells (Value.int .u8 0).cells (n*1)).toList=bv (zeros n):=by
 rw[Ra,show(Value.int .u8 0).cells=(List.replicate 1 (Value.int .u8 0)).toArray from rfl,Kb 1 _ (by decide),Nat.mul_one]
theorem ake (O:Sat W w L) (n:Nat) (I:160<=n) (H:n<=1024):
  Calls Tryz.prog 5 #[.int .i64 n] w fun e w'=>∃p,e= .returned (.tuple #[.pointer (some ⟨p,0,none⟩), .bool true])/\
   Sat W w' (aP p {blocks:=List.replicate n (zeros 128),base:=[],writes:=[],left:= -1,dead:=false} ::L):=by
 have i1:(160:Int)<=(n:Int):=by omega
 have i2:(n:Int)<=1024:=by omega
 go_enter Tryz.func5,Tryz.ntmps5
 go_wp2_with (first|((refine aU ?_;refine mk O _ _ _ (by rfl) n n _ _ (by rfl) (by rfl) (bS (by rfl)) (by omega) (by omega) (by omega) ?_;clear O;intro pb J O;rw[aS] at O);rw[Kb 128 _ (by omega)] at O)|(refine bV O ?_;clear O;intro p J O;rw[aS] at O))
 go_ret2
 refine⟨p,rfl,aP.mk (v1:= .slice (some ⟨pb,0,none⟩) n n) (v2:= .slice none 0 0) (v3:= .slice none 0 0) ?_⟩;rw[<-Yd (f:=bv) (Ra 128) n] at O;have h:=Sat.Rj (sz:=128) (n:=n) (by simp[jR,zeros]) (by simp) (by omega) O.bW;have h:=(h.jb (E:=106) (sz:=128) (f:=bv)).jb (E:=108) (sz:=129) (f:=kL);exact h.re [3,2,1,0]
def aG.new (n:Int):aG:= {blocks:=List.replicate n.toNat (zeros 128),base:=[],writes:=[],left:= -1,dead:=false}
theorem Ib (O:Sat W w L) (n:Int) (I:160<=n) (H:n<=1024):
  Calls Tryz.prog 5 #[.int .i64 n] w fun e w'=>∃p,e= .returned (.tuple #[.pointer (some ⟨p,0,none⟩), .bool true])/\Sat W w' (aP p (.new n)::L):=by
 obtain⟨k,rfl⟩:=Int.eq_ofNat_of_zero_le (show 0<=n by omega);exact ake O k (by omega) (by omega)
theorem zh {p:Nat} {D:aG} (O:Sat W w (aP p D::L)) {n:Int} (hn:(D.blocks.length:Int)=n):
  Calls Tryz.prog 27 #[.pointer (some ⟨p,0,none⟩)] w fun e w'=>e= .returned (.int .i64 n)/\w=w':=by
 subst hn;obtain⟨v1,v2,v3,O⟩:=aP.open O
 obtain⟨ao,c,rfl,_⟩:=O.fA (k:=1) rfl;go_enter Tryz.func27,Tryz.ntmps27
 go_wp2_with (refine bB O ?_)
 go_ret;exact⟨rfl,rfl⟩
theorem adp {p:Nat} {D:aG} (O:Sat W w (aP p D::L)) {n:Int} (hn:(D.writes.length:Int)=n):
  Calls Tryz.prog 16 #[.pointer (some ⟨p,0,none⟩)] w fun e w'=>e= .returned (.int .i64 n)/\w=w':=by
 subst hn;obtain⟨v1,v2,v3,O⟩:=aP.open O
 obtain⟨ao,c,rfl,_⟩:=O.fA (k:=3) rfl;go_enter Tryz.func16,Tryz.ntmps16
 go_wp2_with (refine bB O ?_)
 go_ret;exact⟨rfl,rfl⟩
theorem apv {p:Nat} {D:aG} (O:Sat W w (aP p D::L)) {b:Bool} (hb:D.dead=b):
  Calls Tryz.prog 68 #[.pointer (some ⟨p,0,none⟩)] w fun e w'=>e= .returned (.bool b)/\w=w':=by
 subst hb;obtain⟨v1,v2,v3,O⟩:=aP.open O
 go_enter Tryz.func68,Tryz.ntmps68
 go_wp2_with (refine bB O ?_)
 go_ret;exact⟨rfl,rfl⟩
theorem ag1 {p:Nat} {D:aG} (O:Sat W w (aP p D::L)) (n:Int) (h:0<=n):
  Calls Tryz.prog 24 #[.pointer (some ⟨p,0,none⟩), .int .i64 n] w fun e w'=>e= .returned (.bool true)/\Sat W w' (aP p {D with left:=n} ::L):=by
 obtain⟨v1,v2,v3,O⟩:=aP.open O
 go_enter Tryz.func24,Tryz.ntmps24
 go_wp2_with (refine qR O ?_;clear O;intro J O;dsimp only[List.set] at O)
 go_ret;exact⟨by simp,aP.mk O⟩
theorem apt {p:Nat} {D:aG} (_:Sat W w (aP p D::L)) (n:Int) (h:n<0):
  Calls Tryz.prog 24 #[.pointer (some ⟨p,0,none⟩), .int .i64 n] w fun e w'=>e= .returned (.bool false)/\w=w':=by
 go_enter Tryz.func24,Tryz.ntmps24;go_wp2;go_ret;exact⟨by simp;omega,rfl⟩

theorem Oy {p:Nat} {D:aG} (O:Sat W w (aP p D::L)) (n:Nat) (b:List UInt8) (hb:D.blocks[n]? =some b) (hlen:D.blocks.length<=1024):
  Calls Tryz.prog 53 #[.pointer (some ⟨p,0,none⟩), .int .i64 n] w fun e w'=>∃q,e= .returned (.tuple #[.slice (some ⟨q,0,none⟩) 128 128, .int .i64 0])/\b.length=128/\Sat W w' (Cs q 106 (bv b)::aP p D::L):=by
 obtain⟨v1,v2,v3,O⟩:=aP.open O
 have hn:=(bZ.1 hb).1;obtain⟨bb,off,c,rfl,_⟩:=O.pX (k:=1) rfl (by omega);have hbl:(bv b).length=128:=O.DI (k:=1) rfl b (bJ hb);have i1:(n:Int)< (D.blocks.length:Int):=by omega
 have i2:(D.blocks.length:Int)<=1024:=by omega
 go_enter Tryz.func53,Tryz.ntmps53
 go_wp2_with (first
  |(refine bB O ?_)
  |(refine aU ?_;refine ZU O _ _ (by rfl) _ _ (by rfl) (aI (by rfl)) (bz (by rfl)) (by repeat first|exact Has.z|apply Has.s) n (by rfl) (by exact hb) ?_)
  |(refine dU O ?_;clear O;intro pb J O;rw[aS] at O)
  |(refine kW (bv b) O aa ?_ (hv:=(uk b)) (hn:=by rw[hbl];exact bz (by rfl)) (hb:=by rw[hbl];simp);clear O;intro J O;rw[aD,List.take_zero,iP,oJ (by rw[hbl];simp),kv] at O))
 go_ret2
 exact⟨_,rfl,by simpa [jR] using hbl,(aP.mk (O.re [1,2,3,4])).bW⟩
attribute [local irreducible] Sep.fJ

theorem aoJ {p:Nat} {D:aG} (O:Sat W w (aP p D::L)) (n:Int) (v:Value) (hd:D.dead=true):
  Calls Tryz.prog 30 #[.pointer (some ⟨p,0,none⟩), .int .i64 n,v] w fun e w'=>e= .returned (.int .i64 22)/\w=w':=by
 obtain⟨v1,v2,v3,O⟩:=aP.open O
 rw[hd] at O;go_enter Tryz.func30,Tryz.ntmps30
 go_wp2_with (refine bB O ?_)
 go_ret;exact⟨rfl,rfl⟩
theorem aoH {p:Nat} {D:aG} (O:Sat W w (aP p D::L)) (n:Int) (ao:Option Addr) (m c:Nat) (hd:D.dead=false) (h:n<0∨(D.blocks.length:Int)<=n∨m≠128):
  Calls Tryz.prog 30 #[.pointer (some ⟨p,0,none⟩), .int .i64 n, .slice ao m c] w fun e w'=>e= .returned (.int .i64 1)/\w=w':=by
 obtain⟨v1,v2,v3,O⟩:=aP.open O
 rw[hd] at O;obtain⟨xe,c1,rfl,_⟩:=O.fA (k:=1) rfl
 by_cases h0:n<0
 ·go_enter Tryz.func30,Tryz.ntmps30
  go_wp2_with (refine bB O ?_)
  go_ret;exact⟨rfl,rfl⟩
 by_cases I:(D.blocks.length:Int)<=n
 ·go_enter Tryz.func30,Tryz.ntmps30
  go_wp2_with (refine bB O ?_)
  go_ret;exact⟨rfl,rfl⟩
 ·have H:((m:Int)==128)=false:=dH.2 (by omega);have h3:((m:Int) != 128)=true:=by rw[bne_iff_ne];omega
  have h4:n< (D.blocks.length:Int):=by omega
  have h5:0<=n:=by omega
  clear h h0 I;obtain⟨k,rfl⟩:=Int.eq_ofNat_of_zero_le h5;go_enter Tryz.func30,Tryz.ntmps30
  go_wp2_with (refine bB O ?_)
  go_ret;exact⟨rfl,rfl⟩
theorem aoI {p:Nat} {D:aG} (O:Sat W w (aP p D::L)) (n:Nat) (ao:Option Addr) (c:Nat) (hd:D.dead=false) (hn:n<D.blocks.length) (hl:D.left=0):
  Calls Tryz.prog 30 #[.pointer (some ⟨p,0,none⟩), .int .i64 n, .slice ao 128 c] w fun e w'=>e= .returned (.int .i64 22)/\Sat W w' (aP p {D with dead:=true} ::L):=by
 obtain⟨v1,v2,v3,O⟩:=aP.open O
 obtain⟨xe,c1,rfl,_⟩:=O.fA (k:=1) rfl;rw[hd,hl] at O;have h4:(n:Int)< (D.blocks.length:Int):=by omega
 go_enter Tryz.func30,Tryz.ntmps30
 go_wp2_with (first
  |(refine bB O ?_)
  |(refine qR O ?_;clear O;intro J O;dsimp only[List.set] at O))
 go_ret;exact⟨rfl,aP.mk (D:= {D with dead:=true}) (by rw[hl];exact O)⟩

def aG.wrote (D:aG) (n:Nat) (b:List UInt8):aG:=
 {D with blocks:=D.blocks.set n b,writes:=D.writes++[(n,b)],left:=if 0<D.left then D.left-1 else D.left}
theorem ado {p:Nat} {D:aG} (O:Sat W w (aP p D::L)) (n:Nat) (v:Value) (b:List UInt8) (hb:∀w,Sat W w L->Rd w v 128 1 (bv b))
  (hd:D.dead=false) (hn:n<D.blocks.length) (hl:D.left≠0) (hl2: -1<=D.left) (hl3:D.left<=9223372036854775807) (hw:D.writes.length<=1048576) (hlen:D.blocks.length<=1024):
  Calls Tryz.prog 30 #[.pointer (some ⟨p,0,none⟩), .int .i64 n,v] w fun e w'=>e= .returned (.int .i64 0)/\Sat W w' (aP p (D.wrote n b)::L):=by
 obtain⟨v1,v2,v3,O⟩:=aP.open O
 obtain⟨bb,off,c1,rfl,_⟩:=O.pX (k:=1) rfl (by omega);obtain⟨Wv,c3,rfl,_⟩:=O.fA (k:=3) rfl;have hrd:=hb w O.drop.drop.drop.drop;obtain⟨ao,c,rfl,_,_,hbl,_⟩:=id hrd;rw[jR] at hbl;rw[hd] at O;have h4:(n:Int)< (D.blocks.length:Int):=by omega
 have h5:(D.left==0)=false:=dH.2 hl;have hwl:(kL (n,zeros 128)).length=129:=by simp[kL,jR,zeros]
 have hwo:∀x:Nat×List UInt8,∀u∈kL x,u.oneCell'=true:=fun x u hu=>by
  rcases oK.1 hu with rfl|hu
  ·rfl
  ·exact uk _ u hu
 have hX:∀nZ:List Value,nZ.length=129->List.take 0 nZ++kL (n,zeros 128)++List.drop (0+(kL (n,zeros 128)).length) nZ=kL (n,zeros 128):=fun nZ hZ=>by
  rw[List.take_zero,iP,hwl,oJ (by omega),kv]
 have hY:List.take 1 (kL (n,zeros 128))++List.take (min 128 128*1) (bv b)++List.drop (1+min 128 128*1) (kL (n,zeros 128))=kL (n,b):=by
  rw[oJ (by rw[hwl];simp),show List.take (min 128 128*1) (bv b)=bv b from dF (by rw[jR];simp;omega)];simp[kL]
 have hR:List.take 128 (List.drop 1 (kL (n,b)))=bv b:=by
  rw[show List.drop 1 (kL (n,b))=bv b from rfl];exact dF (by rw[jR];omega)
 have Nn:(bv b).length=128:=by rw[jR];omega
 have hN:(kL (n,b)).length=129:=by simp[kL,jR];omega
 have hA:List.take 129 (List.drop 0 (kL (n,b)))=kL (n,b):=dF (by rw[kz,hN];exact aZ _)
 have hC:∀u∈[Value.agg (kL (n,b)).toArray],u.cells.size=129:=fun u hu=>by
  rcases eD.1 hu with rfl
  simp[Value.cells,hN]
 have HN:=Z hN;have HA:=Z hA;have HC:=Z hC;clear hN hA hC;have HR:=Z hR;have HL:=Z Nn;clear hR Nn;have HX:=Z hX;have HY:=Z hY;have HW:=Z hwo;clear hX hY hwo;have hbd:∀u:World,(Instr.build 108 #[(0, .int .i64 (n:Int))]).run Tryz.prog u= .ok (.agg (kL (n,zeros 128)).toArray) u:=fun u=>run_build u _ _ _ (by kernel_rfl)
 have HB:=Z hbd;clear hbd
 by_cases h6:0<D.left
 all_goals
  go_enter Tryz.func30,Tryz.ntmps30
  go_wp2_with (first
   |(refine bB O ?_)
   |(refine qR O ?_;clear O;intro J O;dsimp only[List.set] at O)
   |(refine dU O ?_;clear O;intro pw J O;rw[aS] at O)
   |(refine aU ?_;refine bd _ _ (by rfl) (by simp only[List.map_toArray,jN,List.map_nil];rfl) HB.F ?_)
   |(refine kW (kL (n,zeros 128)) O aa ?_ (hv:=(HW.F _)) (hn:=by rw[hwl];exact bz (by rfl)) (hb:=by rw[hwl];simp);clear O;intro J O;rw[aD,HX.F _ (by simp)] at O)
   |(refine aU ?_;refine cp O _ _ _ _ (by rfl) _ _ _ _ _ (by rfl) (by rfl) (bS (by rfl)) (by omega) aa (by exact hb _ O.drop.drop.drop.drop.drop) (uk b) (by rw[hwl];exact aZ _) ?_;clear O;intro J O;rw[aD,HY.F] at O))
  (refine aoD 8 O (by kernel_rfl) (by kernel_rfl) ?_
   intro J hS1;clear O;have O:=hS1;clear hS1;simp only[List.take_succ_cons,List.take_zero,List.drop_succ_cons,kz]
   repeat (first|(first
     |(refine acs (by rfl) ?_;refine ldS O _ _ (by rfl) _ _ (by rfl) (aI (by rfl)) (by repeat first|exact Has.z|apply Has.s) (by rfl) ?_;go_frame)
     |(refine acs (by rfl) ?_;refine ajD O _ _ (by rfl) _ _ (by rfl) (aI (by rfl)) (bz (by rfl)) (by repeat first|exact Has.z|apply Has.s) (by exact HR.F) (by exact HL.F) ?_;go_frame))|still_step)
   refine wpStill_nil ?_)
  refine toList (by rfl) ?_;refine acp O _ _ _ (by rfl) _ _ (by rfl) b (by rfl) (uk b) HL.F (bz (by rfl)) (by repeat first|exact Has.z|apply Has.s) n (by rfl) hn ?_;intro J hS1;clear O;have O:=hS1;clear hS1;go_wp2
  (refine cB (pO [0,1,2,3]<|rO [4,5]<|aO [6,7]<|pO [8,9]<|aO [10]<| .e) [7,10] O ?_;clear O;intro J O)
  repeat (first
   |(refine bG O ?_;go_frame)
   |(refine bR O ?_;(first
     |refine qV ?_
     |refine⟨_,Ll _ _ (by rfl) _ _ (by rfl) (aI (by rfl)) (bz (by rfl)) (by repeat first|exact Has.z|apply Has.s) (by exact HA.F) (by exact HN.F),?_⟩);go_frame)
   |(refine bY fun K hK=>?_;(first
     |(refine mJ [.agg (kL (n,b)).toArray] O ?_ (hc:=by exact HC.F);clear O;intro b1 J O;rw[kP] at O)
     |(refine zg O _ _ _ _ (by rfl) _ _ (by rfl) (by rfl) (bS (by rfl)) (by rfl) (by decide) (dO (by rfl)) (by repeat first|exact Has.z|apply Has.s) [(n,b)] (by simpa using HN.F) (by exact O.gZ aa HN.F) (by rw[xh];exact HW.F (n,b)) (by simp;omega) (by simp;omega) ?_;clear O;intro Gm c4 J _ O)
     |(refine st O _ _ _ (by rfl) _ _ (by rfl) _ (by first|exact sV|exact rA (by rfl)) (by rfl) (bz (by rfl)) (by repeat first|exact Has.z|apply Has.s) (by exact Nat.le_of_ble_eq_true rfl) ?_;clear O;intro J O;dsimp only[List.set] at O));refine hK.go O ?_;clear hK K;go_frame))
  refine bO ?_;go_wp2;go_ret;refine⟨rfl,?_⟩;rw[show D.wrote n b= {D with blocks:=D.blocks.set n b,writes:=D.writes++[(n,b)],left:=if 0<D.left then D.left-1 else D.left} from rfl];apply aP.mk;dsimp only;rw[hd]
  first
  |rw[if_pos h6];exact O.drop.drop
  |rw[if_neg (by omega)];exact O.drop.drop

def nL (bs:List (List UInt8)) (ws:List (Nat×List UInt8)):List (List UInt8):=ws.foldl (fun bs w=>bs.set w.1 w.2) bs
theorem QY (ws:List (Nat×List UInt8)):∀bs,(nL bs ws).length=bs.length:=by
 induction ws with
 |nil=>intro bs;rfl
 |cons w ws ih=>intro bs;rw[nL,List.foldl_cons,<-nL,ih,gV]
theorem WG (bs:List (List UInt8)) (ws:List (Nat×List UInt8)) (w:Nat×List UInt8):nL bs (ws++[w])=(nL bs ws).set w.1 w.2:=by simp[nL]
def aG.start (D:aG):List (List UInt8):=D.base++List.replicate (D.blocks.length-D.base.length) (zeros 128)
def aG.image (D:aG) (k:Nat):aG:=
 {blocks:=nL D.start (D.writes.take k),base:=nL D.start (D.writes.take k),writes:=[],left:= -1,dead:=false}
structure aG.Ok (D:aG):Prop where
 len:D.blocks.length<=1024
 base:D.base.length<=D.blocks.length
 at_:∀x∈D.writes,x.1<D.blocks.length
theorem aG.anu {D:aG} (h:D.Ok):D.start.length=D.blocks.length:=by have:=h.base;simp[aG.start];omega
theorem ant {D:aG} (h:D.Ok) (hb:∀x∈D.base,(bv x).length=128):
  List.take 0 (List.replicate (D.blocks.length*128) (Value.int .u8 0))++List.take (min D.base.length D.blocks.length*128) (D.base.flatMap bv)++
   List.drop (0+min D.base.length D.blocks.length*128) (List.replicate (D.blocks.length*128) (Value.int .u8 0))=D.start.flatMap bv:=by
 have hl:=BD hb;have:=h.base;rw[Nat.min_eq_left this,List.take_zero,iP,Nat.zero_add,dF (by omega),aG.start,List.flatMap_append,Yd (f:=bv) (Ra 128),List.drop_replicate,Nat.sub_mul]

theorem aop (x:Nat×List UInt8):∀u∈kL x,u.oneCell'=true:=fun u hu=>by
 rcases oK.1 hu with rfl|hu
 ·rfl
 ·exact uk _ u hu
theorem ZE {p:Nat} {D:aG} (O:Sat W w (aP p D::L)) (hO:D.Ok) (n:Nat) (hn:n<=D.writes.length):
  Calls Tryz.prog 15 #[.pointer (some ⟨p,0,none⟩), .int .i64 n] w fun e w'=>∃q,e= .returned (.tuple #[.pointer (some ⟨q,0,none⟩), .bool true])/\
   Sat W w' (aP q (D.image n)::aP p D::L):=by
 obtain⟨v1,v2,v3,O⟩:=aP.open O
 have hbl:=O.DI (k:=2) rfl;have hwl:=O.DI (k:=3) rfl;have hcopy:=ant hO hbl;have HC:=Z hcopy;have aeB:=Z aop;have HL:=Z (aG.anu hO);have x9:=Z hwl
 have HB:=Z (show ∀x∈D.start,(bv x).length=128 from fun x V=>by
  rcases gy.1 V with h|h
  ·exact hbl x h
  ·rw[(List.mem_replicate.1 h).2];simp[jR,zeros])
 have hlen:=hO.len;have HO:=Z hO;obtain⟨xe,c1,rfl,_⟩:=O.fA (k:=1) rfl;obtain⟨sS,c2,rfl,_⟩:=O.fA (k:=2) rfl;have i1:(n:Int)<=(D.writes.length:Int):=by omega
 clear hcopy hbl hwl hO
 rcases O.anN (k:=3) rfl with⟨rfl,hnil⟩|⟨bw,ow,cw,rfl,hc1,hc2⟩
 ·obtain rfl:n=0:=by rw[hnil] at hn;simpa using hn
  clear hnil i1;go_enter Tryz.func15,Tryz.ntmps15
  go_wp2_with (first
   |(refine bB O ?_)
   |((refine aU ?_;refine mk O _ _ _ (by rfl) D.blocks.length D.blocks.length _ _ (by rfl) (by rfl) (bS (by rfl)) (by omega) (by omega) (by omega) ?_;clear O;intro pb J O;rw[aS] at O);rw[Kb 128 _ (by omega)] at O)
   |(refine bV O ?_;clear O;intro px J O;rw[aS] at O))
  (refine cB (pO [0,1,2]<|rO [3]<|pO [4,5,6]<|rO [7]<|aO [8]<| .e) [8] O ?_;clear O;intro J O)
  repeat (first
   |(refine bG O ?_;go_frame)
   |(refine bR O ?_;(first
     |refine qV ?_);go_frame)
   |(refine bY fun K hK=>?_;(first
     |(refine cp O _ _ _ _ (by rfl) _ _ _ _ _ (by rfl) (by rfl) (bS (by rfl)) (by omega) hz1 (by exact O.kK (k:=4) rfl) (fun u hu=>by obtain⟨x,V,hu⟩:=mE.1 hu;exact uk x u hu) (by simp) ?_;clear O;intro J O;dsimp only[aD,aN] at O;rw[HC.F] at O));refine hK.go O ?_;clear hK K;go_frame))
  refine bO ?_;have O:=(Sat.Rj (E:=106) (sz:=128) (f:=bv) (xs:=D.start) (n:=D.blocks.length) (HB.F) HL.F (by omega) O.bW);have hW0:nL D.start (D.writes.take 0)=D.start:=rfl;rw[<-hW0] at O;have HS:=Z O;clear hW0
  go_wp2_with (first
   |(refine bB O ?_))
  go_loopw [44] (fun v wz=>∃k:Nat,k<=0/\v= .int .i64 k/\Sat W wz (Tb 106 128 bv (.slice (some ⟨pb,0,none⟩) D.blocks.length D.blocks.length) (nL D.start (D.writes.take k))::
   Cs px 64 [.slice (some ⟨pb,0,none⟩) D.blocks.length D.blocks.length, .slice none 0 0, .slice none 0 0, .int .i64 (-1), .bool false]::
   Cs p 64 [.slice xe D.blocks.length c1, .slice sS D.base.length c2, .slice none 0 0, .int .i64 D.left, .bool D.dead]::
   Tb 106 128 bv (.slice xe D.blocks.length c1) D.blocks::Tb 106 128 bv (.slice sS D.base.length c2) D.base::Tb 108 129 kL (.slice none 0 0) D.writes::L))
   (fun v _=>0-(intOf v).toNat)
  case atStart=>exact⟨0,by omega,rfl,HS.F⟩
  case round=>
   clear O HS;obtain⟨k,hk,rfl,O⟩:=hrel
   by_cases hlt:k<0
   ·omega
   ·obtain rfl:k=0:=by omega
    have nH:=Z (show(nL D.start (D.writes.take 0)).length=D.blocks.length by rw[QY,HL.F]);have Bc:=Z (O.DI (k:=0) rfl);have H1:=Z (show ∀u∈(nL D.start (D.writes.take 0)).flatMap bv,u.oneCell'=true from fun u hu=>by obtain⟨x,V,hu⟩:=mE.1 hu;exact uk x u hu)
    go_wp2_with (first
     |(refine bB O ?_)
     |(refine qR O ?_;clear O;intro J O;dsimp only[List.set] at O)
     |(refine aU ?_;refine zg (f:=bv) (xs:=[]) (O.jb (E:=106) (sz:=128)) _ _ _ _ (by rfl) _ _ (by rfl) (by rfl) (bS (by rfl)) (by rfl) (by decide) (dO (by rfl)) aa (nL D.start (D.writes.take 0)) Bc.F (by exact .inl ((O.jb (E:=106) (sz:=128) (f:=bv)).kK hz1)) H1.F (by rw[nH.F];simp;omega) (by rw[nH.F];simp;omega) ?_;clear O;intro uj c5 J _ O;dsimp only[aD,iP] at O))
    go_ret2
    refine⟨px,rfl,?_⟩;have h:=(O.jb (E:=108) (sz:=129) (f:=kL)).re [3,2,1,0,4,5,6,7];have h:=aP.mk (D:=D.image 0) h;exact(aP.mk (D:=D) (h.re [1,2,3,4,0])).bW
 ·go_enter Tryz.func15,Tryz.ntmps15
  go_wp2_with (first
   |(refine bB O ?_)
   |((refine aU ?_;refine mk O _ _ _ (by rfl) D.blocks.length D.blocks.length _ _ (by rfl) (by rfl) (bS (by rfl)) (by omega) (by omega) (by omega) ?_;clear O;intro pb J O;rw[aS] at O);rw[Kb 128 _ (by omega)] at O)
   |(refine bV O ?_;clear O;intro px J O;rw[aS] at O))
  (refine cB (pO [0,1,2]<|rO [3]<|pO [4,5,6]<|rO [7]<|aO [8]<| .e) [8] O ?_;clear O;intro J O)
  repeat (first
   |(refine bG O ?_;go_frame)
   |(refine bR O ?_;(first
     |refine qV ?_);go_frame)
   |(refine bY fun K hK=>?_;(first
     |(refine cp O _ _ _ _ (by rfl) _ _ _ _ _ (by rfl) (by rfl) (bS (by rfl)) (by omega) hz1 (by exact O.kK (k:=4) rfl) (fun u hu=>by obtain⟨x,V,hu⟩:=mE.1 hu;exact uk x u hu) (by simp) ?_;clear O;intro J O;dsimp only[aD,aN] at O;rw[HC.F] at O));refine hK.go O ?_;clear hK K;go_frame))
  refine bO ?_;have O:=(Sat.Rj (E:=106) (sz:=128) (f:=bv) (xs:=D.start) (n:=D.blocks.length) (HB.F) HL.F (by omega) O.bW);have hW0:nL D.start (D.writes.take 0)=D.start:=rfl;rw[<-hW0] at O;have HS:=Z O;clear hW0
  go_wp2_with (first
   |(refine bB O ?_))
  go_loopw [44] (fun v wz=>∃k:Nat,k<=n/\v= .int .i64 k/\Sat W wz (Tb 106 128 bv (.slice (some ⟨pb,0,none⟩) D.blocks.length D.blocks.length) (nL D.start (D.writes.take k))::
   Cs px 64 [.slice (some ⟨pb,0,none⟩) D.blocks.length D.blocks.length, .slice none 0 0, .slice none 0 0, .int .i64 (-1), .bool false]::
   Cs p 64 [.slice xe D.blocks.length c1, .slice sS D.base.length c2, .slice (some ⟨bw,ow,none⟩) D.writes.length cw, .int .i64 D.left, .bool D.dead]::
   Tb 106 128 bv (.slice xe D.blocks.length c1) D.blocks::Tb 106 128 bv (.slice sS D.base.length c2) D.base::Tb 108 129 kL (.slice (some ⟨bw,ow,none⟩) D.writes.length cw) D.writes::L))
   (fun v _=>n-(intOf v).toNat)
  case atStart=>exact⟨0,by omega,rfl,HS.F⟩
  case round=>
   clear O HS;obtain⟨k,hk,rfl,O⟩:=hrel
   by_cases hlt:k<n
   ·obtain⟨⟨xa,xb⟩,V⟩:∃x,D.writes[k]? =some x:=⟨_,aR (by omega)⟩
    have hxl:(kL (xa,xb)).length=129:=x9.F _ (bJ V);have hxb:(bv xb).length=128:=by simpa [kL] using hxl
    have hat:xa<D.blocks.length:=HO.F.at_ _ (bJ V);have i2:(k:Int)< (n:Int):=by omega
    have i3:(xa:Int)< (D.blocks.length:Int):=by omega
    have hnext:nL D.start (D.writes.take (k+1))=(nL D.start (D.writes.take k)).set xa xb:=by
     rw[ik,V];exact WG _ _ _
    have HX:=Z V;have eY:=Z hxl;have HXB:=Z hxb;have dJ:=Z hnext;have HR:=Z (show List.take 128 (List.drop 1 (kL (xa,xb)))=bv xb from dF (show(bv xb).length<=128 by rw[HXB.F];exact aZ _));have nH:=Z (show(nL D.start (D.writes.take k)).length=D.blocks.length by rw[QY,HL.F]);clear V hxl hxb hnext
    go_wp2_with (first
     |(refine aU ?_;refine ZU O _ _ (by rfl) _ _ (by rfl) (aI (by rfl)) (bz (by rfl)) (by repeat first|exact Has.z|apply Has.s) k (by rfl) (by exact HX.F) ?_)
     |(refine dU O ?_;clear O;intro pw J O;rw[aS] at O)
     |(refine eT (kL (xa,xb)) O aa ?_ (hv:=(aeB.F _)) (hn:=by rw[eY.F];exact bz (by rfl)) (hb:=by rw[eY.F];rfl);clear O;intro J O;dsimp only[aD] at O))
    (refine cB (pO [0,1,2]<|rO [3]<|pO [4]<|rO [5]<|pO [6]<|rO [7]<|pO [8]<|aO [9]<| .e) [9] O ?_;clear O;intro J O)
    repeat (first
     |(refine bG O ?_;go_frame)
     |(refine bR O ?_;(first
         |refine qV ?_
         |refine⟨_,Ll _ _ (by rfl) _ _ (by rfl) (aI (by rfl)) (bz (by rfl)) (by repeat first|exact Has.z|apply Has.s) (by exact HR.F) (by exact HXB.F),?_⟩);go_frame)
     |(refine bY fun K hK=>?_;((refine anr O _ _ _ (by rfl) _ _ (by rfl) xb (by rfl) (uk xb) HXB.F (bz (by rfl)) (by repeat first|exact Has.z|apply Has.s) nH.F xa (by omega) (by exact hat) ?_;clear O;intro J O;dsimp only[aD,aN] at O;rw[<-dJ.F] at O));refine hK.go O ?_;clear hK K;go_frame))
    refine bO ?_;go_wp2;exact⟨⟨k+1,by omega,by go_num,O.drop⟩,by simp[intOf];omega⟩
   ·obtain rfl:k=n:=by omega
    have nH:=Z (show(nL D.start (D.writes.take k)).length=D.blocks.length by rw[QY,HL.F]);have Bc:=Z (O.DI (k:=0) rfl);have H1:=Z (show ∀u∈(nL D.start (D.writes.take k)).flatMap bv,u.oneCell'=true from fun u hu=>by obtain⟨x,V,hu⟩:=mE.1 hu;exact uk x u hu)
    go_wp2_with (first
     |(refine bB O ?_)
     |(refine qR O ?_;clear O;intro J O;dsimp only[List.set] at O)
     |(refine aU ?_;refine zg (f:=bv) (xs:=[]) (O.jb (E:=106) (sz:=128)) _ _ _ _ (by rfl) _ _ (by rfl) (by rfl) (bS (by rfl)) (by rfl) (by decide) (dO (by rfl)) aa (nL D.start (D.writes.take k)) Bc.F (by exact .inl ((O.jb (E:=106) (sz:=128) (f:=bv)).kK hz1)) H1.F (by rw[nH.F];simp;omega) (by rw[nH.F];simp;omega) ?_;clear O;intro uj c5 J _ O;dsimp only[aD,iP] at O))
    go_ret2
    refine⟨px,rfl,?_⟩;have h:=(O.jb (E:=108) (sz:=129) (f:=kL)).re [3,2,1,0,4,5,6,7];have h:=aP.mk (D:=D.image k) h;exact(aP.mk (D:=D) (h.re [1,2,3,4,0])).bW
theorem Lj (D:aG) (n:Nat) (b:List UInt8):(D.wrote n b).blocks.length=D.blocks.length:=by simp[aG.wrote]
def pad (l:List UInt8):List UInt8:=l.take 128++zeros (128-l.length)
theorem aba (l:List UInt8):(pad l).length=128:=by simp[pad,zeros];omega
theorem akR (N:Nat) (l:List UInt8):List.take 0 (bv (zeros N))++List.take (min l.length N*1) (bv l)++List.drop (0+min l.length N*1) (bv (zeros N))=bv (l.take N++zeros (N-l.length)):=by
 simp only[List.take_zero,iP,Nat.zero_add,Nat.mul_one]
 rcases Nat.le_total l.length N with h|h
 ·rw[Nat.min_eq_left h,dF (by simp[bv])];simp[bv,zeros,dF h]
 ·rw[Nat.min_eq_right h];simp[bv,zeros,List.map_take,Nat.sub_eq_zero_of_le h]
theorem akQ (l:List UInt8):List.take 0 (bv (zeros 128))++List.take (min l.length 128*1) (bv l)++List.drop (0+min l.length 128*1) (bv (zeros 128))=bv (pad l):=akR 128 l
structure dh where
 L:List (List UInt8)
 Log:List (Nat×List UInt8)
 armed:Bool
 left:Int
 dead:Bool
def gM (l:List UInt8):Value:= .string ⟨l.toArray⟩
def iF (l:List UInt8):List Value:=[gM l]
def wv (x:Nat×List UInt8):List Value:=[.int .i64 x.1,gM x.2]
def aW (p:Nat) (D:dh):aA:=Ex fun x:Value×Value=>St [Cs p 68 [x.1,x.2, .bool D.armed, .int .i64 D.left, .bool D.dead],
 Tb 9 1 iF x.1 D.L,Tb 150 2 wv x.2 D.Log]
theorem aW.open {p:Nat} {D:dh} (h:Sat W w (aW p D::L)):∃v1 v2,Sat W w (Cs p 68 [v1,v2, .bool D.armed, .int .i64 D.left, .bool D.dead]::
  Tb 9 1 iF v1 D.L::Tb 150 2 wv v2 D.Log::L):=by
 obtain⟨⟨v1,v2⟩,h⟩:=h.ex;exact⟨v1,v2,h.open⟩
theorem aW.mk {p:Nat} {D:dh} {v1 v2:Value} (h:Sat W w (Cs p 68 [v1,v2, .bool D.armed, .int .i64 D.left, .bool D.dead]::
  Tb 9 1 iF v1 D.L::Tb 150 2 wv v2 D.Log::L)):Sat W w (aW p D::L):=
 Sat.yH (v1,v2) (Sat.sH h)
theorem anF (x:List UInt8):∀v∈[x].flatMap iF,v.oneCell'=true:=by simp[iF,gM,Value.oneCell']
theorem aoK (x:Nat×List UInt8):∀v∈[x].flatMap wv,v.oneCell'=true:=by simp[wv,gM,Value.oneCell']
theorem yo:Q8 Tryz.prog 9 69=some 5:=by kernel_rfl
def dh.new (n:Nat):dh:= {L:=List.replicate n (zeros 128),Log:=[],armed:=false,left:=0,dead:=false}
theorem abF (O:Sat W w L) (n:Nat) (I:160<=n) (H:n<=1024):
  Calls Tryz.prog 6 #[.int .i64 n] w fun e w'=>∃p,e= .returned (.pointer (some ⟨p,0,none⟩))/\Sat W w' (aW p (.new n)::L):=by
 have i1:(160:Int)<=(n:Int):=by omega
 have i2:(n:Int)<=1024:=by omega
 have HZ:=Z (show(bv (zeros 128)).length=128*1 by simp[bv,zeros]);go_enter Tryz.func6,Tryz.ntmps6
 go_wp2_with (first
  |(refine bV O ?_;clear O;intro p J O;rw[aS] at O)
  |(refine aU ?_;refine mk O _ _ _ (by rfl) 128 128 _ _ (by rfl) (by rfl) (bS (by rfl)) (by omega) (by omega) (by omega) ?_;clear O;intro pz J O;rw[zA] at O)
  |(refine aU ?_;refine ou _ _ _ (by rfl) _ (by rfl) jI (by exact O.jc (n:=128) aa (by decide) HZ.F) ?_))
 have hI:Sat W _ (Cs p 68 [.slice none 0 0, .slice none 0 0, .bool false, .int .i64 0, .bool false]::Tb 9 1 iF (.slice none 0 0) (List.replicate 0 (zeros 128))::L):=
  (O.drop.jb (E:=9) (sz:=1) (f:=iF)).bW
 have HI:=Z hI;clear hI;go_loopw [5] (fun vi wz=>∃k:Nat,k<=n/\vi= .int .i64 k/\∃v,Sat W wz (Cs p 68 [v, .slice none 0 0, .bool false, .int .i64 0, .bool false]::Tb 9 1 iF v (List.replicate k (zeros 128))::L)) (fun vi _=>n-(intOf vi).toNat)
 case atStart=>exact⟨0,by omega,rfl,_,HI.F⟩
 case round=>
  clear HI O;obtain⟨k,hk,rfl,v,O⟩:=hrel
  by_cases hlt:k<n
  ·have j1:(k:Int)< (n:Int):=by omega
   obtain⟨ao,c,rfl,_⟩:=O.fA (k:=1) rfl;rw[kZ] at O;have HR:=Z (show List.replicate k (zeros 128)++[zeros 128]=List.replicate (k+1) (zeros 128) from(List.replicate_succ').symm)
   go_wp2_with (first
    |(refine bB O ?_)
    |(refine qR O ?_;clear O;intro J O;dsimp only[List.set] at O)
    |(refine il [gM (zeros 128)] O ?_ (hc:=by simp[Value.cells,gM]);clear O;intro b1 J O;rw[jC rfl] at O)
    |(refine aU ?_;refine zg (f:=iF) O _ _ _ _ (by rfl) _ _ (by rfl) (by rfl) (bS (by rfl)) (by rfl) (by decide) (dO (by rfl)) (by repeat first|exact Has.z|apply Has.s) [zeros 128] (by simp[iF]) (by exact O.gZ (f:=iF) aa rfl) (anF _) (by simp;omega) (by simp;omega) ?_;clear O;intro uj c5 J _ O;rw[HR.F] at O;dsimp only[aD,aN] at O;rw[kZ] at O))
   exact⟨⟨k+1,by omega,by go_num,_,O.drop⟩,by simp[intOf];omega⟩
  ·obtain rfl:k=n:=by omega
   go_wp2;go_ret;exact⟨p,rfl,aW.mk (D:= .new k) ((O.jb (E:=150) (sz:=2) (f:=wv)).re [1,2,0])⟩
theorem aql {p:Nat} {D:dh} (O:Sat W w (aW p D::L)) (n:Int) (h:0<=n):
  Calls Tryz.prog 42 #[.pointer (some ⟨p,0,none⟩), .int .i64 n] w fun e w'=>e= .returned (.bool true)/\Sat W w' (aW p {D with armed:=true,left:=n} ::L):=by
 obtain⟨v1,v2,O⟩:=aW.open O
 go_enter Tryz.func42,Tryz.ntmps42
 go_wp2_with (refine qR O ?_;clear O;intro J O;dsimp only[List.set] at O)
 go_ret;exact⟨rfl,aW.mk O⟩
theorem aqk {p:Nat} {D:dh} (_:Sat W w (aW p D::L)) (n:Int) (h:n<0):
  Calls Tryz.prog 42 #[.pointer (some ⟨p,0,none⟩), .int .i64 n] w fun e w'=>e= .returned (.bool false)/\w=w':=by
 go_enter Tryz.func42,Tryz.ntmps42;go_wp2;go_ret;exact⟨rfl,rfl⟩
theorem al4 {p:Nat} {D:dh} (O:Sat W w (aW p D::L)) (n:Int) (v:Value) (hd:D.dead=true):
  Calls Tryz.prog 35 #[.pointer (some ⟨p,0,none⟩), .int .i64 n,v] w fun e w'=>e= .returned (.int .i64 22)/\w=w':=by
 obtain⟨v1,v2,O⟩:=aW.open O
 rw[hd] at O;go_enter Tryz.func35,Tryz.ntmps35
 go_wp2_with (refine bB O ?_)
 go_ret;exact⟨rfl,rfl⟩
theorem al0 {p:Nat} {D:dh} (O:Sat W w (aW p D::L)) (n:Int) (ao:Option Addr) (m c:Nat) (hd:D.dead=false) (h:n<0∨(D.L.length:Int)<=n∨m≠128):
  Calls Tryz.prog 35 #[.pointer (some ⟨p,0,none⟩), .int .i64 n, .slice ao m c] w fun e w'=>e= .returned (.int .i64 1)/\w=w':=by
 obtain⟨v1,v2,O⟩:=aW.open O
 rw[hd] at O;obtain⟨xe,c1,rfl,_⟩:=O.fA (k:=1) rfl
 by_cases h0:n<0
 ·go_enter Tryz.func35,Tryz.ntmps35
  go_wp2_with (refine bB O ?_)
  go_ret;exact⟨rfl,rfl⟩
 by_cases I:(D.L.length:Int)<=n
 ·go_enter Tryz.func35,Tryz.ntmps35
  go_wp2_with (refine bB O ?_)
  go_ret;exact⟨rfl,rfl⟩
 ·have H:((m:Int)==128)=false:=dH.2 (by omega);have h3:((m:Int) != 128)=true:=by rw[bne_iff_ne];omega
  have h4:n< (D.L.length:Int):=by omega
  have h5:0<=n:=by omega
  clear h h0 I;obtain⟨k,rfl⟩:=Int.eq_ofNat_of_zero_le h5;go_enter Tryz.func35,Tryz.ntmps35
  go_wp2_with (refine bB O ?_)
  go_ret;exact⟨rfl,rfl⟩
theorem al3 {p:Nat} {D:dh} (O:Sat W w (aW p D::L)) (n:Nat) (ao:Option Addr) (c:Nat) (hd:D.dead=false) (hn:n<D.L.length) (ha:D.armed=true) (hl:D.left=0):
  Calls Tryz.prog 35 #[.pointer (some ⟨p,0,none⟩), .int .i64 n, .slice ao 128 c] w fun e w'=>e= .returned (.int .i64 22)/\Sat W w' (aW p {D with dead:=true} ::L):=by
 obtain⟨v1,v2,O⟩:=aW.open O
 obtain⟨xe,c1,rfl,_⟩:=O.fA (k:=1) rfl;rw[hd,ha,hl] at O;have h4:(n:Int)< (D.L.length:Int):=by omega
 go_enter Tryz.func35,Tryz.ntmps35
 go_wp2_with (first
  |(refine bB O ?_)
  |(refine qR O ?_;clear O;intro J O;dsimp only[List.set] at O))
 go_ret;exact⟨rfl,aW.mk (D:= {D with dead:=true}) (by rw[hl,ha];exact O)⟩
def dh.wrote (D:dh) (n:Nat) (b:List UInt8):dh:=
 {D with L:=D.L.set n b,Log:=D.Log++[(n,b)],left:=if D.armed then D.left-1 else D.left}
theorem al5 {p:Nat} {D:dh} (O:Sat W w (aW p D::L)) (n:Nat) (ao:Option Addr) (c:Nat) (b:List UInt8) (hb:∀w,Sat W w L->Rd w (.slice ao 128 c) 128 1 (bv b))
  (hd:D.dead=false) (hn:n<D.L.length) (hl:D.armed=true->D.left≠0) (hl2:0<=D.left) (hl3:D.left<=9223372036854775807) (hw:D.Log.length<=1048576) (hlen:D.L.length<=1024):
  Calls Tryz.prog 35 #[.pointer (some ⟨p,0,none⟩), .int .i64 n, .slice ao 128 c] w fun e w'=>e= .returned (.int .i64 0)/\Sat W w' (aW p (D.wrote n b)::L):=by
 obtain⟨v1,v2,O⟩:=aW.open O
 obtain⟨bb,off,c1,rfl,_⟩:=O.pX (k:=1) rfl (by omega);obtain⟨sS,c2,rfl,_⟩:=O.fA (k:=2) rfl;rw[hd] at O;have h4:(n:Int)< (D.L.length:Int):=by omega
 have HB:Hid (∀w,Sat W w L->Rd w (.slice ao 128 c) 128 1 (bv b)):=Z hb;have jO:=Z hl;clear hb hl
 have harm:(D.armed=true/\(D.left==0)=false)∨D.armed=false:=by
  cases h:D.armed with
  |true=>exact .inl ⟨rfl,dH.2 (jO.F h)⟩
  |false=>exact .inr rfl
 rcases harm with⟨ha,h5⟩|ha
 all_goals
  rw[ha] at O;go_enter Tryz.func35,Tryz.ntmps35
  go_wp2_with (first
   |(refine bB O ?_)
   |(refine qR O ?_;clear O;intro J O;dsimp only[List.set] at O))
  (refine cB (pO [0,1,2]<|rO [3]<|pO [4,5]<|rO [6]<|pO [7]<|aO [8]<| .e) [8] O ?_;clear O;intro J O)
  repeat (first
   |(refine bG O ?_;go_frame)
   |(refine bR O ?_;(first
     |refine qV ?_
     |refine⟨_,xM _ _ _ (by rfl) _ (by rfl) jI (fun u hu=>by exact HB.F _ hu.drop.drop.drop),?_⟩);go_frame)
   |(refine bY fun K hK=>?_;((refine anq O _ _ _ (by rfl) _ _ (by rfl) (gM b) (by rfl) (by rfl) b (by rfl) (bz (by rfl)) (by repeat first|exact Has.z|apply Has.s) rfl n (by omega) hn ?_;clear O;intro J O;dsimp only[aD,aN] at O));refine hK.go O ?_;clear hK K;go_frame))
  refine bO ?_;go_wp2
  (refine cB (pO [0,1,2,3]<|rO [4]<|pO [5,6]<|rO [7]<|pO [8]<|aO [9,10]<|pO [11,12]<|aO [13]<| .e) [10,13] O ?_;clear O;intro J O)
  repeat (first
   |(refine bG O ?_;go_frame)
   |(refine bR O ?_;(first
     |refine qV ?_
     |refine⟨_,xM _ _ _ (by rfl) _ (by rfl) jI (fun u hu=>by exact HB.F _ hu.drop.drop.drop),?_⟩);go_frame)
   |(refine bY fun K hK=>?_;(first
     |(refine mJ [.agg (wv (n,b)).toArray] O ?_ (hc:=by simp[wv,Value.cells]);clear O;intro b1 J O;rw[kP] at O)
     |(refine zg O _ _ _ _ (by rfl) _ _ (by rfl) (by rfl) (bS (by rfl)) (by rfl) (by decide) (dO (by rfl)) (by repeat first|exact Has.z|apply Has.s) [(n,b)] (by simp[wv]) (by exact O.gZ aa rfl) (aoK _) (by simp;omega) (by simp;omega) ?_;clear O;intro Gm c4 J _ O;dsimp only[aD,aN] at O)
     |(refine st O _ _ _ (by rfl) _ _ (by rfl) _ (by first|exact sV|exact rA (by rfl)) (by rfl) (bz (by rfl)) (by repeat first|exact Has.z|apply Has.s) (by exact Nat.le_of_ble_eq_true rfl) ?_;clear O;intro J O;dsimp only[List.set] at O));refine hK.go O ?_;clear hK K;go_frame))
  refine bO ?_;go_wp2;go_ret;refine⟨rfl,?_⟩;rw[show D.wrote n b= {D with L:=D.L.set n b,Log:=D.Log++[(n,b)],left:=if D.armed then D.left-1 else D.left} from rfl];apply aW.mk;dsimp only;rw[hd,ha];exact O.drop
theorem Xa (O:Sat W w L) (l:List UInt8) (v:Value) (h:Rd w v l.length 1 (bv l)) (hb:l.length<=140737488351232):
  Calls Tryz.prog 64 #[v] w fun e w'=>∃v',e= .returned v'/\Sat W w' (Sl 5 1 v' l.length (bv l)::L):=by
 go_enter Tryz.func64,Tryz.ntmps64
 go_wp2_with (refine aU ?_;refine ap (O.kJ (E:=5) (sz:=1)) _ _ _ _ (by rfl) _ _ (by rfl) (by rfl) (bS (by rfl)) (by rfl) (by omega) (dO (by rfl)) aa (by exact .inl h) (uk l) (by omega) (by omega) ?_;intro v' w' hS')
 go_ret;exact⟨v',rfl,by simpa using hS'⟩
structure Rel (D:aG) (R:dh):Prop where
 blocks:D.blocks=R.L
 writes:D.writes=R.Log
 dead:D.dead=R.dead
 left:D.left=if R.armed then R.left else -1
 lo:0<=R.left
 hi:R.left<=9223372036854775807
 ok:D.Ok
def bad (len:Nat) (n:Int) (m:Nat):Prop:=n<0∨(len:Int)<=n∨m≠128
instance (len:Nat) (n:Int) (m:Nat):Decidable (bad len n m):=by unfold bad;infer_instance
def gp (D:aG) (n:Int) (m:Nat):Int:=if D.dead then 22 else if bad D.blocks.length n m then 1 else if D.left=0 then 22 else 0
def fG (D:aG) (n:Int) (b:List UInt8):aG:=if D.dead then D else if bad D.blocks.length n b.length then D else if D.left=0 then {D with dead:=true} else D.wrote n.toNat b
def rH (D:aG) (R:dh) (n:Int) (b:List UInt8):dh:=if D.dead then R else if bad D.blocks.length n b.length then R else if D.left=0 then {R with dead:=true} else R.wrote n.toNat b
theorem Rel.next {D:aG} {R:dh} (h:Rel D R) (n:Int) (b:List UInt8):Rel (fG D n b) (rH D R n b):=by
 unfold fG rH
 by_cases I:D.dead=true
 ·rw[if_pos I,if_pos I];exact h
 rw[if_neg I,if_neg I]
 by_cases H:bad D.blocks.length n b.length
 ·rw[if_pos H,if_pos H];exact h
 rw[if_neg H,if_neg H]
 by_cases h3:D.left=0
 ·rw[if_pos h3,if_pos h3];exact⟨h.blocks,h.writes,rfl,h.left,h.lo,h.hi,⟨h.ok.len,h.ok.base,h.ok.at_⟩⟩
 rw[if_neg h3,if_neg h3];have hl:=h.left;have h4:=h.lo;have h5:=h.hi;unfold bad at H;refine⟨by simp only[aG.wrote,dh.wrote,h.blocks],by simp only[aG.wrote,dh.wrote,h.writes],h.dead,?_,?_,?_,⟨by rw[Lj];exact h.ok.len,by rw[Lj];exact h.ok.base,fun x V=>?_⟩⟩
 ·cases ha:R.armed<;>simp only[ha,Bool.false_eq_true,if_false,if_true] at hl<;>simp only[aG.wrote,dh.wrote,ha,hl]<;>simp<;>omega
 ·cases ha:R.armed<;>simp only[ha,Bool.false_eq_true,if_false,if_true] at hl<;>simp only[dh.wrote,ha]<;>simp<;>omega
 ·cases ha:R.armed<;>simp only[ha,Bool.false_eq_true,if_false,if_true] at hl<;>simp only[dh.wrote,ha]<;>simp<;>omega
 ·rw[Lj]
  rcases gy.1 V with V|V
  ·exact h.ok.at_ x V
  ·rw[eD.1 V];show n.toNat<_;omega
end Go.Proofs.YtjbiihbicknemaaGreat
