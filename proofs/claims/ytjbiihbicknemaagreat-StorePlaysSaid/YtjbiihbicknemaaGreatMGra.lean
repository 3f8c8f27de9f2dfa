/-
  Part of the proof of StoreWhole.
-/
import Derived.Test.YtjbiihbicknemaaGreatMReg
import Derived.Test.YtjbiihbicknemaaGreatTypes
import Derived.Test.YtjbiihbicknemaaGreatGrShelf
import Derived.WalkLawsBesides
set_option linter.unusedSimpArgs false
set_option linter.unusedVariables false
set_option maxRecDepth 20000
set_option maxHeartbeats 40000000
namespace Go.Proofs.YtjbiihbicknemaaGreat
open Go.RowKit Go.Sep
variable {W w:World} {L:List aA}
open Go.Sep
structure dZ where
 kind:Int
 obj:Int
 zN:Nat
 mark:Nat
 clear:Nat
 Oe:Bool
structure Gr where
 N:List dZ
 E:List (Nat×Nat)
def nv (x:dZ):List Value:=[.int .i64 x.kind, .int .i64 x.obj, .int .i64 (x.zN:Int), .int .i64 (x.mark:Int), .int .i64 (x.clear:Int), .bool x.Oe]
theorem akh (l:List dZ):∀x∈l,(nv x).length=6:=fun _ _=>rfl
theorem Td (x:dZ):∀u∈nv x,u.oneCell'=true:=fun u hu=>by
 simp only[nv,oK,nE,or_false] at hu
 rcases hu with rfl|rfl|rfl|rfl|rfl|rfl<;>rfl
theorem Ff (l:List dZ):∀u∈l.flatMap nv,u.oneCell'=true:=fun u hu=>by
 obtain⟨x,_,hu⟩:=mE.1 hu;exact Td x u hu
namespace Gr
def new:Gr:=⟨[],[]⟩
def ups (G:Gr) (n:Nat):List Nat:=(List.range G.N.length).filter fun k=>decide ((n,k)∈G.E)
def oz (G:Gr) (n:Nat):List Nat:=(List.range G.N.length).filter fun k=>decide ((k,n)∈G.E)
def ku (G:Gr):List (List Nat):=(List.range G.N.length).map G.ups
def kE (G:Gr):List (List Nat):=(List.range G.N.length).map G.oz
def is (G:Gr) (n:Int):Bool:=decide (0<=n)&&decide (n<G.N.length)
def aqt (G:Gr) (n:Int):List Nat:=if G.is n then G.ups n.toNat else []
def apy (G:Gr) (n:Int):List Nat:=if G.is n then G.oz n.toNat else []
def same (k o:Int) (x:dZ):Bool:=decide (x.kind=k)&&decide (x.obj=o)
def lastOf (k o:Int):List dZ->Nat->Option Nat
 |[],_=>none
 |x::l,i=>match lastOf k o l (i+1) with
  |some j=>some j
  |none=>if same k o x then some i else none
def latest (G:Gr) (k o:Int):Option Nat:=lastOf k o G.N 0
def has (G:Gr) (e:Int×Int):Bool:=G.E.any fun p=>decide ((p.1:Int)=e.1)&&decide ((p.2:Int)=e.2)
def pI (G:Gr) (e:Int×Int):Option Bool:=if G.has e then some true else none
def nO (G:Gr) (k:Int×Int):Option Nat:=(G.latest k.1 k.2).map (· +1)
def Reach (G:Gr) (a b:Nat):Prop:=∀S:Nat->Prop,S a->(∀x y,S x->(x,y)∈G.E->S y)->S b
structure Ok (G:Gr):Prop where
 len:G.N.length<=4096
 low:∀e∈G.E,e.1<G.N.length/\e.2<G.N.length
 BB:G.E.length<=1000000
 one:G.E.Nodup
 marks:∀x∈G.N,x.mark<256/\x.clear<256
 DL:∀(i:Nat) (x:dZ),G.N[i]? =some x->x.zN=((G.N.take (i+1)).filter (same x.kind x.obj)).length
theorem Reach.refl (G:Gr) (a:Nat):G.Reach a a:=fun _ h _=>h
theorem Reach.trans {G:Gr} {a b c:Nat} (h:G.Reach a b) (k:G.Reach b c):G.Reach a c:=fun S ha hs=>k S (h S ha hs) hs
theorem Reach.edge {G:Gr} {a b:Nat} (h:(a,b)∈G.E):G.Reach a b:=fun S ha hs=>hs _ _ ha h
theorem Reach.snoc {G:Gr} {a b c:Nat} (h:G.Reach a b) (k:(b,c)∈G.E):G.Reach a c:=h.trans (Reach.edge k)
theorem Di {G:Gr} {n k:Nat} :k∈G.ups n↔k<G.N.length/\(n,k)∈G.E:=by simp[ups]
theorem Kh {G:Gr} {n k:Nat} :k∈G.oz n↔k<G.N.length/\(k,n)∈G.E:=by simp[oz]
theorem acY (G:Gr) (n:Nat):(G.ups n).length<=G.N.length:=by
 have:=List.length_filter_le (fun k=>decide ((n,k)∈G.E)) (List.range G.N.length)
 simpa [ups] using this
theorem ahi (G:Gr) (n:Nat):(G.oz n).length<=G.N.length:=by
 have:=List.length_filter_le (fun k=>decide ((k,n)∈G.E)) (List.range G.N.length)
 simpa [oz] using this
theorem K8 (G:Gr):G.ku.length=G.N.length:=by simp[ku]
theorem Rq (G:Gr):G.kE.length=G.N.length:=by simp[kE]
theorem Uz {G:Gr} {n:Nat} (h:n<G.N.length):G.ku[n]? =some (G.ups n):=by simp[ku,h]
theorem XJ {G:Gr} {n:Nat} (h:n<G.N.length):G.kE[n]? =some (G.oz n):=by simp[kE,h]
theorem xB {G:Gr} {n:Int} (h:G.is n=true):∃k:Nat,n=k/\k<G.N.length:=by
 unfold is at h;simp only[ed,decide_eq_true_eq] at h;exact⟨n.toNat,by omega,by omega⟩
theorem NB {G:Gr} {k:Nat} (h:k<G.N.length):G.is (k:Int)=true:=by unfold is;simp;omega
end Gr
def ek (e:Int×Int):Value:= .agg #[.int .i64 e.1, .int .i64 e.2]
def bw (b:Bool):Value:= .bool b
def nw (n:Nat):Value:= .int .i64 (n:Int)
def iU (v:Value) (l:List Nat):aA:=St [Pu (l=[]->v= .slice none 0 0),Ir v l]
section
variable {W w:World} {L:List aA} {k i:Nat} {u v:Value} {vs:List Value} {xs:List (List Nat)} {x:List Nat}
theorem ZJ {l:List Nat} (h:Sat W w (iU v l::L)):(l=[]->v= .slice none 0 0)/\Sat W w (Ir v l::L):=by
 have H:Sat W w (Pu (l=[]->v= .slice none 0 0)::Ir v l::L):=h.open
 exact H.pu
theorem SE {l:List Nat} (h0:l=[]->v= .slice none 0 0) (h:Sat W w (Ir v l::L)):Sat W w (iU v l::L):=Sat.sH (Sat.E9 h0 h)
theorem ZI (h:Sat W w L):Sat W w (iU (.slice none 0 0) []::L):=SE (fun _=>rfl) h.wh
theorem NA (h:Sat W w L) (hk:Has L k (St (List.zipWith iU vs xs))) (hu:vs[i]? =some u) (V:xs[i]? =some x):∃L',Sat W w (Ir u x::L'):=by
 obtain⟨L',H⟩:=h.Uj hk hu V;exact⟨L',(ZJ H).2⟩
theorem ZK (h:Sat W w L) (hk:Has L k (St (List.zipWith iU vs xs))) (hu:vs[i]? =some u) (V:xs[i]? =some x):x=[]->u= .slice none 0 0:=by
 obtain⟨L',H⟩:=h.Uj hk hu V;exact(ZJ H).1
end
def dQ (p:Nat) (G:Gr):aA:=
 Ex fun x:(Value×Value×Value)×Nat×Nat=>St [Cs p 202 [x.1.1,x.1.2.1,x.1.2.2, .map (some x.2.1), .map (some x.2.2)],Tb 214 6 nv x.1.1 G.N,uV iU x.1.2.1 G.ku,uV iU x.1.2.2 G.kE,
  Mp ek bw x.2.1 G.pI,Mp ek nw x.2.2 G.nO]
theorem dQ.open {p:Nat} {G:Gr} (h:Sat W w (dQ p G::L)):∃vn vu vd me ml,
  Sat W w (Cs p 202 [vn,vu,vd, .map (some me), .map (some ml)]::Tb 214 6 nv vn G.N::uV iU vu G.ku::uV iU vd G.kE::Mp ek bw me G.pI::Mp ek nw ml G.nO::L):=by
 obtain⟨⟨⟨vn,vu,vd⟩,me,ml⟩,h⟩:=h.ex;exact⟨vn,vu,vd,me,ml,h.open⟩
theorem dQ.mk {p:Nat} {G:Gr} {vn vu vd:Value} {me ml:Nat}
  (h:Sat W w (Cs p 202 [vn,vu,vd, .map (some me), .map (some ml)]::Tb 214 6 nv vn G.N::uV iU vu G.ku::uV iU vd G.kE::Mp ek bw me G.pI::Mp ek nw ml G.nO::L)):Sat W w (dQ p G::L):=
 Sat.yH ((vn,vu,vd),me,ml) (Sat.sH h)
attribute [local irreducible] Oper.wp wpList Calls Code.wp Sep.dR
attribute [local irreducible] dQ
theorem ahx (x y:Int×Int) (w:World):(Op.equalIn 10000 218 (ek x) (ek y)).run Tryz.prog w= .ok (decide (x=y)) w:=by
 obtain⟨a,b⟩:=x;obtain⟨c,d⟩:=y;simp only[Prod.mk.injEq];unfold ek
 by_cases I:a=c
 ·subst I
  by_cases H:b=d
  ·subst H;go_simp
  ·have e3:(b==d)=false:=dH.2 H;go_simp
 ·have e3:(a==c)=false:=dH.2 I;go_simp
theorem ahy (x y:Int×Int) (w:World):(Op.equalIn 10000 216 (ek x) (ek y)).run Tryz.prog w= .ok (decide (x=y)) w:=by
 obtain⟨a,b⟩:=x;obtain⟨c,d⟩:=y;simp only[Prod.mk.injEq];unfold ek
 by_cases I:a=c
 ·subst I
  by_cases H:b=d
  ·subst H;go_simp
  ·have e3:(b==d)=false:=dH.2 H;go_simp
 ·have e3:(a==c)=false:=dH.2 I;go_simp
theorem ND:Eo Tryz.prog 218 ek:=ZP Tryz.underlying218 (fun k=>⟨_,rfl⟩) ahx (fun e k w=>by unfold ek;kernel_rfl) (fun k=>by unfold ek;simp[Instr.sameBits])
theorem NG:Eo Tryz.prog 216 ek:=ZP Tryz.underlying216 (fun k=>⟨_,rfl⟩) ahy (fun e k w=>by unfold ek;kernel_rfl) (fun k=>by unfold ek;simp[Instr.sameBits])
theorem akd (O:Sat W w L):Calls Tryz.prog 102 #[] w fun e w'=>∃p,e= .returned (.pointer (some ⟨p,0,none⟩))/\Sat W w' (dQ p Gr.new::L):=by
 go_enter Tryz.func102,Tryz.ntmps102
 go_wp2_with (first
  |(refine aU ?_;refine S9 ek bw (show Sat W _ L from O) _ (by rfl) ?_;clear O;intro me J O)
  |(refine aU ?_;refine S9 ek nw O _ (by rfl) ?_;clear O;intro ml J O)
  |(refine bV O ?_;clear O;intro p J O;rw[aS] at O))
 go_ret;have I:=(O.re [0,2,1]).ab6 (R:=iU);have H:=(I.ab6 (R:=iU)).jb (α:=dZ) (f:=nv) (E:=214) (sz:=6);exact⟨p,rfl,dQ.mk (H.re [3])⟩
theorem qA {p:Nat} {G:Gr} (O:Sat W w (dQ p G::L)) (n:Int) {b:Bool} (hb:(!G.is n)=b):
  Calls Tryz.prog 145 #[.pointer (some ⟨p,0,none⟩), .int .i64 n] w fun e w'=>e= .returned (.bool b)/\w=w':=by
 subst hb;obtain⟨vn,vu,vd,me,ml,O⟩:=dQ.open O
 obtain⟨CS,cn,rfl,_⟩:=O.fA (k:=1) rfl
 by_cases I:n<0
 ·have HB:=Z (show(!G.is n)=true by unfold Gr.is;simp;omega);go_enter Tryz.func145,Tryz.ntmps145;go_wp2;go_ret;rw[HB.F];exact⟨rfl,rfl⟩
 by_cases H:(G.N.length:Int)<=n
 ·have HB:=Z (show(!G.is n)=true by unfold Gr.is;simp;omega);have h0:0<=n:=by omega
  have e1:decide (n<0)=false:=by simp;omega
  clear I;go_enter Tryz.func145,Tryz.ntmps145
  go_wp2_with (refine bB O ?_)
  go_ret;rw[HB.F];exact⟨rfl,rfl⟩
 ·have HB:=Z (show(!G.is n)=false by unfold Gr.is;simp;omega);have h0:0<=n:=by omega
  have h3:n< (G.N.length:Int):=by omega
  have e1:decide (n<0)=false:=by simp;omega
  clear I H;go_enter Tryz.func145,Tryz.ntmps145
  go_wp2_with (refine bB O ?_)
  go_ret;rw[HB.F];refine⟨?_,rfl⟩;rw[show(false:Bool)=decide ((G.N.length:Int)<=n) from(bf (by omega)).symm];rfl
def Gr.Ic (G:Gr) (n:Int):dZ:=if G.is n then G.N[n.toNat]?.getD ⟨0,0,0,0,0,false⟩ else⟨0,0,0,0,0,false⟩
theorem Gr.Ie {G:Gr} {k:Nat} {x:dZ} (h:G.N[k]? =some x):G.Ic (k:Int)=x:=by
 have:=NB (bZ.1 h).1;simp[Gr.Ic,this,h]
attribute [local irreducible] Sep.fJ
theorem NK:cO Tryz.prog 199=some (216,3):=by kernel_rfl
theorem NJ:cO Tryz.prog 198=some (218,4):=by kernel_rfl
def Gr.ap3 (G:Gr) (k o:Int):Int:=((G.latest k o).getD 0:Nat)
theorem ZQ (k o:Int):∀(l m:List dZ) (j:Nat),l.map (fun x=>(x.kind,x.obj))=m.map (fun x=>(x.kind,x.obj))->Gr.lastOf k o l j=Gr.lastOf k o m j
 |[],[],_,_=>rfl
 |[],_::_,_,h=>by simp at h
 |_::_,[],_,h=>by simp at h
 |x::l,y::m,j,h=>by
  simp only[jN,List.cons.injEq,Prod.mk.injEq] at h;unfold Gr.lastOf;rw[ZQ k o l m (j+1) h.2];unfold Gr.same;rw[h.1.1,h.1.2]
def Gr.rJ (G:Gr) (N:List dZ):Gr:=⟨N,G.E⟩
theorem Gr.aoC {G:Gr} {N:List dZ} (h:N.length=G.N.length):(G.rJ N).ku=G.ku:=by
 unfold Gr.ku Gr.ups Gr.rJ;simp only[h]
theorem Gr.aoA {G:Gr} {N:List dZ} (h:N.length=G.N.length):(G.rJ N).kE=G.kE:=by
 unfold Gr.kE Gr.oz Gr.rJ;simp only[h]
theorem Gr.aoB {G:Gr} {N:List dZ} (h:N.map (fun x=>(x.kind,x.obj))=G.N.map (fun x=>(x.kind,x.obj))):(G.rJ N).nO=G.nO:=by
 funext e;unfold Gr.nO Gr.latest;rw[show(G.rJ N).N=N from rfl,ZQ e.1 e.2 N G.N 0 h]
theorem dQ.with {p:Nat} {G:Gr} {N:List dZ} {vn vu vd:Value} {me ml:Nat} (hN:N.map (fun x=>(x.kind,x.obj))=G.N.map (fun x=>(x.kind,x.obj)))
  (h:Sat W w (Cs p 202 [vn,vu,vd, .map (some me), .map (some ml)]::Tb 214 6 nv vn N::uV iU vu G.ku::uV iU vd G.kE::Mp ek bw me G.pI::Mp ek nw ml G.nO::L)):Sat W w (dQ p (G.rJ N)::L):=by
 refine dQ.mk (vn:=vn) (vu:=vu) (vd:=vd) (me:=me) (ml:=ml) ?_;have hl:N.length=G.N.length:=by have:=congrArg List.length hN;simpa using this
 rw[Gr.aoC hl,Gr.aoA hl,Gr.aoB hN];exact h
theorem NM {N:List dZ} {i:Nat} {x y:dZ} (V:N[i]? =some x) (hk:y.kind=x.kind) (ho:y.obj=x.obj):(N.set i y).map (fun x=>(x.kind,x.obj))=N.map (fun x=>(x.kind,x.obj)):=by
 apply List.ext_getElem?;intro j;simp only[kY,yX]
 by_cases h:i=j
 ·subst h;have:=(bZ.1 V).1;rw[if_pos rfl,if_pos this,V];simp[hk,ho]
 ·simp[h]
theorem akL (x u:Nat) (V:x<256) (hu:u<=128):bits .or .i64 (x:Int) (IntKind.i64.wrap (u:Int))=((x |||u:Nat):Int):=by
 rw[IntWalk.i64_in _ (by omega)];have hx2:x |||u<2 ^ 63:=Nat.or_lt_two_pow (by omega) (by omega)
 show IntKind.i64.wrap ((BitVec.ofInt 64 (x:Int) |||BitVec.ofInt 64 (u:Int)).toNat:Int)=_
 have e:∀n:Nat,n<9223372036854775808->(BitVec.ofInt 64 (n:Int)).toNat=n:=fun n hn=>by
  rw[BitVec.ofInt_natCast,BitVec.toNat_ofNat];exact Nat.mod_eq_of_lt (by omega)
 rw[BitVec.toNat_or,e x (by omega),e u (by omega),IntWalk.i64_in _ (by omega)]
theorem or_bit (x t:Nat) (V:x<256) (ht:t<8):bits .or .i64 (x:Int) (IntKind.i64.wrap (2 ^ t))=((x |||2 ^ t:Nat):Int):=by
 have H:2 ^ t<=128:=by
  have:2 ^ t<=2 ^ 7:=Nat.pow_le_pow_right (by decide) (by omega);omega
 have:=akL x (2 ^ t) V H;rw[show(2:Int) ^ t=((2 ^ t:Nat):Int) by simp];exact this
def sU (G:Gr) (n s:Int):Bool:=G.is n&&decide (0<=s)&&decide (s<8)
def mZ (G:Gr) (n s:Int):Int:=if sU G n s then 0 else 1
theorem WM {G:Gr} {n s:Int} (h:G.is n=false):sU G n s=false:=by simp[sU,h]
theorem MF {G:Gr} {n s:Int} (h:s<0∨8<=s):sU G n s=false:=by
 unfold sU
 rcases h with h|h
 ·rw[bf (by omega:¬0<=s)];simp
 ·rw[bf (by omega:¬s<8)];simp
theorem WN {G:Gr} {k t:Nat} (hk:k<G.N.length) (ht:t<8):sU G (k:Int) (t:Int)=true:=by
 unfold sU;rw[Gr.NB hk];simp;omega
def Gr.uD (G:Gr) (n s:Int):Gr:=if sU G n s then G.rJ (G.N.set n.toNat {G.Ic n with mark:=(G.Ic n).mark |||2 ^ s.toNat}) else G
theorem aj5 {p:Nat} {G:Gr} (O:Sat W w (dQ p G::L)) (n s:Int) (hm:∀x∈G.N,x.mark<256/\x.clear<256):
  Calls Tryz.prog 128 #[.pointer (some ⟨p,0,none⟩), .int .i64 n, .int .i64 s] w fun e w'=>e= .returned (.int .i64 (mZ G n s))/\Sat W w' (dQ p (G.uD n s)::L):=by
 cases hb:G.is n
 ·have HB:=Z (show(!G.is n)=true by simp[hb])
  skip
  have HF:=Z (WM (G:=G) (n:=n) (s:=s) hb);unfold mZ Gr.uD;rw[HF.F];go_enter Tryz.func128,Tryz.ntmps128
  go_wp2_with (go_at_call 145;refine ak (qA O n HB.F) ?_;rintro J rfl)
  go_ret;exact⟨rfl,O⟩
 have HB:=Z (show(!G.is n)=false by simp[hb])
 by_cases I:s<0
 ·skip
  skip
  have HF:=Z (MF (G:=G) (n:=n) (s:=s) (.inl I));unfold mZ Gr.uD;rw[HF.F];go_enter Tryz.func128,Tryz.ntmps128
  go_wp2_with (go_at_call 145;refine ak (qA O n HB.F) ?_;rintro J rfl)
  go_ret;exact⟨rfl,O⟩
 by_cases H:8<=s
 ·have e1:decide (s<0)=false:=bf I
  skip
  have HF:=Z (MF (G:=G) (n:=n) (s:=s) (.inr H));unfold mZ Gr.uD;rw[HF.F];go_enter Tryz.func128,Tryz.ntmps128
  go_wp2_with (go_at_call 145;refine ak (qA O n HB.F) ?_;rintro J rfl)
  go_ret;exact⟨rfl,O⟩
 obtain⟨t,rfl⟩:=Int.eq_ofNat_of_zero_le (show 0<=s by omega);obtain⟨k,rfl,hk⟩:=Gr.xB hb;have bq:=Z (WN hk (show t<8 by omega));obtain⟨⟨x1,x2,x3,x4,x5,x6⟩,V⟩:∃x,G.N[k]? =some x:=⟨_,aR hk⟩
 have HX:=Z V;have hm:=hm _ (bJ V);dsimp only at hm;have DW:=Z (or_bit x4 t (by omega) (by omega));have D7:=Z (Gr.Ie V);have j1:(k:Int)< (G.N.length:Int):=by omega
 have j2:(t:Int)<8:=by omega
 have e1:decide ((t:Int)<0)=false:=bf (by omega);have e2:decide (8<=(t:Int))=false:=bf (by omega);clear hb I H hm;obtain⟨vn,vu,vd,me,ml,hO⟩:=dQ.open O
 obtain⟨b,off,c,rfl,hc⟩:=hO.pX (k:=1) rfl (by omega);unfold mZ Gr.uD;rw[bq.F,if_pos rfl,if_pos rfl,D7.F];go_enter Tryz.func128,Tryz.ntmps128;clear O;have O:=hO;clear hO
 go_wp2_with (first
  |(go_at_call 145;refine ak (qA (dQ.mk O) k HB.F) ?_;rintro J rfl))
 (refine cB (pO [0,1,2]<|rO [3]<|pO [4,5,6]<|rO [7]<|pO [8,9,10,11,12]<|aO [13]<| .e) [13] O ?_;clear O;intro J O)
 repeat (first
  |(refine bG O ?_;go_frame)
  |(refine bR O ?_;(first
   |refine qV ?_
   |refine⟨_,AX _ _ (by rfl) _ _ (by rfl) (aI (by rfl)) hz1 k 3 (by omega) HX.F (by rfl),?_⟩);go_frame)
  |(refine bY fun K hK=>?_;(refine DD O _ _ _ (by rfl) _ _ (by rfl) (.int .i64 ((x4 |||2 ^ t:Nat):Int)) (by rw[<-DW.F];rfl) (by rfl) (bz (by rfl)) hz1 rfl k 3 (by omega) HX.F ⟨x1,x2,x3,x4 |||2 ^ t,x5,x6⟩ (by rfl) (by decide) ?_;clear O;intro J O;dsimp only[aD,aN] at O);refine hK.go O ?_;clear hK K;go_frame))
 refine bO ?_;go_wp2;go_ret;exact⟨rfl,dQ.with (NM HX.F rfl rfl) (by simpa using O)⟩
def Gr.uo (G:Gr) (n s:Int):Gr:=if sU G n s then G.rJ (G.N.set n.toNat {G.Ic n with clear:=(G.Ic n).clear |||2 ^ s.toNat}) else G
theorem agH {p:Nat} {G:Gr} (O:Sat W w (dQ p G::L)) (n s:Int) (hm:∀x∈G.N,x.mark<256/\x.clear<256):
  Calls Tryz.prog 129 #[.pointer (some ⟨p,0,none⟩), .int .i64 n, .int .i64 s] w fun e w'=>e= .returned (.int .i64 (mZ G n s))/\Sat W w' (dQ p (G.uo n s)::L):=by
 cases hb:G.is n
 ·have HB:=Z (show(!G.is n)=true by simp[hb])
  skip
  have HF:=Z (WM (G:=G) (n:=n) (s:=s) hb);unfold mZ Gr.uo;rw[HF.F];go_enter Tryz.func129,Tryz.ntmps129
  go_wp2_with (go_at_call 145;refine ak (qA O n HB.F) ?_;rintro J rfl)
  go_ret;exact⟨rfl,O⟩
 have HB:=Z (show(!G.is n)=false by simp[hb])
 by_cases I:s<0
 ·skip
  skip
  have HF:=Z (MF (G:=G) (n:=n) (s:=s) (.inl I));unfold mZ Gr.uo;rw[HF.F];go_enter Tryz.func129,Tryz.ntmps129
  go_wp2_with (go_at_call 145;refine ak (qA O n HB.F) ?_;rintro J rfl)
  go_ret;exact⟨rfl,O⟩
 by_cases H:8<=s
 ·have e1:decide (s<0)=false:=bf I
  skip
  have HF:=Z (MF (G:=G) (n:=n) (s:=s) (.inr H));unfold mZ Gr.uo;rw[HF.F];go_enter Tryz.func129,Tryz.ntmps129
  go_wp2_with (go_at_call 145;refine ak (qA O n HB.F) ?_;rintro J rfl)
  go_ret;exact⟨rfl,O⟩
 obtain⟨t,rfl⟩:=Int.eq_ofNat_of_zero_le (show 0<=s by omega);obtain⟨k,rfl,hk⟩:=Gr.xB hb;have bq:=Z (WN hk (show t<8 by omega));obtain⟨⟨x1,x2,x3,x4,x5,x6⟩,V⟩:∃x,G.N[k]? =some x:=⟨_,aR hk⟩
 have HX:=Z V;have hm:=hm _ (bJ V);dsimp only at hm;have DW:=Z (or_bit x5 t (by omega) (by omega));have D7:=Z (Gr.Ie V);have j1:(k:Int)< (G.N.length:Int):=by omega
 have j2:(t:Int)<8:=by omega
 have e1:decide ((t:Int)<0)=false:=bf (by omega);have e2:decide (8<=(t:Int))=false:=bf (by omega);clear hb I H hm;obtain⟨vn,vu,vd,me,ml,hO⟩:=dQ.open O
 obtain⟨b,off,c,rfl,hc⟩:=hO.pX (k:=1) rfl (by omega);unfold mZ Gr.uo;rw[bq.F,if_pos rfl,if_pos rfl,D7.F];go_enter Tryz.func129,Tryz.ntmps129;clear O;have O:=hO;clear hO
 go_wp2_with (first
  |(go_at_call 145;refine ak (qA (dQ.mk O) k HB.F) ?_;rintro J rfl))
 (refine cB (pO [0,1,2]<|rO [3]<|pO [4,5,6]<|rO [7]<|pO [8,9,10,11,12]<|aO [13]<| .e) [13] O ?_;clear O;intro J O)
 repeat (first
  |(refine bG O ?_;go_frame)
  |(refine bR O ?_;(first
   |refine qV ?_
   |refine⟨_,AX _ _ (by rfl) _ _ (by rfl) (aI (by rfl)) hz1 k 4 (by omega) HX.F (by rfl),?_⟩);go_frame)
  |(refine bY fun K hK=>?_;(refine DD O _ _ _ (by rfl) _ _ (by rfl) (.int .i64 ((x5 |||2 ^ t:Nat):Int)) (by rw[<-DW.F];rfl) (by rfl) (bz (by rfl)) hz1 rfl k 4 (by omega) HX.F ⟨x1,x2,x3,x4,x5 |||2 ^ t,x6⟩ (by rfl) (by decide) ?_;clear O;intro J O;dsimp only[aD,aN] at O);refine hK.go O ?_;clear hK K;go_frame))
 refine bO ?_;go_wp2;go_ret;exact⟨rfl,dQ.with (NM HX.F rfl rfl) (by simpa using O)⟩
def uI (N:List dZ) (a b:Nat):List dZ:=N.mapIdx fun i x=>if a<=i/\i<b then {x with Oe:=true} else x
theorem Dv (N:List dZ) (a b i:Nat):(uI N a b)[i]? =(N[i]?).map fun x=>if a<=i/\i<b then {x with Oe:=true} else x:=by simp[uI]
theorem Fu (N:List dZ) (a b:Nat):(uI N a b).length=N.length:=by simp[uI]
theorem aa0 (N:List dZ) (a:Nat):uI N a a=N:=by
 apply List.ext_getElem?;intro i;rw[Dv]
 cases N[i]? with
 |none=>rfl
 |some y=>simp only[Option.map_some];rw[if_neg (by omega)]
theorem aa2 {N:List dZ} {a b:Nat} {x:dZ} (V:(uI N a b)[b]? =some x) (hab:a<=b):(uI N a b).set b {x with Oe:=true} =uI N a (b+1):=by
 apply List.ext_getElem?;intro i;have hb:=(bZ.1 V).1;rw[yX,Dv];rw[Dv] at V
 by_cases h:b=i
 ·subst h;rw[if_pos rfl,if_pos (by simpa [Fu] using hb)]
  cases hN:N[b]? with
  |none=>rw[hN] at V;simp at V
  |some y=>
   rw[hN] at V;simp only[Option.map_some,Option.some.injEq] at V;rw[if_neg (by omega)] at V;rw[Dv,hN];simp only[Option.map_some];rw[if_pos (by omega),V]
 ·rw[if_neg h,Dv]
  cases N[i]? with
  |none=>rfl
  |some y=>
   simp only[Option.map_some]
   by_cases H:a<=i/\i<b
   ·rw[if_pos H,if_pos (by omega)]
   ·rw[if_neg H,if_neg (by omega)]
theorem aa1 (N:List dZ) (a b:Nat):(uI N a b).map (fun x=>(x.kind,x.obj))=N.map (fun x=>(x.kind,x.obj)):=by
 apply List.ext_getElem?;intro i;rw[kY,Dv,kY]
 cases N[i]? with
 |none=>rfl
 |some y=>simp only[Option.map_some];split<;>rfl
def sG (G:Gr) (a b:Int):Bool:=decide (0<=a)&&decide (a<=b)&&decide (b<=G.N.length)
def vz (G:Gr) (a b:Int):Int:=if sG G a b then 0 else 1
def Gr.sF (G:Gr) (a b:Int):Gr:=if sG G a b then G.rJ (uI G.N a.toNat b.toNat) else G
theorem ajW {p:Nat} {G:Gr} (O:Sat W w (dQ p G::L)) (a b:Int) (hG:G.N.length<=1000000):
  Calls Tryz.prog 130 #[.pointer (some ⟨p,0,none⟩), .int .i64 a, .int .i64 b] w fun e w'=>e= .returned (.int .i64 (vz G a b))/\Sat W w' (dQ p (G.sF a b)::L):=by
 by_cases I:a<0
 ·have HF:=Z (show sG G a b=false by unfold sG;rw[bf (by omega:¬0<=a)];rfl);unfold vz Gr.sF;rw[HF.F];go_enter Tryz.func130,Tryz.ntmps130;go_wp2;go_ret;exact⟨rfl,O⟩
 have e1:decide (a<0)=false:=bf I
 by_cases H:b<a
 ·have HF:=Z (show sG G a b=false by unfold sG;rw[bf (by omega:¬a<=b)];simp);unfold vz Gr.sF;rw[HF.F];go_enter Tryz.func130,Tryz.ntmps130;go_wp2;go_ret;exact⟨rfl,O⟩
 have e2:decide (b<a)=false:=bf H;obtain⟨vn,vu,vd,me,ml,hO⟩:=dQ.open O
 obtain⟨CS,cn,rfl,_⟩:=hO.fA (k:=1) rfl
 by_cases h3:(G.N.length:Int)<b
 ·have HF:=Z (show sG G a b=false by unfold sG;rw[bf (by omega:¬b<=(G.N.length:Int))];simp);unfold vz Gr.sF;rw[HF.F];go_enter Tryz.func130,Tryz.ntmps130
  go_wp2_with (refine bB hO ?_ (hk:=aa))
  go_ret;exact⟨rfl,O⟩
 have HF:=Z (show sG G a b=true by unfold sG;simp;omega);have e3:decide ((G.N.length:Int)<b)=false:=bf h3;unfold vz Gr.sF;rw[HF.F,if_pos rfl,if_pos rfl];obtain⟨i,rfl⟩:=Int.eq_ofNat_of_zero_le (show 0<=a by omega);obtain⟨j,rfl⟩:=Int.eq_ofNat_of_zero_le (show 0<=b by omega);have hij:i<=j:=by omega
 have hjl:j<=G.N.length:=by omega
 have hji:(j:Int)<=1000000:=by omega
 have e4:decide (j<i)=false:=bf (by omega);have e5:decide (G.N.length<j)=false:=bf (by omega);clear I H h3 HF;have H0:=Z (show Sat W w (Cs p 202 [.slice CS G.N.length cn,vu,vd, .map (some me), .map (some ml)]::Tb 214 6 nv (.slice CS G.N.length cn) (uI G.N i i)::uV iU vu G.ku::uV iU vd G.kE::Mp ek bw me G.pI::Mp ek nw ml G.nO::L) by rw[aa0];exact hO);go_enter Tryz.func130,Tryz.ntmps130
 go_wp2_with (refine bB hO ?_ (hk:=aa))
 clear O hO;go_loopw [7] (fun vi wz=>∃k:Nat,i<=k/\k<=j/\vi= .int .i64 k/\Sat W wz (Cs p 202 [.slice CS G.N.length cn,vu,vd, .map (some me), .map (some ml)]::Tb 214 6 nv (.slice CS G.N.length cn) (uI G.N i k)::uV iU vu G.ku::uV iU vd G.kE::Mp ek bw me G.pI::Mp ek nw ml G.nO::L)) (fun vi _=>j-(intOf vi).toNat)
 case atStart=>exact⟨i,aZ _,hij,rfl,H0.F⟩
 case round=>
  clear H0;obtain⟨k,hik,hkj,rfl,O⟩:=hrel
  by_cases hlt:k<j
  ·have j1:(k:Int)< (j:Int):=by omega
   have j2:(k:Int)< (G.N.length:Int):=by omega
   obtain⟨⟨x1,x2,x3,x4,x5,x6⟩,V⟩:∃x,(uI G.N i k)[k]? =some x:=⟨_,aR (by rw[Fu];omega)⟩
   have HX:=Z V;have HST:=Z (aa2 V hik);obtain⟨bb,off,c,he,_⟩:=O.pX (k:=1) rfl (by rw[Fu];omega);simp only[Value.slice.injEq] at he;obtain⟨rfl,Si,rfl⟩:=he;clear Si;have aM:=Z (Fu G.N i k);clear V
   go_wp2_with (first
    |(refine bB O ?_)
    |(refine aU ?_;refine DD O _ _ _ (by rfl) _ _ (by rfl) (.bool true) (by rfl) (by rfl) (bz (by rfl)) hz1 aM.F k 5 (by omega) HX.F ⟨x1,x2,x3,x4,x5,true⟩ (by rfl) (by decide) ?_;clear O;intro J O;dsimp only[aD,aN] at O;rw[HST.F] at O))
   exact⟨⟨k+1,by omega,by omega,by go_num,O⟩,by simp[intOf];omega⟩
  ·obtain rfl:k=j:=by omega
   go_wp2;go_ret;exact⟨rfl,dQ.with (aa1 _ _ _) O⟩
def xJ (l:List Nat):List Nat:=l.mergeSort fun x y=>decide (x<=y)
theorem O4 (l:List Nat):(xJ l).length=l.length:=by simp[xJ]
theorem ajp (l:List Nat):(l.map fun x:Nat=>(x:Int)).map (Value.int .i64)=iv l:=by simp[iv]
theorem ann (l:List Nat):(l.map fun x:Nat=>(x:Int)).mergeSort (fun x y=>decide (x<=y))=(xJ l).map fun x:Nat=>(x:Int):=by
 unfold xJ;exact(List.map_mergeSort (f:=fun x:Nat=>(x:Int)) (r:=fun x y=>decide (x<=y)) (s:=fun x y=>decide (x<=y)) (fun a _ b _=>by simp)).symm
theorem anb {v:Value} {l:List Nat} (O:Sat W w (Ir v l::L)) (hl:l.length<=1000000):
  Calls Tryz.prog 163 #[v] w fun e w'=>e= .returned (.tuple #[])/\Sat W w' (Ir v (xJ l)::L):=by
 by_cases h0:l.length=0
 ·obtain⟨ao,c,rfl,_⟩:=O.mg (k:=0) rfl;obtain rfl:l=[]:=List.eq_nil_of_length_eq_zero h0;refine(Tryz.slices_Sort_int_none ao c w).mono fun e w' ⟨I,H⟩=>⟨I,?_⟩
  subst H
  simpa [xJ] using O
 ·have hS':=O;unfold Ir at hS'
  rcases hS'.wJ with⟨_,I,_⟩|⟨E',b,off,cap,pre,rest,rfl,I,H,h3,h4,h5,h6⟩
  ·exact absurd I h0
  ·have hz:((l.map fun x:Nat=>(x:Int)).length)=l.length:=by simp
   have hH:Go.Sort.Holds (Value.int .i64) w b off (l.map fun x:Nat=>(x:Int)).toArray:=by
    intro j hj;have hj':j<l.length:=by simpa using hj
    obtain⟨y,hy⟩:∃y,l[j]? =some y:=⟨_,aR hj'⟩
    have hc:=hS'.Ub (k:=0) rfl (qw hy)
    have hd:∀(A:Array Int),A=(l.map fun x:Nat=>(x:Int)).toArray->A[j]! =(y:Int):=fun A hA=>by
     subst hA;rw[getElem!_pos _ j hj];have:=(bZ.1 hy).2;simp[this]
    rw[hd _ rfl];exact hc
   have hblk:b<w.heap.size:=by
    obtain⟨fz,_,h7⟩:=h6.Kr;exact h7.lt
   have:=Tryz.slices_Sort_int b off cap (l.map fun x:Nat=>(x:Int)) w hH hblk (by rw[hz];omega);rw[hz] at this;refine this.mono fun e w' ⟨h7,n,os,h8⟩=>⟨h7,?_⟩
   subst h8;rw[ann];have h9:=((h6.ahead n).putRow (Value.int .i64) ((xJ l).map fun x:Nat=>(x:Int)) (by simp[O4,Ar]) h4).grow os;rw[ajp] at h9;unfold Ir;rw[O4];exact Sat.pW h9 I H (by simp[Ar,O4]) h4 (by simp[Ar,O4] at h5 ⊢;omega)
theorem agm {v:Value} {l:List Nat} (O:Sat W w L) (hr:Rd w v l.length 1 (iv l)) (hs:l.Pairwise (· <= ·)) (hl:l.length<=1000000) (x:Nat):
  Calls Tryz.prog 156 #[v, .int .i64 x] w fun e w'=>∃b,e= .returned (.tuple #[.int .i64 (l.countP (· <x):Nat), .bool b])/\Sat W w' L:=by
 by_cases h0:l.length=0
 ·obtain⟨ao,c,rfl,_⟩:=hr;obtain rfl:l=[]:=List.eq_nil_of_length_eq_zero h0;refine(Tryz.slices_BinarySearch_int_empty ao c x w).mono fun e w' ⟨I,H⟩=>⟨false,I,?_⟩
  subst H;exact O
 ·obtain⟨ao,c,rfl,I,H,h3,h5⟩:=hr;obtain⟨b,off,rfl,hc⟩:=h5 (by omega)
  have:=Tryz.slices_BinarySearch_int b off l.length c (l.map fun x:Nat=>(x:Int)) x w (by simp) (by omega) (fun j hj=>by
   have hj':j<l.length:=by simpa using hj
   have h:=hc j _ (qw (aR hj'));rw[h]
   simp[List.getD,hj']) (by
   rw[dF (by simp)]
   exact List.pairwise_map.2 (hs.imp fun h=>by simpa using h))
  refine this.mono fun e w' ⟨h7,q,h8⟩=>?_
  subst h8;rw[dF (by simp)] at h7;refine⟨(l.map fun x:Nat=>(x:Int)).contains (x:Int),?_,O.drewN q⟩;rw[h7];congr 5;rw[List.countP_map];exact congrArg Nat.cast (List.countP_congr fun a _=>by simp)
theorem ajj (O:Sat W w L) (l:List Nat) (ao:Option Addr) (c:Nat) (hr:Rd w (.slice ao l.length c) l.length 1 (iv l)) (hl:l.length<=1000000) (x:Int):
  Calls Tryz.prog 162 #[.slice ao l.length c, .int .i64 x] w fun e w'=>∃r:Int,e= .returned (.int .i64 r)/\(0<=r↔ ∃y,y∈l/\(y:Int)=x)/\w=w':=by
 have HR:=Z hr;obtain⟨_,_,he,hc1,hc2,_,h5⟩:=hr;obtain⟨rfl,rfl⟩:=gq he;have i5:(l.length:Int)<=1000000:=by omega
 go_enter Tryz.func162,Tryz.ntmps162;go_wp2
 go_loop [8] (fun vi=>∃k:Nat,k<=l.length/\vi= .int .i64 k/\(l.take k).any (fun y=>decide ((y:Int)=x))=false) (fun vi=>l.length-(intOf vi).toNat)
 case atStart=>exact⟨0,by omega,rfl,rfl⟩
 case round=>
  obtain⟨k,hk,rfl,hno⟩:=hrel
  by_cases hlt:k<l.length
  ·obtain⟨b,off,rfl,_⟩:=h5 (by omega);obtain⟨y,hy⟩:∃y,l[k]? =some y:=⟨_,aR hlt⟩
   have j1:(k:Int)< (l.length:Int):=by omega
   have HY:=Z (qw hy);have dx:=Z hno;have VQ:=Z hy;clear hno hy h5
   by_cases hxy:(y:Int)=x
   ·subst hxy
    go_wp2_with (refine bN (fF HR.F _ _ (by rfl) _ (by rfl) (aI (by rfl)) k (by omega) HY.F (by omega)) ?_)
    go_ret;refine⟨_,rfl,?_,rfl⟩;exact⟨fun _=>⟨y,bJ VQ.F,rfl⟩,fun _=>by omega⟩
   ·have e1:(x==(y:Int))=false:=dH.2 (Ne.symm hxy);have HN:=Z (show(l.take (k+1)).any (fun y=>decide ((y:Int)=x))=false by rw[ik,VQ.F];simp[dx.F,hxy]);clear hxy
    go_wp2_with (refine bN (fF HR.F _ _ (by rfl) _ (by rfl) (aI (by rfl)) k (by omega) HY.F (by omega)) ?_)
    exact⟨⟨k+1,by omega,by go_num,HN.F⟩,by simp[intOf];omega⟩
  ·obtain rfl:k=l.length:=by omega
   rw[List.take_length] at hno;have dx:=Z hno;clear hno;go_wp2;go_ret;exact⟨_,rfl,⟨fun h=>by omega,fun⟨y,hy,h⟩=>by have:=List.any_eq_false.1 dx.F y hy;simp[h] at this⟩,rfl⟩
theorem agU (O:Sat W w L) (l:List Nat) (ao:Option Addr) (c:Nat) (hr:Rd w (.slice ao l.length c) l.length 1 (iv l)) (hl:l.length<=1000000) (x:Int) {r:Bool} (V:l.any (fun y=>decide ((y:Int)=x))=r):
  Calls Tryz.prog 154 #[.slice ao l.length c, .int .i64 x] w fun e w'=>e= .returned (.bool r)/\w=w':=by
 subst V;have HX:=Z (ajj O l ao c hr hl x);go_enter Tryz.func154,Tryz.ntmps154
 go_wp2_with (go_at_call 162;refine HX.F.mono ?_;rintro e J ⟨r,rfl,Sq,rfl⟩)
 go_ret;refine⟨congrArg Ending.returned (show Value.bool _=Value.bool _ from congrArg Value.bool ?_),rfl⟩;rw[Bool.eq_iff_iff,decide_eq_true_iff];simp
theorem ajt {b E c:Nat} {l:List Nat} {rest:List Value} (h:Sat W w (Cs b E (iv l++rest)::L)) (I:l.length<=c) (H:c<=9223372036854775807) (h3:c<=l.length+rest.length):Sat W w (Ir (.slice (some ⟨b,0,none⟩) l.length c) l::L):=
 Sat.pW (pre:=[]) (vs:=iv l) (rest:=rest) (by simpa using h) I H (by simp[Ar]) rfl (by simp[Ar];omega)
theorem amM {P:Program} (w:World) {t e:TypeId} (h:P.underlying t=some (.slice e)) (a:Option Addr) (n c:Nat):(binOp .eql t (.slice a n c) (.slice none 0 0)).run P w= .ok (.bool a.isNone) w:=by
 simp only[binOp];simp[run_equal_slice_nil w t e a n c h]
theorem agJ {v:Value} {l:List Nat} (O:Sat W w L) (hr:∀w,Sat W w L->Rd w v l.length 1 (iv l)) (hl:l.length<=1000000) (hv:l=[]->v= .slice none 0 0):
  Calls Tryz.prog 159 #[v] w fun e w'=>∃v',e= .returned v'/\(l=[]->v'= .slice none 0 0)/\Sat W w' (Ir v' l::L):=by
 have E34:∀(a:Option Addr) (n c:Nat) (w:World),(binOp .eql 88 (.slice a n c) (.slice none 0 0)).run Tryz.prog w= .ok (.bool a.isNone) w:=fun a n c w=>amM w Tryz.underlying88 a n c
 by_cases h0:l=[]
 ·subst h0;obtain rfl:=hv rfl;go_enter Tryz.func159,Tryz.ntmps159;go_wp2;go_ret;refine⟨_,rfl,?_,O.wh⟩
  first|exact fun _=>rfl|rfl
 ·have HR:=Z hr;obtain⟨_,c,rfl,hc1,hc2,_,h5⟩:=hr w O;have hpos:0<l.length:=List.length_pos_iff.2 h0;obtain⟨b,off,rfl,_⟩:=h5 hpos;have H0:=Z h0;clear h0 hv hr h5;go_enter Tryz.func159,Tryz.ntmps159
  go_wp2_with (first
   |(refine aU ?_;refine bs0 O _ (by rfl) (bS (by rfl)) ?_;clear O;intro b1 J O;replace O:=ajt (l:=[]) (c:=0) (rest:=[]) O (by decide) (by decide) (by decide))
   |(refine aU ?_;refine rz O _ _ _ _ (by rfl) (by rfl) (by rfl) (bS (by rfl)) (by rfl) (by rfl) (by rfl) (dO (by rfl)) aa (by exact HR.F _ O.drop) (by simp;omega) ?_;clear O;intro v1 J O;dsimp only[aD,iP] at O))
  go_ret;exact⟨_,rfl,fun h=>absurd h H0.F,O⟩
def Wi (v:Value):Prop:=v= .slice none 0 0∨ ∃b off n,v= .slice (some ⟨b,off,none⟩) n n
theorem agI {v:Value} {l:List Nat} (O:Sat W w (Ir v l::L)):
  Calls Tryz.prog 158 #[v] w fun e w'=>∃v',e= .returned v'/\Wi v'/\Sat W w' (Ir v' l::L):=by
 rcases O.Ua (E:=0) (sz:=1) (n:=l.length) (vs:=iv l) (k:=0) rfl with⟨rfl,h0,I⟩|⟨b,off,c,rfl,hc1,hc2⟩
 ·go_enter Tryz.func158,Tryz.ntmps158;go_wp2;go_ret;exact⟨_,rfl, .inl rfl,O⟩
 ·go_enter Tryz.func158,Tryz.ntmps158;go_wp2;go_ret;refine⟨_,rfl, .inr ⟨b,off,l.length,rfl⟩,?_⟩;unfold Ir at O ⊢;exact O.Uc
def yC (l:List Nat) (i x:Nat):List Nat:=l.take i++x::l.drop i
theorem ajn {v:Value} {l:List Nat} (O:Sat W w (Ir v l::L)) (ht:Wi v) (hl:l.length<=1000000) (i x:Nat) (hi:i<=l.length) (b:Nat) (hr:∀w,Sat W w L->Rd w (.slice (some ⟨b,0,none⟩) 1 1) 1 1 (iv [x])):
  Calls Tryz.prog 157 #[v, .int .i64 i, .slice (some ⟨b,0,none⟩) 1 1] w fun e w'=>∃v',e= .returned v'/\Sat W w' (Ir v' (yC l i x)::L):=by
 have HR:=Z hr;clear hr
 by_cases h:i=l.length
 ·subst h;have HI:=Z (show l++[x]=yC l l.length x by simp[yC])
  rcases ht with rfl|⟨b',off,n,rfl⟩
  ·obtain⟨ao,c,he,hc⟩:=O.mg (k:=0) rfl;simp only[Value.slice.injEq] at he;obtain⟨j1,h0,j2⟩:=he;obtain rfl:l=[]:=List.eq_nil_of_length_eq_zero h0.symm;clear j1 h0 j2 hc ao c hi hl;go_enter Tryz.func157,Tryz.ntmps157
   go_wp2_with (refine aU ?_;refine rz (m:=[x]) O _ _ _ _ (by rfl) (by rfl) (by rfl) (bS (by rfl)) (by rfl) (by rfl) (by rfl) (dO (by rfl)) aa (by exact HR.F _ O.drop) (by simp) ?_;clear O;intro v1 J O;dsimp only[aD] at O;rw[HI.F] at O)
   go_ret;exact⟨_,rfl,O⟩
  ·obtain⟨ao,c,he,hc⟩:=O.mg (k:=0) rfl;simp only[Value.slice.injEq] at he;obtain⟨rfl,h0,rfl⟩:=he;subst h0;clear hc hi;have i1:(l.length:Int)<=1000000:=by omega
   go_enter Tryz.func157,Tryz.ntmps157
   go_wp2_with (refine aU ?_;refine rz (m:=[x]) O _ _ _ _ (by rfl) (by rfl) (by rfl) (bS (by rfl)) (by rfl) (by rfl) (by rfl) (dO (by rfl)) aa (by exact HR.F _ O.drop) (by simp;omega) ?_;clear O;intro v1 J O;dsimp only[aD] at O;rw[HI.F] at O)
   go_ret;exact⟨_,rfl,O⟩
 ·rcases ht with rfl|⟨b',off,n,rfl⟩
  ·obtain⟨ao,c,he,hc⟩:=O.mg (k:=0) rfl;simp only[Value.slice.injEq] at he;omega
  ·obtain⟨ao,c,he,hc⟩:=O.mg (k:=0) rfl;simp only[Value.slice.injEq] at he;obtain⟨rfl,h0,rfl⟩:=he;subst h0;clear hc;have i1:(l.length:Int)<=1000000:=by omega
   have i2:(i:Int)< (l.length:Int):=by omega
   have e1:((i:Int)==(l.length:Int))=false:=dH.2 (by omega);have e2:(i==l.length)=false:=dH.2 h;clear h;have e3:decide (l.length<l.length+1)=true:=bL (by omega);have e4:decide ((l.length:Int)< (l.length:Int)+1)=true:=bL (by omega);have HN:Hid ((l.length:Int)+1-(i:Int)=((l.length+1-i:Nat):Int)):=Z (by omega)
   have x8:∀w,Sat W w (Ir (.slice (some ⟨b',off,none⟩) l.length l.length) l::L)->Rd w (.slice (some ⟨b',off,none⟩) i l.length) i 1 (iv (l.take i)):=fun w h=>by
    obtain⟨_,_,he,I,H,h3,h5⟩:=h.oG (k:=0) rfl;obtain⟨rfl,rfl⟩:=gq he;refine⟨_,_,rfl,by omega,H,by simp[Ar];omega,fun hi0=>?_⟩;obtain⟨b'',aaP,h6,h7⟩:=h5 (by omega);refine⟨b'',aaP,h6,fun j u hu=>h7 j u ?_⟩;rw[<-ZN,List.getElem?_take] at hu
    split at hu
    ·exact hu
    ·cases hu
   have wX:∀w,Sat W w (Ir (.slice (some ⟨b',off,none⟩) l.length l.length) l::L)->Rd w (.slice (some ⟨b',off+i,none⟩) (l.length-i) (l.length-i)) (l.length-i) 1 (iv (l.drop i)):=fun w h=>by
    obtain⟨_,_,he,I,H,h3,h5⟩:=h.oG (k:=0) rfl;obtain⟨rfl,rfl⟩:=gq he;refine⟨_,_,rfl,by omega,by omega,by simp[Ar],fun hi0=>?_⟩;obtain⟨b'',aaP,h6,h7⟩:=h5 (by omega);simp only[Option.some.injEq,Addr.mk.injEq,and_true] at h6;obtain⟨rfl,rfl⟩:=h6;refine⟨_,_,rfl,fun j u hu=>?_⟩;rw[Nat.add_assoc];refine h7 (i+j) u ?_;rw[<-ZM,List.getElem?_drop] at hu;exact hu
   have x8:=Z x8;have wX:=Z wX;have kC:=Z (show i+(l.length+1-i)=l.length+1 by omega)
   have HV:Hid (∀(z:Value),(((iv (l.take i)++List.replicate (l.length+1-i) z).take i++iv [x]++(iv (l.take i)++List.replicate (l.length+1-i) z).drop (i+1)).take (i+1)++iv (l.drop i)++
     ((iv (l.take i)++List.replicate (l.length+1-i) z).take i++iv [x]++(iv (l.take i)++List.replicate (l.length+1-i) z).drop (i+1)).drop (i+1+(l.length-i)))=iv (yC l i x)):=Z fun z=>by
    have e0:(iv (l.take i)).length=i:=by rw[Ar,jr];omega
    rw[List.take_left' e0];have e1:(iv (l.take i)++iv [x]).length=i+1:=by rw[bP,e0];rfl
    have hD:(List.drop (i+1) (iv (l.take i)++List.replicate (l.length+1-i) z)).length=l.length-i:=by
     simp only[yY,bP,e0,kZ];omega
    generalize List.drop (i+1) (iv (l.take i)++List.replicate (l.length+1-i) z)=D at hD ⊢;rw[List.take_left' e1];have e3:(iv (l.take i)++iv [x]++D).drop (i+1+(l.length-i))=[]:=oJ (by rw[bP,e1,hD];omega);rw[e3];simp[yC,iv,List.map_take,List.map_drop]
   have CE:∀(z:Value),(iv (l.take i)++List.replicate (l.length+1-i) z).length=l.length+1:=fun z=>by
    simp only[bP,Ar,jr,kZ];omega
   have CE:=Z CE;clear e3 e4 hl;go_enter Tryz.func157,Tryz.ntmps157
   go_wp2_with (first
    |(refine aU ?_;refine af8 O _ _ _ _ (by rfl) (by rfl) (l.length+1-i) (by rw[<-HN.F];rfl) (bS (by rfl)) (by rfl) (by rfl) (dO (by rfl)) (x8.F _ O) (by omega) (by omega) (by omega) ?_;clear O;intro v1 J O;rw[kC.F] at O;obtain⟨b2,aqc,c2,rfl,hc2⟩:=O.kV (k:=0) rfl (by omega))
    |(refine aU ?_;refine Xq O _ _ _ _ (by rfl) _ _ _ _ _ (by rfl) (by rfl) (bS (by rfl)) (by rfl) aa i (by omega) (by rw[CE.F];omega) (by exact HR.F _ O.drop.drop) (SF _) (by omega) ?_;clear O;intro J O;dsimp only[aD] at O))
   have q1:¬c2=i+1:=by omega
   have q2:¬l.length=i:=by omega
   have q3:i+1<=l.length+1:=by omega
   have q4:i<=l.length:=by omega
   (refine cB (pO [0,1,2]<|wO [3]<|tO [4]<|pO [5,6]<|tO [7]<|aO [8]<| .e) [8] O ?_;clear O;intro J O)
   repeat (first
    |(refine bG O ?_;go_frame)
    |(refine mR O ?_;go_frame;try simp(disch:=omega) only[IntWalk.i64_in])
    |(refine oI O ?_;apply Exists.intro;apply And.intro;(intro w;first|first|exact aby (lo:=i+1) (by rfl) (by rfl) (by rfl) (by first|omega|(rw[IntWalk.i64_in _ (by omega)];omega)) (by omega) (by omega) (bS (by rfl)) w|exact aby (lo:=i) (by rfl) (by rfl) (by rfl) (by first|omega|(rw[IntWalk.i64_in _ (by omega)];omega)) (by omega) (by omega) (bS (by rfl)) w|(go_simp;try with_reducible rfl));go_frame)
    |(refine bY fun K hK=>?_;(refine Xq (m:=l.length-i) O _ _ _ _ (by rfl) _ _ _ _ (Value.slice (some ⟨b',off+i*1,none⟩) (l.length-i) (l.length-i)) (by rfl) (by rfl) (bS (by rfl)) (by rfl) aa (i+1) (by omega) (by rw[bP,bP,jr,yY,CE.F,Ar];simp;omega) (by rw[Nat.mul_one];exact wX.F _ O.drop) (SF _) (by omega) ?_;clear O;intro J O;dsimp only[aD] at O);refine hK.go O ?_;clear hK K;go_frame))
   refine bO ?_;go_wp2;go_ret;rw[HV.F] at O;have hlen:(yC l i x).length=l.length+1:=by simp only[yC,bP,jr,fB,yY];omega
   refine⟨_,rfl,?_⟩;unfold Ir;rw[hlen,Iy 0 3];exact O.bW.drop
def ins (l:List Nat) (x:Nat):List Nat:=yC l (l.countP (· <x)) x
theorem adb {v:Value} {l:List Nat} (O:Sat W w L) (hr:∀w,Sat W w L->Rd w v l.length 1 (iv l)) (hl:l.length<=999999) (hv:l=[]->v= .slice none 0 0) (hs:l.Pairwise (· <= ·)) (x:Nat):
  Calls Tryz.prog 147 #[v, .int .i64 x] w fun e w'=>∃v',e= .returned v'/\Sat W w' (Ir v' (ins l x)::L):=by
 have HR:=Z hr;have HC:=Z hv;have HS:=Z hs;have tY:=Z (List.countP_le_length (p:=(· <x)) (l:=l));clear hr hv hs;unfold ins;obtain⟨i,hi⟩:=au (l.countP (· <x));have HI:=Z hi;rw[hi];rw[hi] at tY;clear hi;go_enter Tryz.func147,Tryz.ntmps147
 go_wp2_with (first
  |(go_at_call 156;refine(agm O (HR.F _ O) HS.F (by omega) x).mono ?_;rintro e J ⟨fb,rfl,hS1⟩;rw[HI.F];clear O;have O:=hS1;clear hS1)
  |(go_at_call 159;refine(agJ O HR.F (by omega) HC.F).mono ?_;clear O;rintro e J ⟨v1,rfl,_,O⟩)
  |(go_at_call 158;refine(agI O).mono ?_;rintro e J ⟨v2,rfl,ht,hS1⟩;have HT:=Z ht;clear ht;clear O;have O:=hS1;clear hS1)
  |(refine il [.int .i64 x] O ?_ (hc:=by simp[Value.cells]);clear O;intro b1 J O;rw[jC rfl] at O)
  |(go_at_call 157;refine(ajn O.bW HT.F (by omega) i x tY.F b1 (fun w h=>h.jc (n:=1) (sz:=1) aa (by decide) rfl)).mono ?_;clear O;rintro e J ⟨v3,rfl,O⟩))
 go_ret;exact⟨_,rfl,O.bW.drop⟩
end Go.Proofs.YtjbiihbicknemaaGreat
