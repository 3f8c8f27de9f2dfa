/-
  Part of the proof of StoreWhole.
-/
import Derived.OrdersHeld
import Derived.Test.YtjbiihbicknemaaGreatMSep
import Derived.Lib.ConvBytes
import Derived.Laws.ResultCell
import Derived.OwnWalk
import Derived.Laws.StructEq
import Derived.MapKept
import Derived.Sort.Grow
import Derived.Lib.Hide
import Derived.ScopeJumps
import Derived.WalkMore
set_option linter.unusedSimpArgs false
set_option linter.unusedVariables false
namespace Go.Sep
open Go

def awaits (md:Region.Mode) (ops:Array Oper):Nat->Nat->Nat->Bool
 |0,_,_=>false
 |n+1,j,i=>match ops[j]? with
  |none=>false
  |some o=>o.after.any fun e=>Region.binds md e&&(e.on==i || awaits md ops n e.on i)
def Closed (md:Region.Mode) (ops:Array Oper) (listed:Array Bool):Prop:=
 ∀j o,listed.getD j false=true->ops[j]? =some o->∀e∈o.after,Region.binds md e=true->listed.getD e.on false=true
def Gu (md:Region.Mode) (ops:Array Oper) (listed:Array Bool):Bool:=
 (List.range listed.size).all fun j=> !listed.getD j false || (match ops[j]? with|none=>true|some o=>o.after.all fun e=> !Region.binds md e || listed.getD e.on false)

section
variable {P:Program} {ops:Array Oper} {Q:Exit->Act->World->Prop} {md:Region.Mode}

theorem Xh {listed:Array Bool} (h:Gu md ops listed=true):Closed md ops listed:=fun j o hj ho e he hb=>by
 unfold Gu at h;rw[List.all_eq_true] at h
 have hlt:j<listed.size:=by
  rcases Nat.lt_or_ge j listed.size with h'|h'
  ·exact h'
  ·simp[Array.getElem?_eq_none h'] at hj
 have I:=h j (List.mem_range.2 hlt);simp only[hj,ho,Bool.not_true,Bool.false_or,Array.all_eq_true_iff_forall_mem,Bool.or_eq_true,Bool.not_eq_true'] at I
 rcases I e he with H|H
 ·rw[hb] at H;cases H
 ·exact H
theorem agK {listed:Array Bool} {i:Nat} (h:Closed md ops listed) (hr:i∈Region.ready md ops listed):Closed md ops (listed.setIfInBounds i true):=fun j o hj ho e he hb=>by
 by_cases hij:i=j
 ·subst hij;obtain⟨_,o',ho',hall⟩:=mem_ready.1 hr;rw[ho] at ho';cases ho';exact getD_set_true (hall e he hb)
 ·rw[getD_set_ne false hij] at hj;exact getD_set_true (h j o hj ho e he hb)
theorem WH {listed:Array Bool} (hc:Closed md ops listed) {i:Nat} :∀(n j:Nat) (o:Oper),ops[j]? =some o->(∀e∈o.after,Region.binds md e=true->listed.getD e.on false=true)->
  awaits md ops n j i=true->listed.getD i false=true
 |0,_,_,_,_,h=>by cases h
 |n+1,j,o,ho,hall,h=>by
  unfold awaits at h;simp only[ho] at h;obtain⟨e,he,hb⟩:=Array.any_eq_true'.1 h;simp only[Bool.and_eq_true,Bool.or_eq_true,beq_iff_eq] at hb
  rcases hb.2 with H|H
  ·subst H;exact hall e he hb.1
  ·have hl:=hall e he hb.1
   cases n with
   |zero=>cases H
   |succ n=>
    cases ho2:ops[e.on]? with
    |none=>unfold awaits at H;simp[ho2] at H
    |some o2=>exact WH hc (n+1) e.on o2 ho2 (fun e2 he2 hb2=>hc e.on o2 hl ho2 e2 he2 hb2) H

def AV (P:Program) (md:Region.Mode) (ops:Array Oper) (Q:Exit->Act->World->Prop) (free:List Nat):Nat->(World->Prop)->Array Bool->Act->World->Prop
 |0,_,listed,a,w=>Region.ready md ops listed=[]/\Q .normal a w
 |fuel+1,S,listed,a,w=>
  (Region.ready md ops listed=[]->Q .normal a w)/\
  ∀i∈Region.ready md ops listed,wpOp P ops Q i (fun a' w'=>∃S':World->Prop,S' w'/\(free.contains i=false->∀u,S' u->S u)/\AV P md ops Q free fuel S' (listed.setIfInBounds i true) a' w') a w

theorem UJ {free:List Nat} :∀(fuel:Nat) (S:World->Prop) (listed:Array Bool) (a:Act) (w:World),AV P md ops Q free fuel S listed a w->wpAny P md ops Q fuel listed a w
 |0,_,_,_,_,h=>h
 |fuel+1,_,_,_,_,h=>⟨h.1,fun i hi=>wpOp_mono (fun a' w' ⟨S',_,_,h'⟩=>UJ fuel S' _ a' w' h') (h.2 i hi)⟩

theorem YieldsIf.weaken {S S':World->Prop} (h:∀u,S' u->S u) {o:Oper} {v:Value} {a:Act} (hy:YieldsIf P ops S o v a):YieldsIf P ops S' o v a:=
 hy.imp (fun⟨x,y⟩=>⟨x,fun w hw=>y w (h w hw)⟩) id

theorem adg {free:List Nat} {N i:Nat} {oi:Oper} {v:Value} (hi:ops[i]? =some oi) (hsel:∀(j:Nat) (o:Oper) cs b,ops[j]? =some o->o.op≠ .select cs b)
  (hQ:∀c a w,Q (.panic c) (a.put oi.dst v) w->Q (.panic c) a w):
  ∀(fuel:Nat) (S:World->Prop) (listed:Array Bool) (a:Act) (w:World),Closed md ops listed->
   (∀j oj,ops[j]? =some oj->j≠i->listed.getD j true=false->(∀e∈oj.after,Region.binds md e=true->e.on≠i)->oi.apart ops oj=true)->
   (∀j,j≠i->free.contains j=true->listed.getD j true=false->awaits md ops N j i=true)->
   i∈Region.ready md ops listed->YieldsIf P ops S oi v a->S w->
   AV P md ops Q free fuel S (listed.setIfInBounds i true) (a.put oi.dst v) w->AV P md ops Q free (fuel+1) S listed a w:=by
 intro fuel
 induction fuel with
 |zero=>
  intro S listed a w _ _ _ hr hy O fP;refine⟨fun h=>(by rw[h] at hr;cases hr),fun j hj=>?_⟩
  by_cases hji:j=i
  ·subst hji;exact hy.wpOp hi O ⟨S,O,fun _ _ h=>h,fP⟩
  ·have:=ready_mono hj hji;rw[fP.1] at this
   cases this
 |succ fuel ih=>
  intro S listed a w hcl hfree hnd hr hy O fP;refine⟨fun h=>(by rw[h] at hr;cases hr),fun j hj=>?_⟩
  by_cases hji:j=i
  ·subst hji;exact hy.wpOp hi O ⟨S,O,fun _ _ h=>h,fP⟩
  ·have I:=fP.2 j (ready_mono hj hji);obtain⟨hjun,oj,hoj,hall⟩:=mem_ready.1 hj;have h0:=(mem_ready.1 hr).1
   have hun:listed.getD i false=false:=by
    rcases Nat.lt_or_ge i listed.size with h'|h'
    ·simp[h'] at h0 ⊢;exact h0
    ·simp[Array.getElem?_eq_none h'] at h0
   have hnot:∀e∈oj.after,Region.binds md e=true->e.on≠i:=fun e he hb heq=>by
    have I:=hall e he hb;rw[heq,hun] at I;cases I
   have hjf:free.contains j=false:=by
    cases hf:free.contains j with
    |false=>rfl
    |true=>
     have:=WH hcl N j oj hoj hall (hnd j hji hf hjun);rw[hun] at this;cases this
   have H:=wpOp_putIf hoj (hfree j oj hoj hji hjun hnot) (fun cs b=>hsel i oi cs b hi) (fun cs b=>hsel j oj cs b hoj) hQ hy I
   have hset:∀k,(listed.setIfInBounds j true).getD k true=false->listed.getD k true=false:=fun k hun=>by
    by_cases hjk:j=k
    ·subst hjk;exact hjun
    ·rw[getD_set_ne true hjk] at hun;exact hun
   refine wpOp_mono (fun a' w' h3=>?_) H;obtain⟨hy',S',hS',hSS,h4⟩:=h3
   refine⟨S',hS',hSS,ih S' (listed.setIfInBounds j true) a' w' (agK hcl hj)
    (fun k ok hk hki hun hno=>hfree k ok hk hki (hset k hun) hno) (fun k hki hf hun=>hnd k hki hf (hset k hun))
    (ready_mono hr (Ne.symm hji)) (YieldsIf.weaken (hSS hjf) hy') hS' ?_⟩
   rw[Array.setIfInBounds_comm _ _ hji];exact h4
theorem adh {free:List Nat} {i:Nat} {oi:Oper} {v:Value} (hi:ops[i]? =some oi) (hsel:∀(j:Nat) (o:Oper) cs b,ops[j]? =some o->o.op≠ .select cs b)
  (hQ:∀c a w,Q (.panic c) (a.put oi.dst v) w->Q (.panic c) a w):
  ∀(fuel:Nat) (S:World->Prop) (listed:Array Bool) (a:Act) (w:World),
   (∀j oj,ops[j]? =some oj->j≠i->listed.getD j true=false->(∀e∈oj.after,Region.binds md e=true->e.on≠i)->oi.apart ops oj=true)->
   i∈Region.ready md ops listed->YieldsIf P ops (fun _=>True) oi v a->S w->
   AV P md ops Q free fuel S (listed.setIfInBounds i true) (a.put oi.dst v) w->AV P md ops Q free (fuel+1) S listed a w:=by
 intro fuel
 induction fuel with
 |zero=>
  intro S listed a w _ hr hy O fP;refine⟨fun h=>(by rw[h] at hr;cases hr),fun j hj=>?_⟩
  by_cases hji:j=i
  ·subst hji;exact hy.wpOp hi trivial ⟨S,O,fun _ _ h=>h,fP⟩
  ·have:=ready_mono hj hji;rw[fP.1] at this
   cases this
 |succ fuel ih=>
  intro S listed a w hfree hr hy O fP;refine⟨fun h=>(by rw[h] at hr;cases hr),fun j hj=>?_⟩
  by_cases hji:j=i
  ·subst hji;exact hy.wpOp hi trivial ⟨S,O,fun _ _ h=>h,fP⟩
  ·have I:=fP.2 j (ready_mono hj hji);obtain⟨hjun,oj,hoj,hall⟩:=mem_ready.1 hj;have h0:=(mem_ready.1 hr).1
   have hnot:∀e∈oj.after,Region.binds md e=true->e.on≠i:=fun e he hb heq=>by
    have I:=hall e he hb;rw[heq] at I
    rcases Nat.lt_or_ge i listed.size with h'|h'
    ·simp[h'] at h0 I;rw[h0] at I;cases I
    ·simp[Array.getElem?_eq_none h'] at I
   have H:=wpOp_putIf hoj (hfree j oj hoj hji hjun hnot) (fun cs b=>hsel i oi cs b hi) (fun cs b=>hsel j oj cs b hoj) hQ hy I
   have hset:∀k,(listed.setIfInBounds j true).getD k true=false->listed.getD k true=false:=fun k hun=>by
    by_cases hjk:j=k
    ·subst hjk;exact hjun
    ·rw[getD_set_ne true hjk] at hun;exact hun
   refine wpOp_mono (fun a' w' h3=>?_) H;obtain⟨hy',S',hS',hSS,h4⟩:=h3
   refine⟨S',hS',hSS,ih S' (listed.setIfInBounds j true) a' w'
    (fun k ok hk hki hun hno=>hfree k ok hk hki (hset k hun) hno) (ready_mono hr (Ne.symm hji)) hy' hS' ?_⟩
   rw[Array.setIfInBounds_comm _ _ hji];exact h4
end

/-! ### the moves of a walk -/
def nth:List Oper->Nat->Option Oper
 |[],_=>none
 |o::_,0=>some o
 |_::l,n+1=>nth l n
theorem Dn:∀(l:List Oper) (n:Nat),nth l n=l.toArray[n]?
 |[],n=>by simp[nth]
 |o::l,0=>by simp[nth]
 |o::l,n+1=>by rw[nth,Dn l n];simp

def dR (P:Program) (Q:Exit->Act->World->Prop) (free:List Nat) (l:List Oper) (W:World) (fuel:Nat) (L:List aA) (listed:List Bool) (a:Act) (w:World):Prop:=
 AV P .any l.toArray Q free fuel (fun u=>Sat W u L) listed.toArray a w

section
variable {P:Program} {Q:Exit->Act->World->Prop} {free:List Nat} {l:List Oper} {W w:World} {L L':List aA} {fuel:Nat} {listed:List Bool} {a:Act}

theorem amd (free:List Nat) (O:Sat W w L) {id:Nat} {n:Nat} (hm:P.follows .mixedOrders=true) (hn:l.length=n)
  (h:∀w',Sat W w' L->dR P Q free l W n L (List.replicate n false) a w'):(Code.region id l.toArray true).wp P Q a w:=by
 subst hn;refine wp_region_any hm (UJ (free:=free) _ (fun u=>Sat W u L) _ _ _ ?_);have:=h _ (O.of_heap (w':= {w with drawn:=w.drawn+1}) rfl rfl rfl);unfold dR at this
 simpa using this

theorem ame {Lf:List aA} (free:List Nat) (O:Sat W w Lf) (_:∀u,Sat W u Lf->Sat W u L) {id:Nat} {n:Nat} (hm:P.follows .mixedOrders=true) (hn:l.length=n)
  (h:∀w',Sat W w' Lf->dR P Q free l W n L (List.replicate n false) a w'):(Code.region id l.toArray true).wp P Q a w:=by
 subst hn;refine wp_region_any hm (UJ (free:=free) _ (fun u=>Sat W u L) _ _ _ ?_);have:=h _ (O.of_heap (w':= {w with drawn:=w.drawn+1}) rfl rfl rfl);unfold dR at this
 simpa using this
theorem TS (i:Nat) (O:Sat W w L') (hL:∀u,Sat W u L'->Sat W u L) {oi:Oper} (hi:nth l i=some oi) (hs:Region.noSelect l.toArray=true) (hf:Region.free .any l.toArray listed.toArray i=true)
  (hr:(Region.ready .any l.toArray listed.toArray).contains i=true) (hQ:∀v c a w,Q (.panic c) (a.put oi.dst v) w->Q (.panic c) a w)
  (hw:Region.wanted oi (yielded l.toArray a.tmps)=true) {listed':List Bool} (hl:listed.set i true=listed')
  (h:∃v,(∀u,(execOp a.eval oi).run P u= .ok (.value v) u)/\dR P Q free l W fuel L listed' (a.put oi.dst v) w):dR P Q free l W (fuel+1) L listed a w:=by
 subst hl;rw[Dn] at hi;obtain⟨v,hy,h⟩:=h;exact adh hi (Region.noSelect_spec hs) (hQ v) fuel _ _ a w (Region.free_spec hi hf) (by simpa using hr) (.inl ⟨hw,fun u _=>hy u⟩) (hL w O) (by simpa [dR] using h)
theorem ama (i:Nat) (O:Sat W w L') (hL:∀u,Sat W u L'->Sat W u L) {oi:Oper} (hi:nth l i=some oi) (hs:Region.noSelect l.toArray=true) (hf:Region.free .any l.toArray listed.toArray i=true)
  (hr:(Region.ready .any l.toArray listed.toArray).contains i=true) (hQ:∀c a w,Q (.panic c) (a.put oi.dst undef) w->Q (.panic c) a w)
  (hw:Region.wanted oi (yielded l.toArray a.tmps)=false)
  {listed':List Bool} (hl:listed.set i true=listed') (h:dR P Q free l W fuel L listed' (a.put oi.dst undef) w):dR P Q free l W (fuel+1) L listed a w:=by
 subst hl;rw[Dn] at hi;exact adh hi (Region.noSelect_spec hs) hQ fuel _ _ a w (Region.free_spec hi hf) (by simpa using hr) (.inr ⟨hw,rfl⟩) (hL w O) (by simpa [dR] using h)
def UD (l:List Oper) (free:List Nat) (listed:List Bool) (i:Nat):Bool:=
 free.all fun j=>j==i || listed.toArray.getD j true || awaits .any l.toArray 3 j i
theorem amb (i:Nat) (O:Sat W w L') (hL:∀u,Sat W u L'->Sat W u L) {oi:Oper} (hi:nth l i=some oi) (hs:Region.noSelect l.toArray=true) (hf:Region.free .any l.toArray listed.toArray i=true)
  (hr:(Region.ready .any l.toArray listed.toArray).contains i=true) (hc:Gu .any l.toArray listed.toArray=true) (hn:UD l free listed i=true)
  (hQ:∀v c a w,Q (.panic c) (a.put oi.dst v) w->Q (.panic c) a w)
  (hw:Region.wanted oi (yielded l.toArray a.tmps)=true) {listed':List Bool} (hl:listed.set i true=listed')
  (h:∃v,(∀u,Sat W u L->(execOp a.eval oi).run P u= .ok (.value v) u)/\dR P Q free l W fuel L listed' (a.put oi.dst v) w):dR P Q free l W (fuel+1) L listed a w:=by
 subst hl;rw[Dn] at hi;obtain⟨v,hy,h⟩:=h;refine adg (N:=3) hi (Region.noSelect_spec hs) (hQ v) fuel _ _ a w (Xh hc) (Region.free_spec hi hf) (fun j hji hj hun=>?_) (by simpa using hr) (.inl ⟨hw,hy⟩) (hL w O) (by simpa [dR] using h);unfold UD at hn;have:=List.all_eq_true.1 hn j (by simpa using hj);simp only[Bool.or_eq_true,beq_iff_eq,hun,hji,Bool.false_eq_true,false_or] at this;exact this
theorem al6 (i:Nat) {oi:Oper} (hi:nth l i=some oi) (hr:Region.ready .any l.toArray listed.toArray=[i])
  (hw:Region.wanted oi (yielded l.toArray a.tmps)=true) {listed':List Bool} (hl:listed.set i true=listed') (b:Bool) (hb:free.contains i=b)
  (h:∀K:Act->World->Prop,(∀a' w' (L':List aA),Sat W w' L'->(b=false->∀u,Sat W u L'->Sat W u L)->dR P Q free l W fuel L' listed' a' w'->K a' w')->oi.wp P a w K Q):dR P Q free l W (fuel+1) L listed a w:=by
 subst hl;subst hb;unfold dR AV;refine⟨fun h0=>(by rw[hr] at h0;cases h0),fun j hj=>?_⟩;rw[hr,List.mem_singleton] at hj;subst hj;rw[Dn] at hi;unfold wpOp;simp only[hi];rw[if_pos hw];refine .inl (h _ fun a' w' L' I H h3=>⟨fun u=>Sat W u L',I,H,?_⟩)
 simpa [dR] using h3
theorem al7 (hr:Region.ready .any l.toArray listed.toArray=[]) (h:Q .normal a w):dR P Q free l W fuel L listed a w:=by
 unfold dR
 cases fuel with
 |zero=>exact⟨hr,h⟩
 |succ n=>exact⟨fun _=>h,by rw[hr];simp⟩

/-! ### what only reads -/
variable {o:Oper} {K:Act->World->Prop} {k b off:Nat} {T:TypeId}
theorem adi {v:Value} (hr:(execOp a.eval o).run P w= .ok (.value v) w) (h:K (a.put o.dst v) w):o.wp P a w K Q:=by
 unfold Oper.wp;rw[hr];exact h
theorem uL {s:Sem Value} (hs:execOp a.eval o=(do let x <-s;pure (.value x))) {v:Value} (hr:s.run P w= .ok v w):(execOp a.eval o).run P w= .ok (.value v) w:=by
 rw[hs];simp[hr]
theorem rLd (O:Sat W w L) (T:TypeId) (x:Operand) (ho:o.op= .load T x) (b off:Nat) (V:a.eval x= .pointer (some ⟨b,off,none⟩)) (hT:jk P T=some false)
  {k E l v} (hk:Has L k (Cs b E l)) (hv:l[off]? =some v):(execOp a.eval o).run P w= .ok (.value v) w:=
 uL (s:=loadVar T ⟨b,off,none⟩) (by simp[execOp,ho,V,Instr.loadAt,Instr.sureAddr]) (Ce hT (O.cell hk hv))
theorem abx (O:Sat W w L) (T:TypeId) (x:Operand) (ho:o.op= .load T x) (b off:Nat) (V:a.eval x= .pointer (some ⟨b,off,none⟩)) (hT:jk P T=some true)
  {n} (hn:kr P T=some n) {k E l} (hk:Has L k (Cs b E l)) {vs:List Value} (hvs:(l.drop off).take n=vs) (hb:vs.length=n):(execOp a.eval o).run P w= .ok (.value (.agg vs.toArray)) w:=by
 subst hvs;exact uL (s:=loadVar T ⟨b,off,none⟩) (by simp[execOp,ho,V,Instr.loadAt,Instr.sureAddr])
  (AB hT hn hb fun j v hv=>O.cell hk (by
   rw[List.getElem?_take] at hv
   split at hv
   ·rwa [List.getElem?_drop] at hv
   ·cases hv))
theorem Rd.at {v:Value} {b off n sz c:Nat} {vs:List Value} {j:Nat} (h:Rd w (.slice (some ⟨b,off,none⟩) n c) n sz vs) (hn:0<n) (hv:vs[j]? =some v):w.cell? ⟨b,off+j,none⟩=some v:=by
 obtain⟨ao,c',I,_,_,_,h5⟩:=h;simp only[Value.slice.injEq,true_and] at I;obtain⟨rfl,rfl⟩:=I;obtain⟨b',off',h6,h7⟩:=h5 hn;simp only[Option.some.injEq,Addr.mk.injEq,and_true] at h6;obtain⟨rfl,rfl⟩:=h6;exact h7 _ _ hv
theorem nz {α:Type} {f:α->List Value} {l:List α} {x:α} {off n sz c:Nat} (h:Rd w (.slice (some ⟨b,off,none⟩) n c) n sz (l.flatMap f)) (hf:∀x∈l,(f x).length=sz) (T:TypeId) (y:Operand) (ho:o.op= .load T y) (ad:Nat) (hy:a.eval y= .pointer (some ⟨b,ad,none⟩)) (hT:jk P T=some true) (hs:kr P T=some sz)
  (i:Nat) (hj:ad=off+i*sz) (V:l[i]? =some x) (hn:0<n):(execOp a.eval o).run P w= .ok (.value (.agg (f x).toArray)) w:=by
 subst hj;exact uL (s:=loadVar T ⟨b,off+i*sz,none⟩) (by simp[execOp,ho,hy,Instr.loadAt,Instr.sureAddr])
  (AB hT hs (hf x (List.mem_of_getElem? V)) fun j u hu=>by rw[Nat.add_assoc];exact h.at hn (M3 hf V hu))
theorem fE {α:Type} {f:α->List Value} {l:List α} {x:α} {off n sz c:Nat} (h:Rd w (.slice (some ⟨b,off,none⟩) n c) n sz (l.flatMap f)) (hf:∀x∈l,(f x).length=sz) (T:TypeId) (y:Operand) (ho:o.op= .load T y) (ad:Nat) (hy:a.eval y= .pointer (some ⟨b,ad,none⟩)) (hT:jk P T=some false)
  (i j:Nat) (hj:ad=off+(i*sz+j)) (V:l[i]? =some x) {u:Value} (hu:(f x)[j]? =some u) (hn:0<n):(execOp a.eval o).run P w= .ok (.value u) w:=by
 subst hj;exact uL (s:=loadVar T ⟨b,off+(i*sz+j),none⟩) (by simp[execOp,ho,hy,Instr.loadAt,Instr.sureAddr]) (Ce hT (h.at hn (M3 hf V hu)))
theorem alr (O:Sat W w L) (T:TypeId) (x:Operand) (ho:o.op= .load T x) (b ad:Nat) (V:a.eval x= .pointer (some ⟨b,ad,none⟩)) (hT:jk P T=some false)
  {k E sz off c n vs} (hk:Has L k (Sl E sz (.slice (some ⟨b,off,none⟩) n c) n vs)) (j:Nat) (hj:ad=off+j) {v:Value} (hv:vs[j]? =some v):(execOp a.eval o).run P w= .ok (.value v) w:=by
 subst hj;exact uL (s:=loadVar T ⟨b,off+j,none⟩) (by simp[execOp,ho,V,Instr.loadAt,Instr.sureAddr]) (Ce hT (O.Ub hk hv).1)
theorem als {α:Type} {f:α->List Value} {xs:List α} {x:α} {off sz c E k:Nat} (O:Sat W w L) (T:TypeId) (y:Operand) (ho:o.op= .load T y) (b ad:Nat) (hy:a.eval y= .pointer (some ⟨b,ad,none⟩)) (hT:jk P T=some false)
  (hk:Has L k (Tb E sz f (.slice (some ⟨b,off,none⟩) xs.length c) xs)) (i j:Nat) (hj:ad=off+(i*sz+j)) (V:xs[i]? =some x) {u:Value} (hu:(f x)[j]? =some u):(execOp a.eval o).run P w= .ok (.value u) w:=by
 subst hj;exact uL (s:=loadVar T ⟨b,off+(i*sz+j),none⟩) (by simp[execOp,ho,hy,Instr.loadAt,Instr.sureAddr]) (Ce hT (O.Pk hk V hu).1)
theorem alu {α:Type} {f:α->List Value} {xs:List α} {x:α} {off sz c E k:Nat} (O:Sat W w L) (T:TypeId) (y:Operand) (ho:o.op= .load T y) (b ad:Nat) (hy:a.eval y= .pointer (some ⟨b,ad,none⟩)) (hT:jk P T=some true) (hn:kr P T=some sz)
  (hk:Has L k (Tb E sz f (.slice (some ⟨b,off,none⟩) xs.length c) xs)) (i:Nat) (hj:ad=off+i*sz) (V:xs[i]? =some x):(execOp a.eval o).run P w= .ok (.value (.agg (f x).toArray)) w:=by
 subst hj;have hl:=O.DI hk x (List.mem_of_getElem? V);exact uL (s:=loadVar T ⟨b,off+i*sz,none⟩) (by simp[execOp,ho,hy,Instr.loadAt,Instr.sureAddr])
  (AB hT hn hl fun j u hu=>by rw[Nat.add_assoc];exact(O.Pk hk V hu).1)
theorem rCv (S T:TypeId) (x:Operand) (ho:o.op= .convert S T x) (xv:Value) (V:a.eval x=xv) {e:TypeId} (hST:IB P S T=some e)
  {n:Nat} {l:List UInt8} (hr:Rd w xv n 1 (bv l)):(execOp a.eval o).run P w= .ok (.value (.string ⟨l.toArray⟩)) w:=by
 unfold IB at hST
 split at hST
 ·rename_i e' O hT
  split at hST
  ·rename_i he
   have hrun:=hr.bytes (P:=P);obtain⟨ao,c,rfl,_⟩:=hr;refine uL (s:=convert S T (.slice ao n c)) (by simp[execOp,ho,V]) (v:= .string ⟨l.toArray⟩) ?_
   cases ao<;>simp[convert,run_underlying O,run_underlying hT,run_underlying he,hrun]
  ·cases hST
 ·cases hST

/-! ### the same, in all worlds that meet L -/
section
variable {W:World} {L:List aA}
theorem UO (T:TypeId) (x:Operand) (ho:o.op= .load T x) (b off:Nat) (V:a.eval x= .pointer (some ⟨b,off,none⟩)) (hT:jk P T=some false)
  {k E l v} (hk:Has L k (Cs b E l)) (hv:l[off]? =some v):∀u,Sat W u L->(execOp a.eval o).run P u= .ok (.value v) u:=fun _ O=>rLd O T x ho b off V hT hk hv
theorem Ll (T:TypeId) (x:Operand) (ho:o.op= .load T x) (b off:Nat) (V:a.eval x= .pointer (some ⟨b,off,none⟩)) (hT:jk P T=some true)
  {n} (hn:kr P T=some n) {k E l} (hk:Has L k (Cs b E l)) {vs:List Value} (hvs:(l.drop off).take n=vs) (hb:vs.length=n):∀u,Sat W u L->(execOp a.eval o).run P u= .ok (.value (.agg vs.toArray)) u:=
 fun _ O=>abx O T x ho b off V hT hn hk hvs hb
theorem FN (T:TypeId) (x:Operand) (ho:o.op= .load T x) (b ad:Nat) (V:a.eval x= .pointer (some ⟨b,ad,none⟩)) (hT:jk P T=some false)
  {k E sz off c n vs} (hk:Has L k (Sl E sz (.slice (some ⟨b,off,none⟩) n c) n vs)) (j:Nat) (hj:ad=off+j) {v:Value} (hv:vs[j]? =some v):∀u,Sat W u L->(execOp a.eval o).run P u= .ok (.value v) u:=
 fun _ O=>alr O T x ho b ad V hT hk j hj hv
theorem AX {α:Type} {f:α->List Value} {xs:List α} {x:α} {off sz c E k:Nat} (T:TypeId) (y:Operand) (ho:o.op= .load T y) (b ad:Nat) (hy:a.eval y= .pointer (some ⟨b,ad,none⟩)) (hT:jk P T=some false)
  (hk:Has L k (Tb E sz f (.slice (some ⟨b,off,none⟩) xs.length c) xs)) (i j:Nat) (hj:ad=off+(i*sz+j)) (V:xs[i]? =some x) {v:Value} (hu:(f x)[j]? =some v):∀u,Sat W u L->(execOp a.eval o).run P u= .ok (.value v) u:=
 fun _ O=>als O T y ho b ad hy hT hk i j hj V hu
theorem aoQ {α:Type} {f:α->List Value} {xs:List α} {x:α} {off sz c E k:Nat} (T:TypeId) (y:Operand) (ho:o.op= .load T y) (b ad:Nat) (hy:a.eval y= .pointer (some ⟨b,ad,none⟩)) (hT:jk P T=some true) (hn:kr P T=some sz)
  (hk:Has L k (Tb E sz f (.slice (some ⟨b,off,none⟩) xs.length c) xs)) (i:Nat) (hj:ad=off+i*sz) (V:xs[i]? =some x):∀u,Sat W u L->(execOp a.eval o).run P u= .ok (.value (.agg (f x).toArray)) u:=
 fun _ O=>alu O T y ho b ad hy hT hn hk i hj V
theorem xM (S T:TypeId) (x:Operand) (ho:o.op= .convert S T x) (xv:Value) (V:a.eval x=xv) {e:TypeId} (hST:IB P S T=some e)
  {n:Nat} {l:List UInt8} (hr:∀u,Sat W u L->Rd u xv n 1 (bv l)):∀u,Sat W u L->(execOp a.eval o).run P u= .ok (.value (.string ⟨l.toArray⟩)) u:=fun u O=>rCv S T x ho xv V hST (hr u O)
end
theorem kP (X:List Value):[Value.agg X.toArray].flatMap (fun v=>v.cells.toList)=X:=by simp[Value.cells]
theorem jC {v:Value} (h:v.cells= #[v]):[v].flatMap (fun v=>v.cells.toList)=[v]:=by simp[h]
theorem xh {α:Type} (f:α->List Value) (x:α):[x].flatMap f=f x:=by simp
theorem Sat.gZ {α:Type} {f:α->List Value} {x:α} {sz E b k:Nat} {L:List aA} (h:Sat W w L) (hk:Has L k (Cs b E (f x))) (hf:(f x).length=sz):Src w (.slice (some ⟨b,0,none⟩) 1 1) [x].length sz ([x].flatMap f):=by
 rw[xh];exact .inl (h.jc hk (by decide) (by simp[hf]))
theorem anr {α:Type} {f:α->List Value} {xs:List α} {off sz c E k n:Nat} (O:Sat W w L) (T:TypeId) (z y:Operand) (ho:o.op= .store T z y) (b ad:Nat) (hz:a.eval z= .pointer (some ⟨b,ad,none⟩)) (x':α) (hy:a.eval y= .agg (f x').toArray) (I:∀u∈f x',u.oneCell'=true) (hlen:(f x').length=sz) (hn:kr P T=some sz)
  (hk:Has L k (Tb E sz f (.slice (some ⟨b,off,none⟩) n c) xs)) (uA:xs.length=n) (i:Nat) (hj:ad=off+i*sz) (hi:i<n)
  (h:∀w',Sat W w' (L.set k (Tb E sz f (.slice (some ⟨b,off,none⟩) n c) (xs.set i x')))->K (a.put o.dst undef) w'):o.wp P a w K Q:=by
 subst uA;exact acp O T z y ho b ad hz x' hy I hlen hn hk i hj hi h
theorem Sat.anN {α:Type} {f:α->List Value} {xs:List α} {v:Value} {sz E k:Nat} (h:Sat W w L) (hk:Has L k (Tb E sz f v xs)):
  (v= .slice none 0 0/\xs=[])∨ ∃b off c,v= .slice (some ⟨b,off,none⟩) xs.length c/\xs.length<=c/\c<=9223372036854775807:=by
 rcases(h.front k hk).Ci.2.wJ with⟨I,H,_⟩|⟨E',b,off,cap,pre,rest,I,H,h3,_⟩
 ·exact .inl ⟨I,List.eq_nil_of_length_eq_zero H⟩
 ·exact .inr ⟨b,off,cap,I,H,h3⟩
theorem stW {k b E:Nat} {l:List Value} (O:Sat W w L) (T:TypeId) (x y:Operand) (ho:o.op= .store T x y) (V:a.eval x= .pointer (some ⟨b,0,none⟩)) (vs:List Value) (hy:a.eval y= .agg vs.toArray) (hv:∀v∈vs,v.oneCell'=true) (hn:kr P T=some vs.length)
  (hk:Has L k (Cs b E l)) (hb:vs.length=l.length) (h:∀w',Sat W w' (L.set k (Cs b E vs))->K (a.put o.dst undef) w'):o.wp P a w K Q:=by
 refine stA O T x y ho b 0 V vs hy hv hn hk (by omega) fun w' hS'=>h w' ?_
 rw[List.take_zero,List.nil_append,Nat.zero_add,List.drop_eq_nil_of_le (by omega),List.append_nil] at hS';exact hS'
theorem zg {α:Type} {f:α->List Value} {xs:List α} {k:Nat} (O:Sat W w L) (T T2:TypeId) (y z:Operand) (ho:o.op= .call {callee:= .builtin .append,args:= #[y,z],argTypes:= #[T,T2]}) (v xv:Value) (hy:a.eval y=v) (hz:a.eval z=xv)
  {e size bytes:Nat} {zv:Value} (hT:lV P T=some (e,size,bytes,some zv)) (hzs:zv.cells.size=size) (hpos:0<size) (kR:rD P T2=some false)
  (hk:Has L k (Tb e size f v xs)) (ys:List α) (hlen:∀x∈ys,(f x).length=size) (hsrc:Src w xv ys.length size (ys.flatMap f)) (I:∀u∈ys.flatMap f,u.oneCell'=true) (hb:(xs.length+ys.length)*bytes<=140737488355328) (hm:xs.length+ys.length<=9223372036854775807)
  (h:∀ao c w',(xs++ys).length<=c->Sat W w' (L.set k (Tb e size f (.slice ao (xs++ys).length c) (xs++ys)))->K (a.put o.dst (.slice ao (xs++ys).length c)) w'):o.wp P a w K Q:=by
 refine qJ O T T2 y z ho v xv hy hz hT hzs hpos kR hk ys hlen hsrc I hb hm fun v' w' hS'=>?_
 have hkl:k<L.length:=(List.getElem?_eq_some_iff.1 hk).1;obtain⟨ao,c,rfl,hc⟩:=hS'.fA (k:=k) (by unfold Has;rw[List.getElem?_set_self hkl]);exact h ao c w' hc hS'
theorem _root_.Go.Calls.uX {P:Program} {W w:World} {L:List aA} {k:Nat} {f:FuncId} {args:Array Value} {v:Value} {A A':aA} (O:Sat W w L) (hk:Has L k A)
  (hc:Sat W w (A::L.eraseIdx k)->Calls P f args w fun e w'=>e= .returned v/\Sat W w' (A'::L.eraseIdx k)):Calls P f args w fun e w'=>e= .returned v/\Sat W w' (L.set k A'):=
 (hc (O.front k hk)).mono fun _ _ ⟨I,H⟩=>⟨I,H.back hk⟩
/-! ### a call -/
def Gs (P:Program) (f:FuncId):Bool:=match P.funcs[f]? with|some fn=> !(fn.name== "runtime.NumGoroutine")&& !fn.body.isNone|none=>false
theorem abZ {f:FuncId} (h:Gs P f=true) (args:Array Value) (w:World):(callFunc f args).run P w= .ok (.enter f args) w:=by
 unfold Gs at h
 split at h
 ·rename_i fn hf
  simp only[Bool.and_eq_true,Bool.not_eq_true'] at h;have I:¬fn.name= "runtime.NumGoroutine" :=by simpa using h.1
  have H:¬fn.body=none:=fun e=>by rw[e] at h;simp at h
  simp[callFunc,hf,I,H]
 ·cases h
theorem cl (f:FuncId) (xs:List Operand) (ts:Array TypeId) (ho:o.op= .call {callee:= .value (.func f),args:=xs.toArray,argTypes:=ts}) {args:List Value} (V:xs.map a.eval=args)
  (hf:Gs P f=true) {R:Ending->World->Prop} (hc:Calls P f args.toArray w R) (h:∀e w',R e w'->∃v,e= .returned v/\K (a.put o.dst v) w'):o.wp P a w K Q:=by
 subst V;unfold Oper.wp
 have hr:(execOp a.eval o).run P w= .ok (.enter f (xs.map a.eval).toArray) w:=by
  rw[show execOp a.eval o=callFunc f (#[]++xs.toArray.map a.eval++ #[]) from by unfold execOp;rw[ho];rfl,abZ hf];simp
 rw[hr,Oper.upon_enter];refine hc.mono fun e w' he=>?_
 obtain⟨v,rfl,hK⟩:=h e w' he;exact hK
theorem Sat.AO {A:aA} {M:List aA} (h:Sat W w (A::St M::L)):Sat W w (St (M++[A])::L):=Sat.sH (by simpa using h.bW.open)
theorem Sat.yQ (h:Sat W w L):Sat W w (St []::L):=Sat.sH h
theorem Sat.one {A:aA} {k:Nat} (h:Sat W w L) (hk:Has L k A):Sat W w [A]:=by
 have H:=(h.front k hk);exact H.map fun _ ⟨I,H,s1,_,_,a,_⟩=>⟨I,fun _=>none,s1,(fun _ _ e=>by cases e),fun _=> .inr rfl,a,trivial⟩
theorem Sat.KV {A:aA} {M:List aA} {k j:Nat} (h:Sat W w L) (hk:Has L k (St M)) (hj:Has M j A):∃L',Sat W w (A::L'):=by
 have H:=(h.front k hk).open
 exact⟨_,H.front j (by rw[List.getElem?_append_left (List.getElem?_eq_some_iff.1 hj).1];exact hj)⟩
end
end Go.Sep
namespace Go.Sep
open Go Go.ChangeShapes Go.WideShapes Go.ChangeAt Go.RowKit

theorem abR {α:Type} {f:α->List Value} {Q:α->Prop} :∀ {rows:List (List Value)},(∀r∈rows,∃x,r=f x/\Q x)->∃l:List α,rows.flatten=l.flatMap f/\l.length=rows.length/\∀x∈l,Q x
 |[],_=>⟨[],rfl,rfl,by simp⟩
 |r::rows,h=>by
  obtain⟨x,V,hq⟩:=h r (by simp);obtain⟨l,I,H,h3⟩:=abR (rows:=rows) (fun r hr=>h r (List.mem_cons_of_mem _ hr));refine⟨x::l,by rw[V,List.flatten_cons,I];rfl,by simp[H],fun y hy=>?_⟩
  rcases List.mem_cons.1 hy with rfl|hy
  ·exact hq
  ·exact h3 y hy
section
variable {fP:Type} {enc:TypeId×Value->fP} {P:Program} {W w:World}
theorem cells3 {r:List Value} {a b c:Value} (h:r.length=3) (h0:(r.drop 0).take 1=[a]) (I:(r.drop 1).take 1=[b]) (H:(r.drop 2).take 1=[c]):r=[a,b,c]:=by
 match r,h with
 |[x0,x1,x2],_=>simp at h0 I H;subst h0;subst I;subst H;rfl
end
theorem Sat.upTo {W w:World} {L L':List aA} (h:Sat W w L) (f:∀u,Sat W u L->Sat W u L'):Sat W w L':=f _ h
theorem _root_.Go.Calls.Bu {P:Program} {W w:World} {L:List aA} {k:Nat} {f:FuncId} {args:Array Value} {α:Type} {kN:α->Value} {A:aA} {A':α->aA} (O:Sat W w L) (hk:Has L k A)
  (hc:Sat W w (A::L.eraseIdx k)->Calls P f args w fun e w'=>∃x,e= .returned (kN x)/\Sat W w' (A' x::L.eraseIdx k)):Calls P f args w fun e w'=>∃x,e= .returned (kN x)/\Sat W w' (L.set k (A' x)):=
 (hc (O.front k hk)).mono fun _ _ ⟨x,I,H⟩=>⟨x,I,H.back hk⟩
end Go.Sep
namespace Go.Sep
open Go

def Q8 (P:Program) (S T:TypeId):Option TypeId:=
 match P.underlying S,P.underlying T with
 |some .string,some (.slice e)=>(match P.underlying e with|some (.int .u8)=>some e|_=>none)
 |_,_=>none
section
variable {P:Program} {Q:Exit->Act->World->Prop} {W w:World} {L:List aA} {a:Act} {o:Oper} {K:Act->World->Prop}
theorem Sat.agw (O:Sat W w L) (e:TypeId) (s:ByteArray):Sat W (Lib.bytesWorld w e s) (rT w.heap.size (.cells (Lib.bytesCells w e s) e ((Lib.bytesCells w e s).size,(Lib.bytesCells w e s).size+1))::L):=by
 refine(O.drew.alloc (.cells (Lib.bytesCells w e s) e)).turn rfl rfl (Lib.bytesWorld_at_new w e s) fun c p hc hp=>?_
 have hc':c≠w.heap.size:=hc
 have hlt:c<w.heap.size+1:=by
  have:=(Array.getElem?_eq_some_iff.1 hp).1
  have e1:(w.drew.alloc (.cells (Lib.bytesCells w e s) e)).heap.size=w.heap.size+1:=by
   rw[show(w.drew.alloc (.cells (Lib.bytesCells w e s) e)).heap=w.heap.push (.cells (Lib.bytesCells w e s) e) from rfl,Array.size_push]
  rw[e1] at this;exact this
 rw[Lib.bytesWorld_at_old w e s c (by omega)];have H:(w.drew.alloc (.cells (Lib.bytesCells w e s) e)).heap=w.heap.push (.cells (Lib.bytesCells w e s) e):=rfl;rw[H,Array.getElem?_push,if_neg (by omega)] at hp;exact hp
theorem yw (O:Sat W w L) (S T:TypeId) (x:Operand) (ho:o.op= .convert S T x) (l:List UInt8) (V:a.eval x= .string ⟨l.toArray⟩) {e:TypeId} (hST:Q8 P S T=some e) (hm:l.length<=9223372036854775807)
  (h:∀b c w',Sat W w' (Sl e 1 (.slice (some ⟨b,0,none⟩) l.length c) l.length (bv l)::L)->K (a.put o.dst (.slice (some ⟨b,0,none⟩) l.length c)) w'):o.wp P a w K Q:=by
 unfold Q8 at hST
 split at hST
 ·rename_i e' hs ht
  split at hST
  ·rename_i he
   cases hST
   have hr:=Lib.run_convert_string_bytes (P:=P) w S T e ⟨l.toArray⟩ hs ht he;have hsz:(⟨l.toArray⟩:ByteArray).size=l.length:=by simp[ByteArray.size]
   rw[hsz] at hr;refine vG (s:=convert S T (.string ⟨l.toArray⟩)) (by simp[execOp,ho,V]) hr (h _ _ _ ?_);have hge:=grownCap_ge w l.length 0 e;have hle:=grownCap_le_maxLen w l.length 0 e (by unfold maxLen;exact hm);unfold maxLen at hle
   have hc:Lib.bytesCells w e ⟨l.toArray⟩=(bv l++List.replicate (grownCap w l.length 0 e-l.length) (Value.int .u8 0)).toArray:=by
    unfold Lib.bytesCells;rw[hsz];simp[bv,u8]
   have H:=O.agw e ⟨l.toArray⟩;rw[hc] at H;refine Sat.pW (pre:=[]) (vs:=bv l) (rest:=List.replicate (grownCap w l.length 0 e-l.length) (Value.int .u8 0)) (E':=e) ?_ hge hle (by simp[jR]) rfl (by simp[jR];omega);rw[List.nil_append];exact Sat.Kj (.inr (Nat.le_of_eq (by simp))) H
  ·cases hST
 ·cases hST
theorem Sat.Ua {E sz n k:Nat} {v:Value} {vs:List Value} (h:Sat W w L) (hk:Has L k (Sl E sz v n vs)):
  (v= .slice none 0 0/\n=0/\vs=[])∨ ∃b off c,v= .slice (some ⟨b,off,none⟩) n c/\n<=c/\c<=9223372036854775807:=by
 rcases(h.front k hk).wJ with⟨I,H,h3,_⟩|⟨E',b,off,cap,pre,rest,I,H,h3,_⟩
 ·exact .inl ⟨I,H,h3⟩
 ·exact .inr ⟨b,off,cap,I,H,h3⟩
theorem Sat.Uc {E sz n b off c:Nat} {vs:List Value} (h:Sat W w (Sl E sz (.slice (some ⟨b,off,none⟩) n c) n vs::L)):Sat W w (Sl E sz (.slice (some ⟨b,off,none⟩) n n) n vs::L):=by
 rcases h.wJ with⟨I,_⟩|⟨E',b',off',cap,pre,rest,I,g1,g2,g3,g4,g5,h5⟩
 ·cases I
 ·simp only[Value.slice.injEq,Option.some.injEq,Addr.mk.injEq,true_and,and_true] at I;obtain⟨⟨rfl,rfl⟩,rfl⟩:=I;exact Sat.pW h5 (Nat.le_refl _) (by omega) g3 g4 (by rw[g3];omega)
theorem UR (m:Nat):Builtin.zeroCells (Value.int .u8 0).cells m=(bv (List.replicate m (0:UInt8))).toArray:=by
 apply Array.ext';simp[Builtin.zeroCells,Value.cells,bv,u8,Nat.mod_one,List.map_const']
theorem amL {T T2 e ty:TypeId} (hT:lV P T=some (e,1,1,some (.int .u8 0))) (kR:rD P T2=some true) (ao:Option Addr) (n c m:Nat) (hm:n+m<=140737488355328) (w:World):
  (Builtin.append_ #[T,T2] ty #[.slice ao n c, .int .i64 m]).run P w=(Builtin.append_ #[T,T] ty #[.slice ao n c, .string ⟨(List.replicate m (0:UInt8)).toArray⟩]).run P w:=by
 obtain⟨hu,i,hi,hs1,hb1,hz⟩:=zm hT
 have hu2:∃k,P.underlying T2=some (.int k):=by
  unfold rD at kR
  cases h:P.underlying T2 with
  |none=>simp[h] at kR
  |some d=>cases d<;>simp[h,Ht] at kR ⊢
 obtain⟨k2,hu2⟩:=hu2;have hw:IntKind.i64.wrap (m:Int)=(m:Int):=IntWalk.i64_in _ (by omega);have w0:IntKind.i64.wrap 0=0:=IntWalk.i64_in 0 (by omega);have h0:¬((m:Int)<0):=by omega
 have I:¬(281474976710656< (m:Int)):=by omega
 have hsz:(⟨(List.replicate m (0:UInt8)).toArray⟩:ByteArray).size=m:=by simp[ByteArray.size]
 have hfc:∀u,(Builtin.firstCells 1 m (.string ⟨(List.replicate m (0:UInt8)).toArray⟩)).run P u= .ok (bv (List.replicate m (0:UInt8))).toArray u:=fun u=>by
  have h:=Src.cells (P:=P) (w:=u) (x:= .string ⟨(List.replicate m (0:UInt8)).toArray⟩) (m:=m) (sz:=1) (news:=bv (List.replicate m (0:UInt8))) (.inr ⟨_,rfl,hsz.symm,rfl,rfl⟩);exact h
 have hz0:m=0->(bv (List.replicate m (0:UInt8))).toArray= #[]:=fun h=>by subst h;rfl
 have hbv:bv []=[]:=rfl;generalize (⟨(List.replicate m (0:UInt8)).toArray⟩:ByteArray)=s at hsz hfc ⊢
 by_cases hroom:n+m<=c
 ·by_cases hm0:m=0
  ·subst hm0;rw[Nat.add_zero] at hroom
   cases ao<;>simp[Builtin.append_,Builtin.lenOf,run_underlying hu,run_underlying hu2,sizeOf,typeInfo,zeroValue,hi,hs1,hb1,hz,asInt,asIntOf,w0,hfc,hsz,hroom,hbv]
  ·cases ao<;>simp[Builtin.append_,Builtin.lenOf,run_underlying hu,run_underlying hu2,sizeOf,typeInfo,zeroValue,hi,hs1,hb1,hz,asInt,asIntOf,hw,h0,I,hfc,hsz,hroom,hm0,UR]
 ·have hm0:¬m=0∨m=0:=by omega
  have h63:¬(9223372036854775807< (n:Int)+(m:Int)):=by omega
  have h48:¬(281474976710656<Builtin.nextslicecap (n+m) c):=by
   have:=Ni (old:=c) (need:=n+m) (bytes:=1) (by omega) (by omega);omega
  rcases hm0 with hm0|hm0
  ·simp[Builtin.append_,Builtin.lenOf,run_underlying hu,run_underlying hu2,sizeOf,typeInfo,zeroValue,hi,hs1,hb1,hz,asInt,asIntOf,hw,h0,I,hfc,hsz,hroom,hm0,UR,h63,h48]
  ·subst hm0;rw[Nat.add_zero] at hroom h48;have h63:¬(9223372036854775807< (n:Int)):=by omega
   simp[Builtin.append_,Builtin.lenOf,run_underlying hu,run_underlying hu2,sizeOf,typeInfo,zeroValue,hi,hs1,hb1,hz,asInt,asIntOf,w0,hfc,hsz,hroom,UR,h63,h48,hbv]
theorem Wy {l:List UInt8} {v:Value} {k n m:Nat} (O:Sat W w L) (T T2:TypeId) (x y:Operand) (ho:o.op= .call {callee:= .builtin .append,args:= #[x,y],argTypes:= #[T,T2]}) (V:a.eval x=v) (hy:a.eval y= .int .i64 m)
  {e:TypeId} (hT:lV P T=some (e,1,1,some (.int .u8 0))) (kR:rD P T2=some true) (hTT:rD P T=some false)
  (hk:Has L k (Sl e 1 v n (bv l))) (hb:n+m<=140737488355328)
  (h:∀v' w',Sat W w' (L.set k (Sl e 1 v' (n+m) (bv (l++List.replicate m 0))))->K (a.put o.dst v') w'):o.wp P a w K Q:=by
 obtain⟨v',w',hr,hS'⟩:=O.abY (P:=P) T T o.type hT rfl (by decide) hTT hk (m:=m) (news:=bv (List.replicate m (0:UInt8))) (xv:= .string ⟨(List.replicate m (0:UInt8)).toArray⟩) (.inr ⟨_,rfl,by simp[ByteArray.size],rfl,rfl⟩) (uk _) (by omega) (by omega);obtain⟨ao,c,rfl,_⟩:=O.tK hk;rw[<-amL hT kR ao n c m hb w] at hr;have e1:bv l++bv (List.replicate m (0:UInt8))=bv (l++List.replicate m 0):=by simp[bv]
 rw[e1] at hS';have h3:=h v' w' hS';unfold Oper.wp;simp[execOp,ho,resolve,invoke,builtin,V,hy,hr,Oper.upon,h3]
theorem anq {α:Type} {f:α->List Value} {xs:List α} {off c E k n:Nat} (O:Sat W w L) (T:TypeId) (z y:Operand) (ho:o.op= .store T z y) (b ad:Nat) (hz:a.eval z= .pointer (some ⟨b,ad,none⟩)) (u:Value) (hy:a.eval y=u) (hu:u.oneCell'=true) (x':α) (hf:f x'=[u]) (hn:kr P T=some 1)
  (hk:Has L k (Tb E 1 f (.slice (some ⟨b,off,none⟩) n c) xs)) (uA:xs.length=n) (i:Nat) (hj:ad=off+i) (hi:i<n)
  (h:∀w',Sat W w' (L.set k (Tb E 1 f (.slice (some ⟨b,off,none⟩) n c) (xs.set i x')))->K (a.put o.dst undef) w'):o.wp P a w K Q:=by
 subst uA;subst hj;obtain⟨w',hr,hS'⟩:=O.acP (P:=P) hk x' hi (by rw[hf];rfl) (by rw[hf];simpa using hu);rw[hf,Nat.mul_one] at hr;have hc:u.cells= #[u]:=by cases u<;>simp_all [Value.oneCell',Value.cells]
 refine IM (s:=storeVar T ⟨b,off+i,none⟩ u) (w':=w') (by simp[execOp,ho,hz,hy,Instr.storeAt,Instr.sureAddr]) ?_ (h w' hS');simp[storeVar,KQ hn,hc,hr]
end
end Go.Sep
namespace Go.Sep
open Go
section
variable {P:Program} {Q:Exit->Act->World->Prop} {W w:World} {L:List aA} {a:Act} {o:Oper} {K:Act->World->Prop}
theorem Ac {l m:List UInt8} {v xv:Value} {k j:Nat} (O:Sat W w L) (T T2:TypeId) (x y:Operand) (ho:o.op= .call {callee:= .builtin .append,args:= #[x,y],argTypes:= #[T,T2]}) (V:a.eval x=v) (hy:a.eval y=xv)
  {e size bytes:Nat} {z:Value} (hT:lV P T=some (e,size,bytes,some z)) (hsz:size=1) (hbs:bytes=1) (hz:z.cells.size=size) (kR:rD P T2=some false)
  (hk:Has L k (Sl e 1 v l.length (bv l))) (hj:Has L j (Sl e 1 xv m.length (bv m))) (hb:l.length+m.length<=140737488355328)
  (h:∀v' w',Sat W w' (L.set k (Sl e 1 v' (l++m).length (bv (l++m))))->K (a.put o.dst v') w'):o.wp P a w K Q:=by
 subst hsz;subst hbs;refine ap O T T2 x y ho _ _ V hy hT hz (by decide) kR hk (m:=m.length) (.inl (O.dY hj)) (uk _) (by omega) (by omega) fun v' w' hS'=>h v' w' ?_
 rw[agq,List.length_append];exact hS'
theorem fF {b off n sz c:Nat} {vs:List Value} (h:Rd w (.slice (some ⟨b,off,none⟩) n c) n sz vs) (T:TypeId) (y:Operand) (ho:o.op= .load T y) (ad:Nat) (hy:a.eval y= .pointer (some ⟨b,ad,none⟩)) (hT:jk P T=some false)
  (j:Nat) (hj:ad=off+j) {u:Value} (hu:vs[j]? =some u) (hn:0<n):(execOp a.eval o).run P w= .ok (.value u) w:=by
 subst hj;exact uL (s:=loadVar T ⟨b,off+j,none⟩) (by simp[execOp,ho,hy,Instr.loadAt,Instr.sureAddr]) (Ce hT (h.at hn hu))
/-! ### == of structs -/
/-! ### a return whose first result is a variable of several cells -/
theorem Ae {fn:Func} {R:Ending->World->Prop} {p u:Tmp} {ty:TypeId} {k b E n:Nat} {vs:List Value} (O:Sat W w L) (h:fn.results= #[.cell p ty, .tmp u]) (ha:a.tmps.getD p undef= .pointer (some ⟨b,0,none⟩))
  (hT:jk P ty=some true) (hn:kr P ty=some n) (hk:Has L k (Cs b E vs)) (hl:vs.length=n) (hd:a.defers=[]) (hR:R (.returned (.tuple #[.agg vs.toArray,a.tmps.getD u undef])) w):bodyPost P fn R .ret a w:=by
 refine bodyPost_ret ?_ hd hR;rw[results_cell_tmp h,ha];have:=AB (P:=P) (w:=w) (b:=b) (off:=0) hT hn hl (fun j v hv=>by rw[Nat.zero_add];exact O.cell hk hv);simp[asAddr,this,Result.andThen]
theorem agk {fn:Func} {R:Ending->World->Prop} {p:Tmp} {ty:TypeId} {k b E n:Nat} {vs:List Value} (O:Sat W w L) (h:fn.results= #[.cell p ty]) (ha:a.tmps.getD p undef= .pointer (some ⟨b,0,none⟩))
  (hT:jk P ty=some true) (hn:kr P ty=some n) (hk:Has L k (Cs b E vs)) (hl:vs.length=n) (hd:a.defers=[]) (hR:R (.returned (.agg vs.toArray)) w):bodyPost P fn R .ret a w:=by
 refine bodyPost_ret ?_ hd hR;have:=AB (P:=P) (w:=w) (b:=b) (off:=0) hT hn hl (fun j v hv=>by rw[Nat.zero_add];exact O.cell hk hv);have ha':a.tmps[p]?.getD undef= .pointer (some ⟨b,0,none⟩):=by rw[<-ha];simp
 simp[results,h,ha',asAddr,this]
end
end Go.Sep
namespace Go.Sep
open Go

section
variable {κ α:Type} [DecidableEq κ]
def pos (k:κ):List (κ×Value×Nat)->Nat->Option (Nat×Value)
 |[],_=>none
 |x::l,i=>if k=x.1 then some (i,x.2.1) else pos k l (i+1)
def uw (ke:κ->Value) (x:κ×Value×Nat):MapEntry:=⟨ke x.1,x.2.1,x.2.2⟩
theorem abq {k:κ} {v:Value} {n:Nat} :∀ {l:List (κ×Value×Nat)} {i:Nat},pos k l i=none->∀k',pos k' (l++[(k,v,n)]) i=if k'=k then some (i+l.length,v) else pos k' l i
 |[],i,_,k'=>by
  by_cases h:k'=k<;>simp[pos,h]
 |x::l,i,h,k'=>by
  unfold pos at h
  by_cases I:k=x.1
  ·simp[I] at h
  ·simp only[if_neg I] at h;rw[List.cons_append];unfold pos;rw[abq h k']
   by_cases H:k'=x.1
   ·have:k'≠k:=fun e=>I (e▸H)
    simp[H,Ne.symm I]
   ·simp only[if_neg H,List.length_cons]
    by_cases h3:k'=k
    ·simp[h3];omega
    ·simp[h3]
theorem abp {k:κ} {v u:Value} :∀ {l:List (κ×Value×Nat)} {i j:Nat},pos k l i=some (j,u)->i<=j/\j<i+l.length/\(∃n,l[j-i]? =some (k,u,n))/\
   ∀k',pos k' (l.modify (j-i) fun x=>(k,v,x.2.2)) i=if k'=k then some (j,v) else pos k' l i
 |[],i,j,h=>by simp[pos] at h
 |x::l,i,j,h=>by
  unfold pos at h
  by_cases I:k=x.1
  ·simp only[if_pos I,Option.some.injEq,Prod.mk.injEq] at h;obtain⟨rfl,rfl⟩:=h;refine⟨Nat.le_refl _,by simp,⟨x.2.2,by simp[I]⟩,fun k'=>?_⟩;rw[Nat.sub_self,List.modify_zero_cons];unfold pos
   by_cases H:k'=k
   ·simp[H]
   ·have:k'≠x.1:=fun e=>H (e.trans I.symm)
    simp[H,this]
  ·simp only[if_neg I] at h;obtain⟨a1,a2,⟨n,a3⟩,a4⟩:=abp (v:=v) h;have e:j-i=(j-(i+1))+1:=by omega
   refine⟨by omega,by simp only[List.length_cons];omega,⟨n,by rw[e];simpa using a3⟩,fun k'=>?_⟩;rw[e,List.modify_succ_cons];unfold pos;rw[a4 k']
   by_cases H:k'=x.1
   ·have:k'≠k:=fun e=>I (e▸H)
    simp[H,Ne.symm I]
   ·simp[H]

structure Eo (P:Program) (kt:TypeId) (ke:κ->Value):Prop where
 check:∀(e:Bool) (k:κ) (w:World),(Instr.checkKey e 10000 kt (ke k)).run P w= .ok () w
 find:∀(k:κ) (l:List (κ×Value×Nat)) (w:World),(Instr.findKey kt (ke k) (l.map (uw ke))).run P w= .ok (pos k l 0) w
 bits:∀k,Instr.sameBits 10000 (ke k) (ke k)=true
theorem Yc (q:IntKind) (a:Int):∀(l:List (Int×Value×Nat)) (i:Nat),Instr.findNow (.int q) (.int q a) (l.map (uw (.int q))) i=some (pos a l i)
 |[],_=>rfl
 |x::l,i=>by
  simp only[List.map_cons,Instr.findNow,uw,Instr.sameNow,if_true,pos]
  by_cases h:a=x.1
  ·simp[h]
  ·have:(a==x.1)=false:=beq_eq_false_iff_ne.2 h;simp only[this,if_neg h];exact Yc q a l (i+1)
theorem ajw {P:Program} {kt:TypeId} {q:IntKind} (h:P.underlying kt=some (.int q)):Eo P kt (Value.int q) where
 check e k w:=MapKept.run_checkKey h (by simp[MapKept.IsKey]) e 9999
 find k l w:=by simp[Instr.findKey,run_underlying h,Yc q k l 0]
 bits k:=by simp[Instr.sameBits]
theorem Yb {P:Program} {kt:TypeId} {ke:κ->Value} (he:∀k k' w,(Op.equalIn 10000 kt (ke k) (ke k')).run P w= .ok (decide (k=k')) w) (k:κ) (w:World):∀(l:List (κ×Value×Nat)) (i:Nat),
  (Instr.findAsking kt (ke k) (l.map (uw ke)) i).run P w= .ok (pos k l i) w
 |[],i=>by simp[Instr.findAsking,pos]
 |x::l,i=>by
  have I:=he k x.1 w;simp only[List.map_cons,Instr.findAsking,uw,Sem.run_bind,Op.equal,Op.maxDepth,I,Result.andThen_ok,pos]
  by_cases h:k=x.1
  ·simp[h]
  ·simp only[h,decide_false,Bool.false_eq_true,if_false];exact Yb he k w l (i+1)
theorem ZP {P:Program} {kt:TypeId} {ke:κ->Value} {fs:Array Field} (h:P.underlying kt=some (.struct fs)) (hag:∀k,∃cs,ke k= .agg cs) (he:∀k k' w,(Op.equalIn 10000 kt (ke k) (ke k')).run P w= .ok (decide (k=k')) w)
  (hc:∀(e:Bool) (k:κ) (w:World),(Instr.checkKey e 10000 kt (ke k)).run P w= .ok () w) (hb:∀k,Instr.sameBits 10000 (ke k) (ke k)=true):Eo P kt ke where
 check:=hc
 find k l w:=by
  cases l with
  |nil=>simp[Instr.findKey,run_underlying h,Instr.findNow,pos]
  |cons x l=>
   have hn:Instr.findNow (.struct fs) (ke k) ((x::l).map (uw ke)) 0=none:=by
    obtain⟨cs,hcs⟩:=hag k;simp[Instr.findNow,hcs,Instr.sameNow]
   have:=Yb he k w (x::l) 0;simp only[Instr.findKey,Sem.run_bind,run_underlying h,Result.andThen_ok,hn];exact this
 bits:=hb

def Mp (ke:κ->Value) (ve:α->Value) (b:Nat) (f:κ->Option α):aA:=
 Ex fun x:List (κ×Value×Nat)×Nat=>St [Pu (∀k,(f k).map ve=(pos k x.1 0).map (·.2)),rT b (.map (x.1.map (uw ke)).toArray x.2)]
def cO (P:Program) (T:TypeId):Option (TypeId×TypeId):=match P.underlying T with|some (.map k e)=>some (k,e)|_=>none
theorem SS {P:Program} {T kt et:TypeId} (h:cO P T=some (kt,et)):P.underlying T=some (.map kt et):=by
 unfold cO at h
 split at h
 ·rename_i I;simp only[Option.some.injEq,Prod.mk.injEq] at h;obtain⟨rfl,rfl⟩:=h;exact I
 ·cases h
variable {P:Program} {Q:Exit->Act->World->Prop} {W w:World} {L:List aA} {a:Act} {o:Oper} {K:Act->World->Prop} {ke:κ->Value} {ve:α->Value} {b j:Nat} {f:κ->Option α}
theorem Sat.aaw (h:Sat W w (Mp ke ve b f::L)):∃l c,(∀k,(f k).map ve=(pos k l 0).map (·.2))/\Sat W w (rT b (.map (l.map (uw ke)).toArray c)::L):=by
 obtain⟨⟨l,c⟩,h⟩:=h.ex;have H:Sat W w (Pu _::rT b (.map (l.map (uw ke)).toArray c)::L):=h.open
 obtain⟨h3,h4⟩:=H.pu;exact⟨l,c,h3,h4⟩
theorem Sat.aav {l:List (κ×Value×Nat)} {c:Nat} (hf:∀k,(f k).map ve=(pos k l 0).map (·.2)) (h:Sat W w (rT b (.map (l.map (uw ke)).toArray c)::L)):Sat W w (Mp ke ve b f::L):=Sat.yH (l,c) (Sat.sH (Sat.E9 hf h))
def yJ (ve:α->Value) (zv:Value):Option α->Value
 |none=>zv
 |some x=>ve x
theorem FC (O:Sat W w L) (T:TypeId) (x ix:Operand) (ok:Bool) (ho:o.op= .lookup T x ix ok) (V:a.eval x= .map (some b)) (k:κ) (hk:a.eval ix=ke k) {kt et:TypeId} (hT:cO P T=some (kt,et)) (hK:Eo P kt ke)
  {zv:Value} (hz:nU P et=some (some zv)) (hh:Has L j (Mp ke ve b f)):(execOp a.eval o).run P w= .ok (.value (if ok then .tuple #[yJ ve zv (f k), .bool (f k).isSome] else yJ ve zv (f k))) w:=by
 obtain⟨l,c,hf,H⟩:=(O.front j hh).aaw;have hg:=MapKept.run_getObj_map (P:=P) H.blk;have Hd:=hK.find k l w;have hck:=fun e=>hK.check e k w
 have hp:=hf k
 have hrun:(Instr.lookup T (.map (some b)) (ke k) ok).run P w= .ok (if ok then .tuple #[yJ ve zv (f k), .bool (f k).isSome] else yJ ve zv (f k)) w:=by
  simp only[Instr.lookup,Sem.run_bind,run_underlying (SS hT),Result.andThen_ok,hg,Sem.run_pure,hck,Hd]
  cases hpos:pos k l 0 with
  |none=>
   rw[hpos] at hp
   cases Np:f k with
   |none=>simp[ab5 hz,yJ]
   |some y=>rw[Np] at hp;simp at hp
  |some y=>
   rw[hpos] at hp
   cases Np:f k with
   |none=>rw[Np] at hp;simp at hp
   |some z=>rw[Np] at hp;simp at hp;simp[yJ,hp]
 exact uL (s:=Instr.lookup T (.map (some b)) (ke k) ok) (by simp[execOp,ho,V,hk]) hrun
theorem Kk (O:Sat W w L) (T:TypeId) (m ix y:Operand) (ho:o.op= .mapUpdate T m ix y∨o.op= .insert T m ix y) (hm:a.eval m= .map (some b)) (k:κ) (hk:a.eval ix=ke k) (x:α) (hy:a.eval y=ve x) {kt et:TypeId} (hT:cO P T=some (kt,et)) (hK:Eo P kt ke)
  (hh:Has L j (Mp ke ve b f)) (h:∀w',Sat W w' (L.set j (Mp ke ve b fun k'=>if k'=k then some x else f k'))->K (a.put o.dst undef) w'):o.wp P a w K Q:=by
 obtain⟨l,c,hf,H⟩:=(O.front j hh).aaw;have hg:=MapKept.run_getObj_map (P:=P) H.blk;have Hd:=hK.find k l w;have hck:=hK.check false k w
 have hex:execOp a.eval o=(do Instr.mapUpdate T (.map (some b)) (ke k) (ve x);pure .skip):=by
  rcases ho with ho|ho<;>simp[execOp,ho,hm,hk,hy]
 have key:∀ {l':List (κ×Value×Nat)} {c':Nat},(∀k',(if k'=k then some x else f k').map ve=(pos k' l' 0).map (·.2))->
   Sat W {w with heap:=w.heap.setIfInBounds b (.map (l'.map (uw ke)).toArray c')} (L.set j (Mp ke ve b fun k'=>if k'=k then some x else f k')):=fun {l' c'} hf'=>by
  have hlt:=H.lt;refine Sat.back (Sat.aav (l:=l') (c:=c') hf' (H.turn rfl rfl ?_ fun c p hc hp=>?_)) hh
  ·simp[hlt]
  ·rw[Array.getElem?_setIfInBounds_ne (Ne.symm hc)];exact hp
 cases hpos:pos k l 0 with
 |none=>
  rw[hpos] at Hd
  have hr:(Instr.mapUpdate T (.map (some b)) (ke k) (ve x)).run P w= .ok () {w with heap:=w.heap.setIfInBounds b (.map ((l++[(k,ve x,c)]).map (uw ke)).toArray (c+1))} :=by
   simp only[Instr.mapUpdate,Sem.run_bind,run_underlying (SS hT),Result.andThen_ok,hg,hck,Hd,MapKept.run_setObj_map _ H.blk];simp[uw]
  refine IM hex hr (h _ (key fun k'=>?_));rw[abq hpos k']
  by_cases hkk:k'=k
  ·simp[hkk]
  ·simp only[if_neg hkk];exact hf k'
 |some y=>
  obtain⟨i,u⟩:=y;obtain⟨h3,h4,⟨n,h5⟩,h6⟩:=abp (v:=ve x) hpos;rw[hpos] at Hd;have aiX:∀w',(Instr.keyThatStays (ke k) (ke k)).run P w'= .ok (ke k) w':=fun w'=>by simp[Instr.keyThatStays,hK.bits]
  have hgi:((l.map (uw ke)).toArray[i]?.map (·.key)).getD (ke k)=ke k:=by
   simp only[Nat.sub_zero] at h5;simp[h5,uw]
  have hr:(Instr.mapUpdate T (.map (some b)) (ke k) (ve x)).run P w= .ok () {w with heap:=w.heap.setIfInBounds b (.map ((l.modify i fun x'=>(k,ve x,x'.2.2)).map (uw ke)).toArray c)} :=by
   simp only[Instr.mapUpdate,Sem.run_bind,run_underlying (SS hT),Result.andThen_ok,hg,hck,Hd,hgi,aiX,MapKept.run_setObj_map _ H.blk];congr 3;congr 1;apply Array.ext';apply List.ext_getElem?;intro t;simp only[Array.toList_modify,List.getElem?_modify,List.getElem?_map]
   by_cases ht:i=t
   ·subst ht;simp only[if_true]
    cases l[i]? with
    |none=>rfl
    |some y=>rfl
   ·simp[ht]
  refine IM hex hr (h _ (key fun k'=>?_));have:=h6 k';rw[Nat.sub_zero] at this;rw[this]
  by_cases hkk:k'=k
  ·simp[hkk]
  ·simp only[if_neg hkk];exact hf k'
theorem S9 (ke:κ->Value) (ve:α->Value) (O:Sat W w L) (T:TypeId) (ho:o.op= .makeMap T none) (h:∀b w',Sat W w' (Mp ke ve b (fun _=>none)::L)->K (a.put o.dst (.map (some b))) w'):o.wp P a w K Q:=by
 exact vG (s:=Instr.makeMap T none) (v:= .map (some w.heap.size)) (w':=w.alloc (.map #[] 0)) (by simp[execOp,ho]) rfl (h _ _ (Sat.aav (l:=[]) (c:=0) (by simp[pos]) (O.alloc _)))
end
attribute [irreducible] Mp
end Go.Sep
namespace Go.Sep
open Go
def iv (l:List Nat):List Value:=l.map fun x:Nat=>Value.int .i64 (x:Int)
theorem Ar (l:List Nat):(iv l).length=l.length:=by simp[iv]
theorem aju (l m:List Nat):iv (l++m)=iv l++iv m:=by simp[iv]
theorem SF (l:List Nat):∀u∈iv l,u.oneCell'=true:=by
 intro u hu;obtain⟨_,_,rfl⟩:=List.mem_map.1 hu;rfl
theorem qw {l:List Nat} {k x:Nat} (h:l[k]? =some x):(iv l)[k]? =some (.int .i64 (x:Int)):=by simp[iv,h]
theorem ZN (l:List Nat) (n:Nat):(iv l).take n=iv (l.take n):=by simp[iv,List.map_take]
theorem ZM (l:List Nat) (n:Nat):(iv l).drop n=iv (l.drop n):=by simp[iv,List.map_drop]
def Ir (v:Value) (l:List Nat):aA:=Sl 0 1 v l.length (iv l)
theorem Iy (E E' sz:Nat) (v:Value) (n:Nat) (vs:List Value):Sl E sz v n vs=Sl E' sz v n vs:=by unfold Sl;rfl
def eF (x:Value):List Value:=[x]
theorem TA (l:List Value):l.flatMap eF=l:=by
 induction l with
 |nil=>rfl
 |cons x l ih=>rw[List.flatMap_cons,ih];rfl
def uV {β:Type} (R:Value->β->aA) (v:Value) (xs:List β):aA:=
 Ex fun vs:List Value=>St [Pu (vs.length=xs.length),Tb 0 1 eF v vs,St (List.zipWith R vs xs)]
section
variable {β:Type} {R:Value->β->aA} {P:Program} {W w:World} {L:List aA} {k i:Nat} {v u:Value} {xs:List β} {vs:List Value} {x:β}
theorem Sat.ab7 (h:Sat W w (uV R v xs::L)):∃vs,vs.length=xs.length/\Sat W w (Tb 0 1 eF v vs::St (List.zipWith R vs xs)::L):=by
 obtain⟨vs,h⟩:=h.ex;have H:Sat W w (Pu (vs.length=xs.length)::Tb 0 1 eF v vs::St (List.zipWith R vs xs)::L):=h.open
 obtain⟨h3,h4⟩:=H.pu;exact⟨vs,h3,h4⟩
theorem Sat.KS (hl:vs.length=xs.length) (h:Sat W w (Tb 0 1 eF v vs::St (List.zipWith R vs xs)::L)):Sat W w (uV R v xs::L):=Sat.yH vs (Sat.sH (Sat.E9 hl h))
theorem Sat.ab6 (h:Sat W w L):Sat W w (uV R (.slice none 0 0) []::L):=Sat.KS (vs:=[]) rfl ((Sat.yQ h).jb)
theorem Sat.Uj (h:Sat W w L) (hk:Has L k (St (List.zipWith R vs xs))) (hu:vs[i]? =some u) (V:xs[i]? =some x):∃L',Sat W w (R u x::L'):=by
 refine h.KV hk (j:=i) (A:=R u x) ?_;unfold Has;rw[List.getElem?_zipWith,hu,V]
theorem Sat.aco {A:aA} {M:List aA} (h:Sat W w (A::St M::L)) (hi:i<M.length):Sat W w (St (M.set i A)::L):=by
 have H:Sat W w (A::(M++L)):=by
  have h3:=h.bW.open
  exact h3.perm (List.perm_middle (l₁:=M))
 refine Sat.sH ?_;obtain⟨B,hB⟩:∃B,M[i]? =some B:=⟨_,List.getElem?_eq_getElem hi⟩
 have h3:Sat W w (A::(M.eraseIdx i++L)):=by
  have h4:(M++L)[i]? =some B:=by rw[List.getElem?_append_left hi];exact hB
  have h5:=H.front (i+1) (A:=B) (by simpa using h4);rw[List.eraseIdx_cons_succ,List.eraseIdx_append_of_lt_length hi] at h5;exact h5.drop
 refine h3.perm ?_;have e:M.set i A=M.take i++A::M.drop (i+1):=by rw[List.set_eq_take_append_cons_drop,if_pos hi]
 rw[e,List.eraseIdx_eq_take_drop_succ];simp only[List.append_assoc,List.cons_append];exact List.perm_middle.symm
theorem adu (R:Value->β->aA) (vs:List Value) (xs:List β) (i:Nat) (u:Value) (x:β):List.zipWith R (vs.set i u) (xs.set i x)=(List.zipWith R vs xs).set i (R u x):=by
 induction vs generalizing xs i with
 |nil=>simp
 |cons v vs ih=>
  cases xs with
  |nil=>simp
  |cons y ys=>
   cases i with
   |zero=>simp
   |succ i=>simp[ih]
theorem adv (R:Value->β->aA) {vs:List Value} {xs:List β} (h:vs.length=xs.length) (u:Value) (x:β):List.zipWith R (vs++[u]) (xs++[x])=List.zipWith R vs xs++[R u x]:=by
 rw[List.zipWith_append h];rfl
theorem Sat.mg (h:Sat W w L) {l:List Nat} (hk:Has L k (Ir v l)):∃ao c,v= .slice ao l.length c/\l.length<=c:=by
 obtain⟨ao,c,I,H,_⟩:=h.tK (k:=k) hk;exact⟨ao,c,I,H⟩
theorem Sat.oG (h:Sat W w L) {l:List Nat} (hk:Has L k (Ir v l)):Rd w v l.length 1 (iv l):=h.dY (k:=k) hk
theorem Sat.wh (h:Sat W w L):Sat W w (Ir (.slice none 0 0) []::L):=by
 have:=h.kJ (E:=0) (sz:=1);exact this
theorem Sat.take2 {A B:aA} (h:Sat W w (A::B::L)):Sat W w [A,B]:=h.map fun _ ⟨I,H,s1,s2,d,a,k1,k2,t1,t2,e,b,_⟩=>⟨I,H,s1,s2,d,a,k1,k2,t1,t2,e,b,trivial⟩
variable {Q:Exit->Act->World->Prop} {a:Act} {o:Oper} {K:Act->World->Prop}
theorem rz {l m:List Nat} {xv:Value} (O:Sat W w L) (T T2:TypeId) (x y:Operand) (ho:o.op= .call {callee:= .builtin .append,args:= #[x,y],argTypes:= #[T,T2]}) (V:a.eval x=v) (hy:a.eval y=xv)
  {e size bytes:Nat} {z:Value} (hT:lV P T=some (e,size,bytes,some z)) (hsz:size=1) (hbs:bytes=8) (hz:z.cells.size=size) (kR:rD P T2=some false)
  (hk:Has L k (Ir v l)) (hr:Rd w xv m.length 1 (iv m)) (hb:l.length+m.length<=17592186044416)
  (h:∀v' w',Sat W w' (L.set k (Ir v' (l++m)))->K (a.put o.dst v') w'):o.wp P a w K Q:=by
 subst hsz;subst hbs;unfold Ir at hk;rw[Iy 0 e] at hk;refine ap O T T2 x y ho _ _ V hy hT hz (by decide) kR hk (m:=m.length) (.inl hr) (SF _) (by omega) (by omega) fun v' w' hS'=>h v' w' ?_
 unfold Ir;rw[aju,List.length_append,Iy 0 e];exact hS'
theorem ahL {α:Type} {f:α->List Value} {sz i j:Nat} {xs:List α} {x y:α} {u:Value} (h:∀x∈xs,(f x).length=sz) (V:xs[i]? =some x) (hj:j<sz) (hy:f y=(f x).set j u):(xs.flatMap f).set (i*sz+j) u=(xs.set i y).flatMap f:=by
 have hi:=(List.getElem?_eq_some_iff.1 V).1;have hfx:=h x (List.mem_of_getElem? V);have hl:=EK h (Nat.le_of_lt hi);have H:(xs.set i y)[i]? =some y:=by simp[hi]
 rw[zn H,zn V,List.take_set_of_le (Nat.le_refl i),List.drop_set_of_lt (by omega),hy,<-hl];exact aao u (by omega)
theorem DD {α:Type} {f:α->List Value} {ys:List α} {y:α} {off sz c E n:Nat} (O:Sat W w L) (T:TypeId) (z t:Operand) (ho:o.op= .store T z t) (b ad:Nat) (hz:a.eval z= .pointer (some ⟨b,ad,none⟩)) (u:Value) (ht:a.eval t=u) (hu:u.oneCell'=true) (hn:kr P T=some 1)
  (hk:Has L k (Tb E sz f (.slice (some ⟨b,off,none⟩) n c) ys)) (hyn:ys.length=n) (i j:Nat) (hj:ad=off+(i*sz+j)) (hy:ys[i]? =some y) (y'':α) (hf:f y''=(f y).set j u) (hjs:j<sz)
  (h:∀w',Sat W w' (L.set k (Tb E sz f (.slice (some ⟨b,off,none⟩) n c) (ys.set i y'')))->K (a.put o.dst undef) w'):o.wp P a w K Q:=by
 subst hyn;obtain⟨hfl,H⟩:=(O.front k hk).Ci;have hi:=(List.getElem?_eq_some_iff.1 hy).1;have hle:(i+1)*sz<=ys.length*sz:=Nat.mul_le_mul_right _ hi;rw[Nat.add_mul,Nat.one_mul] at hle;refine Cf H T z t ho b ad hz u ht hu hn (k:=0) rfl (i*sz+j) hj (by rw[BD hfl];omega) fun w' hS'=>h w' ?_
 simp only[List.set_cons_zero] at hS';rw[ahL hfl hy hjs hf] at hS';refine Sat.back (Sat.K5 (fun x V=>?_) (by rw[List.length_set];exact hS')) hk
 rcases List.mem_or_eq_of_mem_set V with V|rfl
 ·exact hfl x V
 ·rw[hf,List.length_set];exact hfl y (List.mem_of_getElem? hy)
end
end Go.Sep
namespace Go.Sep
open Go
section
variable {P:Program} {Q:Exit->Act->World->Prop} {free:List Nat} {l:List Oper} {W w:World} {L L':List aA} {fuel:Nat} {listed:List Bool} {a:Act}
def Step (P:Program) (Q:Exit->Act->World->Prop) (free:List Nat) (l:List Oper) (W:World) (fuel:Nat) (L:List aA) (listed:List Bool) (a:Act) (w:World) (oi:Oper):Prop:=
 ∀K:Act->World->Prop,(∀a' w' (L':List aA),Sat W w' L'->(∀u,Sat W u L'->Sat W u L)->dR P Q free l W fuel L' listed a' w'->K a' w')->oi.wp P a w K Q
theorem al8 (i j:Nat) {oi oj:Oper} (hi:nth l i=some oi) (hj:nth l j=some oj) (hr:Region.ready .any l.toArray listed.toArray=[i,j])
  (EW:Region.wanted oi (yielded l.toArray a.tmps)=true) (EX:Region.wanted oj (yielded l.toArray a.tmps)=true) {li lj:List Bool} (pM:listed.set i true=li) (hlj:listed.set j true=lj)
  (I:Step P Q free l W fuel L li a w oi) (H:Step P Q free l W fuel L lj a w oj):dR P Q free l W (fuel+1) L listed a w:=by
 subst pM;subst hlj;unfold dR AV;refine⟨fun h0=>(by rw[hr] at h0;cases h0),fun k hk=>?_⟩;rw[hr] at hk;simp only[List.mem_cons,List.not_mem_nil,or_false] at hk;rw[Dn] at hi hj;unfold wpOp
 rcases hk with rfl|rfl
 ·simp only[hi];rw[if_pos EW];refine .inl (I _ fun a' w' L' I H h3=>⟨fun u=>Sat W u L',I,fun _=>H,?_⟩)
  simpa [dR] using h3
 ·simp only[hj];rw[if_pos EX];refine .inl (H _ fun a' w' L' I H h3=>⟨fun u=>Sat W u L',I,fun _=>H,?_⟩)
  simpa [dR] using h3
theorem al9 (i j m:Nat) {oi oj om:Oper} (hi:nth l i=some oi) (hj:nth l j=some oj) (hm:nth l m=some om) (hr:Region.ready .any l.toArray listed.toArray=[i,j,m])
  (EW:Region.wanted oi (yielded l.toArray a.tmps)=true) (EX:Region.wanted oj (yielded l.toArray a.tmps)=true) (hwm:Region.wanted om (yielded l.toArray a.tmps)=true) {li lj lm:List Bool} (pM:listed.set i true=li) (hlj:listed.set j true=lj) (hlm:listed.set m true=lm)
  (I:Step P Q free l W fuel L li a w oi) (H:Step P Q free l W fuel L lj a w oj) (h3:Step P Q free l W fuel L lm a w om):dR P Q free l W (fuel+1) L listed a w:=by
 subst pM;subst hlj;subst hlm;unfold dR AV;refine⟨fun h0=>(by rw[hr] at h0;cases h0),fun k hk=>?_⟩;rw[hr] at hk;simp only[List.mem_cons,List.not_mem_nil,or_false] at hk;rw[Dn] at hi hj hm;unfold wpOp
 rcases hk with rfl|rfl|rfl
 ·simp only[hi];rw[if_pos EW];refine .inl (I _ fun a' w' L' I H h3=>⟨fun u=>Sat W u L',I,fun _=>H,?_⟩)
  simpa [dR] using h3
 ·simp only[hj];rw[if_pos EX];refine .inl (H _ fun a' w' L' I H h3=>⟨fun u=>Sat W u L',I,fun _=>H,?_⟩)
  simpa [dR] using h3
 ·simp only[hm];rw[if_pos hwm];refine .inl (h3 _ fun a' w' L' I H h3=>⟨fun u=>Sat W u L',I,fun _=>H,?_⟩)
  simpa [dR] using h3
theorem aqm {C:Prop} {Lm Lp Lr Ls Lt Lu:Type} (R:Lm->Lp->Lr->Ls->Lt->Lu->World->Prop) (LJ:List aA) {A:Lm->Lp->Lr->Ls->Lt->Lu->Act} {J9:List Bool} {fl:Nat}
  (I:(∀x1 x2 x3 x4 x5 x6 w',R x1 x2 x3 x4 x5 x6 w'->dR P Q free l W fl LJ J9 (A x1 x2 x3 x4 x5 x6) w')->C->dR P Q free l W fuel L listed a w)
  (H:∀x1 x2 x3 x4 x5 x6 w',R x1 x2 x3 x4 x5 x6 w'->dR P Q free l W fl LJ J9 (A x1 x2 x3 x4 x5 x6) w'):C->dR P Q free l W fuel L listed a w:=I H
theorem II {α:Type} (E E' sz:Nat) (f:α->List Value) (v:Value) (xs:List α):Tb E sz f v xs=Tb E' sz f v xs:=by unfold Tb;rw[Iy E E']
end
end Go.Sep
namespace Go.Sep
open Go
section
variable {P:Program} {W:World} {L L':List aA} {Q:Exit->Act->World->Prop} {free:List Nat} {l:List Oper} {fuel:Nat} {listed:List Bool} {a:Act} {w:World}
def UE (l:List Oper) (free:List Nat) (listed:List Bool) (i:Nat):Bool:=
 free.all fun j=>j==i || listed.toArray.getD j true || awaits .any l.toArray 12 j i
theorem amc (i:Nat) (O:Sat W w L') (hL:∀u,Sat W u L'->Sat W u L) {oi:Oper} (hi:nth l i=some oi) (hs:Region.noSelect l.toArray=true) (hf:Region.free .any l.toArray listed.toArray i=true)
  (hr:(Region.ready .any l.toArray listed.toArray).contains i=true) (hc:Gu .any l.toArray listed.toArray=true) (hn:UE l free listed i=true)
  (hQ:∀v c a w,Q (.panic c) (a.put oi.dst v) w->Q (.panic c) a w)
  (hw:Region.wanted oi (yielded l.toArray a.tmps)=true) {listed':List Bool} (hl:listed.set i true=listed')
  (h:∃v,(∀u,Sat W u L->(execOp a.eval oi).run P u= .ok (.value v) u)/\dR P Q free l W fuel L listed' (a.put oi.dst v) w):dR P Q free l W (fuel+1) L listed a w:=by
 subst hl;rw[Dn] at hi;obtain⟨v,hy,h⟩:=h;refine adg (N:=12) hi (Region.noSelect_spec hs) (hQ v) fuel _ _ a w (Xh hc) (Region.free_spec hi hf) (fun j hji hj hun=>?_) (by simpa using hr) (.inl ⟨hw,hy⟩) (hL w O) (by simpa [dR] using h);unfold UE at hn;have:=List.all_eq_true.1 hn j (by simpa using hj);simp only[Bool.or_eq_true,beq_iff_eq,hun,hji,Bool.false_eq_true,false_or] at this;exact this
end
end Go.Sep
namespace Go.Sep
open Go
theorem adt {z:Value} (hz:z.cells= #[z]) (m:Nat):Builtin.zeroCells z.cells m=(List.replicate m z).toArray:=by
 rw[hz];apply Array.ext';simp[Builtin.zeroCells,Nat.mod_one,List.map_const']
section
variable {P:Program} {W w:World} {L:List aA} {Q:Exit->Act->World->Prop} {a:Act} {o:Oper} {K:Act->World->Prop}
theorem Sat.amJ (O:Sat W w L) (T T2 ty:TypeId) {e bytes:Nat} {z:Value} (hT:lV P T=some (e,1,bytes,some z)) (hz:z.cells= #[z]) (kR:rD P T2=some true) {ao:Option Addr} {n c m:Nat} {vs:List Value} (hr:Rd w (.slice ao n c) n 1 vs)
  (hgr:c<n+m) (hb:(n+m)*bytes<=140737488355328) (hm:n+m<=9223372036854775807):
  ∃v' w',(Builtin.append_ #[T,T2] ty #[.slice ao n c, .int .i64 m]).run P w= .ok v' w'/\Sat W w' (Sl e 1 v' (n+m) (vs++List.replicate m z)::L):=by
 obtain⟨hu,i,hi,hs1,rfl,hiz⟩:=zm hT
 have hu2:∃k,P.underlying T2=some (.int k):=by
  unfold rD at kR
  cases h:P.underlying T2 with
  |none=>simp[h] at kR
  |some d=>cases d<;>simp[h,Ht] at kR ⊢
 obtain⟨k2,hu2⟩:=hu2;have hnc:n<=c:=by obtain⟨_,_,he,I,_⟩:=hr;cases he;exact I
 have hvl:vs.length=n:=by obtain⟨_,_,_,_,_,h3,_⟩:=hr;omega
 have hm0:¬m=0:=by omega
 have hw:IntKind.i64.wrap (m:Int)=(m:Int):=IntWalk.i64_in _ (by omega);have h0:¬((m:Int)<0):=by omega
 have hmb:m*i.bytes<=(n+m)*i.bytes:=Nat.mul_le_mul_right _ (by omega)
 have I:¬(281474976710656< (m:Int)*(i.bytes:Int)):=by
  have h:((m*i.bytes:Nat):Int)<=140737488355328:=by omega
  rw[Int.natCast_mul] at h;omega
 have hn:¬(n+m<=c):=by omega
 have h63:¬(9223372036854775807< (n:Int)+(m:Int)):=by omega
 have h48:¬(281474976710656<Builtin.nextslicecap (n+m) c*i.bytes):=by
  have:=Ni (bytes:=i.bytes) hgr hb;omega
 have hco:(Builtin.firstCells 1 n (.slice ao n c)).run P w.drew= .ok vs.toArray w.drew:=by
  have h:=hr.drew.firstCells (P:=P) n (Nat.le_refl _);rw[Nat.mul_one,List.take_of_length_le (by omega)] at h;exact h
 refine⟨.slice (some ⟨w.heap.size,0,none⟩) (n+m) (grownCap w (n+m) c e),w.drew.alloc (.cells (vs.toArray++Builtin.zeroCells z.cells m++Builtin.zeroCells z.cells (grownCap w (n+m) c e-(n+m))) e),?_,?_⟩
 ·simp[Builtin.append_,run_underlying hu,run_underlying hu2,sizeOf,typeInfo,zeroValue,hi,hs1,hiz,asInt,asIntOf,hw,h0,I,hco,hn,hm0,h63,h48,Question.forced,newRow,grownCap]
 ·have hge:=grownCap_ge w (n+m) c e;have hle:=grownCap_le_maxLen w (n+m) c e (by unfold maxLen;omega);unfold maxLen at hle;have hnw:=O.drew.Dl (vs++List.replicate m z++List.replicate (grownCap w (n+m) c e-(n+m)) z) e;rw[adt hz,adt hz];rw[show(vs++List.replicate m z++List.replicate (grownCap w (n+m) c e-(n+m)) z).toArray=vs.toArray++(List.replicate m z).toArray++(List.replicate (grownCap w (n+m) c e-(n+m)) z).toArray from by simp] at hnw;exact Sat.pW (pre:=[]) (vs:=vs++List.replicate m z) (rest:=List.replicate (grownCap w (n+m) c e-(n+m)) z) (by simpa using hnw) hge hle (by simp[hvl]) rfl (by simp[hvl];omega)
theorem af8 (O:Sat W w L) (T T2:TypeId) (x y:Operand) (ho:o.op= .call {callee:= .builtin .append,args:= #[x,y],argTypes:= #[T,T2]}) {ao:Option Addr} {n c:Nat} (V:a.eval x= .slice ao n c) (m:Nat) (hy:a.eval y= .int .i64 m)
  {e size bytes:Nat} {z:Value} (hT:lV P T=some (e,size,bytes,some z)) (hsz:size=1) (hz:z.cells= #[z]) (kR:rD P T2=some true) {vs:List Value} (hr:Rd w (.slice ao n c) n 1 vs)
  (hgr:c<n+m) (hb:(n+m)*bytes<=140737488355328) (hm:n+m<=9223372036854775807)
  (h:∀v' w',Sat W w' (Sl e 1 v' (n+m) (vs++List.replicate m z)::L)->K (a.put o.dst v') w'):o.wp P a w K Q:=by
 subst hsz;obtain⟨v',w',hrun,hS'⟩:=O.amJ (P:=P) T T2 o.type hT hz kR hr hgr hb hm;have h3:=h v' w' hS';unfold Oper.wp;simp[execOp,ho,resolve,invoke,builtin,V,hy,hrun,Oper.upon,h3]
theorem bs0 (O:Sat W w L) (T:TypeId) (ho:o.op= .buildSlice T 0 #[]) {e size bytes:Nat} {z:Option Value} (hT:lV P T=some (e,size,bytes,z)) (h:∀b w',Sat W w' (Cs b e []::L)->K (a.put o.dst (.slice (some ⟨b,0,none⟩) 0 0)) w'):o.wp P a w K Q:=by
 obtain⟨hu,i,hi,rfl,rfl,hiz⟩:=zm hT;refine vG (s:=Instr.buildSlice T 0 #[]) (v:= .slice (some ⟨w.heap.size,0,none⟩) 0 0) (w':=w.alloc (.cells #[] e)) (by simp[execOp,ho]) ?_ (h _ _ ?_)
 ·simp[Instr.buildSlice,run_underlying hu,sizeOf,typeInfo,hi,Instr.fill,newRow];rw[show Array.map (fun _=>(default:Value)) (Array.range 0)= #[] from by apply Array.ext';simp]
 ·have:=O.Dl [] e;simpa using this
theorem Sat.ahead (h:Sat W w L) (n:Nat):Sat W (Sort.ahead w n) L:=h.of_heap rfl rfl rfl
theorem Sat.grow (h:Sat W w L) (os:Array Obj):Sat W (Sort.grow w os) L:=by
 refine⟨h.os,h.output,?_⟩;obtain⟨I,H,s1,s2,d,e,r⟩:=h.AP
 have up:(hp w).sub (hp (Sort.grow w os)):=fun c p hc=>by
  have hlt:=(Array.getElem?_eq_some_iff.1 hc).1;simp only[hp,Sort.grow] at hc ⊢;rw[Array.getElem?_append_left hlt];exact hc
 exact⟨I,H,Hp.yR s1 up,Hp.yR s2 up,d,e,r⟩
theorem ala {α:Type} [Inhabited α] (enc:α->Value) (ds:List α) {pre vs rest:List Value} (hl:ds.length=vs.length):Sort.putCells enc pre.length ds.toArray (pre++vs++rest).toArray=(pre++ds.map enc++rest).toArray:=by
 apply Array.ext';apply List.ext_getElem?;intro k;simp only[Sort.putCells,Array.toList_mapIdx,List.getElem?_mapIdx,List.size_toArray]
 by_cases I:k<pre.length
 ·rw[List.append_assoc,List.append_assoc,List.getElem?_append_left I,List.getElem?_append_left I]
  cases pre[k]? with
  |none=>rfl
  |some y=>simp only[Option.map_some];rw[if_neg (by omega)]
 ·by_cases H:k<pre.length+ds.length
  ·rw[List.append_assoc,List.append_assoc,List.getElem?_append_right (by omega),List.getElem?_append_left (by omega),List.getElem?_append_right (by omega),List.getElem?_append_left (by simp;omega)];rw[List.getElem?_eq_getElem (by omega),List.getElem?_map,List.getElem?_eq_getElem (by omega)];simp only[Option.map_some];rw[if_pos (by omega)];congr 2;rw[getElem!_pos _ _ (by simp;omega)];simp
  ·rw[List.append_assoc,List.append_assoc,List.getElem?_append_right (by omega),List.getElem?_append_right (by omega),List.getElem?_append_right (by omega),List.getElem?_append_right (by simp;omega)];simp only[List.length_map,hl]
   cases rest[k-pre.length-vs.length]? with
   |none=>rfl
   |some y=>simp only[Option.map_some];rw[if_neg (by omega)]
theorem Sat.putRow {α:Type} [Inhabited α] (enc:α->Value) {b E off:Nat} {pre vs rest:List Value} (h:Sat W w (Cs b E (pre++vs++rest)::L)) (ds:List α) (hl:ds.length=vs.length) (ho:pre.length=off):Sat W (Sort.putRow enc w b off ds.toArray) (Cs b E (pre++ds.map enc++rest)::L):=by
 subst ho;obtain⟨fz,ht,H⟩:=h.Kr;have hb:=H.blk;refine Sat.Kj (fz:=fz) (by simpa [hl] using ht) (H.turn rfl rfl ?_ fun c p hc hp=>?_)
 ·simp only[Sort.putRow,Sort.mapBlock,Array.getElem?_modify,if_pos,hb,Option.map_some,Sort.onCells];rw[ala enc ds hl]
 ·simp only[Sort.putRow,Sort.mapBlock,Array.getElem?_modify,Ne.symm hc,if_false];exact hp
theorem Xq (O:Sat W w L) (T T2:TypeId) (x y:Operand) (ho:o.op= .call {callee:= .builtin .copy,args:= #[x,y],argTypes:= #[T,T2]}) (b ad dn dc:Nat) (xv:Value) (V:a.eval x= .slice (some ⟨b,ad,none⟩) dn dc) (hy:a.eval y=xv)
  {e size bytes:Nat} {z:Option Value} (hT:lV P T=some (e,size,bytes,z)) (hsz:size=1) {k E off n c m:Nat} {vs us:List Value} (hk:Has L k (Sl E 1 (.slice (some ⟨b,off,none⟩) n c) n vs)) (j:Nat) (hj:ad=off+j) (hdn:j+dn<=vs.length)
  (hsrc:Rd w xv m 1 us) (I:∀u∈us,u.oneCell'=true) (hm:m<=dn)
  (h:∀w',Sat W w' (L.set k (Sl E 1 (.slice (some ⟨b,off,none⟩) n c) n (vs.take j++us++vs.drop (j+m))))->K (a.put o.dst (.int .i64 m)) w'):o.wp P a w K Q:=by
 subst hsz;subst hj
 rcases(O.front k hk).wJ with⟨H,_⟩|⟨E',b',off',cap,pre,rest,H,g1,g2,g3,h4,g5,h5⟩
 ·cases H
 ·simp only[Value.slice.injEq,Option.some.injEq,Addr.mk.injEq,true_and,and_true] at H;obtain⟨⟨rfl,rfl⟩,rfl⟩:=H;have hul:us.length=m:=by have:=Src.length (.inl hsrc);omega
  refine cp h5 T T2 x y ho b (off+j) dn dc xv V hy hT (by decide) (k:=0) rfl hsrc I (by simp;omega) fun w' hS'=>?_
  rw[Nat.min_eq_left hm] at hS' ⊢;refine h w' ?_;simp only[List.set_cons_zero,Nat.mul_one] at hS';rw[<-h4,aap (by omega),Nat.add_assoc,aan (by omega),List.take_of_length_le (l:=us) (by omega)] at hS';refine Sat.back (Sat.pW (pre:=pre) (vs:=vs.take j++us++vs.drop (j+m)) (rest:=rest) (by simpa [List.append_assoc] using hS') g1 g2 ?_ h4 ?_) hk
  ·simp only[List.length_append,List.length_take,List.length_drop];omega
  ·simp only[List.length_append,List.length_take,List.length_drop];omega
theorem aby {T:TypeId} {x y:Operand} (ho:o.op= .slice T x (some y) none none) {b off n c lo e size bytes:Nat} {k:IntKind} {z:Option Value} (V:a.eval x= .slice (some ⟨b,off,none⟩) n c) {v:Int} (hy:a.eval y= .int k v) (hv:v=(lo:Nat)) (hlo:lo<=n) (hlc:lo<c)
  (hT:lV P T=some (e,size,bytes,z)) (w:World):(execOp a.eval o).run P w= .ok (.value (.slice (some ⟨b,off+lo*size,none⟩) (n-lo) (c-lo))) w:=by
 subst hv;obtain⟨hu,i,hi,rfl,rfl,_⟩:=zm hT;have he:P.elem T=e:=by simp[Program.elem,hu]
 have I:¬c=lo:=by omega
 have hr:=run_slice_l (P:=P) (w:=w) T (some ⟨b,off,none⟩) n c (by rw[he];exact hu) k lo (by omega) (by omega);rw[he] at hr;refine uL (s:=Instr.sliceAt T (.slice (some ⟨b,off,none⟩) n c) (some (.int k lo)) none none) (by simp[execOp,ho,V,hy]) ?_;rw[run_sliceAt_slice (h:=by rw[he];exact hu),hr];simp[sizeOf,typeInfo,hi,sliced,I,Addr.add_lit]
end
end Go.Sep
namespace Go.Sep
open Go Go.RowKit
def uY (ao:Option Addr) (c lo sz:Nat):Option Addr:=if c=lo then ao else ao.map (·.add (lo*sz))
section
variable {P:Program} {a:Act} {o:Oper}
theorem TJ {T:TypeId} {x y:Operand} (ho:o.op= .slice T x (some y) none none) {ao:Option Addr} {n c lo e size bytes:Nat} {k:IntKind} {z:Option Value} (V:a.eval x= .slice ao n c) {v:Int} (hy:a.eval y= .int k v) (hv:v=(lo:Nat)) (hlo:lo<=n) (hnc:n<=c)
  (hT:lV P T=some (e,size,bytes,z)) (w:World):(execOp a.eval o).run P w= .ok (.value (.slice (uY ao c lo size) (n-lo) (c-lo))) w:=by
 subst hv;obtain⟨hu,i,hi,rfl,rfl,_⟩:=zm hT;have he:P.elem T=e:=by simp[Program.elem,hu]
 have hr:=run_slice_l (P:=P) (w:=w) T ao n c (by rw[he];exact hu) k lo (by omega) (by omega);rw[he] at hr;refine uL (s:=Instr.sliceAt T (.slice ao n c) (some (.int k lo)) none none) (by simp[execOp,ho,V,hy]) ?_;rw[run_sliceAt_slice (h:=by rw[he];exact hu),hr];unfold uY
 by_cases h:c=lo
 ·simp[sizeOf,typeInfo,hi,sliced,h]
 ·simp[sizeOf,typeInfo,hi,sliced,h]
theorem Om {T:TypeId} {x y u:Operand} (ho:o.op= .slice T x (some y) (some u) none) {ao:Option Addr} {n c lo m e size bytes:Nat} {k1 k2:IntKind} {z:Option Value} (V:a.eval x= .slice ao n c) {v1 v2:Int} (hy:a.eval y= .int k1 v1) (hu:a.eval u= .int k2 v2) (I:v1=(lo:Nat)) (H:v2=((lo+m:Nat):Int)) (hc:lo+m<=c)
  (hT:lV P T=some (e,size,bytes,z)) (w:World):(execOp a.eval o).run P w= .ok (.value (.slice (uY ao c lo size) m (c-lo))) w:=by
 subst I H;obtain⟨hut,i,hi',rfl,rfl,_⟩:=zm hT;have he:P.elem T=e:=by simp[Program.elem,hut]
 have hr:=run_slice_lh (P:=P) (w:=w) T ao n c (by rw[he];exact hut) k1 k2 lo ((lo+m:Nat):Int) (by omega) (by omega) (by omega);rw[he] at hr;refine uL (s:=Instr.sliceAt T (.slice ao n c) (some (.int k1 lo)) (some (.int k2 ((lo+m:Nat):Int))) none) (by simp[execOp,ho,V,hy,hu]) ?_;rw[run_sliceAt_slice (h:=by rw[he];exact hut),hr];unfold uY;have e1:((((lo+m:Nat):Int)-(lo:Int))).toNat=m:=by omega
 by_cases h:c=lo
 ·simp[sizeOf,typeInfo,hi',sliced,h];omega
 ·simp[sizeOf,typeInfo,hi',sliced,h];omega
theorem TI {T:TypeId} {x y:Operand} (ho:o.op= .slice T x none (some y) none) {ao:Option Addr} {n c hi e size bytes:Nat} {k:IntKind} {z:Option Value} (V:a.eval x= .slice ao n c) {v:Int} (hy:a.eval y= .int k v) (hv:v=(hi:Nat)) (hhc:hi<=c)
  (hT:lV P T=some (e,size,bytes,z)) (w:World):(execOp a.eval o).run P w= .ok (.value (.slice ao hi c)) w:=by
 subst hv;obtain⟨hu,i,hi',rfl,rfl,_⟩:=zm hT;have he:P.elem T=e:=by simp[Program.elem,hu]
 have hr:=run_slice_h (P:=P) (w:=w) T ao n c (by rw[he];exact hu) k hi (by omega) (by omega);rw[he] at hr;refine uL (s:=Instr.sliceAt T (.slice ao n c) none (some (.int k hi)) none) (by simp[execOp,ho,V,hy]) ?_;rw[run_sliceAt_slice (h:=by rw[he];exact hu),hr]
 cases ao with
 |none=>simp[sizeOf,typeInfo,hi',sliced]
 |some x=>simp[sizeOf,typeInfo,hi',sliced,Addr.add]
end
theorem Rd.MS {w:World} {ao:Option Addr} {n c sz:Nat} {vs:List Value} (h:Rd w (.slice ao n c) n sz vs) (lo:Nat) (hlo:lo<=n):Rd w (.slice (uY ao c lo sz) (n-lo) (c-lo)) (n-lo) sz (vs.drop (lo*sz)):=by
 obtain⟨Mt,c',he,I,H,h3,h5⟩:=h;simp only[Value.slice.injEq,true_and] at he;obtain⟨rfl,rfl⟩:=he;refine⟨_,_,rfl,by omega,by omega,by rw[List.length_drop,h3,Nat.sub_mul],fun hpos=>?_⟩;obtain⟨b,off,rfl,h6⟩:=h5 (by omega);refine⟨b,off+lo*sz,?_,fun j u hu=>?_⟩
 ·unfold uY;rw[if_neg (by omega)];simp[Addr.add_lit]
 ·rw[List.getElem?_drop] at hu;have:=h6 _ _ hu
  rwa [<-Nat.add_assoc] at this
theorem Rd.Rk {w:World} {ao:Option Addr} {n c sz:Nat} {vs:List Value} (h:Rd w (.slice ao n c) n sz vs) (hi:Nat) (hhi:hi<=n):Rd w (.slice ao hi c) hi sz (vs.take (hi*sz)):=by
 obtain⟨Mt,c',he,I,H,h3,h5⟩:=h;simp only[Value.slice.injEq,true_and] at he;obtain⟨rfl,rfl⟩:=he;refine⟨_,_,rfl,by omega,H,?_,fun hpos=>?_⟩
 ·rw[List.length_take,h3];have:=Nat.mul_le_mul_right sz hhi;omega
 ·obtain⟨b,off,rfl,h6⟩:=h5 (by omega);refine⟨b,off,rfl,fun j u hu=>h6 j u ?_⟩;rw[List.getElem?_take] at hu
  split at hu
  ·exact hu
  ·cases hu
theorem M5 {α:Type} {f:α->List Value} {sz:Nat} :∀(l:List α) (k:Nat),(∀x∈l,(f x).length=sz)->(l.flatMap f).drop (k*sz)=(l.drop k).flatMap f
 |l,0,_=>by simp
 |[],k+1,_=>by simp
 |x::l,k+1,h=>by
  have V:=h x (List.mem_cons_self ..);rw[List.flatMap_cons,List.drop_succ_cons,<-M5 l k (fun y hy=>h y (List.mem_cons_of_mem _ hy)),List.drop_append,List.drop_eq_nil_of_le (by rw[V,Nat.add_mul];omega),List.nil_append,V];congr 1;rw[Nat.add_mul];omega
theorem Ry {α:Type} {f:α->List Value} {sz:Nat} :∀(l:List α) (k:Nat),(∀x∈l,(f x).length=sz)->(l.flatMap f).take (k*sz)=(l.take k).flatMap f
 |l,0,_=>by simp
 |[],k+1,_=>by simp
 |x::l,k+1,h=>by
  have V:=h x (List.mem_cons_self ..);rw[List.flatMap_cons,List.take_succ_cons,List.flatMap_cons,<-Ry l k (fun y hy=>h y (List.mem_cons_of_mem _ hy)),List.take_append,List.take_of_length_le (by rw[V,Nat.add_mul];omega),V];congr 2;rw[Nat.add_mul];omega
end Go.Sep
namespace Go.Sep
open Go Go.RowKit
section
variable {P:Program} {Q:Exit->Act->World->Prop} {a:Act} {w:World}
theorem pV {x y:Code} (l7:Act->World->Prop) (V:∀K:Act->World->Prop,Hid (∀a w,l7 a w->K a w)->x.wp P (Exit.then K Q) a w) (hy:∀a w,l7 a w->y.wp P Q a w):(Code.seq x y).wp P Q a w:=
 wp_seq (V (y.wp P Q) (Lib.hid hy))
theorem dK {x y:Code} (V:∀K:Act->World->Prop,Hid (∀a w,y.wp P Q a w->K a w)->x.wp P (Exit.then K Q) a w):(Code.seq x y).wp P Q a w:=
 wp_seq (V (y.wp P Q) (Lib.hid fun _ _ h=>h))
theorem qP {x y:Code} {a':Act} {w':World} (h:y.wp P Q a' w') (V:∀K:Act->World->Prop,Hid (K a' w')->x.wp P (Exit.then K Q) a w:=by intro KX aF;go_wp2;exact aF.out):(Code.seq x y).wp P Q a w:=
 wp_seq (V (y.wp P Q) (Lib.hid h))
end
def Pj:Nat->Code->Code
 |0,c=>c
 |k+1, .seq _ y=>Pj k y
 |_+1,c=>c
def From (P:Program) (f:FuncId) (k:Nat) (R:Ending->World->Prop) (a:Act) (w:World):Prop:=∀fn c,P.funcs[f]? =some fn->fn.body=some c->(Pj k c).wp P (bodyPost P fn R) a w
theorem From.intro {P:Program} {f:FuncId} {fn:Func} {c:Code} {k:Nat} {R:Ending->World->Prop} {a:Act} {w:World} (hf:P.funcs[f]? =some fn) (hb:fn.body=some c) (h:(Pj k c).wp P (bodyPost P fn R) a w):From P f k R a w:=by
 intro fn' c' hf' hb';rw[hf] at hf'
 cases hf'
 rw[hb] at hb'
 cases hb'
 exact h
theorem From.use {P:Program} {f:FuncId} {fn:Func} {c d:Code} {k:Nat} {R:Ending->World->Prop} {a:Act} {w:World} (h:From P f k R a w) (hf:P.funcs[f]? =some fn) (hb:fn.body=some c) (hd:Pj k c=d):d.wp P (bodyPost P fn R) a w:=by
 subst hd;exact h _ _ hf hb
end Go.Sep
namespace Go
def Exit.Hu (l:Nat) (l7:Act->World->Prop) (l0:Nat) (J0:Act->World->Prop) (Q:Exit->Act->World->Prop):Exit->Act->World->Prop
 | .goto l',a,w=>(l'=l/\l7 a w)∨(l'=l0/\J0 a w)
 |e,a,w=>Q e a w
section
variable {P:Program} {a:Act} {w:World} {Q:Exit->Act->World->Prop}
theorem Exit.Au {l l0:Nat} {l7 J0:Act->World->Prop} :Exit.Hu l l7 l0 J0 Q .ret a w=Q .ret a w:=rfl
theorem adj {c rest r0:Code} (l l0:Nat) (l7:Act->World->Prop) (μ:Act->World->Nat) (hf:findLabel c l=some rest) (hf0:findLabel c l0=some r0)
  (first:c.wp P (Exit.Hu l l7 l0 (fun a w=>r0.wp P (Exit.noGoto Q) a w) Q) a w)
  (pass:∀a w,l7 a w->rest.wp P (Exit.Hu l (fun a' w'=>l7 a' w'/\μ a' w'<μ a w) l0 (fun a w=>r0.wp P (Exit.noGoto Q) a w) Q) a w):(Code.scope c).wp P Q a w:=by
 intro b k cs;have hg:gotoIn l (.inScope c::k)=some (.code rest:: .inScope c::k):=by simp[gotoIn,hf]
 have hg0:gotoIn l0 (.inScope c::k)=some (.code r0:: .inScope c::k):=by simp[gotoIn,hf0]
 have fin:∀a w,r0.wp P (Exit.noGoto Q) a w->∃e a' w',Q e a' w'/\Arrives P (lone (b.at a (.code r0:: .inScope c::k)) cs w) b k cs e a' w':=by
  intro a w h;obtain⟨e,a₁,w₁,hq,harr⟩:=h b (.inScope c::k) cs
  cases e with
  |normal=>exact⟨.normal,a₁,w₁,hq,Steps.trans harr (.one step_inScope)⟩
  |exit id=>exact⟨.exit id,a₁,w₁,hq,fun k' hk=>harr k' (by simp[exitTo,hk])⟩
  |goto l'=>exact hq.elim
  |ret=>exact⟨_,a₁,w₁,hq,harr⟩
  |panic ch=>exact⟨_,a₁,w₁,hq,harr⟩
  |outgrown=>exact⟨_,a₁,w₁,hq,harr⟩
 have key:∀n a w,μ a w=n->l7 a w->∃e a' w',Q e a' w'/\Arrives P (lone (b.at a (.code rest:: .inScope c::k)) cs w) b k cs e a' w':=by
  intro n
  induction n using Nat.strongRecOn with
  |_ n ih=>
   intro a w hn hJ;obtain⟨e,a₁,w₁,hq,harr⟩:=pass a w hJ b (.inScope c::k) cs
   cases e with
   |normal=>exact⟨.normal,a₁,w₁,hq,Steps.trans harr (.one step_inScope)⟩
   |exit id=>exact⟨.exit id,a₁,w₁,hq,fun k' hk=>harr k' (by simp[exitTo,hk])⟩
   |goto l'=>
    rcases hq with⟨rfl,hJ',hlt⟩|⟨rfl,h0⟩
    ·obtain⟨e₂,a₂,w₂,hq₂,harr₂⟩:=ih _ (by omega) a₁ w₁ rfl hJ';exact⟨e₂,a₂,w₂,hq₂, .of_steps (harr _ hg) harr₂⟩
    ·obtain⟨e₂,a₂,w₂,hq₂,harr₂⟩:=fin a₁ w₁ h0;exact⟨e₂,a₂,w₂,hq₂, .of_steps (harr _ hg0) harr₂⟩
   |ret=>exact⟨_,a₁,w₁,hq,harr⟩
   |panic ch=>exact⟨_,a₁,w₁,hq,harr⟩
   |outgrown=>exact⟨_,a₁,w₁,hq,harr⟩
 obtain⟨e,a₁,w₁,hq,harr⟩:=first b (.inScope c::k) cs
 cases e with
 |normal=>exact⟨.normal,a₁,w₁,hq, .head step_scope (Steps.trans harr (.one step_inScope))⟩
 |exit id=>exact⟨.exit id,a₁,w₁,hq,fun k' hk=> .head step_scope (harr k' (by simp[exitTo,hk]))⟩
 |goto l'=>
  rcases hq with⟨rfl,hJ'⟩|⟨rfl,h0⟩
  ·obtain⟨e₂,a₂,w₂,hq₂,harr₂⟩:=key _ a₁ w₁ rfl hJ';exact⟨e₂,a₂,w₂,hq₂, .of_steps (.head step_scope (harr _ hg)) harr₂⟩
  ·obtain⟨e₂,a₂,w₂,hq₂,harr₂⟩:=fin a₁ w₁ h0;exact⟨e₂,a₂,w₂,hq₂, .of_steps (.head step_scope (harr _ hg0)) harr₂⟩
 |ret=>exact⟨_,a₁,w₁,hq, .of_steps (.one step_scope) harr⟩
 |panic ch=>exact⟨_,a₁,w₁,hq, .of_steps (.one step_scope) harr⟩
 |outgrown=>exact⟨_,a₁,w₁,hq, .of_steps (.one step_scope) harr⟩
theorem aoE {c r r0:Code} (l l0:Nat) (l7:Act->World->Prop) (μ:Act->World->Nat) (hf:findLabel c l=some (Code.skip.seq r)) (hf0:findLabel c l0=some r0)
  (pass:∀a w,l7 a w->r.wp P (Exit.Hu l (fun a' w'=>l7 a' w'/\μ a' w'<μ a w) l0 (fun a w=>r0.wp P (Exit.noGoto Q) a w) Q) a w)
  (first:(∀a w,l7 a w->r.wp P (Exit.Hu l l7 l0 (fun a w=>r0.wp P (Exit.noGoto Q) a w) Q) a w)->c.wp P (Exit.Hu l l7 l0 (fun a w=>r0.wp P (Exit.noGoto Q) a w) Q) a w):(Code.scope c).wp P Q a w:=
 adj l l0 l7 μ hf hf0 (first fun a w h=>Code.wp_mono (fun e a' w' H=>by
  cases e with
  |goto l'=>exact H.imp (fun h=>⟨h.1,h.2.1⟩) id
  |_=>exact H) (pass a w h)) fun a w h=>wp_seq (wp_skip (pass a w h))
end
end Go
namespace Go.Sep
open Go
inductive OT where
 |e
 |p (i:Nat) (t:OT)
 |w (i:Nat) (t:OT)
 |c (i:Nat) (t:OT)
 |r (i:Nat) (t:OT)
 |a (i:Nat) (t:OT)
 |m (i j:Nat) (t u:OT)
 |n (i j k:Nat) (t u v:OT)
def pO:List Nat->OT->OT
 |[],t=>t
 |i::l,t=> .p i (pO l t)
def wO:List Nat->OT->OT
 |[],t=>t
 |i::l,t=> .w i (wO l t)
def tO:List Nat->OT->OT
 |[],t=>t
 |i::l,t=> .c i (tO l t)
def aO:List Nat->OT->OT
 |[],t=>t
 |i::l,t=> .a i (aO l t)
def rO:List Nat->OT->OT
 |[],t=>t
 |i::l,t=> .r i (rO l t)
def OT.next:OT->Option (Nat×OT)
 | .p i t=>some (i,t)
 | .w i t=>some (i,t)
 | .c i t=>some (i,t)
 | .r i t=>some (i,t)
 | .a i t=>some (i,t)
 |_=>none
section
variable {P:Program} {W w:World} {L L':List aA} {l:List Oper} {listed:List Bool} {fuel:Nat} {free:List Nat} {a:Act} {Q:Exit->Act->World->Prop} {o:OT}
def fJ (o:OT) (P:Program) (Q:Exit->Act->World->Prop) (free:List Nat) (l:List Oper) (W:World) (fuel:Nat) (L:List aA) (listed:List Bool) (a:Act) (w:World):Prop:=dR P Q free l W fuel L listed a w
def Mm (W:World) (b:Bool) (Lc L L':List aA):Prop:=(L'=Lc/\(b=true∨ ∀u,Sat W u Lc->Sat W u L))∨(L'=L/\∀u,Sat W u Lc->Sat W u L)
theorem cB (o:OT) (free:List Nat) (O:Sat W w L) {id:Nat} {n:Nat}
  (h:∀w',Sat W w' L->fJ o P Q free l W n L (List.replicate n false) a w') (hm:P.follows .mixedOrders=true:=by kernel_rfl) (hn:l.length=n:=by rfl):(Code.region id l.toArray true).wp P Q a w:=amd free O hm hn h
theorem ll {Lf:List aA} (o:OT) (free:List Nat) (O:Sat W w Lf) (h0:∀u,Sat W u Lf->Sat W u L) {id:Nat} {n:Nat}
  (h:∀w',Sat W w' Lf->fJ o P Q free l W n L (List.replicate n false) a w') (hm:P.follows .mixedOrders=true:=by kernel_rfl) (hn:l.length=n:=by rfl):(Code.region id l.toArray true).wp P Q a w:=ame free O h0 hm hn h
theorem Ck (h:∀u,Sat W u L'->Sat W u L:=by exact fun _ h=>by first|(with_reducible first|exact h|exact h.take2|exact h.one Has.z|exact h.drop|exact h.drop.drop|exact h.drop.bW|exact h.one (Has.s Has.z)|exact h.one (Has.s (Has.s Has.z))|exact h.one (Has.s (Has.s (Has.s Has.z)))|exact h.drop.take2|exact h.drop.drop.take2|exact h.drop.drop.drop.take2|exact h.drop.drop.drop|exact h.drop.drop.drop.drop)|exact h|exact h.take2|exact h.one Has.z|exact h.drop):∀u,Sat W u L'->Sat W u L:=h
theorem bG {i:Nat} (O:Sat W w L') {oi:Oper} {v:Value} {listed':List Bool} (h:fJ o P Q free l W fuel L listed' (a.put oi.dst v) w)
  (hi:nth l i=some oi:=by rfl) (hw:Region.wanted oi (yielded l.toArray a.tmps)=true:=by rfl)
  (hv:∀u,(execOp a.eval oi).run P u= .ok (.value v) u:=by intro w;go_simp;try with_reducible rfl)
  (hs:Region.noSelect l.toArray=true:=by kernel_rfl) (hf:Region.free .any l.toArray listed.toArray i=true:=by kernel_rfl)
  (hr:(Region.ready .any l.toArray listed.toArray).contains i=true:=by kernel_rfl) (hQ:∀v c a w,Q (.panic c) (a.put oi.dst v) w->Q (.panic c) a w:=by exact fun _ _ _ _ h=>h)
  (hl:listed.set i true=listed':=by rfl)
  (hL:∀u,Sat W u L'->Sat W u L:=by exact Ck):fJ (.p i o) P Q free l W (fuel+1) L listed a w:=
 TS i O hL hi hs hf hr hQ hw hl ⟨v,hv,h⟩
theorem mR {i:Nat} (O:Sat W w L') {oi:Oper} {v:Value} {listed':List Bool} (h:fJ o P Q free l W fuel L listed' (a.put oi.dst v) w)
  (hi:nth l i=some oi:=by rfl) (hw:Region.wanted oi (yielded l.toArray a.tmps)=true:=by rfl)
  (hv:∀u,(execOp a.eval oi).run P u= .ok (.value v) u:=by intro w;go_simp;try with_reducible rfl)
  (hs:Region.noSelect l.toArray=true:=by kernel_rfl) (hf:Region.free .any l.toArray listed.toArray i=true:=by kernel_rfl)
  (hr:(Region.ready .any l.toArray listed.toArray).contains i=true:=by kernel_rfl) (hQ:∀v c a w,Q (.panic c) (a.put oi.dst v) w->Q (.panic c) a w:=by exact fun _ _ _ _ h=>h)
  (hl:listed.set i true=listed':=by rfl)
  (hL:∀u,Sat W u L'->Sat W u L:=by exact Ck):fJ (.w i o) P Q free l W (fuel+1) L listed a w:=
 TS i O hL hi hs hf hr hQ hw hl ⟨v,hv,h⟩
theorem oI {i:Nat} (O:Sat W w L') {oi:Oper} {listed':List Bool} (h:∃v,(∀u,(execOp a.eval oi).run P u= .ok (.value v) u)/\fJ o P Q free l W fuel L listed' (a.put oi.dst v) w)
  (hi:nth l i=some oi:=by rfl) (hw:Region.wanted oi (yielded l.toArray a.tmps)=true:=by rfl)
  (hs:Region.noSelect l.toArray=true:=by kernel_rfl) (hf:Region.free .any l.toArray listed.toArray i=true:=by kernel_rfl)
  (hr:(Region.ready .any l.toArray listed.toArray).contains i=true:=by kernel_rfl) (hQ:∀v c a w,Q (.panic c) (a.put oi.dst v) w->Q (.panic c) a w:=by exact fun _ _ _ _ h=>h)
  (hl:listed.set i true=listed':=by rfl)
  (hL:∀u,Sat W u L'->Sat W u L:=by exact Ck):fJ (.c i o) P Q free l W (fuel+1) L listed a w:=
 TS i O hL hi hs hf hr hQ hw hl h
theorem sK {o':OT} {i:Nat} (O:Sat W w L') {oi:Oper} {listed':List Bool} (h:fJ o P Q free l W fuel L listed' (a.put oi.dst undef) w) (ho:o'.next=some (i,o):=by rfl)
  (hi:nth l i=some oi:=by rfl) (hw:Region.wanted oi (yielded l.toArray a.tmps)=false:=by rfl) (hs:Region.noSelect l.toArray=true:=by kernel_rfl) (hf:Region.free .any l.toArray listed.toArray i=true:=by kernel_rfl)
  (hr:(Region.ready .any l.toArray listed.toArray).contains i=true:=by kernel_rfl) (hQ:∀c a w,Q (.panic c) (a.put oi.dst undef) w->Q (.panic c) a w:=by exact fun _ _ _ h=>h)
  (hl:listed.set i true=listed':=by rfl)
  (hL:∀u,Sat W u L'->Sat W u L:=by exact Ck):fJ o' P Q free l W (fuel+1) L listed a w:=
 ama i O hL hi hs hf hr hQ hw hl h
theorem bR {i:Nat} (O:Sat W w L') {oi:Oper} {listed':List Bool}
  (h:∃v,(∀u,Sat W u L->(execOp a.eval oi).run P u= .ok (.value v) u)/\fJ o P Q free l W fuel L listed' (a.put oi.dst v) w)
  (hi:nth l i=some oi:=by rfl) (hw:Region.wanted oi (yielded l.toArray a.tmps)=true:=by rfl) (hs:Region.noSelect l.toArray=true:=by kernel_rfl) (hf:Region.free .any l.toArray listed.toArray i=true:=by kernel_rfl)
  (hr:(Region.ready .any l.toArray listed.toArray).contains i=true:=by kernel_rfl) (hc:Gu .any l.toArray listed.toArray=true:=by kernel_rfl) (hn:UD l free listed i=true:=by kernel_rfl)
  (hQ:∀v c a w,Q (.panic c) (a.put oi.dst v) w->Q (.panic c) a w:=by exact fun _ _ _ _ h=>h)
  (hl:listed.set i true=listed':=by rfl)
  (hL:∀u,Sat W u L'->Sat W u L:=by exact Ck):fJ (.r i o) P Q free l W (fuel+1) L listed a w:=
 amb i O hL hi hs hf hr hc hn hQ hw hl h
theorem OH {i:Nat} (O:Sat W w L') {oi:Oper} {listed':List Bool}
  (h:∃v,(∀u,Sat W u L->(execOp a.eval oi).run P u= .ok (.value v) u)/\fJ o P Q free l W fuel L listed' (a.put oi.dst v) w)
  (hi:nth l i=some oi:=by rfl) (hw:Region.wanted oi (yielded l.toArray a.tmps)=true:=by rfl) (hs:Region.noSelect l.toArray=true:=by kernel_rfl) (hf:Region.free .any l.toArray listed.toArray i=true:=by kernel_rfl)
  (hr:(Region.ready .any l.toArray listed.toArray).contains i=true:=by kernel_rfl) (hc:Gu .any l.toArray listed.toArray=true:=by kernel_rfl) (hn:UE l free listed i=true:=by kernel_rfl)
  (hQ:∀v c a w,Q (.panic c) (a.put oi.dst v) w->Q (.panic c) a w:=by exact fun _ _ _ _ h=>h)
  (hl:listed.set i true=listed':=by rfl)
  (hL:∀u,Sat W u L'->Sat W u L:=by exact Ck):fJ (.r i o) P Q free l W (fuel+1) L listed a w:=
 amc i O hL hi hs hf hr hc hn hQ hw hl h
def xP (W:World) (b:Bool) (L:List aA) (R:List aA->Act->World->Prop) (K:Act->World->Prop):Prop:=
 ∀(a':Act) (w':World) (Lc L':List aA),Sat W w' Lc->Mm W b Lc L L'->R L' a' w'->K a' w'
theorem bY {i:Nat} {oi:Oper} {listed':List Bool}
  (h:∀K:Act->World->Prop,xP W (free.contains i) L (fun L' a' w'=>fJ o P Q free l W fuel L' listed' a' w') K->oi.wp P a w K Q)
  (hi:nth l i=some oi:=by rfl) (hw:Region.wanted oi (yielded l.toArray a.tmps)=true:=by rfl) (hr:Region.ready .any l.toArray listed.toArray=[i]:=by kernel_rfl)
  (hl:listed.set i true=listed':=by rfl):fJ (.a i o) P Q free l W (fuel+1) L listed a w:=
 al6 i hi hr hw hl _ rfl fun K hK=>h K fun a' w' Lc L' I H h3=>by
  rcases H with⟨rfl,hb|hb⟩|⟨rfl,h4⟩
  ·exact hK a' w' _ I (fun h=>by rw[hb] at h;cases h) h3
  ·exact hK a' w' _ I (fun _=>hb) h3
  ·exact hK a' w' _ (h4 _ I) (fun _ _ h=>h) h3
theorem xP.go {b:Bool} {R:List aA->Act->World->Prop} {K:Act->World->Prop} (hK:xP W b L R K) {Lc:List aA} (O:Sat W w Lc) {a':Act} {L':List aA} (h:R L' a' w)
  (hu:Mm W b Lc L L':=by first|exact .inl ⟨rfl, .inl rfl⟩|exact .inl ⟨rfl, .inr Ck⟩):K a' w:=hK _ _ _ _ O hu h
theorem xP.gu {b:Bool} {R:List aA->Act->World->Prop} {K:Act->World->Prop} (hK:xP W b L R K) {Lc:List aA} (O:Sat W w Lc) {a':Act} {L':List aA} (h:R L' a' w)
  (hu:Mm W b Lc L L':=by first|exact .inl ⟨rfl, .inl rfl⟩|exact .inr ⟨rfl,Ck⟩):K a' w:=hK _ _ _ _ O hu h
theorem xP.up {b:Bool} {R:List aA->Act->World->Prop} {K:Act->World->Prop} (hK:xP W b L R K) {Lc:List aA} (O:Sat W w Lc) {a':Act} {L':List aA} (h:R L' a' w)
  (hu:Mm W b Lc L L':=by exact .inr ⟨rfl,Ck⟩):K a' w:=hK _ _ _ _ O hu h
theorem Cc {t u:OT} {i j:Nat} {oi oj:Oper} {li lj:List Bool}
  (I:∀K:Act->World->Prop,xP W false L (fun L' a' w'=>fJ t P Q free l W fuel L' li a' w') K->oi.wp P a w K Q) (H:∀K:Act->World->Prop,xP W false L (fun L' a' w'=>fJ u P Q free l W fuel L' lj a' w') K->oj.wp P a w K Q)
  (hi:nth l i=some oi:=by rfl) (hj:nth l j=some oj:=by rfl) (hr:Region.ready .any l.toArray listed.toArray=[i,j]:=by kernel_rfl)
  (EW:Region.wanted oi (yielded l.toArray a.tmps)=true:=by rfl) (EX:Region.wanted oj (yielded l.toArray a.tmps)=true:=by rfl) (pM:listed.set i true=li:=by rfl) (hlj:listed.set j true=lj:=by rfl):fJ (.m i j t u) P Q free l W (fuel+1) L listed a w:=
 al8 i j hi hj hr EW EX pM hlj (fun K hK=>I K fun a' w' Lc L' g1 g2 g3=>by
  rcases g2 with⟨rfl,g|g⟩|⟨rfl,g4⟩
  ·cases g
  ·exact hK a' w' _ g1 g g3
  ·exact hK a' w' _ (g4 _ g1) (fun _ h=>h) g3) (fun K hK=>H K fun a' w' Lc L' g1 g2 g3=>by
  rcases g2 with⟨rfl,g|g⟩|⟨rfl,g4⟩
  ·cases g
  ·exact hK a' w' _ g1 g g3
  ·exact hK a' w' _ (g4 _ g1) (fun _ h=>h) g3)
theorem abQ {t u v:OT} {i j k:Nat} {oi oj ok:Oper} {li lj lk:List Bool}
  (I:∀K:Act->World->Prop,xP W false L (fun L' a' w'=>fJ t P Q free l W fuel L' li a' w') K->oi.wp P a w K Q) (H:∀K:Act->World->Prop,xP W false L (fun L' a' w'=>fJ u P Q free l W fuel L' lj a' w') K->oj.wp P a w K Q)
  (h3:∀K:Act->World->Prop,xP W false L (fun L' a' w'=>fJ v P Q free l W fuel L' lk a' w') K->ok.wp P a w K Q)
  (hi:nth l i=some oi:=by rfl) (hj:nth l j=some oj:=by rfl) (hk:nth l k=some ok:=by rfl) (hr:Region.ready .any l.toArray listed.toArray=[i,j,k]:=by kernel_rfl)
  (EW:Region.wanted oi (yielded l.toArray a.tmps)=true:=by rfl) (EX:Region.wanted oj (yielded l.toArray a.tmps)=true:=by rfl) (hwk:Region.wanted ok (yielded l.toArray a.tmps)=true:=by rfl) (pM:listed.set i true=li:=by rfl) (hlj:listed.set j true=lj:=by rfl) (hlk:listed.set k true=lk:=by rfl):fJ (.n i j k t u v) P Q free l W (fuel+1) L listed a w:=
 al9 i j k hi hj hk hr EW EX hwk pM hlj hlk (fun K hK=>I K fun a' w' Lc L' g1 g2 g3=>by
  rcases g2 with⟨rfl,g|g⟩|⟨rfl,g4⟩
  ·cases g
  ·exact hK a' w' _ g1 g g3
  ·exact hK a' w' _ (g4 _ g1) (fun _ h=>h) g3) (fun K hK=>H K fun a' w' Lc L' g1 g2 g3=>by
  rcases g2 with⟨rfl,g|g⟩|⟨rfl,g4⟩
  ·cases g
  ·exact hK a' w' _ g1 g g3
  ·exact hK a' w' _ (g4 _ g1) (fun _ h=>h) g3) (fun K hK=>h3 K fun a' w' Lc L' g1 g2 g3=>by
  rcases g2 with⟨rfl,g|g⟩|⟨rfl,g4⟩
  ·cases g
  ·exact hK a' w' _ g1 g g3
  ·exact hK a' w' _ (g4 _ g1) (fun _ h=>h) g3)
theorem Ca {C:Prop} {Lm Lp Lr Ls Lt Lu:Type} (o2:OT) (R:Lm->Lp->Lr->Ls->Lt->Lu->World->Prop) (LJ:List aA) {A:Lm->Lp->Lr->Ls->Lt->Lu->Act} {J9:List Bool} {fl:Nat}
  (I:(∀x1 x2 x3 x4 x5 x6 w',R x1 x2 x3 x4 x5 x6 w'->fJ .e P Q free l W fl LJ J9 (A x1 x2 x3 x4 x5 x6) w')->C->fJ o P Q free l W fuel L listed a w)
  (H:∀x1 x2 x3 x4 x5 x6 w',R x1 x2 x3 x4 x5 x6 w'->fJ o2 P Q free l W fl LJ J9 (A x1 x2 x3 x4 x5 x6) w'):C->fJ o P Q free l W fuel L listed a w:=I H
theorem dst (n:Nat) {o:Oper} {K:Act->World->Prop} (h:o.wp P a w K Q) (hd:o.dst=some n:=by rfl):o.wp P a w K Q:=h
theorem Cb (h:fJ .e P Q free l W fuel L listed a w):fJ o P Q free l W fuel L listed a w:=h
theorem bO (h:Q .normal a w) (hr:Region.ready .any l.toArray listed.toArray=[]:=by kernel_rfl):fJ .e P Q free l W fuel L listed a w:=al7 hr h
end
end Go.Sep
namespace Go.Sep
open Go Go.RowKit
def mM:Nat->Nat->List (Nat×Value)->(Nat->Value)->List Value
 |0,_,_,_=>[]
 |n+1,k,[],z=>z k::mM n (k+1) [] z
 |n+1,k,(i,v)::l,z=>match Nat.beq k i with
  |true=>v::mM n (k+1) l z
  |false=>z k::mM n (k+1) ((i,v)::l) z
def xQ (n:Nat) (l:List (Nat×Value)) (a:Act):Prop:=a=⟨(mM n 0 l fun i=>a.tmps.getD i undef).toArray,[]⟩
theorem xQ.at {n:Nat} {l:List (Nat×Value)} {a:Act} {z:Nat->Value} (h:xQ n l a) (hz:∀i,a.tmps.getD i undef=z i):a=⟨(mM n 0 l z).toArray,[]⟩:=by
 have e:(fun i=>a.tmps.getD i undef)=z:=funext hz;unfold xQ at h;rw[e] at h;exact h
def lh:Nat->Nat->List (Nat×Value)->List Nat->(Nat->Value)->(Nat->Value)->List Value
 |0,_,_,_,_,_=>[]
 |n+1,k,[],[],y,z=>y k::lh n (k+1) [] [] y z
 |n+1,k,[],j::f,y,z=>match Nat.beq k j with
  |true=>z k::lh n (k+1) [] f y z
  |false=>y k::lh n (k+1) [] (j::f) y z
 |n+1,k,(i,v)::l,f,y,z=>match Nat.beq k i with
  |true=>v::lh n (k+1) l f y z
  |false=>match f with
   |[]=>y k::lh n (k+1) ((i,v)::l) [] y z
   |j::f=>match Nat.beq k j with
    |true=>z k::lh n (k+1) ((i,v)::l) f y z
    |false=>y k::lh n (k+1) ((i,v)::l) (j::f) y z
def tN (n:Nat) (l:List (Nat×Value)) (f:List Nat) (y:Nat->Value) (a:Act):Prop:=a=⟨(lh n 0 l f y fun i=>a.tmps.getD i undef).toArray,[]⟩
theorem tN.at {n:Nat} {l:List (Nat×Value)} {f:List Nat} {y:Nat->Value} {a:Act} {z:Nat->Value} (h:tN n l f y a) (hz:∀i,a.tmps.getD i undef=z i):a=⟨(lh n 0 l f y z).toArray,[]⟩:=by
 have e:(fun i=>a.tmps.getD i undef)=z:=funext hz;unfold tN at h;rw[e] at h;exact h
end Go.Sep
namespace Go.Sep
open Go
theorem hz1 {A B:aA} {L:List aA} :Has (A::B::L) 1 B:=Has.s Has.z
theorem hz2 {A B C:aA} {L:List aA} :Has (A::B::C::L) 2 C:=Has.s hz1
theorem hz3 {A B C D:aA} {L:List aA} :Has (A::B::C::D::L) 3 D:=Has.s hz2
theorem fD {A B C D E:aA} {L:List aA} :Has (A::B::C::D::E::L) 4 E:=Has.s hz3
theorem vk {A B C D E oL:aA} {L:List aA} :Has (A::B::C::D::E::oL::L) 5 oL:=Has.s fD
theorem BN {A B C D E oL G:aA} {L:List aA} :Has (A::B::C::D::E::oL::G::L) 6 G:=Has.s vk
theorem Ho {A B C D E oL G fP:aA} {L:List aA} :Has (A::B::C::D::E::oL::G::fP::L) 7 fP:=Has.s BN
theorem BO {A B C D E oL G fP gP:aA} {L:List aA} :Has (A::B::C::D::E::oL::G::fP::gP::L) 8 gP:=Has.s Ho
theorem hz9 {A B C D E oL G fP gP l7:aA} {L:List aA} :Has (A::B::C::D::E::oL::G::fP::gP::l7::L) 9 l7:=Has.s BO
section
variable {P:Program} {W w:World} {L:List aA} {a:Act} {o:Oper} {K:Act->World->Prop} {Q:Exit->Act->World->Prop} {ops:Array Oper} {rest:List Oper} {k b E:Nat} {l vs:List Value} {T T2:TypeId} {x y:Operand} {off:Nat} {v:Value}
/-! ### an operation of its own (kN), one of a list (nZ) -/
theorem aH (O:Sat W w L) (hk:Has L k (Cs b E l)) (hv:l[off]? =some v) (h:wpList P ops Q rest (a.put o.dst v) w) (ho:o.op= .load T x:=by rfl) (V:a.eval x= .pointer (some ⟨b,off,none⟩):=by rfl) (hT:jk P T=some false:=by exact aI (by rfl)) (hw:Region.wanted o (yielded ops a.tmps)=true:=by rfl):wpList P ops Q (o::rest) a w:=
 toList hw (ld O T x ho b off V hT hk hv h)
/-- The cell is found by looking. -/
theorem bB (O:Sat W w L) (h:wpList P ops Q rest (a.put o.dst v) w) (ho:o.op= .load T x:=by rfl) (V:a.eval x= .pointer (some ⟨b,off,none⟩):=by rfl) (hT:jk P T=some false:=by exact aI (by rfl))
  (hk:Has L k (Cs b E l):=by repeat first|exact Has.z|apply Has.s) (hv:l[off]? =some v:=by rfl) (hw:Region.wanted o (yielded ops a.tmps)=true:=by rfl):wpList P ops Q (o::rest) a w:=
 toList hw (ld O T x ho b off V hT hk hv h)
theorem bV (O:Sat W w L) (h:∀b w',Sat W w' (Cs b T v.cells.toList::L)->wpList P ops Q rest (a.put o.dst (.pointer (some ⟨b,0,none⟩))) w') (ho:o.op= .box T x:=by rfl) (V:a.eval x=v:=by first|exact sV|exact rA (by rfl)) (hw:Region.wanted o (yielded ops a.tmps)=true:=by rfl):wpList P ops Q (o::rest) a w:=
 toList hw (bx O T x ho v V h)
theorem uW {z:Value} (O:Sat W w L) (h:∀b w',Sat W w' (Cs b T z.cells.toList::L)->K (a.put o.dst (.pointer (some ⟨b,0,none⟩))) w') (ho:o.op= .alloc T:=by rfl) (hz:nU P T=some (some z):=by exact Co (by rfl)):o.wp P a w K Q:=
 al O T ho hz h
theorem dU {z:Value} (O:Sat W w L) (h:∀b w',Sat W w' (Cs b T z.cells.toList::L)->wpList P ops Q rest (a.put o.dst (.pointer (some ⟨b,0,none⟩))) w') (ho:o.op= .alloc T:=by rfl) (hz:nU P T=some (some z):=by exact Co (by rfl)) (hw:Region.wanted o (yielded ops a.tmps)=true:=by rfl):wpList P ops Q (o::rest) a w:=
 toList hw (al O T ho hz h)
theorem O5 (O:Sat W w L) (hk:Has L k (Cs b E l)) (h:∀w',Sat W w' (L.set k (Cs b E (l.set off v)))->K (a.put o.dst undef) w') (ho:o.op= .store T x y:=by rfl) (V:a.eval x= .pointer (some ⟨b,off,none⟩):=by rfl)
  (hy:a.eval y=v:=by first|exact sV|exact rA (by rfl)) (hv:v.oneCell'=true:=by rfl) (hn:kr P T=some 1:=by exact bz (by rfl)) (hb:off<l.length:=by exact Nat.le_of_ble_eq_true rfl):o.wp P a w K Q:=
 st O T x y ho b off V v hy hv hn hk hb h
theorem iA (O:Sat W w L) (hk:Has L k (Cs b E l)) (h:∀w',Sat W w' (L.set k (Cs b E (l.set off v)))->wpList P ops Q rest (a.put o.dst undef) w') (ho:o.op= .store T x y:=by rfl) (V:a.eval x= .pointer (some ⟨b,off,none⟩):=by rfl)
  (hy:a.eval y=v:=by first|exact sV|exact rA (by rfl)) (hv:v.oneCell'=true:=by rfl) (hn:kr P T=some 1:=by exact bz (by rfl)) (hb:off<l.length:=by exact Nat.le_of_ble_eq_true rfl) (hw:Region.wanted o (yielded ops a.tmps)=true:=by rfl):wpList P ops Q (o::rest) a w:=
 toList hw (st O T x y ho b off V v hy hv hn hk hb h)
theorem kW (vs:List Value) (O:Sat W w L) (hk:Has L k (Cs b E l)) (h:∀w',Sat W w' (L.set k (Cs b E (l.take off++vs++l.drop (off+vs.length))))->wpList P ops Q rest (a.put o.dst undef) w') (ho:o.op= .store T x y:=by rfl) (V:a.eval x= .pointer (some ⟨b,off,none⟩):=by rfl)
  (hy:a.eval y= .agg vs.toArray:=by rfl) (hv:∀v∈vs,v.oneCell'=true:=by decide) (hn:kr P T=some vs.length:=by exact bz (by rfl)) (hb:off+vs.length<=l.length:=by decide) (hw:Region.wanted o (yielded ops a.tmps)=true:=by rfl):wpList P ops Q (o::rest) a w:=
 toList hw (stA O T x y ho b off V vs hy hv hn hk hb h)
theorem FJ (vs:List Value) (O:Sat W w L) (hk:Has L k (Cs b E l)) (h:∀w',Sat W w' (L.set k (Cs b E (l.take off++vs++l.drop (off+vs.length))))->K (a.put o.dst undef) w') (ho:o.op= .store T x y:=by rfl) (V:a.eval x= .pointer (some ⟨b,off,none⟩):=by rfl)
  (hy:a.eval y= .agg vs.toArray:=by rfl) (hv:∀v∈vs,v.oneCell'=true:=by decide) (hn:kr P T=some vs.length:=by exact bz (by rfl)) (hb:off+vs.length<=l.length:=by decide):o.wp P a w K Q:=
 stA O T x y ho b off V vs hy hv hn hk hb h
theorem eT (vs:List Value) (O:Sat W w L) (hk:Has L k (Cs b E l)) (h:∀w',Sat W w' (L.set k (Cs b E vs))->wpList P ops Q rest (a.put o.dst undef) w') (ho:o.op= .store T x y:=by rfl) (V:a.eval x= .pointer (some ⟨b,0,none⟩):=by rfl)
  (hy:a.eval y= .agg vs.toArray:=by rfl) (hv:∀v∈vs,v.oneCell'=true:=by decide) (hn:kr P T=some vs.length:=by exact bz (by rfl)) (hb:vs.length=l.length:=by rfl) (hw:Region.wanted o (yielded ops a.tmps)=true:=by rfl):wpList P ops Q (o::rest) a w:=
 toList hw (stW O T x y ho V vs hy hv hn hk hb h)
theorem DF (vs:List Value) (O:Sat W w L) (hk:Has L k (Cs b E l)) (h:∀w',Sat W w' (L.set k (Cs b E vs))->K (a.put o.dst undef) w') (ho:o.op= .store T x y:=by rfl) (V:a.eval x= .pointer (some ⟨b,0,none⟩):=by rfl)
  (hy:a.eval y= .agg vs.toArray:=by rfl) (hv:∀v∈vs,v.oneCell'=true:=by decide) (hn:kr P T=some vs.length:=by exact bz (by rfl)) (hb:vs.length=l.length:=by rfl):o.wp P a w K Q:=
 stW O T x y ho V vs hy hv hn hk hb h
theorem mJ {n e size bytes:Nat} {z:Value} {ps:Array (Nat×Operand)} (vs:List Value) (O:Sat W w L) (h:∀b w',Sat W w' (Cs b e (vs.flatMap fun v=>v.cells.toList)::L)->K (a.put o.dst (.slice (some ⟨b,0,none⟩) n n)) w') (ho:o.op= .buildSlice T n ps:=by rfl)
  (hT:lV P T=some (e,size,bytes,some z):=by exact bS (by rfl)) (hvs:ps.toList.map (fun p=>a.eval p.2)=vs:=by rfl) (hix:ps.toList.map (·.1)=List.range n:=by rfl) (hn:0<n*size:=by decide) (hm:n*size<=2 ^ 24:=by decide) (hc:∀v∈vs,v.cells.size=size:=by decide):o.wp P a w K Q:=
 WW O T n ps ho hT vs hvs hix hn hm hc h
theorem il {n e size bytes:Nat} {z:Value} {ps:Array (Nat×Operand)} (vs:List Value) (O:Sat W w L) (h:∀b w',Sat W w' (Cs b e (vs.flatMap fun v=>v.cells.toList)::L)->wpList P ops Q rest (a.put o.dst (.slice (some ⟨b,0,none⟩) n n)) w') (ho:o.op= .buildSlice T n ps:=by rfl)
  (hT:lV P T=some (e,size,bytes,some z):=by exact bS (by rfl)) (hvs:ps.toList.map (fun p=>a.eval p.2)=vs:=by rfl) (hix:ps.toList.map (·.1)=List.range n:=by rfl) (hn:0<n*size:=by decide) (hm:n*size<=2 ^ 24:=by decide) (hc:∀v∈vs,v.cells.size=size:=by decide) (hw:Region.wanted o (yielded ops a.tmps)=true:=by rfl):wpList P ops Q (o::rest) a w:=
 toList hw (WW O T n ps ho hT vs hvs hix hn hm hc h)
theorem aU (h:o.wp P a w (wpList P ops Q rest) Q) (hw:Region.wanted o (yielded ops a.tmps)=true:=by rfl):wpList P ops Q (o::rest) a w:=toList hw h
theorem bN (hr:(execOp a.eval o).run P w= .ok (.value v) w) (h:wpList P ops Q rest (a.put o.dst v) w) (hw:Region.wanted o (yielded ops a.tmps)=true:=by rfl):wpList P ops Q (o::rest) a w:=toList hw (adi hr h)
/-- The cell is found by looking. -/
theorem qR (O:Sat W w L) (h:∀w',Sat W w' (L.set k (Cs b E (l.set off v)))->wpList P ops Q rest (a.put o.dst undef) w') (ho:o.op= .store T x y:=by rfl) (V:a.eval x= .pointer (some ⟨b,off,none⟩):=by rfl)
  (hy:a.eval y=v:=by first|exact sV|exact rA (by rfl)) (hv:v.oneCell'=true:=by rfl) (hn:kr P T=some 1:=by exact bz (by rfl)) (hk:Has L k (Cs b E l):=by repeat first|exact Has.z|apply Has.s) (hb:off<l.length:=by exact Nat.le_of_ble_eq_true rfl) (hw:Region.wanted o (yielded ops a.tmps)=true:=by rfl):wpList P ops Q (o::rest) a w:=
 toList hw (st O T x y ho b off V v hy hv hn hk hb h)
/-! ### append -/
section
variable {α:Type} {f:α->List Value} {xs:List α} {xv zv:Value} {e size bytes:Nat}
theorem og (O:Sat W w L) (hk:Has L k (Tb e size f v xs)) (ys:List α) (h:∀ao c w',(xs++ys).length<=c->Sat W w' (L.set k (Tb e size f (.slice ao (xs++ys).length c) (xs++ys)))->wpList P ops Q rest (a.put o.dst (.slice ao (xs++ys).length c)) w')
  (ho:o.op= .call {callee:= .builtin .append,args:= #[x,y],argTypes:= #[T,T2]} :=by rfl) (hy:a.eval x=v:=by rfl) (hz:a.eval y=xv:=by rfl) (hT:lV P T=some (e,size,bytes,some zv):=by exact bS (by rfl)) (hzs:zv.cells.size=size:=by rfl) (hpos:0<size:=by decide) (kR:rD P T2=some false:=by exact dO (by rfl))
  (hlen:∀x∈ys,(f x).length=size:=by exact fun _ _=>rfl) (hsrc:Src w xv ys.length size (ys.flatMap f):=by exact O.gZ (f:=f) Has.z rfl) (I:∀u∈ys.flatMap f,u.oneCell'=true:=by decide) (hb:(xs.length+ys.length)*bytes<=140737488355328:=by omega) (hm:xs.length+ys.length<=9223372036854775807:=by omega) (hw:Region.wanted o (yielded ops a.tmps)=true:=by rfl):wpList P ops Q (o::rest) a w:=
 toList hw (zg O T T2 x y ho v xv hy hz hT hzs hpos kR hk ys hlen hsrc I hb hm h)
theorem Js (O:Sat W w L) (hk:Has L k (Tb e size f v xs)) (ys:List α) (h:∀ao c w',(xs++ys).length<=c->Sat W w' (L.set k (Tb e size f (.slice ao (xs++ys).length c) (xs++ys)))->K (a.put o.dst (.slice ao (xs++ys).length c)) w')
  (ho:o.op= .call {callee:= .builtin .append,args:= #[x,y],argTypes:= #[T,T2]} :=by rfl) (hy:a.eval x=v:=by rfl) (hz:a.eval y=xv:=by rfl) (hT:lV P T=some (e,size,bytes,some zv):=by exact bS (by rfl)) (hzs:zv.cells.size=size:=by rfl) (hpos:0<size:=by decide) (kR:rD P T2=some false:=by exact dO (by rfl))
  (hlen:∀x∈ys,(f x).length=size:=by exact fun _ _=>rfl) (hsrc:Src w xv ys.length size (ys.flatMap f):=by exact O.gZ (f:=f) Has.z rfl) (I:∀u∈ys.flatMap f,u.oneCell'=true:=by decide) (hb:(xs.length+ys.length)*bytes<=140737488355328:=by omega) (hm:xs.length+ys.length<=9223372036854775807:=by omega):o.wp P a w K Q:=
 zg O T T2 x y ho v xv hy hz hT hzs hpos kR hk ys hlen hsrc I hb hm h
end
/-! ### whole values -/
theorem dm {n:Nat} (O:Sat W w L) (hk:Has L k (Cs b E l)) (vs:List Value) (h:wpList P ops Q rest (a.put o.dst (.agg vs.toArray)) w) (ho:o.op= .load T x:=by rfl) (V:a.eval x= .pointer (some ⟨b,off,none⟩):=by rfl) (hT:jk P T=some true:=by exact aI (by rfl)) (hn:kr P T=some n:=by exact bz (by rfl))
  (hvs:(l.drop off).take n=vs:=by rfl) (hb:vs.length=n:=by rfl) (hw:Region.wanted o (yielded ops a.tmps)=true:=by rfl):wpList P ops Q (o::rest) a w:=
 toList hw (adi (abx O T x ho b off V hT hn hk hvs hb) h)
/-! ### loads of a region that draws -/
theorem bK {R:Value->Prop} (hk:Has L k (Cs b E l)) (hv:l[off]? =some v) (h:R v) (ho:o.op= .load T x:=by rfl) (V:a.eval x= .pointer (some ⟨b,off,none⟩):=by rfl) (hT:jk P T=some false:=by exact aI (by rfl)):∃v,(∀u,Sat W u L->(execOp a.eval o).run P u= .ok (.value v) u)/\R v:=
 ⟨v,UO T x ho b off V hT hk hv,h⟩
theorem rM {R:Value->Prop} (hk:Has L k (Cs b E l)) (h:R v) (ho:o.op= .load T x:=by rfl) (V:a.eval x= .pointer (some ⟨b,off,none⟩):=by rfl) (hT:jk P T=some false:=by exact aI (by rfl)) (hv:l[off]? =some v:=by rfl):∃v,(∀u,Sat W u L->(execOp a.eval o).run P u= .ok (.value v) u)/\R v:=
 ⟨v,UO T x ho b off V hT hk hv,h⟩
/-- The cell is found by looking. -/
theorem qV {R:Value->Prop} (h:R v) (ho:o.op= .load T x:=by rfl) (V:a.eval x= .pointer (some ⟨b,off,none⟩):=by rfl) (hT:jk P T=some false:=by exact aI (by rfl)) (hk:Has L k (Cs b E l):=by repeat first|exact Has.z|apply Has.s) (hv:l[off]? =some v:=by rfl):∃v,(∀u,Sat W u L->(execOp a.eval o).run P u= .ok (.value v) u)/\R v:=
 ⟨v,UO T x ho b off V hT hk hv,h⟩
theorem lY {R:Value->Prop} {n:Nat} (hk:Has L k (Cs b E l)) (vs:List Value) (h:R (.agg vs.toArray)) (ho:o.op= .load T x:=by rfl) (V:a.eval x= .pointer (some ⟨b,off,none⟩):=by rfl) (hT:jk P T=some true:=by exact aI (by rfl)) (hn:kr P T=some n:=by exact bz (by rfl)) (hvs:(l.drop off).take n=vs:=by rfl) (hb:vs.length=n:=by rfl):
  ∃v,(∀u,Sat W u L->(execOp a.eval o).run P u= .ok (.value v) u)/\R v:=
 ⟨_,Ll T x ho b off V hT hn hk hvs hb,h⟩
/-! ### calls -/
theorem cK {f:FuncId} {xs:List Operand} {ts:Array TypeId} {args:List Value} {R:Ending->World->Prop} (hc:Calls P f args.toArray w R) (h:∀e w',R e w'->∃v,e= .returned v/\K (a.put o.dst v) w')
  (ho:o.op= .call {callee:= .value (.func f),args:=xs.toArray,argTypes:=ts} :=by rfl) (V:xs.map a.eval=args:=by rfl) (hf:Gs P f=true:=by kernel_rfl):o.wp P a w K Q:=
 Go.Sep.cl f xs ts ho V hf hc h
/-- One that answers v, and leaves S. -/
theorem jy {f:FuncId} {xs:List Operand} {ts:Array TypeId} {args:List Value} {v:Value} {S:World->Prop} (hc:Calls P f args.toArray w fun e w'=>e= .returned v/\S w') (h:∀w',S w'->K (a.put o.dst v) w')
  (ho:o.op= .call {callee:= .value (.func f),args:=xs.toArray,argTypes:=ts} :=by rfl) (V:xs.map a.eval=args:=by rfl) (hf:Gs P f=true:=by kernel_rfl):o.wp P a w K Q:=
 Go.Sep.cl f xs ts ho V hf hc fun e w' ⟨he,hs⟩=>⟨v,he,h w' hs⟩
theorem ak {f:FuncId} {args:Array Value} {v:Value} {S:World->Prop} {R:Ending->World->Prop} (hc:Calls P f args w fun e w'=>e= .returned v/\S w') (h:∀w',S w'->R (.returned v) w'):Calls P f args w R:=
 hc.mono fun e w' ⟨he,hs⟩=>by rw[he];exact h w' hs
end
end Go.Sep
namespace Go.Sep
open Go
variable {β:Type} {R:Value->β->aA} {P:Program} {Q:Exit->Act->World->Prop} {W w:World} {L:List aA} {a:Act} {o:Oper} {K:Act->World->Prop} {k b E:Nat} {v u v2:Value} {x:β} {xs ys:List β}
end Go.Sep
namespace Go.Sep
open Go
variable {P:Program} {Q:Exit->Act->World->Prop} {w:World} {a:Act} {o:Oper} {K:Act->World->Prop}
theorem Xg (oL:FuncId) (x:Operand) (xs:List Operand) (ts:Array TypeId) (ho:o.op= .call {callee:= .value x,args:=xs.toArray,argTypes:=ts}) {rc cp:Array Value} (hv:a.eval x= .func (.func oL) rc cp) {args:List Value} (V:xs.map a.eval=args)
  (hf:Gs P oL=true) {R:Ending->World->Prop} (hc:Calls P oL (rc++args.toArray++cp) w R) (h:∀e w',R e w'->∃v,e= .returned v/\K (a.put o.dst v) w'):o.wp P a w K Q:=by
 subst V;unfold Oper.wp
 have hr:(execOp a.eval o).run P w= .ok (.enter oL (rc++(xs.map a.eval).toArray++cp)) w:=by
  rw[show execOp a.eval o=callFunc oL (rc++xs.toArray.map a.eval++cp) from by unfold execOp;rw[ho];simp only[resolve,hv,Deferred.ofValue];rfl,abZ hf];simp
 rw[hr,Oper.upon_enter];refine hc.mono fun e w' he=>?_
 obtain⟨v,rfl,hK⟩:=h e w' he;exact hK
end Go.Sep