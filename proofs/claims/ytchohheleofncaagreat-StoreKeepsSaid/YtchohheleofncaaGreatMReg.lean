/-
 Regions that draw their order, in the logic of separate memory: what yields in every world at hand is taken first (the loads too), the other operations go in their own order; what must hold for the loads may grow from operation to operation, and ends where all loads have been.
 Arguments that are slices of structs: their rows by an encoder.
 A string as bytes in new memory; an element of one cell written into a slice.
 More laws: bytes appended to bytes; the bytes of a slice at any world.
 Maps that a call owns, in the logic of separate memory: 'Mp ke ve b f': block b is a map that holds 've x' at 'ke k' just if 'f k = some x'.
 Lists of numbers; a slice of slices whose rows are each its own: 'Rws R v xs'.
 Drawn regions in which several acts may come up at once; branches that are joined.
 A drawn region's loads: an act that waits for them by way of more steps.
 A row that the library's sort has turned; a slice that is grown by noughts into new memory; an empty slice literal.
 Slices cut at either end: what they read.
 A function's body cut in two: what holds between the parts.
 A scope with two labels: the run jumps back to one of them, and on to the other one.
 Regions that draw, in fewer words: what a closed fact shows is shown where the law is named.
-/
import Derived.OrdersHeld
import Derived.Test.YtchohheleofncaaGreatMSep
import Derived.Lib.ConvBytes
import Derived.Laws.ResultCell
import Derived.OwnWalk
import Derived.Laws.StructEq
import Derived.MapKept
import Derived.Sort.Grow
import Derived.Lib.Hide
import Derived.ScopeJumps
import Derived.WalkMore
import Derived.WalkKit
set_option linter.unusedSimpArgs false
set_option linter.unusedVariables false
namespace Go.Sep
open Go

def awaits (md : Region.Mode) (ops : Array Oper) : Nat → Nat → Nat → Bool
 | 0, _, _ => false
 | n + 1, j, i => match ops[j]? with
  | none => false
  | some o => o.after.any fun e => Region.binds md e && (e.on == i || awaits md ops n e.on i)
def Closed (md : Region.Mode) (ops : Array Oper) (listed : Array Bool) : Prop :=
 ∀ j o, listed.getD j false = true → ops[j]? = some o → ∀ e ∈ o.after, Region.binds md e = true → listed.getD e.on false = true
def closedB (md : Region.Mode) (ops : Array Oper) (listed : Array Bool) : Bool :=
 (List.range listed.size).all fun j => !listed.getD j false || (match ops[j]? with | none => true | some o => o.after.all fun e => !Region.binds md e || listed.getD e.on false)

section
variable {P : Program} {ops : Array Oper} {Q : Exit → Act → World → Prop} {md : Region.Mode}

theorem closed_of {listed : Array Bool} (h : closedB md ops listed = true) : Closed md ops listed := fun j o hj ho e he hb => by
 unfold closedB at h
 rw [List.all_eq_true] at h
 have hlt : j < listed.size := by
  rcases Nat.lt_or_ge j listed.size with h' | h'
  ·exact h'
  ·simp [Array.getElem?_eq_none h'] at hj
 have h1 := h j (List.mem_range.2 hlt)
 simp only [hj, ho, Bool.not_true, Bool.false_or, Array.all_eq_true_iff_forall_mem, Bool.or_eq_true, Bool.not_eq_true'] at h1
 rcases h1 e he with h2 | h2
 ·rw [hb] at h2; cases h2
 ·exact h2
theorem closed_set {listed : Array Bool} {i : Nat} (h : Closed md ops listed) (hr : i ∈ Region.ready md ops listed) : Closed md ops (listed.setIfInBounds i true) := fun j o hj ho e he hb => by
 by_cases hij : i = j
 ·subst hij
  obtain ⟨_, o', ho', hall⟩ := mem_ready.1 hr
  rw [ho] at ho'; cases ho'
  exact getD_set_true (hall e he hb)
 ·rw [getD_set_ne false hij] at hj
  exact getD_set_true (h j o hj ho e he hb)
theorem awaits_listed {listed : Array Bool} (hc : Closed md ops listed) {i : Nat} : ∀ (n j : Nat) (o : Oper), ops[j]? = some o → (∀ e ∈ o.after, Region.binds md e = true → listed.getD e.on false = true) →
  awaits md ops n j i = true → listed.getD i false = true
 | 0, _, _, _, _, h => by cases h
 | n + 1, j, o, ho, hall, h => by
  unfold awaits at h
  simp only [ho] at h
  obtain ⟨e, he, hb⟩ := Array.any_eq_true'.1 h
  simp only [Bool.and_eq_true, Bool.or_eq_true, beq_iff_eq] at hb
  rcases hb.2 with h2 | h2
  ·subst h2; exact hall e he hb.1
  ·have hl := hall e he hb.1
   cases n with
   | zero => cases h2
   | succ n =>
    cases ho2 : ops[e.on]? with
    | none => unfold awaits at h2; simp [ho2] at h2
    | some o2 => exact awaits_listed hc (n + 1) e.on o2 ho2 (fun e2 he2 hb2 => hc e.on o2 hl ho2 e2 he2 hb2) h2

def wpAnyG (P : Program) (md : Region.Mode) (ops : Array Oper) (Q : Exit → Act → World → Prop) (free : List Nat) : Nat → (World → Prop) → Array Bool → Act → World → Prop
 | 0, _, listed, a, w => Region.ready md ops listed = [] ∧ Q .normal a w
 | fuel + 1, S, listed, a, w =>
  (Region.ready md ops listed = [] → Q .normal a w) ∧
  ∀ i ∈ Region.ready md ops listed, wpOp P ops Q i (fun a' w' => ∃ S' : World → Prop, S' w' ∧ (free.contains i = false → ∀ u, S' u → S u) ∧ wpAnyG P md ops Q free fuel S' (listed.setIfInBounds i true) a' w') a w

theorem wpAny_of_G {free : List Nat} : ∀ (fuel : Nat) (S : World → Prop) (listed : Array Bool) (a : Act) (w : World), wpAnyG P md ops Q free fuel S listed a w → wpAny P md ops Q fuel listed a w
 | 0, _, _, _, _, h => h
 | fuel + 1, _, _, _, _, h => ⟨h.1, fun i hi => wpOp_mono (fun a' w' ⟨S', _, _, h'⟩ => wpAny_of_G fuel S' _ a' w' h') (h.2 i hi)⟩

theorem YieldsIf.weaken {S S' : World → Prop} (h : ∀ u, S' u → S u) {o : Oper} {v : Value} {a : Act} (hy : YieldsIf P ops S o v a) : YieldsIf P ops S' o v a :=
 hy.imp (fun ⟨x, y⟩ => ⟨x, fun w hw => y w (h w hw)⟩) id

theorem wpAnyG_first {free : List Nat} {N i : Nat} {oi : Oper} {v : Value} (hi : ops[i]? = some oi) (hsel : ∀ (j : Nat) (o : Oper) cs b, ops[j]? = some o → o.op ≠ .select cs b)
  (hQ : ∀ c a w, Q (.panic c) (a.put oi.dst v) w → Q (.panic c) a w) :
  ∀ (fuel : Nat) (S : World → Prop) (listed : Array Bool) (a : Act) (w : World), Closed md ops listed →
   (∀ j oj, ops[j]? = some oj → j ≠ i → listed.getD j true = false → (∀ e ∈ oj.after, Region.binds md e = true → e.on ≠ i) → oi.apart ops oj = true) →
   (∀ j, j ≠ i → free.contains j = true → listed.getD j true = false → awaits md ops N j i = true) →
   i ∈ Region.ready md ops listed → YieldsIf P ops S oi v a → S w →
   wpAnyG P md ops Q free fuel S (listed.setIfInBounds i true) (a.put oi.dst v) w → wpAnyG P md ops Q free (fuel + 1) S listed a w := by
 intro fuel
 induction fuel with
 | zero =>
  intro S listed a w _ _ _ hr hy hS H
  refine ⟨fun h => (by rw [h] at hr; cases hr), fun j hj => ?_⟩
  by_cases hji : j = i
  ·subst hji; exact hy.wpOp hi hS ⟨S, hS, fun _ _ h => h, H⟩
  ·have := ready_mono hj hji
   rw [H.1] at this
   cases this
 | succ fuel ih =>
  intro S listed a w hcl hfree hnd hr hy hS H
  refine ⟨fun h => (by rw [h] at hr; cases hr), fun j hj => ?_⟩
  by_cases hji : j = i
  ·subst hji; exact hy.wpOp hi hS ⟨S, hS, fun _ _ h => h, H⟩
  ·have h1 := H.2 j (ready_mono hj hji)
   obtain ⟨hjun, oj, hoj, hall⟩ := mem_ready.1 hj
   have h0 := (mem_ready.1 hr).1
   have hun : listed.getD i false = false := by
    rcases Nat.lt_or_ge i listed.size with h' | h'
    ·simp [h'] at h0 ⊢; exact h0
    ·simp [Array.getElem?_eq_none h'] at h0
   have hnot : ∀ e ∈ oj.after, Region.binds md e = true → e.on ≠ i := fun e he hb heq => by
    have h1 := hall e he hb
    rw [heq, hun] at h1; cases h1
   have hjf : free.contains j = false := by
    cases hf : free.contains j with
    | false => rfl
    | true =>
     have := awaits_listed hcl N j oj hoj hall (hnd j hji hf hjun)
     rw [hun] at this; cases this
   have h2 := wpOp_putIf hoj (hfree j oj hoj hji hjun hnot) (fun cs b => hsel i oi cs b hi) (fun cs b => hsel j oj cs b hoj) hQ hy h1
   have hset : ∀ k, (listed.setIfInBounds j true).getD k true = false → listed.getD k true = false := fun k hun => by
    by_cases hjk : j = k
    ·subst hjk; exact hjun
    ·rw [getD_set_ne true hjk] at hun; exact hun
   refine wpOp_mono (fun a' w' h3 => ?_) h2
   obtain ⟨hy', S', hS', hSS, h4⟩ := h3
   refine ⟨S', hS', hSS, ih S' (listed.setIfInBounds j true) a' w' (closed_set hcl hj)
    (fun k ok hk hki hun hno => hfree k ok hk hki (hset k hun) hno) (fun k hki hf hun => hnd k hki hf (hset k hun))
    (ready_mono hr (Ne.symm hji)) (YieldsIf.weaken (hSS hjf) hy') hS' ?_⟩
   rw [Array.setIfInBounds_comm _ _ hji]
   exact h4
theorem wpAnyG_firstP {free : List Nat} {i : Nat} {oi : Oper} {v : Value} (hi : ops[i]? = some oi) (hsel : ∀ (j : Nat) (o : Oper) cs b, ops[j]? = some o → o.op ≠ .select cs b)
  (hQ : ∀ c a w, Q (.panic c) (a.put oi.dst v) w → Q (.panic c) a w) :
  ∀ (fuel : Nat) (S : World → Prop) (listed : Array Bool) (a : Act) (w : World),
   (∀ j oj, ops[j]? = some oj → j ≠ i → listed.getD j true = false → (∀ e ∈ oj.after, Region.binds md e = true → e.on ≠ i) → oi.apart ops oj = true) →
   i ∈ Region.ready md ops listed → YieldsIf P ops (fun _ => True) oi v a → S w →
   wpAnyG P md ops Q free fuel S (listed.setIfInBounds i true) (a.put oi.dst v) w → wpAnyG P md ops Q free (fuel + 1) S listed a w := by
 intro fuel
 induction fuel with
 | zero =>
  intro S listed a w _ hr hy hS H
  refine ⟨fun h => (by rw [h] at hr; cases hr), fun j hj => ?_⟩
  by_cases hji : j = i
  ·subst hji; exact hy.wpOp hi trivial ⟨S, hS, fun _ _ h => h, H⟩
  ·have := ready_mono hj hji
   rw [H.1] at this
   cases this
 | succ fuel ih =>
  intro S listed a w hfree hr hy hS H
  refine ⟨fun h => (by rw [h] at hr; cases hr), fun j hj => ?_⟩
  by_cases hji : j = i
  ·subst hji; exact hy.wpOp hi trivial ⟨S, hS, fun _ _ h => h, H⟩
  ·have h1 := H.2 j (ready_mono hj hji)
   obtain ⟨hjun, oj, hoj, hall⟩ := mem_ready.1 hj
   have h0 := (mem_ready.1 hr).1
   have hnot : ∀ e ∈ oj.after, Region.binds md e = true → e.on ≠ i := fun e he hb heq => by
    have h1 := hall e he hb
    rw [heq] at h1
    rcases Nat.lt_or_ge i listed.size with h' | h'
    ·simp [h'] at h0 h1; rw [h0] at h1; cases h1
    ·simp [Array.getElem?_eq_none h'] at h1
   have h2 := wpOp_putIf hoj (hfree j oj hoj hji hjun hnot) (fun cs b => hsel i oi cs b hi) (fun cs b => hsel j oj cs b hoj) hQ hy h1
   have hset : ∀ k, (listed.setIfInBounds j true).getD k true = false → listed.getD k true = false := fun k hun => by
    by_cases hjk : j = k
    ·subst hjk; exact hjun
    ·rw [getD_set_ne true hjk] at hun; exact hun
   refine wpOp_mono (fun a' w' h3 => ?_) h2
   obtain ⟨hy', S', hS', hSS, h4⟩ := h3
   refine ⟨S', hS', hSS, ih S' (listed.setIfInBounds j true) a' w'
    (fun k ok hk hki hun hno => hfree k ok hk hki (hset k hun) hno) (ready_mono hr (Ne.symm hji)) hy' hS' ?_⟩
   rw [Array.setIfInBounds_comm _ _ hji]
   exact h4
end

/-! ### the moves of a walk -/
def nth : List Oper → Nat → Option Oper
 | [], _ => none
 | o :: _, 0 => some o
 | _ :: l, n + 1 => nth l n
theorem nth_eq : ∀ (l : List Oper) (n : Nat), nth l n = l.toArray[n]?
 | [], n => by simp [nth]
 | o :: l, 0 => by simp [nth]
 | o :: l, n + 1 => by rw [nth, nth_eq l n]; simp

def Reg (P : Program) (Q : Exit → Act → World → Prop) (free : List Nat) (l : List Oper) (W : World) (fuel : Nat) (L : List Asrt) (listed : List Bool) (a : Act) (w : World) : Prop :=
 wpAnyG P .any l.toArray Q free fuel (fun u => Sat W u L) listed.toArray a w

section
variable {P : Program} {Q : Exit → Act → World → Prop} {free : List Nat} {l : List Oper} {W w : World} {L L' : List Asrt} {fuel : Nat} {listed : List Bool} {a : Act}

theorem regStart (free : List Nat) (hS : Sat W w L) {id : Nat} {n : Nat} (hm : P.follows .mixedOrders = true) (hn : l.length = n)
  (h : ∀ w', Sat W w' L → Reg P Q free l W n L (List.replicate n false) a w') : (Code.region id l.toArray true).wp P Q a w := by
 subst hn
 refine wp_region_any hm (wpAny_of_G (free := free) _ (fun u => Sat W u L) _ _ _ ?_)
 have := h _ (hS.of_heap (w' := { w with drawn := w.drawn + 1 }) rfl rfl rfl)
 unfold Reg at this
 simpa using this

theorem regStart2 {Lf : List Asrt} (free : List Nat) (hS : Sat W w Lf) (_ : ∀ u, Sat W u Lf → Sat W u L) {id : Nat} {n : Nat} (hm : P.follows .mixedOrders = true) (hn : l.length = n)
  (h : ∀ w', Sat W w' Lf → Reg P Q free l W n L (List.replicate n false) a w') : (Code.region id l.toArray true).wp P Q a w := by
 subst hn
 refine wp_region_any hm (wpAny_of_G (free := free) _ (fun u => Sat W u L) _ _ _ ?_)
 have := h _ (hS.of_heap (w' := { w with drawn := w.drawn + 1 }) rfl rfl rfl)
 unfold Reg at this
 simpa using this
theorem regP (i : Nat) (hS : Sat W w L') (hL : ∀ u, Sat W u L' → Sat W u L) {oi : Oper} (hi : nth l i = some oi) (hs : Region.noSelect l.toArray = true) (hf : Region.free .any l.toArray listed.toArray i = true)
  (hr : (Region.ready .any l.toArray listed.toArray).contains i = true) (hQ : ∀ v c a w, Q (.panic c) (a.put oi.dst v) w → Q (.panic c) a w)
  (hw : Region.wanted oi (yielded l.toArray a.tmps) = true) {listed' : List Bool} (hl : listed.set i true = listed')
  (h : ∃ v, (∀ u, (execOp a.eval oi).run P u = .ok (.value v) u) ∧ Reg P Q free l W fuel L listed' (a.put oi.dst v) w) : Reg P Q free l W (fuel + 1) L listed a w := by
 subst hl
 rw [nth_eq] at hi
 obtain ⟨v, hy, h⟩ := h
 exact wpAnyG_firstP hi (Region.noSelect_spec hs) (hQ v) fuel _ _ a w (Region.free_spec hi hf) (by simpa using hr) (.inl ⟨hw, fun u _ => hy u⟩) (hL w hS) (by simpa [Reg] using h)
theorem regN (i : Nat) (hS : Sat W w L') (hL : ∀ u, Sat W u L' → Sat W u L) {oi : Oper} (hi : nth l i = some oi) (hs : Region.noSelect l.toArray = true) (hf : Region.free .any l.toArray listed.toArray i = true)
  (hr : (Region.ready .any l.toArray listed.toArray).contains i = true) (hQ : ∀ c a w, Q (.panic c) (a.put oi.dst undef) w → Q (.panic c) a w)
  (hw : Region.wanted oi (yielded l.toArray a.tmps) = false)
  {listed' : List Bool} (hl : listed.set i true = listed') (h : Reg P Q free l W fuel L listed' (a.put oi.dst undef) w) : Reg P Q free l W (fuel + 1) L listed a w := by
 subst hl
 rw [nth_eq] at hi
 exact wpAnyG_firstP hi (Region.noSelect_spec hs) hQ fuel _ _ a w (Region.free_spec hi hf) (by simpa using hr) (.inr ⟨hw, rfl⟩) (hL w hS) (by simpa [Reg] using h)
def waitsB (l : List Oper) (free : List Nat) (listed : List Bool) (i : Nat) : Bool :=
 free.all fun j => j == i || listed.toArray.getD j true || awaits .any l.toArray 3 j i
theorem regR (i : Nat) (hS : Sat W w L') (hL : ∀ u, Sat W u L' → Sat W u L) {oi : Oper} (hi : nth l i = some oi) (hs : Region.noSelect l.toArray = true) (hf : Region.free .any l.toArray listed.toArray i = true)
  (hr : (Region.ready .any l.toArray listed.toArray).contains i = true) (hc : closedB .any l.toArray listed.toArray = true) (hn : waitsB l free listed i = true)
  (hQ : ∀ v c a w, Q (.panic c) (a.put oi.dst v) w → Q (.panic c) a w)
  (hw : Region.wanted oi (yielded l.toArray a.tmps) = true) {listed' : List Bool} (hl : listed.set i true = listed')
  (h : ∃ v, (∀ u, Sat W u L → (execOp a.eval oi).run P u = .ok (.value v) u) ∧ Reg P Q free l W fuel L listed' (a.put oi.dst v) w) : Reg P Q free l W (fuel + 1) L listed a w := by
 subst hl
 rw [nth_eq] at hi
 obtain ⟨v, hy, h⟩ := h
 refine wpAnyG_first (N := 3) hi (Region.noSelect_spec hs) (hQ v) fuel _ _ a w (closed_of hc) (Region.free_spec hi hf) (fun j hji hj hun => ?_) (by simpa using hr) (.inl ⟨hw, hy⟩) (hL w hS) (by simpa [Reg] using h)
 unfold waitsB at hn
 have := List.all_eq_true.1 hn j (by simpa using hj)
 simp only [Bool.or_eq_true, beq_iff_eq, hun, hji, Bool.false_eq_true, false_or] at this
 exact this
theorem regA (i : Nat) {oi : Oper} (hi : nth l i = some oi) (hr : Region.ready .any l.toArray listed.toArray = [i])
  (hw : Region.wanted oi (yielded l.toArray a.tmps) = true) {listed' : List Bool} (hl : listed.set i true = listed') (b : Bool) (hb : free.contains i = b)
  (h : ∀ K : Act → World → Prop, (∀ a' w' (L' : List Asrt), Sat W w' L' → (b = false → ∀ u, Sat W u L' → Sat W u L) → Reg P Q free l W fuel L' listed' a' w' → K a' w') → oi.wp P a w K Q) : Reg P Q free l W (fuel + 1) L listed a w := by
 subst hl
 subst hb
 unfold Reg wpAnyG
 refine ⟨fun h0 => (by rw [hr] at h0; cases h0), fun j hj => ?_⟩
 rw [hr, List.mem_singleton] at hj
 subst hj
 rw [nth_eq] at hi
 unfold wpOp
 simp only [hi]
 rw [if_pos hw]
 refine .inl (h _ fun a' w' L' h1 h2 h3 => ⟨fun u => Sat W u L', h1, h2, ?_⟩)
 simpa [Reg] using h3
theorem regDone (hr : Region.ready .any l.toArray listed.toArray = []) (h : Q .normal a w) : Reg P Q free l W fuel L listed a w := by
 unfold Reg
 cases fuel with
 | zero => exact ⟨hr, h⟩
 | succ n => exact ⟨fun _ => h, by rw [hr]; simp⟩

/-! ### what only reads -/
variable {o : Oper} {K : Act → World → Prop} {k b off : Nat} {T : TypeId}
theorem wp_of_reads {v : Value} (hr : (execOp a.eval o).run P w = .ok (.value v) w) (h : K (a.put o.dst v) w) : o.wp P a w K Q := by
 unfold Oper.wp
 rw [hr]
 exact h
theorem rd_of {s : Sem Value} (hs : execOp a.eval o = (do let x ← s; pure (.value x))) {v : Value} (hr : s.run P w = .ok v w) : (execOp a.eval o).run P w = .ok (.value v) w := by
 rw [hs]; simp [hr]
theorem rLd (hS : Sat W w L) (T : TypeId) (x : Operand) (ho : o.op = .load T x) (b off : Nat) (hx : a.eval x = .pointer (some ⟨b, off, none⟩)) (hT : aggB P T = some false)
  {k E l v} (hk : Has L k (Cs b E l)) (hv : l[off]? = some v) : (execOp a.eval o).run P w = .ok (.value v) w :=
 rd_of (s := loadVar T ⟨b, off, none⟩) (by simp [execOp, ho, hx, Instr.loadAt, Instr.sureAddr]) (run_loadScalar hT (hS.cell hk hv))
theorem rLdA (hS : Sat W w L) (T : TypeId) (x : Operand) (ho : o.op = .load T x) (b off : Nat) (hx : a.eval x = .pointer (some ⟨b, off, none⟩)) (hT : aggB P T = some true)
  {n} (hn : szB P T = some n) {k E l} (hk : Has L k (Cs b E l)) {vs : List Value} (hvs : (l.drop off).take n = vs) (hb : vs.length = n) : (execOp a.eval o).run P w = .ok (.value (.agg vs.toArray)) w := by
 subst hvs
 exact rd_of (s := loadVar T ⟨b, off, none⟩) (by simp [execOp, ho, hx, Instr.loadAt, Instr.sureAddr])
  (run_loadAgg hT hn hb fun j v hv => hS.cell hk (by
   rw [List.getElem?_take] at hv
   split at hv
   ·rwa [List.getElem?_drop] at hv
   ·cases hv))
theorem Rd.at {v : Value} {b off n sz c : Nat} {vs : List Value} {j : Nat} (h : Rd w (.slice (some ⟨b, off, none⟩) n c) n sz vs) (hn : 0 < n) (hv : vs[j]? = some v) : w.cell? ⟨b, off + j, none⟩ = some v := by
 obtain ⟨ao, c', h1, _, _, _, h5⟩ := h
 simp only [Value.slice.injEq, true_and] at h1
 obtain ⟨rfl, rfl⟩ := h1
 obtain ⟨b', off', h6, h7⟩ := h5 hn
 simp only [Option.some.injEq, Addr.mk.injEq, and_true] at h6
 obtain ⟨rfl, rfl⟩ := h6
 exact h7 _ _ hv
theorem rLdRdA {α : Type} {f : α → List Value} {l : List α} {x : α} {off n sz c : Nat} (h : Rd w (.slice (some ⟨b, off, none⟩) n c) n sz (l.flatMap f)) (hf : ∀ x ∈ l, (f x).length = sz) (T : TypeId) (y : Operand) (ho : o.op = .load T y) (ad : Nat) (hy : a.eval y = .pointer (some ⟨b, ad, none⟩)) (hT : aggB P T = some true) (hs : szB P T = some sz)
  (i : Nat) (hj : ad = off + i * sz) (hx : l[i]? = some x) (hn : 0 < n) : (execOp a.eval o).run P w = .ok (.value (.agg (f x).toArray)) w := by
 subst hj
 exact rd_of (s := loadVar T ⟨b, off + i * sz, none⟩) (by simp [execOp, ho, hy, Instr.loadAt, Instr.sureAddr])
  (run_loadAgg hT hs (hf x (List.mem_of_getElem? hx)) fun j u hu => by rw [Nat.add_assoc]; exact h.at hn (fm_cell hf hx hu))
theorem rLdRd {α : Type} {f : α → List Value} {l : List α} {x : α} {off n sz c : Nat} (h : Rd w (.slice (some ⟨b, off, none⟩) n c) n sz (l.flatMap f)) (hf : ∀ x ∈ l, (f x).length = sz) (T : TypeId) (y : Operand) (ho : o.op = .load T y) (ad : Nat) (hy : a.eval y = .pointer (some ⟨b, ad, none⟩)) (hT : aggB P T = some false)
  (i j : Nat) (hj : ad = off + (i * sz + j)) (hx : l[i]? = some x) {u : Value} (hu : (f x)[j]? = some u) (hn : 0 < n) : (execOp a.eval o).run P w = .ok (.value u) w := by
 subst hj
 exact rd_of (s := loadVar T ⟨b, off + (i * sz + j), none⟩) (by simp [execOp, ho, hy, Instr.loadAt, Instr.sureAddr]) (run_loadScalar hT (h.at hn (fm_cell hf hx hu)))
theorem rLdSl (hS : Sat W w L) (T : TypeId) (x : Operand) (ho : o.op = .load T x) (b ad : Nat) (hx : a.eval x = .pointer (some ⟨b, ad, none⟩)) (hT : aggB P T = some false)
  {k E sz off c n vs} (hk : Has L k (Sl E sz (.slice (some ⟨b, off, none⟩) n c) n vs)) (j : Nat) (hj : ad = off + j) {v : Value} (hv : vs[j]? = some v) : (execOp a.eval o).run P w = .ok (.value v) w := by
 subst hj
 exact rd_of (s := loadVar T ⟨b, off + j, none⟩) (by simp [execOp, ho, hx, Instr.loadAt, Instr.sureAddr]) (run_loadScalar hT (hS.slCell hk hv).1)
theorem rLdTb {α : Type} {f : α → List Value} {xs : List α} {x : α} {off sz c E k : Nat} (hS : Sat W w L) (T : TypeId) (y : Operand) (ho : o.op = .load T y) (b ad : Nat) (hy : a.eval y = .pointer (some ⟨b, ad, none⟩)) (hT : aggB P T = some false)
  (hk : Has L k (Tb E sz f (.slice (some ⟨b, off, none⟩) xs.length c) xs)) (i j : Nat) (hj : ad = off + (i * sz + j)) (hx : xs[i]? = some x) {u : Value} (hu : (f x)[j]? = some u) : (execOp a.eval o).run P w = .ok (.value u) w := by
 subst hj
 exact rd_of (s := loadVar T ⟨b, off + (i * sz + j), none⟩) (by simp [execOp, ho, hy, Instr.loadAt, Instr.sureAddr]) (run_loadScalar hT (hS.tbCell hk hx hu).1)
theorem rCv (S T : TypeId) (x : Operand) (ho : o.op = .convert S T x) (xv : Value) (hx : a.eval x = xv) {e : TypeId} (hST : strB P S T = some e)
  {n : Nat} {l : List UInt8} (hr : Rd w xv n 1 (bv l)) : (execOp a.eval o).run P w = .ok (.value (.string ⟨l.toArray⟩)) w := by
 unfold strB at hST
 split at hST
 ·rename_i e' hS hT
  split at hST
  ·rename_i he
   have hrun := hr.bytes (P := P)
   obtain ⟨ao, c, rfl, _⟩ := hr
   refine rd_of (s := convert S T (.slice ao n c)) (by simp [execOp, ho, hx]) (v := .string ⟨l.toArray⟩) ?_
   cases ao <;> simp [convert, run_underlying hS, run_underlying hT, run_underlying he, hrun]
  ·cases hST
 ·cases hST

/-! ### the same, in all worlds that meet L -/
section
variable {W : World} {L : List Asrt}
theorem yLd (T : TypeId) (x : Operand) (ho : o.op = .load T x) (b off : Nat) (hx : a.eval x = .pointer (some ⟨b, off, none⟩)) (hT : aggB P T = some false)
  {k E l v} (hk : Has L k (Cs b E l)) (hv : l[off]? = some v) : ∀ u, Sat W u L → (execOp a.eval o).run P u = .ok (.value v) u := fun _ hS => rLd hS T x ho b off hx hT hk hv
theorem yLdA (T : TypeId) (x : Operand) (ho : o.op = .load T x) (b off : Nat) (hx : a.eval x = .pointer (some ⟨b, off, none⟩)) (hT : aggB P T = some true)
  {n} (hn : szB P T = some n) {k E l} (hk : Has L k (Cs b E l)) {vs : List Value} (hvs : (l.drop off).take n = vs) (hb : vs.length = n) : ∀ u, Sat W u L → (execOp a.eval o).run P u = .ok (.value (.agg vs.toArray)) u :=
 fun _ hS => rLdA hS T x ho b off hx hT hn hk hvs hb
theorem yLdSl (T : TypeId) (x : Operand) (ho : o.op = .load T x) (b ad : Nat) (hx : a.eval x = .pointer (some ⟨b, ad, none⟩)) (hT : aggB P T = some false)
  {k E sz off c n vs} (hk : Has L k (Sl E sz (.slice (some ⟨b, off, none⟩) n c) n vs)) (j : Nat) (hj : ad = off + j) {v : Value} (hv : vs[j]? = some v) : ∀ u, Sat W u L → (execOp a.eval o).run P u = .ok (.value v) u :=
 fun _ hS => rLdSl hS T x ho b ad hx hT hk j hj hv
theorem yLdTb {α : Type} {f : α → List Value} {xs : List α} {x : α} {off sz c E k : Nat} (T : TypeId) (y : Operand) (ho : o.op = .load T y) (b ad : Nat) (hy : a.eval y = .pointer (some ⟨b, ad, none⟩)) (hT : aggB P T = some false)
  (hk : Has L k (Tb E sz f (.slice (some ⟨b, off, none⟩) xs.length c) xs)) (i j : Nat) (hj : ad = off + (i * sz + j)) (hx : xs[i]? = some x) {v : Value} (hu : (f x)[j]? = some v) : ∀ u, Sat W u L → (execOp a.eval o).run P u = .ok (.value v) u :=
 fun _ hS => rLdTb hS T y ho b ad hy hT hk i j hj hx hu
theorem yCv (S T : TypeId) (x : Operand) (ho : o.op = .convert S T x) (xv : Value) (hx : a.eval x = xv) {e : TypeId} (hST : strB P S T = some e)
  {n : Nat} {l : List UInt8} (hr : ∀ u, Sat W u L → Rd u xv n 1 (bv l)) : ∀ u, Sat W u L → (execOp a.eval o).run P u = .ok (.value (.string ⟨l.toArray⟩)) u := fun u hS => rCv S T x ho xv hx hST (hr u hS)
end
theorem agg1 (X : List Value) : [Value.agg X.toArray].flatMap (fun v => v.cells.toList) = X := by simp [Value.cells]
theorem sca1 {v : Value} (h : v.cells = #[v]) : [v].flatMap (fun v => v.cells.toList) = [v] := by simp [h]
theorem fm1 {α : Type} (f : α → List Value) (x : α) : [x].flatMap f = f x := by simp
theorem Sat.src1 {α : Type} {f : α → List Value} {x : α} {sz E b k : Nat} {L : List Asrt} (h : Sat W w L) (hk : Has L k (Cs b E (f x))) (hf : (f x).length = sz) : Src w (.slice (some ⟨b, 0, none⟩) 1 1) [x].length sz ([x].flatMap f) := by
 rw [fm1]
 exact .inl (h.csRd0 hk (by decide) (by simp [hf]))
theorem stW {k b E : Nat} {l : List Value} (hS : Sat W w L) (T : TypeId) (x y : Operand) (ho : o.op = .store T x y) (hx : a.eval x = .pointer (some ⟨b, 0, none⟩)) (vs : List Value) (hy : a.eval y = .agg vs.toArray) (hv : ∀ v ∈ vs, v.oneCell' = true) (hn : szB P T = some vs.length)
  (hk : Has L k (Cs b E l)) (hb : vs.length = l.length) (h : ∀ w', Sat W w' (L.set k (Cs b E vs)) → K (a.put o.dst undef) w') : o.wp P a w K Q := by
 refine stA hS T x y ho b 0 hx vs hy hv hn hk (by omega) fun w' hS' => h w' ?_
 rw [List.take_zero, List.nil_append, Nat.zero_add, List.drop_eq_nil_of_le (by omega), List.append_nil] at hS'
 exact hS'
theorem apTbS {α : Type} {f : α → List Value} {xs : List α} {k : Nat} (hS : Sat W w L) (T T2 : TypeId) (y z : Operand) (ho : o.op = .call { callee := .builtin .append, args := #[y, z], argTypes := #[T, T2] }) (v xv : Value) (hy : a.eval y = v) (hz : a.eval z = xv)
  {e size bytes : Nat} {zv : Value} (hT : elemB P T = some (e, size, bytes, some zv)) (hzs : zv.cells.size = size) (hpos : 0 < size) (hT2 : intB P T2 = some false)
  (hk : Has L k (Tb e size f v xs)) (ys : List α) (hlen : ∀ x ∈ ys, (f x).length = size) (hsrc : Src w xv ys.length size (ys.flatMap f)) (h1 : ∀ u ∈ ys.flatMap f, u.oneCell' = true) (hb : (xs.length + ys.length) * bytes ≤ 140737488355328) (hm : xs.length + ys.length ≤ 9223372036854775807)
  (h : ∀ ao c w', (xs ++ ys).length ≤ c → Sat W w' (L.set k (Tb e size f (.slice ao (xs ++ ys).length c) (xs ++ ys))) → K (a.put o.dst (.slice ao (xs ++ ys).length c)) w') : o.wp P a w K Q := by
 refine apTb hS T T2 y z ho v xv hy hz hT hzs hpos hT2 hk ys hlen hsrc h1 hb hm fun v' w' hS' => ?_
 have hkl : k < L.length := (List.getElem?_eq_some_iff.1 hk).1
 obtain ⟨ao, c, rfl, hc⟩ := hS'.tbShape (k := k) (by unfold Has; rw [List.getElem?_set_self hkl])
 exact h ao c w' hc hS'
theorem _root_.Go.Calls.atS {P : Program} {W w : World} {L : List Asrt} {k : Nat} {f : FuncId} {args : Array Value} {v : Value} {A A' : Asrt} (hS : Sat W w L) (hk : Has L k A)
  (hc : Sat W w (A :: L.eraseIdx k) → Calls P f args w fun e w' => e = .returned v ∧ Sat W w' (A' :: L.eraseIdx k)) : Calls P f args w fun e w' => e = .returned v ∧ Sat W w' (L.set k A') :=
 (hc (hS.front k hk)).mono fun _ _ ⟨h1, h2⟩ => ⟨h1, h2.back hk⟩
/-! ### a call -/
def callB (P : Program) (f : FuncId) : Bool := match P.funcs[f]? with | some fn => !(fn.name == "runtime.NumGoroutine") && !fn.body.isNone | none => false
theorem run_callB {f : FuncId} (h : callB P f = true) (args : Array Value) (w : World) : (callFunc f args).run P w = .ok (.enter f args) w := by
 unfold callB at h
 split at h
 ·rename_i fn hf
  simp only [Bool.and_eq_true, Bool.not_eq_true'] at h
  have h1 : ¬ fn.name = "runtime.NumGoroutine" := by simpa using h.1
  have h2 : ¬ fn.body = none := fun e => by rw [e] at h; simp at h
  simp [callFunc, hf, h1, h2]
 ·cases h
theorem cl (f : FuncId) (xs : List Operand) (ts : Array TypeId) (ho : o.op = .call { callee := .value (.func f), args := xs.toArray, argTypes := ts }) {args : List Value} (hx : xs.map a.eval = args)
  (hf : callB P f = true) {R : Ending → World → Prop} (hc : Calls P f args.toArray w R) (h : ∀ e w', R e w' → ∃ v, e = .returned v ∧ K (a.put o.dst v) w') : o.wp P a w K Q := by
 subst hx
 unfold Oper.wp
 have hr : (execOp a.eval o).run P w = .ok (.enter f (xs.map a.eval).toArray) w := by
  rw [show execOp a.eval o = callFunc f (#[] ++ xs.toArray.map a.eval ++ #[]) from by unfold execOp; rw [ho]; rfl, run_callB hf]
  simp
 rw [hr, Oper.upon_enter]
 refine hc.mono fun e w' he => ?_
 obtain ⟨v, rfl, hK⟩ := h e w' he
 exact hK
theorem Sat.stSnoc {A : Asrt} {M : List Asrt} (h : Sat W w (A :: St M :: L)) : Sat W w (St (M ++ [A]) :: L) := Sat.mkSt (by simpa using h.pull1.open)
theorem Sat.stNil (h : Sat W w L) : Sat W w (St [] :: L) := Sat.mkSt h
theorem Sat.one {A : Asrt} {k : Nat} (h : Sat W w L) (hk : Has L k A) : Sat W w [A] := by
 have h2 := (h.front k hk)
 exact h2.map fun _ ⟨h1, h2, s1, _, _, a, _⟩ => ⟨h1, fun _ => none, s1, (fun _ _ e => by cases e), fun _ => .inr rfl, a, trivial⟩
theorem Sat.stAt {A : Asrt} {M : List Asrt} {k j : Nat} (h : Sat W w L) (hk : Has L k (St M)) (hj : Has M j A) : ∃ L', Sat W w (A :: L') := by
 have h2 := (h.front k hk).open
 exact ⟨_, h2.front j (by rw [List.getElem?_append_left (List.getElem?_eq_some_iff.1 hj).1]; exact hj)⟩
end
end Go.Sep
namespace Go.Sep
open Go Go.ChangeShapes Go.WideShapes Go.ChangeAt Go.RowKit

section
variable {H : Type} {enc : TypeId × Value → H} {P : Program} {W w : World}
theorem Rd.elem {α : Type} {f : α → List Value} {b off n sz c : Nat} {l : List α} {i j : Nat} {x : α} {v : Value} (h : Rd W (.slice (some ⟨b, off, none⟩) n c) n sz (l.flatMap f)) (hf : ∀ x ∈ l, (f x).length = sz) (hx : l[i]? = some x) (hv : (f x)[j]? = some v) (hn : 0 < n) :
  W.cell? ⟨b, off + i * sz + j, none⟩ = some v := by
 obtain ⟨ao, c', h1, _, _, _, h5⟩ := h
 simp only [Value.slice.injEq, true_and] at h1
 obtain ⟨rfl, rfl⟩ := h1
 obtain ⟨b', off', h6, h7⟩ := h5 hn
 simp only [Option.some.injEq, Addr.mk.injEq, and_true] at h6
 obtain ⟨rfl, rfl⟩ := h6
 rw [Nat.add_assoc]
 exact h7 _ _ (fm_cell hf hx hv)
end
theorem Sat.upTo {W w : World} {L L' : List Asrt} (h : Sat W w L) (f : ∀ u, Sat W u L → Sat W u L') : Sat W w L' := f _ h
theorem _root_.Go.Calls.atX {P : Program} {W w : World} {L : List Asrt} {k : Nat} {f : FuncId} {args : Array Value} {α : Type} {V : α → Value} {A : Asrt} {A' : α → Asrt} (hS : Sat W w L) (hk : Has L k A)
  (hc : Sat W w (A :: L.eraseIdx k) → Calls P f args w fun e w' => ∃ x, e = .returned (V x) ∧ Sat W w' (A' x :: L.eraseIdx k)) : Calls P f args w fun e w' => ∃ x, e = .returned (V x) ∧ Sat W w' (L.set k (A' x)) :=
 (hc (hS.front k hk)).mono fun _ _ ⟨x, h1, h2⟩ => ⟨x, h1, h2.back hk⟩
end Go.Sep
namespace Go.Sep
open Go

def bstrB (P : Program) (S T : TypeId) : Option TypeId :=
 match P.underlying S, P.underlying T with
 | some .string, some (.slice e) => (match P.underlying e with | some (.int .u8) => some e | _ => none)
 | _, _ => none
section
variable {P : Program} {Q : Exit → Act → World → Prop} {W w : World} {L : List Asrt} {a : Act} {o : Oper} {K : Act → World → Prop}
theorem Sat.slCases {E sz n k : Nat} {v : Value} {vs : List Value} (h : Sat W w L) (hk : Has L k (Sl E sz v n vs)) :
  (v = .slice none 0 0 ∧ n = 0 ∧ vs = []) ∨ ∃ b off c, v = .slice (some ⟨b, off, none⟩) n c ∧ n ≤ c ∧ c ≤ 9223372036854775807 := by
 rcases (h.front k hk).slOpen with ⟨h1, h2, h3, _⟩ | ⟨E', b, off, cap, pre, rest, h1, h2, h3, _⟩
 ·exact .inl ⟨h1, h2, h3⟩
 ·exact .inr ⟨b, off, cap, h1, h2, h3⟩
theorem Sat.slClip {E sz n b off c : Nat} {vs : List Value} (h : Sat W w (Sl E sz (.slice (some ⟨b, off, none⟩) n c) n vs :: L)) : Sat W w (Sl E sz (.slice (some ⟨b, off, none⟩) n n) n vs :: L) := by
 rcases h.slOpen with ⟨h1, _⟩ | ⟨E', b', off', cap, pre, rest, h1, g1, g2, g3, g4, g5, h5⟩
 ·cases h1
 ·simp only [Value.slice.injEq, Option.some.injEq, Addr.mk.injEq, true_and, and_true] at h1
  obtain ⟨⟨rfl, rfl⟩, rfl⟩ := h1
  exact Sat.slMk h5 (Nat.le_refl _) (by omega) g3 g4 (by rw [g3]; omega)
theorem zeroCells_u8 (m : Nat) : Builtin.zeroCells (Value.int .u8 0).cells m = (bv (List.replicate m (0 : UInt8))).toArray := by
 apply Array.ext'
 simp [Builtin.zeroCells, Value.cells, bv, u8, Nat.mod_one, List.map_const']
theorem run_append_zeros {T T2 e ty : TypeId} (hT : elemB P T = some (e, 1, 1, some (.int .u8 0))) (hT2 : intB P T2 = some true) (ao : Option Addr) (n c m : Nat) (hm : n + m ≤ 140737488355328) (w : World) :
  (Builtin.append_ #[T, T2] ty #[.slice ao n c, .int .i64 m]).run P w = (Builtin.append_ #[T, T] ty #[.slice ao n c, .string ⟨(List.replicate m (0 : UInt8)).toArray⟩]).run P w := by
 obtain ⟨hu, i, hi, hs1, hb1, hz⟩ := elemB_parts hT
 have hu2 : ∃ k, P.underlying T2 = some (.int k) := by
  unfold intB at hT2
  cases h : P.underlying T2 with
  | none => simp [h] at hT2
  | some d => cases d <;> simp [h, isIntD] at hT2 ⊢
 obtain ⟨k2, hu2⟩ := hu2
 have hw : IntKind.i64.wrap (m : Int) = (m : Int) := IntWalk.i64_in _ (by omega)
 have w0 : IntKind.i64.wrap 0 = 0 := IntWalk.i64_in 0 (by omega)
 have h0 : ¬ ((m : Int) < 0) := by omega
 have h1 : ¬ (281474976710656 < (m : Int)) := by omega
 have hsz : (⟨(List.replicate m (0 : UInt8)).toArray⟩ : ByteArray).size = m := by simp [ByteArray.size]
 have hfc : ∀ u, (Builtin.firstCells 1 m (.string ⟨(List.replicate m (0 : UInt8)).toArray⟩)).run P u = .ok (bv (List.replicate m (0 : UInt8))).toArray u := fun u => by
  have h := Src.cells (P := P) (w := u) (x := .string ⟨(List.replicate m (0 : UInt8)).toArray⟩) (m := m) (sz := 1) (news := bv (List.replicate m (0 : UInt8))) (.inr ⟨_, rfl, hsz.symm, rfl, rfl⟩)
  exact h
 have hz0 : m = 0 → (bv (List.replicate m (0 : UInt8))).toArray = #[] := fun h => by subst h; rfl
 have hbv : bv [] = [] := rfl
 generalize (⟨(List.replicate m (0 : UInt8)).toArray⟩ : ByteArray) = s at hsz hfc ⊢
 by_cases hroom : n + m ≤ c
 ·by_cases hm0 : m = 0
  ·subst hm0
   rw [Nat.add_zero] at hroom
   cases ao <;> simp [Builtin.append_, Builtin.lenOf, run_underlying hu, run_underlying hu2, sizeOf, typeInfo, zeroValue, hi, hs1, hb1, hz, asInt, asIntOf, w0, hfc, hsz, hroom, hbv]
  ·cases ao <;> simp [Builtin.append_, Builtin.lenOf, run_underlying hu, run_underlying hu2, sizeOf, typeInfo, zeroValue, hi, hs1, hb1, hz, asInt, asIntOf, hw, h0, h1, hfc, hsz, hroom, hm0, zeroCells_u8]
 ·have hm0 : ¬ m = 0 ∨ m = 0 := by omega
  have h63 : ¬ (9223372036854775807 < (n : Int) + (m : Int)) := by omega
  have h48 : ¬ (281474976710656 < Builtin.nextslicecap (n + m) c) := by
   have := growslice_any (old := c) (need := n + m) (bytes := 1) (by omega) (by omega); omega
  rcases hm0 with hm0 | hm0
  ·simp [Builtin.append_, Builtin.lenOf, run_underlying hu, run_underlying hu2, sizeOf, typeInfo, zeroValue, hi, hs1, hb1, hz, asInt, asIntOf, hw, h0, h1, hfc, hsz, hroom, hm0, zeroCells_u8, h63, h48]
  ·subst hm0
   rw [Nat.add_zero] at hroom h48
   have h63 : ¬ (9223372036854775807 < (n : Int)) := by omega
   simp [Builtin.append_, Builtin.lenOf, run_underlying hu, run_underlying hu2, sizeOf, typeInfo, zeroValue, hi, hs1, hb1, hz, asInt, asIntOf, w0, hfc, hsz, hroom, zeroCells_u8, h63, h48, hbv]
theorem apZ {l : List UInt8} {v : Value} {k n m : Nat} (hS : Sat W w L) (T T2 : TypeId) (x y : Operand) (ho : o.op = .call { callee := .builtin .append, args := #[x, y], argTypes := #[T, T2] }) (hx : a.eval x = v) (hy : a.eval y = .int .i64 m)
  {e : TypeId} (hT : elemB P T = some (e, 1, 1, some (.int .u8 0))) (hT2 : intB P T2 = some true) (hTT : intB P T = some false)
  (hk : Has L k (Sl e 1 v n (bv l))) (hb : n + m ≤ 140737488355328)
  (h : ∀ v' w', Sat W w' (L.set k (Sl e 1 v' (n + m) (bv (l ++ List.replicate m 0)))) → K (a.put o.dst v') w') : o.wp P a w K Q := by
 obtain ⟨v', w', hr, hS'⟩ := hS.run_append (P := P) T T o.type hT rfl (by decide) hTT hk (m := m) (news := bv (List.replicate m (0 : UInt8))) (xv := .string ⟨(List.replicate m (0 : UInt8)).toArray⟩) (.inr ⟨_, rfl, by simp [ByteArray.size], rfl, rfl⟩) (bv_one _) (by omega) (by omega)
 obtain ⟨ao, c, rfl, _⟩ := hS.slShape hk
 rw [← run_append_zeros hT hT2 ao n c m hb w] at hr
 have e1 : bv l ++ bv (List.replicate m (0 : UInt8)) = bv (l ++ List.replicate m 0) := by simp [bv]
 rw [e1] at hS'
 have h3 := h v' w' hS'
 unfold Oper.wp
 simp [execOp, ho, resolve, invoke, builtin, hx, hy, hr, Oper.upon, h3]
end
end Go.Sep
namespace Go.Sep
open Go
section
variable {P : Program} {Q : Exit → Act → World → Prop} {W w : World} {L : List Asrt} {a : Act} {o : Oper} {K : Act → World → Prop}
theorem rLdRd1 {b off n sz c : Nat} {vs : List Value} (h : Rd w (.slice (some ⟨b, off, none⟩) n c) n sz vs) (T : TypeId) (y : Operand) (ho : o.op = .load T y) (ad : Nat) (hy : a.eval y = .pointer (some ⟨b, ad, none⟩)) (hT : aggB P T = some false)
  (j : Nat) (hj : ad = off + j) {u : Value} (hu : vs[j]? = some u) (hn : 0 < n) : (execOp a.eval o).run P w = .ok (.value u) w := by
 subst hj
 exact rd_of (s := loadVar T ⟨b, off + j, none⟩) (by simp [execOp, ho, hy, Instr.loadAt, Instr.sureAddr]) (run_loadScalar hT (h.at hn hu))
/-! ### == of structs -/
/-! ### a return whose first result is a variable of several cells -/
theorem bodyPost_cell_tmp {fn : Func} {R : Ending → World → Prop} {p u : Tmp} {ty : TypeId} {k b E n : Nat} {vs : List Value} (hS : Sat W w L) (h : fn.results = #[.cell p ty, .tmp u]) (ha : a.tmps.getD p undef = .pointer (some ⟨b, 0, none⟩))
  (hT : aggB P ty = some true) (hn : szB P ty = some n) (hk : Has L k (Cs b E vs)) (hl : vs.length = n) (hd : a.defers = []) (hR : R (.returned (.tuple #[.agg vs.toArray, a.tmps.getD u undef])) w) : bodyPost P fn R .ret a w := by
 refine bodyPost_ret ?_ hd hR
 rw [results_cell_tmp h, ha]
 have := run_loadAgg (P := P) (w := w) (b := b) (off := 0) hT hn hl (fun j v hv => by rw [Nat.zero_add]; exact hS.cell hk hv)
 simp [asAddr, this, Result.andThen]
theorem bodyPost_cell {fn : Func} {R : Ending → World → Prop} {p : Tmp} {ty : TypeId} {k b E n : Nat} {vs : List Value} (hS : Sat W w L) (h : fn.results = #[.cell p ty]) (ha : a.tmps.getD p undef = .pointer (some ⟨b, 0, none⟩))
  (hT : aggB P ty = some true) (hn : szB P ty = some n) (hk : Has L k (Cs b E vs)) (hl : vs.length = n) (hd : a.defers = []) (hR : R (.returned (.agg vs.toArray)) w) : bodyPost P fn R .ret a w := by
 refine bodyPost_ret ?_ hd hR
 have := run_loadAgg (P := P) (w := w) (b := b) (off := 0) hT hn hl (fun j v hv => by rw [Nat.zero_add]; exact hS.cell hk hv)
 have ha' : a.tmps[p]?.getD undef = .pointer (some ⟨b, 0, none⟩) := by rw [← ha]; simp
 simp [results, h, ha', asAddr, this]
end
end Go.Sep
namespace Go.Sep
open Go

section
variable {κ α : Type} [DecidableEq κ]
def pos (k : κ) : List (κ × Value × Nat) → Nat → Option (Nat × Value)
 | [], _ => none
 | x :: l, i => if k = x.1 then some (i, x.2.1) else pos k l (i + 1)
def ent (ke : κ → Value) (x : κ × Value × Nat) : MapEntry := ⟨ke x.1, x.2.1, x.2.2⟩
theorem pos_shift (k : κ) : ∀ (l : List (κ × Value × Nat)) (i : Nat), (pos k l i).map (·.2) = (pos k l 0).map (·.2)
 | [], _ => rfl
 | x :: l, i => by
  unfold pos
  by_cases h : k = x.1
  ·simp [h]
  ·simp only [if_neg h]; rw [pos_shift k l (i + 1), pos_shift k l (0 + 1)]
theorem pos_none_snoc {k : κ} {v : Value} {n : Nat} : ∀ {l : List (κ × Value × Nat)} {i : Nat}, pos k l i = none → ∀ k', pos k' (l ++ [(k, v, n)]) i = if k' = k then some (i + l.length, v) else pos k' l i
 | [], i, _, k' => by
  by_cases h : k' = k <;> simp [pos, h]
 | x :: l, i, h, k' => by
  unfold pos at h
  by_cases h1 : k = x.1
  ·simp [h1] at h
  ·simp only [if_neg h1] at h
   rw [List.cons_append]
   unfold pos
   rw [pos_none_snoc h k']
   by_cases h2 : k' = x.1
   ·have : k' ≠ k := fun e => h1 (e ▸ h2)
    simp [h2, Ne.symm h1]
   ·simp only [if_neg h2, List.length_cons]
    by_cases h3 : k' = k
    ·simp [h3]; omega
    ·simp [h3]
theorem pos_modify {k : κ} {v u : Value} : ∀ {l : List (κ × Value × Nat)} {i j : Nat}, pos k l i = some (j, u) → i ≤ j ∧ j < i + l.length ∧ (∃ n, l[j - i]? = some (k, u, n)) ∧
   ∀ k', pos k' (l.modify (j - i) fun x => (k, v, x.2.2)) i = if k' = k then some (j, v) else pos k' l i
 | [], i, j, h => by simp [pos] at h
 | x :: l, i, j, h => by
  unfold pos at h
  by_cases h1 : k = x.1
  ·simp only [if_pos h1, Option.some.injEq, Prod.mk.injEq] at h
   obtain ⟨rfl, rfl⟩ := h
   refine ⟨Nat.le_refl _, by simp, ⟨x.2.2, by simp [h1]⟩, fun k' => ?_⟩
   rw [Nat.sub_self, List.modify_zero_cons]
   unfold pos
   by_cases h2 : k' = k
   ·simp [h2]
   ·have : k' ≠ x.1 := fun e => h2 (e.trans h1.symm)
    simp [h2, this]
  ·simp only [if_neg h1] at h
   obtain ⟨a1, a2, ⟨n, a3⟩, a4⟩ := pos_modify (v := v) h
   have e : j - i = (j - (i + 1)) + 1 := by omega
   refine ⟨by omega, by simp only [List.length_cons]; omega, ⟨n, by rw [e]; simpa using a3⟩, fun k' => ?_⟩
   rw [e, List.modify_succ_cons]
   unfold pos
   rw [a4 k']
   by_cases h2 : k' = x.1
   ·have : k' ≠ k := fun e => h1 (e ▸ h2)
    simp [h2, Ne.symm h1]
   ·simp [h2]

structure KeyOk (P : Program) (kt : TypeId) (ke : κ → Value) : Prop where
 check : ∀ (e : Bool) (k : κ) (w : World), (Instr.checkKey e 10000 kt (ke k)).run P w = .ok () w
 find : ∀ (k : κ) (l : List (κ × Value × Nat)) (w : World), (Instr.findKey kt (ke k) (l.map (ent ke))).run P w = .ok (pos k l 0) w
 bits : ∀ k, Instr.sameBits 10000 (ke k) (ke k) = true
theorem findNow_int (q : IntKind) (a : Int) : ∀ (l : List (Int × Value × Nat)) (i : Nat), Instr.findNow (.int q) (.int q a) (l.map (ent (.int q))) i = some (pos a l i)
 | [], _ => rfl
 | x :: l, i => by
  simp only [List.map_cons, Instr.findNow, ent, Instr.sameNow, if_true, pos]
  by_cases h : a = x.1
  ·simp [h]
  ·have : (a == x.1) = false := beq_eq_false_iff_ne.2 h
   simp only [this, if_neg h]
   exact findNow_int q a l (i + 1)
theorem key_int {P : Program} {kt : TypeId} {q : IntKind} (h : P.underlying kt = some (.int q)) : KeyOk P kt (Value.int q) where
 check e k w := MapKept.run_checkKey h (by simp [MapKept.IsKey]) e 9999
 find k l w := by simp [Instr.findKey, run_underlying h, findNow_int q k l 0]
 bits k := by simp [Instr.sameBits]
theorem findAsking_eq {P : Program} {kt : TypeId} {ke : κ → Value} (he : ∀ k k' w, (Op.equalIn 10000 kt (ke k) (ke k')).run P w = .ok (decide (k = k')) w) (k : κ) (w : World) : ∀ (l : List (κ × Value × Nat)) (i : Nat),
  (Instr.findAsking kt (ke k) (l.map (ent ke)) i).run P w = .ok (pos k l i) w
 | [], i => by simp [Instr.findAsking, pos]
 | x :: l, i => by
  have h1 := he k x.1 w
  simp only [List.map_cons, Instr.findAsking, ent, Sem.run_bind, Op.equal, Op.maxDepth, h1, Result.andThen_ok, pos]
  by_cases h : k = x.1
  ·simp [h]
  ·simp only [h, decide_false, Bool.false_eq_true, if_false]
   exact findAsking_eq he k w l (i + 1)
theorem key_struct {P : Program} {kt : TypeId} {ke : κ → Value} {fs : Array Field} (h : P.underlying kt = some (.struct fs)) (hag : ∀ k, ∃ cs, ke k = .agg cs) (he : ∀ k k' w, (Op.equalIn 10000 kt (ke k) (ke k')).run P w = .ok (decide (k = k')) w)
  (hc : ∀ (e : Bool) (k : κ) (w : World), (Instr.checkKey e 10000 kt (ke k)).run P w = .ok () w) (hb : ∀ k, Instr.sameBits 10000 (ke k) (ke k) = true) : KeyOk P kt ke where
 check := hc
 find k l w := by
  cases l with
  | nil => simp [Instr.findKey, run_underlying h, Instr.findNow, pos]
  | cons x l =>
   have hn : Instr.findNow (.struct fs) (ke k) ((x :: l).map (ent ke)) 0 = none := by
    obtain ⟨cs, hcs⟩ := hag k
    simp [Instr.findNow, hcs, Instr.sameNow]
   have := findAsking_eq he k w (x :: l) 0
   simp only [Instr.findKey, Sem.run_bind, run_underlying h, Result.andThen_ok, hn]
   exact this
 bits := hb

def Mp (ke : κ → Value) (ve : α → Value) (b : Nat) (f : κ → Option α) : Asrt :=
 Ex fun x : List (κ × Value × Nat) × Nat => St [Pu (∀ k, (f k).map ve = (pos k x.1 0).map (·.2)), Blk b (.map (x.1.map (ent ke)).toArray x.2)]
def mapB (P : Program) (T : TypeId) : Option (TypeId × TypeId) := match P.underlying T with | some (.map k e) => some (k, e) | _ => none
theorem mapB_un {P : Program} {T kt et : TypeId} (h : mapB P T = some (kt, et)) : P.underlying T = some (.map kt et) := by
 unfold mapB at h
 split at h
 ·rename_i h1; simp only [Option.some.injEq, Prod.mk.injEq] at h; obtain ⟨rfl, rfl⟩ := h; exact h1
 ·cases h
variable {P : Program} {Q : Exit → Act → World → Prop} {W w : World} {L : List Asrt} {a : Act} {o : Oper} {K : Act → World → Prop} {ke : κ → Value} {ve : α → Value} {b j : Nat} {f : κ → Option α}
theorem Sat.mpOpen (h : Sat W w (Mp ke ve b f :: L)) : ∃ l c, (∀ k, (f k).map ve = (pos k l 0).map (·.2)) ∧ Sat W w (Blk b (.map (l.map (ent ke)).toArray c) :: L) := by
 obtain ⟨⟨l, c⟩, h⟩ := h.ex
 have h2 : Sat W w (Pu _ :: Blk b (.map (l.map (ent ke)).toArray c) :: L) := h.open
 obtain ⟨h3, h4⟩ := h2.pu
 exact ⟨l, c, h3, h4⟩
theorem Sat.mpMk {l : List (κ × Value × Nat)} {c : Nat} (hf : ∀ k, (f k).map ve = (pos k l 0).map (·.2)) (h : Sat W w (Blk b (.map (l.map (ent ke)).toArray c) :: L)) : Sat W w (Mp ke ve b f :: L) := Sat.mkEx (l, c) (Sat.mkSt (Sat.mkPu hf h))
def mpVal (ve : α → Value) (zv : Value) : Option α → Value
 | none => zv
 | some x => ve x
theorem rLkp (hS : Sat W w L) (T : TypeId) (x ix : Operand) (ok : Bool) (ho : o.op = .lookup T x ix ok) (hx : a.eval x = .map (some b)) (k : κ) (hk : a.eval ix = ke k) {kt et : TypeId} (hT : mapB P T = some (kt, et)) (hK : KeyOk P kt ke)
  {zv : Value} (hz : zeroB P et = some (some zv)) (hh : Has L j (Mp ke ve b f)) : (execOp a.eval o).run P w = .ok (.value (if ok then .tuple #[mpVal ve zv (f k), .bool (f k).isSome] else mpVal ve zv (f k))) w := by
 obtain ⟨l, c, hf, h2⟩ := (hS.front j hh).mpOpen
 have hg := MapKept.run_getObj_map (P := P) h2.blk
 have hfk := hK.find k l w
 have hck := fun e => hK.check e k w
 have hp := hf k
 have hrun : (Instr.lookup T (.map (some b)) (ke k) ok).run P w = .ok (if ok then .tuple #[mpVal ve zv (f k), .bool (f k).isSome] else mpVal ve zv (f k)) w := by
  simp only [Instr.lookup, Sem.run_bind, run_underlying (mapB_un hT), Result.andThen_ok, hg, Sem.run_pure, hck, hfk]
  cases hpos : pos k l 0 with
  | none =>
   rw [hpos] at hp
   cases hfk' : f k with
   | none => simp [run_zeroB hz, mpVal]
   | some y => rw [hfk'] at hp; simp at hp
  | some y =>
   rw [hpos] at hp
   cases hfk' : f k with
   | none => rw [hfk'] at hp; simp at hp
   | some z => rw [hfk'] at hp; simp at hp; simp [mpVal, hp]
 exact rd_of (s := Instr.lookup T (.map (some b)) (ke k) ok) (by simp [execOp, ho, hx, hk]) hrun
theorem mpSt (hS : Sat W w L) (T : TypeId) (m ix y : Operand) (ho : o.op = .mapUpdate T m ix y ∨ o.op = .insert T m ix y) (hm : a.eval m = .map (some b)) (k : κ) (hk : a.eval ix = ke k) (x : α) (hy : a.eval y = ve x) {kt et : TypeId} (hT : mapB P T = some (kt, et)) (hK : KeyOk P kt ke)
  (hh : Has L j (Mp ke ve b f)) (h : ∀ w', Sat W w' (L.set j (Mp ke ve b fun k' => if k' = k then some x else f k')) → K (a.put o.dst undef) w') : o.wp P a w K Q := by
 obtain ⟨l, c, hf, h2⟩ := (hS.front j hh).mpOpen
 have hg := MapKept.run_getObj_map (P := P) h2.blk
 have hfk := hK.find k l w
 have hck := hK.check false k w
 have hex : execOp a.eval o = (do Instr.mapUpdate T (.map (some b)) (ke k) (ve x); pure .skip) := by
  rcases ho with ho | ho <;> simp [execOp, ho, hm, hk, hy]
 have key : ∀ {l' : List (κ × Value × Nat)} {c' : Nat}, (∀ k', (if k' = k then some x else f k').map ve = (pos k' l' 0).map (·.2)) →
   Sat W { w with heap := w.heap.setIfInBounds b (.map (l'.map (ent ke)).toArray c') } (L.set j (Mp ke ve b fun k' => if k' = k then some x else f k')) := fun {l' c'} hf' => by
  have hlt := h2.lt
  refine Sat.back (Sat.mpMk (l := l') (c := c') hf' (h2.turn rfl rfl ?_ fun c p hc hp => ?_)) hh
  ·simp [hlt]
  ·rw [Array.getElem?_setIfInBounds_ne (Ne.symm hc)]; exact hp
 cases hpos : pos k l 0 with
 | none =>
  rw [hpos] at hfk
  have hr : (Instr.mapUpdate T (.map (some b)) (ke k) (ve x)).run P w = .ok () { w with heap := w.heap.setIfInBounds b (.map ((l ++ [(k, ve x, c)]).map (ent ke)).toArray (c + 1)) } := by
   simp only [Instr.mapUpdate, Sem.run_bind, run_underlying (mapB_un hT), Result.andThen_ok, hg, hck, hfk, MapKept.run_setObj_map _ h2.blk]
   simp [ent]
  refine wp_of_unit hex hr (h _ (key fun k' => ?_))
  rw [pos_none_snoc hpos k']
  by_cases hkk : k' = k
  ·simp [hkk]
  ·simp only [if_neg hkk]; exact hf k'
 | some y =>
  obtain ⟨i, u⟩ := y
  obtain ⟨h3, h4, ⟨n, h5⟩, h6⟩ := pos_modify (v := ve x) hpos
  rw [hpos] at hfk
  have hstay : ∀ w', (Instr.keyThatStays (ke k) (ke k)).run P w' = .ok (ke k) w' := fun w' => by simp [Instr.keyThatStays, hK.bits]
  have hgi : ((l.map (ent ke)).toArray[i]?.map (·.key)).getD (ke k) = ke k := by
   simp only [Nat.sub_zero] at h5
   simp [h5, ent]
  have hr : (Instr.mapUpdate T (.map (some b)) (ke k) (ve x)).run P w = .ok () { w with heap := w.heap.setIfInBounds b (.map ((l.modify i fun x' => (k, ve x, x'.2.2)).map (ent ke)).toArray c) } := by
   simp only [Instr.mapUpdate, Sem.run_bind, run_underlying (mapB_un hT), Result.andThen_ok, hg, hck, hfk, hgi, hstay, MapKept.run_setObj_map _ h2.blk]
   congr 3
   congr 1
   apply Array.ext'
   apply List.ext_getElem?
   intro t
   simp only [Array.toList_modify, List.getElem?_modify, List.getElem?_map]
   by_cases ht : i = t
   ·subst ht
    simp only [if_true]
    cases l[i]? with
    | none => rfl
    | some y => rfl
   ·simp [ht]
  refine wp_of_unit hex hr (h _ (key fun k' => ?_))
  have := h6 k'
  rw [Nat.sub_zero] at this
  rw [this]
  by_cases hkk : k' = k
  ·simp [hkk]
  ·simp only [if_neg hkk]; exact hf k'
theorem mpMake (ke : κ → Value) (ve : α → Value) (hS : Sat W w L) (T : TypeId) (ho : o.op = .makeMap T none) (h : ∀ b w', Sat W w' (Mp ke ve b (fun _ => none) :: L) → K (a.put o.dst (.map (some b))) w') : o.wp P a w K Q := by
 exact wp_of_val (s := Instr.makeMap T none) (v := .map (some w.heap.size)) (w' := w.alloc (.map #[] 0)) (by simp [execOp, ho]) rfl (h _ _ (Sat.mpMk (l := []) (c := 0) (by simp [pos]) (hS.alloc _)))
end
attribute [irreducible] Mp
end Go.Sep
namespace Go.Sep
open Go
def iv (l : List Nat) : List Value := l.map fun x : Nat => Value.int .i64 (x : Int)
theorem iv_length (l : List Nat) : (iv l).length = l.length := by simp [iv]
theorem iv_append (l m : List Nat) : iv (l ++ m) = iv l ++ iv m := by simp [iv]
theorem iv_one (l : List Nat) : ∀ u ∈ iv l, u.oneCell' = true := by
 intro u hu
 obtain ⟨_, _, rfl⟩ := List.mem_map.1 hu
 rfl
theorem iv_at {l : List Nat} {k x : Nat} (h : l[k]? = some x) : (iv l)[k]? = some (.int .i64 (x : Int)) := by simp [iv, h]
theorem iv_take (l : List Nat) (n : Nat) : (iv l).take n = iv (l.take n) := by simp [iv, List.map_take]
theorem iv_drop (l : List Nat) (n : Nat) : (iv l).drop n = iv (l.drop n) := by simp [iv, List.map_drop]
def Ir (v : Value) (l : List Nat) : Asrt := Sl 0 1 v l.length (iv l)
theorem sl_E (E E' sz : Nat) (v : Value) (n : Nat) (vs : List Value) : Sl E sz v n vs = Sl E' sz v n vs := by unfold Sl; rfl
def one1 (x : Value) : List Value := [x]
theorem one1_len (l : List Value) : ∀ x ∈ l, (one1 x).length = 1 := fun _ _ => rfl
theorem one1_fm (l : List Value) : l.flatMap one1 = l := by
 induction l with
 | nil => rfl
 | cons x l ih => rw [List.flatMap_cons, ih]; rfl
def Rws {β : Type} (R : Value → β → Asrt) (v : Value) (xs : List β) : Asrt :=
 Ex fun vs : List Value => St [Pu (vs.length = xs.length), Tb 0 1 one1 v vs, St (List.zipWith R vs xs)]
section
variable {β : Type} {R : Value → β → Asrt} {P : Program} {W w : World} {L : List Asrt} {k i : Nat} {v u : Value} {xs : List β} {vs : List Value} {x : β}
theorem Sat.rwsOpen (h : Sat W w (Rws R v xs :: L)) : ∃ vs, vs.length = xs.length ∧ Sat W w (Tb 0 1 one1 v vs :: St (List.zipWith R vs xs) :: L) := by
 obtain ⟨vs, h⟩ := h.ex
 have h2 : Sat W w (Pu (vs.length = xs.length) :: Tb 0 1 one1 v vs :: St (List.zipWith R vs xs) :: L) := h.open
 obtain ⟨h3, h4⟩ := h2.pu
 exact ⟨vs, h3, h4⟩
theorem Sat.rwsMk (hl : vs.length = xs.length) (h : Sat W w (Tb 0 1 one1 v vs :: St (List.zipWith R vs xs) :: L)) : Sat W w (Rws R v xs :: L) := Sat.mkEx vs (Sat.mkSt (Sat.mkPu hl h))
theorem Sat.rwsShape (h : Sat W w L) (hk : Has L k (Rws R v xs)) : ∃ ao c, v = .slice ao xs.length c ∧ xs.length ≤ c := by
 obtain ⟨vs, hl, h2⟩ := (h.front k hk).rwsOpen
 obtain ⟨ao, c, h3, h4⟩ := h2.tbShape (k := 0) rfl
 exact ⟨ao, c, by rw [h3, hl], by omega⟩
theorem Sat.rwsNil (h : Sat W w L) : Sat W w (Rws R (.slice none 0 0) [] :: L) := Sat.rwsMk (vs := []) rfl ((Sat.stNil h).tbNil)
theorem Sat.stRow (h : Sat W w L) (hk : Has L k (St (List.zipWith R vs xs))) (hu : vs[i]? = some u) (hx : xs[i]? = some x) : ∃ L', Sat W w (R u x :: L') := by
 refine h.stAt hk (j := i) (A := R u x) ?_
 unfold Has
 rw [List.getElem?_zipWith, hu, hx]
theorem Sat.stPut {A : Asrt} {M : List Asrt} (h : Sat W w (A :: St M :: L)) (hi : i < M.length) : Sat W w (St (M.set i A) :: L) := by
 have h2 : Sat W w (A :: (M ++ L)) := by
  have h3 := h.pull1.open
  exact h3.perm (List.perm_middle (l₁ := M))
 refine Sat.mkSt ?_
 obtain ⟨B, hB⟩ : ∃ B, M[i]? = some B := ⟨_, List.getElem?_eq_getElem hi⟩
 have h3 : Sat W w (A :: (M.eraseIdx i ++ L)) := by
  have h4 : (M ++ L)[i]? = some B := by rw [List.getElem?_append_left hi]; exact hB
  have h5 := h2.front (i + 1) (A := B) (by simpa using h4)
  rw [List.eraseIdx_cons_succ, List.eraseIdx_append_of_lt_length hi] at h5
  exact h5.drop
 refine h3.perm ?_
 have e : M.set i A = M.take i ++ A :: M.drop (i + 1) := by rw [List.set_eq_take_append_cons_drop, if_pos hi]
 rw [e, List.eraseIdx_eq_take_drop_succ]
 simp only [List.append_assoc, List.cons_append]
 exact List.perm_middle.symm
theorem zipWith_set (R : Value → β → Asrt) (vs : List Value) (xs : List β) (i : Nat) (u : Value) (x : β) : List.zipWith R (vs.set i u) (xs.set i x) = (List.zipWith R vs xs).set i (R u x) := by
 induction vs generalizing xs i with
 | nil => simp
 | cons v vs ih =>
  cases xs with
  | nil => simp
  | cons y ys =>
   cases i with
   | zero => simp
   | succ i => simp [ih]
theorem zipWith_snoc (R : Value → β → Asrt) {vs : List Value} {xs : List β} (h : vs.length = xs.length) (u : Value) (x : β) : List.zipWith R (vs ++ [u]) (xs ++ [x]) = List.zipWith R vs xs ++ [R u x] := by
 rw [List.zipWith_append h]; rfl
theorem Sat.irShape (h : Sat W w L) {l : List Nat} (hk : Has L k (Ir v l)) : ∃ ao c, v = .slice ao l.length c ∧ l.length ≤ c := by
 obtain ⟨ao, c, h1, h2, _⟩ := h.slShape (k := k) hk
 exact ⟨ao, c, h1, h2⟩
theorem Sat.irRd (h : Sat W w L) {l : List Nat} (hk : Has L k (Ir v l)) : Rd w v l.length 1 (iv l) := h.slRd (k := k) hk
theorem Sat.irNil (h : Sat W w L) : Sat W w (Ir (.slice none 0 0) [] :: L) := by
 have := h.slNil (E := 0) (sz := 1)
 exact this
theorem Sat.take2 {A B : Asrt} (h : Sat W w (A :: B :: L)) : Sat W w [A, B] := h.map fun _ ⟨h1, h2, s1, s2, d, a, k1, k2, t1, t2, e, b, _⟩ => ⟨h1, h2, s1, s2, d, a, k1, k2, t1, t2, e, b, trivial⟩
variable {Q : Exit → Act → World → Prop} {a : Act} {o : Oper} {K : Act → World → Prop}
theorem apI {l m : List Nat} {xv : Value} (hS : Sat W w L) (T T2 : TypeId) (x y : Operand) (ho : o.op = .call { callee := .builtin .append, args := #[x, y], argTypes := #[T, T2] }) (hx : a.eval x = v) (hy : a.eval y = xv)
  {e size bytes : Nat} {z : Value} (hT : elemB P T = some (e, size, bytes, some z)) (hsz : size = 1) (hbs : bytes = 8) (hz : z.cells.size = size) (hT2 : intB P T2 = some false)
  (hk : Has L k (Ir v l)) (hr : Rd w xv m.length 1 (iv m)) (hb : l.length + m.length ≤ 17592186044416)
  (h : ∀ v' w', Sat W w' (L.set k (Ir v' (l ++ m))) → K (a.put o.dst v') w') : o.wp P a w K Q := by
 subst hsz; subst hbs
 unfold Ir at hk
 rw [sl_E 0 e] at hk
 refine ap hS T T2 x y ho _ _ hx hy hT hz (by decide) hT2 hk (m := m.length) (.inl hr) (iv_one _) (by omega) (by omega) fun v' w' hS' => h v' w' ?_
 unfold Ir
 rw [iv_append, List.length_append, sl_E 0 e]; exact hS'
theorem fm_setCell {α : Type} {f : α → List Value} {sz i j : Nat} {xs : List α} {x y : α} {u : Value} (h : ∀ x ∈ xs, (f x).length = sz) (hx : xs[i]? = some x) (hj : j < sz) (hy : f y = (f x).set j u) : (xs.flatMap f).set (i * sz + j) u = (xs.set i y).flatMap f := by
 have hi := (List.getElem?_eq_some_iff.1 hx).1
 have hfx := h x (List.mem_of_getElem? hx)
 have hl := fm_take_len h (Nat.le_of_lt hi)
 have h2 : (xs.set i y)[i]? = some y := by simp [hi]
 rw [fm_split h2, fm_split hx, List.take_set_of_le (Nat.le_refl i), List.drop_set_of_lt (by omega), hy, ← hl]
 exact mid_set u (by omega)
theorem stTbF {α : Type} {f : α → List Value} {ys : List α} {y : α} {off sz c E n : Nat} (hS : Sat W w L) (T : TypeId) (z t : Operand) (ho : o.op = .store T z t) (b ad : Nat) (hz : a.eval z = .pointer (some ⟨b, ad, none⟩)) (u : Value) (ht : a.eval t = u) (hu : u.oneCell' = true) (hn : szB P T = some 1)
  (hk : Has L k (Tb E sz f (.slice (some ⟨b, off, none⟩) n c) ys)) (hyn : ys.length = n) (i j : Nat) (hj : ad = off + (i * sz + j)) (hy : ys[i]? = some y) (y'' : α) (hf : f y'' = (f y).set j u) (hjs : j < sz)
  (h : ∀ w', Sat W w' (L.set k (Tb E sz f (.slice (some ⟨b, off, none⟩) n c) (ys.set i y''))) → K (a.put o.dst undef) w') : o.wp P a w K Q := by
 subst hyn
 obtain ⟨hfl, h2⟩ := (hS.front k hk).tbOpen
 have hi := (List.getElem?_eq_some_iff.1 hy).1
 have hle : (i + 1) * sz ≤ ys.length * sz := Nat.mul_le_mul_right _ hi
 rw [Nat.add_mul, Nat.one_mul] at hle
 refine stSl h2 T z t ho b ad hz u ht hu hn (k := 0) rfl (i * sz + j) hj (by rw [fm_len hfl]; omega) fun w' hS' => h w' ?_
 simp only [List.set_cons_zero] at hS'
 rw [fm_setCell hfl hy hjs hf] at hS'
 refine Sat.back (Sat.tbMk (fun x hx => ?_) (by rw [List.length_set]; exact hS')) hk
 rcases List.mem_or_eq_of_mem_set hx with hx | rfl
 ·exact hfl x hx
 ·rw [hf, List.length_set]; exact hfl y (List.mem_of_getElem? hy)
end
end Go.Sep
namespace Go.Sep
open Go
section
variable {P : Program} {Q : Exit → Act → World → Prop} {free : List Nat} {l : List Oper} {W w : World} {L L' : List Asrt} {fuel : Nat} {listed : List Bool} {a : Act}
def Step (P : Program) (Q : Exit → Act → World → Prop) (free : List Nat) (l : List Oper) (W : World) (fuel : Nat) (L : List Asrt) (listed : List Bool) (a : Act) (w : World) (oi : Oper) : Prop :=
 ∀ K : Act → World → Prop, (∀ a' w' (L' : List Asrt), Sat W w' L' → (∀ u, Sat W u L' → Sat W u L) → Reg P Q free l W fuel L' listed a' w' → K a' w') → oi.wp P a w K Q
theorem regM2 (i j : Nat) {oi oj : Oper} (hi : nth l i = some oi) (hj : nth l j = some oj) (hr : Region.ready .any l.toArray listed.toArray = [i, j])
  (hwi : Region.wanted oi (yielded l.toArray a.tmps) = true) (hwj : Region.wanted oj (yielded l.toArray a.tmps) = true) {li lj : List Bool} (hli : listed.set i true = li) (hlj : listed.set j true = lj)
  (h1 : Step P Q free l W fuel L li a w oi) (h2 : Step P Q free l W fuel L lj a w oj) : Reg P Q free l W (fuel + 1) L listed a w := by
 subst hli; subst hlj
 unfold Reg wpAnyG
 refine ⟨fun h0 => (by rw [hr] at h0; cases h0), fun k hk => ?_⟩
 rw [hr] at hk
 simp only [List.mem_cons, List.not_mem_nil, or_false] at hk
 rw [nth_eq] at hi hj
 unfold wpOp
 rcases hk with rfl | rfl
 ·simp only [hi]
  rw [if_pos hwi]
  refine .inl (h1 _ fun a' w' L' h1 h2 h3 => ⟨fun u => Sat W u L', h1, fun _ => h2, ?_⟩)
  simpa [Reg] using h3
 ·simp only [hj]
  rw [if_pos hwj]
  refine .inl (h2 _ fun a' w' L' h1 h2 h3 => ⟨fun u => Sat W u L', h1, fun _ => h2, ?_⟩)
  simpa [Reg] using h3
theorem regM3 (i j m : Nat) {oi oj om : Oper} (hi : nth l i = some oi) (hj : nth l j = some oj) (hm : nth l m = some om) (hr : Region.ready .any l.toArray listed.toArray = [i, j, m])
  (hwi : Region.wanted oi (yielded l.toArray a.tmps) = true) (hwj : Region.wanted oj (yielded l.toArray a.tmps) = true) (hwm : Region.wanted om (yielded l.toArray a.tmps) = true) {li lj lm : List Bool} (hli : listed.set i true = li) (hlj : listed.set j true = lj) (hlm : listed.set m true = lm)
  (h1 : Step P Q free l W fuel L li a w oi) (h2 : Step P Q free l W fuel L lj a w oj) (h3 : Step P Q free l W fuel L lm a w om) : Reg P Q free l W (fuel + 1) L listed a w := by
 subst hli; subst hlj; subst hlm
 unfold Reg wpAnyG
 refine ⟨fun h0 => (by rw [hr] at h0; cases h0), fun k hk => ?_⟩
 rw [hr] at hk
 simp only [List.mem_cons, List.not_mem_nil, or_false] at hk
 rw [nth_eq] at hi hj hm
 unfold wpOp
 rcases hk with rfl | rfl | rfl
 ·simp only [hi]
  rw [if_pos hwi]
  refine .inl (h1 _ fun a' w' L' h1 h2 h3 => ⟨fun u => Sat W u L', h1, fun _ => h2, ?_⟩)
  simpa [Reg] using h3
 ·simp only [hj]
  rw [if_pos hwj]
  refine .inl (h2 _ fun a' w' L' h1 h2 h3 => ⟨fun u => Sat W u L', h1, fun _ => h2, ?_⟩)
  simpa [Reg] using h3
 ·simp only [hm]
  rw [if_pos hwm]
  refine .inl (h3 _ fun a' w' L' h1 h2 h3 => ⟨fun u => Sat W u L', h1, fun _ => h2, ?_⟩)
  simpa [Reg] using h3
theorem regJoin {C : Prop} {α1 α2 α3 α4 α5 α6 : Type} (R : α1 → α2 → α3 → α4 → α5 → α6 → World → Prop) (LJ : List Asrt) {A : α1 → α2 → α3 → α4 → α5 → α6 → Act} {lst : List Bool} {fl : Nat}
  (h1 : (∀ x1 x2 x3 x4 x5 x6 w', R x1 x2 x3 x4 x5 x6 w' → Reg P Q free l W fl LJ lst (A x1 x2 x3 x4 x5 x6) w') → C → Reg P Q free l W fuel L listed a w)
  (h2 : ∀ x1 x2 x3 x4 x5 x6 w', R x1 x2 x3 x4 x5 x6 w' → Reg P Q free l W fl LJ lst (A x1 x2 x3 x4 x5 x6) w') : C → Reg P Q free l W fuel L listed a w := h1 h2
theorem tb_E {α : Type} (E E' sz : Nat) (f : α → List Value) (v : Value) (xs : List α) : Tb E sz f v xs = Tb E' sz f v xs := by unfold Tb; rw [sl_E E E']
end
end Go.Sep
namespace Go.Sep
open Go
section
variable {P : Program} {W : World} {L L' : List Asrt} {Q : Exit → Act → World → Prop} {free : List Nat} {l : List Oper} {fuel : Nat} {listed : List Bool} {a : Act} {w : World}
def waitsD (l : List Oper) (free : List Nat) (listed : List Bool) (i : Nat) : Bool :=
 free.all fun j => j == i || listed.toArray.getD j true || awaits .any l.toArray 12 j i
end
end Go.Sep
namespace Go.Sep
open Go
theorem zero_cells1 {z : Value} (hz : z.cells = #[z]) (m : Nat) : Builtin.zeroCells z.cells m = (List.replicate m z).toArray := by
 rw [hz]
 apply Array.ext'
 simp [Builtin.zeroCells, Nat.mod_one, List.map_const']
section
variable {P : Program} {W w : World} {L : List Asrt} {Q : Exit → Act → World → Prop} {a : Act} {o : Oper} {K : Act → World → Prop}
theorem Sat.run_append_growZ (hS : Sat W w L) (T T2 ty : TypeId) {e bytes : Nat} {z : Value} (hT : elemB P T = some (e, 1, bytes, some z)) (hz : z.cells = #[z]) (hT2 : intB P T2 = some true) {ao : Option Addr} {n c m : Nat} {vs : List Value} (hr : Rd w (.slice ao n c) n 1 vs)
  (hgr : c < n + m) (hb : (n + m) * bytes ≤ 140737488355328) (hm : n + m ≤ 9223372036854775807) :
  ∃ v' w', (Builtin.append_ #[T, T2] ty #[.slice ao n c, .int .i64 m]).run P w = .ok v' w' ∧ Sat W w' (Sl e 1 v' (n + m) (vs ++ List.replicate m z) :: L) := by
 obtain ⟨hu, i, hi, hs1, rfl, hiz⟩ := elemB_parts hT
 have hu2 : ∃ k, P.underlying T2 = some (.int k) := by
  unfold intB at hT2
  cases h : P.underlying T2 with
  | none => simp [h] at hT2
  | some d => cases d <;> simp [h, isIntD] at hT2 ⊢
 obtain ⟨k2, hu2⟩ := hu2
 have hnc : n ≤ c := by obtain ⟨_, _, he, h1, _⟩ := hr; cases he; exact h1
 have hvl : vs.length = n := by obtain ⟨_, _, _, _, _, h3, _⟩ := hr; omega
 have hm0 : ¬ m = 0 := by omega
 have hw : IntKind.i64.wrap (m : Int) = (m : Int) := IntWalk.i64_in _ (by omega)
 have h0 : ¬ ((m : Int) < 0) := by omega
 have hmb : m * i.bytes ≤ (n + m) * i.bytes := Nat.mul_le_mul_right _ (by omega)
 have h1 : ¬ (281474976710656 < (m : Int) * (i.bytes : Int)) := by
  have h : ((m * i.bytes : Nat) : Int) ≤ 140737488355328 := by omega
  rw [Int.natCast_mul] at h
  omega
 have hn : ¬ (n + m ≤ c) := by omega
 have h63 : ¬ (9223372036854775807 < (n : Int) + (m : Int)) := by omega
 have h48 : ¬ (281474976710656 < Builtin.nextslicecap (n + m) c * i.bytes) := by
  have := growslice_any (bytes := i.bytes) hgr hb; omega
 have hco : (Builtin.firstCells 1 n (.slice ao n c)).run P w.drew = .ok vs.toArray w.drew := by
  have h := hr.drew.firstCells (P := P) n (Nat.le_refl _)
  rw [Nat.mul_one, List.take_of_length_le (by omega)] at h
  exact h
 refine ⟨.slice (some ⟨w.heap.size, 0, none⟩) (n + m) (grownCap w (n + m) c e), w.drew.alloc (.cells (vs.toArray ++ Builtin.zeroCells z.cells m ++ Builtin.zeroCells z.cells (grownCap w (n + m) c e - (n + m))) e), ?_, ?_⟩
 ·simp [Builtin.append_, run_underlying hu, run_underlying hu2, sizeOf, typeInfo, zeroValue, hi, hs1, hiz, asInt, asIntOf, hw, h0, h1, hco, hn, hm0, h63, h48, Question.forced, newRow, grownCap]
 ·have hge := grownCap_ge w (n + m) c e
  have hle := grownCap_le_maxLen w (n + m) c e (by unfold maxLen; omega)
  unfold maxLen at hle
  have hnw := hS.drew.newCs (vs ++ List.replicate m z ++ List.replicate (grownCap w (n + m) c e - (n + m)) z) e
  rw [zero_cells1 hz, zero_cells1 hz]
  rw [show (vs ++ List.replicate m z ++ List.replicate (grownCap w (n + m) c e - (n + m)) z).toArray = vs.toArray ++ (List.replicate m z).toArray ++ (List.replicate (grownCap w (n + m) c e - (n + m)) z).toArray from by simp] at hnw
  exact Sat.slMk (pre := []) (vs := vs ++ List.replicate m z) (rest := List.replicate (grownCap w (n + m) c e - (n + m)) z) (by simpa using hnw) hge hle (by simp [hvl]) rfl (by simp [hvl]; omega)
theorem apGZ (hS : Sat W w L) (T T2 : TypeId) (x y : Operand) (ho : o.op = .call { callee := .builtin .append, args := #[x, y], argTypes := #[T, T2] }) {ao : Option Addr} {n c : Nat} (hx : a.eval x = .slice ao n c) (m : Nat) (hy : a.eval y = .int .i64 m)
  {e size bytes : Nat} {z : Value} (hT : elemB P T = some (e, size, bytes, some z)) (hsz : size = 1) (hz : z.cells = #[z]) (hT2 : intB P T2 = some true) {vs : List Value} (hr : Rd w (.slice ao n c) n 1 vs)
  (hgr : c < n + m) (hb : (n + m) * bytes ≤ 140737488355328) (hm : n + m ≤ 9223372036854775807)
  (h : ∀ v' w', Sat W w' (Sl e 1 v' (n + m) (vs ++ List.replicate m z) :: L) → K (a.put o.dst v') w') : o.wp P a w K Q := by
 subst hsz
 obtain ⟨v', w', hrun, hS'⟩ := hS.run_append_growZ (P := P) T T2 o.type hT hz hT2 hr hgr hb hm
 have h3 := h v' w' hS'
 unfold Oper.wp
 simp [execOp, ho, resolve, invoke, builtin, hx, hy, hrun, Oper.upon, h3]
theorem bs0 (hS : Sat W w L) (T : TypeId) (ho : o.op = .buildSlice T 0 #[]) {e size bytes : Nat} {z : Option Value} (hT : elemB P T = some (e, size, bytes, z)) (h : ∀ b w', Sat W w' (Cs b e [] :: L) → K (a.put o.dst (.slice (some ⟨b, 0, none⟩) 0 0)) w') : o.wp P a w K Q := by
 obtain ⟨hu, i, hi, rfl, rfl, hiz⟩ := elemB_parts hT
 refine wp_of_val (s := Instr.buildSlice T 0 #[]) (v := .slice (some ⟨w.heap.size, 0, none⟩) 0 0) (w' := w.alloc (.cells #[] e)) (by simp [execOp, ho]) ?_ (h _ _ ?_)
 ·simp [Instr.buildSlice, run_underlying hu, sizeOf, typeInfo, hi, Instr.fill, newRow]
  rw [show Array.map (fun _ => (default : Value)) (Array.range 0) = #[] from by apply Array.ext'; simp]
 ·have := hS.newCs [] e; simpa using this
theorem Sat.ahead (h : Sat W w L) (n : Nat) : Sat W (Sort.ahead w n) L := h.of_heap rfl rfl rfl
theorem Sat.grow (h : Sat W w L) (os : Array Obj) : Sat W (Sort.grow w os) L := by
 refine ⟨h.os, h.output, ?_⟩
 obtain ⟨h1, h2, s1, s2, d, e, r⟩ := h.stars
 have up : (hp w).sub (hp (Sort.grow w os)) := fun c p hc => by
  have hlt := (Array.getElem?_eq_some_iff.1 hc).1
  simp only [hp, Sort.grow] at hc ⊢
  rw [Array.getElem?_append_left hlt]; exact hc
 exact ⟨h1, h2, Hp.sub_trans s1 up, Hp.sub_trans s2 up, d, e, r⟩
theorem putCells_mid {α : Type} [Inhabited α] (enc : α → Value) (ds : List α) {pre vs rest : List Value} (hl : ds.length = vs.length) : Sort.putCells enc pre.length ds.toArray (pre ++ vs ++ rest).toArray = (pre ++ ds.map enc ++ rest).toArray := by
 apply Array.ext'
 apply List.ext_getElem?
 intro k
 simp only [Sort.putCells, Array.toList_mapIdx, List.getElem?_mapIdx, List.size_toArray]
 by_cases h1 : k < pre.length
 ·rw [List.append_assoc, List.append_assoc, List.getElem?_append_left h1, List.getElem?_append_left h1]
  cases pre[k]? with
  | none => rfl
  | some y => simp only [Option.map_some]; rw [if_neg (by omega)]
 ·by_cases h2 : k < pre.length + ds.length
  ·rw [List.append_assoc, List.append_assoc, List.getElem?_append_right (by omega), List.getElem?_append_left (by omega), List.getElem?_append_right (by omega), List.getElem?_append_left (by simp; omega)]
   rw [List.getElem?_eq_getElem (by omega), List.getElem?_map, List.getElem?_eq_getElem (by omega)]
   simp only [Option.map_some]
   rw [if_pos (by omega)]
   congr 2
   rw [getElem!_pos _ _ (by simp; omega)]
   simp
  ·rw [List.append_assoc, List.append_assoc, List.getElem?_append_right (by omega), List.getElem?_append_right (by omega), List.getElem?_append_right (by omega), List.getElem?_append_right (by simp; omega)]
   simp only [List.length_map, hl]
   cases rest[k - pre.length - vs.length]? with
   | none => rfl
   | some y => simp only [Option.map_some]; rw [if_neg (by omega)]
theorem Sat.putRow {α : Type} [Inhabited α] (enc : α → Value) {b E off : Nat} {pre vs rest : List Value} (h : Sat W w (Cs b E (pre ++ vs ++ rest) :: L)) (ds : List α) (hl : ds.length = vs.length) (ho : pre.length = off) : Sat W (Sort.putRow enc w b off ds.toArray) (Cs b E (pre ++ ds.map enc ++ rest) :: L) := by
 subst ho
 obtain ⟨fz, ht, h2⟩ := h.openCs
 have hb := h2.blk
 refine Sat.mkCs (fz := fz) (by simpa [hl] using ht) (h2.turn rfl rfl ?_ fun c p hc hp => ?_)
 ·simp only [Sort.putRow, Sort.mapBlock, Array.getElem?_modify, if_pos, hb, Option.map_some, Sort.onCells]
  rw [putCells_mid enc ds hl]
 ·simp only [Sort.putRow, Sort.mapBlock, Array.getElem?_modify, Ne.symm hc, if_false]
  exact hp
theorem cpSl (hS : Sat W w L) (T T2 : TypeId) (x y : Operand) (ho : o.op = .call { callee := .builtin .copy, args := #[x, y], argTypes := #[T, T2] }) (b ad dn dc : Nat) (xv : Value) (hx : a.eval x = .slice (some ⟨b, ad, none⟩) dn dc) (hy : a.eval y = xv)
  {e size bytes : Nat} {z : Option Value} (hT : elemB P T = some (e, size, bytes, z)) (hsz : size = 1) {k E off n c m : Nat} {vs us : List Value} (hk : Has L k (Sl E 1 (.slice (some ⟨b, off, none⟩) n c) n vs)) (j : Nat) (hj : ad = off + j) (hdn : j + dn ≤ vs.length)
  (hsrc : Rd w xv m 1 us) (h1 : ∀ u ∈ us, u.oneCell' = true) (hm : m ≤ dn)
  (h : ∀ w', Sat W w' (L.set k (Sl E 1 (.slice (some ⟨b, off, none⟩) n c) n (vs.take j ++ us ++ vs.drop (j + m)))) → K (a.put o.dst (.int .i64 m)) w') : o.wp P a w K Q := by
 subst hsz; subst hj
 rcases (hS.front k hk).slOpen with ⟨h2, _⟩ | ⟨E', b', off', cap, pre, rest, h2, g1, g2, g3, h4, g5, h5⟩
 ·cases h2
 ·simp only [Value.slice.injEq, Option.some.injEq, Addr.mk.injEq, true_and, and_true] at h2
  obtain ⟨⟨rfl, rfl⟩, rfl⟩ := h2
  have hul : us.length = m := by have := Src.length (.inl hsrc); omega
  refine cp h5 T T2 x y ho b (off + j) dn dc xv hx hy hT (by decide) (k := 0) rfl hsrc h1 (by simp; omega) fun w' hS' => ?_
  rw [Nat.min_eq_left hm] at hS' ⊢
  refine h w' ?_
  simp only [List.set_cons_zero, Nat.mul_one] at hS'
  rw [← h4, mid_take (by omega), Nat.add_assoc, mid_drop (by omega), List.take_of_length_le (l := us) (by omega)] at hS'
  refine Sat.back (Sat.slMk (pre := pre) (vs := vs.take j ++ us ++ vs.drop (j + m)) (rest := rest) (by simpa [List.append_assoc] using hS') g1 g2 ?_ h4 ?_) hk
  ·simp only [List.length_append, List.length_take, List.length_drop]; omega
  ·simp only [List.length_append, List.length_take, List.length_drop]; omega
theorem rSlcL {T : TypeId} {x y : Operand} (ho : o.op = .slice T x (some y) none none) {b off n c lo e size bytes : Nat} {k : IntKind} {z : Option Value} (hx : a.eval x = .slice (some ⟨b, off, none⟩) n c) {v : Int} (hy : a.eval y = .int k v) (hv : v = (lo : Nat)) (hlo : lo ≤ n) (hlc : lo < c)
  (hT : elemB P T = some (e, size, bytes, z)) (w : World) : (execOp a.eval o).run P w = .ok (.value (.slice (some ⟨b, off + lo * size, none⟩) (n - lo) (c - lo))) w := by
 subst hv
 obtain ⟨hu, i, hi, rfl, rfl, _⟩ := elemB_parts hT
 have he : P.elem T = e := by simp [Program.elem, hu]
 have h1 : ¬ c = lo := by omega
 have hr := run_slice_l (P := P) (w := w) T (some ⟨b, off, none⟩) n c (by rw [he]; exact hu) k lo (by omega) (by omega)
 rw [he] at hr
 refine rd_of (s := Instr.sliceAt T (.slice (some ⟨b, off, none⟩) n c) (some (.int k lo)) none none) (by simp [execOp, ho, hx, hy]) ?_
 rw [run_sliceAt_slice (h := by rw [he]; exact hu), hr]
 simp [sizeOf, typeInfo, hi, sliced, h1, Addr.add_lit]
end
end Go.Sep
namespace Go.Sep
open Go Go.RowKit
def cutA (ao : Option Addr) (c lo sz : Nat) : Option Addr := if c = lo then ao else ao.map (·.add (lo * sz))
section
variable {P : Program} {a : Act} {o : Oper}
theorem rCutL {T : TypeId} {x y : Operand} (ho : o.op = .slice T x (some y) none none) {ao : Option Addr} {n c lo e size bytes : Nat} {k : IntKind} {z : Option Value} (hx : a.eval x = .slice ao n c) {v : Int} (hy : a.eval y = .int k v) (hv : v = (lo : Nat)) (hlo : lo ≤ n) (hnc : n ≤ c)
  (hT : elemB P T = some (e, size, bytes, z)) (w : World) : (execOp a.eval o).run P w = .ok (.value (.slice (cutA ao c lo size) (n - lo) (c - lo))) w := by
 subst hv
 obtain ⟨hu, i, hi, rfl, rfl, _⟩ := elemB_parts hT
 have he : P.elem T = e := by simp [Program.elem, hu]
 have hr := run_slice_l (P := P) (w := w) T ao n c (by rw [he]; exact hu) k lo (by omega) (by omega)
 rw [he] at hr
 refine rd_of (s := Instr.sliceAt T (.slice ao n c) (some (.int k lo)) none none) (by simp [execOp, ho, hx, hy]) ?_
 rw [run_sliceAt_slice (h := by rw [he]; exact hu), hr]
 unfold cutA
 by_cases h : c = lo
 ·simp [sizeOf, typeInfo, hi, sliced, h]
 ·simp [sizeOf, typeInfo, hi, sliced, h]
theorem rCutM {T : TypeId} {x y u : Operand} (ho : o.op = .slice T x (some y) (some u) none) {ao : Option Addr} {n c lo m e size bytes : Nat} {k1 k2 : IntKind} {z : Option Value} (hx : a.eval x = .slice ao n c) {v1 v2 : Int} (hy : a.eval y = .int k1 v1) (hu : a.eval u = .int k2 v2) (h1 : v1 = (lo : Nat)) (h2 : v2 = ((lo + m : Nat) : Int)) (hc : lo + m ≤ c)
  (hT : elemB P T = some (e, size, bytes, z)) (w : World) : (execOp a.eval o).run P w = .ok (.value (.slice (cutA ao c lo size) m (c - lo))) w := by
 subst h1 h2
 obtain ⟨hut, i, hi', rfl, rfl, _⟩ := elemB_parts hT
 have he : P.elem T = e := by simp [Program.elem, hut]
 have hr := run_slice_lh (P := P) (w := w) T ao n c (by rw [he]; exact hut) k1 k2 lo ((lo + m : Nat) : Int) (by omega) (by omega) (by omega)
 rw [he] at hr
 refine rd_of (s := Instr.sliceAt T (.slice ao n c) (some (.int k1 lo)) (some (.int k2 ((lo + m : Nat) : Int))) none) (by simp [execOp, ho, hx, hy, hu]) ?_
 rw [run_sliceAt_slice (h := by rw [he]; exact hut), hr]
 unfold cutA
 have e1 : ((((lo + m : Nat) : Int) - (lo : Int))).toNat = m := by omega
 by_cases h : c = lo
 ·simp [sizeOf, typeInfo, hi', sliced, h]
  omega
 ·simp [sizeOf, typeInfo, hi', sliced, h]
  omega
theorem rCutH {T : TypeId} {x y : Operand} (ho : o.op = .slice T x none (some y) none) {ao : Option Addr} {n c hi e size bytes : Nat} {k : IntKind} {z : Option Value} (hx : a.eval x = .slice ao n c) {v : Int} (hy : a.eval y = .int k v) (hv : v = (hi : Nat)) (hhc : hi ≤ c)
  (hT : elemB P T = some (e, size, bytes, z)) (w : World) : (execOp a.eval o).run P w = .ok (.value (.slice ao hi c)) w := by
 subst hv
 obtain ⟨hu, i, hi', rfl, rfl, _⟩ := elemB_parts hT
 have he : P.elem T = e := by simp [Program.elem, hu]
 have hr := run_slice_h (P := P) (w := w) T ao n c (by rw [he]; exact hu) k hi (by omega) (by omega)
 rw [he] at hr
 refine rd_of (s := Instr.sliceAt T (.slice ao n c) none (some (.int k hi)) none) (by simp [execOp, ho, hx, hy]) ?_
 rw [run_sliceAt_slice (h := by rw [he]; exact hu), hr]
 cases ao with
 | none => simp [sizeOf, typeInfo, hi', sliced]
 | some x => simp [sizeOf, typeInfo, hi', sliced, Addr.add]
end
theorem Rd.cutL {w : World} {ao : Option Addr} {n c sz : Nat} {vs : List Value} (h : Rd w (.slice ao n c) n sz vs) (lo : Nat) (hlo : lo ≤ n) : Rd w (.slice (cutA ao c lo sz) (n - lo) (c - lo)) (n - lo) sz (vs.drop (lo * sz)) := by
 obtain ⟨ao', c', he, h1, h2, h3, h5⟩ := h
 simp only [Value.slice.injEq, true_and] at he
 obtain ⟨rfl, rfl⟩ := he
 refine ⟨_, _, rfl, by omega, by omega, by rw [List.length_drop, h3, Nat.sub_mul], fun hpos => ?_⟩
 obtain ⟨b, off, rfl, h6⟩ := h5 (by omega)
 refine ⟨b, off + lo * sz, ?_, fun j u hu => ?_⟩
 ·unfold cutA; rw [if_neg (by omega)]; simp [Addr.add_lit]
 ·rw [List.getElem?_drop] at hu
  have := h6 _ _ hu
  rwa [← Nat.add_assoc] at this
theorem Rd.cutH {w : World} {ao : Option Addr} {n c sz : Nat} {vs : List Value} (h : Rd w (.slice ao n c) n sz vs) (hi : Nat) (hhi : hi ≤ n) : Rd w (.slice ao hi c) hi sz (vs.take (hi * sz)) := by
 obtain ⟨ao', c', he, h1, h2, h3, h5⟩ := h
 simp only [Value.slice.injEq, true_and] at he
 obtain ⟨rfl, rfl⟩ := he
 refine ⟨_, _, rfl, by omega, h2, ?_, fun hpos => ?_⟩
 ·rw [List.length_take, h3]
  have := Nat.mul_le_mul_right sz hhi
  omega
 ·obtain ⟨b, off, rfl, h6⟩ := h5 (by omega)
  refine ⟨b, off, rfl, fun j u hu => h6 j u ?_⟩
  rw [List.getElem?_take] at hu
  split at hu
  ·exact hu
  ·cases hu
theorem fm_drop {α : Type} {f : α → List Value} {sz : Nat} : ∀ (l : List α) (k : Nat), (∀ x ∈ l, (f x).length = sz) → (l.flatMap f).drop (k * sz) = (l.drop k).flatMap f
 | l, 0, _ => by simp
 | [], k + 1, _ => by simp
 | x :: l, k + 1, h => by
  have hx := h x (List.mem_cons_self ..)
  rw [List.flatMap_cons, List.drop_succ_cons, ← fm_drop l k (fun y hy => h y (List.mem_cons_of_mem _ hy)), List.drop_append, List.drop_eq_nil_of_le (by rw [hx, Nat.add_mul]; omega), List.nil_append, hx]
  congr 1
  rw [Nat.add_mul]; omega
theorem fm_take {α : Type} {f : α → List Value} {sz : Nat} : ∀ (l : List α) (k : Nat), (∀ x ∈ l, (f x).length = sz) → (l.flatMap f).take (k * sz) = (l.take k).flatMap f
 | l, 0, _ => by simp
 | [], k + 1, _ => by simp
 | x :: l, k + 1, h => by
  have hx := h x (List.mem_cons_self ..)
  rw [List.flatMap_cons, List.take_succ_cons, List.flatMap_cons, ← fm_take l k (fun y hy => h y (List.mem_cons_of_mem _ hy)), List.take_append, List.take_of_length_le (by rw [hx, Nat.add_mul]; omega), hx]
  congr 2
  rw [Nat.add_mul]; omega
end Go.Sep
namespace Go.Sep
open Go Go.RowKit
section
variable {P : Program} {Q : Exit → Act → World → Prop} {a : Act} {w : World}
theorem sep_cut {x y : Code} (J : Act → World → Prop) (hx : ∀ K : Act → World → Prop, Hid (∀ a w, J a w → K a w) → x.wp P (Exit.then K Q) a w) (hy : ∀ a w, J a w → y.wp P Q a w) : (Code.seq x y).wp P Q a w :=
 wp_seq (hx (y.wp P Q) (Lib.hid hy))
theorem sep_part {x y : Code} (hx : ∀ K : Act → World → Prop, Hid (∀ a w, y.wp P Q a w → K a w) → x.wp P (Exit.then K Q) a w) : (Code.seq x y).wp P Q a w :=
 wp_seq (hx (y.wp P Q) (Lib.hid fun _ _ h => h))
end
end Go.Sep
namespace Go
def Exit.jump2 (l : Nat) (J : Act → World → Prop) (l0 : Nat) (J0 : Act → World → Prop) (Q : Exit → Act → World → Prop) : Exit → Act → World → Prop
 | .goto l', a, w => (l' = l ∧ J a w) ∨ (l' = l0 ∧ J0 a w)
 | e, a, w => Q e a w
section
variable {P : Program} {a : Act} {w : World} {Q : Exit → Act → World → Prop}
theorem Exit.jump2_ret {l l0 : Nat} {J J0 : Act → World → Prop} : Exit.jump2 l J l0 J0 Q .ret a w = Q .ret a w := rfl
theorem wp_scope_two {c rest r0 : Code} (l l0 : Nat) (J : Act → World → Prop) (μ : Act → World → Nat) (hf : findLabel c l = some rest) (hf0 : findLabel c l0 = some r0)
  (first : c.wp P (Exit.jump2 l J l0 (fun a w => r0.wp P (Exit.noGoto Q) a w) Q) a w)
  (pass : ∀ a w, J a w → rest.wp P (Exit.jump2 l (fun a' w' => J a' w' ∧ μ a' w' < μ a w) l0 (fun a w => r0.wp P (Exit.noGoto Q) a w) Q) a w) : (Code.scope c).wp P Q a w := by
 intro b k cs
 have hg : gotoIn l (.inScope c :: k) = some (.code rest :: .inScope c :: k) := by simp [gotoIn, hf]
 have hg0 : gotoIn l0 (.inScope c :: k) = some (.code r0 :: .inScope c :: k) := by simp [gotoIn, hf0]
 have fin : ∀ a w, r0.wp P (Exit.noGoto Q) a w → ∃ e a' w', Q e a' w' ∧ Arrives P (lone (b.at a (.code r0 :: .inScope c :: k)) cs w) b k cs e a' w' := by
  intro a w h
  obtain ⟨e, a₁, w₁, hq, harr⟩ := h b (.inScope c :: k) cs
  cases e with
  | normal => exact ⟨.normal, a₁, w₁, hq, Steps.trans harr (.one step_inScope)⟩
  | exit id => exact ⟨.exit id, a₁, w₁, hq, fun k' hk => harr k' (by simp [exitTo, hk])⟩
  | goto l' => exact hq.elim
  | ret => exact ⟨_, a₁, w₁, hq, harr⟩
  | panic ch => exact ⟨_, a₁, w₁, hq, harr⟩
  | outgrown => exact ⟨_, a₁, w₁, hq, harr⟩
 have key : ∀ n a w, μ a w = n → J a w → ∃ e a' w', Q e a' w' ∧ Arrives P (lone (b.at a (.code rest :: .inScope c :: k)) cs w) b k cs e a' w' := by
  intro n
  induction n using Nat.strongRecOn with
  | _ n ih =>
   intro a w hn hJ
   obtain ⟨e, a₁, w₁, hq, harr⟩ := pass a w hJ b (.inScope c :: k) cs
   cases e with
   | normal => exact ⟨.normal, a₁, w₁, hq, Steps.trans harr (.one step_inScope)⟩
   | exit id => exact ⟨.exit id, a₁, w₁, hq, fun k' hk => harr k' (by simp [exitTo, hk])⟩
   | goto l' =>
    rcases hq with ⟨rfl, hJ', hlt⟩ | ⟨rfl, h0⟩
    ·obtain ⟨e₂, a₂, w₂, hq₂, harr₂⟩ := ih _ (by omega) a₁ w₁ rfl hJ'
     exact ⟨e₂, a₂, w₂, hq₂, .of_steps (harr _ hg) harr₂⟩
    ·obtain ⟨e₂, a₂, w₂, hq₂, harr₂⟩ := fin a₁ w₁ h0
     exact ⟨e₂, a₂, w₂, hq₂, .of_steps (harr _ hg0) harr₂⟩
   | ret => exact ⟨_, a₁, w₁, hq, harr⟩
   | panic ch => exact ⟨_, a₁, w₁, hq, harr⟩
   | outgrown => exact ⟨_, a₁, w₁, hq, harr⟩
 obtain ⟨e, a₁, w₁, hq, harr⟩ := first b (.inScope c :: k) cs
 cases e with
 | normal => exact ⟨.normal, a₁, w₁, hq, .head step_scope (Steps.trans harr (.one step_inScope))⟩
 | exit id => exact ⟨.exit id, a₁, w₁, hq, fun k' hk => .head step_scope (harr k' (by simp [exitTo, hk]))⟩
 | goto l' =>
  rcases hq with ⟨rfl, hJ'⟩ | ⟨rfl, h0⟩
  ·obtain ⟨e₂, a₂, w₂, hq₂, harr₂⟩ := key _ a₁ w₁ rfl hJ'
   exact ⟨e₂, a₂, w₂, hq₂, .of_steps (.head step_scope (harr _ hg)) harr₂⟩
  ·obtain ⟨e₂, a₂, w₂, hq₂, harr₂⟩ := fin a₁ w₁ h0
   exact ⟨e₂, a₂, w₂, hq₂, .of_steps (.head step_scope (harr _ hg0)) harr₂⟩
 | ret => exact ⟨_, a₁, w₁, hq, .of_steps (.one step_scope) harr⟩
 | panic ch => exact ⟨_, a₁, w₁, hq, .of_steps (.one step_scope) harr⟩
 | outgrown => exact ⟨_, a₁, w₁, hq, .of_steps (.one step_scope) harr⟩
theorem wp_scope_two_over {c r r0 : Code} (l l0 : Nat) (J : Act → World → Prop) (μ : Act → World → Nat) (hf : findLabel c l = some (Code.skip.seq r)) (hf0 : findLabel c l0 = some r0)
  (pass : ∀ a w, J a w → r.wp P (Exit.jump2 l (fun a' w' => J a' w' ∧ μ a' w' < μ a w) l0 (fun a w => r0.wp P (Exit.noGoto Q) a w) Q) a w)
  (first : (∀ a w, J a w → r.wp P (Exit.jump2 l J l0 (fun a w => r0.wp P (Exit.noGoto Q) a w) Q) a w) → c.wp P (Exit.jump2 l J l0 (fun a w => r0.wp P (Exit.noGoto Q) a w) Q) a w) : (Code.scope c).wp P Q a w :=
 wp_scope_two l l0 J μ hf hf0 (first fun a w h => Code.wp_mono (fun e a' w' h2 => by
  cases e with
  | goto l' => exact h2.imp (fun h => ⟨h.1, h.2.1⟩) id
  | _ => exact h2) (pass a w h)) fun a w h => wp_seq (wp_skip (pass a w h))
end
end Go
namespace Go.Sep
set_option linter.unusedVariables false
open Go
section
variable {P : Program} {W w : World} {L L' : List Asrt} {l : List Oper} {listed : List Bool} {fuel : Nat} {free : List Nat} {a : Act} {Q : Exit → Act → World → Prop}
theorem rgP (i : Nat) (hS : Sat W w L') (hL : ∀ u, Sat W u L' → Sat W u L) {oi : Oper} {v : Value} {listed' : List Bool} (h : Reg P Q free l W fuel L listed' (a.put oi.dst v) w)
  (hi : nth l i = some oi := by rfl) (hs : Region.noSelect l.toArray = true := by kernel_rfl) (hf : Region.free .any l.toArray listed.toArray i = true := by kernel_rfl)
  (hr : (Region.ready .any l.toArray listed.toArray).contains i = true := by kernel_rfl) (hQ : ∀ v c a w, Q (.panic c) (a.put oi.dst v) w → Q (.panic c) a w := by exact fun _ _ _ _ h => h)
  (hw : Region.wanted oi (yielded l.toArray a.tmps) = true := by rfl) (hl : listed.set i true = listed' := by rfl)
  (hv : ∀ u, (execOp a.eval oi).run P u = .ok (.value v) u := by intro w; go_simp; try with_reducible rfl) : Reg P Q free l W (fuel + 1) L listed a w :=
 regP i hS hL hi hs hf hr hQ hw hl ⟨v, hv, h⟩
theorem rgN (i : Nat) (hS : Sat W w L') (hL : ∀ u, Sat W u L' → Sat W u L) {oi : Oper} {listed' : List Bool} (h : Reg P Q free l W fuel L listed' (a.put oi.dst undef) w)
  (hi : nth l i = some oi := by rfl) (hs : Region.noSelect l.toArray = true := by kernel_rfl) (hf : Region.free .any l.toArray listed.toArray i = true := by kernel_rfl)
  (hr : (Region.ready .any l.toArray listed.toArray).contains i = true := by kernel_rfl) (hQ : ∀ c a w, Q (.panic c) (a.put oi.dst undef) w → Q (.panic c) a w := by exact fun _ _ _ h => h)
  (hw : Region.wanted oi (yielded l.toArray a.tmps) = false := by rfl) (hl : listed.set i true = listed' := by rfl) : Reg P Q free l W (fuel + 1) L listed a w :=
 regN i hS hL hi hs hf hr hQ hw hl h
theorem rgR (i : Nat) (hS : Sat W w L') (hL : ∀ u, Sat W u L' → Sat W u L) {oi : Oper} {listed' : List Bool}
  (h : ∃ v, (∀ u, Sat W u L → (execOp a.eval oi).run P u = .ok (.value v) u) ∧ Reg P Q free l W fuel L listed' (a.put oi.dst v) w)
  (hi : nth l i = some oi := by rfl) (hs : Region.noSelect l.toArray = true := by kernel_rfl) (hf : Region.free .any l.toArray listed.toArray i = true := by kernel_rfl)
  (hr : (Region.ready .any l.toArray listed.toArray).contains i = true := by kernel_rfl) (hc : closedB .any l.toArray listed.toArray = true := by kernel_rfl) (hn : waitsB l free listed i = true := by kernel_rfl)
  (hQ : ∀ v c a w, Q (.panic c) (a.put oi.dst v) w → Q (.panic c) a w := by exact fun _ _ _ _ h => h)
  (hw : Region.wanted oi (yielded l.toArray a.tmps) = true := by rfl) (hl : listed.set i true = listed' := by rfl) : Reg P Q free l W (fuel + 1) L listed a w :=
 regR i hS hL hi hs hf hr hc hn hQ hw hl h
theorem rgA (i : Nat) (b : Bool) {oi : Oper} {listed' : List Bool}
  (h : ∀ K : Act → World → Prop, (∀ a' w' (L' : List Asrt), Sat W w' L' → (b = false → ∀ u, Sat W u L' → Sat W u L) → Reg P Q free l W fuel L' listed' a' w' → K a' w') → oi.wp P a w K Q)
  (hi : nth l i = some oi := by rfl) (hr : Region.ready .any l.toArray listed.toArray = [i] := by kernel_rfl)
  (hw : Region.wanted oi (yielded l.toArray a.tmps) = true := by rfl) (hl : listed.set i true = listed' := by rfl) (hb : free.contains i = b := by kernel_rfl) : Reg P Q free l W (fuel + 1) L listed a w :=
 regA i hi hr hw hl b hb h
end
end Go.Sep
