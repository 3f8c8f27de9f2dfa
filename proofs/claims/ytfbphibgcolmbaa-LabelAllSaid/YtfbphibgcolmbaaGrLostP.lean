/-
  GraphLost: the graph of one object's versions (plain); slices of numbers that come in.
-/
import Derived.Test.YtfbphibgcolmbaaGrAwake
import Derived.Test.YtfbphibgcolmbaaSepLaw
import Derived.Test.YtfbphibgcolmbaaSepArg
namespace Go.Proofs.Ytfbphibgcolmbaa
open Go.RowKit Go.Sep Go.ChangeShapes Go.WideShapes Go.ChangeAt
set_option linter.unusedSimpArgs false
set_option linter.unusedVariables false
attribute [local irreducible] Go.Oper.wp Go.wpList Go.Calls Go.Code.wp Go.Sep.Reg
def zv (x : Int) : List Value := [.int .i64 x]
theorem zv_len (l : List Int) : ∀ x ∈ l, (zv x).length = 1 := fun _ _ => rfl
theorem open_ints {H : Type} {enc : TypeId × Value → H} {W : World} {ao : Option Addr} {len cap : Nat} {d : DataW H} {ps : List MemPlace}
    (h : DataW.Trod enc Try.prog W 0 (fun _ => true) true 34 (.slice ao len cap) d ps) :
    ∃ l : List Int, l.length = len ∧ Rd W (.slice ao len cap) len 1 (l.flatMap zv) ∧ ∀ x ∈ l, -9223372036854775808 ≤ x ∧ x ≤ 9223372036854775807 := by
  obtain ⟨l, h1, h2, h3, _⟩ := open_enc (f := zv) (Q := fun x => -9223372036854775808 ≤ x ∧ x ≤ 9223372036854775807) Try.underlying34 (sz := 1) (by kernel_rfl) (by decide) h (fun r n x hl h => by
    obtain ⟨k0, e0, _, w0⟩ := DataW.trod_int Try.underlying3 h
    exact ⟨k0, e0, i64_of w0⟩)
  exact ⟨l, h1, h2, h3⟩
def lnode (S : Nat → Bool) (j : Nat) : NodeD := ⟨2, 1, j + 1, 0, 0, S j⟩
/-- So many versions of one object, orphans as told. -/
def LG (k : Nat) (S : Nat → Bool) : Gr := ⟨(List.range k).map (lnode S), []⟩
theorem LG_len (k : Nat) (S : Nat → Bool) : (LG k S).N.length = k := by simp [LG]
theorem LG_count (k : Nat) (S : Nat → Bool) : (LG k S).count 2 1 = k := by
  unfold Gr.count
  rw [List.filter_eq_self.2 fun x hx => by
    obtain ⟨j, _, rfl⟩ := List.mem_map.1 hx
    rfl]
  exact LG_len k S
theorem LG_new : LG 0 (fun _ => false) = Gr.new := rfl
theorem LG_add (k : Nat) (h : k < 4096) : (LG k fun _ => false).addG 2 1 = LG (k + 1) fun _ => false := by
  have h1 : (LG k fun _ => false).addOk 2 1 = true := by unfold Gr.addOk; rw [LG_len]; simp [h, newOk]
  unfold Gr.addG
  rw [h1, if_pos rfl]
  unfold Gr.plus Gr.newN
  rw [LG_count]
  simp only [LG, List.range_succ, List.map_append, List.map_cons, List.map_nil]
  rfl
theorem LG_ok (k : Nat) (h : k ≤ 4096) : (LG k fun _ => false).Ok := by
  induction k with
  | zero => exact Gr.new_ok
  | succ k ih => rw [← LG_add k (by omega)]; exact Gr.addG_ok (ih (by omega)) 2 1
theorem LG_lost {k : Nat} {S : Nat → Bool} {a b : Int} : (LG k S).lostG a b = if lostOk (LG k S) a b then LG k (fun j => S j || (decide (a.toNat ≤ j) && decide (j < b.toNat))) else LG k S := by
  unfold Gr.lostG
  split
  · unfold Gr.withN LG
    congr 1
    apply List.ext_getElem?
    intro i
    rw [orphN_at]
    simp only [List.getElem?_map]
    cases h : (List.range k)[i]? with
    | none => rfl
    | some j =>
      have hj : j = i := by
        have := (List.getElem?_eq_some_iff.1 h).2
        simpa using this.symm
      subst hj
      simp only [Option.map_some, lnode, Option.some.injEq]
      split
      · rename_i h2
        rw [decide_eq_true h2.1, decide_eq_true h2.2]; simp
      · rename_i h2
        have : (decide (a.toNat ≤ j) && decide (j < b.toNat)) = false := by
          cases h3 : (decide (a.toNat ≤ j) && decide (j < b.toNat)) with
          | false => rfl
          | true => simp only [Bool.and_eq_true, decide_eq_true_eq] at h3; exact absurd h3 h2
        rw [this, Bool.or_false]
  · rfl
theorem LG_ok2 {k : Nat} {S : Nat → Bool} (h : (LG k S).Ok) (a b : Int) (hl : lostOk (LG k S) a b = true) : (LG k (fun j => S j || (decide (a.toNat ≤ j) && decide (j < b.toNat)))).Ok := by
  have := Gr.lostG_ok h a b
  rw [LG_lost, if_pos hl] at this
  exact this
/-- The truths, twenty. -/
def lostC (S : Nat → Bool) : List Value := (List.range 20).map fun j => .bool (S j)
theorem lostC_len (S : Nat → Bool) : (lostC S).length = 20 := by simp [lostC]
theorem lostC_at {S : Nat → Bool} {j : Nat} (h : j < 20) : (lostC S)[j]? = some (.bool (S j)) := by simp [lostC, h]
theorem lostC_zero : List.replicate 20 (Value.bool false) = lostC fun _ => false := rfl
theorem lostC_set {S : Nat → Bool} {j : Nat} (h : j < 20) : (lostC S).set j (.bool true) = lostC (fun t => S t || decide (t = j)) := by
  apply List.ext_getElem?
  intro i
  rw [List.getElem?_set, lostC_len]
  by_cases hi : j = i
  · subst hi; rw [if_pos rfl, if_pos h, lostC_at h]; simp
  · rw [if_neg hi]
    by_cases h2 : i < 20
    · rw [lostC_at h2, lostC_at h2, decide_eq_false (fun e => hi e.symm), Bool.or_false]
    · rw [List.getElem?_eq_none (by rw [lostC_len]; omega), List.getElem?_eq_none (by rw [lostC_len]; omega)]
theorem lost_step (S : Nat → Bool) {a j : Nat} (h : a ≤ j) : (fun t => (S t || (decide (a ≤ t) && decide (t < j))) || decide (t = j)) = fun t => S t || (decide (a ≤ t) && decide (t < j + 1)) := by
  funext t
  by_cases h1 : t = j
  · subst h1
    rw [decide_eq_true (rfl : t = t), decide_eq_true h, decide_eq_true (Nat.lt_succ_self t)]; simp
  · rw [decide_eq_false h1, Bool.or_false]
    congr 2
    by_cases h2 : t < j
    · rw [decide_eq_true h2, decide_eq_true (by omega)]
    · rw [decide_eq_false h2, decide_eq_false (by omega)]
theorem lost_first (S : Nat → Bool) (a : Nat) : (fun t => S t || (decide (a ≤ t) && decide (t < a))) = S := by
  funext t
  have : (decide (a ≤ t) && decide (t < a)) = false := by
    by_cases h : a ≤ t
    · rw [decide_eq_false (by omega : ¬ t < a), Bool.and_false]
    · rw [decide_eq_false h, Bool.false_and]
  rw [this, Bool.or_false]
end Go.Proofs.Ytfbphibgcolmbaa
