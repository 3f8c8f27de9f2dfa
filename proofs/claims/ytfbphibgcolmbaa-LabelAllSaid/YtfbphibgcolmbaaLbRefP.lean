/-
  The document's labels (package pedigreeref16): source by source, again and again (plain).
-/
import Derived.Test.YtfbphibgcolmbaaLbLaw
namespace Go.Proofs.Ytfbphibgcolmbaa
open Go.Sep
set_option linter.unusedSimpArgs false
set_option linter.unusedVariables false
/-- Labels as they stand: all sources below s are done, of s itself so many. -/
noncomputable def lv (G : Gr) (s : Nat) (S : Nat → Bool) (n : Nat) : Nat := bitsOf (fun t => if t < s then G.srcB n t else decide (t = s) && S n) 8
theorem lv_lt (G : Gr) (s : Nat) (S : Nat → Bool) (n : Nat) : lv G s S n < 256 := bitsOf_lt _ 8
theorem lv_test (G : Gr) (s : Nat) (S : Nat → Bool) (n t : Nat) : (lv G s S n).testBit t = (decide (t < 8) && (if t < s then G.srcB n t else decide (t = s) && S n)) := bitsOf_test _ _ _
theorem lv_bit {G : Gr} {s : Nat} (hs : s < 8) (S : Nat → Bool) (n : Nat) : (lv G s S n).testBit s = S n := by
  rw [lv_test, decide_eq_true hs, if_neg (Nat.lt_irrefl s)]; simp
theorem lv_zero (G : Gr) (n : Nat) : lv G 0 (fun _ => false) n = 0 := by
  apply Nat.eq_of_testBit_eq
  intro t
  rw [lv_test, if_neg (Nat.not_lt_zero t)]; simp
theorem lv_put {G : Gr} {s : Nat} (hs : s < 8) (S : Nat → Bool) (n : Nat) : (fun k => if k = n then lv G s S n ||| 2 ^ s else lv G s S k) = lv G s (fun t => S t || decide (t = n)) := by
  funext k
  apply Nat.eq_of_testBit_eq
  intro t
  by_cases hk : k = n
  · subst hk
    rw [if_pos rfl, Nat.testBit_or, lv_test, lv_test, Nat.testBit_two_pow]
    by_cases ht : t = s
    · subst ht; simp [hs]
    · have : decide (s = t) = false := decide_eq_false (fun e => ht e.symm)
      rw [this, Bool.or_false, decide_eq_false ht]; simp
  · rw [if_neg hk, lv_test, lv_test]; simp [hk]
theorem lv_next {G : Gr} {s : Nat} {S : Nat → Bool} {N : Nat} (h : ∀ n, n < N → S n = G.srcB n s) {n : Nat} (hn : n < N) : lv G s S n = lv G (s + 1) (fun _ => false) n := by
  apply Nat.eq_of_testBit_eq
  intro t
  rw [lv_test, lv_test]
  congr 1
  by_cases h1 : t < s
  · rw [if_pos h1, if_pos (by omega)]
  · rw [if_neg h1]
    by_cases h2 : t = s
    · subst h2; rw [if_pos (by omega), h n hn]; simp
    · rw [if_neg (by omega), decide_eq_false h2]; simp
theorem lv_lab (G : Gr) (n : Nat) : lv G 8 (fun _ => false) n = G.lab n := by
  apply Nat.eq_of_testBit_eq
  intro t
  rw [lv_test, Gr.lab_test]
  by_cases h : t < 8
  · rw [if_pos h]
  · rw [decide_eq_false h]; simp
def reachB (G : Gr) (s : Nat) (S : Nat → Bool) (x : NodeD) (n : Nat) : Bool := !x.clear.testBit s && (x.mark.testBit s || G.E.any fun e => decide (e.1 = n) && S e.2)
structure SrI (G : Gr) (s : Nat) (S : Nat → Bool) : Prop where
  src : ∀ n, S n = true → G.Src s n
structure SrJ (G : Gr) (s : Nat) (S : Nat → Bool) (i : Nat) (S' : Nat → Bool) (m : Bool) : Prop where
  inv : SrI G s S'
  no : m = false → S' = S ∧ ∀ n x, n < i → G.N[n]? = some x → S' n = false → reachB G s S' x n = false
  yes : m = true → fls S' G.N.length < fls S G.N.length
theorem SrJ.start {G : Gr} {s : Nat} {S : Nat → Bool} (h : SrI G s S) : SrJ G s S 0 S false := ⟨h, fun _ => ⟨rfl, fun n x hn => by omega⟩, fun h => by cases h⟩
theorem SrJ.skip {G : Gr} {s i : Nat} {S S' : Nat → Bool} {m : Bool} {x : NodeD} (h : SrJ G s S i S' m) (hx : G.N[i]? = some x) (hr : S' i = true ∨ reachB G s S' x i = false) : SrJ G s S (i + 1) S' m where
  inv := h.inv
  no := fun hm => ⟨(h.no hm).1, fun n y hn hy hf => by
    by_cases e : n = i
    · subst e
      rw [hx] at hy; cases hy
      rcases hr with hr | hr
      · rw [hr] at hf; cases hf
      · exact hr
    · exact (h.no hm).2 n y (by omega) hy hf⟩
  yes := h.yes
theorem SrJ.put {G : Gr} {s i : Nat} {S S' : Nat → Bool} {m : Bool} {x : NodeD} (h : SrJ G s S i S' m) (hx : G.N[i]? = some x) (hf : S' i = false) (hr : reachB G s S' x i = true) : SrJ G s S (i + 1) (fun t => S' t || decide (t = i)) true where
  inv := ⟨fun n hn => by
    simp only [Bool.or_eq_true, decide_eq_true_eq] at hn
    rcases hn with hn | rfl
    · exact h.inv.src n hn
    · unfold reachB at hr
      simp only [Bool.and_eq_true, Bool.not_eq_true', Bool.or_eq_true, List.any_eq_true, decide_eq_true_eq] at hr
      obtain ⟨h1, h2 | ⟨e, he, h3, h4⟩⟩ := hr
      · exact Gr.Src.base hx h2 h1
      · exact Gr.Src.step (by rw [← h3]; exact he) hx h1 (h.inv.src _ h4)⟩
  no := fun h => by cases h
  yes := fun _ => by
    have h1 := fls_put (n := G.N.length) (List.getElem?_eq_some_iff.1 hx).1 hf
    cases m with
    | true => have := h.yes rfl; omega
    | false => rw [(h.no rfl).1] at h1 ⊢; exact h1
theorem SrI.done {G : Gr} {s : Nat} {S : Nat → Bool} (h : SrI G s S) (hc : ∀ n x, n < G.N.length → G.N[n]? = some x → S n = false → reachB G s S x n = false) {n : Nat} : S n = G.srcB n s := by
  rw [Bool.eq_iff_iff, Gr.srcB_iff]
  refine ⟨h.src n, fun hs => ?_⟩
  refine hs (fun m => S m = true) (fun m x hx h1 h2 => ?_) (fun m u x he hx h2 hu => ?_)
  · cases hS : S m with
    | true => rfl
    | false =>
      have := hc m x (List.getElem?_eq_some_iff.1 hx).1 hx hS
      unfold reachB at this
      rw [h2, h1] at this; cases this
  · cases hS : S m with
    | true => rfl
    | false =>
      have := hc m x (List.getElem?_eq_some_iff.1 hx).1 hx hS
      unfold reachB at this
      rw [h2] at this
      have h3 : (G.E.any fun e => decide (e.1 = m) && S e.2) = true := List.any_eq_true.2 ⟨(m, u), he, by simp [hu]⟩
      rw [h3] at this; simp at this
theorem and_bit (y s : Nat) (hy : y < 256) (hs : s < 8) : bits .and .i64 (y : Int) ((2 ^ s : Nat) : Int) = if y.testBit s then ((2 ^ s : Nat) : Int) else 0 := by
  have h2 : 2 ^ s < 256 := Nat.lt_of_lt_of_le (Nat.pow_lt_pow_right (by decide) hs) (by decide : 2 ^ 8 ≤ 256)
  have h1 : bits .and .i64 (y : Int) ((2 ^ s : Nat) : Int) = ((y &&& 2 ^ s : Nat) : Int) := by
    have hx2 : y &&& 2 ^ s ≤ 2 ^ s := Nat.and_le_right
    show IntKind.i64.wrap ((BitVec.ofInt 64 (y : Int) &&& BitVec.ofInt 64 ((2 ^ s : Nat) : Int)).toNat : Int) = _
    rw [BitVec.toNat_and, bv_nat _ hy, bv_nat _ h2, IntWalk.i64_in _ (by omega)]
  have e : y &&& 2 ^ s = if y.testBit s then 2 ^ s else 0 := by
    apply Nat.eq_of_testBit_eq
    intro t
    rw [Nat.testBit_and, Nat.testBit_two_pow]
    by_cases ht : s = t
    · subst ht
      cases h : y.testBit s <;> simp [Nat.testBit_two_pow]
    · rw [decide_eq_false ht, Bool.and_false]
      cases y.testBit s
      · simp
      · rw [if_pos rfl, Nat.testBit_two_pow, decide_eq_false ht]
  rw [h1, e]
  cases y.testBit s <;> simp
end Go.Proofs.Ytfbphibgcolmbaa
