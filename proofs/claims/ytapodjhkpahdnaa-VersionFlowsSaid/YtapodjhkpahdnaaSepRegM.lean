/-
  Drawn regions in which several acts may come up at once; branches that are joined.
-/
import Derived.Test.YtapodjhkpahdnaaSepRows
namespace Go.Sep
open Go
section
variable {P : Program} {Q : Exit → Act → World → Prop} {free : List Nat} {l : List Oper} {W w : World} {L L' : List Asrt} {fuel : Nat} {listed : List Bool} {a : Act}
/-- What an act must do. -/
def Step (P : Program) (Q : Exit → Act → World → Prop) (free : List Nat) (l : List Oper) (W : World) (fuel : Nat) (L : List Asrt) (listed : List Bool) (a : Act) (w : World) (oi : Oper) : Prop :=
  ∀ K : Act → World → Prop, (∀ a' w' (L' : List Asrt), Sat W w' L' → (∀ u, Sat W u L' → Sat W u L) → Reg P Q free l W fuel L' listed a' w' → K a' w') → oi.wp P a w K Q
theorem regM2 (i j : Nat) {oi oj : Oper} (hi : nth l i = some oi) (hj : nth l j = some oj) (hr : Region.ready .any l.toArray listed.toArray = [i, j])
    (hwi : Region.wanted oi (yielded l.toArray a.tmps) = true) (hwj : Region.wanted oj (yielded l.toArray a.tmps) = true) {li lj : List Bool} (hli : listed.set i true = li) (hlj : listed.set j true = lj)
    (h1 : Step P Q free l W fuel L li a w oi) (h2 : Step P Q free l W fuel L lj a w oj) : Reg P Q free l W (fuel + 1) L listed a w := by
  subst hli; subst hlj
  unfold Reg wpAnyG
  refine ⟨fun h0 => (by rw [hr] at h0; cases h0), fun k hk => ?_⟩
  rw [hr] at hk
  simp only [List.mem_cons, List.not_mem_nil, or_false] at hk
  rw [nth_eq] at hi hj
  unfold wpOp
  rcases hk with rfl | rfl
  · simp only [hi]
    rw [if_pos hwi]
    refine .inl (h1 _ fun a' w' L' h1 h2 h3 => ⟨fun u => Sat W u L', h1, fun _ => h2, ?_⟩)
    simpa [Reg] using h3
  · simp only [hj]
    rw [if_pos hwj]
    refine .inl (h2 _ fun a' w' L' h1 h2 h3 => ⟨fun u => Sat W u L', h1, fun _ => h2, ?_⟩)
    simpa [Reg] using h3
theorem regM3 (i j m : Nat) {oi oj om : Oper} (hi : nth l i = some oi) (hj : nth l j = some oj) (hm : nth l m = some om) (hr : Region.ready .any l.toArray listed.toArray = [i, j, m])
    (hwi : Region.wanted oi (yielded l.toArray a.tmps) = true) (hwj : Region.wanted oj (yielded l.toArray a.tmps) = true) (hwm : Region.wanted om (yielded l.toArray a.tmps) = true) {li lj lm : List Bool} (hli : listed.set i true = li) (hlj : listed.set j true = lj) (hlm : listed.set m true = lm)
    (h1 : Step P Q free l W fuel L li a w oi) (h2 : Step P Q free l W fuel L lj a w oj) (h3 : Step P Q free l W fuel L lm a w om) : Reg P Q free l W (fuel + 1) L listed a w := by
  subst hli; subst hlj; subst hlm
  unfold Reg wpAnyG
  refine ⟨fun h0 => (by rw [hr] at h0; cases h0), fun k hk => ?_⟩
  rw [hr] at hk
  simp only [List.mem_cons, List.not_mem_nil, or_false] at hk
  rw [nth_eq] at hi hj hm
  unfold wpOp
  rcases hk with rfl | rfl | rfl
  · simp only [hi]
    rw [if_pos hwi]
    refine .inl (h1 _ fun a' w' L' h1 h2 h3 => ⟨fun u => Sat W u L', h1, fun _ => h2, ?_⟩)
    simpa [Reg] using h3
  · simp only [hj]
    rw [if_pos hwj]
    refine .inl (h2 _ fun a' w' L' h1 h2 h3 => ⟨fun u => Sat W u L', h1, fun _ => h2, ?_⟩)
    simpa [Reg] using h3
  · simp only [hm]
    rw [if_pos hwm]
    refine .inl (h3 _ fun a' w' L' h1 h2 h3 => ⟨fun u => Sat W u L', h1, fun _ => h2, ?_⟩)
    simpa [Reg] using h3
/-- Branches that end alike go on together; the first one tells how they end. -/
theorem regJoin {C : Prop} {α1 α2 α3 α4 α5 α6 : Type} (R : α1 → α2 → α3 → α4 → α5 → α6 → World → Prop) (LJ : List Asrt) {A : α1 → α2 → α3 → α4 → α5 → α6 → Act} {lst : List Bool} {fl : Nat}
    (h1 : (∀ x1 x2 x3 x4 x5 x6 w', R x1 x2 x3 x4 x5 x6 w' → Reg P Q free l W fl LJ lst (A x1 x2 x3 x4 x5 x6) w') → C → Reg P Q free l W fuel L listed a w)
    (h2 : ∀ x1 x2 x3 x4 x5 x6 w', R x1 x2 x3 x4 x5 x6 w' → Reg P Q free l W fl LJ lst (A x1 x2 x3 x4 x5 x6) w') : C → Reg P Q free l W fuel L listed a w := h1 h2
theorem tb_E {α : Type} (E E' sz : Nat) (f : α → List Value) (v : Value) (xs : List α) : Tb E sz f v xs = Tb E' sz f v xs := by unfold Tb; rw [sl_E E E']
end
end Go.Sep
