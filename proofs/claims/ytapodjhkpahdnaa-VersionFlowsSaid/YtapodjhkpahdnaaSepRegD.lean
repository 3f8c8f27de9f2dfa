/-
  A drawn region's loads: an act that waits for them by way of more steps.
-/
import Derived.Test.YtapodjhkpahdnaaSepReg
namespace Go.Sep
open Go
section
variable {P : Program} {W : World} {L L' : List Asrt} {Q : Exit → Act → World → Prop} {free : List Nat} {l : List Oper} {fuel : Nat} {listed : List Bool} {a : Act} {w : World}
def waitsD (l : List Oper) (free : List Nat) (listed : List Bool) (i : Nat) : Bool :=
  free.all fun j => j == i || listed.toArray.getD j true || awaits .any l.toArray 12 j i
theorem regRD (i : Nat) (hS : Sat W w L') (hL : ∀ u, Sat W u L' → Sat W u L) {oi : Oper} (hi : nth l i = some oi) (hs : Region.noSelect l.toArray = true) (hf : Region.free .any l.toArray listed.toArray i = true)
    (hr : (Region.ready .any l.toArray listed.toArray).contains i = true) (hc : closedB .any l.toArray listed.toArray = true) (hn : waitsD l free listed i = true)
    (hQ : ∀ v c a w, Q (.panic c) (a.put oi.dst v) w → Q (.panic c) a w)
    (hw : Region.wanted oi (yielded l.toArray a.tmps) = true) {listed' : List Bool} (hl : listed.set i true = listed')
    (h : ∃ v, (∀ u, Sat W u L → (execOp a.eval oi).run P u = .ok (.value v) u) ∧ Reg P Q free l W fuel L listed' (a.put oi.dst v) w) : Reg P Q free l W (fuel + 1) L listed a w := by
  subst hl
  rw [nth_eq] at hi
  obtain ⟨v, hy, h⟩ := h
  refine wpAnyG_first (N := 12) hi (Region.noSelect_spec hs) (hQ v) fuel _ _ a w (closed_of hc) (Region.free_spec hi hf) (fun j hji hj hun => ?_) (by simpa using hr) (.inl ⟨hw, hy⟩) (hL w hS) (by simpa [Reg] using h)
  unfold waitsD at hn
  have := List.all_eq_true.1 hn j (by simpa using hj)
  simp only [Bool.or_eq_true, beq_iff_eq, hun, hji, Bool.false_eq_true, false_or] at this
  exact this
end
end Go.Sep
