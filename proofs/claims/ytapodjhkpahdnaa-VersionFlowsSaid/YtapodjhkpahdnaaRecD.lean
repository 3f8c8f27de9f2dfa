/-
  Records: their cells.
-/
import Derived.Test.YtapodjhkpahdnaaSepMore
namespace Go.Proofs.Ytapodjhkpahdnaa
open Go.Sep
set_option linter.unusedSimpArgs false
set_option linter.unusedVariables false
structure RecD where
  k : Int
  a : Int
  b : Int
instance : DecidableEq RecD := fun x y => if h : x.k = y.k ∧ x.a = y.a ∧ x.b = y.b then isTrue (by cases x; cases y; simp_all) else isFalse (fun e => by subst e; exact h ⟨rfl, rfl, rfl⟩)
def rv (x : RecD) : List Value := [.int .i64 x.k, .int .i64 x.a, .int .i64 x.b]
theorem rv_len (l : List RecD) : ∀ x ∈ l, (rv x).length = 3 := fun _ _ => rfl
theorem rv_all (x : RecD) : ∀ u ∈ rv x, u.oneCell' = true := fun u hu => by
  simp only [rv, List.mem_cons, List.not_mem_nil, or_false] at hu
  rcases hu with rfl | rfl | rfl <;> rfl
theorem rv_one (l : List RecD) : ∀ u ∈ l.flatMap rv, u.oneCell' = true := fun u hu => by
  obtain ⟨x, _, hu⟩ := List.mem_flatMap.1 hu
  exact rv_all x u hu
end Go.Proofs.Ytapodjhkpahdnaa
