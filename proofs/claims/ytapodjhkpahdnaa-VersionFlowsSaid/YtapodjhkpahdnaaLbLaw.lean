/-
  A bit.
-/
import Derived.Test.YtapodjhkpahdnaaLbCache
namespace Go.Proofs.Ytapodjhkpahdnaa
open Go.RowKit Go.Sep
set_option linter.unusedSimpArgs false
set_option linter.unusedVariables false
attribute [local irreducible] Go.Oper.wp Go.wpList Go.Calls Go.Code.wp Go.Sep.Reg
/-! ### a bit, as the laws look at it -/
theorem and_one (y k : Nat) (hy : y < 256) : bits .and .i64 ((y : Int) / 2 ^ k) 1 = if y.testBit k then 1 else 0 := by
  have e1 : ((y : Int) / 2 ^ k) = ((y / 2 ^ k : Nat) : Int) := by simp
  rw [e1]
  have hq : y / 2 ^ k < 256 := Nat.lt_of_le_of_lt (Nat.div_le_self _ _) hy
  have h1 : bits .and .i64 ((y / 2 ^ k : Nat) : Int) 1 = (((y / 2 ^ k) &&& 1 : Nat) : Int) := by
    have hx2 : (y / 2 ^ k) &&& 1 ≤ 1 := Nat.and_le_right
    show IntKind.i64.wrap ((BitVec.ofInt 64 ((y / 2 ^ k : Nat) : Int) &&& BitVec.ofInt 64 ((1 : Nat) : Int)).toNat : Int) = _
    rw [BitVec.toNat_and, bv_nat _ hq, bv_nat 1 (by decide), IntWalk.i64_in _ (by omega)]
  rw [h1, Nat.and_one_is_mod, Nat.testBit_eq_decide_div_mod_eq]
  rcases Nat.mod_two_eq_zero_or_one (y / 2 ^ k) with h | h
  · rw [h]; rfl
  · rw [h]; rfl
end Go.Proofs.Ytapodjhkpahdnaa
