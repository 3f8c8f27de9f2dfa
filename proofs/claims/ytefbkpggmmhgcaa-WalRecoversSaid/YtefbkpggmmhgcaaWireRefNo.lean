/-
  pedigreeref04.Get: where there is none.
-/
import Derived.Test.YtefbkpggmmhgcaaWireRef
namespace Go.Proofs.Ytefbkpggmmhgcaa
open Go.RowKit Go.Sep
set_option linter.unusedSimpArgs false
set_option linter.unusedVariables false
attribute [local irreducible] Go.Oper.wp Go.wpList Go.Calls Go.Code.wp Go.Sep.Reg
set_option maxRecDepth 20000 in
theorem ref_get_no (w : World) (ao : Option Addr) (m c : Nat) (at_ n : Int) (h : n < 1 ∨ 7 < n ∨ at_ < 0 ∨ (m : Int) < at_ ∨ (m : Int) - at_ < n) (hm : (m : Int) ≤ 9223372036854775807) :
    Calls Try.prog 49 #[.slice ao m c, .int .i64 at_, .int .i64 n] w fun e w' => e = .returned (.tuple #[.int .i64 0, .bool false]) ∧ w = w' := by
  by_cases h1 : n < 1
  · go_enter Try.func49, Try.ntmps49
    go_wp2
    go_ret2
    exact ⟨rfl, rfl⟩
  by_cases h2 : 7 < n
  · have g1 : 1 ≤ n := by omega
    clear h h1
    go_enter Try.func49, Try.ntmps49
    go_wp2
    go_ret2
    exact ⟨rfl, rfl⟩
  by_cases h3 : at_ < 0
  · have g1 : 1 ≤ n := by omega
    have g2 : n ≤ 7 := by omega
    clear h h1 h2
    go_enter Try.func49, Try.ntmps49
    go_wp2
    go_ret2
    exact ⟨rfl, rfl⟩
  obtain ⟨t, rfl⟩ := Int.eq_ofNat_of_zero_le (show 0 ≤ at_ by omega)
  by_cases h4 : (m : Int) < (t : Int)
  · have g1 : 1 ≤ n := by omega
    have g2 : n ≤ 7 := by omega
    clear h h1 h2 h3
    go_enter Try.func49, Try.ntmps49
    go_wp2
    go_ret2
    exact ⟨rfl, rfl⟩
  · have g1 : 1 ≤ n := by omega
    have g2 : n ≤ 7 := by omega
    have g3 : (t : Int) ≤ (m : Int) := by omega
    have g4 : (m : Int) - (t : Int) < n := by omega
    clear h h1 h2 h3 h4
    go_enter Try.func49, Try.ntmps49
    go_wp2
    go_ret2
    exact ⟨rfl, rfl⟩
end Go.Proofs.Ytefbkpggmmhgcaa
