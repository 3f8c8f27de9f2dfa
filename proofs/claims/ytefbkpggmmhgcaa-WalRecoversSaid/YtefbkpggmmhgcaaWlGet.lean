/-
  Numbers out of bytes, in place or not.
-/
import Derived.Test.YtefbkpggmmhgcaaWireRef
import Derived.Test.YtefbkpggmmhgcaaWireRefNo
import Derived.OwnWalk
namespace Go.Proofs.Ytefbkpggmmhgcaa
open Go.RowKit Go.Sep
set_option linter.unusedSimpArgs false
set_option linter.unusedVariables false
attribute [local irreducible] Go.Oper.wp Go.wpList Go.Calls Go.Code.wp Go.Sep.Reg
def getN (b : List UInt8) (t n : Nat) : Nat := if t + n ≤ b.length then un ((b.drop t).take n) else 0
theorem getN_any {W w : World} {L : List Asrt} (hS : Sat W w L) (ao : Option Addr) (c : Nat) (l : List UInt8) (hr : ∀ w, Sat W w L → Rd w (.slice ao l.length c) l.length 1 (bv l)) (a : Int) (t n : Nat) (ha : a = (t : Nat)) (hn : 1 ≤ n) (hn2 : n ≤ 7) (hl : l.length ≤ 140737488355328) :
    Calls Try.prog 35 #[.slice ao l.length c, .int .i64 a, .int .i64 n] w fun e w' => ∃ ok, e = .returned (.tuple #[.int .i64 (getN l t n : Nat), .bool ok]) ∧ w = w' := by
  subst ha
  unfold getN
  by_cases h : t + n ≤ l.length
  · rw [if_pos h]
    exact (get_ok hS ao c l hr t n hn hn2 h hl).mono fun e w' ⟨h1, h2⟩ => ⟨_, h1, h2⟩
  · rw [if_neg h]
    exact (get_no w ao l.length c t n (by omega) (by omega)).mono fun e w' ⟨h1, h2⟩ => ⟨_, h1, h2⟩
theorem ref_getN_any {W w : World} {L : List Asrt} (hS : Sat W w L) (ao : Option Addr) (c : Nat) (l : List UInt8) (hr : ∀ w, Sat W w L → Rd w (.slice ao l.length c) l.length 1 (bv l)) (a : Int) (t n : Nat) (ha : a = (t : Nat)) (hn : 1 ≤ n) (hn2 : n ≤ 7) (hl : l.length ≤ 140737488355328) :
    Calls Try.prog 49 #[.slice ao l.length c, .int .i64 a, .int .i64 n] w fun e w' => ∃ ok, e = .returned (.tuple #[.int .i64 (getN l t n : Nat), .bool ok]) ∧ w = w' := by
  subst ha
  unfold getN
  by_cases h : t + n ≤ l.length
  · rw [if_pos h]
    exact (ref_get_ok hS ao c l hr t n hn hn2 h hl).mono fun e w' ⟨h1, h2⟩ => ⟨_, h1, h2⟩
  · rw [if_neg h]
    exact (ref_get_no w ao l.length c t n (by omega) (by omega)).mono fun e w' ⟨h1, h2⟩ => ⟨_, h1, h2⟩
theorem un_lt_pow (l : List UInt8) {n : Nat} (h : l.length ≤ n) : un l < 256 ^ n := Nat.lt_of_lt_of_le (un_lt l) (Nat.pow_le_pow_right (by decide) h)
theorem getN_lt (b : List UInt8) (t n : Nat) : getN b t n < 256 ^ n := by
  unfold getN
  split
  · exact un_lt_pow _ (List.length_take_le _ _)
  · exact Nat.pow_pos (by decide)
end Go.Proofs.Ytefbkpggmmhgcaa
