/-
  The disk, plain.
-/
import Derived.Test.YtefbkpggmmhgcaaDiskImage
import Derived.Test.YtefbkpggmmhgcaaSepArg
import Derived.Test.YtefbkpggmmhgcaaSepLaw
namespace Go.Proofs.Ytefbkpggmmhgcaa
open Go.RowKit Go.Sep
set_option linter.unusedSimpArgs false
set_option linter.unusedVariables false
attribute [local irreducible] Go.Oper.wp Go.wpList Go.Calls Go.Code.wp Go.Sep.Reg
theorem wrote_len (D : DiskS) (n : Nat) (b : List UInt8) : (D.wrote n b).blocks.length = D.blocks.length := by simp [DiskS.wrote]
theorem wrote_at {D : DiskS} {n : Nat} {b : List UInt8} (h : n < D.blocks.length) : (D.wrote n b).blocks[n]? = some b := by simp [DiskS.wrote, h]
theorem wrote_ne {D : DiskS} {n m : Nat} {b : List UInt8} (h : n ≠ m) : (D.wrote n b).blocks[m]? = D.blocks[m]? := by simp [DiskS.wrote, h]
def pad (l : List UInt8) : List UInt8 := l.take 128 ++ zeros (128 - l.length)
theorem pad_length (l : List UInt8) : (pad l).length = 128 := by simp [pad, zeros]; omega
theorem pad_copyN (N : Nat) (l : List UInt8) : List.take 0 (bv (zeros N)) ++ List.take (min l.length N * 1) (bv l) ++ List.drop (0 + min l.length N * 1) (bv (zeros N)) = bv (l.take N ++ zeros (N - l.length)) := by
  simp only [List.take_zero, List.nil_append, Nat.zero_add, Nat.mul_one]
  rcases Nat.le_total l.length N with h | h
  · rw [Nat.min_eq_left h, List.take_of_length_le (by simp [bv])]
    simp [bv, zeros, List.take_of_length_le h]
  · rw [Nat.min_eq_right h]
    simp [bv, zeros, List.map_take, Nat.sub_eq_zero_of_le h]
theorem pad_copy (l : List UInt8) : List.take 0 (bv (zeros 128)) ++ List.take (min l.length 128 * 1) (bv l) ++ List.drop (0 + min l.length 128 * 1) (bv (zeros 128)) = bv (pad l) := pad_copyN 128 l
end Go.Proofs.Ytefbkpggmmhgcaa
