/-
  A byte is turned.
-/
import Derived.Test.YtefbkpggmmhgcaaWlAdler
namespace Go.Proofs.Ytefbkpggmmhgcaa
open Go.RowKit Go.Sep
set_option linter.unusedSimpArgs false
set_option linter.unusedVariables false
attribute [local irreducible] Go.Oper.wp Go.wpList Go.Calls Go.Code.wp Go.Sep.Reg
theorem _root_.Go.Sep.Sat.clear {W w : World} {L : List Asrt} (h : Sat W w L) : Sat W w [] := h.map fun _ _ => trivial
def flip (l : List UInt8) (k : Nat) (y : UInt8) : List UInt8 := l.set k ((l[k]?.getD 0) ^^^ y)
theorem flip_len (l : List UInt8) (k : Nat) (y : UInt8) : (flip l k y).length = l.length := by simp [flip]
theorem flip_ne {l : List UInt8} {k : Nat} {y : UInt8} (h : k < l.length) (hy : y ≠ 0) : flip l k y ≠ l := fun e => by
  have := congrArg (·[k]?) e
  simp only [flip, List.getElem?_set_self h, List.getElem?_eq_getElem h, Option.getD_some, Option.some.injEq] at this
  have h2 : l[k] ^^^ (l[k] ^^^ y) = l[k] ^^^ l[k] := by rw [this]
  rw [← UInt8.xor_assoc, UInt8.xor_self, UInt8.zero_xor] at h2
  exact hy h2
theorem flip_set {l : List UInt8} {k : Nat} (y : UInt8) (h : k < l.length) : (bv l).set k (.int .u8 (bits .xor .u8 ((l[k]).toNat : Int) (y.toNat : Int))) = bv (flip l k y) := by
  rw [u8_xor_nat _ _ (UInt8.toNat_lt _) (UInt8.toNat_lt _), ← UInt8.toNat_xor]
  have := bv_set l k (l[k] ^^^ y)
  unfold flip
  rw [List.getElem?_eq_getElem h]
  exact this
end Go.Proofs.Ytefbkpggmmhgcaa
