/-
  Cut, side by side.
-/
import Derived.Test.YtefbkpggmmhgcaaWlBoth
namespace Go.Proofs.Ytefbkpggmmhgcaa
open Go.RowKit Go.Sep
set_option linter.unusedSimpArgs false
set_option linter.unusedVariables false
attribute [local irreducible] Go.Oper.wp Go.wpList Go.Calls Go.Code.wp Go.Sep.Reg
theorem Rel.cut {D : DiskS} {R : RefS} (h : Rel D R) (n : Int) (h0 : 0 ≤ n) (h1 : n ≤ 9223372036854775807) : Rel { D with left := n } { R with armed := true, left := n } :=
  ⟨h.blocks, h.writes, h.dead, by simp, h0, h1, ⟨h.ok.len, h.ok.base, h.ok.at_⟩⟩
end Go.Proofs.Ytefbkpggmmhgcaa
