/-
  The document's graph: edges as truths (plain).
-/
import Derived.Test.YtpnbdnfgdiakhaaGreatMQue
import Derived.Test.YtpnbdnfgdiakhaaGreatMGrd
import Derived.Test.YtpnbdnfgdiakhaaGreatMReg
namespace Go.Proofs.YtpnbdnfgdiakhaaGreat
open Go.RowKit Go.Sep
set_option linter.unusedSimpArgs false
set_option linter.unusedVariables false
attribute [local irreducible] Go.Oper.wp Go.wpList Go.Calls Go.Code.wp Go.Sep.Reg
attribute [local irreducible] IsG
theorem has_nat {G : Gr} {a b : Nat} : G.has ((a : Int), (b : Int)) = decide ((a, b) ∈ G.E) := by
  unfold Gr.has
  rw [Bool.eq_iff_iff, List.any_eq_true, decide_eq_true_eq]
  constructor
  · rintro ⟨⟨x, y⟩, h1, h2⟩
    simp only [Bool.and_eq_true, decide_eq_true_eq] at h2
    obtain ⟨rfl, rfl⟩ : x = a ∧ y = b := ⟨by omega, by omega⟩
    exact h1
  · intro h
    exact ⟨(a, b), h, by simp⟩
def upsT (G : Gr) (n i : Nat) : List Nat := (List.range i).filter fun k => decide ((n, k) ∈ G.E)
theorem upsT_next (G : Gr) (n i : Nat) : upsT G n (i + 1) = upsT G n i ++ (if (n, i) ∈ G.E then [i] else []) := by
  unfold upsT
  rw [List.range_succ, List.filter_append]
  congr 1
  split
  · rename_i h; simp [h]
  · rename_i h; simp [h]
theorem upsT_len (G : Gr) (n i : Nat) : (upsT G n i).length ≤ i := by
  have := List.length_filter_le (fun k => decide ((n, k) ∈ G.E)) (List.range i)
  simpa [upsT] using this
end Go.Proofs.YtpnbdnfgdiakhaaGreat
