/-
  The document's tree: Rename.
-/
import Derived.Test.YtiieicdhkcikpaaTrRf10a
import Derived.Test.YtiieicdhkcikpaaTrRf10b
import Derived.Test.YtiieicdhkcikpaaTrRf10c
import Derived.Test.YtiieicdhkcikpaaTrRf10d
import Derived.Test.YtiieicdhkcikpaaTrRf10e
import Derived.Test.YtiieicdhkcikpaaTrRf10f
namespace Go.Proofs.Ytiieicdhkcikpaa
open Go.RowKit Go.Sep
set_option linter.unusedSimpArgs false
set_option linter.unusedVariables false
attribute [local irreducible] Go.Oper.wp Go.wpList Go.Calls Go.Code.wp Go.Sep.Reg
attribute [local irreducible] IsT IsW
theorem rrename_any {W w : World} {L : List Asrt} {p : Nat} {T : TrD} (hS : Sat W w (IsW p T :: L)) (hT : T.Ok) (l to : List (List UInt8)) (ao ao' : Option Addr) (c c' : Nat) (hr : ∀ w L', Sat W w (L' ++ L) → Rd w (.slice ao l.length c) l.length 1 (l.flatMap sv1)) (hl : l.length ≤ 1000000) (hr' : ∀ w L', Sat W w (L' ++ L) → Rd w (.slice ao' to.length c') to.length 1 (to.flatMap sv1)) (hl' : to.length ≤ 1000000) : Calls Try.prog 45 #[.pointer (some ⟨p, 0, none⟩), .slice ao l.length c, .slice ao' to.length c'] w fun r w' => r = .returned (.tuple #[.int .i64 (T.rnX l to : Nat), .int .i64 (T.rnY l to : Nat), .int .i64 (T.rnE l to)]) ∧ Sat W w' (IsW p (T.rn l to) :: L) := by
  by_cases h01 : l = [] ∨ to = []
  · exact rren_empty hS hT l to ao ao' c c' hr hl hr' hl' h01
  have h0 : l ≠ [] := fun e => h01 (.inl e)
  have h1 : to ≠ [] := fun e => h01 (.inr e)
  by_cases herr : nameOk (TrD.lastN to) = false ∨ (T.walk 0 l).2 ≠ 0 ∨ (T.kind (T.walk 0 l).1.toNat = 2 ∧ TrD.under to l = true ∧ l.length < to.length)
  · exact rren_err hS hT l to ao ao' c c' hr hl hr' hl' h0 h1 herr
  have h2 : nameOk (TrD.lastN to) = true := by
    cases h : nameOk (TrD.lastN to) with
    | true => rfl
    | false => exact absurd (.inl h) herr
  have h3 : (T.walk 0 l).2 = 0 := by
    by_cases h : (T.walk 0 l).2 = 0
    · exact h
    · exact absurd (.inr (.inl h)) herr
  have h4 : ¬ (T.kind (T.walk 0 l).1.toNat = 2 ∧ TrD.under to l = true ∧ l.length < to.length) := fun h => herr (.inr (.inr h))
  have hsame : to = l → T.pE to = 0 ∧ findE (T.dir (T.pD to)) (TrD.lastN to) = some (T.walk 0 l).1 := fun e => by
    subst e
    obtain ⟨p1, _, _, _, p5, _⟩ := hT.parent h0 h3
    exact ⟨p1, p5⟩
  by_cases h5 : T.pE to = 0
  · obtain ⟨_, _, hd, _, _⟩ := hT.pE_zero h5
    cases h6 : findE (T.dir (T.pD to)) (TrD.lastN to) with
    | none =>
      have hne : ¬ to = l := fun e => by rw [(hsame e).2] at h6; cases h6
      by_cases h7 : T.pD to ≠ T.pD l ∧ 64 ≤ (T.dir (T.pD to)).length
      · exact rren_full hS hT l to ao ao' c c' hr hl hr' hl' h0 h1 h2 h3 h4 hne h5 h6 h7
      · by_cases hA : T.kind (T.walk 0 l).1.toNat = 2
        · by_cases hB : 64 ≤ (T.dir (T.pD to)).length
          · exact rren_free_d hS hT l to ao ao' c c' hr hl hr' hl' h0 h1 h2 h3 h4 hne h5 h6 h7 hA hB
          · exact rren_free_c hS hT l to ao ao' c c' hr hl hr' hl' h0 h1 h2 h3 h4 hne h5 h6 h7 hA hB
        · by_cases hB : 64 ≤ (T.dir (T.pD to)).length
          · exact rren_free_b hS hT l to ao ao' c c' hr hl hr' hl' h0 h1 h2 h3 h4 hne h5 h6 h7 hA hB
          · exact rren_free_a hS hT l to ao ao' c c' hr hl hr' hl' h0 h1 h2 h3 h4 hne h5 h6 h7 hA hB
    | some y =>
      by_cases h7 : (T.walk 0 l).1 = y
      · exact rren_same hS hT l to ao ao' c c' hr hl hr' hl' h0 h1 h2 h3 h4 h5 (by rw [h6, h7])
      · obtain ⟨_, j1, _⟩ := hT.find_ino hd h6
        obtain ⟨m, rfl⟩ := Int.eq_ofNat_of_zero_le (show 0 ≤ y by omega)
        have hne : ¬ to = l := fun e => by rw [(hsame e).2] at h6; exact h7 (Option.some.inj h6)
        by_cases h8 : (T.kind m = 2 ↔ T.kind (T.walk 0 l).1.toNat = 2) ∧ T.dir m = []
        · by_cases hA : T.kind (T.walk 0 l).1.toNat = 2
          · exact rren_over_e hS hT l to ao ao' c c' hr hl hr' hl' h0 h1 h2 h3 h4 hne h5 h6 h7 h8 hA
          · exact rren_over_f hS hT l to ao ao' c c' hr hl hr' hl' h0 h1 h2 h3 h4 hne h5 h6 h7 h8 hA
        · exact rren_over_err hS hT l to ao ao' c c' hr hl hr' hl' h0 h1 h2 h3 h4 hne h5 h6 h7 h8
  · have hne : ¬ to = l := fun e => h5 (hsame e).1
    exact rren_to hS hT l to ao ao' c c' hr hl hr' hl' h0 h1 h2 h3 h4 hne h5
end Go.Proofs.Ytiieicdhkcikpaa
