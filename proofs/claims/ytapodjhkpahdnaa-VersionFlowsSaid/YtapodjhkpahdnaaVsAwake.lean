/-
  Versions: the document's example (pedigreelaw17.awake).
-/
import Derived.Test.YtapodjhkpahdnaaVsBoth
import Derived.Test.YtapodjhkpahdnaaVsLine
namespace Go.Proofs.Ytapodjhkpahdnaa
open Go.RowKit Go.Sep
set_option linter.unusedSimpArgs false
set_option linter.unusedVariables false
attribute [local irreducible] Go.Oper.wp Go.wpList Go.Calls Go.Code.wp Go.Sep.Reg
attribute [local irreducible] IsG IsK IsQ IsR
set_option maxRecDepth 20000 in
set_option maxHeartbeats 1000000 in
theorem awake_any {W w : World} {L : List Asrt} (hS : Sat W w L) :
    Calls Try.prog 16 #[] w fun e w' => e = .returned (.bool true) ∧ Sat W w' L := by
  have HB1 := Lib.hid (fun p g w (L : List Asrt) (h : Sat W w (IsK p g KD.new :: IsG g Gr.new :: L)) => kborn_any (K := KD.new) h KD.new_ok (by decide) 1 1)
  have HB2 := Lib.hid (fun p g w (L : List Asrt) (h : Sat W w (IsK p g (KD.new.born 1 1) :: IsG g (KD.new.born 1 1).G :: L)) => kborn_any h (KD.new_ok.born 1 1) (by decide) 2 2)
  have HF1 := Lib.hid (fun p g w (L : List Asrt) (h : Sat W w (IsK p g (KD.line 0) :: IsG g (KD.line 0).G :: L)) => by
    have := kflow_any h line_ok0 (by decide) 0 1
    rw [line_step0.1, line_step0.2.1] at this
    exact this)
  have HF2 := Lib.hid (fun p g w (L : List Asrt) (h : Sat W w (IsK p g (KD.line 1) :: IsG g (KD.line 1).G :: L)) => by
    have := kflow_any h line_ok1 (by decide) 1 0
    have e1 : (KD.line 1).flowE 1 0 = 0 := (line_step (Nat.le_refl 1) (by decide) line_one).1
    have e2 : (KD.line 1).flowI 1 0 = 2 := (line_step (Nat.le_refl 1) (by decide) line_one).2.1
    rw [e1, e2] at this
    exact this)
  have HR := Lib.hid (show (KD.line 2).R.length = 6 from (line_step (Nat.le_refl 1) (by decide) line_one).2.2.r)
  have HI1 := Lib.hid (show KD.new.G.addI 1 1 = 0 ∧ KD.new.G.addE 1 1 = 0 from ⟨rfl, rfl⟩)
  have HI2 := Lib.hid (show (KD.new.born 1 1).G.addI 2 2 = 1 ∧ (KD.new.born 1 1).G.addE 2 2 = 0 from ⟨rfl, rfl⟩)
  rw [HI1.out.1, HI1.out.2] at HB1
  rw [HI2.out.1, HI2.out.2] at HB2
  clear HI1 HI2
  have e0 : (KD.new.born 1 1).born 2 2 = KD.line 0 := rfl
  have e1 : (KD.line 0).flow 0 1 = KD.line 1 := rfl
  have e2 : (KD.line 1).flow 1 0 = KD.line 2 := rfl
  rw [e0] at HB2
  rw [e1] at HF1
  rw [e2] at HF2
  obtain ⟨K0, hK0⟩ : ∃ K, KD.line 0 = K := ⟨_, rfl⟩
  obtain ⟨K1, hK1⟩ : ∃ K, KD.line 1 = K := ⟨_, rfl⟩
  obtain ⟨K2, hK2⟩ : ∃ K, KD.line 2 = K := ⟨_, rfl⟩
  obtain ⟨Kb, hKb⟩ : ∃ K, KD.new.born 1 1 = K := ⟨_, rfl⟩
  rw [hK0, hKb] at HB2
  rw [hKb] at HB1
  rw [hK0, hK1] at HF1
  rw [hK1, hK2] at HF2
  rw [hK2] at HR
  clear hK0 hK1 hK2 hKb e0 e1 e2
  go_enter Try.func16, Try.ntmps16
  go_wp2_with (first
    | (go_at_call 8; refine (knew_any hS).mono ?_; rintro e w1 ⟨p, rfl, g, hS1⟩; clear hS; have hS := hS1; clear hS1)
    | (go_at_call 9; refine (HB1.out _ _ _ _ hS).mono ?_; rintro e w1 ⟨rfl, hS1⟩; clear hS; have hS := hS1; clear hS1)
    | (go_at_call 9; refine (HB2.out _ _ _ _ hS).mono ?_; rintro e w1 ⟨rfl, hS1⟩; clear hS; have hS := hS1; clear hS1)
    | (go_at_call 13; refine (HF1.out _ _ _ _ hS).mono ?_; rintro e w1 ⟨rfl, hS1⟩; clear hS; have hS := hS1; clear hS1)
    | (go_at_call 13; refine (HF2.out _ _ _ _ hS).mono ?_; rintro e w1 ⟨rfl, hS1⟩; clear hS; have hS := hS1; clear hS1)
    | (go_at_call 30; refine (krecords_any hS).mono ?_; rintro e w1 ⟨v1, rfl, hS1⟩; clear hS; have hS := hS1; clear hS1; obtain ⟨a1, c1, rfl, _⟩ := hS.tbShape (k := 0) rfl; rw [HR.out] at *))
  go_ret
  exact ⟨rfl, hS.drop.drop.drop⟩
end Go.Proofs.Ytapodjhkpahdnaa
