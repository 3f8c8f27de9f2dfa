/-
  SameInts.
-/
import Derived.Test.YtapodjhkpahdnaaGrRefR
namespace Go.Proofs.Ytapodjhkpahdnaa
open Go.RowKit Go.Sep
set_option linter.unusedSimpArgs false
set_option linter.unusedVariables false
attribute [local irreducible] Go.Oper.wp Go.wpList Go.Calls Go.Code.wp Go.Sep.Reg
set_option maxRecDepth 20000 in
theorem same_any {W w : World} {L : List Asrt} (hS : Sat W w L) (l : List Nat) (ao bo : Option Addr) (c d : Nat) (h1 : ∀ w, Sat W w L → Rd w (.slice ao l.length c) l.length 1 (iv l)) (h2 : ∀ w, Sat W w L → Rd w (.slice bo l.length d) l.length 1 (iv l)) (hl : l.length ≤ 1000000) :
    Calls Try.prog 26 #[.slice ao l.length c, .slice bo l.length d] w fun e w' => e = .returned (.bool true) ∧ Sat W w' L := by
  have HR1 := Lib.hid h1
  have HR2 := Lib.hid h2
  obtain ⟨_, _, he, hc1, hc2, _, h5⟩ := h1 w hS
  simp only [Value.slice.injEq, true_and] at he
  obtain ⟨rfl, rfl⟩ := he
  obtain ⟨_, _, he, hd1, hd2, _, h6⟩ := h2 w hS
  simp only [Value.slice.injEq, true_and] at he
  obtain ⟨rfl, rfl⟩ := he
  have H5 := Lib.hid h5
  have H6 := Lib.hid h6
  have H0 := Lib.hid hS
  clear h1 h2 h5 h6
  go_enter Try.func26, Try.ntmps26
  go_wp2
  go_loopw [5] (fun v wz => ∃ i : Nat, v = .int .i64 i ∧ i ≤ l.length ∧ Sat W wz L) (fun v _ => l.length - (intOf v).toNat)
  case atStart => exact ⟨0, rfl, by omega, H0.out⟩
  case round =>
    clear hS H0
    obtain ⟨i, rfl, hi, hS⟩ := hrel
    by_cases hf : i < l.length
    · have i1 : (i : Int) < (l.length : Int) := by omega
      obtain ⟨x, hx⟩ : ∃ x, l[i]? = some x := ⟨_, List.getElem?_eq_getElem hf⟩
      have HX := Lib.hid (iv_at hx)
      obtain ⟨ba, oa, rfl, _⟩ := H5.out (by omega)
      obtain ⟨bb, ob, rfl, _⟩ := H6.out (by omega)
      have HL := Lib.hid hf
      clear hx hf
      go_wp2
      refine regStart [] hS (by kernel_rfl) rfl ?_
      intro w1 hS1
      clear hS; have hS := hS1; clear hS1
      (refine regP 0 hS (fun _ h => h) rfl (by kernel_rfl) (by kernel_rfl) (by kernel_rfl) (fun _ _ _ _ h => h) (by rfl) (by rfl) ?_; apply Exists.intro; apply And.intro; (intro w; go_simp; try with_reducible rfl); (simp only [Act.put, List.setIfInBounds_toArray, List.set_cons_zero, List.set_cons_succ]))
      (refine regP 1 hS (fun _ h => h) rfl (by kernel_rfl) (by kernel_rfl) (by kernel_rfl) (fun _ _ _ _ h => h) (by rfl) (by rfl) ?_; apply Exists.intro; apply And.intro; (intro w; go_simp; try with_reducible rfl); (simp only [Act.put, List.setIfInBounds_toArray, List.set_cons_zero, List.set_cons_succ]))
      (refine regP 2 hS (fun _ h => h) rfl (by kernel_rfl) (by kernel_rfl) (by kernel_rfl) (fun _ _ _ _ h => h) (by rfl) (by rfl) ?_; apply Exists.intro; apply And.intro; (intro w; go_simp; try with_reducible rfl); (simp only [Act.put, List.setIfInBounds_toArray, List.set_cons_zero, List.set_cons_succ]))
      (refine regR 3 hS (fun _ h => h) rfl (by kernel_rfl) (by kernel_rfl) (by kernel_rfl) (by kernel_rfl) (by kernel_rfl) (fun _ _ _ _ h => h) (by rfl) (by rfl) ?_; (refine ⟨_, fun u hu => (by first | exact rLdRd1 (HR1.out u hu) _ _ (by rfl) _ (by rfl) (agOf (by rfl)) i (by omega) HX.out (by omega) | exact rLdRd1 (HR2.out u hu) _ _ (by rfl) _ (by rfl) (agOf (by rfl)) i (by omega) HX.out (by omega)), ?_⟩); (simp only [Act.put, List.setIfInBounds_toArray, List.set_cons_zero, List.set_cons_succ]))
      (refine regP 4 hS (fun _ h => h) rfl (by kernel_rfl) (by kernel_rfl) (by kernel_rfl) (fun _ _ _ _ h => h) (by rfl) (by rfl) ?_; apply Exists.intro; apply And.intro; (intro w; go_simp; try with_reducible rfl); (simp only [Act.put, List.setIfInBounds_toArray, List.set_cons_zero, List.set_cons_succ]))
      (refine regP 5 hS (fun _ h => h) rfl (by kernel_rfl) (by kernel_rfl) (by kernel_rfl) (fun _ _ _ _ h => h) (by rfl) (by rfl) ?_; apply Exists.intro; apply And.intro; (intro w; go_simp; try with_reducible rfl); (simp only [Act.put, List.setIfInBounds_toArray, List.set_cons_zero, List.set_cons_succ]))
      (refine regP 6 hS (fun _ h => h) rfl (by kernel_rfl) (by kernel_rfl) (by kernel_rfl) (fun _ _ _ _ h => h) (by rfl) (by rfl) ?_; apply Exists.intro; apply And.intro; (intro w; go_simp; try with_reducible rfl); (simp only [Act.put, List.setIfInBounds_toArray, List.set_cons_zero, List.set_cons_succ]))
      (refine regR 7 hS (fun _ h => h) rfl (by kernel_rfl) (by kernel_rfl) (by kernel_rfl) (by kernel_rfl) (by kernel_rfl) (fun _ _ _ _ h => h) (by rfl) (by rfl) ?_; (refine ⟨_, fun u hu => (by first | exact rLdRd1 (HR1.out u hu) _ _ (by rfl) _ (by rfl) (agOf (by rfl)) i (by omega) HX.out (by omega) | exact rLdRd1 (HR2.out u hu) _ _ (by rfl) _ (by rfl) (agOf (by rfl)) i (by omega) HX.out (by omega)), ?_⟩); (simp only [Act.put, List.setIfInBounds_toArray, List.set_cons_zero, List.set_cons_succ]))
      (refine regP 8 hS (fun _ h => h) rfl (by kernel_rfl) (by kernel_rfl) (by kernel_rfl) (fun _ _ _ _ h => h) (by rfl) (by rfl) ?_; apply Exists.intro; apply And.intro; (intro w; go_simp; try with_reducible rfl); (simp only [Act.put, List.setIfInBounds_toArray, List.set_cons_zero, List.set_cons_succ]))
      refine regDone (by kernel_rfl) ?_
      go_wp2
      exact ⟨⟨i + 1, by go_num, HL.out, hS⟩, by simp [intOf]; have := HL.out; omega⟩
    · have e1 : decide ((i : Int) < (l.length : Int)) = false := decide_eq_false (by omega)
      have e4 : ¬ (i : Int) < (l.length : Int) := by omega
      clear hf
      go_wp2
      go_ret
      exact ⟨rfl, hS⟩
end Go.Proofs.Ytapodjhkpahdnaa
