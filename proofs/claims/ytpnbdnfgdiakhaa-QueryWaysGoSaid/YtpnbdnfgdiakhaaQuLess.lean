/-
  The law's less: the order of words.
-/
import Derived.Test.YtpnbdnfgdiakhaaQuGoP
import Derived.Test.YtpnbdnfgdiakhaaMQuf
namespace Go.Proofs.Ytpnbdnfgdiakhaa
open Go.RowKit Go.Sep
set_option linter.unusedSimpArgs false
set_option linter.unusedVariables false
attribute [local irreducible] Go.Oper.wp Go.wpList Go.Calls Go.Code.wp Go.Sep.Reg
attribute [local irreducible] IsG
set_option maxRecDepth 20000 in
theorem less_any {W w : World} {L : List Asrt} (hS : Sat W w L) (x y : List Nat) (ao bo : Option Addr) (c d : Nat) (h1 : ∀ w, Sat W w L → Rd w (.slice ao x.length c) x.length 1 (iv x)) (h2 : ∀ w, Sat W w L → Rd w (.slice bo y.length d) y.length 1 (iv y)) (hx : x.length ≤ 1000000) (hy : y.length ≤ 1000000) :
    Calls Try.prog 25 #[.slice ao x.length c, .slice bo y.length d] w fun e w' => e = .returned (.bool (lx x y)) ∧ Sat W w' L := by
  have HR1 := Lib.hid h1
  have HR2 := Lib.hid h2
  obtain ⟨_, _, he, hc1, hc2, _, h5⟩ := h1 w hS
  simp only [Value.slice.injEq, true_and] at he
  obtain ⟨rfl, rfl⟩ := he
  obtain ⟨_, _, he, hd1, hd2, _, h6⟩ := h2 w hS
  simp only [Value.slice.injEq, true_and] at he
  obtain ⟨rfl, rfl⟩ := he
  have H5 := Lib.hid h5
  have H6 := Lib.hid h6
  have H0 := Lib.hid hS
  obtain ⟨r, hr⟩ : ∃ r, lx x y = r := ⟨_, rfl⟩
  rw [hr]
  have HR := Lib.hid hr
  clear h1 h2 h5 h6 hr
  go_enter Try.func25, Try.ntmps25
  go_wp2
  go_loopw [5] (fun v wz => ∃ i : Nat, v = .int .i64 i ∧ i ≤ x.length ∧ i ≤ y.length ∧ lx (x.drop i) (y.drop i) = r ∧ Sat W wz L) (fun v _ => x.length - (intOf v).toNat)
  case atStart => exact ⟨0, rfl, by omega, by omega, HR.out, H0.out⟩
  case round =>
    clear hS H0 HR
    obtain ⟨i, rfl, hi, hj, hr, hS⟩ := hrel
    by_cases hf : i < x.length ∧ i < y.length
    · have i1 : (i : Int) < (x.length : Int) := by omega
      have i2 : (i : Int) < (y.length : Int) := by omega
      have i3 : decide ((i : Int) < (x.length : Int)) = true := decide_eq_true i1
      have i4 : decide ((i : Int) < (y.length : Int)) = true := decide_eq_true i2
      obtain ⟨a, ha⟩ : ∃ a, x[i]? = some a := ⟨_, List.getElem?_eq_getElem hf.1⟩
      obtain ⟨b, hb⟩ : ∃ b, y[i]? = some b := ⟨_, List.getElem?_eq_getElem hf.2⟩
      rw [lx_step ha hb] at hr
      have HX := Lib.hid (iv_at ha)
      have HY := Lib.hid (iv_at hb)
      obtain ⟨ba, oa, rfl, _⟩ := H5.out (by omega)
      obtain ⟨bb, ob, rfl, _⟩ := H6.out (by omega)
      have HL := Lib.hid hf
      clear ha hb hf
      by_cases hab : a = b
      · subst hab
        rw [if_pos rfl] at hr
        have HR := Lib.hid hr
        have e1 : ((a : Int) == (a : Int)) = true := beq_self_eq_true _
        have e2 : (a == a) = true := beq_self_eq_true _
        clear hr
        go_wp2
        refine regStart [] hS (by kernel_rfl) rfl ?_
        intro w1 hS1
        clear hS; have hS := hS1; clear hS1
        (refine regP 0 hS (fun _ h => h) rfl (by kernel_rfl) (by kernel_rfl) (by kernel_rfl) (fun _ _ _ _ h => h) (by rfl) (by rfl) ?_; apply Exists.intro; apply And.intro; (intro w; go_simp; try with_reducible rfl); go_frame)
        (refine regP 1 hS (fun _ h => h) rfl (by kernel_rfl) (by kernel_rfl) (by kernel_rfl) (fun _ _ _ _ h => h) (by rfl) (by rfl) ?_; apply Exists.intro; apply And.intro; (intro w; go_simp; try with_reducible rfl); go_frame)
        (refine regP 2 hS (fun _ h => h) rfl (by kernel_rfl) (by kernel_rfl) (by kernel_rfl) (fun _ _ _ _ h => h) (by rfl) (by rfl) ?_; apply Exists.intro; apply And.intro; (intro w; go_simp; try with_reducible rfl); go_frame)
        (refine regR 3 hS (fun _ h => h) rfl (by kernel_rfl) (by kernel_rfl) (by kernel_rfl) (by kernel_rfl) (by kernel_rfl) (fun _ _ _ _ h => h) (by rfl) (by rfl) ?_; ((refine ⟨_, fun u hu => (by first | exact rLdRd1 (HR1.out u hu) _ _ (by rfl) _ (by rfl) (agOf (by rfl)) i (by omega) HX.out (by omega) | exact rLdRd1 (HR2.out u hu) _ _ (by rfl) _ (by rfl) (agOf (by rfl)) i (by omega) HY.out (by omega)), ?_⟩)); go_frame)
        (refine regP 4 hS (fun _ h => h) rfl (by kernel_rfl) (by kernel_rfl) (by kernel_rfl) (fun _ _ _ _ h => h) (by rfl) (by rfl) ?_; apply Exists.intro; apply And.intro; (intro w; go_simp; try with_reducible rfl); go_frame)
        (refine regP 5 hS (fun _ h => h) rfl (by kernel_rfl) (by kernel_rfl) (by kernel_rfl) (fun _ _ _ _ h => h) (by rfl) (by rfl) ?_; apply Exists.intro; apply And.intro; (intro w; go_simp; try with_reducible rfl); go_frame)
        (refine regP 6 hS (fun _ h => h) rfl (by kernel_rfl) (by kernel_rfl) (by kernel_rfl) (fun _ _ _ _ h => h) (by rfl) (by rfl) ?_; apply Exists.intro; apply And.intro; (intro w; go_simp; try with_reducible rfl); go_frame)
        (refine regR 7 hS (fun _ h => h) rfl (by kernel_rfl) (by kernel_rfl) (by kernel_rfl) (by kernel_rfl) (by kernel_rfl) (fun _ _ _ _ h => h) (by rfl) (by rfl) ?_; ((refine ⟨_, fun u hu => (by first | exact rLdRd1 (HR1.out u hu) _ _ (by rfl) _ (by rfl) (agOf (by rfl)) i (by omega) HX.out (by omega) | exact rLdRd1 (HR2.out u hu) _ _ (by rfl) _ (by rfl) (agOf (by rfl)) i (by omega) HY.out (by omega)), ?_⟩)); go_frame)
        (refine regP 8 hS (fun _ h => h) rfl (by kernel_rfl) (by kernel_rfl) (by kernel_rfl) (fun _ _ _ _ h => h) (by rfl) (by rfl) ?_; apply Exists.intro; apply And.intro; (intro w; go_simp; try with_reducible rfl); go_frame)
        refine regDone (by kernel_rfl) ?_
        go_wp2
        exact ⟨⟨i + 1, by go_num, HL.out.1, HL.out.2, HR.out, hS⟩, by simp [intOf]; have := HL.out; omega⟩
      · rw [if_neg hab] at hr
        have HR := Lib.hid hr
        have e1 : ((a : Int) == (b : Int)) = false := beq_eq_false_iff_ne.2 (by omega)
        have e2 : (a == b) = false := beq_eq_false_iff_ne.2 hab
        have e3 : ¬ (a : Int) = (b : Int) := by omega
        clear hr
        go_wp2
        refine regStart [] hS (by kernel_rfl) rfl ?_
        intro w1 hS1
        clear hS; have hS := hS1; clear hS1
        (refine regP 0 hS (fun _ h => h) rfl (by kernel_rfl) (by kernel_rfl) (by kernel_rfl) (fun _ _ _ _ h => h) (by rfl) (by rfl) ?_; apply Exists.intro; apply And.intro; (intro w; go_simp; try with_reducible rfl); go_frame)
        (refine regP 1 hS (fun _ h => h) rfl (by kernel_rfl) (by kernel_rfl) (by kernel_rfl) (fun _ _ _ _ h => h) (by rfl) (by rfl) ?_; apply Exists.intro; apply And.intro; (intro w; go_simp; try with_reducible rfl); go_frame)
        (refine regP 2 hS (fun _ h => h) rfl (by kernel_rfl) (by kernel_rfl) (by kernel_rfl) (fun _ _ _ _ h => h) (by rfl) (by rfl) ?_; apply Exists.intro; apply And.intro; (intro w; go_simp; try with_reducible rfl); go_frame)
        (refine regR 3 hS (fun _ h => h) rfl (by kernel_rfl) (by kernel_rfl) (by kernel_rfl) (by kernel_rfl) (by kernel_rfl) (fun _ _ _ _ h => h) (by rfl) (by rfl) ?_; ((refine ⟨_, fun u hu => (by first | exact rLdRd1 (HR1.out u hu) _ _ (by rfl) _ (by rfl) (agOf (by rfl)) i (by omega) HX.out (by omega) | exact rLdRd1 (HR2.out u hu) _ _ (by rfl) _ (by rfl) (agOf (by rfl)) i (by omega) HY.out (by omega)), ?_⟩)); go_frame)
        (refine regP 4 hS (fun _ h => h) rfl (by kernel_rfl) (by kernel_rfl) (by kernel_rfl) (fun _ _ _ _ h => h) (by rfl) (by rfl) ?_; apply Exists.intro; apply And.intro; (intro w; go_simp; try with_reducible rfl); go_frame)
        (refine regP 5 hS (fun _ h => h) rfl (by kernel_rfl) (by kernel_rfl) (by kernel_rfl) (fun _ _ _ _ h => h) (by rfl) (by rfl) ?_; apply Exists.intro; apply And.intro; (intro w; go_simp; try with_reducible rfl); go_frame)
        (refine regP 6 hS (fun _ h => h) rfl (by kernel_rfl) (by kernel_rfl) (by kernel_rfl) (fun _ _ _ _ h => h) (by rfl) (by rfl) ?_; apply Exists.intro; apply And.intro; (intro w; go_simp; try with_reducible rfl); go_frame)
        (refine regR 7 hS (fun _ h => h) rfl (by kernel_rfl) (by kernel_rfl) (by kernel_rfl) (by kernel_rfl) (by kernel_rfl) (fun _ _ _ _ h => h) (by rfl) (by rfl) ?_; ((refine ⟨_, fun u hu => (by first | exact rLdRd1 (HR1.out u hu) _ _ (by rfl) _ (by rfl) (agOf (by rfl)) i (by omega) HX.out (by omega) | exact rLdRd1 (HR2.out u hu) _ _ (by rfl) _ (by rfl) (agOf (by rfl)) i (by omega) HY.out (by omega)), ?_⟩)); go_frame)
        (refine regP 8 hS (fun _ h => h) rfl (by kernel_rfl) (by kernel_rfl) (by kernel_rfl) (fun _ _ _ _ h => h) (by rfl) (by rfl) ?_; apply Exists.intro; apply And.intro; (intro w; go_simp; try with_reducible rfl); go_frame)
        refine regDone (by kernel_rfl) ?_
        go_wp2
        refine regStart [] hS (by kernel_rfl) rfl ?_
        intro w1 hS1
        clear hS; have hS := hS1; clear hS1
        (refine regP 0 hS (fun _ h => h) rfl (by kernel_rfl) (by kernel_rfl) (by kernel_rfl) (fun _ _ _ _ h => h) (by rfl) (by rfl) ?_; apply Exists.intro; apply And.intro; (intro w; go_simp; try with_reducible rfl); go_frame)
        (refine regP 1 hS (fun _ h => h) rfl (by kernel_rfl) (by kernel_rfl) (by kernel_rfl) (fun _ _ _ _ h => h) (by rfl) (by rfl) ?_; apply Exists.intro; apply And.intro; (intro w; go_simp; try with_reducible rfl); go_frame)
        (refine regP 2 hS (fun _ h => h) rfl (by kernel_rfl) (by kernel_rfl) (by kernel_rfl) (fun _ _ _ _ h => h) (by rfl) (by rfl) ?_; apply Exists.intro; apply And.intro; (intro w; go_simp; try with_reducible rfl); go_frame)
        (refine regR 3 hS (fun _ h => h) rfl (by kernel_rfl) (by kernel_rfl) (by kernel_rfl) (by kernel_rfl) (by kernel_rfl) (fun _ _ _ _ h => h) (by rfl) (by rfl) ?_; ((refine ⟨_, fun u hu => (by first | exact rLdRd1 (HR1.out u hu) _ _ (by rfl) _ (by rfl) (agOf (by rfl)) i (by omega) HX.out (by omega) | exact rLdRd1 (HR2.out u hu) _ _ (by rfl) _ (by rfl) (agOf (by rfl)) i (by omega) HY.out (by omega)), ?_⟩)); go_frame)
        (refine regP 4 hS (fun _ h => h) rfl (by kernel_rfl) (by kernel_rfl) (by kernel_rfl) (fun _ _ _ _ h => h) (by rfl) (by rfl) ?_; apply Exists.intro; apply And.intro; (intro w; go_simp; try with_reducible rfl); go_frame)
        (refine regP 5 hS (fun _ h => h) rfl (by kernel_rfl) (by kernel_rfl) (by kernel_rfl) (fun _ _ _ _ h => h) (by rfl) (by rfl) ?_; apply Exists.intro; apply And.intro; (intro w; go_simp; try with_reducible rfl); go_frame)
        (refine regP 6 hS (fun _ h => h) rfl (by kernel_rfl) (by kernel_rfl) (by kernel_rfl) (fun _ _ _ _ h => h) (by rfl) (by rfl) ?_; apply Exists.intro; apply And.intro; (intro w; go_simp; try with_reducible rfl); go_frame)
        (refine regR 7 hS (fun _ h => h) rfl (by kernel_rfl) (by kernel_rfl) (by kernel_rfl) (by kernel_rfl) (by kernel_rfl) (fun _ _ _ _ h => h) (by rfl) (by rfl) ?_; ((refine ⟨_, fun u hu => (by first | exact rLdRd1 (HR1.out u hu) _ _ (by rfl) _ (by rfl) (agOf (by rfl)) i (by omega) HX.out (by omega) | exact rLdRd1 (HR2.out u hu) _ _ (by rfl) _ (by rfl) (agOf (by rfl)) i (by omega) HY.out (by omega)), ?_⟩)); go_frame)
        (refine regP 8 hS (fun _ h => h) rfl (by kernel_rfl) (by kernel_rfl) (by kernel_rfl) (fun _ _ _ _ h => h) (by rfl) (by rfl) ?_; apply Exists.intro; apply And.intro; (intro w; go_simp; try with_reducible rfl); go_frame)
        (refine regP 9 hS (fun _ h => h) rfl (by kernel_rfl) (by kernel_rfl) (by kernel_rfl) (fun _ _ _ _ h => h) (by rfl) (by rfl) ?_; apply Exists.intro; apply And.intro; (intro w; go_simp; try with_reducible rfl); go_frame)
        refine regDone (by kernel_rfl) ?_
        go_wp2
        go_ret
        have e4 : decide ((a : Int) < (b : Int)) = r := by rw [← HR.out]; congr 1; exact propext ⟨fun h => by omega, fun h => by omega⟩
        refine ⟨?_, hS⟩
        first | rw [e4] | (rw [← e4]; rfl) | simp [← HR.out]
    · rw [lx_end hf hi hj] at hr
      have HR := Lib.hid hr
      have i3 : (decide ((i : Int) < (x.length : Int)) && decide ((i : Int) < (y.length : Int))) = false := by simp; omega
      by_cases hxl : i < x.length
      · have i1 : (i : Int) < (x.length : Int) := by omega
        have i2 : ¬ (i : Int) < (y.length : Int) := by omega
        clear hr hf
        go_wp2
        go_ret
        have e4 : decide ((x.length : Int) < (y.length : Int)) = r := by rw [← HR.out]; congr 1; exact propext ⟨fun h => by omega, fun h => by omega⟩
        refine ⟨?_, hS⟩
        first | rw [e4] | (rw [← e4]; rfl) | simp [← HR.out]
      · have i1 : ¬ (i : Int) < (x.length : Int) := by omega
        clear hr hf
        go_wp2
        go_ret
        have e4 : decide ((x.length : Int) < (y.length : Int)) = r := by rw [← HR.out]; congr 1; exact propext ⟨fun h => by omega, fun h => by omega⟩
        refine ⟨?_, hS⟩
        first | rw [e4] | (rw [← e4]; rfl) | simp [← HR.out]
end Go.Proofs.Ytpnbdnfgdiakhaa
