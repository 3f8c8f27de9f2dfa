/-
  For all numbers, GraphLost answers true: no condition.
-/
import Derived.Test.YtfbphibgcolmbaaGrLostP
namespace Go.Proofs.Ytfbphibgcolmbaa
open Go.RowKit Go.Sep Go.ChangeShapes Go.WideShapes Go.ChangeAt
set_option linter.unusedSimpArgs false
set_option linter.unusedVariables false
attribute [local irreducible] Go.Oper.wp Go.wpList Go.Calls Go.Code.wp Go.Sep.Reg
attribute [local irreducible] IsG
theorem LG_node {k i : Nat} (S : Nat → Bool) (h : i < k) : (LG k S).nodeI (i : Int) = lnode S i := Gr.nodeI_at (by simp [LG, h])
set_option maxRecDepth 20000 in
set_option maxHeartbeats 4000000 in
theorem Lost.walk (n : Int) {aof aot : Option Addr} {lf lt cf ct : Nat} (fl tl : List Int) (W : World) (hfl : fl.length = lf) (htl : tl.length = lt) (hrf : Rd W (.slice aof lf cf) lf 1 (fl.flatMap zv)) (hrt : Rd W (.slice aot lt ct) lt 1 (tl.flatMap zv)) :
    Calls Try.prog 5 #[.int .i64 n, .slice aof lf cf, .slice aot lt ct] W fun e w' => e = .returned (.bool true) ∧ Sat W w' [] := by
  have hS := Sat.start W
  obtain ⟨k0, hk⟩ : ∃ k : Nat, n % 20 = k := ⟨(n % 20).toNat, by omega⟩
  have hk2 : k0 < 20 := by omega
  have HK := Lib.hid hk
  clear hk
  obtain ⟨k, hkk⟩ : ∃ k, k = k0 + 1 := ⟨_, rfl⟩
  have HKK := Lib.hid (show (1 : Int) + (k0 : Int) = (k : Int) by omega)
  have hk3 : (k : Int) ≤ 20 := by omega
  have hk4 : k ≤ 20 := by omega
  have hk1 : (k0 : Int) < 20 := by omega
  clear hkk hk2
  have HFL := Lib.hid hfl
  have HTL := Lib.hid htl
  have HRF := Lib.hid hrf
  have HRT := Lib.hid hrt
  clear hfl htl hrf hrt
  go_enter Try.func5, Try.ntmps5
  go_wp2_with (first
    | (go_at_call 15; refine (place_any n 20 (by decide) (by decide) _).mono ?_; rintro e w1 ⟨rfl, rfl⟩; rw [HK.out])
    | (go_at_call 14; refine (new_any hS).mono ?_; rintro e w1 ⟨p, rfl, hS1⟩; clear hS; have hS := hS1; clear hS1))
  rw [HKK.out]
  clear HKK HK hk1
  have H0 := Lib.hid hS
  go_loopw [9] (fun v wz => ∃ i : Nat, i ≤ k ∧ v = .int .i64 i ∧ Sat W wz [IsG p (LG i fun _ => false)]) (fun v _ => k - (intOf v).toNat)
  case atStart => exact ⟨0, by omega, rfl, H0.out⟩
  case round =>
    clear hS H0
    obtain ⟨i, hi, rfl, hS⟩ := hrel
    by_cases hlt : i < k
    · have i1 : (i : Int) < (k : Int) := by omega
      have HA := Lib.hid (fun w (h : Sat W w [IsG p (LG i fun _ => false)]) => (show Calls Try.prog 17 #[.pointer (some ⟨p, 0, none⟩), .int .i64 2, .int .i64 1] w fun e w' => e = .returned (.tuple #[.int .i64 (i : Int), .int .i64 0]) ∧ Sat W w' [IsG p (LG (i + 1) fun _ => false)] by
        have h1 : (LG i fun _ => false).addOk 2 1 = true := by unfold Gr.addOk; rw [LG_len, decide_eq_true (by omega)]; rfl
        have := add_any h (LG_ok i (by omega)) 2 1
        rw [LG_add i (by omega)] at this
        unfold Gr.addI Gr.addE at this
        rw [h1, if_pos rfl, if_pos (by decide), LG_len, if_pos (by omega)] at this
        exact this))
      go_wp2_with (go_at_call 17; refine (HA.out _ hS).mono ?_; rintro e w1 ⟨rfl, hS1⟩; clear hS; have hS := hS1; clear hS1)
      exact ⟨⟨i + 1, by omega, by go_num, hS⟩, by simp [intOf]; omega⟩
    · obtain rfl : k = i := by omega
      clear hi hlt
      go_wp2_with (refine toList (by rfl) ?_; refine al hS _ (by rfl) (zrOf (by rfl)) ?_; intro pl w1 hS1; clear hS; have hS := hS1; clear hS1; rw [cells_agg] at hS)
      rw [lostC_zero] at hS
      have H0 := Lib.hid hS
      have HOK0 := Lib.hid (LG_ok k (by omega))
      go_loopw [11] (fun v wz => ∃ (i : Nat) (S : Nat → Bool), v = .int .i64 i ∧ i ≤ 10 ∧ Sat W wz [Cs pl 46 (lostC S), IsG p (LG k S)]) (fun v _ => 10 - (intOf v).toNat)
      case atStart => exact ⟨0, fun _ => false, rfl, by omega, H0.out⟩
      case round =>
        clear hS H0 HOK0
        obtain ⟨i, S, rfl, hi, hS⟩ := hrel
        by_cases hf : i < lf
        · have i1 : (i : Int) < (lf : Int) := by omega
          have e1 : decide ((i : Int) < (lf : Int)) = true := decide_eq_true i1
          by_cases ht : i < lt
          · have i2 : (i : Int) < (lt : Int) := by omega
            have e2 : decide ((i : Int) < (lt : Int)) = true := decide_eq_true i2
            by_cases h10 : i < 10
            · have i3 : (i : Int) < 10 := by omega
              have e3 : decide ((i : Int) < 10) = true := decide_eq_true i3
              obtain ⟨x, hx⟩ : ∃ x, fl[i]? = some x := ⟨_, List.getElem?_eq_getElem (by rw [HFL.out]; exact hf)⟩
              obtain ⟨y, hy⟩ : ∃ y, tl[i]? = some y := ⟨_, List.getElem?_eq_getElem (by rw [HTL.out]; exact ht)⟩
              obtain ⟨bf, off, rfl⟩ : ∃ b o, aof = some ⟨b, o, none⟩ := by
                obtain ⟨_, _, he, h1, h2, h3, h5⟩ := HRF.out
                obtain ⟨b', o', h6, _⟩ := h5 (by omega)
                simp only [Value.slice.injEq] at he
                exact ⟨b', o', by rw [he.1, h6]⟩
              obtain ⟨bt, oft, rfl⟩ : ∃ b o, aot = some ⟨b, o, none⟩ := by
                obtain ⟨_, _, he, h1, h2, h3, h5⟩ := HRT.out
                obtain ⟨b', o', h6, _⟩ := h5 (by omega)
                simp only [Value.slice.injEq] at he
                exact ⟨b', o', by rw [he.1, h6]⟩
              have HX : Hid (W.cell? ⟨bf, off + i, none⟩ = some (.int .i64 x)) := Lib.hid (by have := Rd.elem (j := 0) HRF.out (zv_len _) hx rfl (by omega); simpa using this)
              have HY : Hid (W.cell? ⟨bt, oft + i, none⟩ = some (.int .i64 y)) := Lib.hid (by have := Rd.elem (j := 0) HRT.out (zv_len _) hy rfl (by omega); simpa using this)
              obtain ⟨a, ha⟩ : ∃ a : Nat, x % ((k : Int) + 2) = a := ⟨(x % ((k : Int) + 2)).toNat, by have := Int.emod_nonneg x (show (k : Int) + 2 ≠ 0 by omega); omega⟩
              obtain ⟨b, hb⟩ : ∃ b : Nat, y % ((k : Int) + 2) = b := ⟨(y % ((k : Int) + 2)).toNat, by have := Int.emod_nonneg y (show (k : Int) + 2 ≠ 0 by omega); omega⟩
              have ha2 : (a : Int) < (k : Int) + 2 := by rw [← ha]; exact Int.emod_lt_of_pos x (by omega)
              have hb2 : (b : Int) < (k : Int) + 2 := by rw [← hb]; exact Int.emod_lt_of_pos y (by omega)
              have hw : IntKind.i64.wrap ((k : Int) + 2) = (k : Int) + 2 := IntWalk.i64_in _ (by omega)
              have HA : Hid (∀ w, Calls Try.prog 15 #[.int .i64 x, .int .i64 (IntKind.i64.wrap ((k : Int) + 2))] w fun e w' => e = .returned (.int .i64 (a : Int)) ∧ w = w') := Lib.hid fun w => by
                rw [hw, ← ha]; exact place_any x _ (by omega) (by omega) w
              have HB : Hid (∀ w, Calls Try.prog 15 #[.int .i64 y, .int .i64 (IntKind.i64.wrap ((k : Int) + 2))] w fun e w' => e = .returned (.int .i64 (b : Int)) ∧ w = w') := Lib.hid fun w => by
                rw [hw, ← hb]; exact place_any y _ (by omega) (by omega) w
              have HW := Lib.hid hw
              clear hw
              clear hx hy ha hb hf ht h10
              go_wp2
              refine regStart [13] hS (by kernel_rfl) rfl ?_
              intro w1 hS1
              clear hS; have hS := hS1; clear hS1
              (refine regP 0 hS (fun _ h => h) rfl (by kernel_rfl) (by kernel_rfl) (by kernel_rfl) (fun _ _ _ _ h => h) (by rfl) (by rfl) ?_; apply Exists.intro; apply And.intro; (intro w; go_simp; try with_reducible rfl); (simp only [Act.put, List.setIfInBounds_toArray, List.set_cons_zero, List.set_cons_succ]))
              (refine regP 1 hS (fun _ h => h) rfl (by kernel_rfl) (by kernel_rfl) (by kernel_rfl) (fun _ _ _ _ h => h) (by rfl) (by rfl) ?_; apply Exists.intro; apply And.intro; (intro w; go_simp; try with_reducible rfl); (simp only [Act.put, List.setIfInBounds_toArray, List.set_cons_zero, List.set_cons_succ]))
              (refine regP 2 hS (fun _ h => h) rfl (by kernel_rfl) (by kernel_rfl) (by kernel_rfl) (fun _ _ _ _ h => h) (by rfl) (by rfl) ?_; apply Exists.intro; apply And.intro; (intro w; go_simp; try with_reducible rfl); (simp only [Act.put, List.setIfInBounds_toArray, List.set_cons_zero, List.set_cons_succ]))
              (refine regR 3 hS (fun _ h => h) rfl (by kernel_rfl) (by kernel_rfl) (by kernel_rfl) (by kernel_rfl) (by kernel_rfl) (fun _ _ _ _ h => h) (by rfl) (by rfl) ?_; (refine ⟨_, yLdOld _ _ (by rfl) _ _ (by rfl) (agOf (by rfl)) (by first | exact HX.out | exact HY.out), ?_⟩); (simp only [Act.put, List.setIfInBounds_toArray, List.set_cons_zero, List.set_cons_succ]))
              (refine regP 4 hS (fun _ h => h) rfl (by kernel_rfl) (by kernel_rfl) (by kernel_rfl) (fun _ _ _ _ h => h) (by rfl) (by rfl) ?_; apply Exists.intro; apply And.intro; (intro w; go_simp; try with_reducible rfl); (simp only [Act.put, List.setIfInBounds_toArray, List.set_cons_zero, List.set_cons_succ]))
              (refine regP 5 hS (fun _ h => h) rfl (by kernel_rfl) (by kernel_rfl) (by kernel_rfl) (fun _ _ _ _ h => h) (by rfl) (by rfl) ?_; apply Exists.intro; apply And.intro; (intro w; go_simp; try with_reducible rfl); (simp only [Act.put, List.setIfInBounds_toArray, List.set_cons_zero, List.set_cons_succ]))
              (refine regP 7 hS (fun _ h => h) rfl (by kernel_rfl) (by kernel_rfl) (by kernel_rfl) (fun _ _ _ _ h => h) (by rfl) (by rfl) ?_; apply Exists.intro; apply And.intro; (intro w; go_simp; try with_reducible rfl); (simp only [Act.put, List.setIfInBounds_toArray, List.set_cons_zero, List.set_cons_succ]))
              (refine regP 8 hS (fun _ h => h) rfl (by kernel_rfl) (by kernel_rfl) (by kernel_rfl) (fun _ _ _ _ h => h) (by rfl) (by rfl) ?_; apply Exists.intro; apply And.intro; (intro w; go_simp; try with_reducible rfl); (simp only [Act.put, List.setIfInBounds_toArray, List.set_cons_zero, List.set_cons_succ]))
              (refine regP 9 hS (fun _ h => h) rfl (by kernel_rfl) (by kernel_rfl) (by kernel_rfl) (fun _ _ _ _ h => h) (by rfl) (by rfl) ?_; apply Exists.intro; apply And.intro; (intro w; go_simp; try with_reducible rfl); (simp only [Act.put, List.setIfInBounds_toArray, List.set_cons_zero, List.set_cons_succ]))
              (refine regR 10 hS (fun _ h => h) rfl (by kernel_rfl) (by kernel_rfl) (by kernel_rfl) (by kernel_rfl) (by kernel_rfl) (fun _ _ _ _ h => h) (by rfl) (by rfl) ?_; (refine ⟨_, yLdOld _ _ (by rfl) _ _ (by rfl) (agOf (by rfl)) (by first | exact HX.out | exact HY.out), ?_⟩); (simp only [Act.put, List.setIfInBounds_toArray, List.set_cons_zero, List.set_cons_succ]))
              (refine regP 11 hS (fun _ h => h) rfl (by kernel_rfl) (by kernel_rfl) (by kernel_rfl) (fun _ _ _ _ h => h) (by rfl) (by rfl) ?_; apply Exists.intro; apply And.intro; (intro w; go_simp; try with_reducible rfl); (simp only [Act.put, List.setIfInBounds_toArray, List.set_cons_zero, List.set_cons_succ]))
              (refine regP 12 hS (fun _ h => h) rfl (by kernel_rfl) (by kernel_rfl) (by kernel_rfl) (fun _ _ _ _ h => h) (by rfl) (by rfl) ?_; apply Exists.intro; apply And.intro; (intro w; go_simp; try with_reducible rfl); (simp only [Act.put, List.setIfInBounds_toArray, List.set_cons_zero, List.set_cons_succ]))
              (refine regA 6 rfl (by kernel_rfl) (by rfl) (by rfl) false (by kernel_rfl) (fun K hK => ?_); (first
                                            | (refine Go.Sep.cl 15 _ _ (by rfl) (by rfl) (by kernel_rfl) (HA.out _) ?_; rintro e w1 ⟨rfl, rfl⟩; refine ⟨_, rfl, ?_⟩)
                                            | (refine Go.Sep.cl 15 _ _ (by rfl) (by rfl) (by kernel_rfl) (HB.out _) ?_; rintro e w1 ⟨rfl, rfl⟩; refine ⟨_, rfl, ?_⟩)); refine hK _ _ _ hS (by first | (intro h; cases h; done) | exact fun _ _ h => h | exact fun _ _ h => h.drop | exact fun _ _ h => h.drop.drop | exact fun _ _ h => h.one Has.z | exact fun _ _ h => h.one (Has.s Has.z) | exact fun _ _ h => h.one (Has.s (Has.s Has.z))) ?_; clear hK K; (simp only [Act.put, List.setIfInBounds_toArray, List.set_cons_zero, List.set_cons_succ]))
              (refine regA 13 rfl (by kernel_rfl) (by rfl) (by rfl) true (by kernel_rfl) (fun K hK => ?_); (first
                                            | (refine Go.Sep.cl 15 _ _ (by rfl) (by rfl) (by kernel_rfl) (HA.out _) ?_; rintro e w1 ⟨rfl, rfl⟩; refine ⟨_, rfl, ?_⟩)
                                            | (refine Go.Sep.cl 15 _ _ (by rfl) (by rfl) (by kernel_rfl) (HB.out _) ?_; rintro e w1 ⟨rfl, rfl⟩; refine ⟨_, rfl, ?_⟩)); refine hK _ _ _ hS (by first | (intro h; cases h; done) | exact fun _ _ h => h | exact fun _ _ h => h.drop | exact fun _ _ h => h.drop.drop | exact fun _ _ h => h.one Has.z | exact fun _ _ h => h.one (Has.s Has.z) | exact fun _ _ h => h.one (Has.s (Has.s Has.z))) ?_; clear hK K; (simp only [Act.put, List.setIfInBounds_toArray, List.set_cons_zero, List.set_cons_succ]))
              (refine regP 14 hS (fun _ h => h) rfl (by kernel_rfl) (by kernel_rfl) (by kernel_rfl) (fun _ _ _ _ h => h) (by rfl) (by rfl) ?_; apply Exists.intro; apply And.intro; (intro w; go_simp; try with_reducible rfl); (simp only [Act.put, List.setIfInBounds_toArray, List.set_cons_zero, List.set_cons_succ]))
              (refine regP 15 hS (fun _ h => h) rfl (by kernel_rfl) (by kernel_rfl) (by kernel_rfl) (fun _ _ _ _ h => h) (by rfl) (by rfl) ?_; apply Exists.intro; apply And.intro; (intro w; go_simp; try with_reducible rfl); (simp only [Act.put, List.setIfInBounds_toArray, List.set_cons_zero, List.set_cons_succ]))
              refine regDone (by kernel_rfl) ?_
              simp only [HW.out]
              clear HA HB HX HY i1 i2 e1 e2
              by_cases hg : a ≤ b ∧ b ≤ k
              · obtain ⟨hab, hbk⟩ := hg
                have HL := Lib.hid (fun w (h : Sat W w [IsG p (LG k S), Cs pl 46 (lostC S)]) => (show Calls Try.prog 24 #[.pointer (some ⟨p, 0, none⟩), .int .i64 (a : Int), .int .i64 (b : Int)] w fun e w' => e = .returned (.int .i64 0) ∧ Sat W w' [IsG p (LG k (fun j => S j || (decide (a ≤ j) && decide (j < b)))), Cs pl 46 (lostC S)] by
                  have h1 : lostOk (LG k S) a b = true := by unfold lostOk; rw [LG_len, decide_eq_true (by omega), decide_eq_true (by omega), decide_eq_true (by omega)]; rfl
                  have := lost_any h a b (by rw [LG_len]; omega)
                  rw [LG_lost, if_pos h1] at this
                  unfold lostE at this
                  rw [if_pos h1] at this
                  exact this))
                have j1 : (a : Int) ≤ (b : Int) := by omega
                have j2 : (b : Int) ≤ (k : Int) := by omega
                have e1 : decide ((a : Int) ≤ (b : Int)) = true := decide_eq_true j1
                have e2 : decide ((b : Int) ≤ (k : Int)) = true := decide_eq_true j2
                have e4 : decide (a ≤ b) = true := decide_eq_true hab
                have e5 : decide (b ≤ k) = true := decide_eq_true hbk
                have hb20 : b ≤ 20 := by omega
                clear e3
                go_wp2_with (go_at_call 24; refine (HL.out _ hS.pull1).mono ?_; rintro e w1 ⟨rfl, hS1⟩; clear hS; have hS := hS1; clear hS1)
                have H1 := Lib.hid (show Sat W _ [IsG p (LG k (fun j => S j || (decide (a ≤ j) && decide (j < b)))), Cs pl 46 (lostC (fun j => S j || (decide (a ≤ j) && decide (j < a))))] by rw [lost_first]; exact hS)
                go_loopw [16] (fun v wz => ∃ j : Nat, v = .int .i64 j ∧ a ≤ j ∧ j ≤ b ∧ Sat W wz [IsG p (LG k (fun j => S j || (decide (a ≤ j) && decide (j < b)))), Cs pl 46 (lostC (fun t => S t || (decide (a ≤ t) && decide (t < j))))]) (fun v _ => b - (intOf v).toNat)
                case atStart => exact ⟨a, rfl, Nat.le_refl _, hab, H1.out⟩
                case round =>
                  clear hS H1
                  obtain ⟨j, rfl, hj1, hj2, hS⟩ := hrel
                  by_cases hlt : j < b
                  · have k1 : (j : Int) < (b : Int) := by omega
                    have k2 : (j : Int) < 20 := by omega
                    have HST := Lib.hid (lostC_set (S := fun t => S t || (decide (a ≤ t) && decide (t < j))) (j := j) (by omega))
                    have HS2 := Lib.hid (lost_step S hj1)
                    have HLC := Lib.hid (lostC_len (fun t => S t || (decide (a ≤ t) && decide (t < j))))
                    go_wp2_with (refine toList (by rfl) ?_; refine st hS _ _ _ (by rfl) _ _ (by rfl) _ (by first | exact evC | exact evT (by rfl)) (by rfl) (szOf (by rfl)) (Has.s Has.z) (by rw [HLC.out]; omega) ?_; intro w1 hS1; clear hS; have hS := hS1; clear hS1; simp only [List.set_cons_zero, List.set_cons_succ, Nat.zero_add] at hS; rw [HST.out, HS2.out] at hS)
                    exact ⟨⟨j + 1, by go_num, by omega, by omega, hS⟩, by simp [intOf]; omega⟩
                  · obtain rfl : j = b := by omega
                    clear hlt
                    go_wp2
                    exact ⟨⟨i + 1, _, by go_num, by omega, hS.pull1⟩, by simp [intOf]; omega⟩
              · have HL := Lib.hid (fun w (h : Sat W w [IsG p (LG k S), Cs pl 46 (lostC S)]) => (show Calls Try.prog 24 #[.pointer (some ⟨p, 0, none⟩), .int .i64 (a : Int), .int .i64 (b : Int)] w fun e w' => e = .returned (.int .i64 1) ∧ Sat W w' [IsG p (LG k S), Cs pl 46 (lostC S)] by
                  have h1 : lostOk (LG k S) a b = false := by
                    unfold lostOk
                    rw [LG_len]
                    by_cases h2 : a ≤ b
                    · rw [decide_eq_false (by omega : ¬ (b : Int) ≤ (k : Int)), Bool.and_false]
                    · rw [decide_eq_false (by omega : ¬ (a : Int) ≤ (b : Int)), Bool.and_false, Bool.false_and]
                  have := lost_any h a b (by rw [LG_len]; omega)
                  rw [LG_lost, h1] at this
                  unfold lostE at this
                  rw [h1] at this
                  exact this))
                clear e3
                by_cases hab : a ≤ b
                · have hbk : ¬ b ≤ k := fun h => hg ⟨hab, h⟩
                  have e1 : decide ((a : Int) ≤ (b : Int)) = true := decide_eq_true (by omega)
                  have e2 : decide ((b : Int) ≤ (k : Int)) = false := decide_eq_false (by omega)
                  have e4 : decide (a ≤ b) = true := decide_eq_true hab
                  have e5 : decide (b ≤ k) = false := decide_eq_false hbk
                  clear hg hab hbk
                  go_wp2_with (go_at_call 24; refine (HL.out _ hS.pull1).mono ?_; rintro e w1 ⟨rfl, hS1⟩; clear hS; have hS := hS1; clear hS1)
                  have H1 := Lib.hid hS
                  go_loopw [16] (fun v wz => ∃ j : Nat, v = .int .i64 j ∧ Sat W wz [IsG p (LG k S), Cs pl 46 (lostC S)]) (fun _ _ => 0)
                  case atStart => exact ⟨a, rfl, H1.out⟩
                  case round =>
                    clear hS H1
                    obtain ⟨j, rfl, hS⟩ := hrel
                    go_wp2
                    exact ⟨⟨i + 1, _, by go_num, by omega, hS.pull1⟩, by simp [intOf]; omega⟩
                · have e1 : decide ((a : Int) ≤ (b : Int)) = false := decide_eq_false (by omega)
                  have e4 : decide (a ≤ b) = false := decide_eq_false hab
                  clear hg hab
                  go_wp2_with (go_at_call 24; refine (HL.out _ hS.pull1).mono ?_; rintro e w1 ⟨rfl, hS1⟩; clear hS; have hS := hS1; clear hS1)
                  have H1 := Lib.hid hS
                  go_loopw [16] (fun v wz => ∃ j : Nat, v = .int .i64 j ∧ Sat W wz [IsG p (LG k S), Cs pl 46 (lostC S)]) (fun _ _ => 0)
                  case atStart => exact ⟨a, rfl, H1.out⟩
                  case round =>
                    clear hS H1
                    obtain ⟨j, rfl, hS⟩ := hrel
                    go_wp2
                    exact ⟨⟨i + 1, _, by go_num, by omega, hS.pull1⟩, by simp [intOf]; omega⟩
            · have e3 : decide ((i : Int) < 10) = false := decide_eq_false (by omega)
              clear h10
              go_wp2
              have H2 := Lib.hid hS
              go_loopw [17] (fun v wz => ∃ t : Nat, v = .int .i64 t ∧ t ≤ k ∧ Sat W wz [Cs pl 46 (lostC S), IsG p (LG k S)]) (fun v _ => k - (intOf v).toNat)
              case atStart => exact ⟨0, rfl, by omega, H2.out⟩
              case round =>
                clear hS H2
                obtain ⟨t, rfl, ht, hS⟩ := hrel
                by_cases hlt : t < k
                · have k1 : (t : Int) < (k : Int) := by omega
                  have k2 : (t : Int) < 20 := by omega
                  have HN := Lib.hid (fun w (h : Sat W w [IsG p (LG k S), Cs pl 46 (lostC S)]) => (show Calls Try.prog 22 #[.pointer (some ⟨p, 0, none⟩), .int .i64 (t : Int)] w fun e w' => e = .returned (.tuple #[.agg (nv (lnode S t)).toArray, .bool true]) ∧ Sat W w' [IsG p (LG k S), Cs pl 46 (lostC S)] by
                    have := node_any h (t : Int)
                    rw [LG_node S hlt, Gr.is_mk (by rw [LG_len]; exact hlt)] at this
                    exact this))
                  have HC := Lib.hid (lostC_at (S := S) (j := t) (by omega))
                  have HLT := Lib.hid hlt
                  clear hlt
                  go_wp2_with (first
                    | (go_at_call 22; refine (HN.out _ hS.pull1).mono ?_; rintro e w1 ⟨rfl, hS1⟩; clear hS; have hS := hS1; clear hS1)
                    | (refine toList (by rfl) ?_; refine al hS _ (by rfl) (zrOf (by rfl)) ?_; intro px w1 hS1; clear hS; have hS := hS1; clear hS1; rw [cells_agg] at hS)
                    | (refine toList (by rfl) ?_; refine stW hS _ _ _ (by rfl) (by rfl) (nv (lnode S t)) (by rfl) (by exact nv_all _) (szOf (by rfl)) Has.z rfl ?_; intro w1 hS1; clear hS; have hS := hS1; clear hS1; dsimp only [List.set_cons_zero] at hS))
                  refine regStart [] hS (by kernel_rfl) rfl ?_
                  intro w1 hS1
                  clear hS; have hS := hS1; clear hS1
                  (refine regP 0 hS (fun _ h => h) rfl (by kernel_rfl) (by kernel_rfl) (by kernel_rfl) (fun _ _ _ _ h => h) (by rfl) (by rfl) ?_; apply Exists.intro; apply And.intro; (intro w; go_simp; try with_reducible rfl); (simp only [Act.put, List.setIfInBounds_toArray, List.set_cons_zero, List.set_cons_succ]))
                  (refine regR 1 hS (fun _ h => h) rfl (by kernel_rfl) (by kernel_rfl) (by kernel_rfl) (by kernel_rfl) (by kernel_rfl) (fun _ _ _ _ h => h) (by rfl) (by rfl) ?_; (first
                                                        | refine ⟨_, yLd _ _ (by rfl) _ _ (by rfl) (agOf (by rfl)) (Has.s (Has.s Has.z)) (v := .bool (S t)) (by exact HC.out), ?_⟩
                                                        | refine ⟨_, yLd _ _ (by rfl) _ 5 (by rfl) (agOf (by rfl)) Has.z (v := .bool (S t)) (by rfl), ?_⟩
                                                        | refine ⟨_, yLd _ _ (by rfl) _ 3 (by rfl) (agOf (by rfl)) Has.z (v := .int .i64 0) (by rfl), ?_⟩); (simp only [Act.put, List.setIfInBounds_toArray, List.set_cons_zero, List.set_cons_succ]))
                  (refine regP 2 hS (fun _ h => h) rfl (by kernel_rfl) (by kernel_rfl) (by kernel_rfl) (fun _ _ _ _ h => h) (by rfl) (by rfl) ?_; apply Exists.intro; apply And.intro; (intro w; go_simp; try with_reducible rfl); (simp only [Act.put, List.setIfInBounds_toArray, List.set_cons_zero, List.set_cons_succ]))
                  (refine regP 3 hS (fun _ h => h) rfl (by kernel_rfl) (by kernel_rfl) (by kernel_rfl) (fun _ _ _ _ h => h) (by rfl) (by rfl) ?_; apply Exists.intro; apply And.intro; (intro w; go_simp; try with_reducible rfl); (simp only [Act.put, List.setIfInBounds_toArray, List.set_cons_zero, List.set_cons_succ]))
                  (refine regR 4 hS (fun _ h => h) rfl (by kernel_rfl) (by kernel_rfl) (by kernel_rfl) (by kernel_rfl) (by kernel_rfl) (fun _ _ _ _ h => h) (by rfl) (by rfl) ?_; (first
                                                        | refine ⟨_, yLd _ _ (by rfl) _ _ (by rfl) (agOf (by rfl)) (Has.s (Has.s Has.z)) (v := .bool (S t)) (by exact HC.out), ?_⟩
                                                        | refine ⟨_, yLd _ _ (by rfl) _ 5 (by rfl) (agOf (by rfl)) Has.z (v := .bool (S t)) (by rfl), ?_⟩
                                                        | refine ⟨_, yLd _ _ (by rfl) _ 3 (by rfl) (agOf (by rfl)) Has.z (v := .int .i64 0) (by rfl), ?_⟩); (simp only [Act.put, List.setIfInBounds_toArray, List.set_cons_zero, List.set_cons_succ]))
                  (refine regP 5 hS (fun _ h => h) rfl (by kernel_rfl) (by kernel_rfl) (by kernel_rfl) (fun _ _ _ _ h => h) (by rfl) (by rfl) ?_; apply Exists.intro; apply And.intro; (intro w; go_simp; try with_reducible rfl); (simp only [Act.put, List.setIfInBounds_toArray, List.set_cons_zero, List.set_cons_succ]))
                  (refine regP 6 hS (fun _ h => h) rfl (by kernel_rfl) (by kernel_rfl) (by kernel_rfl) (fun _ _ _ _ h => h) (by rfl) (by rfl) ?_; apply Exists.intro; apply And.intro; (intro w; go_simp; try with_reducible rfl); (simp only [Act.put, List.setIfInBounds_toArray, List.set_cons_zero, List.set_cons_succ]))
                  (first | (refine regP 7 hS (fun _ h => h) rfl (by kernel_rfl) (by kernel_rfl) (by kernel_rfl) (fun _ _ _ _ h => h) (by rfl) (by rfl) ?_; apply Exists.intro; apply And.intro; (intro w; go_simp; try with_reducible rfl); (simp only [Act.put, List.setIfInBounds_toArray, List.set_cons_zero, List.set_cons_succ])) | (refine regN 7 hS (fun _ h => h) rfl (by kernel_rfl) (by kernel_rfl) (by kernel_rfl) (fun _ _ _ h => h) (by rfl) (by rfl) ?_; (simp only [Act.put, List.setIfInBounds_toArray, List.set_cons_zero, List.set_cons_succ])))
                  (first | (refine regR 8 hS (fun _ h => h) rfl (by kernel_rfl) (by kernel_rfl) (by kernel_rfl) (by kernel_rfl) (by kernel_rfl) (fun _ _ _ _ h => h) (by rfl) (by rfl) ?_; (first
                                                        | refine ⟨_, yLd _ _ (by rfl) _ _ (by rfl) (agOf (by rfl)) (Has.s (Has.s Has.z)) (v := .bool (S t)) (by exact HC.out), ?_⟩
                                                        | refine ⟨_, yLd _ _ (by rfl) _ 5 (by rfl) (agOf (by rfl)) Has.z (v := .bool (S t)) (by rfl), ?_⟩
                                                        | refine ⟨_, yLd _ _ (by rfl) _ 3 (by rfl) (agOf (by rfl)) Has.z (v := .int .i64 0) (by rfl), ?_⟩); (simp only [Act.put, List.setIfInBounds_toArray, List.set_cons_zero, List.set_cons_succ])) | (refine regN 8 hS (fun _ h => h) rfl (by kernel_rfl) (by kernel_rfl) (by kernel_rfl) (fun _ _ _ h => h) (by rfl) (by rfl) ?_; (simp only [Act.put, List.setIfInBounds_toArray, List.set_cons_zero, List.set_cons_succ])))
                  (first | (refine regP 9 hS (fun _ h => h) rfl (by kernel_rfl) (by kernel_rfl) (by kernel_rfl) (fun _ _ _ _ h => h) (by rfl) (by rfl) ?_; apply Exists.intro; apply And.intro; (intro w; go_simp; try with_reducible rfl); (simp only [Act.put, List.setIfInBounds_toArray, List.set_cons_zero, List.set_cons_succ])) | (refine regN 9 hS (fun _ h => h) rfl (by kernel_rfl) (by kernel_rfl) (by kernel_rfl) (fun _ _ _ h => h) (by rfl) (by rfl) ?_; (simp only [Act.put, List.setIfInBounds_toArray, List.set_cons_zero, List.set_cons_succ])))
                  (refine regP 10 hS (fun _ h => h) rfl (by kernel_rfl) (by kernel_rfl) (by kernel_rfl) (fun _ _ _ _ h => h) (by rfl) (by rfl) ?_; apply Exists.intro; apply And.intro; (intro w; go_simp; try with_reducible rfl); (simp only [Act.put, List.setIfInBounds_toArray, List.set_cons_zero, List.set_cons_succ]))
                  refine regDone (by kernel_rfl) ?_
                  go_wp2
                  exact ⟨⟨t + 1, by go_num, HLT.out, hS.drop.pull1⟩, by simp [intOf]; omega⟩
                · obtain rfl : t = k := by omega
                  clear hlt ht
                  go_wp2_with (go_at_call 21; refine (awake_any hS).mono ?_; rintro e w1 ⟨rfl, hS1⟩; clear hS; have hS := hS1; clear hS1)
                  go_ret
                  exact ⟨rfl, hS.drop.drop⟩
          · have e2 : decide ((i : Int) < (lt : Int)) = false := decide_eq_false (by omega)
            have e2b : decide (i < lt) = false := decide_eq_false ht
            clear ht
            go_wp2
            have H2 := Lib.hid hS
            go_loopw [17] (fun v wz => ∃ t : Nat, v = .int .i64 t ∧ t ≤ k ∧ Sat W wz [Cs pl 46 (lostC S), IsG p (LG k S)]) (fun v _ => k - (intOf v).toNat)
            case atStart => exact ⟨0, rfl, by omega, H2.out⟩
            case round =>
              clear hS H2
              obtain ⟨t, rfl, ht, hS⟩ := hrel
              by_cases hlt : t < k
              · have k1 : (t : Int) < (k : Int) := by omega
                have k2 : (t : Int) < 20 := by omega
                have HN := Lib.hid (fun w (h : Sat W w [IsG p (LG k S), Cs pl 46 (lostC S)]) => (show Calls Try.prog 22 #[.pointer (some ⟨p, 0, none⟩), .int .i64 (t : Int)] w fun e w' => e = .returned (.tuple #[.agg (nv (lnode S t)).toArray, .bool true]) ∧ Sat W w' [IsG p (LG k S), Cs pl 46 (lostC S)] by
                  have := node_any h (t : Int)
                  rw [LG_node S hlt, Gr.is_mk (by rw [LG_len]; exact hlt)] at this
                  exact this))
                have HC := Lib.hid (lostC_at (S := S) (j := t) (by omega))
                have HLT := Lib.hid hlt
                clear hlt
                go_wp2_with (first
                  | (go_at_call 22; refine (HN.out _ hS.pull1).mono ?_; rintro e w1 ⟨rfl, hS1⟩; clear hS; have hS := hS1; clear hS1)
                  | (refine toList (by rfl) ?_; refine al hS _ (by rfl) (zrOf (by rfl)) ?_; intro px w1 hS1; clear hS; have hS := hS1; clear hS1; rw [cells_agg] at hS)
                  | (refine toList (by rfl) ?_; refine stW hS _ _ _ (by rfl) (by rfl) (nv (lnode S t)) (by rfl) (by exact nv_all _) (szOf (by rfl)) Has.z rfl ?_; intro w1 hS1; clear hS; have hS := hS1; clear hS1; dsimp only [List.set_cons_zero] at hS))
                refine regStart [] hS (by kernel_rfl) rfl ?_
                intro w1 hS1
                clear hS; have hS := hS1; clear hS1
                (refine regP 0 hS (fun _ h => h) rfl (by kernel_rfl) (by kernel_rfl) (by kernel_rfl) (fun _ _ _ _ h => h) (by rfl) (by rfl) ?_; apply Exists.intro; apply And.intro; (intro w; go_simp; try with_reducible rfl); (simp only [Act.put, List.setIfInBounds_toArray, List.set_cons_zero, List.set_cons_succ]))
                (refine regR 1 hS (fun _ h => h) rfl (by kernel_rfl) (by kernel_rfl) (by kernel_rfl) (by kernel_rfl) (by kernel_rfl) (fun _ _ _ _ h => h) (by rfl) (by rfl) ?_; (first
                                                  | refine ⟨_, yLd _ _ (by rfl) _ _ (by rfl) (agOf (by rfl)) (Has.s (Has.s Has.z)) (v := .bool (S t)) (by exact HC.out), ?_⟩
                                                  | refine ⟨_, yLd _ _ (by rfl) _ 5 (by rfl) (agOf (by rfl)) Has.z (v := .bool (S t)) (by rfl), ?_⟩
                                                  | refine ⟨_, yLd _ _ (by rfl) _ 3 (by rfl) (agOf (by rfl)) Has.z (v := .int .i64 0) (by rfl), ?_⟩); (simp only [Act.put, List.setIfInBounds_toArray, List.set_cons_zero, List.set_cons_succ]))
                (refine regP 2 hS (fun _ h => h) rfl (by kernel_rfl) (by kernel_rfl) (by kernel_rfl) (fun _ _ _ _ h => h) (by rfl) (by rfl) ?_; apply Exists.intro; apply And.intro; (intro w; go_simp; try with_reducible rfl); (simp only [Act.put, List.setIfInBounds_toArray, List.set_cons_zero, List.set_cons_succ]))
                (refine regP 3 hS (fun _ h => h) rfl (by kernel_rfl) (by kernel_rfl) (by kernel_rfl) (fun _ _ _ _ h => h) (by rfl) (by rfl) ?_; apply Exists.intro; apply And.intro; (intro w; go_simp; try with_reducible rfl); (simp only [Act.put, List.setIfInBounds_toArray, List.set_cons_zero, List.set_cons_succ]))
                (refine regR 4 hS (fun _ h => h) rfl (by kernel_rfl) (by kernel_rfl) (by kernel_rfl) (by kernel_rfl) (by kernel_rfl) (fun _ _ _ _ h => h) (by rfl) (by rfl) ?_; (first
                                                  | refine ⟨_, yLd _ _ (by rfl) _ _ (by rfl) (agOf (by rfl)) (Has.s (Has.s Has.z)) (v := .bool (S t)) (by exact HC.out), ?_⟩
                                                  | refine ⟨_, yLd _ _ (by rfl) _ 5 (by rfl) (agOf (by rfl)) Has.z (v := .bool (S t)) (by rfl), ?_⟩
                                                  | refine ⟨_, yLd _ _ (by rfl) _ 3 (by rfl) (agOf (by rfl)) Has.z (v := .int .i64 0) (by rfl), ?_⟩); (simp only [Act.put, List.setIfInBounds_toArray, List.set_cons_zero, List.set_cons_succ]))
                (refine regP 5 hS (fun _ h => h) rfl (by kernel_rfl) (by kernel_rfl) (by kernel_rfl) (fun _ _ _ _ h => h) (by rfl) (by rfl) ?_; apply Exists.intro; apply And.intro; (intro w; go_simp; try with_reducible rfl); (simp only [Act.put, List.setIfInBounds_toArray, List.set_cons_zero, List.set_cons_succ]))
                (refine regP 6 hS (fun _ h => h) rfl (by kernel_rfl) (by kernel_rfl) (by kernel_rfl) (fun _ _ _ _ h => h) (by rfl) (by rfl) ?_; apply Exists.intro; apply And.intro; (intro w; go_simp; try with_reducible rfl); (simp only [Act.put, List.setIfInBounds_toArray, List.set_cons_zero, List.set_cons_succ]))
                (first | (refine regP 7 hS (fun _ h => h) rfl (by kernel_rfl) (by kernel_rfl) (by kernel_rfl) (fun _ _ _ _ h => h) (by rfl) (by rfl) ?_; apply Exists.intro; apply And.intro; (intro w; go_simp; try with_reducible rfl); (simp only [Act.put, List.setIfInBounds_toArray, List.set_cons_zero, List.set_cons_succ])) | (refine regN 7 hS (fun _ h => h) rfl (by kernel_rfl) (by kernel_rfl) (by kernel_rfl) (fun _ _ _ h => h) (by rfl) (by rfl) ?_; (simp only [Act.put, List.setIfInBounds_toArray, List.set_cons_zero, List.set_cons_succ])))
                (first | (refine regR 8 hS (fun _ h => h) rfl (by kernel_rfl) (by kernel_rfl) (by kernel_rfl) (by kernel_rfl) (by kernel_rfl) (fun _ _ _ _ h => h) (by rfl) (by rfl) ?_; (first
                                                  | refine ⟨_, yLd _ _ (by rfl) _ _ (by rfl) (agOf (by rfl)) (Has.s (Has.s Has.z)) (v := .bool (S t)) (by exact HC.out), ?_⟩
                                                  | refine ⟨_, yLd _ _ (by rfl) _ 5 (by rfl) (agOf (by rfl)) Has.z (v := .bool (S t)) (by rfl), ?_⟩
                                                  | refine ⟨_, yLd _ _ (by rfl) _ 3 (by rfl) (agOf (by rfl)) Has.z (v := .int .i64 0) (by rfl), ?_⟩); (simp only [Act.put, List.setIfInBounds_toArray, List.set_cons_zero, List.set_cons_succ])) | (refine regN 8 hS (fun _ h => h) rfl (by kernel_rfl) (by kernel_rfl) (by kernel_rfl) (fun _ _ _ h => h) (by rfl) (by rfl) ?_; (simp only [Act.put, List.setIfInBounds_toArray, List.set_cons_zero, List.set_cons_succ])))
                (first | (refine regP 9 hS (fun _ h => h) rfl (by kernel_rfl) (by kernel_rfl) (by kernel_rfl) (fun _ _ _ _ h => h) (by rfl) (by rfl) ?_; apply Exists.intro; apply And.intro; (intro w; go_simp; try with_reducible rfl); (simp only [Act.put, List.setIfInBounds_toArray, List.set_cons_zero, List.set_cons_succ])) | (refine regN 9 hS (fun _ h => h) rfl (by kernel_rfl) (by kernel_rfl) (by kernel_rfl) (fun _ _ _ h => h) (by rfl) (by rfl) ?_; (simp only [Act.put, List.setIfInBounds_toArray, List.set_cons_zero, List.set_cons_succ])))
                (refine regP 10 hS (fun _ h => h) rfl (by kernel_rfl) (by kernel_rfl) (by kernel_rfl) (fun _ _ _ _ h => h) (by rfl) (by rfl) ?_; apply Exists.intro; apply And.intro; (intro w; go_simp; try with_reducible rfl); (simp only [Act.put, List.setIfInBounds_toArray, List.set_cons_zero, List.set_cons_succ]))
                refine regDone (by kernel_rfl) ?_
                go_wp2
                exact ⟨⟨t + 1, by go_num, HLT.out, hS.drop.pull1⟩, by simp [intOf]; omega⟩
              · obtain rfl : t = k := by omega
                clear hlt ht
                go_wp2_with (go_at_call 21; refine (awake_any hS).mono ?_; rintro e w1 ⟨rfl, hS1⟩; clear hS; have hS := hS1; clear hS1)
                go_ret
                exact ⟨rfl, hS.drop.drop⟩
        · have e1 : decide ((i : Int) < (lf : Int)) = false := decide_eq_false (by omega)
          have e1b : decide (i < lf) = false := decide_eq_false hf
          clear hf
          go_wp2
          have H2 := Lib.hid hS
          go_loopw [17] (fun v wz => ∃ t : Nat, v = .int .i64 t ∧ t ≤ k ∧ Sat W wz [Cs pl 46 (lostC S), IsG p (LG k S)]) (fun v _ => k - (intOf v).toNat)
          case atStart => exact ⟨0, rfl, by omega, H2.out⟩
          case round =>
            clear hS H2
            obtain ⟨t, rfl, ht, hS⟩ := hrel
            by_cases hlt : t < k
            · have k1 : (t : Int) < (k : Int) := by omega
              have k2 : (t : Int) < 20 := by omega
              have HN := Lib.hid (fun w (h : Sat W w [IsG p (LG k S), Cs pl 46 (lostC S)]) => (show Calls Try.prog 22 #[.pointer (some ⟨p, 0, none⟩), .int .i64 (t : Int)] w fun e w' => e = .returned (.tuple #[.agg (nv (lnode S t)).toArray, .bool true]) ∧ Sat W w' [IsG p (LG k S), Cs pl 46 (lostC S)] by
                have := node_any h (t : Int)
                rw [LG_node S hlt, Gr.is_mk (by rw [LG_len]; exact hlt)] at this
                exact this))
              have HC := Lib.hid (lostC_at (S := S) (j := t) (by omega))
              have HLT := Lib.hid hlt
              clear hlt
              go_wp2_with (first
                | (go_at_call 22; refine (HN.out _ hS.pull1).mono ?_; rintro e w1 ⟨rfl, hS1⟩; clear hS; have hS := hS1; clear hS1)
                | (refine toList (by rfl) ?_; refine al hS _ (by rfl) (zrOf (by rfl)) ?_; intro px w1 hS1; clear hS; have hS := hS1; clear hS1; rw [cells_agg] at hS)
                | (refine toList (by rfl) ?_; refine stW hS _ _ _ (by rfl) (by rfl) (nv (lnode S t)) (by rfl) (by exact nv_all _) (szOf (by rfl)) Has.z rfl ?_; intro w1 hS1; clear hS; have hS := hS1; clear hS1; dsimp only [List.set_cons_zero] at hS))
              refine regStart [] hS (by kernel_rfl) rfl ?_
              intro w1 hS1
              clear hS; have hS := hS1; clear hS1
              (refine regP 0 hS (fun _ h => h) rfl (by kernel_rfl) (by kernel_rfl) (by kernel_rfl) (fun _ _ _ _ h => h) (by rfl) (by rfl) ?_; apply Exists.intro; apply And.intro; (intro w; go_simp; try with_reducible rfl); (simp only [Act.put, List.setIfInBounds_toArray, List.set_cons_zero, List.set_cons_succ]))
              (refine regR 1 hS (fun _ h => h) rfl (by kernel_rfl) (by kernel_rfl) (by kernel_rfl) (by kernel_rfl) (by kernel_rfl) (fun _ _ _ _ h => h) (by rfl) (by rfl) ?_; (first
                                            | refine ⟨_, yLd _ _ (by rfl) _ _ (by rfl) (agOf (by rfl)) (Has.s (Has.s Has.z)) (v := .bool (S t)) (by exact HC.out), ?_⟩
                                            | refine ⟨_, yLd _ _ (by rfl) _ 5 (by rfl) (agOf (by rfl)) Has.z (v := .bool (S t)) (by rfl), ?_⟩
                                            | refine ⟨_, yLd _ _ (by rfl) _ 3 (by rfl) (agOf (by rfl)) Has.z (v := .int .i64 0) (by rfl), ?_⟩); (simp only [Act.put, List.setIfInBounds_toArray, List.set_cons_zero, List.set_cons_succ]))
              (refine regP 2 hS (fun _ h => h) rfl (by kernel_rfl) (by kernel_rfl) (by kernel_rfl) (fun _ _ _ _ h => h) (by rfl) (by rfl) ?_; apply Exists.intro; apply And.intro; (intro w; go_simp; try with_reducible rfl); (simp only [Act.put, List.setIfInBounds_toArray, List.set_cons_zero, List.set_cons_succ]))
              (refine regP 3 hS (fun _ h => h) rfl (by kernel_rfl) (by kernel_rfl) (by kernel_rfl) (fun _ _ _ _ h => h) (by rfl) (by rfl) ?_; apply Exists.intro; apply And.intro; (intro w; go_simp; try with_reducible rfl); (simp only [Act.put, List.setIfInBounds_toArray, List.set_cons_zero, List.set_cons_succ]))
              (refine regR 4 hS (fun _ h => h) rfl (by kernel_rfl) (by kernel_rfl) (by kernel_rfl) (by kernel_rfl) (by kernel_rfl) (fun _ _ _ _ h => h) (by rfl) (by rfl) ?_; (first
                                            | refine ⟨_, yLd _ _ (by rfl) _ _ (by rfl) (agOf (by rfl)) (Has.s (Has.s Has.z)) (v := .bool (S t)) (by exact HC.out), ?_⟩
                                            | refine ⟨_, yLd _ _ (by rfl) _ 5 (by rfl) (agOf (by rfl)) Has.z (v := .bool (S t)) (by rfl), ?_⟩
                                            | refine ⟨_, yLd _ _ (by rfl) _ 3 (by rfl) (agOf (by rfl)) Has.z (v := .int .i64 0) (by rfl), ?_⟩); (simp only [Act.put, List.setIfInBounds_toArray, List.set_cons_zero, List.set_cons_succ]))
              (refine regP 5 hS (fun _ h => h) rfl (by kernel_rfl) (by kernel_rfl) (by kernel_rfl) (fun _ _ _ _ h => h) (by rfl) (by rfl) ?_; apply Exists.intro; apply And.intro; (intro w; go_simp; try with_reducible rfl); (simp only [Act.put, List.setIfInBounds_toArray, List.set_cons_zero, List.set_cons_succ]))
              (refine regP 6 hS (fun _ h => h) rfl (by kernel_rfl) (by kernel_rfl) (by kernel_rfl) (fun _ _ _ _ h => h) (by rfl) (by rfl) ?_; apply Exists.intro; apply And.intro; (intro w; go_simp; try with_reducible rfl); (simp only [Act.put, List.setIfInBounds_toArray, List.set_cons_zero, List.set_cons_succ]))
              (first | (refine regP 7 hS (fun _ h => h) rfl (by kernel_rfl) (by kernel_rfl) (by kernel_rfl) (fun _ _ _ _ h => h) (by rfl) (by rfl) ?_; apply Exists.intro; apply And.intro; (intro w; go_simp; try with_reducible rfl); (simp only [Act.put, List.setIfInBounds_toArray, List.set_cons_zero, List.set_cons_succ])) | (refine regN 7 hS (fun _ h => h) rfl (by kernel_rfl) (by kernel_rfl) (by kernel_rfl) (fun _ _ _ h => h) (by rfl) (by rfl) ?_; (simp only [Act.put, List.setIfInBounds_toArray, List.set_cons_zero, List.set_cons_succ])))
              (first | (refine regR 8 hS (fun _ h => h) rfl (by kernel_rfl) (by kernel_rfl) (by kernel_rfl) (by kernel_rfl) (by kernel_rfl) (fun _ _ _ _ h => h) (by rfl) (by rfl) ?_; (first
                                            | refine ⟨_, yLd _ _ (by rfl) _ _ (by rfl) (agOf (by rfl)) (Has.s (Has.s Has.z)) (v := .bool (S t)) (by exact HC.out), ?_⟩
                                            | refine ⟨_, yLd _ _ (by rfl) _ 5 (by rfl) (agOf (by rfl)) Has.z (v := .bool (S t)) (by rfl), ?_⟩
                                            | refine ⟨_, yLd _ _ (by rfl) _ 3 (by rfl) (agOf (by rfl)) Has.z (v := .int .i64 0) (by rfl), ?_⟩); (simp only [Act.put, List.setIfInBounds_toArray, List.set_cons_zero, List.set_cons_succ])) | (refine regN 8 hS (fun _ h => h) rfl (by kernel_rfl) (by kernel_rfl) (by kernel_rfl) (fun _ _ _ h => h) (by rfl) (by rfl) ?_; (simp only [Act.put, List.setIfInBounds_toArray, List.set_cons_zero, List.set_cons_succ])))
              (first | (refine regP 9 hS (fun _ h => h) rfl (by kernel_rfl) (by kernel_rfl) (by kernel_rfl) (fun _ _ _ _ h => h) (by rfl) (by rfl) ?_; apply Exists.intro; apply And.intro; (intro w; go_simp; try with_reducible rfl); (simp only [Act.put, List.setIfInBounds_toArray, List.set_cons_zero, List.set_cons_succ])) | (refine regN 9 hS (fun _ h => h) rfl (by kernel_rfl) (by kernel_rfl) (by kernel_rfl) (fun _ _ _ h => h) (by rfl) (by rfl) ?_; (simp only [Act.put, List.setIfInBounds_toArray, List.set_cons_zero, List.set_cons_succ])))
              (refine regP 10 hS (fun _ h => h) rfl (by kernel_rfl) (by kernel_rfl) (by kernel_rfl) (fun _ _ _ _ h => h) (by rfl) (by rfl) ?_; apply Exists.intro; apply And.intro; (intro w; go_simp; try with_reducible rfl); (simp only [Act.put, List.setIfInBounds_toArray, List.set_cons_zero, List.set_cons_succ]))
              refine regDone (by kernel_rfl) ?_
              go_wp2
              exact ⟨⟨t + 1, by go_num, HLT.out, hS.drop.pull1⟩, by simp [intOf]; omega⟩
            · obtain rfl : t = k := by omega
              clear hlt ht
              go_wp2_with (go_at_call 21; refine (awake_any hS).mono ?_; rintro e w1 ⟨rfl, hS1⟩; clear hS; have hS := hS1; clear hS1)
              go_ret
              exact ⟨rfl, hS.drop.drop⟩

set_option maxRecDepth 100000 in
theorem Lost.contract (H : Type) (enc : TypeId × Value → H) (W : World) (base : Nat) (args : Array Value) (ds gs : List (DataW H)) (before : List MemPlace)
    (hval : ∀ (j : Nat) t v, Try.f5.params[j]? = some t → args[j]? = some v → Value.okWide Try.prog W .any base t v)
    (hW : DataW.Whole enc Try.prog Try.f5.params.toList Rows.graphLostSpec.vars false W args.toList ds gs before)
    (hreach : (DataW.weightsEach Try.prog (Try.f5.params.toList ++ Rows.graphLostSpec.plain.varTypes Try.prog) (ds ++ gs)).all (· ≤ reachBytes) = true) :
    Calls Try.prog 5 args W fun e W' => ∃ v, e = .returned v ∧ Rows.graphLostSpec.post enc Try.prog Try.f5 false true false false W args v W' := by
  have hW' := hW
  obtain ⟨p, q, hA, hV, rfl, hfz, hnd⟩ := hW
  rw [Try.params5] at hA hval hreach
  obtain ⟨v0, vs0, d0, ds0, p0, q0, hargs, rfl, rfl, h0, r0⟩ := trodAll_cons hA
  obtain ⟨v1, vs1, d1, ds1, p1, q1, rfl, rfl, rfl, h1, r1⟩ := trodAll_cons r0
  obtain ⟨v2, vs2, d2, ds2, p2, q2, rfl, rfl, rfl, h2, r2⟩ := trodAll_cons r1
  obtain ⟨rfl, rfl, rfl⟩ := trodAll_nil r2
  obtain rfl : args = #[v0, v1, v2] := by cases args; simp_all
  obtain ⟨rfl, rfl⟩ := trodVars_none hV
  obtain ⟨a0, rfl, rfl, rfl, w0⟩ := open_int Try.underlying3 (hval 0 3 v0 rfl rfl) h0
  obtain ⟨ao1, l1, c1, rfl⟩ := okWide_slice Try.underlying34 (hval 1 34 v1 rfl rfl)
  obtain ⟨ao2, l2, c2, rfl⟩ := okWide_slice Try.underlying34 (hval 2 34 v2 rfl rfl)
  obtain ⟨fl, hfl, hrf, _⟩ := open_ints h1
  obtain ⟨tl, htl, hrt, _⟩ := open_ints h2
  refine (Lost.walk a0 fl tl W hfl htl hrf hrt).mono ?_
  refine fun e W' ⟨he, hS⟩ => ?_
  subst he
  exact ⟨_, rfl, law_post (tb := 4) (by kernel_rfl) (by kernel_rfl) rfl Try.underlying4 rfl hW' rfl hS⟩

theorem Lost.own : ownKnob Try.prog.godebug = none := by kernel_rfl
set_option maxRecDepth 100000 in
theorem Lost.lifted (os : Os) (started : os.Started) (H : Type) (enc : TypeId × Value → H) :
    ReturnsInHanded {} Try.checked os 5 .any (Rows.graphLostSpec.pre6 enc Try.prog Try.f5 Rows.graphLostRow.domain false) (Rows.graphLostSpec.post enc Try.prog Try.f5 false true false false) := by
  refine returnsInHanded_of_change_shaped (C := Try.checked) Lost.own started (by kernel_rfl) Try.func5
    (ChangeSpec.witness6 (enc := enc) (C := Try.checked) false ⟨#[], #[.int .i64 0, .slice none 0 0, .slice none 0 0], []⟩ 8 (by kernel_rfl) (by kernel_rfl) (by kernel_rfl) (by kernel_rfl)) ?_
  intro W base args ds gs before hval hW _ hreach _ _
  exact Lost.contract H enc W base args ds gs before hval hW hreach

theorem Lost.holds : Rows.GraphLostSaid :=
  OpenClaim.holds_of_wide 5 Try.f5 rfl rfl rfl rfl rfl rfl rfl ⟨rfl, rfl, rfl, rfl, rfl⟩ rfl rfl rfl rfl rfl (by kernel_rfl) Try.func5 (by kernel_rfl)
    (of_decide_eq_true (by kernel_rfl)) (by unfold Func.isWrapper; first | (rw [if_pos (by decide +kernel)]; kernel_rfl) | (rw [if_neg (by decide +kernel)]; exact ⟨rfl, rfl⟩))
    (fun os started H enc _ => Lost.lifted os started H enc)
end Go.Proofs.Ytfbphibgcolmbaa
