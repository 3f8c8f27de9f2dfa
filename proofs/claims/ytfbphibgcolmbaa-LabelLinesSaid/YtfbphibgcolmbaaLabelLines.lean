/-
  For all numbers, LabelLines answers true: no condition.
-/
import Derived.Test.YtfbphibgcolmbaaLbLine
namespace Go.Proofs.Ytfbphibgcolmbaa
open Go.RowKit Go.Sep Go.ChangeShapes Go.WideShapes Go.ChangeAt
set_option linter.unusedSimpArgs false
set_option linter.unusedVariables false
attribute [local irreducible] Go.Oper.wp Go.wpList Go.Calls Go.Code.wp Go.Sep.Reg
attribute [local irreducible] IsG
abbrev Z0 : Nat → Nat := fun _ => 0
theorem setF_lt {f : Nat → Nat} (h : ∀ j, f j < 256) (k x : Nat) (hx : x < 256) : ∀ j, setF f k x j < 256 := fun j => by
  unfold setF
  split
  · exact hx
  · exact h j
theorem LN_okC {k e a s y : Nat} {M C : Nat → Nat} (h : (LN k e M C).Ok) (ha : a < k) (hs : s < 8) (hy : C a = y) : (LN k e M (setF C a (y ||| 2 ^ s))).Ok := by
  have := Gr.clearG_ok h (a : Int) (s : Int)
  rw [LN_clear ha hs, hy] at this
  exact this
theorem LN_okM {k e a s y : Nat} {M C : Nat → Nat} (h : (LN k e M C).Ok) (ha : a < k) (hs : s < 8) (hy : M a = y) : (LN k e (setF M a (y ||| 2 ^ s)) C).Ok := by
  have := Gr.markG_ok h (a : Int) (s : Int)
  rw [LN_mark ha hs, hy] at this
  exact this
set_option maxRecDepth 20000 in
set_option maxHeartbeats 8000000 in
theorem Lines.walk (n : Int) {aof aot : Option Addr} {lf lt cf ct : Nat} (fl tl : List Int) (W : World) (hfl : fl.length = lf) (htl : tl.length = lt) (hrf : Rd W (.slice aof lf cf) lf 1 (fl.flatMap zv)) (hrt : Rd W (.slice aot lt ct) lt 1 (tl.flatMap zv)) :
    Calls Try.prog 8 #[.slice aof lf cf, .slice aot lt ct, .int .i64 n] W fun e w' => e = .returned (.bool true) ∧ Sat W w' [] := by
  have hS := Sat.start W
  obtain ⟨k0, hk⟩ : ∃ k : Nat, n % 30 = k := ⟨(n % 30).toNat, by omega⟩
  have hk2 : k0 < 30 := by omega
  have HK := Lib.hid hk
  clear hk
  obtain ⟨k, hkk⟩ : ∃ k, k = k0 + 1 := ⟨_, rfl⟩
  have HKK := Lib.hid (show (1 : Int) + (k0 : Int) = (k : Int) by omega)
  have hk3 : (k : Int) ≤ 30 := by omega
  have hk1 : (k0 : Int) < 30 := by omega
  have hkp : (0 : Int) < (k : Int) := by omega
  clear hkk hk2
  have HFL := Lib.hid hfl
  have HTL := Lib.hid htl
  have HRF := Lib.hid hrf
  have HRT := Lib.hid hrt
  clear hfl htl hrf hrt
  go_enter Try.func8, Try.ntmps8
  go_wp2_with (first
    | (go_at_call 15; refine (place_any n 30 (by decide) (by decide) _).mono ?_; rintro e w1 ⟨rfl, rfl⟩; rw [HK.out])
    | (go_at_call 14; refine (new_any hS).mono ?_; rintro e w1 ⟨p, rfl, hS1⟩; clear hS; have hS := hS1; clear hS1))
  rw [HKK.out]
  clear HKK HK hk1
  have H0 := Lib.hid hS
  go_loopw [9] (fun v wz => ∃ i : Nat, v = .int .i64 i ∧ i ≤ k ∧ (LN i (i - 1) Z0 Z0).Ok ∧ Sat W wz [IsG p (LN i (i - 1) Z0 Z0)]) (fun v _ => k - (intOf v).toNat)
  case atStart => exact ⟨0, rfl, by omega, Gr.new_ok, H0.out⟩
  case round =>
    clear hS H0
    obtain ⟨i, rfl, hi, hok, hS⟩ := hrel
    by_cases hlt : i < k
    · have i1 : (i : Int) < (k : Int) := by omega
      have HA := Lib.hid (fun w L (h : Sat W w (IsG p (LN i (i - 1) Z0 Z0) :: L)) => (show Calls Try.prog 17 #[.pointer (some ⟨p, 0, none⟩), .int .i64 2, .int .i64 1] w fun e w' => e = .returned (.tuple #[.int .i64 (i : Int), .int .i64 0]) ∧ Sat W w' (IsG p (LN (i + 1) (i - 1) Z0 Z0) :: L) by
        have h1 : (LN i (i - 1) Z0 Z0).addOk 2 1 = true := by unfold Gr.addOk; rw [LN_len, decide_eq_true (by omega)]; rfl
        have := add_any h hok 2 1
        unfold Gr.addI Gr.addE Gr.addG at this
        rw [h1, if_pos rfl, if_pos (by decide), LN_len, if_pos (by omega), if_pos rfl, LN_plus i (i - 1) Z0] at this
        exact this))
      have hok1 : (LN (i + 1) (i - 1) Z0 Z0).Ok := by
        rw [← LN_plus i (i - 1) Z0]
        exact Gr.plus_ok hok (by rw [LN_len]; omega)
      have HOK1 := Lib.hid hok1
      have HL := Lib.hid hlt
      clear hok hlt hok1
      by_cases h0 : i = 0
      · subst h0
        go_wp2_with (go_at_call 17; refine (HA.out _ _ hS).mono ?_; rintro e w1 ⟨rfl, hS1⟩; clear hS; have hS := hS1; clear hS1)
        exact ⟨⟨1, rfl, HL.out, HOK1.out, hS⟩, by simp [intOf]; have := HL.out; omega⟩
      · have i2 : (0 : Int) < (i : Int) := by omega
        have i3 : decide (0 < i) = true := decide_eq_true (by omega)
        have HE := Lib.hid (LN_edge (show 0 < i by omega) Z0 Z0)
        have HED := Lib.hid (fun w L (h : Sat W w (IsG p (LN (i + 1) (i - 1) Z0 Z0) :: L)) => (show Calls Try.prog 19 #[.pointer (some ⟨p, 0, none⟩), .int .i64 (i : Int), .int .i64 ((i : Int) - 1)] w fun e w' => e = .returned (.int .i64 0) ∧ Sat W w' (IsG p (LN (i + 1) i Z0 Z0) :: L) by
          have := edge_any h HOK1.out (i : Int) ((i : Int) - 1)
          rw [HE.out.1, HE.out.2] at this
          exact this))
        have HOK2 := Lib.hid (show (LN (i + 1) (i + 1 - 1) Z0 Z0).Ok by
          have := Gr.edgeG_ok HOK1.out (i : Int) ((i : Int) - 1) (by simp [LN, lnE]; omega)
          rw [HE.out.2] at this
          exact this)
        clear h0 HE
        go_wp2_with (first
          | (go_at_call 17; refine (HA.out _ _ hS).mono ?_; rintro e w1 ⟨rfl, hS1⟩; clear hS; have hS := hS1; clear hS1)
          | (go_at_call 19; refine (HED.out _ _ hS).mono ?_; rintro e w1 ⟨rfl, hS1⟩; clear hS; have hS := hS1; clear hS1))
        exact ⟨⟨i + 1, by go_num, HL.out, HOK2.out, hS⟩, by simp [intOf]; have := HL.out; omega⟩
    · obtain rfl : k = i := by omega
      obtain ⟨e, he⟩ : ∃ e, k - 1 = e := ⟨_, rfl⟩
      have HEK := Lib.hid (show e + 1 = k by omega)
      rw [he] at hok hS
      have HOK0 := Lib.hid hok
      have k5 : ¬ (k : Int) < (k : Int) := by omega
      clear hlt hok he hi
      go_wp2_with (first
        | (refine toList (by rfl) ?_; refine al (show Sat W _ [IsG p (LN k e Z0 Z0)] from hS) _ (by rfl) (zrOf (by rfl)) ?_; intro p10 w1 hS1; clear hS; have hS := hS1; clear hS1; rw [cells_agg] at hS)
        | (refine toList (by rfl) ?_; refine al hS _ (by rfl) (zrOf (by rfl)) ?_; intro p11 w1 hS1; clear hS; have hS := hS1; clear hS1; rw [cells_agg] at hS))
      have H2 : Hid (Sat W _ [IsG p (LN k e Z0 Z0), Cs p11 59 (il Z0 31), Cs p10 59 (il Z0 31)]) := Lib.hid (hS.re [2, 0, 1])
      clear hS k5
      go_loopw [12] (fun v wz => ∃ (i : Nat) (M : Nat → Nat), v = .int .i64 i ∧ i ≤ 20 ∧ (LN k e M Z0).Ok ∧ (∀ j, M j < 256) ∧ Sat W wz [IsG p (LN k e M Z0), Cs p11 59 (il Z0 31), Cs p10 59 (il M 31)]) (fun v _ => 20 - (intOf v).toNat)
      case atStart => exact ⟨0, Z0, rfl, by omega, HOK0.out, (fun j => (show 0 < 256 by decide)), H2.out⟩
      case round =>
        clear H2 HOK0
        obtain ⟨i, M, rfl, hi, hok, hms, hS⟩ := hrel
        have HOK := Lib.hid hok
        have HMS := Lib.hid hms
        clear hok hms
        by_cases hf : i < lf
        · have i1 : (i : Int) < (lf : Int) := by omega
          have e1 : decide ((i : Int) < (lf : Int)) = true := decide_eq_true i1
          by_cases h20 : i < 20
          · have i3 : (i : Int) < 20 := by omega
            have e3 : decide ((i : Int) < 20) = true := decide_eq_true i3
            obtain ⟨x, hx⟩ : ∃ x, fl[i]? = some x := ⟨_, List.getElem?_eq_getElem (by rw [HFL.out]; exact hf)⟩
            obtain ⟨bf, off, rfl⟩ : ∃ b o, aof = some ⟨b, o, none⟩ := by
              obtain ⟨_, _, he, h1, h2, h3, h5⟩ := HRF.out
              obtain ⟨b', o', h6, _⟩ := h5 (by omega)
              simp only [Value.slice.injEq] at he
              exact ⟨b', o', by rw [he.1, h6]⟩
            have HX : Hid (W.cell? ⟨bf, off + i, none⟩ = some (.int .i64 x)) := Lib.hid (by have := Rd.elem (j := 0) HRF.out (zv_len _) hx rfl (by omega); simpa using this)
            obtain ⟨a, ha⟩ : ∃ a : Nat, x % (k : Int) = a := ⟨(x % (k : Int)).toNat, by have := Int.emod_nonneg x (show (k : Int) ≠ 0 by omega); omega⟩
            have ha2 : (a : Int) < (k : Int) := by rw [← ha]; exact Int.emod_lt_of_pos x (by omega)
            have HAK := Lib.hid (show a < k by omega)
            have HA31 := Lib.hid (show a < 31 by omega)
            have ha3 : (a : Int) < 31 := by omega
            have HA : Hid (∀ w, Calls Try.prog 15 #[.int .i64 x, .int .i64 (k : Int)] w fun e w' => e = .returned (.int .i64 (a : Int)) ∧ w = w') := Lib.hid fun w => by
              rw [← ha]; exact place_any x _ (by omega) (by omega) w
            clear hx ha hf h20
            go_wp2
            refine regStart [11] hS (by kernel_rfl) rfl ?_
            intro w1 hS1
            clear hS; have hS := hS1; clear hS1
            (refine regP 0 hS (fun _ h => h) rfl (by kernel_rfl) (by kernel_rfl) (by kernel_rfl) (fun _ _ _ _ h => h) (by rfl) (by rfl) ?_; apply Exists.intro; apply And.intro; (intro w; go_simp; try with_reducible rfl); (simp only [Act.put, List.setIfInBounds_toArray, List.set_cons_zero, List.set_cons_succ]))
            (refine regP 1 hS (fun _ h => h) rfl (by kernel_rfl) (by kernel_rfl) (by kernel_rfl) (fun _ _ _ _ h => h) (by rfl) (by rfl) ?_; apply Exists.intro; apply And.intro; (intro w; go_simp; try with_reducible rfl); (simp only [Act.put, List.setIfInBounds_toArray, List.set_cons_zero, List.set_cons_succ]))
            (refine regP 2 hS (fun _ h => h) rfl (by kernel_rfl) (by kernel_rfl) (by kernel_rfl) (fun _ _ _ _ h => h) (by rfl) (by rfl) ?_; apply Exists.intro; apply And.intro; (intro w; go_simp; try with_reducible rfl); (simp only [Act.put, List.setIfInBounds_toArray, List.set_cons_zero, List.set_cons_succ]))
            (refine regR 3 hS (fun _ h => h) rfl (by kernel_rfl) (by kernel_rfl) (by kernel_rfl) (by kernel_rfl) (by kernel_rfl) (fun _ _ _ _ h => h) (by rfl) (by rfl) ?_; (refine ⟨_, yLdOld _ _ (by rfl) _ _ (by rfl) (agOf (by rfl)) HX.out, ?_⟩); (simp only [Act.put, List.setIfInBounds_toArray, List.set_cons_zero, List.set_cons_succ]))
            (refine regP 4 hS (fun _ h => h) rfl (by kernel_rfl) (by kernel_rfl) (by kernel_rfl) (fun _ _ _ _ h => h) (by rfl) (by rfl) ?_; apply Exists.intro; apply And.intro; (intro w; go_simp; try with_reducible rfl); (simp only [Act.put, List.setIfInBounds_toArray, List.set_cons_zero, List.set_cons_succ]))
            (refine regP 6 hS (fun _ h => h) rfl (by kernel_rfl) (by kernel_rfl) (by kernel_rfl) (fun _ _ _ _ h => h) (by rfl) (by rfl) ?_; apply Exists.intro; apply And.intro; (intro w; go_simp; try with_reducible rfl); (simp only [Act.put, List.setIfInBounds_toArray, List.set_cons_zero, List.set_cons_succ]))
            (refine regP 7 hS (fun _ h => h) rfl (by kernel_rfl) (by kernel_rfl) (by kernel_rfl) (fun _ _ _ _ h => h) (by rfl) (by rfl) ?_; apply Exists.intro; apply And.intro; (intro w; go_simp; try with_reducible rfl); (simp only [Act.put, List.setIfInBounds_toArray, List.set_cons_zero, List.set_cons_succ]))
            (refine regP 8 hS (fun _ h => h) rfl (by kernel_rfl) (by kernel_rfl) (by kernel_rfl) (fun _ _ _ _ h => h) (by rfl) (by rfl) ?_; apply Exists.intro; apply And.intro; (intro w; go_simp; try with_reducible rfl); (simp only [Act.put, List.setIfInBounds_toArray, List.set_cons_zero, List.set_cons_succ]))
            (refine regR 9 hS (fun _ h => h) rfl (by kernel_rfl) (by kernel_rfl) (by kernel_rfl) (by kernel_rfl) (by kernel_rfl) (fun _ _ _ _ h => h) (by rfl) (by rfl) ?_; (refine ⟨_, yLdOld _ _ (by rfl) _ _ (by rfl) (agOf (by rfl)) HX.out, ?_⟩); (simp only [Act.put, List.setIfInBounds_toArray, List.set_cons_zero, List.set_cons_succ]))
            (refine regP 10 hS (fun _ h => h) rfl (by kernel_rfl) (by kernel_rfl) (by kernel_rfl) (fun _ _ _ _ h => h) (by rfl) (by rfl) ?_; apply Exists.intro; apply And.intro; (intro w; go_simp; try with_reducible rfl); (simp only [Act.put, List.setIfInBounds_toArray, List.set_cons_zero, List.set_cons_succ]))
            (refine regA 5 rfl (by kernel_rfl) (by rfl) (by rfl) false (by kernel_rfl) (fun K hK => ?_); (first
                                      | (refine Go.Sep.cl 15 _ _ (by rfl) (by rfl) (by kernel_rfl) (HA.out _) ?_; rintro e1 w1 ⟨rfl, rfl⟩; refine ⟨_, rfl, ?_⟩)
                                      | (refine Go.Sep.cl 15 _ _ (by rfl) (by rfl) (by kernel_rfl) (place3_any _ _) ?_; rintro e1 w1 ⟨s, rfl, hs3, rfl⟩; refine ⟨_, rfl, ?_⟩)); refine hK _ _ _ hS (by first | (intro h; cases h; done) | exact fun _ _ h => h | exact fun _ _ h => h.drop | exact fun _ _ h => h.drop.drop | exact fun _ _ h => h.drop.pull1 | exact fun _ _ h => h.one Has.z | exact fun _ _ h => h.one (Has.s Has.z) | exact fun _ _ h => h.one (Has.s (Has.s Has.z))) ?_; clear hK K; (simp only [Act.put, List.setIfInBounds_toArray, List.set_cons_zero, List.set_cons_succ]))
            (refine regA 11 rfl (by kernel_rfl) (by rfl) (by rfl) true (by kernel_rfl) (fun K hK => ?_); (first
                                      | (refine Go.Sep.cl 15 _ _ (by rfl) (by rfl) (by kernel_rfl) (HA.out _) ?_; rintro e1 w1 ⟨rfl, rfl⟩; refine ⟨_, rfl, ?_⟩)
                                      | (refine Go.Sep.cl 15 _ _ (by rfl) (by rfl) (by kernel_rfl) (place3_any _ _) ?_; rintro e1 w1 ⟨s, rfl, hs3, rfl⟩; refine ⟨_, rfl, ?_⟩)); refine hK _ _ _ hS (by first | (intro h; cases h; done) | exact fun _ _ h => h | exact fun _ _ h => h.drop | exact fun _ _ h => h.drop.drop | exact fun _ _ h => h.drop.pull1 | exact fun _ _ h => h.one Has.z | exact fun _ _ h => h.one (Has.s Has.z) | exact fun _ _ h => h.one (Has.s (Has.s Has.z))) ?_; clear hK K; (simp only [Act.put, List.setIfInBounds_toArray, List.set_cons_zero, List.set_cons_succ]))
            (refine regP 12 hS (fun _ h => h) rfl (by kernel_rfl) (by kernel_rfl) (by kernel_rfl) (fun _ _ _ _ h => h) (by rfl) (by rfl) ?_; apply Exists.intro; apply And.intro; (intro w; go_simp; try with_reducible rfl); (simp only [Act.put, List.setIfInBounds_toArray, List.set_cons_zero, List.set_cons_succ]))
            (refine regP 13 hS (fun _ h => h) rfl (by kernel_rfl) (by kernel_rfl) (by kernel_rfl) (fun _ _ _ _ h => h) (by rfl) (by rfl) ?_; apply Exists.intro; apply And.intro; (intro w; go_simp; try with_reducible rfl); (simp only [Act.put, List.setIfInBounds_toArray, List.set_cons_zero, List.set_cons_succ]))
            refine regDone (by kernel_rfl) ?_
            clear HA HX
            obtain ⟨y, hy⟩ : ∃ y, M a = y := ⟨_, rfl⟩
            have hyl : y < 256 := by rw [← hy]; exact HMS.out a
            have HY := Lib.hid hy
            have HLD := Lib.hid (show (il M 31)[a]? = some (.int .i64 (y : Int)) by rw [il_at HA31.out, hy])
            clear hy
            have hs : s = 0 ∨ s = 1 ∨ s = 2 := by omega
            clear hs3
            rcases hs with rfl | rfl | rfl
            · have hor : bits .or .i64 ((y : Nat) : Int) 1 = ((y ||| 1 : Nat) : Int) := or_256' y 1 hyl (by decide)
              have HOP := Lib.hid (fun w L (h : Sat W w (IsG p (LN k e M Z0) :: L)) => (show Calls Try.prog 34 #[.pointer (some ⟨p, 0, none⟩), .int .i64 (a : Int), .int .i64 0] w fun e' w' => e' = .returned (.int .i64 0) ∧ Sat W w' (IsG p (LN k e (setF M a (y ||| 1)) Z0) :: L) by
                have := mark_any h (a : Int) ((0 : Nat) : Int) HOK.out.marks
                unfold bitE at this
                rw [bitOk_yes (by rw [LN_len]; exact HAK.out) (by decide), if_pos rfl, LN_mark HAK.out (by decide), HY.out] at this
                exact this))
              have HIS := Lib.hid (il_set (f := M) (y ||| 1) HA31.out)
              go_wp2_with (first
                | (go_at_call 34; refine (HOP.out _ _ hS).mono ?_; rintro e1 w1 ⟨rfl, hS1⟩; clear hS; have hS := hS1; clear hS1)
                | (refine toList (by rfl) ?_; refine ld hS _ _ (by rfl) _ _ (by rfl) (agOf (by rfl)) (Has.s (Has.s Has.z)) HLD.out ?_)
                | (refine toList (by rfl) ?_; refine st hS _ _ _ (by rfl) _ _ (by rfl) _ (by first | exact evC | exact evT (by rfl)) (by rfl) (szOf (by rfl)) (Has.s (Has.s Has.z)) (by rw [il_len]; exact HA31.out) ?_; intro w1 hS1; clear hS; have hS := hS1; clear hS1; simp only [List.set_cons_zero, List.set_cons_succ] at hS; rw [HIS.out] at hS))
              exact ⟨⟨i + 1, setF M a (y ||| 1), by go_num, by omega, LN_okM HOK.out HAK.out (show 0 < 8 by decide) HY.out, setF_lt HMS.out _ _ (Nat.or_lt_two_pow (n := 8) hyl (by decide)), hS⟩, by simp [intOf]; omega⟩
            · have hor : bits .or .i64 ((y : Nat) : Int) 2 = ((y ||| 2 : Nat) : Int) := or_256' y 2 hyl (by decide)
              have HOP := Lib.hid (fun w L (h : Sat W w (IsG p (LN k e M Z0) :: L)) => (show Calls Try.prog 34 #[.pointer (some ⟨p, 0, none⟩), .int .i64 (a : Int), .int .i64 1] w fun e' w' => e' = .returned (.int .i64 0) ∧ Sat W w' (IsG p (LN k e (setF M a (y ||| 2)) Z0) :: L) by
                have := mark_any h (a : Int) ((1 : Nat) : Int) HOK.out.marks
                unfold bitE at this
                rw [bitOk_yes (by rw [LN_len]; exact HAK.out) (by decide), if_pos rfl, LN_mark HAK.out (by decide), HY.out] at this
                exact this))
              have HIS := Lib.hid (il_set (f := M) (y ||| 2) HA31.out)
              go_wp2_with (first
                | (go_at_call 34; refine (HOP.out _ _ hS).mono ?_; rintro e1 w1 ⟨rfl, hS1⟩; clear hS; have hS := hS1; clear hS1)
                | (refine toList (by rfl) ?_; refine ld hS _ _ (by rfl) _ _ (by rfl) (agOf (by rfl)) (Has.s (Has.s Has.z)) HLD.out ?_)
                | (refine toList (by rfl) ?_; refine st hS _ _ _ (by rfl) _ _ (by rfl) _ (by first | exact evC | exact evT (by rfl)) (by rfl) (szOf (by rfl)) (Has.s (Has.s Has.z)) (by rw [il_len]; exact HA31.out) ?_; intro w1 hS1; clear hS; have hS := hS1; clear hS1; simp only [List.set_cons_zero, List.set_cons_succ] at hS; rw [HIS.out] at hS))
              exact ⟨⟨i + 1, setF M a (y ||| 2), by go_num, by omega, LN_okM HOK.out HAK.out (show 1 < 8 by decide) HY.out, setF_lt HMS.out _ _ (Nat.or_lt_two_pow (n := 8) hyl (by decide)), hS⟩, by simp [intOf]; omega⟩
            · have hor : bits .or .i64 ((y : Nat) : Int) 4 = ((y ||| 4 : Nat) : Int) := or_256' y 4 hyl (by decide)
              have HOP := Lib.hid (fun w L (h : Sat W w (IsG p (LN k e M Z0) :: L)) => (show Calls Try.prog 34 #[.pointer (some ⟨p, 0, none⟩), .int .i64 (a : Int), .int .i64 2] w fun e' w' => e' = .returned (.int .i64 0) ∧ Sat W w' (IsG p (LN k e (setF M a (y ||| 4)) Z0) :: L) by
                have := mark_any h (a : Int) ((2 : Nat) : Int) HOK.out.marks
                unfold bitE at this
                rw [bitOk_yes (by rw [LN_len]; exact HAK.out) (by decide), if_pos rfl, LN_mark HAK.out (by decide), HY.out] at this
                exact this))
              have HIS := Lib.hid (il_set (f := M) (y ||| 4) HA31.out)
              go_wp2_with (first
                | (go_at_call 34; refine (HOP.out _ _ hS).mono ?_; rintro e1 w1 ⟨rfl, hS1⟩; clear hS; have hS := hS1; clear hS1)
                | (refine toList (by rfl) ?_; refine ld hS _ _ (by rfl) _ _ (by rfl) (agOf (by rfl)) (Has.s (Has.s Has.z)) HLD.out ?_)
                | (refine toList (by rfl) ?_; refine st hS _ _ _ (by rfl) _ _ (by rfl) _ (by first | exact evC | exact evT (by rfl)) (by rfl) (szOf (by rfl)) (Has.s (Has.s Has.z)) (by rw [il_len]; exact HA31.out) ?_; intro w1 hS1; clear hS; have hS := hS1; clear hS1; simp only [List.set_cons_zero, List.set_cons_succ] at hS; rw [HIS.out] at hS))
              exact ⟨⟨i + 1, setF M a (y ||| 4), by go_num, by omega, LN_okM HOK.out HAK.out (show 2 < 8 by decide) HY.out, setF_lt HMS.out _ _ (Nat.or_lt_two_pow (n := 8) hyl (by decide)), hS⟩, by simp [intOf]; omega⟩
          · have e3 : decide ((i : Int) < 20) = false := decide_eq_false (by omega)
            have e4 : ¬ (i : Int) < 20 := by omega
            clear h20
            have H3 := Lib.hid hS
            clear hS
            go_wp2
            go_loopw [15] (fun v wz => ∃ (i : Nat) (C : Nat → Nat), v = .int .i64 i ∧ i ≤ 20 ∧ (LN k e M C).Ok ∧ (∀ j, C j < 256) ∧ Sat W wz [IsG p (LN k e M C), Cs p11 59 (il C 31), Cs p10 59 (il M 31)]) (fun v _ => 20 - (intOf v).toNat)
            case atStart => exact ⟨0, Z0, rfl, by omega, HOK.out, (fun j => (show 0 < 256 by decide)), H3.out⟩
            case round =>
              clear H3 HOK
              obtain ⟨i, C, rfl, hi, hok, hcs, hS⟩ := hrel
              have HOK := Lib.hid hok
              have HCS := Lib.hid hcs
              clear hok hcs
              by_cases hf : i < lt
              · have i1 : (i : Int) < (lt : Int) := by omega
                have e1 : decide ((i : Int) < (lt : Int)) = true := decide_eq_true i1
                by_cases h20 : i < 20
                · have i3 : (i : Int) < 20 := by omega
                  have e3 : decide ((i : Int) < 20) = true := decide_eq_true i3
                  obtain ⟨x, hx⟩ : ∃ x, tl[i]? = some x := ⟨_, List.getElem?_eq_getElem (by rw [HTL.out]; exact hf)⟩
                  obtain ⟨bf, off, rfl⟩ : ∃ b o, aot = some ⟨b, o, none⟩ := by
                    obtain ⟨_, _, he, h1, h2, h3, h5⟩ := HRT.out
                    obtain ⟨b', o', h6, _⟩ := h5 (by omega)
                    simp only [Value.slice.injEq] at he
                    exact ⟨b', o', by rw [he.1, h6]⟩
                  have HX : Hid (W.cell? ⟨bf, off + i, none⟩ = some (.int .i64 x)) := Lib.hid (by have := Rd.elem (j := 0) HRT.out (zv_len _) hx rfl (by omega); simpa using this)
                  obtain ⟨a, ha⟩ : ∃ a : Nat, x % (k : Int) = a := ⟨(x % (k : Int)).toNat, by have := Int.emod_nonneg x (show (k : Int) ≠ 0 by omega); omega⟩
                  have ha2 : (a : Int) < (k : Int) := by rw [← ha]; exact Int.emod_lt_of_pos x (by omega)
                  have HAK := Lib.hid (show a < k by omega)
                  have HA31 := Lib.hid (show a < 31 by omega)
                  have ha3 : (a : Int) < 31 := by omega
                  have HA : Hid (∀ w, Calls Try.prog 15 #[.int .i64 x, .int .i64 (k : Int)] w fun e w' => e = .returned (.int .i64 (a : Int)) ∧ w = w') := Lib.hid fun w => by
                    rw [← ha]; exact place_any x _ (by omega) (by omega) w
                  clear hx ha hf h20
                  go_wp2
                  refine regStart [11] hS (by kernel_rfl) rfl ?_
                  intro w1 hS1
                  clear hS; have hS := hS1; clear hS1
                  (refine regP 0 hS (fun _ h => h) rfl (by kernel_rfl) (by kernel_rfl) (by kernel_rfl) (fun _ _ _ _ h => h) (by rfl) (by rfl) ?_; apply Exists.intro; apply And.intro; (intro w; go_simp; try with_reducible rfl); (simp only [Act.put, List.setIfInBounds_toArray, List.set_cons_zero, List.set_cons_succ]))
                  (refine regP 1 hS (fun _ h => h) rfl (by kernel_rfl) (by kernel_rfl) (by kernel_rfl) (fun _ _ _ _ h => h) (by rfl) (by rfl) ?_; apply Exists.intro; apply And.intro; (intro w; go_simp; try with_reducible rfl); (simp only [Act.put, List.setIfInBounds_toArray, List.set_cons_zero, List.set_cons_succ]))
                  (refine regP 2 hS (fun _ h => h) rfl (by kernel_rfl) (by kernel_rfl) (by kernel_rfl) (fun _ _ _ _ h => h) (by rfl) (by rfl) ?_; apply Exists.intro; apply And.intro; (intro w; go_simp; try with_reducible rfl); (simp only [Act.put, List.setIfInBounds_toArray, List.set_cons_zero, List.set_cons_succ]))
                  (refine regR 3 hS (fun _ h => h) rfl (by kernel_rfl) (by kernel_rfl) (by kernel_rfl) (by kernel_rfl) (by kernel_rfl) (fun _ _ _ _ h => h) (by rfl) (by rfl) ?_; (refine ⟨_, yLdOld _ _ (by rfl) _ _ (by rfl) (agOf (by rfl)) HX.out, ?_⟩); (simp only [Act.put, List.setIfInBounds_toArray, List.set_cons_zero, List.set_cons_succ]))
                  (refine regP 4 hS (fun _ h => h) rfl (by kernel_rfl) (by kernel_rfl) (by kernel_rfl) (fun _ _ _ _ h => h) (by rfl) (by rfl) ?_; apply Exists.intro; apply And.intro; (intro w; go_simp; try with_reducible rfl); (simp only [Act.put, List.setIfInBounds_toArray, List.set_cons_zero, List.set_cons_succ]))
                  (refine regP 6 hS (fun _ h => h) rfl (by kernel_rfl) (by kernel_rfl) (by kernel_rfl) (fun _ _ _ _ h => h) (by rfl) (by rfl) ?_; apply Exists.intro; apply And.intro; (intro w; go_simp; try with_reducible rfl); (simp only [Act.put, List.setIfInBounds_toArray, List.set_cons_zero, List.set_cons_succ]))
                  (refine regP 7 hS (fun _ h => h) rfl (by kernel_rfl) (by kernel_rfl) (by kernel_rfl) (fun _ _ _ _ h => h) (by rfl) (by rfl) ?_; apply Exists.intro; apply And.intro; (intro w; go_simp; try with_reducible rfl); (simp only [Act.put, List.setIfInBounds_toArray, List.set_cons_zero, List.set_cons_succ]))
                  (refine regP 8 hS (fun _ h => h) rfl (by kernel_rfl) (by kernel_rfl) (by kernel_rfl) (fun _ _ _ _ h => h) (by rfl) (by rfl) ?_; apply Exists.intro; apply And.intro; (intro w; go_simp; try with_reducible rfl); (simp only [Act.put, List.setIfInBounds_toArray, List.set_cons_zero, List.set_cons_succ]))
                  (refine regR 9 hS (fun _ h => h) rfl (by kernel_rfl) (by kernel_rfl) (by kernel_rfl) (by kernel_rfl) (by kernel_rfl) (fun _ _ _ _ h => h) (by rfl) (by rfl) ?_; (refine ⟨_, yLdOld _ _ (by rfl) _ _ (by rfl) (agOf (by rfl)) HX.out, ?_⟩); (simp only [Act.put, List.setIfInBounds_toArray, List.set_cons_zero, List.set_cons_succ]))
                  (refine regP 10 hS (fun _ h => h) rfl (by kernel_rfl) (by kernel_rfl) (by kernel_rfl) (fun _ _ _ _ h => h) (by rfl) (by rfl) ?_; apply Exists.intro; apply And.intro; (intro w; go_simp; try with_reducible rfl); (simp only [Act.put, List.setIfInBounds_toArray, List.set_cons_zero, List.set_cons_succ]))
                  (refine regA 5 rfl (by kernel_rfl) (by rfl) (by rfl) false (by kernel_rfl) (fun K hK => ?_); (first
                                                        | (refine Go.Sep.cl 15 _ _ (by rfl) (by rfl) (by kernel_rfl) (HA.out _) ?_; rintro e1 w1 ⟨rfl, rfl⟩; refine ⟨_, rfl, ?_⟩)
                                                        | (refine Go.Sep.cl 15 _ _ (by rfl) (by rfl) (by kernel_rfl) (place3_any _ _) ?_; rintro e1 w1 ⟨s, rfl, hs3, rfl⟩; refine ⟨_, rfl, ?_⟩)); refine hK _ _ _ hS (by first | (intro h; cases h; done) | exact fun _ _ h => h | exact fun _ _ h => h.drop | exact fun _ _ h => h.drop.drop | exact fun _ _ h => h.drop.pull1 | exact fun _ _ h => h.one Has.z | exact fun _ _ h => h.one (Has.s Has.z) | exact fun _ _ h => h.one (Has.s (Has.s Has.z))) ?_; clear hK K; (simp only [Act.put, List.setIfInBounds_toArray, List.set_cons_zero, List.set_cons_succ]))
                  (refine regA 11 rfl (by kernel_rfl) (by rfl) (by rfl) true (by kernel_rfl) (fun K hK => ?_); (first
                                                        | (refine Go.Sep.cl 15 _ _ (by rfl) (by rfl) (by kernel_rfl) (HA.out _) ?_; rintro e1 w1 ⟨rfl, rfl⟩; refine ⟨_, rfl, ?_⟩)
                                                        | (refine Go.Sep.cl 15 _ _ (by rfl) (by rfl) (by kernel_rfl) (place3_any _ _) ?_; rintro e1 w1 ⟨s, rfl, hs3, rfl⟩; refine ⟨_, rfl, ?_⟩)); refine hK _ _ _ hS (by first | (intro h; cases h; done) | exact fun _ _ h => h | exact fun _ _ h => h.drop | exact fun _ _ h => h.drop.drop | exact fun _ _ h => h.drop.pull1 | exact fun _ _ h => h.one Has.z | exact fun _ _ h => h.one (Has.s Has.z) | exact fun _ _ h => h.one (Has.s (Has.s Has.z))) ?_; clear hK K; (simp only [Act.put, List.setIfInBounds_toArray, List.set_cons_zero, List.set_cons_succ]))
                  (refine regP 12 hS (fun _ h => h) rfl (by kernel_rfl) (by kernel_rfl) (by kernel_rfl) (fun _ _ _ _ h => h) (by rfl) (by rfl) ?_; apply Exists.intro; apply And.intro; (intro w; go_simp; try with_reducible rfl); (simp only [Act.put, List.setIfInBounds_toArray, List.set_cons_zero, List.set_cons_succ]))
                  (refine regP 13 hS (fun _ h => h) rfl (by kernel_rfl) (by kernel_rfl) (by kernel_rfl) (fun _ _ _ _ h => h) (by rfl) (by rfl) ?_; apply Exists.intro; apply And.intro; (intro w; go_simp; try with_reducible rfl); (simp only [Act.put, List.setIfInBounds_toArray, List.set_cons_zero, List.set_cons_succ]))
                  refine regDone (by kernel_rfl) ?_
                  clear HA HX
                  obtain ⟨y, hy⟩ : ∃ y, C a = y := ⟨_, rfl⟩
                  have hyl : y < 256 := by rw [← hy]; exact HCS.out a
                  have HY := Lib.hid hy
                  have HLD := Lib.hid (show (il C 31)[a]? = some (.int .i64 (y : Int)) by rw [il_at HA31.out, hy])
                  clear hy
                  have hs : s = 0 ∨ s = 1 ∨ s = 2 := by omega
                  clear hs3
                  rcases hs with rfl | rfl | rfl
                  · have hor : bits .or .i64 ((y : Nat) : Int) 1 = ((y ||| 1 : Nat) : Int) := or_256' y 1 hyl (by decide)
                    have HOP := Lib.hid (fun w L (h : Sat W w (IsG p (LN k e M C) :: L)) => (show Calls Try.prog 35 #[.pointer (some ⟨p, 0, none⟩), .int .i64 (a : Int), .int .i64 0] w fun e' w' => e' = .returned (.int .i64 0) ∧ Sat W w' (IsG p (LN k e M (setF C a (y ||| 1))) :: L) by
                      have := clear_any h (a : Int) ((0 : Nat) : Int) HOK.out.marks
                      unfold bitE at this
                      rw [bitOk_yes (by rw [LN_len]; exact HAK.out) (by decide), if_pos rfl, LN_clear HAK.out (by decide), HY.out] at this
                      exact this))
                    have HIS := Lib.hid (il_set (f := C) (y ||| 1) HA31.out)
                    go_wp2_with (first
                      | (go_at_call 35; refine (HOP.out _ _ hS).mono ?_; rintro e1 w1 ⟨rfl, hS1⟩; clear hS; have hS := hS1; clear hS1)
                      | (refine toList (by rfl) ?_; refine ld hS _ _ (by rfl) _ _ (by rfl) (agOf (by rfl)) (Has.s Has.z) HLD.out ?_)
                      | (refine toList (by rfl) ?_; refine st hS _ _ _ (by rfl) _ _ (by rfl) _ (by first | exact evC | exact evT (by rfl)) (by rfl) (szOf (by rfl)) (Has.s Has.z) (by rw [il_len]; exact HA31.out) ?_; intro w1 hS1; clear hS; have hS := hS1; clear hS1; simp only [List.set_cons_zero, List.set_cons_succ] at hS; rw [HIS.out] at hS))
                    exact ⟨⟨i + 1, setF C a (y ||| 1), by go_num, by omega, LN_okC HOK.out HAK.out (show 0 < 8 by decide) HY.out, setF_lt HCS.out _ _ (Nat.or_lt_two_pow (n := 8) hyl (by decide)), hS⟩, by simp [intOf]; omega⟩
                  · have hor : bits .or .i64 ((y : Nat) : Int) 2 = ((y ||| 2 : Nat) : Int) := or_256' y 2 hyl (by decide)
                    have HOP := Lib.hid (fun w L (h : Sat W w (IsG p (LN k e M C) :: L)) => (show Calls Try.prog 35 #[.pointer (some ⟨p, 0, none⟩), .int .i64 (a : Int), .int .i64 1] w fun e' w' => e' = .returned (.int .i64 0) ∧ Sat W w' (IsG p (LN k e M (setF C a (y ||| 2))) :: L) by
                      have := clear_any h (a : Int) ((1 : Nat) : Int) HOK.out.marks
                      unfold bitE at this
                      rw [bitOk_yes (by rw [LN_len]; exact HAK.out) (by decide), if_pos rfl, LN_clear HAK.out (by decide), HY.out] at this
                      exact this))
                    have HIS := Lib.hid (il_set (f := C) (y ||| 2) HA31.out)
                    go_wp2_with (first
                      | (go_at_call 35; refine (HOP.out _ _ hS).mono ?_; rintro e1 w1 ⟨rfl, hS1⟩; clear hS; have hS := hS1; clear hS1)
                      | (refine toList (by rfl) ?_; refine ld hS _ _ (by rfl) _ _ (by rfl) (agOf (by rfl)) (Has.s Has.z) HLD.out ?_)
                      | (refine toList (by rfl) ?_; refine st hS _ _ _ (by rfl) _ _ (by rfl) _ (by first | exact evC | exact evT (by rfl)) (by rfl) (szOf (by rfl)) (Has.s Has.z) (by rw [il_len]; exact HA31.out) ?_; intro w1 hS1; clear hS; have hS := hS1; clear hS1; simp only [List.set_cons_zero, List.set_cons_succ] at hS; rw [HIS.out] at hS))
                    exact ⟨⟨i + 1, setF C a (y ||| 2), by go_num, by omega, LN_okC HOK.out HAK.out (show 1 < 8 by decide) HY.out, setF_lt HCS.out _ _ (Nat.or_lt_two_pow (n := 8) hyl (by decide)), hS⟩, by simp [intOf]; omega⟩
                  · have hor : bits .or .i64 ((y : Nat) : Int) 4 = ((y ||| 4 : Nat) : Int) := or_256' y 4 hyl (by decide)
                    have HOP := Lib.hid (fun w L (h : Sat W w (IsG p (LN k e M C) :: L)) => (show Calls Try.prog 35 #[.pointer (some ⟨p, 0, none⟩), .int .i64 (a : Int), .int .i64 2] w fun e' w' => e' = .returned (.int .i64 0) ∧ Sat W w' (IsG p (LN k e M (setF C a (y ||| 4))) :: L) by
                      have := clear_any h (a : Int) ((2 : Nat) : Int) HOK.out.marks
                      unfold bitE at this
                      rw [bitOk_yes (by rw [LN_len]; exact HAK.out) (by decide), if_pos rfl, LN_clear HAK.out (by decide), HY.out] at this
                      exact this))
                    have HIS := Lib.hid (il_set (f := C) (y ||| 4) HA31.out)
                    go_wp2_with (first
                      | (go_at_call 35; refine (HOP.out _ _ hS).mono ?_; rintro e1 w1 ⟨rfl, hS1⟩; clear hS; have hS := hS1; clear hS1)
                      | (refine toList (by rfl) ?_; refine ld hS _ _ (by rfl) _ _ (by rfl) (agOf (by rfl)) (Has.s Has.z) HLD.out ?_)
                      | (refine toList (by rfl) ?_; refine st hS _ _ _ (by rfl) _ _ (by rfl) _ (by first | exact evC | exact evT (by rfl)) (by rfl) (szOf (by rfl)) (Has.s Has.z) (by rw [il_len]; exact HA31.out) ?_; intro w1 hS1; clear hS; have hS := hS1; clear hS1; simp only [List.set_cons_zero, List.set_cons_succ] at hS; rw [HIS.out] at hS))
                    exact ⟨⟨i + 1, setF C a (y ||| 4), by go_num, by omega, LN_okC HOK.out HAK.out (show 2 < 8 by decide) HY.out, setF_lt HCS.out _ _ (Nat.or_lt_two_pow (n := 8) hyl (by decide)), hS⟩, by simp [intOf]; omega⟩
                · have e3 : decide ((i : Int) < 20) = false := decide_eq_false (by omega)
                  have e4 : ¬ (i : Int) < 20 := by omega
                  clear h20
                  have H4 := Lib.hid hS
                  obtain ⟨G, hG⟩ : ∃ G, LN k e M C = G := ⟨_, rfl⟩
                  have HHAS := Lib.hid (fun j (hj : j < k) => (show andn (hasL G j ||| M j) (C j) = G.lab j by rw [← hG]; exact LN_has HOK.out hj HEK.out))
                  have HACY := Lib.hid (show G.Acyc by rw [← hG]; exact LN_acyc _ _ _ _)
                  have HLN := Lib.hid (show G.N.length = k by rw [← hG]; exact LN_len _ _ _ _)
                  have HOKG := Lib.hid (show G.Ok by rw [← hG]; exact HOK.out)
                  rw [hG] at H4
                  clear hG hS
                  go_wp2
                  go_loopw [18, 19] (fun v18 v19 wz => ∃ i : Nat, v19 = .int .i64 i ∧ i ≤ k ∧ v18 = .int .i64 (hasL G i : Nat) ∧ Sat W wz [IsG p G, Cs p11 59 (il C 31), Cs p10 59 (il M 31)]) (fun _ v19 _ => k - (intOf v19).toNat)
                  case atStart => exact ⟨0, rfl, by omega, rfl, H4.out⟩
                  case round =>
                    clear H4
                    obtain ⟨i, rfl, hi, rfl, hS⟩ := hrel
                    by_cases hl : i < k
                    · have i5 : (i : Int) < (k : Int) := by omega
                      have i6 : (i : Int) < 31 := by omega
                      have hM := il_at (f := M) (show i < 31 by omega)
                      have hC := il_at (f := C) (show i < 31 by omega)
                      have hh := HHAS.out i hl
                      have hyl := hasL_lt G i
                      obtain ⟨y, hy⟩ : ∃ y, hasL G i = y := ⟨_, rfl⟩
                      obtain ⟨mi, hmi⟩ : ∃ mi, M i = mi := ⟨_, rfl⟩
                      obtain ⟨ci, hci⟩ : ∃ ci, C i = ci := ⟨_, rfl⟩
                      have hml : mi < 256 := by rw [← hmi]; exact HMS.out i
                      have hcl : ci < 256 := by rw [← hci]; exact HCS.out i
                      rw [hmi] at hM hh
                      rw [hci] at hC hh
                      rw [hy] at hh hyl ⊢
                      obtain ⟨o, ho⟩ : ∃ o, y ||| mi = o := ⟨_, rfl⟩
                      have hor := or_256' y mi hyl hml
                      have hol : o < 256 := by rw [← ho]; exact Nat.or_lt_two_pow (n := 8) hyl hml
                      rw [ho] at hh hor
                      have hand := andn_256 o ci hol hcl
                      rw [hh] at hand
                      have HOF := Lib.hid (fun w L (h : Sat W w (IsG p G :: L)) => by have := of_any h HOKG.out HACY.out (i : Int); rw [Gr.labI_nat (by rw [HLN.out]; exact hl)] at this; exact this)
                      have HM := Lib.hid hM
                      have HC := Lib.hid hC
                      have HL := Lib.hid hl
                      have HNX := Lib.hid (show hasL G (i + 1) = G.lab i from rfl)
                      clear hM hC hh hyl hy hmi hci hml hcl ho hol hl
                      go_wp2
                      refine regStart [] hS (by kernel_rfl) rfl ?_
                      intro w1 hS1
                      clear hS; have hS := hS1; clear hS1
                      (refine regP 0 hS (fun _ h => h) rfl (by kernel_rfl) (by kernel_rfl) (by kernel_rfl) (fun _ _ _ _ h => h) (by rfl) (by rfl) ?_; apply Exists.intro; apply And.intro; (intro w; go_simp; try with_reducible rfl); (simp only [Act.put, List.setIfInBounds_toArray, List.set_cons_zero, List.set_cons_succ]))
                      (refine regP 1 hS (fun _ h => h) rfl (by kernel_rfl) (by kernel_rfl) (by kernel_rfl) (fun _ _ _ _ h => h) (by rfl) (by rfl) ?_; apply Exists.intro; apply And.intro; (intro w; go_simp; try with_reducible rfl); (simp only [Act.put, List.setIfInBounds_toArray, List.set_cons_zero, List.set_cons_succ]))
                      (refine regP 2 hS (fun _ h => h) rfl (by kernel_rfl) (by kernel_rfl) (by kernel_rfl) (fun _ _ _ _ h => h) (by rfl) (by rfl) ?_; apply Exists.intro; apply And.intro; (intro w; go_simp; try with_reducible rfl); (simp only [Act.put, List.setIfInBounds_toArray, List.set_cons_zero, List.set_cons_succ]))
                      (refine regR 3 hS (fun _ h => h) rfl (by kernel_rfl) (by kernel_rfl) (by kernel_rfl) (by kernel_rfl) (by kernel_rfl) (fun _ _ _ _ h => h) (by rfl) (by rfl) ?_; (first | refine ⟨_, yLd _ _ (by rfl) _ _ (by rfl) (agOf (by rfl)) (Has.s (Has.s Has.z)) HM.out, ?_⟩ | refine ⟨_, yLd _ _ (by rfl) _ _ (by rfl) (agOf (by rfl)) (Has.s Has.z) HC.out, ?_⟩); (simp only [Act.put, List.setIfInBounds_toArray, List.set_cons_zero, List.set_cons_succ]))
                      (refine regP 4 hS (fun _ h => h) rfl (by kernel_rfl) (by kernel_rfl) (by kernel_rfl) (fun _ _ _ _ h => h) (by rfl) (by rfl) ?_; apply Exists.intro; apply And.intro; (intro w; go_simp; try with_reducible rfl); (simp only [Act.put, List.setIfInBounds_toArray, List.set_cons_zero, List.set_cons_succ]))
                      (refine regP 5 hS (fun _ h => h) rfl (by kernel_rfl) (by kernel_rfl) (by kernel_rfl) (fun _ _ _ _ h => h) (by rfl) (by rfl) ?_; apply Exists.intro; apply And.intro; (intro w; go_simp; try with_reducible rfl); (simp only [Act.put, List.setIfInBounds_toArray, List.set_cons_zero, List.set_cons_succ]))
                      (refine regP 6 hS (fun _ h => h) rfl (by kernel_rfl) (by kernel_rfl) (by kernel_rfl) (fun _ _ _ _ h => h) (by rfl) (by rfl) ?_; apply Exists.intro; apply And.intro; (intro w; go_simp; try with_reducible rfl); (simp only [Act.put, List.setIfInBounds_toArray, List.set_cons_zero, List.set_cons_succ]))
                      (refine regR 7 hS (fun _ h => h) rfl (by kernel_rfl) (by kernel_rfl) (by kernel_rfl) (by kernel_rfl) (by kernel_rfl) (fun _ _ _ _ h => h) (by rfl) (by rfl) ?_; (first | refine ⟨_, yLd _ _ (by rfl) _ _ (by rfl) (agOf (by rfl)) (Has.s (Has.s Has.z)) HM.out, ?_⟩ | refine ⟨_, yLd _ _ (by rfl) _ _ (by rfl) (agOf (by rfl)) (Has.s Has.z) HC.out, ?_⟩); (simp only [Act.put, List.setIfInBounds_toArray, List.set_cons_zero, List.set_cons_succ]))
                      (refine regP 8 hS (fun _ h => h) rfl (by kernel_rfl) (by kernel_rfl) (by kernel_rfl) (fun _ _ _ _ h => h) (by rfl) (by rfl) ?_; apply Exists.intro; apply And.intro; (intro w; go_simp; try with_reducible rfl); (simp only [Act.put, List.setIfInBounds_toArray, List.set_cons_zero, List.set_cons_succ]))
                      (refine regP 9 hS (fun _ h => h) rfl (by kernel_rfl) (by kernel_rfl) (by kernel_rfl) (fun _ _ _ _ h => h) (by rfl) (by rfl) ?_; apply Exists.intro; apply And.intro; (intro w; go_simp; try with_reducible rfl); (simp only [Act.put, List.setIfInBounds_toArray, List.set_cons_zero, List.set_cons_succ]))
                      refine regDone (by kernel_rfl) ?_
                      go_wp2_with (go_at_call 36; refine (HOF.out _ _ hS).mono ?_; rintro e1 w1 ⟨rfl, hS1⟩; clear hS; have hS := hS1; clear hS1)
                      exact ⟨⟨i + 1, by go_num, HL.out, by rw [HNX.out], hS⟩, by simp [intOf]; have := HL.out; omega⟩
                    · have i5 : ¬ (i : Int) < (k : Int) := by omega
                      clear hl
                      go_wp2_with (go_at_call 37; refine (wake_any hS).mono ?_; rintro e1 w1 ⟨rfl, hS1⟩; clear hS; have hS := hS1; clear hS1)
                      go_ret
                      exact ⟨rfl, hS.drop.drop.drop⟩
              · have e1 : decide ((i : Int) < (lt : Int)) = false := decide_eq_false (by omega)
                have e1b : decide (i < lt) = false := decide_eq_false hf
                have e4 : ¬ (i : Int) < (lt : Int) := by omega
                clear hf
                have H4 := Lib.hid hS
                obtain ⟨G, hG⟩ : ∃ G, LN k e M C = G := ⟨_, rfl⟩
                have HHAS := Lib.hid (fun j (hj : j < k) => (show andn (hasL G j ||| M j) (C j) = G.lab j by rw [← hG]; exact LN_has HOK.out hj HEK.out))
                have HACY := Lib.hid (show G.Acyc by rw [← hG]; exact LN_acyc _ _ _ _)
                have HLN := Lib.hid (show G.N.length = k by rw [← hG]; exact LN_len _ _ _ _)
                have HOKG := Lib.hid (show G.Ok by rw [← hG]; exact HOK.out)
                rw [hG] at H4
                clear hG hS
                go_wp2
                go_loopw [18, 19] (fun v18 v19 wz => ∃ i : Nat, v19 = .int .i64 i ∧ i ≤ k ∧ v18 = .int .i64 (hasL G i : Nat) ∧ Sat W wz [IsG p G, Cs p11 59 (il C 31), Cs p10 59 (il M 31)]) (fun _ v19 _ => k - (intOf v19).toNat)
                case atStart => exact ⟨0, rfl, by omega, rfl, H4.out⟩
                case round =>
                  clear H4
                  obtain ⟨i, rfl, hi, rfl, hS⟩ := hrel
                  by_cases hl : i < k
                  · have i5 : (i : Int) < (k : Int) := by omega
                    have i6 : (i : Int) < 31 := by omega
                    have hM := il_at (f := M) (show i < 31 by omega)
                    have hC := il_at (f := C) (show i < 31 by omega)
                    have hh := HHAS.out i hl
                    have hyl := hasL_lt G i
                    obtain ⟨y, hy⟩ : ∃ y, hasL G i = y := ⟨_, rfl⟩
                    obtain ⟨mi, hmi⟩ : ∃ mi, M i = mi := ⟨_, rfl⟩
                    obtain ⟨ci, hci⟩ : ∃ ci, C i = ci := ⟨_, rfl⟩
                    have hml : mi < 256 := by rw [← hmi]; exact HMS.out i
                    have hcl : ci < 256 := by rw [← hci]; exact HCS.out i
                    rw [hmi] at hM hh
                    rw [hci] at hC hh
                    rw [hy] at hh hyl ⊢
                    obtain ⟨o, ho⟩ : ∃ o, y ||| mi = o := ⟨_, rfl⟩
                    have hor := or_256' y mi hyl hml
                    have hol : o < 256 := by rw [← ho]; exact Nat.or_lt_two_pow (n := 8) hyl hml
                    rw [ho] at hh hor
                    have hand := andn_256 o ci hol hcl
                    rw [hh] at hand
                    have HOF := Lib.hid (fun w L (h : Sat W w (IsG p G :: L)) => by have := of_any h HOKG.out HACY.out (i : Int); rw [Gr.labI_nat (by rw [HLN.out]; exact hl)] at this; exact this)
                    have HM := Lib.hid hM
                    have HC := Lib.hid hC
                    have HL := Lib.hid hl
                    have HNX := Lib.hid (show hasL G (i + 1) = G.lab i from rfl)
                    clear hM hC hh hyl hy hmi hci hml hcl ho hol hl
                    go_wp2
                    refine regStart [] hS (by kernel_rfl) rfl ?_
                    intro w1 hS1
                    clear hS; have hS := hS1; clear hS1
                    (refine regP 0 hS (fun _ h => h) rfl (by kernel_rfl) (by kernel_rfl) (by kernel_rfl) (fun _ _ _ _ h => h) (by rfl) (by rfl) ?_; apply Exists.intro; apply And.intro; (intro w; go_simp; try with_reducible rfl); (simp only [Act.put, List.setIfInBounds_toArray, List.set_cons_zero, List.set_cons_succ]))
                    (refine regP 1 hS (fun _ h => h) rfl (by kernel_rfl) (by kernel_rfl) (by kernel_rfl) (fun _ _ _ _ h => h) (by rfl) (by rfl) ?_; apply Exists.intro; apply And.intro; (intro w; go_simp; try with_reducible rfl); (simp only [Act.put, List.setIfInBounds_toArray, List.set_cons_zero, List.set_cons_succ]))
                    (refine regP 2 hS (fun _ h => h) rfl (by kernel_rfl) (by kernel_rfl) (by kernel_rfl) (fun _ _ _ _ h => h) (by rfl) (by rfl) ?_; apply Exists.intro; apply And.intro; (intro w; go_simp; try with_reducible rfl); (simp only [Act.put, List.setIfInBounds_toArray, List.set_cons_zero, List.set_cons_succ]))
                    (refine regR 3 hS (fun _ h => h) rfl (by kernel_rfl) (by kernel_rfl) (by kernel_rfl) (by kernel_rfl) (by kernel_rfl) (fun _ _ _ _ h => h) (by rfl) (by rfl) ?_; (first | refine ⟨_, yLd _ _ (by rfl) _ _ (by rfl) (agOf (by rfl)) (Has.s (Has.s Has.z)) HM.out, ?_⟩ | refine ⟨_, yLd _ _ (by rfl) _ _ (by rfl) (agOf (by rfl)) (Has.s Has.z) HC.out, ?_⟩); (simp only [Act.put, List.setIfInBounds_toArray, List.set_cons_zero, List.set_cons_succ]))
                    (refine regP 4 hS (fun _ h => h) rfl (by kernel_rfl) (by kernel_rfl) (by kernel_rfl) (fun _ _ _ _ h => h) (by rfl) (by rfl) ?_; apply Exists.intro; apply And.intro; (intro w; go_simp; try with_reducible rfl); (simp only [Act.put, List.setIfInBounds_toArray, List.set_cons_zero, List.set_cons_succ]))
                    (refine regP 5 hS (fun _ h => h) rfl (by kernel_rfl) (by kernel_rfl) (by kernel_rfl) (fun _ _ _ _ h => h) (by rfl) (by rfl) ?_; apply Exists.intro; apply And.intro; (intro w; go_simp; try with_reducible rfl); (simp only [Act.put, List.setIfInBounds_toArray, List.set_cons_zero, List.set_cons_succ]))
                    (refine regP 6 hS (fun _ h => h) rfl (by kernel_rfl) (by kernel_rfl) (by kernel_rfl) (fun _ _ _ _ h => h) (by rfl) (by rfl) ?_; apply Exists.intro; apply And.intro; (intro w; go_simp; try with_reducible rfl); (simp only [Act.put, List.setIfInBounds_toArray, List.set_cons_zero, List.set_cons_succ]))
                    (refine regR 7 hS (fun _ h => h) rfl (by kernel_rfl) (by kernel_rfl) (by kernel_rfl) (by kernel_rfl) (by kernel_rfl) (fun _ _ _ _ h => h) (by rfl) (by rfl) ?_; (first | refine ⟨_, yLd _ _ (by rfl) _ _ (by rfl) (agOf (by rfl)) (Has.s (Has.s Has.z)) HM.out, ?_⟩ | refine ⟨_, yLd _ _ (by rfl) _ _ (by rfl) (agOf (by rfl)) (Has.s Has.z) HC.out, ?_⟩); (simp only [Act.put, List.setIfInBounds_toArray, List.set_cons_zero, List.set_cons_succ]))
                    (refine regP 8 hS (fun _ h => h) rfl (by kernel_rfl) (by kernel_rfl) (by kernel_rfl) (fun _ _ _ _ h => h) (by rfl) (by rfl) ?_; apply Exists.intro; apply And.intro; (intro w; go_simp; try with_reducible rfl); (simp only [Act.put, List.setIfInBounds_toArray, List.set_cons_zero, List.set_cons_succ]))
                    (refine regP 9 hS (fun _ h => h) rfl (by kernel_rfl) (by kernel_rfl) (by kernel_rfl) (fun _ _ _ _ h => h) (by rfl) (by rfl) ?_; apply Exists.intro; apply And.intro; (intro w; go_simp; try with_reducible rfl); (simp only [Act.put, List.setIfInBounds_toArray, List.set_cons_zero, List.set_cons_succ]))
                    refine regDone (by kernel_rfl) ?_
                    go_wp2_with (go_at_call 36; refine (HOF.out _ _ hS).mono ?_; rintro e1 w1 ⟨rfl, hS1⟩; clear hS; have hS := hS1; clear hS1)
                    exact ⟨⟨i + 1, by go_num, HL.out, by rw [HNX.out], hS⟩, by simp [intOf]; have := HL.out; omega⟩
                  · have i5 : ¬ (i : Int) < (k : Int) := by omega
                    clear hl
                    go_wp2_with (go_at_call 37; refine (wake_any hS).mono ?_; rintro e1 w1 ⟨rfl, hS1⟩; clear hS; have hS := hS1; clear hS1)
                    go_ret
                    exact ⟨rfl, hS.drop.drop.drop⟩
        · have e1 : decide ((i : Int) < (lf : Int)) = false := decide_eq_false (by omega)
          have e1b : decide (i < lf) = false := decide_eq_false hf
          have e4 : ¬ (i : Int) < (lf : Int) := by omega
          clear hf
          have H3 := Lib.hid hS
          clear hS
          go_wp2
          go_loopw [15] (fun v wz => ∃ (i : Nat) (C : Nat → Nat), v = .int .i64 i ∧ i ≤ 20 ∧ (LN k e M C).Ok ∧ (∀ j, C j < 256) ∧ Sat W wz [IsG p (LN k e M C), Cs p11 59 (il C 31), Cs p10 59 (il M 31)]) (fun v _ => 20 - (intOf v).toNat)
          case atStart => exact ⟨0, Z0, rfl, by omega, HOK.out, (fun j => (show 0 < 256 by decide)), H3.out⟩
          case round =>
            clear H3 HOK
            obtain ⟨i, C, rfl, hi, hok, hcs, hS⟩ := hrel
            have HOK := Lib.hid hok
            have HCS := Lib.hid hcs
            clear hok hcs
            by_cases hf : i < lt
            · have i1 : (i : Int) < (lt : Int) := by omega
              have e1 : decide ((i : Int) < (lt : Int)) = true := decide_eq_true i1
              by_cases h20 : i < 20
              · have i3 : (i : Int) < 20 := by omega
                have e3 : decide ((i : Int) < 20) = true := decide_eq_true i3
                obtain ⟨x, hx⟩ : ∃ x, tl[i]? = some x := ⟨_, List.getElem?_eq_getElem (by rw [HTL.out]; exact hf)⟩
                obtain ⟨bf, off, rfl⟩ : ∃ b o, aot = some ⟨b, o, none⟩ := by
                  obtain ⟨_, _, he, h1, h2, h3, h5⟩ := HRT.out
                  obtain ⟨b', o', h6, _⟩ := h5 (by omega)
                  simp only [Value.slice.injEq] at he
                  exact ⟨b', o', by rw [he.1, h6]⟩
                have HX : Hid (W.cell? ⟨bf, off + i, none⟩ = some (.int .i64 x)) := Lib.hid (by have := Rd.elem (j := 0) HRT.out (zv_len _) hx rfl (by omega); simpa using this)
                obtain ⟨a, ha⟩ : ∃ a : Nat, x % (k : Int) = a := ⟨(x % (k : Int)).toNat, by have := Int.emod_nonneg x (show (k : Int) ≠ 0 by omega); omega⟩
                have ha2 : (a : Int) < (k : Int) := by rw [← ha]; exact Int.emod_lt_of_pos x (by omega)
                have HAK := Lib.hid (show a < k by omega)
                have HA31 := Lib.hid (show a < 31 by omega)
                have ha3 : (a : Int) < 31 := by omega
                have HA : Hid (∀ w, Calls Try.prog 15 #[.int .i64 x, .int .i64 (k : Int)] w fun e w' => e = .returned (.int .i64 (a : Int)) ∧ w = w') := Lib.hid fun w => by
                  rw [← ha]; exact place_any x _ (by omega) (by omega) w
                clear hx ha hf h20
                go_wp2
                refine regStart [11] hS (by kernel_rfl) rfl ?_
                intro w1 hS1
                clear hS; have hS := hS1; clear hS1
                (refine regP 0 hS (fun _ h => h) rfl (by kernel_rfl) (by kernel_rfl) (by kernel_rfl) (fun _ _ _ _ h => h) (by rfl) (by rfl) ?_; apply Exists.intro; apply And.intro; (intro w; go_simp; try with_reducible rfl); (simp only [Act.put, List.setIfInBounds_toArray, List.set_cons_zero, List.set_cons_succ]))
                (refine regP 1 hS (fun _ h => h) rfl (by kernel_rfl) (by kernel_rfl) (by kernel_rfl) (fun _ _ _ _ h => h) (by rfl) (by rfl) ?_; apply Exists.intro; apply And.intro; (intro w; go_simp; try with_reducible rfl); (simp only [Act.put, List.setIfInBounds_toArray, List.set_cons_zero, List.set_cons_succ]))
                (refine regP 2 hS (fun _ h => h) rfl (by kernel_rfl) (by kernel_rfl) (by kernel_rfl) (fun _ _ _ _ h => h) (by rfl) (by rfl) ?_; apply Exists.intro; apply And.intro; (intro w; go_simp; try with_reducible rfl); (simp only [Act.put, List.setIfInBounds_toArray, List.set_cons_zero, List.set_cons_succ]))
                (refine regR 3 hS (fun _ h => h) rfl (by kernel_rfl) (by kernel_rfl) (by kernel_rfl) (by kernel_rfl) (by kernel_rfl) (fun _ _ _ _ h => h) (by rfl) (by rfl) ?_; (refine ⟨_, yLdOld _ _ (by rfl) _ _ (by rfl) (agOf (by rfl)) HX.out, ?_⟩); (simp only [Act.put, List.setIfInBounds_toArray, List.set_cons_zero, List.set_cons_succ]))
                (refine regP 4 hS (fun _ h => h) rfl (by kernel_rfl) (by kernel_rfl) (by kernel_rfl) (fun _ _ _ _ h => h) (by rfl) (by rfl) ?_; apply Exists.intro; apply And.intro; (intro w; go_simp; try with_reducible rfl); (simp only [Act.put, List.setIfInBounds_toArray, List.set_cons_zero, List.set_cons_succ]))
                (refine regP 6 hS (fun _ h => h) rfl (by kernel_rfl) (by kernel_rfl) (by kernel_rfl) (fun _ _ _ _ h => h) (by rfl) (by rfl) ?_; apply Exists.intro; apply And.intro; (intro w; go_simp; try with_reducible rfl); (simp only [Act.put, List.setIfInBounds_toArray, List.set_cons_zero, List.set_cons_succ]))
                (refine regP 7 hS (fun _ h => h) rfl (by kernel_rfl) (by kernel_rfl) (by kernel_rfl) (fun _ _ _ _ h => h) (by rfl) (by rfl) ?_; apply Exists.intro; apply And.intro; (intro w; go_simp; try with_reducible rfl); (simp only [Act.put, List.setIfInBounds_toArray, List.set_cons_zero, List.set_cons_succ]))
                (refine regP 8 hS (fun _ h => h) rfl (by kernel_rfl) (by kernel_rfl) (by kernel_rfl) (fun _ _ _ _ h => h) (by rfl) (by rfl) ?_; apply Exists.intro; apply And.intro; (intro w; go_simp; try with_reducible rfl); (simp only [Act.put, List.setIfInBounds_toArray, List.set_cons_zero, List.set_cons_succ]))
                (refine regR 9 hS (fun _ h => h) rfl (by kernel_rfl) (by kernel_rfl) (by kernel_rfl) (by kernel_rfl) (by kernel_rfl) (fun _ _ _ _ h => h) (by rfl) (by rfl) ?_; (refine ⟨_, yLdOld _ _ (by rfl) _ _ (by rfl) (agOf (by rfl)) HX.out, ?_⟩); (simp only [Act.put, List.setIfInBounds_toArray, List.set_cons_zero, List.set_cons_succ]))
                (refine regP 10 hS (fun _ h => h) rfl (by kernel_rfl) (by kernel_rfl) (by kernel_rfl) (fun _ _ _ _ h => h) (by rfl) (by rfl) ?_; apply Exists.intro; apply And.intro; (intro w; go_simp; try with_reducible rfl); (simp only [Act.put, List.setIfInBounds_toArray, List.set_cons_zero, List.set_cons_succ]))
                (refine regA 5 rfl (by kernel_rfl) (by rfl) (by rfl) false (by kernel_rfl) (fun K hK => ?_); (first
                                                  | (refine Go.Sep.cl 15 _ _ (by rfl) (by rfl) (by kernel_rfl) (HA.out _) ?_; rintro e1 w1 ⟨rfl, rfl⟩; refine ⟨_, rfl, ?_⟩)
                                                  | (refine Go.Sep.cl 15 _ _ (by rfl) (by rfl) (by kernel_rfl) (place3_any _ _) ?_; rintro e1 w1 ⟨s, rfl, hs3, rfl⟩; refine ⟨_, rfl, ?_⟩)); refine hK _ _ _ hS (by first | (intro h; cases h; done) | exact fun _ _ h => h | exact fun _ _ h => h.drop | exact fun _ _ h => h.drop.drop | exact fun _ _ h => h.drop.pull1 | exact fun _ _ h => h.one Has.z | exact fun _ _ h => h.one (Has.s Has.z) | exact fun _ _ h => h.one (Has.s (Has.s Has.z))) ?_; clear hK K; (simp only [Act.put, List.setIfInBounds_toArray, List.set_cons_zero, List.set_cons_succ]))
                (refine regA 11 rfl (by kernel_rfl) (by rfl) (by rfl) true (by kernel_rfl) (fun K hK => ?_); (first
                                                  | (refine Go.Sep.cl 15 _ _ (by rfl) (by rfl) (by kernel_rfl) (HA.out _) ?_; rintro e1 w1 ⟨rfl, rfl⟩; refine ⟨_, rfl, ?_⟩)
                                                  | (refine Go.Sep.cl 15 _ _ (by rfl) (by rfl) (by kernel_rfl) (place3_any _ _) ?_; rintro e1 w1 ⟨s, rfl, hs3, rfl⟩; refine ⟨_, rfl, ?_⟩)); refine hK _ _ _ hS (by first | (intro h; cases h; done) | exact fun _ _ h => h | exact fun _ _ h => h.drop | exact fun _ _ h => h.drop.drop | exact fun _ _ h => h.drop.pull1 | exact fun _ _ h => h.one Has.z | exact fun _ _ h => h.one (Has.s Has.z) | exact fun _ _ h => h.one (Has.s (Has.s Has.z))) ?_; clear hK K; (simp only [Act.put, List.setIfInBounds_toArray, List.set_cons_zero, List.set_cons_succ]))
                (refine regP 12 hS (fun _ h => h) rfl (by kernel_rfl) (by kernel_rfl) (by kernel_rfl) (fun _ _ _ _ h => h) (by rfl) (by rfl) ?_; apply Exists.intro; apply And.intro; (intro w; go_simp; try with_reducible rfl); (simp only [Act.put, List.setIfInBounds_toArray, List.set_cons_zero, List.set_cons_succ]))
                (refine regP 13 hS (fun _ h => h) rfl (by kernel_rfl) (by kernel_rfl) (by kernel_rfl) (fun _ _ _ _ h => h) (by rfl) (by rfl) ?_; apply Exists.intro; apply And.intro; (intro w; go_simp; try with_reducible rfl); (simp only [Act.put, List.setIfInBounds_toArray, List.set_cons_zero, List.set_cons_succ]))
                refine regDone (by kernel_rfl) ?_
                clear HA HX
                obtain ⟨y, hy⟩ : ∃ y, C a = y := ⟨_, rfl⟩
                have hyl : y < 256 := by rw [← hy]; exact HCS.out a
                have HY := Lib.hid hy
                have HLD := Lib.hid (show (il C 31)[a]? = some (.int .i64 (y : Int)) by rw [il_at HA31.out, hy])
                clear hy
                have hs : s = 0 ∨ s = 1 ∨ s = 2 := by omega
                clear hs3
                rcases hs with rfl | rfl | rfl
                · have hor : bits .or .i64 ((y : Nat) : Int) 1 = ((y ||| 1 : Nat) : Int) := or_256' y 1 hyl (by decide)
                  have HOP := Lib.hid (fun w L (h : Sat W w (IsG p (LN k e M C) :: L)) => (show Calls Try.prog 35 #[.pointer (some ⟨p, 0, none⟩), .int .i64 (a : Int), .int .i64 0] w fun e' w' => e' = .returned (.int .i64 0) ∧ Sat W w' (IsG p (LN k e M (setF C a (y ||| 1))) :: L) by
                    have := clear_any h (a : Int) ((0 : Nat) : Int) HOK.out.marks
                    unfold bitE at this
                    rw [bitOk_yes (by rw [LN_len]; exact HAK.out) (by decide), if_pos rfl, LN_clear HAK.out (by decide), HY.out] at this
                    exact this))
                  have HIS := Lib.hid (il_set (f := C) (y ||| 1) HA31.out)
                  go_wp2_with (first
                    | (go_at_call 35; refine (HOP.out _ _ hS).mono ?_; rintro e1 w1 ⟨rfl, hS1⟩; clear hS; have hS := hS1; clear hS1)
                    | (refine toList (by rfl) ?_; refine ld hS _ _ (by rfl) _ _ (by rfl) (agOf (by rfl)) (Has.s Has.z) HLD.out ?_)
                    | (refine toList (by rfl) ?_; refine st hS _ _ _ (by rfl) _ _ (by rfl) _ (by first | exact evC | exact evT (by rfl)) (by rfl) (szOf (by rfl)) (Has.s Has.z) (by rw [il_len]; exact HA31.out) ?_; intro w1 hS1; clear hS; have hS := hS1; clear hS1; simp only [List.set_cons_zero, List.set_cons_succ] at hS; rw [HIS.out] at hS))
                  exact ⟨⟨i + 1, setF C a (y ||| 1), by go_num, by omega, LN_okC HOK.out HAK.out (show 0 < 8 by decide) HY.out, setF_lt HCS.out _ _ (Nat.or_lt_two_pow (n := 8) hyl (by decide)), hS⟩, by simp [intOf]; omega⟩
                · have hor : bits .or .i64 ((y : Nat) : Int) 2 = ((y ||| 2 : Nat) : Int) := or_256' y 2 hyl (by decide)
                  have HOP := Lib.hid (fun w L (h : Sat W w (IsG p (LN k e M C) :: L)) => (show Calls Try.prog 35 #[.pointer (some ⟨p, 0, none⟩), .int .i64 (a : Int), .int .i64 1] w fun e' w' => e' = .returned (.int .i64 0) ∧ Sat W w' (IsG p (LN k e M (setF C a (y ||| 2))) :: L) by
                    have := clear_any h (a : Int) ((1 : Nat) : Int) HOK.out.marks
                    unfold bitE at this
                    rw [bitOk_yes (by rw [LN_len]; exact HAK.out) (by decide), if_pos rfl, LN_clear HAK.out (by decide), HY.out] at this
                    exact this))
                  have HIS := Lib.hid (il_set (f := C) (y ||| 2) HA31.out)
                  go_wp2_with (first
                    | (go_at_call 35; refine (HOP.out _ _ hS).mono ?_; rintro e1 w1 ⟨rfl, hS1⟩; clear hS; have hS := hS1; clear hS1)
                    | (refine toList (by rfl) ?_; refine ld hS _ _ (by rfl) _ _ (by rfl) (agOf (by rfl)) (Has.s Has.z) HLD.out ?_)
                    | (refine toList (by rfl) ?_; refine st hS _ _ _ (by rfl) _ _ (by rfl) _ (by first | exact evC | exact evT (by rfl)) (by rfl) (szOf (by rfl)) (Has.s Has.z) (by rw [il_len]; exact HA31.out) ?_; intro w1 hS1; clear hS; have hS := hS1; clear hS1; simp only [List.set_cons_zero, List.set_cons_succ] at hS; rw [HIS.out] at hS))
                  exact ⟨⟨i + 1, setF C a (y ||| 2), by go_num, by omega, LN_okC HOK.out HAK.out (show 1 < 8 by decide) HY.out, setF_lt HCS.out _ _ (Nat.or_lt_two_pow (n := 8) hyl (by decide)), hS⟩, by simp [intOf]; omega⟩
                · have hor : bits .or .i64 ((y : Nat) : Int) 4 = ((y ||| 4 : Nat) : Int) := or_256' y 4 hyl (by decide)
                  have HOP := Lib.hid (fun w L (h : Sat W w (IsG p (LN k e M C) :: L)) => (show Calls Try.prog 35 #[.pointer (some ⟨p, 0, none⟩), .int .i64 (a : Int), .int .i64 2] w fun e' w' => e' = .returned (.int .i64 0) ∧ Sat W w' (IsG p (LN k e M (setF C a (y ||| 4))) :: L) by
                    have := clear_any h (a : Int) ((2 : Nat) : Int) HOK.out.marks
                    unfold bitE at this
                    rw [bitOk_yes (by rw [LN_len]; exact HAK.out) (by decide), if_pos rfl, LN_clear HAK.out (by decide), HY.out] at this
                    exact this))
                  have HIS := Lib.hid (il_set (f := C) (y ||| 4) HA31.out)
                  go_wp2_with (first
                    | (go_at_call 35; refine (HOP.out _ _ hS).mono ?_; rintro e1 w1 ⟨rfl, hS1⟩; clear hS; have hS := hS1; clear hS1)
                    | (refine toList (by rfl) ?_; refine ld hS _ _ (by rfl) _ _ (by rfl) (agOf (by rfl)) (Has.s Has.z) HLD.out ?_)
                    | (refine toList (by rfl) ?_; refine st hS _ _ _ (by rfl) _ _ (by rfl) _ (by first | exact evC | exact evT (by rfl)) (by rfl) (szOf (by rfl)) (Has.s Has.z) (by rw [il_len]; exact HA31.out) ?_; intro w1 hS1; clear hS; have hS := hS1; clear hS1; simp only [List.set_cons_zero, List.set_cons_succ] at hS; rw [HIS.out] at hS))
                  exact ⟨⟨i + 1, setF C a (y ||| 4), by go_num, by omega, LN_okC HOK.out HAK.out (show 2 < 8 by decide) HY.out, setF_lt HCS.out _ _ (Nat.or_lt_two_pow (n := 8) hyl (by decide)), hS⟩, by simp [intOf]; omega⟩
              · have e3 : decide ((i : Int) < 20) = false := decide_eq_false (by omega)
                have e4 : ¬ (i : Int) < 20 := by omega
                clear h20
                have H4 := Lib.hid hS
                obtain ⟨G, hG⟩ : ∃ G, LN k e M C = G := ⟨_, rfl⟩
                have HHAS := Lib.hid (fun j (hj : j < k) => (show andn (hasL G j ||| M j) (C j) = G.lab j by rw [← hG]; exact LN_has HOK.out hj HEK.out))
                have HACY := Lib.hid (show G.Acyc by rw [← hG]; exact LN_acyc _ _ _ _)
                have HLN := Lib.hid (show G.N.length = k by rw [← hG]; exact LN_len _ _ _ _)
                have HOKG := Lib.hid (show G.Ok by rw [← hG]; exact HOK.out)
                rw [hG] at H4
                clear hG hS
                go_wp2
                go_loopw [18, 19] (fun v18 v19 wz => ∃ i : Nat, v19 = .int .i64 i ∧ i ≤ k ∧ v18 = .int .i64 (hasL G i : Nat) ∧ Sat W wz [IsG p G, Cs p11 59 (il C 31), Cs p10 59 (il M 31)]) (fun _ v19 _ => k - (intOf v19).toNat)
                case atStart => exact ⟨0, rfl, by omega, rfl, H4.out⟩
                case round =>
                  clear H4
                  obtain ⟨i, rfl, hi, rfl, hS⟩ := hrel
                  by_cases hl : i < k
                  · have i5 : (i : Int) < (k : Int) := by omega
                    have i6 : (i : Int) < 31 := by omega
                    have hM := il_at (f := M) (show i < 31 by omega)
                    have hC := il_at (f := C) (show i < 31 by omega)
                    have hh := HHAS.out i hl
                    have hyl := hasL_lt G i
                    obtain ⟨y, hy⟩ : ∃ y, hasL G i = y := ⟨_, rfl⟩
                    obtain ⟨mi, hmi⟩ : ∃ mi, M i = mi := ⟨_, rfl⟩
                    obtain ⟨ci, hci⟩ : ∃ ci, C i = ci := ⟨_, rfl⟩
                    have hml : mi < 256 := by rw [← hmi]; exact HMS.out i
                    have hcl : ci < 256 := by rw [← hci]; exact HCS.out i
                    rw [hmi] at hM hh
                    rw [hci] at hC hh
                    rw [hy] at hh hyl ⊢
                    obtain ⟨o, ho⟩ : ∃ o, y ||| mi = o := ⟨_, rfl⟩
                    have hor := or_256' y mi hyl hml
                    have hol : o < 256 := by rw [← ho]; exact Nat.or_lt_two_pow (n := 8) hyl hml
                    rw [ho] at hh hor
                    have hand := andn_256 o ci hol hcl
                    rw [hh] at hand
                    have HOF := Lib.hid (fun w L (h : Sat W w (IsG p G :: L)) => by have := of_any h HOKG.out HACY.out (i : Int); rw [Gr.labI_nat (by rw [HLN.out]; exact hl)] at this; exact this)
                    have HM := Lib.hid hM
                    have HC := Lib.hid hC
                    have HL := Lib.hid hl
                    have HNX := Lib.hid (show hasL G (i + 1) = G.lab i from rfl)
                    clear hM hC hh hyl hy hmi hci hml hcl ho hol hl
                    go_wp2
                    refine regStart [] hS (by kernel_rfl) rfl ?_
                    intro w1 hS1
                    clear hS; have hS := hS1; clear hS1
                    (refine regP 0 hS (fun _ h => h) rfl (by kernel_rfl) (by kernel_rfl) (by kernel_rfl) (fun _ _ _ _ h => h) (by rfl) (by rfl) ?_; apply Exists.intro; apply And.intro; (intro w; go_simp; try with_reducible rfl); (simp only [Act.put, List.setIfInBounds_toArray, List.set_cons_zero, List.set_cons_succ]))
                    (refine regP 1 hS (fun _ h => h) rfl (by kernel_rfl) (by kernel_rfl) (by kernel_rfl) (fun _ _ _ _ h => h) (by rfl) (by rfl) ?_; apply Exists.intro; apply And.intro; (intro w; go_simp; try with_reducible rfl); (simp only [Act.put, List.setIfInBounds_toArray, List.set_cons_zero, List.set_cons_succ]))
                    (refine regP 2 hS (fun _ h => h) rfl (by kernel_rfl) (by kernel_rfl) (by kernel_rfl) (fun _ _ _ _ h => h) (by rfl) (by rfl) ?_; apply Exists.intro; apply And.intro; (intro w; go_simp; try with_reducible rfl); (simp only [Act.put, List.setIfInBounds_toArray, List.set_cons_zero, List.set_cons_succ]))
                    (refine regR 3 hS (fun _ h => h) rfl (by kernel_rfl) (by kernel_rfl) (by kernel_rfl) (by kernel_rfl) (by kernel_rfl) (fun _ _ _ _ h => h) (by rfl) (by rfl) ?_; (first | refine ⟨_, yLd _ _ (by rfl) _ _ (by rfl) (agOf (by rfl)) (Has.s (Has.s Has.z)) HM.out, ?_⟩ | refine ⟨_, yLd _ _ (by rfl) _ _ (by rfl) (agOf (by rfl)) (Has.s Has.z) HC.out, ?_⟩); (simp only [Act.put, List.setIfInBounds_toArray, List.set_cons_zero, List.set_cons_succ]))
                    (refine regP 4 hS (fun _ h => h) rfl (by kernel_rfl) (by kernel_rfl) (by kernel_rfl) (fun _ _ _ _ h => h) (by rfl) (by rfl) ?_; apply Exists.intro; apply And.intro; (intro w; go_simp; try with_reducible rfl); (simp only [Act.put, List.setIfInBounds_toArray, List.set_cons_zero, List.set_cons_succ]))
                    (refine regP 5 hS (fun _ h => h) rfl (by kernel_rfl) (by kernel_rfl) (by kernel_rfl) (fun _ _ _ _ h => h) (by rfl) (by rfl) ?_; apply Exists.intro; apply And.intro; (intro w; go_simp; try with_reducible rfl); (simp only [Act.put, List.setIfInBounds_toArray, List.set_cons_zero, List.set_cons_succ]))
                    (refine regP 6 hS (fun _ h => h) rfl (by kernel_rfl) (by kernel_rfl) (by kernel_rfl) (fun _ _ _ _ h => h) (by rfl) (by rfl) ?_; apply Exists.intro; apply And.intro; (intro w; go_simp; try with_reducible rfl); (simp only [Act.put, List.setIfInBounds_toArray, List.set_cons_zero, List.set_cons_succ]))
                    (refine regR 7 hS (fun _ h => h) rfl (by kernel_rfl) (by kernel_rfl) (by kernel_rfl) (by kernel_rfl) (by kernel_rfl) (fun _ _ _ _ h => h) (by rfl) (by rfl) ?_; (first | refine ⟨_, yLd _ _ (by rfl) _ _ (by rfl) (agOf (by rfl)) (Has.s (Has.s Has.z)) HM.out, ?_⟩ | refine ⟨_, yLd _ _ (by rfl) _ _ (by rfl) (agOf (by rfl)) (Has.s Has.z) HC.out, ?_⟩); (simp only [Act.put, List.setIfInBounds_toArray, List.set_cons_zero, List.set_cons_succ]))
                    (refine regP 8 hS (fun _ h => h) rfl (by kernel_rfl) (by kernel_rfl) (by kernel_rfl) (fun _ _ _ _ h => h) (by rfl) (by rfl) ?_; apply Exists.intro; apply And.intro; (intro w; go_simp; try with_reducible rfl); (simp only [Act.put, List.setIfInBounds_toArray, List.set_cons_zero, List.set_cons_succ]))
                    (refine regP 9 hS (fun _ h => h) rfl (by kernel_rfl) (by kernel_rfl) (by kernel_rfl) (fun _ _ _ _ h => h) (by rfl) (by rfl) ?_; apply Exists.intro; apply And.intro; (intro w; go_simp; try with_reducible rfl); (simp only [Act.put, List.setIfInBounds_toArray, List.set_cons_zero, List.set_cons_succ]))
                    refine regDone (by kernel_rfl) ?_
                    go_wp2_with (go_at_call 36; refine (HOF.out _ _ hS).mono ?_; rintro e1 w1 ⟨rfl, hS1⟩; clear hS; have hS := hS1; clear hS1)
                    exact ⟨⟨i + 1, by go_num, HL.out, by rw [HNX.out], hS⟩, by simp [intOf]; have := HL.out; omega⟩
                  · have i5 : ¬ (i : Int) < (k : Int) := by omega
                    clear hl
                    go_wp2_with (go_at_call 37; refine (wake_any hS).mono ?_; rintro e1 w1 ⟨rfl, hS1⟩; clear hS; have hS := hS1; clear hS1)
                    go_ret
                    exact ⟨rfl, hS.drop.drop.drop⟩
            · have e1 : decide ((i : Int) < (lt : Int)) = false := decide_eq_false (by omega)
              have e1b : decide (i < lt) = false := decide_eq_false hf
              have e4 : ¬ (i : Int) < (lt : Int) := by omega
              clear hf
              have H4 := Lib.hid hS
              obtain ⟨G, hG⟩ : ∃ G, LN k e M C = G := ⟨_, rfl⟩
              have HHAS := Lib.hid (fun j (hj : j < k) => (show andn (hasL G j ||| M j) (C j) = G.lab j by rw [← hG]; exact LN_has HOK.out hj HEK.out))
              have HACY := Lib.hid (show G.Acyc by rw [← hG]; exact LN_acyc _ _ _ _)
              have HLN := Lib.hid (show G.N.length = k by rw [← hG]; exact LN_len _ _ _ _)
              have HOKG := Lib.hid (show G.Ok by rw [← hG]; exact HOK.out)
              rw [hG] at H4
              clear hG hS
              go_wp2
              go_loopw [18, 19] (fun v18 v19 wz => ∃ i : Nat, v19 = .int .i64 i ∧ i ≤ k ∧ v18 = .int .i64 (hasL G i : Nat) ∧ Sat W wz [IsG p G, Cs p11 59 (il C 31), Cs p10 59 (il M 31)]) (fun _ v19 _ => k - (intOf v19).toNat)
              case atStart => exact ⟨0, rfl, by omega, rfl, H4.out⟩
              case round =>
                clear H4
                obtain ⟨i, rfl, hi, rfl, hS⟩ := hrel
                by_cases hl : i < k
                · have i5 : (i : Int) < (k : Int) := by omega
                  have i6 : (i : Int) < 31 := by omega
                  have hM := il_at (f := M) (show i < 31 by omega)
                  have hC := il_at (f := C) (show i < 31 by omega)
                  have hh := HHAS.out i hl
                  have hyl := hasL_lt G i
                  obtain ⟨y, hy⟩ : ∃ y, hasL G i = y := ⟨_, rfl⟩
                  obtain ⟨mi, hmi⟩ : ∃ mi, M i = mi := ⟨_, rfl⟩
                  obtain ⟨ci, hci⟩ : ∃ ci, C i = ci := ⟨_, rfl⟩
                  have hml : mi < 256 := by rw [← hmi]; exact HMS.out i
                  have hcl : ci < 256 := by rw [← hci]; exact HCS.out i
                  rw [hmi] at hM hh
                  rw [hci] at hC hh
                  rw [hy] at hh hyl ⊢
                  obtain ⟨o, ho⟩ : ∃ o, y ||| mi = o := ⟨_, rfl⟩
                  have hor := or_256' y mi hyl hml
                  have hol : o < 256 := by rw [← ho]; exact Nat.or_lt_two_pow (n := 8) hyl hml
                  rw [ho] at hh hor
                  have hand := andn_256 o ci hol hcl
                  rw [hh] at hand
                  have HOF := Lib.hid (fun w L (h : Sat W w (IsG p G :: L)) => by have := of_any h HOKG.out HACY.out (i : Int); rw [Gr.labI_nat (by rw [HLN.out]; exact hl)] at this; exact this)
                  have HM := Lib.hid hM
                  have HC := Lib.hid hC
                  have HL := Lib.hid hl
                  have HNX := Lib.hid (show hasL G (i + 1) = G.lab i from rfl)
                  clear hM hC hh hyl hy hmi hci hml hcl ho hol hl
                  go_wp2
                  refine regStart [] hS (by kernel_rfl) rfl ?_
                  intro w1 hS1
                  clear hS; have hS := hS1; clear hS1
                  (refine regP 0 hS (fun _ h => h) rfl (by kernel_rfl) (by kernel_rfl) (by kernel_rfl) (fun _ _ _ _ h => h) (by rfl) (by rfl) ?_; apply Exists.intro; apply And.intro; (intro w; go_simp; try with_reducible rfl); (simp only [Act.put, List.setIfInBounds_toArray, List.set_cons_zero, List.set_cons_succ]))
                  (refine regP 1 hS (fun _ h => h) rfl (by kernel_rfl) (by kernel_rfl) (by kernel_rfl) (fun _ _ _ _ h => h) (by rfl) (by rfl) ?_; apply Exists.intro; apply And.intro; (intro w; go_simp; try with_reducible rfl); (simp only [Act.put, List.setIfInBounds_toArray, List.set_cons_zero, List.set_cons_succ]))
                  (refine regP 2 hS (fun _ h => h) rfl (by kernel_rfl) (by kernel_rfl) (by kernel_rfl) (fun _ _ _ _ h => h) (by rfl) (by rfl) ?_; apply Exists.intro; apply And.intro; (intro w; go_simp; try with_reducible rfl); (simp only [Act.put, List.setIfInBounds_toArray, List.set_cons_zero, List.set_cons_succ]))
                  (refine regR 3 hS (fun _ h => h) rfl (by kernel_rfl) (by kernel_rfl) (by kernel_rfl) (by kernel_rfl) (by kernel_rfl) (fun _ _ _ _ h => h) (by rfl) (by rfl) ?_; (first | refine ⟨_, yLd _ _ (by rfl) _ _ (by rfl) (agOf (by rfl)) (Has.s (Has.s Has.z)) HM.out, ?_⟩ | refine ⟨_, yLd _ _ (by rfl) _ _ (by rfl) (agOf (by rfl)) (Has.s Has.z) HC.out, ?_⟩); (simp only [Act.put, List.setIfInBounds_toArray, List.set_cons_zero, List.set_cons_succ]))
                  (refine regP 4 hS (fun _ h => h) rfl (by kernel_rfl) (by kernel_rfl) (by kernel_rfl) (fun _ _ _ _ h => h) (by rfl) (by rfl) ?_; apply Exists.intro; apply And.intro; (intro w; go_simp; try with_reducible rfl); (simp only [Act.put, List.setIfInBounds_toArray, List.set_cons_zero, List.set_cons_succ]))
                  (refine regP 5 hS (fun _ h => h) rfl (by kernel_rfl) (by kernel_rfl) (by kernel_rfl) (fun _ _ _ _ h => h) (by rfl) (by rfl) ?_; apply Exists.intro; apply And.intro; (intro w; go_simp; try with_reducible rfl); (simp only [Act.put, List.setIfInBounds_toArray, List.set_cons_zero, List.set_cons_succ]))
                  (refine regP 6 hS (fun _ h => h) rfl (by kernel_rfl) (by kernel_rfl) (by kernel_rfl) (fun _ _ _ _ h => h) (by rfl) (by rfl) ?_; apply Exists.intro; apply And.intro; (intro w; go_simp; try with_reducible rfl); (simp only [Act.put, List.setIfInBounds_toArray, List.set_cons_zero, List.set_cons_succ]))
                  (refine regR 7 hS (fun _ h => h) rfl (by kernel_rfl) (by kernel_rfl) (by kernel_rfl) (by kernel_rfl) (by kernel_rfl) (fun _ _ _ _ h => h) (by rfl) (by rfl) ?_; (first | refine ⟨_, yLd _ _ (by rfl) _ _ (by rfl) (agOf (by rfl)) (Has.s (Has.s Has.z)) HM.out, ?_⟩ | refine ⟨_, yLd _ _ (by rfl) _ _ (by rfl) (agOf (by rfl)) (Has.s Has.z) HC.out, ?_⟩); (simp only [Act.put, List.setIfInBounds_toArray, List.set_cons_zero, List.set_cons_succ]))
                  (refine regP 8 hS (fun _ h => h) rfl (by kernel_rfl) (by kernel_rfl) (by kernel_rfl) (fun _ _ _ _ h => h) (by rfl) (by rfl) ?_; apply Exists.intro; apply And.intro; (intro w; go_simp; try with_reducible rfl); (simp only [Act.put, List.setIfInBounds_toArray, List.set_cons_zero, List.set_cons_succ]))
                  (refine regP 9 hS (fun _ h => h) rfl (by kernel_rfl) (by kernel_rfl) (by kernel_rfl) (fun _ _ _ _ h => h) (by rfl) (by rfl) ?_; apply Exists.intro; apply And.intro; (intro w; go_simp; try with_reducible rfl); (simp only [Act.put, List.setIfInBounds_toArray, List.set_cons_zero, List.set_cons_succ]))
                  refine regDone (by kernel_rfl) ?_
                  go_wp2_with (go_at_call 36; refine (HOF.out _ _ hS).mono ?_; rintro e1 w1 ⟨rfl, hS1⟩; clear hS; have hS := hS1; clear hS1)
                  exact ⟨⟨i + 1, by go_num, HL.out, by rw [HNX.out], hS⟩, by simp [intOf]; have := HL.out; omega⟩
                · have i5 : ¬ (i : Int) < (k : Int) := by omega
                  clear hl
                  go_wp2_with (go_at_call 37; refine (wake_any hS).mono ?_; rintro e1 w1 ⟨rfl, hS1⟩; clear hS; have hS := hS1; clear hS1)
                  go_ret
                  exact ⟨rfl, hS.drop.drop.drop⟩

set_option maxRecDepth 100000 in
theorem Lines.contract (H : Type) (enc : TypeId × Value → H) (W : World) (base : Nat) (args : Array Value) (ds gs : List (DataW H)) (before : List MemPlace)
    (hval : ∀ (j : Nat) t v, Try.f8.params[j]? = some t → args[j]? = some v → Value.okWide Try.prog W .any base t v)
    (hW : DataW.Whole enc Try.prog Try.f8.params.toList Rows.labelLinesSpec.vars false W args.toList ds gs before)
    (hreach : (DataW.weightsEach Try.prog (Try.f8.params.toList ++ Rows.labelLinesSpec.plain.varTypes Try.prog) (ds ++ gs)).all (· ≤ reachBytes) = true) :
    Calls Try.prog 8 args W fun e W' => ∃ v, e = .returned v ∧ Rows.labelLinesSpec.post enc Try.prog Try.f8 false true false false W args v W' := by
  have hW' := hW
  obtain ⟨p, q, hA, hV, rfl, hfz, hnd⟩ := hW
  rw [Try.params8] at hA hval hreach
  obtain ⟨v1, vs1, d1, ds1, p1, q1, hargs, rfl, rfl, h1, r1⟩ := trodAll_cons hA
  obtain ⟨v2, vs2, d2, ds2, p2, q2, rfl, rfl, rfl, h2, r2⟩ := trodAll_cons r1
  obtain ⟨v3, vs3, d3, ds3, p3, q3, rfl, rfl, rfl, h3, r3⟩ := trodAll_cons r2
  obtain ⟨rfl, rfl, rfl⟩ := trodAll_nil r3
  obtain rfl : args = #[v1, v2, v3] := by cases args; simp_all
  obtain ⟨rfl, rfl⟩ := trodVars_none hV
  obtain ⟨ao1, l1, c1, rfl⟩ := okWide_slice Try.underlying34 (hval 0 34 v1 rfl rfl)
  obtain ⟨ao2, l2, c2, rfl⟩ := okWide_slice Try.underlying34 (hval 1 34 v2 rfl rfl)
  obtain ⟨a3, rfl, rfl, rfl, _⟩ := open_int Try.underlying3 (hval 2 3 v3 rfl rfl) h3
  obtain ⟨fl, hfl, hrf, _⟩ := open_ints h1
  obtain ⟨tl, htl, hrt, _⟩ := open_ints h2
  refine (Lines.walk a3 fl tl W hfl htl hrf hrt).mono ?_
  refine fun e W' ⟨he, hS⟩ => ?_
  subst he
  exact ⟨_, rfl, law_post (tb := 4) (by kernel_rfl) (by kernel_rfl) rfl Try.underlying4 rfl hW' rfl hS⟩

theorem Lines.own : ownKnob Try.prog.godebug = none := by kernel_rfl
set_option maxRecDepth 100000 in
theorem Lines.lifted (os : Os) (started : os.Started) (H : Type) (enc : TypeId × Value → H) :
    ReturnsInHanded {} Try.checked os 8 .any (Rows.labelLinesSpec.pre6 enc Try.prog Try.f8 Rows.labelLinesRow.domain false) (Rows.labelLinesSpec.post enc Try.prog Try.f8 false true false false) := by
  refine returnsInHanded_of_change_shaped (C := Try.checked) Lines.own started (by kernel_rfl) Try.func8
    (ChangeSpec.witness6 (enc := enc) (C := Try.checked) false ⟨#[], #[.slice none 0 0, .slice none 0 0, .int .i64 0], []⟩ 8 (by kernel_rfl) (by kernel_rfl) (by kernel_rfl) (by kernel_rfl)) ?_
  intro W base args ds gs before hval hW _ hreach _ _
  exact Lines.contract H enc W base args ds gs before hval hW hreach

theorem Lines.holds : Rows.LabelLinesSaid :=
  OpenClaim.holds_of_wide 8 Try.f8 rfl rfl rfl rfl rfl rfl rfl ⟨rfl, rfl, rfl, rfl, rfl⟩ rfl rfl rfl rfl rfl (by kernel_rfl) Try.func8 (by kernel_rfl)
    (of_decide_eq_true (by kernel_rfl)) (by unfold Func.isWrapper; first | (rw [if_pos (by decide +kernel)]; kernel_rfl) | (rw [if_neg (by decide +kernel)]; exact ⟨rfl, rfl⟩))
    (fun os started H enc _ => Lines.lifted os started H enc)
end Go.Proofs.Ytfbphibgcolmbaa
