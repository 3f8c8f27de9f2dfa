/-
  For all calls, LabelKeeps answers true: no condition.
-/
import Derived.Test.YtfbphibgcolmbaaLbKeepP
namespace Go.Proofs.Ytfbphibgcolmbaa
open Go.RowKit Go.Sep Go.ChangeShapes Go.WideShapes Go.ChangeAt
set_option linter.unusedSimpArgs false
set_option linter.unusedVariables false
attribute [local irreducible] Go.Oper.wp Go.wpList Go.Calls Go.Code.wp Go.Sep.Reg
attribute [local irreducible] IsG IsC
set_option maxRecDepth 20000 in
set_option maxHeartbeats 8000000 in
theorem Keeps.walk (l : List GOpD) (ao : Option Addr) (c0 : Nat) (W : World) (hr : Rd W (.slice ao l.length c0) l.length 3 (l.flatMap gov)) :
    Calls Try.prog 13 #[.slice ao l.length c0] W fun e w' => e = .returned (.bool true) ∧ Sat W w' [] := by
  have hS := Sat.start W
  have HR := Lib.hid hr
  obtain ⟨_, _, he, hc1, hc2, _, h5⟩ := hr
  simp only [Value.slice.injEq, true_and] at he
  obtain ⟨rfl, rfl⟩ := he
  have H5 := Lib.hid h5
  clear h5
  go_enter Try.func13, Try.ntmps13
  go_wp2_with (first
    | (go_at_call 14; refine (new_any hS).mono ?_; rintro e w1 ⟨p, rfl, hS1⟩; clear hS; have hS := hS1; clear hS1)
    | (go_at_call 45; refine (cnew_any hS).mono ?_; rintro e w1 ⟨c, rfl, hS1⟩; clear hS; have hS := hS1; clear hS1))
  have H0 := Lib.hid hS.pull1
  go_loopw [5] (fun v wz => ∃ (i : Nat) (G : Gr) (f : Int → Option (Nat × Nat)), v = .int .i64 i ∧ i ≤ 80 ∧ (G.Ok ∧ G.Acyc ∧ Knows f G) ∧ G.E.length ≤ i ∧ G.N.length ≤ i ∧ Sat W wz [IsG p G, IsC c f]) (fun v _ => 80 - (intOf v).toNat)
  case atStart => exact ⟨0, Gr.new, _, rfl, by omega, ⟨Gr.new_ok, Gr.acyc_new, Knows.none⟩, Nat.le_refl _, Nat.le_refl _, H0.out⟩
  case round =>
    clear hS H0
    obtain ⟨i, G, f, rfl, hi, hok, hel, hnl, hS⟩ := hrel
    have HOK := Lib.hid hok
    obtain ⟨m, hm⟩ : ∃ m, G.N.length = m := ⟨_, rfl⟩
    have HM := Lib.hid hm
    have HMI := Lib.hid (show (G.N.length : Int) = (m : Int) by rw [hm])
    have hm80 : m ≤ 80 := by omega
    have HEL := Lib.hid hel
    have HNL := Lib.hid hnl
    clear hok hel hnl hm
    by_cases hf : i < l.length
    · have i1 : (i : Int) < (l.length : Int) := by omega
      have e1 : decide ((i : Int) < (l.length : Int)) = true := decide_eq_true i1
      by_cases h80 : i < 80
      · have i3 : (i : Int) < 80 := by omega
        have e3 : decide ((i : Int) < 80) = true := decide_eq_true i3
        obtain ⟨⟨xk, xa, xb⟩, hx⟩ : ∃ x, l[i]? = some x := ⟨_, List.getElem?_eq_getElem hf⟩
        have HX := Lib.hid hx
        obtain ⟨b0, off, rfl, _⟩ := H5.out (by omega)
        clear hx
        obtain ⟨q, hq⟩ : ∃ q : Nat, xk % 9 = q := ⟨(xk % 9).toNat, by omega⟩
        have HK := Lib.hid (fun w => (show Calls Try.prog 15 #[.int .i64 xk, .int .i64 9] w fun e w' => e = .returned (.int .i64 (q : Int)) ∧ w = w' by rw [← hq]; exact place_any xk 9 (by decide) (by decide) w))
        clear hq
        by_cases hq2 : q < 2
        · have q1 : (q : Int) < 2 := by omega
          have q2 : decide ((q : Int) < 2) = true := decide_eq_true q1
          clear hq2
          obtain ⟨a, hxa⟩ : ∃ a : Nat, xa % 5 = a := ⟨(xa % 5).toNat, by omega⟩
          obtain ⟨b, hxb⟩ : ∃ b : Nat, xb % 9 = b := ⟨(xb % 9).toNat, by omega⟩
          have ha : (a : Int) < 5 := by omega
          have hb : (b : Int) < 9 := by omega
          have HA := Lib.hid (fun w => (show Calls Try.prog 15 #[.int .i64 xa, .int .i64 5] w fun e w' => e = .returned (.int .i64 (a : Int)) ∧ w = w' by rw [← hxa]; exact place_any xa 5 (by decide) (by decide) w))
          have HB := Lib.hid (fun w => (show Calls Try.prog 15 #[.int .i64 xb, .int .i64 9] w fun e w' => e = .returned (.int .i64 (b : Int)) ∧ w = w' by rw [← hxb]; exact place_any xb 9 (by decide) (by decide) w))
          clear hxa hxb
          obtain ⟨G2, hG2⟩ : ∃ G2, G.plus (1 + (a : Int)) (1 + (b : Int)) = G2 := ⟨_, rfl⟩
          have HADD := Lib.hid (fun w (L : List Asrt) (h : Sat W w (IsG p G :: L)) => (show Calls Try.prog 17 #[.pointer (some ⟨p, 0, none⟩), .int .i64 (1 + (a : Int)), .int .i64 (1 + (b : Int))] w fun e w' => e = .returned (.tuple #[.int .i64 (m : Int), .int .i64 0]) ∧ Sat W w' (IsG p G2 :: L) by
            have hnew : newOk (1 + (a : Int)) (1 + (b : Int)) = true := newOk_yes (by omega) (by omega) (by omega) (by omega)
            have hadd : G.addOk (1 + (a : Int)) (1 + (b : Int)) = true := by
              unfold Gr.addOk
              rw [hnew, HM.out, decide_eq_true (by omega)]; rfl
            have := add_any h HOK.out.1 (1 + (a : Int)) (1 + (b : Int))
            unfold Gr.addI Gr.addE Gr.addG at this
            rw [hadd, if_pos rfl, if_pos rfl, hnew, if_pos rfl, HM.out, if_pos (by omega), hG2] at this
            exact this))
          have HOK2 := Lib.hid (show G2.Ok ∧ G2.Acyc ∧ Knows (updC f (m : Int) (0, 0)) G2 by
            rw [← hG2]
            refine ⟨Gr.plus_ok HOK.out.1 (by rw [HM.out]; omega), Gr.acyc_plus HOK.out.2.1 _ _, ?_⟩
            have := HOK.out.2.2.plus (k := 1 + (a : Int)) (o := 1 + (b : Int)) HOK.out.1 (by rw [HM.out]; omega)
            rw [HM.out] at this
            exact this)
          have HE2 : Hid (G2.E.length ≤ i + 1) := Lib.hid (by rw [← hG2]; exact Nat.le_succ_of_le HEL.out)
          have HN2 : Hid (G2.N.length ≤ i + 1) := Lib.hid (by rw [← hG2]; have := HNL.out; simp [Gr.plus]; omega)
          clear hG2
          go_wp2_with (first
            | (refine toList (by rfl) ?_; refine wp_of_reads (rLdRdA (HR.out.old hS) (gov_len l) _ _ (by rfl) _ (by rfl) (agOf (by rfl)) (szOf (by rfl)) i (by rfl) HX.out (by omega)) ?_)
            | (refine toList (by rfl) ?_; refine al hS _ (by rfl) (zrOf (by rfl)) ?_; intro px w1 hS1; clear hS; have hS := hS1; clear hS1; rw [cells_agg] at hS)
            | (refine toList (by rfl) ?_; refine stW hS _ _ _ (by rfl) (by rfl) [.int .i64 xk, .int .i64 xa, .int .i64 xb] (by rfl) (by simp [Value.oneCell']) (szOf (by rfl)) Has.z rfl ?_; intro w1 hS1; clear hS; have hS := hS1; clear hS1; dsimp only [List.set_cons_zero] at hS)
            | (refine toList (by rfl) ?_; refine ld hS _ _ (by rfl) _ _ (by rfl) (agOf (by rfl)) (by first | exact Has.z | exact Has.s Has.z | exact Has.s (Has.s Has.z) | exact Has.s (Has.s (Has.s Has.z)) | exact Has.s (Has.s (Has.s (Has.s Has.z))) | exact Has.s (Has.s (Has.s (Has.s (Has.s Has.z))))) (by rfl) ?_)
            | (go_at_call 15; refine (HK.out _).mono ?_; rintro e w1 ⟨rfl, rfl⟩)
            | (go_at_call 16; refine (len_any hS.pull1 HMI.out).mono ?_; rintro e w1 ⟨rfl, rfl⟩))
          refine regStart [7, 9] hS (by kernel_rfl) rfl ?_
          intro w1 hS1
          clear hS; have hS := hS1; clear hS1
          (refine regP 0 hS (fun _ h => h) rfl (by kernel_rfl) (by kernel_rfl) (by kernel_rfl) (fun _ _ _ _ h => h) (by rfl) (by rfl) ?_; apply Exists.intro; apply And.intro; (intro w; go_simp; try with_reducible rfl); (simp only [Act.put, List.setIfInBounds_toArray, List.set_cons_zero, List.set_cons_succ]))
          (refine regP 1 hS (fun _ h => h) rfl (by kernel_rfl) (by kernel_rfl) (by kernel_rfl) (fun _ _ _ _ h => h) (by rfl) (by rfl) ?_; apply Exists.intro; apply And.intro; (intro w; go_simp; try with_reducible rfl); (simp only [Act.put, List.setIfInBounds_toArray, List.set_cons_zero, List.set_cons_succ]))
          (refine regR 2 hS (fun _ h => h) rfl (by kernel_rfl) (by kernel_rfl) (by kernel_rfl) (by kernel_rfl) (by kernel_rfl) (fun _ _ _ _ h => h) (by rfl) (by rfl) ?_; (refine ⟨_, yLd _ _ (by rfl) _ _ (by rfl) (agOf (by rfl)) (by first | exact Has.z | exact Has.s Has.z | exact Has.s (Has.s Has.z) | exact Has.s (Has.s (Has.s Has.z)) | exact Has.s (Has.s (Has.s (Has.s Has.z))) | exact Has.s (Has.s (Has.s (Has.s (Has.s Has.z))))) (by rfl), ?_⟩); (simp only [Act.put, List.setIfInBounds_toArray, List.set_cons_zero, List.set_cons_succ]))
          (refine regP 5 hS (fun _ h => h) rfl (by kernel_rfl) (by kernel_rfl) (by kernel_rfl) (fun _ _ _ _ h => h) (by rfl) (by rfl) ?_; apply Exists.intro; apply And.intro; (intro w; go_simp; try with_reducible rfl); (simp only [Act.put, List.setIfInBounds_toArray, List.set_cons_zero, List.set_cons_succ]))
          (refine regR 6 hS (fun _ h => h) rfl (by kernel_rfl) (by kernel_rfl) (by kernel_rfl) (by kernel_rfl) (by kernel_rfl) (fun _ _ _ _ h => h) (by rfl) (by rfl) ?_; (refine ⟨_, yLd _ _ (by rfl) _ _ (by rfl) (agOf (by rfl)) (by first | exact Has.z | exact Has.s Has.z | exact Has.s (Has.s Has.z) | exact Has.s (Has.s (Has.s Has.z)) | exact Has.s (Has.s (Has.s (Has.s Has.z))) | exact Has.s (Has.s (Has.s (Has.s (Has.s Has.z))))) (by rfl), ?_⟩); (simp only [Act.put, List.setIfInBounds_toArray, List.set_cons_zero, List.set_cons_succ]))
          (refine regA 3 rfl (by kernel_rfl) (by rfl) (by rfl) false (by kernel_rfl) (fun K hK => ?_); (first
                                | (refine Go.Sep.cl 15 _ _ (by rfl) (by rfl) (by kernel_rfl) (HA.out _) ?_; rintro e w1 ⟨rfl, rfl⟩; refine ⟨_, rfl, ?_⟩)
                                | (refine Go.Sep.cl 15 _ _ (by rfl) (by rfl) (by kernel_rfl) (HB.out _) ?_; rintro e w1 ⟨rfl, rfl⟩; refine ⟨_, rfl, ?_⟩)
                                | (refine Go.Sep.cl 17 _ _ (by rfl) (by rfl) (by kernel_rfl) (HADD.out _ _ hS.pull1) ?_; rintro e w1 ⟨rfl, hS1⟩; clear hS; have hS := hS1; clear hS1; refine ⟨_, rfl, ?_⟩)); refine hK _ _ _ hS (by first | (intro h; cases h; done) | exact fun _ _ h => h | exact fun _ _ h => h.drop | exact fun _ _ h => h.drop.drop | exact fun _ _ h => h.drop.pull1 | exact fun _ _ h => h.one Has.z | exact fun _ _ h => h.one (Has.s Has.z) | exact fun _ _ h => h.one (Has.s (Has.s Has.z))) ?_; clear hK K; (simp only [Act.put, List.setIfInBounds_toArray, List.set_cons_zero, List.set_cons_succ]))
          (refine regP 4 hS (fun _ h => h) rfl (by kernel_rfl) (by kernel_rfl) (by kernel_rfl) (fun _ _ _ _ h => h) (by rfl) (by rfl) ?_; apply Exists.intro; apply And.intro; (intro w; go_simp; try with_reducible rfl); (simp only [Act.put, List.setIfInBounds_toArray, List.set_cons_zero, List.set_cons_succ]); try simp (disch := omega) only [IntWalk.i64_in])
          (refine regA 7 rfl (by kernel_rfl) (by rfl) (by rfl) true (by kernel_rfl) (fun K hK => ?_); (first
                                | (refine Go.Sep.cl 15 _ _ (by rfl) (by rfl) (by kernel_rfl) (HA.out _) ?_; rintro e w1 ⟨rfl, rfl⟩; refine ⟨_, rfl, ?_⟩)
                                | (refine Go.Sep.cl 15 _ _ (by rfl) (by rfl) (by kernel_rfl) (HB.out _) ?_; rintro e w1 ⟨rfl, rfl⟩; refine ⟨_, rfl, ?_⟩)
                                | (refine Go.Sep.cl 17 _ _ (by rfl) (by rfl) (by kernel_rfl) (HADD.out _ _ hS.pull1) ?_; rintro e w1 ⟨rfl, hS1⟩; clear hS; have hS := hS1; clear hS1; refine ⟨_, rfl, ?_⟩)); refine hK _ _ _ hS (by first | (intro h; cases h; done) | exact fun _ _ h => h | exact fun _ _ h => h.drop | exact fun _ _ h => h.drop.drop | exact fun _ _ h => h.drop.pull1 | exact fun _ _ h => h.one Has.z | exact fun _ _ h => h.one (Has.s Has.z) | exact fun _ _ h => h.one (Has.s (Has.s Has.z))) ?_; clear hK K; (simp only [Act.put, List.setIfInBounds_toArray, List.set_cons_zero, List.set_cons_succ]))
          (refine regP 8 hS (fun _ h => h) rfl (by kernel_rfl) (by kernel_rfl) (by kernel_rfl) (fun _ _ _ _ h => h) (by rfl) (by rfl) ?_; apply Exists.intro; apply And.intro; (intro w; go_simp; try with_reducible rfl); (simp only [Act.put, List.setIfInBounds_toArray, List.set_cons_zero, List.set_cons_succ]); try simp (disch := omega) only [IntWalk.i64_in])
          (refine regA 9 rfl (by kernel_rfl) (by rfl) (by rfl) true (by kernel_rfl) (fun K hK => ?_); (first
                                | (refine Go.Sep.cl 15 _ _ (by rfl) (by rfl) (by kernel_rfl) (HA.out _) ?_; rintro e w1 ⟨rfl, rfl⟩; refine ⟨_, rfl, ?_⟩)
                                | (refine Go.Sep.cl 15 _ _ (by rfl) (by rfl) (by kernel_rfl) (HB.out _) ?_; rintro e w1 ⟨rfl, rfl⟩; refine ⟨_, rfl, ?_⟩)
                                | (refine Go.Sep.cl 17 _ _ (by rfl) (by rfl) (by kernel_rfl) (HADD.out _ _ hS.pull1) ?_; rintro e w1 ⟨rfl, hS1⟩; clear hS; have hS := hS1; clear hS1; refine ⟨_, rfl, ?_⟩)); refine hK _ _ _ hS (by first | (intro h; cases h; done) | exact fun _ _ h => h | exact fun _ _ h => h.drop | exact fun _ _ h => h.drop.drop | exact fun _ _ h => h.drop.pull1 | exact fun _ _ h => h.one Has.z | exact fun _ _ h => h.one (Has.s Has.z) | exact fun _ _ h => h.one (Has.s (Has.s Has.z))) ?_; clear hK K; (simp only [Act.put, List.setIfInBounds_toArray, List.set_cons_zero, List.set_cons_succ]))
          (refine regP 10 hS (fun _ h => h) rfl (by kernel_rfl) (by kernel_rfl) (by kernel_rfl) (fun _ _ _ _ h => h) (by rfl) (by rfl) ?_; apply Exists.intro; apply And.intro; (intro w; go_simp; try with_reducible rfl); (simp only [Act.put, List.setIfInBounds_toArray, List.set_cons_zero, List.set_cons_succ]))
          (refine regP 11 hS (fun _ h => h) rfl (by kernel_rfl) (by kernel_rfl) (by kernel_rfl) (fun _ _ _ _ h => h) (by rfl) (by rfl) ?_; apply Exists.intro; apply And.intro; (intro w; go_simp; try with_reducible rfl); (simp only [Act.put, List.setIfInBounds_toArray, List.set_cons_zero, List.set_cons_succ]))
          (refine regP 12 hS (fun _ h => h) rfl (by kernel_rfl) (by kernel_rfl) (by kernel_rfl) (fun _ _ _ _ h => h) (by rfl) (by rfl) ?_; apply Exists.intro; apply And.intro; (intro w; go_simp; try with_reducible rfl); (simp only [Act.put, List.setIfInBounds_toArray, List.set_cons_zero, List.set_cons_succ]))
          (refine regP 13 hS (fun _ h => h) rfl (by kernel_rfl) (by kernel_rfl) (by kernel_rfl) (fun _ _ _ _ h => h) (by rfl) (by rfl) ?_; apply Exists.intro; apply And.intro; (intro w; go_simp; try with_reducible rfl); (simp only [Act.put, List.setIfInBounds_toArray, List.set_cons_zero, List.set_cons_succ]))
          (refine regP 14 hS (fun _ h => h) rfl (by kernel_rfl) (by kernel_rfl) (by kernel_rfl) (fun _ _ _ _ h => h) (by rfl) (by rfl) ?_; apply Exists.intro; apply And.intro; (intro w; go_simp; try with_reducible rfl); (simp only [Act.put, List.setIfInBounds_toArray, List.set_cons_zero, List.set_cons_succ]))
          refine regDone (by kernel_rfl) ?_
          go_wp2_with (go_at_call 46; refine (cnode_any (hS.re [2]) (m : Int)).mono ?_; rintro e w1 ⟨rfl, hS1⟩; clear hS; have hS := hS1; clear hS1)
          exact ⟨⟨i + 1, G2, _, by go_num, by omega, HOK2.out, HE2.out, HN2.out, hS.pull1.take2⟩, by simp [intOf]; omega⟩
        · have q1 : decide ((q : Int) < 2) = false := decide_eq_false (by omega)
          have q1b : ¬ (q : Int) < 2 := by omega
          clear hq2
          by_cases hm0 : m = 0
          · have m1 : ((m : Int) == 0) = true := by simp [hm0]
            have m2 : (m == 0) = true := by simp [hm0]
            clear hm0
            obtain ⟨a, hxa⟩ : ∃ a : Nat, xa % 5 = a := ⟨(xa % 5).toNat, by omega⟩
            obtain ⟨b, hxb⟩ : ∃ b : Nat, xb % 9 = b := ⟨(xb % 9).toNat, by omega⟩
            have ha : (a : Int) < 5 := by omega
            have hb : (b : Int) < 9 := by omega
            have HA := Lib.hid (fun w => (show Calls Try.prog 15 #[.int .i64 xa, .int .i64 5] w fun e w' => e = .returned (.int .i64 (a : Int)) ∧ w = w' by rw [← hxa]; exact place_any xa 5 (by decide) (by decide) w))
            have HB := Lib.hid (fun w => (show Calls Try.prog 15 #[.int .i64 xb, .int .i64 9] w fun e w' => e = .returned (.int .i64 (b : Int)) ∧ w = w' by rw [← hxb]; exact place_any xb 9 (by decide) (by decide) w))
            clear hxa hxb
            obtain ⟨G2, hG2⟩ : ∃ G2, G.plus (1 + (a : Int)) (1 + (b : Int)) = G2 := ⟨_, rfl⟩
            have HADD := Lib.hid (fun w (L : List Asrt) (h : Sat W w (IsG p G :: L)) => (show Calls Try.prog 17 #[.pointer (some ⟨p, 0, none⟩), .int .i64 (1 + (a : Int)), .int .i64 (1 + (b : Int))] w fun e w' => e = .returned (.tuple #[.int .i64 (m : Int), .int .i64 0]) ∧ Sat W w' (IsG p G2 :: L) by
              have hnew : newOk (1 + (a : Int)) (1 + (b : Int)) = true := newOk_yes (by omega) (by omega) (by omega) (by omega)
              have hadd : G.addOk (1 + (a : Int)) (1 + (b : Int)) = true := by
                unfold Gr.addOk
                rw [hnew, HM.out, decide_eq_true (by omega)]; rfl
              have := add_any h HOK.out.1 (1 + (a : Int)) (1 + (b : Int))
              unfold Gr.addI Gr.addE Gr.addG at this
              rw [hadd, if_pos rfl, if_pos rfl, hnew, if_pos rfl, HM.out, if_pos (by omega), hG2] at this
              exact this))
            have HOK2 := Lib.hid (show G2.Ok ∧ G2.Acyc ∧ Knows (updC f (m : Int) (0, 0)) G2 by
              rw [← hG2]
              refine ⟨Gr.plus_ok HOK.out.1 (by rw [HM.out]; omega), Gr.acyc_plus HOK.out.2.1 _ _, ?_⟩
              have := HOK.out.2.2.plus (k := 1 + (a : Int)) (o := 1 + (b : Int)) HOK.out.1 (by rw [HM.out]; omega)
              rw [HM.out] at this
              exact this)
            have HE2 : Hid (G2.E.length ≤ i + 1) := Lib.hid (by rw [← hG2]; exact Nat.le_succ_of_le HEL.out)
            have HN2 : Hid (G2.N.length ≤ i + 1) := Lib.hid (by rw [← hG2]; have := HNL.out; simp [Gr.plus]; omega)
            clear hG2
            go_wp2_with (first
              | (refine toList (by rfl) ?_; refine wp_of_reads (rLdRdA (HR.out.old hS) (gov_len l) _ _ (by rfl) _ (by rfl) (agOf (by rfl)) (szOf (by rfl)) i (by rfl) HX.out (by omega)) ?_)
              | (refine toList (by rfl) ?_; refine al hS _ (by rfl) (zrOf (by rfl)) ?_; intro px w1 hS1; clear hS; have hS := hS1; clear hS1; rw [cells_agg] at hS)
              | (refine toList (by rfl) ?_; refine stW hS _ _ _ (by rfl) (by rfl) [.int .i64 xk, .int .i64 xa, .int .i64 xb] (by rfl) (by simp [Value.oneCell']) (szOf (by rfl)) Has.z rfl ?_; intro w1 hS1; clear hS; have hS := hS1; clear hS1; dsimp only [List.set_cons_zero] at hS)
              | (refine toList (by rfl) ?_; refine ld hS _ _ (by rfl) _ _ (by rfl) (agOf (by rfl)) (by first | exact Has.z | exact Has.s Has.z | exact Has.s (Has.s Has.z) | exact Has.s (Has.s (Has.s Has.z)) | exact Has.s (Has.s (Has.s (Has.s Has.z))) | exact Has.s (Has.s (Has.s (Has.s (Has.s Has.z))))) (by rfl) ?_)
              | (go_at_call 15; refine (HK.out _).mono ?_; rintro e w1 ⟨rfl, rfl⟩)
              | (go_at_call 16; refine (len_any hS.pull1 HMI.out).mono ?_; rintro e w1 ⟨rfl, rfl⟩))
            refine regStart [7, 9] hS (by kernel_rfl) rfl ?_
            intro w1 hS1
            clear hS; have hS := hS1; clear hS1
            (refine regP 0 hS (fun _ h => h) rfl (by kernel_rfl) (by kernel_rfl) (by kernel_rfl) (fun _ _ _ _ h => h) (by rfl) (by rfl) ?_; apply Exists.intro; apply And.intro; (intro w; go_simp; try with_reducible rfl); (simp only [Act.put, List.setIfInBounds_toArray, List.set_cons_zero, List.set_cons_succ]))
            (refine regP 1 hS (fun _ h => h) rfl (by kernel_rfl) (by kernel_rfl) (by kernel_rfl) (fun _ _ _ _ h => h) (by rfl) (by rfl) ?_; apply Exists.intro; apply And.intro; (intro w; go_simp; try with_reducible rfl); (simp only [Act.put, List.setIfInBounds_toArray, List.set_cons_zero, List.set_cons_succ]))
            (refine regR 2 hS (fun _ h => h) rfl (by kernel_rfl) (by kernel_rfl) (by kernel_rfl) (by kernel_rfl) (by kernel_rfl) (fun _ _ _ _ h => h) (by rfl) (by rfl) ?_; (refine ⟨_, yLd _ _ (by rfl) _ _ (by rfl) (agOf (by rfl)) (by first | exact Has.z | exact Has.s Has.z | exact Has.s (Has.s Has.z) | exact Has.s (Has.s (Has.s Has.z)) | exact Has.s (Has.s (Has.s (Has.s Has.z))) | exact Has.s (Has.s (Has.s (Has.s (Has.s Has.z))))) (by rfl), ?_⟩); (simp only [Act.put, List.setIfInBounds_toArray, List.set_cons_zero, List.set_cons_succ]))
            (refine regP 5 hS (fun _ h => h) rfl (by kernel_rfl) (by kernel_rfl) (by kernel_rfl) (fun _ _ _ _ h => h) (by rfl) (by rfl) ?_; apply Exists.intro; apply And.intro; (intro w; go_simp; try with_reducible rfl); (simp only [Act.put, List.setIfInBounds_toArray, List.set_cons_zero, List.set_cons_succ]))
            (refine regR 6 hS (fun _ h => h) rfl (by kernel_rfl) (by kernel_rfl) (by kernel_rfl) (by kernel_rfl) (by kernel_rfl) (fun _ _ _ _ h => h) (by rfl) (by rfl) ?_; (refine ⟨_, yLd _ _ (by rfl) _ _ (by rfl) (agOf (by rfl)) (by first | exact Has.z | exact Has.s Has.z | exact Has.s (Has.s Has.z) | exact Has.s (Has.s (Has.s Has.z)) | exact Has.s (Has.s (Has.s (Has.s Has.z))) | exact Has.s (Has.s (Has.s (Has.s (Has.s Has.z))))) (by rfl), ?_⟩); (simp only [Act.put, List.setIfInBounds_toArray, List.set_cons_zero, List.set_cons_succ]))
            (refine regA 3 rfl (by kernel_rfl) (by rfl) (by rfl) false (by kernel_rfl) (fun K hK => ?_); (first
                                      | (refine Go.Sep.cl 15 _ _ (by rfl) (by rfl) (by kernel_rfl) (HA.out _) ?_; rintro e w1 ⟨rfl, rfl⟩; refine ⟨_, rfl, ?_⟩)
                                      | (refine Go.Sep.cl 15 _ _ (by rfl) (by rfl) (by kernel_rfl) (HB.out _) ?_; rintro e w1 ⟨rfl, rfl⟩; refine ⟨_, rfl, ?_⟩)
                                      | (refine Go.Sep.cl 17 _ _ (by rfl) (by rfl) (by kernel_rfl) (HADD.out _ _ hS.pull1) ?_; rintro e w1 ⟨rfl, hS1⟩; clear hS; have hS := hS1; clear hS1; refine ⟨_, rfl, ?_⟩)); refine hK _ _ _ hS (by first | (intro h; cases h; done) | exact fun _ _ h => h | exact fun _ _ h => h.drop | exact fun _ _ h => h.drop.drop | exact fun _ _ h => h.drop.pull1 | exact fun _ _ h => h.one Has.z | exact fun _ _ h => h.one (Has.s Has.z) | exact fun _ _ h => h.one (Has.s (Has.s Has.z))) ?_; clear hK K; (simp only [Act.put, List.setIfInBounds_toArray, List.set_cons_zero, List.set_cons_succ]))
            (refine regP 4 hS (fun _ h => h) rfl (by kernel_rfl) (by kernel_rfl) (by kernel_rfl) (fun _ _ _ _ h => h) (by rfl) (by rfl) ?_; apply Exists.intro; apply And.intro; (intro w; go_simp; try with_reducible rfl); (simp only [Act.put, List.setIfInBounds_toArray, List.set_cons_zero, List.set_cons_succ]); try simp (disch := omega) only [IntWalk.i64_in])
            (refine regA 7 rfl (by kernel_rfl) (by rfl) (by rfl) true (by kernel_rfl) (fun K hK => ?_); (first
                                      | (refine Go.Sep.cl 15 _ _ (by rfl) (by rfl) (by kernel_rfl) (HA.out _) ?_; rintro e w1 ⟨rfl, rfl⟩; refine ⟨_, rfl, ?_⟩)
                                      | (refine Go.Sep.cl 15 _ _ (by rfl) (by rfl) (by kernel_rfl) (HB.out _) ?_; rintro e w1 ⟨rfl, rfl⟩; refine ⟨_, rfl, ?_⟩)
                                      | (refine Go.Sep.cl 17 _ _ (by rfl) (by rfl) (by kernel_rfl) (HADD.out _ _ hS.pull1) ?_; rintro e w1 ⟨rfl, hS1⟩; clear hS; have hS := hS1; clear hS1; refine ⟨_, rfl, ?_⟩)); refine hK _ _ _ hS (by first | (intro h; cases h; done) | exact fun _ _ h => h | exact fun _ _ h => h.drop | exact fun _ _ h => h.drop.drop | exact fun _ _ h => h.drop.pull1 | exact fun _ _ h => h.one Has.z | exact fun _ _ h => h.one (Has.s Has.z) | exact fun _ _ h => h.one (Has.s (Has.s Has.z))) ?_; clear hK K; (simp only [Act.put, List.setIfInBounds_toArray, List.set_cons_zero, List.set_cons_succ]))
            (refine regP 8 hS (fun _ h => h) rfl (by kernel_rfl) (by kernel_rfl) (by kernel_rfl) (fun _ _ _ _ h => h) (by rfl) (by rfl) ?_; apply Exists.intro; apply And.intro; (intro w; go_simp; try with_reducible rfl); (simp only [Act.put, List.setIfInBounds_toArray, List.set_cons_zero, List.set_cons_succ]); try simp (disch := omega) only [IntWalk.i64_in])
            (refine regA 9 rfl (by kernel_rfl) (by rfl) (by rfl) true (by kernel_rfl) (fun K hK => ?_); (first
                                      | (refine Go.Sep.cl 15 _ _ (by rfl) (by rfl) (by kernel_rfl) (HA.out _) ?_; rintro e w1 ⟨rfl, rfl⟩; refine ⟨_, rfl, ?_⟩)
                                      | (refine Go.Sep.cl 15 _ _ (by rfl) (by rfl) (by kernel_rfl) (HB.out _) ?_; rintro e w1 ⟨rfl, rfl⟩; refine ⟨_, rfl, ?_⟩)
                                      | (refine Go.Sep.cl 17 _ _ (by rfl) (by rfl) (by kernel_rfl) (HADD.out _ _ hS.pull1) ?_; rintro e w1 ⟨rfl, hS1⟩; clear hS; have hS := hS1; clear hS1; refine ⟨_, rfl, ?_⟩)); refine hK _ _ _ hS (by first | (intro h; cases h; done) | exact fun _ _ h => h | exact fun _ _ h => h.drop | exact fun _ _ h => h.drop.drop | exact fun _ _ h => h.drop.pull1 | exact fun _ _ h => h.one Has.z | exact fun _ _ h => h.one (Has.s Has.z) | exact fun _ _ h => h.one (Has.s (Has.s Has.z))) ?_; clear hK K; (simp only [Act.put, List.setIfInBounds_toArray, List.set_cons_zero, List.set_cons_succ]))
            (refine regP 10 hS (fun _ h => h) rfl (by kernel_rfl) (by kernel_rfl) (by kernel_rfl) (fun _ _ _ _ h => h) (by rfl) (by rfl) ?_; apply Exists.intro; apply And.intro; (intro w; go_simp; try with_reducible rfl); (simp only [Act.put, List.setIfInBounds_toArray, List.set_cons_zero, List.set_cons_succ]))
            (refine regP 11 hS (fun _ h => h) rfl (by kernel_rfl) (by kernel_rfl) (by kernel_rfl) (fun _ _ _ _ h => h) (by rfl) (by rfl) ?_; apply Exists.intro; apply And.intro; (intro w; go_simp; try with_reducible rfl); (simp only [Act.put, List.setIfInBounds_toArray, List.set_cons_zero, List.set_cons_succ]))
            (refine regP 12 hS (fun _ h => h) rfl (by kernel_rfl) (by kernel_rfl) (by kernel_rfl) (fun _ _ _ _ h => h) (by rfl) (by rfl) ?_; apply Exists.intro; apply And.intro; (intro w; go_simp; try with_reducible rfl); (simp only [Act.put, List.setIfInBounds_toArray, List.set_cons_zero, List.set_cons_succ]))
            (refine regP 13 hS (fun _ h => h) rfl (by kernel_rfl) (by kernel_rfl) (by kernel_rfl) (fun _ _ _ _ h => h) (by rfl) (by rfl) ?_; apply Exists.intro; apply And.intro; (intro w; go_simp; try with_reducible rfl); (simp only [Act.put, List.setIfInBounds_toArray, List.set_cons_zero, List.set_cons_succ]))
            (refine regP 14 hS (fun _ h => h) rfl (by kernel_rfl) (by kernel_rfl) (by kernel_rfl) (fun _ _ _ _ h => h) (by rfl) (by rfl) ?_; apply Exists.intro; apply And.intro; (intro w; go_simp; try with_reducible rfl); (simp only [Act.put, List.setIfInBounds_toArray, List.set_cons_zero, List.set_cons_succ]))
            refine regDone (by kernel_rfl) ?_
            go_wp2_with (go_at_call 46; refine (cnode_any (hS.re [2]) (m : Int)).mono ?_; rintro e w1 ⟨rfl, hS1⟩; clear hS; have hS := hS1; clear hS1)
            exact ⟨⟨i + 1, G2, _, by go_num, by omega, HOK2.out, HE2.out, HN2.out, hS.pull1.take2⟩, by simp [intOf]; omega⟩
          · have m1 : ((m : Int) == 0) = false := by simp [hm0]
            have m2 : (m == 0) = false := by simp [hm0]
            obtain ⟨a, hxa⟩ : ∃ a : Nat, xa % (m : Int) = a := ⟨(xa % (m : Int)).toNat, by have := Int.emod_nonneg xa (show (m : Int) ≠ 0 by omega); omega⟩
            obtain ⟨b, hxb⟩ : ∃ b : Nat, xb % (m : Int) = b := ⟨(xb % (m : Int)).toNat, by have := Int.emod_nonneg xb (show (m : Int) ≠ 0 by omega); omega⟩
            have ha : (a : Int) < (m : Int) := by rw [← hxa]; exact Int.emod_lt_of_pos xa (by omega)
            have hb : (b : Int) < (m : Int) := by rw [← hxb]; exact Int.emod_lt_of_pos xb (by omega)
            have HA := Lib.hid (fun w => (show Calls Try.prog 15 #[.int .i64 xa, .int .i64 (m : Int)] w fun e w' => e = .returned (.int .i64 (a : Int)) ∧ w = w' by rw [← hxa]; exact place_any xa m (by omega) (by omega) w))
            have HB := Lib.hid (fun w => (show Calls Try.prog 15 #[.int .i64 xb, .int .i64 (m : Int)] w fun e w' => e = .returned (.int .i64 (b : Int)) ∧ w = w' by rw [← hxb]; exact place_any xb m (by omega) (by omega) w))
            obtain ⟨s, hs⟩ : ∃ s : Nat, xb % 8 = s := ⟨(xb % 8).toNat, by omega⟩
            have hs8 : s < 8 := by omega
            have HP8 := Lib.hid (fun w => (show Calls Try.prog 15 #[.int .i64 xb, .int .i64 8] w fun e w' => e = .returned (.int .i64 (s : Int)) ∧ w = w' by rw [← hs]; exact place_any xb 8 (by decide) (by decide) w))
            have HAL := Lib.hid (show a < G.N.length by rw [HM.out]; omega)
            have HBL := Lib.hid (show b < G.N.length by rw [HM.out]; omega)
            have HS8 := Lib.hid hs8
            clear hxa hxb hm0 hs hs8
            by_cases ho : G.downs a = []
            · have HO := Lib.hid ho
              have HCL := Lib.hid (fun w L (h : Sat W w (IsG p G :: L)) => closed_any h (a : Int) (r := false) (by rw [Gr.downsI_nat HAL.out, ho]; rfl))
              clear ho
              have HSA := Lib.hid (HOK.out.2.2.small HOK.out.1 HAL.out)
              have HSB := Lib.hid (HOK.out.2.2.small HOK.out.1 HBL.out)
              by_cases hq6 : q < 6
              · have q3 : (q : Int) < 6 := by omega
                have q4 : decide ((q : Int) < 6) = true := decide_eq_true q3
                clear hq6
                obtain ⟨G2, hG2⟩ : ∃ G2, G.edgeG (a : Int) (b : Int) = G2 := ⟨_, rfl⟩
                obtain ⟨ec, hec⟩ : ∃ ec, G.edgeE (a : Int) (b : Int) = ec := ⟨_, rfl⟩
                have HED := Lib.hid (fun w (L : List Asrt) (h : Sat W w (IsG p G :: L)) => (show Calls Try.prog 19 #[.pointer (some ⟨p, 0, none⟩), .int .i64 (a : Int), .int .i64 (b : Int)] w fun e w' => e = .returned (.int .i64 ec) ∧ Sat W w' (IsG p G2 :: L) by
                  have := edge_any h HOK.out.1 (a : Int) (b : Int)
                  rw [hec, hG2] at this
                  exact this))
                have HE2 : Hid (G2.E.length ≤ i + 1) := Lib.hid (by rw [← hG2]; have := G.edgeG_len (a : Int) (b : Int); have := HEL.out; omega)
                have HN2 : Hid (G2.N.length ≤ i + 1) := Lib.hid (by rw [← hG2, Gr.edgeG_N]; exact Nat.le_succ_of_le HNL.out)
                have HM2 : Hid (G2.N.length = m) := Lib.hid (by rw [← hG2, Gr.edgeG_N]; exact HM.out)
                have hok2 : G2.Ok := by rw [← hG2]; exact Gr.edgeG_ok HOK.out.1 _ _ (by have := HEL.out; omega)
                have hac2 : G2.Acyc := by rw [← hG2]; exact Gr.acyc_edge HOK.out.2.1 _ _
                by_cases h0 : ec = 0
                · obtain ⟨f2, hf2⟩ : ∃ f2, updC f (a : Int) ((cv f (a : Int)).1 ||| clab f (b : Int), (cv f (a : Int)).2) = f2 := ⟨_, rfl⟩
                  have HOK2 := Lib.hid (show G2.Ok ∧ G2.Acyc ∧ Knows f2 G2 by
                    refine ⟨hok2, hac2, ?_⟩
                    rw [h0] at hec
                    obtain ⟨a', b', h1, h2, h3, h4, h5, h6, _⟩ := Gr.edge_yes hec
                    obtain rfl : a = a' := by omega
                    obtain rfl : b = b' := by omega
                    rw [← hf2, ← hG2]
                    unfold Gr.edgeG
                    rw [if_pos hec, Int.toNat_natCast, Int.toNat_natCast]
                    exact HOK.out.2.2.link HOK.out.1 h3 h4 h5 h6 (by have := HEL.out; omega) HO.out HOK.out.2.1)
                  have HCO := Lib.hid (fun w L (h : Sat W w (IsC c f :: L)) => by have := cedge_any h (a : Int) (b : Int) HSA.out.1 HSB.out.1 HSB.out.2; rw [hf2] at this; exact this)
                  subst h0
                  clear hec hG2 hf2 hok2 hac2
                  go_wp2_with (first
                    | (refine toList (by rfl) ?_; refine wp_of_reads (rLdRdA (HR.out.old hS) (gov_len l) _ _ (by rfl) _ (by rfl) (agOf (by rfl)) (szOf (by rfl)) i (by rfl) HX.out (by omega)) ?_)
                    | (refine toList (by rfl) ?_; refine al hS _ (by rfl) (zrOf (by rfl)) ?_; intro px w1 hS1; clear hS; have hS := hS1; clear hS1; rw [cells_agg] at hS)
                    | (refine toList (by rfl) ?_; refine stW hS _ _ _ (by rfl) (by rfl) [.int .i64 xk, .int .i64 xa, .int .i64 xb] (by rfl) (by simp [Value.oneCell']) (szOf (by rfl)) Has.z rfl ?_; intro w1 hS1; clear hS; have hS := hS1; clear hS1; dsimp only [List.set_cons_zero] at hS)
                    | (refine toList (by rfl) ?_; refine ld hS _ _ (by rfl) _ _ (by rfl) (agOf (by rfl)) (by first | exact Has.z | exact Has.s Has.z | exact Has.s (Has.s Has.z) | exact Has.s (Has.s (Has.s Has.z)) | exact Has.s (Has.s (Has.s (Has.s Has.z))) | exact Has.s (Has.s (Has.s (Has.s (Has.s Has.z))))) (by rfl) ?_)
                    | (go_at_call 15; refine (HK.out _).mono ?_; rintro e w1 ⟨rfl, rfl⟩)
                    | (go_at_call 16; refine (len_any hS.pull1 HMI.out).mono ?_; rintro e w1 ⟨rfl, rfl⟩))
                  refine regStart [9] hS (by kernel_rfl) rfl ?_
                  intro w1 hS1
                  clear hS; have hS := hS1; clear hS1
                  (refine regP 0 hS (fun _ h => h) rfl (by kernel_rfl) (by kernel_rfl) (by kernel_rfl) (fun _ _ _ _ h => h) (by rfl) (by rfl) ?_; apply Exists.intro; apply And.intro; (intro w; go_simp; try with_reducible rfl); (simp only [Act.put, List.setIfInBounds_toArray, List.set_cons_zero, List.set_cons_succ]))
                  (refine regR 1 hS (fun _ h => h) rfl (by kernel_rfl) (by kernel_rfl) (by kernel_rfl) (by kernel_rfl) (by kernel_rfl) (fun _ _ _ _ h => h) (by rfl) (by rfl) ?_; (refine ⟨_, yLd _ _ (by rfl) _ _ (by rfl) (agOf (by rfl)) (by first | exact Has.z | exact Has.s Has.z | exact Has.s (Has.s Has.z) | exact Has.s (Has.s (Has.s Has.z)) | exact Has.s (Has.s (Has.s (Has.s Has.z))) | exact Has.s (Has.s (Has.s (Has.s (Has.s Has.z))))) (by rfl), ?_⟩); (simp only [Act.put, List.setIfInBounds_toArray, List.set_cons_zero, List.set_cons_succ]))
                  (refine regP 2 hS (fun _ h => h) rfl (by kernel_rfl) (by kernel_rfl) (by kernel_rfl) (fun _ _ _ _ h => h) (by rfl) (by rfl) ?_; apply Exists.intro; apply And.intro; (intro w; go_simp; try with_reducible rfl); (simp only [Act.put, List.setIfInBounds_toArray, List.set_cons_zero, List.set_cons_succ]))
                  (refine regP 5 hS (fun _ h => h) rfl (by kernel_rfl) (by kernel_rfl) (by kernel_rfl) (fun _ _ _ _ h => h) (by rfl) (by rfl) ?_; apply Exists.intro; apply And.intro; (intro w; go_simp; try with_reducible rfl); (simp only [Act.put, List.setIfInBounds_toArray, List.set_cons_zero, List.set_cons_succ]))
                  (refine regR 6 hS (fun _ h => h) rfl (by kernel_rfl) (by kernel_rfl) (by kernel_rfl) (by kernel_rfl) (by kernel_rfl) (fun _ _ _ _ h => h) (by rfl) (by rfl) ?_; (refine ⟨_, yLd _ _ (by rfl) _ _ (by rfl) (agOf (by rfl)) (by first | exact Has.z | exact Has.s Has.z | exact Has.s (Has.s Has.z) | exact Has.s (Has.s (Has.s Has.z)) | exact Has.s (Has.s (Has.s (Has.s Has.z))) | exact Has.s (Has.s (Has.s (Has.s (Has.s Has.z))))) (by rfl), ?_⟩); (simp only [Act.put, List.setIfInBounds_toArray, List.set_cons_zero, List.set_cons_succ]))
                  (refine regP 7 hS (fun _ h => h) rfl (by kernel_rfl) (by kernel_rfl) (by kernel_rfl) (fun _ _ _ _ h => h) (by rfl) (by rfl) ?_; apply Exists.intro; apply And.intro; (intro w; go_simp; try with_reducible rfl); (simp only [Act.put, List.setIfInBounds_toArray, List.set_cons_zero, List.set_cons_succ]))
                  (refine regA 3 rfl (by kernel_rfl) (by rfl) (by rfl) false (by kernel_rfl) (fun K hK => ?_); (first
                                                        | (refine Go.Sep.cl 16 _ _ (by rfl) (by rfl) (by kernel_rfl) (len_any hS.pull1 HMI.out) ?_; rintro e w1 ⟨rfl, rfl⟩; refine ⟨_, rfl, ?_⟩)
                                                        | (refine Go.Sep.cl 15 _ _ (by rfl) (by rfl) (by kernel_rfl) (HA.out _) ?_; rintro e w1 ⟨rfl, rfl⟩; refine ⟨_, rfl, ?_⟩)
                                                        | (refine Go.Sep.cl 15 _ _ (by rfl) (by rfl) (by kernel_rfl) (HB.out _) ?_; rintro e w1 ⟨rfl, rfl⟩; refine ⟨_, rfl, ?_⟩)); refine hK _ _ _ hS (by first | (intro h; cases h; done) | exact fun _ _ h => h | exact fun _ _ h => h.drop | exact fun _ _ h => h.drop.drop | exact fun _ _ h => h.drop.pull1 | exact fun _ _ h => h.one Has.z | exact fun _ _ h => h.one (Has.s Has.z) | exact fun _ _ h => h.one (Has.s (Has.s Has.z))) ?_; clear hK K; (simp only [Act.put, List.setIfInBounds_toArray, List.set_cons_zero, List.set_cons_succ]))
                  (refine regA 4 rfl (by kernel_rfl) (by rfl) (by rfl) false (by kernel_rfl) (fun K hK => ?_); (first
                                                        | (refine Go.Sep.cl 16 _ _ (by rfl) (by rfl) (by kernel_rfl) (len_any hS.pull1 HMI.out) ?_; rintro e w1 ⟨rfl, rfl⟩; refine ⟨_, rfl, ?_⟩)
                                                        | (refine Go.Sep.cl 15 _ _ (by rfl) (by rfl) (by kernel_rfl) (HA.out _) ?_; rintro e w1 ⟨rfl, rfl⟩; refine ⟨_, rfl, ?_⟩)
                                                        | (refine Go.Sep.cl 15 _ _ (by rfl) (by rfl) (by kernel_rfl) (HB.out _) ?_; rintro e w1 ⟨rfl, rfl⟩; refine ⟨_, rfl, ?_⟩)); refine hK _ _ _ hS (by first | (intro h; cases h; done) | exact fun _ _ h => h | exact fun _ _ h => h.drop | exact fun _ _ h => h.drop.drop | exact fun _ _ h => h.drop.pull1 | exact fun _ _ h => h.one Has.z | exact fun _ _ h => h.one (Has.s Has.z) | exact fun _ _ h => h.one (Has.s (Has.s Has.z))) ?_; clear hK K; (simp only [Act.put, List.setIfInBounds_toArray, List.set_cons_zero, List.set_cons_succ]))
                  (refine regA 8 rfl (by kernel_rfl) (by rfl) (by rfl) false (by kernel_rfl) (fun K hK => ?_); (first
                                                        | (refine Go.Sep.cl 16 _ _ (by rfl) (by rfl) (by kernel_rfl) (len_any hS.pull1 HMI.out) ?_; rintro e w1 ⟨rfl, rfl⟩; refine ⟨_, rfl, ?_⟩)
                                                        | (refine Go.Sep.cl 15 _ _ (by rfl) (by rfl) (by kernel_rfl) (HA.out _) ?_; rintro e w1 ⟨rfl, rfl⟩; refine ⟨_, rfl, ?_⟩)
                                                        | (refine Go.Sep.cl 15 _ _ (by rfl) (by rfl) (by kernel_rfl) (HB.out _) ?_; rintro e w1 ⟨rfl, rfl⟩; refine ⟨_, rfl, ?_⟩)); refine hK _ _ _ hS (by first | (intro h; cases h; done) | exact fun _ _ h => h | exact fun _ _ h => h.drop | exact fun _ _ h => h.drop.drop | exact fun _ _ h => h.drop.pull1 | exact fun _ _ h => h.one Has.z | exact fun _ _ h => h.one (Has.s Has.z) | exact fun _ _ h => h.one (Has.s (Has.s Has.z))) ?_; clear hK K; (simp only [Act.put, List.setIfInBounds_toArray, List.set_cons_zero, List.set_cons_succ]))
                  (refine regA 9 rfl (by kernel_rfl) (by rfl) (by rfl) true (by kernel_rfl) (fun K hK => ?_); (first
                                                        | (refine Go.Sep.cl 16 _ _ (by rfl) (by rfl) (by kernel_rfl) (len_any hS.pull1 HMI.out) ?_; rintro e w1 ⟨rfl, rfl⟩; refine ⟨_, rfl, ?_⟩)
                                                        | (refine Go.Sep.cl 15 _ _ (by rfl) (by rfl) (by kernel_rfl) (HA.out _) ?_; rintro e w1 ⟨rfl, rfl⟩; refine ⟨_, rfl, ?_⟩)
                                                        | (refine Go.Sep.cl 15 _ _ (by rfl) (by rfl) (by kernel_rfl) (HB.out _) ?_; rintro e w1 ⟨rfl, rfl⟩; refine ⟨_, rfl, ?_⟩)); refine hK _ _ _ hS (by first | (intro h; cases h; done) | exact fun _ _ h => h | exact fun _ _ h => h.drop | exact fun _ _ h => h.drop.drop | exact fun _ _ h => h.drop.pull1 | exact fun _ _ h => h.one Has.z | exact fun _ _ h => h.one (Has.s Has.z) | exact fun _ _ h => h.one (Has.s (Has.s Has.z))) ?_; clear hK K; (simp only [Act.put, List.setIfInBounds_toArray, List.set_cons_zero, List.set_cons_succ]))
                  (refine regP 10 hS (fun _ h => h) rfl (by kernel_rfl) (by kernel_rfl) (by kernel_rfl) (fun _ _ _ _ h => h) (by rfl) (by rfl) ?_; apply Exists.intro; apply And.intro; (intro w; go_simp; try with_reducible rfl); (simp only [Act.put, List.setIfInBounds_toArray, List.set_cons_zero, List.set_cons_succ]))
                  (refine regP 11 hS (fun _ h => h) rfl (by kernel_rfl) (by kernel_rfl) (by kernel_rfl) (fun _ _ _ _ h => h) (by rfl) (by rfl) ?_; apply Exists.intro; apply And.intro; (intro w; go_simp; try with_reducible rfl); (simp only [Act.put, List.setIfInBounds_toArray, List.set_cons_zero, List.set_cons_succ]))
                  refine regDone (by kernel_rfl) ?_
                  replace hS := hS.pull1
                  go_wp2_with (first
                    | (go_at_call 27; refine (HCL.out _ _ hS).mono ?_; rintro e w1 ⟨rfl, rfl⟩)
                    | (refine toList (by rfl) ?_; refine ld hS _ _ (by rfl) _ _ (by rfl) (agOf (by rfl)) (Has.s Has.z) (by rfl) ?_)
                    | (go_at_call 15; refine (HP8.out _).mono ?_; rintro e w1 ⟨rfl, rfl⟩)
                    | (go_at_call 19; refine (HED.out _ _ hS).mono ?_; rintro e w1 ⟨rfl, hS1⟩; clear hS; have hS := hS1; clear hS1)
                    | (go_at_call 47; refine (HCO.out _ _ (hS.re [2])).mono ?_; rintro e w1 ⟨rfl, hS1⟩; clear hS; have hS := hS1; clear hS1))
                  have HM2I := Lib.hid (show (G2.N.length : Int) = (m : Int) by rw [HM2.out])
                  have H5 := Lib.hid hS.pull1.take2
                  clear hS
                  go_loopw [13] (fun v wz => ∃ n : Nat, v = .int .i64 n ∧ n ≤ m ∧ Sat W wz [IsG p G2, IsC c f2]) (fun v _ => m - (intOf v).toNat)
                  case atStart => exact ⟨0, rfl, by omega, H5.out⟩
                  case round =>
                    clear H5
                    obtain ⟨n, rfl, hn, hS⟩ := hrel
                    by_cases hl : n < m
                    · have n1 : (n : Int) < (m : Int) := by omega
                      have hnl := show n < G2.N.length by rw [HM2.out]; exact hl
                      have HOF := Lib.hid (fun w L (h : Sat W w (IsG p G2 :: L)) => by have := of_any h HOK2.out.1 HOK2.out.2.1 (n : Int); rw [Gr.labI_nat hnl] at this; exact this)
                      have HLA := Lib.hid (fun w L (h : Sat W w (IsC c f2 :: L)) => by have := clab_any h (n : Int) (HOK2.out.2.2.small HOK2.out.1 hnl).1 (HOK2.out.2.2.small HOK2.out.1 hnl).2; rw [HOK2.out.2.2.lab HOK2.out.1 hnl] at this; exact this)
                      obtain ⟨y, hy⟩ : ∃ y, G2.lab n = y := ⟨_, rfl⟩
                      rw [hy] at HOF HLA
                      have HL := Lib.hid hl
                      clear hl hnl hy
                      go_wp2_with (first
                        | (go_at_call 16; refine (len_any hS HM2I.out).mono ?_; rintro e w1 ⟨rfl, rfl⟩)
                        | (go_at_call 42; refine (HLA.out _ _ hS.pull1).mono ?_; rintro e w1 ⟨rfl, hS1⟩; clear hS; have hS := hS1; clear hS1)
                        | (go_at_call 36; refine (HOF.out _ _ hS.pull1).mono ?_; rintro e w1 ⟨rfl, hS1⟩; clear hS; have hS := hS1; clear hS1))
                      exact ⟨⟨n + 1, by go_num, HL.out, hS⟩, by simp [intOf]; have := HL.out; omega⟩
                    · have n1 : ¬ (n : Int) < (m : Int) := by omega
                      clear hl
                      go_wp2_with (go_at_call 16; refine (len_any hS HM2I.out).mono ?_; rintro e w1 ⟨rfl, rfl⟩)
                      exact ⟨⟨i + 1, G2, f2, by go_num, by omega, HOK2.out, HE2.out, HN2.out, hS⟩, by simp [intOf]; omega⟩
                · obtain ⟨f2, hf2⟩ : ∃ f2, f2 = f := ⟨_, rfl⟩
                  have z1 : (ec == 0) = false := by simp [h0]
                  have z2 : decide (ec = 0) = false := decide_eq_false h0
                  have HOK2 := Lib.hid (show G2.Ok ∧ G2.Acyc ∧ Knows f2 G2 by
                    refine ⟨hok2, hac2, ?_⟩
                    rw [hf2, ← hG2, Gr.edgeG_no (by rw [hec]; exact h0)]
                    exact HOK.out.2.2)
                  rw [← hf2] at hS
                  clear hec hG2 hok2 hac2
                  go_wp2_with (first
                    | (refine toList (by rfl) ?_; refine wp_of_reads (rLdRdA (HR.out.old hS) (gov_len l) _ _ (by rfl) _ (by rfl) (agOf (by rfl)) (szOf (by rfl)) i (by rfl) HX.out (by omega)) ?_)
                    | (refine toList (by rfl) ?_; refine al hS _ (by rfl) (zrOf (by rfl)) ?_; intro px w1 hS1; clear hS; have hS := hS1; clear hS1; rw [cells_agg] at hS)
                    | (refine toList (by rfl) ?_; refine stW hS _ _ _ (by rfl) (by rfl) [.int .i64 xk, .int .i64 xa, .int .i64 xb] (by rfl) (by simp [Value.oneCell']) (szOf (by rfl)) Has.z rfl ?_; intro w1 hS1; clear hS; have hS := hS1; clear hS1; dsimp only [List.set_cons_zero] at hS)
                    | (refine toList (by rfl) ?_; refine ld hS _ _ (by rfl) _ _ (by rfl) (agOf (by rfl)) (by first | exact Has.z | exact Has.s Has.z | exact Has.s (Has.s Has.z) | exact Has.s (Has.s (Has.s Has.z)) | exact Has.s (Has.s (Has.s (Has.s Has.z))) | exact Has.s (Has.s (Has.s (Has.s (Has.s Has.z))))) (by rfl) ?_)
                    | (go_at_call 15; refine (HK.out _).mono ?_; rintro e w1 ⟨rfl, rfl⟩)
                    | (go_at_call 16; refine (len_any hS.pull1 HMI.out).mono ?_; rintro e w1 ⟨rfl, rfl⟩))
                  refine regStart [9] hS (by kernel_rfl) rfl ?_
                  intro w1 hS1
                  clear hS; have hS := hS1; clear hS1
                  (refine regP 0 hS (fun _ h => h) rfl (by kernel_rfl) (by kernel_rfl) (by kernel_rfl) (fun _ _ _ _ h => h) (by rfl) (by rfl) ?_; apply Exists.intro; apply And.intro; (intro w; go_simp; try with_reducible rfl); (simp only [Act.put, List.setIfInBounds_toArray, List.set_cons_zero, List.set_cons_succ]))
                  (refine regR 1 hS (fun _ h => h) rfl (by kernel_rfl) (by kernel_rfl) (by kernel_rfl) (by kernel_rfl) (by kernel_rfl) (fun _ _ _ _ h => h) (by rfl) (by rfl) ?_; (refine ⟨_, yLd _ _ (by rfl) _ _ (by rfl) (agOf (by rfl)) (by first | exact Has.z | exact Has.s Has.z | exact Has.s (Has.s Has.z) | exact Has.s (Has.s (Has.s Has.z)) | exact Has.s (Has.s (Has.s (Has.s Has.z))) | exact Has.s (Has.s (Has.s (Has.s (Has.s Has.z))))) (by rfl), ?_⟩); (simp only [Act.put, List.setIfInBounds_toArray, List.set_cons_zero, List.set_cons_succ]))
                  (refine regP 2 hS (fun _ h => h) rfl (by kernel_rfl) (by kernel_rfl) (by kernel_rfl) (fun _ _ _ _ h => h) (by rfl) (by rfl) ?_; apply Exists.intro; apply And.intro; (intro w; go_simp; try with_reducible rfl); (simp only [Act.put, List.setIfInBounds_toArray, List.set_cons_zero, List.set_cons_succ]))
                  (refine regP 5 hS (fun _ h => h) rfl (by kernel_rfl) (by kernel_rfl) (by kernel_rfl) (fun _ _ _ _ h => h) (by rfl) (by rfl) ?_; apply Exists.intro; apply And.intro; (intro w; go_simp; try with_reducible rfl); (simp only [Act.put, List.setIfInBounds_toArray, List.set_cons_zero, List.set_cons_succ]))
                  (refine regR 6 hS (fun _ h => h) rfl (by kernel_rfl) (by kernel_rfl) (by kernel_rfl) (by kernel_rfl) (by kernel_rfl) (fun _ _ _ _ h => h) (by rfl) (by rfl) ?_; (refine ⟨_, yLd _ _ (by rfl) _ _ (by rfl) (agOf (by rfl)) (by first | exact Has.z | exact Has.s Has.z | exact Has.s (Has.s Has.z) | exact Has.s (Has.s (Has.s Has.z)) | exact Has.s (Has.s (Has.s (Has.s Has.z))) | exact Has.s (Has.s (Has.s (Has.s (Has.s Has.z))))) (by rfl), ?_⟩); (simp only [Act.put, List.setIfInBounds_toArray, List.set_cons_zero, List.set_cons_succ]))
                  (refine regP 7 hS (fun _ h => h) rfl (by kernel_rfl) (by kernel_rfl) (by kernel_rfl) (fun _ _ _ _ h => h) (by rfl) (by rfl) ?_; apply Exists.intro; apply And.intro; (intro w; go_simp; try with_reducible rfl); (simp only [Act.put, List.setIfInBounds_toArray, List.set_cons_zero, List.set_cons_succ]))
                  (refine regA 3 rfl (by kernel_rfl) (by rfl) (by rfl) false (by kernel_rfl) (fun K hK => ?_); (first
                                                        | (refine Go.Sep.cl 16 _ _ (by rfl) (by rfl) (by kernel_rfl) (len_any hS.pull1 HMI.out) ?_; rintro e w1 ⟨rfl, rfl⟩; refine ⟨_, rfl, ?_⟩)
                                                        | (refine Go.Sep.cl 15 _ _ (by rfl) (by rfl) (by kernel_rfl) (HA.out _) ?_; rintro e w1 ⟨rfl, rfl⟩; refine ⟨_, rfl, ?_⟩)
                                                        | (refine Go.Sep.cl 15 _ _ (by rfl) (by rfl) (by kernel_rfl) (HB.out _) ?_; rintro e w1 ⟨rfl, rfl⟩; refine ⟨_, rfl, ?_⟩)); refine hK _ _ _ hS (by first | (intro h; cases h; done) | exact fun _ _ h => h | exact fun _ _ h => h.drop | exact fun _ _ h => h.drop.drop | exact fun _ _ h => h.drop.pull1 | exact fun _ _ h => h.one Has.z | exact fun _ _ h => h.one (Has.s Has.z) | exact fun _ _ h => h.one (Has.s (Has.s Has.z))) ?_; clear hK K; (simp only [Act.put, List.setIfInBounds_toArray, List.set_cons_zero, List.set_cons_succ]))
                  (refine regA 4 rfl (by kernel_rfl) (by rfl) (by rfl) false (by kernel_rfl) (fun K hK => ?_); (first
                                                        | (refine Go.Sep.cl 16 _ _ (by rfl) (by rfl) (by kernel_rfl) (len_any hS.pull1 HMI.out) ?_; rintro e w1 ⟨rfl, rfl⟩; refine ⟨_, rfl, ?_⟩)
                                                        | (refine Go.Sep.cl 15 _ _ (by rfl) (by rfl) (by kernel_rfl) (HA.out _) ?_; rintro e w1 ⟨rfl, rfl⟩; refine ⟨_, rfl, ?_⟩)
                                                        | (refine Go.Sep.cl 15 _ _ (by rfl) (by rfl) (by kernel_rfl) (HB.out _) ?_; rintro e w1 ⟨rfl, rfl⟩; refine ⟨_, rfl, ?_⟩)); refine hK _ _ _ hS (by first | (intro h; cases h; done) | exact fun _ _ h => h | exact fun _ _ h => h.drop | exact fun _ _ h => h.drop.drop | exact fun _ _ h => h.drop.pull1 | exact fun _ _ h => h.one Has.z | exact fun _ _ h => h.one (Has.s Has.z) | exact fun _ _ h => h.one (Has.s (Has.s Has.z))) ?_; clear hK K; (simp only [Act.put, List.setIfInBounds_toArray, List.set_cons_zero, List.set_cons_succ]))
                  (refine regA 8 rfl (by kernel_rfl) (by rfl) (by rfl) false (by kernel_rfl) (fun K hK => ?_); (first
                                                        | (refine Go.Sep.cl 16 _ _ (by rfl) (by rfl) (by kernel_rfl) (len_any hS.pull1 HMI.out) ?_; rintro e w1 ⟨rfl, rfl⟩; refine ⟨_, rfl, ?_⟩)
                                                        | (refine Go.Sep.cl 15 _ _ (by rfl) (by rfl) (by kernel_rfl) (HA.out _) ?_; rintro e w1 ⟨rfl, rfl⟩; refine ⟨_, rfl, ?_⟩)
                                                        | (refine Go.Sep.cl 15 _ _ (by rfl) (by rfl) (by kernel_rfl) (HB.out _) ?_; rintro e w1 ⟨rfl, rfl⟩; refine ⟨_, rfl, ?_⟩)); refine hK _ _ _ hS (by first | (intro h; cases h; done) | exact fun _ _ h => h | exact fun _ _ h => h.drop | exact fun _ _ h => h.drop.drop | exact fun _ _ h => h.drop.pull1 | exact fun _ _ h => h.one Has.z | exact fun _ _ h => h.one (Has.s Has.z) | exact fun _ _ h => h.one (Has.s (Has.s Has.z))) ?_; clear hK K; (simp only [Act.put, List.setIfInBounds_toArray, List.set_cons_zero, List.set_cons_succ]))
                  (refine regA 9 rfl (by kernel_rfl) (by rfl) (by rfl) true (by kernel_rfl) (fun K hK => ?_); (first
                                                        | (refine Go.Sep.cl 16 _ _ (by rfl) (by rfl) (by kernel_rfl) (len_any hS.pull1 HMI.out) ?_; rintro e w1 ⟨rfl, rfl⟩; refine ⟨_, rfl, ?_⟩)
                                                        | (refine Go.Sep.cl 15 _ _ (by rfl) (by rfl) (by kernel_rfl) (HA.out _) ?_; rintro e w1 ⟨rfl, rfl⟩; refine ⟨_, rfl, ?_⟩)
                                                        | (refine Go.Sep.cl 15 _ _ (by rfl) (by rfl) (by kernel_rfl) (HB.out _) ?_; rintro e w1 ⟨rfl, rfl⟩; refine ⟨_, rfl, ?_⟩)); refine hK _ _ _ hS (by first | (intro h; cases h; done) | exact fun _ _ h => h | exact fun _ _ h => h.drop | exact fun _ _ h => h.drop.drop | exact fun _ _ h => h.drop.pull1 | exact fun _ _ h => h.one Has.z | exact fun _ _ h => h.one (Has.s Has.z) | exact fun _ _ h => h.one (Has.s (Has.s Has.z))) ?_; clear hK K; (simp only [Act.put, List.setIfInBounds_toArray, List.set_cons_zero, List.set_cons_succ]))
                  (refine regP 10 hS (fun _ h => h) rfl (by kernel_rfl) (by kernel_rfl) (by kernel_rfl) (fun _ _ _ _ h => h) (by rfl) (by rfl) ?_; apply Exists.intro; apply And.intro; (intro w; go_simp; try with_reducible rfl); (simp only [Act.put, List.setIfInBounds_toArray, List.set_cons_zero, List.set_cons_succ]))
                  (refine regP 11 hS (fun _ h => h) rfl (by kernel_rfl) (by kernel_rfl) (by kernel_rfl) (fun _ _ _ _ h => h) (by rfl) (by rfl) ?_; apply Exists.intro; apply And.intro; (intro w; go_simp; try with_reducible rfl); (simp only [Act.put, List.setIfInBounds_toArray, List.set_cons_zero, List.set_cons_succ]))
                  refine regDone (by kernel_rfl) ?_
                  replace hS := hS.pull1
                  go_wp2_with (first
                    | (go_at_call 27; refine (HCL.out _ _ hS).mono ?_; rintro e w1 ⟨rfl, rfl⟩)
                    | (refine toList (by rfl) ?_; refine ld hS _ _ (by rfl) _ _ (by rfl) (agOf (by rfl)) (Has.s Has.z) (by rfl) ?_)
                    | (go_at_call 15; refine (HP8.out _).mono ?_; rintro e w1 ⟨rfl, rfl⟩)
                    | (go_at_call 19; refine (HED.out _ _ hS).mono ?_; rintro e w1 ⟨rfl, hS1⟩; clear hS; have hS := hS1; clear hS1))
                  have HM2I := Lib.hid (show (G2.N.length : Int) = (m : Int) by rw [HM2.out])
                  have H5 := Lib.hid (hS.re [0, 2]).take2
                  clear hS
                  go_loopw [13] (fun v wz => ∃ n : Nat, v = .int .i64 n ∧ n ≤ m ∧ Sat W wz [IsG p G2, IsC c f2]) (fun v _ => m - (intOf v).toNat)
                  case atStart => exact ⟨0, rfl, by omega, H5.out⟩
                  case round =>
                    clear H5
                    obtain ⟨n, rfl, hn, hS⟩ := hrel
                    by_cases hl : n < m
                    · have n1 : (n : Int) < (m : Int) := by omega
                      have hnl := show n < G2.N.length by rw [HM2.out]; exact hl
                      have HOF := Lib.hid (fun w L (h : Sat W w (IsG p G2 :: L)) => by have := of_any h HOK2.out.1 HOK2.out.2.1 (n : Int); rw [Gr.labI_nat hnl] at this; exact this)
                      have HLA := Lib.hid (fun w L (h : Sat W w (IsC c f2 :: L)) => by have := clab_any h (n : Int) (HOK2.out.2.2.small HOK2.out.1 hnl).1 (HOK2.out.2.2.small HOK2.out.1 hnl).2; rw [HOK2.out.2.2.lab HOK2.out.1 hnl] at this; exact this)
                      obtain ⟨y, hy⟩ : ∃ y, G2.lab n = y := ⟨_, rfl⟩
                      rw [hy] at HOF HLA
                      have HL := Lib.hid hl
                      clear hl hnl hy
                      go_wp2_with (first
                        | (go_at_call 16; refine (len_any hS HM2I.out).mono ?_; rintro e w1 ⟨rfl, rfl⟩)
                        | (go_at_call 42; refine (HLA.out _ _ hS.pull1).mono ?_; rintro e w1 ⟨rfl, hS1⟩; clear hS; have hS := hS1; clear hS1)
                        | (go_at_call 36; refine (HOF.out _ _ hS.pull1).mono ?_; rintro e w1 ⟨rfl, hS1⟩; clear hS; have hS := hS1; clear hS1))
                      exact ⟨⟨n + 1, by go_num, HL.out, hS⟩, by simp [intOf]; have := HL.out; omega⟩
                    · have n1 : ¬ (n : Int) < (m : Int) := by omega
                      clear hl
                      go_wp2_with (go_at_call 16; refine (len_any hS HM2I.out).mono ?_; rintro e w1 ⟨rfl, rfl⟩)
                      exact ⟨⟨i + 1, G2, f2, by go_num, by omega, HOK2.out, HE2.out, HN2.out, hS⟩, by simp [intOf]; omega⟩
              · have q3 : ¬ (q : Int) < 6 := by omega
                have q4 : decide ((q : Int) < 6) = false := decide_eq_false q3
                by_cases h6 : q = 6
                · subst h6
                  clear hq6
                  obtain ⟨G2, hG2⟩ : ∃ G2, G.markG (a : Int) (s : Int) = G2 := ⟨_, rfl⟩
                  obtain ⟨f2, hf2⟩ : ∃ f2, updC f (a : Int) ((cv f (a : Int)).1 ||| 2 ^ s, (cv f (a : Int)).2) = f2 := ⟨_, rfl⟩
                  have HOP := Lib.hid (fun w (L : List Asrt) (h : Sat W w (IsG p G :: L)) => (show Calls Try.prog 34 #[.pointer (some ⟨p, 0, none⟩), .int .i64 (a : Int), .int .i64 (s : Int)] w fun e w' => e = .returned (.int .i64 0) ∧ Sat W w' (IsG p G2 :: L) by
                    have := mark_any h (a : Int) (s : Int) HOK.out.1.marks
                    unfold bitE at this
                    rw [bitOk_yes HAL.out HS8.out, if_pos rfl, hG2] at this
                    exact this))
                  have HE2 : Hid (G2.E.length ≤ i + 1) := Lib.hid (by rw [← hG2]; unfold Gr.markG; split <;> exact Nat.le_succ_of_le HEL.out)
                  have HM2 : Hid (G2.N.length = m) := Lib.hid (by rw [← hG2]; unfold Gr.markG; split <;> simp [Gr.withN, HM.out])
                  have HN2 : Hid (G2.N.length ≤ i + 1) := Lib.hid (by rw [HM2.out, ← HM.out]; exact Nat.le_succ_of_le HNL.out)
                  have HOK2 := Lib.hid (show G2.Ok ∧ G2.Acyc ∧ Knows f2 G2 by
                    rw [← hG2, ← hf2]
                    exact ⟨Gr.markG_ok HOK.out.1 _ _, by unfold Gr.markG; split <;> exact HOK.out.2.1, HOK.out.2.2.mark HOK.out.1 HAL.out HS8.out HO.out⟩)
                  have HCO := Lib.hid (fun w L (h : Sat W w (IsC c f :: L)) => by have := cmark_any h (a : Int) s HS8.out HSA.out.1 HSA.out.2; rw [hf2] at this; exact this)
                  clear hG2 hf2
                  go_wp2_with (first
                    | (refine toList (by rfl) ?_; refine wp_of_reads (rLdRdA (HR.out.old hS) (gov_len l) _ _ (by rfl) _ (by rfl) (agOf (by rfl)) (szOf (by rfl)) i (by rfl) HX.out (by omega)) ?_)
                    | (refine toList (by rfl) ?_; refine al hS _ (by rfl) (zrOf (by rfl)) ?_; intro px w1 hS1; clear hS; have hS := hS1; clear hS1; rw [cells_agg] at hS)
                    | (refine toList (by rfl) ?_; refine stW hS _ _ _ (by rfl) (by rfl) [.int .i64 xk, .int .i64 xa, .int .i64 xb] (by rfl) (by simp [Value.oneCell']) (szOf (by rfl)) Has.z rfl ?_; intro w1 hS1; clear hS; have hS := hS1; clear hS1; dsimp only [List.set_cons_zero] at hS)
                    | (refine toList (by rfl) ?_; refine ld hS _ _ (by rfl) _ _ (by rfl) (agOf (by rfl)) (by first | exact Has.z | exact Has.s Has.z | exact Has.s (Has.s Has.z) | exact Has.s (Has.s (Has.s Has.z)) | exact Has.s (Has.s (Has.s (Has.s Has.z))) | exact Has.s (Has.s (Has.s (Has.s (Has.s Has.z))))) (by rfl) ?_)
                    | (go_at_call 15; refine (HK.out _).mono ?_; rintro e w1 ⟨rfl, rfl⟩)
                    | (go_at_call 16; refine (len_any hS.pull1 HMI.out).mono ?_; rintro e w1 ⟨rfl, rfl⟩))
                  refine regStart [9] hS (by kernel_rfl) rfl ?_
                  intro w1 hS1
                  clear hS; have hS := hS1; clear hS1
                  (refine regP 0 hS (fun _ h => h) rfl (by kernel_rfl) (by kernel_rfl) (by kernel_rfl) (fun _ _ _ _ h => h) (by rfl) (by rfl) ?_; apply Exists.intro; apply And.intro; (intro w; go_simp; try with_reducible rfl); (simp only [Act.put, List.setIfInBounds_toArray, List.set_cons_zero, List.set_cons_succ]))
                  (refine regR 1 hS (fun _ h => h) rfl (by kernel_rfl) (by kernel_rfl) (by kernel_rfl) (by kernel_rfl) (by kernel_rfl) (fun _ _ _ _ h => h) (by rfl) (by rfl) ?_; (refine ⟨_, yLd _ _ (by rfl) _ _ (by rfl) (agOf (by rfl)) (by first | exact Has.z | exact Has.s Has.z | exact Has.s (Has.s Has.z) | exact Has.s (Has.s (Has.s Has.z)) | exact Has.s (Has.s (Has.s (Has.s Has.z))) | exact Has.s (Has.s (Has.s (Has.s (Has.s Has.z))))) (by rfl), ?_⟩); (simp only [Act.put, List.setIfInBounds_toArray, List.set_cons_zero, List.set_cons_succ]))
                  (refine regP 2 hS (fun _ h => h) rfl (by kernel_rfl) (by kernel_rfl) (by kernel_rfl) (fun _ _ _ _ h => h) (by rfl) (by rfl) ?_; apply Exists.intro; apply And.intro; (intro w; go_simp; try with_reducible rfl); (simp only [Act.put, List.setIfInBounds_toArray, List.set_cons_zero, List.set_cons_succ]))
                  (refine regP 5 hS (fun _ h => h) rfl (by kernel_rfl) (by kernel_rfl) (by kernel_rfl) (fun _ _ _ _ h => h) (by rfl) (by rfl) ?_; apply Exists.intro; apply And.intro; (intro w; go_simp; try with_reducible rfl); (simp only [Act.put, List.setIfInBounds_toArray, List.set_cons_zero, List.set_cons_succ]))
                  (refine regR 6 hS (fun _ h => h) rfl (by kernel_rfl) (by kernel_rfl) (by kernel_rfl) (by kernel_rfl) (by kernel_rfl) (fun _ _ _ _ h => h) (by rfl) (by rfl) ?_; (refine ⟨_, yLd _ _ (by rfl) _ _ (by rfl) (agOf (by rfl)) (by first | exact Has.z | exact Has.s Has.z | exact Has.s (Has.s Has.z) | exact Has.s (Has.s (Has.s Has.z)) | exact Has.s (Has.s (Has.s (Has.s Has.z))) | exact Has.s (Has.s (Has.s (Has.s (Has.s Has.z))))) (by rfl), ?_⟩); (simp only [Act.put, List.setIfInBounds_toArray, List.set_cons_zero, List.set_cons_succ]))
                  (refine regP 7 hS (fun _ h => h) rfl (by kernel_rfl) (by kernel_rfl) (by kernel_rfl) (fun _ _ _ _ h => h) (by rfl) (by rfl) ?_; apply Exists.intro; apply And.intro; (intro w; go_simp; try with_reducible rfl); (simp only [Act.put, List.setIfInBounds_toArray, List.set_cons_zero, List.set_cons_succ]))
                  (refine regA 3 rfl (by kernel_rfl) (by rfl) (by rfl) false (by kernel_rfl) (fun K hK => ?_); (first
                                                        | (refine Go.Sep.cl 16 _ _ (by rfl) (by rfl) (by kernel_rfl) (len_any hS.pull1 HMI.out) ?_; rintro e w1 ⟨rfl, rfl⟩; refine ⟨_, rfl, ?_⟩)
                                                        | (refine Go.Sep.cl 15 _ _ (by rfl) (by rfl) (by kernel_rfl) (HA.out _) ?_; rintro e w1 ⟨rfl, rfl⟩; refine ⟨_, rfl, ?_⟩)
                                                        | (refine Go.Sep.cl 15 _ _ (by rfl) (by rfl) (by kernel_rfl) (HB.out _) ?_; rintro e w1 ⟨rfl, rfl⟩; refine ⟨_, rfl, ?_⟩)); refine hK _ _ _ hS (by first | (intro h; cases h; done) | exact fun _ _ h => h | exact fun _ _ h => h.drop | exact fun _ _ h => h.drop.drop | exact fun _ _ h => h.drop.pull1 | exact fun _ _ h => h.one Has.z | exact fun _ _ h => h.one (Has.s Has.z) | exact fun _ _ h => h.one (Has.s (Has.s Has.z))) ?_; clear hK K; (simp only [Act.put, List.setIfInBounds_toArray, List.set_cons_zero, List.set_cons_succ]))
                  (refine regA 4 rfl (by kernel_rfl) (by rfl) (by rfl) false (by kernel_rfl) (fun K hK => ?_); (first
                                                        | (refine Go.Sep.cl 16 _ _ (by rfl) (by rfl) (by kernel_rfl) (len_any hS.pull1 HMI.out) ?_; rintro e w1 ⟨rfl, rfl⟩; refine ⟨_, rfl, ?_⟩)
                                                        | (refine Go.Sep.cl 15 _ _ (by rfl) (by rfl) (by kernel_rfl) (HA.out _) ?_; rintro e w1 ⟨rfl, rfl⟩; refine ⟨_, rfl, ?_⟩)
                                                        | (refine Go.Sep.cl 15 _ _ (by rfl) (by rfl) (by kernel_rfl) (HB.out _) ?_; rintro e w1 ⟨rfl, rfl⟩; refine ⟨_, rfl, ?_⟩)); refine hK _ _ _ hS (by first | (intro h; cases h; done) | exact fun _ _ h => h | exact fun _ _ h => h.drop | exact fun _ _ h => h.drop.drop | exact fun _ _ h => h.drop.pull1 | exact fun _ _ h => h.one Has.z | exact fun _ _ h => h.one (Has.s Has.z) | exact fun _ _ h => h.one (Has.s (Has.s Has.z))) ?_; clear hK K; (simp only [Act.put, List.setIfInBounds_toArray, List.set_cons_zero, List.set_cons_succ]))
                  (refine regA 8 rfl (by kernel_rfl) (by rfl) (by rfl) false (by kernel_rfl) (fun K hK => ?_); (first
                                                        | (refine Go.Sep.cl 16 _ _ (by rfl) (by rfl) (by kernel_rfl) (len_any hS.pull1 HMI.out) ?_; rintro e w1 ⟨rfl, rfl⟩; refine ⟨_, rfl, ?_⟩)
                                                        | (refine Go.Sep.cl 15 _ _ (by rfl) (by rfl) (by kernel_rfl) (HA.out _) ?_; rintro e w1 ⟨rfl, rfl⟩; refine ⟨_, rfl, ?_⟩)
                                                        | (refine Go.Sep.cl 15 _ _ (by rfl) (by rfl) (by kernel_rfl) (HB.out _) ?_; rintro e w1 ⟨rfl, rfl⟩; refine ⟨_, rfl, ?_⟩)); refine hK _ _ _ hS (by first | (intro h; cases h; done) | exact fun _ _ h => h | exact fun _ _ h => h.drop | exact fun _ _ h => h.drop.drop | exact fun _ _ h => h.drop.pull1 | exact fun _ _ h => h.one Has.z | exact fun _ _ h => h.one (Has.s Has.z) | exact fun _ _ h => h.one (Has.s (Has.s Has.z))) ?_; clear hK K; (simp only [Act.put, List.setIfInBounds_toArray, List.set_cons_zero, List.set_cons_succ]))
                  (refine regA 9 rfl (by kernel_rfl) (by rfl) (by rfl) true (by kernel_rfl) (fun K hK => ?_); (first
                                                        | (refine Go.Sep.cl 16 _ _ (by rfl) (by rfl) (by kernel_rfl) (len_any hS.pull1 HMI.out) ?_; rintro e w1 ⟨rfl, rfl⟩; refine ⟨_, rfl, ?_⟩)
                                                        | (refine Go.Sep.cl 15 _ _ (by rfl) (by rfl) (by kernel_rfl) (HA.out _) ?_; rintro e w1 ⟨rfl, rfl⟩; refine ⟨_, rfl, ?_⟩)
                                                        | (refine Go.Sep.cl 15 _ _ (by rfl) (by rfl) (by kernel_rfl) (HB.out _) ?_; rintro e w1 ⟨rfl, rfl⟩; refine ⟨_, rfl, ?_⟩)); refine hK _ _ _ hS (by first | (intro h; cases h; done) | exact fun _ _ h => h | exact fun _ _ h => h.drop | exact fun _ _ h => h.drop.drop | exact fun _ _ h => h.drop.pull1 | exact fun _ _ h => h.one Has.z | exact fun _ _ h => h.one (Has.s Has.z) | exact fun _ _ h => h.one (Has.s (Has.s Has.z))) ?_; clear hK K; (simp only [Act.put, List.setIfInBounds_toArray, List.set_cons_zero, List.set_cons_succ]))
                  (refine regP 10 hS (fun _ h => h) rfl (by kernel_rfl) (by kernel_rfl) (by kernel_rfl) (fun _ _ _ _ h => h) (by rfl) (by rfl) ?_; apply Exists.intro; apply And.intro; (intro w; go_simp; try with_reducible rfl); (simp only [Act.put, List.setIfInBounds_toArray, List.set_cons_zero, List.set_cons_succ]))
                  (refine regP 11 hS (fun _ h => h) rfl (by kernel_rfl) (by kernel_rfl) (by kernel_rfl) (fun _ _ _ _ h => h) (by rfl) (by rfl) ?_; apply Exists.intro; apply And.intro; (intro w; go_simp; try with_reducible rfl); (simp only [Act.put, List.setIfInBounds_toArray, List.set_cons_zero, List.set_cons_succ]))
                  refine regDone (by kernel_rfl) ?_
                  replace hS := hS.pull1
                  go_wp2_with (first
                    | (go_at_call 27; refine (HCL.out _ _ hS).mono ?_; rintro e w1 ⟨rfl, rfl⟩)
                    | (refine toList (by rfl) ?_; refine ld hS _ _ (by rfl) _ _ (by rfl) (agOf (by rfl)) (Has.s Has.z) (by rfl) ?_)
                    | (go_at_call 15; refine (HP8.out _).mono ?_; rintro e w1 ⟨rfl, rfl⟩)
                    | (go_at_call 34; refine (HOP.out _ _ hS).mono ?_; rintro e w1 ⟨rfl, hS1⟩; clear hS; have hS := hS1; clear hS1)
                    | (go_at_call 48; refine (HCO.out _ _ (hS.re [2])).mono ?_; rintro e w1 ⟨rfl, hS1⟩; clear hS; have hS := hS1; clear hS1))
                  have HM2I := Lib.hid (show (G2.N.length : Int) = (m : Int) by rw [HM2.out])
                  have H5 := Lib.hid hS.pull1.take2
                  clear hS
                  go_loopw [13] (fun v wz => ∃ n : Nat, v = .int .i64 n ∧ n ≤ m ∧ Sat W wz [IsG p G2, IsC c f2]) (fun v _ => m - (intOf v).toNat)
                  case atStart => exact ⟨0, rfl, by omega, H5.out⟩
                  case round =>
                    clear H5
                    obtain ⟨n, rfl, hn, hS⟩ := hrel
                    by_cases hl : n < m
                    · have n1 : (n : Int) < (m : Int) := by omega
                      have hnl := show n < G2.N.length by rw [HM2.out]; exact hl
                      have HOF := Lib.hid (fun w L (h : Sat W w (IsG p G2 :: L)) => by have := of_any h HOK2.out.1 HOK2.out.2.1 (n : Int); rw [Gr.labI_nat hnl] at this; exact this)
                      have HLA := Lib.hid (fun w L (h : Sat W w (IsC c f2 :: L)) => by have := clab_any h (n : Int) (HOK2.out.2.2.small HOK2.out.1 hnl).1 (HOK2.out.2.2.small HOK2.out.1 hnl).2; rw [HOK2.out.2.2.lab HOK2.out.1 hnl] at this; exact this)
                      obtain ⟨y, hy⟩ : ∃ y, G2.lab n = y := ⟨_, rfl⟩
                      rw [hy] at HOF HLA
                      have HL := Lib.hid hl
                      clear hl hnl hy
                      go_wp2_with (first
                        | (go_at_call 16; refine (len_any hS HM2I.out).mono ?_; rintro e w1 ⟨rfl, rfl⟩)
                        | (go_at_call 42; refine (HLA.out _ _ hS.pull1).mono ?_; rintro e w1 ⟨rfl, hS1⟩; clear hS; have hS := hS1; clear hS1)
                        | (go_at_call 36; refine (HOF.out _ _ hS.pull1).mono ?_; rintro e w1 ⟨rfl, hS1⟩; clear hS; have hS := hS1; clear hS1))
                      exact ⟨⟨n + 1, by go_num, HL.out, hS⟩, by simp [intOf]; have := HL.out; omega⟩
                    · have n1 : ¬ (n : Int) < (m : Int) := by omega
                      clear hl
                      go_wp2_with (go_at_call 16; refine (len_any hS HM2I.out).mono ?_; rintro e w1 ⟨rfl, rfl⟩)
                      exact ⟨⟨i + 1, G2, f2, by go_num, by omega, HOK2.out, HE2.out, HN2.out, hS⟩, by simp [intOf]; omega⟩
                · have q5 : ((q : Int) == 6) = false := by simp; omega
                  have q6 : decide ((q : Int) = 6) = false := decide_eq_false (by omega)
                  have q7 : ¬ (q : Int) = 6 := by omega
                  have q8 : (q == 6) = false := by simp [h6]
                  clear hq6 h6
                  obtain ⟨G2, hG2⟩ : ∃ G2, G.clearG (a : Int) (s : Int) = G2 := ⟨_, rfl⟩
                  obtain ⟨f2, hf2⟩ : ∃ f2, updC f (a : Int) ((cv f (a : Int)).1, (cv f (a : Int)).2 ||| 2 ^ s) = f2 := ⟨_, rfl⟩
                  have HOP := Lib.hid (fun w (L : List Asrt) (h : Sat W w (IsG p G :: L)) => (show Calls Try.prog 35 #[.pointer (some ⟨p, 0, none⟩), .int .i64 (a : Int), .int .i64 (s : Int)] w fun e w' => e = .returned (.int .i64 0) ∧ Sat W w' (IsG p G2 :: L) by
                    have := clear_any h (a : Int) (s : Int) HOK.out.1.marks
                    unfold bitE at this
                    rw [bitOk_yes HAL.out HS8.out, if_pos rfl, hG2] at this
                    exact this))
                  have HE2 : Hid (G2.E.length ≤ i + 1) := Lib.hid (by rw [← hG2]; unfold Gr.clearG; split <;> exact Nat.le_succ_of_le HEL.out)
                  have HM2 : Hid (G2.N.length = m) := Lib.hid (by rw [← hG2]; unfold Gr.clearG; split <;> simp [Gr.withN, HM.out])
                  have HN2 : Hid (G2.N.length ≤ i + 1) := Lib.hid (by rw [HM2.out, ← HM.out]; exact Nat.le_succ_of_le HNL.out)
                  have HOK2 := Lib.hid (show G2.Ok ∧ G2.Acyc ∧ Knows f2 G2 by
                    rw [← hG2, ← hf2]
                    exact ⟨Gr.clearG_ok HOK.out.1 _ _, by unfold Gr.clearG; split <;> exact HOK.out.2.1, HOK.out.2.2.clear HOK.out.1 HAL.out HS8.out HO.out⟩)
                  have HCO := Lib.hid (fun w L (h : Sat W w (IsC c f :: L)) => by have := cclear_any h (a : Int) s HS8.out HSA.out.1 HSA.out.2; rw [hf2] at this; exact this)
                  clear hG2 hf2
                  go_wp2_with (first
                    | (refine toList (by rfl) ?_; refine wp_of_reads (rLdRdA (HR.out.old hS) (gov_len l) _ _ (by rfl) _ (by rfl) (agOf (by rfl)) (szOf (by rfl)) i (by rfl) HX.out (by omega)) ?_)
                    | (refine toList (by rfl) ?_; refine al hS _ (by rfl) (zrOf (by rfl)) ?_; intro px w1 hS1; clear hS; have hS := hS1; clear hS1; rw [cells_agg] at hS)
                    | (refine toList (by rfl) ?_; refine stW hS _ _ _ (by rfl) (by rfl) [.int .i64 xk, .int .i64 xa, .int .i64 xb] (by rfl) (by simp [Value.oneCell']) (szOf (by rfl)) Has.z rfl ?_; intro w1 hS1; clear hS; have hS := hS1; clear hS1; dsimp only [List.set_cons_zero] at hS)
                    | (refine toList (by rfl) ?_; refine ld hS _ _ (by rfl) _ _ (by rfl) (agOf (by rfl)) (by first | exact Has.z | exact Has.s Has.z | exact Has.s (Has.s Has.z) | exact Has.s (Has.s (Has.s Has.z)) | exact Has.s (Has.s (Has.s (Has.s Has.z))) | exact Has.s (Has.s (Has.s (Has.s (Has.s Has.z))))) (by rfl) ?_)
                    | (go_at_call 15; refine (HK.out _).mono ?_; rintro e w1 ⟨rfl, rfl⟩)
                    | (go_at_call 16; refine (len_any hS.pull1 HMI.out).mono ?_; rintro e w1 ⟨rfl, rfl⟩))
                  refine regStart [9] hS (by kernel_rfl) rfl ?_
                  intro w1 hS1
                  clear hS; have hS := hS1; clear hS1
                  (refine regP 0 hS (fun _ h => h) rfl (by kernel_rfl) (by kernel_rfl) (by kernel_rfl) (fun _ _ _ _ h => h) (by rfl) (by rfl) ?_; apply Exists.intro; apply And.intro; (intro w; go_simp; try with_reducible rfl); (simp only [Act.put, List.setIfInBounds_toArray, List.set_cons_zero, List.set_cons_succ]))
                  (refine regR 1 hS (fun _ h => h) rfl (by kernel_rfl) (by kernel_rfl) (by kernel_rfl) (by kernel_rfl) (by kernel_rfl) (fun _ _ _ _ h => h) (by rfl) (by rfl) ?_; (refine ⟨_, yLd _ _ (by rfl) _ _ (by rfl) (agOf (by rfl)) (by first | exact Has.z | exact Has.s Has.z | exact Has.s (Has.s Has.z) | exact Has.s (Has.s (Has.s Has.z)) | exact Has.s (Has.s (Has.s (Has.s Has.z))) | exact Has.s (Has.s (Has.s (Has.s (Has.s Has.z))))) (by rfl), ?_⟩); (simp only [Act.put, List.setIfInBounds_toArray, List.set_cons_zero, List.set_cons_succ]))
                  (refine regP 2 hS (fun _ h => h) rfl (by kernel_rfl) (by kernel_rfl) (by kernel_rfl) (fun _ _ _ _ h => h) (by rfl) (by rfl) ?_; apply Exists.intro; apply And.intro; (intro w; go_simp; try with_reducible rfl); (simp only [Act.put, List.setIfInBounds_toArray, List.set_cons_zero, List.set_cons_succ]))
                  (refine regP 5 hS (fun _ h => h) rfl (by kernel_rfl) (by kernel_rfl) (by kernel_rfl) (fun _ _ _ _ h => h) (by rfl) (by rfl) ?_; apply Exists.intro; apply And.intro; (intro w; go_simp; try with_reducible rfl); (simp only [Act.put, List.setIfInBounds_toArray, List.set_cons_zero, List.set_cons_succ]))
                  (refine regR 6 hS (fun _ h => h) rfl (by kernel_rfl) (by kernel_rfl) (by kernel_rfl) (by kernel_rfl) (by kernel_rfl) (fun _ _ _ _ h => h) (by rfl) (by rfl) ?_; (refine ⟨_, yLd _ _ (by rfl) _ _ (by rfl) (agOf (by rfl)) (by first | exact Has.z | exact Has.s Has.z | exact Has.s (Has.s Has.z) | exact Has.s (Has.s (Has.s Has.z)) | exact Has.s (Has.s (Has.s (Has.s Has.z))) | exact Has.s (Has.s (Has.s (Has.s (Has.s Has.z))))) (by rfl), ?_⟩); (simp only [Act.put, List.setIfInBounds_toArray, List.set_cons_zero, List.set_cons_succ]))
                  (refine regP 7 hS (fun _ h => h) rfl (by kernel_rfl) (by kernel_rfl) (by kernel_rfl) (fun _ _ _ _ h => h) (by rfl) (by rfl) ?_; apply Exists.intro; apply And.intro; (intro w; go_simp; try with_reducible rfl); (simp only [Act.put, List.setIfInBounds_toArray, List.set_cons_zero, List.set_cons_succ]))
                  (refine regA 3 rfl (by kernel_rfl) (by rfl) (by rfl) false (by kernel_rfl) (fun K hK => ?_); (first
                                                        | (refine Go.Sep.cl 16 _ _ (by rfl) (by rfl) (by kernel_rfl) (len_any hS.pull1 HMI.out) ?_; rintro e w1 ⟨rfl, rfl⟩; refine ⟨_, rfl, ?_⟩)
                                                        | (refine Go.Sep.cl 15 _ _ (by rfl) (by rfl) (by kernel_rfl) (HA.out _) ?_; rintro e w1 ⟨rfl, rfl⟩; refine ⟨_, rfl, ?_⟩)
                                                        | (refine Go.Sep.cl 15 _ _ (by rfl) (by rfl) (by kernel_rfl) (HB.out _) ?_; rintro e w1 ⟨rfl, rfl⟩; refine ⟨_, rfl, ?_⟩)); refine hK _ _ _ hS (by first | (intro h; cases h; done) | exact fun _ _ h => h | exact fun _ _ h => h.drop | exact fun _ _ h => h.drop.drop | exact fun _ _ h => h.drop.pull1 | exact fun _ _ h => h.one Has.z | exact fun _ _ h => h.one (Has.s Has.z) | exact fun _ _ h => h.one (Has.s (Has.s Has.z))) ?_; clear hK K; (simp only [Act.put, List.setIfInBounds_toArray, List.set_cons_zero, List.set_cons_succ]))
                  (refine regA 4 rfl (by kernel_rfl) (by rfl) (by rfl) false (by kernel_rfl) (fun K hK => ?_); (first
                                                        | (refine Go.Sep.cl 16 _ _ (by rfl) (by rfl) (by kernel_rfl) (len_any hS.pull1 HMI.out) ?_; rintro e w1 ⟨rfl, rfl⟩; refine ⟨_, rfl, ?_⟩)
                                                        | (refine Go.Sep.cl 15 _ _ (by rfl) (by rfl) (by kernel_rfl) (HA.out _) ?_; rintro e w1 ⟨rfl, rfl⟩; refine ⟨_, rfl, ?_⟩)
                                                        | (refine Go.Sep.cl 15 _ _ (by rfl) (by rfl) (by kernel_rfl) (HB.out _) ?_; rintro e w1 ⟨rfl, rfl⟩; refine ⟨_, rfl, ?_⟩)); refine hK _ _ _ hS (by first | (intro h; cases h; done) | exact fun _ _ h => h | exact fun _ _ h => h.drop | exact fun _ _ h => h.drop.drop | exact fun _ _ h => h.drop.pull1 | exact fun _ _ h => h.one Has.z | exact fun _ _ h => h.one (Has.s Has.z) | exact fun _ _ h => h.one (Has.s (Has.s Has.z))) ?_; clear hK K; (simp only [Act.put, List.setIfInBounds_toArray, List.set_cons_zero, List.set_cons_succ]))
                  (refine regA 8 rfl (by kernel_rfl) (by rfl) (by rfl) false (by kernel_rfl) (fun K hK => ?_); (first
                                                        | (refine Go.Sep.cl 16 _ _ (by rfl) (by rfl) (by kernel_rfl) (len_any hS.pull1 HMI.out) ?_; rintro e w1 ⟨rfl, rfl⟩; refine ⟨_, rfl, ?_⟩)
                                                        | (refine Go.Sep.cl 15 _ _ (by rfl) (by rfl) (by kernel_rfl) (HA.out _) ?_; rintro e w1 ⟨rfl, rfl⟩; refine ⟨_, rfl, ?_⟩)
                                                        | (refine Go.Sep.cl 15 _ _ (by rfl) (by rfl) (by kernel_rfl) (HB.out _) ?_; rintro e w1 ⟨rfl, rfl⟩; refine ⟨_, rfl, ?_⟩)); refine hK _ _ _ hS (by first | (intro h; cases h; done) | exact fun _ _ h => h | exact fun _ _ h => h.drop | exact fun _ _ h => h.drop.drop | exact fun _ _ h => h.drop.pull1 | exact fun _ _ h => h.one Has.z | exact fun _ _ h => h.one (Has.s Has.z) | exact fun _ _ h => h.one (Has.s (Has.s Has.z))) ?_; clear hK K; (simp only [Act.put, List.setIfInBounds_toArray, List.set_cons_zero, List.set_cons_succ]))
                  (refine regA 9 rfl (by kernel_rfl) (by rfl) (by rfl) true (by kernel_rfl) (fun K hK => ?_); (first
                                                        | (refine Go.Sep.cl 16 _ _ (by rfl) (by rfl) (by kernel_rfl) (len_any hS.pull1 HMI.out) ?_; rintro e w1 ⟨rfl, rfl⟩; refine ⟨_, rfl, ?_⟩)
                                                        | (refine Go.Sep.cl 15 _ _ (by rfl) (by rfl) (by kernel_rfl) (HA.out _) ?_; rintro e w1 ⟨rfl, rfl⟩; refine ⟨_, rfl, ?_⟩)
                                                        | (refine Go.Sep.cl 15 _ _ (by rfl) (by rfl) (by kernel_rfl) (HB.out _) ?_; rintro e w1 ⟨rfl, rfl⟩; refine ⟨_, rfl, ?_⟩)); refine hK _ _ _ hS (by first | (intro h; cases h; done) | exact fun _ _ h => h | exact fun _ _ h => h.drop | exact fun _ _ h => h.drop.drop | exact fun _ _ h => h.drop.pull1 | exact fun _ _ h => h.one Has.z | exact fun _ _ h => h.one (Has.s Has.z) | exact fun _ _ h => h.one (Has.s (Has.s Has.z))) ?_; clear hK K; (simp only [Act.put, List.setIfInBounds_toArray, List.set_cons_zero, List.set_cons_succ]))
                  (refine regP 10 hS (fun _ h => h) rfl (by kernel_rfl) (by kernel_rfl) (by kernel_rfl) (fun _ _ _ _ h => h) (by rfl) (by rfl) ?_; apply Exists.intro; apply And.intro; (intro w; go_simp; try with_reducible rfl); (simp only [Act.put, List.setIfInBounds_toArray, List.set_cons_zero, List.set_cons_succ]))
                  (refine regP 11 hS (fun _ h => h) rfl (by kernel_rfl) (by kernel_rfl) (by kernel_rfl) (fun _ _ _ _ h => h) (by rfl) (by rfl) ?_; apply Exists.intro; apply And.intro; (intro w; go_simp; try with_reducible rfl); (simp only [Act.put, List.setIfInBounds_toArray, List.set_cons_zero, List.set_cons_succ]))
                  refine regDone (by kernel_rfl) ?_
                  replace hS := hS.pull1
                  go_wp2_with (first
                    | (go_at_call 27; refine (HCL.out _ _ hS).mono ?_; rintro e w1 ⟨rfl, rfl⟩)
                    | (refine toList (by rfl) ?_; refine ld hS _ _ (by rfl) _ _ (by rfl) (agOf (by rfl)) (Has.s Has.z) (by rfl) ?_)
                    | (go_at_call 15; refine (HP8.out _).mono ?_; rintro e w1 ⟨rfl, rfl⟩)
                    | (go_at_call 35; refine (HOP.out _ _ hS).mono ?_; rintro e w1 ⟨rfl, hS1⟩; clear hS; have hS := hS1; clear hS1)
                    | (go_at_call 49; refine (HCO.out _ _ (hS.re [2])).mono ?_; rintro e w1 ⟨rfl, hS1⟩; clear hS; have hS := hS1; clear hS1))
                  have HM2I := Lib.hid (show (G2.N.length : Int) = (m : Int) by rw [HM2.out])
                  have H5 := Lib.hid hS.pull1.take2
                  clear hS
                  go_loopw [13] (fun v wz => ∃ n : Nat, v = .int .i64 n ∧ n ≤ m ∧ Sat W wz [IsG p G2, IsC c f2]) (fun v _ => m - (intOf v).toNat)
                  case atStart => exact ⟨0, rfl, by omega, H5.out⟩
                  case round =>
                    clear H5
                    obtain ⟨n, rfl, hn, hS⟩ := hrel
                    by_cases hl : n < m
                    · have n1 : (n : Int) < (m : Int) := by omega
                      have hnl := show n < G2.N.length by rw [HM2.out]; exact hl
                      have HOF := Lib.hid (fun w L (h : Sat W w (IsG p G2 :: L)) => by have := of_any h HOK2.out.1 HOK2.out.2.1 (n : Int); rw [Gr.labI_nat hnl] at this; exact this)
                      have HLA := Lib.hid (fun w L (h : Sat W w (IsC c f2 :: L)) => by have := clab_any h (n : Int) (HOK2.out.2.2.small HOK2.out.1 hnl).1 (HOK2.out.2.2.small HOK2.out.1 hnl).2; rw [HOK2.out.2.2.lab HOK2.out.1 hnl] at this; exact this)
                      obtain ⟨y, hy⟩ : ∃ y, G2.lab n = y := ⟨_, rfl⟩
                      rw [hy] at HOF HLA
                      have HL := Lib.hid hl
                      clear hl hnl hy
                      go_wp2_with (first
                        | (go_at_call 16; refine (len_any hS HM2I.out).mono ?_; rintro e w1 ⟨rfl, rfl⟩)
                        | (go_at_call 42; refine (HLA.out _ _ hS.pull1).mono ?_; rintro e w1 ⟨rfl, hS1⟩; clear hS; have hS := hS1; clear hS1)
                        | (go_at_call 36; refine (HOF.out _ _ hS.pull1).mono ?_; rintro e w1 ⟨rfl, hS1⟩; clear hS; have hS := hS1; clear hS1))
                      exact ⟨⟨n + 1, by go_num, HL.out, hS⟩, by simp [intOf]; have := HL.out; omega⟩
                    · have n1 : ¬ (n : Int) < (m : Int) := by omega
                      clear hl
                      go_wp2_with (go_at_call 16; refine (len_any hS HM2I.out).mono ?_; rintro e w1 ⟨rfl, rfl⟩)
                      exact ⟨⟨i + 1, G2, f2, by go_num, by omega, HOK2.out, HE2.out, HN2.out, hS⟩, by simp [intOf]; omega⟩
            · have HCL := Lib.hid (fun w L (h : Sat W w (IsG p G :: L)) => closed_any h (a : Int) (r := true) (by rw [Gr.downsI_nat HAL.out]; exact decide_eq_true (List.length_pos_iff.2 ho)))
              clear ho
              go_wp2_with (first
                | (refine toList (by rfl) ?_; refine wp_of_reads (rLdRdA (HR.out.old hS) (gov_len l) _ _ (by rfl) _ (by rfl) (agOf (by rfl)) (szOf (by rfl)) i (by rfl) HX.out (by omega)) ?_)
                | (refine toList (by rfl) ?_; refine al hS _ (by rfl) (zrOf (by rfl)) ?_; intro px w1 hS1; clear hS; have hS := hS1; clear hS1; rw [cells_agg] at hS)
                | (refine toList (by rfl) ?_; refine stW hS _ _ _ (by rfl) (by rfl) [.int .i64 xk, .int .i64 xa, .int .i64 xb] (by rfl) (by simp [Value.oneCell']) (szOf (by rfl)) Has.z rfl ?_; intro w1 hS1; clear hS; have hS := hS1; clear hS1; dsimp only [List.set_cons_zero] at hS)
                | (refine toList (by rfl) ?_; refine ld hS _ _ (by rfl) _ _ (by rfl) (agOf (by rfl)) (by first | exact Has.z | exact Has.s Has.z | exact Has.s (Has.s Has.z) | exact Has.s (Has.s (Has.s Has.z)) | exact Has.s (Has.s (Has.s (Has.s Has.z))) | exact Has.s (Has.s (Has.s (Has.s (Has.s Has.z))))) (by rfl) ?_)
                | (go_at_call 15; refine (HK.out _).mono ?_; rintro e w1 ⟨rfl, rfl⟩)
                | (go_at_call 16; refine (len_any hS.pull1 HMI.out).mono ?_; rintro e w1 ⟨rfl, rfl⟩))
              refine regStart [9] hS (by kernel_rfl) rfl ?_
              intro w1 hS1
              clear hS; have hS := hS1; clear hS1
              (refine regP 0 hS (fun _ h => h) rfl (by kernel_rfl) (by kernel_rfl) (by kernel_rfl) (fun _ _ _ _ h => h) (by rfl) (by rfl) ?_; apply Exists.intro; apply And.intro; (intro w; go_simp; try with_reducible rfl); (simp only [Act.put, List.setIfInBounds_toArray, List.set_cons_zero, List.set_cons_succ]))
              (refine regR 1 hS (fun _ h => h) rfl (by kernel_rfl) (by kernel_rfl) (by kernel_rfl) (by kernel_rfl) (by kernel_rfl) (fun _ _ _ _ h => h) (by rfl) (by rfl) ?_; (refine ⟨_, yLd _ _ (by rfl) _ _ (by rfl) (agOf (by rfl)) (by first | exact Has.z | exact Has.s Has.z | exact Has.s (Has.s Has.z) | exact Has.s (Has.s (Has.s Has.z)) | exact Has.s (Has.s (Has.s (Has.s Has.z))) | exact Has.s (Has.s (Has.s (Has.s (Has.s Has.z))))) (by rfl), ?_⟩); (simp only [Act.put, List.setIfInBounds_toArray, List.set_cons_zero, List.set_cons_succ]))
              (refine regP 2 hS (fun _ h => h) rfl (by kernel_rfl) (by kernel_rfl) (by kernel_rfl) (fun _ _ _ _ h => h) (by rfl) (by rfl) ?_; apply Exists.intro; apply And.intro; (intro w; go_simp; try with_reducible rfl); (simp only [Act.put, List.setIfInBounds_toArray, List.set_cons_zero, List.set_cons_succ]))
              (refine regP 5 hS (fun _ h => h) rfl (by kernel_rfl) (by kernel_rfl) (by kernel_rfl) (fun _ _ _ _ h => h) (by rfl) (by rfl) ?_; apply Exists.intro; apply And.intro; (intro w; go_simp; try with_reducible rfl); (simp only [Act.put, List.setIfInBounds_toArray, List.set_cons_zero, List.set_cons_succ]))
              (refine regR 6 hS (fun _ h => h) rfl (by kernel_rfl) (by kernel_rfl) (by kernel_rfl) (by kernel_rfl) (by kernel_rfl) (fun _ _ _ _ h => h) (by rfl) (by rfl) ?_; (refine ⟨_, yLd _ _ (by rfl) _ _ (by rfl) (agOf (by rfl)) (by first | exact Has.z | exact Has.s Has.z | exact Has.s (Has.s Has.z) | exact Has.s (Has.s (Has.s Has.z)) | exact Has.s (Has.s (Has.s (Has.s Has.z))) | exact Has.s (Has.s (Has.s (Has.s (Has.s Has.z))))) (by rfl), ?_⟩); (simp only [Act.put, List.setIfInBounds_toArray, List.set_cons_zero, List.set_cons_succ]))
              (refine regP 7 hS (fun _ h => h) rfl (by kernel_rfl) (by kernel_rfl) (by kernel_rfl) (fun _ _ _ _ h => h) (by rfl) (by rfl) ?_; apply Exists.intro; apply And.intro; (intro w; go_simp; try with_reducible rfl); (simp only [Act.put, List.setIfInBounds_toArray, List.set_cons_zero, List.set_cons_succ]))
              (refine regA 3 rfl (by kernel_rfl) (by rfl) (by rfl) false (by kernel_rfl) (fun K hK => ?_); (first
                                            | (refine Go.Sep.cl 16 _ _ (by rfl) (by rfl) (by kernel_rfl) (len_any hS.pull1 HMI.out) ?_; rintro e w1 ⟨rfl, rfl⟩; refine ⟨_, rfl, ?_⟩)
                                            | (refine Go.Sep.cl 15 _ _ (by rfl) (by rfl) (by kernel_rfl) (HA.out _) ?_; rintro e w1 ⟨rfl, rfl⟩; refine ⟨_, rfl, ?_⟩)
                                            | (refine Go.Sep.cl 15 _ _ (by rfl) (by rfl) (by kernel_rfl) (HB.out _) ?_; rintro e w1 ⟨rfl, rfl⟩; refine ⟨_, rfl, ?_⟩)); refine hK _ _ _ hS (by first | (intro h; cases h; done) | exact fun _ _ h => h | exact fun _ _ h => h.drop | exact fun _ _ h => h.drop.drop | exact fun _ _ h => h.drop.pull1 | exact fun _ _ h => h.one Has.z | exact fun _ _ h => h.one (Has.s Has.z) | exact fun _ _ h => h.one (Has.s (Has.s Has.z))) ?_; clear hK K; (simp only [Act.put, List.setIfInBounds_toArray, List.set_cons_zero, List.set_cons_succ]))
              (refine regA 4 rfl (by kernel_rfl) (by rfl) (by rfl) false (by kernel_rfl) (fun K hK => ?_); (first
                                            | (refine Go.Sep.cl 16 _ _ (by rfl) (by rfl) (by kernel_rfl) (len_any hS.pull1 HMI.out) ?_; rintro e w1 ⟨rfl, rfl⟩; refine ⟨_, rfl, ?_⟩)
                                            | (refine Go.Sep.cl 15 _ _ (by rfl) (by rfl) (by kernel_rfl) (HA.out _) ?_; rintro e w1 ⟨rfl, rfl⟩; refine ⟨_, rfl, ?_⟩)
                                            | (refine Go.Sep.cl 15 _ _ (by rfl) (by rfl) (by kernel_rfl) (HB.out _) ?_; rintro e w1 ⟨rfl, rfl⟩; refine ⟨_, rfl, ?_⟩)); refine hK _ _ _ hS (by first | (intro h; cases h; done) | exact fun _ _ h => h | exact fun _ _ h => h.drop | exact fun _ _ h => h.drop.drop | exact fun _ _ h => h.drop.pull1 | exact fun _ _ h => h.one Has.z | exact fun _ _ h => h.one (Has.s Has.z) | exact fun _ _ h => h.one (Has.s (Has.s Has.z))) ?_; clear hK K; (simp only [Act.put, List.setIfInBounds_toArray, List.set_cons_zero, List.set_cons_succ]))
              (refine regA 8 rfl (by kernel_rfl) (by rfl) (by rfl) false (by kernel_rfl) (fun K hK => ?_); (first
                                            | (refine Go.Sep.cl 16 _ _ (by rfl) (by rfl) (by kernel_rfl) (len_any hS.pull1 HMI.out) ?_; rintro e w1 ⟨rfl, rfl⟩; refine ⟨_, rfl, ?_⟩)
                                            | (refine Go.Sep.cl 15 _ _ (by rfl) (by rfl) (by kernel_rfl) (HA.out _) ?_; rintro e w1 ⟨rfl, rfl⟩; refine ⟨_, rfl, ?_⟩)
                                            | (refine Go.Sep.cl 15 _ _ (by rfl) (by rfl) (by kernel_rfl) (HB.out _) ?_; rintro e w1 ⟨rfl, rfl⟩; refine ⟨_, rfl, ?_⟩)); refine hK _ _ _ hS (by first | (intro h; cases h; done) | exact fun _ _ h => h | exact fun _ _ h => h.drop | exact fun _ _ h => h.drop.drop | exact fun _ _ h => h.drop.pull1 | exact fun _ _ h => h.one Has.z | exact fun _ _ h => h.one (Has.s Has.z) | exact fun _ _ h => h.one (Has.s (Has.s Has.z))) ?_; clear hK K; (simp only [Act.put, List.setIfInBounds_toArray, List.set_cons_zero, List.set_cons_succ]))
              (refine regA 9 rfl (by kernel_rfl) (by rfl) (by rfl) true (by kernel_rfl) (fun K hK => ?_); (first
                                            | (refine Go.Sep.cl 16 _ _ (by rfl) (by rfl) (by kernel_rfl) (len_any hS.pull1 HMI.out) ?_; rintro e w1 ⟨rfl, rfl⟩; refine ⟨_, rfl, ?_⟩)
                                            | (refine Go.Sep.cl 15 _ _ (by rfl) (by rfl) (by kernel_rfl) (HA.out _) ?_; rintro e w1 ⟨rfl, rfl⟩; refine ⟨_, rfl, ?_⟩)
                                            | (refine Go.Sep.cl 15 _ _ (by rfl) (by rfl) (by kernel_rfl) (HB.out _) ?_; rintro e w1 ⟨rfl, rfl⟩; refine ⟨_, rfl, ?_⟩)); refine hK _ _ _ hS (by first | (intro h; cases h; done) | exact fun _ _ h => h | exact fun _ _ h => h.drop | exact fun _ _ h => h.drop.drop | exact fun _ _ h => h.drop.pull1 | exact fun _ _ h => h.one Has.z | exact fun _ _ h => h.one (Has.s Has.z) | exact fun _ _ h => h.one (Has.s (Has.s Has.z))) ?_; clear hK K; (simp only [Act.put, List.setIfInBounds_toArray, List.set_cons_zero, List.set_cons_succ]))
              (refine regP 10 hS (fun _ h => h) rfl (by kernel_rfl) (by kernel_rfl) (by kernel_rfl) (fun _ _ _ _ h => h) (by rfl) (by rfl) ?_; apply Exists.intro; apply And.intro; (intro w; go_simp; try with_reducible rfl); (simp only [Act.put, List.setIfInBounds_toArray, List.set_cons_zero, List.set_cons_succ]))
              (refine regP 11 hS (fun _ h => h) rfl (by kernel_rfl) (by kernel_rfl) (by kernel_rfl) (fun _ _ _ _ h => h) (by rfl) (by rfl) ?_; apply Exists.intro; apply And.intro; (intro w; go_simp; try with_reducible rfl); (simp only [Act.put, List.setIfInBounds_toArray, List.set_cons_zero, List.set_cons_succ]))
              refine regDone (by kernel_rfl) ?_
              replace hS := hS.pull1
              go_wp2_with (first
                | (go_at_call 27; refine (HCL.out _ _ hS).mono ?_; rintro e w1 ⟨rfl, rfl⟩)
                | (refine toList (by rfl) ?_; refine ld hS _ _ (by rfl) _ _ (by rfl) (agOf (by rfl)) (Has.s Has.z) (by rfl) ?_)
                | (go_at_call 15; refine (HP8.out _).mono ?_; rintro e w1 ⟨rfl, rfl⟩))
              exact ⟨⟨i + 1, G, f, by go_num, by omega, HOK.out, Nat.le_succ_of_le HEL.out, Nat.le_succ_of_le HNL.out, (hS.re [0, 2]).take2⟩, by simp [intOf]; omega⟩
      · have e3 : decide ((i : Int) < 80) = false := decide_eq_false (by omega)
        have e4 : ¬ (i : Int) < 80 := by omega
        clear h80
        go_wp2_with (go_at_call 37; refine (wake_any hS).mono ?_; rintro e w1 ⟨rfl, hS1⟩; clear hS; have hS := hS1; clear hS1)
        go_ret
        exact ⟨rfl, hS.drop.drop⟩
    · have e1 : decide ((i : Int) < (l.length : Int)) = false := decide_eq_false (by omega)
      have e1b : decide (i < l.length) = false := decide_eq_false hf
      have e4 : ¬ (i : Int) < (l.length : Int) := by omega
      clear hf
      go_wp2_with (go_at_call 37; refine (wake_any hS).mono ?_; rintro e w1 ⟨rfl, hS1⟩; clear hS; have hS := hS1; clear hS1)
      go_ret
      exact ⟨rfl, hS.drop.drop⟩

set_option maxRecDepth 100000 in
theorem Keeps.contract (H : Type) (enc : TypeId × Value → H) (W : World) (base : Nat) (args : Array Value) (ds gs : List (DataW H)) (before : List MemPlace)
    (hval : ∀ (j : Nat) t v, Try.f13.params[j]? = some t → args[j]? = some v → Value.okWide Try.prog W .any base t v)
    (hW : DataW.Whole enc Try.prog Try.f13.params.toList Rows.labelKeepsSpec.vars false W args.toList ds gs before)
    (hreach : (DataW.weightsEach Try.prog (Try.f13.params.toList ++ Rows.labelKeepsSpec.plain.varTypes Try.prog) (ds ++ gs)).all (· ≤ reachBytes) = true) :
    Calls Try.prog 13 args W fun e W' => ∃ v, e = .returned v ∧ Rows.labelKeepsSpec.post enc Try.prog Try.f13 false true false false W args v W' := by
  have hW' := hW
  obtain ⟨p, q, hA, hV, rfl, hfz, hnd⟩ := hW
  rw [Try.params13] at hA hval hreach
  obtain ⟨v1, vs1, d1, ds1, p1, q1, hargs, rfl, rfl, h1, r1⟩ := trodAll_cons hA
  obtain ⟨rfl, rfl, rfl⟩ := trodAll_nil r1
  obtain rfl : args = #[v1] := by cases args; simp_all
  obtain ⟨rfl, rfl⟩ := trodVars_none hV
  obtain ⟨ao1, l1, c1, rfl⟩ := okWide_slice Try.underlying22 (hval 0 22 v1 rfl rfl)
  obtain ⟨l, rfl, hr, _⟩ := open_gops h1
  refine (Keeps.walk l ao1 c1 W hr).mono ?_
  refine fun e W' ⟨he, hS⟩ => ?_
  subst he
  exact ⟨_, rfl, law_post (tb := 4) (by kernel_rfl) (by kernel_rfl) rfl Try.underlying4 rfl hW' rfl hS⟩

theorem Keeps.own : ownKnob Try.prog.godebug = none := by kernel_rfl
set_option maxRecDepth 100000 in
theorem Keeps.lifted (os : Os) (started : os.Started) (H : Type) (enc : TypeId × Value → H) :
    ReturnsInHanded {} Try.checked os 13 .any (Rows.labelKeepsSpec.pre6 enc Try.prog Try.f13 Rows.labelKeepsRow.domain false) (Rows.labelKeepsSpec.post enc Try.prog Try.f13 false true false false) := by
  refine returnsInHanded_of_change_shaped (C := Try.checked) Keeps.own started (by kernel_rfl) Try.func13
    (ChangeSpec.witness6 (enc := enc) (C := Try.checked) false ⟨#[], #[.slice none 0 0], []⟩ 8 (by kernel_rfl) (by kernel_rfl) (by kernel_rfl) (by kernel_rfl)) ?_
  intro W base args ds gs before hval hW _ hreach _ _
  exact Keeps.contract H enc W base args ds gs before hval hW hreach

theorem Keeps.holds : Rows.LabelKeepsSaid :=
  OpenClaim.holds_of_wide 13 Try.f13 rfl rfl rfl rfl rfl rfl rfl ⟨rfl, rfl, rfl, rfl, rfl⟩ rfl rfl rfl rfl rfl (by kernel_rfl) Try.func13 (by kernel_rfl)
    (of_decide_eq_true (by kernel_rfl)) (by unfold Func.isWrapper; first | (rw [if_pos (by decide +kernel)]; kernel_rfl) | (rw [if_neg (by decide +kernel)]; exact ⟨rfl, rfl⟩))
    (fun os started H enc _ => Keeps.lifted os started H enc)
end Go.Proofs.Ytfbphibgcolmbaa
