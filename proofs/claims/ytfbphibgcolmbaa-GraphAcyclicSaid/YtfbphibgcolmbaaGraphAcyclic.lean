/-
  For all calls, GraphAcyclic answers true: no condition.
-/
import Derived.Test.YtfbphibgcolmbaaGrAcyP
namespace Go.Proofs.Ytfbphibgcolmbaa
open Go.RowKit Go.Sep Go.ChangeShapes Go.WideShapes Go.ChangeAt
set_option linter.unusedSimpArgs false
set_option linter.unusedVariables false
attribute [local irreducible] Go.Oper.wp Go.wpList Go.Calls Go.Code.wp Go.Sep.Reg
attribute [local irreducible] IsG
set_option maxRecDepth 20000 in
set_option maxHeartbeats 4000000 in
theorem Acyc.walk (l : List GOpD) (ao : Option Addr) (c : Nat) (W : World) (hr : Rd W (.slice ao l.length c) l.length 3 (l.flatMap gov)) :
    Calls Try.prog 3 #[.slice ao l.length c] W fun e w' => e = .returned (.bool true) ∧ Sat W w' [] := by
  have hS := Sat.start W
  have HR := Lib.hid hr
  obtain ⟨_, _, he, hc1, hc2, _, h5⟩ := hr
  simp only [Value.slice.injEq, true_and] at he
  obtain ⟨rfl, rfl⟩ := he
  have H5 := Lib.hid h5
  clear h5
  go_enter Try.func3, Try.ntmps3
  go_wp2_with (first
    | (go_at_call 14; refine (new_any hS).mono ?_; rintro e w1 ⟨p, rfl, hS1⟩; clear hS; have hS := hS1; clear hS1))
  have H0 := Lib.hid hS
  go_loopw [4] (fun v wz => ∃ (i : Nat) (G : Gr), v = .int .i64 i ∧ i ≤ 80 ∧ G.Ok ∧ G.Acyc ∧ G.E.length ≤ i ∧ G.N.length ≤ i ∧ Sat W wz [IsG p G]) (fun v _ => 80 - (intOf v).toNat)
  case atStart => exact ⟨0, Gr.new, rfl, by omega, Gr.new_ok, Gr.acyc_new, Nat.le_refl _, Nat.le_refl _, H0.out⟩
  case round =>
    clear hS H0
    obtain ⟨i, G, rfl, hi, hok, hac, hel, hnl, hS⟩ := hrel
    have HOK := Lib.hid hok
    have HAC := Lib.hid hac
    obtain ⟨m, hm⟩ : ∃ m, G.N.length = m := ⟨_, rfl⟩
    have HM := Lib.hid hm
    have HMI := Lib.hid (show (G.N.length : Int) = (m : Int) by rw [hm])
    have hm80 : m ≤ 80 := by omega
    have HEL := Lib.hid (show G.E.length < 1000000 by omega)
    have HEL2 := Lib.hid hel
    have HNL2 := Lib.hid hnl
    clear hok hac hel hnl hm
    by_cases hf : i < l.length
    · have i1 : (i : Int) < (l.length : Int) := by omega
      have e1 : decide ((i : Int) < (l.length : Int)) = true := decide_eq_true i1
      by_cases h80 : i < 80
      · have i3 : (i : Int) < 80 := by omega
        have e3 : decide ((i : Int) < 80) = true := decide_eq_true i3
        obtain ⟨⟨xk, xa, xb⟩, hx⟩ : ∃ x, l[i]? = some x := ⟨_, List.getElem?_eq_getElem hf⟩
        have HX := Lib.hid hx
        obtain ⟨b0, off, rfl, _⟩ := H5.out (by omega)
        clear hx
        obtain ⟨q, hq⟩ : ∃ q : Nat, xk % 9 = q := ⟨(xk % 9).toNat, by omega⟩
        have HK := Lib.hid (fun w => (show Calls Try.prog 15 #[.int .i64 xk, .int .i64 9] w fun e w' => e = .returned (.int .i64 (q : Int)) ∧ w = w' by rw [← hq]; exact place_any xk 9 (by decide) (by decide) w))
        clear hq
        by_cases hq2 : q < 2
        · have q1 : (q : Int) < 2 := by omega
          have q2 : decide ((q : Int) < 2) = true := decide_eq_true q1
          clear hq2
          obtain ⟨a, hxa⟩ : ∃ a : Nat, xa % 5 = a := ⟨(xa % 5).toNat, by omega⟩
          obtain ⟨b, hxb⟩ : ∃ b : Nat, xb % 5 = b := ⟨(xb % 5).toNat, by omega⟩
          have ha : (a : Int) < 5 := by omega
          have hb : (b : Int) < 5 := by omega
          have HA := Lib.hid (fun w => (show Calls Try.prog 15 #[.int .i64 xa, .int .i64 5] w fun e w' => e = .returned (.int .i64 (a : Int)) ∧ w = w' by rw [← hxa]; exact place_any xa 5 (by decide) (by decide) w))
          have HB := Lib.hid (fun w => (show Calls Try.prog 15 #[.int .i64 xb, .int .i64 5] w fun e w' => e = .returned (.int .i64 (b : Int)) ∧ w = w' by rw [← hxb]; exact place_any xb 5 (by decide) (by decide) w))
          clear hxa hxb
          obtain ⟨G2, hG2⟩ : ∃ G2, G.plus (1 + (a : Int)) (1 + (b : Int)) = G2 := ⟨_, rfl⟩
          have HADD := Lib.hid (fun w (L : List Asrt) (h : Sat W w (IsG p G :: L)) => (show Calls Try.prog 17 #[.pointer (some ⟨p, 0, none⟩), .int .i64 (1 + (a : Int)), .int .i64 (1 + (b : Int))] w fun e w' => e = .returned (.tuple #[.int .i64 (m : Int), .int .i64 0]) ∧ Sat W w' (IsG p G2 :: L) by
            have hnew : newOk (1 + (a : Int)) (1 + (b : Int)) = true := newOk_yes (by omega) (by omega) (by omega) (by omega)
            have hadd : G.addOk (1 + (a : Int)) (1 + (b : Int)) = true := by
              unfold Gr.addOk
              rw [hnew, HM.out, decide_eq_true (by omega)]; rfl
            have := add_any h HOK.out (1 + (a : Int)) (1 + (b : Int))
            unfold Gr.addI Gr.addE Gr.addG at this
            rw [hadd, if_pos rfl, if_pos rfl, hnew, if_pos rfl, HM.out, if_pos (by omega), hG2] at this
            exact this))
          have HOK2 : Hid G2.Ok := Lib.hid (by rw [← hG2]; exact Gr.plus_ok HOK.out (by rw [HM.out]; omega))
          have HAC2 : Hid G2.Acyc := Lib.hid (by rw [← hG2]; exact Gr.acyc_plus HAC.out _ _)
          have HE2 : Hid (G2.E.length ≤ i + 1) := Lib.hid (by rw [← hG2]; exact Nat.le_succ_of_le HEL2.out)
          have HN2 : Hid (G2.N.length ≤ i + 1) := Lib.hid (by rw [← hG2]; have := HNL2.out; simp [Gr.plus]; omega)
          have HMI2 := Lib.hid (show (G2.N.length : Int) = (m : Int) + 1 by rw [← hG2]; have := HM.out; simp [Gr.plus, this])
          clear hG2
          go_wp2_with (first
            | (refine toList (by rfl) ?_; refine wp_of_reads (rLdRdA (HR.out.old hS) (gov_len l) _ _ (by rfl) _ (by rfl) (agOf (by rfl)) (szOf (by rfl)) i (by rfl) HX.out (by omega)) ?_)
            | (refine toList (by rfl) ?_; refine al hS _ (by rfl) (zrOf (by rfl)) ?_; intro px w1 hS1; clear hS; have hS := hS1; clear hS1; rw [cells_agg] at hS)
            | (refine toList (by rfl) ?_; refine stW hS _ _ _ (by rfl) (by rfl) [.int .i64 xk, .int .i64 xa, .int .i64 xb] (by rfl) (by simp [Value.oneCell']) (szOf (by rfl)) Has.z rfl ?_; intro w1 hS1; clear hS; have hS := hS1; clear hS1; dsimp only [List.set_cons_zero] at hS)
            | (refine toList (by rfl) ?_; refine ld hS _ _ (by rfl) _ _ (by rfl) (agOf (by rfl)) (by first | exact Has.z | exact Has.s Has.z | exact Has.s (Has.s Has.z) | exact Has.s (Has.s (Has.s Has.z)) | exact Has.s (Has.s (Has.s (Has.s Has.z))) | exact Has.s (Has.s (Has.s (Has.s (Has.s Has.z))))) (by rfl) ?_)
            | (go_at_call 15; refine (HK.out _).mono ?_; rintro e w1 ⟨rfl, rfl⟩)
            | (go_at_call 16; refine (len_any hS.pull1 HMI.out).mono ?_; rintro e w1 ⟨rfl, rfl⟩))
          refine regStart [7, 9] hS (by kernel_rfl) rfl ?_
          intro w1 hS1
          clear hS; have hS := hS1; clear hS1
          (refine regP 0 hS (fun _ h => h) rfl (by kernel_rfl) (by kernel_rfl) (by kernel_rfl) (fun _ _ _ _ h => h) (by rfl) (by rfl) ?_; apply Exists.intro; apply And.intro; (intro w; go_simp; try with_reducible rfl); (simp only [Act.put, List.setIfInBounds_toArray, List.set_cons_zero, List.set_cons_succ]))
          (refine regP 1 hS (fun _ h => h) rfl (by kernel_rfl) (by kernel_rfl) (by kernel_rfl) (fun _ _ _ _ h => h) (by rfl) (by rfl) ?_; apply Exists.intro; apply And.intro; (intro w; go_simp; try with_reducible rfl); (simp only [Act.put, List.setIfInBounds_toArray, List.set_cons_zero, List.set_cons_succ]))
          (refine regR 2 hS (fun _ h => h) rfl (by kernel_rfl) (by kernel_rfl) (by kernel_rfl) (by kernel_rfl) (by kernel_rfl) (fun _ _ _ _ h => h) (by rfl) (by rfl) ?_; (refine ⟨_, yLd _ _ (by rfl) _ _ (by rfl) (agOf (by rfl)) (by first | exact Has.z | exact Has.s Has.z | exact Has.s (Has.s Has.z) | exact Has.s (Has.s (Has.s Has.z)) | exact Has.s (Has.s (Has.s (Has.s Has.z))) | exact Has.s (Has.s (Has.s (Has.s (Has.s Has.z))))) (by rfl), ?_⟩); (simp only [Act.put, List.setIfInBounds_toArray, List.set_cons_zero, List.set_cons_succ]))
          (refine regP 5 hS (fun _ h => h) rfl (by kernel_rfl) (by kernel_rfl) (by kernel_rfl) (fun _ _ _ _ h => h) (by rfl) (by rfl) ?_; apply Exists.intro; apply And.intro; (intro w; go_simp; try with_reducible rfl); (simp only [Act.put, List.setIfInBounds_toArray, List.set_cons_zero, List.set_cons_succ]))
          (refine regR 6 hS (fun _ h => h) rfl (by kernel_rfl) (by kernel_rfl) (by kernel_rfl) (by kernel_rfl) (by kernel_rfl) (fun _ _ _ _ h => h) (by rfl) (by rfl) ?_; (refine ⟨_, yLd _ _ (by rfl) _ _ (by rfl) (agOf (by rfl)) (by first | exact Has.z | exact Has.s Has.z | exact Has.s (Has.s Has.z) | exact Has.s (Has.s (Has.s Has.z)) | exact Has.s (Has.s (Has.s (Has.s Has.z))) | exact Has.s (Has.s (Has.s (Has.s (Has.s Has.z))))) (by rfl), ?_⟩); (simp only [Act.put, List.setIfInBounds_toArray, List.set_cons_zero, List.set_cons_succ]))
          (refine regA 3 rfl (by kernel_rfl) (by rfl) (by rfl) false (by kernel_rfl) (fun K hK => ?_); (first
                                | (refine Go.Sep.cl 15 _ _ (by rfl) (by rfl) (by kernel_rfl) (HA.out _) ?_; rintro e w1 ⟨rfl, rfl⟩; refine ⟨_, rfl, ?_⟩)
                                | (refine Go.Sep.cl 15 _ _ (by rfl) (by rfl) (by kernel_rfl) (HB.out _) ?_; rintro e w1 ⟨rfl, rfl⟩; refine ⟨_, rfl, ?_⟩)
                                | (refine Go.Sep.cl 17 _ _ (by rfl) (by rfl) (by kernel_rfl) (HADD.out _ _ hS.pull1) ?_; rintro e w1 ⟨rfl, hS1⟩; clear hS; have hS := hS1; clear hS1; refine ⟨_, rfl, ?_⟩)); refine hK _ _ _ hS (by first | (intro h; cases h; done) | exact fun _ _ h => h | exact fun _ _ h => h.drop | exact fun _ _ h => h.drop.drop | exact fun _ _ h => h.one Has.z | exact fun _ _ h => h.one (Has.s Has.z) | exact fun _ _ h => h.one (Has.s (Has.s Has.z))) ?_; clear hK K; (simp only [Act.put, List.setIfInBounds_toArray, List.set_cons_zero, List.set_cons_succ]))
          (refine regP 4 hS (fun _ h => h) rfl (by kernel_rfl) (by kernel_rfl) (by kernel_rfl) (fun _ _ _ _ h => h) (by rfl) (by rfl) ?_; apply Exists.intro; apply And.intro; (intro w; go_simp; try with_reducible rfl); (simp only [Act.put, List.setIfInBounds_toArray, List.set_cons_zero, List.set_cons_succ]); try simp (disch := omega) only [IntWalk.i64_in])
          (refine regA 7 rfl (by kernel_rfl) (by rfl) (by rfl) true (by kernel_rfl) (fun K hK => ?_); (first
                                | (refine Go.Sep.cl 15 _ _ (by rfl) (by rfl) (by kernel_rfl) (HA.out _) ?_; rintro e w1 ⟨rfl, rfl⟩; refine ⟨_, rfl, ?_⟩)
                                | (refine Go.Sep.cl 15 _ _ (by rfl) (by rfl) (by kernel_rfl) (HB.out _) ?_; rintro e w1 ⟨rfl, rfl⟩; refine ⟨_, rfl, ?_⟩)
                                | (refine Go.Sep.cl 17 _ _ (by rfl) (by rfl) (by kernel_rfl) (HADD.out _ _ hS.pull1) ?_; rintro e w1 ⟨rfl, hS1⟩; clear hS; have hS := hS1; clear hS1; refine ⟨_, rfl, ?_⟩)); refine hK _ _ _ hS (by first | (intro h; cases h; done) | exact fun _ _ h => h | exact fun _ _ h => h.drop | exact fun _ _ h => h.drop.drop | exact fun _ _ h => h.one Has.z | exact fun _ _ h => h.one (Has.s Has.z) | exact fun _ _ h => h.one (Has.s (Has.s Has.z))) ?_; clear hK K; (simp only [Act.put, List.setIfInBounds_toArray, List.set_cons_zero, List.set_cons_succ]))
          (refine regP 8 hS (fun _ h => h) rfl (by kernel_rfl) (by kernel_rfl) (by kernel_rfl) (fun _ _ _ _ h => h) (by rfl) (by rfl) ?_; apply Exists.intro; apply And.intro; (intro w; go_simp; try with_reducible rfl); (simp only [Act.put, List.setIfInBounds_toArray, List.set_cons_zero, List.set_cons_succ]); try simp (disch := omega) only [IntWalk.i64_in])
          (refine regA 9 rfl (by kernel_rfl) (by rfl) (by rfl) true (by kernel_rfl) (fun K hK => ?_); (first
                                | (refine Go.Sep.cl 15 _ _ (by rfl) (by rfl) (by kernel_rfl) (HA.out _) ?_; rintro e w1 ⟨rfl, rfl⟩; refine ⟨_, rfl, ?_⟩)
                                | (refine Go.Sep.cl 15 _ _ (by rfl) (by rfl) (by kernel_rfl) (HB.out _) ?_; rintro e w1 ⟨rfl, rfl⟩; refine ⟨_, rfl, ?_⟩)
                                | (refine Go.Sep.cl 17 _ _ (by rfl) (by rfl) (by kernel_rfl) (HADD.out _ _ hS.pull1) ?_; rintro e w1 ⟨rfl, hS1⟩; clear hS; have hS := hS1; clear hS1; refine ⟨_, rfl, ?_⟩)); refine hK _ _ _ hS (by first | (intro h; cases h; done) | exact fun _ _ h => h | exact fun _ _ h => h.drop | exact fun _ _ h => h.drop.drop | exact fun _ _ h => h.one Has.z | exact fun _ _ h => h.one (Has.s Has.z) | exact fun _ _ h => h.one (Has.s (Has.s Has.z))) ?_; clear hK K; (simp only [Act.put, List.setIfInBounds_toArray, List.set_cons_zero, List.set_cons_succ]))
          (refine regP 10 hS (fun _ h => h) rfl (by kernel_rfl) (by kernel_rfl) (by kernel_rfl) (fun _ _ _ _ h => h) (by rfl) (by rfl) ?_; apply Exists.intro; apply And.intro; (intro w; go_simp; try with_reducible rfl); (simp only [Act.put, List.setIfInBounds_toArray, List.set_cons_zero, List.set_cons_succ]))
          (refine regP 11 hS (fun _ h => h) rfl (by kernel_rfl) (by kernel_rfl) (by kernel_rfl) (fun _ _ _ _ h => h) (by rfl) (by rfl) ?_; apply Exists.intro; apply And.intro; (intro w; go_simp; try with_reducible rfl); (simp only [Act.put, List.setIfInBounds_toArray, List.set_cons_zero, List.set_cons_succ]))
          (refine regP 12 hS (fun _ h => h) rfl (by kernel_rfl) (by kernel_rfl) (by kernel_rfl) (fun _ _ _ _ h => h) (by rfl) (by rfl) ?_; apply Exists.intro; apply And.intro; (intro w; go_simp; try with_reducible rfl); (simp only [Act.put, List.setIfInBounds_toArray, List.set_cons_zero, List.set_cons_succ]))
          (refine regP 13 hS (fun _ h => h) rfl (by kernel_rfl) (by kernel_rfl) (by kernel_rfl) (fun _ _ _ _ h => h) (by rfl) (by rfl) ?_; apply Exists.intro; apply And.intro; (intro w; go_simp; try with_reducible rfl); (simp only [Act.put, List.setIfInBounds_toArray, List.set_cons_zero, List.set_cons_succ]))
          (refine regP 14 hS (fun _ h => h) rfl (by kernel_rfl) (by kernel_rfl) (by kernel_rfl) (fun _ _ _ _ h => h) (by rfl) (by rfl) ?_; apply Exists.intro; apply And.intro; (intro w; go_simp; try with_reducible rfl); (simp only [Act.put, List.setIfInBounds_toArray, List.set_cons_zero, List.set_cons_succ]))
          refine regDone (by kernel_rfl) ?_
          go_wp2_with (go_at_call 16; refine (len_any hS HMI2.out).mono ?_; rintro e w1 ⟨rfl, rfl⟩)
          exact ⟨⟨i + 1, G2, by go_num, by omega, HOK2.out, HAC2.out, HE2.out, HN2.out, hS.pull1.drop⟩, by simp [intOf]; omega⟩
        · have q1 : decide ((q : Int) < 2) = false := decide_eq_false (by omega)
          clear hq2
          by_cases hm0 : m = 0
          · have m1 : ((m : Int) == 0) = true := by simp [hm0]
            have m2 : (m == 0) = true := by simp [hm0]
            clear hm0
            go_wp2_with (first
              | (refine toList (by rfl) ?_; refine wp_of_reads (rLdRdA (HR.out.old hS) (gov_len l) _ _ (by rfl) _ (by rfl) (agOf (by rfl)) (szOf (by rfl)) i (by rfl) HX.out (by omega)) ?_)
              | (refine toList (by rfl) ?_; refine al hS _ (by rfl) (zrOf (by rfl)) ?_; intro px w1 hS1; clear hS; have hS := hS1; clear hS1; rw [cells_agg] at hS)
              | (refine toList (by rfl) ?_; refine stW hS _ _ _ (by rfl) (by rfl) [.int .i64 xk, .int .i64 xa, .int .i64 xb] (by rfl) (by simp [Value.oneCell']) (szOf (by rfl)) Has.z rfl ?_; intro w1 hS1; clear hS; have hS := hS1; clear hS1; dsimp only [List.set_cons_zero] at hS)
              | (refine toList (by rfl) ?_; refine ld hS _ _ (by rfl) _ _ (by rfl) (agOf (by rfl)) (by first | exact Has.z | exact Has.s Has.z | exact Has.s (Has.s Has.z) | exact Has.s (Has.s (Has.s Has.z)) | exact Has.s (Has.s (Has.s (Has.s Has.z))) | exact Has.s (Has.s (Has.s (Has.s (Has.s Has.z))))) (by rfl) ?_)
              | (go_at_call 15; refine (HK.out _).mono ?_; rintro e w1 ⟨rfl, rfl⟩)
              | (go_at_call 16; refine (len_any hS.pull1 HMI.out).mono ?_; rintro e w1 ⟨rfl, rfl⟩))
            exact ⟨⟨i + 1, G, by go_num, by omega, HOK.out, HAC.out, Nat.le_succ_of_le HEL2.out, Nat.le_succ_of_le HNL2.out, hS.drop⟩, by simp [intOf]; omega⟩
          · have m1 : ((m : Int) == 0) = false := by simp [hm0]
            have m2 : (m == 0) = false := by simp [hm0]
            obtain ⟨a, hxa⟩ : ∃ a : Nat, xa % (m : Int) = a := ⟨(xa % (m : Int)).toNat, by have := Int.emod_nonneg xa (show (m : Int) ≠ 0 by omega); omega⟩
            obtain ⟨b, hxb⟩ : ∃ b : Nat, xb % (m : Int) = b := ⟨(xb % (m : Int)).toNat, by have := Int.emod_nonneg xb (show (m : Int) ≠ 0 by omega); omega⟩
            have ha : (a : Int) < (m : Int) := by rw [← hxa]; exact Int.emod_lt_of_pos xa (by omega)
            have hb : (b : Int) < (m : Int) := by rw [← hxb]; exact Int.emod_lt_of_pos xb (by omega)
            have HA := Lib.hid (fun w => (show Calls Try.prog 15 #[.int .i64 xa, .int .i64 (m : Int)] w fun e w' => e = .returned (.int .i64 (a : Int)) ∧ w = w' by rw [← hxa]; exact place_any xa m (by omega) (by omega) w))
            have HB := Lib.hid (fun w => (show Calls Try.prog 15 #[.int .i64 xb, .int .i64 (m : Int)] w fun e w' => e = .returned (.int .i64 (b : Int)) ∧ w = w' by rw [← hxb]; exact place_any xb m (by omega) (by omega) w))
            clear hxa hxb hm0
            obtain ⟨G2, hG2⟩ : ∃ G2, G.edgeG (a : Int) (b : Int) = G2 := ⟨_, rfl⟩
            obtain ⟨ec, hec⟩ : ∃ ec, G.edgeE (a : Int) (b : Int) = ec := ⟨_, rfl⟩
            obtain ⟨r, hrr⟩ : ∃ r, G.reaches (b : Int) (a : Int) = r := ⟨_, rfl⟩
            have hcs := G.edgeE_cases (a := a) (b := b) (by rw [HM.out]; omega) (by rw [HM.out]; omega)
            have h0 := fun h => Gr.edge_reaches (G := G) (a := a) (b := b) h
            have HED := Lib.hid (fun w (L : List Asrt) (h : Sat W w (IsG p G :: L)) => (show Calls Try.prog 19 #[.pointer (some ⟨p, 0, none⟩), .int .i64 (a : Int), .int .i64 (b : Int)] w fun e w' => e = .returned (.int .i64 ec) ∧ Sat W w' (IsG p G2 :: L) by
              have := edge_any h HOK.out (a : Int) (b : Int)
              rw [hec, hG2] at this
              exact this))
            have HOK2 : Hid G2.Ok := Lib.hid (by rw [← hG2]; exact Gr.edgeG_ok HOK.out _ _ HEL.out)
            have HAC2 : Hid G2.Acyc := Lib.hid (by rw [← hG2]; exact Gr.acyc_edge HAC.out _ _)
            have HE2 : Hid (G2.E.length ≤ i + 1) := Lib.hid (by rw [← hG2]; have := G.edgeG_len (a : Int) (b : Int); have := HEL2.out; omega)
            have HN2 : Hid (G2.N.length ≤ i + 1) := Lib.hid (by rw [← hG2, Gr.edgeG_N]; exact Nat.le_succ_of_le HNL2.out)
            have HRE := Lib.hid (fun w (L : List Asrt) (h : Sat W w (IsG p G :: L)) => (show Calls Try.prog 18 #[.pointer (some ⟨p, 0, none⟩), .int .i64 (b : Int), .int .i64 (a : Int)] w fun e w' => e = .returned (.bool r) ∧ Sat W w' (IsG p G :: L) by
              have := reaches_any h HOK.out (b : Int) (a : Int)
              rw [hrr] at this
              exact this))
            rw [hec] at hcs h0
            rw [hrr, hG2] at h0
            obtain ⟨r2, hr2⟩ : ∃ r2, G2.reaches (a : Int) (b : Int) = r2 := ⟨_, rfl⟩
            have HRF := Lib.hid (fun w (L : List Asrt) (h : Sat W w (IsG p G2 :: L)) => (show Calls Try.prog 18 #[.pointer (some ⟨p, 0, none⟩), .int .i64 (a : Int), .int .i64 (b : Int)] w fun e w' => e = .returned (.bool r2) ∧ Sat W w' (IsG p G2 :: L) by
              have := reaches_any h HOK2.out (a : Int) (b : Int)
              rw [hr2] at this
              exact this))
            rw [hr2] at h0
            clear hec hrr hr2 hG2
            rcases hcs with ⟨hab, rfl⟩ | ⟨hab, rfl | rfl⟩ | ⟨hab, rfl⟩
            · subst hab
              clear h0
              go_wp2_with (first
                | (refine toList (by rfl) ?_; refine wp_of_reads (rLdRdA (HR.out.old hS) (gov_len l) _ _ (by rfl) _ (by rfl) (agOf (by rfl)) (szOf (by rfl)) i (by rfl) HX.out (by omega)) ?_)
                | (refine toList (by rfl) ?_; refine al hS _ (by rfl) (zrOf (by rfl)) ?_; intro px w1 hS1; clear hS; have hS := hS1; clear hS1; rw [cells_agg] at hS)
                | (refine toList (by rfl) ?_; refine stW hS _ _ _ (by rfl) (by rfl) [.int .i64 xk, .int .i64 xa, .int .i64 xb] (by rfl) (by simp [Value.oneCell']) (szOf (by rfl)) Has.z rfl ?_; intro w1 hS1; clear hS; have hS := hS1; clear hS1; dsimp only [List.set_cons_zero] at hS)
                | (refine toList (by rfl) ?_; refine ld hS _ _ (by rfl) _ _ (by rfl) (agOf (by rfl)) (by first | exact Has.z | exact Has.s Has.z | exact Has.s (Has.s Has.z) | exact Has.s (Has.s (Has.s Has.z)) | exact Has.s (Has.s (Has.s (Has.s Has.z))) | exact Has.s (Has.s (Has.s (Has.s (Has.s Has.z))))) (by rfl) ?_)
                | (go_at_call 15; refine (HK.out _).mono ?_; rintro e w1 ⟨rfl, rfl⟩)
                | (go_at_call 16; refine (len_any hS.pull1 HMI.out).mono ?_; rintro e w1 ⟨rfl, rfl⟩))
              refine regStart [9] hS (by kernel_rfl) rfl ?_
              intro w1 hS1
              clear hS; have hS := hS1; clear hS1
              (refine regP 0 hS (fun _ h => h) rfl (by kernel_rfl) (by kernel_rfl) (by kernel_rfl) (fun _ _ _ _ h => h) (by rfl) (by rfl) ?_; apply Exists.intro; apply And.intro; (intro w; go_simp; try with_reducible rfl); (simp only [Act.put, List.setIfInBounds_toArray, List.set_cons_zero, List.set_cons_succ]))
              (refine regR 1 hS (fun _ h => h) rfl (by kernel_rfl) (by kernel_rfl) (by kernel_rfl) (by kernel_rfl) (by kernel_rfl) (fun _ _ _ _ h => h) (by rfl) (by rfl) ?_; (refine ⟨_, yLd _ _ (by rfl) _ _ (by rfl) (agOf (by rfl)) (by first | exact Has.z | exact Has.s Has.z | exact Has.s (Has.s Has.z) | exact Has.s (Has.s (Has.s Has.z)) | exact Has.s (Has.s (Has.s (Has.s Has.z))) | exact Has.s (Has.s (Has.s (Has.s (Has.s Has.z))))) (by rfl), ?_⟩); (simp only [Act.put, List.setIfInBounds_toArray, List.set_cons_zero, List.set_cons_succ]))
              (refine regP 2 hS (fun _ h => h) rfl (by kernel_rfl) (by kernel_rfl) (by kernel_rfl) (fun _ _ _ _ h => h) (by rfl) (by rfl) ?_; apply Exists.intro; apply And.intro; (intro w; go_simp; try with_reducible rfl); (simp only [Act.put, List.setIfInBounds_toArray, List.set_cons_zero, List.set_cons_succ]))
              (refine regP 5 hS (fun _ h => h) rfl (by kernel_rfl) (by kernel_rfl) (by kernel_rfl) (fun _ _ _ _ h => h) (by rfl) (by rfl) ?_; apply Exists.intro; apply And.intro; (intro w; go_simp; try with_reducible rfl); (simp only [Act.put, List.setIfInBounds_toArray, List.set_cons_zero, List.set_cons_succ]))
              (refine regR 6 hS (fun _ h => h) rfl (by kernel_rfl) (by kernel_rfl) (by kernel_rfl) (by kernel_rfl) (by kernel_rfl) (fun _ _ _ _ h => h) (by rfl) (by rfl) ?_; (refine ⟨_, yLd _ _ (by rfl) _ _ (by rfl) (agOf (by rfl)) (by first | exact Has.z | exact Has.s Has.z | exact Has.s (Has.s Has.z) | exact Has.s (Has.s (Has.s Has.z)) | exact Has.s (Has.s (Has.s (Has.s Has.z))) | exact Has.s (Has.s (Has.s (Has.s (Has.s Has.z))))) (by rfl), ?_⟩); (simp only [Act.put, List.setIfInBounds_toArray, List.set_cons_zero, List.set_cons_succ]))
              (refine regP 7 hS (fun _ h => h) rfl (by kernel_rfl) (by kernel_rfl) (by kernel_rfl) (fun _ _ _ _ h => h) (by rfl) (by rfl) ?_; apply Exists.intro; apply And.intro; (intro w; go_simp; try with_reducible rfl); (simp only [Act.put, List.setIfInBounds_toArray, List.set_cons_zero, List.set_cons_succ]))
              (refine regA 3 rfl (by kernel_rfl) (by rfl) (by rfl) false (by kernel_rfl) (fun K hK => ?_); (first
                                            | (refine Go.Sep.cl 16 _ _ (by rfl) (by rfl) (by kernel_rfl) (len_any hS.pull1 HMI.out) ?_; rintro e w1 ⟨rfl, rfl⟩; refine ⟨_, rfl, ?_⟩)
                                            | (refine Go.Sep.cl 15 _ _ (by rfl) (by rfl) (by kernel_rfl) (HA.out _) ?_; rintro e w1 ⟨rfl, rfl⟩; refine ⟨_, rfl, ?_⟩)
                                            | (refine Go.Sep.cl 15 _ _ (by rfl) (by rfl) (by kernel_rfl) (HB.out _) ?_; rintro e w1 ⟨rfl, rfl⟩; refine ⟨_, rfl, ?_⟩)); refine hK _ _ _ hS (by first | (intro h; cases h; done) | exact fun _ _ h => h | exact fun _ _ h => h.drop | exact fun _ _ h => h.drop.drop | exact fun _ _ h => h.one Has.z | exact fun _ _ h => h.one (Has.s Has.z) | exact fun _ _ h => h.one (Has.s (Has.s Has.z))) ?_; clear hK K; (simp only [Act.put, List.setIfInBounds_toArray, List.set_cons_zero, List.set_cons_succ]))
              (refine regA 4 rfl (by kernel_rfl) (by rfl) (by rfl) false (by kernel_rfl) (fun K hK => ?_); (first
                                            | (refine Go.Sep.cl 16 _ _ (by rfl) (by rfl) (by kernel_rfl) (len_any hS.pull1 HMI.out) ?_; rintro e w1 ⟨rfl, rfl⟩; refine ⟨_, rfl, ?_⟩)
                                            | (refine Go.Sep.cl 15 _ _ (by rfl) (by rfl) (by kernel_rfl) (HA.out _) ?_; rintro e w1 ⟨rfl, rfl⟩; refine ⟨_, rfl, ?_⟩)
                                            | (refine Go.Sep.cl 15 _ _ (by rfl) (by rfl) (by kernel_rfl) (HB.out _) ?_; rintro e w1 ⟨rfl, rfl⟩; refine ⟨_, rfl, ?_⟩)); refine hK _ _ _ hS (by first | (intro h; cases h; done) | exact fun _ _ h => h | exact fun _ _ h => h.drop | exact fun _ _ h => h.drop.drop | exact fun _ _ h => h.one Has.z | exact fun _ _ h => h.one (Has.s Has.z) | exact fun _ _ h => h.one (Has.s (Has.s Has.z))) ?_; clear hK K; (simp only [Act.put, List.setIfInBounds_toArray, List.set_cons_zero, List.set_cons_succ]))
              (refine regA 8 rfl (by kernel_rfl) (by rfl) (by rfl) false (by kernel_rfl) (fun K hK => ?_); (first
                                            | (refine Go.Sep.cl 16 _ _ (by rfl) (by rfl) (by kernel_rfl) (len_any hS.pull1 HMI.out) ?_; rintro e w1 ⟨rfl, rfl⟩; refine ⟨_, rfl, ?_⟩)
                                            | (refine Go.Sep.cl 15 _ _ (by rfl) (by rfl) (by kernel_rfl) (HA.out _) ?_; rintro e w1 ⟨rfl, rfl⟩; refine ⟨_, rfl, ?_⟩)
                                            | (refine Go.Sep.cl 15 _ _ (by rfl) (by rfl) (by kernel_rfl) (HB.out _) ?_; rintro e w1 ⟨rfl, rfl⟩; refine ⟨_, rfl, ?_⟩)); refine hK _ _ _ hS (by first | (intro h; cases h; done) | exact fun _ _ h => h | exact fun _ _ h => h.drop | exact fun _ _ h => h.drop.drop | exact fun _ _ h => h.one Has.z | exact fun _ _ h => h.one (Has.s Has.z) | exact fun _ _ h => h.one (Has.s (Has.s Has.z))) ?_; clear hK K; (simp only [Act.put, List.setIfInBounds_toArray, List.set_cons_zero, List.set_cons_succ]))
              (refine regA 9 rfl (by kernel_rfl) (by rfl) (by rfl) true (by kernel_rfl) (fun K hK => ?_); (first
                                            | (refine Go.Sep.cl 16 _ _ (by rfl) (by rfl) (by kernel_rfl) (len_any hS.pull1 HMI.out) ?_; rintro e w1 ⟨rfl, rfl⟩; refine ⟨_, rfl, ?_⟩)
                                            | (refine Go.Sep.cl 15 _ _ (by rfl) (by rfl) (by kernel_rfl) (HA.out _) ?_; rintro e w1 ⟨rfl, rfl⟩; refine ⟨_, rfl, ?_⟩)
                                            | (refine Go.Sep.cl 15 _ _ (by rfl) (by rfl) (by kernel_rfl) (HB.out _) ?_; rintro e w1 ⟨rfl, rfl⟩; refine ⟨_, rfl, ?_⟩)); refine hK _ _ _ hS (by first | (intro h; cases h; done) | exact fun _ _ h => h | exact fun _ _ h => h.drop | exact fun _ _ h => h.drop.drop | exact fun _ _ h => h.one Has.z | exact fun _ _ h => h.one (Has.s Has.z) | exact fun _ _ h => h.one (Has.s (Has.s Has.z))) ?_; clear hK K; (simp only [Act.put, List.setIfInBounds_toArray, List.set_cons_zero, List.set_cons_succ]))
              (refine regP 10 hS (fun _ h => h) rfl (by kernel_rfl) (by kernel_rfl) (by kernel_rfl) (fun _ _ _ _ h => h) (by rfl) (by rfl) ?_; apply Exists.intro; apply And.intro; (intro w; go_simp; try with_reducible rfl); (simp only [Act.put, List.setIfInBounds_toArray, List.set_cons_zero, List.set_cons_succ]))
              (refine regP 11 hS (fun _ h => h) rfl (by kernel_rfl) (by kernel_rfl) (by kernel_rfl) (fun _ _ _ _ h => h) (by rfl) (by rfl) ?_; apply Exists.intro; apply And.intro; (intro w; go_simp; try with_reducible rfl); (simp only [Act.put, List.setIfInBounds_toArray, List.set_cons_zero, List.set_cons_succ]))
              refine regDone (by kernel_rfl) ?_
              replace hS := hS.pull1
              go_wp2_with (first
                | (go_at_call 19; refine (HED.out _ _ hS).mono ?_; rintro e w1 ⟨rfl, hS1⟩; clear hS; have hS := hS1; clear hS1)
                | (go_at_call 18; (first | with_reducible refine (HRE.out _ _ hS).mono ?_ | with_reducible refine (HRF.out _ _ hS).mono ?_); rintro e w1 ⟨rfl, hS1⟩; clear hS; have hS := hS1; clear hS1))
              exact ⟨⟨i + 1, G2, by go_num, by omega, HOK2.out, HAC2.out, HE2.out, HN2.out, hS.pull1.drop⟩, by simp [intOf]; omega⟩
            · have a1 : ((a : Int) == (b : Int)) = false := by simp; omega
              have a2 : (a == b) = false := by simp [hab]
              have a3 : decide ((a : Int) = (b : Int)) = false := decide_eq_false (by omega)
              have a4 : ¬ (a : Int) = (b : Int) := by omega
              clear h0 hab
              cases r
              · go_wp2_with (first
                  | (refine toList (by rfl) ?_; refine wp_of_reads (rLdRdA (HR.out.old hS) (gov_len l) _ _ (by rfl) _ (by rfl) (agOf (by rfl)) (szOf (by rfl)) i (by rfl) HX.out (by omega)) ?_)
                  | (refine toList (by rfl) ?_; refine al hS _ (by rfl) (zrOf (by rfl)) ?_; intro px w1 hS1; clear hS; have hS := hS1; clear hS1; rw [cells_agg] at hS)
                  | (refine toList (by rfl) ?_; refine stW hS _ _ _ (by rfl) (by rfl) [.int .i64 xk, .int .i64 xa, .int .i64 xb] (by rfl) (by simp [Value.oneCell']) (szOf (by rfl)) Has.z rfl ?_; intro w1 hS1; clear hS; have hS := hS1; clear hS1; dsimp only [List.set_cons_zero] at hS)
                  | (refine toList (by rfl) ?_; refine ld hS _ _ (by rfl) _ _ (by rfl) (agOf (by rfl)) (by first | exact Has.z | exact Has.s Has.z | exact Has.s (Has.s Has.z) | exact Has.s (Has.s (Has.s Has.z)) | exact Has.s (Has.s (Has.s (Has.s Has.z))) | exact Has.s (Has.s (Has.s (Has.s (Has.s Has.z))))) (by rfl) ?_)
                  | (go_at_call 15; refine (HK.out _).mono ?_; rintro e w1 ⟨rfl, rfl⟩)
                  | (go_at_call 16; refine (len_any hS.pull1 HMI.out).mono ?_; rintro e w1 ⟨rfl, rfl⟩))
                refine regStart [9] hS (by kernel_rfl) rfl ?_
                intro w1 hS1
                clear hS; have hS := hS1; clear hS1
                (refine regP 0 hS (fun _ h => h) rfl (by kernel_rfl) (by kernel_rfl) (by kernel_rfl) (fun _ _ _ _ h => h) (by rfl) (by rfl) ?_; apply Exists.intro; apply And.intro; (intro w; go_simp; try with_reducible rfl); (simp only [Act.put, List.setIfInBounds_toArray, List.set_cons_zero, List.set_cons_succ]))
                (refine regR 1 hS (fun _ h => h) rfl (by kernel_rfl) (by kernel_rfl) (by kernel_rfl) (by kernel_rfl) (by kernel_rfl) (fun _ _ _ _ h => h) (by rfl) (by rfl) ?_; (refine ⟨_, yLd _ _ (by rfl) _ _ (by rfl) (agOf (by rfl)) (by first | exact Has.z | exact Has.s Has.z | exact Has.s (Has.s Has.z) | exact Has.s (Has.s (Has.s Has.z)) | exact Has.s (Has.s (Has.s (Has.s Has.z))) | exact Has.s (Has.s (Has.s (Has.s (Has.s Has.z))))) (by rfl), ?_⟩); (simp only [Act.put, List.setIfInBounds_toArray, List.set_cons_zero, List.set_cons_succ]))
                (refine regP 2 hS (fun _ h => h) rfl (by kernel_rfl) (by kernel_rfl) (by kernel_rfl) (fun _ _ _ _ h => h) (by rfl) (by rfl) ?_; apply Exists.intro; apply And.intro; (intro w; go_simp; try with_reducible rfl); (simp only [Act.put, List.setIfInBounds_toArray, List.set_cons_zero, List.set_cons_succ]))
                (refine regP 5 hS (fun _ h => h) rfl (by kernel_rfl) (by kernel_rfl) (by kernel_rfl) (fun _ _ _ _ h => h) (by rfl) (by rfl) ?_; apply Exists.intro; apply And.intro; (intro w; go_simp; try with_reducible rfl); (simp only [Act.put, List.setIfInBounds_toArray, List.set_cons_zero, List.set_cons_succ]))
                (refine regR 6 hS (fun _ h => h) rfl (by kernel_rfl) (by kernel_rfl) (by kernel_rfl) (by kernel_rfl) (by kernel_rfl) (fun _ _ _ _ h => h) (by rfl) (by rfl) ?_; (refine ⟨_, yLd _ _ (by rfl) _ _ (by rfl) (agOf (by rfl)) (by first | exact Has.z | exact Has.s Has.z | exact Has.s (Has.s Has.z) | exact Has.s (Has.s (Has.s Has.z)) | exact Has.s (Has.s (Has.s (Has.s Has.z))) | exact Has.s (Has.s (Has.s (Has.s (Has.s Has.z))))) (by rfl), ?_⟩); (simp only [Act.put, List.setIfInBounds_toArray, List.set_cons_zero, List.set_cons_succ]))
                (refine regP 7 hS (fun _ h => h) rfl (by kernel_rfl) (by kernel_rfl) (by kernel_rfl) (fun _ _ _ _ h => h) (by rfl) (by rfl) ?_; apply Exists.intro; apply And.intro; (intro w; go_simp; try with_reducible rfl); (simp only [Act.put, List.setIfInBounds_toArray, List.set_cons_zero, List.set_cons_succ]))
                (refine regA 3 rfl (by kernel_rfl) (by rfl) (by rfl) false (by kernel_rfl) (fun K hK => ?_); (first
                                                  | (refine Go.Sep.cl 16 _ _ (by rfl) (by rfl) (by kernel_rfl) (len_any hS.pull1 HMI.out) ?_; rintro e w1 ⟨rfl, rfl⟩; refine ⟨_, rfl, ?_⟩)
                                                  | (refine Go.Sep.cl 15 _ _ (by rfl) (by rfl) (by kernel_rfl) (HA.out _) ?_; rintro e w1 ⟨rfl, rfl⟩; refine ⟨_, rfl, ?_⟩)
                                                  | (refine Go.Sep.cl 15 _ _ (by rfl) (by rfl) (by kernel_rfl) (HB.out _) ?_; rintro e w1 ⟨rfl, rfl⟩; refine ⟨_, rfl, ?_⟩)); refine hK _ _ _ hS (by first | (intro h; cases h; done) | exact fun _ _ h => h | exact fun _ _ h => h.drop | exact fun _ _ h => h.drop.drop | exact fun _ _ h => h.one Has.z | exact fun _ _ h => h.one (Has.s Has.z) | exact fun _ _ h => h.one (Has.s (Has.s Has.z))) ?_; clear hK K; (simp only [Act.put, List.setIfInBounds_toArray, List.set_cons_zero, List.set_cons_succ]))
                (refine regA 4 rfl (by kernel_rfl) (by rfl) (by rfl) false (by kernel_rfl) (fun K hK => ?_); (first
                                                  | (refine Go.Sep.cl 16 _ _ (by rfl) (by rfl) (by kernel_rfl) (len_any hS.pull1 HMI.out) ?_; rintro e w1 ⟨rfl, rfl⟩; refine ⟨_, rfl, ?_⟩)
                                                  | (refine Go.Sep.cl 15 _ _ (by rfl) (by rfl) (by kernel_rfl) (HA.out _) ?_; rintro e w1 ⟨rfl, rfl⟩; refine ⟨_, rfl, ?_⟩)
                                                  | (refine Go.Sep.cl 15 _ _ (by rfl) (by rfl) (by kernel_rfl) (HB.out _) ?_; rintro e w1 ⟨rfl, rfl⟩; refine ⟨_, rfl, ?_⟩)); refine hK _ _ _ hS (by first | (intro h; cases h; done) | exact fun _ _ h => h | exact fun _ _ h => h.drop | exact fun _ _ h => h.drop.drop | exact fun _ _ h => h.one Has.z | exact fun _ _ h => h.one (Has.s Has.z) | exact fun _ _ h => h.one (Has.s (Has.s Has.z))) ?_; clear hK K; (simp only [Act.put, List.setIfInBounds_toArray, List.set_cons_zero, List.set_cons_succ]))
                (refine regA 8 rfl (by kernel_rfl) (by rfl) (by rfl) false (by kernel_rfl) (fun K hK => ?_); (first
                                                  | (refine Go.Sep.cl 16 _ _ (by rfl) (by rfl) (by kernel_rfl) (len_any hS.pull1 HMI.out) ?_; rintro e w1 ⟨rfl, rfl⟩; refine ⟨_, rfl, ?_⟩)
                                                  | (refine Go.Sep.cl 15 _ _ (by rfl) (by rfl) (by kernel_rfl) (HA.out _) ?_; rintro e w1 ⟨rfl, rfl⟩; refine ⟨_, rfl, ?_⟩)
                                                  | (refine Go.Sep.cl 15 _ _ (by rfl) (by rfl) (by kernel_rfl) (HB.out _) ?_; rintro e w1 ⟨rfl, rfl⟩; refine ⟨_, rfl, ?_⟩)); refine hK _ _ _ hS (by first | (intro h; cases h; done) | exact fun _ _ h => h | exact fun _ _ h => h.drop | exact fun _ _ h => h.drop.drop | exact fun _ _ h => h.one Has.z | exact fun _ _ h => h.one (Has.s Has.z) | exact fun _ _ h => h.one (Has.s (Has.s Has.z))) ?_; clear hK K; (simp only [Act.put, List.setIfInBounds_toArray, List.set_cons_zero, List.set_cons_succ]))
                (refine regA 9 rfl (by kernel_rfl) (by rfl) (by rfl) true (by kernel_rfl) (fun K hK => ?_); (first
                                                  | (refine Go.Sep.cl 16 _ _ (by rfl) (by rfl) (by kernel_rfl) (len_any hS.pull1 HMI.out) ?_; rintro e w1 ⟨rfl, rfl⟩; refine ⟨_, rfl, ?_⟩)
                                                  | (refine Go.Sep.cl 15 _ _ (by rfl) (by rfl) (by kernel_rfl) (HA.out _) ?_; rintro e w1 ⟨rfl, rfl⟩; refine ⟨_, rfl, ?_⟩)
                                                  | (refine Go.Sep.cl 15 _ _ (by rfl) (by rfl) (by kernel_rfl) (HB.out _) ?_; rintro e w1 ⟨rfl, rfl⟩; refine ⟨_, rfl, ?_⟩)); refine hK _ _ _ hS (by first | (intro h; cases h; done) | exact fun _ _ h => h | exact fun _ _ h => h.drop | exact fun _ _ h => h.drop.drop | exact fun _ _ h => h.one Has.z | exact fun _ _ h => h.one (Has.s Has.z) | exact fun _ _ h => h.one (Has.s (Has.s Has.z))) ?_; clear hK K; (simp only [Act.put, List.setIfInBounds_toArray, List.set_cons_zero, List.set_cons_succ]))
                (refine regP 10 hS (fun _ h => h) rfl (by kernel_rfl) (by kernel_rfl) (by kernel_rfl) (fun _ _ _ _ h => h) (by rfl) (by rfl) ?_; apply Exists.intro; apply And.intro; (intro w; go_simp; try with_reducible rfl); (simp only [Act.put, List.setIfInBounds_toArray, List.set_cons_zero, List.set_cons_succ]))
                (refine regP 11 hS (fun _ h => h) rfl (by kernel_rfl) (by kernel_rfl) (by kernel_rfl) (fun _ _ _ _ h => h) (by rfl) (by rfl) ?_; apply Exists.intro; apply And.intro; (intro w; go_simp; try with_reducible rfl); (simp only [Act.put, List.setIfInBounds_toArray, List.set_cons_zero, List.set_cons_succ]))
                refine regDone (by kernel_rfl) ?_
                replace hS := hS.pull1
                go_wp2_with (first
                  | (go_at_call 19; refine (HED.out _ _ hS).mono ?_; rintro e w1 ⟨rfl, hS1⟩; clear hS; have hS := hS1; clear hS1)
                  | (go_at_call 18; (first | with_reducible refine (HRE.out _ _ hS).mono ?_ | with_reducible refine (HRF.out _ _ hS).mono ?_); rintro e w1 ⟨rfl, hS1⟩; clear hS; have hS := hS1; clear hS1))
                exact ⟨⟨i + 1, G2, by go_num, by omega, HOK2.out, HAC2.out, HE2.out, HN2.out, hS.pull1.drop⟩, by simp [intOf]; omega⟩
              · go_wp2_with (first
                  | (refine toList (by rfl) ?_; refine wp_of_reads (rLdRdA (HR.out.old hS) (gov_len l) _ _ (by rfl) _ (by rfl) (agOf (by rfl)) (szOf (by rfl)) i (by rfl) HX.out (by omega)) ?_)
                  | (refine toList (by rfl) ?_; refine al hS _ (by rfl) (zrOf (by rfl)) ?_; intro px w1 hS1; clear hS; have hS := hS1; clear hS1; rw [cells_agg] at hS)
                  | (refine toList (by rfl) ?_; refine stW hS _ _ _ (by rfl) (by rfl) [.int .i64 xk, .int .i64 xa, .int .i64 xb] (by rfl) (by simp [Value.oneCell']) (szOf (by rfl)) Has.z rfl ?_; intro w1 hS1; clear hS; have hS := hS1; clear hS1; dsimp only [List.set_cons_zero] at hS)
                  | (refine toList (by rfl) ?_; refine ld hS _ _ (by rfl) _ _ (by rfl) (agOf (by rfl)) (by first | exact Has.z | exact Has.s Has.z | exact Has.s (Has.s Has.z) | exact Has.s (Has.s (Has.s Has.z)) | exact Has.s (Has.s (Has.s (Has.s Has.z))) | exact Has.s (Has.s (Has.s (Has.s (Has.s Has.z))))) (by rfl) ?_)
                  | (go_at_call 15; refine (HK.out _).mono ?_; rintro e w1 ⟨rfl, rfl⟩)
                  | (go_at_call 16; refine (len_any hS.pull1 HMI.out).mono ?_; rintro e w1 ⟨rfl, rfl⟩))
                refine regStart [9] hS (by kernel_rfl) rfl ?_
                intro w1 hS1
                clear hS; have hS := hS1; clear hS1
                (refine regP 0 hS (fun _ h => h) rfl (by kernel_rfl) (by kernel_rfl) (by kernel_rfl) (fun _ _ _ _ h => h) (by rfl) (by rfl) ?_; apply Exists.intro; apply And.intro; (intro w; go_simp; try with_reducible rfl); (simp only [Act.put, List.setIfInBounds_toArray, List.set_cons_zero, List.set_cons_succ]))
                (refine regR 1 hS (fun _ h => h) rfl (by kernel_rfl) (by kernel_rfl) (by kernel_rfl) (by kernel_rfl) (by kernel_rfl) (fun _ _ _ _ h => h) (by rfl) (by rfl) ?_; (refine ⟨_, yLd _ _ (by rfl) _ _ (by rfl) (agOf (by rfl)) (by first | exact Has.z | exact Has.s Has.z | exact Has.s (Has.s Has.z) | exact Has.s (Has.s (Has.s Has.z)) | exact Has.s (Has.s (Has.s (Has.s Has.z))) | exact Has.s (Has.s (Has.s (Has.s (Has.s Has.z))))) (by rfl), ?_⟩); (simp only [Act.put, List.setIfInBounds_toArray, List.set_cons_zero, List.set_cons_succ]))
                (refine regP 2 hS (fun _ h => h) rfl (by kernel_rfl) (by kernel_rfl) (by kernel_rfl) (fun _ _ _ _ h => h) (by rfl) (by rfl) ?_; apply Exists.intro; apply And.intro; (intro w; go_simp; try with_reducible rfl); (simp only [Act.put, List.setIfInBounds_toArray, List.set_cons_zero, List.set_cons_succ]))
                (refine regP 5 hS (fun _ h => h) rfl (by kernel_rfl) (by kernel_rfl) (by kernel_rfl) (fun _ _ _ _ h => h) (by rfl) (by rfl) ?_; apply Exists.intro; apply And.intro; (intro w; go_simp; try with_reducible rfl); (simp only [Act.put, List.setIfInBounds_toArray, List.set_cons_zero, List.set_cons_succ]))
                (refine regR 6 hS (fun _ h => h) rfl (by kernel_rfl) (by kernel_rfl) (by kernel_rfl) (by kernel_rfl) (by kernel_rfl) (fun _ _ _ _ h => h) (by rfl) (by rfl) ?_; (refine ⟨_, yLd _ _ (by rfl) _ _ (by rfl) (agOf (by rfl)) (by first | exact Has.z | exact Has.s Has.z | exact Has.s (Has.s Has.z) | exact Has.s (Has.s (Has.s Has.z)) | exact Has.s (Has.s (Has.s (Has.s Has.z))) | exact Has.s (Has.s (Has.s (Has.s (Has.s Has.z))))) (by rfl), ?_⟩); (simp only [Act.put, List.setIfInBounds_toArray, List.set_cons_zero, List.set_cons_succ]))
                (refine regP 7 hS (fun _ h => h) rfl (by kernel_rfl) (by kernel_rfl) (by kernel_rfl) (fun _ _ _ _ h => h) (by rfl) (by rfl) ?_; apply Exists.intro; apply And.intro; (intro w; go_simp; try with_reducible rfl); (simp only [Act.put, List.setIfInBounds_toArray, List.set_cons_zero, List.set_cons_succ]))
                (refine regA 3 rfl (by kernel_rfl) (by rfl) (by rfl) false (by kernel_rfl) (fun K hK => ?_); (first
                                                  | (refine Go.Sep.cl 16 _ _ (by rfl) (by rfl) (by kernel_rfl) (len_any hS.pull1 HMI.out) ?_; rintro e w1 ⟨rfl, rfl⟩; refine ⟨_, rfl, ?_⟩)
                                                  | (refine Go.Sep.cl 15 _ _ (by rfl) (by rfl) (by kernel_rfl) (HA.out _) ?_; rintro e w1 ⟨rfl, rfl⟩; refine ⟨_, rfl, ?_⟩)
                                                  | (refine Go.Sep.cl 15 _ _ (by rfl) (by rfl) (by kernel_rfl) (HB.out _) ?_; rintro e w1 ⟨rfl, rfl⟩; refine ⟨_, rfl, ?_⟩)); refine hK _ _ _ hS (by first | (intro h; cases h; done) | exact fun _ _ h => h | exact fun _ _ h => h.drop | exact fun _ _ h => h.drop.drop | exact fun _ _ h => h.one Has.z | exact fun _ _ h => h.one (Has.s Has.z) | exact fun _ _ h => h.one (Has.s (Has.s Has.z))) ?_; clear hK K; (simp only [Act.put, List.setIfInBounds_toArray, List.set_cons_zero, List.set_cons_succ]))
                (refine regA 4 rfl (by kernel_rfl) (by rfl) (by rfl) false (by kernel_rfl) (fun K hK => ?_); (first
                                                  | (refine Go.Sep.cl 16 _ _ (by rfl) (by rfl) (by kernel_rfl) (len_any hS.pull1 HMI.out) ?_; rintro e w1 ⟨rfl, rfl⟩; refine ⟨_, rfl, ?_⟩)
                                                  | (refine Go.Sep.cl 15 _ _ (by rfl) (by rfl) (by kernel_rfl) (HA.out _) ?_; rintro e w1 ⟨rfl, rfl⟩; refine ⟨_, rfl, ?_⟩)
                                                  | (refine Go.Sep.cl 15 _ _ (by rfl) (by rfl) (by kernel_rfl) (HB.out _) ?_; rintro e w1 ⟨rfl, rfl⟩; refine ⟨_, rfl, ?_⟩)); refine hK _ _ _ hS (by first | (intro h; cases h; done) | exact fun _ _ h => h | exact fun _ _ h => h.drop | exact fun _ _ h => h.drop.drop | exact fun _ _ h => h.one Has.z | exact fun _ _ h => h.one (Has.s Has.z) | exact fun _ _ h => h.one (Has.s (Has.s Has.z))) ?_; clear hK K; (simp only [Act.put, List.setIfInBounds_toArray, List.set_cons_zero, List.set_cons_succ]))
                (refine regA 8 rfl (by kernel_rfl) (by rfl) (by rfl) false (by kernel_rfl) (fun K hK => ?_); (first
                                                  | (refine Go.Sep.cl 16 _ _ (by rfl) (by rfl) (by kernel_rfl) (len_any hS.pull1 HMI.out) ?_; rintro e w1 ⟨rfl, rfl⟩; refine ⟨_, rfl, ?_⟩)
                                                  | (refine Go.Sep.cl 15 _ _ (by rfl) (by rfl) (by kernel_rfl) (HA.out _) ?_; rintro e w1 ⟨rfl, rfl⟩; refine ⟨_, rfl, ?_⟩)
                                                  | (refine Go.Sep.cl 15 _ _ (by rfl) (by rfl) (by kernel_rfl) (HB.out _) ?_; rintro e w1 ⟨rfl, rfl⟩; refine ⟨_, rfl, ?_⟩)); refine hK _ _ _ hS (by first | (intro h; cases h; done) | exact fun _ _ h => h | exact fun _ _ h => h.drop | exact fun _ _ h => h.drop.drop | exact fun _ _ h => h.one Has.z | exact fun _ _ h => h.one (Has.s Has.z) | exact fun _ _ h => h.one (Has.s (Has.s Has.z))) ?_; clear hK K; (simp only [Act.put, List.setIfInBounds_toArray, List.set_cons_zero, List.set_cons_succ]))
                (refine regA 9 rfl (by kernel_rfl) (by rfl) (by rfl) true (by kernel_rfl) (fun K hK => ?_); (first
                                                  | (refine Go.Sep.cl 16 _ _ (by rfl) (by rfl) (by kernel_rfl) (len_any hS.pull1 HMI.out) ?_; rintro e w1 ⟨rfl, rfl⟩; refine ⟨_, rfl, ?_⟩)
                                                  | (refine Go.Sep.cl 15 _ _ (by rfl) (by rfl) (by kernel_rfl) (HA.out _) ?_; rintro e w1 ⟨rfl, rfl⟩; refine ⟨_, rfl, ?_⟩)
                                                  | (refine Go.Sep.cl 15 _ _ (by rfl) (by rfl) (by kernel_rfl) (HB.out _) ?_; rintro e w1 ⟨rfl, rfl⟩; refine ⟨_, rfl, ?_⟩)); refine hK _ _ _ hS (by first | (intro h; cases h; done) | exact fun _ _ h => h | exact fun _ _ h => h.drop | exact fun _ _ h => h.drop.drop | exact fun _ _ h => h.one Has.z | exact fun _ _ h => h.one (Has.s Has.z) | exact fun _ _ h => h.one (Has.s (Has.s Has.z))) ?_; clear hK K; (simp only [Act.put, List.setIfInBounds_toArray, List.set_cons_zero, List.set_cons_succ]))
                (refine regP 10 hS (fun _ h => h) rfl (by kernel_rfl) (by kernel_rfl) (by kernel_rfl) (fun _ _ _ _ h => h) (by rfl) (by rfl) ?_; apply Exists.intro; apply And.intro; (intro w; go_simp; try with_reducible rfl); (simp only [Act.put, List.setIfInBounds_toArray, List.set_cons_zero, List.set_cons_succ]))
                (refine regP 11 hS (fun _ h => h) rfl (by kernel_rfl) (by kernel_rfl) (by kernel_rfl) (fun _ _ _ _ h => h) (by rfl) (by rfl) ?_; apply Exists.intro; apply And.intro; (intro w; go_simp; try with_reducible rfl); (simp only [Act.put, List.setIfInBounds_toArray, List.set_cons_zero, List.set_cons_succ]))
                refine regDone (by kernel_rfl) ?_
                replace hS := hS.pull1
                go_wp2_with (first
                  | (go_at_call 19; refine (HED.out _ _ hS).mono ?_; rintro e w1 ⟨rfl, hS1⟩; clear hS; have hS := hS1; clear hS1)
                  | (go_at_call 18; (first | with_reducible refine (HRE.out _ _ hS).mono ?_ | with_reducible refine (HRF.out _ _ hS).mono ?_); rintro e w1 ⟨rfl, hS1⟩; clear hS; have hS := hS1; clear hS1))
                exact ⟨⟨i + 1, G2, by go_num, by omega, HOK2.out, HAC2.out, HE2.out, HN2.out, hS.pull1.drop⟩, by simp [intOf]; omega⟩
            · have a1 : ((a : Int) == (b : Int)) = false := by simp; omega
              have a2 : (a == b) = false := by simp [hab]
              have a3 : decide ((a : Int) = (b : Int)) = false := decide_eq_false (by omega)
              have a4 : ¬ (a : Int) = (b : Int) := by omega
              clear h0 hab
              cases r
              · go_wp2_with (first
                  | (refine toList (by rfl) ?_; refine wp_of_reads (rLdRdA (HR.out.old hS) (gov_len l) _ _ (by rfl) _ (by rfl) (agOf (by rfl)) (szOf (by rfl)) i (by rfl) HX.out (by omega)) ?_)
                  | (refine toList (by rfl) ?_; refine al hS _ (by rfl) (zrOf (by rfl)) ?_; intro px w1 hS1; clear hS; have hS := hS1; clear hS1; rw [cells_agg] at hS)
                  | (refine toList (by rfl) ?_; refine stW hS _ _ _ (by rfl) (by rfl) [.int .i64 xk, .int .i64 xa, .int .i64 xb] (by rfl) (by simp [Value.oneCell']) (szOf (by rfl)) Has.z rfl ?_; intro w1 hS1; clear hS; have hS := hS1; clear hS1; dsimp only [List.set_cons_zero] at hS)
                  | (refine toList (by rfl) ?_; refine ld hS _ _ (by rfl) _ _ (by rfl) (agOf (by rfl)) (by first | exact Has.z | exact Has.s Has.z | exact Has.s (Has.s Has.z) | exact Has.s (Has.s (Has.s Has.z)) | exact Has.s (Has.s (Has.s (Has.s Has.z))) | exact Has.s (Has.s (Has.s (Has.s (Has.s Has.z))))) (by rfl) ?_)
                  | (go_at_call 15; refine (HK.out _).mono ?_; rintro e w1 ⟨rfl, rfl⟩)
                  | (go_at_call 16; refine (len_any hS.pull1 HMI.out).mono ?_; rintro e w1 ⟨rfl, rfl⟩))
                refine regStart [9] hS (by kernel_rfl) rfl ?_
                intro w1 hS1
                clear hS; have hS := hS1; clear hS1
                (refine regP 0 hS (fun _ h => h) rfl (by kernel_rfl) (by kernel_rfl) (by kernel_rfl) (fun _ _ _ _ h => h) (by rfl) (by rfl) ?_; apply Exists.intro; apply And.intro; (intro w; go_simp; try with_reducible rfl); (simp only [Act.put, List.setIfInBounds_toArray, List.set_cons_zero, List.set_cons_succ]))
                (refine regR 1 hS (fun _ h => h) rfl (by kernel_rfl) (by kernel_rfl) (by kernel_rfl) (by kernel_rfl) (by kernel_rfl) (fun _ _ _ _ h => h) (by rfl) (by rfl) ?_; (refine ⟨_, yLd _ _ (by rfl) _ _ (by rfl) (agOf (by rfl)) (by first | exact Has.z | exact Has.s Has.z | exact Has.s (Has.s Has.z) | exact Has.s (Has.s (Has.s Has.z)) | exact Has.s (Has.s (Has.s (Has.s Has.z))) | exact Has.s (Has.s (Has.s (Has.s (Has.s Has.z))))) (by rfl), ?_⟩); (simp only [Act.put, List.setIfInBounds_toArray, List.set_cons_zero, List.set_cons_succ]))
                (refine regP 2 hS (fun _ h => h) rfl (by kernel_rfl) (by kernel_rfl) (by kernel_rfl) (fun _ _ _ _ h => h) (by rfl) (by rfl) ?_; apply Exists.intro; apply And.intro; (intro w; go_simp; try with_reducible rfl); (simp only [Act.put, List.setIfInBounds_toArray, List.set_cons_zero, List.set_cons_succ]))
                (refine regP 5 hS (fun _ h => h) rfl (by kernel_rfl) (by kernel_rfl) (by kernel_rfl) (fun _ _ _ _ h => h) (by rfl) (by rfl) ?_; apply Exists.intro; apply And.intro; (intro w; go_simp; try with_reducible rfl); (simp only [Act.put, List.setIfInBounds_toArray, List.set_cons_zero, List.set_cons_succ]))
                (refine regR 6 hS (fun _ h => h) rfl (by kernel_rfl) (by kernel_rfl) (by kernel_rfl) (by kernel_rfl) (by kernel_rfl) (fun _ _ _ _ h => h) (by rfl) (by rfl) ?_; (refine ⟨_, yLd _ _ (by rfl) _ _ (by rfl) (agOf (by rfl)) (by first | exact Has.z | exact Has.s Has.z | exact Has.s (Has.s Has.z) | exact Has.s (Has.s (Has.s Has.z)) | exact Has.s (Has.s (Has.s (Has.s Has.z))) | exact Has.s (Has.s (Has.s (Has.s (Has.s Has.z))))) (by rfl), ?_⟩); (simp only [Act.put, List.setIfInBounds_toArray, List.set_cons_zero, List.set_cons_succ]))
                (refine regP 7 hS (fun _ h => h) rfl (by kernel_rfl) (by kernel_rfl) (by kernel_rfl) (fun _ _ _ _ h => h) (by rfl) (by rfl) ?_; apply Exists.intro; apply And.intro; (intro w; go_simp; try with_reducible rfl); (simp only [Act.put, List.setIfInBounds_toArray, List.set_cons_zero, List.set_cons_succ]))
                (refine regA 3 rfl (by kernel_rfl) (by rfl) (by rfl) false (by kernel_rfl) (fun K hK => ?_); (first
                                                  | (refine Go.Sep.cl 16 _ _ (by rfl) (by rfl) (by kernel_rfl) (len_any hS.pull1 HMI.out) ?_; rintro e w1 ⟨rfl, rfl⟩; refine ⟨_, rfl, ?_⟩)
                                                  | (refine Go.Sep.cl 15 _ _ (by rfl) (by rfl) (by kernel_rfl) (HA.out _) ?_; rintro e w1 ⟨rfl, rfl⟩; refine ⟨_, rfl, ?_⟩)
                                                  | (refine Go.Sep.cl 15 _ _ (by rfl) (by rfl) (by kernel_rfl) (HB.out _) ?_; rintro e w1 ⟨rfl, rfl⟩; refine ⟨_, rfl, ?_⟩)); refine hK _ _ _ hS (by first | (intro h; cases h; done) | exact fun _ _ h => h | exact fun _ _ h => h.drop | exact fun _ _ h => h.drop.drop | exact fun _ _ h => h.one Has.z | exact fun _ _ h => h.one (Has.s Has.z) | exact fun _ _ h => h.one (Has.s (Has.s Has.z))) ?_; clear hK K; (simp only [Act.put, List.setIfInBounds_toArray, List.set_cons_zero, List.set_cons_succ]))
                (refine regA 4 rfl (by kernel_rfl) (by rfl) (by rfl) false (by kernel_rfl) (fun K hK => ?_); (first
                                                  | (refine Go.Sep.cl 16 _ _ (by rfl) (by rfl) (by kernel_rfl) (len_any hS.pull1 HMI.out) ?_; rintro e w1 ⟨rfl, rfl⟩; refine ⟨_, rfl, ?_⟩)
                                                  | (refine Go.Sep.cl 15 _ _ (by rfl) (by rfl) (by kernel_rfl) (HA.out _) ?_; rintro e w1 ⟨rfl, rfl⟩; refine ⟨_, rfl, ?_⟩)
                                                  | (refine Go.Sep.cl 15 _ _ (by rfl) (by rfl) (by kernel_rfl) (HB.out _) ?_; rintro e w1 ⟨rfl, rfl⟩; refine ⟨_, rfl, ?_⟩)); refine hK _ _ _ hS (by first | (intro h; cases h; done) | exact fun _ _ h => h | exact fun _ _ h => h.drop | exact fun _ _ h => h.drop.drop | exact fun _ _ h => h.one Has.z | exact fun _ _ h => h.one (Has.s Has.z) | exact fun _ _ h => h.one (Has.s (Has.s Has.z))) ?_; clear hK K; (simp only [Act.put, List.setIfInBounds_toArray, List.set_cons_zero, List.set_cons_succ]))
                (refine regA 8 rfl (by kernel_rfl) (by rfl) (by rfl) false (by kernel_rfl) (fun K hK => ?_); (first
                                                  | (refine Go.Sep.cl 16 _ _ (by rfl) (by rfl) (by kernel_rfl) (len_any hS.pull1 HMI.out) ?_; rintro e w1 ⟨rfl, rfl⟩; refine ⟨_, rfl, ?_⟩)
                                                  | (refine Go.Sep.cl 15 _ _ (by rfl) (by rfl) (by kernel_rfl) (HA.out _) ?_; rintro e w1 ⟨rfl, rfl⟩; refine ⟨_, rfl, ?_⟩)
                                                  | (refine Go.Sep.cl 15 _ _ (by rfl) (by rfl) (by kernel_rfl) (HB.out _) ?_; rintro e w1 ⟨rfl, rfl⟩; refine ⟨_, rfl, ?_⟩)); refine hK _ _ _ hS (by first | (intro h; cases h; done) | exact fun _ _ h => h | exact fun _ _ h => h.drop | exact fun _ _ h => h.drop.drop | exact fun _ _ h => h.one Has.z | exact fun _ _ h => h.one (Has.s Has.z) | exact fun _ _ h => h.one (Has.s (Has.s Has.z))) ?_; clear hK K; (simp only [Act.put, List.setIfInBounds_toArray, List.set_cons_zero, List.set_cons_succ]))
                (refine regA 9 rfl (by kernel_rfl) (by rfl) (by rfl) true (by kernel_rfl) (fun K hK => ?_); (first
                                                  | (refine Go.Sep.cl 16 _ _ (by rfl) (by rfl) (by kernel_rfl) (len_any hS.pull1 HMI.out) ?_; rintro e w1 ⟨rfl, rfl⟩; refine ⟨_, rfl, ?_⟩)
                                                  | (refine Go.Sep.cl 15 _ _ (by rfl) (by rfl) (by kernel_rfl) (HA.out _) ?_; rintro e w1 ⟨rfl, rfl⟩; refine ⟨_, rfl, ?_⟩)
                                                  | (refine Go.Sep.cl 15 _ _ (by rfl) (by rfl) (by kernel_rfl) (HB.out _) ?_; rintro e w1 ⟨rfl, rfl⟩; refine ⟨_, rfl, ?_⟩)); refine hK _ _ _ hS (by first | (intro h; cases h; done) | exact fun _ _ h => h | exact fun _ _ h => h.drop | exact fun _ _ h => h.drop.drop | exact fun _ _ h => h.one Has.z | exact fun _ _ h => h.one (Has.s Has.z) | exact fun _ _ h => h.one (Has.s (Has.s Has.z))) ?_; clear hK K; (simp only [Act.put, List.setIfInBounds_toArray, List.set_cons_zero, List.set_cons_succ]))
                (refine regP 10 hS (fun _ h => h) rfl (by kernel_rfl) (by kernel_rfl) (by kernel_rfl) (fun _ _ _ _ h => h) (by rfl) (by rfl) ?_; apply Exists.intro; apply And.intro; (intro w; go_simp; try with_reducible rfl); (simp only [Act.put, List.setIfInBounds_toArray, List.set_cons_zero, List.set_cons_succ]))
                (refine regP 11 hS (fun _ h => h) rfl (by kernel_rfl) (by kernel_rfl) (by kernel_rfl) (fun _ _ _ _ h => h) (by rfl) (by rfl) ?_; apply Exists.intro; apply And.intro; (intro w; go_simp; try with_reducible rfl); (simp only [Act.put, List.setIfInBounds_toArray, List.set_cons_zero, List.set_cons_succ]))
                refine regDone (by kernel_rfl) ?_
                replace hS := hS.pull1
                go_wp2_with (first
                  | (go_at_call 19; refine (HED.out _ _ hS).mono ?_; rintro e w1 ⟨rfl, hS1⟩; clear hS; have hS := hS1; clear hS1)
                  | (go_at_call 18; (first | with_reducible refine (HRE.out _ _ hS).mono ?_ | with_reducible refine (HRF.out _ _ hS).mono ?_); rintro e w1 ⟨rfl, hS1⟩; clear hS; have hS := hS1; clear hS1))
                exact ⟨⟨i + 1, G2, by go_num, by omega, HOK2.out, HAC2.out, HE2.out, HN2.out, hS.pull1.drop⟩, by simp [intOf]; omega⟩
              · go_wp2_with (first
                  | (refine toList (by rfl) ?_; refine wp_of_reads (rLdRdA (HR.out.old hS) (gov_len l) _ _ (by rfl) _ (by rfl) (agOf (by rfl)) (szOf (by rfl)) i (by rfl) HX.out (by omega)) ?_)
                  | (refine toList (by rfl) ?_; refine al hS _ (by rfl) (zrOf (by rfl)) ?_; intro px w1 hS1; clear hS; have hS := hS1; clear hS1; rw [cells_agg] at hS)
                  | (refine toList (by rfl) ?_; refine stW hS _ _ _ (by rfl) (by rfl) [.int .i64 xk, .int .i64 xa, .int .i64 xb] (by rfl) (by simp [Value.oneCell']) (szOf (by rfl)) Has.z rfl ?_; intro w1 hS1; clear hS; have hS := hS1; clear hS1; dsimp only [List.set_cons_zero] at hS)
                  | (refine toList (by rfl) ?_; refine ld hS _ _ (by rfl) _ _ (by rfl) (agOf (by rfl)) (by first | exact Has.z | exact Has.s Has.z | exact Has.s (Has.s Has.z) | exact Has.s (Has.s (Has.s Has.z)) | exact Has.s (Has.s (Has.s (Has.s Has.z))) | exact Has.s (Has.s (Has.s (Has.s (Has.s Has.z))))) (by rfl) ?_)
                  | (go_at_call 15; refine (HK.out _).mono ?_; rintro e w1 ⟨rfl, rfl⟩)
                  | (go_at_call 16; refine (len_any hS.pull1 HMI.out).mono ?_; rintro e w1 ⟨rfl, rfl⟩))
                refine regStart [9] hS (by kernel_rfl) rfl ?_
                intro w1 hS1
                clear hS; have hS := hS1; clear hS1
                (refine regP 0 hS (fun _ h => h) rfl (by kernel_rfl) (by kernel_rfl) (by kernel_rfl) (fun _ _ _ _ h => h) (by rfl) (by rfl) ?_; apply Exists.intro; apply And.intro; (intro w; go_simp; try with_reducible rfl); (simp only [Act.put, List.setIfInBounds_toArray, List.set_cons_zero, List.set_cons_succ]))
                (refine regR 1 hS (fun _ h => h) rfl (by kernel_rfl) (by kernel_rfl) (by kernel_rfl) (by kernel_rfl) (by kernel_rfl) (fun _ _ _ _ h => h) (by rfl) (by rfl) ?_; (refine ⟨_, yLd _ _ (by rfl) _ _ (by rfl) (agOf (by rfl)) (by first | exact Has.z | exact Has.s Has.z | exact Has.s (Has.s Has.z) | exact Has.s (Has.s (Has.s Has.z)) | exact Has.s (Has.s (Has.s (Has.s Has.z))) | exact Has.s (Has.s (Has.s (Has.s (Has.s Has.z))))) (by rfl), ?_⟩); (simp only [Act.put, List.setIfInBounds_toArray, List.set_cons_zero, List.set_cons_succ]))
                (refine regP 2 hS (fun _ h => h) rfl (by kernel_rfl) (by kernel_rfl) (by kernel_rfl) (fun _ _ _ _ h => h) (by rfl) (by rfl) ?_; apply Exists.intro; apply And.intro; (intro w; go_simp; try with_reducible rfl); (simp only [Act.put, List.setIfInBounds_toArray, List.set_cons_zero, List.set_cons_succ]))
                (refine regP 5 hS (fun _ h => h) rfl (by kernel_rfl) (by kernel_rfl) (by kernel_rfl) (fun _ _ _ _ h => h) (by rfl) (by rfl) ?_; apply Exists.intro; apply And.intro; (intro w; go_simp; try with_reducible rfl); (simp only [Act.put, List.setIfInBounds_toArray, List.set_cons_zero, List.set_cons_succ]))
                (refine regR 6 hS (fun _ h => h) rfl (by kernel_rfl) (by kernel_rfl) (by kernel_rfl) (by kernel_rfl) (by kernel_rfl) (fun _ _ _ _ h => h) (by rfl) (by rfl) ?_; (refine ⟨_, yLd _ _ (by rfl) _ _ (by rfl) (agOf (by rfl)) (by first | exact Has.z | exact Has.s Has.z | exact Has.s (Has.s Has.z) | exact Has.s (Has.s (Has.s Has.z)) | exact Has.s (Has.s (Has.s (Has.s Has.z))) | exact Has.s (Has.s (Has.s (Has.s (Has.s Has.z))))) (by rfl), ?_⟩); (simp only [Act.put, List.setIfInBounds_toArray, List.set_cons_zero, List.set_cons_succ]))
                (refine regP 7 hS (fun _ h => h) rfl (by kernel_rfl) (by kernel_rfl) (by kernel_rfl) (fun _ _ _ _ h => h) (by rfl) (by rfl) ?_; apply Exists.intro; apply And.intro; (intro w; go_simp; try with_reducible rfl); (simp only [Act.put, List.setIfInBounds_toArray, List.set_cons_zero, List.set_cons_succ]))
                (refine regA 3 rfl (by kernel_rfl) (by rfl) (by rfl) false (by kernel_rfl) (fun K hK => ?_); (first
                                                  | (refine Go.Sep.cl 16 _ _ (by rfl) (by rfl) (by kernel_rfl) (len_any hS.pull1 HMI.out) ?_; rintro e w1 ⟨rfl, rfl⟩; refine ⟨_, rfl, ?_⟩)
                                                  | (refine Go.Sep.cl 15 _ _ (by rfl) (by rfl) (by kernel_rfl) (HA.out _) ?_; rintro e w1 ⟨rfl, rfl⟩; refine ⟨_, rfl, ?_⟩)
                                                  | (refine Go.Sep.cl 15 _ _ (by rfl) (by rfl) (by kernel_rfl) (HB.out _) ?_; rintro e w1 ⟨rfl, rfl⟩; refine ⟨_, rfl, ?_⟩)); refine hK _ _ _ hS (by first | (intro h; cases h; done) | exact fun _ _ h => h | exact fun _ _ h => h.drop | exact fun _ _ h => h.drop.drop | exact fun _ _ h => h.one Has.z | exact fun _ _ h => h.one (Has.s Has.z) | exact fun _ _ h => h.one (Has.s (Has.s Has.z))) ?_; clear hK K; (simp only [Act.put, List.setIfInBounds_toArray, List.set_cons_zero, List.set_cons_succ]))
                (refine regA 4 rfl (by kernel_rfl) (by rfl) (by rfl) false (by kernel_rfl) (fun K hK => ?_); (first
                                                  | (refine Go.Sep.cl 16 _ _ (by rfl) (by rfl) (by kernel_rfl) (len_any hS.pull1 HMI.out) ?_; rintro e w1 ⟨rfl, rfl⟩; refine ⟨_, rfl, ?_⟩)
                                                  | (refine Go.Sep.cl 15 _ _ (by rfl) (by rfl) (by kernel_rfl) (HA.out _) ?_; rintro e w1 ⟨rfl, rfl⟩; refine ⟨_, rfl, ?_⟩)
                                                  | (refine Go.Sep.cl 15 _ _ (by rfl) (by rfl) (by kernel_rfl) (HB.out _) ?_; rintro e w1 ⟨rfl, rfl⟩; refine ⟨_, rfl, ?_⟩)); refine hK _ _ _ hS (by first | (intro h; cases h; done) | exact fun _ _ h => h | exact fun _ _ h => h.drop | exact fun _ _ h => h.drop.drop | exact fun _ _ h => h.one Has.z | exact fun _ _ h => h.one (Has.s Has.z) | exact fun _ _ h => h.one (Has.s (Has.s Has.z))) ?_; clear hK K; (simp only [Act.put, List.setIfInBounds_toArray, List.set_cons_zero, List.set_cons_succ]))
                (refine regA 8 rfl (by kernel_rfl) (by rfl) (by rfl) false (by kernel_rfl) (fun K hK => ?_); (first
                                                  | (refine Go.Sep.cl 16 _ _ (by rfl) (by rfl) (by kernel_rfl) (len_any hS.pull1 HMI.out) ?_; rintro e w1 ⟨rfl, rfl⟩; refine ⟨_, rfl, ?_⟩)
                                                  | (refine Go.Sep.cl 15 _ _ (by rfl) (by rfl) (by kernel_rfl) (HA.out _) ?_; rintro e w1 ⟨rfl, rfl⟩; refine ⟨_, rfl, ?_⟩)
                                                  | (refine Go.Sep.cl 15 _ _ (by rfl) (by rfl) (by kernel_rfl) (HB.out _) ?_; rintro e w1 ⟨rfl, rfl⟩; refine ⟨_, rfl, ?_⟩)); refine hK _ _ _ hS (by first | (intro h; cases h; done) | exact fun _ _ h => h | exact fun _ _ h => h.drop | exact fun _ _ h => h.drop.drop | exact fun _ _ h => h.one Has.z | exact fun _ _ h => h.one (Has.s Has.z) | exact fun _ _ h => h.one (Has.s (Has.s Has.z))) ?_; clear hK K; (simp only [Act.put, List.setIfInBounds_toArray, List.set_cons_zero, List.set_cons_succ]))
                (refine regA 9 rfl (by kernel_rfl) (by rfl) (by rfl) true (by kernel_rfl) (fun K hK => ?_); (first
                                                  | (refine Go.Sep.cl 16 _ _ (by rfl) (by rfl) (by kernel_rfl) (len_any hS.pull1 HMI.out) ?_; rintro e w1 ⟨rfl, rfl⟩; refine ⟨_, rfl, ?_⟩)
                                                  | (refine Go.Sep.cl 15 _ _ (by rfl) (by rfl) (by kernel_rfl) (HA.out _) ?_; rintro e w1 ⟨rfl, rfl⟩; refine ⟨_, rfl, ?_⟩)
                                                  | (refine Go.Sep.cl 15 _ _ (by rfl) (by rfl) (by kernel_rfl) (HB.out _) ?_; rintro e w1 ⟨rfl, rfl⟩; refine ⟨_, rfl, ?_⟩)); refine hK _ _ _ hS (by first | (intro h; cases h; done) | exact fun _ _ h => h | exact fun _ _ h => h.drop | exact fun _ _ h => h.drop.drop | exact fun _ _ h => h.one Has.z | exact fun _ _ h => h.one (Has.s Has.z) | exact fun _ _ h => h.one (Has.s (Has.s Has.z))) ?_; clear hK K; (simp only [Act.put, List.setIfInBounds_toArray, List.set_cons_zero, List.set_cons_succ]))
                (refine regP 10 hS (fun _ h => h) rfl (by kernel_rfl) (by kernel_rfl) (by kernel_rfl) (fun _ _ _ _ h => h) (by rfl) (by rfl) ?_; apply Exists.intro; apply And.intro; (intro w; go_simp; try with_reducible rfl); (simp only [Act.put, List.setIfInBounds_toArray, List.set_cons_zero, List.set_cons_succ]))
                (refine regP 11 hS (fun _ h => h) rfl (by kernel_rfl) (by kernel_rfl) (by kernel_rfl) (fun _ _ _ _ h => h) (by rfl) (by rfl) ?_; apply Exists.intro; apply And.intro; (intro w; go_simp; try with_reducible rfl); (simp only [Act.put, List.setIfInBounds_toArray, List.set_cons_zero, List.set_cons_succ]))
                refine regDone (by kernel_rfl) ?_
                replace hS := hS.pull1
                go_wp2_with (first
                  | (go_at_call 19; refine (HED.out _ _ hS).mono ?_; rintro e w1 ⟨rfl, hS1⟩; clear hS; have hS := hS1; clear hS1)
                  | (go_at_call 18; (first | with_reducible refine (HRE.out _ _ hS).mono ?_ | with_reducible refine (HRF.out _ _ hS).mono ?_); rintro e w1 ⟨rfl, hS1⟩; clear hS; have hS := hS1; clear hS1))
                exact ⟨⟨i + 1, G2, by go_num, by omega, HOK2.out, HAC2.out, HE2.out, HN2.out, hS.pull1.drop⟩, by simp [intOf]; omega⟩
            · have a1 : ((a : Int) == (b : Int)) = false := by simp; omega
              have a2 : (a == b) = false := by simp [hab]
              have a3 : decide ((a : Int) = (b : Int)) = false := decide_eq_false (by omega)
              have a4 : ¬ (a : Int) = (b : Int) := by omega
              obtain ⟨h1, h2⟩ := h0 rfl
              subst h1; subst h2
              clear h0 hab
              go_wp2_with (first
                | (refine toList (by rfl) ?_; refine wp_of_reads (rLdRdA (HR.out.old hS) (gov_len l) _ _ (by rfl) _ (by rfl) (agOf (by rfl)) (szOf (by rfl)) i (by rfl) HX.out (by omega)) ?_)
                | (refine toList (by rfl) ?_; refine al hS _ (by rfl) (zrOf (by rfl)) ?_; intro px w1 hS1; clear hS; have hS := hS1; clear hS1; rw [cells_agg] at hS)
                | (refine toList (by rfl) ?_; refine stW hS _ _ _ (by rfl) (by rfl) [.int .i64 xk, .int .i64 xa, .int .i64 xb] (by rfl) (by simp [Value.oneCell']) (szOf (by rfl)) Has.z rfl ?_; intro w1 hS1; clear hS; have hS := hS1; clear hS1; dsimp only [List.set_cons_zero] at hS)
                | (refine toList (by rfl) ?_; refine ld hS _ _ (by rfl) _ _ (by rfl) (agOf (by rfl)) (by first | exact Has.z | exact Has.s Has.z | exact Has.s (Has.s Has.z) | exact Has.s (Has.s (Has.s Has.z)) | exact Has.s (Has.s (Has.s (Has.s Has.z))) | exact Has.s (Has.s (Has.s (Has.s (Has.s Has.z))))) (by rfl) ?_)
                | (go_at_call 15; refine (HK.out _).mono ?_; rintro e w1 ⟨rfl, rfl⟩)
                | (go_at_call 16; refine (len_any hS.pull1 HMI.out).mono ?_; rintro e w1 ⟨rfl, rfl⟩))
              refine regStart [9] hS (by kernel_rfl) rfl ?_
              intro w1 hS1
              clear hS; have hS := hS1; clear hS1
              (refine regP 0 hS (fun _ h => h) rfl (by kernel_rfl) (by kernel_rfl) (by kernel_rfl) (fun _ _ _ _ h => h) (by rfl) (by rfl) ?_; apply Exists.intro; apply And.intro; (intro w; go_simp; try with_reducible rfl); (simp only [Act.put, List.setIfInBounds_toArray, List.set_cons_zero, List.set_cons_succ]))
              (refine regR 1 hS (fun _ h => h) rfl (by kernel_rfl) (by kernel_rfl) (by kernel_rfl) (by kernel_rfl) (by kernel_rfl) (fun _ _ _ _ h => h) (by rfl) (by rfl) ?_; (refine ⟨_, yLd _ _ (by rfl) _ _ (by rfl) (agOf (by rfl)) (by first | exact Has.z | exact Has.s Has.z | exact Has.s (Has.s Has.z) | exact Has.s (Has.s (Has.s Has.z)) | exact Has.s (Has.s (Has.s (Has.s Has.z))) | exact Has.s (Has.s (Has.s (Has.s (Has.s Has.z))))) (by rfl), ?_⟩); (simp only [Act.put, List.setIfInBounds_toArray, List.set_cons_zero, List.set_cons_succ]))
              (refine regP 2 hS (fun _ h => h) rfl (by kernel_rfl) (by kernel_rfl) (by kernel_rfl) (fun _ _ _ _ h => h) (by rfl) (by rfl) ?_; apply Exists.intro; apply And.intro; (intro w; go_simp; try with_reducible rfl); (simp only [Act.put, List.setIfInBounds_toArray, List.set_cons_zero, List.set_cons_succ]))
              (refine regP 5 hS (fun _ h => h) rfl (by kernel_rfl) (by kernel_rfl) (by kernel_rfl) (fun _ _ _ _ h => h) (by rfl) (by rfl) ?_; apply Exists.intro; apply And.intro; (intro w; go_simp; try with_reducible rfl); (simp only [Act.put, List.setIfInBounds_toArray, List.set_cons_zero, List.set_cons_succ]))
              (refine regR 6 hS (fun _ h => h) rfl (by kernel_rfl) (by kernel_rfl) (by kernel_rfl) (by kernel_rfl) (by kernel_rfl) (fun _ _ _ _ h => h) (by rfl) (by rfl) ?_; (refine ⟨_, yLd _ _ (by rfl) _ _ (by rfl) (agOf (by rfl)) (by first | exact Has.z | exact Has.s Has.z | exact Has.s (Has.s Has.z) | exact Has.s (Has.s (Has.s Has.z)) | exact Has.s (Has.s (Has.s (Has.s Has.z))) | exact Has.s (Has.s (Has.s (Has.s (Has.s Has.z))))) (by rfl), ?_⟩); (simp only [Act.put, List.setIfInBounds_toArray, List.set_cons_zero, List.set_cons_succ]))
              (refine regP 7 hS (fun _ h => h) rfl (by kernel_rfl) (by kernel_rfl) (by kernel_rfl) (fun _ _ _ _ h => h) (by rfl) (by rfl) ?_; apply Exists.intro; apply And.intro; (intro w; go_simp; try with_reducible rfl); (simp only [Act.put, List.setIfInBounds_toArray, List.set_cons_zero, List.set_cons_succ]))
              (refine regA 3 rfl (by kernel_rfl) (by rfl) (by rfl) false (by kernel_rfl) (fun K hK => ?_); (first
                                            | (refine Go.Sep.cl 16 _ _ (by rfl) (by rfl) (by kernel_rfl) (len_any hS.pull1 HMI.out) ?_; rintro e w1 ⟨rfl, rfl⟩; refine ⟨_, rfl, ?_⟩)
                                            | (refine Go.Sep.cl 15 _ _ (by rfl) (by rfl) (by kernel_rfl) (HA.out _) ?_; rintro e w1 ⟨rfl, rfl⟩; refine ⟨_, rfl, ?_⟩)
                                            | (refine Go.Sep.cl 15 _ _ (by rfl) (by rfl) (by kernel_rfl) (HB.out _) ?_; rintro e w1 ⟨rfl, rfl⟩; refine ⟨_, rfl, ?_⟩)); refine hK _ _ _ hS (by first | (intro h; cases h; done) | exact fun _ _ h => h | exact fun _ _ h => h.drop | exact fun _ _ h => h.drop.drop | exact fun _ _ h => h.one Has.z | exact fun _ _ h => h.one (Has.s Has.z) | exact fun _ _ h => h.one (Has.s (Has.s Has.z))) ?_; clear hK K; (simp only [Act.put, List.setIfInBounds_toArray, List.set_cons_zero, List.set_cons_succ]))
              (refine regA 4 rfl (by kernel_rfl) (by rfl) (by rfl) false (by kernel_rfl) (fun K hK => ?_); (first
                                            | (refine Go.Sep.cl 16 _ _ (by rfl) (by rfl) (by kernel_rfl) (len_any hS.pull1 HMI.out) ?_; rintro e w1 ⟨rfl, rfl⟩; refine ⟨_, rfl, ?_⟩)
                                            | (refine Go.Sep.cl 15 _ _ (by rfl) (by rfl) (by kernel_rfl) (HA.out _) ?_; rintro e w1 ⟨rfl, rfl⟩; refine ⟨_, rfl, ?_⟩)
                                            | (refine Go.Sep.cl 15 _ _ (by rfl) (by rfl) (by kernel_rfl) (HB.out _) ?_; rintro e w1 ⟨rfl, rfl⟩; refine ⟨_, rfl, ?_⟩)); refine hK _ _ _ hS (by first | (intro h; cases h; done) | exact fun _ _ h => h | exact fun _ _ h => h.drop | exact fun _ _ h => h.drop.drop | exact fun _ _ h => h.one Has.z | exact fun _ _ h => h.one (Has.s Has.z) | exact fun _ _ h => h.one (Has.s (Has.s Has.z))) ?_; clear hK K; (simp only [Act.put, List.setIfInBounds_toArray, List.set_cons_zero, List.set_cons_succ]))
              (refine regA 8 rfl (by kernel_rfl) (by rfl) (by rfl) false (by kernel_rfl) (fun K hK => ?_); (first
                                            | (refine Go.Sep.cl 16 _ _ (by rfl) (by rfl) (by kernel_rfl) (len_any hS.pull1 HMI.out) ?_; rintro e w1 ⟨rfl, rfl⟩; refine ⟨_, rfl, ?_⟩)
                                            | (refine Go.Sep.cl 15 _ _ (by rfl) (by rfl) (by kernel_rfl) (HA.out _) ?_; rintro e w1 ⟨rfl, rfl⟩; refine ⟨_, rfl, ?_⟩)
                                            | (refine Go.Sep.cl 15 _ _ (by rfl) (by rfl) (by kernel_rfl) (HB.out _) ?_; rintro e w1 ⟨rfl, rfl⟩; refine ⟨_, rfl, ?_⟩)); refine hK _ _ _ hS (by first | (intro h; cases h; done) | exact fun _ _ h => h | exact fun _ _ h => h.drop | exact fun _ _ h => h.drop.drop | exact fun _ _ h => h.one Has.z | exact fun _ _ h => h.one (Has.s Has.z) | exact fun _ _ h => h.one (Has.s (Has.s Has.z))) ?_; clear hK K; (simp only [Act.put, List.setIfInBounds_toArray, List.set_cons_zero, List.set_cons_succ]))
              (refine regA 9 rfl (by kernel_rfl) (by rfl) (by rfl) true (by kernel_rfl) (fun K hK => ?_); (first
                                            | (refine Go.Sep.cl 16 _ _ (by rfl) (by rfl) (by kernel_rfl) (len_any hS.pull1 HMI.out) ?_; rintro e w1 ⟨rfl, rfl⟩; refine ⟨_, rfl, ?_⟩)
                                            | (refine Go.Sep.cl 15 _ _ (by rfl) (by rfl) (by kernel_rfl) (HA.out _) ?_; rintro e w1 ⟨rfl, rfl⟩; refine ⟨_, rfl, ?_⟩)
                                            | (refine Go.Sep.cl 15 _ _ (by rfl) (by rfl) (by kernel_rfl) (HB.out _) ?_; rintro e w1 ⟨rfl, rfl⟩; refine ⟨_, rfl, ?_⟩)); refine hK _ _ _ hS (by first | (intro h; cases h; done) | exact fun _ _ h => h | exact fun _ _ h => h.drop | exact fun _ _ h => h.drop.drop | exact fun _ _ h => h.one Has.z | exact fun _ _ h => h.one (Has.s Has.z) | exact fun _ _ h => h.one (Has.s (Has.s Has.z))) ?_; clear hK K; (simp only [Act.put, List.setIfInBounds_toArray, List.set_cons_zero, List.set_cons_succ]))
              (refine regP 10 hS (fun _ h => h) rfl (by kernel_rfl) (by kernel_rfl) (by kernel_rfl) (fun _ _ _ _ h => h) (by rfl) (by rfl) ?_; apply Exists.intro; apply And.intro; (intro w; go_simp; try with_reducible rfl); (simp only [Act.put, List.setIfInBounds_toArray, List.set_cons_zero, List.set_cons_succ]))
              (refine regP 11 hS (fun _ h => h) rfl (by kernel_rfl) (by kernel_rfl) (by kernel_rfl) (fun _ _ _ _ h => h) (by rfl) (by rfl) ?_; apply Exists.intro; apply And.intro; (intro w; go_simp; try with_reducible rfl); (simp only [Act.put, List.setIfInBounds_toArray, List.set_cons_zero, List.set_cons_succ]))
              refine regDone (by kernel_rfl) ?_
              replace hS := hS.pull1
              go_wp2_with (first
                | (go_at_call 19; refine (HED.out _ _ hS).mono ?_; rintro e w1 ⟨rfl, hS1⟩; clear hS; have hS := hS1; clear hS1)
                | (go_at_call 18; (first | with_reducible refine (HRE.out _ _ hS).mono ?_ | with_reducible refine (HRF.out _ _ hS).mono ?_); rintro e w1 ⟨rfl, hS1⟩; clear hS; have hS := hS1; clear hS1))
              exact ⟨⟨i + 1, G2, by go_num, by omega, HOK2.out, HAC2.out, HE2.out, HN2.out, hS.pull1.drop⟩, by simp [intOf]; omega⟩
      · have e3 : decide ((i : Int) < 80) = false := decide_eq_false (by omega)
        clear h80
        go_wp2
        have H2 := Lib.hid hS
        have HLN4 := Lib.hid (show G.N.length ≤ 4096 from HOK.out.len)
        go_loopw [13] (fun v wz => ∃ n : Nat, v = .int .i64 n ∧ n ≤ m ∧ Sat W wz [IsG p G]) (fun v _ => m - (intOf v).toNat)
        case atStart => exact ⟨0, rfl, by omega, H2.out⟩
        case round =>
          clear hS H2
          obtain ⟨n, rfl, hn, hS⟩ := hrel
          by_cases hl : n < m
          · have k1 : (n : Int) < (m : Int) := by omega
            obtain ⟨us, hus⟩ : ∃ us, G.upsI (n : Int) = us := ⟨_, rfl⟩
            have HUS := Lib.hid (show ∀ y ∈ us, y < G.N.length ∧ G.reaches (y : Int) (n : Int) = false ∧ G.reaches (n : Int) (y : Int) = true by
              intro y hy
              rw [← hus, Gr.upsI_nat (by rw [HM.out]; exact hl), Gr.mem_ups] at hy
              exact ⟨hy.1, Gr.reaches_false (HAC.out _ _ hy.2), Gr.reaches_true (by rw [HM.out]; exact hl) hy.1 (Gr.Reach.edge hy.2)⟩)
            have HUL := Lib.hid (show us.length ≤ 4096 by rw [← hus, Gr.upsI_nat (by rw [HM.out]; exact hl)]; have := G.ups_len n; have := HLN4.out; omega)
            have HUPS := Lib.hid (fun w (h : Sat W w [IsG p G]) => (show Calls Try.prog 20 #[.pointer (some ⟨p, 0, none⟩), .int .i64 (n : Int)] w fun e w' => ∃ v, e = .returned v ∧ Sat W w' [Ir v us, IsG p G] by
              have := ups_any h (n : Int) HLN4.out
              rw [hus] at this
              exact this))
            have HLE := Lib.hid hl
            clear hl hus
            go_wp2_with (first
              | (go_at_call 16; refine (len_any hS HMI.out).mono ?_; rintro e w1 ⟨rfl, rfl⟩)
              | (go_at_call 20; refine (HUPS.out _ hS).mono ?_; rintro e w1 ⟨vu, rfl, hS1⟩; clear hS; have hS := hS1; clear hS1; obtain ⟨ao5, c5, rfl, _⟩ := hS.irShape (k := 0) rfl))
            have H3 := Lib.hid hS.pull1
            go_loopw [15] (fun v wz => ∃ j : Nat, v = .int .i64 j ∧ j ≤ us.length ∧ Sat W wz [IsG p G, Ir (.slice ao5 us.length c5) us]) (fun v _ => us.length - (intOf v).toNat)
            case atStart => exact ⟨0, rfl, by omega, H3.out⟩
            case round =>
              clear hS H3
              obtain ⟨j, rfl, hj, hS⟩ := hrel
              have hul := HUL.out
              by_cases hl : j < us.length
              · have k2 : (j : Int) < (us.length : Int) := by omega
                obtain ⟨y, hy⟩ : ∃ y, us[j]? = some y := ⟨_, List.getElem?_eq_getElem hl⟩
                have HY := Lib.hid hy
                obtain ⟨hy1, hy2, hy3⟩ := HUS.out y (List.mem_of_getElem? hy)
                obtain ⟨b5, o5, rfl⟩ : ∃ b o, ao5 = some ⟨b, o, none⟩ := by
                  obtain ⟨_, _, he, h1, h2, h3, h5⟩ := hS.irRd (k := 1) rfl
                  obtain ⟨b', o', h6, _⟩ := h5 (by omega)
                  simp only [Value.slice.injEq] at he
                  exact ⟨b', o', by rw [he.1, h6]⟩
                have HR1 := Lib.hid (fun w L (h : Sat W w (IsG p G :: L)) => (show Calls Try.prog 18 #[.pointer (some ⟨p, 0, none⟩), .int .i64 (y : Int), .int .i64 (n : Int)] w fun e w' => e = .returned (.bool false) ∧ Sat W w' (IsG p G :: L) by
                  have := reaches_any h HOK.out (y : Int) (n : Int)
                  rw [hy2] at this
                  exact this))
                have HR2 := Lib.hid (fun w L (h : Sat W w (IsG p G :: L)) => (show Calls Try.prog 18 #[.pointer (some ⟨p, 0, none⟩), .int .i64 (n : Int), .int .i64 (y : Int)] w fun e w' => e = .returned (.bool true) ∧ Sat W w' (IsG p G :: L) by
                  have := reaches_any h HOK.out (n : Int) (y : Int)
                  rw [hy3] at this
                  exact this))
                have HJL := Lib.hid hl
                clear hl hy hy1 hy2 hy3
                go_wp2_with (first
                  | (refine toList (by rfl) ?_; refine ldSl hS _ _ (by rfl) _ _ (by rfl) (agOf (by rfl)) (Has.s Has.z) j (by omega) (iv_at HY.out) ?_)
                  | (go_at_call 18; (first | with_reducible refine (HR1.out _ _ hS).mono ?_ | with_reducible refine (HR2.out _ _ hS).mono ?_); rintro e w1 ⟨rfl, hS1⟩; clear hS; have hS := hS1; clear hS1))
                exact ⟨⟨j + 1, by go_num, HJL.out, hS⟩, by simp [intOf]; omega⟩
              · have k2 : decide ((j : Int) < (us.length : Int)) = false := decide_eq_false (by omega)
                have k3 : ¬ (j : Int) < (us.length : Int) := by omega
                clear hl
                go_wp2
                exact ⟨⟨n + 1, by go_num, HLE.out, hS.pull1.drop⟩, by simp [intOf]; omega⟩
          · have k1 : decide ((n : Int) < (m : Int)) = false := decide_eq_false (by omega)
            have k3 : ¬ (n : Int) < (m : Int) := by omega
            clear hl
            go_wp2_with (first
              | (go_at_call 16; refine (len_any hS HMI.out).mono ?_; rintro e w1 ⟨rfl, rfl⟩)
              | (go_at_call 21; refine (awake_any hS).mono ?_; rintro e w1 ⟨rfl, hS1⟩; clear hS; have hS := hS1; clear hS1))
            go_ret
            exact ⟨rfl, hS.drop⟩
    · have e1 : decide ((i : Int) < (l.length : Int)) = false := decide_eq_false (by omega)
      have e1b : decide (i < l.length) = false := decide_eq_false hf
      clear hf
      go_wp2
      have H2 := Lib.hid hS
      have HLN4 := Lib.hid (show G.N.length ≤ 4096 from HOK.out.len)
      go_loopw [13] (fun v wz => ∃ n : Nat, v = .int .i64 n ∧ n ≤ m ∧ Sat W wz [IsG p G]) (fun v _ => m - (intOf v).toNat)
      case atStart => exact ⟨0, rfl, by omega, H2.out⟩
      case round =>
        clear hS H2
        obtain ⟨n, rfl, hn, hS⟩ := hrel
        by_cases hl : n < m
        · have k1 : (n : Int) < (m : Int) := by omega
          obtain ⟨us, hus⟩ : ∃ us, G.upsI (n : Int) = us := ⟨_, rfl⟩
          have HUS := Lib.hid (show ∀ y ∈ us, y < G.N.length ∧ G.reaches (y : Int) (n : Int) = false ∧ G.reaches (n : Int) (y : Int) = true by
            intro y hy
            rw [← hus, Gr.upsI_nat (by rw [HM.out]; exact hl), Gr.mem_ups] at hy
            exact ⟨hy.1, Gr.reaches_false (HAC.out _ _ hy.2), Gr.reaches_true (by rw [HM.out]; exact hl) hy.1 (Gr.Reach.edge hy.2)⟩)
          have HUL := Lib.hid (show us.length ≤ 4096 by rw [← hus, Gr.upsI_nat (by rw [HM.out]; exact hl)]; have := G.ups_len n; have := HLN4.out; omega)
          have HUPS := Lib.hid (fun w (h : Sat W w [IsG p G]) => (show Calls Try.prog 20 #[.pointer (some ⟨p, 0, none⟩), .int .i64 (n : Int)] w fun e w' => ∃ v, e = .returned v ∧ Sat W w' [Ir v us, IsG p G] by
            have := ups_any h (n : Int) HLN4.out
            rw [hus] at this
            exact this))
          have HLE := Lib.hid hl
          clear hl hus
          go_wp2_with (first
            | (go_at_call 16; refine (len_any hS HMI.out).mono ?_; rintro e w1 ⟨rfl, rfl⟩)
            | (go_at_call 20; refine (HUPS.out _ hS).mono ?_; rintro e w1 ⟨vu, rfl, hS1⟩; clear hS; have hS := hS1; clear hS1; obtain ⟨ao5, c5, rfl, _⟩ := hS.irShape (k := 0) rfl))
          have H3 := Lib.hid hS.pull1
          go_loopw [15] (fun v wz => ∃ j : Nat, v = .int .i64 j ∧ j ≤ us.length ∧ Sat W wz [IsG p G, Ir (.slice ao5 us.length c5) us]) (fun v _ => us.length - (intOf v).toNat)
          case atStart => exact ⟨0, rfl, by omega, H3.out⟩
          case round =>
            clear hS H3
            obtain ⟨j, rfl, hj, hS⟩ := hrel
            have hul := HUL.out
            by_cases hl : j < us.length
            · have k2 : (j : Int) < (us.length : Int) := by omega
              obtain ⟨y, hy⟩ : ∃ y, us[j]? = some y := ⟨_, List.getElem?_eq_getElem hl⟩
              have HY := Lib.hid hy
              obtain ⟨hy1, hy2, hy3⟩ := HUS.out y (List.mem_of_getElem? hy)
              obtain ⟨b5, o5, rfl⟩ : ∃ b o, ao5 = some ⟨b, o, none⟩ := by
                obtain ⟨_, _, he, h1, h2, h3, h5⟩ := hS.irRd (k := 1) rfl
                obtain ⟨b', o', h6, _⟩ := h5 (by omega)
                simp only [Value.slice.injEq] at he
                exact ⟨b', o', by rw [he.1, h6]⟩
              have HR1 := Lib.hid (fun w L (h : Sat W w (IsG p G :: L)) => (show Calls Try.prog 18 #[.pointer (some ⟨p, 0, none⟩), .int .i64 (y : Int), .int .i64 (n : Int)] w fun e w' => e = .returned (.bool false) ∧ Sat W w' (IsG p G :: L) by
                have := reaches_any h HOK.out (y : Int) (n : Int)
                rw [hy2] at this
                exact this))
              have HR2 := Lib.hid (fun w L (h : Sat W w (IsG p G :: L)) => (show Calls Try.prog 18 #[.pointer (some ⟨p, 0, none⟩), .int .i64 (n : Int), .int .i64 (y : Int)] w fun e w' => e = .returned (.bool true) ∧ Sat W w' (IsG p G :: L) by
                have := reaches_any h HOK.out (n : Int) (y : Int)
                rw [hy3] at this
                exact this))
              have HJL := Lib.hid hl
              clear hl hy hy1 hy2 hy3
              go_wp2_with (first
                | (refine toList (by rfl) ?_; refine ldSl hS _ _ (by rfl) _ _ (by rfl) (agOf (by rfl)) (Has.s Has.z) j (by omega) (iv_at HY.out) ?_)
                | (go_at_call 18; (first | with_reducible refine (HR1.out _ _ hS).mono ?_ | with_reducible refine (HR2.out _ _ hS).mono ?_); rintro e w1 ⟨rfl, hS1⟩; clear hS; have hS := hS1; clear hS1))
              exact ⟨⟨j + 1, by go_num, HJL.out, hS⟩, by simp [intOf]; omega⟩
            · have k2 : decide ((j : Int) < (us.length : Int)) = false := decide_eq_false (by omega)
              have k3 : ¬ (j : Int) < (us.length : Int) := by omega
              clear hl
              go_wp2
              exact ⟨⟨n + 1, by go_num, HLE.out, hS.pull1.drop⟩, by simp [intOf]; omega⟩
        · have k1 : decide ((n : Int) < (m : Int)) = false := decide_eq_false (by omega)
          have k3 : ¬ (n : Int) < (m : Int) := by omega
          clear hl
          go_wp2_with (first
            | (go_at_call 16; refine (len_any hS HMI.out).mono ?_; rintro e w1 ⟨rfl, rfl⟩)
            | (go_at_call 21; refine (awake_any hS).mono ?_; rintro e w1 ⟨rfl, hS1⟩; clear hS; have hS := hS1; clear hS1))
          go_ret
          exact ⟨rfl, hS.drop⟩

set_option maxRecDepth 100000 in
theorem Acyc.contract (H : Type) (enc : TypeId × Value → H) (W : World) (base : Nat) (args : Array Value) (ds gs : List (DataW H)) (before : List MemPlace)
    (hval : ∀ (j : Nat) t v, Try.f3.params[j]? = some t → args[j]? = some v → Value.okWide Try.prog W .any base t v)
    (hW : DataW.Whole enc Try.prog Try.f3.params.toList Rows.graphAcyclicSpec.vars false W args.toList ds gs before)
    (hreach : (DataW.weightsEach Try.prog (Try.f3.params.toList ++ Rows.graphAcyclicSpec.plain.varTypes Try.prog) (ds ++ gs)).all (· ≤ reachBytes) = true) :
    Calls Try.prog 3 args W fun e W' => ∃ v, e = .returned v ∧ Rows.graphAcyclicSpec.post enc Try.prog Try.f3 false true false false W args v W' := by
  have hW' := hW
  obtain ⟨p, q, hA, hV, rfl, hfz, hnd⟩ := hW
  rw [Try.params3] at hA hval hreach
  obtain ⟨v1, vs1, d1, ds1, p1, q1, hargs, rfl, rfl, h1, r1⟩ := trodAll_cons hA
  obtain ⟨rfl, rfl, rfl⟩ := trodAll_nil r1
  obtain rfl : args = #[v1] := by cases args; simp_all
  obtain ⟨rfl, rfl⟩ := trodVars_none hV
  obtain ⟨ao1, l1, c1, rfl⟩ := okWide_slice Try.underlying22 (hval 0 22 v1 rfl rfl)
  obtain ⟨l, rfl, hr, _⟩ := open_gops h1
  refine (Acyc.walk l ao1 c1 W hr).mono ?_
  refine fun e W' ⟨he, hS⟩ => ?_
  subst he
  exact ⟨_, rfl, law_post (tb := 4) (by kernel_rfl) (by kernel_rfl) rfl Try.underlying4 rfl hW' rfl hS⟩

theorem Acyc.own : ownKnob Try.prog.godebug = none := by kernel_rfl
set_option maxRecDepth 100000 in
theorem Acyc.lifted (os : Os) (started : os.Started) (H : Type) (enc : TypeId × Value → H) :
    ReturnsInHanded {} Try.checked os 3 .any (Rows.graphAcyclicSpec.pre6 enc Try.prog Try.f3 Rows.graphAcyclicRow.domain false) (Rows.graphAcyclicSpec.post enc Try.prog Try.f3 false true false false) := by
  refine returnsInHanded_of_change_shaped (C := Try.checked) Acyc.own started (by kernel_rfl) Try.func3
    (ChangeSpec.witness6 (enc := enc) (C := Try.checked) false ⟨#[], #[.slice none 0 0], []⟩ 8 (by kernel_rfl) (by kernel_rfl) (by kernel_rfl) (by kernel_rfl)) ?_
  intro W base args ds gs before hval hW _ hreach _ _
  exact Acyc.contract H enc W base args ds gs before hval hW hreach

theorem Acyc.holds : Rows.GraphAcyclicSaid :=
  OpenClaim.holds_of_wide 3 Try.f3 rfl rfl rfl rfl rfl rfl rfl ⟨rfl, rfl, rfl, rfl, rfl⟩ rfl rfl rfl rfl rfl (by kernel_rfl) Try.func3 (by kernel_rfl)
    (of_decide_eq_true (by kernel_rfl)) (by unfold Func.isWrapper; first | (rw [if_pos (by decide +kernel)]; kernel_rfl) | (rw [if_neg (by decide +kernel)]; exact ⟨rfl, rfl⟩))
    (fun os started H enc _ => Acyc.lifted os started H enc)
end Go.Proofs.Ytfbphibgcolmbaa
