/-
  For all numbers, GraphVersions answers true: no condition.
-/
import Derived.Test.YtfbphibgcolmbaaGrVerP
namespace Go.Proofs.Ytfbphibgcolmbaa
open Go.RowKit Go.Sep Go.ChangeShapes Go.WideShapes Go.ChangeAt
set_option linter.unusedSimpArgs false
set_option linter.unusedVariables false
attribute [local irreducible] Go.Oper.wp Go.wpList Go.Calls Go.Code.wp Go.Sep.Reg
attribute [local irreducible] IsG
set_option maxRecDepth 20000 in
set_option maxHeartbeats 4000000 in
theorem Vers.walk {aof aot : Option Addr} {lf lt cf ct : Nat} (fl tl : List Int) (W : World) (hfl : fl.length = lf) (htl : tl.length = lt) (hrf : Rd W (.slice aof lf cf) lf 1 (fl.flatMap zv)) (hrt : Rd W (.slice aot lt ct) lt 1 (tl.flatMap zv)) :
    Calls Try.prog 4 #[.slice aof lf cf, .slice aot lt ct] W fun e w' => e = .returned (.bool true) ∧ Sat W w' [] := by
  have hS := Sat.start W
  have HFL := Lib.hid hfl
  have HTL := Lib.hid htl
  have HRF := Lib.hid hrf
  have HRT := Lib.hid hrt
  clear hfl htl hrf hrt
  go_enter Try.func4, Try.ntmps4
  go_wp2_with (first
    | (go_at_call 14; refine (new_any hS).mono ?_; rintro e w1 ⟨p, rfl, hS1⟩; clear hS; have hS := hS1; clear hS1)
    | (refine toList (by rfl) ?_; refine al (show Sat W _ [IsG p Gr.new] from hS) _ (by rfl) (zrOf (by rfl)) ?_; intro p6 w1 hS1; clear hS; have hS := hS1; clear hS1; rw [cells_agg] at hS)
    | (refine toList (by rfl) ?_; refine al hS _ (by rfl) (zrOf (by rfl)) ?_; intro p7 w1 hS1; clear hS; have hS := hS1; clear hS1; rw [cells_agg] at hS))
  have H0 : Hid (Sat W _ [IsG p Gr.new, Cs p7 38 (lstC Gr.new), Cs p6 38 (cntC Gr.new)]) := Lib.hid (hS.re [2, 0, 1])
  go_loopw [8] (fun v wz => ∃ (i : Nat) (G : Gr), v = .int .i64 i ∧ i ≤ 60 ∧ G.Ok ∧ G.N.length = i ∧ Sat W wz [IsG p G, Cs p7 38 (lstC G), Cs p6 38 (cntC G)]) (fun v _ => 60 - (intOf v).toNat)
  case atStart => exact ⟨0, Gr.new, rfl, by omega, Gr.new_ok, rfl, H0.out⟩
  case round =>
    clear hS H0
    obtain ⟨i, G, rfl, hi, hok, hln, hS⟩ := hrel
    have HOK := Lib.hid hok
    have HLN := Lib.hid hln
    clear hok hln
    by_cases hf : i < lf
    · have i1 : (i : Int) < (lf : Int) := by omega
      have e1 : decide ((i : Int) < (lf : Int)) = true := decide_eq_true i1
      by_cases ht : i < lt
      · have i2 : (i : Int) < (lt : Int) := by omega
        have e2 : decide ((i : Int) < (lt : Int)) = true := decide_eq_true i2
        by_cases h60 : i < 60
        · have i3 : (i : Int) < 60 := by omega
          have e3 : decide ((i : Int) < 60) = true := decide_eq_true i3
          obtain ⟨x, hx⟩ : ∃ x, fl[i]? = some x := ⟨_, List.getElem?_eq_getElem (by rw [HFL.out]; exact hf)⟩
          obtain ⟨y, hy⟩ : ∃ y, tl[i]? = some y := ⟨_, List.getElem?_eq_getElem (by rw [HTL.out]; exact ht)⟩
          obtain ⟨bf, off, rfl⟩ : ∃ b o, aof = some ⟨b, o, none⟩ := by
            obtain ⟨_, _, he, h1, h2, h3, h5⟩ := HRF.out
            obtain ⟨b', o', h6, _⟩ := h5 (by omega)
            simp only [Value.slice.injEq] at he
            exact ⟨b', o', by rw [he.1, h6]⟩
          obtain ⟨bt, oft, rfl⟩ : ∃ b o, aot = some ⟨b, o, none⟩ := by
            obtain ⟨_, _, he, h1, h2, h3, h5⟩ := HRT.out
            obtain ⟨b', o', h6, _⟩ := h5 (by omega)
            simp only [Value.slice.injEq] at he
            exact ⟨b', o', by rw [he.1, h6]⟩
          have HX : Hid (W.cell? ⟨bf, off + i, none⟩ = some (.int .i64 x)) := Lib.hid (by have := Rd.elem (j := 0) HRF.out (zv_len _) hx rfl (by omega); simpa using this)
          have HY : Hid (W.cell? ⟨bt, oft + i, none⟩ = some (.int .i64 y)) := Lib.hid (by have := Rd.elem (j := 0) HRT.out (zv_len _) hy rfl (by omega); simpa using this)
          obtain ⟨a, hxa⟩ : ∃ a : Nat, x % 5 = a := ⟨(x % 5).toNat, by omega⟩
          obtain ⟨b, hyb⟩ : ∃ b : Nat, y % 4 = b := ⟨(y % 4).toNat, by omega⟩
          have ha : a < 5 := by omega
          have hb : b < 4 := by omega
          have HA : Hid (∀ w, Calls Try.prog 15 #[.int .i64 x, .int .i64 5] w fun e w' => e = .returned (.int .i64 (a : Int)) ∧ w = w') := Lib.hid fun w => by
            rw [← hxa]; exact place_any x 5 (by decide) (by decide) w
          have HB : Hid (∀ w, Calls Try.prog 15 #[.int .i64 y, .int .i64 4] w fun e w' => e = .returned (.int .i64 (b : Int)) ∧ w = w') := Lib.hid fun w => by
            rw [← hyb]; exact place_any y 4 (by decide) (by decide) w
          clear hx hy hxa hyb hf ht h60
          obtain ⟨q, hq⟩ : ∃ q : Nat, 4 * a + b = q := ⟨_, rfl⟩
          obtain ⟨c, hc⟩ : ∃ c, G.count (1 + (a : Int)) (1 + (b : Int)) = c := ⟨_, rfl⟩
          have hcb : c ≤ 60 := by have := G.count_le (1 + (a : Int)) (1 + (b : Int)); have := HLN.out; omega
          obtain ⟨G2, hG2⟩ : ∃ G2, G.plus (1 + (a : Int)) (1 + (b : Int)) = G2 := ⟨_, rfl⟩
          have hadd : G.addOk (1 + (a : Int)) (1 + (b : Int)) = true := by
            unfold Gr.addOk
            rw [newOk_yes (by omega) (by omega) (by omega) (by omega), HLN.out, decide_eq_true (by omega)]; rfl
          have hnew : newOk (1 + (a : Int)) (1 + (b : Int)) = true := newOk_yes (by omega) (by omega) (by omega) (by omega)
          have HOK2 : Hid G2.Ok := Lib.hid (by rw [← hG2]; exact Gr.plus_ok HOK.out (by rw [HLN.out]; omega))
          have HLN2 : Hid (G2.N.length = i + 1) := Lib.hid (by rw [← hG2, Gr.plus_len, HLN.out])
          have HADD := Lib.hid (fun w (L : List Asrt) (h : Sat W w (IsG p G :: L)) => (show Calls Try.prog 17 #[.pointer (some ⟨p, 0, none⟩), .int .i64 (1 + (a : Int)), .int .i64 (1 + (b : Int))] w fun e w' => e = .returned (.tuple #[.int .i64 (i : Int), .int .i64 0]) ∧ Sat W w' (IsG p G2 :: L) by
            have := add_any h HOK.out (1 + (a : Int)) (1 + (b : Int))
            unfold Gr.addI Gr.addE Gr.addG at this
            rw [hadd, if_pos rfl, if_pos rfl, hnew, if_pos rfl, HLN.out, if_pos (by omega), hG2] at this
            exact this))
          have HNODE := Lib.hid (fun w (L : List Asrt) (h : Sat W w (IsG p G2 :: L)) => (show Calls Try.prog 22 #[.pointer (some ⟨p, 0, none⟩), .int .i64 (i : Int)] w fun e w' =>
              e = .returned (.tuple #[.agg #[.int .i64 (1 + (a : Int)), .int .i64 (1 + (b : Int)), .int .i64 ((c : Int) + 1), .int .i64 0, .int .i64 0, .bool false], .bool true]) ∧ Sat W w' (IsG p G2 :: L) by
            have := node_any h (i : Int)
            rw [Gr.is_mk (by rw [HLN2.out]; omega)] at this
            have h2 := Gr.plus_node G (1 + (a : Int)) (1 + (b : Int))
            rw [HLN.out, hG2] at h2
            rw [h2] at this
            unfold Gr.newN at this
            rw [hc] at this
            exact this))
          have HC1 := Lib.hid (show (cntC G)[q]? = some (.int .i64 (c : Int)) by rw [← hq, cntC_at G ha hb, hc])
          have HC2 := Lib.hid (show (cntC G).set q (.int .i64 ((c : Int) + 1)) = cntC G2 by rw [← hq, ← hG2, ← cntC_set G ha hb, hc])
          have HL2 := Lib.hid (show (lstC G).set q (.int .i64 (i : Int)) = lstC G2 by rw [← hq, ← hG2, ← lstC_set G ha hb, HLN.out])
          have HC3 := Lib.hid (show (cntC G2)[q]? = some (.int .i64 ((c : Int) + 1)) by rw [← HC2.out, List.getElem?_set, if_pos rfl, if_pos (by rw [cntC_len]; omega)])
          have HLC := Lib.hid (cntC_len G)
          have HLL := Lib.hid (lstC_len G)
          have hqi : 4 * (a : Int) + (b : Int) = (q : Int) := by omega
          have hq2 : (q : Int) < 20 := by omega
          have hq3 : q < 20 := by omega
          have ha2 : (a : Int) < 5 := by omega
          have hb2 : (b : Int) < 4 := by omega
          have hc2 : (c : Int) ≤ 60 := by omega
          have hc4 : (0 : Int) ≤ 4 * (a : Int) := by omega
          clear hq hc hG2 hadd hnew hcb ha hb
          go_wp2
          refine regStart [9] hS (by kernel_rfl) rfl ?_
          intro w1 hS1
          clear hS; have hS := hS1; clear hS1
          (refine regP 0 hS (fun _ h => h) rfl (by kernel_rfl) (by kernel_rfl) (by kernel_rfl) (fun _ _ _ _ h => h) (by rfl) (by rfl) ?_; apply Exists.intro; apply And.intro; (intro w; go_simp; try with_reducible rfl); (simp only [Act.put, List.setIfInBounds_toArray, List.set_cons_zero, List.set_cons_succ]))
          (refine regP 1 hS (fun _ h => h) rfl (by kernel_rfl) (by kernel_rfl) (by kernel_rfl) (fun _ _ _ _ h => h) (by rfl) (by rfl) ?_; apply Exists.intro; apply And.intro; (intro w; go_simp; try with_reducible rfl); (simp only [Act.put, List.setIfInBounds_toArray, List.set_cons_zero, List.set_cons_succ]))
          (refine regP 2 hS (fun _ h => h) rfl (by kernel_rfl) (by kernel_rfl) (by kernel_rfl) (fun _ _ _ _ h => h) (by rfl) (by rfl) ?_; apply Exists.intro; apply And.intro; (intro w; go_simp; try with_reducible rfl); (simp only [Act.put, List.setIfInBounds_toArray, List.set_cons_zero, List.set_cons_succ]))
          (refine regR 3 hS (fun _ h => h) rfl (by kernel_rfl) (by kernel_rfl) (by kernel_rfl) (by kernel_rfl) (by kernel_rfl) (fun _ _ _ _ h => h) (by rfl) (by rfl) ?_; (refine ⟨_, yLdOld _ _ (by rfl) _ _ (by rfl) (agOf (by rfl)) (by first | exact HX.out | exact HY.out), ?_⟩); (simp only [Act.put, List.setIfInBounds_toArray, List.set_cons_zero, List.set_cons_succ]))
          (refine regP 5 hS (fun _ h => h) rfl (by kernel_rfl) (by kernel_rfl) (by kernel_rfl) (fun _ _ _ _ h => h) (by rfl) (by rfl) ?_; apply Exists.intro; apply And.intro; (intro w; go_simp; try with_reducible rfl); (simp only [Act.put, List.setIfInBounds_toArray, List.set_cons_zero, List.set_cons_succ]))
          (refine regP 6 hS (fun _ h => h) rfl (by kernel_rfl) (by kernel_rfl) (by kernel_rfl) (fun _ _ _ _ h => h) (by rfl) (by rfl) ?_; apply Exists.intro; apply And.intro; (intro w; go_simp; try with_reducible rfl); (simp only [Act.put, List.setIfInBounds_toArray, List.set_cons_zero, List.set_cons_succ]))
          (refine regP 7 hS (fun _ h => h) rfl (by kernel_rfl) (by kernel_rfl) (by kernel_rfl) (fun _ _ _ _ h => h) (by rfl) (by rfl) ?_; apply Exists.intro; apply And.intro; (intro w; go_simp; try with_reducible rfl); (simp only [Act.put, List.setIfInBounds_toArray, List.set_cons_zero, List.set_cons_succ]))
          (refine regR 8 hS (fun _ h => h) rfl (by kernel_rfl) (by kernel_rfl) (by kernel_rfl) (by kernel_rfl) (by kernel_rfl) (fun _ _ _ _ h => h) (by rfl) (by rfl) ?_; (refine ⟨_, yLdOld _ _ (by rfl) _ _ (by rfl) (agOf (by rfl)) (by first | exact HX.out | exact HY.out), ?_⟩); (simp only [Act.put, List.setIfInBounds_toArray, List.set_cons_zero, List.set_cons_succ]))
          (refine regA 4 rfl (by kernel_rfl) (by rfl) (by rfl) false (by kernel_rfl) (fun K hK => ?_); (first
                                | (refine Go.Sep.cl 15 _ _ (by rfl) (by rfl) (by kernel_rfl) (HA.out _) ?_; rintro e w1 ⟨rfl, rfl⟩; refine ⟨_, rfl, ?_⟩)
                                | (refine Go.Sep.cl 15 _ _ (by rfl) (by rfl) (by kernel_rfl) (HB.out _) ?_; rintro e w1 ⟨rfl, rfl⟩; refine ⟨_, rfl, ?_⟩)); refine hK _ _ _ hS (by first | (intro h; cases h; done) | exact fun _ _ h => h | exact fun _ _ h => h.drop | exact fun _ _ h => h.drop.drop | exact fun _ _ h => h.one Has.z | exact fun _ _ h => h.one (Has.s Has.z) | exact fun _ _ h => h.one (Has.s (Has.s Has.z))) ?_; clear hK K; (simp only [Act.put, List.setIfInBounds_toArray, List.set_cons_zero, List.set_cons_succ]))
          (refine regA 9 rfl (by kernel_rfl) (by rfl) (by rfl) true (by kernel_rfl) (fun K hK => ?_); (first
                                | (refine Go.Sep.cl 15 _ _ (by rfl) (by rfl) (by kernel_rfl) (HA.out _) ?_; rintro e w1 ⟨rfl, rfl⟩; refine ⟨_, rfl, ?_⟩)
                                | (refine Go.Sep.cl 15 _ _ (by rfl) (by rfl) (by kernel_rfl) (HB.out _) ?_; rintro e w1 ⟨rfl, rfl⟩; refine ⟨_, rfl, ?_⟩)); refine hK _ _ _ hS (by first | (intro h; cases h; done) | exact fun _ _ h => h | exact fun _ _ h => h.drop | exact fun _ _ h => h.drop.drop | exact fun _ _ h => h.one Has.z | exact fun _ _ h => h.one (Has.s Has.z) | exact fun _ _ h => h.one (Has.s (Has.s Has.z))) ?_; clear hK K; (simp only [Act.put, List.setIfInBounds_toArray, List.set_cons_zero, List.set_cons_succ]))
          (refine regP 10 hS (fun _ h => h) rfl (by kernel_rfl) (by kernel_rfl) (by kernel_rfl) (fun _ _ _ _ h => h) (by rfl) (by rfl) ?_; apply Exists.intro; apply And.intro; (intro w; go_simp; try with_reducible rfl); (simp only [Act.put, List.setIfInBounds_toArray, List.set_cons_zero, List.set_cons_succ]))
          (refine regP 11 hS (fun _ h => h) rfl (by kernel_rfl) (by kernel_rfl) (by kernel_rfl) (fun _ _ _ _ h => h) (by rfl) (by rfl) ?_; apply Exists.intro; apply And.intro; (intro w; go_simp; try with_reducible rfl); (simp only [Act.put, List.setIfInBounds_toArray, List.set_cons_zero, List.set_cons_succ]))
          refine regDone (by kernel_rfl) ?_
          clear HA HB HX HY i1 i2 e1 e2
          go_wp2_with (first
            | (go_at_call 17; refine (HADD.out _ _ hS).mono ?_; rintro e w1 ⟨rfl, hS1⟩; clear hS; have hS := hS1; clear hS1)
            | (go_at_call 22; refine (HNODE.out _ _ hS).mono ?_; rintro e w1 ⟨rfl, hS1⟩; clear hS; have hS := hS1; clear hS1)
            | (refine toList (by rfl) ?_; refine al hS _ (by rfl) (zrOf (by rfl)) ?_; intro px w1 hS1; clear hS; have hS := hS1; clear hS1; rw [cells_agg] at hS)
            | (refine toList (by rfl) ?_; refine stW hS _ _ _ (by rfl) (by rfl) [.int .i64 (1 + (a : Int)), .int .i64 (1 + (b : Int)), .int .i64 ((c : Int) + 1), .int .i64 0, .int .i64 0, .bool false] (by rfl) (by simp [Value.oneCell']) (szOf (by rfl)) Has.z rfl ?_; intro w1 hS1; clear hS; have hS := hS1; clear hS1; dsimp only [List.set_cons_zero] at hS)
            | (refine toList (by rfl) ?_; refine ld hS _ _ (by rfl) _ _ (by rfl) (agOf (by rfl)) (Has.s (Has.s (Has.s Has.z))) HC1.out ?_)
            | (refine toList (by rfl) ?_; refine st hS _ _ _ (by rfl) _ _ (by rfl) _ (by first | exact evC | exact evT (by rfl)) (by rfl) (szOf (by rfl)) (Has.s (Has.s (Has.s Has.z))) (by rw [HLC.out]; omega) ?_; intro w1 hS1; clear hS; have hS := hS1; clear hS1; simp only [List.set_cons_zero, List.set_cons_succ] at hS; rw [HC2.out] at hS)
            | (refine toList (by rfl) ?_; refine st hS _ _ _ (by rfl) _ _ (by rfl) _ (by first | exact evC | exact evT (by rfl)) (by rfl) (szOf (by rfl)) (Has.s (Has.s Has.z)) (by rw [HLL.out]; omega) ?_; intro w1 hS1; clear hS; have hS := hS1; clear hS1; simp only [List.set_cons_zero, List.set_cons_succ] at hS; rw [HL2.out] at hS))
          refine regStart [] hS (by kernel_rfl) rfl ?_
          intro w1 hS1
          clear hS; have hS := hS1; clear hS1
          (refine regP 0 hS (fun _ h => h) rfl (by kernel_rfl) (by kernel_rfl) (by kernel_rfl) (fun _ _ _ _ h => h) (by rfl) (by rfl) ?_; apply Exists.intro; apply And.intro; (intro w; go_simp; try with_reducible rfl); (simp only [Act.put, List.setIfInBounds_toArray, List.set_cons_zero, List.set_cons_succ]))
          (refine regP 1 hS (fun _ h => h) rfl (by kernel_rfl) (by kernel_rfl) (by kernel_rfl) (fun _ _ _ _ h => h) (by rfl) (by rfl) ?_; apply Exists.intro; apply And.intro; (intro w; go_simp; try with_reducible rfl); (simp only [Act.put, List.setIfInBounds_toArray, List.set_cons_zero, List.set_cons_succ]))
          (refine regP 2 hS (fun _ h => h) rfl (by kernel_rfl) (by kernel_rfl) (by kernel_rfl) (fun _ _ _ _ h => h) (by rfl) (by rfl) ?_; apply Exists.intro; apply And.intro; (intro w; go_simp; try with_reducible rfl); (simp only [Act.put, List.setIfInBounds_toArray, List.set_cons_zero, List.set_cons_succ]))
          (first | (refine regP 3 hS (fun _ h => h) rfl (by kernel_rfl) (by kernel_rfl) (by kernel_rfl) (fun _ _ _ _ h => h) (by rfl) (by rfl) ?_; apply Exists.intro; apply And.intro; (intro w; go_simp; try with_reducible rfl); (simp only [Act.put, List.setIfInBounds_toArray, List.set_cons_zero, List.set_cons_succ])) | (refine regN 3 hS (fun _ h => h) rfl (by kernel_rfl) (by kernel_rfl) (by kernel_rfl) (fun _ _ _ h => h) (by rfl) (by rfl) ?_; (simp only [Act.put, List.setIfInBounds_toArray, List.set_cons_zero, List.set_cons_succ])))
          (first | (refine regP 4 hS (fun _ h => h) rfl (by kernel_rfl) (by kernel_rfl) (by kernel_rfl) (fun _ _ _ _ h => h) (by rfl) (by rfl) ?_; apply Exists.intro; apply And.intro; (intro w; go_simp; try with_reducible rfl); (simp only [Act.put, List.setIfInBounds_toArray, List.set_cons_zero, List.set_cons_succ])) | (refine regN 4 hS (fun _ h => h) rfl (by kernel_rfl) (by kernel_rfl) (by kernel_rfl) (fun _ _ _ h => h) (by rfl) (by rfl) ?_; (simp only [Act.put, List.setIfInBounds_toArray, List.set_cons_zero, List.set_cons_succ])))
          (first | (refine regP 5 hS (fun _ h => h) rfl (by kernel_rfl) (by kernel_rfl) (by kernel_rfl) (fun _ _ _ _ h => h) (by rfl) (by rfl) ?_; apply Exists.intro; apply And.intro; (intro w; go_simp; try with_reducible rfl); (simp only [Act.put, List.setIfInBounds_toArray, List.set_cons_zero, List.set_cons_succ])) | (refine regN 5 hS (fun _ h => h) rfl (by kernel_rfl) (by kernel_rfl) (by kernel_rfl) (fun _ _ _ h => h) (by rfl) (by rfl) ?_; (simp only [Act.put, List.setIfInBounds_toArray, List.set_cons_zero, List.set_cons_succ])))
          (refine regP 6 hS (fun _ h => h) rfl (by kernel_rfl) (by kernel_rfl) (by kernel_rfl) (fun _ _ _ _ h => h) (by rfl) (by rfl) ?_; apply Exists.intro; apply And.intro; (intro w; go_simp; try with_reducible rfl); (simp only [Act.put, List.setIfInBounds_toArray, List.set_cons_zero, List.set_cons_succ]))
          (refine regP 7 hS (fun _ h => h) rfl (by kernel_rfl) (by kernel_rfl) (by kernel_rfl) (fun _ _ _ _ h => h) (by rfl) (by rfl) ?_; apply Exists.intro; apply And.intro; (intro w; go_simp; try with_reducible rfl); (simp only [Act.put, List.setIfInBounds_toArray, List.set_cons_zero, List.set_cons_succ]))
          (first | (refine regP 8 hS (fun _ h => h) rfl (by kernel_rfl) (by kernel_rfl) (by kernel_rfl) (fun _ _ _ _ h => h) (by rfl) (by rfl) ?_; apply Exists.intro; apply And.intro; (intro w; go_simp; try with_reducible rfl); (simp only [Act.put, List.setIfInBounds_toArray, List.set_cons_zero, List.set_cons_succ])) | (refine regN 8 hS (fun _ h => h) rfl (by kernel_rfl) (by kernel_rfl) (by kernel_rfl) (fun _ _ _ h => h) (by rfl) (by rfl) ?_; (simp only [Act.put, List.setIfInBounds_toArray, List.set_cons_zero, List.set_cons_succ])))
          (first | (refine regP 9 hS (fun _ h => h) rfl (by kernel_rfl) (by kernel_rfl) (by kernel_rfl) (fun _ _ _ _ h => h) (by rfl) (by rfl) ?_; apply Exists.intro; apply And.intro; (intro w; go_simp; try with_reducible rfl); (simp only [Act.put, List.setIfInBounds_toArray, List.set_cons_zero, List.set_cons_succ])) | (refine regN 9 hS (fun _ h => h) rfl (by kernel_rfl) (by kernel_rfl) (by kernel_rfl) (fun _ _ _ h => h) (by rfl) (by rfl) ?_; (simp only [Act.put, List.setIfInBounds_toArray, List.set_cons_zero, List.set_cons_succ])))
          (refine regP 10 hS (fun _ h => h) rfl (by kernel_rfl) (by kernel_rfl) (by kernel_rfl) (fun _ _ _ _ h => h) (by rfl) (by rfl) ?_; apply Exists.intro; apply And.intro; (intro w; go_simp; try with_reducible rfl); (simp only [Act.put, List.setIfInBounds_toArray, List.set_cons_zero, List.set_cons_succ]))
          (refine regP 11 hS (fun _ h => h) rfl (by kernel_rfl) (by kernel_rfl) (by kernel_rfl) (fun _ _ _ _ h => h) (by rfl) (by rfl) ?_; apply Exists.intro; apply And.intro; (intro w; go_simp; try with_reducible rfl); (simp only [Act.put, List.setIfInBounds_toArray, List.set_cons_zero, List.set_cons_succ]))
          (first | (refine regR 12 hS (fun _ h => h) rfl (by kernel_rfl) (by kernel_rfl) (by kernel_rfl) (by kernel_rfl) (by kernel_rfl) (fun _ _ _ _ h => h) (by rfl) (by rfl) ?_; (first
                                | refine ⟨_, yLdA _ _ (by rfl) _ _ (by rfl) (agOf (by rfl)) (szOf (by rfl)) Has.z (by rfl) (by rfl), ?_⟩
                                | refine ⟨_, yLd _ _ (by rfl) _ _ (by rfl) (agOf (by rfl)) (Has.s (Has.s (Has.s Has.z))) (by exact HC3.out), ?_⟩); (simp only [Act.put, List.setIfInBounds_toArray, List.set_cons_zero, List.set_cons_succ])) | (refine regN 12 hS (fun _ h => h) rfl (by kernel_rfl) (by kernel_rfl) (by kernel_rfl) (fun _ _ _ h => h) (by rfl) (by rfl) ?_; (simp only [Act.put, List.setIfInBounds_toArray, List.set_cons_zero, List.set_cons_succ])))
          (first | (refine regP 13 hS (fun _ h => h) rfl (by kernel_rfl) (by kernel_rfl) (by kernel_rfl) (fun _ _ _ _ h => h) (by rfl) (by rfl) ?_; apply Exists.intro; apply And.intro; (intro w; go_simp; try with_reducible rfl); (simp only [Act.put, List.setIfInBounds_toArray, List.set_cons_zero, List.set_cons_succ])) | (refine regN 13 hS (fun _ h => h) rfl (by kernel_rfl) (by kernel_rfl) (by kernel_rfl) (fun _ _ _ h => h) (by rfl) (by rfl) ?_; (simp only [Act.put, List.setIfInBounds_toArray, List.set_cons_zero, List.set_cons_succ])))
          (first | (refine regP 14 hS (fun _ h => h) rfl (by kernel_rfl) (by kernel_rfl) (by kernel_rfl) (fun _ _ _ _ h => h) (by rfl) (by rfl) ?_; apply Exists.intro; apply And.intro; (intro w; go_simp; try with_reducible rfl); (simp only [Act.put, List.setIfInBounds_toArray, List.set_cons_zero, List.set_cons_succ]); try simp (disch := omega) only [IntWalk.i64_in]) | (refine regN 14 hS (fun _ h => h) rfl (by kernel_rfl) (by kernel_rfl) (by kernel_rfl) (fun _ _ _ h => h) (by rfl) (by rfl) ?_; (simp only [Act.put, List.setIfInBounds_toArray, List.set_cons_zero, List.set_cons_succ])))
          (first | (refine regP 15 hS (fun _ h => h) rfl (by kernel_rfl) (by kernel_rfl) (by kernel_rfl) (fun _ _ _ _ h => h) (by rfl) (by rfl) ?_; apply Exists.intro; apply And.intro; (intro w; go_simp; try with_reducible rfl); (simp only [Act.put, List.setIfInBounds_toArray, List.set_cons_zero, List.set_cons_succ])) | (refine regN 15 hS (fun _ h => h) rfl (by kernel_rfl) (by kernel_rfl) (by kernel_rfl) (fun _ _ _ h => h) (by rfl) (by rfl) ?_; (simp only [Act.put, List.setIfInBounds_toArray, List.set_cons_zero, List.set_cons_succ])))
          (first | (refine regP 16 hS (fun _ h => h) rfl (by kernel_rfl) (by kernel_rfl) (by kernel_rfl) (fun _ _ _ _ h => h) (by rfl) (by rfl) ?_; apply Exists.intro; apply And.intro; (intro w; go_simp; try with_reducible rfl); (simp only [Act.put, List.setIfInBounds_toArray, List.set_cons_zero, List.set_cons_succ]); try simp (disch := omega) only [IntWalk.i64_in]) | (refine regN 16 hS (fun _ h => h) rfl (by kernel_rfl) (by kernel_rfl) (by kernel_rfl) (fun _ _ _ h => h) (by rfl) (by rfl) ?_; (simp only [Act.put, List.setIfInBounds_toArray, List.set_cons_zero, List.set_cons_succ])))
          (first | (refine regP 17 hS (fun _ h => h) rfl (by kernel_rfl) (by kernel_rfl) (by kernel_rfl) (fun _ _ _ _ h => h) (by rfl) (by rfl) ?_; apply Exists.intro; apply And.intro; (intro w; go_simp; try with_reducible rfl); (simp only [Act.put, List.setIfInBounds_toArray, List.set_cons_zero, List.set_cons_succ])) | (refine regN 17 hS (fun _ h => h) rfl (by kernel_rfl) (by kernel_rfl) (by kernel_rfl) (fun _ _ _ h => h) (by rfl) (by rfl) ?_; (simp only [Act.put, List.setIfInBounds_toArray, List.set_cons_zero, List.set_cons_succ])))
          (first | (refine regP 18 hS (fun _ h => h) rfl (by kernel_rfl) (by kernel_rfl) (by kernel_rfl) (fun _ _ _ _ h => h) (by rfl) (by rfl) ?_; apply Exists.intro; apply And.intro; (intro w; go_simp; try with_reducible rfl); (simp only [Act.put, List.setIfInBounds_toArray, List.set_cons_zero, List.set_cons_succ]); try simp (disch := omega) only [IntWalk.i64_in]) | (refine regN 18 hS (fun _ h => h) rfl (by kernel_rfl) (by kernel_rfl) (by kernel_rfl) (fun _ _ _ h => h) (by rfl) (by rfl) ?_; (simp only [Act.put, List.setIfInBounds_toArray, List.set_cons_zero, List.set_cons_succ])))
          (first | (refine regP 19 hS (fun _ h => h) rfl (by kernel_rfl) (by kernel_rfl) (by kernel_rfl) (fun _ _ _ _ h => h) (by rfl) (by rfl) ?_; apply Exists.intro; apply And.intro; (intro w; go_simp; try with_reducible rfl); (simp only [Act.put, List.setIfInBounds_toArray, List.set_cons_zero, List.set_cons_succ])) | (refine regN 19 hS (fun _ h => h) rfl (by kernel_rfl) (by kernel_rfl) (by kernel_rfl) (fun _ _ _ h => h) (by rfl) (by rfl) ?_; (simp only [Act.put, List.setIfInBounds_toArray, List.set_cons_zero, List.set_cons_succ])))
          (first | (refine regP 20 hS (fun _ h => h) rfl (by kernel_rfl) (by kernel_rfl) (by kernel_rfl) (fun _ _ _ _ h => h) (by rfl) (by rfl) ?_; apply Exists.intro; apply And.intro; (intro w; go_simp; try with_reducible rfl); (simp only [Act.put, List.setIfInBounds_toArray, List.set_cons_zero, List.set_cons_succ]); try simp (disch := omega) only [IntWalk.i64_in]) | (refine regN 20 hS (fun _ h => h) rfl (by kernel_rfl) (by kernel_rfl) (by kernel_rfl) (fun _ _ _ h => h) (by rfl) (by rfl) ?_; (simp only [Act.put, List.setIfInBounds_toArray, List.set_cons_zero, List.set_cons_succ])))
          (first | (refine regP 21 hS (fun _ h => h) rfl (by kernel_rfl) (by kernel_rfl) (by kernel_rfl) (fun _ _ _ _ h => h) (by rfl) (by rfl) ?_; apply Exists.intro; apply And.intro; (intro w; go_simp; try with_reducible rfl); (simp only [Act.put, List.setIfInBounds_toArray, List.set_cons_zero, List.set_cons_succ])) | (refine regN 21 hS (fun _ h => h) rfl (by kernel_rfl) (by kernel_rfl) (by kernel_rfl) (fun _ _ _ h => h) (by rfl) (by rfl) ?_; (simp only [Act.put, List.setIfInBounds_toArray, List.set_cons_zero, List.set_cons_succ])))
          (first | (refine regR 22 hS (fun _ h => h) rfl (by kernel_rfl) (by kernel_rfl) (by kernel_rfl) (by kernel_rfl) (by kernel_rfl) (fun _ _ _ _ h => h) (by rfl) (by rfl) ?_; (first
                                | refine ⟨_, yLdA _ _ (by rfl) _ _ (by rfl) (agOf (by rfl)) (szOf (by rfl)) Has.z (by rfl) (by rfl), ?_⟩
                                | refine ⟨_, yLd _ _ (by rfl) _ _ (by rfl) (agOf (by rfl)) (Has.s (Has.s (Has.s Has.z))) (by exact HC3.out), ?_⟩); (simp only [Act.put, List.setIfInBounds_toArray, List.set_cons_zero, List.set_cons_succ])) | (refine regN 22 hS (fun _ h => h) rfl (by kernel_rfl) (by kernel_rfl) (by kernel_rfl) (fun _ _ _ h => h) (by rfl) (by rfl) ?_; (simp only [Act.put, List.setIfInBounds_toArray, List.set_cons_zero, List.set_cons_succ])))
          (first | (refine regP 23 hS (fun _ h => h) rfl (by kernel_rfl) (by kernel_rfl) (by kernel_rfl) (fun _ _ _ _ h => h) (by rfl) (by rfl) ?_; apply Exists.intro; apply And.intro; (intro w; go_simp; try with_reducible rfl); (simp only [Act.put, List.setIfInBounds_toArray, List.set_cons_zero, List.set_cons_succ])) | (refine regN 23 hS (fun _ h => h) rfl (by kernel_rfl) (by kernel_rfl) (by kernel_rfl) (fun _ _ _ h => h) (by rfl) (by rfl) ?_; (simp only [Act.put, List.setIfInBounds_toArray, List.set_cons_zero, List.set_cons_succ])))
          (first | (refine regP 24 hS (fun _ h => h) rfl (by kernel_rfl) (by kernel_rfl) (by kernel_rfl) (fun _ _ _ _ h => h) (by rfl) (by rfl) ?_; apply Exists.intro; apply And.intro; (intro w; go_simp; try with_reducible rfl); (simp only [Act.put, List.setIfInBounds_toArray, List.set_cons_zero, List.set_cons_succ])) | (refine regN 24 hS (fun _ h => h) rfl (by kernel_rfl) (by kernel_rfl) (by kernel_rfl) (fun _ _ _ h => h) (by rfl) (by rfl) ?_; (simp only [Act.put, List.setIfInBounds_toArray, List.set_cons_zero, List.set_cons_succ])))
          (refine regP 25 hS (fun _ h => h) rfl (by kernel_rfl) (by kernel_rfl) (by kernel_rfl) (fun _ _ _ _ h => h) (by rfl) (by rfl) ?_; apply Exists.intro; apply And.intro; (intro w; go_simp; try with_reducible rfl); (simp only [Act.put, List.setIfInBounds_toArray, List.set_cons_zero, List.set_cons_succ]))
          refine regDone (by kernel_rfl) ?_
          go_wp2
          exact ⟨⟨i + 1, G2, by go_num, by omega, HOK2.out, HLN2.out, hS.drop⟩, by simp [intOf]; omega⟩
        · have e3 : decide ((i : Int) < 60) = false := decide_eq_false (by omega)
          clear h60
          go_wp2
          have H2 := Lib.hid hS
          have HCB := Lib.hid (fun (k o : Int) => (show G.count k o ≤ 60 by have := G.count_le k o; have := HLN.out; omega))
          have HLT := Lib.hid (fun (k o : Int) (i : Nat) (h : G.latest k o = some i) => (show i < 60 by have := (Gr.latest_count h).2; have := HLN.out; omega))
          clear HLN
          go_loopw [15] (fun v wz => ∃ a : Nat, v = .int .i64 a ∧ a ≤ 5 ∧ Sat W wz [IsG p G, Cs p7 38 (lstC G), Cs p6 38 (cntC G)]) (fun v _ => 5 - (intOf v).toNat)
          case atStart => exact ⟨0, rfl, by omega, H2.out⟩
          case round =>
            clear hS H2
            obtain ⟨a, rfl, ha, hS⟩ := hrel
            by_cases hl : a < 5
            · have k1 : (a : Int) < 5 := by omega
              have k1b : decide ((a : Int) < 5) = true := decide_eq_true k1
              have HLA := Lib.hid hl
              clear hl
              go_wp2
              have H3 := Lib.hid hS
              go_loopw [16] (fun v wz => ∃ b : Nat, v = .int .i64 b ∧ b ≤ 4 ∧ Sat W wz [IsG p G, Cs p7 38 (lstC G), Cs p6 38 (cntC G)]) (fun v _ => 4 - (intOf v).toNat)
              case atStart => exact ⟨0, rfl, by omega, H3.out⟩
              case round =>
                clear hS H3
                obtain ⟨b, rfl, hb, hS⟩ := hrel
                by_cases hl : b < 4
                · have k2 : (b : Int) < 4 := by omega
                  have k2b : decide ((b : Int) < 4) = true := decide_eq_true k2
                  have HLB := Lib.hid hl
                  clear hl
                  obtain ⟨q, hq⟩ : ∃ q : Nat, 4 * a + b = q := ⟨_, rfl⟩
                  have hqi : 4 * (a : Int) + (b : Int) = (q : Int) := by omega
                  have hq2 : (q : Int) < 20 := by have := HLA.out; have := HLB.out; omega
                  have HC0 := cntC_at G HLA.out HLB.out
                  have HL0 := lstC_at G HLA.out HLB.out
                  rw [hq] at HC0 HL0
                  clear hq
                  cases hlt : G.latest (1 + (a : Int)) (1 + (b : Int)) with
                  | none =>
                    rw [Gr.latest_none hlt] at HC0
                    rw [hlt] at HL0
                    have HC := Lib.hid HC0
                    have HL := Lib.hid HL0
                    have HT := Lib.hid (fun w (h : Sat W w [IsG p G, Cs p7 38 (lstC G), Cs p6 38 (cntC G)]) => (show Calls Try.prog 23 #[.pointer (some ⟨p, 0, none⟩), .int .i64 (1 + (a : Int)), .int .i64 (1 + (b : Int))] w fun e w' => e = .returned (.tuple #[.int .i64 0, .bool false]) ∧ w = w' by
                      have := latest_any h (1 + (a : Int)) (1 + (b : Int)) (fun i h => by rw [hlt] at h; cases h)
                      unfold Gr.latI at this
                      rw [hlt] at this
                      exact this))
                    clear HC0 HL0 hlt
                    go_wp2_with (first
                      | (go_at_call 23; refine (HT.out _ hS).mono ?_; rintro e w1 ⟨rfl, rfl⟩)
                      | (refine toList (by rfl) ?_; refine ld hS _ _ (by rfl) _ _ (by rfl) (agOf (by rfl)) (Has.s (Has.s Has.z)) HC.out ?_)
                      | (refine toList (by rfl) ?_; refine ld hS _ _ (by rfl) _ _ (by rfl) (agOf (by rfl)) (Has.s Has.z) HL.out ?_))
                    exact ⟨⟨b + 1, by go_num, HLB.out, hS⟩, by simp [intOf]; omega⟩
                  | some i =>
                    obtain ⟨c, hc⟩ : ∃ c, G.count (1 + (a : Int)) (1 + (b : Int)) = c := ⟨_, rfl⟩
                    have hc0 := (Gr.latest_count hlt).1
                    have hi := HLT.out _ _ _ hlt
                    have hcb := HCB.out (1 + (a : Int)) (1 + (b : Int))
                    rw [hc] at HC0 hc0 hcb
                    rw [hlt] at HL0
                    have HC := Lib.hid HC0
                    have HL := Lib.hid (show (lstC G)[q]? = some (.int .i64 (i : Int)) from HL0)
                    have HT := Lib.hid (fun w (h : Sat W w [IsG p G, Cs p7 38 (lstC G), Cs p6 38 (cntC G)]) => (show Calls Try.prog 23 #[.pointer (some ⟨p, 0, none⟩), .int .i64 (1 + (a : Int)), .int .i64 (1 + (b : Int))] w fun e w' => e = .returned (.tuple #[.int .i64 (i : Int), .bool true]) ∧ w = w' by
                      have := latest_any h (1 + (a : Int)) (1 + (b : Int)) (fun j h => by have := HLT.out _ _ _ h; omega)
                      unfold Gr.latI at this
                      rw [hlt] at this
                      exact this))
                    have c1 : (0 : Int) < (c : Int) := by omega
                    have c2 : decide ((0 : Int) < (c : Int)) = true := decide_eq_true c1
                    clear HC0 HL0 hlt hc hc0 hcb
                    go_wp2_with (first
                      | (go_at_call 23; refine (HT.out _ hS).mono ?_; rintro e w1 ⟨rfl, rfl⟩)
                      | (refine toList (by rfl) ?_; refine ld hS _ _ (by rfl) _ _ (by rfl) (agOf (by rfl)) (Has.s (Has.s Has.z)) HC.out ?_)
                      | (refine toList (by rfl) ?_; refine ld hS _ _ (by rfl) _ _ (by rfl) (agOf (by rfl)) (Has.s Has.z) HL.out ?_))
                    exact ⟨⟨b + 1, by go_num, HLB.out, hS⟩, by simp [intOf]; omega⟩
                · have k2 : decide ((b : Int) < 4) = false := decide_eq_false (by omega)
                  clear hl
                  go_wp2
                  exact ⟨⟨a + 1, by go_num, HLA.out, hS⟩, by simp [intOf]; omega⟩
            · have k1 : decide ((a : Int) < 5) = false := decide_eq_false (by omega)
              clear hl
              go_wp2_with (go_at_call 21; refine (awake_any hS).mono ?_; rintro e w1 ⟨rfl, hS1⟩; clear hS; have hS := hS1; clear hS1)
              go_ret
              exact ⟨rfl, hS.drop.drop.drop⟩
      · have e2 : decide ((i : Int) < (lt : Int)) = false := decide_eq_false (by omega)
        have e2b : decide (i < lt) = false := decide_eq_false ht
        clear ht
        go_wp2
        have H2 := Lib.hid hS
        have HCB := Lib.hid (fun (k o : Int) => (show G.count k o ≤ 60 by have := G.count_le k o; have := HLN.out; omega))
        have HLT := Lib.hid (fun (k o : Int) (i : Nat) (h : G.latest k o = some i) => (show i < 60 by have := (Gr.latest_count h).2; have := HLN.out; omega))
        clear HLN
        go_loopw [15] (fun v wz => ∃ a : Nat, v = .int .i64 a ∧ a ≤ 5 ∧ Sat W wz [IsG p G, Cs p7 38 (lstC G), Cs p6 38 (cntC G)]) (fun v _ => 5 - (intOf v).toNat)
        case atStart => exact ⟨0, rfl, by omega, H2.out⟩
        case round =>
          clear hS H2
          obtain ⟨a, rfl, ha, hS⟩ := hrel
          by_cases hl : a < 5
          · have k1 : (a : Int) < 5 := by omega
            have k1b : decide ((a : Int) < 5) = true := decide_eq_true k1
            have HLA := Lib.hid hl
            clear hl
            go_wp2
            have H3 := Lib.hid hS
            go_loopw [16] (fun v wz => ∃ b : Nat, v = .int .i64 b ∧ b ≤ 4 ∧ Sat W wz [IsG p G, Cs p7 38 (lstC G), Cs p6 38 (cntC G)]) (fun v _ => 4 - (intOf v).toNat)
            case atStart => exact ⟨0, rfl, by omega, H3.out⟩
            case round =>
              clear hS H3
              obtain ⟨b, rfl, hb, hS⟩ := hrel
              by_cases hl : b < 4
              · have k2 : (b : Int) < 4 := by omega
                have k2b : decide ((b : Int) < 4) = true := decide_eq_true k2
                have HLB := Lib.hid hl
                clear hl
                obtain ⟨q, hq⟩ : ∃ q : Nat, 4 * a + b = q := ⟨_, rfl⟩
                have hqi : 4 * (a : Int) + (b : Int) = (q : Int) := by omega
                have hq2 : (q : Int) < 20 := by have := HLA.out; have := HLB.out; omega
                have HC0 := cntC_at G HLA.out HLB.out
                have HL0 := lstC_at G HLA.out HLB.out
                rw [hq] at HC0 HL0
                clear hq
                cases hlt : G.latest (1 + (a : Int)) (1 + (b : Int)) with
                | none =>
                  rw [Gr.latest_none hlt] at HC0
                  rw [hlt] at HL0
                  have HC := Lib.hid HC0
                  have HL := Lib.hid HL0
                  have HT := Lib.hid (fun w (h : Sat W w [IsG p G, Cs p7 38 (lstC G), Cs p6 38 (cntC G)]) => (show Calls Try.prog 23 #[.pointer (some ⟨p, 0, none⟩), .int .i64 (1 + (a : Int)), .int .i64 (1 + (b : Int))] w fun e w' => e = .returned (.tuple #[.int .i64 0, .bool false]) ∧ w = w' by
                    have := latest_any h (1 + (a : Int)) (1 + (b : Int)) (fun i h => by rw [hlt] at h; cases h)
                    unfold Gr.latI at this
                    rw [hlt] at this
                    exact this))
                  clear HC0 HL0 hlt
                  go_wp2_with (first
                    | (go_at_call 23; refine (HT.out _ hS).mono ?_; rintro e w1 ⟨rfl, rfl⟩)
                    | (refine toList (by rfl) ?_; refine ld hS _ _ (by rfl) _ _ (by rfl) (agOf (by rfl)) (Has.s (Has.s Has.z)) HC.out ?_)
                    | (refine toList (by rfl) ?_; refine ld hS _ _ (by rfl) _ _ (by rfl) (agOf (by rfl)) (Has.s Has.z) HL.out ?_))
                  exact ⟨⟨b + 1, by go_num, HLB.out, hS⟩, by simp [intOf]; omega⟩
                | some i =>
                  obtain ⟨c, hc⟩ : ∃ c, G.count (1 + (a : Int)) (1 + (b : Int)) = c := ⟨_, rfl⟩
                  have hc0 := (Gr.latest_count hlt).1
                  have hi := HLT.out _ _ _ hlt
                  have hcb := HCB.out (1 + (a : Int)) (1 + (b : Int))
                  rw [hc] at HC0 hc0 hcb
                  rw [hlt] at HL0
                  have HC := Lib.hid HC0
                  have HL := Lib.hid (show (lstC G)[q]? = some (.int .i64 (i : Int)) from HL0)
                  have HT := Lib.hid (fun w (h : Sat W w [IsG p G, Cs p7 38 (lstC G), Cs p6 38 (cntC G)]) => (show Calls Try.prog 23 #[.pointer (some ⟨p, 0, none⟩), .int .i64 (1 + (a : Int)), .int .i64 (1 + (b : Int))] w fun e w' => e = .returned (.tuple #[.int .i64 (i : Int), .bool true]) ∧ w = w' by
                    have := latest_any h (1 + (a : Int)) (1 + (b : Int)) (fun j h => by have := HLT.out _ _ _ h; omega)
                    unfold Gr.latI at this
                    rw [hlt] at this
                    exact this))
                  have c1 : (0 : Int) < (c : Int) := by omega
                  have c2 : decide ((0 : Int) < (c : Int)) = true := decide_eq_true c1
                  clear HC0 HL0 hlt hc hc0 hcb
                  go_wp2_with (first
                    | (go_at_call 23; refine (HT.out _ hS).mono ?_; rintro e w1 ⟨rfl, rfl⟩)
                    | (refine toList (by rfl) ?_; refine ld hS _ _ (by rfl) _ _ (by rfl) (agOf (by rfl)) (Has.s (Has.s Has.z)) HC.out ?_)
                    | (refine toList (by rfl) ?_; refine ld hS _ _ (by rfl) _ _ (by rfl) (agOf (by rfl)) (Has.s Has.z) HL.out ?_))
                  exact ⟨⟨b + 1, by go_num, HLB.out, hS⟩, by simp [intOf]; omega⟩
              · have k2 : decide ((b : Int) < 4) = false := decide_eq_false (by omega)
                clear hl
                go_wp2
                exact ⟨⟨a + 1, by go_num, HLA.out, hS⟩, by simp [intOf]; omega⟩
          · have k1 : decide ((a : Int) < 5) = false := decide_eq_false (by omega)
            clear hl
            go_wp2_with (go_at_call 21; refine (awake_any hS).mono ?_; rintro e w1 ⟨rfl, hS1⟩; clear hS; have hS := hS1; clear hS1)
            go_ret
            exact ⟨rfl, hS.drop.drop.drop⟩
    · have e1 : decide ((i : Int) < (lf : Int)) = false := decide_eq_false (by omega)
      have e1b : decide (i < lf) = false := decide_eq_false hf
      clear hf
      go_wp2
      have H2 := Lib.hid hS
      have HCB := Lib.hid (fun (k o : Int) => (show G.count k o ≤ 60 by have := G.count_le k o; have := HLN.out; omega))
      have HLT := Lib.hid (fun (k o : Int) (i : Nat) (h : G.latest k o = some i) => (show i < 60 by have := (Gr.latest_count h).2; have := HLN.out; omega))
      clear HLN
      go_loopw [15] (fun v wz => ∃ a : Nat, v = .int .i64 a ∧ a ≤ 5 ∧ Sat W wz [IsG p G, Cs p7 38 (lstC G), Cs p6 38 (cntC G)]) (fun v _ => 5 - (intOf v).toNat)
      case atStart => exact ⟨0, rfl, by omega, H2.out⟩
      case round =>
        clear hS H2
        obtain ⟨a, rfl, ha, hS⟩ := hrel
        by_cases hl : a < 5
        · have k1 : (a : Int) < 5 := by omega
          have k1b : decide ((a : Int) < 5) = true := decide_eq_true k1
          have HLA := Lib.hid hl
          clear hl
          go_wp2
          have H3 := Lib.hid hS
          go_loopw [16] (fun v wz => ∃ b : Nat, v = .int .i64 b ∧ b ≤ 4 ∧ Sat W wz [IsG p G, Cs p7 38 (lstC G), Cs p6 38 (cntC G)]) (fun v _ => 4 - (intOf v).toNat)
          case atStart => exact ⟨0, rfl, by omega, H3.out⟩
          case round =>
            clear hS H3
            obtain ⟨b, rfl, hb, hS⟩ := hrel
            by_cases hl : b < 4
            · have k2 : (b : Int) < 4 := by omega
              have k2b : decide ((b : Int) < 4) = true := decide_eq_true k2
              have HLB := Lib.hid hl
              clear hl
              obtain ⟨q, hq⟩ : ∃ q : Nat, 4 * a + b = q := ⟨_, rfl⟩
              have hqi : 4 * (a : Int) + (b : Int) = (q : Int) := by omega
              have hq2 : (q : Int) < 20 := by have := HLA.out; have := HLB.out; omega
              have HC0 := cntC_at G HLA.out HLB.out
              have HL0 := lstC_at G HLA.out HLB.out
              rw [hq] at HC0 HL0
              clear hq
              cases hlt : G.latest (1 + (a : Int)) (1 + (b : Int)) with
              | none =>
                rw [Gr.latest_none hlt] at HC0
                rw [hlt] at HL0
                have HC := Lib.hid HC0
                have HL := Lib.hid HL0
                have HT := Lib.hid (fun w (h : Sat W w [IsG p G, Cs p7 38 (lstC G), Cs p6 38 (cntC G)]) => (show Calls Try.prog 23 #[.pointer (some ⟨p, 0, none⟩), .int .i64 (1 + (a : Int)), .int .i64 (1 + (b : Int))] w fun e w' => e = .returned (.tuple #[.int .i64 0, .bool false]) ∧ w = w' by
                  have := latest_any h (1 + (a : Int)) (1 + (b : Int)) (fun i h => by rw [hlt] at h; cases h)
                  unfold Gr.latI at this
                  rw [hlt] at this
                  exact this))
                clear HC0 HL0 hlt
                go_wp2_with (first
                  | (go_at_call 23; refine (HT.out _ hS).mono ?_; rintro e w1 ⟨rfl, rfl⟩)
                  | (refine toList (by rfl) ?_; refine ld hS _ _ (by rfl) _ _ (by rfl) (agOf (by rfl)) (Has.s (Has.s Has.z)) HC.out ?_)
                  | (refine toList (by rfl) ?_; refine ld hS _ _ (by rfl) _ _ (by rfl) (agOf (by rfl)) (Has.s Has.z) HL.out ?_))
                exact ⟨⟨b + 1, by go_num, HLB.out, hS⟩, by simp [intOf]; omega⟩
              | some i =>
                obtain ⟨c, hc⟩ : ∃ c, G.count (1 + (a : Int)) (1 + (b : Int)) = c := ⟨_, rfl⟩
                have hc0 := (Gr.latest_count hlt).1
                have hi := HLT.out _ _ _ hlt
                have hcb := HCB.out (1 + (a : Int)) (1 + (b : Int))
                rw [hc] at HC0 hc0 hcb
                rw [hlt] at HL0
                have HC := Lib.hid HC0
                have HL := Lib.hid (show (lstC G)[q]? = some (.int .i64 (i : Int)) from HL0)
                have HT := Lib.hid (fun w (h : Sat W w [IsG p G, Cs p7 38 (lstC G), Cs p6 38 (cntC G)]) => (show Calls Try.prog 23 #[.pointer (some ⟨p, 0, none⟩), .int .i64 (1 + (a : Int)), .int .i64 (1 + (b : Int))] w fun e w' => e = .returned (.tuple #[.int .i64 (i : Int), .bool true]) ∧ w = w' by
                  have := latest_any h (1 + (a : Int)) (1 + (b : Int)) (fun j h => by have := HLT.out _ _ _ h; omega)
                  unfold Gr.latI at this
                  rw [hlt] at this
                  exact this))
                have c1 : (0 : Int) < (c : Int) := by omega
                have c2 : decide ((0 : Int) < (c : Int)) = true := decide_eq_true c1
                clear HC0 HL0 hlt hc hc0 hcb
                go_wp2_with (first
                  | (go_at_call 23; refine (HT.out _ hS).mono ?_; rintro e w1 ⟨rfl, rfl⟩)
                  | (refine toList (by rfl) ?_; refine ld hS _ _ (by rfl) _ _ (by rfl) (agOf (by rfl)) (Has.s (Has.s Has.z)) HC.out ?_)
                  | (refine toList (by rfl) ?_; refine ld hS _ _ (by rfl) _ _ (by rfl) (agOf (by rfl)) (Has.s Has.z) HL.out ?_))
                exact ⟨⟨b + 1, by go_num, HLB.out, hS⟩, by simp [intOf]; omega⟩
            · have k2 : decide ((b : Int) < 4) = false := decide_eq_false (by omega)
              clear hl
              go_wp2
              exact ⟨⟨a + 1, by go_num, HLA.out, hS⟩, by simp [intOf]; omega⟩
        · have k1 : decide ((a : Int) < 5) = false := decide_eq_false (by omega)
          clear hl
          go_wp2_with (go_at_call 21; refine (awake_any hS).mono ?_; rintro e w1 ⟨rfl, hS1⟩; clear hS; have hS := hS1; clear hS1)
          go_ret
          exact ⟨rfl, hS.drop.drop.drop⟩

set_option maxRecDepth 100000 in
theorem Vers.contract (H : Type) (enc : TypeId × Value → H) (W : World) (base : Nat) (args : Array Value) (ds gs : List (DataW H)) (before : List MemPlace)
    (hval : ∀ (j : Nat) t v, Try.f4.params[j]? = some t → args[j]? = some v → Value.okWide Try.prog W .any base t v)
    (hW : DataW.Whole enc Try.prog Try.f4.params.toList Rows.graphVersionsSpec.vars false W args.toList ds gs before)
    (hreach : (DataW.weightsEach Try.prog (Try.f4.params.toList ++ Rows.graphVersionsSpec.plain.varTypes Try.prog) (ds ++ gs)).all (· ≤ reachBytes) = true) :
    Calls Try.prog 4 args W fun e W' => ∃ v, e = .returned v ∧ Rows.graphVersionsSpec.post enc Try.prog Try.f4 false true false false W args v W' := by
  have hW' := hW
  obtain ⟨p, q, hA, hV, rfl, hfz, hnd⟩ := hW
  rw [Try.params4] at hA hval hreach
  obtain ⟨v1, vs1, d1, ds1, p1, q1, hargs, rfl, rfl, h1, r1⟩ := trodAll_cons hA
  obtain ⟨v2, vs2, d2, ds2, p2, q2, rfl, rfl, rfl, h2, r2⟩ := trodAll_cons r1
  obtain ⟨rfl, rfl, rfl⟩ := trodAll_nil r2
  obtain rfl : args = #[v1, v2] := by cases args; simp_all
  obtain ⟨rfl, rfl⟩ := trodVars_none hV
  obtain ⟨ao1, l1, c1, rfl⟩ := okWide_slice Try.underlying34 (hval 0 34 v1 rfl rfl)
  obtain ⟨ao2, l2, c2, rfl⟩ := okWide_slice Try.underlying34 (hval 1 34 v2 rfl rfl)
  obtain ⟨fl, hfl, hrf, _⟩ := open_ints h1
  obtain ⟨tl, htl, hrt, _⟩ := open_ints h2
  refine (Vers.walk fl tl W hfl htl hrf hrt).mono ?_
  refine fun e W' ⟨he, hS⟩ => ?_
  subst he
  exact ⟨_, rfl, law_post (tb := 4) (by kernel_rfl) (by kernel_rfl) rfl Try.underlying4 rfl hW' rfl hS⟩

theorem Vers.own : ownKnob Try.prog.godebug = none := by kernel_rfl
set_option maxRecDepth 100000 in
theorem Vers.lifted (os : Os) (started : os.Started) (H : Type) (enc : TypeId × Value → H) :
    ReturnsInHanded {} Try.checked os 4 .any (Rows.graphVersionsSpec.pre6 enc Try.prog Try.f4 Rows.graphVersionsRow.domain false) (Rows.graphVersionsSpec.post enc Try.prog Try.f4 false true false false) := by
  refine returnsInHanded_of_change_shaped (C := Try.checked) Vers.own started (by kernel_rfl) Try.func4
    (ChangeSpec.witness6 (enc := enc) (C := Try.checked) false ⟨#[], #[.slice none 0 0, .slice none 0 0], []⟩ 8 (by kernel_rfl) (by kernel_rfl) (by kernel_rfl) (by kernel_rfl)) ?_
  intro W base args ds gs before hval hW _ hreach _ _
  exact Vers.contract H enc W base args ds gs before hval hW hreach

theorem Vers.holds : Rows.GraphVersionsSaid :=
  OpenClaim.holds_of_wide 4 Try.f4 rfl rfl rfl rfl rfl rfl rfl ⟨rfl, rfl, rfl, rfl, rfl⟩ rfl rfl rfl rfl rfl (by kernel_rfl) Try.func4 (by kernel_rfl)
    (of_decide_eq_true (by kernel_rfl)) (by unfold Func.isWrapper; first | (rw [if_pos (by decide +kernel)]; kernel_rfl) | (rw [if_neg (by decide +kernel)]; exact ⟨rfl, rfl⟩))
    (fun os started H enc _ => Vers.lifted os started H enc)
end Go.Proofs.Ytfbphibgcolmbaa
