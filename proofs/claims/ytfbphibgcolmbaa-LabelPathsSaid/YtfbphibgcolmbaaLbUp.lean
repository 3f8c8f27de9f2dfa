/-
  Going up to a mark: what pedigreelaw16.up does.
-/
import Derived.Test.YtfbphibgcolmbaaLbUpP
namespace Go.Proofs.Ytfbphibgcolmbaa
open Go.RowKit Go.Sep
set_option linter.unusedSimpArgs false
set_option linter.unusedVariables false
attribute [local irreducible] Go.Oper.wp Go.wpList Go.Calls Go.Code.wp Go.Sep.Reg
set_option maxRecDepth 20000 in
set_option maxHeartbeats 4000000 in
theorem up_any {W : World} {p b : Nat} {G : Gr} (hG : G.Ok) {s : Nat} (hs : s < 8) (hN : G.N.length ≤ 200) : ∀ (f : Nat) (L : List Asrt) (S : Nat → Bool) (n : Nat) (w : World), fls S 200 < f → n < G.N.length → Sat W w (IsG p G :: Cs b 70 (bl S 200) :: L) →
    Calls Try.prog 43 #[.pointer (some ⟨p, 0, none⟩), .int .i64 (n : Int), .int .i64 (s : Int), .pointer (some ⟨b, 0, none⟩)] w fun e w' => ∃ v, e = .returned v ∧ UpQ W w' p b G s S n L v := by
  intro f
  induction f with
  | zero => intro L S n w h; exact absurd h (Nat.not_lt_zero _)
  | succ f ih =>
    intro L S n w hf hn hS
    have IH := Lib.hid ih
    clear ih
    obtain ⟨⟨x1, x2, x3, x4, x5, x6⟩, hx⟩ : ∃ x, G.N[n]? = some x := ⟨_, List.getElem?_eq_getElem hn⟩
    have hmk := hG.marks _ (List.mem_of_getElem? hx)
    dsimp only at hmk
    have hand5 := and_one x5 s hmk.2
    have hand4 := and_one x4 s hmk.1
    have HX := Lib.hid hx
    have HNODE := Lib.hid (fun w (L : List Asrt) (h : Sat W w (IsG p G :: L)) => (show Calls Try.prog 22 #[.pointer (some ⟨p, 0, none⟩), .int .i64 (n : Int)] w fun e w' =>
        e = .returned (.tuple #[.agg #[.int .i64 x1, .int .i64 x2, .int .i64 (x3 : Int), .int .i64 (x4 : Int), .int .i64 (x5 : Int), .bool x6], .bool true]) ∧ Sat W w' (IsG p G :: L) by
      have := node_any h (n : Int)
      rw [Gr.is_mk hn, Gr.nodeI_at hx] at this
      exact this))
    obtain ⟨us, hus⟩ : ∃ us, G.ups n = us := ⟨_, rfl⟩
    have hul : us.length ≤ 4096 := by rw [← hus]; have := G.ups_len n; omega
    have HLOW := Lib.hid (show ∀ u ∈ us, u < G.N.length by intro u hu; rw [← hus] at hu; exact (Gr.mem_ups.1 hu).1)
    have HUPS := Lib.hid (fun w (L : List Asrt) (h : Sat W w (IsG p G :: L)) => (show Calls Try.prog 20 #[.pointer (some ⟨p, 0, none⟩), .int .i64 (n : Int)] w fun e w' => ∃ v, e = .returned v ∧ Sat W w' (Ir v us :: IsG p G :: L) by
      have := ups_any h (n : Int) (by omega)
      rw [Gr.upsI_nat hn, hus] at this
      exact this))
    have HUS := Lib.hid hus
    have n1 : (n : Int) < 200 := by omega
    have n2 : ¬ (n : Int) < 0 := by omega
    have n3 : decide ((n : Int) < 0) = false := decide_eq_false n2
    have n4 : ¬ (200 : Int) ≤ (n : Int) := by omega
    have n5 : decide ((200 : Int) ≤ (n : Int)) = false := decide_eq_false n4
    have hs8 : (s : Int) < 8 := by omega
    have HN2 := Lib.hid (show n < 200 by omega)
    have HFS := Lib.hid hf
    have hb := bl_at (S := S) HN2.out
    clear hx hmk hus hn hf hN hG
    cases hsn : S n
    · rw [hsn] at hb
      have HB := Lib.hid hb
      have HSN := Lib.hid hsn
      clear hb hsn
      cases h5 : x5.testBit s
      · rw [h5, if_neg (by decide)] at hand5
        have H5 := Lib.hid h5
        clear h5
        cases h4 : x4.testBit s
        · rw [h4, if_neg (by decide)] at hand4
          have H4 := Lib.hid h4
          clear h4
          go_enter Try.func43, Try.ntmps43
          go_wp2_with (first
            | (go_at_call 22; refine (HNODE.out _ _ hS).mono ?_; rintro e w1 ⟨rfl, hS1⟩; clear hS; have hS := hS1; clear hS1)
            | (refine toList (by rfl) ?_; refine al hS _ (by rfl) (zrOf (by rfl)) ?_; intro px w1 hS1; clear hS; have hS := hS1; clear hS1; rw [cells_agg] at hS)
            | (refine toList (by rfl) ?_; refine stW hS _ _ _ (by rfl) (by rfl) [.int .i64 x1, .int .i64 x2, .int .i64 (x3 : Int), .int .i64 (x4 : Int), .int .i64 (x5 : Int), .bool x6] (by rfl) (by simp [Value.oneCell']) (szOf (by rfl)) Has.z rfl ?_; intro w1 hS1; clear hS; have hS := hS1; clear hS1; dsimp only [List.set_cons_zero] at hS)
            | (refine toList (by rfl) ?_; refine ld hS _ _ (by rfl) _ _ (by rfl) (agOf (by rfl)) (Has.s (Has.s Has.z)) HB.out ?_)
            | (refine toList (by rfl) ?_; refine ld hS _ _ (by rfl) _ _ (by rfl) (agOf (by rfl)) Has.z (by rfl) ?_)
            | (refine toList (by rfl) ?_; refine st hS _ _ _ (by rfl) _ _ (by rfl) _ (by first | exact evC | exact evT (by rfl)) (by rfl) (szOf (by rfl)) (Has.s (Has.s Has.z)) (by rw [bl_len]; exact HN2.out) ?_; intro w1 hS1; clear hS; have hS := hS1; clear hS1; dsimp only [List.set_cons_zero, List.set_cons_succ] at hS; rw [bl_putS HN2.out] at hS)
            | (go_at_call 20; refine (HUPS.out _ _ (hS.re [1])).mono ?_; rintro e w1 ⟨vu, rfl, hS1⟩; clear hS; have hS := hS1; clear hS1; obtain ⟨au, cu, rfl, _⟩ := hS.irShape (k := 0) rfl))
          have H0 := Lib.hid hS
          have HJ0 := Lib.hid (UpJ.start G s S n)
          go_loopw [12] (fun v wz => ∃ (i : Nat) (S' : Nat → Bool), v = .int .i64 i ∧ i ≤ us.length ∧ UpJ G s S n i S' ∧ Sat W wz (Ir (.slice au us.length cu) us :: IsG p G :: Cs px 40 [.int .i64 x1, .int .i64 x2, .int .i64 (x3 : Int), .int .i64 (x4 : Int), .int .i64 (x5 : Int), .bool x6] :: Cs b 70 (bl S' 200) :: L)) (fun v _ => us.length - (intOf v).toNat)
          case atStart => exact ⟨0, _, rfl, by omega, HJ0.out, H0.out⟩
          case round =>
            clear hS H0 HJ0
            obtain ⟨i, S', rfl, hi, hJ, hS⟩ := hrel
            have HJ := Lib.hid hJ
            clear hJ
            by_cases hl : i < us.length
            · have i1 : (i : Int) < (us.length : Int) := by omega
              obtain ⟨u, hu⟩ : ∃ u, us[i]? = some u := ⟨_, List.getElem?_eq_getElem hl⟩
              have HU := Lib.hid hu
              have HUL := Lib.hid (HLOW.out u (List.mem_of_getElem? hu))
              have HUU := Lib.hid (show (G.ups n)[i]? = some u by rw [HUS.out]; exact hu)
              have HL := Lib.hid hl
              have HFL := Lib.hid (show fls S' 200 < f by
                have h1 := fls_mono HJ.out.more 200
                have h2 := fls_putS HN2.out HSN.out
                have h3 := HFS.out
                omega)
              obtain ⟨b6, o6, rfl⟩ := hS.irAddr (k := 0) rfl rfl (by omega)
              clear hu hl
              go_wp2_with (first
                | (refine toList (by rfl) ?_; refine ldSl hS _ _ (by rfl) _ _ (by rfl) (agOf (by rfl)) Has.z i (by have := HL.out; omega) (iv_at HU.out) ?_)
                | (go_at_call 43; refine (IH.out _ _ _ _ HFL.out HUL.out (hS.re [1, 3])).mono ?_; rintro e w1 ⟨_, rfl, r, S2, rfl, hU, hS1⟩; clear hS; have hS := hS1; clear hS1))
              · rename_i hr
                subst hr
                go_ret
                exact ⟨_, rfl, true, S2, rfl, HJ.out.found HX.out H5.out HUU.out hU, (hS.re [2, 3]).drop.drop⟩
              · rename_i hr
                subst hr
                exact ⟨⟨i + 1, S2, by go_num, HL.out, HJ.out.next HUU.out hU, hS.re [2, 0, 3, 1]⟩, by simp [intOf]; have := HL.out; omega⟩
            · have i1 : ¬ (i : Int) < (us.length : Int) := by omega
              have HE := Lib.hid (show (G.ups n).length ≤ i by rw [HUS.out]; omega)
              clear hl
              go_wp2
              go_ret
              exact ⟨_, rfl, false, S', rfl, HJ.out.none HE.out HX.out H4.out, (hS.re [0, 2]).drop.drop⟩
        · rw [h4, if_pos rfl] at hand4
          have H4 := Lib.hid h4
          clear h4
          go_enter Try.func43, Try.ntmps43
          go_wp2_with (first
            | (go_at_call 22; refine (HNODE.out _ _ hS).mono ?_; rintro e w1 ⟨rfl, hS1⟩; clear hS; have hS := hS1; clear hS1)
            | (refine toList (by rfl) ?_; refine al hS _ (by rfl) (zrOf (by rfl)) ?_; intro px w1 hS1; clear hS; have hS := hS1; clear hS1; rw [cells_agg] at hS)
            | (refine toList (by rfl) ?_; refine stW hS _ _ _ (by rfl) (by rfl) [.int .i64 x1, .int .i64 x2, .int .i64 (x3 : Int), .int .i64 (x4 : Int), .int .i64 (x5 : Int), .bool x6] (by rfl) (by simp [Value.oneCell']) (szOf (by rfl)) Has.z rfl ?_; intro w1 hS1; clear hS; have hS := hS1; clear hS1; dsimp only [List.set_cons_zero] at hS)
            | (refine toList (by rfl) ?_; refine ld hS _ _ (by rfl) _ _ (by rfl) (agOf (by rfl)) (Has.s (Has.s Has.z)) HB.out ?_)
            | (refine toList (by rfl) ?_; refine ld hS _ _ (by rfl) _ _ (by rfl) (agOf (by rfl)) Has.z (by rfl) ?_)
            | (refine toList (by rfl) ?_; refine st hS _ _ _ (by rfl) _ _ (by rfl) _ (by first | exact evC | exact evT (by rfl)) (by rfl) (szOf (by rfl)) (Has.s (Has.s Has.z)) (by rw [bl_len]; exact HN2.out) ?_; intro w1 hS1; clear hS; have hS := hS1; clear hS1; dsimp only [List.set_cons_zero, List.set_cons_succ] at hS; rw [bl_putS HN2.out] at hS))
          go_ret
          exact ⟨_, rfl, true, _, rfl, UpR.marked HX.out H4.out H5.out, hS.drop⟩
      · rw [h5, if_pos rfl] at hand5
        have HBK := Lib.hid (show G.blk s n = true by rw [Gr.blk_at HX.out]; exact h5)
        clear h5
        go_enter Try.func43, Try.ntmps43
        go_wp2_with (first
          | (go_at_call 22; refine (HNODE.out _ _ hS).mono ?_; rintro e w1 ⟨rfl, hS1⟩; clear hS; have hS := hS1; clear hS1)
          | (refine toList (by rfl) ?_; refine al hS _ (by rfl) (zrOf (by rfl)) ?_; intro px w1 hS1; clear hS; have hS := hS1; clear hS1; rw [cells_agg] at hS)
          | (refine toList (by rfl) ?_; refine stW hS _ _ _ (by rfl) (by rfl) [.int .i64 x1, .int .i64 x2, .int .i64 (x3 : Int), .int .i64 (x4 : Int), .int .i64 (x5 : Int), .bool x6] (by rfl) (by simp [Value.oneCell']) (szOf (by rfl)) Has.z rfl ?_; intro w1 hS1; clear hS; have hS := hS1; clear hS1; dsimp only [List.set_cons_zero] at hS)
          | (refine toList (by rfl) ?_; refine ld hS _ _ (by rfl) _ _ (by rfl) (agOf (by rfl)) (Has.s (Has.s Has.z)) HB.out ?_)
          | (refine toList (by rfl) ?_; refine ld hS _ _ (by rfl) _ _ (by rfl) (agOf (by rfl)) Has.z (by rfl) ?_)
          | (refine toList (by rfl) ?_; refine st hS _ _ _ (by rfl) _ _ (by rfl) _ (by first | exact evC | exact evT (by rfl)) (by rfl) (szOf (by rfl)) (Has.s (Has.s Has.z)) (by rw [bl_len]; exact HN2.out) ?_; intro w1 hS1; clear hS; have hS := hS1; clear hS1; dsimp only [List.set_cons_zero, List.set_cons_succ] at hS; rw [bl_putS HN2.out] at hS))
        go_ret
        exact ⟨_, rfl, false, S, rfl, UpR.blocked HBK.out, hS.drop⟩
    · rw [hsn] at hb
      have HB := Lib.hid hb
      have HSN := Lib.hid hsn
      clear hb hsn
      go_enter Try.func43, Try.ntmps43
      go_wp2_with (first
        | (go_at_call 22; refine (HNODE.out _ _ hS).mono ?_; rintro e w1 ⟨rfl, hS1⟩; clear hS; have hS := hS1; clear hS1)
        | (refine toList (by rfl) ?_; refine al hS _ (by rfl) (zrOf (by rfl)) ?_; intro px w1 hS1; clear hS; have hS := hS1; clear hS1; rw [cells_agg] at hS)
        | (refine toList (by rfl) ?_; refine stW hS _ _ _ (by rfl) (by rfl) [.int .i64 x1, .int .i64 x2, .int .i64 (x3 : Int), .int .i64 (x4 : Int), .int .i64 (x5 : Int), .bool x6] (by rfl) (by simp [Value.oneCell']) (szOf (by rfl)) Has.z rfl ?_; intro w1 hS1; clear hS; have hS := hS1; clear hS1; dsimp only [List.set_cons_zero] at hS)
        | (refine toList (by rfl) ?_; refine ld hS _ _ (by rfl) _ _ (by rfl) (agOf (by rfl)) (Has.s (Has.s Has.z)) HB.out ?_)
        | (refine toList (by rfl) ?_; refine ld hS _ _ (by rfl) _ _ (by rfl) (agOf (by rfl)) Has.z (by rfl) ?_)
        | (refine toList (by rfl) ?_; refine st hS _ _ _ (by rfl) _ _ (by rfl) _ (by first | exact evC | exact evT (by rfl)) (by rfl) (szOf (by rfl)) (Has.s (Has.s Has.z)) (by rw [bl_len]; exact HN2.out) ?_; intro w1 hS1; clear hS; have hS := hS1; clear hS1; dsimp only [List.set_cons_zero, List.set_cons_succ] at hS; rw [bl_putS HN2.out] at hS))
      go_ret
      exact ⟨_, rfl, false, S, rfl, UpR.seen HSN.out, hS.drop⟩
end Go.Proofs.Ytfbphibgcolmbaa
