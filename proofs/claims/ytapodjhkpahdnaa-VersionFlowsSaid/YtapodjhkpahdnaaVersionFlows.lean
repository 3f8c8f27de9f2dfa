/-
  For all scripts and every two numbers, VersionFlows answers true: no condition.
-/
import Derived.Test.YtapodjhkpahdnaaVsFlowS
namespace Go.Proofs.Ytapodjhkpahdnaa
open Go.RowKit Go.Sep Go.ChangeShapes Go.WideShapes Go.ChangeAt
set_option linter.unusedSimpArgs false
set_option linter.unusedVariables false
attribute [local irreducible] Go.Oper.wp Go.wpList Go.Calls Go.Code.wp Go.Sep.Reg
attribute [local irreducible] IsG IsK IsQ IsR St Ir
set_option maxRecDepth 20000 in
set_option maxHeartbeats 4000000 in
theorem Flows.long (l : List RecD) (ao : Option Addr) (c : Nat) (fa fb : Int) (W : World) (h50 : 50 < l.length) (hr : Rd W (.slice ao l.length c) l.length 3 (l.flatMap rv)) :
    Calls Try.prog 7 #[.slice ao l.length c, .int .i64 fa, .int .i64 fb] W fun e w' => e = .returned (.bool true) ∧ Sat W w' [] := by
  have hS := Sat.start W
  have HR : Hid (∀ u (L : List Asrt), Sat W u L → Rd u (.slice ao l.length c) l.length 3 (l.flatMap rv)) := Lib.hid (fun u L h => hr.old h)
  obtain ⟨_, _, he, hc1, hc2, _, h5⟩ := hr
  simp only [Value.slice.injEq, true_and] at he
  obtain ⟨rfl, rfl⟩ := he
  have H5 := Lib.hid h5
  clear h5
  go_enter Try.func7, Try.ntmps7
  go_wp2_with (first
    | (go_at_call 8; refine (knew_any hS).mono ?_; rintro e w1 ⟨p, rfl, g, hS1⟩; clear hS; have hS := hS1; clear hS1)
    | (go_at_call 28; refine (qnew_any hS).mono ?_; rintro e w1 ⟨q, h, rfl, hS1⟩; clear hS; have hS := hS1; clear hS1; replace hS := hS.re [2, 3]))
  have H0 := Lib.hid hS
  go_loopw [9] (fun v wz => ∃ (i : Nat) (K : KD), v = .int .i64 i ∧ i ≤ l.length ∧ i ≤ 50 ∧ K.Ok (3 * i) ∧ Sat W wz [IsK p g K, IsG g K.G, IsQ q h K, IsR h K.G]) (fun v _ => 50 - (intOf v).toNat)
  case atStart => exact ⟨0, KD.new, rfl, by omega, by omega, KD.new_ok, H0.out⟩
  case round =>
    clear hS H0
    obtain ⟨i, K, rfl, hi, hi5, hok, hS⟩ := hrel
    have HOK := Lib.hid hok
    clear hok
    by_cases hgo : i < l.length ∧ i < 50
    · obtain ⟨hlt, hl5⟩ := hgo
      obtain ⟨bb, off, rfl, _⟩ := H5.out (by omega)
      obtain ⟨⟨xk, xa, xb⟩, hx⟩ : ∃ x, l[i]? = some x := ⟨_, List.getElem?_eq_getElem hlt⟩
      have j1 : (i : Int) < (l.length : Int) := by omega
      have j2 : (i : Int) < 50 := by omega
      have HX := Lib.hid hx
      have HLT := Lib.hid hlt
      have HL5 := Lib.hid hl5
      have HDO := Lib.hid (fun w (L : List Asrt) (h2 : Sat W w (IsK p g K :: IsG g K.G :: IsQ q h K :: IsR h K.G :: L)) => do_any h2 HOK.out (by omega) ⟨xk, xa, xb⟩)
      have HOK2 := Lib.hid ((HOK.out.step (by omega) ⟨xk, xa, xb⟩).mono (show 3 * i + 3 ≤ 3 * (i + 1) by omega))
      obtain ⟨K2, hK2⟩ : ∃ K2, K.step ⟨xk, xa, xb⟩ = K2 := ⟨_, rfl⟩
      rw [hK2] at HDO HOK2
      clear hx hlt hl5 hK2 hi hi5
      go_wp2_with (first
        | (refine toList (by rfl) ?_; refine wp_of_reads (rLdRdA (f := rv) (x := ⟨xk, xa, xb⟩) (HR.out _ _ hS) (rv_len l) _ _ (by rfl) _ (by rfl) (agOf (by rfl)) (szOf (by rfl)) i (by omega) HX.out (by omega)) ?_)
        | (go_at_call 29; refine (HDO.out _ _ hS).mono ?_; rintro e w1 ⟨rfl, hS1⟩; clear hS; have hS := hS1; clear hS1))
      exact ⟨⟨i + 1, K2, by go_num, HLT.out, HL5.out, HOK2.out, hS⟩, by simp [intOf]; have := HL5.out; omega⟩
    have hi50 : i ≤ 50 := hi5
    have hcase : (¬ (i : Int) < (l.length : Int)) ∨ ((i : Int) < (l.length : Int) ∧ ¬ (i : Int) < 50) := by omega
    have hok3 := HOK.out.mono (show 3 * i ≤ 3 * 50 by omega)
    clear HOK hi hi5
    have HOK := Lib.hid hok3
    clear hok3
    obtain ⟨N, hN⟩ : ∃ N, K.G.N.length = N := ⟨_, rfl⟩
    have HL := Lib.hid (fun w (L : List Asrt) (h2 : Sat W w (IsG g K.G :: L)) => len_any h2 (n := (N : Int)) (by rw [hN]))
    have hN4 : N ≤ 150 := by rw [← hN]; exact HOK.out.l
    have hN4i : (N : Int) ≤ 150 := by omega
    have HN := Lib.hid hN
    clear hgo hN
    by_cases h2 : N < 2
    · have f2 : (N : Int) < 2 := by omega
      clear h2
      have k1 : (i : Int) < (l.length : Int) := by omega
      have k2 : ¬ (i : Int) < 50 := by omega
      all_goals
        go_wp2_with (first
          | (go_at_call 11; refine (kgraph_any hS).mono ?_; rintro e w1 ⟨rfl, rfl⟩)
          | (go_at_call 12; refine (HL.out _ _ (hS.re [1])).mono ?_; rintro e w1 ⟨rfl, rfl⟩)
          | (go_at_call 16; refine (awake_any hS).mono ?_; rintro e w1 ⟨rfl, hS1⟩; clear hS; have hS := hS1; clear hS1))
        go_ret
        exact ⟨rfl, hS.map fun _ _ => trivial⟩
    · have f2 : ¬ (N : Int) < 2 := by omega
      obtain ⟨a, ha⟩ := Int.eq_ofNat_of_zero_le (Int.emod_nonneg fa (b := (N : Int)) (by omega))
      obtain ⟨b, hb⟩ := Int.eq_ofNat_of_zero_le (Int.emod_nonneg fb (b := (N : Int)) (by omega))
      have haN : a < N := by have := Int.emod_lt_of_pos fa (b := (N : Int)) (by omega); omega
      have hbN : b < N := by have := Int.emod_lt_of_pos fb (b := (N : Int)) (by omega); omega
      have HPA := Lib.hid (fun w => (show Calls Try.prog 10 #[.int .i64 fa, .int .i64 (N : Int)] w fun e w' => e = .returned (.int .i64 (a : Int)) ∧ w = w' by have := place_any fa (N : Int) (by omega) (by omega) w; rw [ha] at this; exact this))
      have HPB := Lib.hid (fun w => (show Calls Try.prog 10 #[.int .i64 fb, .int .i64 (N : Int)] w fun e w' => e = .returned (.int .i64 (b : Int)) ∧ w = w' by have := place_any fb (N : Int) (by omega) (by omega) w; rw [hb] at this; exact this))
      clear ha hb h2
      obtain ⟨H3⟩ : Nonempty (Hid (∀ w, Sat W w [IsK p g K, IsG g K.G, IsQ q h K, IsR h K.G] → Sat W w [Tb 35 1 one1 (.slice none 0 0) [], St (List.zipWith Ir [] ((List.range 0).map K.G.ups)), IsK p g K, IsG g K.G, IsQ q h K, IsR h K.G])) := ⟨Lib.hid (fun w hw => hw.stNil.tbNil)⟩
      have k1 : (i : Int) < (l.length : Int) := by omega
      have k2 : ¬ (i : Int) < 50 := by omega
      all_goals
        go_wp2_with (first
          | (go_at_call 11; refine (kgraph_any hS).mono ?_; rintro e w1 ⟨rfl, rfl⟩)
          | (go_at_call 12; refine (HL.out _ _ (hS.re [1])).mono ?_; rintro e w1 ⟨rfl, rfl⟩)
          | (go_at_call 10; refine (HPA.out _).mono ?_; rintro e w1 ⟨rfl, rfl⟩)
          | (go_at_call 10; refine (HPB.out _).mono ?_; rintro e w1 ⟨rfl, rfl⟩))
        have H0 := Lib.hid (H3.out _ hS)
        clear HPA HPB H3 HL k1 k2 hcase hi50
        go_loopw [14, 15] (fun v14 v15 wz => ∃ (i : Nat) (vs : List Value), v15 = .int .i64 i ∧ i ≤ N ∧ vs.length = i ∧ Sat W wz [Tb 35 1 one1 v14 vs, St (List.zipWith Ir vs ((List.range i).map K.G.ups)), IsK p g K, IsG g K.G, IsQ q h K, IsR h K.G]) (fun _ v _ => N - (intOf v).toNat)
        case atStart => exact ⟨0, [], rfl, by omega, rfl, H0.out⟩
        case round =>
          clear hS H0
          obtain ⟨i, vs, rfl, hi, hvl, hS⟩ := hrel
          have HVL := Lib.hid hvl
          obtain ⟨av, cv0, rfl, hcv⟩ := hS.tbShape (k := 0) rfl
          by_cases hl : i < N
          · have k1 : (i : Int) < (N : Int) := by omega
            have HLT := Lib.hid hl
            have HU := Lib.hid (fun w (L : List Asrt) (h2 : Sat W w (IsG g K.G :: L)) => by have := ups_any h2 (i : Int) (by have := HN.out; omega); rw [Gr.upsI_nat (by have := HN.out; omega)] at this; exact this)
            have hvl2 : vs.length < 4096 := by omega
            clear hl hvl hi
            go_wp2_with (first
              | (go_at_call 27; refine (HU.out _ _ (hS.re [3])).mono ?_; rintro e w1 ⟨vu, rfl, hS1⟩; clear hS; have hS := hS1; clear hS1; obtain ⟨au, cu, rfl, _⟩ := hS.irShape (k := 0) rfl)
              | (refine toList (by rfl) ?_; refine bsF hS _ _ _ (by rfl) (elOf (by rfl)) [.slice au _ cu] (by rfl) (by rfl) (by decide) (by decide) (by intro v hv; rw [List.mem_singleton.1 hv]; rfl) ?_; intro b1 w1 hS1; clear hS; have hS := (show Sat W w1 (Cs b1 _ [.slice au _ cu] :: _) from hS1); clear hS1)
              | (refine toList (by rfl) ?_; refine apTbS (f := one1) hS _ _ _ _ (by rfl) _ _ (by rfl) (by rfl) (elOf (by rfl)) (by rfl) (by decide) (inOf (by rfl)) (Has.s (Has.s (Has.s Has.z))) [.slice au _ cu] (by exact one1_len _) (by exact hS.src1 (f := one1) Has.z rfl) (by intro u hu; rw [one1_src _ u hu]; rfl) (by simp; omega) (by simp; omega) ?_; intro ao5 c5 w1 hcap5 hS1; clear hS; have hS := hS1; clear hS1; dsimp only [List.set_cons_zero, List.set_cons_succ] at hS))
            exact ⟨⟨i + 1, vs ++ [.slice au (K.G.ups i).length cu], by go_num, HLT.out, by rw [List.length_append, HVL.out]; rfl, by
              have h9 := hS.drop
              have h8 := Sat.stSnoc (h9.re [0, 3])
              rw [List.length_append] at h8
              rw [range_snoc, zipWith_snoc Ir (by rw [HVL.out]; simp)]
              exact h8.re [2, 0, 3, 1]⟩, by simp [intOf]; have := HLT.out; omega⟩
          · obtain rfl : N = i := by omega
            have k1 : ¬ (N : Int) < (N : Int) := by omega
            rw [show (List.range N).map K.G.ups = K.G.upsL by rw [← HN.out]; rfl] at hS
            obtain ⟨⟨y1, y2, y3, y4, y5, y6⟩, hy⟩ : ∃ x, K.G.nodeI (b : Int) = x := ⟨_, rfl⟩
            obtain ⟨bd, hbd⟩ : ∃ bd, decide (0 < (K.G.downsI (b : Int)).length) = bd := ⟨_, rfl⟩
            have HB := Lib.hid (fun w (L : List Asrt) (h2 : Sat W w (IsG g K.G :: L)) => by have := node_any h2 (b : Int); rw [hy] at this; exact this)
            have HC := Lib.hid (fun w (L : List Asrt) (h2 : Sat W w (IsG g K.G :: L)) => closed_any h2 (b : Int) hbd)
            obtain ⟨la, hla⟩ : ∃ la, K.G.lab a = la := ⟨_, rfl⟩
            obtain ⟨lb, hlb⟩ : ∃ lb, K.G.lab b = lb := ⟨_, rfl⟩
            have HLA := Lib.hid (fun w (L : List Asrt) (h2 : Sat W w (IsK p g K :: IsG g K.G :: L)) => by have := klabel_any h2 HOK.out (a : Int); rw [Gr.labI_nat (by have := HN.out; omega), hla] at this; exact this)
            have HLB := Lib.hid (fun w (L : List Asrt) (h2 : Sat W w (IsK p g K :: IsG g K.G :: L)) => by have := klabel_any h2 HOK.out (b : Int); rw [Gr.labI_nat (by have := HN.out; omega), hlb] at this; exact this)
            have hla8 : la < 256 := by rw [← hla]; exact K.G.lab_lt _
            have hlb8 : lb < 256 := by rw [← hlb]; exact K.G.lab_lt _
            have hor := or_256' la lb hla8 hlb8
            have HLO := Lib.hid (show la ||| lb < 256 from Nat.or_lt_two_pow (n := 8) hla8 hlb8)
            have HLAB := Lib.hid (And.intro hla hlb)
            have HEN := Lib.hid (show K.ends (b : Int) = (bd || decide (y5 ≠ 0)) by unfold KD.ends; rw [hbd, hy])
            clear hy hbd hla hlb hla8 hlb8 hvl hi hl hcv
            go_wp2_with (first
              | (go_at_call 14; refine (HB.out _ _ (hS.re [3])).mono ?_; rintro e w1 ⟨rfl, hS1⟩; clear hS; have hS := hS1; clear hS1; replace hS := hS.re [1, 2, 3, 0])
              | (refine toList (by rfl) ?_; refine al hS _ (by rfl) (zrOf (by rfl)) ?_; intro px w1 hS1; clear hS; have hS := hS1; clear hS1; rw [cells_agg] at hS)
              | (refine toList (by rfl) ?_; refine stW hS _ _ _ (by rfl) (by rfl) (nv ⟨y1, y2, y3, y4, y5, y6⟩) (by rfl) (nv_all _) (szOf (by rfl)) Has.z rfl ?_; intro w1 hS1; clear hS; have hS := hS1; clear hS1; dsimp only [List.set_cons_zero] at hS))
            replace hS := (show Sat W _ [IsK p g K, IsG g K.G, Tb 35 1 one1 (.slice av vs.length cv0) vs, St (List.zipWith Ir vs K.G.upsL), Cs px 32 (nv ⟨y1, y2, y3, y4, y5, y6⟩), IsQ q h K, IsR h K.G] from hS.re [3, 4, 1, 2, 0])
            by_cases hab : a = b
            · subst hab
              obtain ⟨e1, e2, e3⟩ := flow_eq K (a : Int)
              have HF := Lib.hid (fun w (L : List Asrt) (h2 : Sat W w (IsK p g K :: IsG g K.G :: L)) => by have := kflow_any h2 HOK.out (by decide) (a : Int) (a : Int); rw [e1, e2, e3] at this; exact this)
              have HLN := Lib.hid (fun w (L : List Asrt) (h2 : Sat W w (IsG g K.G :: L)) => len_any h2 (n := (N : Int)) (by rw [HN.out]))
              have HRE := 0
              clear e1 e2 e3 HEN
              cases bd
              · by_cases h5 : y5 = 0
                · subst h5
                  go_wp2_with (first
                    | (go_at_call 32; refine (HC.out _ _ (hS.re [1])).mono ?_; rintro e w1 ⟨rfl, rfl⟩)
                    | (refine toList (by rfl) ?_; refine ld hS _ _ (by rfl) _ _ (by rfl) (agOf (by rfl)) (by first | exact Has.z | exact Has.s Has.z | exact Has.s (Has.s Has.z) | exact Has.s (Has.s (Has.s Has.z)) | exact Has.s (Has.s (Has.s (Has.s Has.z))) | exact Has.s (Has.s (Has.s (Has.s (Has.s Has.z))))) (by rfl) ?_)
                    | (go_at_call 33; refine (HLA.out _ _ hS).mono ?_; rintro e w1 ⟨rfl, hS1⟩; clear hS; have hS := hS1; clear hS1)
                    | (go_at_call 33; refine (HLB.out _ _ hS).mono ?_; rintro e w1 ⟨rfl, hS1⟩; clear hS; have hS := hS1; clear hS1)
                    | (go_at_call 13; refine (HF.out _ _ hS).mono ?_; rintro e w1 ⟨rfl, hS1⟩; clear hS; have hS := hS1; clear hS1)
                    | (go_at_call 34; refine (HRE.out _ _ (hS.re [1])).mono ?_; rintro e w1 ⟨rfl, hS1⟩; clear hS; have hS := hS1; clear hS1; replace hS := hS.pull1)
                    | (go_at_call 12; refine (HLN.out _ _ (hS.re [1])).mono ?_; rintro e w1 ⟨rfl, rfl⟩)
                    | (go_at_call 16; refine (awake_any hS).mono ?_; rintro e w1 ⟨rfl, hS1⟩; clear hS; have hS := hS1; clear hS1))
                  go_ret
                  exact ⟨by simp, hS.map fun _ _ => trivial⟩
                · have e1 : ((y5 : Int) != 0) = true := by simp; omega
                  clear h5
                  go_wp2_with (first
                    | (go_at_call 32; refine (HC.out _ _ (hS.re [1])).mono ?_; rintro e w1 ⟨rfl, rfl⟩)
                    | (refine toList (by rfl) ?_; refine ld hS _ _ (by rfl) _ _ (by rfl) (agOf (by rfl)) (by first | exact Has.z | exact Has.s Has.z | exact Has.s (Has.s Has.z) | exact Has.s (Has.s (Has.s Has.z)) | exact Has.s (Has.s (Has.s (Has.s Has.z))) | exact Has.s (Has.s (Has.s (Has.s (Has.s Has.z))))) (by rfl) ?_)
                    | (go_at_call 33; refine (HLA.out _ _ hS).mono ?_; rintro e w1 ⟨rfl, hS1⟩; clear hS; have hS := hS1; clear hS1)
                    | (go_at_call 33; refine (HLB.out _ _ hS).mono ?_; rintro e w1 ⟨rfl, hS1⟩; clear hS; have hS := hS1; clear hS1)
                    | (go_at_call 13; refine (HF.out _ _ hS).mono ?_; rintro e w1 ⟨rfl, hS1⟩; clear hS; have hS := hS1; clear hS1)
                    | (go_at_call 34; refine (HRE.out _ _ (hS.re [1])).mono ?_; rintro e w1 ⟨rfl, hS1⟩; clear hS; have hS := hS1; clear hS1; replace hS := hS.pull1)
                    | (go_at_call 12; refine (HLN.out _ _ (hS.re [1])).mono ?_; rintro e w1 ⟨rfl, rfl⟩)
                    | (go_at_call 16; refine (awake_any hS).mono ?_; rintro e w1 ⟨rfl, hS1⟩; clear hS; have hS := hS1; clear hS1))
                  go_ret
                  exact ⟨by simp, hS.map fun _ _ => trivial⟩
              · go_wp2_with (first
                | (go_at_call 32; refine (HC.out _ _ (hS.re [1])).mono ?_; rintro e w1 ⟨rfl, rfl⟩)
                | (refine toList (by rfl) ?_; refine ld hS _ _ (by rfl) _ _ (by rfl) (agOf (by rfl)) (by first | exact Has.z | exact Has.s Has.z | exact Has.s (Has.s Has.z) | exact Has.s (Has.s (Has.s Has.z)) | exact Has.s (Has.s (Has.s (Has.s Has.z))) | exact Has.s (Has.s (Has.s (Has.s (Has.s Has.z))))) (by rfl) ?_)
                | (go_at_call 33; refine (HLA.out _ _ hS).mono ?_; rintro e w1 ⟨rfl, hS1⟩; clear hS; have hS := hS1; clear hS1)
                | (go_at_call 33; refine (HLB.out _ _ hS).mono ?_; rintro e w1 ⟨rfl, hS1⟩; clear hS; have hS := hS1; clear hS1)
                | (go_at_call 13; refine (HF.out _ _ hS).mono ?_; rintro e w1 ⟨rfl, hS1⟩; clear hS; have hS := hS1; clear hS1)
                | (go_at_call 34; refine (HRE.out _ _ (hS.re [1])).mono ?_; rintro e w1 ⟨rfl, hS1⟩; clear hS; have hS := hS1; clear hS1; replace hS := hS.pull1)
                | (go_at_call 12; refine (HLN.out _ _ (hS.re [1])).mono ?_; rintro e w1 ⟨rfl, rfl⟩)
                | (go_at_call 16; refine (awake_any hS).mono ?_; rintro e w1 ⟨rfl, hS1⟩; clear hS; have hS := hS1; clear hS1))
                go_ret
                exact ⟨by simp, hS.map fun _ _ => trivial⟩
            · have e1 : ((a : Int) == (b : Int)) = false := beq_eq_false_iff_ne.2 (by omega)
              have hOK2 := HOK.out.flow (by decide) (a : Int) (b : Int)
              by_cases he : K.ends (b : Int) = true
              · obtain ⟨g1, g2, _, _⟩ := KD.flow_ends HOK.out (by rw [HN.out]; exact haN) (by rw [HN.out]; exact hbN) hab (by rw [HN.out]; omega) he
                have hfr := flowR_ends HOK.out (by rw [HN.out]; exact haN) (by rw [HN.out]; exact hbN) hab (by rw [HN.out]; omega) he
                have HF := Lib.hid (fun w (L : List Asrt) (h2 : Sat W w (IsK p g K :: IsG g K.G :: L)) => by have := kflow_any h2 HOK.out (by decide) (a : Int) (b : Int); rw [g1, g2, HN.out] at this; exact this)
                obtain ⟨K2, hK2⟩ : ∃ K2, K.flow (a : Int) (b : Int) = K2 := ⟨_, rfl⟩
                rw [hK2] at HF hfr hOK2
                rw [HN.out] at hfr
                have HR := Lib.hid hfr
                have HOK2 := Lib.hid hOK2
                have HLN := Lib.hid (fun w (L : List Asrt) (h2 : Sat W w (IsG g K2.G :: L)) => len_any h2 (n := (N : Int) + 1) (by rw [HR.out.2]; omega))
                have HRE := Lib.hid (fun w (L : List Asrt) (h2 : Sat W w (IsG g K2.G :: L)) => by have := reaches_any h2 HOK2.out.g (N : Int) (a : Int); rw [Gr.reaches_true HR.out.1.lt (by rw [HR.out.2]; omega) HR.out.1.reach] at this; exact this)
                have hend := HEN.out
                rw [he] at hend
                have hn2 : K2.G.N.length ≤ 4096 := by rw [HR.out.2]; omega
                have f3 : ((N : Int) == (N : Int)) = true := by simp
                have f4 : (((N : Int) + 1) != ((N : Int) + 1)) = false := by simp
                clear g1 g2 hfr hOK2 he HEN hK2 hab
                cases bd
                · have h5 : y5 ≠ 0 := by intro e; subst e; simp at hend
                  have e5 : ((y5 : Int) != 0) = true := by simp; omega
                  clear h5 hend
                  go_wp2_with (first
                    | (go_at_call 32; refine (HC.out _ _ (hS.re [1])).mono ?_; rintro e w1 ⟨rfl, rfl⟩)
                    | (refine toList (by rfl) ?_; refine ld hS _ _ (by rfl) _ _ (by rfl) (agOf (by rfl)) (by first | exact Has.z | exact Has.s Has.z | exact Has.s (Has.s Has.z) | exact Has.s (Has.s (Has.s Has.z)) | exact Has.s (Has.s (Has.s (Has.s Has.z))) | exact Has.s (Has.s (Has.s (Has.s (Has.s Has.z))))) (by rfl) ?_)
                    | (go_at_call 33; refine (HLA.out _ _ hS).mono ?_; rintro e w1 ⟨rfl, hS1⟩; clear hS; have hS := hS1; clear hS1)
                    | (go_at_call 33; refine (HLB.out _ _ hS).mono ?_; rintro e w1 ⟨rfl, hS1⟩; clear hS; have hS := hS1; clear hS1)
                    | (go_at_call 13; refine (HF.out _ _ hS).mono ?_; rintro e w1 ⟨rfl, hS1⟩; clear hS; have hS := hS1; clear hS1)
                    | (go_at_call 34; refine (HRE.out _ _ (hS.re [1])).mono ?_; rintro e w1 ⟨rfl, hS1⟩; clear hS; have hS := hS1; clear hS1; replace hS := hS.pull1)
                    | (go_at_call 12; refine (HLN.out _ _ (hS.re [1])).mono ?_; rintro e w1 ⟨rfl, rfl⟩)
                    | (go_at_call 16; refine (awake_any hS).mono ?_; rintro e w1 ⟨rfl, hS1⟩; clear hS; have hS := hS1; clear hS1))
                  have H4 : Hid (Sat W _ [Tb 35 1 one1 (.slice av vs.length cv0) vs, St (List.zipWith Ir vs K.G.upsL), IsK p g K2, IsG g K2.G]) := Lib.hid ((hS.re [4, 5, 6]).drop.drop.drop.re [2, 3])
                  go_loopw [22] (fun v wz => ∃ i : Nat, v = .int .i64 i ∧ i ≤ N ∧ Sat W wz [Tb 35 1 one1 (.slice av vs.length cv0) vs, St (List.zipWith Ir vs K.G.upsL), IsK p g K2, IsG g K2.G]) (fun v _ => N - (intOf v).toNat)
                  case atStart => exact ⟨0, rfl, by omega, H4.out⟩
                  case round =>
                    clear hS H4
                    obtain ⟨i, rfl, hiN, hS⟩ := hrel
                    by_cases hl : i < N
                    · have k1 : (i : Int) < (N : Int) := by omega
                      have HLT := Lib.hid hl
                      have HU2 := Lib.hid (fun w (L : List Asrt) (h2 : Sat W w (IsG g K2.G :: L)) => ups_any h2 (i : Int) (by omega))
                      by_cases hic : i = N
                      · have f1 : ((i : Int) != (N : Int)) = false := by rw [hic]; simp
                        clear hl hic
                        go_wp2
                        refine regStart [11] hS (by kernel_rfl) rfl ?_
                        intro w1 hS1
                        clear hS; have hS := hS1; clear hS1
                        (refine regP 0 hS (fun _ h => h) rfl (by kernel_rfl) (by kernel_rfl) (by kernel_rfl) (fun _ _ _ _ h => h) (by rfl) (by rfl) ?_; apply Exists.intro; apply And.intro; (intro w; go_simp; try with_reducible rfl); (simp only [Act.put, List.setIfInBounds_toArray, List.set_cons_zero, List.set_cons_succ]))
                        (refine regP 1 hS (fun _ h => h) rfl (by kernel_rfl) (by kernel_rfl) (by kernel_rfl) (fun _ _ _ _ h => h) (by rfl) (by rfl) ?_; apply Exists.intro; apply And.intro; (intro w; go_simp; try with_reducible rfl); (simp only [Act.put, List.setIfInBounds_toArray, List.set_cons_zero, List.set_cons_succ]))
                        (refine regP 2 hS (fun _ h => h) rfl (by kernel_rfl) (by kernel_rfl) (by kernel_rfl) (fun _ _ _ _ h => h) (by rfl) (by rfl) ?_; apply Exists.intro; apply And.intro; (intro w; go_simp; try with_reducible rfl); (simp only [Act.put, List.setIfInBounds_toArray, List.set_cons_zero, List.set_cons_succ]))
                        (refine regP 3 hS (fun _ h => h) rfl (by kernel_rfl) (by kernel_rfl) (by kernel_rfl) (fun _ _ _ _ h => h) (by rfl) (by rfl) ?_; apply Exists.intro; apply And.intro; (intro w; go_simp; try with_reducible rfl); (simp only [Act.put, List.setIfInBounds_toArray, List.set_cons_zero, List.set_cons_succ]))
                        (first | (refine regP 4 hS (fun _ h => h) rfl (by kernel_rfl) (by kernel_rfl) (by kernel_rfl) (fun _ _ _ _ h => h) (by rfl) (by rfl) ?_; apply Exists.intro; apply And.intro; (intro w; go_simp; try with_reducible rfl); (simp only [Act.put, List.setIfInBounds_toArray, List.set_cons_zero, List.set_cons_succ])) | (refine regN 4 hS (fun _ h => h) rfl (by kernel_rfl) (by kernel_rfl) (by kernel_rfl) (fun _ _ _ h => h) (by rfl) (by rfl) ?_; (simp only [Act.put, List.setIfInBounds_toArray, List.set_cons_zero, List.set_cons_succ])))
                        (first | (refine regP 5 hS (fun _ h => h) rfl (by kernel_rfl) (by kernel_rfl) (by kernel_rfl) (fun _ _ _ _ h => h) (by rfl) (by rfl) ?_; apply Exists.intro; apply And.intro; (intro w; go_simp; try with_reducible rfl); (simp only [Act.put, List.setIfInBounds_toArray, List.set_cons_zero, List.set_cons_succ])) | (refine regN 5 hS (fun _ h => h) rfl (by kernel_rfl) (by kernel_rfl) (by kernel_rfl) (fun _ _ _ h => h) (by rfl) (by rfl) ?_; (simp only [Act.put, List.setIfInBounds_toArray, List.set_cons_zero, List.set_cons_succ])))
                        (first | (refine regP 7 hS (fun _ h => h) rfl (by kernel_rfl) (by kernel_rfl) (by kernel_rfl) (fun _ _ _ _ h => h) (by rfl) (by rfl) ?_; apply Exists.intro; apply And.intro; (intro w; go_simp; try with_reducible rfl); (simp only [Act.put, List.setIfInBounds_toArray, List.set_cons_zero, List.set_cons_succ])) | (refine regN 7 hS (fun _ h => h) rfl (by kernel_rfl) (by kernel_rfl) (by kernel_rfl) (fun _ _ _ h => h) (by rfl) (by rfl) ?_; (simp only [Act.put, List.setIfInBounds_toArray, List.set_cons_zero, List.set_cons_succ])))
                        (first | (refine regP 8 hS (fun _ h => h) rfl (by kernel_rfl) (by kernel_rfl) (by kernel_rfl) (fun _ _ _ _ h => h) (by rfl) (by rfl) ?_; apply Exists.intro; apply And.intro; (intro w; go_simp; try with_reducible rfl); (simp only [Act.put, List.setIfInBounds_toArray, List.set_cons_zero, List.set_cons_succ])) | (refine regN 8 hS (fun _ h => h) rfl (by kernel_rfl) (by kernel_rfl) (by kernel_rfl) (fun _ _ _ h => h) (by rfl) (by rfl) ?_; (simp only [Act.put, List.setIfInBounds_toArray, List.set_cons_zero, List.set_cons_succ])))
                        (first | (refine regP 9 hS (fun _ h => h) rfl (by kernel_rfl) (by kernel_rfl) (by kernel_rfl) (fun _ _ _ _ h => h) (by rfl) (by rfl) ?_; apply Exists.intro; apply And.intro; (intro w; go_simp; try with_reducible rfl); (simp only [Act.put, List.setIfInBounds_toArray, List.set_cons_zero, List.set_cons_succ])) | (refine regN 9 hS (fun _ h => h) rfl (by kernel_rfl) (by kernel_rfl) (by kernel_rfl) (fun _ _ _ h => h) (by rfl) (by rfl) ?_; (simp only [Act.put, List.setIfInBounds_toArray, List.set_cons_zero, List.set_cons_succ])))
                        (first | (refine regR 10 hS (fun _ h => h) rfl (by kernel_rfl) (by kernel_rfl) (by kernel_rfl) (by kernel_rfl) (by kernel_rfl) (fun _ _ _ _ h => h) (by rfl) (by rfl) ?_; (fail); (simp only [Act.put, List.setIfInBounds_toArray, List.set_cons_zero, List.set_cons_succ])) | (refine regN 10 hS (fun _ h => h) rfl (by kernel_rfl) (by kernel_rfl) (by kernel_rfl) (fun _ _ _ h => h) (by rfl) (by rfl) ?_; (simp only [Act.put, List.setIfInBounds_toArray, List.set_cons_zero, List.set_cons_succ])))
                        (first | (refine regA 6 rfl (by kernel_rfl) (by rfl) (by rfl) false (by kernel_rfl) (fun K hK => ?_); (skip); refine hK _ _ _ hS (by first | (intro h; cases h; done) | exact fun _ _ h => h | exact fun _ _ h => h.drop | exact fun _ _ h => h.drop.drop | exact fun _ _ h => h.drop.pull1 | exact fun _ _ h => h.take2 | exact fun _ _ h => h.one Has.z | exact fun _ _ h => h.one (Has.s Has.z) | exact fun _ _ h => h.one (Has.s (Has.s Has.z))) ?_; clear hK K; (simp only [Act.put, List.setIfInBounds_toArray, List.set_cons_zero, List.set_cons_succ])) | (refine regN 6 hS (fun _ h => h) rfl (by kernel_rfl) (by kernel_rfl) (by kernel_rfl) (fun _ _ _ h => h) (by rfl) (by rfl) ?_; (simp only [Act.put, List.setIfInBounds_toArray, List.set_cons_zero, List.set_cons_succ])))
                        (first | (refine regA 11 rfl (by kernel_rfl) (by rfl) (by rfl) true (by kernel_rfl) (fun K hK => ?_); (skip); refine hK _ _ _ hS (by first | (intro h; cases h; done) | exact fun _ _ h => h | exact fun _ _ h => h.drop | exact fun _ _ h => h.drop.drop | exact fun _ _ h => h.drop.pull1 | exact fun _ _ h => h.take2 | exact fun _ _ h => h.one Has.z | exact fun _ _ h => h.one (Has.s Has.z) | exact fun _ _ h => h.one (Has.s (Has.s Has.z))) ?_; clear hK K; (simp only [Act.put, List.setIfInBounds_toArray, List.set_cons_zero, List.set_cons_succ])) | (refine regN 11 hS (fun _ h => h) rfl (by kernel_rfl) (by kernel_rfl) (by kernel_rfl) (fun _ _ _ h => h) (by rfl) (by rfl) ?_; (simp only [Act.put, List.setIfInBounds_toArray, List.set_cons_zero, List.set_cons_succ])))
                        (first | (refine regP 12 hS (fun _ h => h) rfl (by kernel_rfl) (by kernel_rfl) (by kernel_rfl) (fun _ _ _ _ h => h) (by rfl) (by rfl) ?_; apply Exists.intro; apply And.intro; (intro w; go_simp; try with_reducible rfl); (simp only [Act.put, List.setIfInBounds_toArray, List.set_cons_zero, List.set_cons_succ])) | (refine regN 12 hS (fun _ h => h) rfl (by kernel_rfl) (by kernel_rfl) (by kernel_rfl) (fun _ _ _ h => h) (by rfl) (by rfl) ?_; (simp only [Act.put, List.setIfInBounds_toArray, List.set_cons_zero, List.set_cons_succ])))
                        (refine regP 13 hS (fun _ h => h) rfl (by kernel_rfl) (by kernel_rfl) (by kernel_rfl) (fun _ _ _ _ h => h) (by rfl) (by rfl) ?_; apply Exists.intro; apply And.intro; (intro w; go_simp; try with_reducible rfl); (simp only [Act.put, List.setIfInBounds_toArray, List.set_cons_zero, List.set_cons_succ]))
                        refine regDone (by kernel_rfl) ?_
                        go_wp2
                        exact ⟨⟨i + 1, by go_num, HLT.out, hS⟩, by simp [intOf]; have := HLT.out; omega⟩
                      · have f1 : ((i : Int) != (N : Int)) = true := by simp; omega
                        have f1b : ((i : Int) == (N : Int)) = false := beq_eq_false_iff_ne.2 (by omega)
                        have f1c : (i == N) = false := beq_eq_false_iff_ne.2 hic
                        have f1d : (i != N) = true := by simp; omega
                        have f1e : ¬ i = N := hic
                        have HUE := Lib.hid (show K2.G.upsI (i : Int) = K.G.ups i by rw [Gr.upsI_nat (by have := HR.out.2; omega)]; exact HR.out.1.ups i (by rw [HN.out]; exact hl) hic)
                        rw [HUE.out] at HU2
                        obtain ⟨u, hu⟩ : ∃ u, K.G.ups i = u := ⟨_, rfl⟩
                        have hul : u.length ≤ 4096 := by rw [← hu]; have := Gr.ups_len K.G i; have := HN.out; omega
                        have hx : K.G.upsL[i]? = some u := by rw [← hu]; exact Gr.upsL_at (by rw [HN.out]; exact hl)
                        rw [hu] at HU2
                        obtain ⟨vx, hvx⟩ : ∃ vx, vs[i]? = some vx := ⟨_, List.getElem?_eq_getElem (by have := HVL.out; omega)⟩
                        obtain ⟨L', hrow⟩ := hS.stRow (k := 1) rfl hvx hx
                        obtain ⟨ao2, c2, rfl, _⟩ := hrow.irShape (k := 0) rfl
                        obtain ⟨bv0, ov0, cv1, hav, _⟩ := hS.tbAddr (k := 0) rfl (by rw [HVL.out]; omega)
                        simp only [Value.slice.injEq, true_and] at hav
                        obtain ⟨rfl, rfl⟩ := hav
                        have HX := Lib.hid hx
                        have HVX := Lib.hid hvx
                        have k2 : (i : Int) < (vs.length : Int) := by have := HVL.out; omega
                        clear hl hic HUE hu hx hvx hrow L'
                        go_wp2
                        refine regStart2 [11] hS (fun _ h => h.one Has.z) (by kernel_rfl) rfl ?_
                        intro w1 hS1
                        clear hS; have hS := hS1; clear hS1
                        (refine regP 0 hS (fun _ h => h.one Has.z) rfl (by kernel_rfl) (by kernel_rfl) (by kernel_rfl) (fun _ _ _ _ h => h) (by rfl) (by rfl) ?_; apply Exists.intro; apply And.intro; (intro w; go_simp; try with_reducible rfl); (simp only [Act.put, List.setIfInBounds_toArray, List.set_cons_zero, List.set_cons_succ]))
                        (refine regP 1 hS (fun _ h => h.one Has.z) rfl (by kernel_rfl) (by kernel_rfl) (by kernel_rfl) (fun _ _ _ _ h => h) (by rfl) (by rfl) ?_; apply Exists.intro; apply And.intro; (intro w; go_simp; try with_reducible rfl); (simp only [Act.put, List.setIfInBounds_toArray, List.set_cons_zero, List.set_cons_succ]))
                        (refine regP 2 hS (fun _ h => h.one Has.z) rfl (by kernel_rfl) (by kernel_rfl) (by kernel_rfl) (fun _ _ _ _ h => h) (by rfl) (by rfl) ?_; apply Exists.intro; apply And.intro; (intro w; go_simp; try with_reducible rfl); (simp only [Act.put, List.setIfInBounds_toArray, List.set_cons_zero, List.set_cons_succ]))
                        (refine regP 3 hS (fun _ h => h.one Has.z) rfl (by kernel_rfl) (by kernel_rfl) (by kernel_rfl) (fun _ _ _ _ h => h) (by rfl) (by rfl) ?_; apply Exists.intro; apply And.intro; (intro w; go_simp; try with_reducible rfl); (simp only [Act.put, List.setIfInBounds_toArray, List.set_cons_zero, List.set_cons_succ]))
                        (first | (refine regP 4 hS (fun _ h => h.one Has.z) rfl (by kernel_rfl) (by kernel_rfl) (by kernel_rfl) (fun _ _ _ _ h => h) (by rfl) (by rfl) ?_; apply Exists.intro; apply And.intro; (intro w; go_simp; try with_reducible rfl); (simp only [Act.put, List.setIfInBounds_toArray, List.set_cons_zero, List.set_cons_succ])) | (refine regN 4 hS (fun _ h => h.one Has.z) rfl (by kernel_rfl) (by kernel_rfl) (by kernel_rfl) (fun _ _ _ h => h) (by rfl) (by rfl) ?_; (simp only [Act.put, List.setIfInBounds_toArray, List.set_cons_zero, List.set_cons_succ])))
                        (first | (refine regP 5 hS (fun _ h => h.one Has.z) rfl (by kernel_rfl) (by kernel_rfl) (by kernel_rfl) (fun _ _ _ _ h => h) (by rfl) (by rfl) ?_; apply Exists.intro; apply And.intro; (intro w; go_simp; try with_reducible rfl); (simp only [Act.put, List.setIfInBounds_toArray, List.set_cons_zero, List.set_cons_succ])) | (refine regN 5 hS (fun _ h => h.one Has.z) rfl (by kernel_rfl) (by kernel_rfl) (by kernel_rfl) (fun _ _ _ h => h) (by rfl) (by rfl) ?_; (simp only [Act.put, List.setIfInBounds_toArray, List.set_cons_zero, List.set_cons_succ])))
                        (first | (refine regP 7 hS (fun _ h => h.one Has.z) rfl (by kernel_rfl) (by kernel_rfl) (by kernel_rfl) (fun _ _ _ _ h => h) (by rfl) (by rfl) ?_; apply Exists.intro; apply And.intro; (intro w; go_simp; try with_reducible rfl); (simp only [Act.put, List.setIfInBounds_toArray, List.set_cons_zero, List.set_cons_succ])) | (refine regN 7 hS (fun _ h => h.one Has.z) rfl (by kernel_rfl) (by kernel_rfl) (by kernel_rfl) (fun _ _ _ h => h) (by rfl) (by rfl) ?_; (simp only [Act.put, List.setIfInBounds_toArray, List.set_cons_zero, List.set_cons_succ])))
                        (first | (refine regP 8 hS (fun _ h => h.one Has.z) rfl (by kernel_rfl) (by kernel_rfl) (by kernel_rfl) (fun _ _ _ _ h => h) (by rfl) (by rfl) ?_; apply Exists.intro; apply And.intro; (intro w; go_simp; try with_reducible rfl); (simp only [Act.put, List.setIfInBounds_toArray, List.set_cons_zero, List.set_cons_succ])) | (refine regN 8 hS (fun _ h => h.one Has.z) rfl (by kernel_rfl) (by kernel_rfl) (by kernel_rfl) (fun _ _ _ h => h) (by rfl) (by rfl) ?_; (simp only [Act.put, List.setIfInBounds_toArray, List.set_cons_zero, List.set_cons_succ])))
                        (first | (refine regP 9 hS (fun _ h => h.one Has.z) rfl (by kernel_rfl) (by kernel_rfl) (by kernel_rfl) (fun _ _ _ _ h => h) (by rfl) (by rfl) ?_; apply Exists.intro; apply And.intro; (intro w; go_simp; try with_reducible rfl); (simp only [Act.put, List.setIfInBounds_toArray, List.set_cons_zero, List.set_cons_succ])) | (refine regN 9 hS (fun _ h => h.one Has.z) rfl (by kernel_rfl) (by kernel_rfl) (by kernel_rfl) (fun _ _ _ h => h) (by rfl) (by rfl) ?_; (simp only [Act.put, List.setIfInBounds_toArray, List.set_cons_zero, List.set_cons_succ])))
                        (first | (refine regR 10 hS (fun _ h => h.one Has.z) rfl (by kernel_rfl) (by kernel_rfl) (by kernel_rfl) (by kernel_rfl) (by kernel_rfl) (fun _ _ _ _ h => h) (by rfl) (by rfl) ?_; (first
                                                                          | refine ⟨_, yLdTb (f := one1) (x := .slice ao2 u.length c2) _ _ (by rfl) _ _ (by rfl) (agOf (by rfl)) Has.z i 0 (by omega) HVX.out (by rfl), ?_⟩); (simp only [Act.put, List.setIfInBounds_toArray, List.set_cons_zero, List.set_cons_succ])) | (refine regN 10 hS (fun _ h => h.one Has.z) rfl (by kernel_rfl) (by kernel_rfl) (by kernel_rfl) (fun _ _ _ h => h) (by rfl) (by rfl) ?_; (simp only [Act.put, List.setIfInBounds_toArray, List.set_cons_zero, List.set_cons_succ])))
                        (first | (refine regA 6 rfl (by kernel_rfl) (by rfl) (by rfl) false (by kernel_rfl) (fun K hK => ?_); (first
                                                                          | (refine Go.Sep.cl 27 _ _ (by rfl) (by rfl) (by kernel_rfl) (HU2.out _ _ (hS.re [3])) ?_; rintro e w1 ⟨vu, rfl, hS1⟩; clear hS; have hS := hS1; clear hS1; obtain ⟨au, cu, rfl, _⟩ := hS.irShape (k := 0) rfl; replace hS := hS.re [2, 3, 4, 1, 0]; refine ⟨_, rfl, ?_⟩)
                                                                          | (refine Go.Sep.cl 26 _ _ (by rfl) (by rfl) (by kernel_rfl) (same_any hS u _ _ _ _ (fun w h => h.irRd (k := 4) rfl) (fun w h => by obtain ⟨L', h2⟩ := h.stRow (k := 1) rfl HVX.out HX.out; exact h2.irRd (k := 0) rfl) (by omega)) ?_; rintro e w1 ⟨rfl, hS1⟩; clear hS; have hS := hS1; clear hS1; refine ⟨_, rfl, ?_⟩)); refine hK _ _ _ (hS.upTo (fun _ h => by first | exact h.one Has.z | exact h.one (Has.s Has.z) | exact h.one (Has.s (Has.s Has.z)) | exact h.one (Has.s (Has.s (Has.s Has.z))) | exact h | exact h.drop | exact h.drop.drop | exact h.drop.drop.drop | exact h.drop.drop.drop.drop)) (fun _ _ h => h) ?_; clear hK K; (simp only [Act.put, List.setIfInBounds_toArray, List.set_cons_zero, List.set_cons_succ])) | (refine regN 6 hS (fun _ h => h.one Has.z) rfl (by kernel_rfl) (by kernel_rfl) (by kernel_rfl) (fun _ _ _ h => h) (by rfl) (by rfl) ?_; (simp only [Act.put, List.setIfInBounds_toArray, List.set_cons_zero, List.set_cons_succ])))
                        (first | (refine regA 11 rfl (by kernel_rfl) (by rfl) (by rfl) true (by kernel_rfl) (fun K hK => ?_); (first
                                                                          | (refine Go.Sep.cl 27 _ _ (by rfl) (by rfl) (by kernel_rfl) (HU2.out _ _ (hS.re [3])) ?_; rintro e w1 ⟨vu, rfl, hS1⟩; clear hS; have hS := hS1; clear hS1; obtain ⟨au, cu, rfl, _⟩ := hS.irShape (k := 0) rfl; replace hS := hS.re [2, 3, 4, 1, 0]; refine ⟨_, rfl, ?_⟩)
                                                                          | (refine Go.Sep.cl 26 _ _ (by rfl) (by rfl) (by kernel_rfl) (same_any hS u _ _ _ _ (fun w h => h.irRd (k := 4) rfl) (fun w h => by obtain ⟨L', h2⟩ := h.stRow (k := 1) rfl HVX.out HX.out; exact h2.irRd (k := 0) rfl) (by omega)) ?_; rintro e w1 ⟨rfl, hS1⟩; clear hS; have hS := hS1; clear hS1; refine ⟨_, rfl, ?_⟩)); refine hK _ _ _ hS (by first | (intro h; cases h; done) | exact fun _ _ h => h | exact fun _ _ h => h.drop | exact fun _ _ h => h.drop.drop | exact fun _ _ h => h.drop.pull1 | exact fun _ _ h => h.take2 | exact fun _ _ h => h.one Has.z | exact fun _ _ h => h.one (Has.s Has.z) | exact fun _ _ h => h.one (Has.s (Has.s Has.z))) ?_; clear hK K; (simp only [Act.put, List.setIfInBounds_toArray, List.set_cons_zero, List.set_cons_succ])) | (refine regN 11 hS (fun _ h => by first | exact h.one Has.z | exact h.one (Has.s Has.z) | exact h.one (Has.s (Has.s Has.z)) | exact h.one (Has.s (Has.s (Has.s Has.z))) | exact h | exact h.drop | exact h.drop.drop | exact h.drop.drop.drop | exact h.drop.drop.drop.drop) rfl (by kernel_rfl) (by kernel_rfl) (by kernel_rfl) (fun _ _ _ h => h) (by rfl) (by rfl) ?_; (simp only [Act.put, List.setIfInBounds_toArray, List.set_cons_zero, List.set_cons_succ])))
                        (first | (refine regP 12 hS (fun _ h => h) rfl (by kernel_rfl) (by kernel_rfl) (by kernel_rfl) (fun _ _ _ _ h => h) (by rfl) (by rfl) ?_; apply Exists.intro; apply And.intro; (intro w; go_simp; try with_reducible rfl); (simp only [Act.put, List.setIfInBounds_toArray, List.set_cons_zero, List.set_cons_succ])) | (refine regN 12 hS (fun _ h => h) rfl (by kernel_rfl) (by kernel_rfl) (by kernel_rfl) (fun _ _ _ h => h) (by rfl) (by rfl) ?_; (simp only [Act.put, List.setIfInBounds_toArray, List.set_cons_zero, List.set_cons_succ])))
                        (refine regP 13 hS (fun _ h => h) rfl (by kernel_rfl) (by kernel_rfl) (by kernel_rfl) (fun _ _ _ _ h => h) (by rfl) (by rfl) ?_; apply Exists.intro; apply And.intro; (intro w; go_simp; try with_reducible rfl); (simp only [Act.put, List.setIfInBounds_toArray, List.set_cons_zero, List.set_cons_succ]))
                        refine regDone (by kernel_rfl) ?_
                        go_wp2
                        exact ⟨⟨i + 1, by go_num, HLT.out, (hS.re [4]).drop⟩, by simp [intOf]; have := HLT.out; omega⟩
                    · have k1 : ¬ (i : Int) < (N : Int) := by omega
                      obtain ⟨⟨z1, z2, z3, z4, z5, z6⟩, hz⟩ : ∃ x, K2.G.nodeI (N : Int) = x := ⟨_, rfl⟩
                      obtain ⟨⟨t1, t2, t3, t4, t5, t6⟩, ht⟩ : ∃ x, K2.G.nodeI (b : Int) = x := ⟨_, rfl⟩
                      obtain ⟨rfl, rfl⟩ : t1 = z1 ∧ t2 = z2 := ⟨(congrArg NodeD.kind ht).symm.trans (HR.out.1.kind.1.trans (congrArg NodeD.kind hz)), (congrArg NodeD.obj ht).symm.trans (HR.out.1.kind.2.trans (congrArg NodeD.obj hz))⟩
                      have HB2 := Lib.hid (fun w (L : List Asrt) (h2 : Sat W w (IsG g K2.G :: L)) => by have := node_any h2 (b : Int); rw [ht] at this; exact this)
                      have HC2 := Lib.hid (fun w (L : List Asrt) (h2 : Sat W w (IsG g K2.G :: L)) => by have := node_any h2 (N : Int); rw [hz] at this; exact this)
                      have hand := andn_256 (K2.G.lab N) (la ||| lb) (K2.G.lab_lt _) HLO.out
                      have hz0 : andn (K2.G.lab N) (la ||| lb) = 0 := by rw [← HLAB.out.1, ← HLAB.out.2]; exact HR.out.1.lab
                      rw [hz0] at hand
                      have HLC := Lib.hid (fun w (L : List Asrt) (h2 : Sat W w (IsK p g K2 :: IsG g K2.G :: L)) => by have := klabel_any h2 HOK2.out (N : Int); rw [Gr.labI_nat HR.out.1.lt] at this; exact this)
                      obtain ⟨lc, hlc⟩ : ∃ lc, K2.G.lab N = lc := ⟨_, rfl⟩
                      rw [hlc] at HLC hand
                      clear hl hz ht hz0 hlc
                      replace hS := (hS.re [2, 3]).take2
                      go_wp2_with (first
                        | (go_at_call 14; refine (HB2.out _ _ (hS.re [1])).mono ?_; rintro e w1 ⟨rfl, hS1⟩; clear hS; have hS := hS1; clear hS1; replace hS := hS.re [1, 0])
                        | (refine toList (by rfl) ?_; refine al hS _ (by rfl) (zrOf (by rfl)) ?_; intro px w1 hS1; clear hS; have hS := hS1; clear hS1; rw [cells_agg] at hS)
                        | (refine toList (by rfl) ?_; refine stW hS _ _ _ (by rfl) (by rfl) (nv ⟨t1, t2, t3, t4, t5, t6⟩) (by rfl) (nv_all _) (szOf (by rfl)) Has.z rfl ?_; intro w1 hS1; clear hS; have hS := hS1; clear hS1; dsimp only [List.set_cons_zero] at hS))
                      replace hS := (show Sat W _ [IsK p g K2, IsG g K2.G, Cs px 32 (nv ⟨t1, t2, t3, t4, t5, t6⟩)] from hS.re [1, 2, 0])
                      go_wp2_with (first
                        | (go_at_call 14; refine (HC2.out _ _ (hS.re [1])).mono ?_; rintro e w1 ⟨rfl, hS1⟩; clear hS; have hS := hS1; clear hS1; replace hS := hS.re [1, 0])
                        | (refine toList (by rfl) ?_; refine al hS _ (by rfl) (zrOf (by rfl)) ?_; intro py w1 hS1; clear hS; have hS := hS1; clear hS1; rw [cells_agg] at hS)
                        | (refine toList (by rfl) ?_; refine stW hS _ _ _ (by rfl) (by rfl) (nv ⟨t1, t2, z3, z4, z5, z6⟩) (by rfl) (nv_all _) (szOf (by rfl)) Has.z rfl ?_; intro w1 hS1; clear hS; have hS := hS1; clear hS1; dsimp only [List.set_cons_zero] at hS)
                        | (refine toList (by rfl) ?_; refine ld hS _ _ (by rfl) _ _ (by rfl) (agOf (by rfl)) (by first | exact Has.z | exact Has.s Has.z | exact Has.s (Has.s Has.z) | exact Has.s (Has.s (Has.s Has.z)) | exact Has.s (Has.s (Has.s (Has.s Has.z))) | exact Has.s (Has.s (Has.s (Has.s (Has.s Has.z))))) (by rfl) ?_)
                        | (go_at_call 33; refine (HLC.out _ _ (hS.re [1, 2])).mono ?_; rintro e w1 ⟨rfl, hS1⟩; clear hS; have hS := hS1; clear hS1)
                        | (go_at_call 16; refine (awake_any hS).mono ?_; rintro e w1 ⟨rfl, hS1⟩; clear hS; have hS := hS1; clear hS1))
                      go_ret
                      exact ⟨by simp, hS.map fun _ _ => trivial⟩
                · clear hend
                  go_wp2_with (first
                    | (go_at_call 32; refine (HC.out _ _ (hS.re [1])).mono ?_; rintro e w1 ⟨rfl, rfl⟩)
                    | (refine toList (by rfl) ?_; refine ld hS _ _ (by rfl) _ _ (by rfl) (agOf (by rfl)) (by first | exact Has.z | exact Has.s Has.z | exact Has.s (Has.s Has.z) | exact Has.s (Has.s (Has.s Has.z)) | exact Has.s (Has.s (Has.s (Has.s Has.z))) | exact Has.s (Has.s (Has.s (Has.s (Has.s Has.z))))) (by rfl) ?_)
                    | (go_at_call 33; refine (HLA.out _ _ hS).mono ?_; rintro e w1 ⟨rfl, hS1⟩; clear hS; have hS := hS1; clear hS1)
                    | (go_at_call 33; refine (HLB.out _ _ hS).mono ?_; rintro e w1 ⟨rfl, hS1⟩; clear hS; have hS := hS1; clear hS1)
                    | (go_at_call 13; refine (HF.out _ _ hS).mono ?_; rintro e w1 ⟨rfl, hS1⟩; clear hS; have hS := hS1; clear hS1)
                    | (go_at_call 34; refine (HRE.out _ _ (hS.re [1])).mono ?_; rintro e w1 ⟨rfl, hS1⟩; clear hS; have hS := hS1; clear hS1; replace hS := hS.pull1)
                    | (go_at_call 12; refine (HLN.out _ _ (hS.re [1])).mono ?_; rintro e w1 ⟨rfl, rfl⟩)
                    | (go_at_call 16; refine (awake_any hS).mono ?_; rintro e w1 ⟨rfl, hS1⟩; clear hS; have hS := hS1; clear hS1))
                  have H4 : Hid (Sat W _ [Tb 35 1 one1 (.slice av vs.length cv0) vs, St (List.zipWith Ir vs K.G.upsL), IsK p g K2, IsG g K2.G]) := Lib.hid ((hS.re [4, 5, 6]).drop.drop.drop.re [2, 3])
                  go_loopw [22] (fun v wz => ∃ i : Nat, v = .int .i64 i ∧ i ≤ N ∧ Sat W wz [Tb 35 1 one1 (.slice av vs.length cv0) vs, St (List.zipWith Ir vs K.G.upsL), IsK p g K2, IsG g K2.G]) (fun v _ => N - (intOf v).toNat)
                  case atStart => exact ⟨0, rfl, by omega, H4.out⟩
                  case round =>
                    clear hS H4
                    obtain ⟨i, rfl, hiN, hS⟩ := hrel
                    by_cases hl : i < N
                    · have k1 : (i : Int) < (N : Int) := by omega
                      have HLT := Lib.hid hl
                      have HU2 := Lib.hid (fun w (L : List Asrt) (h2 : Sat W w (IsG g K2.G :: L)) => ups_any h2 (i : Int) (by omega))
                      by_cases hic : i = N
                      · have f1 : ((i : Int) != (N : Int)) = false := by rw [hic]; simp
                        clear hl hic
                        go_wp2
                        refine regStart [11] hS (by kernel_rfl) rfl ?_
                        intro w1 hS1
                        clear hS; have hS := hS1; clear hS1
                        (refine regP 0 hS (fun _ h => h) rfl (by kernel_rfl) (by kernel_rfl) (by kernel_rfl) (fun _ _ _ _ h => h) (by rfl) (by rfl) ?_; apply Exists.intro; apply And.intro; (intro w; go_simp; try with_reducible rfl); (simp only [Act.put, List.setIfInBounds_toArray, List.set_cons_zero, List.set_cons_succ]))
                        (refine regP 1 hS (fun _ h => h) rfl (by kernel_rfl) (by kernel_rfl) (by kernel_rfl) (fun _ _ _ _ h => h) (by rfl) (by rfl) ?_; apply Exists.intro; apply And.intro; (intro w; go_simp; try with_reducible rfl); (simp only [Act.put, List.setIfInBounds_toArray, List.set_cons_zero, List.set_cons_succ]))
                        (refine regP 2 hS (fun _ h => h) rfl (by kernel_rfl) (by kernel_rfl) (by kernel_rfl) (fun _ _ _ _ h => h) (by rfl) (by rfl) ?_; apply Exists.intro; apply And.intro; (intro w; go_simp; try with_reducible rfl); (simp only [Act.put, List.setIfInBounds_toArray, List.set_cons_zero, List.set_cons_succ]))
                        (refine regP 3 hS (fun _ h => h) rfl (by kernel_rfl) (by kernel_rfl) (by kernel_rfl) (fun _ _ _ _ h => h) (by rfl) (by rfl) ?_; apply Exists.intro; apply And.intro; (intro w; go_simp; try with_reducible rfl); (simp only [Act.put, List.setIfInBounds_toArray, List.set_cons_zero, List.set_cons_succ]))
                        (first | (refine regP 4 hS (fun _ h => h) rfl (by kernel_rfl) (by kernel_rfl) (by kernel_rfl) (fun _ _ _ _ h => h) (by rfl) (by rfl) ?_; apply Exists.intro; apply And.intro; (intro w; go_simp; try with_reducible rfl); (simp only [Act.put, List.setIfInBounds_toArray, List.set_cons_zero, List.set_cons_succ])) | (refine regN 4 hS (fun _ h => h) rfl (by kernel_rfl) (by kernel_rfl) (by kernel_rfl) (fun _ _ _ h => h) (by rfl) (by rfl) ?_; (simp only [Act.put, List.setIfInBounds_toArray, List.set_cons_zero, List.set_cons_succ])))
                        (first | (refine regP 5 hS (fun _ h => h) rfl (by kernel_rfl) (by kernel_rfl) (by kernel_rfl) (fun _ _ _ _ h => h) (by rfl) (by rfl) ?_; apply Exists.intro; apply And.intro; (intro w; go_simp; try with_reducible rfl); (simp only [Act.put, List.setIfInBounds_toArray, List.set_cons_zero, List.set_cons_succ])) | (refine regN 5 hS (fun _ h => h) rfl (by kernel_rfl) (by kernel_rfl) (by kernel_rfl) (fun _ _ _ h => h) (by rfl) (by rfl) ?_; (simp only [Act.put, List.setIfInBounds_toArray, List.set_cons_zero, List.set_cons_succ])))
                        (first | (refine regP 7 hS (fun _ h => h) rfl (by kernel_rfl) (by kernel_rfl) (by kernel_rfl) (fun _ _ _ _ h => h) (by rfl) (by rfl) ?_; apply Exists.intro; apply And.intro; (intro w; go_simp; try with_reducible rfl); (simp only [Act.put, List.setIfInBounds_toArray, List.set_cons_zero, List.set_cons_succ])) | (refine regN 7 hS (fun _ h => h) rfl (by kernel_rfl) (by kernel_rfl) (by kernel_rfl) (fun _ _ _ h => h) (by rfl) (by rfl) ?_; (simp only [Act.put, List.setIfInBounds_toArray, List.set_cons_zero, List.set_cons_succ])))
                        (first | (refine regP 8 hS (fun _ h => h) rfl (by kernel_rfl) (by kernel_rfl) (by kernel_rfl) (fun _ _ _ _ h => h) (by rfl) (by rfl) ?_; apply Exists.intro; apply And.intro; (intro w; go_simp; try with_reducible rfl); (simp only [Act.put, List.setIfInBounds_toArray, List.set_cons_zero, List.set_cons_succ])) | (refine regN 8 hS (fun _ h => h) rfl (by kernel_rfl) (by kernel_rfl) (by kernel_rfl) (fun _ _ _ h => h) (by rfl) (by rfl) ?_; (simp only [Act.put, List.setIfInBounds_toArray, List.set_cons_zero, List.set_cons_succ])))
                        (first | (refine regP 9 hS (fun _ h => h) rfl (by kernel_rfl) (by kernel_rfl) (by kernel_rfl) (fun _ _ _ _ h => h) (by rfl) (by rfl) ?_; apply Exists.intro; apply And.intro; (intro w; go_simp; try with_reducible rfl); (simp only [Act.put, List.setIfInBounds_toArray, List.set_cons_zero, List.set_cons_succ])) | (refine regN 9 hS (fun _ h => h) rfl (by kernel_rfl) (by kernel_rfl) (by kernel_rfl) (fun _ _ _ h => h) (by rfl) (by rfl) ?_; (simp only [Act.put, List.setIfInBounds_toArray, List.set_cons_zero, List.set_cons_succ])))
                        (first | (refine regR 10 hS (fun _ h => h) rfl (by kernel_rfl) (by kernel_rfl) (by kernel_rfl) (by kernel_rfl) (by kernel_rfl) (fun _ _ _ _ h => h) (by rfl) (by rfl) ?_; (fail); (simp only [Act.put, List.setIfInBounds_toArray, List.set_cons_zero, List.set_cons_succ])) | (refine regN 10 hS (fun _ h => h) rfl (by kernel_rfl) (by kernel_rfl) (by kernel_rfl) (fun _ _ _ h => h) (by rfl) (by rfl) ?_; (simp only [Act.put, List.setIfInBounds_toArray, List.set_cons_zero, List.set_cons_succ])))
                        (first | (refine regA 6 rfl (by kernel_rfl) (by rfl) (by rfl) false (by kernel_rfl) (fun K hK => ?_); (skip); refine hK _ _ _ hS (by first | (intro h; cases h; done) | exact fun _ _ h => h | exact fun _ _ h => h.drop | exact fun _ _ h => h.drop.drop | exact fun _ _ h => h.drop.pull1 | exact fun _ _ h => h.take2 | exact fun _ _ h => h.one Has.z | exact fun _ _ h => h.one (Has.s Has.z) | exact fun _ _ h => h.one (Has.s (Has.s Has.z))) ?_; clear hK K; (simp only [Act.put, List.setIfInBounds_toArray, List.set_cons_zero, List.set_cons_succ])) | (refine regN 6 hS (fun _ h => h) rfl (by kernel_rfl) (by kernel_rfl) (by kernel_rfl) (fun _ _ _ h => h) (by rfl) (by rfl) ?_; (simp only [Act.put, List.setIfInBounds_toArray, List.set_cons_zero, List.set_cons_succ])))
                        (first | (refine regA 11 rfl (by kernel_rfl) (by rfl) (by rfl) true (by kernel_rfl) (fun K hK => ?_); (skip); refine hK _ _ _ hS (by first | (intro h; cases h; done) | exact fun _ _ h => h | exact fun _ _ h => h.drop | exact fun _ _ h => h.drop.drop | exact fun _ _ h => h.drop.pull1 | exact fun _ _ h => h.take2 | exact fun _ _ h => h.one Has.z | exact fun _ _ h => h.one (Has.s Has.z) | exact fun _ _ h => h.one (Has.s (Has.s Has.z))) ?_; clear hK K; (simp only [Act.put, List.setIfInBounds_toArray, List.set_cons_zero, List.set_cons_succ])) | (refine regN 11 hS (fun _ h => h) rfl (by kernel_rfl) (by kernel_rfl) (by kernel_rfl) (fun _ _ _ h => h) (by rfl) (by rfl) ?_; (simp only [Act.put, List.setIfInBounds_toArray, List.set_cons_zero, List.set_cons_succ])))
                        (first | (refine regP 12 hS (fun _ h => h) rfl (by kernel_rfl) (by kernel_rfl) (by kernel_rfl) (fun _ _ _ _ h => h) (by rfl) (by rfl) ?_; apply Exists.intro; apply And.intro; (intro w; go_simp; try with_reducible rfl); (simp only [Act.put, List.setIfInBounds_toArray, List.set_cons_zero, List.set_cons_succ])) | (refine regN 12 hS (fun _ h => h) rfl (by kernel_rfl) (by kernel_rfl) (by kernel_rfl) (fun _ _ _ h => h) (by rfl) (by rfl) ?_; (simp only [Act.put, List.setIfInBounds_toArray, List.set_cons_zero, List.set_cons_succ])))
                        (refine regP 13 hS (fun _ h => h) rfl (by kernel_rfl) (by kernel_rfl) (by kernel_rfl) (fun _ _ _ _ h => h) (by rfl) (by rfl) ?_; apply Exists.intro; apply And.intro; (intro w; go_simp; try with_reducible rfl); (simp only [Act.put, List.setIfInBounds_toArray, List.set_cons_zero, List.set_cons_succ]))
                        refine regDone (by kernel_rfl) ?_
                        go_wp2
                        exact ⟨⟨i + 1, by go_num, HLT.out, hS⟩, by simp [intOf]; have := HLT.out; omega⟩
                      · have f1 : ((i : Int) != (N : Int)) = true := by simp; omega
                        have f1b : ((i : Int) == (N : Int)) = false := beq_eq_false_iff_ne.2 (by omega)
                        have f1c : (i == N) = false := beq_eq_false_iff_ne.2 hic
                        have f1d : (i != N) = true := by simp; omega
                        have f1e : ¬ i = N := hic
                        have HUE := Lib.hid (show K2.G.upsI (i : Int) = K.G.ups i by rw [Gr.upsI_nat (by have := HR.out.2; omega)]; exact HR.out.1.ups i (by rw [HN.out]; exact hl) hic)
                        rw [HUE.out] at HU2
                        obtain ⟨u, hu⟩ : ∃ u, K.G.ups i = u := ⟨_, rfl⟩
                        have hul : u.length ≤ 4096 := by rw [← hu]; have := Gr.ups_len K.G i; have := HN.out; omega
                        have hx : K.G.upsL[i]? = some u := by rw [← hu]; exact Gr.upsL_at (by rw [HN.out]; exact hl)
                        rw [hu] at HU2
                        obtain ⟨vx, hvx⟩ : ∃ vx, vs[i]? = some vx := ⟨_, List.getElem?_eq_getElem (by have := HVL.out; omega)⟩
                        obtain ⟨L', hrow⟩ := hS.stRow (k := 1) rfl hvx hx
                        obtain ⟨ao2, c2, rfl, _⟩ := hrow.irShape (k := 0) rfl
                        obtain ⟨bv0, ov0, cv1, hav, _⟩ := hS.tbAddr (k := 0) rfl (by rw [HVL.out]; omega)
                        simp only [Value.slice.injEq, true_and] at hav
                        obtain ⟨rfl, rfl⟩ := hav
                        have HX := Lib.hid hx
                        have HVX := Lib.hid hvx
                        have k2 : (i : Int) < (vs.length : Int) := by have := HVL.out; omega
                        clear hl hic HUE hu hx hvx hrow L'
                        go_wp2
                        refine regStart2 [11] hS (fun _ h => h.one Has.z) (by kernel_rfl) rfl ?_
                        intro w1 hS1
                        clear hS; have hS := hS1; clear hS1
                        (refine regP 0 hS (fun _ h => h.one Has.z) rfl (by kernel_rfl) (by kernel_rfl) (by kernel_rfl) (fun _ _ _ _ h => h) (by rfl) (by rfl) ?_; apply Exists.intro; apply And.intro; (intro w; go_simp; try with_reducible rfl); (simp only [Act.put, List.setIfInBounds_toArray, List.set_cons_zero, List.set_cons_succ]))
                        (refine regP 1 hS (fun _ h => h.one Has.z) rfl (by kernel_rfl) (by kernel_rfl) (by kernel_rfl) (fun _ _ _ _ h => h) (by rfl) (by rfl) ?_; apply Exists.intro; apply And.intro; (intro w; go_simp; try with_reducible rfl); (simp only [Act.put, List.setIfInBounds_toArray, List.set_cons_zero, List.set_cons_succ]))
                        (refine regP 2 hS (fun _ h => h.one Has.z) rfl (by kernel_rfl) (by kernel_rfl) (by kernel_rfl) (fun _ _ _ _ h => h) (by rfl) (by rfl) ?_; apply Exists.intro; apply And.intro; (intro w; go_simp; try with_reducible rfl); (simp only [Act.put, List.setIfInBounds_toArray, List.set_cons_zero, List.set_cons_succ]))
                        (refine regP 3 hS (fun _ h => h.one Has.z) rfl (by kernel_rfl) (by kernel_rfl) (by kernel_rfl) (fun _ _ _ _ h => h) (by rfl) (by rfl) ?_; apply Exists.intro; apply And.intro; (intro w; go_simp; try with_reducible rfl); (simp only [Act.put, List.setIfInBounds_toArray, List.set_cons_zero, List.set_cons_succ]))
                        (first | (refine regP 4 hS (fun _ h => h.one Has.z) rfl (by kernel_rfl) (by kernel_rfl) (by kernel_rfl) (fun _ _ _ _ h => h) (by rfl) (by rfl) ?_; apply Exists.intro; apply And.intro; (intro w; go_simp; try with_reducible rfl); (simp only [Act.put, List.setIfInBounds_toArray, List.set_cons_zero, List.set_cons_succ])) | (refine regN 4 hS (fun _ h => h.one Has.z) rfl (by kernel_rfl) (by kernel_rfl) (by kernel_rfl) (fun _ _ _ h => h) (by rfl) (by rfl) ?_; (simp only [Act.put, List.setIfInBounds_toArray, List.set_cons_zero, List.set_cons_succ])))
                        (first | (refine regP 5 hS (fun _ h => h.one Has.z) rfl (by kernel_rfl) (by kernel_rfl) (by kernel_rfl) (fun _ _ _ _ h => h) (by rfl) (by rfl) ?_; apply Exists.intro; apply And.intro; (intro w; go_simp; try with_reducible rfl); (simp only [Act.put, List.setIfInBounds_toArray, List.set_cons_zero, List.set_cons_succ])) | (refine regN 5 hS (fun _ h => h.one Has.z) rfl (by kernel_rfl) (by kernel_rfl) (by kernel_rfl) (fun _ _ _ h => h) (by rfl) (by rfl) ?_; (simp only [Act.put, List.setIfInBounds_toArray, List.set_cons_zero, List.set_cons_succ])))
                        (first | (refine regP 7 hS (fun _ h => h.one Has.z) rfl (by kernel_rfl) (by kernel_rfl) (by kernel_rfl) (fun _ _ _ _ h => h) (by rfl) (by rfl) ?_; apply Exists.intro; apply And.intro; (intro w; go_simp; try with_reducible rfl); (simp only [Act.put, List.setIfInBounds_toArray, List.set_cons_zero, List.set_cons_succ])) | (refine regN 7 hS (fun _ h => h.one Has.z) rfl (by kernel_rfl) (by kernel_rfl) (by kernel_rfl) (fun _ _ _ h => h) (by rfl) (by rfl) ?_; (simp only [Act.put, List.setIfInBounds_toArray, List.set_cons_zero, List.set_cons_succ])))
                        (first | (refine regP 8 hS (fun _ h => h.one Has.z) rfl (by kernel_rfl) (by kernel_rfl) (by kernel_rfl) (fun _ _ _ _ h => h) (by rfl) (by rfl) ?_; apply Exists.intro; apply And.intro; (intro w; go_simp; try with_reducible rfl); (simp only [Act.put, List.setIfInBounds_toArray, List.set_cons_zero, List.set_cons_succ])) | (refine regN 8 hS (fun _ h => h.one Has.z) rfl (by kernel_rfl) (by kernel_rfl) (by kernel_rfl) (fun _ _ _ h => h) (by rfl) (by rfl) ?_; (simp only [Act.put, List.setIfInBounds_toArray, List.set_cons_zero, List.set_cons_succ])))
                        (first | (refine regP 9 hS (fun _ h => h.one Has.z) rfl (by kernel_rfl) (by kernel_rfl) (by kernel_rfl) (fun _ _ _ _ h => h) (by rfl) (by rfl) ?_; apply Exists.intro; apply And.intro; (intro w; go_simp; try with_reducible rfl); (simp only [Act.put, List.setIfInBounds_toArray, List.set_cons_zero, List.set_cons_succ])) | (refine regN 9 hS (fun _ h => h.one Has.z) rfl (by kernel_rfl) (by kernel_rfl) (by kernel_rfl) (fun _ _ _ h => h) (by rfl) (by rfl) ?_; (simp only [Act.put, List.setIfInBounds_toArray, List.set_cons_zero, List.set_cons_succ])))
                        (first | (refine regR 10 hS (fun _ h => h.one Has.z) rfl (by kernel_rfl) (by kernel_rfl) (by kernel_rfl) (by kernel_rfl) (by kernel_rfl) (fun _ _ _ _ h => h) (by rfl) (by rfl) ?_; (first
                                                                          | refine ⟨_, yLdTb (f := one1) (x := .slice ao2 u.length c2) _ _ (by rfl) _ _ (by rfl) (agOf (by rfl)) Has.z i 0 (by omega) HVX.out (by rfl), ?_⟩); (simp only [Act.put, List.setIfInBounds_toArray, List.set_cons_zero, List.set_cons_succ])) | (refine regN 10 hS (fun _ h => h.one Has.z) rfl (by kernel_rfl) (by kernel_rfl) (by kernel_rfl) (fun _ _ _ h => h) (by rfl) (by rfl) ?_; (simp only [Act.put, List.setIfInBounds_toArray, List.set_cons_zero, List.set_cons_succ])))
                        (first | (refine regA 6 rfl (by kernel_rfl) (by rfl) (by rfl) false (by kernel_rfl) (fun K hK => ?_); (first
                                                                          | (refine Go.Sep.cl 27 _ _ (by rfl) (by rfl) (by kernel_rfl) (HU2.out _ _ (hS.re [3])) ?_; rintro e w1 ⟨vu, rfl, hS1⟩; clear hS; have hS := hS1; clear hS1; obtain ⟨au, cu, rfl, _⟩ := hS.irShape (k := 0) rfl; replace hS := hS.re [2, 3, 4, 1, 0]; refine ⟨_, rfl, ?_⟩)
                                                                          | (refine Go.Sep.cl 26 _ _ (by rfl) (by rfl) (by kernel_rfl) (same_any hS u _ _ _ _ (fun w h => h.irRd (k := 4) rfl) (fun w h => by obtain ⟨L', h2⟩ := h.stRow (k := 1) rfl HVX.out HX.out; exact h2.irRd (k := 0) rfl) (by omega)) ?_; rintro e w1 ⟨rfl, hS1⟩; clear hS; have hS := hS1; clear hS1; refine ⟨_, rfl, ?_⟩)); refine hK _ _ _ (hS.upTo (fun _ h => by first | exact h.one Has.z | exact h.one (Has.s Has.z) | exact h.one (Has.s (Has.s Has.z)) | exact h.one (Has.s (Has.s (Has.s Has.z))) | exact h | exact h.drop | exact h.drop.drop | exact h.drop.drop.drop | exact h.drop.drop.drop.drop)) (fun _ _ h => h) ?_; clear hK K; (simp only [Act.put, List.setIfInBounds_toArray, List.set_cons_zero, List.set_cons_succ])) | (refine regN 6 hS (fun _ h => h.one Has.z) rfl (by kernel_rfl) (by kernel_rfl) (by kernel_rfl) (fun _ _ _ h => h) (by rfl) (by rfl) ?_; (simp only [Act.put, List.setIfInBounds_toArray, List.set_cons_zero, List.set_cons_succ])))
                        (first | (refine regA 11 rfl (by kernel_rfl) (by rfl) (by rfl) true (by kernel_rfl) (fun K hK => ?_); (first
                                                                          | (refine Go.Sep.cl 27 _ _ (by rfl) (by rfl) (by kernel_rfl) (HU2.out _ _ (hS.re [3])) ?_; rintro e w1 ⟨vu, rfl, hS1⟩; clear hS; have hS := hS1; clear hS1; obtain ⟨au, cu, rfl, _⟩ := hS.irShape (k := 0) rfl; replace hS := hS.re [2, 3, 4, 1, 0]; refine ⟨_, rfl, ?_⟩)
                                                                          | (refine Go.Sep.cl 26 _ _ (by rfl) (by rfl) (by kernel_rfl) (same_any hS u _ _ _ _ (fun w h => h.irRd (k := 4) rfl) (fun w h => by obtain ⟨L', h2⟩ := h.stRow (k := 1) rfl HVX.out HX.out; exact h2.irRd (k := 0) rfl) (by omega)) ?_; rintro e w1 ⟨rfl, hS1⟩; clear hS; have hS := hS1; clear hS1; refine ⟨_, rfl, ?_⟩)); refine hK _ _ _ hS (by first | (intro h; cases h; done) | exact fun _ _ h => h | exact fun _ _ h => h.drop | exact fun _ _ h => h.drop.drop | exact fun _ _ h => h.drop.pull1 | exact fun _ _ h => h.take2 | exact fun _ _ h => h.one Has.z | exact fun _ _ h => h.one (Has.s Has.z) | exact fun _ _ h => h.one (Has.s (Has.s Has.z))) ?_; clear hK K; (simp only [Act.put, List.setIfInBounds_toArray, List.set_cons_zero, List.set_cons_succ])) | (refine regN 11 hS (fun _ h => by first | exact h.one Has.z | exact h.one (Has.s Has.z) | exact h.one (Has.s (Has.s Has.z)) | exact h.one (Has.s (Has.s (Has.s Has.z))) | exact h | exact h.drop | exact h.drop.drop | exact h.drop.drop.drop | exact h.drop.drop.drop.drop) rfl (by kernel_rfl) (by kernel_rfl) (by kernel_rfl) (fun _ _ _ h => h) (by rfl) (by rfl) ?_; (simp only [Act.put, List.setIfInBounds_toArray, List.set_cons_zero, List.set_cons_succ])))
                        (first | (refine regP 12 hS (fun _ h => h) rfl (by kernel_rfl) (by kernel_rfl) (by kernel_rfl) (fun _ _ _ _ h => h) (by rfl) (by rfl) ?_; apply Exists.intro; apply And.intro; (intro w; go_simp; try with_reducible rfl); (simp only [Act.put, List.setIfInBounds_toArray, List.set_cons_zero, List.set_cons_succ])) | (refine regN 12 hS (fun _ h => h) rfl (by kernel_rfl) (by kernel_rfl) (by kernel_rfl) (fun _ _ _ h => h) (by rfl) (by rfl) ?_; (simp only [Act.put, List.setIfInBounds_toArray, List.set_cons_zero, List.set_cons_succ])))
                        (refine regP 13 hS (fun _ h => h) rfl (by kernel_rfl) (by kernel_rfl) (by kernel_rfl) (fun _ _ _ _ h => h) (by rfl) (by rfl) ?_; apply Exists.intro; apply And.intro; (intro w; go_simp; try with_reducible rfl); (simp only [Act.put, List.setIfInBounds_toArray, List.set_cons_zero, List.set_cons_succ]))
                        refine regDone (by kernel_rfl) ?_
                        go_wp2
                        exact ⟨⟨i + 1, by go_num, HLT.out, (hS.re [4]).drop⟩, by simp [intOf]; have := HLT.out; omega⟩
                    · have k1 : ¬ (i : Int) < (N : Int) := by omega
                      obtain ⟨⟨z1, z2, z3, z4, z5, z6⟩, hz⟩ : ∃ x, K2.G.nodeI (N : Int) = x := ⟨_, rfl⟩
                      obtain ⟨⟨t1, t2, t3, t4, t5, t6⟩, ht⟩ : ∃ x, K2.G.nodeI (b : Int) = x := ⟨_, rfl⟩
                      obtain ⟨rfl, rfl⟩ : t1 = z1 ∧ t2 = z2 := ⟨(congrArg NodeD.kind ht).symm.trans (HR.out.1.kind.1.trans (congrArg NodeD.kind hz)), (congrArg NodeD.obj ht).symm.trans (HR.out.1.kind.2.trans (congrArg NodeD.obj hz))⟩
                      have HB2 := Lib.hid (fun w (L : List Asrt) (h2 : Sat W w (IsG g K2.G :: L)) => by have := node_any h2 (b : Int); rw [ht] at this; exact this)
                      have HC2 := Lib.hid (fun w (L : List Asrt) (h2 : Sat W w (IsG g K2.G :: L)) => by have := node_any h2 (N : Int); rw [hz] at this; exact this)
                      have hand := andn_256 (K2.G.lab N) (la ||| lb) (K2.G.lab_lt _) HLO.out
                      have hz0 : andn (K2.G.lab N) (la ||| lb) = 0 := by rw [← HLAB.out.1, ← HLAB.out.2]; exact HR.out.1.lab
                      rw [hz0] at hand
                      have HLC := Lib.hid (fun w (L : List Asrt) (h2 : Sat W w (IsK p g K2 :: IsG g K2.G :: L)) => by have := klabel_any h2 HOK2.out (N : Int); rw [Gr.labI_nat HR.out.1.lt] at this; exact this)
                      obtain ⟨lc, hlc⟩ : ∃ lc, K2.G.lab N = lc := ⟨_, rfl⟩
                      rw [hlc] at HLC hand
                      clear hl hz ht hz0 hlc
                      replace hS := (hS.re [2, 3]).take2
                      go_wp2_with (first
                        | (go_at_call 14; refine (HB2.out _ _ (hS.re [1])).mono ?_; rintro e w1 ⟨rfl, hS1⟩; clear hS; have hS := hS1; clear hS1; replace hS := hS.re [1, 0])
                        | (refine toList (by rfl) ?_; refine al hS _ (by rfl) (zrOf (by rfl)) ?_; intro px w1 hS1; clear hS; have hS := hS1; clear hS1; rw [cells_agg] at hS)
                        | (refine toList (by rfl) ?_; refine stW hS _ _ _ (by rfl) (by rfl) (nv ⟨t1, t2, t3, t4, t5, t6⟩) (by rfl) (nv_all _) (szOf (by rfl)) Has.z rfl ?_; intro w1 hS1; clear hS; have hS := hS1; clear hS1; dsimp only [List.set_cons_zero] at hS))
                      replace hS := (show Sat W _ [IsK p g K2, IsG g K2.G, Cs px 32 (nv ⟨t1, t2, t3, t4, t5, t6⟩)] from hS.re [1, 2, 0])
                      go_wp2_with (first
                        | (go_at_call 14; refine (HC2.out _ _ (hS.re [1])).mono ?_; rintro e w1 ⟨rfl, hS1⟩; clear hS; have hS := hS1; clear hS1; replace hS := hS.re [1, 0])
                        | (refine toList (by rfl) ?_; refine al hS _ (by rfl) (zrOf (by rfl)) ?_; intro py w1 hS1; clear hS; have hS := hS1; clear hS1; rw [cells_agg] at hS)
                        | (refine toList (by rfl) ?_; refine stW hS _ _ _ (by rfl) (by rfl) (nv ⟨t1, t2, z3, z4, z5, z6⟩) (by rfl) (nv_all _) (szOf (by rfl)) Has.z rfl ?_; intro w1 hS1; clear hS; have hS := hS1; clear hS1; dsimp only [List.set_cons_zero] at hS)
                        | (refine toList (by rfl) ?_; refine ld hS _ _ (by rfl) _ _ (by rfl) (agOf (by rfl)) (by first | exact Has.z | exact Has.s Has.z | exact Has.s (Has.s Has.z) | exact Has.s (Has.s (Has.s Has.z)) | exact Has.s (Has.s (Has.s (Has.s Has.z))) | exact Has.s (Has.s (Has.s (Has.s (Has.s Has.z))))) (by rfl) ?_)
                        | (go_at_call 33; refine (HLC.out _ _ (hS.re [1, 2])).mono ?_; rintro e w1 ⟨rfl, hS1⟩; clear hS; have hS := hS1; clear hS1)
                        | (go_at_call 16; refine (awake_any hS).mono ?_; rintro e w1 ⟨rfl, hS1⟩; clear hS; have hS := hS1; clear hS1))
                      go_ret
                      exact ⟨by simp, hS.map fun _ _ => trivial⟩
              · have he : K.ends (b : Int) = false := by cases hx : K.ends (b : Int) with | true => exact absurd hx he | false => rfl
                obtain ⟨g1, g2, _⟩ := KD.flow_open HOK.out (by rw [HN.out]; exact haN) (by rw [HN.out]; exact hbN) hab he
                have hfr := flowR_open HOK.out (by rw [HN.out]; exact haN) (by rw [HN.out]; exact hbN) hab he
                have HF := Lib.hid (fun w (L : List Asrt) (h2 : Sat W w (IsK p g K :: IsG g K.G :: L)) => by have := kflow_any h2 HOK.out (by decide) (a : Int) (b : Int); rw [g1, g2] at this; exact this)
                obtain ⟨K2, hK2⟩ : ∃ K2, K.flow (a : Int) (b : Int) = K2 := ⟨_, rfl⟩
                rw [hK2] at HF hfr hOK2
                rw [HN.out] at hfr
                have HR := Lib.hid hfr
                have HOK2 := Lib.hid hOK2
                have HLN := Lib.hid (fun w (L : List Asrt) (h2 : Sat W w (IsG g K2.G :: L)) => len_any h2 (n := (N : Int)) (by rw [HR.out.2]))
                have HRE := Lib.hid (fun w (L : List Asrt) (h2 : Sat W w (IsG g K2.G :: L)) => by have := reaches_any h2 HOK2.out.g (b : Int) (a : Int); rw [Gr.reaches_true HR.out.1.lt (by rw [HR.out.2]; omega) HR.out.1.reach] at this; exact this)
                have hend := HEN.out
                rw [he] at hend
                have hn2 : K2.G.N.length ≤ 4096 := by rw [HR.out.2]; omega
                have f3 : ((b : Int) == (N : Int)) = false := beq_eq_false_iff_ne.2 (by omega)
                have f4 : ((N : Int) != (N : Int)) = false := by simp
                have f5 : ((b : Int) != (b : Int)) = false := by simp
                clear g1 g2 hfr hOK2 he HEN hK2 hab
                cases bd
                · have h5 : y5 = 0 := by by_cases hne : y5 = 0; exact hne; simp [hne] at hend
                  subst h5
                  clear hend
                  go_wp2_with (first
                    | (go_at_call 32; refine (HC.out _ _ (hS.re [1])).mono ?_; rintro e w1 ⟨rfl, rfl⟩)
                    | (refine toList (by rfl) ?_; refine ld hS _ _ (by rfl) _ _ (by rfl) (agOf (by rfl)) (by first | exact Has.z | exact Has.s Has.z | exact Has.s (Has.s Has.z) | exact Has.s (Has.s (Has.s Has.z)) | exact Has.s (Has.s (Has.s (Has.s Has.z))) | exact Has.s (Has.s (Has.s (Has.s (Has.s Has.z))))) (by rfl) ?_)
                    | (go_at_call 33; refine (HLA.out _ _ hS).mono ?_; rintro e w1 ⟨rfl, hS1⟩; clear hS; have hS := hS1; clear hS1)
                    | (go_at_call 33; refine (HLB.out _ _ hS).mono ?_; rintro e w1 ⟨rfl, hS1⟩; clear hS; have hS := hS1; clear hS1)
                    | (go_at_call 13; refine (HF.out _ _ hS).mono ?_; rintro e w1 ⟨rfl, hS1⟩; clear hS; have hS := hS1; clear hS1)
                    | (go_at_call 34; refine (HRE.out _ _ (hS.re [1])).mono ?_; rintro e w1 ⟨rfl, hS1⟩; clear hS; have hS := hS1; clear hS1; replace hS := hS.pull1)
                    | (go_at_call 12; refine (HLN.out _ _ (hS.re [1])).mono ?_; rintro e w1 ⟨rfl, rfl⟩)
                    | (go_at_call 16; refine (awake_any hS).mono ?_; rintro e w1 ⟨rfl, hS1⟩; clear hS; have hS := hS1; clear hS1))
                  have H4 : Hid (Sat W _ [Tb 35 1 one1 (.slice av vs.length cv0) vs, St (List.zipWith Ir vs K.G.upsL), IsK p g K2, IsG g K2.G]) := Lib.hid ((hS.re [4, 5, 6]).drop.drop.drop.re [2, 3])
                  go_loopw [22] (fun v wz => ∃ i : Nat, v = .int .i64 i ∧ i ≤ N ∧ Sat W wz [Tb 35 1 one1 (.slice av vs.length cv0) vs, St (List.zipWith Ir vs K.G.upsL), IsK p g K2, IsG g K2.G]) (fun v _ => N - (intOf v).toNat)
                  case atStart => exact ⟨0, rfl, by omega, H4.out⟩
                  case round =>
                    clear hS H4
                    obtain ⟨i, rfl, hiN, hS⟩ := hrel
                    by_cases hl : i < N
                    · have k1 : (i : Int) < (N : Int) := by omega
                      have HLT := Lib.hid hl
                      have HU2 := Lib.hid (fun w (L : List Asrt) (h2 : Sat W w (IsG g K2.G :: L)) => ups_any h2 (i : Int) (by omega))
                      by_cases hic : i = b
                      · have f1 : ((i : Int) != (b : Int)) = false := by rw [hic]; simp
                        clear hl hic
                        go_wp2
                        refine regStart [11] hS (by kernel_rfl) rfl ?_
                        intro w1 hS1
                        clear hS; have hS := hS1; clear hS1
                        (refine regP 0 hS (fun _ h => h) rfl (by kernel_rfl) (by kernel_rfl) (by kernel_rfl) (fun _ _ _ _ h => h) (by rfl) (by rfl) ?_; apply Exists.intro; apply And.intro; (intro w; go_simp; try with_reducible rfl); (simp only [Act.put, List.setIfInBounds_toArray, List.set_cons_zero, List.set_cons_succ]))
                        (refine regP 1 hS (fun _ h => h) rfl (by kernel_rfl) (by kernel_rfl) (by kernel_rfl) (fun _ _ _ _ h => h) (by rfl) (by rfl) ?_; apply Exists.intro; apply And.intro; (intro w; go_simp; try with_reducible rfl); (simp only [Act.put, List.setIfInBounds_toArray, List.set_cons_zero, List.set_cons_succ]))
                        (refine regP 2 hS (fun _ h => h) rfl (by kernel_rfl) (by kernel_rfl) (by kernel_rfl) (fun _ _ _ _ h => h) (by rfl) (by rfl) ?_; apply Exists.intro; apply And.intro; (intro w; go_simp; try with_reducible rfl); (simp only [Act.put, List.setIfInBounds_toArray, List.set_cons_zero, List.set_cons_succ]))
                        (refine regP 3 hS (fun _ h => h) rfl (by kernel_rfl) (by kernel_rfl) (by kernel_rfl) (fun _ _ _ _ h => h) (by rfl) (by rfl) ?_; apply Exists.intro; apply And.intro; (intro w; go_simp; try with_reducible rfl); (simp only [Act.put, List.setIfInBounds_toArray, List.set_cons_zero, List.set_cons_succ]))
                        (first | (refine regP 4 hS (fun _ h => h) rfl (by kernel_rfl) (by kernel_rfl) (by kernel_rfl) (fun _ _ _ _ h => h) (by rfl) (by rfl) ?_; apply Exists.intro; apply And.intro; (intro w; go_simp; try with_reducible rfl); (simp only [Act.put, List.setIfInBounds_toArray, List.set_cons_zero, List.set_cons_succ])) | (refine regN 4 hS (fun _ h => h) rfl (by kernel_rfl) (by kernel_rfl) (by kernel_rfl) (fun _ _ _ h => h) (by rfl) (by rfl) ?_; (simp only [Act.put, List.setIfInBounds_toArray, List.set_cons_zero, List.set_cons_succ])))
                        (first | (refine regP 5 hS (fun _ h => h) rfl (by kernel_rfl) (by kernel_rfl) (by kernel_rfl) (fun _ _ _ _ h => h) (by rfl) (by rfl) ?_; apply Exists.intro; apply And.intro; (intro w; go_simp; try with_reducible rfl); (simp only [Act.put, List.setIfInBounds_toArray, List.set_cons_zero, List.set_cons_succ])) | (refine regN 5 hS (fun _ h => h) rfl (by kernel_rfl) (by kernel_rfl) (by kernel_rfl) (fun _ _ _ h => h) (by rfl) (by rfl) ?_; (simp only [Act.put, List.setIfInBounds_toArray, List.set_cons_zero, List.set_cons_succ])))
                        (first | (refine regP 7 hS (fun _ h => h) rfl (by kernel_rfl) (by kernel_rfl) (by kernel_rfl) (fun _ _ _ _ h => h) (by rfl) (by rfl) ?_; apply Exists.intro; apply And.intro; (intro w; go_simp; try with_reducible rfl); (simp only [Act.put, List.setIfInBounds_toArray, List.set_cons_zero, List.set_cons_succ])) | (refine regN 7 hS (fun _ h => h) rfl (by kernel_rfl) (by kernel_rfl) (by kernel_rfl) (fun _ _ _ h => h) (by rfl) (by rfl) ?_; (simp only [Act.put, List.setIfInBounds_toArray, List.set_cons_zero, List.set_cons_succ])))
                        (first | (refine regP 8 hS (fun _ h => h) rfl (by kernel_rfl) (by kernel_rfl) (by kernel_rfl) (fun _ _ _ _ h => h) (by rfl) (by rfl) ?_; apply Exists.intro; apply And.intro; (intro w; go_simp; try with_reducible rfl); (simp only [Act.put, List.setIfInBounds_toArray, List.set_cons_zero, List.set_cons_succ])) | (refine regN 8 hS (fun _ h => h) rfl (by kernel_rfl) (by kernel_rfl) (by kernel_rfl) (fun _ _ _ h => h) (by rfl) (by rfl) ?_; (simp only [Act.put, List.setIfInBounds_toArray, List.set_cons_zero, List.set_cons_succ])))
                        (first | (refine regP 9 hS (fun _ h => h) rfl (by kernel_rfl) (by kernel_rfl) (by kernel_rfl) (fun _ _ _ _ h => h) (by rfl) (by rfl) ?_; apply Exists.intro; apply And.intro; (intro w; go_simp; try with_reducible rfl); (simp only [Act.put, List.setIfInBounds_toArray, List.set_cons_zero, List.set_cons_succ])) | (refine regN 9 hS (fun _ h => h) rfl (by kernel_rfl) (by kernel_rfl) (by kernel_rfl) (fun _ _ _ h => h) (by rfl) (by rfl) ?_; (simp only [Act.put, List.setIfInBounds_toArray, List.set_cons_zero, List.set_cons_succ])))
                        (first | (refine regR 10 hS (fun _ h => h) rfl (by kernel_rfl) (by kernel_rfl) (by kernel_rfl) (by kernel_rfl) (by kernel_rfl) (fun _ _ _ _ h => h) (by rfl) (by rfl) ?_; (fail); (simp only [Act.put, List.setIfInBounds_toArray, List.set_cons_zero, List.set_cons_succ])) | (refine regN 10 hS (fun _ h => h) rfl (by kernel_rfl) (by kernel_rfl) (by kernel_rfl) (fun _ _ _ h => h) (by rfl) (by rfl) ?_; (simp only [Act.put, List.setIfInBounds_toArray, List.set_cons_zero, List.set_cons_succ])))
                        (first | (refine regA 6 rfl (by kernel_rfl) (by rfl) (by rfl) false (by kernel_rfl) (fun K hK => ?_); (skip); refine hK _ _ _ hS (by first | (intro h; cases h; done) | exact fun _ _ h => h | exact fun _ _ h => h.drop | exact fun _ _ h => h.drop.drop | exact fun _ _ h => h.drop.pull1 | exact fun _ _ h => h.take2 | exact fun _ _ h => h.one Has.z | exact fun _ _ h => h.one (Has.s Has.z) | exact fun _ _ h => h.one (Has.s (Has.s Has.z))) ?_; clear hK K; (simp only [Act.put, List.setIfInBounds_toArray, List.set_cons_zero, List.set_cons_succ])) | (refine regN 6 hS (fun _ h => h) rfl (by kernel_rfl) (by kernel_rfl) (by kernel_rfl) (fun _ _ _ h => h) (by rfl) (by rfl) ?_; (simp only [Act.put, List.setIfInBounds_toArray, List.set_cons_zero, List.set_cons_succ])))
                        (first | (refine regA 11 rfl (by kernel_rfl) (by rfl) (by rfl) true (by kernel_rfl) (fun K hK => ?_); (skip); refine hK _ _ _ hS (by first | (intro h; cases h; done) | exact fun _ _ h => h | exact fun _ _ h => h.drop | exact fun _ _ h => h.drop.drop | exact fun _ _ h => h.drop.pull1 | exact fun _ _ h => h.take2 | exact fun _ _ h => h.one Has.z | exact fun _ _ h => h.one (Has.s Has.z) | exact fun _ _ h => h.one (Has.s (Has.s Has.z))) ?_; clear hK K; (simp only [Act.put, List.setIfInBounds_toArray, List.set_cons_zero, List.set_cons_succ])) | (refine regN 11 hS (fun _ h => h) rfl (by kernel_rfl) (by kernel_rfl) (by kernel_rfl) (fun _ _ _ h => h) (by rfl) (by rfl) ?_; (simp only [Act.put, List.setIfInBounds_toArray, List.set_cons_zero, List.set_cons_succ])))
                        (first | (refine regP 12 hS (fun _ h => h) rfl (by kernel_rfl) (by kernel_rfl) (by kernel_rfl) (fun _ _ _ _ h => h) (by rfl) (by rfl) ?_; apply Exists.intro; apply And.intro; (intro w; go_simp; try with_reducible rfl); (simp only [Act.put, List.setIfInBounds_toArray, List.set_cons_zero, List.set_cons_succ])) | (refine regN 12 hS (fun _ h => h) rfl (by kernel_rfl) (by kernel_rfl) (by kernel_rfl) (fun _ _ _ h => h) (by rfl) (by rfl) ?_; (simp only [Act.put, List.setIfInBounds_toArray, List.set_cons_zero, List.set_cons_succ])))
                        (refine regP 13 hS (fun _ h => h) rfl (by kernel_rfl) (by kernel_rfl) (by kernel_rfl) (fun _ _ _ _ h => h) (by rfl) (by rfl) ?_; apply Exists.intro; apply And.intro; (intro w; go_simp; try with_reducible rfl); (simp only [Act.put, List.setIfInBounds_toArray, List.set_cons_zero, List.set_cons_succ]))
                        refine regDone (by kernel_rfl) ?_
                        go_wp2
                        exact ⟨⟨i + 1, by go_num, HLT.out, hS⟩, by simp [intOf]; have := HLT.out; omega⟩
                      · have f1 : ((i : Int) != (b : Int)) = true := by simp; omega
                        have f1b : ((i : Int) == (b : Int)) = false := beq_eq_false_iff_ne.2 (by omega)
                        have f1c : (i == b) = false := beq_eq_false_iff_ne.2 hic
                        have f1d : (i != b) = true := by simp; omega
                        have f1e : ¬ i = b := hic
                        have HUE := Lib.hid (show K2.G.upsI (i : Int) = K.G.ups i by rw [Gr.upsI_nat (by have := HR.out.2; omega)]; exact HR.out.1.ups i (by rw [HN.out]; exact hl) hic)
                        rw [HUE.out] at HU2
                        obtain ⟨u, hu⟩ : ∃ u, K.G.ups i = u := ⟨_, rfl⟩
                        have hul : u.length ≤ 4096 := by rw [← hu]; have := Gr.ups_len K.G i; have := HN.out; omega
                        have hx : K.G.upsL[i]? = some u := by rw [← hu]; exact Gr.upsL_at (by rw [HN.out]; exact hl)
                        rw [hu] at HU2
                        obtain ⟨vx, hvx⟩ : ∃ vx, vs[i]? = some vx := ⟨_, List.getElem?_eq_getElem (by have := HVL.out; omega)⟩
                        obtain ⟨L', hrow⟩ := hS.stRow (k := 1) rfl hvx hx
                        obtain ⟨ao2, c2, rfl, _⟩ := hrow.irShape (k := 0) rfl
                        obtain ⟨bv0, ov0, cv1, hav, _⟩ := hS.tbAddr (k := 0) rfl (by rw [HVL.out]; omega)
                        simp only [Value.slice.injEq, true_and] at hav
                        obtain ⟨rfl, rfl⟩ := hav
                        have HX := Lib.hid hx
                        have HVX := Lib.hid hvx
                        have k2 : (i : Int) < (vs.length : Int) := by have := HVL.out; omega
                        clear hl hic HUE hu hx hvx hrow L'
                        go_wp2
                        refine regStart2 [11] hS (fun _ h => h.one Has.z) (by kernel_rfl) rfl ?_
                        intro w1 hS1
                        clear hS; have hS := hS1; clear hS1
                        (refine regP 0 hS (fun _ h => h.one Has.z) rfl (by kernel_rfl) (by kernel_rfl) (by kernel_rfl) (fun _ _ _ _ h => h) (by rfl) (by rfl) ?_; apply Exists.intro; apply And.intro; (intro w; go_simp; try with_reducible rfl); (simp only [Act.put, List.setIfInBounds_toArray, List.set_cons_zero, List.set_cons_succ]))
                        (refine regP 1 hS (fun _ h => h.one Has.z) rfl (by kernel_rfl) (by kernel_rfl) (by kernel_rfl) (fun _ _ _ _ h => h) (by rfl) (by rfl) ?_; apply Exists.intro; apply And.intro; (intro w; go_simp; try with_reducible rfl); (simp only [Act.put, List.setIfInBounds_toArray, List.set_cons_zero, List.set_cons_succ]))
                        (refine regP 2 hS (fun _ h => h.one Has.z) rfl (by kernel_rfl) (by kernel_rfl) (by kernel_rfl) (fun _ _ _ _ h => h) (by rfl) (by rfl) ?_; apply Exists.intro; apply And.intro; (intro w; go_simp; try with_reducible rfl); (simp only [Act.put, List.setIfInBounds_toArray, List.set_cons_zero, List.set_cons_succ]))
                        (refine regP 3 hS (fun _ h => h.one Has.z) rfl (by kernel_rfl) (by kernel_rfl) (by kernel_rfl) (fun _ _ _ _ h => h) (by rfl) (by rfl) ?_; apply Exists.intro; apply And.intro; (intro w; go_simp; try with_reducible rfl); (simp only [Act.put, List.setIfInBounds_toArray, List.set_cons_zero, List.set_cons_succ]))
                        (first | (refine regP 4 hS (fun _ h => h.one Has.z) rfl (by kernel_rfl) (by kernel_rfl) (by kernel_rfl) (fun _ _ _ _ h => h) (by rfl) (by rfl) ?_; apply Exists.intro; apply And.intro; (intro w; go_simp; try with_reducible rfl); (simp only [Act.put, List.setIfInBounds_toArray, List.set_cons_zero, List.set_cons_succ])) | (refine regN 4 hS (fun _ h => h.one Has.z) rfl (by kernel_rfl) (by kernel_rfl) (by kernel_rfl) (fun _ _ _ h => h) (by rfl) (by rfl) ?_; (simp only [Act.put, List.setIfInBounds_toArray, List.set_cons_zero, List.set_cons_succ])))
                        (first | (refine regP 5 hS (fun _ h => h.one Has.z) rfl (by kernel_rfl) (by kernel_rfl) (by kernel_rfl) (fun _ _ _ _ h => h) (by rfl) (by rfl) ?_; apply Exists.intro; apply And.intro; (intro w; go_simp; try with_reducible rfl); (simp only [Act.put, List.setIfInBounds_toArray, List.set_cons_zero, List.set_cons_succ])) | (refine regN 5 hS (fun _ h => h.one Has.z) rfl (by kernel_rfl) (by kernel_rfl) (by kernel_rfl) (fun _ _ _ h => h) (by rfl) (by rfl) ?_; (simp only [Act.put, List.setIfInBounds_toArray, List.set_cons_zero, List.set_cons_succ])))
                        (first | (refine regP 7 hS (fun _ h => h.one Has.z) rfl (by kernel_rfl) (by kernel_rfl) (by kernel_rfl) (fun _ _ _ _ h => h) (by rfl) (by rfl) ?_; apply Exists.intro; apply And.intro; (intro w; go_simp; try with_reducible rfl); (simp only [Act.put, List.setIfInBounds_toArray, List.set_cons_zero, List.set_cons_succ])) | (refine regN 7 hS (fun _ h => h.one Has.z) rfl (by kernel_rfl) (by kernel_rfl) (by kernel_rfl) (fun _ _ _ h => h) (by rfl) (by rfl) ?_; (simp only [Act.put, List.setIfInBounds_toArray, List.set_cons_zero, List.set_cons_succ])))
                        (first | (refine regP 8 hS (fun _ h => h.one Has.z) rfl (by kernel_rfl) (by kernel_rfl) (by kernel_rfl) (fun _ _ _ _ h => h) (by rfl) (by rfl) ?_; apply Exists.intro; apply And.intro; (intro w; go_simp; try with_reducible rfl); (simp only [Act.put, List.setIfInBounds_toArray, List.set_cons_zero, List.set_cons_succ])) | (refine regN 8 hS (fun _ h => h.one Has.z) rfl (by kernel_rfl) (by kernel_rfl) (by kernel_rfl) (fun _ _ _ h => h) (by rfl) (by rfl) ?_; (simp only [Act.put, List.setIfInBounds_toArray, List.set_cons_zero, List.set_cons_succ])))
                        (first | (refine regP 9 hS (fun _ h => h.one Has.z) rfl (by kernel_rfl) (by kernel_rfl) (by kernel_rfl) (fun _ _ _ _ h => h) (by rfl) (by rfl) ?_; apply Exists.intro; apply And.intro; (intro w; go_simp; try with_reducible rfl); (simp only [Act.put, List.setIfInBounds_toArray, List.set_cons_zero, List.set_cons_succ])) | (refine regN 9 hS (fun _ h => h.one Has.z) rfl (by kernel_rfl) (by kernel_rfl) (by kernel_rfl) (fun _ _ _ h => h) (by rfl) (by rfl) ?_; (simp only [Act.put, List.setIfInBounds_toArray, List.set_cons_zero, List.set_cons_succ])))
                        (first | (refine regR 10 hS (fun _ h => h.one Has.z) rfl (by kernel_rfl) (by kernel_rfl) (by kernel_rfl) (by kernel_rfl) (by kernel_rfl) (fun _ _ _ _ h => h) (by rfl) (by rfl) ?_; (first
                                                                          | refine ⟨_, yLdTb (f := one1) (x := .slice ao2 u.length c2) _ _ (by rfl) _ _ (by rfl) (agOf (by rfl)) Has.z i 0 (by omega) HVX.out (by rfl), ?_⟩); (simp only [Act.put, List.setIfInBounds_toArray, List.set_cons_zero, List.set_cons_succ])) | (refine regN 10 hS (fun _ h => h.one Has.z) rfl (by kernel_rfl) (by kernel_rfl) (by kernel_rfl) (fun _ _ _ h => h) (by rfl) (by rfl) ?_; (simp only [Act.put, List.setIfInBounds_toArray, List.set_cons_zero, List.set_cons_succ])))
                        (first | (refine regA 6 rfl (by kernel_rfl) (by rfl) (by rfl) false (by kernel_rfl) (fun K hK => ?_); (first
                                                                          | (refine Go.Sep.cl 27 _ _ (by rfl) (by rfl) (by kernel_rfl) (HU2.out _ _ (hS.re [3])) ?_; rintro e w1 ⟨vu, rfl, hS1⟩; clear hS; have hS := hS1; clear hS1; obtain ⟨au, cu, rfl, _⟩ := hS.irShape (k := 0) rfl; replace hS := hS.re [2, 3, 4, 1, 0]; refine ⟨_, rfl, ?_⟩)
                                                                          | (refine Go.Sep.cl 26 _ _ (by rfl) (by rfl) (by kernel_rfl) (same_any hS u _ _ _ _ (fun w h => h.irRd (k := 4) rfl) (fun w h => by obtain ⟨L', h2⟩ := h.stRow (k := 1) rfl HVX.out HX.out; exact h2.irRd (k := 0) rfl) (by omega)) ?_; rintro e w1 ⟨rfl, hS1⟩; clear hS; have hS := hS1; clear hS1; refine ⟨_, rfl, ?_⟩)); refine hK _ _ _ (hS.upTo (fun _ h => by first | exact h.one Has.z | exact h.one (Has.s Has.z) | exact h.one (Has.s (Has.s Has.z)) | exact h.one (Has.s (Has.s (Has.s Has.z))) | exact h | exact h.drop | exact h.drop.drop | exact h.drop.drop.drop | exact h.drop.drop.drop.drop)) (fun _ _ h => h) ?_; clear hK K; (simp only [Act.put, List.setIfInBounds_toArray, List.set_cons_zero, List.set_cons_succ])) | (refine regN 6 hS (fun _ h => h.one Has.z) rfl (by kernel_rfl) (by kernel_rfl) (by kernel_rfl) (fun _ _ _ h => h) (by rfl) (by rfl) ?_; (simp only [Act.put, List.setIfInBounds_toArray, List.set_cons_zero, List.set_cons_succ])))
                        (first | (refine regA 11 rfl (by kernel_rfl) (by rfl) (by rfl) true (by kernel_rfl) (fun K hK => ?_); (first
                                                                          | (refine Go.Sep.cl 27 _ _ (by rfl) (by rfl) (by kernel_rfl) (HU2.out _ _ (hS.re [3])) ?_; rintro e w1 ⟨vu, rfl, hS1⟩; clear hS; have hS := hS1; clear hS1; obtain ⟨au, cu, rfl, _⟩ := hS.irShape (k := 0) rfl; replace hS := hS.re [2, 3, 4, 1, 0]; refine ⟨_, rfl, ?_⟩)
                                                                          | (refine Go.Sep.cl 26 _ _ (by rfl) (by rfl) (by kernel_rfl) (same_any hS u _ _ _ _ (fun w h => h.irRd (k := 4) rfl) (fun w h => by obtain ⟨L', h2⟩ := h.stRow (k := 1) rfl HVX.out HX.out; exact h2.irRd (k := 0) rfl) (by omega)) ?_; rintro e w1 ⟨rfl, hS1⟩; clear hS; have hS := hS1; clear hS1; refine ⟨_, rfl, ?_⟩)); refine hK _ _ _ hS (by first | (intro h; cases h; done) | exact fun _ _ h => h | exact fun _ _ h => h.drop | exact fun _ _ h => h.drop.drop | exact fun _ _ h => h.drop.pull1 | exact fun _ _ h => h.take2 | exact fun _ _ h => h.one Has.z | exact fun _ _ h => h.one (Has.s Has.z) | exact fun _ _ h => h.one (Has.s (Has.s Has.z))) ?_; clear hK K; (simp only [Act.put, List.setIfInBounds_toArray, List.set_cons_zero, List.set_cons_succ])) | (refine regN 11 hS (fun _ h => by first | exact h.one Has.z | exact h.one (Has.s Has.z) | exact h.one (Has.s (Has.s Has.z)) | exact h.one (Has.s (Has.s (Has.s Has.z))) | exact h | exact h.drop | exact h.drop.drop | exact h.drop.drop.drop | exact h.drop.drop.drop.drop) rfl (by kernel_rfl) (by kernel_rfl) (by kernel_rfl) (fun _ _ _ h => h) (by rfl) (by rfl) ?_; (simp only [Act.put, List.setIfInBounds_toArray, List.set_cons_zero, List.set_cons_succ])))
                        (first | (refine regP 12 hS (fun _ h => h) rfl (by kernel_rfl) (by kernel_rfl) (by kernel_rfl) (fun _ _ _ _ h => h) (by rfl) (by rfl) ?_; apply Exists.intro; apply And.intro; (intro w; go_simp; try with_reducible rfl); (simp only [Act.put, List.setIfInBounds_toArray, List.set_cons_zero, List.set_cons_succ])) | (refine regN 12 hS (fun _ h => h) rfl (by kernel_rfl) (by kernel_rfl) (by kernel_rfl) (fun _ _ _ h => h) (by rfl) (by rfl) ?_; (simp only [Act.put, List.setIfInBounds_toArray, List.set_cons_zero, List.set_cons_succ])))
                        (refine regP 13 hS (fun _ h => h) rfl (by kernel_rfl) (by kernel_rfl) (by kernel_rfl) (fun _ _ _ _ h => h) (by rfl) (by rfl) ?_; apply Exists.intro; apply And.intro; (intro w; go_simp; try with_reducible rfl); (simp only [Act.put, List.setIfInBounds_toArray, List.set_cons_zero, List.set_cons_succ]))
                        refine regDone (by kernel_rfl) ?_
                        go_wp2
                        exact ⟨⟨i + 1, by go_num, HLT.out, (hS.re [4]).drop⟩, by simp [intOf]; have := HLT.out; omega⟩
                    · have k1 : ¬ (i : Int) < (N : Int) := by omega
                      obtain ⟨⟨z1, z2, z3, z4, z5, z6⟩, hz⟩ : ∃ x, K2.G.nodeI (b : Int) = x := ⟨_, rfl⟩
                      obtain ⟨⟨t1, t2, t3, t4, t5, t6⟩, ht⟩ : ∃ x, K2.G.nodeI (b : Int) = x := ⟨_, rfl⟩
                      obtain ⟨rfl, rfl⟩ : t1 = z1 ∧ t2 = z2 := ⟨(congrArg NodeD.kind ht).symm.trans (HR.out.1.kind.1.trans (congrArg NodeD.kind hz)), (congrArg NodeD.obj ht).symm.trans (HR.out.1.kind.2.trans (congrArg NodeD.obj hz))⟩
                      have HB2 := Lib.hid (fun w (L : List Asrt) (h2 : Sat W w (IsG g K2.G :: L)) => by have := node_any h2 (b : Int); rw [ht] at this; exact this)
                      have HC2 := Lib.hid (fun w (L : List Asrt) (h2 : Sat W w (IsG g K2.G :: L)) => by have := node_any h2 (b : Int); rw [hz] at this; exact this)
                      have hand := andn_256 (K2.G.lab b) (la ||| lb) (K2.G.lab_lt _) HLO.out
                      have hz0 : andn (K2.G.lab b) (la ||| lb) = 0 := by rw [← HLAB.out.1, ← HLAB.out.2]; exact HR.out.1.lab
                      rw [hz0] at hand
                      have HLC := Lib.hid (fun w (L : List Asrt) (h2 : Sat W w (IsK p g K2 :: IsG g K2.G :: L)) => by have := klabel_any h2 HOK2.out (b : Int); rw [Gr.labI_nat HR.out.1.lt] at this; exact this)
                      obtain ⟨lc, hlc⟩ : ∃ lc, K2.G.lab b = lc := ⟨_, rfl⟩
                      rw [hlc] at HLC hand
                      clear hl hz ht hz0 hlc
                      replace hS := (hS.re [2, 3]).take2
                      go_wp2_with (first
                        | (go_at_call 14; refine (HB2.out _ _ (hS.re [1])).mono ?_; rintro e w1 ⟨rfl, hS1⟩; clear hS; have hS := hS1; clear hS1; replace hS := hS.re [1, 0])
                        | (refine toList (by rfl) ?_; refine al hS _ (by rfl) (zrOf (by rfl)) ?_; intro px w1 hS1; clear hS; have hS := hS1; clear hS1; rw [cells_agg] at hS)
                        | (refine toList (by rfl) ?_; refine stW hS _ _ _ (by rfl) (by rfl) (nv ⟨t1, t2, t3, t4, t5, t6⟩) (by rfl) (nv_all _) (szOf (by rfl)) Has.z rfl ?_; intro w1 hS1; clear hS; have hS := hS1; clear hS1; dsimp only [List.set_cons_zero] at hS))
                      replace hS := (show Sat W _ [IsK p g K2, IsG g K2.G, Cs px 32 (nv ⟨t1, t2, t3, t4, t5, t6⟩)] from hS.re [1, 2, 0])
                      go_wp2_with (first
                        | (go_at_call 14; refine (HC2.out _ _ (hS.re [1])).mono ?_; rintro e w1 ⟨rfl, hS1⟩; clear hS; have hS := hS1; clear hS1; replace hS := hS.re [1, 0])
                        | (refine toList (by rfl) ?_; refine al hS _ (by rfl) (zrOf (by rfl)) ?_; intro py w1 hS1; clear hS; have hS := hS1; clear hS1; rw [cells_agg] at hS)
                        | (refine toList (by rfl) ?_; refine stW hS _ _ _ (by rfl) (by rfl) (nv ⟨t1, t2, z3, z4, z5, z6⟩) (by rfl) (nv_all _) (szOf (by rfl)) Has.z rfl ?_; intro w1 hS1; clear hS; have hS := hS1; clear hS1; dsimp only [List.set_cons_zero] at hS)
                        | (refine toList (by rfl) ?_; refine ld hS _ _ (by rfl) _ _ (by rfl) (agOf (by rfl)) (by first | exact Has.z | exact Has.s Has.z | exact Has.s (Has.s Has.z) | exact Has.s (Has.s (Has.s Has.z)) | exact Has.s (Has.s (Has.s (Has.s Has.z))) | exact Has.s (Has.s (Has.s (Has.s (Has.s Has.z))))) (by rfl) ?_)
                        | (go_at_call 33; refine (HLC.out _ _ (hS.re [1, 2])).mono ?_; rintro e w1 ⟨rfl, hS1⟩; clear hS; have hS := hS1; clear hS1)
                        | (go_at_call 16; refine (awake_any hS).mono ?_; rintro e w1 ⟨rfl, hS1⟩; clear hS; have hS := hS1; clear hS1))
                      go_ret
                      exact ⟨by simp, hS.map fun _ _ => trivial⟩
                · cases hend

theorem Flows.walk (l : List RecD) (ao : Option Addr) (c : Nat) (fa fb : Int) (W : World) (hr : Rd W (.slice ao l.length c) l.length 3 (l.flatMap rv)) :
    Calls Try.prog 7 #[.slice ao l.length c, .int .i64 fa, .int .i64 fb] W fun e w' => e = .returned (.bool true) ∧ Sat W w' [] := by
  by_cases h : l.length ≤ 50
  · exact Flows.short l ao c fa fb W h hr
  · exact Flows.long l ao c fa fb W (by omega) hr

set_option maxRecDepth 100000 in
theorem Flows.contract (H : Type) (enc : TypeId × Value → H) (W : World) (base : Nat) (args : Array Value) (ds gs : List (DataW H)) (before : List MemPlace)
    (hval : ∀ (j : Nat) t v, Try.f7.params[j]? = some t → args[j]? = some v → Value.okWide Try.prog W .any base t v)
    (hW : DataW.Whole enc Try.prog Try.f7.params.toList Rows.versionFlowsSpec.vars false W args.toList ds gs before)
    (hreach : (DataW.weightsEach Try.prog (Try.f7.params.toList ++ Rows.versionFlowsSpec.plain.varTypes Try.prog) (ds ++ gs)).all (· ≤ reachBytes) = true) :
    Calls Try.prog 7 args W fun e W' => ∃ v, e = .returned v ∧ Rows.versionFlowsSpec.post enc Try.prog Try.f7 false true false false W args v W' := by
  have hW' := hW
  obtain ⟨p, q, hA, hV, rfl, hfz, hnd⟩ := hW
  rw [Try.params7] at hA hval hreach
  obtain ⟨v0, vs0, d0, ds0, p0, q0, hargs, rfl, rfl, h0, r0⟩ := trodAll_cons hA
  obtain ⟨v1, vs1, d1, ds1, p1, q1, rfl, rfl, rfl, h1, r1⟩ := trodAll_cons r0
  obtain ⟨v2, vs2, d2, ds2, p2, q2, rfl, rfl, rfl, h2, r2⟩ := trodAll_cons r1
  obtain ⟨rfl, rfl, rfl⟩ := trodAll_nil r2
  obtain rfl : args = #[v0, v1, v2] := by cases args; simp_all
  obtain ⟨rfl, rfl⟩ := trodVars_none hV
  obtain ⟨ao0, len0, cap0, rfl⟩ := okWide_slice Try.underlying59 (hval 0 59 v0 rfl rfl)
  obtain ⟨a1, rfl, rfl, rfl, w1⟩ := open_int Try.underlying3 (hval 1 3 v1 rfl rfl) h1
  obtain ⟨a2, rfl, rfl, rfl, w2⟩ := open_int Try.underlying3 (hval 2 3 v2 rfl rfl) h2
  obtain ⟨l, rfl, hr0, hl0⟩ := open_vops h0
  refine (Flows.walk l ao0 cap0 a1 a2 W hr0).mono ?_
  refine fun e W' ⟨he, hS⟩ => ?_
  subst he
  exact ⟨_, rfl, law_post (tb := 4) (by kernel_rfl) (by kernel_rfl) rfl Try.underlying4 rfl hW' rfl hS⟩

theorem Flows.own : ownKnob Try.prog.godebug = none := by kernel_rfl
set_option maxRecDepth 100000 in
theorem Flows.lifted (os : Os) (started : os.Started) (H : Type) (enc : TypeId × Value → H) :
    ReturnsInHanded {} Try.checked os 7 .any (Rows.versionFlowsSpec.pre6 enc Try.prog Try.f7 Rows.versionFlowsRow.domain false) (Rows.versionFlowsSpec.post enc Try.prog Try.f7 false true false false) := by
  refine returnsInHanded_of_change_shaped (C := Try.checked) Flows.own started (by kernel_rfl) Try.func7
    (ChangeSpec.witness6 (enc := enc) (C := Try.checked) false ⟨#[], #[.slice none 0 0, .int .i64 0, .int .i64 0], []⟩ 8 (by kernel_rfl) (by kernel_rfl) (by kernel_rfl) (by kernel_rfl)) ?_
  intro W base args ds gs before hval hW _ hreach _ _
  exact Flows.contract H enc W base args ds gs before hval hW hreach

theorem Flows.holds : Rows.VersionFlowsSaid :=
  OpenClaim.holds_of_wide 7 Try.f7 rfl rfl rfl rfl rfl rfl rfl ⟨rfl, rfl, rfl, rfl, rfl⟩ rfl rfl rfl rfl rfl (by kernel_rfl) Try.func7 (by kernel_rfl)
    (of_decide_eq_true (by kernel_rfl)) (by unfold Func.isWrapper; first | (rw [if_pos (by decide +kernel)]; kernel_rfl) | (rw [if_neg (by decide +kernel)]; exact ⟨rfl, rfl⟩))
    (fun os started H enc _ => Flows.lifted os started H enc)
end Go.Proofs.Ytapodjhkpahdnaa
