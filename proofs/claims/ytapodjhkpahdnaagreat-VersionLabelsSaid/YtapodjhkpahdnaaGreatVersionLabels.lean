/-
  For every two scripts, VersionLabels answers true: no condition.
-/
import Derived.Test.YtapodjhkpahdnaaGreatVsAwake
import Derived.Test.YtapodjhkpahdnaaGreatVsOpen
import Derived.Test.YtapodjhkpahdnaaGreatVsApplied
namespace Go.Proofs.YtapodjhkpahdnaaGreat
open Go.RowKit Go.Sep Go.ChangeShapes Go.WideShapes Go.ChangeAt
set_option linter.unusedSimpArgs false
set_option linter.unusedVariables false
attribute [local irreducible] Go.Oper.wp Go.wpList Go.Calls Go.Code.wp Go.Sep.Reg
attribute [local irreducible] IsG IsK IsQ IsR
set_option maxRecDepth 20000 in
set_option maxHeartbeats 4000000 in
theorem VLabels.walk (l m : List RecD) (ao aom : Option Addr) (c cm : Nat) (W : World) (hr : Rd W (.slice ao l.length c) l.length 3 (l.flatMap rv)) (hrm : Rd W (.slice aom m.length cm) m.length 3 (m.flatMap rv)) :
    Calls Tryz.prog 5 #[.slice ao l.length c, .slice aom m.length cm] W fun e w' => e = .returned (.bool true) ∧ Sat W w' [] := by
  have hS := Sat.start W
  have HR : Hid (∀ u (L : List Asrt), Sat W u L → Rd u (.slice ao l.length c) l.length 3 (l.flatMap rv)) := Lib.hid (fun u L h => hr.old h)
  have HRM : Hid (∀ u (L : List Asrt), Sat W u L → Rd u (.slice aom m.length cm) m.length 3 (m.flatMap rv)) := Lib.hid (fun u L h => hrm.old h)
  obtain ⟨_, _, he, hc1, hc2, _, h5⟩ := hr
  simp only [Value.slice.injEq, true_and] at he
  obtain ⟨rfl, rfl⟩ := he
  have H5 := Lib.hid h5
  clear h5
  obtain ⟨_, _, he, hd1, hd2, _, h6⟩ := hrm
  simp only [Value.slice.injEq, true_and] at he
  obtain ⟨rfl, rfl⟩ := he
  have H6 := Lib.hid h6
  clear h6
  go_enter Tryz.func5, Tryz.ntmps5
  go_wp2_with (first
    | (go_at_call 6; refine (knew_any hS).mono ?_; rintro e w1 ⟨p, rfl, g, hS1⟩; clear hS; have hS := hS1; clear hS1)
    | (go_at_call 7; refine (qnew_any hS).mono ?_; rintro e w1 ⟨q, h, rfl, hS1⟩; clear hS; have hS := hS1; clear hS1; replace hS := hS.re [2, 3]))
  have H0 := Lib.hid hS
  go_loopw [7] (fun v wz => ∃ (i : Nat) (K : KD), v = .int .i64 i ∧ i ≤ l.length ∧ i ≤ 50 ∧ K.Ok (3 * i) ∧ Sat W wz [IsK p g K, IsG g K.G, IsQ q h K, IsR h K.G]) (fun v _ => 50 - (intOf v).toNat)
  case atStart => exact ⟨0, KD.new, rfl, by omega, by omega, KD.new_ok, H0.out⟩
  case round =>
    clear hS H0
    obtain ⟨i, K, rfl, hi, hi5, hok, hS⟩ := hrel
    have HOK := Lib.hid hok
    clear hok
    by_cases hgo : i < l.length ∧ i < 50
    · obtain ⟨hlt, hl5⟩ := hgo
      obtain ⟨bb, off, rfl, _⟩ := H5.out (by omega)
      obtain ⟨⟨xk, xa, xb⟩, hx⟩ : ∃ x, l[i]? = some x := ⟨_, List.getElem?_eq_getElem hlt⟩
      have j1 : (i : Int) < (l.length : Int) := by omega
      have j2 : (i : Int) < 50 := by omega
      have HX := Lib.hid hx
      have HLT := Lib.hid hlt
      have HL5 := Lib.hid hl5
      have HDO := Lib.hid (fun w (L : List Asrt) (h2 : Sat W w (IsK p g K :: IsG g K.G :: IsQ q h K :: IsR h K.G :: L)) => do_any h2 HOK.out (by omega) ⟨xk, xa, xb⟩)
      have HOK2 := Lib.hid ((HOK.out.step (by omega) ⟨xk, xa, xb⟩).mono (show 3 * i + 3 ≤ 3 * (i + 1) by omega))
      obtain ⟨K2, hK2⟩ : ∃ K2, K.step ⟨xk, xa, xb⟩ = K2 := ⟨_, rfl⟩
      rw [hK2] at HDO HOK2
      clear hx hlt hl5 hK2 hi hi5
      go_wp2_with (first
        | (refine toList (by rfl) ?_; refine wp_of_reads (rLdRdA (f := rv) (x := ⟨xk, xa, xb⟩) (HR.out _ _ hS) (rv_len l) _ _ (by rfl) _ (by rfl) (agOf (by rfl)) (szOf (by rfl)) i (by omega) HX.out (by omega)) ?_)
        | (go_at_call 11; refine (HDO.out _ _ hS).mono ?_; rintro e w1 ⟨rfl, hS1⟩; clear hS; have hS := hS1; clear hS1))
      exact ⟨⟨i + 1, K2, by go_num, HLT.out, HL5.out, HOK2.out, hS⟩, by simp [intOf]; have := HL5.out; omega⟩
    have hcase : (¬ (i : Int) < (l.length : Int)) ∨ ((i : Int) < (l.length : Int) ∧ ¬ (i : Int) < 50) := by omega
    have hok3 := HOK.out.mono (show 3 * i ≤ 3 * 50 by omega)
    clear HOK hi hi5
    have HOK := Lib.hid hok3
    clear hok3
    have hnl := HOK.out.l
    have hrr := HOK.out.r
    obtain ⟨H, hdn, hHN, hHE⟩ := Gr.dn_replay HOK.out.g HOK.out.v HOK.out.a
    have HDN := Lib.hid hdn
    have HSM := Lib.hid (fun p w (L : List Asrt) (h2 : Sat W w (IsG p H :: L)) => IsG.same (G := K.G) hHN hHE h2)
    have hrl : K.G.replay.length ≤ 150 + 150 * 167 := by
      unfold Gr.replay
      rw [List.length_append]
      have h1 : K.G.repN.length ≤ 150 := by unfold Gr.repN; rw [List.length_map]; omega
      have h2 := K.G.repE_len K.G.N.length
      have h3 : K.G.N.length * (K.G.N.length + 17) ≤ 150 * 167 := Nat.mul_le_mul (by omega) (by omega)
      omega
    obtain ⟨R, hR⟩ : ∃ R, K.G.replay = R := ⟨_, rfl⟩
    rw [hR] at hrl
    have HDN2 := Lib.hid (show Gr.new.dn R = some H by rw [← hR]; exact HDN.out)
    have HRP := Lib.hid (fun w (L : List Asrt) (h2 : Sat W w (IsG g K.G :: L)) => by have := replay_any h2 HOK.out.g (by omega); rw [hR] at this; exact this)
    have HOKC := Lib.hid HOK.out.clean
    have HLD := Lib.hid (fun p w (L : List Asrt) (h2 : Sat W w (IsG p K.G :: L)) => kload_any h2 HOK.out.g HOK.out.a)
    clear hgo HDN hdn hHN hHE hR
    rcases hcase with k1 | ⟨k1, k2⟩
    all_goals
      go_wp2_with (first
        | (go_at_call 9; refine (krecords_any hS).mono ?_; rintro e w1 ⟨v1, rfl, hS1⟩; clear hS; have hS := hS1; clear hS1; replace hS := hS.drop.re [2, 3])
        | (go_at_call 10; refine (qrecords_any hS).mono ?_; rintro e w1 ⟨v2, rfl, hS1⟩; clear hS; have hS := hS1; clear hS1; replace hS := hS.drop.re [2, 3])
        | (go_at_call 15; refine (kgraph_any hS).mono ?_; rintro e w1 ⟨rfl, rfl⟩)
        | (go_at_call 17; refine (HRP.out _ _ (hS.re [1])).mono ?_; rintro e w1 ⟨v3, rfl, hS1⟩; clear hS; have hS := hS1; clear hS1; obtain ⟨a3, c3, rfl, _⟩ := hS.tbShape (k := 0) rfl)
        | (go_at_call 12; refine (applied_any hS R _ _ (fun w h => h.tbRd (k := 0) rfl) (by omega) HDN2.out).mono ?_; rintro e w1 ⟨p2, rfl, hS1⟩; clear hS; have hS := hS1; clear hS1; replace hS := HSM.out _ _ _ hS)
        | (go_at_call 18; refine (HLD.out _ _ _ hS).mono ?_; rintro e w1 ⟨p3, rfl, hS1⟩; clear hS; have hS := hS1; clear hS1))
      have H1 : Hid (Sat W _ [IsK p g K.clean, IsG g K.clean.G, IsQ q h K.clean, IsR h K.clean.G, IsK p3 p2 K.clean, IsG p2 K.clean.G]) := Lib.hid ((hS.re [2]).drop.re [3, 2, 4, 5, 0, 1])
      obtain ⟨K0, hK0⟩ : ∃ K0, K.clean = K0 := ⟨_, rfl⟩
      rw [hK0] at HOKC H1
      clear hS HDN2 HSM HRP HLD hnl hrr hrl HOK hK0
      have HM : m.length ≤ m.length := Nat.le_refl _
      go_loopw [12] (fun v wz => ∃ (i : Nat) (K : KD), v = .int .i64 i ∧ i ≤ m.length ∧ i ≤ 20 ∧ K.Ok (150 + 3 * i) ∧ Sat W wz [IsK p g K, IsG g K.G, IsQ q h K, IsR h K.G, IsK p3 p2 K, IsG p2 K.G]) (fun v _ => 20 - (intOf v).toNat)
      case atStart => exact ⟨0, K0, rfl, by omega, by omega, HOKC.out.mono (by omega), H1.out⟩
      case round =>
        clear H1 HOKC
        obtain ⟨i, K, rfl, hi, hi5, hok, hS⟩ := hrel
        have HOK := Lib.hid hok
        clear hok
        by_cases hgo : i < m.length ∧ i < 20
        · obtain ⟨hlt, hl5⟩ := hgo
          obtain ⟨bb, off, rfl, _⟩ := H6.out (by omega)
          obtain ⟨⟨xk, xa, xb⟩, hx⟩ : ∃ x, m[i]? = some x := ⟨_, List.getElem?_eq_getElem hlt⟩
          have j1 : (i : Int) < (m.length : Int) := by omega
          have j2 : (i : Int) < 20 := by omega
          have HX := Lib.hid hx
          have HLT := Lib.hid hlt
          have HL5 := Lib.hid hl5
          have HDO := Lib.hid (fun p g q h w (L : List Asrt) (h2 : Sat W w (IsK p g K :: IsG g K.G :: IsQ q h K :: IsR h K.G :: L)) => do_any h2 HOK.out (by omega) ⟨xk, xa, xb⟩)
          have HCP := Lib.hid (fun w (L : List Asrt) (h2 : Sat W w (IsQ q h K :: IsR h K.G :: L)) => qcopy_any h2 HOK.out (by omega))
          have HOK2 := Lib.hid ((HOK.out.step (by omega) ⟨xk, xa, xb⟩).mono (show 150 + 3 * i + 3 ≤ 150 + 3 * (i + 1) by omega))
          obtain ⟨K2, hK2⟩ : ∃ K2, K.step ⟨xk, xa, xb⟩ = K2 := ⟨_, rfl⟩
          rw [hK2] at HDO HOK2
          clear hx hlt hl5 hK2 hi hi5
          go_wp2_with (first
            | (go_at_call 19; refine (HCP.out _ _ (hS.re [2, 3])).mono ?_; rintro e w1 ⟨q2, h2, rfl, hS1⟩; clear hS; have hS := hS1; clear hS1; replace hS := hS.re [4, 5, 2, 3])
            | (refine toList (by rfl) ?_; refine wp_of_reads (rLdRdA (f := rv) (x := ⟨xk, xa, xb⟩) (HRM.out _ _ hS) (rv_len m) _ _ (by rfl) _ (by rfl) (agOf (by rfl)) (szOf (by rfl)) i (by omega) HX.out (by omega)) ?_)
            | (go_at_call 11; refine (HDO.out p g q h _ _ hS).mono ?_; rintro e w1 ⟨rfl, hS1⟩; clear hS; have hS := hS1; clear hS1)
            | (go_at_call 11; refine (HDO.out p3 p2 q2 h2 _ _ (hS.re [6, 7, 4, 5])).mono ?_; rintro e w1 ⟨rfl, hS1⟩; clear hS; have hS := hS1; clear hS1))
          exact ⟨⟨i + 1, K2, by go_num, HLT.out, HL5.out, HOK2.out, (hS.re [2, 3]).drop.drop.re [2, 3, 4, 5]⟩, by simp [intOf]; have := HL5.out; omega⟩
        · have hcase : (¬ (i : Int) < (m.length : Int)) ∨ ((i : Int) < (m.length : Int) ∧ ¬ (i : Int) < 20) := by omega
          have hnl := HOK.out.l
          obtain ⟨N, hN⟩ : ∃ N, K.G.N.length = N := ⟨_, rfl⟩
          have hN3 : N ≤ 210 := by omega
          have HL := Lib.hid (fun w (L : List Asrt) (h2 : Sat W w (IsG g K.G :: L)) => len_any h2 (n := (N : Int)) (by rw [hN]))
          have HLB := Lib.hid (fun p g w (L : List Asrt) (z : Int) (h2 : Sat W w (IsK p g K :: IsG g K.G :: L)) => klabel_any h2 HOK.out z)
          have HOF := Lib.hid (fun w (L : List Asrt) (z : Int) (h2 : Sat W w (IsG g K.G :: L)) => of_any h2 HOK.out.g HOK.out.a z)
          clear hnl hN hgo hi hi5
          have H2 := Lib.hid hS
          rcases hcase with k3 | ⟨k3, k4⟩
          all_goals
            go_wp2
            go_loopw [14] (fun v wz => ∃ z : Int, v = .int .i64 z ∧ -1 ≤ z ∧ z ≤ (N : Int) + 1 ∧ Sat W wz [IsK p g K, IsG g K.G, IsQ q h K, IsR h K.G, IsK p3 p2 K, IsG p2 K.G]) (fun v _ => ((N : Int) + 1 - intOf v).toNat)
            case atStart => exact ⟨-1, rfl, by omega, by omega, H2.out⟩
            case round =>
              clear hS H2
              obtain ⟨z, rfl, hz1, hz2, hS⟩ := hrel
              have HLB1 := Lib.hid (fun w (L : List Asrt) (h2 : Sat W w (IsK p g K :: IsG g K.G :: L)) => HLB.out p g w L z h2)
              have HLB2 := Lib.hid (fun w (L : List Asrt) (h2 : Sat W w (IsK p3 p2 K :: IsG p2 K.G :: L)) => HLB.out p3 p2 w L z h2)
              have HOF1 := Lib.hid (fun w (L : List Asrt) (h2 : Sat W w (IsG g K.G :: L)) => HOF.out w L z h2)
              obtain ⟨y, hy⟩ : ∃ y, K.G.labI z = y := ⟨_, rfl⟩
              rw [hy] at HLB1 HLB2 HOF1
              clear hy
              by_cases hl : z ≤ (N : Int)
              · have HLE := Lib.hid hl
                go_wp2_with (first
                  | (go_at_call 15; refine (kgraph_any hS).mono ?_; rintro e w1 ⟨rfl, rfl⟩)
                  | (go_at_call 20; refine (HL.out _ _ (hS.re [1])).mono ?_; rintro e w1 ⟨rfl, rfl⟩)
                  | (go_at_call 21; refine (HLB1.out _ _ hS).mono ?_; rintro e w1 ⟨rfl, hS1⟩; clear hS; have hS := hS1; clear hS1)
                  | (go_at_call 21; refine (HLB2.out _ _ (hS.re [4, 5])).mono ?_; rintro e w1 ⟨rfl, hS1⟩; clear hS; have hS := hS1; clear hS1; replace hS := hS.re [2, 3, 4, 5])
                  | (go_at_call 22; refine (HOF1.out _ _ (hS.re [1])).mono ?_; rintro e w1 ⟨rfl, hS1⟩; clear hS; have hS := hS1; clear hS1; replace hS := hS.pull1))
                exact ⟨⟨z + 1, by go_num, by omega, by omega, hS⟩, by simp [intOf]; omega⟩
              · have k5 : ¬ z ≤ (N : Int) := hl
                go_wp2_with (first
                  | (go_at_call 15; refine (kgraph_any hS).mono ?_; rintro e w1 ⟨rfl, rfl⟩)
                  | (go_at_call 20; refine (HL.out _ _ (hS.re [1])).mono ?_; rintro e w1 ⟨rfl, rfl⟩)
                  | (go_at_call 14; refine (awake_any hS).mono ?_; rintro e w1 ⟨rfl, hS1⟩; clear hS; have hS := hS1; clear hS1))
                go_ret
                exact ⟨rfl, hS.map fun _ _ => trivial⟩

set_option maxRecDepth 100000 in
theorem VLabels.contract (H : Type) (enc : TypeId × Value → H) (W : World) (base : Nat) (args : Array Value) (ds gs : List (DataW H)) (before : List MemPlace)
    (hval : ∀ (j : Nat) t v, Tryz.f5.params[j]? = some t → args[j]? = some v → Value.okWide Tryz.prog W .any base t v)
    (hW : DataW.Whole enc Tryz.prog Tryz.f5.params.toList Rows.versionLabelsSpec.vars false W args.toList ds gs before)
    (hreach : (DataW.weightsEach Tryz.prog (Tryz.f5.params.toList ++ Rows.versionLabelsSpec.plain.varTypes Tryz.prog) (ds ++ gs)).all (· ≤ reachBytes) = true) :
    Calls Tryz.prog 5 args W fun e W' => ∃ v, e = .returned v ∧ Rows.versionLabelsSpec.post enc Tryz.prog Tryz.f5 false true false false W args v W' := by
  have hW' := hW
  obtain ⟨p, q, hA, hV, rfl, hfz, hnd⟩ := hW
  rw [Tryz.params5] at hA hval hreach
  obtain ⟨v0, vs0, d0, ds0, p0, q0, hargs, rfl, rfl, h0, r0⟩ := trodAll_cons hA
  obtain ⟨v1, vs1, d1, ds1, p1, q1, rfl, rfl, rfl, h1, r1⟩ := trodAll_cons r0
  obtain ⟨rfl, rfl, rfl⟩ := trodAll_nil r1
  obtain rfl : args = #[v0, v1] := by cases args; simp_all
  obtain ⟨rfl, rfl⟩ := trodVars_none hV
  obtain ⟨ao0, len0, cap0, rfl⟩ := okWide_slice Tryz.underlying22 (hval 0 22 v0 rfl rfl)
  obtain ⟨ao1, len1, cap1, rfl⟩ := okWide_slice Tryz.underlying22 (hval 1 22 v1 rfl rfl)
  obtain ⟨l, rfl, hr0, hl0⟩ := open_vops h0
  obtain ⟨m, rfl, hr1, hl1⟩ := open_vops h1
  refine (VLabels.walk l m ao0 ao1 cap0 cap1 W hr0 hr1).mono ?_
  refine fun e W' ⟨he, hS⟩ => ?_
  subst he
  exact ⟨_, rfl, law_post (tb := 4) (by kernel_rfl) (by kernel_rfl) rfl Tryz.underlying4 rfl hW' rfl hS⟩

theorem VLabels.own : ownKnob Tryz.prog.godebug = none := by kernel_rfl
set_option maxRecDepth 100000 in
theorem VLabels.lifted (os : Os) (started : os.Started) (H : Type) (enc : TypeId × Value → H) :
    ReturnsInHanded {} Tryz.checked os 5 .any (Rows.versionLabelsSpec.pre6 enc Tryz.prog Tryz.f5 Rows.versionLabelsRow.domain false) (Rows.versionLabelsSpec.post enc Tryz.prog Tryz.f5 false true false false) := by
  refine returnsInHanded_of_change_shaped (C := Tryz.checked) VLabels.own started (by kernel_rfl) Tryz.func5
    (ChangeSpec.witness6 (enc := enc) (C := Tryz.checked) false ⟨#[], #[.slice none 0 0, .slice none 0 0], []⟩ 8 (by kernel_rfl) (by kernel_rfl) (by kernel_rfl) (by kernel_rfl)) ?_
  intro W base args ds gs before hval hW _ hreach _ _
  exact VLabels.contract H enc W base args ds gs before hval hW hreach

theorem VLabels.holds : Rows.VersionLabelsSaid :=
  OpenClaim.holds_of_wide 5 Tryz.f5 rfl rfl rfl rfl rfl rfl rfl ⟨rfl, rfl, rfl, rfl, rfl⟩ rfl rfl rfl rfl rfl (by kernel_rfl) Tryz.func5 (by kernel_rfl)
    (of_decide_eq_true (by kernel_rfl)) (by unfold Func.isWrapper; first | (rw [if_pos (by decide +kernel)]; kernel_rfl) | (rw [if_neg (by decide +kernel)]; exact ⟨rfl, rfl⟩))
    (fun os started H enc _ => VLabels.lifted os started H enc)
end Go.Proofs.YtapodjhkpahdnaaGreat
