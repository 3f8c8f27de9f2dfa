/-
  For all scripts, VersionReplays answers true: no condition.
-/
import Derived.Test.YtapodjhkpahdnaaGreatVsAwake
import Derived.Test.YtapodjhkpahdnaaGreatVsOpen
import Derived.Test.YtapodjhkpahdnaaGreatVsApplied
import Derived.Test.YtapodjhkpahdnaaGreatGrSame
namespace Go.Proofs.YtapodjhkpahdnaaGreat
open Go.RowKit Go.Sep Go.ChangeShapes Go.WideShapes Go.ChangeAt
set_option linter.unusedSimpArgs false
set_option linter.unusedVariables false
attribute [local irreducible] Go.Oper.wp Go.wpList Go.Calls Go.Code.wp Go.Sep.Reg
attribute [local irreducible] IsG IsK IsQ IsR
set_option maxRecDepth 20000 in
set_option maxHeartbeats 4000000 in
theorem Replays.walk (l : List RecD) (ao : Option Addr) (c : Nat) (W : World) (hr : Rd W (.slice ao l.length c) l.length 3 (l.flatMap rv)) :
    Calls Tryz.prog 3 #[.slice ao l.length c] W fun e w' => e = .returned (.bool true) ∧ Sat W w' [] := by
  have hS := Sat.start W
  have HR : Hid (∀ u (L : List Asrt), Sat W u L → Rd u (.slice ao l.length c) l.length 3 (l.flatMap rv)) := Lib.hid (fun u L h => hr.old h)
  obtain ⟨_, _, he, hc1, hc2, _, h5⟩ := hr
  simp only [Value.slice.injEq, true_and] at he
  obtain ⟨rfl, rfl⟩ := he
  have H5 := Lib.hid h5
  clear h5
  go_enter Tryz.func3, Tryz.ntmps3
  go_wp2_with (first
    | (go_at_call 6; refine (knew_any hS).mono ?_; rintro e w1 ⟨p, rfl, g, hS1⟩; clear hS; have hS := hS1; clear hS1)
    | (go_at_call 7; refine (qnew_any hS).mono ?_; rintro e w1 ⟨q, h, rfl, hS1⟩; clear hS; have hS := hS1; clear hS1; replace hS := hS.re [2, 3]))
  have H0 := Lib.hid (hS.tbNil (α := RecD) (f := rv) (E := 64) (sz := 3))
  go_loopw [5, 6] (fun v5 v wz => ∃ (i : Nat) (K : KD) (R : List RecD), v = .int .i64 i ∧ i ≤ l.length ∧ i ≤ 60 ∧ K.Ok (3 * i) ∧ Gr.new.dn (R ++ K.R) = some K.G ∧ R.length + K.R.length ≤ 3 * i ∧ Sat W wz [Tb 64 3 rv v5 R, IsK p g K, IsG g K.G, IsQ q h K, IsR h K.G]) (fun _ v _ => 60 - (intOf v).toNat)
  case atStart => exact ⟨0, KD.new, [], rfl, by omega, by omega, KD.new_ok, rfl, by simp [KD.new], H0.out⟩
  case round =>
    clear hS H0
    obtain ⟨i, K, R, rfl, hi, hi5, hok, hdn, hrl, hS⟩ := hrel
    have HOK := Lib.hid hok
    have HDN := Lib.hid hdn
    clear hok hdn
    obtain ⟨av, cv0, rfl, hcv⟩ := hS.tbShape (k := 0) rfl
    by_cases hgo : i < l.length ∧ i < 60
    · obtain ⟨hlt, hl5⟩ := hgo
      obtain ⟨bb, off, rfl, _⟩ := H5.out (by omega)
      obtain ⟨⟨xk, xa, xb⟩, hx⟩ : ∃ x, l[i]? = some x := ⟨_, List.getElem?_eq_getElem hlt⟩
      have j1 : (i : Int) < (l.length : Int) := by omega
      have j2 : (i : Int) < 60 := by omega
      have HX := Lib.hid hx
      have HLT := Lib.hid hlt
      have HL5 := Lib.hid hl5
      have HRL := Lib.hid hrl
      obtain ⟨t, ht⟩ : ∃ t, xk % 11 = t := ⟨_, rfl⟩
      have HPL := Lib.hid (fun w => by have := place_any xk 11 (by decide) (by decide) w; rw [ht] at this; exact this)
      by_cases h9 : t = 9
      · subst h9
        have hrk := HOK.out.r
        clear hx hlt hl5 ht hcv
        go_wp2_with (first
          | (refine toList (by rfl) ?_; refine al hS _ (by rfl) (zrOf (by rfl)) ?_; intro px w1 hS1; clear hS; have hS := hS1; clear hS1; rw [cells_agg] at hS)
          | (refine toList (by rfl) ?_; refine stW hS _ _ _ (by rfl) (by rfl) (rv ⟨xk, xa, xb⟩) (by rfl) (rv_all _) (szOf (by rfl)) Has.z (by rfl) ?_; intro w1 hS1; clear hS; have hS := hS1; clear hS1; dsimp only [List.set_cons_zero] at hS)
          | (refine toList (by rfl) ?_; refine wp_of_reads (rLdA hS _ _ (by rfl) _ _ (by rfl) (agOf (by rfl)) (szOf (by rfl)) Has.z (vs := rv ⟨xk, xa, xb⟩) (by rfl) (by rfl)) ?_)
          | (refine toList (by rfl) ?_; refine ld hS _ _ (by rfl) _ _ (by rfl) (agOf (by rfl)) Has.z (by rfl) ?_)
          | (refine toList (by rfl) ?_; refine wp_of_reads (rLdRdA (f := rv) (x := ⟨xk, xa, xb⟩) (HR.out _ _ hS) (rv_len l) _ _ (by rfl) _ (by rfl) (agOf (by rfl)) (szOf (by rfl)) i (by omega) HX.out (by omega)) ?_)
          | (go_at_call 8; refine (HPL.out _).mono ?_; rintro e w1 ⟨rfl, rfl⟩)
          | (go_at_call 9; refine (krecords_any (hS.re [2, 3])).mono ?_; rintro e w1 ⟨v1, rfl, hS1⟩; clear hS; have hS := hS1; clear hS1; obtain ⟨a1, c1, rfl, _⟩ := hS.tbShape (k := 0) rfl)
          | (refine toList (by rfl) ?_; refine apTbS (f := rv) hS _ _ _ _ (by rfl) _ _ (by rfl) (by rfl) (elOf (by rfl)) (by rfl) (by decide) (inOf (by rfl)) (Has.s (Has.s (Has.s (Has.s Has.z)))) K.R (by exact rv_len _) (by exact .inl (hS.tbRd (k := 0) rfl)) (by exact rv_one _) (by omega) (by omega) ?_; intro ao5 c5 w1 hcap5 hS1; clear hS; have hS := hS1; clear hS1; dsimp only [List.set_cons_zero, List.set_cons_succ] at hS)
          | (go_at_call 10; refine (qrecords_any (hS.re [5, 6])).mono ?_; rintro e w1 ⟨v2, rfl, hS1⟩; clear hS; have hS := hS1; clear hS1))
        have h9 := (hS.re [7, 4, 5, 1, 2]).re [5, 6, 7] |>.drop.drop.drop
        rw [List.length_append] at h9
        exact ⟨⟨i + 1, K.clean, R ++ K.R, by go_num, HLT.out, HL5.out, HOK.out.clean.mono (by omega), by show Gr.new.dn (R ++ K.R ++ []) = some K.G; rw [List.append_nil]; exact HDN.out, by simp [KD.clean]; have := HRL.out; omega, by first | exact h9 | (rw [List.length_append]; exact h9)⟩, by simp [intOf]; have := HL5.out; omega⟩
      · have e1 : (t == 9) = false := beq_eq_false_iff_ne.2 h9
        have HDO := Lib.hid (fun w (L : List Asrt) (h2 : Sat W w (IsK p g K :: IsG g K.G :: IsQ q h K :: IsR h K.G :: L)) => do_any h2 HOK.out (by omega) ⟨xk, xa, xb⟩)
        have HOK2 := Lib.hid ((HOK.out.step (by omega) ⟨xk, xa, xb⟩).mono (show 3 * i + 3 ≤ 3 * (i + 1) by omega))
        have hext := HOK.out.ext_step ⟨xk, xa, xb⟩ (by show xk % 11 ≠ 9; rw [ht]; exact h9)
        obtain ⟨K2, hK2⟩ : ∃ K2, K.step ⟨xk, xa, xb⟩ = K2 := ⟨_, rfl⟩
        rw [hK2] at HDO HOK2 hext
        have HDN2 := Lib.hid (show Gr.new.dn (R ++ K2.R) = some K2.G ∧ R.length + K2.R.length ≤ 3 * (i + 1) by
          obtain ⟨e, e1, e2, e3⟩ := hext
          rw [e1, ← List.append_assoc]
          exact ⟨Gr.dn_trans HDN.out e2, by simp; omega⟩)
        clear hx hlt hl5 ht hcv h9 hext hK2 hrl
        go_wp2_with (first
          | (refine toList (by rfl) ?_; refine al hS _ (by rfl) (zrOf (by rfl)) ?_; intro px w1 hS1; clear hS; have hS := hS1; clear hS1; rw [cells_agg] at hS)
          | (refine toList (by rfl) ?_; refine stW hS _ _ _ (by rfl) (by rfl) (rv ⟨xk, xa, xb⟩) (by rfl) (rv_all _) (szOf (by rfl)) Has.z (by rfl) ?_; intro w1 hS1; clear hS; have hS := hS1; clear hS1; dsimp only [List.set_cons_zero] at hS)
          | (refine toList (by rfl) ?_; refine wp_of_reads (rLdA hS _ _ (by rfl) _ _ (by rfl) (agOf (by rfl)) (szOf (by rfl)) Has.z (vs := rv ⟨xk, xa, xb⟩) (by rfl) (by rfl)) ?_)
          | (refine toList (by rfl) ?_; refine ld hS _ _ (by rfl) _ _ (by rfl) (agOf (by rfl)) Has.z (by rfl) ?_)
          | (refine toList (by rfl) ?_; refine wp_of_reads (rLdRdA (f := rv) (x := ⟨xk, xa, xb⟩) (HR.out _ _ hS) (rv_len l) _ _ (by rfl) _ (by rfl) (agOf (by rfl)) (szOf (by rfl)) i (by omega) HX.out (by omega)) ?_)
          | (go_at_call 8; refine (HPL.out _).mono ?_; rintro e w1 ⟨rfl, rfl⟩)
          | (go_at_call 11; refine (HDO.out _ _ (hS.re [2, 3, 4, 5])).mono ?_; rintro e w1 ⟨rfl, hS1⟩; clear hS; have hS := hS1; clear hS1))
        exact ⟨⟨i + 1, K2, R, by go_num, HLT.out, HL5.out, HOK2.out, HDN2.out.1, HDN2.out.2, (hS.re [5, 0, 1, 2, 3, 4]).re [5] |>.drop⟩, by simp [intOf]; have := HL5.out; omega⟩
    · have hrl180 : R.length + K.R.length ≤ 180 := by omega
      have hcase : (¬ (i : Int) < (l.length : Int)) ∨ ((i : Int) < (l.length : Int) ∧ ¬ (i : Int) < 60) := by omega
      have hok3 := HOK.out.mono (show 3 * i ≤ 3 * 60 by omega)
      clear HOK hi hi5
      have HOK := Lib.hid hok3
      clear hok3
      have hrk := HOK.out.r
      obtain ⟨R2, hR2⟩ : ∃ R2, R ++ K.R = R2 := ⟨_, rfl⟩
      have hr2l : R2.length ≤ 200 := by rw [← hR2, List.length_append]; omega
      have HDN2 := HDN.out
      rw [hR2] at HDN2
      have HD2 := Lib.hid HDN2
      have HR2 := Lib.hid hR2
      have HSG := Lib.hid (fun p2 w (L : List Asrt) (h2 : Sat W w (IsG p2 K.G :: IsR h K.G :: L)) => sameg_any h2 HOK.out.g)
      clear hgo HDN2 hR2 hcv
      rcases hcase with k1 | ⟨k1, k2⟩
      all_goals
        go_wp2_with (first
          | (go_at_call 9; refine (krecords_any (hS.re [1, 2])).mono ?_; rintro e w1 ⟨v1, rfl, hS1⟩; clear hS; have hS := hS1; clear hS1; obtain ⟨a1, c1, rfl, _⟩ := hS.tbShape (k := 0) rfl)
          | (refine toList (by rfl) ?_; refine apTbS (f := rv) hS _ _ _ _ (by rfl) _ _ (by rfl) (by rfl) (elOf (by rfl)) (by rfl) (by decide) (inOf (by rfl)) (Has.s (Has.s (Has.s Has.z))) K.R (by exact rv_len _) (by exact .inl (hS.tbRd (k := 0) rfl)) (by exact rv_one _) (by omega) (by omega) ?_; intro ao5 c5 w1 hcap5 hS1; clear hS; have hS := hS1; clear hS1; dsimp only [List.set_cons_zero, List.set_cons_succ] at hS; rw [HR2.out] at hS ⊢)
          | (go_at_call 12; refine (applied_any hS R2 _ _ (fun w h => h.tbRd (k := 3) rfl) (by omega) HD2.out).mono ?_; rintro e w1 ⟨p2, rfl, hS1⟩; clear hS; have hS := hS1; clear hS1; obtain ⟨v0, hO⟩ := IsQ.open (hS.re [5, 6]); clear hS; have hS := hO; clear hO)
          | (refine toList (by rfl) ?_; refine ld hS _ _ (by rfl) _ _ (by rfl) (agOf (by rfl)) (by first | exact Has.z | exact Has.s Has.z | exact Has.s (Has.s Has.z) | exact Has.s (Has.s (Has.s Has.z)) | exact Has.s (Has.s (Has.s (Has.s Has.z))) | exact Has.s (Has.s (Has.s (Has.s (Has.s Has.z))))) (by rfl) ?_)
          | (go_at_call 13; refine (HSG.out _ _ _ (hS.re [3, 1])).mono ?_; rintro e w1 ⟨rfl, hS1⟩; clear hS; have hS := hS1; clear hS1)
          | (go_at_call 14; refine (awake_any hS).mono ?_; rintro e w1 ⟨rfl, hS1⟩; clear hS; have hS := hS1; clear hS1))
        go_ret
        exact ⟨by simp, hS.map fun _ _ => trivial⟩

set_option maxRecDepth 100000 in
theorem Replays.contract (H : Type) (enc : TypeId × Value → H) (W : World) (base : Nat) (args : Array Value) (ds gs : List (DataW H)) (before : List MemPlace)
    (hval : ∀ (j : Nat) t v, Tryz.f3.params[j]? = some t → args[j]? = some v → Value.okWide Tryz.prog W .any base t v)
    (hW : DataW.Whole enc Tryz.prog Tryz.f3.params.toList Rows.versionReplaysSpec.vars false W args.toList ds gs before)
    (hreach : (DataW.weightsEach Tryz.prog (Tryz.f3.params.toList ++ Rows.versionReplaysSpec.plain.varTypes Tryz.prog) (ds ++ gs)).all (· ≤ reachBytes) = true) :
    Calls Tryz.prog 3 args W fun e W' => ∃ v, e = .returned v ∧ Rows.versionReplaysSpec.post enc Tryz.prog Tryz.f3 false true false false W args v W' := by
  have hW' := hW
  obtain ⟨p, q, hA, hV, rfl, hfz, hnd⟩ := hW
  rw [Tryz.params3] at hA hval hreach
  obtain ⟨v0, vs0, d0, ds0, p0, q0, hargs, rfl, rfl, h0, r0⟩ := trodAll_cons hA
  obtain ⟨rfl, rfl, rfl⟩ := trodAll_nil r0
  obtain rfl : args = #[v0] := by cases args; simp_all
  obtain ⟨rfl, rfl⟩ := trodVars_none hV
  obtain ⟨ao0, len0, cap0, rfl⟩ := okWide_slice Tryz.underlying22 (hval 0 22 v0 rfl rfl)
  obtain ⟨l, rfl, hr0, hl0⟩ := open_vops h0
  refine (Replays.walk l ao0 cap0 W hr0).mono ?_
  refine fun e W' ⟨he, hS⟩ => ?_
  subst he
  exact ⟨_, rfl, law_post (tb := 4) (by kernel_rfl) (by kernel_rfl) rfl Tryz.underlying4 rfl hW' rfl hS⟩

theorem Replays.own : ownKnob Tryz.prog.godebug = none := by kernel_rfl
set_option maxRecDepth 100000 in
theorem Replays.lifted (os : Os) (started : os.Started) (H : Type) (enc : TypeId × Value → H) :
    ReturnsInHanded {} Tryz.checked os 3 .any (Rows.versionReplaysSpec.pre6 enc Tryz.prog Tryz.f3 Rows.versionReplaysRow.domain false) (Rows.versionReplaysSpec.post enc Tryz.prog Tryz.f3 false true false false) := by
  refine returnsInHanded_of_change_shaped (C := Tryz.checked) Replays.own started (by kernel_rfl) Tryz.func3
    (ChangeSpec.witness6 (enc := enc) (C := Tryz.checked) false ⟨#[], #[.slice none 0 0], []⟩ 8 (by kernel_rfl) (by kernel_rfl) (by kernel_rfl) (by kernel_rfl)) ?_
  intro W base args ds gs before hval hW _ hreach _ _
  exact Replays.contract H enc W base args ds gs before hval hW hreach

theorem Replays.holds : Rows.VersionReplaysSaid :=
  OpenClaim.holds_of_wide 3 Tryz.f3 rfl rfl rfl rfl rfl rfl rfl ⟨rfl, rfl, rfl, rfl, rfl⟩ rfl rfl rfl rfl rfl (by kernel_rfl) Tryz.func3 (by kernel_rfl)
    (of_decide_eq_true (by kernel_rfl)) (by unfold Func.isWrapper; first | (rw [if_pos (by decide +kernel)]; kernel_rfl) | (rw [if_neg (by decide +kernel)]; exact ⟨rfl, rfl⟩))
    (fun os started H enc _ => Replays.lifted os started H enc)
end Go.Proofs.YtapodjhkpahdnaaGreat
