/-
  For every first block, RecordSupers answers true: no condition.
-/
import Derived.Test.YtcabgeljdgcdlaaRecLaw2
namespace Go.Proofs.Ytcabgeljdgcdlaa
open Go.RowKit Go.Sep Go.ChangeShapes Go.WideShapes Go.ChangeAt
set_option linter.unusedSimpArgs false
set_option linter.unusedVariables false
attribute [local irreducible] Go.Oper.wp Go.wpList Go.Calls Go.Code.wp Go.Sep.Reg
set_option maxRecDepth 20000 in
set_option maxHeartbeats 4000000 in
theorem Supers.walk (s : SupD) (W : World) :
    Calls Try.prog 10 #[.agg (sv s).toArray] W fun e w' => e = .returned (.bool true) ∧ Sat W w' [] := by
  have hS := Sat.start W
  cases hok : okSup s
  · have HOK := Lib.hid hok
    have HPB := Lib.hid (supB_no hok)
    clear hok
    go_enter Try.func10, Try.ntmps10
    go_wp2_with (first
      | (refine toList (by rfl) ?_; refine bx hS _ _ (by rfl) _ (by first | exact evC | exact evT (by rfl)) ?_; intro ps w1 hS1; clear hS; have hS := hS1; clear hS1; rw [cells_agg] at hS)
      | (refine toList (by rfl) ?_; refine wp_of_reads (rLdA hS _ _ (by rfl) _ _ (by rfl) (agOf (by rfl)) (szOf (by rfl)) (by first | exact Has.z | exact Has.s Has.z | exact Has.s (Has.s Has.z) | exact Has.s (Has.s (Has.s Has.z)) | exact Has.s (Has.s (Has.s (Has.s Has.z))) | exact Has.s (Has.s (Has.s (Has.s (Has.s Has.z))))) (vs := sv s) (by rfl) (by rfl)) ?_)
      | (go_at_call 50; refine (sput_s hS s).mono ?_; rintro e w1 ⟨v1, rfl, hS1⟩; rw [HOK.out]; rw [HPB.out] at hS1; clear hS; have hS := hS1; clear hS1)
      | (go_at_call 51; refine (ref_sput_s hS s).mono ?_; rintro e w1 ⟨v2, rfl, hS1⟩; rw [HPB.out] at hS1; clear hS; have hS := hS1; clear hS1; obtain ⟨ao3, c3, rfl, _⟩ := hS.slShape (k := 0) rfl; dsimp only [List.length_nil] at hS ⊢)
      | (refine toList (by rfl) ?_; refine cvS _ _ _ (by rfl) _ (by rfl) strBytes (l := []) (by first | exact hS.slRd Has.z | exact hS.slRd (Has.s Has.z)) ?_)
      | (go_at_call 36; refine (awake_any hS).mono ?_; rintro e w1 ⟨rfl, hS1⟩; clear hS; have hS := hS1; clear hS1))
    go_ret
    exact ⟨rfl, hS.drop.drop.drop⟩
  · have HOK := Lib.hid hok
    have HPB := Lib.hid (supB_yes hok)
    have HG := Lib.hid (getSOk_enc hok)
    have hel := encS_len s
    obtain ⟨d, hd⟩ : ∃ d, encS s = d := ⟨_, rfl⟩
    rw [hd] at hel HPB HG
    have hdi : 0 < (d.length : Int) := by omega
    have HDL := Lib.hid (show d.length ≤ 140737488355328 by omega)
    clear hok hd hel
    obtain ⟨s1, s2, s3, s4, s5, s6, s7⟩ := s
    go_enter Try.func10, Try.ntmps10
    go_wp2_with (first
      | (refine toList (by rfl) ?_; refine al hS _ (by rfl) (zrOf (by rfl)) ?_; intro px w1 hS1; clear hS; have hS := hS1; clear hS1; rw [cells_agg] at hS)
      | (refine toList (by rfl) ?_; refine bx hS _ _ (by rfl) _ (by first | exact evC | exact evT (by rfl)) ?_; intro ps w1 hS1; clear hS; have hS := hS1; clear hS1; rw [cells_agg] at hS)
      | (refine toList (by rfl) ?_; refine wp_of_reads (rLdA hS _ _ (by rfl) _ _ (by rfl) (agOf (by rfl)) (szOf (by rfl)) (by first | exact Has.z | exact Has.s Has.z | exact Has.s (Has.s Has.z) | exact Has.s (Has.s (Has.s Has.z)) | exact Has.s (Has.s (Has.s (Has.s Has.z))) | exact Has.s (Has.s (Has.s (Has.s (Has.s Has.z))))) (vs := sv ⟨s1, s2, s3, s4, s5, s6, s7⟩) (by rfl) (by rfl)) ?_; dsimp only [sv])
      | (go_at_call 50; refine (sput_s hS ⟨s1, s2, s3, s4, s5, s6, s7⟩).mono ?_; rintro e w1 ⟨v1, rfl, hS1⟩; rw [HOK.out]; rw [HPB.out] at hS1; clear hS; have hS := hS1; clear hS1; obtain ⟨ao1, c1, rfl, _⟩ := hS.slShape (k := 0) rfl)
      | (go_at_call 51; refine (ref_sput_s hS ⟨s1, s2, s3, s4, s5, s6, s7⟩).mono ?_; rintro e w1 ⟨v2, rfl, hS1⟩; rw [HPB.out] at hS1; clear hS; have hS := hS1; clear hS1; obtain ⟨ao3, c3, rfl, _⟩ := hS.slShape (k := 0) rfl)
      | (refine toList (by rfl) ?_; refine cvS _ _ _ (by rfl) _ (by rfl) strBytes (l := d) (by first | exact hS.slRd Has.z | exact hS.slRd (Has.s Has.z)) ?_)
      | (go_at_call 48; refine (sget_any hS d _ _ (fun w h => h.slRd (Has.s Has.z)) HDL.out).mono ?_; rintro e w1 ⟨rfl, hS1⟩; rw [HG.out.1, HG.out.2]; clear hS; have hS := hS1; clear hS1; dsimp only [sv])
      | (refine toList (by rfl) ?_; refine stW hS _ _ _ (by rfl) (by rfl) (sv ⟨s1, s2, s3, s4, s5, s6, s7⟩) (by rfl) (sv_all _) (szOf (by rfl)) Has.z (by rfl) ?_; intro w1 hS1; clear hS; have hS := hS1; clear hS1; dsimp only [List.set_cons_zero, List.set_cons_succ] at hS)
      | (go_at_call 36; refine (awake_any hS).mono ?_; rintro e w1 ⟨rfl, hS1⟩; clear hS; have hS := hS1; clear hS1))
    go_ret
    exact ⟨rfl, hS.drop.drop.drop.drop⟩

set_option maxRecDepth 100000 in
theorem Supers.contract (H : Type) (enc : TypeId × Value → H) (W : World) (base : Nat) (args : Array Value) (ds gs : List (DataW H)) (before : List MemPlace)
    (hval : ∀ (j : Nat) t v, Try.f10.params[j]? = some t → args[j]? = some v → Value.okWide Try.prog W .any base t v)
    (hW : DataW.Whole enc Try.prog Try.f10.params.toList Rows.recordSupersSpec.vars false W args.toList ds gs before)
    (hreach : (DataW.weightsEach Try.prog (Try.f10.params.toList ++ Rows.recordSupersSpec.plain.varTypes Try.prog) (ds ++ gs)).all (· ≤ reachBytes) = true) :
    Calls Try.prog 10 args W fun e W' => ∃ v, e = .returned v ∧ Rows.recordSupersSpec.post enc Try.prog Try.f10 false true false false W args v W' := by
  have hW' := hW
  obtain ⟨p, q, hA, hV, rfl, hfz, hnd⟩ := hW
  rw [Try.params10] at hA hval hreach
  obtain ⟨v0, vs0, d0, ds0, p0, q0, hargs, rfl, rfl, h0, r0⟩ := trodAll_cons hA
  obtain ⟨rfl, rfl, rfl⟩ := trodAll_nil r0
  obtain rfl : args = #[v0] := by cases args; simp_all
  obtain ⟨rfl, rfl⟩ := trodVars_none hV
  obtain ⟨s, rfl⟩ := open_sup (hval 0 80 v0 rfl rfl) h0
  refine (Supers.walk s W).mono ?_
  refine fun e W' ⟨he, hS⟩ => ?_
  subst he
  exact ⟨_, rfl, law_post (tb := 4) (by kernel_rfl) (by kernel_rfl) rfl Try.underlying4 rfl hW' rfl hS⟩

theorem Supers.own : ownKnob Try.prog.godebug = none := by kernel_rfl
set_option maxRecDepth 100000 in
theorem Supers.lifted (os : Os) (started : os.Started) (H : Type) (enc : TypeId × Value → H) :
    ReturnsInHanded {} Try.checked os 10 .any (Rows.recordSupersSpec.pre6 enc Try.prog Try.f10 Rows.recordSupersRow.domain false) (Rows.recordSupersSpec.post enc Try.prog Try.f10 false true false false) := by
  refine returnsInHanded_of_change_shaped (C := Try.checked) Supers.own started (by kernel_rfl) Try.func10
    (ChangeSpec.witness6 (enc := enc) (C := Try.checked) false ⟨#[], #[.agg #[.int .i64 0, .int .i64 0, .int .i64 0, .int .i64 0, .int .i64 0, .int .i64 0, .int .i64 0]], []⟩ 8 (by kernel_rfl) (by kernel_rfl) (by kernel_rfl) (by kernel_rfl)) ?_
  intro W base args ds gs before hval hW _ hreach _ _
  exact Supers.contract H enc W base args ds gs before hval hW hreach

theorem Supers.holds : Rows.RecordSupersSaid :=
  OpenClaim.holds_of_wide 10 Try.f10 rfl rfl rfl rfl rfl rfl rfl ⟨rfl, rfl, rfl, rfl, rfl⟩ rfl rfl rfl rfl rfl (by kernel_rfl) Try.func10 (by kernel_rfl)
    (of_decide_eq_true (by kernel_rfl)) (by unfold Func.isWrapper; first | (rw [if_pos (by decide +kernel)]; kernel_rfl) | (rw [if_neg (by decide +kernel)]; exact ⟨rfl, rfl⟩))
    (fun os started H enc _ => Supers.lifted os started H enc)
end Go.Proofs.Ytcabgeljdgcdlaa
