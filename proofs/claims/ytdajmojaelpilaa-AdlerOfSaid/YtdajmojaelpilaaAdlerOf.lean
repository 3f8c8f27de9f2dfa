/-
  For every sum and all bytes, AdlerOf answers true: no condition.
-/
import Derived.Test.YtdajmojaelpilaaAdler
namespace Go.Proofs.Ytdajmojaelpilaa
open Go.RowKit Go.Sep Go.ChangeShapes Go.WideShapes Go.ChangeAt

theorem Of.walk (s : Int) (h0 : 0 ≤ s) (h1 : s < 4294967296) (l : List UInt8) (v : Value) (W : World) (hr : Rd W v l.length 1 (bv l)) (hb : l.length ≤ 140737488355328) :
    Calls Try.prog 3 #[.int .u32 s, v] W fun e w' => e = .returned (.bool true) ∧ Sat W w' [] := by
  have hS := Sat.start W
  obtain ⟨s, rfl⟩ := Int.eq_ofNat_of_zero_le h0
  go_enter Try.func3, Try.ntmps3
  go_wp2_with (first
    | (go_at_call 9; refine (bytes_any hS l _ (hr.old hS) hb).mono ?_; rintro e w' ⟨v', rfl, hS1⟩; clear hS; have hS := hS1; clear hS1)
    | (go_at_call 10; refine (of_any l _ _ (hS.slRd Has.z)).mono ?_; rintro e w' ⟨rfl, rfl⟩)
    | (go_at_call 11; refine (rof_any l _ _ (hr.old hS)).mono ?_; rintro e w' ⟨rfl, rfl⟩)
    | (go_at_call 12; refine (more_any s (by omega) l _ _ (hS.slRd Has.z)).mono ?_; rintro e w' ⟨rfl, rfl⟩)
    | (go_at_call 13; refine (rmore_any s (by omega) l _ _ (hr.old hS)).mono ?_; rintro e w' ⟨rfl, rfl⟩)
    | (refine toList (by rfl) ?_; refine cvS _ _ _ (by rfl) _ (by rfl) strBytes (by first | exact hS.slRd Has.z | exact hr.old hS) ?_)
    | (go_at_call 14; refine (awake_any hS).mono ?_; rintro e w' ⟨rfl, hS1⟩; clear hS; have hS := hS1; clear hS1))
  go_ret
  exact ⟨by first | rfl | simp, hS.drop⟩

theorem Of.contract (H : Type) (enc : TypeId × Value → H) (W : World) (base : Nat) (args : Array Value) (ds gs : List (DataW H)) (before : List MemPlace)
    (hval : ∀ (j : Nat) t v, Try.f3.params[j]? = some t → args[j]? = some v → Value.okWide Try.prog W .any base t v)
    (hW : DataW.Whole enc Try.prog Try.f3.params.toList Rows.adlerOfSpec.vars false W args.toList ds gs before)
    (hreach : (DataW.weightsEach Try.prog (Try.f3.params.toList ++ Rows.adlerOfSpec.plain.varTypes Try.prog) (ds ++ gs)).all (· ≤ reachBytes) = true) :
    Calls Try.prog 3 args W fun e W' => ∃ v, e = .returned v ∧ Rows.adlerOfSpec.post enc Try.prog Try.f3 false true false false W args v W' := by
  have hW' := hW
  obtain ⟨p, q, hA, hV, rfl, hfz, hnd⟩ := hW
  rw [Try.params3] at hA hval hreach
  obtain ⟨v0, vs0, d0, ds0, p0, q0, hargs, rfl, rfl, h0, r0⟩ := trodAll_cons hA
  obtain ⟨v1, vs1, d1, ds1, p1, q1, rfl, rfl, rfl, h1, r1⟩ := trodAll_cons r0
  obtain ⟨rfl, rfl, rfl⟩ := trodAll_nil r1
  obtain rfl : args = #[v0, v1] := by cases args; simp_all
  obtain ⟨rfl, rfl⟩ := trodVars_none hV
  obtain ⟨a0, rfl, rfl, rfl, w0⟩ := open_int Try.underlying22 (hval 0 22 v0 rfl rfl) h0
  obtain ⟨ao, len, cap, rfl⟩ := okWide_slice Try.underlying23 (hval 1 23 v1 rfl rfl)
  obtain ⟨l, rfl, hr, _⟩ := open_bytes Try.underlying23 Try.underlying5 (by kernel_rfl) h1
  have hb : l.length ≤ 140737488351232 := by
    have := reach_slice (sz := 1) h1 Try.underlying23 (by kernel_rfl) (mem_weights hreach 1 rfl rfl)
    omega
  have hs : 0 ≤ a0 ∧ a0 ≤ 4294967295 := by simpa [Lit.wf, IntKind.min, IntKind.max, IntKind.signed, IntKind.bits] using w0
  refine (Of.walk a0 (by omega) (by omega) l _ W hr (by omega)).mono ?_
  refine fun e W' ⟨he, hS⟩ => ?_
  subst he
  exact ⟨_, rfl, law_post (tb := 4) (by kernel_rfl) (by kernel_rfl) rfl Try.underlying4 rfl hW' rfl hS⟩

theorem Of.own : ownKnob Try.prog.godebug = none := by kernel_rfl
set_option maxRecDepth 100000 in
theorem Of.lifted (os : Os) (started : os.Started) (H : Type) (enc : TypeId × Value → H) :
    ReturnsInHanded {} Try.checked os 3 .any (Rows.adlerOfSpec.pre6 enc Try.prog Try.f3 Rows.adlerOfRow.domain false) (Rows.adlerOfSpec.post enc Try.prog Try.f3 false true false false) := by
  refine returnsInHanded_of_change_shaped (C := Try.checked) Of.own started (by kernel_rfl) Try.func3
    (ChangeSpec.witness6 (enc := enc) (C := Try.checked) false ⟨#[], #[.int .u32 0, .slice none 0 0], []⟩ 8 (by kernel_rfl) (by kernel_rfl) (by kernel_rfl) (by kernel_rfl)) ?_
  intro W base args ds gs before hval hW _ hreach _ _
  exact Of.contract H enc W base args ds gs before hval hW hreach

theorem Of.holds : Rows.AdlerOfSaid :=
  OpenClaim.holds_of_wide 3 Try.f3 rfl rfl rfl rfl rfl rfl rfl ⟨rfl, rfl, rfl, rfl, rfl⟩ rfl rfl rfl rfl rfl (by kernel_rfl) Try.func3 (by kernel_rfl)
    (of_decide_eq_true (by kernel_rfl)) (by unfold Func.isWrapper; first | (rw [if_pos (by decide +kernel)]; kernel_rfl) | (rw [if_neg (by decide +kernel)]; exact ⟨rfl, rfl⟩))
    (fun os started H enc _ => Of.lifted os started H enc)
end Go.Proofs.Ytdajmojaelpilaa
