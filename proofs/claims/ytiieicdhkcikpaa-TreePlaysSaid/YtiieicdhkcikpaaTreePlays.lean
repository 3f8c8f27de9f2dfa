/-
  For all scripts, TreePlays answers true: no condition.
-/
import Derived.Test.YtiieicdhkcikpaaMDo
import Derived.Test.YtiieicdhkcikpaaTrSame
import Derived.Test.YtiieicdhkcikpaaMLaw
namespace Go.Proofs.Ytiieicdhkcikpaa
open Go.RowKit Go.Sep Go.ChangeShapes Go.WideShapes Go.ChangeAt
set_option linter.unusedSimpArgs false
set_option linter.unusedVariables false
attribute [local irreducible] Go.Oper.wp Go.wpList Go.Calls Go.Code.wp Go.Sep.Reg
attribute [local irreducible] IsT IsW
set_option maxRecDepth 20000 in
set_option maxHeartbeats 2000000 in
theorem Plays.walk (l : List TOp) (ao : Option Addr) (c : Nat) (W : World) (hr : Rd W (.slice ao l.length c) l.length 5 (l.flatMap opv)) (hx : ∀ x ∈ l, x.Ok W) :
    Calls Try.prog 5 #[.slice ao l.length c] W fun e w' => e = .returned (.bool true) ∧ Sat W w' [] := by
  have hS := Sat.start W
  have HR := Lib.hid (fun u (L : List Asrt) (h : Sat W u L) => hr.old h)
  obtain ⟨_, _, he, hc1, hc2, _, h5⟩ := hr
  simp only [Value.slice.injEq, true_and] at he
  obtain ⟨rfl, rfl⟩ := he
  have H5 := Lib.hid h5
  have HOX := Lib.hid hx
  clear h5 hx
  go_enter Try.func5, Try.ntmps5
  go_wp2_with (first
    | (go_at_call 10; refine (tnew_any hS).mono ?_; rintro r w1 ⟨p, rfl, hS1⟩; clear hS; have hS := hS1; clear hS1)
    | (go_at_call 21; refine (rnew_any hS).mono ?_; rintro r w1 ⟨q, rfl, hS1⟩; clear hS; have hS := hS1; clear hS1; replace hS := hS.pull1))
  have H0 := Lib.hid hS
  go_loopw [5] (fun v wz => ∃ (i : Nat) (T : TrD), v = .int .i64 i ∧ i ≤ l.length ∧ i ≤ 80 ∧ T.Ok ∧ Sat W wz [IsT p T, IsW q T]) (fun v _ => 80 - (intOf v).toNat)
  case atStart => exact ⟨0, TrD.new, rfl, by omega, by omega, TrD.new_ok, H0.out⟩
  case round =>
    clear hS H0
    obtain ⟨i, T, rfl, hi, hi5, hok, hS⟩ := hrel
    have HOK := Lib.hid hok
    by_cases hgo : i < l.length ∧ i < 80
    · obtain ⟨hlt, hl5⟩ := hgo
      obtain ⟨bb, off, rfl, _⟩ := H5.out (by omega)
      obtain ⟨x, hx⟩ : ∃ x, l[i]? = some x := ⟨_, List.getElem?_eq_getElem hlt⟩
      have j1 : (i : Int) < (l.length : Int) := by omega
      have j2 : (i : Int) < 80 := by omega
      have HX := Lib.hid hx
      have HLT := Lib.hid hlt
      have HL5 := Lib.hid hl5
      have hok2 := hok.stepO x
      have HDO := Lib.hid (fun w (h2 : Sat W w [IsT p T, IsW q T]) => do_any h2 hok x (HOX.out x (List.mem_of_getElem? hx)))
      obtain ⟨T2, hT2⟩ : ∃ T2, T.step x = T2 := ⟨_, rfl⟩
      rw [hT2] at HDO hok2
      have HOK2 := Lib.hid hok2
      have HSM := Lib.hid (fun w (h2 : Sat W w [IsT p T2, IsW q T2]) => same_tree (l2 := T2.last) h2 hok2 hok2.lst)
      obtain ⟨xk, lv, xl, tv, to, xw, rv, raw⟩ := x
      have HRX := Lib.hid (fun u (L : List Asrt) (h : Sat W u L) => HR.out u L h)
      clear hx hlt hl5 hT2 hi hi5 hok hok2
      go_wp2_with (first
        | (refine toList (by rfl) ?_; refine wp_of_reads (rLdRdA (f := opv) (x := ⟨xk, lv, xl, tv, to, xw, rv, raw⟩) (HR.out _ _ hS) (opv_len l) _ _ (by rfl) _ (by rfl) (agOf (by rfl)) (szOf (by rfl)) i (by omega) HX.out (by omega)) ?_)
        | (go_at_call 22; refine (HDO.out _ hS).mono ?_; rintro e w1 ⟨rfl, hS1⟩; clear hS; have hS := hS1; clear hS1)
        | (go_at_call 23; refine (HSM.out _ hS).mono ?_; rintro e w1 ⟨rfl, hS1⟩; clear hS; have hS := (show Sat W w1 [IsT p T2, IsW q T2] from hS1); clear hS1))
      exact ⟨⟨i + 1, T2, by go_num, HLT.out, HL5.out, HOK2.out, hS⟩, by simp [intOf]; have := HL5.out; omega⟩
    · have hcase : (decide ((i : Int) < (l.length : Int)) = false ∧ decide (i < l.length) = false ∧ ¬ (i : Int) < (l.length : Int)) ∨ ((decide ((i : Int) < (l.length : Int)) = true ∧ decide (i < l.length) = true ∧ (i : Int) < (l.length : Int)) ∧ decide ((i : Int) < 80) = false ∧ decide (i < 80) = false ∧ ¬ (i : Int) < 80) := by
        by_cases h : i < l.length
        · exact .inr ⟨⟨decide_eq_true (by omega), decide_eq_true h, by omega⟩, decide_eq_false (by omega), decide_eq_false (by omega), by omega⟩
        · exact .inl ⟨decide_eq_false (by omega), decide_eq_false h, by omega⟩
      clear hgo hok hi hi5
      rcases hcase with ⟨k1, k2, k3⟩ | ⟨⟨k1, k2, k3⟩, k4, k5, k6⟩
      all_goals
        go_wp2_with (go_at_call 18; refine (wake_any hS).mono ?_; rintro e w1 ⟨rfl, hS1⟩; clear hS; have hS := hS1; clear hS1)
        go_ret
        exact ⟨rfl, hS.map fun _ _ => trivial⟩

set_option maxRecDepth 100000 in
theorem Plays.contract (H : Type) (enc : TypeId × Value → H) (W : World) (base : Nat) (args : Array Value) (ds gs : List (DataW H)) (before : List MemPlace)
    (hval : ∀ (j : Nat) t v, Try.f5.params[j]? = some t → args[j]? = some v → Value.okWide Try.prog W .any base t v)
    (hW : DataW.Whole enc Try.prog Try.f5.params.toList Rows.treePlaysSpec.vars false W args.toList ds gs before)
    (hreach : (DataW.weightsEach Try.prog (Try.f5.params.toList ++ Rows.treePlaysSpec.plain.varTypes Try.prog) (ds ++ gs)).all (· ≤ reachBytes) = true) :
    Calls Try.prog 5 args W fun e W' => ∃ v, e = .returned v ∧ Rows.treePlaysSpec.post enc Try.prog Try.f5 false true false false W args v W' := by
  have hW' := hW
  obtain ⟨p, q, hA, hV, rfl, hfz, hnd⟩ := hW
  rw [Try.params5] at hA hval hreach
  obtain ⟨v0, vs0, d0, ds0, p0, q0, hargs, rfl, rfl, h0, r0⟩ := trodAll_cons hA
  obtain ⟨rfl, rfl, rfl⟩ := trodAll_nil r0
  obtain rfl : args = #[v0] := by cases args; simp_all
  obtain ⟨rfl, rfl⟩ := trodVars_none hV
  obtain ⟨ao0, len0, cap0, rfl⟩ := okWide_slice Try.underlying41 (hval 0 41 v0 rfl rfl)
  obtain ⟨l, rfl, hr0, hl0⟩ := open_tops h0
  refine (Plays.walk l ao0 cap0 W hr0 hl0).mono ?_
  refine fun e W' ⟨he, hS⟩ => ?_
  subst he
  exact ⟨_, rfl, law_post (tb := 4) (by kernel_rfl) (by kernel_rfl) rfl Try.underlying4 rfl hW' rfl hS⟩

theorem Plays.own : ownKnob Try.prog.godebug = none := by kernel_rfl
set_option maxRecDepth 100000 in
theorem Plays.lifted (os : Os) (started : os.Started) (H : Type) (enc : TypeId × Value → H) :
    ReturnsInHanded {} Try.checked os 5 .any (Rows.treePlaysSpec.pre6 enc Try.prog Try.f5 Rows.treePlaysRow.domain false) (Rows.treePlaysSpec.post enc Try.prog Try.f5 false true false false) := by
  refine returnsInHanded_of_change_shaped (C := Try.checked) Plays.own started (by kernel_rfl) Try.func5
    (ChangeSpec.witness6 (enc := enc) (C := Try.checked) false ⟨#[], #[.slice none 0 0], []⟩ 8 (by kernel_rfl) (by kernel_rfl) (by kernel_rfl) (by kernel_rfl)) ?_
  intro W base args ds gs before hval hW _ hreach _ _
  exact Plays.contract H enc W base args ds gs before hval hW hreach

theorem Plays.holds : Rows.TreePlaysSaid :=
  OpenClaim.holds_of_wide 5 Try.f5 rfl rfl rfl rfl rfl rfl rfl ⟨rfl, rfl, rfl, rfl, rfl⟩ rfl rfl rfl rfl rfl (by kernel_rfl) Try.func5 (by kernel_rfl)
    (of_decide_eq_true (by kernel_rfl)) (by unfold Func.isWrapper; first | (rw [if_pos (by decide +kernel)]; kernel_rfl) | (rw [if_neg (by decide +kernel)]; exact ⟨rfl, rfl⟩))
    (fun os started H enc _ => Plays.lifted os started H enc)
end Go.Proofs.Ytiieicdhkcikpaa
