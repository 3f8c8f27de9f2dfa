/-
  For all calls, GraphPlays answers true: no condition.
-/
import Derived.Test.YtfbphibgcolmbaaGrSame
namespace Go.Proofs.Ytfbphibgcolmbaa
open Go.RowKit Go.Sep Go.ChangeShapes Go.WideShapes Go.ChangeAt
set_option linter.unusedSimpArgs false
set_option linter.unusedVariables false
attribute [local irreducible] Go.Oper.wp Go.wpList Go.Calls Go.Code.wp Go.Sep.Reg
attribute [local irreducible] IsG
set_option maxRecDepth 20000 in
set_option maxHeartbeats 4000000 in
theorem Plays.walk (l : List GOpD) (ao : Option Addr) (c : Nat) (kd ob : Int) (W : World) (hr : Rd W (.slice ao l.length c) l.length 3 (l.flatMap gov)) :
    Calls Try.prog 7 #[.slice ao l.length c, .int .i64 kd, .int .i64 ob] W fun e w' => e = .returned (.bool true) ∧ Sat W w' [] := by
  have hS := Sat.start W
  have HR := Lib.hid hr
  clear hr
  go_enter Try.func7, Try.ntmps7
  go_wp2_with (first
    | (go_at_call 25; refine (graphs_any hS l ao c HR.out (fun u L' h => HR.out.old h)).mono ?_; rintro e w1 ⟨p, q, G, rfl, hok, hel, hnl, hS1⟩; clear hS; have hS := hS1; clear hS1; have HOK := Lib.hid hok; have HNL := Lib.hid hnl; clear hok hel hnl)
    | (go_at_call 30; refine (sameg_any hS HOK.out).mono ?_; rintro e w1 ⟨rfl, hS1⟩; clear hS; have hS := hS1; clear hS1)
    | (go_at_call 23; refine (latest_any hS kd ob (fun i h => by have := (Gr.latest_count h).2; have := HNL.out; omega)).mono ?_; rintro e w1 ⟨rfl, rfl⟩)
    | (go_at_call 31; refine (rlatest_any hS.pull1 kd ob (by have := HNL.out; omega)).mono ?_; rintro e w1 ⟨rfl, rfl⟩))
  have hnl : (G.N.length : Int) ≤ 80 := by have := HNL.out; omega
  have H0 := Lib.hid hS
  go_loopw [14] (fun v wz => ∃ (k : Nat) (n : Int), v = .int .i64 n ∧ n + 1 = k ∧ n ≤ (G.N.length : Int) + 1 ∧ Sat W wz [IsG p G, IsR q G]) (fun v _ => (82 - intOf v).toNat)
  case atStart => exact ⟨0, -1, rfl, by omega, by omega, H0.out⟩
  case round =>
    clear hS H0
    obtain ⟨k, n, rfl, hk, hn, hS⟩ := hrel
    by_cases hl : n ≤ (G.N.length : Int)
    · obtain ⟨ab, hab⟩ : ∃ ab, G.aboveI n = ab := ⟨_, rfl⟩
      have HAB := Lib.hid (fun w L (h : Sat W w (IsG p G :: L)) => (show Calls Try.prog 28 #[.pointer (some ⟨p, 0, none⟩), .int .i64 n] w fun e w' => ∃ v, e = .returned v ∧ Sat W w' (Ir v ab :: IsG p G :: L) by
        have := above_any h HOK.out n
        rw [hab] at this
        exact this))
      have HRB := Lib.hid (fun w L (h : Sat W w (IsR q G :: L)) => (show Calls Try.prog 32 #[.pointer (some ⟨q, 0, none⟩), .int .i64 n] w fun e w' => ∃ v, e = .returned v ∧ Sat W w' (Ir v ab :: IsR q G :: L) by
        have := rabove_any h HOK.out n
        rw [hab] at this
        exact this))
      have HABL := Lib.hid (show ab.length ≤ 1000000 by rw [← hab]; have := G.aboveI_len n; have := HNL.out; omega)
      clear hab
      obtain ⟨an, cn, ae, ce, hcn, hce, hO⟩ := IsR.open hS.pull1
      replace hS := hO
      clear hO
      go_wp2_with (first
        | (refine toList (by rfl) ?_; refine ld hS _ _ (by rfl) _ _ (by rfl) (agOf (by rfl)) Has.z (by rfl) ?_)
        | (go_at_call 28; refine (HAB.out _ _ (IsR.mk hS).pull1).mono ?_; rintro e w1 ⟨v5, rfl, hS1⟩; clear hS; have hS := hS1; clear hS1; obtain ⟨a5, c5, rfl, _⟩ := hS.irShape (k := 0) rfl)
        | (go_at_call 32; refine (HRB.out _ _ (hS.re [2])).mono ?_; rintro e w1 ⟨v6, rfl, hS1⟩; clear hS; have hS := hS1; clear hS1; obtain ⟨a6, c6, rfl, _⟩ := hS.irShape (k := 0) rfl)
        | (go_at_call 29; refine (same_any hS ab _ _ _ _ (fun w h => h.irRd (k := 2) rfl) (fun w h => h.irRd (k := 0) rfl) HABL.out).mono ?_; rintro e w1 ⟨rfl, hS1⟩; clear hS; have hS := hS1; clear hS1))
      have H1 := Lib.hid ((hS.re [3, 1]).take2)
      clear hS
      go_loopw [15] (fun v wz => ∃ (k : Nat) (m : Int), v = .int .i64 m ∧ m + 1 = k ∧ m ≤ (G.N.length : Int) + 1 ∧ Sat W wz [IsG p G, IsR q G]) (fun v _ => (82 - intOf v).toNat)
      case atStart => exact ⟨0, -1, rfl, by omega, by omega, H1.out⟩
      case round =>
        clear H1
        obtain ⟨k2, m, rfl, hk2, hm, hS⟩ := hrel
        obtain ⟨an, cn, ae, ce, hcn, hce, hO⟩ := IsR.open hS.pull1
        clear hS
        have hS := hO
        clear hO
        by_cases hl2 : m ≤ (G.N.length : Int)
        · have d1 : decide (m ≤ (G.N.length : Int)) = true := decide_eq_true hl2
          by_cases hl3 : m < 12
          · have d2 : decide (m < 12) = true := decide_eq_true hl3
            obtain ⟨r, hrr⟩ : ∃ r, G.reaches n m = r := ⟨_, rfl⟩
            have HRE := Lib.hid (fun w (L : List Asrt) (h : Sat W w (IsG p G :: L)) => (show Calls Try.prog 18 #[.pointer (some ⟨p, 0, none⟩), .int .i64 n, .int .i64 m] w fun e w' => e = .returned (.bool r) ∧ Sat W w' (IsG p G :: L) by
              have := reaches_any h HOK.out n m
              rw [hrr] at this
              exact this))
            have HRF := Lib.hid (fun w (L : List Asrt) (h : Sat W w (IsR q G :: L)) => rreaches_any h HOK.out n m hrr)
            clear hrr
            go_wp2_with (first
              | (refine toList (by rfl) ?_; refine ld hS _ _ (by rfl) _ _ (by rfl) (agOf (by rfl)) Has.z (by rfl) ?_)
              | (go_at_call 18; refine (HRE.out _ _ (IsR.mk hS).pull1).mono ?_; rintro e w1 ⟨rfl, hS1⟩; clear hS; have hS := hS1; clear hS1)
              | (go_at_call 33; refine (HRF.out _ _ hS.pull1).mono ?_; rintro e w1 ⟨rfl, hS1⟩; clear hS; have hS := hS1; clear hS1))
            exact ⟨⟨k2 + 1, m + 1, by go_num, by omega, by omega, hS.pull1⟩, by simp [intOf]; omega⟩
          · have d2 : decide (m < 12) = false := decide_eq_false hl3
            go_wp2_with (refine toList (by rfl) ?_; refine ld hS _ _ (by rfl) _ _ (by rfl) (agOf (by rfl)) Has.z (by rfl) ?_)
            exact ⟨⟨k + 1, n + 1, by go_num, by omega, by omega, (IsR.mk hS).pull1⟩, by simp [intOf]; omega⟩
        · have d1 : decide (m ≤ (G.N.length : Int)) = false := decide_eq_false hl2
          go_wp2_with (refine toList (by rfl) ?_; refine ld hS _ _ (by rfl) _ _ (by rfl) (agOf (by rfl)) Has.z (by rfl) ?_)
          exact ⟨⟨k + 1, n + 1, by go_num, by omega, by omega, (IsR.mk hS).pull1⟩, by simp [intOf]; omega⟩
    · obtain ⟨an, cn, ae, ce, hcn, hce, hO⟩ := IsR.open hS.pull1
      clear hS
      have hS := hO
      clear hO
      have d1 : decide (n ≤ (G.N.length : Int)) = false := decide_eq_false hl
      go_wp2_with (first
        | (refine toList (by rfl) ?_; refine ld hS _ _ (by rfl) _ _ (by rfl) (agOf (by rfl)) Has.z (by rfl) ?_)
        | (go_at_call 21; refine (awake_any hS).mono ?_; rintro e w1 ⟨rfl, hS1⟩; clear hS; have hS := hS1; clear hS1))
      go_ret
      exact ⟨rfl, (IsR.mk hS).drop.drop⟩

set_option maxRecDepth 100000 in
theorem Plays.contract (H : Type) (enc : TypeId × Value → H) (W : World) (base : Nat) (args : Array Value) (ds gs : List (DataW H)) (before : List MemPlace)
    (hval : ∀ (j : Nat) t v, Try.f7.params[j]? = some t → args[j]? = some v → Value.okWide Try.prog W .any base t v)
    (hW : DataW.Whole enc Try.prog Try.f7.params.toList Rows.graphPlaysSpec.vars false W args.toList ds gs before)
    (hreach : (DataW.weightsEach Try.prog (Try.f7.params.toList ++ Rows.graphPlaysSpec.plain.varTypes Try.prog) (ds ++ gs)).all (· ≤ reachBytes) = true) :
    Calls Try.prog 7 args W fun e W' => ∃ v, e = .returned v ∧ Rows.graphPlaysSpec.post enc Try.prog Try.f7 false true false false W args v W' := by
  have hW' := hW
  obtain ⟨p, q, hA, hV, rfl, hfz, hnd⟩ := hW
  rw [Try.params7] at hA hval hreach
  obtain ⟨v1, vs1, d1, ds1, p1, q1, hargs, rfl, rfl, h1, r1⟩ := trodAll_cons hA
  obtain ⟨v2, vs2, d2, ds2, p2, q2, rfl, rfl, rfl, h2, r2⟩ := trodAll_cons r1
  obtain ⟨v3, vs3, d3, ds3, p3, q3, rfl, rfl, rfl, h3, r3⟩ := trodAll_cons r2
  obtain ⟨rfl, rfl, rfl⟩ := trodAll_nil r3
  obtain rfl : args = #[v1, v2, v3] := by cases args; simp_all
  obtain ⟨rfl, rfl⟩ := trodVars_none hV
  obtain ⟨ao1, l1, c1, rfl⟩ := okWide_slice Try.underlying22 (hval 0 22 v1 rfl rfl)
  obtain ⟨a2, rfl, rfl, rfl, _⟩ := open_int Try.underlying3 (hval 1 3 v2 rfl rfl) h2
  obtain ⟨a3, rfl, rfl, rfl, _⟩ := open_int Try.underlying3 (hval 2 3 v3 rfl rfl) h3
  obtain ⟨l, rfl, hr, _⟩ := open_gops h1
  refine (Plays.walk l ao1 c1 a2 a3 W hr).mono ?_
  refine fun e W' ⟨he, hS⟩ => ?_
  subst he
  exact ⟨_, rfl, law_post (tb := 4) (by kernel_rfl) (by kernel_rfl) rfl Try.underlying4 rfl hW' rfl hS⟩

theorem Plays.own : ownKnob Try.prog.godebug = none := by kernel_rfl
set_option maxRecDepth 100000 in
theorem Plays.lifted (os : Os) (started : os.Started) (H : Type) (enc : TypeId × Value → H) :
    ReturnsInHanded {} Try.checked os 7 .any (Rows.graphPlaysSpec.pre6 enc Try.prog Try.f7 Rows.graphPlaysRow.domain false) (Rows.graphPlaysSpec.post enc Try.prog Try.f7 false true false false) := by
  refine returnsInHanded_of_change_shaped (C := Try.checked) Plays.own started (by kernel_rfl) Try.func7
    (ChangeSpec.witness6 (enc := enc) (C := Try.checked) false ⟨#[], #[.slice none 0 0, .int .i64 0, .int .i64 0], []⟩ 8 (by kernel_rfl) (by kernel_rfl) (by kernel_rfl) (by kernel_rfl)) ?_
  intro W base args ds gs before hval hW _ hreach _ _
  exact Plays.contract H enc W base args ds gs before hval hW hreach

theorem Plays.holds : Rows.GraphPlaysSaid :=
  OpenClaim.holds_of_wide 7 Try.f7 rfl rfl rfl rfl rfl rfl rfl ⟨rfl, rfl, rfl, rfl, rfl⟩ rfl rfl rfl rfl rfl (by kernel_rfl) Try.func7 (by kernel_rfl)
    (of_decide_eq_true (by kernel_rfl)) (by unfold Func.isWrapper; first | (rw [if_pos (by decide +kernel)]; kernel_rfl) | (rw [if_neg (by decide +kernel)]; exact ⟨rfl, rfl⟩))
    (fun os started H enc _ => Plays.lifted os started H enc)
end Go.Proofs.Ytfbphibgcolmbaa
