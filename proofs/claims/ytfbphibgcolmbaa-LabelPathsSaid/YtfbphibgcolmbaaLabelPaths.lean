/-
  For all calls and every source, LabelPaths answers true: no condition.
-/
import Derived.Test.YtfbphibgcolmbaaLbUp
namespace Go.Proofs.Ytfbphibgcolmbaa
open Go.RowKit Go.Sep Go.ChangeShapes Go.WideShapes Go.ChangeAt
set_option linter.unusedSimpArgs false
set_option linter.unusedVariables false
attribute [local irreducible] Go.Oper.wp Go.wpList Go.Calls Go.Code.wp Go.Sep.Reg
attribute [local irreducible] IsG
theorem fls_le (S : Nat → Bool) (n : Nat) : fls S n ≤ n := by
  have := List.countP_le_length (p := fun k => !S k) (l := List.range n)
  simpa [fls] using this
theorem bl_none : List.replicate 200 (Value.bool false) = bl (fun _ => false) 200 := bl_zero 200
set_option maxRecDepth 20000 in
set_option maxHeartbeats 4000000 in
theorem Paths.walk (l : List GOpD) (ao : Option Addr) (c : Nat) (s : Int) (W : World) (hr : Rd W (.slice ao l.length c) l.length 3 (l.flatMap gov)) :
    Calls Try.prog 10 #[.slice ao l.length c, .int .i64 s] W fun e w' => e = .returned (.bool true) ∧ Sat W w' [] := by
  have hS := Sat.start W
  obtain ⟨k, hk⟩ : ∃ k : Nat, s % 8 = k := ⟨(s % 8).toNat, by omega⟩
  have hk8 : (k : Int) < 8 := by omega
  have HP := Lib.hid (fun w => (show Calls Try.prog 15 #[.int .i64 s, .int .i64 8] w fun e w' => e = .returned (.int .i64 (k : Int)) ∧ w = w' by rw [← hk]; exact place_any s 8 (by decide) (by decide) w))
  clear hk
  have HR := Lib.hid hr
  clear hr
  go_enter Try.func10, Try.ntmps10
  go_wp2_with (first
    | (go_at_call 15; refine (HP.out _).mono ?_; rintro e w1 ⟨rfl, rfl⟩)
    | (go_at_call 25; refine (graphsI_any hS l ao c (I := fun _ => True) trivial (fun _ _ _ _ _ => trivial) (fun u h => HR.out.old h)).mono ?_; rintro e w1 ⟨p, q, G, rfl, hok, hac, _, hel, hnl, hS1⟩; clear hS; have hS := hS1; clear hS1))
  have HOK := Lib.hid hok
  have HAC := Lib.hid hac
  obtain ⟨m, hm⟩ : ∃ m, G.N.length = m := ⟨_, rfl⟩
  have HM := Lib.hid hm
  have HMI := Lib.hid (show (G.N.length : Int) = (m : Int) by rw [hm])
  have hm80 : (m : Int) ≤ 80 := by omega
  clear hok hac hel hnl hm
  have H2 := Lib.hid hS
  go_loopw [9] (fun v wz => ∃ n : Nat, v = .int .i64 n ∧ n ≤ m ∧ Sat W wz [IsG p G, IsR q G]) (fun v _ => m - (intOf v).toNat)
  case atStart => exact ⟨0, rfl, by omega, H2.out⟩
  case round =>
    clear hS H2
    obtain ⟨n, rfl, hn, hS⟩ := hrel
    by_cases hl : n < m
    · have n1 : (n : Int) < (m : Int) := by omega
      have HOF := Lib.hid (fun w (L : List Asrt) (hS : Sat W w (IsG p G :: L)) => (by have := of_any hS HOK.out HAC.out (n : Int); rw [Gr.labI_nat (by rw [HM.out]; exact hl)] at this; exact this))
      have hlt := G.lab_lt n
      have hbit := G.lab_test n k
      rw [decide_eq_true (by omega : k < 8), Bool.true_and] at hbit
      obtain ⟨y, hy⟩ : ∃ y, G.lab n = y := ⟨_, rfl⟩
      rw [hy] at HOF hlt hbit
      have HL := Lib.hid hl
      have hand := and_one y k hlt
      rw [hbit] at hand
      have HUP := Lib.hid (fun b w (h : Sat W w (IsG p G :: Cs b 70 (bl (fun _ => false) 200) :: [IsR q G])) => up_any HOK.out (s := k) (by omega) (by have := HM.out; omega) 201 _ _ n w (Nat.lt_succ_of_le (fls_le _ 200)) (by rw [HM.out]; exact hl) h)
      have HBN := Lib.hid bl_none
      clear hl hy hbit hlt
      cases hsrc : G.srcB n k
      · rw [hsrc, if_neg (by decide)] at hand
        have HSR := Lib.hid hsrc
        clear hsrc
        go_wp2_with (first
          | (go_at_call 16; refine (len_any hS HMI.out).mono ?_; rintro e w1 ⟨rfl, rfl⟩)
          | (refine toList (by rfl) ?_; refine al hS _ (by rfl) (zrOf (by rfl)) ?_; intro bs w1 hS1; clear hS; have hS := hS1; clear hS1; rw [cells_agg] at hS)
          | (go_at_call 36; refine (HOF.out _ _ (hS.re [1])).mono ?_; rintro e w1 ⟨rfl, hS1⟩; clear hS; have hS := hS1; clear hS1)
          | (go_at_call 43; refine (HUP.out bs _ hS).mono ?_; rintro e w1 ⟨_, rfl, r, S2, rfl, hU, hS1⟩; clear hS; have hS := hS1; clear hS1; obtain rfl := (HSR.out.symm.trans (hU.all HOK.out))))
        exact ⟨⟨n + 1, by go_num, HL.out, (hS.re [1]).drop⟩, by simp [intOf]; have := HL.out; omega⟩
      · rw [hsrc, if_pos rfl] at hand
        have HSR := Lib.hid hsrc
        clear hsrc
        go_wp2_with (first
          | (go_at_call 16; refine (len_any hS HMI.out).mono ?_; rintro e w1 ⟨rfl, rfl⟩)
          | (refine toList (by rfl) ?_; refine al hS _ (by rfl) (zrOf (by rfl)) ?_; intro bs w1 hS1; clear hS; have hS := hS1; clear hS1; rw [cells_agg] at hS)
          | (go_at_call 36; refine (HOF.out _ _ (hS.re [1])).mono ?_; rintro e w1 ⟨rfl, hS1⟩; clear hS; have hS := hS1; clear hS1)
          | (go_at_call 43; refine (HUP.out bs _ hS).mono ?_; rintro e w1 ⟨_, rfl, r, S2, rfl, hU, hS1⟩; clear hS; have hS := hS1; clear hS1; obtain rfl := (HSR.out.symm.trans (hU.all HOK.out))))
        exact ⟨⟨n + 1, by go_num, HL.out, (hS.re [1]).drop⟩, by simp [intOf]; have := HL.out; omega⟩
    · have n1 : ¬ (n : Int) < (m : Int) := by omega
      clear hl
      go_wp2_with (first
        | (go_at_call 16; refine (len_any hS HMI.out).mono ?_; rintro e w1 ⟨rfl, rfl⟩)
        | (go_at_call 37; refine (wake_any hS).mono ?_; rintro e w1 ⟨rfl, hS1⟩; clear hS; have hS := hS1; clear hS1))
      go_ret
      exact ⟨rfl, hS.drop.drop⟩

set_option maxRecDepth 100000 in
theorem Paths.contract (H : Type) (enc : TypeId × Value → H) (W : World) (base : Nat) (args : Array Value) (ds gs : List (DataW H)) (before : List MemPlace)
    (hval : ∀ (j : Nat) t v, Try.f10.params[j]? = some t → args[j]? = some v → Value.okWide Try.prog W .any base t v)
    (hW : DataW.Whole enc Try.prog Try.f10.params.toList Rows.labelPathsSpec.vars false W args.toList ds gs before)
    (hreach : (DataW.weightsEach Try.prog (Try.f10.params.toList ++ Rows.labelPathsSpec.plain.varTypes Try.prog) (ds ++ gs)).all (· ≤ reachBytes) = true) :
    Calls Try.prog 10 args W fun e W' => ∃ v, e = .returned v ∧ Rows.labelPathsSpec.post enc Try.prog Try.f10 false true false false W args v W' := by
  have hW' := hW
  obtain ⟨p, q, hA, hV, rfl, hfz, hnd⟩ := hW
  rw [Try.params10] at hA hval hreach
  obtain ⟨v1, vs1, d1, ds1, p1, q1, hargs, rfl, rfl, h1, r1⟩ := trodAll_cons hA
  obtain ⟨v2, vs2, d2, ds2, p2, q2, rfl, rfl, rfl, h2, r2⟩ := trodAll_cons r1
  obtain ⟨rfl, rfl, rfl⟩ := trodAll_nil r2
  obtain rfl : args = #[v1, v2] := by cases args; simp_all
  obtain ⟨rfl, rfl⟩ := trodVars_none hV
  obtain ⟨ao1, l1, c1, rfl⟩ := okWide_slice Try.underlying22 (hval 0 22 v1 rfl rfl)
  obtain ⟨a2, rfl, rfl, rfl, _⟩ := open_int Try.underlying3 (hval 1 3 v2 rfl rfl) h2
  obtain ⟨l, rfl, hr, _⟩ := open_gops h1
  refine (Paths.walk l ao1 c1 a2 W hr).mono ?_
  refine fun e W' ⟨he, hS⟩ => ?_
  subst he
  exact ⟨_, rfl, law_post (tb := 4) (by kernel_rfl) (by kernel_rfl) rfl Try.underlying4 rfl hW' rfl hS⟩

theorem Paths.own : ownKnob Try.prog.godebug = none := by kernel_rfl
set_option maxRecDepth 100000 in
theorem Paths.lifted (os : Os) (started : os.Started) (H : Type) (enc : TypeId × Value → H) :
    ReturnsInHanded {} Try.checked os 10 .any (Rows.labelPathsSpec.pre6 enc Try.prog Try.f10 Rows.labelPathsRow.domain false) (Rows.labelPathsSpec.post enc Try.prog Try.f10 false true false false) := by
  refine returnsInHanded_of_change_shaped (C := Try.checked) Paths.own started (by kernel_rfl) Try.func10
    (ChangeSpec.witness6 (enc := enc) (C := Try.checked) false ⟨#[], #[.slice none 0 0, .int .i64 0], []⟩ 8 (by kernel_rfl) (by kernel_rfl) (by kernel_rfl) (by kernel_rfl)) ?_
  intro W base args ds gs before hval hW _ hreach _ _
  exact Paths.contract H enc W base args ds gs before hval hW hreach

theorem Paths.holds : Rows.LabelPathsSaid :=
  OpenClaim.holds_of_wide 10 Try.f10 rfl rfl rfl rfl rfl rfl rfl ⟨rfl, rfl, rfl, rfl, rfl⟩ rfl rfl rfl rfl rfl (by kernel_rfl) Try.func10 (by kernel_rfl)
    (of_decide_eq_true (by kernel_rfl)) (by unfold Func.isWrapper; first | (rw [if_pos (by decide +kernel)]; kernel_rfl) | (rw [if_neg (by decide +kernel)]; exact ⟨rfl, rfl⟩))
    (fun os started H enc _ => Paths.lifted os started H enc)
end Go.Proofs.Ytfbphibgcolmbaa
