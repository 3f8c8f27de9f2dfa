/-
  For all scripts and every two nodes, VersionNeeds answers true: no condition.
-/
import Derived.Test.YtapodjhkpahdnaaVsAwake
import Derived.Test.YtapodjhkpahdnaaVsOpen
namespace Go.Proofs.Ytapodjhkpahdnaa
open Go.RowKit Go.Sep Go.ChangeShapes Go.WideShapes Go.ChangeAt
set_option linter.unusedSimpArgs false
set_option linter.unusedVariables false
attribute [local irreducible] Go.Oper.wp Go.wpList Go.Calls Go.Code.wp Go.Sep.Reg
attribute [local irreducible] IsG IsK IsQ IsR
theorem flow_no {K : KD} {a b : Int} (h : K.flowE a b ≠ 0) : K.flow a b = K := by
  unfold KD.flowE at h
  unfold KD.flow
  cases hw : K.wrong a b with
  | true => rw [if_pos rfl]
  | false =>
    rw [hw, if_neg (by simp)] at h
    rw [if_neg (by simp)]
    cases he : K.ends b with
    | true => rw [he, if_pos rfl] at h; rw [if_pos rfl, if_neg h]
    | false => rw [he, if_neg (by simp)] at h; exact absurd rfl h
set_option maxRecDepth 20000 in
set_option maxHeartbeats 4000000 in
theorem Needs.walk (l : List RecD) (ao : Option Addr) (c : Nat) (a b : Int) (W : World) (hr : Rd W (.slice ao l.length c) l.length 3 (l.flatMap rv)) :
    Calls Try.prog 6 #[.slice ao l.length c, .int .i64 a, .int .i64 b] W fun e w' => e = .returned (.bool true) ∧ Sat W w' [] := by
  have hS := Sat.start W
  have HR : Hid (∀ u (L : List Asrt), Sat W u L → Rd u (.slice ao l.length c) l.length 3 (l.flatMap rv)) := Lib.hid (fun u L h => hr.old h)
  obtain ⟨_, _, he, hc1, hc2, _, h5⟩ := hr
  simp only [Value.slice.injEq, true_and] at he
  obtain ⟨rfl, rfl⟩ := he
  have H5 := Lib.hid h5
  clear h5
  go_enter Try.func6, Try.ntmps6
  go_wp2_with (first
    | (go_at_call 8; refine (knew_any hS).mono ?_; rintro e w1 ⟨p, rfl, g, hS1⟩; clear hS; have hS := hS1; clear hS1)
    | (go_at_call 28; refine (qnew_any hS).mono ?_; rintro e w1 ⟨q, h, rfl, hS1⟩; clear hS; have hS := hS1; clear hS1; replace hS := hS.re [2, 3]))
  have H0 := Lib.hid hS
  go_loopw [9] (fun v wz => ∃ (i : Nat) (K : KD), v = .int .i64 i ∧ i ≤ l.length ∧ i ≤ 50 ∧ K.Ok (3 * i) ∧ Sat W wz [IsK p g K, IsG g K.G, IsQ q h K, IsR h K.G]) (fun v _ => 50 - (intOf v).toNat)
  case atStart => exact ⟨0, KD.new, rfl, by omega, by omega, KD.new_ok, H0.out⟩
  case round =>
    clear hS H0
    obtain ⟨i, K, rfl, hi, hi5, hok, hS⟩ := hrel
    have HOK := Lib.hid hok
    clear hok
    by_cases hgo : i < l.length ∧ i < 50
    · obtain ⟨hlt, hl5⟩ := hgo
      obtain ⟨bb, off, rfl, _⟩ := H5.out (by omega)
      obtain ⟨⟨xk, xa, xb⟩, hx⟩ : ∃ x, l[i]? = some x := ⟨_, List.getElem?_eq_getElem hlt⟩
      have j1 : (i : Int) < (l.length : Int) := by omega
      have j2 : (i : Int) < 50 := by omega
      have HX := Lib.hid hx
      have HLT := Lib.hid hlt
      have HL5 := Lib.hid hl5
      have HDO := Lib.hid (fun w (L : List Asrt) (h2 : Sat W w (IsK p g K :: IsG g K.G :: IsQ q h K :: IsR h K.G :: L)) => do_any h2 HOK.out (by omega) ⟨xk, xa, xb⟩)
      have HOK2 := Lib.hid ((HOK.out.step (by omega) ⟨xk, xa, xb⟩).mono (show 3 * i + 3 ≤ 3 * (i + 1) by omega))
      obtain ⟨K2, hK2⟩ : ∃ K2, K.step ⟨xk, xa, xb⟩ = K2 := ⟨_, rfl⟩
      rw [hK2] at HDO HOK2
      clear hx hlt hl5 hK2 hi hi5
      go_wp2_with (first
        | (refine toList (by rfl) ?_; refine wp_of_reads (rLdRdA (f := rv) (x := ⟨xk, xa, xb⟩) (HR.out _ _ hS) (rv_len l) _ _ (by rfl) _ (by rfl) (agOf (by rfl)) (szOf (by rfl)) i (by omega) HX.out (by omega)) ?_)
        | (go_at_call 29; refine (HDO.out _ _ hS).mono ?_; rintro e w1 ⟨rfl, hS1⟩; clear hS; have hS := hS1; clear hS1))
      exact ⟨⟨i + 1, K2, by go_num, HLT.out, HL5.out, HOK2.out, hS⟩, by simp [intOf]; have := HL5.out; omega⟩
    have hcase : (¬ (i : Int) < (l.length : Int)) ∨ ((i : Int) < (l.length : Int) ∧ ¬ (i : Int) < 50) := by omega
    have hok3 := HOK.out.mono (show 3 * i ≤ 3 * 50 by omega)
    clear HOK hi hi5
    have HOK := Lib.hid hok3
    clear hok3
    have HN := Lib.hid (fun w (L : List Asrt) (h2 : Sat W w (IsK p g K.clean :: IsG g K.G :: L)) => kneed_any (K := K.clean) h2 HOK.out.clean (by decide) a b)
    have HF := Lib.hid (fun w (L : List Asrt) (h2 : Sat W w (IsK p g K.clean :: IsG g K.G :: L)) => kflow_any (K := K.clean) h2 HOK.out.clean (by decide) a b)
    have HL := Lib.hid (fun w (L : List Asrt) (h2 : Sat W w (IsG g K.G :: L)) => len_any h2 (n := (K.G.N.length : Int)) rfl)
    have hnl := HOK.out.l
    have hm3 := KD.need_le HOK.out.clean a b
    have hE0 : K.clean.flowE a b = 0 → (K.clean.flow a b).R.length = K.clean.need a b := fun h => by unfold KD.need; rw [if_pos h]; rfl
    have hE1 : K.clean.flowE a b ≠ 0 → (K.clean.flow a b).R.length = 0 ∧ K.clean.need a b = 0 := fun h => by
      refine ⟨by rw [flow_no h]; rfl, ?_⟩
      unfold KD.need; rw [if_neg h]
    obtain ⟨m, hm⟩ : ∃ m, K.clean.need a b = m := ⟨_, rfl⟩
    obtain ⟨E, hE⟩ : ∃ E, K.clean.flowE a b = E := ⟨_, rfl⟩
    obtain ⟨I, hI⟩ : ∃ I, K.clean.flowI a b = I := ⟨_, rfl⟩
    obtain ⟨K2, hK2⟩ : ∃ K2, K.clean.flow a b = K2 := ⟨_, rfl⟩
    rw [hm] at HN hE0 hE1 hm3
    rw [hE] at HF hE0 hE1
    rw [hI, hK2] at HF
    rw [hK2] at hE0 hE1
    have hr2 : K2.R.length = m := by
      by_cases h : E = 0
      · exact hE0 h
      · rw [(hE1 h).1, (hE1 h).2]
    have HR2 := Lib.hid hr2
    have hgood : E = 0 ∨ (m = 0 ∧ (E == 0) = false) := by
      by_cases h : E = 0
      · exact .inl h
      · exact .inr ⟨(hE1 h).2, beq_eq_false_iff_ne.2 h⟩
    clear hm hE hI hK2 hE0 hE1 hr2 hgo
    rcases hgood with rfl | ⟨rfl, e0⟩ <;> rcases hcase with k1 | ⟨k1, k2⟩
    all_goals
      go_wp2_with (first
        | (go_at_call 30; refine (krecords_any hS).mono ?_; rintro e w1 ⟨v1, rfl, hS1⟩; clear hS; have hS := hS1; clear hS1; obtain ⟨a1, c1, rfl, _⟩ := hS.tbShape (k := 0) rfl; replace hS := hS.re [1, 2]; try simp only [HR2.out])
        | (go_at_call 11; refine (kgraph_any hS).mono ?_; rintro e w1 ⟨rfl, rfl⟩)
        | (go_at_call 12; refine (HL.out _ _ (hS.re [1])).mono ?_; rintro e w1 ⟨rfl, rfl⟩)
        | (go_at_call 31; refine (HN.out _ _ hS).mono ?_; rintro e w1 ⟨rfl, hS1⟩; clear hS; have hS := hS1; clear hS1)
        | (go_at_call 13; refine (HF.out _ _ hS).mono ?_; rintro e w1 ⟨rfl, hS1⟩; clear hS; have hS := hS1; clear hS1)
        | (go_at_call 16; refine (awake_any hS).mono ?_; rintro e w1 ⟨rfl, hS1⟩; clear hS; have hS := hS1; clear hS1))
      go_ret
      first
        | exact ⟨rfl, hS.map fun _ _ => trivial⟩
        | exact ⟨by rw [HR2.out]; simp, hS.map fun _ _ => trivial⟩
        | exact ⟨by simp [HR2.out], hS.map fun _ _ => trivial⟩

set_option maxRecDepth 100000 in
theorem Needs.contract (H : Type) (enc : TypeId × Value → H) (W : World) (base : Nat) (args : Array Value) (ds gs : List (DataW H)) (before : List MemPlace)
    (hval : ∀ (j : Nat) t v, Try.f6.params[j]? = some t → args[j]? = some v → Value.okWide Try.prog W .any base t v)
    (hW : DataW.Whole enc Try.prog Try.f6.params.toList Rows.versionNeedsSpec.vars false W args.toList ds gs before)
    (hreach : (DataW.weightsEach Try.prog (Try.f6.params.toList ++ Rows.versionNeedsSpec.plain.varTypes Try.prog) (ds ++ gs)).all (· ≤ reachBytes) = true) :
    Calls Try.prog 6 args W fun e W' => ∃ v, e = .returned v ∧ Rows.versionNeedsSpec.post enc Try.prog Try.f6 false true false false W args v W' := by
  have hW' := hW
  obtain ⟨p, q, hA, hV, rfl, hfz, hnd⟩ := hW
  rw [Try.params6] at hA hval hreach
  obtain ⟨v0, vs0, d0, ds0, p0, q0, hargs, rfl, rfl, h0, r0⟩ := trodAll_cons hA
  obtain ⟨v1, vs1, d1, ds1, p1, q1, rfl, rfl, rfl, h1, r1⟩ := trodAll_cons r0
  obtain ⟨v2, vs2, d2, ds2, p2, q2, rfl, rfl, rfl, h2, r2⟩ := trodAll_cons r1
  obtain ⟨rfl, rfl, rfl⟩ := trodAll_nil r2
  obtain rfl : args = #[v0, v1, v2] := by cases args; simp_all
  obtain ⟨rfl, rfl⟩ := trodVars_none hV
  obtain ⟨ao0, len0, cap0, rfl⟩ := okWide_slice Try.underlying59 (hval 0 59 v0 rfl rfl)
  obtain ⟨a1, rfl, rfl, rfl, w1⟩ := open_int Try.underlying3 (hval 1 3 v1 rfl rfl) h1
  obtain ⟨a2, rfl, rfl, rfl, w2⟩ := open_int Try.underlying3 (hval 2 3 v2 rfl rfl) h2
  obtain ⟨l, rfl, hr0, hl0⟩ := open_vops h0
  refine (Needs.walk l ao0 cap0 a1 a2 W hr0).mono ?_
  refine fun e W' ⟨he, hS⟩ => ?_
  subst he
  exact ⟨_, rfl, law_post (tb := 4) (by kernel_rfl) (by kernel_rfl) rfl Try.underlying4 rfl hW' rfl hS⟩

theorem Needs.own : ownKnob Try.prog.godebug = none := by kernel_rfl
set_option maxRecDepth 100000 in
theorem Needs.lifted (os : Os) (started : os.Started) (H : Type) (enc : TypeId × Value → H) :
    ReturnsInHanded {} Try.checked os 6 .any (Rows.versionNeedsSpec.pre6 enc Try.prog Try.f6 Rows.versionNeedsRow.domain false) (Rows.versionNeedsSpec.post enc Try.prog Try.f6 false true false false) := by
  refine returnsInHanded_of_change_shaped (C := Try.checked) Needs.own started (by kernel_rfl) Try.func6
    (ChangeSpec.witness6 (enc := enc) (C := Try.checked) false ⟨#[], #[.slice none 0 0, .int .i64 0, .int .i64 0], []⟩ 8 (by kernel_rfl) (by kernel_rfl) (by kernel_rfl) (by kernel_rfl)) ?_
  intro W base args ds gs before hval hW _ hreach _ _
  exact Needs.contract H enc W base args ds gs before hval hW hreach

theorem Needs.holds : Rows.VersionNeedsSaid :=
  OpenClaim.holds_of_wide 6 Try.f6 rfl rfl rfl rfl rfl rfl rfl ⟨rfl, rfl, rfl, rfl, rfl⟩ rfl rfl rfl rfl rfl (by kernel_rfl) Try.func6 (by kernel_rfl)
    (of_decide_eq_true (by kernel_rfl)) (by unfold Func.isWrapper; first | (rw [if_pos (by decide +kernel)]; kernel_rfl) | (rw [if_neg (by decide +kernel)]; exact ⟨rfl, rfl⟩))
    (fun os started H enc _ => Needs.lifted os started H enc)
end Go.Proofs.Ytapodjhkpahdnaa
