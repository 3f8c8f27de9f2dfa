/-
  For all bytes, RecordGets answers true: no condition.
-/
import Derived.Test.YtcabgeljdgcdlaaRecLaw2
namespace Go.Proofs.Ytcabgeljdgcdlaa
open Go.RowKit Go.Sep Go.ChangeShapes Go.WideShapes Go.ChangeAt
set_option linter.unusedSimpArgs false
set_option linter.unusedVariables false
attribute [local irreducible] Go.Oper.wp Go.wpList Go.Calls Go.Code.wp Go.Sep.Reg
set_option maxRecDepth 20000 in
set_option maxHeartbeats 4000000 in
theorem Gets.walk (b : List UInt8) (v : Value) (full : Bool) (W : World) (hr : Rd W v b.length 1 (bv b)) (hb : b.length ≤ 140737488351232) :
    Calls Try.prog 9 #[v, .bool full] W fun e w' => e = .returned (.bool true) ∧ Sat W w' [] := by
  have hS := Sat.start W
  have HR := Lib.hid hr
  clear hr
  obtain ⟨d, hd⟩ : ∃ d, d = if full then pad b else b := ⟨_, rfl⟩
  have hdl : d.length ≤ 140737488351232 := by subst hd; split <;> simp [pad_length, hb]
  have HDL := Lib.hid hdl
  have HDL2 := Lib.hid (show d.length ≤ 140737488355328 by omega)
  obtain ⟨gl, hgl⟩ : ∃ gl, getL d = gl := ⟨_, rfl⟩
  obtain ⟨gx, hgx⟩ : ∃ gx, getX d = gx := ⟨_, rfl⟩
  obtain ⟨gk, hgk⟩ : ∃ gk, getOk d = gk := ⟨_, rfl⟩
  obtain ⟨gs, hgs⟩ : ∃ gs, getS d = gs := ⟨_, rfl⟩
  obtain ⟨gz, hgz⟩ : ∃ gz, getSOk d = gz := ⟨_, rfl⟩
  have hgll : gl.length ≤ 1000000 := by
    rw [← hgl]; unfold getL; split
    · have := parse_len d; omega
    · simp
  have HGL := Lib.hid hgl
  have HGX := Lib.hid hgx
  have HGK := Lib.hid hgk
  have HGS := Lib.hid hgs
  have HGZ := Lib.hid hgz
  have HLL := Lib.hid hgll
  clear hgl hgx hgk hgs hgz hgll hdl
  obtain ⟨s1, s2, s3, s4, s5, s6, s7⟩ := gs
  cases full
  · have HD : Hid (b = d) := Lib.hid (by rw [hd]; rfl)
    clear hd
    go_enter Try.func9, Try.ntmps9
    go_wp2_with (first
      | (have hG : Sat W _ [] := hS; clear hG; go_at_call 46; refine (bytes_any hS b _ HR.out hb).mono ?_; rintro e w1 ⟨v5, rfl, hS1⟩; rw [HD.out] at hS1; clear hS; have hS := hS1; clear hS1; obtain ⟨ao5, c5, rfl, _⟩ := hS.slShape (k := 0) rfl)
      | (go_at_call 46; refine (bytes_any hS d _ (by first | exact hS.slRd Has.z | exact hS.slRd (Has.s (Has.s Has.z))) HDL.out).mono ?_; rintro e w1 ⟨v6, rfl, hS1⟩; clear hS; have hS := hS1; clear hS1; obtain ⟨ao6, c6, rfl, _⟩ := hS.slShape (k := 0) rfl)
      | (go_at_call 44; refine (rget_any hS d _ _ (fun w h => h.slRd Has.z) HDL2.out).mono ?_; rintro e w1 ⟨v7, rfl, hS1⟩; rw [HGL.out] at hS1; rw [HGX.out, HGK.out]; obtain ⟨ao7, c7, rfl, _⟩ := hS1.tbShape (k := 0) rfl; clear hS; have hS := hS1.pull1.drop; clear hS1)
      | (go_at_call 47; refine (ref_rget_any hS d _ _ (fun w h => h.slRd (Has.s Has.z)) HDL2.out).mono ?_; rintro e w1 ⟨v8, rfl, hS1⟩; rw [HGL.out] at hS1; rw [HGX.out, HGK.out]; obtain ⟨ao8, c8, rfl, _⟩ := hS1.tbShape (k := 0) rfl; clear hS; have hS := hS1; clear hS1)
      | (go_at_call 48; refine (sget_any hS d _ _ (fun w h => h.slRd Has.z) HDL2.out).mono ?_; rintro e w1 ⟨rfl, hS1⟩; rw [HGS.out, HGZ.out]; dsimp only [sv]; clear hS; have hS := hS1.drop; clear hS1)
      | (go_at_call 49; refine (ref_sget_any hS d _ _ (fun w h => h.slRd (Has.s (Has.s (Has.s Has.z)))) HDL2.out).mono ?_; rintro e w1 ⟨rfl, hS1⟩; rw [HGS.out, HGZ.out]; dsimp only [sv]; clear hS; have hS := hS1; clear hS1)
      | (refine toList (by rfl) ?_; refine al hS _ (by rfl) (zrOf (by rfl)) ?_; intro px w1 hS1; clear hS; have hS := hS1; clear hS1; rw [cells_agg] at hS)
      | (refine toList (by rfl) ?_; refine stW hS _ _ _ (by rfl) (by rfl) (sv ⟨s1, s2, s3, s4, s5, s6, s7⟩) (by rfl) (sv_all _) (szOf (by rfl)) Has.z (by rfl) ?_; intro w1 hS1; clear hS; have hS := hS1; clear hS1; dsimp only [List.set_cons_zero, List.set_cons_succ] at hS)
      | (refine toList (by rfl) ?_; refine wp_of_reads (rLdA hS _ _ (by rfl) _ _ (by rfl) (agOf (by rfl)) (szOf (by rfl)) (by first | exact Has.z | exact Has.s Has.z | exact Has.s (Has.s Has.z) | exact Has.s (Has.s (Has.s Has.z)) | exact Has.s (Has.s (Has.s (Has.s Has.z))) | exact Has.s (Has.s (Has.s (Has.s (Has.s Has.z))))) (vs := sv ⟨s1, s2, s3, s4, s5, s6, s7⟩) (by rfl) (by rfl)) ?_; dsimp only [sv])
      | (go_at_call 45; refine (same_recs hS gl gl _ _ _ _ (fun w h => h.tbRd (Has.s (Has.s (Has.s Has.z)))) (fun w h => h.tbRd (Has.s (Has.s Has.z))) HLL.out).mono ?_; rintro e w1 ⟨rfl, hS1⟩; rw [decide_eq_true (rfl : gl = gl)]; clear hS; have hS := hS1; clear hS1)
      | (go_at_call 36; refine (awake_any hS).mono ?_; rintro e w1 ⟨rfl, hS1⟩; clear hS; have hS := hS1; clear hS1))
    go_ret
    exact ⟨rfl, hS.drop.drop.drop.drop.drop⟩
  · have HD : Hid (pad b = d) := Lib.hid (by rw [hd]; rfl)
    have HP := Lib.hid (pad_copy b)
    have HLN := Lib.hid (show d.length = 128 by rw [← HD.out]; exact pad_length b)
    clear hd
    go_enter Try.func9, Try.ntmps9
    go_wp2_with (first
      | (have hG : Sat W _ [] := hS; clear hG; go_at_call 46; refine (bytes_any hS b _ HR.out hb).mono ?_; rintro e w1 ⟨v0, rfl, hS1⟩; clear hS; have hS := hS1.drop; clear hS1)
      | (refine toList (by rfl) ?_; refine mk hS _ _ _ (by rfl) 128 128 _ _ (by rfl) (by rfl) (elOf (by rfl)) (by omega) (by omega) (by omega) ?_; intro pb w1 hS1; clear hS; have hS := hS1; clear hS1; rw [made_u8] at hS)
      | (refine toList (by rfl) ?_; refine cp hS _ _ _ _ (by rfl) _ _ _ _ _ (by rfl) (by rfl) (elOf (by rfl)) (by omega) Has.z (by exact HR.out.old hS) (bv_one _) (by simp [bv, zeros]) ?_; intro w1 hS1; clear hS; have hS := hS1; clear hS1; rw [HP.out, HD.out] at hS; dsimp only [List.set_cons_zero] at hS; replace hS := Sat.slMk (E := 5) (n := 128) (sz := 1) (cap := 128) (pre := []) (vs := bv d) (rest := []) (by simpa using hS) (Nat.le_refl _) (by omega) (by rw [bv_length]; exact HLN.out) rfl (by rw [bv_length, HLN.out]; exact Nat.le_refl _))
      | (go_at_call 46; refine (bytes_any hS d _ (by first | exact Rd.bvn (hS.slRd Has.z) | exact Rd.bvn (hS.slRd (Has.s (Has.s Has.z)))) HDL.out).mono ?_; rintro e w1 ⟨v6, rfl, hS1⟩; clear hS; have hS := hS1; clear hS1; obtain ⟨ao6, c6, rfl, _⟩ := hS.slShape (k := 0) rfl)
      | (go_at_call 44; refine (rget_any hS d _ _ (fun w h => h.slRd Has.z) HDL2.out).mono ?_; rintro e w1 ⟨v7, rfl, hS1⟩; rw [HGL.out] at hS1; rw [HGX.out, HGK.out]; obtain ⟨ao7, c7, rfl, _⟩ := hS1.tbShape (k := 0) rfl; clear hS; have hS := hS1.pull1.drop; clear hS1)
      | (go_at_call 47; refine (ref_rget_n hS d 128 HLN.out _ _ (fun w h => h.slRd (Has.s Has.z)) HDL2.out).mono ?_; rintro e w1 ⟨v8, rfl, hS1⟩; rw [HGL.out] at hS1; rw [HGX.out, HGK.out]; obtain ⟨ao8, c8, rfl, _⟩ := hS1.tbShape (k := 0) rfl; clear hS; have hS := hS1; clear hS1)
      | (go_at_call 48; refine (sget_any hS d _ _ (fun w h => h.slRd Has.z) HDL2.out).mono ?_; rintro e w1 ⟨rfl, hS1⟩; rw [HGS.out, HGZ.out]; dsimp only [sv]; clear hS; have hS := hS1.drop; clear hS1)
      | (go_at_call 49; refine (ref_sget_n hS d 128 HLN.out _ _ (fun w h => h.slRd (Has.s (Has.s (Has.s Has.z)))) HDL2.out).mono ?_; rintro e w1 ⟨rfl, hS1⟩; rw [HGS.out, HGZ.out]; dsimp only [sv]; clear hS; have hS := hS1; clear hS1)
      | (refine toList (by rfl) ?_; refine al hS _ (by rfl) (zrOf (by rfl)) ?_; intro px w1 hS1; clear hS; have hS := hS1; clear hS1; rw [cells_agg] at hS)
      | (refine toList (by rfl) ?_; refine stW hS _ _ _ (by rfl) (by rfl) (sv ⟨s1, s2, s3, s4, s5, s6, s7⟩) (by rfl) (sv_all _) (szOf (by rfl)) Has.z (by rfl) ?_; intro w1 hS1; clear hS; have hS := hS1; clear hS1; dsimp only [List.set_cons_zero, List.set_cons_succ] at hS)
      | (refine toList (by rfl) ?_; refine wp_of_reads (rLdA hS _ _ (by rfl) _ _ (by rfl) (agOf (by rfl)) (szOf (by rfl)) (by first | exact Has.z | exact Has.s Has.z | exact Has.s (Has.s Has.z) | exact Has.s (Has.s (Has.s Has.z)) | exact Has.s (Has.s (Has.s (Has.s Has.z))) | exact Has.s (Has.s (Has.s (Has.s (Has.s Has.z))))) (vs := sv ⟨s1, s2, s3, s4, s5, s6, s7⟩) (by rfl) (by rfl)) ?_; dsimp only [sv])
      | (go_at_call 45; refine (same_recs hS gl gl _ _ _ _ (fun w h => h.tbRd (Has.s (Has.s (Has.s Has.z)))) (fun w h => h.tbRd (Has.s (Has.s Has.z))) HLL.out).mono ?_; rintro e w1 ⟨rfl, hS1⟩; rw [decide_eq_true (rfl : gl = gl)]; clear hS; have hS := hS1; clear hS1)
      | (go_at_call 36; refine (awake_any hS).mono ?_; rintro e w1 ⟨rfl, hS1⟩; clear hS; have hS := hS1; clear hS1))
    go_ret
    exact ⟨rfl, hS.drop.drop.drop.drop.drop⟩

set_option maxRecDepth 100000 in
theorem Gets.contract (H : Type) (enc : TypeId × Value → H) (W : World) (base : Nat) (args : Array Value) (ds gs : List (DataW H)) (before : List MemPlace)
    (hval : ∀ (j : Nat) t v, Try.f9.params[j]? = some t → args[j]? = some v → Value.okWide Try.prog W .any base t v)
    (hW : DataW.Whole enc Try.prog Try.f9.params.toList Rows.recordGetsSpec.vars false W args.toList ds gs before)
    (hreach : (DataW.weightsEach Try.prog (Try.f9.params.toList ++ Rows.recordGetsSpec.plain.varTypes Try.prog) (ds ++ gs)).all (· ≤ reachBytes) = true) :
    Calls Try.prog 9 args W fun e W' => ∃ v, e = .returned v ∧ Rows.recordGetsSpec.post enc Try.prog Try.f9 false true false false W args v W' := by
  have hW' := hW
  obtain ⟨p, q, hA, hV, rfl, hfz, hnd⟩ := hW
  rw [Try.params9] at hA hval hreach
  obtain ⟨v0, vs0, d0, ds0, p0, q0, hargs, rfl, rfl, h0, r0⟩ := trodAll_cons hA
  obtain ⟨v1, vs1, d1, ds1, p1, q1, rfl, rfl, rfl, h1, r1⟩ := trodAll_cons r0
  obtain ⟨rfl, rfl, rfl⟩ := trodAll_nil r1
  obtain rfl : args = #[v0, v1] := by cases args; simp_all
  obtain ⟨rfl, rfl⟩ := trodVars_none hV
  obtain ⟨ao, len, cap, rfl⟩ := okWide_slice Try.underlying36 (hval 0 36 v0 rfl rfl)
  obtain ⟨full, rfl, _⟩ := open_bool Try.underlying4 (hval 1 4 v1 rfl rfl) h1
  obtain ⟨l, rfl, hr, _⟩ := open_bytes Try.underlying36 Try.underlying5 (by kernel_rfl) h0
  have hb : l.length ≤ 140737488351232 := by
    have := reach_slice (sz := 1) h0 Try.underlying36 (by kernel_rfl) (mem_weights hreach 0 rfl rfl)
    omega
  refine (Gets.walk l _ full W hr hb).mono ?_
  refine fun e W' ⟨he, hS⟩ => ?_
  subst he
  exact ⟨_, rfl, law_post (tb := 4) (by kernel_rfl) (by kernel_rfl) rfl Try.underlying4 rfl hW' rfl hS⟩

theorem Gets.own : ownKnob Try.prog.godebug = none := by kernel_rfl
set_option maxRecDepth 100000 in
theorem Gets.lifted (os : Os) (started : os.Started) (H : Type) (enc : TypeId × Value → H) :
    ReturnsInHanded {} Try.checked os 9 .any (Rows.recordGetsSpec.pre6 enc Try.prog Try.f9 Rows.recordGetsRow.domain false) (Rows.recordGetsSpec.post enc Try.prog Try.f9 false true false false) := by
  refine returnsInHanded_of_change_shaped (C := Try.checked) Gets.own started (by kernel_rfl) Try.func9
    (ChangeSpec.witness6 (enc := enc) (C := Try.checked) false ⟨#[], #[.slice none 0 0, .bool false], []⟩ 8 (by kernel_rfl) (by kernel_rfl) (by kernel_rfl) (by kernel_rfl)) ?_
  intro W base args ds gs before hval hW _ hreach _ _
  exact Gets.contract H enc W base args ds gs before hval hW hreach

theorem Gets.holds : Rows.RecordGetsSaid :=
  OpenClaim.holds_of_wide 9 Try.f9 rfl rfl rfl rfl rfl rfl rfl ⟨rfl, rfl, rfl, rfl, rfl⟩ rfl rfl rfl rfl rfl (by kernel_rfl) Try.func9 (by kernel_rfl)
    (of_decide_eq_true (by kernel_rfl)) (by unfold Func.isWrapper; first | (rw [if_pos (by decide +kernel)]; kernel_rfl) | (rw [if_neg (by decide +kernel)]; exact ⟨rfl, rfl⟩))
    (fun os started H enc _ => Gets.lifted os started H enc)
end Go.Proofs.Ytcabgeljdgcdlaa
