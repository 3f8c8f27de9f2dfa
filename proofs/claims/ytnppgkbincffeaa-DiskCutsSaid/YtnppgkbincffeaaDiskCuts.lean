/-
  For all numbers, DiskCuts answers true: no condition.
-/
import Derived.Test.YtnppgkbincffeaaDiskLaw
import Derived.Test.YtnppgkbincffeaaDiskImage
namespace Go.Proofs.Ytnppgkbincffeaa
open Go.RowKit Go.Sep Go.ChangeShapes Go.WideShapes Go.ChangeAt
set_option linter.unusedSimpArgs false
set_option linter.unusedVariables false
attribute [local irreducible] Go.Oper.wp Go.wpList Go.Calls Go.Code.wp Go.Sep.Reg

/-- A block that begins with i + 1. -/
def blk (i : Nat) : List UInt8 := (zeros 128).set 0 (UInt8.ofNat (i + 1))
theorem blk_set (i : Nat) (h : i < 200) : (bv (zeros 128)).set 0 (.int .u8 ((i : Int) + 1)) = bv (blk i) := by
  unfold blk
  rw [← bv_set]
  congr 1
  simp only [u8]
  rw [UInt8.toNat_ofNat_of_lt' (by show i + 1 < 256; omega)]
  simp
theorem blk_length (i : Nat) : (blk i).length = 128 := by simp [blk, zeros]
theorem blk_first (i : Nat) (h : i < 200) : (bv (blk i))[0]? = some (.int .u8 ((i : Int) + 1)) := by
  rw [← blk_set i h]; simp [bv, zeros]
theorem zeros_first : (bv (zeros 128))[0]? = some (.int .u8 0) := by simp [bv, zeros, u8]
structure CutsAt (k i : Nat) (D : DiskS) : Prop where
  len : D.blocks.length = 160
  base : D.base = []
  wl : D.writes.length ≤ i
  wat : ∀ x ∈ D.writes, x.1 < D.blocks.length
  left : D.left = if i ≤ k then (k : Int) - i else 0
  dead : D.dead = decide (k < i)
  rest : ∀ j, i ≤ j → j < 160 → D.blocks[j]? = some (zeros 128)
theorem CutsAt.zero (k : Nat) : CutsAt k 0 { DiskS.new 160 with left := k } := by
  refine ⟨by simp [DiskS.new], rfl, by simp [DiskS.new], by simp [DiskS.new], by simp, by simp [DiskS.new], fun j _ h => ?_⟩
  show (List.replicate 160 (zeros 128))[j]? = _
  rw [List.getElem?_replicate, if_pos h]
theorem CutsAt.wrote {k i : Nat} {D : DiskS} (h : CutsAt k i D) (hi : i < k) (hi2 : i < 160) (b : List UInt8) : CutsAt k (i + 1) (D.wrote i b) := by
  have hl := h.left
  rw [if_pos (by omega)] at hl
  refine ⟨by rw [wrote_len, h.len], h.base, by simp [DiskS.wrote, h.wl], fun x hx => ?_, ?_, ?_, fun j h1 h2 => ?_⟩
  · rw [wrote_len, h.len]
    rcases List.mem_append.1 hx with hx | hx
    · have := h.wat x hx; rw [h.len] at this; exact this
    · rw [List.mem_singleton.1 hx]; exact hi2
  · rw [if_pos (by omega)]; simp only [DiskS.wrote]; rw [if_pos (by omega)]; omega
  · simp only [DiskS.wrote]; rw [h.dead]; simp; omega
  · rw [wrote_ne (by omega)]; exact h.rest j (by omega) h2
theorem CutsAt.died {k i : Nat} {D : DiskS} (h : CutsAt k i D) (hi : k ≤ i) : CutsAt k (i + 1) { D with dead := true } :=
  ⟨h.len, h.base, by have := h.wl; show D.writes.length ≤ i + 1; omega, h.wat, by
    have := h.left; show D.left = _; rw [this]
    rw [if_neg (by omega : ¬ i + 1 ≤ k)]
    split <;> omega, by simp; omega, fun j h1 h2 => h.rest j (by omega) h2⟩
theorem CutsAt.stays {k i : Nat} {D : DiskS} (h : CutsAt k i D) (hi : k < i) : CutsAt k (i + 1) D :=
  ⟨h.len, h.base, by have := h.wl; omega, h.wat, by
    have := h.left; rw [this]
    rw [if_neg (by omega : ¬ i + 1 ≤ k), if_neg (by omega)], by rw [h.dead]; simp; omega, fun j h1 h2 => h.rest j (by omega) h2⟩

set_option maxRecDepth 20000 in
set_option maxHeartbeats 4000000 in
theorem Cuts.walk (n m : Int) (W : World) (hn1 : -9223372036854775808 ≤ n) (hn2 : n ≤ 9223372036854775807) (hm1 : -9223372036854775808 ≤ m) (hm2 : m ≤ 9223372036854775807) :
    Calls Try.prog 7 #[.int .i64 n, .int .i64 m] W fun e w' => e = .returned (.bool true) ∧ Sat W w' [] := by
  have hS := Sat.start W
  obtain ⟨k, hk⟩ : ∃ k : Nat, place n 20 = k := ⟨(place n 20).toNat, by have := @place_lt n 20 (by decide); omega⟩
  obtain ⟨r, hr⟩ : ∃ r : Nat, place m 30 = r := ⟨(place m 30).toNat, by have := @place_lt m 30 (by decide); omega⟩
  have hk2 : k < 20 := by have := @place_lt n 20 (by decide); omega
  have hr2 : r < 30 := by have := @place_lt m 30 (by decide); omega
  have HK := Lib.hid hk
  have HR := Lib.hid hr
  clear hk hr
  go_enter Try.func7, Try.ntmps7
  go_wp2_with (first
    | (go_at_call 8; refine (new_ok hS 160 (by decide) (by decide)).mono ?_; rintro e w1 ⟨p, rfl, hS1⟩; clear hS; have hS := hS1; clear hS1)
    | (go_at_call 11; refine (place_any _ n 20 (by decide) (by decide) hn1 hn2).mono ?_; rintro e w1 ⟨rfl, rfl⟩; rw [HK.out])
    | (go_at_call 14; refine (cut_yes hS k (by omega)).mono ?_; rintro e w1 ⟨rfl, hS1⟩; clear hS; have hS := hS1; clear hS1))
  have hC := CutsAt.zero k
  obtain ⟨D0, hD0⟩ : ∃ D, D = { DiskS.new 160 with left := k } := ⟨_, rfl⟩
  rw [← hD0] at hS hC
  clear hD0
  have HS := Lib.hid hS
  have HC := Lib.hid hC
  clear hC
  go_loopw [8] (fun v wz => ∃ i : Nat, i ≤ r ∧ v = .int .i64 i ∧ ∃ D, CutsAt k i D ∧ Sat W wz [IsDisk p D]) (fun v _ => r - (intOf v).toNat)
  case atStart => exact ⟨0, by omega, rfl, D0, HC.out, HS.out⟩
  case round =>
    clear hS HS HC
    obtain ⟨i, hi, rfl, D, hC, hS⟩ := hrel
    have HC := Lib.hid hC
    have HO : Hid D.Ok := Lib.hid ⟨by rw [hC.len]; decide, by rw [hC.base]; simp, hC.wat⟩
    clear hC
    by_cases hlt : i < r
    · have i1 : (i : Int) < (r : Int) := by omega
      have HZ := Lib.hid zeros_first
      rcases Nat.lt_trichotomy i k with hik | hik | hik
      · have i2 : (i : Int) < (k : Int) := by omega
        have HCW := Lib.hid (HC.out.wrote hik (by omega) (blk i))
        have HB := Lib.hid (blk_first i (by omega))
        have HBS := Lib.hid (blk_set i (by omega))
        have HD := Lib.hid (show D.dead = false by rw [HC.out.dead]; simp; omega)
        have HF := Lib.hid (show D.left = (k : Int) - i by rw [HC.out.left, if_pos (by omega)])
        have HDW := Lib.hid (show (D.wrote i (blk i)).dead = false by rw [← HD.out]; rfl)
        have HRD := Lib.hid (show (D.wrote i (blk i)).blocks[i]? = some (blk i) from wrote_at (by rw [HC.out.len]; omega))
        go_wp2_with (first
          | (go_at_call 11; refine (place_any _ m 30 (by decide) (by decide) hm1 hm2).mono ?_; rintro e w1 ⟨rfl, rfl⟩; rw [HR.out])
          | (refine toList (by rfl) ?_; refine mk hS _ _ _ (by rfl) 128 128 _ _ (by rfl) (by rfl) (elOf (by rfl)) (by omega) (by omega) (by omega) ?_; intro pb w1 hS1; clear hS; have hS := hS1; clear hS1; rw [made_u8] at hS)
          | (refine toList (by rfl) ?_; refine st hS _ _ _ (by rfl) _ _ (by rfl) _ (by first | exact evC | exact evT (by rfl)) (by rfl) (szOf (by rfl)) Has.z (by simp [bv, zeros]) ?_; intro w1 hS1; clear hS; have hS := hS1; clear hS1; dsimp only [List.set_cons_zero] at hS; rw [HBS.out] at hS)
          | (go_at_call 17; refine (write_arg hS.pull1 (-1) _ 128 _ HD.out (Or.inl (by decide))).mono ?_; rintro e w1 ⟨rfl, rfl⟩)
          | (go_at_call 17; refine (write_ok hS.pull1 i _ (blk i) (fun w h => h.csRd0 (n := 128) Has.z (by decide) (by simp [bv_length, blk_length])) HD.out (by rw [HC.out.len]; omega) (by rw [HF.out]; omega) (by rw [HF.out]; omega) (by rw [HF.out]; omega) (by have := HC.out.wl; omega) (by rw [HC.out.len]; decide)).mono ?_; rintro e w1 ⟨rfl, hS1⟩; clear hS; have hS := hS1; clear hS1)
          | (go_at_call 23; refine (dead_any hS (b := false) HDW.out).mono ?_; rintro e w1 ⟨rfl, rfl⟩)
          | (go_at_call 12; refine (read_ok hS i _ HRD.out (by rw [HCW.out.len]; decide)).mono ?_; rintro e w1 ⟨q, rfl, _, hS1⟩; clear hS; have hS := hS1; clear hS1)
          | (refine toList (by rfl) ?_; refine ld hS _ _ (by rfl) _ _ (by rfl) (agOf (by rfl)) Has.z (by exact HB.out) ?_))
        exact ⟨⟨i + 1, by omega, by go_num, _, HCW.out, hS.drop.pull1.drop⟩, by simp [intOf]; omega⟩
      · subst hik
        have HCW := Lib.hid (HC.out.died (Nat.le_refl i))
        have HBS := Lib.hid (blk_set i (by omega))
        have HD := Lib.hid (show D.dead = false by rw [HC.out.dead]; simp)
        have HF := Lib.hid (show D.left = 0 by rw [HC.out.left]; simp)
        have HRD := Lib.hid (HC.out.rest i (Nat.le_refl i) (by omega))
        go_wp2_with (first
          | (go_at_call 11; refine (place_any _ m 30 (by decide) (by decide) hm1 hm2).mono ?_; rintro e w1 ⟨rfl, rfl⟩; rw [HR.out])
          | (refine toList (by rfl) ?_; refine mk hS _ _ _ (by rfl) 128 128 _ _ (by rfl) (by rfl) (elOf (by rfl)) (by omega) (by omega) (by omega) ?_; intro pb w1 hS1; clear hS; have hS := hS1; clear hS1; rw [made_u8] at hS)
          | (refine toList (by rfl) ?_; refine st hS _ _ _ (by rfl) _ _ (by rfl) _ (by first | exact evC | exact evT (by rfl)) (by rfl) (szOf (by rfl)) Has.z (by simp [bv, zeros]) ?_; intro w1 hS1; clear hS; have hS := hS1; clear hS1; dsimp only [List.set_cons_zero] at hS; rw [HBS.out] at hS)
          | (go_at_call 17; refine (write_arg hS.pull1 (-1) _ 128 _ HD.out (Or.inl (by decide))).mono ?_; rintro e w1 ⟨rfl, rfl⟩)
          | (go_at_call 17; refine (write_cut hS.pull1 i _ _ HD.out (by rw [HC.out.len]; omega) HF.out).mono ?_; rintro e w1 ⟨rfl, hS1⟩; clear hS; have hS := hS1; clear hS1)
          | (go_at_call 23; refine (dead_any hS (b := true) rfl).mono ?_; rintro e w1 ⟨rfl, rfl⟩)
          | (go_at_call 12; refine (read_ok hS i _ HRD.out (by show D.blocks.length ≤ 1024; rw [HC.out.len]; decide)).mono ?_; rintro e w1 ⟨q, rfl, _, hS1⟩; clear hS; have hS := hS1; clear hS1)
          | (refine toList (by rfl) ?_; refine ld hS _ _ (by rfl) _ _ (by rfl) (agOf (by rfl)) Has.z (by exact HZ.out) ?_))
        exact ⟨⟨i + 1, by omega, by go_num, _, HCW.out, hS.drop.pull1.drop⟩, by simp [intOf]; omega⟩
      · have HCW := Lib.hid (HC.out.stays hik)
        have HBS := Lib.hid (blk_set i (by omega))
        have HD := Lib.hid (show D.dead = true by rw [HC.out.dead]; simp [hik])
        have HRD := Lib.hid (HC.out.rest i (Nat.le_refl i) (by omega))
        have e1 : decide ((i : Int) < (k : Int)) = false := by simp; omega
        have e2 : decide ((k : Int) ≤ (i : Int)) = true := by simp; omega
        have e3 : decide (i < k) = false := by simp; omega
        have e4 : decide (k ≤ i) = true := by simp; omega
        go_wp2_with (first
          | (go_at_call 11; refine (place_any _ m 30 (by decide) (by decide) hm1 hm2).mono ?_; rintro e w1 ⟨rfl, rfl⟩; rw [HR.out])
          | (refine toList (by rfl) ?_; refine mk hS _ _ _ (by rfl) 128 128 _ _ (by rfl) (by rfl) (elOf (by rfl)) (by omega) (by omega) (by omega) ?_; intro pb w1 hS1; clear hS; have hS := hS1; clear hS1; rw [made_u8] at hS)
          | (refine toList (by rfl) ?_; refine st hS _ _ _ (by rfl) _ _ (by rfl) _ (by first | exact evC | exact evT (by rfl)) (by rfl) (szOf (by rfl)) Has.z (by simp [bv, zeros]) ?_; intro w1 hS1; clear hS; have hS := hS1; clear hS1; dsimp only [List.set_cons_zero] at hS; rw [HBS.out] at hS)
          | (go_at_call 17; refine (write_dead hS.pull1 _ _ HD.out).mono ?_; rintro e w1 ⟨rfl, rfl⟩)
          | (go_at_call 23; refine (dead_any hS.pull1 (b := true) HD.out).mono ?_; rintro e w1 ⟨rfl, rfl⟩)
          | (go_at_call 12; refine (read_ok hS.pull1 i _ HRD.out (by rw [HC.out.len]; decide)).mono ?_; rintro e w1 ⟨q, rfl, _, hS1⟩; clear hS; have hS := hS1; clear hS1)
          | (refine toList (by rfl) ?_; refine ld hS _ _ (by rfl) _ _ (by rfl) (agOf (by rfl)) Has.z (by exact HZ.out) ?_))
        exact ⟨⟨i + 1, by omega, by go_num, _, HCW.out, hS.drop.pull1.drop⟩, by simp [intOf]; omega⟩
    · obtain rfl : i = r := by omega
      have HI := Lib.hid (show (D.image D.writes.length).blocks.length = 160 by simp [DiskS.image, applyW_length, DiskS.start_length HO.out, HC.out.len])
      go_wp2_with (first
        | (go_at_call 11; refine (place_any _ m 30 (by decide) (by decide) hm1 hm2).mono ?_; rintro e w1 ⟨rfl, rfl⟩; rw [HR.out])
        | (go_at_call 20; refine (writes_any hS rfl).mono ?_; rintro e w1 ⟨rfl, rfl⟩)
        | (go_at_call 22; refine (image_ok hS HO.out D.writes.length (Nat.le_refl _)).mono ?_; rintro e w1 ⟨q, rfl, hS1⟩; clear hS; have hS := hS1; clear hS1)
        | (go_at_call 23; refine (dead_any hS (b := false) rfl).mono ?_; rintro e w1 ⟨rfl, rfl⟩)
        | (refine toList (by rfl) ?_; refine mk hS _ _ _ (by rfl) 128 128 _ _ (by rfl) (by rfl) (elOf (by rfl)) (by omega) (by omega) (by omega) ?_; intro pb w1 hS1; clear hS; have hS := hS1; clear hS1; rw [made_u8] at hS)
        | (go_at_call 17; refine (write_ok hS.pull1 0 _ (zeros 128) (fun w h => h.csRd0 (n := 128) Has.z (by decide) (by simp [bv_length, zeros])) rfl (by rw [HI.out]; decide) (by show (-1 : Int) ≠ 0; decide) (by show (-1 : Int) ≤ -1; decide) (by show (-1 : Int) ≤ _; decide) (by show 0 ≤ _; decide) (by rw [HI.out]; decide)).mono ?_; rintro e w1 ⟨rfl, hS1⟩; clear hS; have hS := hS1; clear hS1)
        | (go_at_call 10; refine (awake_any hS).mono ?_; rintro e w1 ⟨rfl, hS1⟩; clear hS; have hS := hS1; clear hS1))
      go_ret
      exact ⟨rfl, hS.drop.drop.drop⟩

theorem Cuts.contract (H : Type) (enc : TypeId × Value → H) (W : World) (base : Nat) (args : Array Value) (ds gs : List (DataW H)) (before : List MemPlace)
    (hval : ∀ (j : Nat) t v, Try.f7.params[j]? = some t → args[j]? = some v → Value.okWide Try.prog W .any base t v)
    (hW : DataW.Whole enc Try.prog Try.f7.params.toList Rows.diskCutsSpec.vars false W args.toList ds gs before)
    (hreach : (DataW.weightsEach Try.prog (Try.f7.params.toList ++ Rows.diskCutsSpec.plain.varTypes Try.prog) (ds ++ gs)).all (· ≤ reachBytes) = true) :
    Calls Try.prog 7 args W fun e W' => ∃ v, e = .returned v ∧ Rows.diskCutsSpec.post enc Try.prog Try.f7 false true false false W args v W' := by
  have hW' := hW
  obtain ⟨p, q, hA, hV, rfl, hfz, hnd⟩ := hW
  rw [Try.params7] at hA hval hreach
  obtain ⟨v0, vs0, d0, ds0, p0, q0, hargs, rfl, rfl, h0, r0⟩ := trodAll_cons hA
  obtain ⟨v1, vs1, d1, ds1, p1, q1, rfl, rfl, rfl, h1, r1⟩ := trodAll_cons r0
  obtain ⟨rfl, rfl, rfl⟩ := trodAll_nil r1
  obtain rfl : args = #[v0, v1] := by cases args; simp_all
  obtain ⟨rfl, rfl⟩ := trodVars_none hV
  obtain ⟨a0, rfl, rfl, rfl, w0⟩ := open_int Try.underlying3 (hval 0 3 v0 rfl rfl) h0
  obtain ⟨a1, rfl, rfl, rfl, w1⟩ := open_int Try.underlying3 (hval 1 3 v1 rfl rfl) h1
  have i0 := i64_of w0
  have i1 := i64_of w1
  refine (Cuts.walk a0 a1 W i0.1 i0.2 i1.1 i1.2).mono ?_
  refine fun e W' ⟨he, hS⟩ => ?_
  subst he
  exact ⟨_, rfl, law_post (tb := 4) (by kernel_rfl) (by kernel_rfl) rfl Try.underlying4 rfl hW' rfl hS⟩

theorem Cuts.own : ownKnob Try.prog.godebug = none := by kernel_rfl
set_option maxRecDepth 100000 in
theorem Cuts.lifted (os : Os) (started : os.Started) (H : Type) (enc : TypeId × Value → H) :
    ReturnsInHanded {} Try.checked os 7 .any (Rows.diskCutsSpec.pre6 enc Try.prog Try.f7 Rows.diskCutsRow.domain false) (Rows.diskCutsSpec.post enc Try.prog Try.f7 false true false false) := by
  refine returnsInHanded_of_change_shaped (C := Try.checked) Cuts.own started (by kernel_rfl) Try.func7
    (ChangeSpec.witness6 (enc := enc) (C := Try.checked) false ⟨#[], #[.int .i64 0, .int .i64 0], []⟩ 8 (by kernel_rfl) (by kernel_rfl) (by kernel_rfl) (by kernel_rfl)) ?_
  intro W base args ds gs before hval hW _ hreach _ _
  exact Cuts.contract H enc W base args ds gs before hval hW hreach

theorem Cuts.holds : Rows.DiskCutsSaid :=
  OpenClaim.holds_of_wide 7 Try.f7 rfl rfl rfl rfl rfl rfl rfl ⟨rfl, rfl, rfl, rfl, rfl⟩ rfl rfl rfl rfl rfl (by kernel_rfl) Try.func7 (by kernel_rfl)
    (of_decide_eq_true (by kernel_rfl)) (by unfold Func.isWrapper; first | (rw [if_pos (by decide +kernel)]; kernel_rfl) | (rw [if_neg (by decide +kernel)]; exact ⟨rfl, rfl⟩))
    (fun os started H enc _ => Cuts.lifted os started H enc)
end Go.Proofs.Ytnppgkbincffeaa
