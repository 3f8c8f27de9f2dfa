/-
  For all bytes, AdlerBytes answers true: no condition.
-/
import Derived.Test.YtdajmojaelpilaaAdler2
namespace Go.Proofs.Ytdajmojaelpilaa
open Go.RowKit Go.Sep Go.ChangeShapes Go.WideShapes Go.ChangeAt

theorem rdOne {w : World} {b off n c : Nat} {l : List UInt8} (h : Rd w (.slice (some ⟨b, off, none⟩) n c) n 1 (bv l)) (k : Nat) (hk : k < l.length) :
    Rd w (.slice (some ⟨b, off + k, none⟩) 1 (c - k)) [l[k]].length 1 (bv [l[k]]) := by
  obtain ⟨ao, c', h1, h2, h3, h4, h5⟩ := h
  simp only [Value.slice.injEq, true_and] at h1
  obtain ⟨rfl, rfl⟩ := h1
  simp [bv] at h4
  obtain ⟨b', off', h6, h7⟩ := h5 (by omega)
  simp only [Option.some.injEq, Addr.mk.injEq, and_true] at h6
  obtain ⟨rfl, rfl⟩ := h6
  refine ⟨_, _, rfl, ?_, by omega, rfl, fun _ => ⟨b, off + k, rfl, fun j u hu => ?_⟩⟩
  · simp; omega
  · have hj : j = 0 := by have := (List.getElem?_eq_some_iff.1 hu).1; simpa [bv] using this
    subst hj
    simp [bv] at hu
    exact h7 k u (by rw [bv_at hk, ← hu]; rfl)

theorem of_nil (w : World) : Calls Try.prog 10 #[.slice none 0 0] w fun e w' => e = .returned (.int .u32 1) ∧ w = w' := by
  have h := of_any [] _ _ (rdNil w)
  rwa [show adMore 1 [] = 1 from by decide +kernel] at h
theorem more_nil (l : List UInt8) (w : World) : Calls Try.prog 12 #[.int .u32 (adMore 1 l : Nat), .slice none 0 0] w fun e w' => e = .returned (.int .u32 (adMore 1 l : Nat)) ∧ w = w' := by
  have h := more_any (adMore 1 l) (adMore_lt 1 l).2.2 [] _ _ (rdNil w)
  rwa [adMore_nil] at h

theorem ad_nil : adMore 1 [] = 1 := by decide +kernel
attribute [local irreducible] adMore
set_option maxRecDepth 100000 in
set_option maxHeartbeats 1000000 in
theorem Bytes.walk (l : List UInt8) (v : Value) (W : World) (hr : Rd W v l.length 1 (bv l)) :
    Calls Try.prog 5 #[v] W fun e w' => e = .returned (.bool true) ∧ Sat W w' [] := by
  have hS := Sat.start W
  obtain ⟨ao, cap, rfl, g1, g2, _, g4⟩ := id hr
  have hlm : l.length ≤ 9223372036854775807 := by omega
  go_enter Try.func5, Try.ntmps5
  go_wp2_with (go_at_call 10; refine (of_nil _).mono ?_; rintro e w' ⟨rfl, rfl⟩)
  go_loop [3, 4] (fun s i => ∃ k : Nat, k ≤ l.length ∧ i = .int .i64 k ∧ s = .int .u32 (adMore 1 (l.take k) : Nat)) (fun _ i => l.length - (intOf i).toNat)
  case atStart => exact ⟨0, Nat.zero_le _, rfl, by simp [ad_nil]⟩
  case round =>
    obtain ⟨k, hk, rfl, rfl⟩ := hrel
    have hlt := adMore_lt 1 (l.take k)
    by_cases hkl : k < l.length
    · obtain ⟨b, off, rfl, _⟩ := g4 (by omega)
      have hst : adMore 1 (l.take (k + 1)) = adMore (adMore 1 (l.take k)) [l[k]] := by rw [adMore_append, List.take_succ_eq_append_getElem hkl]
      have Hst := Lib.hid hst
      clear hst g4
      have h1 := rdOne hr k hkl
      go_wp2_with (go_at_call 12; refine (more_any (adMore 1 (l.take k)) (by omega) [l[k]] _ _ (by exact h1)).mono ?_; rintro e w' ⟨rfl, rfl⟩)
      go_round
      case rel => exact ⟨k + 1, by omega, by go_num, by rw [Hst.out]⟩
      case measure => simp [intOf]; omega
    · obtain rfl : k = l.length := by omega
      rw [List.take_length] at hlt ⊢
      have hlow := and_low (adMore 1 l) hlt.2.2
      have hof := of_any l _ _ hr
      have hmo := more_nil l W
      obtain ⟨hl1, hl2, hl3⟩ := hlt
      generalize adMore 1 l = s at *
      have Hof := Lib.hid hof
      have Hmo := Lib.hid hmo
      have hl1' : decide ((s : Int) % 65536 < 65521) = true := decide_eq_true (by omega)
      have hl2' : decide ((s : Int) / 65536 < 65521) = true := decide_eq_true (by omega)
      clear hof hmo hl1 hl2
      go_wp2_with (first
        | (go_at_call 10; with_reducible refine (of_nil _).mono ?_; rintro e w' ⟨rfl, rfl⟩)
        | (go_at_call 10; with_reducible refine Hof.out.mono ?_; rintro e w' ⟨rfl, rfl⟩)
        | (go_at_call 12; with_reducible refine Hmo.out.mono ?_; rintro e w' ⟨rfl, rfl⟩)
        | (go_at_call 14; refine (awake_any hS).mono ?_; rintro e w' ⟨rfl, hS1⟩; clear hS; have hS := hS1; clear hS1))
      go_ret
      exact ⟨rfl, hS⟩

theorem Bytes.contract (H : Type) (enc : TypeId × Value → H) (W : World) (base : Nat) (args : Array Value) (ds gs : List (DataW H)) (before : List MemPlace)
    (hval : ∀ (j : Nat) t v, Try.f5.params[j]? = some t → args[j]? = some v → Value.okWide Try.prog W .any base t v)
    (hW : DataW.Whole enc Try.prog Try.f5.params.toList Rows.adlerBytesSpec.vars false W args.toList ds gs before)
    (hreach : (DataW.weightsEach Try.prog (Try.f5.params.toList ++ Rows.adlerBytesSpec.plain.varTypes Try.prog) (ds ++ gs)).all (· ≤ reachBytes) = true) :
    Calls Try.prog 5 args W fun e W' => ∃ v, e = .returned v ∧ Rows.adlerBytesSpec.post enc Try.prog Try.f5 false true false false W args v W' := by
  have hW' := hW
  obtain ⟨p, q, hA, hV, rfl, hfz, hnd⟩ := hW
  rw [Try.params5] at hA hval hreach
  obtain ⟨v0, vs0, d0, ds0, p0, q0, hargs, rfl, rfl, h0, r0⟩ := trodAll_cons hA
  obtain ⟨rfl, rfl, rfl⟩ := trodAll_nil r0
  obtain rfl : args = #[v0] := by cases args; simp_all
  obtain ⟨rfl, rfl⟩ := trodVars_none hV
  obtain ⟨ao, len, cap, rfl⟩ := okWide_slice Try.underlying23 (hval 0 23 v0 rfl rfl)
  obtain ⟨l, rfl, hr, _⟩ := open_bytes Try.underlying23 Try.underlying5 (by kernel_rfl) h0
  refine (Bytes.walk l _ W hr).mono ?_
  refine fun e W' ⟨he, hS⟩ => ?_
  subst he
  exact ⟨_, rfl, law_post (tb := 4) (by kernel_rfl) (by kernel_rfl) rfl Try.underlying4 rfl hW' rfl hS⟩

theorem Bytes.own : ownKnob Try.prog.godebug = none := by kernel_rfl
set_option maxRecDepth 100000 in
theorem Bytes.lifted (os : Os) (started : os.Started) (H : Type) (enc : TypeId × Value → H) :
    ReturnsInHanded {} Try.checked os 5 .any (Rows.adlerBytesSpec.pre6 enc Try.prog Try.f5 Rows.adlerBytesRow.domain false) (Rows.adlerBytesSpec.post enc Try.prog Try.f5 false true false false) := by
  refine returnsInHanded_of_change_shaped (C := Try.checked) Bytes.own started (by kernel_rfl) Try.func5
    (ChangeSpec.witness6 (enc := enc) (C := Try.checked) false ⟨#[], #[.slice none 0 0], []⟩ 8 (by kernel_rfl) (by kernel_rfl) (by kernel_rfl) (by kernel_rfl)) ?_
  intro W base args ds gs before hval hW _ hreach _ _
  exact Bytes.contract H enc W base args ds gs before hval hW hreach

theorem Bytes.holds : Rows.AdlerBytesSaid :=
  OpenClaim.holds_of_wide 5 Try.f5 rfl rfl rfl rfl rfl rfl rfl ⟨rfl, rfl, rfl, rfl, rfl⟩ rfl rfl rfl rfl rfl (by kernel_rfl) Try.func5 (by kernel_rfl)
    (of_decide_eq_true (by kernel_rfl)) (by unfold Func.isWrapper; first | (rw [if_pos (by decide +kernel)]; kernel_rfl) | (rw [if_neg (by decide +kernel)]; exact ⟨rfl, rfl⟩))
    (fun os started H enc _ => Bytes.lifted os started H enc)
end Go.Proofs.Ytdajmojaelpilaa
