/-
  For all bytes and any place, AdlerParts answers true: no condition.
-/
import Derived.Test.YtdajmojaelpilaaAdler2
namespace Go.Proofs.Ytdajmojaelpilaa
open Go.RowKit Go.Sep Go.ChangeShapes Go.WideShapes Go.ChangeAt

theorem rdTake {w : World} {ao : Option Addr} {n c : Nat} {l : List UInt8} (h : Rd w (.slice ao n c) n 1 (bv l)) (k : Nat) (hk : k ≤ l.length) :
    Rd w (.slice ao k c) (l.take k).length 1 (bv (l.take k)) := by
  obtain ⟨ao', c', h1, h2, h3, h4, h5⟩ := h
  simp only [Value.slice.injEq, true_and] at h1
  obtain ⟨rfl, rfl⟩ := h1
  simp [bv] at h4
  have e : (l.take k).length = k := by simp; omega
  rw [e]
  refine ⟨_, _, rfl, by omega, h3, by rw [bv_length, e]; omega, fun hn => ?_⟩
  obtain ⟨b, off, h6, h7⟩ := h5 (by omega)
  refine ⟨b, off, h6, fun j u hu => h7 j u ?_⟩
  have hj : j < k := by have := (List.getElem?_eq_some_iff.1 hu).1; simp [bv] at this; omega
  rw [← hu]; simp [bv, hj]
theorem rdDrop {w : World} {b off n c : Nat} {l : List UInt8} (h : Rd w (.slice (some ⟨b, off, none⟩) n c) n 1 (bv l)) (k : Nat) (hk : k ≤ l.length) :
    Rd w (.slice (some ⟨b, off + k, none⟩) (n - k) (c - k)) (l.drop k).length 1 (bv (l.drop k)) := by
  obtain ⟨ao', c', h1, h2, h3, h4, h5⟩ := h
  simp only [Value.slice.injEq, true_and] at h1
  obtain ⟨rfl, rfl⟩ := h1
  simp [bv] at h4
  have e : (l.drop k).length = n - k := by simp; omega
  rw [e]
  refine ⟨_, _, rfl, by omega, by omega, by rw [bv_length, e]; omega, fun hn => ?_⟩
  obtain ⟨b', off', h6, h7⟩ := h5 (by omega)
  simp only [Option.some.injEq, Addr.mk.injEq, and_true] at h6
  obtain ⟨rfl, rfl⟩ := h6
  refine ⟨b, off + k, rfl, fun j u hu => ?_⟩
  have := h7 (k + j) u (by rw [← hu]; simp [bv])
  rwa [← Nat.add_assoc] at this
theorem rdEmpty (w : World) (ao : Option Addr) (c : Nat) (hc : c ≤ 9223372036854775807) : Rd w (.slice ao 0 c) ([] : List UInt8).length 1 (bv []) := ⟨ao, c, rfl, Nat.zero_le _, hc, rfl, fun h => by simp at h⟩

attribute [local irreducible] adMore adJoin
set_option maxHeartbeats 1000000 in
theorem Parts.walk (l : List UInt8) (v : Value) (t : Int) (W : World) (hr : Rd W v l.length 1 (bv l)) (hb : l.length ≤ 140737488355328) :
    Calls Try.prog 7 #[v, .int .i64 t] W fun e w' => e = .returned (.bool true) ∧ Sat W w' [] := by
  have hS := Sat.start W
  obtain ⟨ao, cap, rfl, g1, g2, _, g4⟩ := id hr
  obtain ⟨k, hk⟩ := Int.eq_ofNat_of_zero_le (Int.emod_nonneg t (b := (l.length : Int) + 1) (by omega))
  have hkl : k ≤ l.length := by have := Int.emod_lt_of_pos t (b := (l.length : Int) + 1) (by omega); rw [hk] at this; omega
  have Hk := Lib.hid hk
  clear hk
  have hj := adJoin_eq (l.take k) (l.drop k)
  have hm := adMore_append 1 (l.take k) (l.drop k)
  rw [List.take_append_drop] at hj hm
  rw [show (l.drop k).length = l.length - k from by simp] at hj
  have l1 := (adMore_lt 1 (l.take k)).2.2
  have l2 := (adMore_lt 1 (l.drop k)).2.2
  have Ht : ∀ n : Ix W [], Rd n.val (.slice ao k cap) (l.take k).length 1 (bv (l.take k)) := fun n => rdTake (hr.old n.sat) k hkl
  have HT := Lib.hid Ht
  clear Ht
  rcases Nat.lt_or_ge k l.length with hlt | hge
  · obtain ⟨b, off, rfl, _⟩ := g4 (by omega)
    have Hd : ∀ n : Ix W [], Rd n.val (.slice (some ⟨b, off + k, none⟩) (l.length - k) (cap - k)) (l.drop k).length 1 (bv (l.drop k)) := fun n => rdDrop (hr.old n.sat) k hkl
    have HD := Lib.hid Hd
    clear Hd
    have hkc : ¬ (cap = k) := by omega
    have i1 : (k : Int) ≤ (l.length : Int) := by omega
    have i2 : (k : Int) ≤ (cap : Int) := by omega
    have i3 : (l.length : Int) ≤ (cap : Int) := by omega
    have Hmo := Lib.hid (show ∀ n : Ix W [], Calls Try.prog 12 #[.int .u32 (adMore 1 (l.take k) : Nat), .slice (some ⟨b, off + k, none⟩) (l.length - k) (cap - k)] n.val fun e w' => e = .returned (.int .u32 (adMore 1 l : Nat)) ∧ n.val = w' from
      fun n => by rw [← hm]; exact more_any _ l1 (l.drop k) _ _ (HD.out n))
    have Hjo := Lib.hid (show ∀ n : Ix W [], Calls Try.prog 16 #[.int .u32 (adMore 1 (l.take k) : Nat), .int .u32 (adMore 1 (l.drop k) : Nat), .int .i64 ((l.length : Int) - (k : Int))] n.val fun e w' => e = .returned (.int .u32 (adMore 1 l : Nat)) ∧ n.val = w' from
      fun n => by rw [← hj, ← Int.natCast_sub hkl]; exact join_any _ _ _ l1 l2 (by omega) _)
    clear hj hm
    go_enter Try.func7, Try.ntmps7
    go_wp2_with (go_at_call 15; refine (place_any _ _ (by omega) (by omega) _).mono ?_; rintro e w' ⟨rfl, rfl⟩; rw [Hk.out])
    (haveI := Ix.some hS
     refine wp_region_quiet_sat hS (by kernel_rfl) (by kernel_rfl) ?_
     repeat (go_big_quiet_step (first
          | (go_at_call 10; with_reducible exact Calls.qs (of_any (l.take k) _ _ (HT.out _)))
          | (go_at_call 10; with_reducible exact Calls.qs (of_any (l.drop k) _ _ (HD.out _)))
          | (go_at_call 10; with_reducible exact Calls.qs (of_any l _ _ (hr.old (Ix.sat _))))
          | (go_at_call 12; with_reducible exact Calls.qs (Hmo.out _))
          | (go_at_call 16; with_reducible exact Calls.qs (Hjo.out _))
          | (go_at_call 14; with_reducible exact Calls.qa (awake_any (Ix.sat _)))))
     refine wpQuiet_nil ?_
     intro _ hw'
     obtain ⟨nq, rfl⟩ := hw'
     have hS1 := nq.sat
     generalize nq.val = w1 at hS1 ⊢
     clear hS; have hS := hS1; clear hS1)
    go_wp2
    go_ret
    exact ⟨rfl, hS⟩
  · obtain rfl : k = l.length := by omega
    clear hkl hge l2
    rw [List.drop_length] at hj hm
    rw [List.take_length] at hj hm HT l1
    rw [Nat.sub_self] at hj
    have hc0 : cap - l.length ≤ 9223372036854775807 := by omega
    have l2 := (adMore_lt 1 []).2.2
    have Hof := Lib.hid (show ∀ (n : Ix W []) (ao' : Option Addr) (m c : Nat), m = 0 → c ≤ 9223372036854775807 → Calls Try.prog 10 #[.slice ao' m c] n.val fun e w' => e = .returned (.int .u32 (adMore 1 [] : Nat)) ∧ n.val = w' from
      fun n ao' m c hm hc => by subst hm; exact of_any [] _ _ (rdEmpty _ ao' _ hc))
    have Hmo := Lib.hid (show ∀ (n : Ix W []) (ao' : Option Addr) (m c : Nat), m = 0 → c ≤ 9223372036854775807 → Calls Try.prog 12 #[.int .u32 (adMore 1 l : Nat), .slice ao' m c] n.val fun e w' => e = .returned (.int .u32 (adMore 1 l : Nat)) ∧ n.val = w' from
      fun n ao' m c hm0 hc => by
        subst hm0
        have h := more_any (adMore 1 l) l1 [] _ n.val (rdEmpty _ ao' _ hc)
        rwa [hm] at h)
    have Hjo := Lib.hid (show ∀ n : Ix W [], Calls Try.prog 16 #[.int .u32 (adMore 1 l : Nat), .int .u32 (adMore 1 [] : Nat), .int .i64 0] n.val fun e w' => e = .returned (.int .u32 (adMore 1 l : Nat)) ∧ n.val = w' from
      fun n => by
        have h := join_any (adMore 1 l) (adMore 1 []) 0 l1 l2 (by omega) n.val
        rwa [hj] at h)
    clear hj hm
    have i3 : (l.length : Int) ≤ (cap : Int) := by omega
    by_cases hc : cap = l.length
    all_goals
      try subst hc
      go_enter Try.func7, Try.ntmps7
      go_wp2_with (go_at_call 15; refine (place_any _ _ (by omega) (by omega) _).mono ?_; rintro e w' ⟨rfl, rfl⟩; rw [Hk.out])
      (haveI := Ix.some hS
       refine wp_region_quiet_sat hS (by kernel_rfl) (by kernel_rfl) ?_
       repeat (go_big_quiet_step (first
              | (go_at_call 10; with_reducible exact Calls.qs (of_any l _ _ (HT.out _)))
              | (go_at_call 10; with_reducible exact Calls.qs (Hof.out _ _ _ _ (by simp) (by omega)))
              | (go_at_call 10; with_reducible exact Calls.qs (of_any l _ _ (hr.old (Ix.sat _))))
              | (go_at_call 12; with_reducible exact Calls.qs (Hmo.out _ _ _ _ (by simp) (by omega)))
              | (go_at_call 16; with_reducible exact Calls.qs (Hjo.out _))
              | (go_at_call 14; with_reducible exact Calls.qa (awake_any (Ix.sat _)))))
       refine wpQuiet_nil ?_
       intro _ hw'
       obtain ⟨nq, rfl⟩ := hw'
       have hS1 := nq.sat
       generalize nq.val = w1 at hS1 ⊢
       clear hS; have hS := hS1; clear hS1)
      go_wp2
      go_ret
      exact ⟨rfl, hS⟩

theorem Parts.contract (H : Type) (enc : TypeId × Value → H) (W : World) (base : Nat) (args : Array Value) (ds gs : List (DataW H)) (before : List MemPlace)
    (hval : ∀ (j : Nat) t v, Try.f7.params[j]? = some t → args[j]? = some v → Value.okWide Try.prog W .any base t v)
    (hW : DataW.Whole enc Try.prog Try.f7.params.toList Rows.adlerPartsSpec.vars false W args.toList ds gs before)
    (hreach : (DataW.weightsEach Try.prog (Try.f7.params.toList ++ Rows.adlerPartsSpec.plain.varTypes Try.prog) (ds ++ gs)).all (· ≤ reachBytes) = true) :
    Calls Try.prog 7 args W fun e W' => ∃ v, e = .returned v ∧ Rows.adlerPartsSpec.post enc Try.prog Try.f7 false true false false W args v W' := by
  have hW' := hW
  obtain ⟨p, q, hA, hV, rfl, hfz, hnd⟩ := hW
  rw [Try.params7] at hA hval hreach
  obtain ⟨v0, vs0, d0, ds0, p0, q0, hargs, rfl, rfl, h0, r0⟩ := trodAll_cons hA
  obtain ⟨v1, vs1, d1, ds1, p1, q1, rfl, rfl, rfl, h1, r1⟩ := trodAll_cons r0
  obtain ⟨rfl, rfl, rfl⟩ := trodAll_nil r1
  obtain rfl : args = #[v0, v1] := by cases args; simp_all
  obtain ⟨rfl, rfl⟩ := trodVars_none hV
  obtain ⟨ao, len, cap, rfl⟩ := okWide_slice Try.underlying23 (hval 0 23 v0 rfl rfl)
  obtain ⟨a1, rfl, rfl, rfl, w1⟩ := open_int Try.underlying3 (hval 1 3 v1 rfl rfl) h1
  obtain ⟨l, rfl, hr, _⟩ := open_bytes Try.underlying23 Try.underlying5 (by kernel_rfl) h0
  have hb : l.length ≤ 140737488351232 := by
    have := reach_slice (sz := 1) h0 Try.underlying23 (by kernel_rfl) (mem_weights hreach 0 rfl rfl)
    omega
  refine (Parts.walk l _ a1 W hr (by omega)).mono ?_
  refine fun e W' ⟨he, hS⟩ => ?_
  subst he
  exact ⟨_, rfl, law_post (tb := 4) (by kernel_rfl) (by kernel_rfl) rfl Try.underlying4 rfl hW' rfl hS⟩

theorem Parts.own : ownKnob Try.prog.godebug = none := by kernel_rfl
set_option maxRecDepth 100000 in
theorem Parts.lifted (os : Os) (started : os.Started) (H : Type) (enc : TypeId × Value → H) :
    ReturnsInHanded {} Try.checked os 7 .any (Rows.adlerPartsSpec.pre6 enc Try.prog Try.f7 Rows.adlerPartsRow.domain false) (Rows.adlerPartsSpec.post enc Try.prog Try.f7 false true false false) := by
  refine returnsInHanded_of_change_shaped (C := Try.checked) Parts.own started (by kernel_rfl) Try.func7
    (ChangeSpec.witness6 (enc := enc) (C := Try.checked) false ⟨#[], #[.slice none 0 0, .int .i64 0], []⟩ 8 (by kernel_rfl) (by kernel_rfl) (by kernel_rfl) (by kernel_rfl)) ?_
  intro W base args ds gs before hval hW _ hreach _ _
  exact Parts.contract H enc W base args ds gs before hval hW hreach

theorem Parts.holds : Rows.AdlerPartsSaid :=
  OpenClaim.holds_of_wide 7 Try.f7 rfl rfl rfl rfl rfl rfl rfl ⟨rfl, rfl, rfl, rfl, rfl⟩ rfl rfl rfl rfl rfl (by kernel_rfl) Try.func7 (by kernel_rfl)
    (of_decide_eq_true (by kernel_rfl)) (by unfold Func.isWrapper; first | (rw [if_pos (by decide +kernel)]; kernel_rfl) | (rw [if_neg (by decide +kernel)]; exact ⟨rfl, rfl⟩))
    (fun os started H enc _ => Parts.lifted os started H enc)
end Go.Proofs.Ytdajmojaelpilaa
