/-
  Package tree: Rename, where it cannot be.
  Package tree: Rename, to a place; to a free name.
-/
import Derived.Test.YtiieicdhkcikpaaMPth
namespace Go.Proofs.Ytiieicdhkcikpaa
open Go.RowKit Go.Sep
set_option linter.unusedSimpArgs false
set_option linter.unusedVariables false
attribute [local irreducible] Go.Oper.wp Go.wpList Go.Calls Go.Code.wp Go.Sep.Reg
attribute [local irreducible] IsT IsW
theorem rn_err {T : TrD} {l to : List (List UInt8)} (h : T.rnE l to ≠ 0) : T.rnX l to = 0 ∧ T.rnY l to = 0 ∧ T.rn l to = T := by
  refine ⟨?_, ?_, ?_⟩
  · unfold TrD.rnX; rw [if_neg h]
  · unfold TrD.rnY; rw [if_neg h]
  · unfold TrD.rn; rw [if_neg h]
set_option maxRecDepth 20000 in
set_option maxHeartbeats 2000000 in
theorem tren_empty {W w : World} {L : List Asrt} {p : Nat} {T : TrD} (hS : Sat W w (IsT p T :: L)) (hT : T.Ok) (l to : List (List UInt8)) (ao ao' : Option Addr) (c c' : Nat) (hr : ∀ w L', Sat W w (L' ++ L) → Rd w (.slice ao l.length c) l.length 1 (l.flatMap sv1)) (hl : l.length ≤ 1000000) (hr' : ∀ w L', Sat W w (L' ++ L) → Rd w (.slice ao' to.length c') to.length 1 (to.flatMap sv1)) (hl' : to.length ≤ 1000000) (h0 : l = [] ∨ to = []) : Calls Try.prog 28 #[.pointer (some ⟨p, 0, none⟩), .slice ao l.length c, .slice ao' to.length c'] w fun r w' => r = .returned (.tuple #[.int .i64 (T.rnX l to : Nat), .int .i64 (T.rnY l to : Nat), .int .i64 (T.rnE l to)]) ∧ Sat W w' (IsT p (T.rn l to) :: L) := by
  have hE : T.rnE l to = 10 := by unfold TrD.rnE; rw [if_pos h0]
  obtain ⟨hX, hY, hM⟩ := rn_err (l := l) (to := to) (by rw [hE]; decide : T.rnE l to ≠ 0)
  rw [hX, hY, hM, hE]
  clear hX hY hM hE hr hr' hT
  by_cases h1 : l = []
  · subst h1
    go_enter Try.func28, Try.ntmps28
    go_wp2
    go_ret3
    exact ⟨rfl, hS⟩
  · have e0 : ((l.length : Int) == 0) = false := beq_eq_false_iff_ne.2 (by have := List.length_pos_iff.2 h1; omega)
    obtain rfl : to = [] := h0.resolve_left h1
    clear h0 h1
    go_enter Try.func28, Try.ntmps28
    go_wp2
    go_ret3
    exact ⟨rfl, hS⟩
set_option maxRecDepth 20000 in
set_option maxHeartbeats 2000000 in
theorem tren_err {W w : World} {L : List Asrt} {p : Nat} {T : TrD} (hS : Sat W w (IsT p T :: L)) (hT : T.Ok) (l to : List (List UInt8)) (ao ao' : Option Addr) (c c' : Nat) (hr : ∀ w L', Sat W w (L' ++ L) → Rd w (.slice ao l.length c) l.length 1 (l.flatMap sv1)) (hl : l.length ≤ 1000000) (hr' : ∀ w L', Sat W w (L' ++ L) → Rd w (.slice ao' to.length c') to.length 1 (to.flatMap sv1)) (hl' : to.length ≤ 1000000) (h0 : l ≠ []) (h1 : to ≠ []) (h2 : nameOk (TrD.lastN to) = false ∨ (T.walk 0 l).2 ≠ 0 ∨ (T.kind (T.walk 0 l).1.toNat = 2 ∧ TrD.under to l = true ∧ l.length < to.length)) : Calls Try.prog 28 #[.pointer (some ⟨p, 0, none⟩), .slice ao l.length c, .slice ao' to.length c'] w fun r w' => r = .returned (.tuple #[.int .i64 (T.rnX l to : Nat), .int .i64 (T.rnY l to : Nat), .int .i64 (T.rnE l to)]) ∧ Sat W w' (IsT p (T.rn l to) :: L) := by
  have h01 : ¬ (l = [] ∨ to = []) := fun e => e.elim h0 h1
  obtain ⟨_, _, he, hc1, hc2, _, h5⟩ := hr' w [_] hS
  simp only [Value.slice.injEq, true_and] at he
  obtain ⟨rfl, rfl⟩ := he
  obtain ⟨b, off, rfl, _⟩ := h5 (List.length_pos_iff.2 h1)
  clear h5
  obtain ⟨m, hm⟩ : ∃ m, to.length = m + 1 := ⟨to.length - 1, by have := List.length_pos_iff.2 h1; omega⟩
  have HX := Lib.hid (last_at hm).1
  have HR := Lib.hid (fun w (h : Sat W w (IsT p T :: L)) => hr' w [_] h)
  have e0 : ((l.length : Int) == 0) = false := beq_eq_false_iff_ne.2 (by have := List.length_pos_iff.2 h0; omega)
  have e0' : ((to.length : Int) == 0) = false := beq_eq_false_iff_ne.2 (by omega)
  have hsub : (to.length : Int) - 1 = (m : Int) := by omega
  have k1 : (m : Int) < (to.length : Int) := by omega
  have k2 : m < to.length := by omega
  have k3 : (1 : Int) ≤ (to.length : Int) := by omega
  have k4 : (to.length : Int) ≤ 1000000 := by omega
  have k4' : (l.length : Int) ≤ 1000000 := by omega
  clear hm
  obtain ⟨nn, hnn⟩ : ∃ nn, TrD.lastN to = nn := ⟨_, rfl⟩
  rw [hnn] at HX
  have HNM := Lib.hid (fun w => name_any nn w)
  have HUN := Lib.hid (fun w (L' : List Asrt) (h : Sat W w (L' ++ L)) => under_any h to l _ ao c' c (fun w h => hr' w L' h) (fun w h => hr w L' h) hl' hl)
  have HWK := Lib.hid (fun w (h : Sat W w (IsT p T :: L)) => twalk_any h hT l ao c hr hl)
  have HT := Lib.hid hT
  by_cases hn : nameOk nn = false
  · have hE : T.rnE l to = 1 := by unfold TrD.rnE; rw [if_neg h01, hnn, if_pos hn]
    obtain ⟨hX, hY, hM⟩ := rn_err (l := l) (to := to) (by rw [hE]; decide : T.rnE l to ≠ 0)
    rw [hX, hY, hM, hE]
    rw [hn] at HNM
    clear hX hY hM hE hr hr' hT h0 h1 h2 h01 hn hnn HUN HWK
    go_enter Try.func28, Try.ntmps28
    go_wp2_with (first
      | (refine toList (by rfl) ?_; refine wp_of_reads (rLdRd (f := sv1) (x := nn) (HR.out _ hS) (sv1_len to) _ _ (by rfl) _ (by rfl) (agOf (by rfl)) m 0 (by omega) HX.out (by rfl) (by omega)) ?_)
              | (go_at_call 52; refine (HNM.out _).mono ?_; rintro r w1 ⟨rfl, rfl⟩))
    go_ret3
    exact ⟨rfl, hS⟩
  · have hn : nameOk nn = true := by simpa using hn
    rw [hn] at HNM
    have hnf : ¬ nameOk nn = false := by rw [hn]; decide
    by_cases hw : (T.walk 0 l).2 = 0
    · obtain ⟨i, hi, hi48⟩ := hT.walk_lt l 0 (by omega)
      obtain ⟨hk, hu, hlt⟩ : (T.kind (T.walk 0 l).1.toNat = 2 ∧ TrD.under to l = true ∧ l.length < to.length) := by
        rcases h2 with h2 | h2 | h2
        · rw [hnn, hn] at h2; cases h2
        · exact absurd hw h2
        · exact h2
      have hE : T.rnE l to = 11 := by unfold TrD.rnE; rw [if_neg h01, hnn, if_neg hnf, if_neg (fun e => e hw), if_pos ⟨hk, hu, hlt⟩]
      obtain ⟨hX, hY, hM⟩ := rn_err (l := l) (to := to) (by rw [hE]; decide : T.rnE l to ≠ 0)
      rw [hX, hY, hM, hE]
      rw [hi] at hk
      obtain ⟨kk, hkk⟩ : ∃ kk, T.kind i = kk := ⟨_, rfl⟩
      have hk2 : kk = 2 := by rw [← hkk]; simpa using hk
      have e1 : (kk == 2) = true := by rw [hk2]; rfl
      have e2 : decide ((l.length : Int) < (to.length : Int)) = true := decide_eq_true (by omega)
      have e3 : decide (l.length < to.length) = true := decide_eq_true hlt
      have k5 : (i : Int) < 48 := by omega
      rw [hu] at HUN
      rw [hi, hw] at HWK
      clear hX hY hM hE hr hr' hT h0 h1 h2 h01 hn hnf hnn hw hi hk hk2 hu
      go_enter Try.func28, Try.ntmps28
      go_wp2_with (first
        | (refine toList (by rfl) ?_; refine wp_of_reads (rLdRd (f := sv1) (x := nn) (HR.out _ hS) (sv1_len to) _ _ (by rfl) _ (by rfl) (agOf (by rfl)) m 0 (by omega) HX.out (by rfl) (by omega)) ?_)
                | (go_at_call 52; refine (HNM.out _).mono ?_; rintro r w1 ⟨rfl, rfl⟩)
        | (go_at_call 26; refine (HWK.out _ hS).mono ?_; rintro r w1 ⟨rfl, hS1⟩; clear hS; have hS := hS1; clear hS1; obtain ⟨v, vt, hO⟩ := IsT.open hS; clear hS; have hS := hO; clear hO)
                | (refine toList (by rfl) ?_; refine ld hS _ _ (by rfl) _ _ (by rfl) (agOf (by rfl)) Has.z (tl_at (i := i) (j := 0) (u := .int .i64 kk) hi48 (by omega) (by rw [← hkk]; rfl)) ?_)
                | (go_at_call 53; refine (HUN.out _ [_, _, _] hS).mono ?_; rintro r w1 ⟨rfl, hS1⟩; clear hS; have hS := (show Sat W w1 (_ :: _ :: _ :: L) from hS1); clear hS1))
      go_ret3
      exact ⟨rfl, IsT.mk hS⟩
    · have hE : T.rnE l to = (T.walk 0 l).2 := by unfold TrD.rnE; rw [if_neg h01, hnn, if_neg hnf, if_pos hw]
      obtain ⟨hX, hY, hM⟩ := rn_err (l := l) (to := to) (by rw [hE]; exact hw : T.rnE l to ≠ 0)
      rw [hX, hY, hM, hE]
      obtain ⟨we, hwe⟩ : ∃ we, (T.walk 0 l).2 = we := ⟨_, rfl⟩
      obtain ⟨i, hi, hi48⟩ := hT.walk_lt l 0 (by omega)
      rw [hi, hwe] at HWK
      rw [hwe] at hw ⊢
      have e1 : (we != 0) = true := bne_iff_ne.2 hw
      clear hX hY hM hE hr hr' hT h0 h1 h2 h01 hn hnf hnn hwe hi HUN
      go_enter Try.func28, Try.ntmps28
      go_wp2_with (first
        | (refine toList (by rfl) ?_; refine wp_of_reads (rLdRd (f := sv1) (x := nn) (HR.out _ hS) (sv1_len to) _ _ (by rfl) _ (by rfl) (agOf (by rfl)) m 0 (by omega) HX.out (by rfl) (by omega)) ?_)
                | (go_at_call 52; refine (HNM.out _).mono ?_; rintro r w1 ⟨rfl, rfl⟩)
        | (go_at_call 26; refine (HWK.out _ hS).mono ?_; rintro r w1 ⟨rfl, hS1⟩; clear hS; have hS := hS1; clear hS1))
      go_ret3
      exact ⟨rfl, hS⟩
end Go.Proofs.Ytiieicdhkcikpaa
namespace Go.Proofs.Ytiieicdhkcikpaa
open Go.RowKit Go.Sep
set_option linter.unusedSimpArgs false
set_option linter.unusedVariables false
attribute [local irreducible] Go.Oper.wp Go.wpList Go.Calls Go.Code.wp Go.Sep.Reg
attribute [local irreducible] IsT IsW
set_option maxRecDepth 20000 in
set_option maxHeartbeats 2000000 in
theorem tren_to {W w : World} {L : List Asrt} {p : Nat} {T : TrD} (hS : Sat W w (IsT p T :: L)) (hT : T.Ok) (l to : List (List UInt8)) (ao ao' : Option Addr) (c c' : Nat) (hr : ∀ w L', Sat W w (L' ++ L) → Rd w (.slice ao l.length c) l.length 1 (l.flatMap sv1)) (hl : l.length ≤ 1000000) (hr' : ∀ w L', Sat W w (L' ++ L) → Rd w (.slice ao' to.length c') to.length 1 (to.flatMap sv1)) (hl' : to.length ≤ 1000000) (h0 : l ≠ []) (h1 : to ≠ []) (h2 : nameOk (TrD.lastN to) = true) (h3 : (T.walk 0 l).2 = 0) (h4 : ¬ (T.kind (T.walk 0 l).1.toNat = 2 ∧ TrD.under to l = true ∧ l.length < to.length)) (hne : ¬ (to = l)) (h5 : T.pE to ≠ 0) : Calls Try.prog 28 #[.pointer (some ⟨p, 0, none⟩), .slice ao l.length c, .slice ao' to.length c'] w fun r w' => r = .returned (.tuple #[.int .i64 (T.rnX l to : Nat), .int .i64 (T.rnY l to : Nat), .int .i64 (T.rnE l to)]) ∧ Sat W w' (IsT p (T.rn l to) :: L) := by
  obtain ⟨i, hi, hi48⟩ := hT.walk_lt l 0 (by omega)
  obtain ⟨p1, p2, _, p4, p5, p6⟩ := hT.parent h0 h3
  rw [hi] at p5
  have h01 : ¬ (l = [] ∨ to = []) := fun e => e.elim h0 h1
  obtain ⟨_, _, he, hc1, hc2, _, h5⟩ := hr' w [_] hS
  simp only [Value.slice.injEq, true_and] at he
  obtain ⟨rfl, rfl⟩ := he
  obtain ⟨b, off, rfl, _⟩ := h5 (List.length_pos_iff.2 h1)
  clear h5
  obtain ⟨m, hm⟩ : ∃ m, to.length = m + 1 := ⟨to.length - 1, by have := List.length_pos_iff.2 h1; omega⟩
  have HX := Lib.hid (last_at hm).1
  have HR := Lib.hid (fun w (h : Sat W w (IsT p T :: L)) => hr' w [_] h)
  have e0 : ((l.length : Int) == 0) = false := beq_eq_false_iff_ne.2 (by have := List.length_pos_iff.2 h0; omega)
  have e0' : ((to.length : Int) == 0) = false := beq_eq_false_iff_ne.2 (by omega)
  have hsub : (to.length : Int) - 1 = (m : Int) := by omega
  have k1 : (m : Int) < (to.length : Int) := by omega
  have k2 : m < to.length := by omega
  have k3 : (1 : Int) ≤ (to.length : Int) := by omega
  have k4 : (to.length : Int) ≤ 1000000 := by omega
  have k4' : (l.length : Int) ≤ 1000000 := by omega
  clear hm
  obtain ⟨nn, hnn⟩ : ∃ nn, TrD.lastN to = nn := ⟨_, rfl⟩
  rw [hnn] at HX
  have HNM := Lib.hid (fun w => name_any nn w)
  rw [hnn] at h2
  have HUN := Lib.hid (fun w (L' : List Asrt) (h : Sat W w (L' ++ L)) => under_any h to l _ ao c' c (fun w h => hr' w L' h) (fun w h => hr w L' h) hl' hl)
  have HWK := Lib.hid (fun w (h : Sat W w (IsT p T :: L)) => twalk_any h hT l ao c hr hl)
  have HPL := Lib.hid (fun w (h : Sat W w (IsT p T :: L)) => tplace_any h hT l ao c hr hl)
  have HPL' := Lib.hid (fun w (h : Sat W w (IsT p T :: L)) => tplace_any h hT to _ c' hr' hl')
  have HT := Lib.hid hT
  obtain ⟨f, hff⟩ : ∃ f, T.pD l = f := ⟨_, rfl⟩
  obtain ⟨o, hoo⟩ : ∃ o, TrD.lastN l = o := ⟨_, rfl⟩
  have HP := Lib.hid (fun w (h : Sat W w (IsT p T :: L)) => (show Calls Try.prog 33 #[.pointer (some ⟨p, 0, none⟩), .slice ao l.length c] w fun r w' => r = .returned (.tuple #[.int .i64 (f : Nat), sv o, .int .i64 0]) ∧ Sat W w' (IsT p T :: L) from
    (HPL.out w h).mono fun r w' ⟨dd, nm, h1, h2, h3⟩ => by obtain ⟨rfl, rfl⟩ := h2 p1; rw [p1, hff, hoo] at h1; exact ⟨h1, h3⟩))
  rw [h2] at HNM
  have hnf : ¬ nameOk nn = false := by rw [h2]; decide
  rw [hi, h3] at HWK
  obtain ⟨kk, hkk⟩ : ∃ kk, T.kind i = kk := ⟨_, rfl⟩
  have k5 : (i : Int) < 48 := by omega
  have hlp : ¬ (T.kind (T.walk 0 l).1.toNat = 2 ∧ TrD.under to l = true ∧ l.length < to.length) := h4
  rw [hi, Int.toNat_natCast, hkk] at h4
  have hE : T.rnE l to = T.pE to := by unfold TrD.rnE; rw [if_neg h01, hnn, if_neg hnf, if_neg (fun e => e h3), if_neg hlp, if_pos h5]
  obtain ⟨hX, hY, hM⟩ := rn_err (l := l) (to := to) (by rw [hE]; exact h5 : T.rnE l to ≠ 0)
  rw [hX, hY, hM, hE]
  obtain ⟨ee, hee⟩ : ∃ ee, T.pE to = ee := ⟨_, rfl⟩
  rw [hee] at HPL' h5 ⊢
  have e9 : (ee != 0) = true := bne_iff_ne.2 h5
  have hvar : (kk == 2) = false ∨ ((kk == 2) = true ∧ TrD.under to l = false) := by
    by_cases e : kk = 2
    · refine .inr ⟨by rw [e]; rfl, ?_⟩
      cases hu : TrD.under to l with
      | false => rfl
      | true =>
        exfalso
        have h9 : ¬ l.length < to.length := fun h9 => h4 ⟨e, hu, h9⟩
        unfold TrD.under at hu
        simp only [Bool.and_eq_true, decide_eq_true_eq] at hu
        rw [List.take_of_length_le (by omega)] at hu
        exact hne hu.2
    · exact .inl (beq_eq_false_iff_ne.2 e)
  clear hX hY hM hE hr hr' hT h0 h1 h2 h01 hnf hnn h3 hi h4 hlp hne h5 hee p1 p2 p4 p5 p6 HPL hff hoo
  rcases hvar with e1 | ⟨e1, hu⟩
  · go_enter Try.func28, Try.ntmps28
    go_wp2_with (first
      | (refine toList (by rfl) ?_; refine wp_of_reads (rLdRd (f := sv1) (x := nn) (HR.out _ hS) (sv1_len to) _ _ (by rfl) _ (by rfl) (agOf (by rfl)) m 0 (by omega) HX.out (by rfl) (by omega)) ?_)
              | (go_at_call 52; refine (HNM.out _).mono ?_; rintro r w1 ⟨rfl, rfl⟩)
      | (go_at_call 26; refine (HWK.out _ hS).mono ?_; rintro r w1 ⟨rfl, hS1⟩; clear hS; have hS := hS1; clear hS1; obtain ⟨v, vt, hO⟩ := IsT.open hS; clear hS; have hS := hO; clear hO)
              | (refine toList (by rfl) ?_; refine ld hS _ _ (by rfl) _ _ (by rfl) (agOf (by rfl)) Has.z (tl_at (i := i) (j := 0) (u := .int .i64 kk) hi48 (by omega) (by rw [← hkk]; rfl)) ?_)
              | (go_at_call 53; refine (HUN.out _ [_, _, _] hS).mono ?_; rintro r w1 ⟨rfl, hS1⟩; clear hS; have hS := (show Sat W w1 (_ :: _ :: _ :: L) from hS1); clear hS1)
      | (go_at_call 33; refine (HP.out _ (IsT.mk hS)).mono ?_; rintro r w1 ⟨rfl, hS1⟩; clear hS; have hS := hS1; clear hS1)
      | (go_at_call 33; refine (HPL'.out _ hS).mono ?_; rintro r w1 ⟨dd, nm, rfl, _, hS1⟩; clear hS; have hS := hS1; clear hS1))
    go_ret3
    exact ⟨rfl, hS⟩
  · rw [hu] at HUN
    go_enter Try.func28, Try.ntmps28
    go_wp2_with (first
      | (refine toList (by rfl) ?_; refine wp_of_reads (rLdRd (f := sv1) (x := nn) (HR.out _ hS) (sv1_len to) _ _ (by rfl) _ (by rfl) (agOf (by rfl)) m 0 (by omega) HX.out (by rfl) (by omega)) ?_)
              | (go_at_call 52; refine (HNM.out _).mono ?_; rintro r w1 ⟨rfl, rfl⟩)
      | (go_at_call 26; refine (HWK.out _ hS).mono ?_; rintro r w1 ⟨rfl, hS1⟩; clear hS; have hS := hS1; clear hS1; obtain ⟨v, vt, hO⟩ := IsT.open hS; clear hS; have hS := hO; clear hO)
              | (refine toList (by rfl) ?_; refine ld hS _ _ (by rfl) _ _ (by rfl) (agOf (by rfl)) Has.z (tl_at (i := i) (j := 0) (u := .int .i64 kk) hi48 (by omega) (by rw [← hkk]; rfl)) ?_)
              | (go_at_call 53; refine (HUN.out _ [_, _, _] hS).mono ?_; rintro r w1 ⟨rfl, hS1⟩; clear hS; have hS := (show Sat W w1 (_ :: _ :: _ :: L) from hS1); clear hS1)
      | (go_at_call 33; refine (HP.out _ (IsT.mk hS)).mono ?_; rintro r w1 ⟨rfl, hS1⟩; clear hS; have hS := hS1; clear hS1)
      | (go_at_call 33; refine (HPL'.out _ hS).mono ?_; rintro r w1 ⟨dd, nm, rfl, _, hS1⟩; clear hS; have hS := hS1; clear hS1))
    go_ret3
    exact ⟨rfl, hS⟩
set_option maxRecDepth 20000 in
set_option maxHeartbeats 2000000 in
theorem tren_full {W w : World} {L : List Asrt} {p : Nat} {T : TrD} (hS : Sat W w (IsT p T :: L)) (hT : T.Ok) (l to : List (List UInt8)) (ao ao' : Option Addr) (c c' : Nat) (hr : ∀ w L', Sat W w (L' ++ L) → Rd w (.slice ao l.length c) l.length 1 (l.flatMap sv1)) (hl : l.length ≤ 1000000) (hr' : ∀ w L', Sat W w (L' ++ L) → Rd w (.slice ao' to.length c') to.length 1 (to.flatMap sv1)) (hl' : to.length ≤ 1000000) (h0 : l ≠ []) (h1 : to ≠ []) (h2 : nameOk (TrD.lastN to) = true) (h3 : (T.walk 0 l).2 = 0) (h4 : ¬ (T.kind (T.walk 0 l).1.toNat = 2 ∧ TrD.under to l = true ∧ l.length < to.length)) (hne : ¬ (to = l)) (h5 : T.pE to = 0) (h6 : findE (T.dir (T.pD to)) (TrD.lastN to) = none) (h7 : T.pD to ≠ T.pD l ∧ 64 ≤ (T.dir (T.pD to)).length) : Calls Try.prog 28 #[.pointer (some ⟨p, 0, none⟩), .slice ao l.length c, .slice ao' to.length c'] w fun r w' => r = .returned (.tuple #[.int .i64 (T.rnX l to : Nat), .int .i64 (T.rnY l to : Nat), .int .i64 (T.rnE l to)]) ∧ Sat W w' (IsT p (T.rn l to) :: L) := by
  obtain ⟨_, _, hd, hkd, _⟩ := hT.pE_zero h5
  obtain ⟨i, hi, hi48⟩ := hT.walk_lt l 0 (by omega)
  obtain ⟨p1, p2, _, p4, p5, p6⟩ := hT.parent h0 h3
  rw [hi] at p5
  have h01 : ¬ (l = [] ∨ to = []) := fun e => e.elim h0 h1
  obtain ⟨_, _, he, hc1, hc2, _, h5⟩ := hr' w [_] hS
  simp only [Value.slice.injEq, true_and] at he
  obtain ⟨rfl, rfl⟩ := he
  obtain ⟨b, off, rfl, _⟩ := h5 (List.length_pos_iff.2 h1)
  clear h5
  obtain ⟨m, hm⟩ : ∃ m, to.length = m + 1 := ⟨to.length - 1, by have := List.length_pos_iff.2 h1; omega⟩
  have HX := Lib.hid (last_at hm).1
  have HR := Lib.hid (fun w (h : Sat W w (IsT p T :: L)) => hr' w [_] h)
  have e0 : ((l.length : Int) == 0) = false := beq_eq_false_iff_ne.2 (by have := List.length_pos_iff.2 h0; omega)
  have e0' : ((to.length : Int) == 0) = false := beq_eq_false_iff_ne.2 (by omega)
  have hsub : (to.length : Int) - 1 = (m : Int) := by omega
  have k1 : (m : Int) < (to.length : Int) := by omega
  have k2 : m < to.length := by omega
  have k3 : (1 : Int) ≤ (to.length : Int) := by omega
  have k4 : (to.length : Int) ≤ 1000000 := by omega
  have k4' : (l.length : Int) ≤ 1000000 := by omega
  clear hm
  obtain ⟨nn, hnn⟩ : ∃ nn, TrD.lastN to = nn := ⟨_, rfl⟩
  rw [hnn] at HX
  have HNM := Lib.hid (fun w => name_any nn w)
  rw [hnn] at h2
  have HUN := Lib.hid (fun w (L' : List Asrt) (h : Sat W w (L' ++ L)) => under_any h to l _ ao c' c (fun w h => hr' w L' h) (fun w h => hr w L' h) hl' hl)
  have HWK := Lib.hid (fun w (h : Sat W w (IsT p T :: L)) => twalk_any h hT l ao c hr hl)
  have HPL := Lib.hid (fun w (h : Sat W w (IsT p T :: L)) => tplace_any h hT l ao c hr hl)
  have HPL' := Lib.hid (fun w (h : Sat W w (IsT p T :: L)) => tplace_any h hT to _ c' hr' hl')
  have HT := Lib.hid hT
  obtain ⟨f, hff⟩ : ∃ f, T.pD l = f := ⟨_, rfl⟩
  obtain ⟨o, hoo⟩ : ∃ o, TrD.lastN l = o := ⟨_, rfl⟩
  have HP := Lib.hid (fun w (h : Sat W w (IsT p T :: L)) => (show Calls Try.prog 33 #[.pointer (some ⟨p, 0, none⟩), .slice ao l.length c] w fun r w' => r = .returned (.tuple #[.int .i64 (f : Nat), sv o, .int .i64 0]) ∧ Sat W w' (IsT p T :: L) from
    (HPL.out w h).mono fun r w' ⟨dd, nm, h1, h2, h3⟩ => by obtain ⟨rfl, rfl⟩ := h2 p1; rw [p1, hff, hoo] at h1; exact ⟨h1, h3⟩))
  rw [h2] at HNM
  have hnf : ¬ nameOk nn = false := by rw [h2]; decide
  rw [hi, h3] at HWK
  obtain ⟨kk, hkk⟩ : ∃ kk, T.kind i = kk := ⟨_, rfl⟩
  have k5 : (i : Int) < 48 := by omega
  have hlp : ¬ (T.kind (T.walk 0 l).1.toNat = 2 ∧ TrD.under to l = true ∧ l.length < to.length) := h4
  rw [hi, Int.toNat_natCast, hkk] at h4
  obtain ⟨d, hdd⟩ : ∃ d, T.pD to = d := ⟨_, rfl⟩
  have HP' := Lib.hid (fun w (h : Sat W w (IsT p T :: L)) => (show Calls Try.prog 33 #[.pointer (some ⟨p, 0, none⟩), .slice (some ⟨b, off, none⟩) to.length c'] w fun r w' => r = .returned (.tuple #[.int .i64 (d : Nat), sv nn, .int .i64 0]) ∧ Sat W w' (IsT p T :: L) from
    (HPL'.out w h).mono fun r w' ⟨dd, nm, h1, h2, h3⟩ => by obtain ⟨rfl, rfl⟩ := h2 h5; rw [h5, hdd, hnn] at h1; exact ⟨h1, h3⟩))
  have hvar : (kk == 2) = false ∨ ((kk == 2) = true ∧ TrD.under to l = false) := by
    by_cases e : kk = 2
    · refine .inr ⟨by rw [e]; rfl, ?_⟩
      cases hu : TrD.under to l with
      | false => rfl
      | true =>
        exfalso
        have h9 : ¬ l.length < to.length := fun h9 => h4 ⟨e, hu, h9⟩
        unfold TrD.under at hu
        simp only [Bool.and_eq_true, decide_eq_true_eq] at hu
        rw [List.take_of_length_le (by omega)] at hu
        exact hne hu.2
    · exact .inl (beq_eq_false_iff_ne.2 e)
  have hlen := hT.len _ (hT.dir_mem hd)
  rw [hdd] at hd hlen
  obtain ⟨dl, hdl⟩ : ∃ dl, (T.dir d).length = dl := ⟨_, rfl⟩
  have HDL := Lib.hid hdl
  have HFI := Lib.hid (fun w (L' : List Asrt) ao1 c1 (h : Sat W w L') (hr : ∀ w, Sat W w L' → Rd w (.slice ao1 dl c1) dl 2 ((T.dir d).flatMap ev2)) => (show Calls Try.prog 34 #[.slice ao1 dl c1, sv nn] w fun r w' => r = .returned (.tuple #[.int .i64 ((findE (T.dir d) nn).getD 0), .bool (hasE (T.dir d) nn)]) ∧ Sat W w' L' by
    have := find_any h (T.dir d) ao1 c1 nn (by rw [hdl]; exact hr) (by omega)
    rw [hdl] at this; exact this))
  have k6 : (d : Int) < 48 := by omega
  have k7 : (f : Int) < 48 := by rw [← hff]; omega
  have hE : T.rnE l to = 5 := by unfold TrD.rnE; rw [if_neg h01, hnn, if_neg hnf, if_neg (fun e => e h3), if_neg hlp, if_neg (fun e => e h5), ← hnn, h6]; dsimp only; rw [if_pos h7]
  obtain ⟨hX, hY, hM⟩ := rn_err (l := l) (to := to) (by rw [hE]; decide : T.rnE l to ≠ 0)
  rw [hX, hY, hM, hE]
  rw [hdd, hnn] at h6
  have hh := hasE_find.2 h6
  rw [h6, hh] at HFI
  rw [hdd, hff, hdl] at h7
  have e7 : ((d : Int) != (f : Int)) = true := bne_iff_ne.2 (by omega)
  have e7' : (d != f) = true := bne_iff_ne.2 h7.1
  have e8 : decide ((64 : Int) ≤ (dl : Int)) = true := decide_eq_true (by omega)
  have e8' : decide (64 ≤ dl) = true := decide_eq_true h7.2
  clear hX hY hM hE hr hr' hT h0 h1 h2 h01 hnf hnn h3 hi h4 hlp hne h5 p1 p2 p4 p5 p6 HPL HPL' hff hoo h6 h7 hh hdd hdl hkd hlen
  rcases hvar with e1 | ⟨e1, hu⟩
  · go_enter Try.func28, Try.ntmps28
    go_wp2_with (first
      | (refine toList (by rfl) ?_; refine wp_of_reads (rLdRd (f := sv1) (x := nn) (HR.out _ hS) (sv1_len to) _ _ (by rfl) _ (by rfl) (agOf (by rfl)) m 0 (by omega) HX.out (by rfl) (by omega)) ?_)
              | (go_at_call 52; refine (HNM.out _).mono ?_; rintro r w1 ⟨rfl, rfl⟩)
      | (go_at_call 26; refine (HWK.out _ hS).mono ?_; rintro r w1 ⟨rfl, hS1⟩; clear hS; have hS := hS1; clear hS1; obtain ⟨v, vt, hO⟩ := IsT.open hS; clear hS; have hS := hO; clear hO)
              | (refine toList (by rfl) ?_; refine ld hS _ _ (by rfl) _ _ (by rfl) (agOf (by rfl)) Has.z (tl_at (i := i) (j := 0) (u := .int .i64 kk) hi48 (by omega) (by rw [← hkk]; rfl)) ?_)
              | (go_at_call 53; refine (HUN.out _ [_, _, _] hS).mono ?_; rintro r w1 ⟨rfl, hS1⟩; clear hS; have hS := (show Sat W w1 (_ :: _ :: _ :: L) from hS1); clear hS1)
      | (go_at_call 33; refine (HP.out _ (IsT.mk hS)).mono ?_; rintro r w1 ⟨rfl, hS1⟩; clear hS; have hS := hS1; clear hS1)
              | (go_at_call 33; refine (HP'.out _ hS).mono ?_; rintro r w1 ⟨rfl, hS1⟩; clear hS; have hS := hS1; clear hS1; obtain ⟨v2, vt2, hO⟩ := IsT.open hS; clear hS; have hS := hO; clear hO; obtain ⟨ao1, c1, hv, _⟩ := rws_shape hS (k := 1) rfl hd)
              | (refine toList (by rfl) ?_; refine ld hS _ _ (by rfl) _ _ (by rfl) (agOf (by rfl)) Has.z (tl_at (i := d) (j := 2) (u := .slice ao1 dl c1) hd (by omega) (by rw [← HDL.out, ← hv]; rfl)) ?_)
              | (go_at_call 34; refine (HFI.out _ _ ao1 c1 hS (fun w h => by rw [← HDL.out, ← hv]; exact rws_rd h (k := 1) rfl hd)).mono ?_; rintro r w1 ⟨rfl, hS1⟩; clear hS; have hS := hS1; clear hS1))
    go_ret3
    exact ⟨rfl, IsT.mk hS⟩
  · rw [hu] at HUN
    go_enter Try.func28, Try.ntmps28
    go_wp2_with (first
      | (refine toList (by rfl) ?_; refine wp_of_reads (rLdRd (f := sv1) (x := nn) (HR.out _ hS) (sv1_len to) _ _ (by rfl) _ (by rfl) (agOf (by rfl)) m 0 (by omega) HX.out (by rfl) (by omega)) ?_)
              | (go_at_call 52; refine (HNM.out _).mono ?_; rintro r w1 ⟨rfl, rfl⟩)
      | (go_at_call 26; refine (HWK.out _ hS).mono ?_; rintro r w1 ⟨rfl, hS1⟩; clear hS; have hS := hS1; clear hS1; obtain ⟨v, vt, hO⟩ := IsT.open hS; clear hS; have hS := hO; clear hO)
              | (refine toList (by rfl) ?_; refine ld hS _ _ (by rfl) _ _ (by rfl) (agOf (by rfl)) Has.z (tl_at (i := i) (j := 0) (u := .int .i64 kk) hi48 (by omega) (by rw [← hkk]; rfl)) ?_)
              | (go_at_call 53; refine (HUN.out _ [_, _, _] hS).mono ?_; rintro r w1 ⟨rfl, hS1⟩; clear hS; have hS := (show Sat W w1 (_ :: _ :: _ :: L) from hS1); clear hS1)
      | (go_at_call 33; refine (HP.out _ (IsT.mk hS)).mono ?_; rintro r w1 ⟨rfl, hS1⟩; clear hS; have hS := hS1; clear hS1)
              | (go_at_call 33; refine (HP'.out _ hS).mono ?_; rintro r w1 ⟨rfl, hS1⟩; clear hS; have hS := hS1; clear hS1; obtain ⟨v2, vt2, hO⟩ := IsT.open hS; clear hS; have hS := hO; clear hO; obtain ⟨ao1, c1, hv, _⟩ := rws_shape hS (k := 1) rfl hd)
              | (refine toList (by rfl) ?_; refine ld hS _ _ (by rfl) _ _ (by rfl) (agOf (by rfl)) Has.z (tl_at (i := d) (j := 2) (u := .slice ao1 dl c1) hd (by omega) (by rw [← HDL.out, ← hv]; rfl)) ?_)
              | (go_at_call 34; refine (HFI.out _ _ ao1 c1 hS (fun w h => by rw [← HDL.out, ← hv]; exact rws_rd h (k := 1) rfl hd)).mono ?_; rintro r w1 ⟨rfl, hS1⟩; clear hS; have hS := hS1; clear hS1))
    go_ret3
    exact ⟨rfl, IsT.mk hS⟩
set_option maxRecDepth 20000 in
set_option maxHeartbeats 2000000 in
theorem tren_free {W w : World} {L : List Asrt} {p : Nat} {T : TrD} (hS : Sat W w (IsT p T :: L)) (hT : T.Ok) (l to : List (List UInt8)) (ao ao' : Option Addr) (c c' : Nat) (hr : ∀ w L', Sat W w (L' ++ L) → Rd w (.slice ao l.length c) l.length 1 (l.flatMap sv1)) (hl : l.length ≤ 1000000) (hr' : ∀ w L', Sat W w (L' ++ L) → Rd w (.slice ao' to.length c') to.length 1 (to.flatMap sv1)) (hl' : to.length ≤ 1000000) (h0 : l ≠ []) (h1 : to ≠ []) (h2 : nameOk (TrD.lastN to) = true) (h3 : (T.walk 0 l).2 = 0) (h4 : ¬ (T.kind (T.walk 0 l).1.toNat = 2 ∧ TrD.under to l = true ∧ l.length < to.length)) (hne : ¬ (to = l)) (h5 : T.pE to = 0) (h6 : findE (T.dir (T.pD to)) (TrD.lastN to) = none) (h7 : ¬ (T.pD to ≠ T.pD l ∧ 64 ≤ (T.dir (T.pD to)).length)) : Calls Try.prog 28 #[.pointer (some ⟨p, 0, none⟩), .slice ao l.length c, .slice ao' to.length c'] w fun r w' => r = .returned (.tuple #[.int .i64 (T.rnX l to : Nat), .int .i64 (T.rnY l to : Nat), .int .i64 (T.rnE l to)]) ∧ Sat W w' (IsT p (T.rn l to) :: L) := by
  obtain ⟨_, _, hd, hkd, _⟩ := hT.pE_zero h5
  obtain ⟨i, hi, hi48⟩ := hT.walk_lt l 0 (by omega)
  obtain ⟨p1, p2, _, p4, p5, p6⟩ := hT.parent h0 h3
  rw [hi] at p5
  have h01 : ¬ (l = [] ∨ to = []) := fun e => e.elim h0 h1
  obtain ⟨_, _, he, hc1, hc2, _, h5⟩ := hr' w [_] hS
  simp only [Value.slice.injEq, true_and] at he
  obtain ⟨rfl, rfl⟩ := he
  obtain ⟨b, off, rfl, _⟩ := h5 (List.length_pos_iff.2 h1)
  clear h5
  obtain ⟨m, hm⟩ : ∃ m, to.length = m + 1 := ⟨to.length - 1, by have := List.length_pos_iff.2 h1; omega⟩
  have HX := Lib.hid (last_at hm).1
  have HR := Lib.hid (fun w (h : Sat W w (IsT p T :: L)) => hr' w [_] h)
  have e0 : ((l.length : Int) == 0) = false := beq_eq_false_iff_ne.2 (by have := List.length_pos_iff.2 h0; omega)
  have e0' : ((to.length : Int) == 0) = false := beq_eq_false_iff_ne.2 (by omega)
  have hsub : (to.length : Int) - 1 = (m : Int) := by omega
  have k1 : (m : Int) < (to.length : Int) := by omega
  have k2 : m < to.length := by omega
  have k3 : (1 : Int) ≤ (to.length : Int) := by omega
  have k4 : (to.length : Int) ≤ 1000000 := by omega
  have k4' : (l.length : Int) ≤ 1000000 := by omega
  clear hm
  obtain ⟨nn, hnn⟩ : ∃ nn, TrD.lastN to = nn := ⟨_, rfl⟩
  rw [hnn] at HX
  have HNM := Lib.hid (fun w => name_any nn w)
  rw [hnn] at h2
  have HUN := Lib.hid (fun w (L' : List Asrt) (h : Sat W w (L' ++ L)) => under_any h to l _ ao c' c (fun w h => hr' w L' h) (fun w h => hr w L' h) hl' hl)
  have HWK := Lib.hid (fun w (h : Sat W w (IsT p T :: L)) => twalk_any h hT l ao c hr hl)
  have HPL := Lib.hid (fun w (h : Sat W w (IsT p T :: L)) => tplace_any h hT l ao c hr hl)
  have HPL' := Lib.hid (fun w (h : Sat W w (IsT p T :: L)) => tplace_any h hT to _ c' hr' hl')
  have HT := Lib.hid hT
  obtain ⟨f, hff⟩ : ∃ f, T.pD l = f := ⟨_, rfl⟩
  obtain ⟨o, hoo⟩ : ∃ o, TrD.lastN l = o := ⟨_, rfl⟩
  have HP := Lib.hid (fun w (h : Sat W w (IsT p T :: L)) => (show Calls Try.prog 33 #[.pointer (some ⟨p, 0, none⟩), .slice ao l.length c] w fun r w' => r = .returned (.tuple #[.int .i64 (f : Nat), sv o, .int .i64 0]) ∧ Sat W w' (IsT p T :: L) from
    (HPL.out w h).mono fun r w' ⟨dd, nm, h1, h2, h3⟩ => by obtain ⟨rfl, rfl⟩ := h2 p1; rw [p1, hff, hoo] at h1; exact ⟨h1, h3⟩))
  rw [h2] at HNM
  have hnf : ¬ nameOk nn = false := by rw [h2]; decide
  rw [hi, h3] at HWK
  obtain ⟨kk, hkk⟩ : ∃ kk, T.kind i = kk := ⟨_, rfl⟩
  have k5 : (i : Int) < 48 := by omega
  have hlp : ¬ (T.kind (T.walk 0 l).1.toNat = 2 ∧ TrD.under to l = true ∧ l.length < to.length) := h4
  rw [hi, Int.toNat_natCast, hkk] at h4
  obtain ⟨d, hdd⟩ : ∃ d, T.pD to = d := ⟨_, rfl⟩
  have HP' := Lib.hid (fun w (h : Sat W w (IsT p T :: L)) => (show Calls Try.prog 33 #[.pointer (some ⟨p, 0, none⟩), .slice (some ⟨b, off, none⟩) to.length c'] w fun r w' => r = .returned (.tuple #[.int .i64 (d : Nat), sv nn, .int .i64 0]) ∧ Sat W w' (IsT p T :: L) from
    (HPL'.out w h).mono fun r w' ⟨dd, nm, h1, h2, h3⟩ => by obtain ⟨rfl, rfl⟩ := h2 h5; rw [h5, hdd, hnn] at h1; exact ⟨h1, h3⟩))
  have hvar : (kk == 2) = false ∨ ((kk == 2) = true ∧ TrD.under to l = false) := by
    by_cases e : kk = 2
    · refine .inr ⟨by rw [e]; rfl, ?_⟩
      cases hu : TrD.under to l with
      | false => rfl
      | true =>
        exfalso
        have h9 : ¬ l.length < to.length := fun h9 => h4 ⟨e, hu, h9⟩
        unfold TrD.under at hu
        simp only [Bool.and_eq_true, decide_eq_true_eq] at hu
        rw [List.take_of_length_le (by omega)] at hu
        exact hne hu.2
    · exact .inl (beq_eq_false_iff_ne.2 e)
  have hlen := hT.len _ (hT.dir_mem hd)
  rw [hdd] at hd hlen
  obtain ⟨dl, hdl⟩ : ∃ dl, (T.dir d).length = dl := ⟨_, rfl⟩
  have HDL := Lib.hid hdl
  have HFI := Lib.hid (fun w (L' : List Asrt) ao1 c1 (h : Sat W w L') (hr : ∀ w, Sat W w L' → Rd w (.slice ao1 dl c1) dl 2 ((T.dir d).flatMap ev2)) => (show Calls Try.prog 34 #[.slice ao1 dl c1, sv nn] w fun r w' => r = .returned (.tuple #[.int .i64 ((findE (T.dir d) nn).getD 0), .bool (hasE (T.dir d) nn)]) ∧ Sat W w' L' by
    have := find_any h (T.dir d) ao1 c1 nn (by rw [hdl]; exact hr) (by omega)
    rw [hdl] at this; exact this))
  have k6 : (d : Int) < 48 := by omega
  have k7 : (f : Int) < 48 := by rw [← hff]; omega
  have hE : T.rnE l to = 0 := by unfold TrD.rnE; rw [if_neg h01, hnn, if_neg hnf, if_neg (fun e => e h3), if_neg hlp, if_neg (fun e => e h5), ← hnn, h6]; dsimp only; rw [if_neg h7]
  obtain ⟨hX, hY, hM⟩ := TrD.rn_none (l := l) (to := to) hE hi h6
  rw [hX, hY, hM, hE]
  have hadd := hT.ren_none p2 (d := T.pD to) (by rw [hdd]; exact hd) p5 (by rw [hnn]; exact h2) h6 (fun e => by
    rcases Nat.lt_or_ge (T.dir (T.pD to)).length 64 with h8 | h8
    · exact h8
    · exact absurd ⟨e, h8⟩ h7)
  have HRE := Lib.hid (fun w (h : Sat W w (IsT p T :: L)) => tremove_any h hT p2 p5)
  have HAD := Lib.hid (fun w (h : Sat W w (IsT p (T.del (T.pD l) (TrD.lastN l)) :: L)) => tadd_any h (hT.del p2 (TrD.lastN l)) (d := T.pD to) (i := i) (by rw [hdd]; exact hd) nn)
  unfold TrD.addT at HAD
  rw [← hnn, hadd, if_pos rfl] at HAD
  rw [hdd, hnn] at h6
  have hh := hasE_find.2 h6
  rw [h6, hh] at HFI
  have p2' : f < 48 := by rw [← hff]; exact p2
  rw [hdd, hff, hdl] at h7
  rw [hdd, hnn, hff, hoo] at HAD ⊢
  rw [hff, hoo] at HRE
  obtain ⟨T1, hT1⟩ : ∃ T1, T.del f o = T1 := ⟨_, rfl⟩
  rw [hT1] at HRE HAD ⊢
  obtain ⟨T2, hT2⟩ : ∃ T2, T1.put d i nn = T2 := ⟨_, rfl⟩
  rw [hT2] at HAD ⊢
  have HTO := Lib.hid (fun w v (L' : List Asrt) (h : Sat W w (IsT p T2 :: Ir v [f, d] :: L')) => ttouch_any h (by simp) (by intro x hx; simp only [List.mem_cons, List.not_mem_nil, or_false] at hx; omega))
  have hvar2 : (((d : Int) != (f : Int)) = false ∧ (d != f) = false) ∨ (((d : Int) != (f : Int)) = true ∧ (d != f) = true ∧ decide ((64 : Int) ≤ (dl : Int)) = false ∧ decide (64 ≤ dl) = false) := by
    by_cases e : d = f
    · subst e; exact .inl ⟨by simp, by simp⟩
    · have h8 : ¬ 64 ≤ dl := fun h8 => h7 ⟨e, h8⟩
      exact .inr ⟨bne_iff_ne.2 (by omega), bne_iff_ne.2 e, decide_eq_false (by omega), decide_eq_false h8⟩
  clear hX hY hM hE hr hr' hT h0 h1 h2 h01 hnf hnn h3 hi h4 hlp hne h5 p1 p2 p4 p5 p6 HPL HPL' hff hoo h6 h7 hh hdd hdl hkd hlen hadd hT1 hT2
  rcases hvar with e1 | ⟨e1, hu⟩
  · rcases hvar2 with ⟨q1, q2⟩ | ⟨q1, q2, q3, q4⟩
    all_goals
      go_enter Try.func28, Try.ntmps28
      go_wp2_with (first
        | (refine toList (by rfl) ?_; refine wp_of_reads (rLdRd (f := sv1) (x := nn) (HR.out _ hS) (sv1_len to) _ _ (by rfl) _ (by rfl) (agOf (by rfl)) m 0 (by omega) HX.out (by rfl) (by omega)) ?_)
                | (go_at_call 52; refine (HNM.out _).mono ?_; rintro r w1 ⟨rfl, rfl⟩)
        | (go_at_call 26; refine (HWK.out _ hS).mono ?_; rintro r w1 ⟨rfl, hS1⟩; clear hS; have hS := hS1; clear hS1; obtain ⟨v, vt, hO⟩ := IsT.open hS; clear hS; have hS := hO; clear hO)
                | (refine toList (by rfl) ?_; refine ld hS _ _ (by rfl) _ _ (by rfl) (agOf (by rfl)) Has.z (tl_at (i := i) (j := 0) (u := .int .i64 kk) hi48 (by omega) (by rw [← hkk]; rfl)) ?_)
                | (go_at_call 53; refine (HUN.out _ [_, _, _] hS).mono ?_; rintro r w1 ⟨rfl, hS1⟩; clear hS; have hS := (show Sat W w1 (_ :: _ :: _ :: L) from hS1); clear hS1)
        | (go_at_call 33; refine (HP.out _ (IsT.mk hS)).mono ?_; rintro r w1 ⟨rfl, hS1⟩; clear hS; have hS := hS1; clear hS1)
                | (go_at_call 33; refine (HP'.out _ hS).mono ?_; rintro r w1 ⟨rfl, hS1⟩; clear hS; have hS := hS1; clear hS1; obtain ⟨v2, vt2, hO⟩ := IsT.open hS; clear hS; have hS := hO; clear hO; obtain ⟨ao1, c1, hv, _⟩ := rws_shape hS (k := 1) rfl hd)
                | (refine toList (by rfl) ?_; refine ld hS _ _ (by rfl) _ _ (by rfl) (agOf (by rfl)) Has.z (tl_at (i := d) (j := 2) (u := .slice ao1 dl c1) hd (by omega) (by rw [← HDL.out, ← hv]; rfl)) ?_)
                | (go_at_call 34; refine (HFI.out _ _ ao1 c1 hS (fun w h => by rw [← HDL.out, ← hv]; exact rws_rd h (k := 1) rfl hd)).mono ?_; rintro r w1 ⟨rfl, hS1⟩; clear hS; have hS := hS1; clear hS1)
        | (go_at_call 37; refine (HRE.out _ (IsT.mk hS)).mono ?_; rintro r w1 ⟨rfl, hS1⟩; clear hS; have hS := hS1; clear hS1)
        | (go_at_call 35; refine (HAD.out _ hS).mono ?_; rintro r w1 ⟨rfl, hS1⟩; clear hS; have hS := hS1; clear hS1)
        | (refine toList (by rfl) ?_; refine bsF hS _ _ _ (by rfl) (elOf (by rfl)) [.int .i64 (f : Int), .int .i64 (d : Int)] (by rfl) (by rfl) (by decide) (by decide) (by intro v hv; simp only [List.mem_cons, List.not_mem_nil, or_false] at hv; rcases hv with rfl | rfl <;> rfl) ?_; intro b1 w1 hS1; clear hS; have hS := csIr (l := [f, d]) (by simp) (show Sat W w1 (Cs b1 _ (iv [f, d]) :: _) from hS1); clear hS1)
        | (go_at_call 36; refine (HTO.out _ _ _ hS.pull1).mono ?_; rintro r w1 ⟨rfl, hS1⟩; clear hS; have hS := hS1; clear hS1))
      go_ret3
      exact ⟨rfl, hS⟩
  · rw [hu] at HUN
    rcases hvar2 with ⟨q1, q2⟩ | ⟨q1, q2, q3, q4⟩
    all_goals
      go_enter Try.func28, Try.ntmps28
      go_wp2_with (first
        | (refine toList (by rfl) ?_; refine wp_of_reads (rLdRd (f := sv1) (x := nn) (HR.out _ hS) (sv1_len to) _ _ (by rfl) _ (by rfl) (agOf (by rfl)) m 0 (by omega) HX.out (by rfl) (by omega)) ?_)
                | (go_at_call 52; refine (HNM.out _).mono ?_; rintro r w1 ⟨rfl, rfl⟩)
        | (go_at_call 26; refine (HWK.out _ hS).mono ?_; rintro r w1 ⟨rfl, hS1⟩; clear hS; have hS := hS1; clear hS1; obtain ⟨v, vt, hO⟩ := IsT.open hS; clear hS; have hS := hO; clear hO)
                | (refine toList (by rfl) ?_; refine ld hS _ _ (by rfl) _ _ (by rfl) (agOf (by rfl)) Has.z (tl_at (i := i) (j := 0) (u := .int .i64 kk) hi48 (by omega) (by rw [← hkk]; rfl)) ?_)
                | (go_at_call 53; refine (HUN.out _ [_, _, _] hS).mono ?_; rintro r w1 ⟨rfl, hS1⟩; clear hS; have hS := (show Sat W w1 (_ :: _ :: _ :: L) from hS1); clear hS1)
        | (go_at_call 33; refine (HP.out _ (IsT.mk hS)).mono ?_; rintro r w1 ⟨rfl, hS1⟩; clear hS; have hS := hS1; clear hS1)
                | (go_at_call 33; refine (HP'.out _ hS).mono ?_; rintro r w1 ⟨rfl, hS1⟩; clear hS; have hS := hS1; clear hS1; obtain ⟨v2, vt2, hO⟩ := IsT.open hS; clear hS; have hS := hO; clear hO; obtain ⟨ao1, c1, hv, _⟩ := rws_shape hS (k := 1) rfl hd)
                | (refine toList (by rfl) ?_; refine ld hS _ _ (by rfl) _ _ (by rfl) (agOf (by rfl)) Has.z (tl_at (i := d) (j := 2) (u := .slice ao1 dl c1) hd (by omega) (by rw [← HDL.out, ← hv]; rfl)) ?_)
                | (go_at_call 34; refine (HFI.out _ _ ao1 c1 hS (fun w h => by rw [← HDL.out, ← hv]; exact rws_rd h (k := 1) rfl hd)).mono ?_; rintro r w1 ⟨rfl, hS1⟩; clear hS; have hS := hS1; clear hS1)
        | (go_at_call 37; refine (HRE.out _ (IsT.mk hS)).mono ?_; rintro r w1 ⟨rfl, hS1⟩; clear hS; have hS := hS1; clear hS1)
        | (go_at_call 35; refine (HAD.out _ hS).mono ?_; rintro r w1 ⟨rfl, hS1⟩; clear hS; have hS := hS1; clear hS1)
        | (refine toList (by rfl) ?_; refine bsF hS _ _ _ (by rfl) (elOf (by rfl)) [.int .i64 (f : Int), .int .i64 (d : Int)] (by rfl) (by rfl) (by decide) (by decide) (by intro v hv; simp only [List.mem_cons, List.not_mem_nil, or_false] at hv; rcases hv with rfl | rfl <;> rfl) ?_; intro b1 w1 hS1; clear hS; have hS := csIr (l := [f, d]) (by simp) (show Sat W w1 (Cs b1 _ (iv [f, d]) :: _) from hS1); clear hS1)
        | (go_at_call 36; refine (HTO.out _ _ _ hS.pull1).mono ?_; rintro r w1 ⟨rfl, hS1⟩; clear hS; have hS := hS1; clear hS1))
      go_ret3
      exact ⟨rfl, hS⟩
end Go.Proofs.Ytiieicdhkcikpaa
