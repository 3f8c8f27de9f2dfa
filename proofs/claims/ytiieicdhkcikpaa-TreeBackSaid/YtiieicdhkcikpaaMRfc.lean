/-
  The document's tree: Rename, where nothing is turned.
  The document's entries, where they are there.
-/
import Derived.Test.YtiieicdhkcikpaaMRfb
import Derived.Test.YtiieicdhkcikpaaMRna
namespace Go.Proofs.Ytiieicdhkcikpaa
open Go.RowKit Go.Sep
set_option linter.unusedSimpArgs false
set_option linter.unusedVariables false
attribute [local irreducible] Go.Oper.wp Go.wpList Go.Calls Go.Code.wp Go.Sep.Reg
attribute [local irreducible] IsT IsW
theorem irNil' {W w : World} {L : List Asrt} (h : Sat W w L) : Sat W w (Ir (.slice none 0 0) [] :: L) := by unfold Ir; exact h.slNil
set_option maxRecDepth 20000 in
set_option maxHeartbeats 2000000 in
theorem rren_empty {W w : World} {L : List Asrt} {p : Nat} {T : TrD} (hS : Sat W w (IsW p T :: L)) (hT : T.Ok) (l to : List (List UInt8)) (ao ao' : Option Addr) (c c' : Nat) (hr : ∀ w L', Sat W w (L' ++ L) → Rd w (.slice ao l.length c) l.length 1 (l.flatMap sv1)) (hl : l.length ≤ 1000000) (hr' : ∀ w L', Sat W w (L' ++ L) → Rd w (.slice ao' to.length c') to.length 1 (to.flatMap sv1)) (hl' : to.length ≤ 1000000) (h0 : l = [] ∨ to = []) : Calls Try.prog 45 #[.pointer (some ⟨p, 0, none⟩), .slice ao l.length c, .slice ao' to.length c'] w fun r w' => r = .returned (.tuple #[.int .i64 (T.rnX l to : Nat), .int .i64 (T.rnY l to : Nat), .int .i64 (T.rnE l to)]) ∧ Sat W w' (IsW p (T.rn l to) :: L) := by
  have hE : T.rnE l to = 10 := by unfold TrD.rnE; rw [if_pos h0]
  obtain ⟨hX, hY, hM⟩ := rn_err (l := l) (to := to) (by rw [hE]; decide : T.rnE l to ≠ 0)
  rw [hX, hY, hM, hE]
  clear hX hY hM hE hr hr' hT
  by_cases h1 : l = []
  · subst h1
    go_enter Try.func45, Try.ntmps45
    go_wp2
    go_ret3
    exact ⟨rfl, hS⟩
  · have e0 : ((l.length : Int) == 0) = false := beq_eq_false_iff_ne.2 (by have := List.length_pos_iff.2 h1; omega)
    obtain rfl : to = [] := h0.resolve_left h1
    clear h0 h1
    go_enter Try.func45, Try.ntmps45
    go_wp2
    go_ret3
    exact ⟨rfl, hS⟩
set_option maxRecDepth 20000 in
set_option maxHeartbeats 2000000 in
theorem rren_err {W w : World} {L : List Asrt} {p : Nat} {T : TrD} (hS : Sat W w (IsW p T :: L)) (hT : T.Ok) (l to : List (List UInt8)) (ao ao' : Option Addr) (c c' : Nat) (hr : ∀ w L', Sat W w (L' ++ L) → Rd w (.slice ao l.length c) l.length 1 (l.flatMap sv1)) (hl : l.length ≤ 1000000) (hr' : ∀ w L', Sat W w (L' ++ L) → Rd w (.slice ao' to.length c') to.length 1 (to.flatMap sv1)) (hl' : to.length ≤ 1000000) (h0 : l ≠ []) (h1 : to ≠ []) (h2 : nameOk (TrD.lastN to) = false ∨ (T.walk 0 l).2 ≠ 0 ∨ (T.kind (T.walk 0 l).1.toNat = 2 ∧ TrD.under to l = true ∧ l.length < to.length)) : Calls Try.prog 45 #[.pointer (some ⟨p, 0, none⟩), .slice ao l.length c, .slice ao' to.length c'] w fun r w' => r = .returned (.tuple #[.int .i64 (T.rnX l to : Nat), .int .i64 (T.rnY l to : Nat), .int .i64 (T.rnE l to)]) ∧ Sat W w' (IsW p (T.rn l to) :: L) := by
  have h01 : ¬ (l = [] ∨ to = []) := fun e => e.elim h0 h1
  obtain ⟨_, _, he, hc1, hc2, _, h5⟩ := hr' w [_] hS
  simp only [Value.slice.injEq, true_and] at he
  obtain ⟨rfl, rfl⟩ := he
  obtain ⟨b, off, rfl, _⟩ := h5 (List.length_pos_iff.2 h1)
  clear h5
  obtain ⟨_, _, he, hd1, hd2, _, h5⟩ := hr w [_] hS
  simp only [Value.slice.injEq, true_and] at he
  obtain ⟨rfl, rfl⟩ := he
  obtain ⟨b2, off2, rfl, _⟩ := h5 (List.length_pos_iff.2 h0)
  clear h5
  obtain ⟨m, hm⟩ : ∃ m, to.length = m + 1 := ⟨to.length - 1, by have := List.length_pos_iff.2 h1; omega⟩
  obtain ⟨m2, hm2⟩ : ∃ m, l.length = m + 1 := ⟨l.length - 1, by have := List.length_pos_iff.2 h0; omega⟩
  have HX := Lib.hid (last_at hm).1
  have HX2 := Lib.hid (last_at hm2).1
  have HR := Lib.hid (fun w (L' : List Asrt) (h : Sat W w (L' ++ L)) => hr' w L' h)
  have HR2 := Lib.hid (fun w (L' : List Asrt) (h : Sat W w (L' ++ L)) => hr w L' h)
  have e0 : ((l.length : Int) == 0) = false := beq_eq_false_iff_ne.2 (by omega)
  have e0' : ((to.length : Int) == 0) = false := beq_eq_false_iff_ne.2 (by omega)
  have hsub : (to.length : Int) - 1 = (m : Int) := by omega
  have hsub2 : (l.length : Int) - 1 = (m2 : Int) := by omega
  have k1 : (m : Int) < (to.length : Int) := by omega
  have k2 : m < to.length := by omega
  have k3 : (1 : Int) ≤ (to.length : Int) := by omega
  have k4 : (to.length : Int) ≤ 1000000 := by omega
  have j1 : (m2 : Int) < (l.length : Int) := by omega
  have j2 : m2 < l.length := by omega
  have j3 : (1 : Int) ≤ (l.length : Int) := by omega
  have k4' : (l.length : Int) ≤ 1000000 := by omega
  clear hm hm2
  obtain ⟨nn, hnn⟩ : ∃ nn, TrD.lastN to = nn := ⟨_, rfl⟩
  rw [hnn] at HX
  have HNM := Lib.hid (fun w => rname_any nn w)
  have HUN := Lib.hid (fun w (L' : List Asrt) (h : Sat W w (L' ++ L)) => runder_any h to l _ _ c' c (fun w h => hr' w L' h) (fun w h => hr w L' h) hl' hl)
  have HWK := Lib.hid (fun w (h : Sat W w (IsW p T :: L)) => rwalk_any h hT l _ c hr hl)
  have HPT0 := Lib.hid (fun w (h : Sat W w (IsW p T :: L)) => rparent_any h hT to _ c' hr' hl' h1)
  have HPL0 := Lib.hid (fun w (h : Sat W w (IsW p T :: L)) => rparent_any h hT l _ c hr hl h0)
  by_cases hn : nameOk nn = false
  · have hE : T.rnE l to = 1 := by unfold TrD.rnE; rw [if_neg h01, hnn, if_pos hn]
    obtain ⟨hX, hY, hM⟩ := rn_err (l := l) (to := to) (by rw [hE]; decide : T.rnE l to ≠ 0)
    rw [hX, hY, hM, hE]
    rw [hn] at HNM
    clear hX hY hM hE hr hr' h0 h1 h2 h01 hn hnn HUN HWK
    go_enter Try.func45, Try.ntmps45
    go_wp2_with (first
      | (refine toList (by rfl) ?_; refine wp_of_reads (rLdRd (f := sv1) (x := nn) (u := .string ⟨nn.toArray⟩) (HR.out _ [_] hS) (sv1_len to) _ _ (by rfl) _ (by rfl) (agOf (by rfl)) m 0 (by omega) HX.out (by rfl) (by omega)) ?_)
              | (go_at_call 63; refine (HNM.out _).mono ?_; rintro r w1 ⟨rfl, rfl⟩))
    go_ret3
    exact ⟨rfl, hS⟩
  · have hn : nameOk nn = true := by simpa using hn
    rw [hn] at HNM
    have hnf : ¬ nameOk nn = false := by rw [hn]; decide
    by_cases hw : (T.walk 0 l).2 = 0
    · obtain ⟨i, hi, hi48⟩ := hT.walk_lt l 0 (by omega)
      obtain ⟨hk, hu, hlt⟩ : (T.kind (T.walk 0 l).1.toNat = 2 ∧ TrD.under to l = true ∧ l.length < to.length) := by
        rcases h2 with h2 | h2 | h2
        · rw [hnn, hn] at h2; cases h2
        · exact absurd hw h2
        · exact h2
      have hE : T.rnE l to = 11 := by unfold TrD.rnE; rw [if_neg h01, hnn, if_neg hnf, if_neg (fun e => e hw), if_pos ⟨hk, hu, hlt⟩]
      obtain ⟨hX, hY, hM⟩ := rn_err (l := l) (to := to) (by rw [hE]; decide : T.rnE l to ≠ 0)
      rw [hX, hY, hM, hE]
      rw [hi] at hk
      obtain ⟨kk, hkk⟩ : ∃ kk, T.kind i = kk := ⟨_, rfl⟩
      have hk2 : kk = 2 := by rw [← hkk]; simpa using hk
      have e1 : (kk == 2) = true := by rw [hk2]; rfl
      have e2 : decide ((l.length : Int) < (to.length : Int)) = true := decide_eq_true (by omega)
      have e3 : decide (l.length < to.length) = true := decide_eq_true hlt
      have k5 : (i : Int) < 48 := by omega
      rw [hu] at HUN
      rw [hi, hw] at HWK
      clear hX hY hM hE hr hr' h0 h1 h2 h01 hn hnf hnn hw hi hk hk2 hu
      go_enter Try.func45, Try.ntmps45
      go_wp2_with (first
        | (refine toList (by rfl) ?_; refine wp_of_reads (rLdRd (f := sv1) (x := nn) (u := .string ⟨nn.toArray⟩) (HR.out _ [_] hS) (sv1_len to) _ _ (by rfl) _ (by rfl) (agOf (by rfl)) m 0 (by omega) HX.out (by rfl) (by omega)) ?_)
                | (go_at_call 63; refine (HNM.out _).mono ?_; rintro r w1 ⟨rfl, rfl⟩)
        | (go_at_call 47; refine (HWK.out _ hS).mono ?_; rintro r w1 ⟨rfl, hS1⟩; clear hS; have hS := hS1; clear hS1; obtain ⟨v, vt, hO⟩ := IsW.open hS; clear hS; have hS := hO; clear hO)
                | (refine toList (by rfl) ?_; refine ld hS _ _ (by rfl) _ _ (by rfl) (agOf (by rfl)) Has.z (wl_ku (z := kk) hi48 (by omega) hkk) ?_)
                | (go_at_call 69; refine (HUN.out _ [_, _, _] hS).mono ?_; rintro r w1 ⟨rfl, hS1⟩; clear hS; have hS := (show Sat W w1 (_ :: _ :: _ :: L) from hS1); clear hS1))
      go_ret3
      exact ⟨rfl, IsW.mk hS⟩
    · have hE : T.rnE l to = (T.walk 0 l).2 := by unfold TrD.rnE; rw [if_neg h01, hnn, if_neg hnf, if_pos hw]
      obtain ⟨hX, hY, hM⟩ := rn_err (l := l) (to := to) (by rw [hE]; exact hw : T.rnE l to ≠ 0)
      rw [hX, hY, hM, hE]
      obtain ⟨we, hwe⟩ : ∃ we, (T.walk 0 l).2 = we := ⟨_, rfl⟩
      obtain ⟨i, hi, hi48⟩ := hT.walk_lt l 0 (by omega)
      rw [hi, hwe] at HWK
      rw [hwe] at hw ⊢
      have e1 : (we != 0) = true := bne_iff_ne.2 hw
      clear hX hY hM hE hr hr' h0 h1 h2 h01 hn hnf hnn hwe hi HUN
      go_enter Try.func45, Try.ntmps45
      go_wp2_with (first
        | (refine toList (by rfl) ?_; refine wp_of_reads (rLdRd (f := sv1) (x := nn) (u := .string ⟨nn.toArray⟩) (HR.out _ [_] hS) (sv1_len to) _ _ (by rfl) _ (by rfl) (agOf (by rfl)) m 0 (by omega) HX.out (by rfl) (by omega)) ?_)
                | (go_at_call 63; refine (HNM.out _).mono ?_; rintro r w1 ⟨rfl, rfl⟩)
        | (go_at_call 47; refine (HWK.out _ hS).mono ?_; rintro r w1 ⟨rfl, hS1⟩; clear hS; have hS := hS1; clear hS1))
      go_ret3
      exact ⟨rfl, hS⟩
set_option maxRecDepth 20000 in
set_option maxHeartbeats 2000000 in
theorem rren_to {W w : World} {L : List Asrt} {p : Nat} {T : TrD} (hS : Sat W w (IsW p T :: L)) (hT : T.Ok) (l to : List (List UInt8)) (ao ao' : Option Addr) (c c' : Nat) (hr : ∀ w L', Sat W w (L' ++ L) → Rd w (.slice ao l.length c) l.length 1 (l.flatMap sv1)) (hl : l.length ≤ 1000000) (hr' : ∀ w L', Sat W w (L' ++ L) → Rd w (.slice ao' to.length c') to.length 1 (to.flatMap sv1)) (hl' : to.length ≤ 1000000) (h0 : l ≠ []) (h1 : to ≠ []) (h2 : nameOk (TrD.lastN to) = true) (h3 : (T.walk 0 l).2 = 0) (h4 : ¬ (T.kind (T.walk 0 l).1.toNat = 2 ∧ TrD.under to l = true ∧ l.length < to.length)) (hne : ¬ (to = l)) (h5 : T.pE to ≠ 0) : Calls Try.prog 45 #[.pointer (some ⟨p, 0, none⟩), .slice ao l.length c, .slice ao' to.length c'] w fun r w' => r = .returned (.tuple #[.int .i64 (T.rnX l to : Nat), .int .i64 (T.rnY l to : Nat), .int .i64 (T.rnE l to)]) ∧ Sat W w' (IsW p (T.rn l to) :: L) := by
  obtain ⟨i, hi, hi48⟩ := hT.walk_lt l 0 (by omega)
  obtain ⟨p1, p2, p3, p4, p5, p6⟩ := hT.parent h0 h3
  rw [hi] at p5
  have h01 : ¬ (l = [] ∨ to = []) := fun e => e.elim h0 h1
  obtain ⟨_, _, he, hc1, hc2, _, h5⟩ := hr' w [_] hS
  simp only [Value.slice.injEq, true_and] at he
  obtain ⟨rfl, rfl⟩ := he
  obtain ⟨b, off, rfl, _⟩ := h5 (List.length_pos_iff.2 h1)
  clear h5
  obtain ⟨_, _, he, hd1, hd2, _, h5⟩ := hr w [_] hS
  simp only [Value.slice.injEq, true_and] at he
  obtain ⟨rfl, rfl⟩ := he
  obtain ⟨b2, off2, rfl, _⟩ := h5 (List.length_pos_iff.2 h0)
  clear h5
  obtain ⟨m, hm⟩ : ∃ m, to.length = m + 1 := ⟨to.length - 1, by have := List.length_pos_iff.2 h1; omega⟩
  obtain ⟨m2, hm2⟩ : ∃ m, l.length = m + 1 := ⟨l.length - 1, by have := List.length_pos_iff.2 h0; omega⟩
  have HX := Lib.hid (last_at hm).1
  have HX2 := Lib.hid (last_at hm2).1
  have HR := Lib.hid (fun w (L' : List Asrt) (h : Sat W w (L' ++ L)) => hr' w L' h)
  have HR2 := Lib.hid (fun w (L' : List Asrt) (h : Sat W w (L' ++ L)) => hr w L' h)
  have e0 : ((l.length : Int) == 0) = false := beq_eq_false_iff_ne.2 (by omega)
  have e0' : ((to.length : Int) == 0) = false := beq_eq_false_iff_ne.2 (by omega)
  have hsub : (to.length : Int) - 1 = (m : Int) := by omega
  have hsub2 : (l.length : Int) - 1 = (m2 : Int) := by omega
  have k1 : (m : Int) < (to.length : Int) := by omega
  have k2 : m < to.length := by omega
  have k3 : (1 : Int) ≤ (to.length : Int) := by omega
  have k4 : (to.length : Int) ≤ 1000000 := by omega
  have j1 : (m2 : Int) < (l.length : Int) := by omega
  have j2 : m2 < l.length := by omega
  have j3 : (1 : Int) ≤ (l.length : Int) := by omega
  have k4' : (l.length : Int) ≤ 1000000 := by omega
  clear hm hm2
  obtain ⟨nn, hnn⟩ : ∃ nn, TrD.lastN to = nn := ⟨_, rfl⟩
  rw [hnn] at HX
  have HNM := Lib.hid (fun w => rname_any nn w)
  have HUN := Lib.hid (fun w (L' : List Asrt) (h : Sat W w (L' ++ L)) => runder_any h to l _ _ c' c (fun w h => hr' w L' h) (fun w h => hr w L' h) hl' hl)
  have HWK := Lib.hid (fun w (h : Sat W w (IsW p T :: L)) => rwalk_any h hT l _ c hr hl)
  have HPT0 := Lib.hid (fun w (h : Sat W w (IsW p T :: L)) => rparent_any h hT to _ c' hr' hl' h1)
  have HPL0 := Lib.hid (fun w (h : Sat W w (IsW p T :: L)) => rparent_any h hT l _ c hr hl h0)
  rw [hnn] at h2
  obtain ⟨f, hff⟩ : ∃ f, T.pD l = f := ⟨_, rfl⟩
  obtain ⟨o, hoo⟩ : ∃ o, TrD.lastN l = o := ⟨_, rfl⟩
  rw [hoo] at HX2
  have HPL := Lib.hid (fun w (h : Sat W w (IsW p T :: L)) => (show Calls Try.prog 64 #[.pointer (some ⟨p, 0, none⟩), .slice (some ⟨b2, off2, none⟩) l.length c] w fun r w' => r = .returned (.tuple #[.int .i64 (f : Nat), .int .i64 0]) ∧ Sat W w' (IsW p T :: L) from
    (HPL0.out w h).mono fun r w' ⟨dd, h1, h2, h3⟩ => by rw [h2 p3 p4, if_pos p3, if_pos p4, hff] at h1; exact ⟨h1, h3⟩))
  rw [h2] at HNM
  have hnf : ¬ nameOk nn = false := by rw [h2]; decide
  rw [hi, h3] at HWK
  have hpe : T.pE to = if (T.walk 0 to.dropLast).2 = 0 then (if T.kind (T.pD to) = 2 then 0 else 8) else (T.walk 0 to.dropLast).2 := by unfold TrD.pE; rw [if_neg h1, hnn, h2, if_pos rfl]; rfl
  rw [← hpe] at HPT0
  obtain ⟨kk, hkk⟩ : ∃ kk, T.kind i = kk := ⟨_, rfl⟩
  have k5 : (i : Int) < 48 := by omega
  have k7 : (f : Int) < 48 := by rw [← hff]; omega
  have hlp : ¬ (T.kind (T.walk 0 l).1.toNat = 2 ∧ TrD.under to l = true ∧ l.length < to.length) := h4
  rw [hi, Int.toNat_natCast, hkk] at h4
  have hE : T.rnE l to = T.pE to := by unfold TrD.rnE; rw [if_neg h01, hnn, if_neg hnf, if_neg (fun e => e h3), if_neg hlp, if_pos h5]
  obtain ⟨hX, hY, hM⟩ := rn_err (l := l) (to := to) (by rw [hE]; exact h5 : T.rnE l to ≠ 0)
  rw [hX, hY, hM, hE]
  obtain ⟨ee, hee⟩ : ∃ ee, T.pE to = ee := ⟨_, rfl⟩
  rw [hee] at HPT0 h5 ⊢
  have e9 : (ee != 0) = true := bne_iff_ne.2 h5
  have hvar : (kk == 2) = false ∨ ((kk == 2) = true ∧ TrD.under to l = false) := by
    by_cases e : kk = 2
    · refine .inr ⟨by rw [e]; rfl, ?_⟩
      cases hu : TrD.under to l with
      | false => rfl
      | true =>
        exfalso
        have h9 : ¬ l.length < to.length := fun h9 => h4 ⟨e, hu, h9⟩
        unfold TrD.under at hu
        simp only [Bool.and_eq_true, decide_eq_true_eq] at hu
        rw [List.take_of_length_le (by omega)] at hu
        exact hne hu.2
    · exact .inl (beq_eq_false_iff_ne.2 e)
  clear hX hY hM hE hr hr' h0 h1 h2 h01 hnf hnn h3 hi h4 hlp hne h5 hee p1 p2 p3 p4 p5 p6 HPL0 hff hoo hpe
  rcases hvar with e1 | ⟨e1, hu⟩
  · go_enter Try.func45, Try.ntmps45
    go_wp2_with (first
      | (refine toList (by rfl) ?_; refine wp_of_reads (rLdRd (f := sv1) (x := nn) (u := .string ⟨nn.toArray⟩) (HR.out _ [_] hS) (sv1_len to) _ _ (by rfl) _ (by rfl) (agOf (by rfl)) m 0 (by omega) HX.out (by rfl) (by omega)) ?_)
              | (go_at_call 63; refine (HNM.out _).mono ?_; rintro r w1 ⟨rfl, rfl⟩)
      | (go_at_call 47; refine (HWK.out _ hS).mono ?_; rintro r w1 ⟨rfl, hS1⟩; clear hS; have hS := hS1; clear hS1; obtain ⟨v, vt, hO⟩ := IsW.open hS; clear hS; have hS := hO; clear hO)
              | (refine toList (by rfl) ?_; refine ld hS _ _ (by rfl) _ _ (by rfl) (agOf (by rfl)) Has.z (wl_ku (z := kk) hi48 (by omega) hkk) ?_)
              | (go_at_call 69; refine (HUN.out _ [_, _, _] hS).mono ?_; rintro r w1 ⟨rfl, hS1⟩; clear hS; have hS := (show Sat W w1 (_ :: _ :: _ :: L) from hS1); clear hS1)
      | (go_at_call 64; refine (HPT0.out _ (IsW.mk hS)).mono ?_; rintro r w1 ⟨dd, rfl, _, hS1⟩; clear hS; have hS := hS1; clear hS1))
    go_ret3
    exact ⟨rfl, hS⟩
  · rw [hu] at HUN
    go_enter Try.func45, Try.ntmps45
    go_wp2_with (first
      | (refine toList (by rfl) ?_; refine wp_of_reads (rLdRd (f := sv1) (x := nn) (u := .string ⟨nn.toArray⟩) (HR.out _ [_] hS) (sv1_len to) _ _ (by rfl) _ (by rfl) (agOf (by rfl)) m 0 (by omega) HX.out (by rfl) (by omega)) ?_)
              | (go_at_call 63; refine (HNM.out _).mono ?_; rintro r w1 ⟨rfl, rfl⟩)
      | (go_at_call 47; refine (HWK.out _ hS).mono ?_; rintro r w1 ⟨rfl, hS1⟩; clear hS; have hS := hS1; clear hS1; obtain ⟨v, vt, hO⟩ := IsW.open hS; clear hS; have hS := hO; clear hO)
              | (refine toList (by rfl) ?_; refine ld hS _ _ (by rfl) _ _ (by rfl) (agOf (by rfl)) Has.z (wl_ku (z := kk) hi48 (by omega) hkk) ?_)
              | (go_at_call 69; refine (HUN.out _ [_, _, _] hS).mono ?_; rintro r w1 ⟨rfl, hS1⟩; clear hS; have hS := (show Sat W w1 (_ :: _ :: _ :: L) from hS1); clear hS1)
      | (go_at_call 64; refine (HPT0.out _ (IsW.mk hS)).mono ?_; rintro r w1 ⟨dd, rfl, _, hS1⟩; clear hS; have hS := hS1; clear hS1))
    go_ret3
    exact ⟨rfl, hS⟩
set_option maxRecDepth 20000 in
set_option maxHeartbeats 2000000 in
theorem rren_full {W w : World} {L : List Asrt} {p : Nat} {T : TrD} (hS : Sat W w (IsW p T :: L)) (hT : T.Ok) (l to : List (List UInt8)) (ao ao' : Option Addr) (c c' : Nat) (hr : ∀ w L', Sat W w (L' ++ L) → Rd w (.slice ao l.length c) l.length 1 (l.flatMap sv1)) (hl : l.length ≤ 1000000) (hr' : ∀ w L', Sat W w (L' ++ L) → Rd w (.slice ao' to.length c') to.length 1 (to.flatMap sv1)) (hl' : to.length ≤ 1000000) (h0 : l ≠ []) (h1 : to ≠ []) (h2 : nameOk (TrD.lastN to) = true) (h3 : (T.walk 0 l).2 = 0) (h4 : ¬ (T.kind (T.walk 0 l).1.toNat = 2 ∧ TrD.under to l = true ∧ l.length < to.length)) (hne : ¬ (to = l)) (h5 : T.pE to = 0) (h6 : findE (T.dir (T.pD to)) (TrD.lastN to) = none) (h7 : T.pD to ≠ T.pD l ∧ 64 ≤ (T.dir (T.pD to)).length) : Calls Try.prog 45 #[.pointer (some ⟨p, 0, none⟩), .slice ao l.length c, .slice ao' to.length c'] w fun r w' => r = .returned (.tuple #[.int .i64 (T.rnX l to : Nat), .int .i64 (T.rnY l to : Nat), .int .i64 (T.rnE l to)]) ∧ Sat W w' (IsW p (T.rn l to) :: L) := by
  obtain ⟨_, _, hd, hkd, hwd⟩ := hT.pE_zero h5
  obtain ⟨i, hi, hi48⟩ := hT.walk_lt l 0 (by omega)
  obtain ⟨p1, p2, p3, p4, p5, p6⟩ := hT.parent h0 h3
  rw [hi] at p5
  have h01 : ¬ (l = [] ∨ to = []) := fun e => e.elim h0 h1
  obtain ⟨_, _, he, hc1, hc2, _, h5⟩ := hr' w [_] hS
  simp only [Value.slice.injEq, true_and] at he
  obtain ⟨rfl, rfl⟩ := he
  obtain ⟨b, off, rfl, _⟩ := h5 (List.length_pos_iff.2 h1)
  clear h5
  obtain ⟨_, _, he, hd1, hd2, _, h5⟩ := hr w [_] hS
  simp only [Value.slice.injEq, true_and] at he
  obtain ⟨rfl, rfl⟩ := he
  obtain ⟨b2, off2, rfl, _⟩ := h5 (List.length_pos_iff.2 h0)
  clear h5
  obtain ⟨m, hm⟩ : ∃ m, to.length = m + 1 := ⟨to.length - 1, by have := List.length_pos_iff.2 h1; omega⟩
  obtain ⟨m2, hm2⟩ : ∃ m, l.length = m + 1 := ⟨l.length - 1, by have := List.length_pos_iff.2 h0; omega⟩
  have HX := Lib.hid (last_at hm).1
  have HX2 := Lib.hid (last_at hm2).1
  have HR := Lib.hid (fun w (L' : List Asrt) (h : Sat W w (L' ++ L)) => hr' w L' h)
  have HR2 := Lib.hid (fun w (L' : List Asrt) (h : Sat W w (L' ++ L)) => hr w L' h)
  have e0 : ((l.length : Int) == 0) = false := beq_eq_false_iff_ne.2 (by omega)
  have e0' : ((to.length : Int) == 0) = false := beq_eq_false_iff_ne.2 (by omega)
  have hsub : (to.length : Int) - 1 = (m : Int) := by omega
  have hsub2 : (l.length : Int) - 1 = (m2 : Int) := by omega
  have k1 : (m : Int) < (to.length : Int) := by omega
  have k2 : m < to.length := by omega
  have k3 : (1 : Int) ≤ (to.length : Int) := by omega
  have k4 : (to.length : Int) ≤ 1000000 := by omega
  have j1 : (m2 : Int) < (l.length : Int) := by omega
  have j2 : m2 < l.length := by omega
  have j3 : (1 : Int) ≤ (l.length : Int) := by omega
  have k4' : (l.length : Int) ≤ 1000000 := by omega
  clear hm hm2
  obtain ⟨nn, hnn⟩ : ∃ nn, TrD.lastN to = nn := ⟨_, rfl⟩
  rw [hnn] at HX
  have HNM := Lib.hid (fun w => rname_any nn w)
  have HUN := Lib.hid (fun w (L' : List Asrt) (h : Sat W w (L' ++ L)) => runder_any h to l _ _ c' c (fun w h => hr' w L' h) (fun w h => hr w L' h) hl' hl)
  have HWK := Lib.hid (fun w (h : Sat W w (IsW p T :: L)) => rwalk_any h hT l _ c hr hl)
  have HPT0 := Lib.hid (fun w (h : Sat W w (IsW p T :: L)) => rparent_any h hT to _ c' hr' hl' h1)
  have HPL0 := Lib.hid (fun w (h : Sat W w (IsW p T :: L)) => rparent_any h hT l _ c hr hl h0)
  rw [hnn] at h2
  obtain ⟨f, hff⟩ : ∃ f, T.pD l = f := ⟨_, rfl⟩
  obtain ⟨o, hoo⟩ : ∃ o, TrD.lastN l = o := ⟨_, rfl⟩
  rw [hoo] at HX2
  have HPL := Lib.hid (fun w (h : Sat W w (IsW p T :: L)) => (show Calls Try.prog 64 #[.pointer (some ⟨p, 0, none⟩), .slice (some ⟨b2, off2, none⟩) l.length c] w fun r w' => r = .returned (.tuple #[.int .i64 (f : Nat), .int .i64 0]) ∧ Sat W w' (IsW p T :: L) from
    (HPL0.out w h).mono fun r w' ⟨dd, h1, h2, h3⟩ => by rw [h2 p3 p4, if_pos p3, if_pos p4, hff] at h1; exact ⟨h1, h3⟩))
  rw [h2] at HNM
  have hnf : ¬ nameOk nn = false := by rw [h2]; decide
  rw [hi, h3] at HWK
  have hpe : T.pE to = if (T.walk 0 to.dropLast).2 = 0 then (if T.kind (T.pD to) = 2 then 0 else 8) else (T.walk 0 to.dropLast).2 := by unfold TrD.pE; rw [if_neg h1, hnn, h2, if_pos rfl]; rfl
  rw [← hpe] at HPT0
  obtain ⟨kk, hkk⟩ : ∃ kk, T.kind i = kk := ⟨_, rfl⟩
  have k5 : (i : Int) < 48 := by omega
  have k7 : (f : Int) < 48 := by rw [← hff]; omega
  have hlp : ¬ (T.kind (T.walk 0 l).1.toNat = 2 ∧ TrD.under to l = true ∧ l.length < to.length) := h4
  rw [hi, Int.toNat_natCast, hkk] at h4
  have HPT := Lib.hid (fun w (h : Sat W w (IsW p T :: L)) => (show Calls Try.prog 64 #[.pointer (some ⟨p, 0, none⟩), .slice (some ⟨b, off, none⟩) to.length c'] w fun r w' => r = .returned (.tuple #[.int .i64 (T.pD to : Nat), .int .i64 0]) ∧ Sat W w' (IsW p T :: L) from
    (HPT0.out w h).mono fun r w' ⟨dd, h1, h2, h3⟩ => by rw [h2 (by rw [hwd]) hkd, h5] at h1; exact ⟨h1, h3⟩))
  obtain ⟨d, hdd⟩ : ∃ d, T.pD to = d := ⟨_, rfl⟩
  have hlen := hT.len _ (hT.dir_mem hd)
  rw [hdd] at hd hlen HPT
  obtain ⟨dl, hdl⟩ : ∃ dl, (T.dir d).length = dl := ⟨_, rfl⟩
  have HDL := Lib.hid hdl
  have HFI := Lib.hid (fun w (L' : List Asrt) ao1 c1 (h : Sat W w L') (hr : ∀ w, Sat W w L' → Rd w (.slice ao1 dl c1) dl 2 ((T.dir d).flatMap ev2)) => (show Calls Try.prog 65 #[.slice ao1 dl c1, sv nn] w fun r w' => r = .returned (.tuple #[.int .i64 ((findE (T.dir d) nn).getD 0), .bool (hasE (T.dir d) nn)]) ∧ Sat W w' L' by
    have := rfind_any h (T.dir d) ao1 c1 nn (by rw [hdl]; exact hr) (by omega)
    rw [hdl] at this; exact this))
  have k6 : (d : Int) < 48 := by omega
  have hvar : (kk == 2) = false ∨ ((kk == 2) = true ∧ TrD.under to l = false) := by
    by_cases e : kk = 2
    · refine .inr ⟨by rw [e]; rfl, ?_⟩
      cases hu : TrD.under to l with
      | false => rfl
      | true =>
        exfalso
        have h9 : ¬ l.length < to.length := fun h9 => h4 ⟨e, hu, h9⟩
        unfold TrD.under at hu
        simp only [Bool.and_eq_true, decide_eq_true_eq] at hu
        rw [List.take_of_length_le (by omega)] at hu
        exact hne hu.2
    · exact .inl (beq_eq_false_iff_ne.2 e)
  have hE : T.rnE l to = 5 := by unfold TrD.rnE; rw [if_neg h01, hnn, if_neg hnf, if_neg (fun e => e h3), if_neg hlp, if_neg (fun e => e h5), ← hnn, h6]; dsimp only; rw [if_pos h7]
  obtain ⟨hX, hY, hM⟩ := rn_err (l := l) (to := to) (by rw [hE]; decide : T.rnE l to ≠ 0)
  rw [hX, hY, hM, hE]
  rw [hdd, hnn] at h6
  have hh := hasE_find.2 h6
  rw [h6, hh] at HFI
  rw [hdd, hff, hdl] at h7
  have e7 : ((d : Int) != (f : Int)) = true := bne_iff_ne.2 (by omega)
  have e7' : (d != f) = true := bne_iff_ne.2 h7.1
  have e8 : decide ((64 : Int) ≤ (dl : Int)) = true := decide_eq_true (by omega)
  have e8' : decide (64 ≤ dl) = true := decide_eq_true h7.2
  clear hX hY hM hE hr hr' h0 h1 h2 h01 hnf hnn h3 hi h4 hlp h5 p1 p2 p3 p4 p5 p6 HPL0 HPT0 hff hoo hpe hne h6 h7 hh hdd hdl hkd hwd hlen
  rcases hvar with e1 | ⟨e1, hu⟩
  · go_enter Try.func45, Try.ntmps45
    go_wp2_with (first
      | (refine toList (by rfl) ?_; refine wp_of_reads (rLdRd (f := sv1) (x := nn) (u := .string ⟨nn.toArray⟩) (HR.out _ [_] hS) (sv1_len to) _ _ (by rfl) _ (by rfl) (agOf (by rfl)) m 0 (by omega) HX.out (by rfl) (by omega)) ?_)
              | (go_at_call 63; refine (HNM.out _).mono ?_; rintro r w1 ⟨rfl, rfl⟩)
      | (go_at_call 47; refine (HWK.out _ hS).mono ?_; rintro r w1 ⟨rfl, hS1⟩; clear hS; have hS := hS1; clear hS1; obtain ⟨v, vt, hO⟩ := IsW.open hS; clear hS; have hS := hO; clear hO)
              | (refine toList (by rfl) ?_; refine ld hS _ _ (by rfl) _ _ (by rfl) (agOf (by rfl)) Has.z (wl_ku (z := kk) hi48 (by omega) hkk) ?_)
              | (go_at_call 69; refine (HUN.out _ [_, _, _] hS).mono ?_; rintro r w1 ⟨rfl, hS1⟩; clear hS; have hS := (show Sat W w1 (_ :: _ :: _ :: L) from hS1); clear hS1)
      | (go_at_call 64; refine (HPT.out _ (IsW.mk hS)).mono ?_; rintro r w1 ⟨rfl, hS1⟩; clear hS; have hS := hS1; clear hS1; obtain ⟨v, vt, hO⟩ := IsW.open hS; clear hS; have hS := hO; clear hO)
              | (go_at_call 64; refine (HPL.out _ (IsW.mk hS)).mono ?_; rintro r w1 ⟨rfl, hS1⟩; clear hS; have hS := hS1; clear hS1; obtain ⟨v, vt, hO⟩ := IsW.open hS; clear hS; have hS := hO; clear hO; obtain ⟨ao1, c1, hv, _⟩ := rws_shape hS (k := 1) rfl hd; rw [HDL.out] at hv)
              | (refine toList (by rfl) ?_; refine wp_of_reads (rLdRd (f := sv1) (x := nn) (u := .string ⟨nn.toArray⟩) (HR.out _ [_, _, _] hS) (sv1_len to) _ _ (by rfl) _ (by rfl) (agOf (by rfl)) m 0 (by omega) HX.out (by rfl) (by omega)) ?_)
              | (refine toList (by rfl) ?_; refine ld hS _ _ (by rfl) _ _ (by rfl) (agOf (by rfl)) Has.z (wl_vu (u := .slice ao1 dl c1) hd (by omega) hv) ?_)
              | (go_at_call 65; refine (HFI.out _ _ ao1 c1 hS (fun w h => by rw [← hv]; have := rws_rd h (k := 1) rfl hd; rw [HDL.out] at this; exact this)).mono ?_; rintro r w1 ⟨rfl, hS1⟩; clear hS; have hS := hS1; clear hS1))
    go_ret3
    exact ⟨rfl, IsW.mk hS⟩
  · rw [hu] at HUN
    go_enter Try.func45, Try.ntmps45
    go_wp2_with (first
      | (refine toList (by rfl) ?_; refine wp_of_reads (rLdRd (f := sv1) (x := nn) (u := .string ⟨nn.toArray⟩) (HR.out _ [_] hS) (sv1_len to) _ _ (by rfl) _ (by rfl) (agOf (by rfl)) m 0 (by omega) HX.out (by rfl) (by omega)) ?_)
              | (go_at_call 63; refine (HNM.out _).mono ?_; rintro r w1 ⟨rfl, rfl⟩)
      | (go_at_call 47; refine (HWK.out _ hS).mono ?_; rintro r w1 ⟨rfl, hS1⟩; clear hS; have hS := hS1; clear hS1; obtain ⟨v, vt, hO⟩ := IsW.open hS; clear hS; have hS := hO; clear hO)
              | (refine toList (by rfl) ?_; refine ld hS _ _ (by rfl) _ _ (by rfl) (agOf (by rfl)) Has.z (wl_ku (z := kk) hi48 (by omega) hkk) ?_)
              | (go_at_call 69; refine (HUN.out _ [_, _, _] hS).mono ?_; rintro r w1 ⟨rfl, hS1⟩; clear hS; have hS := (show Sat W w1 (_ :: _ :: _ :: L) from hS1); clear hS1)
      | (go_at_call 64; refine (HPT.out _ (IsW.mk hS)).mono ?_; rintro r w1 ⟨rfl, hS1⟩; clear hS; have hS := hS1; clear hS1; obtain ⟨v, vt, hO⟩ := IsW.open hS; clear hS; have hS := hO; clear hO)
              | (go_at_call 64; refine (HPL.out _ (IsW.mk hS)).mono ?_; rintro r w1 ⟨rfl, hS1⟩; clear hS; have hS := hS1; clear hS1; obtain ⟨v, vt, hO⟩ := IsW.open hS; clear hS; have hS := hO; clear hO; obtain ⟨ao1, c1, hv, _⟩ := rws_shape hS (k := 1) rfl hd; rw [HDL.out] at hv)
              | (refine toList (by rfl) ?_; refine wp_of_reads (rLdRd (f := sv1) (x := nn) (u := .string ⟨nn.toArray⟩) (HR.out _ [_, _, _] hS) (sv1_len to) _ _ (by rfl) _ (by rfl) (agOf (by rfl)) m 0 (by omega) HX.out (by rfl) (by omega)) ?_)
              | (refine toList (by rfl) ?_; refine ld hS _ _ (by rfl) _ _ (by rfl) (agOf (by rfl)) Has.z (wl_vu (u := .slice ao1 dl c1) hd (by omega) hv) ?_)
              | (go_at_call 65; refine (HFI.out _ _ ao1 c1 hS (fun w h => by rw [← hv]; have := rws_rd h (k := 1) rfl hd; rw [HDL.out] at this; exact this)).mono ?_; rintro r w1 ⟨rfl, hS1⟩; clear hS; have hS := hS1; clear hS1))
    go_ret3
    exact ⟨rfl, IsW.mk hS⟩
set_option maxRecDepth 20000 in
set_option maxHeartbeats 2000000 in
theorem rren_same {W w : World} {L : List Asrt} {p : Nat} {T : TrD} (hS : Sat W w (IsW p T :: L)) (hT : T.Ok) (l to : List (List UInt8)) (ao ao' : Option Addr) (c c' : Nat) (hr : ∀ w L', Sat W w (L' ++ L) → Rd w (.slice ao l.length c) l.length 1 (l.flatMap sv1)) (hl : l.length ≤ 1000000) (hr' : ∀ w L', Sat W w (L' ++ L) → Rd w (.slice ao' to.length c') to.length 1 (to.flatMap sv1)) (hl' : to.length ≤ 1000000) (h0 : l ≠ []) (h1 : to ≠ []) (h2 : nameOk (TrD.lastN to) = true) (h3 : (T.walk 0 l).2 = 0) (h4 : ¬ (T.kind (T.walk 0 l).1.toNat = 2 ∧ TrD.under to l = true ∧ l.length < to.length)) (h5 : T.pE to = 0) (h6 : findE (T.dir (T.pD to)) (TrD.lastN to) = some (T.walk 0 l).1) : Calls Try.prog 45 #[.pointer (some ⟨p, 0, none⟩), .slice ao l.length c, .slice ao' to.length c'] w fun r w' => r = .returned (.tuple #[.int .i64 (T.rnX l to : Nat), .int .i64 (T.rnY l to : Nat), .int .i64 (T.rnE l to)]) ∧ Sat W w' (IsW p (T.rn l to) :: L) := by
  obtain ⟨_, _, hd, hkd, hwd⟩ := hT.pE_zero h5
  obtain ⟨i, hi, hi48⟩ := hT.walk_lt l 0 (by omega)
  obtain ⟨p1, p2, p3, p4, p5, p6⟩ := hT.parent h0 h3
  rw [hi] at p5
  have h01 : ¬ (l = [] ∨ to = []) := fun e => e.elim h0 h1
  obtain ⟨_, _, he, hc1, hc2, _, h5⟩ := hr' w [_] hS
  simp only [Value.slice.injEq, true_and] at he
  obtain ⟨rfl, rfl⟩ := he
  obtain ⟨b, off, rfl, _⟩ := h5 (List.length_pos_iff.2 h1)
  clear h5
  obtain ⟨_, _, he, hd1, hd2, _, h5⟩ := hr w [_] hS
  simp only [Value.slice.injEq, true_and] at he
  obtain ⟨rfl, rfl⟩ := he
  obtain ⟨b2, off2, rfl, _⟩ := h5 (List.length_pos_iff.2 h0)
  clear h5
  obtain ⟨m, hm⟩ : ∃ m, to.length = m + 1 := ⟨to.length - 1, by have := List.length_pos_iff.2 h1; omega⟩
  obtain ⟨m2, hm2⟩ : ∃ m, l.length = m + 1 := ⟨l.length - 1, by have := List.length_pos_iff.2 h0; omega⟩
  have HX := Lib.hid (last_at hm).1
  have HX2 := Lib.hid (last_at hm2).1
  have HR := Lib.hid (fun w (L' : List Asrt) (h : Sat W w (L' ++ L)) => hr' w L' h)
  have HR2 := Lib.hid (fun w (L' : List Asrt) (h : Sat W w (L' ++ L)) => hr w L' h)
  have e0 : ((l.length : Int) == 0) = false := beq_eq_false_iff_ne.2 (by omega)
  have e0' : ((to.length : Int) == 0) = false := beq_eq_false_iff_ne.2 (by omega)
  have hsub : (to.length : Int) - 1 = (m : Int) := by omega
  have hsub2 : (l.length : Int) - 1 = (m2 : Int) := by omega
  have k1 : (m : Int) < (to.length : Int) := by omega
  have k2 : m < to.length := by omega
  have k3 : (1 : Int) ≤ (to.length : Int) := by omega
  have k4 : (to.length : Int) ≤ 1000000 := by omega
  have j1 : (m2 : Int) < (l.length : Int) := by omega
  have j2 : m2 < l.length := by omega
  have j3 : (1 : Int) ≤ (l.length : Int) := by omega
  have k4' : (l.length : Int) ≤ 1000000 := by omega
  clear hm hm2
  obtain ⟨nn, hnn⟩ : ∃ nn, TrD.lastN to = nn := ⟨_, rfl⟩
  rw [hnn] at HX
  have HNM := Lib.hid (fun w => rname_any nn w)
  have HUN := Lib.hid (fun w (L' : List Asrt) (h : Sat W w (L' ++ L)) => runder_any h to l _ _ c' c (fun w h => hr' w L' h) (fun w h => hr w L' h) hl' hl)
  have HWK := Lib.hid (fun w (h : Sat W w (IsW p T :: L)) => rwalk_any h hT l _ c hr hl)
  have HPT0 := Lib.hid (fun w (h : Sat W w (IsW p T :: L)) => rparent_any h hT to _ c' hr' hl' h1)
  have HPL0 := Lib.hid (fun w (h : Sat W w (IsW p T :: L)) => rparent_any h hT l _ c hr hl h0)
  rw [hnn] at h2
  obtain ⟨f, hff⟩ : ∃ f, T.pD l = f := ⟨_, rfl⟩
  obtain ⟨o, hoo⟩ : ∃ o, TrD.lastN l = o := ⟨_, rfl⟩
  rw [hoo] at HX2
  have HPL := Lib.hid (fun w (h : Sat W w (IsW p T :: L)) => (show Calls Try.prog 64 #[.pointer (some ⟨p, 0, none⟩), .slice (some ⟨b2, off2, none⟩) l.length c] w fun r w' => r = .returned (.tuple #[.int .i64 (f : Nat), .int .i64 0]) ∧ Sat W w' (IsW p T :: L) from
    (HPL0.out w h).mono fun r w' ⟨dd, h1, h2, h3⟩ => by rw [h2 p3 p4, if_pos p3, if_pos p4, hff] at h1; exact ⟨h1, h3⟩))
  rw [h2] at HNM
  have hnf : ¬ nameOk nn = false := by rw [h2]; decide
  rw [hi, h3] at HWK
  have hpe : T.pE to = if (T.walk 0 to.dropLast).2 = 0 then (if T.kind (T.pD to) = 2 then 0 else 8) else (T.walk 0 to.dropLast).2 := by unfold TrD.pE; rw [if_neg h1, hnn, h2, if_pos rfl]; rfl
  rw [← hpe] at HPT0
  obtain ⟨kk, hkk⟩ : ∃ kk, T.kind i = kk := ⟨_, rfl⟩
  have k5 : (i : Int) < 48 := by omega
  have k7 : (f : Int) < 48 := by rw [← hff]; omega
  have hlp : ¬ (T.kind (T.walk 0 l).1.toNat = 2 ∧ TrD.under to l = true ∧ l.length < to.length) := h4
  rw [hi, Int.toNat_natCast, hkk] at h4
  have HPT := Lib.hid (fun w (h : Sat W w (IsW p T :: L)) => (show Calls Try.prog 64 #[.pointer (some ⟨p, 0, none⟩), .slice (some ⟨b, off, none⟩) to.length c'] w fun r w' => r = .returned (.tuple #[.int .i64 (T.pD to : Nat), .int .i64 0]) ∧ Sat W w' (IsW p T :: L) from
    (HPT0.out w h).mono fun r w' ⟨dd, h1, h2, h3⟩ => by rw [h2 (by rw [hwd]) hkd, h5] at h1; exact ⟨h1, h3⟩))
  obtain ⟨d, hdd⟩ : ∃ d, T.pD to = d := ⟨_, rfl⟩
  have hlen := hT.len _ (hT.dir_mem hd)
  rw [hdd] at hd hlen HPT
  obtain ⟨dl, hdl⟩ : ∃ dl, (T.dir d).length = dl := ⟨_, rfl⟩
  have HDL := Lib.hid hdl
  have HFI := Lib.hid (fun w (L' : List Asrt) ao1 c1 (h : Sat W w L') (hr : ∀ w, Sat W w L' → Rd w (.slice ao1 dl c1) dl 2 ((T.dir d).flatMap ev2)) => (show Calls Try.prog 65 #[.slice ao1 dl c1, sv nn] w fun r w' => r = .returned (.tuple #[.int .i64 ((findE (T.dir d) nn).getD 0), .bool (hasE (T.dir d) nn)]) ∧ Sat W w' L' by
    have := rfind_any h (T.dir d) ao1 c1 nn (by rw [hdl]; exact hr) (by omega)
    rw [hdl] at this; exact this))
  have k6 : (d : Int) < 48 := by omega
  rw [hi] at h6
  have hE : T.rnE l to = 0 := by unfold TrD.rnE; rw [if_neg h01, hnn, if_neg hnf, if_neg (fun e => e h3), if_neg hlp, if_neg (fun e => e h5), ← hnn, h6]; dsimp only; rw [hi, if_pos rfl]
  obtain ⟨hX, hY, hM⟩ := TrD.rn_same (l := l) (to := to) hE hi h6
  rw [hX, hY, hM, hE]
  have HTO := Lib.hid (fun w v (L' : List Asrt) (h : Sat W w (IsW p T :: Ir v [] :: L')) => rtouch_any h (by simp))
  rw [hdd, hnn] at h6
  have hh : hasE (T.dir d) nn = true := by rw [← findE_some, h6]; rfl
  rw [h6, hh] at HFI
  have hvar : (kk == 2) = false ∨ ((kk == 2) = true ∧ TrD.under to l = false) ∨ ((kk == 2) = true ∧ TrD.under to l = true ∧ decide ((l.length : Int) < (to.length : Int)) = false ∧ decide (l.length < to.length) = false) := by
    by_cases e : kk = 2
    · refine .inr ?_
      cases hu : TrD.under to l with
      | false => exact .inl ⟨by rw [e]; rfl, rfl⟩
      | true =>
        have h9 : ¬ l.length < to.length := fun h9 => h4 ⟨e, hu, h9⟩
        exact .inr ⟨by rw [e]; rfl, rfl, decide_eq_false (by omega), decide_eq_false h9⟩
    · exact .inl (beq_eq_false_iff_ne.2 e)
  clear hX hY hM hE hr hr' h0 h1 h2 h01 hnf hnn h3 hi h4 hlp h5 p1 p2 p3 p4 p5 p6 HPL0 HPT0 hff hoo hpe h6 hh hdd hdl hkd hwd hlen
  rcases hvar with q1 | ⟨q1, hu⟩ | ⟨q1, hu, q3, q4⟩
  · go_enter Try.func45, Try.ntmps45
    go_wp2_with (first
      | (refine toList (by rfl) ?_; refine wp_of_reads (rLdRd (f := sv1) (x := nn) (u := .string ⟨nn.toArray⟩) (HR.out _ [_] hS) (sv1_len to) _ _ (by rfl) _ (by rfl) (agOf (by rfl)) m 0 (by omega) HX.out (by rfl) (by omega)) ?_)
              | (go_at_call 63; refine (HNM.out _).mono ?_; rintro r w1 ⟨rfl, rfl⟩)
      | (go_at_call 47; refine (HWK.out _ hS).mono ?_; rintro r w1 ⟨rfl, hS1⟩; clear hS; have hS := hS1; clear hS1; obtain ⟨v, vt, hO⟩ := IsW.open hS; clear hS; have hS := hO; clear hO)
              | (refine toList (by rfl) ?_; refine ld hS _ _ (by rfl) _ _ (by rfl) (agOf (by rfl)) Has.z (wl_ku (z := kk) hi48 (by omega) hkk) ?_)
              | (go_at_call 69; refine (HUN.out _ [_, _, _] hS).mono ?_; rintro r w1 ⟨rfl, hS1⟩; clear hS; have hS := (show Sat W w1 (_ :: _ :: _ :: L) from hS1); clear hS1)
      | (go_at_call 64; refine (HPT.out _ (IsW.mk hS)).mono ?_; rintro r w1 ⟨rfl, hS1⟩; clear hS; have hS := hS1; clear hS1; obtain ⟨v, vt, hO⟩ := IsW.open hS; clear hS; have hS := hO; clear hO)
              | (go_at_call 64; refine (HPL.out _ (IsW.mk hS)).mono ?_; rintro r w1 ⟨rfl, hS1⟩; clear hS; have hS := hS1; clear hS1; obtain ⟨v, vt, hO⟩ := IsW.open hS; clear hS; have hS := hO; clear hO; obtain ⟨ao1, c1, hv, _⟩ := rws_shape hS (k := 1) rfl hd; rw [HDL.out] at hv)
              | (refine toList (by rfl) ?_; refine wp_of_reads (rLdRd (f := sv1) (x := nn) (u := .string ⟨nn.toArray⟩) (HR.out _ [_, _, _] hS) (sv1_len to) _ _ (by rfl) _ (by rfl) (agOf (by rfl)) m 0 (by omega) HX.out (by rfl) (by omega)) ?_)
              | (refine toList (by rfl) ?_; refine ld hS _ _ (by rfl) _ _ (by rfl) (agOf (by rfl)) Has.z (wl_vu (u := .slice ao1 dl c1) hd (by omega) hv) ?_)
              | (go_at_call 65; refine (HFI.out _ _ ao1 c1 hS (fun w h => by rw [← hv]; have := rws_rd h (k := 1) rfl hd; rw [HDL.out] at this; exact this)).mono ?_; rintro r w1 ⟨rfl, hS1⟩; clear hS; have hS := hS1; clear hS1)
      | (go_at_call 67; refine (HTO.out _ _ _ (irNil' (IsW.mk hS)).pull1).mono ?_; rintro r w1 ⟨rfl, hS1⟩; clear hS; have hS := hS1; clear hS1))
    go_ret3
    exact ⟨rfl, hS⟩
  · rw [hu] at HUN
    go_enter Try.func45, Try.ntmps45
    go_wp2_with (first
      | (refine toList (by rfl) ?_; refine wp_of_reads (rLdRd (f := sv1) (x := nn) (u := .string ⟨nn.toArray⟩) (HR.out _ [_] hS) (sv1_len to) _ _ (by rfl) _ (by rfl) (agOf (by rfl)) m 0 (by omega) HX.out (by rfl) (by omega)) ?_)
              | (go_at_call 63; refine (HNM.out _).mono ?_; rintro r w1 ⟨rfl, rfl⟩)
      | (go_at_call 47; refine (HWK.out _ hS).mono ?_; rintro r w1 ⟨rfl, hS1⟩; clear hS; have hS := hS1; clear hS1; obtain ⟨v, vt, hO⟩ := IsW.open hS; clear hS; have hS := hO; clear hO)
              | (refine toList (by rfl) ?_; refine ld hS _ _ (by rfl) _ _ (by rfl) (agOf (by rfl)) Has.z (wl_ku (z := kk) hi48 (by omega) hkk) ?_)
              | (go_at_call 69; refine (HUN.out _ [_, _, _] hS).mono ?_; rintro r w1 ⟨rfl, hS1⟩; clear hS; have hS := (show Sat W w1 (_ :: _ :: _ :: L) from hS1); clear hS1)
      | (go_at_call 64; refine (HPT.out _ (IsW.mk hS)).mono ?_; rintro r w1 ⟨rfl, hS1⟩; clear hS; have hS := hS1; clear hS1; obtain ⟨v, vt, hO⟩ := IsW.open hS; clear hS; have hS := hO; clear hO)
              | (go_at_call 64; refine (HPL.out _ (IsW.mk hS)).mono ?_; rintro r w1 ⟨rfl, hS1⟩; clear hS; have hS := hS1; clear hS1; obtain ⟨v, vt, hO⟩ := IsW.open hS; clear hS; have hS := hO; clear hO; obtain ⟨ao1, c1, hv, _⟩ := rws_shape hS (k := 1) rfl hd; rw [HDL.out] at hv)
              | (refine toList (by rfl) ?_; refine wp_of_reads (rLdRd (f := sv1) (x := nn) (u := .string ⟨nn.toArray⟩) (HR.out _ [_, _, _] hS) (sv1_len to) _ _ (by rfl) _ (by rfl) (agOf (by rfl)) m 0 (by omega) HX.out (by rfl) (by omega)) ?_)
              | (refine toList (by rfl) ?_; refine ld hS _ _ (by rfl) _ _ (by rfl) (agOf (by rfl)) Has.z (wl_vu (u := .slice ao1 dl c1) hd (by omega) hv) ?_)
              | (go_at_call 65; refine (HFI.out _ _ ao1 c1 hS (fun w h => by rw [← hv]; have := rws_rd h (k := 1) rfl hd; rw [HDL.out] at this; exact this)).mono ?_; rintro r w1 ⟨rfl, hS1⟩; clear hS; have hS := hS1; clear hS1)
      | (go_at_call 67; refine (HTO.out _ _ _ (irNil' (IsW.mk hS)).pull1).mono ?_; rintro r w1 ⟨rfl, hS1⟩; clear hS; have hS := hS1; clear hS1))
    go_ret3
    exact ⟨rfl, hS⟩
  · rw [hu] at HUN
    go_enter Try.func45, Try.ntmps45
    go_wp2_with (first
      | (refine toList (by rfl) ?_; refine wp_of_reads (rLdRd (f := sv1) (x := nn) (u := .string ⟨nn.toArray⟩) (HR.out _ [_] hS) (sv1_len to) _ _ (by rfl) _ (by rfl) (agOf (by rfl)) m 0 (by omega) HX.out (by rfl) (by omega)) ?_)
              | (go_at_call 63; refine (HNM.out _).mono ?_; rintro r w1 ⟨rfl, rfl⟩)
      | (go_at_call 47; refine (HWK.out _ hS).mono ?_; rintro r w1 ⟨rfl, hS1⟩; clear hS; have hS := hS1; clear hS1; obtain ⟨v, vt, hO⟩ := IsW.open hS; clear hS; have hS := hO; clear hO)
              | (refine toList (by rfl) ?_; refine ld hS _ _ (by rfl) _ _ (by rfl) (agOf (by rfl)) Has.z (wl_ku (z := kk) hi48 (by omega) hkk) ?_)
              | (go_at_call 69; refine (HUN.out _ [_, _, _] hS).mono ?_; rintro r w1 ⟨rfl, hS1⟩; clear hS; have hS := (show Sat W w1 (_ :: _ :: _ :: L) from hS1); clear hS1)
      | (go_at_call 64; refine (HPT.out _ (IsW.mk hS)).mono ?_; rintro r w1 ⟨rfl, hS1⟩; clear hS; have hS := hS1; clear hS1; obtain ⟨v, vt, hO⟩ := IsW.open hS; clear hS; have hS := hO; clear hO)
              | (go_at_call 64; refine (HPL.out _ (IsW.mk hS)).mono ?_; rintro r w1 ⟨rfl, hS1⟩; clear hS; have hS := hS1; clear hS1; obtain ⟨v, vt, hO⟩ := IsW.open hS; clear hS; have hS := hO; clear hO; obtain ⟨ao1, c1, hv, _⟩ := rws_shape hS (k := 1) rfl hd; rw [HDL.out] at hv)
              | (refine toList (by rfl) ?_; refine wp_of_reads (rLdRd (f := sv1) (x := nn) (u := .string ⟨nn.toArray⟩) (HR.out _ [_, _, _] hS) (sv1_len to) _ _ (by rfl) _ (by rfl) (agOf (by rfl)) m 0 (by omega) HX.out (by rfl) (by omega)) ?_)
              | (refine toList (by rfl) ?_; refine ld hS _ _ (by rfl) _ _ (by rfl) (agOf (by rfl)) Has.z (wl_vu (u := .slice ao1 dl c1) hd (by omega) hv) ?_)
              | (go_at_call 65; refine (HFI.out _ _ ao1 c1 hS (fun w h => by rw [← hv]; have := rws_rd h (k := 1) rfl hd; rw [HDL.out] at this; exact this)).mono ?_; rintro r w1 ⟨rfl, hS1⟩; clear hS; have hS := hS1; clear hS1)
      | (go_at_call 67; refine (HTO.out _ _ _ (irNil' (IsW.mk hS)).pull1).mono ?_; rintro r w1 ⟨rfl, hS1⟩; clear hS; have hS := hS1; clear hS1))
    go_ret3
    exact ⟨rfl, hS⟩
set_option maxRecDepth 20000 in
set_option maxHeartbeats 2000000 in
theorem rren_over_err {W w : World} {L : List Asrt} {p : Nat} {T : TrD} (hS : Sat W w (IsW p T :: L)) (hT : T.Ok) (l to : List (List UInt8)) (ao ao' : Option Addr) (c c' : Nat) (hr : ∀ w L', Sat W w (L' ++ L) → Rd w (.slice ao l.length c) l.length 1 (l.flatMap sv1)) (hl : l.length ≤ 1000000) (hr' : ∀ w L', Sat W w (L' ++ L) → Rd w (.slice ao' to.length c') to.length 1 (to.flatMap sv1)) (hl' : to.length ≤ 1000000) (h0 : l ≠ []) (h1 : to ≠ []) (h2 : nameOk (TrD.lastN to) = true) (h3 : (T.walk 0 l).2 = 0) (h4 : ¬ (T.kind (T.walk 0 l).1.toNat = 2 ∧ TrD.under to l = true ∧ l.length < to.length)) (hne : ¬ (to = l)) (h5 : T.pE to = 0) {y : Nat} (h6 : findE (T.dir (T.pD to)) (TrD.lastN to) = some (y : Int)) (h7 : (T.walk 0 l).1 ≠ y) (h8 : ¬ ((T.kind y = 2 ↔ T.kind (T.walk 0 l).1.toNat = 2) ∧ T.dir y = [])) : Calls Try.prog 45 #[.pointer (some ⟨p, 0, none⟩), .slice ao l.length c, .slice ao' to.length c'] w fun r w' => r = .returned (.tuple #[.int .i64 (T.rnX l to : Nat), .int .i64 (T.rnY l to : Nat), .int .i64 (T.rnE l to)]) ∧ Sat W w' (IsW p (T.rn l to) :: L) := by
  obtain ⟨_, _, hd, hkd, hwd⟩ := hT.pE_zero h5
  obtain ⟨i, hi, hi48⟩ := hT.walk_lt l 0 (by omega)
  obtain ⟨p1, p2, p3, p4, p5, p6⟩ := hT.parent h0 h3
  rw [hi] at p5
  have h01 : ¬ (l = [] ∨ to = []) := fun e => e.elim h0 h1
  obtain ⟨_, _, he, hc1, hc2, _, h5⟩ := hr' w [_] hS
  simp only [Value.slice.injEq, true_and] at he
  obtain ⟨rfl, rfl⟩ := he
  obtain ⟨b, off, rfl, _⟩ := h5 (List.length_pos_iff.2 h1)
  clear h5
  obtain ⟨_, _, he, hd1, hd2, _, h5⟩ := hr w [_] hS
  simp only [Value.slice.injEq, true_and] at he
  obtain ⟨rfl, rfl⟩ := he
  obtain ⟨b2, off2, rfl, _⟩ := h5 (List.length_pos_iff.2 h0)
  clear h5
  obtain ⟨m, hm⟩ : ∃ m, to.length = m + 1 := ⟨to.length - 1, by have := List.length_pos_iff.2 h1; omega⟩
  obtain ⟨m2, hm2⟩ : ∃ m, l.length = m + 1 := ⟨l.length - 1, by have := List.length_pos_iff.2 h0; omega⟩
  have HX := Lib.hid (last_at hm).1
  have HX2 := Lib.hid (last_at hm2).1
  have HR := Lib.hid (fun w (L' : List Asrt) (h : Sat W w (L' ++ L)) => hr' w L' h)
  have HR2 := Lib.hid (fun w (L' : List Asrt) (h : Sat W w (L' ++ L)) => hr w L' h)
  have e0 : ((l.length : Int) == 0) = false := beq_eq_false_iff_ne.2 (by omega)
  have e0' : ((to.length : Int) == 0) = false := beq_eq_false_iff_ne.2 (by omega)
  have hsub : (to.length : Int) - 1 = (m : Int) := by omega
  have hsub2 : (l.length : Int) - 1 = (m2 : Int) := by omega
  have k1 : (m : Int) < (to.length : Int) := by omega
  have k2 : m < to.length := by omega
  have k3 : (1 : Int) ≤ (to.length : Int) := by omega
  have k4 : (to.length : Int) ≤ 1000000 := by omega
  have j1 : (m2 : Int) < (l.length : Int) := by omega
  have j2 : m2 < l.length := by omega
  have j3 : (1 : Int) ≤ (l.length : Int) := by omega
  have k4' : (l.length : Int) ≤ 1000000 := by omega
  clear hm hm2
  obtain ⟨nn, hnn⟩ : ∃ nn, TrD.lastN to = nn := ⟨_, rfl⟩
  rw [hnn] at HX
  have HNM := Lib.hid (fun w => rname_any nn w)
  have HUN := Lib.hid (fun w (L' : List Asrt) (h : Sat W w (L' ++ L)) => runder_any h to l _ _ c' c (fun w h => hr' w L' h) (fun w h => hr w L' h) hl' hl)
  have HWK := Lib.hid (fun w (h : Sat W w (IsW p T :: L)) => rwalk_any h hT l _ c hr hl)
  have HPT0 := Lib.hid (fun w (h : Sat W w (IsW p T :: L)) => rparent_any h hT to _ c' hr' hl' h1)
  have HPL0 := Lib.hid (fun w (h : Sat W w (IsW p T :: L)) => rparent_any h hT l _ c hr hl h0)
  rw [hnn] at h2
  obtain ⟨f, hff⟩ : ∃ f, T.pD l = f := ⟨_, rfl⟩
  obtain ⟨o, hoo⟩ : ∃ o, TrD.lastN l = o := ⟨_, rfl⟩
  rw [hoo] at HX2
  have HPL := Lib.hid (fun w (h : Sat W w (IsW p T :: L)) => (show Calls Try.prog 64 #[.pointer (some ⟨p, 0, none⟩), .slice (some ⟨b2, off2, none⟩) l.length c] w fun r w' => r = .returned (.tuple #[.int .i64 (f : Nat), .int .i64 0]) ∧ Sat W w' (IsW p T :: L) from
    (HPL0.out w h).mono fun r w' ⟨dd, h1, h2, h3⟩ => by rw [h2 p3 p4, if_pos p3, if_pos p4, hff] at h1; exact ⟨h1, h3⟩))
  rw [h2] at HNM
  have hnf : ¬ nameOk nn = false := by rw [h2]; decide
  rw [hi, h3] at HWK
  have hpe : T.pE to = if (T.walk 0 to.dropLast).2 = 0 then (if T.kind (T.pD to) = 2 then 0 else 8) else (T.walk 0 to.dropLast).2 := by unfold TrD.pE; rw [if_neg h1, hnn, h2, if_pos rfl]; rfl
  rw [← hpe] at HPT0
  obtain ⟨kk, hkk⟩ : ∃ kk, T.kind i = kk := ⟨_, rfl⟩
  have k5 : (i : Int) < 48 := by omega
  have k7 : (f : Int) < 48 := by rw [← hff]; omega
  have hlp : ¬ (T.kind (T.walk 0 l).1.toNat = 2 ∧ TrD.under to l = true ∧ l.length < to.length) := h4
  rw [hi, Int.toNat_natCast, hkk] at h4
  have HPT := Lib.hid (fun w (h : Sat W w (IsW p T :: L)) => (show Calls Try.prog 64 #[.pointer (some ⟨p, 0, none⟩), .slice (some ⟨b, off, none⟩) to.length c'] w fun r w' => r = .returned (.tuple #[.int .i64 (T.pD to : Nat), .int .i64 0]) ∧ Sat W w' (IsW p T :: L) from
    (HPT0.out w h).mono fun r w' ⟨dd, h1, h2, h3⟩ => by rw [h2 (by rw [hwd]) hkd, h5] at h1; exact ⟨h1, h3⟩))
  obtain ⟨d, hdd⟩ : ∃ d, T.pD to = d := ⟨_, rfl⟩
  have hlen := hT.len _ (hT.dir_mem hd)
  rw [hdd] at hd hlen HPT
  obtain ⟨dl, hdl⟩ : ∃ dl, (T.dir d).length = dl := ⟨_, rfl⟩
  have HDL := Lib.hid hdl
  have HFI := Lib.hid (fun w (L' : List Asrt) ao1 c1 (h : Sat W w L') (hr : ∀ w, Sat W w L' → Rd w (.slice ao1 dl c1) dl 2 ((T.dir d).flatMap ev2)) => (show Calls Try.prog 65 #[.slice ao1 dl c1, sv nn] w fun r w' => r = .returned (.tuple #[.int .i64 ((findE (T.dir d) nn).getD 0), .bool (hasE (T.dir d) nn)]) ∧ Sat W w' L' by
    have := rfind_any h (T.dir d) ao1 c1 nn (by rw [hdl]; exact hr) (by omega)
    rw [hdl] at this; exact this))
  have k6 : (d : Int) < 48 := by omega
  have hvar : (kk == 2) = false ∨ ((kk == 2) = true ∧ TrD.under to l = false) := by
    by_cases e : kk = 2
    · refine .inr ⟨by rw [e]; rfl, ?_⟩
      cases hu : TrD.under to l with
      | false => rfl
      | true =>
        exfalso
        have h9 : ¬ l.length < to.length := fun h9 => h4 ⟨e, hu, h9⟩
        unfold TrD.under at hu
        simp only [Bool.and_eq_true, decide_eq_true_eq] at hu
        rw [List.take_of_length_le (by omega)] at hu
        exact hne hu.2
    · exact .inl (beq_eq_false_iff_ne.2 e)
  rw [hi] at h7
  have e7 : ((i : Int) == (y : Int)) = false := beq_eq_false_iff_ne.2 h7
  have e7' : (i == y) = false := beq_eq_false_iff_ne.2 (by omega)
  have hE0 : T.rnE l to = if T.kind y = 2 ∧ T.kind i ≠ 2 then 7 else if T.kind i = 2 ∧ T.kind y ≠ 2 then 8 else if 0 < (T.dir y).length then 9 else 0 := by
    unfold TrD.rnE; rw [if_neg h01, hnn, if_neg hnf, if_neg (fun e => e h3), if_neg hlp, if_neg (fun e => e h5), ← hnn, h6]; dsimp only; rw [hi, if_neg h7, Int.toNat_natCast, Int.toNat_natCast]
  rw [hi, Int.toNat_natCast] at h8
  obtain ⟨_, y1, y2⟩ := hT.find_ino (i := T.pD to) (by rw [hdd]; exact hd) h6
  have hy48 : y < 48 := by omega
  have k8 : (y : Int) < 48 := by omega
  rw [hdd, hnn] at h6
  have hh : hasE (T.dir d) nn = true := by rw [← findE_some, h6]; rfl
  rw [h6, hh] at HFI
  obtain ⟨ky, hky⟩ : ∃ ky, T.kind y = ky := ⟨_, rfl⟩
  obtain ⟨yl, hyl⟩ : ∃ yl, (T.dir y).length = yl := ⟨_, rfl⟩
  have HYL := Lib.hid hyl
  rw [hkk, hky] at h8
  rw [hkk, hky, hyl] at hE0
  have h81 : (ky = 2 ↔ kk = 2) → 0 < yl := fun e => by
    rcases Nat.eq_zero_or_pos yl with h9 | h9
    · exact absurd ⟨e, List.eq_nil_of_length_eq_zero (hyl.trans h9)⟩ h8
    · exact h9
  have hEn : T.rnE l to ≠ 0 := by
    rw [hE0]
    split
    · decide
    · split
      · decide
      · rename_i a1 a2
        rw [if_pos (h81 ⟨fun e => by
          by_cases e2 : kk = 2
          · exact e2
          · exact absurd ⟨e, e2⟩ a1, fun e => by
          by_cases e2 : ky = 2
          · exact e2
          · exact absurd ⟨e, e2⟩ a2⟩)]
        decide
  obtain ⟨hX, hY, hM⟩ := rn_err (l := l) (to := to) hEn
  rw [hX, hY, hM, hE0]
  by_cases a1 : kk = 2
  · obtain ⟨q1, hu⟩ : (kk == 2) = true ∧ TrD.under to l = false := by
      rcases hvar with hv | hv
      · rw [a1] at hv; cases hv
      · exact hv
    rw [hu] at HUN
    have q1' : (kk != 2) = false := by rw [a1]; rfl
    by_cases a2 : ky = 2
    · have q2 : (ky == 2) = true := by rw [a2]; rfl
      have q2' : (ky != 2) = false := by rw [a2]; rfl
      have hpos := h81 ⟨fun _ => a1, fun _ => a2⟩
      have q3 : decide ((0 : Int) < (yl : Int)) = true := decide_eq_true (by omega)
      have q4 : decide (0 < yl) = true := decide_eq_true hpos
      rw [if_neg (fun e => e.2 a1), if_neg (fun e => e.2 a2), if_pos hpos]
      clear hX hY hM hE0 hEn hr hr' h0 h1 h2 h01 hnf hnn h3 hi h4 hlp h5 p1 p2 p3 p4 p5 p6 HPL0 HPT0 hff hoo hpe hne h6 h7 h8 h81 hh hdd hdl hkd hwd hlen hvar hyl a1 a2
      go_enter Try.func45, Try.ntmps45
      go_wp2_with (first
        | (refine toList (by rfl) ?_; refine wp_of_reads (rLdRd (f := sv1) (x := nn) (u := .string ⟨nn.toArray⟩) (HR.out _ [_] hS) (sv1_len to) _ _ (by rfl) _ (by rfl) (agOf (by rfl)) m 0 (by omega) HX.out (by rfl) (by omega)) ?_)
                | (go_at_call 63; refine (HNM.out _).mono ?_; rintro r w1 ⟨rfl, rfl⟩)
        | (go_at_call 47; refine (HWK.out _ hS).mono ?_; rintro r w1 ⟨rfl, hS1⟩; clear hS; have hS := hS1; clear hS1; obtain ⟨v, vt, hO⟩ := IsW.open hS; clear hS; have hS := hO; clear hO)
                | (refine toList (by rfl) ?_; refine ld hS _ _ (by rfl) _ _ (by rfl) (agOf (by rfl)) Has.z (wl_ku (z := kk) hi48 (by omega) hkk) ?_)
                | (go_at_call 69; refine (HUN.out _ [_, _, _] hS).mono ?_; rintro r w1 ⟨rfl, hS1⟩; clear hS; have hS := (show Sat W w1 (_ :: _ :: _ :: L) from hS1); clear hS1)
        | (go_at_call 64; refine (HPT.out _ (IsW.mk hS)).mono ?_; rintro r w1 ⟨rfl, hS1⟩; clear hS; have hS := hS1; clear hS1; obtain ⟨v, vt, hO⟩ := IsW.open hS; clear hS; have hS := hO; clear hO)
                | (go_at_call 64; refine (HPL.out _ (IsW.mk hS)).mono ?_; rintro r w1 ⟨rfl, hS1⟩; clear hS; have hS := hS1; clear hS1; obtain ⟨v, vt, hO⟩ := IsW.open hS; clear hS; have hS := hO; clear hO; obtain ⟨ao1, c1, hv, _⟩ := rws_shape hS (k := 1) rfl hd; rw [HDL.out] at hv; obtain ⟨ao3, c3, hv3, _⟩ := rws_shape hS (k := 1) rfl hy48; rw [HYL.out] at hv3)
                | (refine toList (by rfl) ?_; refine wp_of_reads (rLdRd (f := sv1) (x := nn) (u := .string ⟨nn.toArray⟩) (HR.out _ [_, _, _] hS) (sv1_len to) _ _ (by rfl) _ (by rfl) (agOf (by rfl)) m 0 (by omega) HX.out (by rfl) (by omega)) ?_)
                | (refine toList (by rfl) ?_; refine ld hS _ _ (by rfl) _ _ (by rfl) (agOf (by rfl)) Has.z (wl_vu (u := .slice ao1 dl c1) hd (by omega) hv) ?_)
                | (go_at_call 65; refine (HFI.out _ _ ao1 c1 hS (fun w h => by rw [← hv]; have := rws_rd h (k := 1) rfl hd; rw [HDL.out] at this; exact this)).mono ?_; rintro r w1 ⟨rfl, hS1⟩; clear hS; have hS := hS1; clear hS1)
        | (refine toList (by rfl) ?_; refine ld hS _ _ (by rfl) _ _ (by rfl) (agOf (by rfl)) Has.z (wl_vu (u := .slice ao3 yl c3) hy48 (by omega) hv3) ?_)
        | (refine toList (by rfl) ?_; refine ld hS _ _ (by rfl) _ _ (by rfl) (agOf (by rfl)) Has.z (wl_ku (z := ky) hy48 (by omega) hky) ?_))
      go_ret3
      exact ⟨rfl, IsW.mk hS⟩
    · have q2 : (ky == 2) = false := beq_eq_false_iff_ne.2 a2
      have q2' : (ky != 2) = true := bne_iff_ne.2 a2
      rw [if_neg (fun e => a2 e.1), if_pos ⟨a1, a2⟩]
      clear hX hY hM hE0 hEn hr hr' h0 h1 h2 h01 hnf hnn h3 hi h4 hlp h5 p1 p2 p3 p4 p5 p6 HPL0 HPT0 hff hoo hpe hne h6 h7 h8 h81 hh hdd hdl hkd hwd hlen hvar hyl a1 a2
      go_enter Try.func45, Try.ntmps45
      go_wp2_with (first
        | (refine toList (by rfl) ?_; refine wp_of_reads (rLdRd (f := sv1) (x := nn) (u := .string ⟨nn.toArray⟩) (HR.out _ [_] hS) (sv1_len to) _ _ (by rfl) _ (by rfl) (agOf (by rfl)) m 0 (by omega) HX.out (by rfl) (by omega)) ?_)
                | (go_at_call 63; refine (HNM.out _).mono ?_; rintro r w1 ⟨rfl, rfl⟩)
        | (go_at_call 47; refine (HWK.out _ hS).mono ?_; rintro r w1 ⟨rfl, hS1⟩; clear hS; have hS := hS1; clear hS1; obtain ⟨v, vt, hO⟩ := IsW.open hS; clear hS; have hS := hO; clear hO)
                | (refine toList (by rfl) ?_; refine ld hS _ _ (by rfl) _ _ (by rfl) (agOf (by rfl)) Has.z (wl_ku (z := kk) hi48 (by omega) hkk) ?_)
                | (go_at_call 69; refine (HUN.out _ [_, _, _] hS).mono ?_; rintro r w1 ⟨rfl, hS1⟩; clear hS; have hS := (show Sat W w1 (_ :: _ :: _ :: L) from hS1); clear hS1)
        | (go_at_call 64; refine (HPT.out _ (IsW.mk hS)).mono ?_; rintro r w1 ⟨rfl, hS1⟩; clear hS; have hS := hS1; clear hS1; obtain ⟨v, vt, hO⟩ := IsW.open hS; clear hS; have hS := hO; clear hO)
                | (go_at_call 64; refine (HPL.out _ (IsW.mk hS)).mono ?_; rintro r w1 ⟨rfl, hS1⟩; clear hS; have hS := hS1; clear hS1; obtain ⟨v, vt, hO⟩ := IsW.open hS; clear hS; have hS := hO; clear hO; obtain ⟨ao1, c1, hv, _⟩ := rws_shape hS (k := 1) rfl hd; rw [HDL.out] at hv; obtain ⟨ao3, c3, hv3, _⟩ := rws_shape hS (k := 1) rfl hy48; rw [HYL.out] at hv3)
                | (refine toList (by rfl) ?_; refine wp_of_reads (rLdRd (f := sv1) (x := nn) (u := .string ⟨nn.toArray⟩) (HR.out _ [_, _, _] hS) (sv1_len to) _ _ (by rfl) _ (by rfl) (agOf (by rfl)) m 0 (by omega) HX.out (by rfl) (by omega)) ?_)
                | (refine toList (by rfl) ?_; refine ld hS _ _ (by rfl) _ _ (by rfl) (agOf (by rfl)) Has.z (wl_vu (u := .slice ao1 dl c1) hd (by omega) hv) ?_)
                | (go_at_call 65; refine (HFI.out _ _ ao1 c1 hS (fun w h => by rw [← hv]; have := rws_rd h (k := 1) rfl hd; rw [HDL.out] at this; exact this)).mono ?_; rintro r w1 ⟨rfl, hS1⟩; clear hS; have hS := hS1; clear hS1)
        | (refine toList (by rfl) ?_; refine ld hS _ _ (by rfl) _ _ (by rfl) (agOf (by rfl)) Has.z (wl_vu (u := .slice ao3 yl c3) hy48 (by omega) hv3) ?_)
        | (refine toList (by rfl) ?_; refine ld hS _ _ (by rfl) _ _ (by rfl) (agOf (by rfl)) Has.z (wl_ku (z := ky) hy48 (by omega) hky) ?_))
      go_ret3
      exact ⟨rfl, IsW.mk hS⟩
  · have q1 : (kk == 2) = false := beq_eq_false_iff_ne.2 a1
    have q1' : (kk != 2) = true := bne_iff_ne.2 a1
    by_cases a2 : ky = 2
    · have q2 : (ky == 2) = true := by rw [a2]; rfl
      rw [if_pos ⟨a2, a1⟩]
      clear hX hY hM hE0 hEn hr hr' h0 h1 h2 h01 hnf hnn h3 hi h4 hlp h5 p1 p2 p3 p4 p5 p6 HPL0 HPT0 hff hoo hpe hne h6 h7 h8 h81 hh hdd hdl hkd hwd hlen hvar hyl a1 a2
      go_enter Try.func45, Try.ntmps45
      go_wp2_with (first
        | (refine toList (by rfl) ?_; refine wp_of_reads (rLdRd (f := sv1) (x := nn) (u := .string ⟨nn.toArray⟩) (HR.out _ [_] hS) (sv1_len to) _ _ (by rfl) _ (by rfl) (agOf (by rfl)) m 0 (by omega) HX.out (by rfl) (by omega)) ?_)
                | (go_at_call 63; refine (HNM.out _).mono ?_; rintro r w1 ⟨rfl, rfl⟩)
        | (go_at_call 47; refine (HWK.out _ hS).mono ?_; rintro r w1 ⟨rfl, hS1⟩; clear hS; have hS := hS1; clear hS1; obtain ⟨v, vt, hO⟩ := IsW.open hS; clear hS; have hS := hO; clear hO)
                | (refine toList (by rfl) ?_; refine ld hS _ _ (by rfl) _ _ (by rfl) (agOf (by rfl)) Has.z (wl_ku (z := kk) hi48 (by omega) hkk) ?_)
                | (go_at_call 69; refine (HUN.out _ [_, _, _] hS).mono ?_; rintro r w1 ⟨rfl, hS1⟩; clear hS; have hS := (show Sat W w1 (_ :: _ :: _ :: L) from hS1); clear hS1)
        | (go_at_call 64; refine (HPT.out _ (IsW.mk hS)).mono ?_; rintro r w1 ⟨rfl, hS1⟩; clear hS; have hS := hS1; clear hS1; obtain ⟨v, vt, hO⟩ := IsW.open hS; clear hS; have hS := hO; clear hO)
                | (go_at_call 64; refine (HPL.out _ (IsW.mk hS)).mono ?_; rintro r w1 ⟨rfl, hS1⟩; clear hS; have hS := hS1; clear hS1; obtain ⟨v, vt, hO⟩ := IsW.open hS; clear hS; have hS := hO; clear hO; obtain ⟨ao1, c1, hv, _⟩ := rws_shape hS (k := 1) rfl hd; rw [HDL.out] at hv; obtain ⟨ao3, c3, hv3, _⟩ := rws_shape hS (k := 1) rfl hy48; rw [HYL.out] at hv3)
                | (refine toList (by rfl) ?_; refine wp_of_reads (rLdRd (f := sv1) (x := nn) (u := .string ⟨nn.toArray⟩) (HR.out _ [_, _, _] hS) (sv1_len to) _ _ (by rfl) _ (by rfl) (agOf (by rfl)) m 0 (by omega) HX.out (by rfl) (by omega)) ?_)
                | (refine toList (by rfl) ?_; refine ld hS _ _ (by rfl) _ _ (by rfl) (agOf (by rfl)) Has.z (wl_vu (u := .slice ao1 dl c1) hd (by omega) hv) ?_)
                | (go_at_call 65; refine (HFI.out _ _ ao1 c1 hS (fun w h => by rw [← hv]; have := rws_rd h (k := 1) rfl hd; rw [HDL.out] at this; exact this)).mono ?_; rintro r w1 ⟨rfl, hS1⟩; clear hS; have hS := hS1; clear hS1)
        | (refine toList (by rfl) ?_; refine ld hS _ _ (by rfl) _ _ (by rfl) (agOf (by rfl)) Has.z (wl_vu (u := .slice ao3 yl c3) hy48 (by omega) hv3) ?_)
        | (refine toList (by rfl) ?_; refine ld hS _ _ (by rfl) _ _ (by rfl) (agOf (by rfl)) Has.z (wl_ku (z := ky) hy48 (by omega) hky) ?_))
      go_ret3
      exact ⟨rfl, IsW.mk hS⟩
    · have q2 : (ky == 2) = false := beq_eq_false_iff_ne.2 a2
      have hpos := h81 ⟨fun e => absurd e a2, fun e => absurd e a1⟩
      have q3 : decide ((0 : Int) < (yl : Int)) = true := decide_eq_true (by omega)
      have q4 : decide (0 < yl) = true := decide_eq_true hpos
      rw [if_neg (fun e => a2 e.1), if_neg (fun e => a1 e.1), if_pos hpos]
      clear hX hY hM hE0 hEn hr hr' h0 h1 h2 h01 hnf hnn h3 hi h4 hlp h5 p1 p2 p3 p4 p5 p6 HPL0 HPT0 hff hoo hpe hne h6 h7 h8 h81 hh hdd hdl hkd hwd hlen hvar hyl a1 a2
      go_enter Try.func45, Try.ntmps45
      go_wp2_with (first
        | (refine toList (by rfl) ?_; refine wp_of_reads (rLdRd (f := sv1) (x := nn) (u := .string ⟨nn.toArray⟩) (HR.out _ [_] hS) (sv1_len to) _ _ (by rfl) _ (by rfl) (agOf (by rfl)) m 0 (by omega) HX.out (by rfl) (by omega)) ?_)
                | (go_at_call 63; refine (HNM.out _).mono ?_; rintro r w1 ⟨rfl, rfl⟩)
        | (go_at_call 47; refine (HWK.out _ hS).mono ?_; rintro r w1 ⟨rfl, hS1⟩; clear hS; have hS := hS1; clear hS1; obtain ⟨v, vt, hO⟩ := IsW.open hS; clear hS; have hS := hO; clear hO)
                | (refine toList (by rfl) ?_; refine ld hS _ _ (by rfl) _ _ (by rfl) (agOf (by rfl)) Has.z (wl_ku (z := kk) hi48 (by omega) hkk) ?_)
                | (go_at_call 69; refine (HUN.out _ [_, _, _] hS).mono ?_; rintro r w1 ⟨rfl, hS1⟩; clear hS; have hS := (show Sat W w1 (_ :: _ :: _ :: L) from hS1); clear hS1)
        | (go_at_call 64; refine (HPT.out _ (IsW.mk hS)).mono ?_; rintro r w1 ⟨rfl, hS1⟩; clear hS; have hS := hS1; clear hS1; obtain ⟨v, vt, hO⟩ := IsW.open hS; clear hS; have hS := hO; clear hO)
                | (go_at_call 64; refine (HPL.out _ (IsW.mk hS)).mono ?_; rintro r w1 ⟨rfl, hS1⟩; clear hS; have hS := hS1; clear hS1; obtain ⟨v, vt, hO⟩ := IsW.open hS; clear hS; have hS := hO; clear hO; obtain ⟨ao1, c1, hv, _⟩ := rws_shape hS (k := 1) rfl hd; rw [HDL.out] at hv; obtain ⟨ao3, c3, hv3, _⟩ := rws_shape hS (k := 1) rfl hy48; rw [HYL.out] at hv3)
                | (refine toList (by rfl) ?_; refine wp_of_reads (rLdRd (f := sv1) (x := nn) (u := .string ⟨nn.toArray⟩) (HR.out _ [_, _, _] hS) (sv1_len to) _ _ (by rfl) _ (by rfl) (agOf (by rfl)) m 0 (by omega) HX.out (by rfl) (by omega)) ?_)
                | (refine toList (by rfl) ?_; refine ld hS _ _ (by rfl) _ _ (by rfl) (agOf (by rfl)) Has.z (wl_vu (u := .slice ao1 dl c1) hd (by omega) hv) ?_)
                | (go_at_call 65; refine (HFI.out _ _ ao1 c1 hS (fun w h => by rw [← hv]; have := rws_rd h (k := 1) rfl hd; rw [HDL.out] at this; exact this)).mono ?_; rintro r w1 ⟨rfl, hS1⟩; clear hS; have hS := hS1; clear hS1)
        | (refine toList (by rfl) ?_; refine ld hS _ _ (by rfl) _ _ (by rfl) (agOf (by rfl)) Has.z (wl_vu (u := .slice ao3 yl c3) hy48 (by omega) hv3) ?_)
        | (refine toList (by rfl) ?_; refine ld hS _ _ (by rfl) _ _ (by rfl) (agOf (by rfl)) Has.z (wl_ku (z := ky) hy48 (by omega) hky) ?_))
      go_ret3
      exact ⟨rfl, IsW.mk hS⟩
end Go.Proofs.Ytiieicdhkcikpaa
namespace Go.Proofs.Ytiieicdhkcikpaa
open Go.RowKit Go.Sep
set_option linter.unusedSimpArgs false
set_option linter.unusedVariables false
attribute [local irreducible] Go.Oper.wp Go.wpList Go.Calls Go.Code.wp Go.Sep.Reg
attribute [local irreducible] IsT IsW
/-- The contracts of entries, for a list that is there. -/
theorem rm_yes {T : TrD} (hT : T.Ok) {d z : Nat} {n : List UInt8} (hd : d < 48) (hf : findE (T.dir d) n = some (z : Int)) {W : World} (w : World) (L' : List Asrt) ao1 c1 (h : Sat W w L') (hr : ∀ w, Sat W w L' → Rd w (.slice ao1 (T.dir d).length c1) (T.dir d).length 2 ((T.dir d).flatMap ev2)) :
    Calls Try.prog 68 #[.slice ao1 (T.dir d).length c1, sv n] w fun r w' => ∃ v, r = .returned (.tuple #[v, .int .i64 0]) ∧ Sat W w' (Er v (remE (T.dir d) n) :: L') := by
  have := rremove_any h (T.dir d) ao1 c1 n hr (by have := hT.len _ (hT.dir_mem hd); omega) (hT.srt _ (hT.dir_mem hd))
  rw [(remV_yes hf).1, (remV_yes hf).2] at this
  exact this
theorem ad_yes {T : TrD} (hT : T.Ok) {d i : Nat} {n : List UInt8} (hd : d < 48) (hc : addC (T.dir d) ⟨n, (i : Int)⟩ = 0) {W : World} (w : World) (L' : List Asrt) ao1 c1 (h : Sat W w L') (hr : ∀ w, Sat W w L' → Rd w (.slice ao1 (T.dir d).length c1) (T.dir d).length 2 ((T.dir d).flatMap ev2)) :
    Calls Try.prog 66 #[.slice ao1 (T.dir d).length c1, .agg #[sv n, .int .i64 (i : Int)]] w fun r w' => ∃ v, r = .returned (.tuple #[v, .int .i64 0]) ∧ Sat W w' (Er v (insE (T.dir d) ⟨n, (i : Int)⟩) :: L') := by
  have := radd_any h (T.dir d) ao1 c1 ⟨n, (i : Int)⟩ hr (by have := hT.len _ (hT.dir_mem hd); omega) (hT.srt _ (hT.dir_mem hd))
  have hv : addV (T.dir d) ⟨n, (i : Int)⟩ = insE (T.dir d) ⟨n, (i : Int)⟩ := by unfold addV; rw [if_pos hc]
  rw [hc, hv] at this
  exact this
end Go.Proofs.Ytiieicdhkcikpaa
