/-
  Package tree: Rename, to a name that is there.
-/
import Derived.Test.YtiieicdhkcikpaaMRna
namespace Go.Proofs.Ytiieicdhkcikpaa
open Go.RowKit Go.Sep
set_option linter.unusedSimpArgs false
set_option linter.unusedVariables false
attribute [local irreducible] Go.Oper.wp Go.wpList Go.Calls Go.Code.wp Go.Sep.Reg
attribute [local irreducible] IsT IsW
theorem irNil {W w : World} {L : List Asrt} (h : Sat W w L) : Sat W w (Ir (.slice none 0 0) [] :: L) := by unfold Ir; exact h.slNil
set_option maxRecDepth 20000 in
set_option maxHeartbeats 2000000 in
theorem tren_same {W w : World} {L : List Asrt} {p : Nat} {T : TrD} (hS : Sat W w (IsT p T :: L)) (hT : T.Ok) (l to : List (List UInt8)) (ao ao' : Option Addr) (c c' : Nat) (hr : ∀ w L', Sat W w (L' ++ L) → Rd w (.slice ao l.length c) l.length 1 (l.flatMap sv1)) (hl : l.length ≤ 1000000) (hr' : ∀ w L', Sat W w (L' ++ L) → Rd w (.slice ao' to.length c') to.length 1 (to.flatMap sv1)) (hl' : to.length ≤ 1000000) (h0 : l ≠ []) (h1 : to ≠ []) (h2 : nameOk (TrD.lastN to) = true) (h3 : (T.walk 0 l).2 = 0) (h4 : ¬ (T.kind (T.walk 0 l).1.toNat = 2 ∧ TrD.under to l = true ∧ l.length < to.length)) (h5 : T.pE to = 0) (h6 : findE (T.dir (T.pD to)) (TrD.lastN to) = some (T.walk 0 l).1) : Calls Try.prog 28 #[.pointer (some ⟨p, 0, none⟩), .slice ao l.length c, .slice ao' to.length c'] w fun r w' => r = .returned (.tuple #[.int .i64 (T.rnX l to : Nat), .int .i64 (T.rnY l to : Nat), .int .i64 (T.rnE l to)]) ∧ Sat W w' (IsT p (T.rn l to) :: L) := by
  obtain ⟨_, _, hd, hkd, _⟩ := hT.pE_zero h5
  obtain ⟨i, hi, hi48⟩ := hT.walk_lt l 0 (by omega)
  obtain ⟨p1, p2, _, p4, p5, p6⟩ := hT.parent h0 h3
  rw [hi] at p5
  have h01 : ¬ (l = [] ∨ to = []) := fun e => e.elim h0 h1
  obtain ⟨_, _, he, hc1, hc2, _, h5⟩ := hr' w [_] hS
  simp only [Value.slice.injEq, true_and] at he
  obtain ⟨rfl, rfl⟩ := he
  obtain ⟨b, off, rfl, _⟩ := h5 (List.length_pos_iff.2 h1)
  clear h5
  obtain ⟨m, hm⟩ : ∃ m, to.length = m + 1 := ⟨to.length - 1, by have := List.length_pos_iff.2 h1; omega⟩
  have HX := Lib.hid (last_at hm).1
  have HR := Lib.hid (fun w (h : Sat W w (IsT p T :: L)) => hr' w [_] h)
  have e0 : ((l.length : Int) == 0) = false := beq_eq_false_iff_ne.2 (by have := List.length_pos_iff.2 h0; omega)
  have e0' : ((to.length : Int) == 0) = false := beq_eq_false_iff_ne.2 (by omega)
  have hsub : (to.length : Int) - 1 = (m : Int) := by omega
  have k1 : (m : Int) < (to.length : Int) := by omega
  have k2 : m < to.length := by omega
  have k3 : (1 : Int) ≤ (to.length : Int) := by omega
  have k4 : (to.length : Int) ≤ 1000000 := by omega
  have k4' : (l.length : Int) ≤ 1000000 := by omega
  clear hm
  obtain ⟨nn, hnn⟩ : ∃ nn, TrD.lastN to = nn := ⟨_, rfl⟩
  rw [hnn] at HX
  have HNM := Lib.hid (fun w => name_any nn w)
  rw [hnn] at h2
  have HUN := Lib.hid (fun w (L' : List Asrt) (h : Sat W w (L' ++ L)) => under_any h to l _ ao c' c (fun w h => hr' w L' h) (fun w h => hr w L' h) hl' hl)
  have HWK := Lib.hid (fun w (h : Sat W w (IsT p T :: L)) => twalk_any h hT l ao c hr hl)
  have HPL := Lib.hid (fun w (h : Sat W w (IsT p T :: L)) => tplace_any h hT l ao c hr hl)
  have HPL' := Lib.hid (fun w (h : Sat W w (IsT p T :: L)) => tplace_any h hT to _ c' hr' hl')
  have HT := Lib.hid hT
  obtain ⟨f, hff⟩ : ∃ f, T.pD l = f := ⟨_, rfl⟩
  obtain ⟨o, hoo⟩ : ∃ o, TrD.lastN l = o := ⟨_, rfl⟩
  have HP := Lib.hid (fun w (h : Sat W w (IsT p T :: L)) => (show Calls Try.prog 33 #[.pointer (some ⟨p, 0, none⟩), .slice ao l.length c] w fun r w' => r = .returned (.tuple #[.int .i64 (f : Nat), sv o, .int .i64 0]) ∧ Sat W w' (IsT p T :: L) from
    (HPL.out w h).mono fun r w' ⟨dd, nm, h1, h2, h3⟩ => by obtain ⟨rfl, rfl⟩ := h2 p1; rw [p1, hff, hoo] at h1; exact ⟨h1, h3⟩))
  rw [h2] at HNM
  have hnf : ¬ nameOk nn = false := by rw [h2]; decide
  rw [hi, h3] at HWK
  obtain ⟨kk, hkk⟩ : ∃ kk, T.kind i = kk := ⟨_, rfl⟩
  have k5 : (i : Int) < 48 := by omega
  have hlp : ¬ (T.kind (T.walk 0 l).1.toNat = 2 ∧ TrD.under to l = true ∧ l.length < to.length) := h4
  rw [hi, Int.toNat_natCast, hkk] at h4
  obtain ⟨d, hdd⟩ : ∃ d, T.pD to = d := ⟨_, rfl⟩
  have HP' := Lib.hid (fun w (h : Sat W w (IsT p T :: L)) => (show Calls Try.prog 33 #[.pointer (some ⟨p, 0, none⟩), .slice (some ⟨b, off, none⟩) to.length c'] w fun r w' => r = .returned (.tuple #[.int .i64 (d : Nat), sv nn, .int .i64 0]) ∧ Sat W w' (IsT p T :: L) from
    (HPL'.out w h).mono fun r w' ⟨dd, nm, h1, h2, h3⟩ => by obtain ⟨rfl, rfl⟩ := h2 h5; rw [h5, hdd, hnn] at h1; exact ⟨h1, h3⟩))
  have hlen := hT.len _ (hT.dir_mem hd)
  rw [hdd] at hd hlen
  obtain ⟨dl, hdl⟩ : ∃ dl, (T.dir d).length = dl := ⟨_, rfl⟩
  have HDL := Lib.hid hdl
  have HFI := Lib.hid (fun w (L' : List Asrt) ao1 c1 (h : Sat W w L') (hr : ∀ w, Sat W w L' → Rd w (.slice ao1 dl c1) dl 2 ((T.dir d).flatMap ev2)) => (show Calls Try.prog 34 #[.slice ao1 dl c1, sv nn] w fun r w' => r = .returned (.tuple #[.int .i64 ((findE (T.dir d) nn).getD 0), .bool (hasE (T.dir d) nn)]) ∧ Sat W w' L' by
    have := find_any h (T.dir d) ao1 c1 nn (by rw [hdl]; exact hr) (by omega)
    rw [hdl] at this; exact this))
  have k6 : (d : Int) < 48 := by omega
  have k7 : (f : Int) < 48 := by rw [← hff]; omega
  rw [hi] at h6
  have hE : T.rnE l to = 0 := by unfold TrD.rnE; rw [if_neg h01, hnn, if_neg hnf, if_neg (fun e => e h3), if_neg hlp, if_neg (fun e => e h5), ← hnn, h6]; dsimp only; rw [hi, if_pos rfl]
  obtain ⟨hX, hY, hM⟩ := TrD.rn_same (l := l) (to := to) hE hi h6
  rw [hX, hY, hM, hE]
  have HTO := Lib.hid (fun w v (L' : List Asrt) (h : Sat W w (IsT p T :: Ir v [] :: L')) => ttouch_any h (by simp) (by intro x hx; cases hx))
  rw [hdd, hnn] at h6
  have hh : hasE (T.dir d) nn = true := by rw [← findE_some, h6]; rfl
  rw [h6, hh] at HFI
  have hvar : (kk == 2) = false ∨ ((kk == 2) = true ∧ TrD.under to l = false) ∨ ((kk == 2) = true ∧ TrD.under to l = true ∧ decide ((l.length : Int) < (to.length : Int)) = false ∧ decide (l.length < to.length) = false) := by
    by_cases e : kk = 2
    · refine .inr ?_
      cases hu : TrD.under to l with
      | false => exact .inl ⟨by rw [e]; rfl, rfl⟩
      | true =>
        have h9 : ¬ l.length < to.length := fun h9 => h4 ⟨e, hu, h9⟩
        exact .inr ⟨by rw [e]; rfl, rfl, decide_eq_false (by omega), decide_eq_false h9⟩
    · exact .inl (beq_eq_false_iff_ne.2 e)
  clear hX hY hM hE hr hr' hT h0 h1 h2 h01 hnf hnn h3 hi h4 hlp h5 p1 p2 p4 p5 p6 HPL HPL' hff hoo h6 hh hdd hdl hkd hlen
  rcases hvar with q1 | ⟨q1, hu⟩ | ⟨q1, hu, q3, q4⟩
  · go_enter Try.func28, Try.ntmps28
    go_wp2_with (first
      | (refine toList (by rfl) ?_; refine wp_of_reads (rLdRd (f := sv1) (x := nn) (HR.out _ hS) (sv1_len to) _ _ (by rfl) _ (by rfl) (agOf (by rfl)) m 0 (by omega) HX.out (by rfl) (by omega)) ?_)
              | (go_at_call 52; refine (HNM.out _).mono ?_; rintro r w1 ⟨rfl, rfl⟩)
      | (go_at_call 26; refine (HWK.out _ hS).mono ?_; rintro r w1 ⟨rfl, hS1⟩; clear hS; have hS := hS1; clear hS1; obtain ⟨v, vt, hO⟩ := IsT.open hS; clear hS; have hS := hO; clear hO)
              | (refine toList (by rfl) ?_; refine ld hS _ _ (by rfl) _ _ (by rfl) (agOf (by rfl)) Has.z (tl_at (i := i) (j := 0) (u := .int .i64 kk) hi48 (by omega) (by rw [← hkk]; rfl)) ?_)
              | (go_at_call 53; refine (HUN.out _ [_, _, _] hS).mono ?_; rintro r w1 ⟨rfl, hS1⟩; clear hS; have hS := (show Sat W w1 (_ :: _ :: _ :: L) from hS1); clear hS1)
      | (go_at_call 33; refine (HP.out _ (IsT.mk hS)).mono ?_; rintro r w1 ⟨rfl, hS1⟩; clear hS; have hS := hS1; clear hS1)
              | (go_at_call 33; refine (HP'.out _ hS).mono ?_; rintro r w1 ⟨rfl, hS1⟩; clear hS; have hS := hS1; clear hS1; obtain ⟨v2, vt2, hO⟩ := IsT.open hS; clear hS; have hS := hO; clear hO; obtain ⟨ao1, c1, hv, _⟩ := rws_shape hS (k := 1) rfl hd)
              | (refine toList (by rfl) ?_; refine ld hS _ _ (by rfl) _ _ (by rfl) (agOf (by rfl)) Has.z (tl_at (i := d) (j := 2) (u := .slice ao1 dl c1) hd (by omega) (by rw [← HDL.out, ← hv]; rfl)) ?_)
              | (go_at_call 34; refine (HFI.out _ _ ao1 c1 hS (fun w h => by rw [← HDL.out, ← hv]; exact rws_rd h (k := 1) rfl hd)).mono ?_; rintro r w1 ⟨rfl, hS1⟩; clear hS; have hS := hS1; clear hS1)
      | (go_at_call 36; refine (HTO.out _ _ _ (irNil (IsT.mk hS)).pull1).mono ?_; rintro r w1 ⟨rfl, hS1⟩; clear hS; have hS := hS1; clear hS1))
    go_ret3
    exact ⟨rfl, hS⟩
  · rw [hu] at HUN
    go_enter Try.func28, Try.ntmps28
    go_wp2_with (first
      | (refine toList (by rfl) ?_; refine wp_of_reads (rLdRd (f := sv1) (x := nn) (HR.out _ hS) (sv1_len to) _ _ (by rfl) _ (by rfl) (agOf (by rfl)) m 0 (by omega) HX.out (by rfl) (by omega)) ?_)
              | (go_at_call 52; refine (HNM.out _).mono ?_; rintro r w1 ⟨rfl, rfl⟩)
      | (go_at_call 26; refine (HWK.out _ hS).mono ?_; rintro r w1 ⟨rfl, hS1⟩; clear hS; have hS := hS1; clear hS1; obtain ⟨v, vt, hO⟩ := IsT.open hS; clear hS; have hS := hO; clear hO)
              | (refine toList (by rfl) ?_; refine ld hS _ _ (by rfl) _ _ (by rfl) (agOf (by rfl)) Has.z (tl_at (i := i) (j := 0) (u := .int .i64 kk) hi48 (by omega) (by rw [← hkk]; rfl)) ?_)
              | (go_at_call 53; refine (HUN.out _ [_, _, _] hS).mono ?_; rintro r w1 ⟨rfl, hS1⟩; clear hS; have hS := (show Sat W w1 (_ :: _ :: _ :: L) from hS1); clear hS1)
      | (go_at_call 33; refine (HP.out _ (IsT.mk hS)).mono ?_; rintro r w1 ⟨rfl, hS1⟩; clear hS; have hS := hS1; clear hS1)
              | (go_at_call 33; refine (HP'.out _ hS).mono ?_; rintro r w1 ⟨rfl, hS1⟩; clear hS; have hS := hS1; clear hS1; obtain ⟨v2, vt2, hO⟩ := IsT.open hS; clear hS; have hS := hO; clear hO; obtain ⟨ao1, c1, hv, _⟩ := rws_shape hS (k := 1) rfl hd)
              | (refine toList (by rfl) ?_; refine ld hS _ _ (by rfl) _ _ (by rfl) (agOf (by rfl)) Has.z (tl_at (i := d) (j := 2) (u := .slice ao1 dl c1) hd (by omega) (by rw [← HDL.out, ← hv]; rfl)) ?_)
              | (go_at_call 34; refine (HFI.out _ _ ao1 c1 hS (fun w h => by rw [← HDL.out, ← hv]; exact rws_rd h (k := 1) rfl hd)).mono ?_; rintro r w1 ⟨rfl, hS1⟩; clear hS; have hS := hS1; clear hS1)
      | (go_at_call 36; refine (HTO.out _ _ _ (irNil (IsT.mk hS)).pull1).mono ?_; rintro r w1 ⟨rfl, hS1⟩; clear hS; have hS := hS1; clear hS1))
    go_ret3
    exact ⟨rfl, hS⟩
  · rw [hu] at HUN
    go_enter Try.func28, Try.ntmps28
    go_wp2_with (first
      | (refine toList (by rfl) ?_; refine wp_of_reads (rLdRd (f := sv1) (x := nn) (HR.out _ hS) (sv1_len to) _ _ (by rfl) _ (by rfl) (agOf (by rfl)) m 0 (by omega) HX.out (by rfl) (by omega)) ?_)
              | (go_at_call 52; refine (HNM.out _).mono ?_; rintro r w1 ⟨rfl, rfl⟩)
      | (go_at_call 26; refine (HWK.out _ hS).mono ?_; rintro r w1 ⟨rfl, hS1⟩; clear hS; have hS := hS1; clear hS1; obtain ⟨v, vt, hO⟩ := IsT.open hS; clear hS; have hS := hO; clear hO)
              | (refine toList (by rfl) ?_; refine ld hS _ _ (by rfl) _ _ (by rfl) (agOf (by rfl)) Has.z (tl_at (i := i) (j := 0) (u := .int .i64 kk) hi48 (by omega) (by rw [← hkk]; rfl)) ?_)
              | (go_at_call 53; refine (HUN.out _ [_, _, _] hS).mono ?_; rintro r w1 ⟨rfl, hS1⟩; clear hS; have hS := (show Sat W w1 (_ :: _ :: _ :: L) from hS1); clear hS1)
      | (go_at_call 33; refine (HP.out _ (IsT.mk hS)).mono ?_; rintro r w1 ⟨rfl, hS1⟩; clear hS; have hS := hS1; clear hS1)
              | (go_at_call 33; refine (HP'.out _ hS).mono ?_; rintro r w1 ⟨rfl, hS1⟩; clear hS; have hS := hS1; clear hS1; obtain ⟨v2, vt2, hO⟩ := IsT.open hS; clear hS; have hS := hO; clear hO; obtain ⟨ao1, c1, hv, _⟩ := rws_shape hS (k := 1) rfl hd)
              | (refine toList (by rfl) ?_; refine ld hS _ _ (by rfl) _ _ (by rfl) (agOf (by rfl)) Has.z (tl_at (i := d) (j := 2) (u := .slice ao1 dl c1) hd (by omega) (by rw [← HDL.out, ← hv]; rfl)) ?_)
              | (go_at_call 34; refine (HFI.out _ _ ao1 c1 hS (fun w h => by rw [← HDL.out, ← hv]; exact rws_rd h (k := 1) rfl hd)).mono ?_; rintro r w1 ⟨rfl, hS1⟩; clear hS; have hS := hS1; clear hS1)
      | (go_at_call 36; refine (HTO.out _ _ _ (irNil (IsT.mk hS)).pull1).mono ?_; rintro r w1 ⟨rfl, hS1⟩; clear hS; have hS := hS1; clear hS1))
    go_ret3
    exact ⟨rfl, hS⟩
set_option maxRecDepth 20000 in
set_option maxHeartbeats 2000000 in
theorem tren_over_err {W w : World} {L : List Asrt} {p : Nat} {T : TrD} (hS : Sat W w (IsT p T :: L)) (hT : T.Ok) (l to : List (List UInt8)) (ao ao' : Option Addr) (c c' : Nat) (hr : ∀ w L', Sat W w (L' ++ L) → Rd w (.slice ao l.length c) l.length 1 (l.flatMap sv1)) (hl : l.length ≤ 1000000) (hr' : ∀ w L', Sat W w (L' ++ L) → Rd w (.slice ao' to.length c') to.length 1 (to.flatMap sv1)) (hl' : to.length ≤ 1000000) (h0 : l ≠ []) (h1 : to ≠ []) (h2 : nameOk (TrD.lastN to) = true) (h3 : (T.walk 0 l).2 = 0) (h4 : ¬ (T.kind (T.walk 0 l).1.toNat = 2 ∧ TrD.under to l = true ∧ l.length < to.length)) (hne : ¬ (to = l)) (h5 : T.pE to = 0) {y : Nat} (h6 : findE (T.dir (T.pD to)) (TrD.lastN to) = some (y : Int)) (h7 : (T.walk 0 l).1 ≠ y) (h8 : ¬ ((T.kind y = 2 ↔ T.kind (T.walk 0 l).1.toNat = 2) ∧ T.dir y = [])) : Calls Try.prog 28 #[.pointer (some ⟨p, 0, none⟩), .slice ao l.length c, .slice ao' to.length c'] w fun r w' => r = .returned (.tuple #[.int .i64 (T.rnX l to : Nat), .int .i64 (T.rnY l to : Nat), .int .i64 (T.rnE l to)]) ∧ Sat W w' (IsT p (T.rn l to) :: L) := by
  obtain ⟨_, _, hd, hkd, _⟩ := hT.pE_zero h5
  obtain ⟨i, hi, hi48⟩ := hT.walk_lt l 0 (by omega)
  obtain ⟨p1, p2, _, p4, p5, p6⟩ := hT.parent h0 h3
  rw [hi] at p5
  have h01 : ¬ (l = [] ∨ to = []) := fun e => e.elim h0 h1
  obtain ⟨_, _, he, hc1, hc2, _, h5⟩ := hr' w [_] hS
  simp only [Value.slice.injEq, true_and] at he
  obtain ⟨rfl, rfl⟩ := he
  obtain ⟨b, off, rfl, _⟩ := h5 (List.length_pos_iff.2 h1)
  clear h5
  obtain ⟨m, hm⟩ : ∃ m, to.length = m + 1 := ⟨to.length - 1, by have := List.length_pos_iff.2 h1; omega⟩
  have HX := Lib.hid (last_at hm).1
  have HR := Lib.hid (fun w (h : Sat W w (IsT p T :: L)) => hr' w [_] h)
  have e0 : ((l.length : Int) == 0) = false := beq_eq_false_iff_ne.2 (by have := List.length_pos_iff.2 h0; omega)
  have e0' : ((to.length : Int) == 0) = false := beq_eq_false_iff_ne.2 (by omega)
  have hsub : (to.length : Int) - 1 = (m : Int) := by omega
  have k1 : (m : Int) < (to.length : Int) := by omega
  have k2 : m < to.length := by omega
  have k3 : (1 : Int) ≤ (to.length : Int) := by omega
  have k4 : (to.length : Int) ≤ 1000000 := by omega
  have k4' : (l.length : Int) ≤ 1000000 := by omega
  clear hm
  obtain ⟨nn, hnn⟩ : ∃ nn, TrD.lastN to = nn := ⟨_, rfl⟩
  rw [hnn] at HX
  have HNM := Lib.hid (fun w => name_any nn w)
  rw [hnn] at h2
  have HUN := Lib.hid (fun w (L' : List Asrt) (h : Sat W w (L' ++ L)) => under_any h to l _ ao c' c (fun w h => hr' w L' h) (fun w h => hr w L' h) hl' hl)
  have HWK := Lib.hid (fun w (h : Sat W w (IsT p T :: L)) => twalk_any h hT l ao c hr hl)
  have HPL := Lib.hid (fun w (h : Sat W w (IsT p T :: L)) => tplace_any h hT l ao c hr hl)
  have HPL' := Lib.hid (fun w (h : Sat W w (IsT p T :: L)) => tplace_any h hT to _ c' hr' hl')
  have HT := Lib.hid hT
  obtain ⟨f, hff⟩ : ∃ f, T.pD l = f := ⟨_, rfl⟩
  obtain ⟨o, hoo⟩ : ∃ o, TrD.lastN l = o := ⟨_, rfl⟩
  have HP := Lib.hid (fun w (h : Sat W w (IsT p T :: L)) => (show Calls Try.prog 33 #[.pointer (some ⟨p, 0, none⟩), .slice ao l.length c] w fun r w' => r = .returned (.tuple #[.int .i64 (f : Nat), sv o, .int .i64 0]) ∧ Sat W w' (IsT p T :: L) from
    (HPL.out w h).mono fun r w' ⟨dd, nm, h1, h2, h3⟩ => by obtain ⟨rfl, rfl⟩ := h2 p1; rw [p1, hff, hoo] at h1; exact ⟨h1, h3⟩))
  rw [h2] at HNM
  have hnf : ¬ nameOk nn = false := by rw [h2]; decide
  rw [hi, h3] at HWK
  obtain ⟨kk, hkk⟩ : ∃ kk, T.kind i = kk := ⟨_, rfl⟩
  have k5 : (i : Int) < 48 := by omega
  have hlp : ¬ (T.kind (T.walk 0 l).1.toNat = 2 ∧ TrD.under to l = true ∧ l.length < to.length) := h4
  rw [hi, Int.toNat_natCast, hkk] at h4
  obtain ⟨d, hdd⟩ : ∃ d, T.pD to = d := ⟨_, rfl⟩
  have HP' := Lib.hid (fun w (h : Sat W w (IsT p T :: L)) => (show Calls Try.prog 33 #[.pointer (some ⟨p, 0, none⟩), .slice (some ⟨b, off, none⟩) to.length c'] w fun r w' => r = .returned (.tuple #[.int .i64 (d : Nat), sv nn, .int .i64 0]) ∧ Sat W w' (IsT p T :: L) from
    (HPL'.out w h).mono fun r w' ⟨dd, nm, h1, h2, h3⟩ => by obtain ⟨rfl, rfl⟩ := h2 h5; rw [h5, hdd, hnn] at h1; exact ⟨h1, h3⟩))
  have hlen := hT.len _ (hT.dir_mem hd)
  rw [hdd] at hd hlen
  obtain ⟨dl, hdl⟩ : ∃ dl, (T.dir d).length = dl := ⟨_, rfl⟩
  have HDL := Lib.hid hdl
  have HFI := Lib.hid (fun w (L' : List Asrt) ao1 c1 (h : Sat W w L') (hr : ∀ w, Sat W w L' → Rd w (.slice ao1 dl c1) dl 2 ((T.dir d).flatMap ev2)) => (show Calls Try.prog 34 #[.slice ao1 dl c1, sv nn] w fun r w' => r = .returned (.tuple #[.int .i64 ((findE (T.dir d) nn).getD 0), .bool (hasE (T.dir d) nn)]) ∧ Sat W w' L' by
    have := find_any h (T.dir d) ao1 c1 nn (by rw [hdl]; exact hr) (by omega)
    rw [hdl] at this; exact this))
  have k6 : (d : Int) < 48 := by omega
  have k7 : (f : Int) < 48 := by rw [← hff]; omega
  have hvar : (kk == 2) = false ∨ ((kk == 2) = true ∧ TrD.under to l = false) := by
    by_cases e : kk = 2
    · refine .inr ⟨by rw [e]; rfl, ?_⟩
      cases hu : TrD.under to l with
      | false => rfl
      | true =>
        exfalso
        have h9 : ¬ l.length < to.length := fun h9 => h4 ⟨e, hu, h9⟩
        unfold TrD.under at hu
        simp only [Bool.and_eq_true, decide_eq_true_eq] at hu
        rw [List.take_of_length_le (by omega)] at hu
        exact hne hu.2
    · exact .inl (beq_eq_false_iff_ne.2 e)
  rw [hi] at h7
  have e7 : ((i : Int) == (y : Int)) = false := beq_eq_false_iff_ne.2 h7
  have e7' : (i == y) = false := beq_eq_false_iff_ne.2 (by omega)
  have hE0 : T.rnE l to = if T.kind y = 2 ∧ T.kind i ≠ 2 then 7 else if T.kind i = 2 ∧ T.kind y ≠ 2 then 8 else if 0 < (T.dir y).length then 9 else 0 := by
    unfold TrD.rnE; rw [if_neg h01, hnn, if_neg hnf, if_neg (fun e => e h3), if_neg hlp, if_neg (fun e => e h5), ← hnn, h6]; dsimp only; rw [hi, if_neg h7, Int.toNat_natCast, Int.toNat_natCast]
  rw [hi, Int.toNat_natCast] at h8
  obtain ⟨_, y1, y2⟩ := hT.find_ino (i := T.pD to) (by rw [hdd]; exact hd) h6
  have hy48 : y < 48 := by omega
  have k8 : (y : Int) < 48 := by omega
  rw [hdd, hnn] at h6
  have hh : hasE (T.dir d) nn = true := by rw [← findE_some, h6]; rfl
  rw [h6, hh] at HFI
  obtain ⟨ky, hky⟩ : ∃ ky, T.kind y = ky := ⟨_, rfl⟩
  obtain ⟨yl, hyl⟩ : ∃ yl, (T.dir y).length = yl := ⟨_, rfl⟩
  have HYL := Lib.hid hyl
  rw [hkk, hky] at h8
  rw [hkk, hky, hyl] at hE0
  have h81 : (ky = 2 ↔ kk = 2) → 0 < yl := fun e => by
    rcases Nat.eq_zero_or_pos yl with h9 | h9
    · exact absurd ⟨e, List.eq_nil_of_length_eq_zero (hyl.trans h9)⟩ h8
    · exact h9
  have hEn : T.rnE l to ≠ 0 := by
    rw [hE0]
    split
    · decide
    · split
      · decide
      · rename_i a1 a2
        rw [if_pos (h81 ⟨fun e => by
          by_cases e2 : kk = 2
          · exact e2
          · exact absurd ⟨e, e2⟩ a1, fun e => by
          by_cases e2 : ky = 2
          · exact e2
          · exact absurd ⟨e, e2⟩ a2⟩)]
        decide
  obtain ⟨hX, hY, hM⟩ := rn_err (l := l) (to := to) hEn
  rw [hX, hY, hM, hE0]
  by_cases a1 : kk = 2
  · obtain ⟨q1, hu⟩ : (kk == 2) = true ∧ TrD.under to l = false := by
      rcases hvar with hv | hv
      · rw [a1] at hv; cases hv
      · exact hv
    rw [hu] at HUN
    by_cases a2 : ky = 2
    · have q2 : (ky == 2) = true := by rw [a2]; rfl
      have hpos := h81 ⟨fun _ => a1, fun _ => a2⟩
      have q3 : decide ((0 : Int) < (yl : Int)) = true := decide_eq_true (by omega)
      have q4 : decide (0 < yl) = true := decide_eq_true hpos
      rw [if_neg (fun e => e.2 a1), if_neg (fun e => e.2 a2), if_pos hpos]
      clear hX hY hM hE0 hEn hr hr' hT h0 h1 h2 h01 hnf hnn h3 hi h4 hlp hne h5 p1 p2 p4 p5 p6 HPL HPL' hff hoo h6 h7 h8 h81 hh hdd hdl hkd hlen hvar hyl a1 a2
      go_enter Try.func28, Try.ntmps28
      go_wp2_with (first
        | (refine toList (by rfl) ?_; refine wp_of_reads (rLdRd (f := sv1) (x := nn) (HR.out _ hS) (sv1_len to) _ _ (by rfl) _ (by rfl) (agOf (by rfl)) m 0 (by omega) HX.out (by rfl) (by omega)) ?_)
                | (go_at_call 52; refine (HNM.out _).mono ?_; rintro r w1 ⟨rfl, rfl⟩)
        | (go_at_call 26; refine (HWK.out _ hS).mono ?_; rintro r w1 ⟨rfl, hS1⟩; clear hS; have hS := hS1; clear hS1; obtain ⟨v, vt, hO⟩ := IsT.open hS; clear hS; have hS := hO; clear hO)
                | (refine toList (by rfl) ?_; refine ld hS _ _ (by rfl) _ _ (by rfl) (agOf (by rfl)) Has.z (tl_at (i := i) (j := 0) (u := .int .i64 kk) hi48 (by omega) (by rw [← hkk]; rfl)) ?_)
                | (go_at_call 53; refine (HUN.out _ [_, _, _] hS).mono ?_; rintro r w1 ⟨rfl, hS1⟩; clear hS; have hS := (show Sat W w1 (_ :: _ :: _ :: L) from hS1); clear hS1)
        | (go_at_call 33; refine (HP.out _ (IsT.mk hS)).mono ?_; rintro r w1 ⟨rfl, hS1⟩; clear hS; have hS := hS1; clear hS1)
        | (go_at_call 33; refine (HP'.out _ hS).mono ?_; rintro r w1 ⟨rfl, hS1⟩; clear hS; have hS := hS1; clear hS1; obtain ⟨v2, vt2, hO⟩ := IsT.open hS; clear hS; have hS := hO; clear hO; obtain ⟨ao1, c1, hv, _⟩ := rws_shape hS (k := 1) rfl hd; obtain ⟨ao3, c3, hv3, _⟩ := rws_shape hS (k := 1) rfl hy48)
        | (refine toList (by rfl) ?_; refine ld hS _ _ (by rfl) _ _ (by rfl) (agOf (by rfl)) Has.z (tl_at (i := d) (j := 2) (u := .slice ao1 dl c1) hd (by omega) (by rw [← HDL.out, ← hv]; rfl)) ?_)
        | (refine toList (by rfl) ?_; refine ld hS _ _ (by rfl) _ _ (by rfl) (agOf (by rfl)) Has.z (tl_at (i := y) (j := 2) (u := .slice ao3 yl c3) hy48 (by omega) (by rw [← HYL.out, ← hv3]; rfl)) ?_)
        | (go_at_call 34; refine (HFI.out _ _ ao1 c1 hS (fun w h => by rw [← HDL.out, ← hv]; exact rws_rd h (k := 1) rfl hd)).mono ?_; rintro r w1 ⟨rfl, hS1⟩; clear hS; have hS := hS1; clear hS1)
        | (refine toList (by rfl) ?_; refine ld hS _ _ (by rfl) _ _ (by rfl) (agOf (by rfl)) Has.z (tl_at (i := y) (j := 0) (u := .int .i64 ky) hy48 (by omega) (by rw [← hky]; rfl)) ?_)
        )
      go_ret3
      exact ⟨rfl, IsT.mk hS⟩
    · have q2 : (ky == 2) = false := beq_eq_false_iff_ne.2 a2
      rw [if_neg (fun e => e.2 a1), if_pos ⟨a1, a2⟩]
      clear hX hY hM hE0 hEn hr hr' hT h0 h1 h2 h01 hnf hnn h3 hi h4 hlp hne h5 p1 p2 p4 p5 p6 HPL HPL' hff hoo h6 h7 h8 h81 hh hdd hdl hkd hlen hvar hyl a1 a2
      go_enter Try.func28, Try.ntmps28
      go_wp2_with (first
        | (refine toList (by rfl) ?_; refine wp_of_reads (rLdRd (f := sv1) (x := nn) (HR.out _ hS) (sv1_len to) _ _ (by rfl) _ (by rfl) (agOf (by rfl)) m 0 (by omega) HX.out (by rfl) (by omega)) ?_)
                | (go_at_call 52; refine (HNM.out _).mono ?_; rintro r w1 ⟨rfl, rfl⟩)
        | (go_at_call 26; refine (HWK.out _ hS).mono ?_; rintro r w1 ⟨rfl, hS1⟩; clear hS; have hS := hS1; clear hS1; obtain ⟨v, vt, hO⟩ := IsT.open hS; clear hS; have hS := hO; clear hO)
                | (refine toList (by rfl) ?_; refine ld hS _ _ (by rfl) _ _ (by rfl) (agOf (by rfl)) Has.z (tl_at (i := i) (j := 0) (u := .int .i64 kk) hi48 (by omega) (by rw [← hkk]; rfl)) ?_)
                | (go_at_call 53; refine (HUN.out _ [_, _, _] hS).mono ?_; rintro r w1 ⟨rfl, hS1⟩; clear hS; have hS := (show Sat W w1 (_ :: _ :: _ :: L) from hS1); clear hS1)
        | (go_at_call 33; refine (HP.out _ (IsT.mk hS)).mono ?_; rintro r w1 ⟨rfl, hS1⟩; clear hS; have hS := hS1; clear hS1)
        | (go_at_call 33; refine (HP'.out _ hS).mono ?_; rintro r w1 ⟨rfl, hS1⟩; clear hS; have hS := hS1; clear hS1; obtain ⟨v2, vt2, hO⟩ := IsT.open hS; clear hS; have hS := hO; clear hO; obtain ⟨ao1, c1, hv, _⟩ := rws_shape hS (k := 1) rfl hd; obtain ⟨ao3, c3, hv3, _⟩ := rws_shape hS (k := 1) rfl hy48)
        | (refine toList (by rfl) ?_; refine ld hS _ _ (by rfl) _ _ (by rfl) (agOf (by rfl)) Has.z (tl_at (i := d) (j := 2) (u := .slice ao1 dl c1) hd (by omega) (by rw [← HDL.out, ← hv]; rfl)) ?_)
        | (refine toList (by rfl) ?_; refine ld hS _ _ (by rfl) _ _ (by rfl) (agOf (by rfl)) Has.z (tl_at (i := y) (j := 2) (u := .slice ao3 yl c3) hy48 (by omega) (by rw [← HYL.out, ← hv3]; rfl)) ?_)
        | (go_at_call 34; refine (HFI.out _ _ ao1 c1 hS (fun w h => by rw [← HDL.out, ← hv]; exact rws_rd h (k := 1) rfl hd)).mono ?_; rintro r w1 ⟨rfl, hS1⟩; clear hS; have hS := hS1; clear hS1)
        | (refine toList (by rfl) ?_; refine ld hS _ _ (by rfl) _ _ (by rfl) (agOf (by rfl)) Has.z (tl_at (i := y) (j := 0) (u := .int .i64 ky) hy48 (by omega) (by rw [← hky]; rfl)) ?_)
        )
      go_ret3
      exact ⟨rfl, IsT.mk hS⟩
  · have q1 : (kk == 2) = false := beq_eq_false_iff_ne.2 a1
    by_cases a2 : ky = 2
    · have q2 : (ky == 2) = true := by rw [a2]; rfl
      rw [if_pos ⟨a2, a1⟩]
      clear hX hY hM hE0 hEn hr hr' hT h0 h1 h2 h01 hnf hnn h3 hi h4 hlp hne h5 p1 p2 p4 p5 p6 HPL HPL' hff hoo h6 h7 h8 h81 hh hdd hdl hkd hlen hvar hyl a1 a2
      go_enter Try.func28, Try.ntmps28
      go_wp2_with (first
        | (refine toList (by rfl) ?_; refine wp_of_reads (rLdRd (f := sv1) (x := nn) (HR.out _ hS) (sv1_len to) _ _ (by rfl) _ (by rfl) (agOf (by rfl)) m 0 (by omega) HX.out (by rfl) (by omega)) ?_)
                | (go_at_call 52; refine (HNM.out _).mono ?_; rintro r w1 ⟨rfl, rfl⟩)
        | (go_at_call 26; refine (HWK.out _ hS).mono ?_; rintro r w1 ⟨rfl, hS1⟩; clear hS; have hS := hS1; clear hS1; obtain ⟨v, vt, hO⟩ := IsT.open hS; clear hS; have hS := hO; clear hO)
                | (refine toList (by rfl) ?_; refine ld hS _ _ (by rfl) _ _ (by rfl) (agOf (by rfl)) Has.z (tl_at (i := i) (j := 0) (u := .int .i64 kk) hi48 (by omega) (by rw [← hkk]; rfl)) ?_)
                | (go_at_call 53; refine (HUN.out _ [_, _, _] hS).mono ?_; rintro r w1 ⟨rfl, hS1⟩; clear hS; have hS := (show Sat W w1 (_ :: _ :: _ :: L) from hS1); clear hS1)
        | (go_at_call 33; refine (HP.out _ (IsT.mk hS)).mono ?_; rintro r w1 ⟨rfl, hS1⟩; clear hS; have hS := hS1; clear hS1)
        | (go_at_call 33; refine (HP'.out _ hS).mono ?_; rintro r w1 ⟨rfl, hS1⟩; clear hS; have hS := hS1; clear hS1; obtain ⟨v2, vt2, hO⟩ := IsT.open hS; clear hS; have hS := hO; clear hO; obtain ⟨ao1, c1, hv, _⟩ := rws_shape hS (k := 1) rfl hd; obtain ⟨ao3, c3, hv3, _⟩ := rws_shape hS (k := 1) rfl hy48)
        | (refine toList (by rfl) ?_; refine ld hS _ _ (by rfl) _ _ (by rfl) (agOf (by rfl)) Has.z (tl_at (i := d) (j := 2) (u := .slice ao1 dl c1) hd (by omega) (by rw [← HDL.out, ← hv]; rfl)) ?_)
        | (refine toList (by rfl) ?_; refine ld hS _ _ (by rfl) _ _ (by rfl) (agOf (by rfl)) Has.z (tl_at (i := y) (j := 2) (u := .slice ao3 yl c3) hy48 (by omega) (by rw [← HYL.out, ← hv3]; rfl)) ?_)
        | (go_at_call 34; refine (HFI.out _ _ ao1 c1 hS (fun w h => by rw [← HDL.out, ← hv]; exact rws_rd h (k := 1) rfl hd)).mono ?_; rintro r w1 ⟨rfl, hS1⟩; clear hS; have hS := hS1; clear hS1)
        | (refine toList (by rfl) ?_; refine ld hS _ _ (by rfl) _ _ (by rfl) (agOf (by rfl)) Has.z (tl_at (i := y) (j := 0) (u := .int .i64 ky) hy48 (by omega) (by rw [← hky]; rfl)) ?_)
        )
      go_ret3
      exact ⟨rfl, IsT.mk hS⟩
    · have q2 : (ky == 2) = false := beq_eq_false_iff_ne.2 a2
      have hpos := h81 ⟨fun e => absurd e a2, fun e => absurd e a1⟩
      have q3 : decide ((0 : Int) < (yl : Int)) = true := decide_eq_true (by omega)
      have q4 : decide (0 < yl) = true := decide_eq_true hpos
      rw [if_neg (fun e => a2 e.1), if_neg (fun e => a1 e.1), if_pos hpos]
      clear hX hY hM hE0 hEn hr hr' hT h0 h1 h2 h01 hnf hnn h3 hi h4 hlp hne h5 p1 p2 p4 p5 p6 HPL HPL' hff hoo h6 h7 h8 h81 hh hdd hdl hkd hlen hvar hyl a1 a2
      go_enter Try.func28, Try.ntmps28
      go_wp2_with (first
        | (refine toList (by rfl) ?_; refine wp_of_reads (rLdRd (f := sv1) (x := nn) (HR.out _ hS) (sv1_len to) _ _ (by rfl) _ (by rfl) (agOf (by rfl)) m 0 (by omega) HX.out (by rfl) (by omega)) ?_)
                | (go_at_call 52; refine (HNM.out _).mono ?_; rintro r w1 ⟨rfl, rfl⟩)
        | (go_at_call 26; refine (HWK.out _ hS).mono ?_; rintro r w1 ⟨rfl, hS1⟩; clear hS; have hS := hS1; clear hS1; obtain ⟨v, vt, hO⟩ := IsT.open hS; clear hS; have hS := hO; clear hO)
                | (refine toList (by rfl) ?_; refine ld hS _ _ (by rfl) _ _ (by rfl) (agOf (by rfl)) Has.z (tl_at (i := i) (j := 0) (u := .int .i64 kk) hi48 (by omega) (by rw [← hkk]; rfl)) ?_)
                | (go_at_call 53; refine (HUN.out _ [_, _, _] hS).mono ?_; rintro r w1 ⟨rfl, hS1⟩; clear hS; have hS := (show Sat W w1 (_ :: _ :: _ :: L) from hS1); clear hS1)
        | (go_at_call 33; refine (HP.out _ (IsT.mk hS)).mono ?_; rintro r w1 ⟨rfl, hS1⟩; clear hS; have hS := hS1; clear hS1)
        | (go_at_call 33; refine (HP'.out _ hS).mono ?_; rintro r w1 ⟨rfl, hS1⟩; clear hS; have hS := hS1; clear hS1; obtain ⟨v2, vt2, hO⟩ := IsT.open hS; clear hS; have hS := hO; clear hO; obtain ⟨ao1, c1, hv, _⟩ := rws_shape hS (k := 1) rfl hd; obtain ⟨ao3, c3, hv3, _⟩ := rws_shape hS (k := 1) rfl hy48)
        | (refine toList (by rfl) ?_; refine ld hS _ _ (by rfl) _ _ (by rfl) (agOf (by rfl)) Has.z (tl_at (i := d) (j := 2) (u := .slice ao1 dl c1) hd (by omega) (by rw [← HDL.out, ← hv]; rfl)) ?_)
        | (refine toList (by rfl) ?_; refine ld hS _ _ (by rfl) _ _ (by rfl) (agOf (by rfl)) Has.z (tl_at (i := y) (j := 2) (u := .slice ao3 yl c3) hy48 (by omega) (by rw [← HYL.out, ← hv3]; rfl)) ?_)
        | (go_at_call 34; refine (HFI.out _ _ ao1 c1 hS (fun w h => by rw [← HDL.out, ← hv]; exact rws_rd h (k := 1) rfl hd)).mono ?_; rintro r w1 ⟨rfl, hS1⟩; clear hS; have hS := hS1; clear hS1)
        | (refine toList (by rfl) ?_; refine ld hS _ _ (by rfl) _ _ (by rfl) (agOf (by rfl)) Has.z (tl_at (i := y) (j := 0) (u := .int .i64 ky) hy48 (by omega) (by rw [← hky]; rfl)) ?_)
        )
      go_ret3
      exact ⟨rfl, IsT.mk hS⟩
end Go.Proofs.Ytiieicdhkcikpaa
