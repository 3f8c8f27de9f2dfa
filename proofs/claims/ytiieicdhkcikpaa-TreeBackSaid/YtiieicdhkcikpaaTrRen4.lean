/-
  Package tree: Rename, over another.
-/
import Derived.Test.YtiieicdhkcikpaaTrRen3
namespace Go.Proofs.Ytiieicdhkcikpaa
open Go.RowKit Go.Sep
set_option linter.unusedSimpArgs false
set_option linter.unusedVariables false
attribute [local irreducible] Go.Oper.wp Go.wpList Go.Calls Go.Code.wp Go.Sep.Reg
attribute [local irreducible] IsT IsW
set_option maxRecDepth 20000 in
set_option maxHeartbeats 2000000 in
theorem tren_over {W w : World} {L : List Asrt} {p : Nat} {T : TrD} (hS : Sat W w (IsT p T :: L)) (hT : T.Ok) (l to : List (List UInt8)) (ao ao' : Option Addr) (c c' : Nat) (hr : ∀ w L', Sat W w (L' ++ L) → Rd w (.slice ao l.length c) l.length 1 (l.flatMap sv1)) (hl : l.length ≤ 1000000) (hr' : ∀ w L', Sat W w (L' ++ L) → Rd w (.slice ao' to.length c') to.length 1 (to.flatMap sv1)) (hl' : to.length ≤ 1000000) (h0 : l ≠ []) (h1 : to ≠ []) (h2 : nameOk (TrD.lastN to) = true) (h3 : (T.walk 0 l).2 = 0) (h4 : ¬ (T.kind (T.walk 0 l).1.toNat = 2 ∧ TrD.under to l = true ∧ l.length < to.length)) (hne : ¬ (to = l)) (h5 : T.pE to = 0) {y : Nat} (h6 : findE (T.dir (T.pD to)) (TrD.lastN to) = some (y : Int)) (h7 : (T.walk 0 l).1 ≠ y) (h8 : (T.kind y = 2 ↔ T.kind (T.walk 0 l).1.toNat = 2) ∧ T.dir y = []) : Calls Try.prog 28 #[.pointer (some ⟨p, 0, none⟩), .slice ao l.length c, .slice ao' to.length c'] w fun r w' => r = .returned (.tuple #[.int .i64 (T.rnX l to : Nat), .int .i64 (T.rnY l to : Nat), .int .i64 (T.rnE l to)]) ∧ Sat W w' (IsT p (T.rn l to) :: L) := by
  obtain ⟨_, _, hd, hkd, _⟩ := hT.pE_zero h5
  obtain ⟨i, hi, hi48⟩ := hT.walk_lt l 0 (by omega)
  obtain ⟨p1, p2, _, p4, p5, p6⟩ := hT.parent h0 h3
  rw [hi] at p5
  have h01 : ¬ (l = [] ∨ to = []) := fun e => e.elim h0 h1
  obtain ⟨_, _, he, hc1, hc2, _, h5⟩ := hr' w [_] hS
  simp only [Value.slice.injEq, true_and] at he
  obtain ⟨rfl, rfl⟩ := he
  obtain ⟨b, off, rfl, _⟩ := h5 (List.length_pos_iff.2 h1)
  clear h5
  obtain ⟨m, hm⟩ : ∃ m, to.length = m + 1 := ⟨to.length - 1, by have := List.length_pos_iff.2 h1; omega⟩
  have HX := Lib.hid (last_at hm).1
  have HR := Lib.hid (fun w (h : Sat W w (IsT p T :: L)) => hr' w [_] h)
  have e0 : ((l.length : Int) == 0) = false := beq_eq_false_iff_ne.2 (by have := List.length_pos_iff.2 h0; omega)
  have e0' : ((to.length : Int) == 0) = false := beq_eq_false_iff_ne.2 (by omega)
  have hsub : (to.length : Int) - 1 = (m : Int) := by omega
  have k1 : (m : Int) < (to.length : Int) := by omega
  have k2 : m < to.length := by omega
  have k3 : (1 : Int) ≤ (to.length : Int) := by omega
  have k4 : (to.length : Int) ≤ 1000000 := by omega
  have k4' : (l.length : Int) ≤ 1000000 := by omega
  clear hm
  obtain ⟨nn, hnn⟩ : ∃ nn, TrD.lastN to = nn := ⟨_, rfl⟩
  rw [hnn] at HX
  have HNM := Lib.hid (fun w => name_any nn w)
  rw [hnn] at h2
  have HUN := Lib.hid (fun w (L' : List Asrt) (h : Sat W w (L' ++ L)) => under_any h to l _ ao c' c (fun w h => hr' w L' h) (fun w h => hr w L' h) hl' hl)
  have HWK := Lib.hid (fun w (h : Sat W w (IsT p T :: L)) => twalk_any h hT l ao c hr hl)
  have HPL := Lib.hid (fun w (h : Sat W w (IsT p T :: L)) => tplace_any h hT l ao c hr hl)
  have HPL' := Lib.hid (fun w (h : Sat W w (IsT p T :: L)) => tplace_any h hT to _ c' hr' hl')
  have HT := Lib.hid hT
  obtain ⟨f, hff⟩ : ∃ f, T.pD l = f := ⟨_, rfl⟩
  obtain ⟨o, hoo⟩ : ∃ o, TrD.lastN l = o := ⟨_, rfl⟩
  have HP := Lib.hid (fun w (h : Sat W w (IsT p T :: L)) => (show Calls Try.prog 33 #[.pointer (some ⟨p, 0, none⟩), .slice ao l.length c] w fun r w' => r = .returned (.tuple #[.int .i64 (f : Nat), sv o, .int .i64 0]) ∧ Sat W w' (IsT p T :: L) from
    (HPL.out w h).mono fun r w' ⟨dd, nm, h1, h2, h3⟩ => by obtain ⟨rfl, rfl⟩ := h2 p1; rw [p1, hff, hoo] at h1; exact ⟨h1, h3⟩))
  rw [h2] at HNM
  have hnf : ¬ nameOk nn = false := by rw [h2]; decide
  rw [hi, h3] at HWK
  obtain ⟨kk, hkk⟩ : ∃ kk, T.kind i = kk := ⟨_, rfl⟩
  have k5 : (i : Int) < 48 := by omega
  have hlp : ¬ (T.kind (T.walk 0 l).1.toNat = 2 ∧ TrD.under to l = true ∧ l.length < to.length) := h4
  rw [hi, Int.toNat_natCast, hkk] at h4
  obtain ⟨d, hdd⟩ : ∃ d, T.pD to = d := ⟨_, rfl⟩
  have HP' := Lib.hid (fun w (h : Sat W w (IsT p T :: L)) => (show Calls Try.prog 33 #[.pointer (some ⟨p, 0, none⟩), .slice (some ⟨b, off, none⟩) to.length c'] w fun r w' => r = .returned (.tuple #[.int .i64 (d : Nat), sv nn, .int .i64 0]) ∧ Sat W w' (IsT p T :: L) from
    (HPL'.out w h).mono fun r w' ⟨dd, nm, h1, h2, h3⟩ => by obtain ⟨rfl, rfl⟩ := h2 h5; rw [h5, hdd, hnn] at h1; exact ⟨h1, h3⟩))
  have hlen := hT.len _ (hT.dir_mem hd)
  rw [hdd] at hd hlen
  obtain ⟨dl, hdl⟩ : ∃ dl, (T.dir d).length = dl := ⟨_, rfl⟩
  have HDL := Lib.hid hdl
  have HFI := Lib.hid (fun w (L' : List Asrt) ao1 c1 (h : Sat W w L') (hr : ∀ w, Sat W w L' → Rd w (.slice ao1 dl c1) dl 2 ((T.dir d).flatMap ev2)) => (show Calls Try.prog 34 #[.slice ao1 dl c1, sv nn] w fun r w' => r = .returned (.tuple #[.int .i64 ((findE (T.dir d) nn).getD 0), .bool (hasE (T.dir d) nn)]) ∧ Sat W w' L' by
    have := find_any h (T.dir d) ao1 c1 nn (by rw [hdl]; exact hr) (by omega)
    rw [hdl] at this; exact this))
  have k6 : (d : Int) < 48 := by omega
  have k7 : (f : Int) < 48 := by rw [← hff]; omega
  have hvar : (kk == 2) = false ∨ ((kk == 2) = true ∧ TrD.under to l = false) := by
    by_cases e : kk = 2
    · refine .inr ⟨by rw [e]; rfl, ?_⟩
      cases hu : TrD.under to l with
      | false => rfl
      | true =>
        exfalso
        have h9 : ¬ l.length < to.length := fun h9 => h4 ⟨e, hu, h9⟩
        unfold TrD.under at hu
        simp only [Bool.and_eq_true, decide_eq_true_eq] at hu
        rw [List.take_of_length_le (by omega)] at hu
        exact hne hu.2
    · exact .inl (beq_eq_false_iff_ne.2 e)
  rw [hi] at h7
  have e7 : ((i : Int) == (y : Int)) = false := beq_eq_false_iff_ne.2 h7
  have e7' : (i == y) = false := beq_eq_false_iff_ne.2 (by omega)
  rw [hi, Int.toNat_natCast] at h8
  have hE : T.rnE l to = 0 := by
    unfold TrD.rnE; rw [if_neg h01, hnn, if_neg hnf, if_neg (fun e => e h3), if_neg hlp, if_neg (fun e => e h5), ← hnn, h6]; dsimp only; rw [hi, if_neg h7, Int.toNat_natCast, Int.toNat_natCast, if_neg (fun e => e.2 (h8.1.1 e.1)), if_neg (fun e => e.2 (h8.1.2 e.1)), h8.2]; rfl
  have hxy : i ≠ y := by omega
  obtain ⟨hX, hY, hM⟩ := TrD.rn_over (l := l) (to := to) hE hi h6 hxy
  rw [hX, hY, hM, hE]
  have hd' : T.pD to < 48 := by rw [hdd]; exact hd
  obtain ⟨hfx, hadd⟩ := hT.ren_some p2 hd' p5 h6 hxy
  have HR1 := Lib.hid (fun w (h : Sat W w (IsT p T :: L)) => tremove_any h hT hd' h6)
  have HR2 := Lib.hid (fun w (h : Sat W w (IsT p (T.del (T.pD to) (TrD.lastN to)) :: L)) => tremove_any h (hT.del hd' _) p2 hfx)
  have HAD := Lib.hid (fun w (h : Sat W w (IsT p ((T.del (T.pD to) (TrD.lastN to)).del (T.pD l) (TrD.lastN l)) :: L)) => tadd_any h ((hT.del hd' _).del p2 (TrD.lastN l)) (d := T.pD to) (i := i) hd' (TrD.lastN to))
  unfold TrD.addT at HAD
  rw [hadd, if_pos rfl] at HAD
  have hOK2 := hT.put_over p2 hd' p5 h6 hxy
  have p2' : f < 48 := by rw [← hff]; exact p2
  obtain ⟨_, y1, y2⟩ := hT.find_ino (i := T.pD to) (by rw [hdd]; exact hd) h6
  have hy48 : y < 48 := by omega
  have k8 : (y : Int) < 48 := by omega
  rw [hdd, hnn] at h6
  have hh : hasE (T.dir d) nn = true := by rw [← findE_some, h6]; rfl
  rw [h6, hh] at HFI
  obtain ⟨ky, hky⟩ : ∃ ky, T.kind y = ky := ⟨_, rfl⟩
  have HYL := Lib.hid (show (T.dir y).length = 0 by rw [h8.2]; rfl)
  obtain ⟨yl, hyl⟩ : ∃ yl : Nat, 0 = yl := ⟨_, rfl⟩
  rw [hyl] at HYL
  have q3 : decide ((0 : Int) < (yl : Int)) = false := decide_eq_false (by omega)
  have q4 : decide (0 < yl) = false := decide_eq_false (by omega)
  have hb := h8.1
  rw [hkk, hky] at hb
  rw [hdd, hnn, hff, hoo] at HAD HR2 hOK2 ⊢
  rw [hdd, hnn] at HR1
  obtain ⟨T1, hT1⟩ : ∃ T1, T.del d nn = T1 := ⟨_, rfl⟩
  rw [hT1] at HR1 HR2 HAD hOK2 ⊢
  obtain ⟨T2, hT2⟩ : ∃ T2, T1.del f o = T2 := ⟨_, rfl⟩
  rw [hT2] at HR2 HAD hOK2 ⊢
  obtain ⟨T3, hT3⟩ : ∃ T3, T2.put d i nn = T3 := ⟨_, rfl⟩
  rw [hT3] at HAD hOK2 ⊢
  have HKK := Lib.hid (TrD.setK_kind hOK2 hy48 0)
  have HTO := Lib.hid (fun w v T4 (L' : List Asrt) (h : Sat W w (IsT p T4 :: Ir v [f, d, y] :: L')) => ttouch_any h (by simp) (by intro x hx; simp only [List.mem_cons, List.not_mem_nil, or_false] at hx; omega))
  rw [hky]
  by_cases a1 : kk = 2
  · obtain ⟨q1, hu⟩ : (kk == 2) = true ∧ TrD.under to l = false := by
      rcases hvar with hv | hv
      · rw [a1] at hv; cases hv
      · exact hv
    rw [hu] at HUN
    have a2 := hb.2 a1
    have q2 : (ky == 2) = true := by rw [a2]; rfl
    rw [if_pos a2]
    clear hX hY hM hE hr hr' hT h0 h1 h2 h01 hnf hnn h3 hi h4 hlp hne h5 p1 p2 p4 p5 p6 HPL HPL' hff hoo h6 h7 h8 hh hdd hdl hkd hlen hvar hyl a1 a2 hb hadd hfx hd' hOK2 hT1 hT2 hT3
    go_enter Try.func28, Try.ntmps28
    go_wp2_with (first
      | (refine toList (by rfl) ?_; refine wp_of_reads (rLdRd (f := sv1) (x := nn) (HR.out _ hS) (sv1_len to) _ _ (by rfl) _ (by rfl) (agOf (by rfl)) m 0 (by omega) HX.out (by rfl) (by omega)) ?_)
              | (go_at_call 52; refine (HNM.out _).mono ?_; rintro r w1 ⟨rfl, rfl⟩)
      | (go_at_call 26; refine (HWK.out _ hS).mono ?_; rintro r w1 ⟨rfl, hS1⟩; clear hS; have hS := hS1; clear hS1; obtain ⟨v, vt, hO⟩ := IsT.open hS; clear hS; have hS := hO; clear hO)
              | (refine toList (by rfl) ?_; refine ld hS _ _ (by rfl) _ _ (by rfl) (agOf (by rfl)) Has.z (tl_at (i := i) (j := 0) (u := .int .i64 kk) hi48 (by omega) (by rw [← hkk]; rfl)) ?_)
              | (go_at_call 53; refine (HUN.out _ [_, _, _] hS).mono ?_; rintro r w1 ⟨rfl, hS1⟩; clear hS; have hS := (show Sat W w1 (_ :: _ :: _ :: L) from hS1); clear hS1)
      | (go_at_call 33; refine (HP.out _ (IsT.mk hS)).mono ?_; rintro r w1 ⟨rfl, hS1⟩; clear hS; have hS := hS1; clear hS1)
      | (go_at_call 33; refine (HP'.out _ hS).mono ?_; rintro r w1 ⟨rfl, hS1⟩; clear hS; have hS := hS1; clear hS1; obtain ⟨v2, vt2, hO⟩ := IsT.open hS; clear hS; have hS := hO; clear hO; obtain ⟨ao1, c1, hv, _⟩ := rws_shape hS (k := 1) rfl hd; obtain ⟨ao3, c3, hv3, _⟩ := rws_shape hS (k := 1) rfl hy48)
      | (refine toList (by rfl) ?_; refine ld hS _ _ (by rfl) _ _ (by rfl) (agOf (by rfl)) Has.z (tl_at (i := d) (j := 2) (u := .slice ao1 dl c1) hd (by omega) (by rw [← HDL.out, ← hv]; rfl)) ?_)
      | (refine toList (by rfl) ?_; refine ld hS _ _ (by rfl) _ _ (by rfl) (agOf (by rfl)) Has.z (tl_at (i := y) (j := 2) (u := .slice ao3 yl c3) hy48 (by omega) (by rw [← HYL.out, ← hv3]; rfl)) ?_)
      | (go_at_call 34; refine (HFI.out _ _ ao1 c1 hS (fun w h => by rw [← HDL.out, ← hv]; exact rws_rd h (k := 1) rfl hd)).mono ?_; rintro r w1 ⟨rfl, hS1⟩; clear hS; have hS := hS1; clear hS1)
      | (refine toList (by rfl) ?_; refine ld hS _ _ (by rfl) _ _ (by rfl) (agOf (by rfl)) Has.z (tl_at (i := y) (j := 0) (u := .int .i64 ky) hy48 (by omega) (by rw [← hky]; rfl)) ?_)
      | (go_at_call 37; refine (HR1.out _ (IsT.mk hS)).mono ?_; rintro r w1 ⟨rfl, hS1⟩; clear hS; have hS := hS1; clear hS1)
          | (go_at_call 37; refine (HR2.out _ hS).mono ?_; rintro r w1 ⟨rfl, hS1⟩; clear hS; have hS := hS1; clear hS1)
          | (go_at_call 35; refine (HAD.out _ hS).mono ?_; rintro r w1 ⟨rfl, hS1⟩; clear hS; have hS := hS1; clear hS1; obtain ⟨v5, vt5, hO⟩ := IsT.open hS; clear hS; have hS := hO; clear hO)
          | (refine toList (by rfl) ?_; refine st hS _ _ _ (by rfl) _ _ (by rfl) _ (by first | exact evC | exact evT (by rfl)) (by rfl) (szOf (by rfl)) Has.z (by rw [tl_len]; omega) ?_; intro w1 hS1; clear hS; have hS := hS1; clear hS1; simp only [List.set_cons_zero] at hS; rw [tl_setK _ hy48 (by omega)] at hS; replace hS := IsT.mk (T := (T3.setK y 0)) (v := v5) (vt := vt5) (by rw [HKK.out]; exact hS))
          | (refine toList (by rfl) ?_; refine bsF hS _ _ _ (by rfl) (elOf (by rfl)) [.int .i64 (f : Int), .int .i64 (d : Int), .int .i64 (y : Int)] (by rfl) (by rfl) (by decide) (by decide) (by intro v hv; simp only [List.mem_cons, List.not_mem_nil, or_false] at hv; rcases hv with rfl | rfl | rfl <;> rfl) ?_; intro b1 w1 hS1; clear hS; have hS := csIr (l := [f, d, y]) (by simp) (show Sat W w1 (Cs b1 _ (iv [f, d, y]) :: _) from hS1); clear hS1)
          | (go_at_call 36; refine (HTO.out _ _ _ _ hS.pull1).mono ?_; rintro r w1 ⟨rfl, hS1⟩; clear hS; have hS := hS1; clear hS1))
    go_ret3
    exact ⟨rfl, hS⟩
  · have q1 : (kk == 2) = false := beq_eq_false_iff_ne.2 a1
    have a2 : ¬ ky = 2 := fun e => a1 (hb.1 e)
    have q2 : (ky == 2) = false := beq_eq_false_iff_ne.2 a2
    rw [if_neg a2]
    clear hX hY hM hE hr hr' hT h0 h1 h2 h01 hnf hnn h3 hi h4 hlp hne h5 p1 p2 p4 p5 p6 HPL HPL' hff hoo h6 h7 h8 hh hdd hdl hkd hlen hvar hyl a1 a2 hb hadd hfx hd' hOK2 hT1 hT2 hT3
    go_enter Try.func28, Try.ntmps28
    go_wp2_with (first
      | (refine toList (by rfl) ?_; refine wp_of_reads (rLdRd (f := sv1) (x := nn) (HR.out _ hS) (sv1_len to) _ _ (by rfl) _ (by rfl) (agOf (by rfl)) m 0 (by omega) HX.out (by rfl) (by omega)) ?_)
              | (go_at_call 52; refine (HNM.out _).mono ?_; rintro r w1 ⟨rfl, rfl⟩)
      | (go_at_call 26; refine (HWK.out _ hS).mono ?_; rintro r w1 ⟨rfl, hS1⟩; clear hS; have hS := hS1; clear hS1; obtain ⟨v, vt, hO⟩ := IsT.open hS; clear hS; have hS := hO; clear hO)
              | (refine toList (by rfl) ?_; refine ld hS _ _ (by rfl) _ _ (by rfl) (agOf (by rfl)) Has.z (tl_at (i := i) (j := 0) (u := .int .i64 kk) hi48 (by omega) (by rw [← hkk]; rfl)) ?_)
              | (go_at_call 53; refine (HUN.out _ [_, _, _] hS).mono ?_; rintro r w1 ⟨rfl, hS1⟩; clear hS; have hS := (show Sat W w1 (_ :: _ :: _ :: L) from hS1); clear hS1)
      | (go_at_call 33; refine (HP.out _ (IsT.mk hS)).mono ?_; rintro r w1 ⟨rfl, hS1⟩; clear hS; have hS := hS1; clear hS1)
      | (go_at_call 33; refine (HP'.out _ hS).mono ?_; rintro r w1 ⟨rfl, hS1⟩; clear hS; have hS := hS1; clear hS1; obtain ⟨v2, vt2, hO⟩ := IsT.open hS; clear hS; have hS := hO; clear hO; obtain ⟨ao1, c1, hv, _⟩ := rws_shape hS (k := 1) rfl hd; obtain ⟨ao3, c3, hv3, _⟩ := rws_shape hS (k := 1) rfl hy48)
      | (refine toList (by rfl) ?_; refine ld hS _ _ (by rfl) _ _ (by rfl) (agOf (by rfl)) Has.z (tl_at (i := d) (j := 2) (u := .slice ao1 dl c1) hd (by omega) (by rw [← HDL.out, ← hv]; rfl)) ?_)
      | (refine toList (by rfl) ?_; refine ld hS _ _ (by rfl) _ _ (by rfl) (agOf (by rfl)) Has.z (tl_at (i := y) (j := 2) (u := .slice ao3 yl c3) hy48 (by omega) (by rw [← HYL.out, ← hv3]; rfl)) ?_)
      | (go_at_call 34; refine (HFI.out _ _ ao1 c1 hS (fun w h => by rw [← HDL.out, ← hv]; exact rws_rd h (k := 1) rfl hd)).mono ?_; rintro r w1 ⟨rfl, hS1⟩; clear hS; have hS := hS1; clear hS1)
      | (refine toList (by rfl) ?_; refine ld hS _ _ (by rfl) _ _ (by rfl) (agOf (by rfl)) Has.z (tl_at (i := y) (j := 0) (u := .int .i64 ky) hy48 (by omega) (by rw [← hky]; rfl)) ?_)
      | (go_at_call 37; refine (HR1.out _ (IsT.mk hS)).mono ?_; rintro r w1 ⟨rfl, hS1⟩; clear hS; have hS := hS1; clear hS1)
          | (go_at_call 37; refine (HR2.out _ hS).mono ?_; rintro r w1 ⟨rfl, hS1⟩; clear hS; have hS := hS1; clear hS1)
          | (go_at_call 35; refine (HAD.out _ hS).mono ?_; rintro r w1 ⟨rfl, hS1⟩; clear hS; have hS := hS1; clear hS1)
          | (refine toList (by rfl) ?_; refine bsF hS _ _ _ (by rfl) (elOf (by rfl)) [.int .i64 (f : Int), .int .i64 (d : Int), .int .i64 (y : Int)] (by rfl) (by rfl) (by decide) (by decide) (by intro v hv; simp only [List.mem_cons, List.not_mem_nil, or_false] at hv; rcases hv with rfl | rfl | rfl <;> rfl) ?_; intro b1 w1 hS1; clear hS; have hS := csIr (l := [f, d, y]) (by simp) (show Sat W w1 (Cs b1 _ (iv [f, d, y]) :: _) from hS1); clear hS1)
          | (go_at_call 36; refine (HTO.out _ _ _ _ hS.pull1).mono ?_; rintro r w1 ⟨rfl, hS1⟩; clear hS; have hS := hS1; clear hS1))
    go_ret3
    exact ⟨rfl, hS⟩
theorem trename_any {W w : World} {L : List Asrt} {p : Nat} {T : TrD} (hS : Sat W w (IsT p T :: L)) (hT : T.Ok) (l to : List (List UInt8)) (ao ao' : Option Addr) (c c' : Nat) (hr : ∀ w L', Sat W w (L' ++ L) → Rd w (.slice ao l.length c) l.length 1 (l.flatMap sv1)) (hl : l.length ≤ 1000000) (hr' : ∀ w L', Sat W w (L' ++ L) → Rd w (.slice ao' to.length c') to.length 1 (to.flatMap sv1)) (hl' : to.length ≤ 1000000) : Calls Try.prog 28 #[.pointer (some ⟨p, 0, none⟩), .slice ao l.length c, .slice ao' to.length c'] w fun r w' => r = .returned (.tuple #[.int .i64 (T.rnX l to : Nat), .int .i64 (T.rnY l to : Nat), .int .i64 (T.rnE l to)]) ∧ Sat W w' (IsT p (T.rn l to) :: L) := by
  by_cases h01 : l = [] ∨ to = []
  · exact tren_empty hS hT l to ao ao' c c' hr hl hr' hl' h01
  have h0 : l ≠ [] := fun e => h01 (.inl e)
  have h1 : to ≠ [] := fun e => h01 (.inr e)
  by_cases herr : nameOk (TrD.lastN to) = false ∨ (T.walk 0 l).2 ≠ 0 ∨ (T.kind (T.walk 0 l).1.toNat = 2 ∧ TrD.under to l = true ∧ l.length < to.length)
  · exact tren_err hS hT l to ao ao' c c' hr hl hr' hl' h0 h1 herr
  have h2 : nameOk (TrD.lastN to) = true := by
    cases h : nameOk (TrD.lastN to) with
    | true => rfl
    | false => exact absurd (.inl h) herr
  have h3 : (T.walk 0 l).2 = 0 := by
    by_cases h : (T.walk 0 l).2 = 0
    · exact h
    · exact absurd (.inr (.inl h)) herr
  have h4 : ¬ (T.kind (T.walk 0 l).1.toNat = 2 ∧ TrD.under to l = true ∧ l.length < to.length) := fun h => herr (.inr (.inr h))
  have hsame : to = l → T.pE to = 0 ∧ findE (T.dir (T.pD to)) (TrD.lastN to) = some (T.walk 0 l).1 := fun e => by
    subst e
    obtain ⟨p1, _, _, _, p5, _⟩ := hT.parent h0 h3
    exact ⟨p1, p5⟩
  by_cases h5 : T.pE to = 0
  · obtain ⟨_, _, hd, _, _⟩ := hT.pE_zero h5
    cases h6 : findE (T.dir (T.pD to)) (TrD.lastN to) with
    | none =>
      have hne : ¬ to = l := fun e => by rw [(hsame e).2] at h6; cases h6
      by_cases h7 : T.pD to ≠ T.pD l ∧ 64 ≤ (T.dir (T.pD to)).length
      · exact tren_full hS hT l to ao ao' c c' hr hl hr' hl' h0 h1 h2 h3 h4 hne h5 h6 h7
      · exact tren_free hS hT l to ao ao' c c' hr hl hr' hl' h0 h1 h2 h3 h4 hne h5 h6 h7
    | some y =>
      by_cases h7 : (T.walk 0 l).1 = y
      · exact tren_same hS hT l to ao ao' c c' hr hl hr' hl' h0 h1 h2 h3 h4 h5 (by rw [h6, h7])
      · obtain ⟨_, j1, _⟩ := hT.find_ino hd h6
        obtain ⟨m, rfl⟩ := Int.eq_ofNat_of_zero_le (show 0 ≤ y by omega)
        have hne : ¬ to = l := fun e => by rw [(hsame e).2] at h6; exact h7 (Option.some.inj h6)
        by_cases h8 : (T.kind m = 2 ↔ T.kind (T.walk 0 l).1.toNat = 2) ∧ T.dir m = []
        · exact tren_over hS hT l to ao ao' c c' hr hl hr' hl' h0 h1 h2 h3 h4 hne h5 h6 h7 h8
        · exact tren_over_err hS hT l to ao ao' c c' hr hl hr' hl' h0 h1 h2 h3 h4 hne h5 h6 h7 h8
  · have hne : ¬ to = l := fun e => h5 (hsame e).1
    exact tren_to hS hT l to ao ao' c c' hr hl hr' hl' h0 h1 h2 h3 h4 hne h5
end Go.Proofs.Ytiieicdhkcikpaa
