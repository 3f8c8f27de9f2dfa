/-
  The document's tree: Rename (over another one).
-/
import Derived.Test.YtiieicdhkcikpaaMRfc
namespace Go.Proofs.Ytiieicdhkcikpaa
open Go.RowKit Go.Sep
set_option linter.unusedSimpArgs false
set_option linter.unusedVariables false
attribute [local irreducible] Go.Oper.wp Go.wpList Go.Calls Go.Code.wp Go.Sep.Reg
attribute [local irreducible] IsT IsW
set_option maxRecDepth 20000 in
set_option maxHeartbeats 2000000 in
theorem rren_over_f {W w : World} {L : List Asrt} {p : Nat} {T : TrD} (hS : Sat W w (IsW p T :: L)) (hT : T.Ok) (l to : List (List UInt8)) (ao ao' : Option Addr) (c c' : Nat) (hr : ∀ w L', Sat W w (L' ++ L) → Rd w (.slice ao l.length c) l.length 1 (l.flatMap sv1)) (hl : l.length ≤ 1000000) (hr' : ∀ w L', Sat W w (L' ++ L) → Rd w (.slice ao' to.length c') to.length 1 (to.flatMap sv1)) (hl' : to.length ≤ 1000000) (h0 : l ≠ []) (h1 : to ≠ []) (h2 : nameOk (TrD.lastN to) = true) (h3 : (T.walk 0 l).2 = 0) (h4 : ¬ (T.kind (T.walk 0 l).1.toNat = 2 ∧ TrD.under to l = true ∧ l.length < to.length)) (hne : ¬ (to = l)) (h5 : T.pE to = 0) {y : Nat} (h6 : findE (T.dir (T.pD to)) (TrD.lastN to) = some (y : Int)) (h7 : (T.walk 0 l).1 ≠ y) (h8 : (T.kind y = 2 ↔ T.kind (T.walk 0 l).1.toNat = 2) ∧ T.dir y = []) (hA : T.kind (T.walk 0 l).1.toNat ≠ 2) : Calls Try.prog 45 #[.pointer (some ⟨p, 0, none⟩), .slice ao l.length c, .slice ao' to.length c'] w fun r w' => r = .returned (.tuple #[.int .i64 (T.rnX l to : Nat), .int .i64 (T.rnY l to : Nat), .int .i64 (T.rnE l to)]) ∧ Sat W w' (IsW p (T.rn l to) :: L) := by
  obtain ⟨_, _, hd, hkd, hwd⟩ := hT.pE_zero h5
  obtain ⟨i, hi, hi48⟩ := hT.walk_lt l 0 (by omega)
  obtain ⟨p1, p2, p3, p4, p5, p6⟩ := hT.parent h0 h3
  rw [hi] at p5
  have h01 : ¬ (l = [] ∨ to = []) := fun e => e.elim h0 h1
  obtain ⟨_, _, he, hc1, hc2, _, h5⟩ := hr' w [_] hS
  simp only [Value.slice.injEq, true_and] at he
  obtain ⟨rfl, rfl⟩ := he
  obtain ⟨b, off, rfl, _⟩ := h5 (List.length_pos_iff.2 h1)
  clear h5
  obtain ⟨_, _, he, hd1, hd2, _, h5⟩ := hr w [_] hS
  simp only [Value.slice.injEq, true_and] at he
  obtain ⟨rfl, rfl⟩ := he
  obtain ⟨b2, off2, rfl, _⟩ := h5 (List.length_pos_iff.2 h0)
  clear h5
  obtain ⟨m, hm⟩ : ∃ m, to.length = m + 1 := ⟨to.length - 1, by have := List.length_pos_iff.2 h1; omega⟩
  obtain ⟨m2, hm2⟩ : ∃ m, l.length = m + 1 := ⟨l.length - 1, by have := List.length_pos_iff.2 h0; omega⟩
  have HX := Lib.hid (last_at hm).1
  have HX2 := Lib.hid (last_at hm2).1
  have HR := Lib.hid (fun w (L' : List Asrt) (h : Sat W w (L' ++ L)) => hr' w L' h)
  have HR2 := Lib.hid (fun w (L' : List Asrt) (h : Sat W w (L' ++ L)) => hr w L' h)
  have e0 : ((l.length : Int) == 0) = false := beq_eq_false_iff_ne.2 (by omega)
  have e0' : ((to.length : Int) == 0) = false := beq_eq_false_iff_ne.2 (by omega)
  have hsub : (to.length : Int) - 1 = (m : Int) := by omega
  have hsub2 : (l.length : Int) - 1 = (m2 : Int) := by omega
  have k1 : (m : Int) < (to.length : Int) := by omega
  have k2 : m < to.length := by omega
  have k3 : (1 : Int) ≤ (to.length : Int) := by omega
  have k4 : (to.length : Int) ≤ 1000000 := by omega
  have j1 : (m2 : Int) < (l.length : Int) := by omega
  have j2 : m2 < l.length := by omega
  have j3 : (1 : Int) ≤ (l.length : Int) := by omega
  have k4' : (l.length : Int) ≤ 1000000 := by omega
  clear hm hm2
  obtain ⟨nn, hnn⟩ : ∃ nn, TrD.lastN to = nn := ⟨_, rfl⟩
  rw [hnn] at HX
  have HNM := Lib.hid (fun w => rname_any nn w)
  have HUN := Lib.hid (fun w (L' : List Asrt) (h : Sat W w (L' ++ L)) => runder_any h to l _ _ c' c (fun w h => hr' w L' h) (fun w h => hr w L' h) hl' hl)
  have HWK := Lib.hid (fun w (h : Sat W w (IsW p T :: L)) => rwalk_any h hT l _ c hr hl)
  have HPT0 := Lib.hid (fun w (h : Sat W w (IsW p T :: L)) => rparent_any h hT to _ c' hr' hl' h1)
  have HPL0 := Lib.hid (fun w (h : Sat W w (IsW p T :: L)) => rparent_any h hT l _ c hr hl h0)
  rw [hnn] at h2
  obtain ⟨f, hff⟩ : ∃ f, T.pD l = f := ⟨_, rfl⟩
  obtain ⟨o, hoo⟩ : ∃ o, TrD.lastN l = o := ⟨_, rfl⟩
  rw [hoo] at HX2
  have HPL := Lib.hid (fun w (h : Sat W w (IsW p T :: L)) => (show Calls Try.prog 64 #[.pointer (some ⟨p, 0, none⟩), .slice (some ⟨b2, off2, none⟩) l.length c] w fun r w' => r = .returned (.tuple #[.int .i64 (f : Nat), .int .i64 0]) ∧ Sat W w' (IsW p T :: L) from
    (HPL0.out w h).mono fun r w' ⟨dd, h1, h2, h3⟩ => by rw [h2 p3 p4, if_pos p3, if_pos p4, hff] at h1; exact ⟨h1, h3⟩))
  rw [h2] at HNM
  have hnf : ¬ nameOk nn = false := by rw [h2]; decide
  rw [hi, h3] at HWK
  have hpe : T.pE to = if (T.walk 0 to.dropLast).2 = 0 then (if T.kind (T.pD to) = 2 then 0 else 8) else (T.walk 0 to.dropLast).2 := by unfold TrD.pE; rw [if_neg h1, hnn, h2, if_pos rfl]; rfl
  rw [← hpe] at HPT0
  obtain ⟨kk, hkk⟩ : ∃ kk, T.kind i = kk := ⟨_, rfl⟩
  have k5 : (i : Int) < 48 := by omega
  have k7 : (f : Int) < 48 := by rw [← hff]; omega
  have hlp : ¬ (T.kind (T.walk 0 l).1.toNat = 2 ∧ TrD.under to l = true ∧ l.length < to.length) := h4
  rw [hi, Int.toNat_natCast, hkk] at h4
  have HPT := Lib.hid (fun w (h : Sat W w (IsW p T :: L)) => (show Calls Try.prog 64 #[.pointer (some ⟨p, 0, none⟩), .slice (some ⟨b, off, none⟩) to.length c'] w fun r w' => r = .returned (.tuple #[.int .i64 (T.pD to : Nat), .int .i64 0]) ∧ Sat W w' (IsW p T :: L) from
    (HPT0.out w h).mono fun r w' ⟨dd, h1, h2, h3⟩ => by rw [h2 (by rw [hwd]) hkd, h5] at h1; exact ⟨h1, h3⟩))
  obtain ⟨d, hdd⟩ : ∃ d, T.pD to = d := ⟨_, rfl⟩
  have hlen := hT.len _ (hT.dir_mem hd)
  rw [hdd] at hd hlen HPT
  obtain ⟨dl, hdl⟩ : ∃ dl, (T.dir d).length = dl := ⟨_, rfl⟩
  have HDL := Lib.hid hdl
  have HFI := Lib.hid (fun w (L' : List Asrt) ao1 c1 (h : Sat W w L') (hr : ∀ w, Sat W w L' → Rd w (.slice ao1 dl c1) dl 2 ((T.dir d).flatMap ev2)) => (show Calls Try.prog 65 #[.slice ao1 dl c1, sv nn] w fun r w' => r = .returned (.tuple #[.int .i64 ((findE (T.dir d) nn).getD 0), .bool (hasE (T.dir d) nn)]) ∧ Sat W w' L' by
    have := rfind_any h (T.dir d) ao1 c1 nn (by rw [hdl]; exact hr) (by omega)
    rw [hdl] at this; exact this))
  have k6 : (d : Int) < 48 := by omega
  have hvar : (kk == 2) = false ∨ ((kk == 2) = true ∧ TrD.under to l = false) := by
    by_cases e : kk = 2
    · refine .inr ⟨by rw [e]; rfl, ?_⟩
      cases hu : TrD.under to l with
      | false => rfl
      | true =>
        exfalso
        have h9 : ¬ l.length < to.length := fun h9 => h4 ⟨e, hu, h9⟩
        unfold TrD.under at hu
        simp only [Bool.and_eq_true, decide_eq_true_eq] at hu
        rw [List.take_of_length_le (by omega)] at hu
        exact hne hu.2
    · exact .inl (beq_eq_false_iff_ne.2 e)
  rw [hi] at h7
  have e7 : ((i : Int) == (y : Int)) = false := beq_eq_false_iff_ne.2 h7
  have e7' : (i == y) = false := beq_eq_false_iff_ne.2 (by omega)
  rw [hi, Int.toNat_natCast] at h8
  have hE : T.rnE l to = 0 := by
    unfold TrD.rnE; rw [if_neg h01, hnn, if_neg hnf, if_neg (fun e => e h3), if_neg hlp, if_neg (fun e => e h5), ← hnn, h6]; dsimp only; rw [hi, if_neg h7, Int.toNat_natCast, Int.toNat_natCast, if_neg (fun e => e.2 (h8.1.1 e.1)), if_neg (fun e => e.2 (h8.1.2 e.1)), h8.2]; rfl
  have hxy : i ≠ y := by omega
  obtain ⟨hX, hY, hM⟩ := TrD.rn_over (l := l) (to := to) hE hi h6 hxy
  rw [hX, hY, hM, hE]
  have hd' : T.pD to < 48 := by rw [hdd]; exact hd
  obtain ⟨_, hadd⟩ := hT.ren_some p2 hd' p5 h6 hxy
  obtain ⟨hfy, _⟩ := hT.ren_some hd' p2 h6 p5 (fun e => hxy e.symm)
  rw [TrD.del_comm T (T.pD to) (T.pD l)] at hadd ⊢
  have p2' : f < 48 := by rw [← hff]; exact p2
  obtain ⟨_, y1, y2⟩ := hT.find_ino (i := T.pD to) (by rw [hdd]; exact hd) h6
  have hy48 : y < 48 := by omega
  have k8 : (y : Int) < 48 := by omega
  rw [hdd, hnn] at h6
  have hh : hasE (T.dir d) nn = true := by rw [← findE_some, h6]; rfl
  rw [h6, hh] at HFI
  obtain ⟨ky, hky⟩ : ∃ ky, T.kind y = ky := ⟨_, rfl⟩
  have HYL := Lib.hid (show (T.dir y).length = 0 by rw [h8.2]; rfl)
  obtain ⟨yl, hyl⟩ : ∃ yl : Nat, 0 = yl := ⟨_, rfl⟩
  rw [hyl] at HYL
  have q3 : decide ((0 : Int) < (yl : Int)) = false := decide_eq_false (by omega)
  have q4 : decide (0 < yl) = false := decide_eq_false (by omega)
  have hb := h8.1
  rw [hkk, hky] at hb
  rw [hdd, hnn, hff, hoo] at hadd hfy ⊢
  rw [hff, hoo] at p5
  have HRE := Lib.hid (fun w L' ao1 c1 (h : Sat W w L') hr => rm_yes hT p2' p5 w L' ao1 c1 h hr)
  have HD1 := Lib.hid (TrD.del_dir' hT p2' o)
  have HK1 := Lib.hid (show (T.del f o).kind = T.kind from rfl)
  have HL1 := Lib.hid (show (T.del f o).last = T.last from rfl)
  have hok1 := hT.del p2' o
  obtain ⟨T1, hT1⟩ : ∃ T1, T.del f o = T1 := ⟨_, rfl⟩
  rw [hT1] at hadd hfy HD1 HK1 HL1 hok1 ⊢
  have hky1 : T1.kind y = ky := by rw [HK1.out]; exact hky
  have HRM := Lib.hid (fun w L' ao1 c1 (h : Sat W w L') hr => rm_yes hok1 hd hfy w L' ao1 c1 h hr)
  have HD2 := Lib.hid (TrD.del_dir' hok1 hd nn)
  have HK2 := Lib.hid (show (T1.del d nn).kind = T1.kind from rfl)
  have HL2 := Lib.hid (show (T1.del d nn).last = T1.last from rfl)
  have hok2 := hok1.del hd nn
  obtain ⟨T2, hT2⟩ : ∃ T2, T1.del d nn = T2 := ⟨_, rfl⟩
  rw [hT2] at hadd HD2 HK2 HL2 hok2 ⊢
  have hky2 : T2.kind y = ky := by rw [HK2.out]; exact hky1
  rw [hky]
  have a1 := hA
  rw [hi, Int.toNat_natCast, hkk] at a1
  have q1 : (kk == 2) = false := beq_eq_false_iff_ne.2 a1
  have q1' : (kk != 2) = true := bne_iff_ne.2 a1
  have a2 : ¬ ky = 2 := fun e => a1 (hb.1 e)
  have q2 : (ky == 2) = false := beq_eq_false_iff_ne.2 a2
  have q2' : (ky != 2) = true := bne_iff_ne.2 a2
  rw [if_neg a2]
  have HAD := Lib.hid (fun w L' ao1 c1 (h : Sat W w L') hr => ad_yes hok2 hd hadd w L' ao1 c1 h hr)
  have HD4 := Lib.hid (TrD.put_dir hok2 hd i nn)
  have HK4 := Lib.hid (show (T2.put d i nn).kind = T2.kind from rfl)
  have HL4 := Lib.hid (show (T2.put d i nn).last = T2.last from rfl)
  obtain ⟨T4, hT4⟩ : ∃ T4, T2.put d i nn = T4 := ⟨_, rfl⟩
  rw [hT4] at HD4 HK4 HL4 ⊢
  have HTO := Lib.hid (fun w v (L' : List Asrt) (h : Sat W w (IsW p T4 :: Ir v [f, d, y] :: L')) => rtouch_any h (by simp))
  clear hA hX hY hM hE hr hr' h0 h1 h2 h01 hnf hnn h3 hi h4 hlp h5 p1 p2 p3 p4 p5 p6 HPL0 HPT0 hff hoo hpe hne h6 h7 h8 hh hdd hdl hkd hwd hlen hvar hyl a1 a2 hb hadd hfy hd' hT1 hT2 hT4 hok1 hok2
  go_enter Try.func45, Try.ntmps45
  go_wp2_with (first
    | (refine toList (by rfl) ?_; refine wp_of_reads (rLdRd (f := sv1) (x := nn) (u := .string ⟨nn.toArray⟩) (HR.out _ [_] hS) (sv1_len to) _ _ (by rfl) _ (by rfl) (agOf (by rfl)) m 0 (by omega) HX.out (by rfl) (by omega)) ?_)
            | (go_at_call 63; refine (HNM.out _).mono ?_; rintro r w1 ⟨rfl, rfl⟩)
    | (go_at_call 47; refine (HWK.out _ hS).mono ?_; rintro r w1 ⟨rfl, hS1⟩; clear hS; have hS := hS1; clear hS1; obtain ⟨v, vt, hO⟩ := IsW.open hS; clear hS; have hS := hO; clear hO)
            | (refine toList (by rfl) ?_; refine ld hS _ _ (by rfl) _ _ (by rfl) (agOf (by rfl)) Has.z (wl_ku (z := kk) hi48 (by omega) hkk) ?_)
            | (go_at_call 69; refine (HUN.out _ [_, _, _] hS).mono ?_; rintro r w1 ⟨rfl, hS1⟩; clear hS; have hS := (show Sat W w1 (_ :: _ :: _ :: L) from hS1); clear hS1)
    | (go_at_call 64; refine (HPT.out _ (IsW.mk hS)).mono ?_; rintro r w1 ⟨rfl, hS1⟩; clear hS; have hS := hS1; clear hS1; obtain ⟨v, vt, hO⟩ := IsW.open hS; clear hS; have hS := hO; clear hO)
            | (go_at_call 64; refine (HPL.out _ (IsW.mk hS)).mono ?_; rintro r w1 ⟨rfl, hS1⟩; clear hS; have hS := hS1; clear hS1; obtain ⟨v, vt, hO⟩ := IsW.open hS; clear hS; have hS := hO; clear hO; obtain ⟨ao1, c1, hv, _⟩ := rws_shape hS (k := 1) rfl hd; rw [HDL.out] at hv; obtain ⟨ao3, c3, hv3, _⟩ := rws_shape hS (k := 1) rfl hy48; rw [HYL.out] at hv3)
            | (refine toList (by rfl) ?_; refine wp_of_reads (rLdRd (f := sv1) (x := nn) (u := .string ⟨nn.toArray⟩) (HR.out _ [_, _, _] hS) (sv1_len to) _ _ (by rfl) _ (by rfl) (agOf (by rfl)) m 0 (by omega) HX.out (by rfl) (by omega)) ?_)
            | (refine toList (by rfl) ?_; refine ld hS _ _ (by rfl) _ _ (by rfl) (agOf (by rfl)) Has.z (wl_vu (u := .slice ao1 dl c1) hd (by omega) hv) ?_)
            | (go_at_call 65; refine (HFI.out _ _ ao1 c1 hS (fun w h => by rw [← hv]; have := rws_rd h (k := 1) rfl hd; rw [HDL.out] at this; exact this)).mono ?_; rintro r w1 ⟨rfl, hS1⟩; clear hS; have hS := hS1; clear hS1)
    | (refine toList (by rfl) ?_; refine ld hS _ _ (by rfl) _ _ (by rfl) (agOf (by rfl)) Has.z (wl_vu (u := .slice ao3 yl c3) hy48 (by omega) hv3) ?_)
    | (refine toList (by rfl) ?_; refine ld hS _ _ (by rfl) _ _ (by rfl) (agOf (by rfl)) Has.z (wl_ku (z := ky) hy48 (by omega) hky) ?_))
  replace hS := IsW.mk hS
  obtain ⟨v, vt, hO⟩ := IsW.open hS
  clear hS
  have hS := hO
  clear hO
  obtain ⟨ao1, c1, hv, _⟩ := rws_shape hS (k := 1) rfl p2'
  refine regStart [14, 21] hS (by kernel_rfl) rfl ?_
  intro w1 hS1
  clear hS; have hS := hS1; clear hS1
  (refine regP 0 hS (fun _ h => h) rfl (by kernel_rfl) (by kernel_rfl) (by kernel_rfl) (fun _ _ _ _ h => h) (by rfl) (by rfl) ?_; apply Exists.intro; apply And.intro; (intro w; go_simp; try with_reducible rfl); go_frame)
  (refine regP 1 hS (fun _ h => h) rfl (by kernel_rfl) (by kernel_rfl) (by kernel_rfl) (fun _ _ _ _ h => h) (by rfl) (by rfl) ?_; apply Exists.intro; apply And.intro; (intro w; go_simp; try with_reducible rfl); go_frame)
  (refine regP 2 hS (fun _ h => h) rfl (by kernel_rfl) (by kernel_rfl) (by kernel_rfl) (fun _ _ _ _ h => h) (by rfl) (by rfl) ?_; apply Exists.intro; apply And.intro; (intro w; go_simp; try with_reducible rfl); go_frame)
  (refine regP 3 hS (fun _ h => h) rfl (by kernel_rfl) (by kernel_rfl) (by kernel_rfl) (fun _ _ _ _ h => h) (by rfl) (by rfl) ?_; apply Exists.intro; apply And.intro; (intro w; go_simp; try with_reducible rfl); go_frame)
  (refine regP 4 hS (fun _ h => h) rfl (by kernel_rfl) (by kernel_rfl) (by kernel_rfl) (fun _ _ _ _ h => h) (by rfl) (by rfl) ?_; apply Exists.intro; apply And.intro; (intro w; go_simp; try with_reducible rfl); go_frame)
  (refine regP 5 hS (fun _ h => h) rfl (by kernel_rfl) (by kernel_rfl) (by kernel_rfl) (fun _ _ _ _ h => h) (by rfl) (by rfl) ?_; apply Exists.intro; apply And.intro; (intro w; go_simp; try with_reducible rfl); go_frame)
  (refine regP 6 hS (fun _ h => h) rfl (by kernel_rfl) (by kernel_rfl) (by kernel_rfl) (fun _ _ _ _ h => h) (by rfl) (by rfl) ?_; apply Exists.intro; apply And.intro; (intro w; go_simp; try with_reducible rfl); go_frame)
  (refine regR 7 hS (fun _ h => h) rfl (by kernel_rfl) (by kernel_rfl) (by kernel_rfl) (by kernel_rfl) (by kernel_rfl) (fun _ _ _ _ h => h) (by rfl) (by rfl) ?_; ((first
        | refine ⟨.slice ao1 (T.dir f).length c1, yLd _ _ (by rfl) _ _ (by rfl) (agOf (by rfl)) Has.z (wl_vu (u := .slice ao1 (T.dir f).length c1) p2' (by omega) hv), ?_⟩
        | refine ⟨.string ⟨o.toArray⟩, fun u hu => rLdRd (f := sv1) (x := o) (HR2.out _ [_, _, _] hu) (sv1_len l) _ _ (by rfl) _ (by rfl) (agOf (by rfl)) m2 0 (by omega) HX2.out (by rfl) (by omega), ?_⟩)); go_frame)
  (refine regP 8 hS (fun _ h => h) rfl (by kernel_rfl) (by kernel_rfl) (by kernel_rfl) (fun _ _ _ _ h => h) (by rfl) (by rfl) ?_; apply Exists.intro; apply And.intro; (intro w; go_simp; try with_reducible rfl); go_frame)
  (refine regP 9 hS (fun _ h => h) rfl (by kernel_rfl) (by kernel_rfl) (by kernel_rfl) (fun _ _ _ _ h => h) (by rfl) (by rfl) ?_; apply Exists.intro; apply And.intro; (intro w; go_simp; try with_reducible rfl); go_frame)
  (refine regP 10 hS (fun _ h => h) rfl (by kernel_rfl) (by kernel_rfl) (by kernel_rfl) (fun _ _ _ _ h => h) (by rfl) (by rfl) ?_; apply Exists.intro; apply And.intro; (intro w; go_simp; try with_reducible rfl); go_frame)
  (refine regP 11 hS (fun _ h => h) rfl (by kernel_rfl) (by kernel_rfl) (by kernel_rfl) (fun _ _ _ _ h => h) (by rfl) (by rfl) ?_; apply Exists.intro; apply And.intro; (intro w; go_simp; try with_reducible rfl); go_frame; try simp (disch := omega) only [IntWalk.i64_in])
  (refine regP 12 hS (fun _ h => h) rfl (by kernel_rfl) (by kernel_rfl) (by kernel_rfl) (fun _ _ _ _ h => h) (by rfl) (by rfl) ?_; apply Exists.intro; apply And.intro; (intro w; go_simp; try with_reducible rfl); go_frame)
  (refine regR 13 hS (fun _ h => h) rfl (by kernel_rfl) (by kernel_rfl) (by kernel_rfl) (by kernel_rfl) (by kernel_rfl) (fun _ _ _ _ h => h) (by rfl) (by rfl) ?_; ((first
        | refine ⟨.slice ao1 (T.dir f).length c1, yLd _ _ (by rfl) _ _ (by rfl) (agOf (by rfl)) Has.z (wl_vu (u := .slice ao1 (T.dir f).length c1) p2' (by omega) hv), ?_⟩
        | refine ⟨.string ⟨o.toArray⟩, fun u hu => rLdRd (f := sv1) (x := o) (HR2.out _ [_, _, _] hu) (sv1_len l) _ _ (by rfl) _ (by rfl) (agOf (by rfl)) m2 0 (by omega) HX2.out (by rfl) (by omega), ?_⟩)); go_frame)
  (refine regP 18 hS (fun _ h => h) rfl (by kernel_rfl) (by kernel_rfl) (by kernel_rfl) (fun _ _ _ _ h => h) (by rfl) (by rfl) ?_; apply Exists.intro; apply And.intro; (intro w; go_simp; try with_reducible rfl); go_frame)
  (refine regP 19 hS (fun _ h => h) rfl (by kernel_rfl) (by kernel_rfl) (by kernel_rfl) (fun _ _ _ _ h => h) (by rfl) (by rfl) ?_; apply Exists.intro; apply And.intro; (intro w; go_simp; try with_reducible rfl); go_frame)
  (refine regA 14 rfl (by kernel_rfl) (by rfl) (by rfl) true (by kernel_rfl) (fun K hK => ?_); ((first
          | (refine Go.Sep.cl 68 _ _ (by rfl) (by rfl) (by kernel_rfl) (HRE.out _ _ ao1 c1 hS (fun w h => by rw [← hv]; exact rws_rd h (k := 1) rfl p2')) ?_; rintro r w1 ⟨v', rfl, hS1⟩; clear hS; have hS := hS1; clear hS1; obtain ⟨ao2, c2, rfl, _⟩ := Sat.tbShape (k := 0) (show Sat _ _ (Tb 59 2 ev2 v' (remE (T.dir f) o) :: _) from hS) rfl; replace hS := hS.pull1; refine ⟨_, rfl, ?_⟩)
          | (refine st hS _ _ _ (by rfl) _ _ (by rfl) _ (by first | exact evC | exact evT (by rfl)) (by rfl) (szOf (by rfl)) Has.z (by rw [wl_len]; omega) ?_; intro w1 hS1; clear hS; have hS := hS1; clear hS1; simp only [List.set_cons_zero] at hS; rw [wl_setV _ p2' (by omega)] at hS))); refine hK _ _ _ hS (by first | (intro h; cases h; done) | exact fun _ _ h => h | exact fun _ _ h => h.drop | exact fun _ _ h => h.drop.drop | exact fun _ _ h => h.drop.pull1 | exact fun _ _ h => h.take2 | exact fun _ _ h => h.one Has.z | exact fun _ _ h => h.one (Has.s Has.z) | exact fun _ _ h => h.one (Has.s (Has.s Has.z))) ?_; clear hK K; go_frame)
  (refine regP 15 hS (fun _ h => h) rfl (by kernel_rfl) (by kernel_rfl) (by kernel_rfl) (fun _ _ _ _ h => h) (by rfl) (by rfl) ?_; apply Exists.intro; apply And.intro; (intro w; go_simp; try with_reducible rfl); go_frame)
  (refine regP 16 hS (fun _ h => h) rfl (by kernel_rfl) (by kernel_rfl) (by kernel_rfl) (fun _ _ _ _ h => h) (by rfl) (by rfl) ?_; apply Exists.intro; apply And.intro; (intro w; go_simp; try with_reducible rfl); go_frame)
  (refine regP 17 hS (fun _ h => h) rfl (by kernel_rfl) (by kernel_rfl) (by kernel_rfl) (fun _ _ _ _ h => h) (by rfl) (by rfl) ?_; apply Exists.intro; apply And.intro; (intro w; go_simp; try with_reducible rfl); go_frame)
  (refine regP 20 hS (fun _ h => h) rfl (by kernel_rfl) (by kernel_rfl) (by kernel_rfl) (fun _ _ _ _ h => h) (by rfl) (by rfl) ?_; apply Exists.intro; apply And.intro; (intro w; go_simp; try with_reducible rfl); go_frame)
  (refine regA 21 rfl (by kernel_rfl) (by rfl) (by rfl) true (by kernel_rfl) (fun K hK => ?_); ((first
          | (refine Go.Sep.cl 68 _ _ (by rfl) (by rfl) (by kernel_rfl) (HRE.out _ _ ao1 c1 hS (fun w h => by rw [← hv]; exact rws_rd h (k := 1) rfl p2')) ?_; rintro r w1 ⟨v', rfl, hS1⟩; clear hS; have hS := hS1; clear hS1; obtain ⟨ao2, c2, rfl, _⟩ := Sat.tbShape (k := 0) (show Sat _ _ (Tb 59 2 ev2 v' (remE (T.dir f) o) :: _) from hS) rfl; replace hS := hS.pull1; refine ⟨_, rfl, ?_⟩)
          | (refine st hS _ _ _ (by rfl) _ _ (by rfl) _ (by first | exact evC | exact evT (by rfl)) (by rfl) (szOf (by rfl)) Has.z (by rw [wl_len]; omega) ?_; intro w1 hS1; clear hS; have hS := hS1; clear hS1; simp only [List.set_cons_zero] at hS; rw [wl_setV _ p2' (by omega)] at hS))); refine hK _ _ _ hS (by first | (intro h; cases h; done) | exact fun _ _ h => h | exact fun _ _ h => h.drop | exact fun _ _ h => h.drop.drop | exact fun _ _ h => h.drop.pull1 | exact fun _ _ h => h.take2 | exact fun _ _ h => h.one Has.z | exact fun _ _ h => h.one (Has.s Has.z) | exact fun _ _ h => h.one (Has.s (Has.s Has.z))) ?_; clear hK K; go_frame)
  refine regDone (by kernel_rfl) ?_
  replace hS := putW p2' HK1.out HD1.out HL1.out hS
  obtain ⟨v, vt, hO⟩ := IsW.open hS
  clear hS
  have hS := hO
  clear hO
  obtain ⟨ao1, c1, hv, _⟩ := rws_shape hS (k := 1) rfl hd
  go_wp2
  refine regStart [9, 16] hS (by kernel_rfl) rfl ?_
  intro w1 hS1
  clear hS; have hS := hS1; clear hS1
  (refine regP 0 hS (fun _ h => h) rfl (by kernel_rfl) (by kernel_rfl) (by kernel_rfl) (fun _ _ _ _ h => h) (by rfl) (by rfl) ?_; apply Exists.intro; apply And.intro; (intro w; go_simp; try with_reducible rfl); go_frame)
  (refine regP 1 hS (fun _ h => h) rfl (by kernel_rfl) (by kernel_rfl) (by kernel_rfl) (fun _ _ _ _ h => h) (by rfl) (by rfl) ?_; apply Exists.intro; apply And.intro; (intro w; go_simp; try with_reducible rfl); go_frame)
  (refine regP 2 hS (fun _ h => h) rfl (by kernel_rfl) (by kernel_rfl) (by kernel_rfl) (fun _ _ _ _ h => h) (by rfl) (by rfl) ?_; apply Exists.intro; apply And.intro; (intro w; go_simp; try with_reducible rfl); go_frame)
  (refine regP 3 hS (fun _ h => h) rfl (by kernel_rfl) (by kernel_rfl) (by kernel_rfl) (fun _ _ _ _ h => h) (by rfl) (by rfl) ?_; apply Exists.intro; apply And.intro; (intro w; go_simp; try with_reducible rfl); go_frame)
  (refine regP 4 hS (fun _ h => h) rfl (by kernel_rfl) (by kernel_rfl) (by kernel_rfl) (fun _ _ _ _ h => h) (by rfl) (by rfl) ?_; apply Exists.intro; apply And.intro; (intro w; go_simp; try with_reducible rfl); go_frame)
  (refine regP 5 hS (fun _ h => h) rfl (by kernel_rfl) (by kernel_rfl) (by kernel_rfl) (fun _ _ _ _ h => h) (by rfl) (by rfl) ?_; apply Exists.intro; apply And.intro; (intro w; go_simp; try with_reducible rfl); go_frame)
  (refine regP 6 hS (fun _ h => h) rfl (by kernel_rfl) (by kernel_rfl) (by kernel_rfl) (fun _ _ _ _ h => h) (by rfl) (by rfl) ?_; apply Exists.intro; apply And.intro; (intro w; go_simp; try with_reducible rfl); go_frame)
  (refine regR 7 hS (fun _ h => h) rfl (by kernel_rfl) (by kernel_rfl) (by kernel_rfl) (by kernel_rfl) (by kernel_rfl) (fun _ _ _ _ h => h) (by rfl) (by rfl) ?_; ((first
        | refine ⟨.slice ao1 (T1.dir d).length c1, yLd _ _ (by rfl) _ _ (by rfl) (agOf (by rfl)) Has.z (wl_vu (u := .slice ao1 (T1.dir d).length c1) hd (by omega) hv), ?_⟩
        | refine ⟨.string ⟨o.toArray⟩, fun u hu => rLdRd (f := sv1) (x := o) (HR2.out _ [_, _, _] hu) (sv1_len l) _ _ (by rfl) _ (by rfl) (agOf (by rfl)) m2 0 (by omega) HX2.out (by rfl) (by omega), ?_⟩)); go_frame)
  (refine regP 8 hS (fun _ h => h) rfl (by kernel_rfl) (by kernel_rfl) (by kernel_rfl) (fun _ _ _ _ h => h) (by rfl) (by rfl) ?_; apply Exists.intro; apply And.intro; (intro w; go_simp; try with_reducible rfl); go_frame)
  (refine regP 13 hS (fun _ h => h) rfl (by kernel_rfl) (by kernel_rfl) (by kernel_rfl) (fun _ _ _ _ h => h) (by rfl) (by rfl) ?_; apply Exists.intro; apply And.intro; (intro w; go_simp; try with_reducible rfl); go_frame)
  (refine regP 14 hS (fun _ h => h) rfl (by kernel_rfl) (by kernel_rfl) (by kernel_rfl) (fun _ _ _ _ h => h) (by rfl) (by rfl) ?_; apply Exists.intro; apply And.intro; (intro w; go_simp; try with_reducible rfl); go_frame)
  (refine regA 9 rfl (by kernel_rfl) (by rfl) (by rfl) true (by kernel_rfl) (fun K hK => ?_); ((first
          | (refine Go.Sep.cl 68 _ _ (by rfl) (by rfl) (by kernel_rfl) (HRM.out _ _ ao1 c1 hS (fun w h => by rw [← hv]; exact rws_rd h (k := 1) rfl hd)) ?_; rintro r w1 ⟨v', rfl, hS1⟩; clear hS; have hS := hS1; clear hS1; obtain ⟨ao2, c2, rfl, _⟩ := Sat.tbShape (k := 0) (show Sat _ _ (Tb 59 2 ev2 v' (remE (T1.dir d) nn) :: _) from hS) rfl; replace hS := hS.pull1; refine ⟨_, rfl, ?_⟩)
          | (refine st hS _ _ _ (by rfl) _ _ (by rfl) _ (by first | exact evC | exact evT (by rfl)) (by rfl) (szOf (by rfl)) Has.z (by rw [wl_len]; omega) ?_; intro w1 hS1; clear hS; have hS := hS1; clear hS1; simp only [List.set_cons_zero] at hS; rw [wl_setV _ hd (by omega)] at hS))); refine hK _ _ _ hS (by first | (intro h; cases h; done) | exact fun _ _ h => h | exact fun _ _ h => h.drop | exact fun _ _ h => h.drop.drop | exact fun _ _ h => h.drop.pull1 | exact fun _ _ h => h.take2 | exact fun _ _ h => h.one Has.z | exact fun _ _ h => h.one (Has.s Has.z) | exact fun _ _ h => h.one (Has.s (Has.s Has.z))) ?_; clear hK K; go_frame)
  (refine regP 10 hS (fun _ h => h) rfl (by kernel_rfl) (by kernel_rfl) (by kernel_rfl) (fun _ _ _ _ h => h) (by rfl) (by rfl) ?_; apply Exists.intro; apply And.intro; (intro w; go_simp; try with_reducible rfl); go_frame)
  (refine regP 11 hS (fun _ h => h) rfl (by kernel_rfl) (by kernel_rfl) (by kernel_rfl) (fun _ _ _ _ h => h) (by rfl) (by rfl) ?_; apply Exists.intro; apply And.intro; (intro w; go_simp; try with_reducible rfl); go_frame)
  (refine regP 12 hS (fun _ h => h) rfl (by kernel_rfl) (by kernel_rfl) (by kernel_rfl) (fun _ _ _ _ h => h) (by rfl) (by rfl) ?_; apply Exists.intro; apply And.intro; (intro w; go_simp; try with_reducible rfl); go_frame)
  (refine regP 15 hS (fun _ h => h) rfl (by kernel_rfl) (by kernel_rfl) (by kernel_rfl) (fun _ _ _ _ h => h) (by rfl) (by rfl) ?_; apply Exists.intro; apply And.intro; (intro w; go_simp; try with_reducible rfl); go_frame)
  (refine regA 16 rfl (by kernel_rfl) (by rfl) (by rfl) true (by kernel_rfl) (fun K hK => ?_); ((first
          | (refine Go.Sep.cl 68 _ _ (by rfl) (by rfl) (by kernel_rfl) (HRM.out _ _ ao1 c1 hS (fun w h => by rw [← hv]; exact rws_rd h (k := 1) rfl hd)) ?_; rintro r w1 ⟨v', rfl, hS1⟩; clear hS; have hS := hS1; clear hS1; obtain ⟨ao2, c2, rfl, _⟩ := Sat.tbShape (k := 0) (show Sat _ _ (Tb 59 2 ev2 v' (remE (T1.dir d) nn) :: _) from hS) rfl; replace hS := hS.pull1; refine ⟨_, rfl, ?_⟩)
          | (refine st hS _ _ _ (by rfl) _ _ (by rfl) _ (by first | exact evC | exact evT (by rfl)) (by rfl) (szOf (by rfl)) Has.z (by rw [wl_len]; omega) ?_; intro w1 hS1; clear hS; have hS := hS1; clear hS1; simp only [List.set_cons_zero] at hS; rw [wl_setV _ hd (by omega)] at hS))); refine hK _ _ _ hS (by first | (intro h; cases h; done) | exact fun _ _ h => h | exact fun _ _ h => h.drop | exact fun _ _ h => h.drop.drop | exact fun _ _ h => h.drop.pull1 | exact fun _ _ h => h.take2 | exact fun _ _ h => h.one Has.z | exact fun _ _ h => h.one (Has.s Has.z) | exact fun _ _ h => h.one (Has.s (Has.s Has.z))) ?_; clear hK K; go_frame)
  refine regDone (by kernel_rfl) ?_
  replace hS := putW hd HK2.out HD2.out HL2.out hS
  obtain ⟨v, vt, hO⟩ := IsW.open hS
  clear hS
  have hS := hO
  clear hO
  obtain ⟨ao1, c1, hv, _⟩ := rws_shape hS (k := 1) rfl hd
  go_wp2_with (first
    | (refine toList (by rfl) ?_; refine ld hS _ _ (by rfl) _ _ (by rfl) (agOf (by rfl)) Has.z (wl_ku (z := ky) hy48 (by omega) hky2) ?_))
  refine regStart [11, 18] hS (by kernel_rfl) rfl ?_
  intro w1 hS1
  clear hS; have hS := hS1; clear hS1
  (refine regP 0 hS (fun _ h => h) rfl (by kernel_rfl) (by kernel_rfl) (by kernel_rfl) (fun _ _ _ _ h => h) (by rfl) (by rfl) ?_; apply Exists.intro; apply And.intro; (intro w; go_simp; try with_reducible rfl); go_frame)
  (refine regP 1 hS (fun _ h => h) rfl (by kernel_rfl) (by kernel_rfl) (by kernel_rfl) (fun _ _ _ _ h => h) (by rfl) (by rfl) ?_; apply Exists.intro; apply And.intro; (intro w; go_simp; try with_reducible rfl); go_frame)
  (refine regP 2 hS (fun _ h => h) rfl (by kernel_rfl) (by kernel_rfl) (by kernel_rfl) (fun _ _ _ _ h => h) (by rfl) (by rfl) ?_; apply Exists.intro; apply And.intro; (intro w; go_simp; try with_reducible rfl); go_frame)
  (refine regP 3 hS (fun _ h => h) rfl (by kernel_rfl) (by kernel_rfl) (by kernel_rfl) (fun _ _ _ _ h => h) (by rfl) (by rfl) ?_; apply Exists.intro; apply And.intro; (intro w; go_simp; try with_reducible rfl); go_frame)
  (refine regP 4 hS (fun _ h => h) rfl (by kernel_rfl) (by kernel_rfl) (by kernel_rfl) (fun _ _ _ _ h => h) (by rfl) (by rfl) ?_; apply Exists.intro; apply And.intro; (intro w; go_simp; try with_reducible rfl); go_frame)
  (refine regP 5 hS (fun _ h => h) rfl (by kernel_rfl) (by kernel_rfl) (by kernel_rfl) (fun _ _ _ _ h => h) (by rfl) (by rfl) ?_; apply Exists.intro; apply And.intro; (intro w; go_simp; try with_reducible rfl); go_frame)
  (refine regP 6 hS (fun _ h => h) rfl (by kernel_rfl) (by kernel_rfl) (by kernel_rfl) (fun _ _ _ _ h => h) (by rfl) (by rfl) ?_; apply Exists.intro; apply And.intro; (intro w; go_simp; try with_reducible rfl); go_frame)
  (refine regR 7 hS (fun _ h => h) rfl (by kernel_rfl) (by kernel_rfl) (by kernel_rfl) (by kernel_rfl) (by kernel_rfl) (fun _ _ _ _ h => h) (by rfl) (by rfl) ?_; ((first
        | refine ⟨.slice ao1 (T2.dir d).length c1, yLd _ _ (by rfl) _ _ (by rfl) (agOf (by rfl)) Has.z (wl_vu (u := .slice ao1 (T2.dir d).length c1) hd (by omega) hv), ?_⟩
        | refine ⟨.string ⟨o.toArray⟩, fun u hu => rLdRd (f := sv1) (x := o) (HR2.out _ [_, _, _] hu) (sv1_len l) _ _ (by rfl) _ (by rfl) (agOf (by rfl)) m2 0 (by omega) HX2.out (by rfl) (by omega), ?_⟩)); go_frame)
  (refine regP 8 hS (fun _ h => h) rfl (by kernel_rfl) (by kernel_rfl) (by kernel_rfl) (fun _ _ _ _ h => h) (by rfl) (by rfl) ?_; apply Exists.intro; apply And.intro; (intro w; go_simp; try with_reducible rfl); go_frame)
  (refine regP 9 hS (fun _ h => h) rfl (by kernel_rfl) (by kernel_rfl) (by kernel_rfl) (fun _ _ _ _ h => h) (by rfl) (by rfl) ?_; apply Exists.intro; apply And.intro; (intro w; go_simp; try with_reducible rfl); go_frame)
  (refine regP 10 hS (fun _ h => h) rfl (by kernel_rfl) (by kernel_rfl) (by kernel_rfl) (fun _ _ _ _ h => h) (by rfl) (by rfl) ?_; apply Exists.intro; apply And.intro; (intro w; go_simp; try with_reducible rfl); go_frame)
  (refine regP 15 hS (fun _ h => h) rfl (by kernel_rfl) (by kernel_rfl) (by kernel_rfl) (fun _ _ _ _ h => h) (by rfl) (by rfl) ?_; apply Exists.intro; apply And.intro; (intro w; go_simp; try with_reducible rfl); go_frame)
  (refine regP 16 hS (fun _ h => h) rfl (by kernel_rfl) (by kernel_rfl) (by kernel_rfl) (fun _ _ _ _ h => h) (by rfl) (by rfl) ?_; apply Exists.intro; apply And.intro; (intro w; go_simp; try with_reducible rfl); go_frame)
  (refine regA 11 rfl (by kernel_rfl) (by rfl) (by rfl) true (by kernel_rfl) (fun K hK => ?_); ((first
          | (refine Go.Sep.cl 66 _ _ (by rfl) (by rfl) (by kernel_rfl) (HAD.out _ _ ao1 c1 hS (fun w h => by rw [← hv]; exact rws_rd h (k := 1) rfl hd)) ?_; rintro r w1 ⟨v', rfl, hS1⟩; clear hS; have hS := hS1; clear hS1; obtain ⟨ao2, c2, rfl, _⟩ := Sat.tbShape (k := 0) (show Sat _ _ (Tb 59 2 ev2 v' (insE (T2.dir d) ⟨nn, (i : Int)⟩) :: _) from hS) rfl; replace hS := hS.pull1; refine ⟨_, rfl, ?_⟩)
          | (refine st hS _ _ _ (by rfl) _ _ (by rfl) _ (by first | exact evC | exact evT (by rfl)) (by rfl) (szOf (by rfl)) Has.z (by rw [wl_len]; omega) ?_; intro w1 hS1; clear hS; have hS := hS1; clear hS1; simp only [List.set_cons_zero] at hS; rw [wl_setV _ hd (by omega)] at hS))); refine hK _ _ _ hS (by first | (intro h; cases h; done) | exact fun _ _ h => h | exact fun _ _ h => h.drop | exact fun _ _ h => h.drop.drop | exact fun _ _ h => h.drop.pull1 | exact fun _ _ h => h.take2 | exact fun _ _ h => h.one Has.z | exact fun _ _ h => h.one (Has.s Has.z) | exact fun _ _ h => h.one (Has.s (Has.s Has.z))) ?_; clear hK K; go_frame)
  (refine regP 12 hS (fun _ h => h) rfl (by kernel_rfl) (by kernel_rfl) (by kernel_rfl) (fun _ _ _ _ h => h) (by rfl) (by rfl) ?_; apply Exists.intro; apply And.intro; (intro w; go_simp; try with_reducible rfl); go_frame)
  (refine regP 13 hS (fun _ h => h) rfl (by kernel_rfl) (by kernel_rfl) (by kernel_rfl) (fun _ _ _ _ h => h) (by rfl) (by rfl) ?_; apply Exists.intro; apply And.intro; (intro w; go_simp; try with_reducible rfl); go_frame)
  (refine regP 14 hS (fun _ h => h) rfl (by kernel_rfl) (by kernel_rfl) (by kernel_rfl) (fun _ _ _ _ h => h) (by rfl) (by rfl) ?_; apply Exists.intro; apply And.intro; (intro w; go_simp; try with_reducible rfl); go_frame)
  (refine regP 17 hS (fun _ h => h) rfl (by kernel_rfl) (by kernel_rfl) (by kernel_rfl) (fun _ _ _ _ h => h) (by rfl) (by rfl) ?_; apply Exists.intro; apply And.intro; (intro w; go_simp; try with_reducible rfl); go_frame)
  (refine regA 18 rfl (by kernel_rfl) (by rfl) (by rfl) true (by kernel_rfl) (fun K hK => ?_); ((first
          | (refine Go.Sep.cl 66 _ _ (by rfl) (by rfl) (by kernel_rfl) (HAD.out _ _ ao1 c1 hS (fun w h => by rw [← hv]; exact rws_rd h (k := 1) rfl hd)) ?_; rintro r w1 ⟨v', rfl, hS1⟩; clear hS; have hS := hS1; clear hS1; obtain ⟨ao2, c2, rfl, _⟩ := Sat.tbShape (k := 0) (show Sat _ _ (Tb 59 2 ev2 v' (insE (T2.dir d) ⟨nn, (i : Int)⟩) :: _) from hS) rfl; replace hS := hS.pull1; refine ⟨_, rfl, ?_⟩)
          | (refine st hS _ _ _ (by rfl) _ _ (by rfl) _ (by first | exact evC | exact evT (by rfl)) (by rfl) (szOf (by rfl)) Has.z (by rw [wl_len]; omega) ?_; intro w1 hS1; clear hS; have hS := hS1; clear hS1; simp only [List.set_cons_zero] at hS; rw [wl_setV _ hd (by omega)] at hS))); refine hK _ _ _ hS (by first | (intro h; cases h; done) | exact fun _ _ h => h | exact fun _ _ h => h.drop | exact fun _ _ h => h.drop.drop | exact fun _ _ h => h.drop.pull1 | exact fun _ _ h => h.take2 | exact fun _ _ h => h.one Has.z | exact fun _ _ h => h.one (Has.s Has.z) | exact fun _ _ h => h.one (Has.s (Has.s Has.z))) ?_; clear hK K; go_frame)
  refine regDone (by kernel_rfl) ?_
  replace hS := putW hd HK4.out HD4.out HL4.out hS
  go_wp2_with (first
    | (refine toList (by rfl) ?_; refine bsF hS _ _ _ (by rfl) (elOf (by rfl)) [.int .i64 (f : Int), .int .i64 (d : Int), .int .i64 (y : Int)] (by rfl) (by rfl) (by decide) (by decide) (by intro v hv; simp only [List.mem_cons, List.not_mem_nil, or_false] at hv; rcases hv with rfl | rfl | rfl <;> rfl) ?_; intro b1 w1 hS1; clear hS; have hS := csIr (l := [f, d, y]) (by simp) (show Sat W w1 (Cs b1 _ (iv [f, d, y]) :: _) from hS1); clear hS1)
    | (go_at_call 67; refine (HTO.out _ _ _ hS.pull1).mono ?_; rintro r w1 ⟨rfl, hS1⟩; clear hS; have hS := hS1; clear hS1))
  go_ret3
  exact ⟨rfl, hS⟩
end Go.Proofs.Ytiieicdhkcikpaa
