/-
  The document's tree: Rename (to a free name).
-/
import Derived.Test.YtiieicdhkcikpaaMRfc
namespace Go.Proofs.Ytiieicdhkcikpaa
open Go.RowKit Go.Sep
set_option linter.unusedSimpArgs false
set_option linter.unusedVariables false
attribute [local irreducible] Go.Oper.wp Go.wpList Go.Calls Go.Code.wp Go.Sep.Reg
attribute [local irreducible] IsT IsW
set_option maxRecDepth 20000 in
set_option maxHeartbeats 2000000 in
theorem rren_free_d {W w : World} {L : List Asrt} {p : Nat} {T : TrD} (hS : Sat W w (IsW p T :: L)) (hT : T.Ok) (l to : List (List UInt8)) (ao ao' : Option Addr) (c c' : Nat) (hr : ∀ w L', Sat W w (L' ++ L) → Rd w (.slice ao l.length c) l.length 1 (l.flatMap sv1)) (hl : l.length ≤ 1000000) (hr' : ∀ w L', Sat W w (L' ++ L) → Rd w (.slice ao' to.length c') to.length 1 (to.flatMap sv1)) (hl' : to.length ≤ 1000000) (h0 : l ≠ []) (h1 : to ≠ []) (h2 : nameOk (TrD.lastN to) = true) (h3 : (T.walk 0 l).2 = 0) (h4 : ¬ (T.kind (T.walk 0 l).1.toNat = 2 ∧ TrD.under to l = true ∧ l.length < to.length)) (hne : ¬ (to = l)) (h5 : T.pE to = 0) (h6 : findE (T.dir (T.pD to)) (TrD.lastN to) = none) (h7 : ¬ (T.pD to ≠ T.pD l ∧ 64 ≤ (T.dir (T.pD to)).length)) (hA : T.kind (T.walk 0 l).1.toNat = 2) (hB : 64 ≤ (T.dir (T.pD to)).length) : Calls Try.prog 45 #[.pointer (some ⟨p, 0, none⟩), .slice ao l.length c, .slice ao' to.length c'] w fun r w' => r = .returned (.tuple #[.int .i64 (T.rnX l to : Nat), .int .i64 (T.rnY l to : Nat), .int .i64 (T.rnE l to)]) ∧ Sat W w' (IsW p (T.rn l to) :: L) := by
  obtain ⟨_, _, hd, hkd, hwd⟩ := hT.pE_zero h5
  obtain ⟨i, hi, hi48⟩ := hT.walk_lt l 0 (by omega)
  obtain ⟨p1, p2, p3, p4, p5, p6⟩ := hT.parent h0 h3
  rw [hi] at p5
  have h01 : ¬ (l = [] ∨ to = []) := fun e => e.elim h0 h1
  obtain ⟨_, _, he, hc1, hc2, _, h5⟩ := hr' w [_] hS
  simp only [Value.slice.injEq, true_and] at he
  obtain ⟨rfl, rfl⟩ := he
  obtain ⟨b, off, rfl, _⟩ := h5 (List.length_pos_iff.2 h1)
  clear h5
  obtain ⟨_, _, he, hd1, hd2, _, h5⟩ := hr w [_] hS
  simp only [Value.slice.injEq, true_and] at he
  obtain ⟨rfl, rfl⟩ := he
  obtain ⟨b2, off2, rfl, _⟩ := h5 (List.length_pos_iff.2 h0)
  clear h5
  obtain ⟨m, hm⟩ : ∃ m, to.length = m + 1 := ⟨to.length - 1, by have := List.length_pos_iff.2 h1; omega⟩
  obtain ⟨m2, hm2⟩ : ∃ m, l.length = m + 1 := ⟨l.length - 1, by have := List.length_pos_iff.2 h0; omega⟩
  have HX := Lib.hid (last_at hm).1
  have HX2 := Lib.hid (last_at hm2).1
  have HR := Lib.hid (fun w (L' : List Asrt) (h : Sat W w (L' ++ L)) => hr' w L' h)
  have HR2 := Lib.hid (fun w (L' : List Asrt) (h : Sat W w (L' ++ L)) => hr w L' h)
  have e0 : ((l.length : Int) == 0) = false := beq_eq_false_iff_ne.2 (by omega)
  have e0' : ((to.length : Int) == 0) = false := beq_eq_false_iff_ne.2 (by omega)
  have hsub : (to.length : Int) - 1 = (m : Int) := by omega
  have hsub2 : (l.length : Int) - 1 = (m2 : Int) := by omega
  have k1 : (m : Int) < (to.length : Int) := by omega
  have k2 : m < to.length := by omega
  have k3 : (1 : Int) ≤ (to.length : Int) := by omega
  have k4 : (to.length : Int) ≤ 1000000 := by omega
  have j1 : (m2 : Int) < (l.length : Int) := by omega
  have j2 : m2 < l.length := by omega
  have j3 : (1 : Int) ≤ (l.length : Int) := by omega
  have k4' : (l.length : Int) ≤ 1000000 := by omega
  clear hm hm2
  obtain ⟨nn, hnn⟩ : ∃ nn, TrD.lastN to = nn := ⟨_, rfl⟩
  rw [hnn] at HX
  have HNM := Lib.hid (fun w => rname_any nn w)
  have HUN := Lib.hid (fun w (L' : List Asrt) (h : Sat W w (L' ++ L)) => runder_any h to l _ _ c' c (fun w h => hr' w L' h) (fun w h => hr w L' h) hl' hl)
  have HWK := Lib.hid (fun w (h : Sat W w (IsW p T :: L)) => rwalk_any h hT l _ c hr hl)
  have HPT0 := Lib.hid (fun w (h : Sat W w (IsW p T :: L)) => rparent_any h hT to _ c' hr' hl' h1)
  have HPL0 := Lib.hid (fun w (h : Sat W w (IsW p T :: L)) => rparent_any h hT l _ c hr hl h0)
  rw [hnn] at h2
  obtain ⟨f, hff⟩ : ∃ f, T.pD l = f := ⟨_, rfl⟩
  obtain ⟨o, hoo⟩ : ∃ o, TrD.lastN l = o := ⟨_, rfl⟩
  rw [hoo] at HX2
  have HPL := Lib.hid (fun w (h : Sat W w (IsW p T :: L)) => (show Calls Try.prog 64 #[.pointer (some ⟨p, 0, none⟩), .slice (some ⟨b2, off2, none⟩) l.length c] w fun r w' => r = .returned (.tuple #[.int .i64 (f : Nat), .int .i64 0]) ∧ Sat W w' (IsW p T :: L) from
    (HPL0.out w h).mono fun r w' ⟨dd, h1, h2, h3⟩ => by rw [h2 p3 p4, if_pos p3, if_pos p4, hff] at h1; exact ⟨h1, h3⟩))
  rw [h2] at HNM
  have hnf : ¬ nameOk nn = false := by rw [h2]; decide
  rw [hi, h3] at HWK
  have hpe : T.pE to = if (T.walk 0 to.dropLast).2 = 0 then (if T.kind (T.pD to) = 2 then 0 else 8) else (T.walk 0 to.dropLast).2 := by unfold TrD.pE; rw [if_neg h1, hnn, h2, if_pos rfl]; rfl
  rw [← hpe] at HPT0
  obtain ⟨kk, hkk⟩ : ∃ kk, T.kind i = kk := ⟨_, rfl⟩
  have k5 : (i : Int) < 48 := by omega
  have k7 : (f : Int) < 48 := by rw [← hff]; omega
  have hlp : ¬ (T.kind (T.walk 0 l).1.toNat = 2 ∧ TrD.under to l = true ∧ l.length < to.length) := h4
  rw [hi, Int.toNat_natCast, hkk] at h4
  have HPT := Lib.hid (fun w (h : Sat W w (IsW p T :: L)) => (show Calls Try.prog 64 #[.pointer (some ⟨p, 0, none⟩), .slice (some ⟨b, off, none⟩) to.length c'] w fun r w' => r = .returned (.tuple #[.int .i64 (T.pD to : Nat), .int .i64 0]) ∧ Sat W w' (IsW p T :: L) from
    (HPT0.out w h).mono fun r w' ⟨dd, h1, h2, h3⟩ => by rw [h2 (by rw [hwd]) hkd, h5] at h1; exact ⟨h1, h3⟩))
  obtain ⟨d, hdd⟩ : ∃ d, T.pD to = d := ⟨_, rfl⟩
  have hlen := hT.len _ (hT.dir_mem hd)
  rw [hdd] at hd hlen HPT
  obtain ⟨dl, hdl⟩ : ∃ dl, (T.dir d).length = dl := ⟨_, rfl⟩
  have HDL := Lib.hid hdl
  have HFI := Lib.hid (fun w (L' : List Asrt) ao1 c1 (h : Sat W w L') (hr : ∀ w, Sat W w L' → Rd w (.slice ao1 dl c1) dl 2 ((T.dir d).flatMap ev2)) => (show Calls Try.prog 65 #[.slice ao1 dl c1, sv nn] w fun r w' => r = .returned (.tuple #[.int .i64 ((findE (T.dir d) nn).getD 0), .bool (hasE (T.dir d) nn)]) ∧ Sat W w' L' by
    have := rfind_any h (T.dir d) ao1 c1 nn (by rw [hdl]; exact hr) (by omega)
    rw [hdl] at this; exact this))
  have k6 : (d : Int) < 48 := by omega
  have hvar : (kk == 2) = false ∨ ((kk == 2) = true ∧ TrD.under to l = false) := by
    by_cases e : kk = 2
    · refine .inr ⟨by rw [e]; rfl, ?_⟩
      cases hu : TrD.under to l with
      | false => rfl
      | true =>
        exfalso
        have h9 : ¬ l.length < to.length := fun h9 => h4 ⟨e, hu, h9⟩
        unfold TrD.under at hu
        simp only [Bool.and_eq_true, decide_eq_true_eq] at hu
        rw [List.take_of_length_le (by omega)] at hu
        exact hne hu.2
    · exact .inl (beq_eq_false_iff_ne.2 e)
  have hvar : (kk == 2) = true ∧ TrD.under to l = false := by
    rw [hi, Int.toNat_natCast, hkk] at hA
    rcases hvar with h | ⟨h, hu⟩
    · exact absurd hA (beq_eq_false_iff_ne.1 h)
    · exact ⟨h, hu⟩
  have hE : T.rnE l to = 0 := by unfold TrD.rnE; rw [if_neg h01, hnn, if_neg hnf, if_neg (fun e => e h3), if_neg hlp, if_neg (fun e => e h5), ← hnn, h6]; dsimp only; rw [if_neg h7]
  obtain ⟨hX, hY, hM⟩ := TrD.rn_none (l := l) (to := to) hE hi h6
  rw [hX, hY, hM, hE]
  have hadd := hT.ren_none p2 (d := T.pD to) (by rw [hdd]; exact hd) p5 (by rw [hnn]; exact h2) h6 (fun e => by
    rcases Nat.lt_or_ge (T.dir (T.pD to)).length 64 with h8 | h8
    · exact h8
    · exact absurd ⟨e, h8⟩ h7)
  rw [hdd, hnn] at h6
  have hh := hasE_find.2 h6
  rw [h6, hh] at HFI
  have p2' : f < 48 := by rw [← hff]; exact p2
  rw [hdd, hff, hdl] at h7
  rw [hdd, hnn, hff, hoo] at hadd ⊢
  rw [hff, hoo] at p5
  have HRE := Lib.hid (fun w L' ao1 c1 (h : Sat W w L') hr => rm_yes hT p2' p5 w L' ao1 c1 h hr)
  have HD1 := Lib.hid (TrD.del_dir' hT p2' o)
  have HK1 := Lib.hid (show (T.del f o).kind = T.kind from rfl)
  have HL1 := Lib.hid (show (T.del f o).last = T.last from rfl)
  have hok1 := hT.del p2' o
  obtain ⟨T1, hT1⟩ : ∃ T1, T.del f o = T1 := ⟨_, rfl⟩
  rw [hT1] at hadd HD1 HK1 HL1 hok1 ⊢
  have HAD := Lib.hid (fun w L' ao1 c1 (h : Sat W w L') hr => ad_yes hok1 hd hadd w L' ao1 c1 h hr)
  have HD2 := Lib.hid (TrD.put_dir hok1 hd i nn)
  have HK2 := Lib.hid (show (T1.put d i nn).kind = T1.kind from rfl)
  have HL2 := Lib.hid (show (T1.put d i nn).last = T1.last from rfl)
  obtain ⟨T2, hT2⟩ : ∃ T2, T1.put d i nn = T2 := ⟨_, rfl⟩
  rw [hT2] at HD2 HK2 HL2 ⊢
  have HTO := Lib.hid (fun w v (L' : List Asrt) (h : Sat W w (IsW p T2 :: Ir v [f, d] :: L')) => rtouch_any h (by simp))
  have hvar2 : (decide ((64 : Int) ≤ (dl : Int)) = false ∧ decide (64 ≤ dl) = false) ∨ (decide ((64 : Int) ≤ (dl : Int)) = true ∧ decide (64 ≤ dl) = true ∧ ((d : Int) != (f : Int)) = false ∧ (d != f) = false) := by
    by_cases h8 : 64 ≤ dl
    · have e : d = f := by
        by_cases e : d = f
        · exact e
        · exact absurd ⟨e, h8⟩ h7
      exact .inr ⟨decide_eq_true (by omega), decide_eq_true h8, by rw [e]; simp, by rw [e]; simp⟩
    · exact .inl ⟨decide_eq_false (by omega), decide_eq_false h8⟩
  have hvar2 : decide ((64 : Int) ≤ (dl : Int)) = true ∧ decide (64 ≤ dl) = true ∧ ((d : Int) != (f : Int)) = false ∧ (d != f) = false := by
    rw [hdd, hdl] at hB
    rcases hvar2 with ⟨g1, g2⟩ | ⟨g1, g2, g3, g4⟩
    · exact absurd hB (of_decide_eq_false g2)
    · exact ⟨g1, g2, g3, g4⟩
  clear hX hY hM hE hr hr' h0 h1 h2 h01 hnf hnn h3 hi h4 hlp h5 p1 p2 p3 p4 p5 p6 HPL0 HPT0 hff hoo hpe hne h6 h7 hh hdd hdl hkd hwd hlen hadd hT1 hT2 hA hB
  obtain ⟨e1, hu⟩ := hvar
  rw [hu] at HUN
  obtain ⟨q1, q2, q3, q4⟩ := hvar2
  go_enter Try.func45, Try.ntmps45
  go_wp2_with (first
    | (refine toList (by rfl) ?_; refine wp_of_reads (rLdRd (f := sv1) (x := nn) (u := .string ⟨nn.toArray⟩) (HR.out _ [_] hS) (sv1_len to) _ _ (by rfl) _ (by rfl) (agOf (by rfl)) m 0 (by omega) HX.out (by rfl) (by omega)) ?_)
            | (go_at_call 63; refine (HNM.out _).mono ?_; rintro r w1 ⟨rfl, rfl⟩)
    | (go_at_call 47; refine (HWK.out _ hS).mono ?_; rintro r w1 ⟨rfl, hS1⟩; clear hS; have hS := hS1; clear hS1; obtain ⟨v, vt, hO⟩ := IsW.open hS; clear hS; have hS := hO; clear hO)
            | (refine toList (by rfl) ?_; refine ld hS _ _ (by rfl) _ _ (by rfl) (agOf (by rfl)) Has.z (wl_ku (z := kk) hi48 (by omega) hkk) ?_)
            | (go_at_call 69; refine (HUN.out _ [_, _, _] hS).mono ?_; rintro r w1 ⟨rfl, hS1⟩; clear hS; have hS := (show Sat W w1 (_ :: _ :: _ :: L) from hS1); clear hS1)
    | (go_at_call 64; refine (HPT.out _ (IsW.mk hS)).mono ?_; rintro r w1 ⟨rfl, hS1⟩; clear hS; have hS := hS1; clear hS1; obtain ⟨v, vt, hO⟩ := IsW.open hS; clear hS; have hS := hO; clear hO)
            | (go_at_call 64; refine (HPL.out _ (IsW.mk hS)).mono ?_; rintro r w1 ⟨rfl, hS1⟩; clear hS; have hS := hS1; clear hS1; obtain ⟨v, vt, hO⟩ := IsW.open hS; clear hS; have hS := hO; clear hO; obtain ⟨ao1, c1, hv, _⟩ := rws_shape hS (k := 1) rfl hd; rw [HDL.out] at hv)
            | (refine toList (by rfl) ?_; refine wp_of_reads (rLdRd (f := sv1) (x := nn) (u := .string ⟨nn.toArray⟩) (HR.out _ [_, _, _] hS) (sv1_len to) _ _ (by rfl) _ (by rfl) (agOf (by rfl)) m 0 (by omega) HX.out (by rfl) (by omega)) ?_)
            | (refine toList (by rfl) ?_; refine ld hS _ _ (by rfl) _ _ (by rfl) (agOf (by rfl)) Has.z (wl_vu (u := .slice ao1 dl c1) hd (by omega) hv) ?_)
            | (go_at_call 65; refine (HFI.out _ _ ao1 c1 hS (fun w h => by rw [← hv]; have := rws_rd h (k := 1) rfl hd; rw [HDL.out] at this; exact this)).mono ?_; rintro r w1 ⟨rfl, hS1⟩; clear hS; have hS := hS1; clear hS1))
  replace hS := IsW.mk hS
  obtain ⟨v, vt, hO⟩ := IsW.open hS
  clear hS
  have hS := hO
  clear hO
  obtain ⟨ao1, c1, hv, _⟩ := rws_shape hS (k := 1) rfl p2'
  refine regStart [14, 21] hS (by kernel_rfl) rfl ?_
  intro w1 hS1
  clear hS; have hS := hS1; clear hS1
  (refine regP 0 hS (fun _ h => h) rfl (by kernel_rfl) (by kernel_rfl) (by kernel_rfl) (fun _ _ _ _ h => h) (by rfl) (by rfl) ?_; apply Exists.intro; apply And.intro; (intro w; go_simp; try with_reducible rfl); go_frame)
  (refine regP 1 hS (fun _ h => h) rfl (by kernel_rfl) (by kernel_rfl) (by kernel_rfl) (fun _ _ _ _ h => h) (by rfl) (by rfl) ?_; apply Exists.intro; apply And.intro; (intro w; go_simp; try with_reducible rfl); go_frame)
  (refine regP 2 hS (fun _ h => h) rfl (by kernel_rfl) (by kernel_rfl) (by kernel_rfl) (fun _ _ _ _ h => h) (by rfl) (by rfl) ?_; apply Exists.intro; apply And.intro; (intro w; go_simp; try with_reducible rfl); go_frame)
  (refine regP 3 hS (fun _ h => h) rfl (by kernel_rfl) (by kernel_rfl) (by kernel_rfl) (fun _ _ _ _ h => h) (by rfl) (by rfl) ?_; apply Exists.intro; apply And.intro; (intro w; go_simp; try with_reducible rfl); go_frame)
  (refine regP 4 hS (fun _ h => h) rfl (by kernel_rfl) (by kernel_rfl) (by kernel_rfl) (fun _ _ _ _ h => h) (by rfl) (by rfl) ?_; apply Exists.intro; apply And.intro; (intro w; go_simp; try with_reducible rfl); go_frame)
  (refine regP 5 hS (fun _ h => h) rfl (by kernel_rfl) (by kernel_rfl) (by kernel_rfl) (fun _ _ _ _ h => h) (by rfl) (by rfl) ?_; apply Exists.intro; apply And.intro; (intro w; go_simp; try with_reducible rfl); go_frame)
  (refine regP 6 hS (fun _ h => h) rfl (by kernel_rfl) (by kernel_rfl) (by kernel_rfl) (fun _ _ _ _ h => h) (by rfl) (by rfl) ?_; apply Exists.intro; apply And.intro; (intro w; go_simp; try with_reducible rfl); go_frame)
  (refine regR 7 hS (fun _ h => h) rfl (by kernel_rfl) (by kernel_rfl) (by kernel_rfl) (by kernel_rfl) (by kernel_rfl) (fun _ _ _ _ h => h) (by rfl) (by rfl) ?_; ((first
        | refine ⟨.slice ao1 (T.dir f).length c1, yLd _ _ (by rfl) _ _ (by rfl) (agOf (by rfl)) Has.z (wl_vu (u := .slice ao1 (T.dir f).length c1) p2' (by omega) hv), ?_⟩
        | refine ⟨.string ⟨o.toArray⟩, fun u hu => rLdRd (f := sv1) (x := o) (HR2.out _ [_, _, _] hu) (sv1_len l) _ _ (by rfl) _ (by rfl) (agOf (by rfl)) m2 0 (by omega) HX2.out (by rfl) (by omega), ?_⟩)); go_frame)
  (refine regP 8 hS (fun _ h => h) rfl (by kernel_rfl) (by kernel_rfl) (by kernel_rfl) (fun _ _ _ _ h => h) (by rfl) (by rfl) ?_; apply Exists.intro; apply And.intro; (intro w; go_simp; try with_reducible rfl); go_frame)
  (refine regP 9 hS (fun _ h => h) rfl (by kernel_rfl) (by kernel_rfl) (by kernel_rfl) (fun _ _ _ _ h => h) (by rfl) (by rfl) ?_; apply Exists.intro; apply And.intro; (intro w; go_simp; try with_reducible rfl); go_frame)
  (refine regP 10 hS (fun _ h => h) rfl (by kernel_rfl) (by kernel_rfl) (by kernel_rfl) (fun _ _ _ _ h => h) (by rfl) (by rfl) ?_; apply Exists.intro; apply And.intro; (intro w; go_simp; try with_reducible rfl); go_frame)
  (refine regP 11 hS (fun _ h => h) rfl (by kernel_rfl) (by kernel_rfl) (by kernel_rfl) (fun _ _ _ _ h => h) (by rfl) (by rfl) ?_; apply Exists.intro; apply And.intro; (intro w; go_simp; try with_reducible rfl); go_frame; try simp (disch := omega) only [IntWalk.i64_in])
  (refine regP 12 hS (fun _ h => h) rfl (by kernel_rfl) (by kernel_rfl) (by kernel_rfl) (fun _ _ _ _ h => h) (by rfl) (by rfl) ?_; apply Exists.intro; apply And.intro; (intro w; go_simp; try with_reducible rfl); go_frame)
  (refine regR 13 hS (fun _ h => h) rfl (by kernel_rfl) (by kernel_rfl) (by kernel_rfl) (by kernel_rfl) (by kernel_rfl) (fun _ _ _ _ h => h) (by rfl) (by rfl) ?_; ((first
        | refine ⟨.slice ao1 (T.dir f).length c1, yLd _ _ (by rfl) _ _ (by rfl) (agOf (by rfl)) Has.z (wl_vu (u := .slice ao1 (T.dir f).length c1) p2' (by omega) hv), ?_⟩
        | refine ⟨.string ⟨o.toArray⟩, fun u hu => rLdRd (f := sv1) (x := o) (HR2.out _ [_, _, _] hu) (sv1_len l) _ _ (by rfl) _ (by rfl) (agOf (by rfl)) m2 0 (by omega) HX2.out (by rfl) (by omega), ?_⟩)); go_frame)
  (refine regP 18 hS (fun _ h => h) rfl (by kernel_rfl) (by kernel_rfl) (by kernel_rfl) (fun _ _ _ _ h => h) (by rfl) (by rfl) ?_; apply Exists.intro; apply And.intro; (intro w; go_simp; try with_reducible rfl); go_frame)
  (refine regP 19 hS (fun _ h => h) rfl (by kernel_rfl) (by kernel_rfl) (by kernel_rfl) (fun _ _ _ _ h => h) (by rfl) (by rfl) ?_; apply Exists.intro; apply And.intro; (intro w; go_simp; try with_reducible rfl); go_frame)
  (refine regA 14 rfl (by kernel_rfl) (by rfl) (by rfl) true (by kernel_rfl) (fun K hK => ?_); ((first
          | (refine Go.Sep.cl 68 _ _ (by rfl) (by rfl) (by kernel_rfl) (HRE.out _ _ ao1 c1 hS (fun w h => by rw [← hv]; exact rws_rd h (k := 1) rfl p2')) ?_; rintro r w1 ⟨v', rfl, hS1⟩; clear hS; have hS := hS1; clear hS1; obtain ⟨ao2, c2, rfl, _⟩ := Sat.tbShape (k := 0) (show Sat _ _ (Tb 59 2 ev2 v' (remE (T.dir f) o) :: _) from hS) rfl; replace hS := hS.pull1; refine ⟨_, rfl, ?_⟩)
          | (refine st hS _ _ _ (by rfl) _ _ (by rfl) _ (by first | exact evC | exact evT (by rfl)) (by rfl) (szOf (by rfl)) Has.z (by rw [wl_len]; omega) ?_; intro w1 hS1; clear hS; have hS := hS1; clear hS1; simp only [List.set_cons_zero] at hS; rw [wl_setV _ p2' (by omega)] at hS))); refine hK _ _ _ hS (by first | (intro h; cases h; done) | exact fun _ _ h => h | exact fun _ _ h => h.drop | exact fun _ _ h => h.drop.drop | exact fun _ _ h => h.drop.pull1 | exact fun _ _ h => h.take2 | exact fun _ _ h => h.one Has.z | exact fun _ _ h => h.one (Has.s Has.z) | exact fun _ _ h => h.one (Has.s (Has.s Has.z))) ?_; clear hK K; go_frame)
  (refine regP 15 hS (fun _ h => h) rfl (by kernel_rfl) (by kernel_rfl) (by kernel_rfl) (fun _ _ _ _ h => h) (by rfl) (by rfl) ?_; apply Exists.intro; apply And.intro; (intro w; go_simp; try with_reducible rfl); go_frame)
  (refine regP 16 hS (fun _ h => h) rfl (by kernel_rfl) (by kernel_rfl) (by kernel_rfl) (fun _ _ _ _ h => h) (by rfl) (by rfl) ?_; apply Exists.intro; apply And.intro; (intro w; go_simp; try with_reducible rfl); go_frame)
  (refine regP 17 hS (fun _ h => h) rfl (by kernel_rfl) (by kernel_rfl) (by kernel_rfl) (fun _ _ _ _ h => h) (by rfl) (by rfl) ?_; apply Exists.intro; apply And.intro; (intro w; go_simp; try with_reducible rfl); go_frame)
  (refine regP 20 hS (fun _ h => h) rfl (by kernel_rfl) (by kernel_rfl) (by kernel_rfl) (fun _ _ _ _ h => h) (by rfl) (by rfl) ?_; apply Exists.intro; apply And.intro; (intro w; go_simp; try with_reducible rfl); go_frame)
  (refine regA 21 rfl (by kernel_rfl) (by rfl) (by rfl) true (by kernel_rfl) (fun K hK => ?_); ((first
          | (refine Go.Sep.cl 68 _ _ (by rfl) (by rfl) (by kernel_rfl) (HRE.out _ _ ao1 c1 hS (fun w h => by rw [← hv]; exact rws_rd h (k := 1) rfl p2')) ?_; rintro r w1 ⟨v', rfl, hS1⟩; clear hS; have hS := hS1; clear hS1; obtain ⟨ao2, c2, rfl, _⟩ := Sat.tbShape (k := 0) (show Sat _ _ (Tb 59 2 ev2 v' (remE (T.dir f) o) :: _) from hS) rfl; replace hS := hS.pull1; refine ⟨_, rfl, ?_⟩)
          | (refine st hS _ _ _ (by rfl) _ _ (by rfl) _ (by first | exact evC | exact evT (by rfl)) (by rfl) (szOf (by rfl)) Has.z (by rw [wl_len]; omega) ?_; intro w1 hS1; clear hS; have hS := hS1; clear hS1; simp only [List.set_cons_zero] at hS; rw [wl_setV _ p2' (by omega)] at hS))); refine hK _ _ _ hS (by first | (intro h; cases h; done) | exact fun _ _ h => h | exact fun _ _ h => h.drop | exact fun _ _ h => h.drop.drop | exact fun _ _ h => h.drop.pull1 | exact fun _ _ h => h.take2 | exact fun _ _ h => h.one Has.z | exact fun _ _ h => h.one (Has.s Has.z) | exact fun _ _ h => h.one (Has.s (Has.s Has.z))) ?_; clear hK K; go_frame)
  refine regDone (by kernel_rfl) ?_
  replace hS := putW p2' HK1.out HD1.out HL1.out hS
  obtain ⟨v, vt, hO⟩ := IsW.open hS
  clear hS
  have hS := hO
  clear hO
  obtain ⟨ao1, c1, hv, _⟩ := rws_shape hS (k := 1) rfl hd
  go_wp2
  refine regStart [11, 18] hS (by kernel_rfl) rfl ?_
  intro w1 hS1
  clear hS; have hS := hS1; clear hS1
  (refine regP 0 hS (fun _ h => h) rfl (by kernel_rfl) (by kernel_rfl) (by kernel_rfl) (fun _ _ _ _ h => h) (by rfl) (by rfl) ?_; apply Exists.intro; apply And.intro; (intro w; go_simp; try with_reducible rfl); go_frame)
  (refine regP 1 hS (fun _ h => h) rfl (by kernel_rfl) (by kernel_rfl) (by kernel_rfl) (fun _ _ _ _ h => h) (by rfl) (by rfl) ?_; apply Exists.intro; apply And.intro; (intro w; go_simp; try with_reducible rfl); go_frame)
  (refine regP 2 hS (fun _ h => h) rfl (by kernel_rfl) (by kernel_rfl) (by kernel_rfl) (fun _ _ _ _ h => h) (by rfl) (by rfl) ?_; apply Exists.intro; apply And.intro; (intro w; go_simp; try with_reducible rfl); go_frame)
  (refine regP 3 hS (fun _ h => h) rfl (by kernel_rfl) (by kernel_rfl) (by kernel_rfl) (fun _ _ _ _ h => h) (by rfl) (by rfl) ?_; apply Exists.intro; apply And.intro; (intro w; go_simp; try with_reducible rfl); go_frame)
  (refine regP 4 hS (fun _ h => h) rfl (by kernel_rfl) (by kernel_rfl) (by kernel_rfl) (fun _ _ _ _ h => h) (by rfl) (by rfl) ?_; apply Exists.intro; apply And.intro; (intro w; go_simp; try with_reducible rfl); go_frame)
  (refine regP 5 hS (fun _ h => h) rfl (by kernel_rfl) (by kernel_rfl) (by kernel_rfl) (fun _ _ _ _ h => h) (by rfl) (by rfl) ?_; apply Exists.intro; apply And.intro; (intro w; go_simp; try with_reducible rfl); go_frame)
  (refine regP 6 hS (fun _ h => h) rfl (by kernel_rfl) (by kernel_rfl) (by kernel_rfl) (fun _ _ _ _ h => h) (by rfl) (by rfl) ?_; apply Exists.intro; apply And.intro; (intro w; go_simp; try with_reducible rfl); go_frame)
  (refine regR 7 hS (fun _ h => h) rfl (by kernel_rfl) (by kernel_rfl) (by kernel_rfl) (by kernel_rfl) (by kernel_rfl) (fun _ _ _ _ h => h) (by rfl) (by rfl) ?_; ((first
        | refine ⟨.slice ao1 (T1.dir d).length c1, yLd _ _ (by rfl) _ _ (by rfl) (agOf (by rfl)) Has.z (wl_vu (u := .slice ao1 (T1.dir d).length c1) hd (by omega) hv), ?_⟩
        | refine ⟨.string ⟨o.toArray⟩, fun u hu => rLdRd (f := sv1) (x := o) (HR2.out _ [_, _, _] hu) (sv1_len l) _ _ (by rfl) _ (by rfl) (agOf (by rfl)) m2 0 (by omega) HX2.out (by rfl) (by omega), ?_⟩)); go_frame)
  (refine regP 8 hS (fun _ h => h) rfl (by kernel_rfl) (by kernel_rfl) (by kernel_rfl) (fun _ _ _ _ h => h) (by rfl) (by rfl) ?_; apply Exists.intro; apply And.intro; (intro w; go_simp; try with_reducible rfl); go_frame)
  (refine regP 9 hS (fun _ h => h) rfl (by kernel_rfl) (by kernel_rfl) (by kernel_rfl) (fun _ _ _ _ h => h) (by rfl) (by rfl) ?_; apply Exists.intro; apply And.intro; (intro w; go_simp; try with_reducible rfl); go_frame)
  (refine regP 10 hS (fun _ h => h) rfl (by kernel_rfl) (by kernel_rfl) (by kernel_rfl) (fun _ _ _ _ h => h) (by rfl) (by rfl) ?_; apply Exists.intro; apply And.intro; (intro w; go_simp; try with_reducible rfl); go_frame)
  (refine regP 15 hS (fun _ h => h) rfl (by kernel_rfl) (by kernel_rfl) (by kernel_rfl) (fun _ _ _ _ h => h) (by rfl) (by rfl) ?_; apply Exists.intro; apply And.intro; (intro w; go_simp; try with_reducible rfl); go_frame)
  (refine regP 16 hS (fun _ h => h) rfl (by kernel_rfl) (by kernel_rfl) (by kernel_rfl) (fun _ _ _ _ h => h) (by rfl) (by rfl) ?_; apply Exists.intro; apply And.intro; (intro w; go_simp; try with_reducible rfl); go_frame)
  (refine regA 11 rfl (by kernel_rfl) (by rfl) (by rfl) true (by kernel_rfl) (fun K hK => ?_); ((first
          | (refine Go.Sep.cl 66 _ _ (by rfl) (by rfl) (by kernel_rfl) (HAD.out _ _ ao1 c1 hS (fun w h => by rw [← hv]; exact rws_rd h (k := 1) rfl hd)) ?_; rintro r w1 ⟨v', rfl, hS1⟩; clear hS; have hS := hS1; clear hS1; obtain ⟨ao2, c2, rfl, _⟩ := Sat.tbShape (k := 0) (show Sat _ _ (Tb 59 2 ev2 v' (insE (T1.dir d) ⟨nn, (i : Int)⟩) :: _) from hS) rfl; replace hS := hS.pull1; refine ⟨_, rfl, ?_⟩)
          | (refine st hS _ _ _ (by rfl) _ _ (by rfl) _ (by first | exact evC | exact evT (by rfl)) (by rfl) (szOf (by rfl)) Has.z (by rw [wl_len]; omega) ?_; intro w1 hS1; clear hS; have hS := hS1; clear hS1; simp only [List.set_cons_zero] at hS; rw [wl_setV _ hd (by omega)] at hS))); refine hK _ _ _ hS (by first | (intro h; cases h; done) | exact fun _ _ h => h | exact fun _ _ h => h.drop | exact fun _ _ h => h.drop.drop | exact fun _ _ h => h.drop.pull1 | exact fun _ _ h => h.take2 | exact fun _ _ h => h.one Has.z | exact fun _ _ h => h.one (Has.s Has.z) | exact fun _ _ h => h.one (Has.s (Has.s Has.z))) ?_; clear hK K; go_frame)
  (refine regP 12 hS (fun _ h => h) rfl (by kernel_rfl) (by kernel_rfl) (by kernel_rfl) (fun _ _ _ _ h => h) (by rfl) (by rfl) ?_; apply Exists.intro; apply And.intro; (intro w; go_simp; try with_reducible rfl); go_frame)
  (refine regP 13 hS (fun _ h => h) rfl (by kernel_rfl) (by kernel_rfl) (by kernel_rfl) (fun _ _ _ _ h => h) (by rfl) (by rfl) ?_; apply Exists.intro; apply And.intro; (intro w; go_simp; try with_reducible rfl); go_frame)
  (refine regP 14 hS (fun _ h => h) rfl (by kernel_rfl) (by kernel_rfl) (by kernel_rfl) (fun _ _ _ _ h => h) (by rfl) (by rfl) ?_; apply Exists.intro; apply And.intro; (intro w; go_simp; try with_reducible rfl); go_frame)
  (refine regP 17 hS (fun _ h => h) rfl (by kernel_rfl) (by kernel_rfl) (by kernel_rfl) (fun _ _ _ _ h => h) (by rfl) (by rfl) ?_; apply Exists.intro; apply And.intro; (intro w; go_simp; try with_reducible rfl); go_frame)
  (refine regA 18 rfl (by kernel_rfl) (by rfl) (by rfl) true (by kernel_rfl) (fun K hK => ?_); ((first
          | (refine Go.Sep.cl 66 _ _ (by rfl) (by rfl) (by kernel_rfl) (HAD.out _ _ ao1 c1 hS (fun w h => by rw [← hv]; exact rws_rd h (k := 1) rfl hd)) ?_; rintro r w1 ⟨v', rfl, hS1⟩; clear hS; have hS := hS1; clear hS1; obtain ⟨ao2, c2, rfl, _⟩ := Sat.tbShape (k := 0) (show Sat _ _ (Tb 59 2 ev2 v' (insE (T1.dir d) ⟨nn, (i : Int)⟩) :: _) from hS) rfl; replace hS := hS.pull1; refine ⟨_, rfl, ?_⟩)
          | (refine st hS _ _ _ (by rfl) _ _ (by rfl) _ (by first | exact evC | exact evT (by rfl)) (by rfl) (szOf (by rfl)) Has.z (by rw [wl_len]; omega) ?_; intro w1 hS1; clear hS; have hS := hS1; clear hS1; simp only [List.set_cons_zero] at hS; rw [wl_setV _ hd (by omega)] at hS))); refine hK _ _ _ hS (by first | (intro h; cases h; done) | exact fun _ _ h => h | exact fun _ _ h => h.drop | exact fun _ _ h => h.drop.drop | exact fun _ _ h => h.drop.pull1 | exact fun _ _ h => h.take2 | exact fun _ _ h => h.one Has.z | exact fun _ _ h => h.one (Has.s Has.z) | exact fun _ _ h => h.one (Has.s (Has.s Has.z))) ?_; clear hK K; go_frame)
  refine regDone (by kernel_rfl) ?_
  replace hS := putW hd HK2.out HD2.out HL2.out hS
  go_wp2_with (first
    | (refine toList (by rfl) ?_; refine bsF hS _ _ _ (by rfl) (elOf (by rfl)) [.int .i64 (f : Int), .int .i64 (d : Int)] (by rfl) (by rfl) (by decide) (by decide) (by intro v hv; simp only [List.mem_cons, List.not_mem_nil, or_false] at hv; rcases hv with rfl | rfl <;> rfl) ?_; intro b1 w1 hS1; clear hS; have hS := csIr (l := [f, d]) (by simp) (show Sat W w1 (Cs b1 _ (iv [f, d]) :: _) from hS1); clear hS1)
    | (go_at_call 67; refine (HTO.out _ _ _ hS.pull1).mono ?_; rintro r w1 ⟨rfl, hS1⟩; clear hS; have hS := hS1; clear hS1))
  go_ret3
  exact ⟨rfl, hS⟩
end Go.Proofs.Ytiieicdhkcikpaa
