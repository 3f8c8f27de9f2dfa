/-
  The document's tree: Make, Link.
-/
import Derived.Test.YtiieicdhkcikpaaMRfa
import Derived.Test.YtiieicdhkcikpaaMPth
namespace Go.Proofs.Ytiieicdhkcikpaa
open Go.RowKit Go.Sep
set_option linter.unusedSimpArgs false
set_option linter.unusedVariables false
attribute [local irreducible] Go.Oper.wp Go.wpList Go.Calls Go.Code.wp Go.Sep.Reg
attribute [local irreducible] IsT IsW
/-- A list of entries is put in the place of a directory. -/
theorem putW {W w : World} {L : List Asrt} {p d : Nat} {T T2 : TrD} {v : Nat → Value} {vt u : Value} {x : List EntD} (hd : d < 48) (hk : T2.kind = T.kind) (hdir : T2.dir = upd T.dir d x) (hl : T2.last = T.last)
    (h : Sat W w (Cs p 79 (wl T.kind (upd v d u) vt) :: Er u x :: rws v T.dir :: Ir vt T.last :: L)) : Sat W w (IsW p T2 :: L) := by
  have h9 := rws_put (h.re [1, 2]) hd
  refine IsW.mk (T := T2) (v := upd v d u) (vt := vt) ?_
  rw [hk, hdir, hl]
  exact h9.re [1, 0]
set_option maxRecDepth 20000 in
set_option maxHeartbeats 2000000 in
theorem rmake_any {W w : World} {L : List Asrt} {p : Nat} {T : TrD} (hS : Sat W w (IsW p T :: L)) (hT : T.Ok) (l : List (List UInt8)) (ao : Option Addr) (c : Nat) (hr : ∀ w L', Sat W w (L' ++ L) → Rd w (.slice ao l.length c) l.length 1 (l.flatMap sv1)) (hl : l.length ≤ 1000000) (k : Int) :
    Calls Try.prog 40 #[.pointer (some ⟨p, 0, none⟩), .slice ao l.length c, .int .i64 k] w fun r w' => r = .returned (.tuple #[.int .i64 (T.mkI l k : Nat), .int .i64 (T.mkE l k)]) ∧ Sat W w' (IsW p (T.mk' l k) :: L) := by
  by_cases hk : k = 1 ∨ k = 2
  · by_cases h0 : l = []
    · have hE : T.mkE l k = 1 := by unfold TrD.mkE TrD.pE; rw [if_pos hk, if_pos h0]; rfl
      have hI : T.mkI l k = 0 := by unfold TrD.mkI; rw [hE, if_neg (by decide)]
      have hM : T.mk' l k = T := by unfold TrD.mk'; rw [hE, if_neg (by decide)]
      rw [hI, hM, hE]
      subst h0
      clear hE hI hM hr
      rcases hk with rfl | rfl
      all_goals
        go_enter Try.func40, Try.ntmps40
        go_wp2
        go_ret2
        exact ⟨rfl, hS⟩
    · obtain ⟨_, _, he, hc1, hc2, _, h5⟩ := hr w [_] hS
      simp only [Value.slice.injEq, true_and] at he
      obtain ⟨rfl, rfl⟩ := he
      obtain ⟨b, off, rfl, _⟩ := h5 (List.length_pos_iff.2 h0)
      clear h5
      obtain ⟨m, hm⟩ : ∃ m, l.length = m + 1 := ⟨l.length - 1, by have := List.length_pos_iff.2 h0; omega⟩
      have HX := Lib.hid (last_at hm).1
      have HR := Lib.hid (fun w (L' : List Asrt) (h : Sat W w (L' ++ L)) => hr w L' h)
      have e0 : ((l.length : Int) == 0) = false := beq_eq_false_iff_ne.2 (by omega)
      have hsub : (l.length : Int) - 1 = (m : Int) := by omega
      have k1 : (m : Int) < (l.length : Int) := by omega
      have k2 : m < l.length := by omega
      have k3 : (1 : Int) ≤ (l.length : Int) := by omega
      have k4 : (l.length : Int) ≤ 1000000 := by omega
      have HPA0 := Lib.hid (fun w (h : Sat W w (IsW p T :: L)) => rparent_any h hT l _ c hr hl h0)
      clear hm
      obtain ⟨n, hnn⟩ : ∃ n, TrD.lastN l = n := ⟨_, rfl⟩
      rw [hnn] at HX
      have HNM := Lib.hid (fun w => rname_any n w)
      cases hn : nameOk n with
      | false =>
        have hE : T.mkE l k = 1 := by unfold TrD.mkE TrD.pE; rw [if_pos hk, if_neg h0, hnn, hn]; rfl
        have hI : T.mkI l k = 0 := by unfold TrD.mkI; rw [hE, if_neg (by decide)]
        have hM : T.mk' l k = T := by unfold TrD.mk'; rw [hE, if_neg (by decide)]
        rw [hI, hM, hE]
        rw [hn] at HNM
        clear hE hI hM hr h0 hnn hn
        rcases hk with rfl | rfl
        all_goals
          go_enter Try.func40, Try.ntmps40
          go_wp2_with (first
            | (refine toList (by rfl) ?_; refine wp_of_reads (rLdRd (f := sv1) (x := n) (u := .string ⟨n.toArray⟩) (HR.out _ [_] hS) (sv1_len l) _ _ (by rfl) _ (by rfl) (agOf (by rfl)) m 0 (by omega) HX.out (by rfl) (by omega)) ?_)
            | (go_at_call 63; refine (HNM.out _).mono ?_; rintro r w1 ⟨rfl, rfl⟩))
          go_ret2
          exact ⟨rfl, hS⟩
      | true =>
        rw [hn] at HNM
        have hpe : T.pE l = if (T.walk 0 l.dropLast).2 = 0 then (if T.kind (T.pD l) = 2 then 0 else 8) else (T.walk 0 l.dropLast).2 := by unfold TrD.pE; rw [if_neg h0, hnn, hn, if_pos rfl]; rfl
        rw [← hpe] at HPA0
        by_cases hp : T.pE l = 0
        · obtain ⟨_, _, hd, hkd, hwd⟩ := hT.pE_zero hp
          have HPA := Lib.hid (fun w (h : Sat W w (IsW p T :: L)) => (show Calls Try.prog 64 #[.pointer (some ⟨p, 0, none⟩), .slice (some ⟨b, off, none⟩) l.length c] w fun r w' => r = .returned (.tuple #[.int .i64 (T.pD l : Nat), .int .i64 0]) ∧ Sat W w' (IsW p T :: L) from
            (HPA0.out w h).mono fun r w' ⟨dd, h1, h2, h3⟩ => by rw [h2 (by rw [hwd]) hkd, hp] at h1; exact ⟨h1, h3⟩))
          have hlen := hT.len _ (hT.dir_mem hd)
          have HE0 := Lib.hid (show T.mkE l k = if hasE (T.dir (T.pD l)) (TrD.lastN l) = true then 6 else if T.free = none then 5 else if 64 ≤ (T.dir (T.pD l)).length then 5 else 0 by unfold TrD.mkE; rw [if_pos hk, if_pos hp])
          have HM0 := Lib.hid (show T.mkI l k = if T.mkE l k = 0 then T.free.getD 0 else 0 from rfl)
          have HM1 := Lib.hid (show T.mk' l k = if T.mkE l k = 0 then ((T.put (T.pD l) (T.mkI l k) (TrD.lastN l)).setK (T.mkI l k) k).tch [T.pD l, T.mkI l k] else T from rfl)
          obtain ⟨d, hdd⟩ : ∃ d, T.pD l = d := ⟨_, rfl⟩
          rw [hdd] at HPA HE0 HM1 hd hlen hkd
          rw [hnn] at HE0 HM1
          have HFI := Lib.hid (fun w (L' : List Asrt) ao1 c1 (h : Sat W w L') (hr : ∀ w, Sat W w L' → Rd w (.slice ao1 (T.dir d).length c1) (T.dir d).length 2 ((T.dir d).flatMap ev2)) => rfind_any h (T.dir d) ao1 c1 n hr (by omega))
          have HFR := Lib.hid (fun w (h : Sat W w (IsW p T :: L)) => rfree_any h hT)
          have kd : (d : Int) < 48 := by omega
          clear hdd hnn hp hpe hwd hkd HPA0 hr h0
          cases hh : hasE (T.dir d) n with
          | true =>
            have hE : T.mkE l k = 6 := by rw [HE0.out, hh, if_pos rfl]
            rw [HM1.out, HM0.out, hE, if_neg (by decide), if_neg (by decide)]
            rw [hh] at HFI
            clear hE hh
            rcases hk with rfl | rfl
            all_goals
              go_enter Try.func40, Try.ntmps40
              go_wp2_with (first
                | (refine toList (by rfl) ?_; refine wp_of_reads (rLdRd (f := sv1) (x := n) (u := .string ⟨n.toArray⟩) (HR.out _ [_] hS) (sv1_len l) _ _ (by rfl) _ (by rfl) (agOf (by rfl)) m 0 (by omega) HX.out (by rfl) (by omega)) ?_)
                | (go_at_call 63; refine (HNM.out _).mono ?_; rintro r w1 ⟨rfl, rfl⟩)
                | (go_at_call 64; refine (HPA.out _ hS).mono ?_; rintro r w1 ⟨rfl, hS1⟩; clear hS; have hS := hS1; clear hS1; obtain ⟨v, vt, hO⟩ := IsW.open hS; clear hS; have hS := hO; clear hO; obtain ⟨ao1, c1, hv, _⟩ := rws_shape hS (k := 1) rfl hd)
                | (refine toList (by rfl) ?_; refine wp_of_reads (rLdRd (f := sv1) (x := n) (u := .string ⟨n.toArray⟩) (HR.out _ [_, _, _] hS) (sv1_len l) _ _ (by rfl) _ (by rfl) (agOf (by rfl)) m 0 (by omega) HX.out (by rfl) (by omega)) ?_)
                | (refine toList (by rfl) ?_; refine ld hS _ _ (by rfl) _ _ (by rfl) (agOf (by rfl)) Has.z (wl_vu (u := .slice ao1 (T.dir d).length c1) hd (by omega) hv) ?_)
                | (go_at_call 65; refine (HFI.out _ _ ao1 c1 hS (fun w h => by rw [← hv]; exact rws_rd h (k := 1) rfl hd)).mono ?_; rintro r w1 ⟨rfl, hS1⟩; clear hS; have hS := hS1; clear hS1)
                | (go_at_call 51; refine (HFR.out _ (IsW.mk hS)).mono ?_; rintro r w1 ⟨rfl, hS1⟩; clear hS; have hS := hS1; clear hS1; obtain ⟨v, vt, hO⟩ := IsW.open hS; clear hS; have hS := hO; clear hO; obtain ⟨ao1, c1, hv, _⟩ := rws_shape hS (k := 1) rfl hd)
                )
              go_ret2
              exact ⟨rfl, IsW.mk hS⟩
          | false =>
            rw [hh] at HFI
            cases hf : T.free with
            | none =>
              have hE : T.mkE l k = 5 := by rw [HE0.out, hh, hf, if_neg (by decide), if_pos rfl]
              rw [HM1.out, HM0.out, hE, if_neg (by decide), if_neg (by decide)]
              rw [hf] at HFR
              clear hE hh
              rcases hk with rfl | rfl
              all_goals
                go_enter Try.func40, Try.ntmps40
                go_wp2_with (first
                  | (refine toList (by rfl) ?_; refine wp_of_reads (rLdRd (f := sv1) (x := n) (u := .string ⟨n.toArray⟩) (HR.out _ [_] hS) (sv1_len l) _ _ (by rfl) _ (by rfl) (agOf (by rfl)) m 0 (by omega) HX.out (by rfl) (by omega)) ?_)
                  | (go_at_call 63; refine (HNM.out _).mono ?_; rintro r w1 ⟨rfl, rfl⟩)
                  | (go_at_call 64; refine (HPA.out _ hS).mono ?_; rintro r w1 ⟨rfl, hS1⟩; clear hS; have hS := hS1; clear hS1; obtain ⟨v, vt, hO⟩ := IsW.open hS; clear hS; have hS := hO; clear hO; obtain ⟨ao1, c1, hv, _⟩ := rws_shape hS (k := 1) rfl hd)
                  | (refine toList (by rfl) ?_; refine wp_of_reads (rLdRd (f := sv1) (x := n) (u := .string ⟨n.toArray⟩) (HR.out _ [_, _, _] hS) (sv1_len l) _ _ (by rfl) _ (by rfl) (agOf (by rfl)) m 0 (by omega) HX.out (by rfl) (by omega)) ?_)
                  | (refine toList (by rfl) ?_; refine ld hS _ _ (by rfl) _ _ (by rfl) (agOf (by rfl)) Has.z (wl_vu (u := .slice ao1 (T.dir d).length c1) hd (by omega) hv) ?_)
                  | (go_at_call 65; refine (HFI.out _ _ ao1 c1 hS (fun w h => by rw [← hv]; exact rws_rd h (k := 1) rfl hd)).mono ?_; rintro r w1 ⟨rfl, hS1⟩; clear hS; have hS := hS1; clear hS1)
                  | (go_at_call 51; refine (HFR.out _ (IsW.mk hS)).mono ?_; rintro r w1 ⟨rfl, hS1⟩; clear hS; have hS := hS1; clear hS1; obtain ⟨v, vt, hO⟩ := IsW.open hS; clear hS; have hS := hO; clear hO; obtain ⟨ao1, c1, hv, _⟩ := rws_shape hS (k := 1) rfl hd)
                  )
                go_ret2
                exact ⟨rfl, IsW.mk hS⟩
            | some i =>
              obtain ⟨f1, _, f3, _⟩ := hT.free_some hf
              rw [hf] at HFR
              by_cases h64 : 64 ≤ (T.dir d).length
              · have hE : T.mkE l k = 5 := by rw [HE0.out, hh, hf, if_neg (by decide), if_neg (by simp), if_pos h64]
                rw [HM1.out, HM0.out, hE, if_neg (by decide), if_neg (by decide)]
                have g1 : decide ((64 : Int) ≤ ((T.dir d).length : Int)) = true := decide_eq_true (by omega)
                have g2 : decide (64 ≤ (T.dir d).length) = true := decide_eq_true h64
                clear hE hh h64
                rcases hk with rfl | rfl
                all_goals
                  go_enter Try.func40, Try.ntmps40
                  go_wp2_with (first
                    | (refine toList (by rfl) ?_; refine wp_of_reads (rLdRd (f := sv1) (x := n) (u := .string ⟨n.toArray⟩) (HR.out _ [_] hS) (sv1_len l) _ _ (by rfl) _ (by rfl) (agOf (by rfl)) m 0 (by omega) HX.out (by rfl) (by omega)) ?_)
                    | (go_at_call 63; refine (HNM.out _).mono ?_; rintro r w1 ⟨rfl, rfl⟩)
                    | (go_at_call 64; refine (HPA.out _ hS).mono ?_; rintro r w1 ⟨rfl, hS1⟩; clear hS; have hS := hS1; clear hS1; obtain ⟨v, vt, hO⟩ := IsW.open hS; clear hS; have hS := hO; clear hO; obtain ⟨ao1, c1, hv, _⟩ := rws_shape hS (k := 1) rfl hd)
                    | (refine toList (by rfl) ?_; refine wp_of_reads (rLdRd (f := sv1) (x := n) (u := .string ⟨n.toArray⟩) (HR.out _ [_, _, _] hS) (sv1_len l) _ _ (by rfl) _ (by rfl) (agOf (by rfl)) m 0 (by omega) HX.out (by rfl) (by omega)) ?_)
                    | (refine toList (by rfl) ?_; refine ld hS _ _ (by rfl) _ _ (by rfl) (agOf (by rfl)) Has.z (wl_vu (u := .slice ao1 (T.dir d).length c1) hd (by omega) hv) ?_)
                    | (go_at_call 65; refine (HFI.out _ _ ao1 c1 hS (fun w h => by rw [← hv]; exact rws_rd h (k := 1) rfl hd)).mono ?_; rintro r w1 ⟨rfl, hS1⟩; clear hS; have hS := hS1; clear hS1)
                    | (go_at_call 51; refine (HFR.out _ (IsW.mk hS)).mono ?_; rintro r w1 ⟨rfl, hS1⟩; clear hS; have hS := hS1; clear hS1; obtain ⟨v, vt, hO⟩ := IsW.open hS; clear hS; have hS := hO; clear hO; obtain ⟨ao1, c1, hv, _⟩ := rws_shape hS (k := 1) rfl hd)
                    )
                  go_ret2
                  exact ⟨rfl, IsW.mk hS⟩
              · have hE : T.mkE l k = 0 := by rw [HE0.out, hh, hf, if_neg (by decide), if_neg (by simp), if_neg h64]
                have hI : T.mkI l k = i := by rw [HM0.out, hE, if_pos rfl, hf]; rfl
                have hC : addC (T.dir d) ⟨n, (i : Int)⟩ = 0 := addC_yes hn f3 f1 hh (by omega)
                have hV : addV (T.dir d) ⟨n, (i : Int)⟩ = insE (T.dir d) ⟨n, (i : Int)⟩ := by unfold addV; rw [if_pos hC]
                have HAD := Lib.hid (fun w (L' : List Asrt) ao1 c1 (h : Sat W w L') (hr : ∀ w, Sat W w L' → Rd w (.slice ao1 (T.dir d).length c1) (T.dir d).length 2 ((T.dir d).flatMap ev2)) => by have := radd_any h (T.dir d) ao1 c1 ⟨n, (i : Int)⟩ hr (by omega) (hT.srt _ (hT.dir_mem hd)); rw [hC, hV] at this; exact this)
                have hOK2 := hT.put (n := n) hd hn f3 f1 hh (by omega)
                have HPD := Lib.hid (TrD.put_dir hT hd i n)
                have HKK := Lib.hid (TrD.setK_kind hOK2 f1 k)
                have HKE := Lib.hid (show (T.put d i n).kind = T.kind from rfl)
                have HLE := Lib.hid (show (T.put d i n).last = T.last from rfl)
                rw [HM1.out, hI, hE, if_pos rfl]
                have g1 : decide ((64 : Int) ≤ ((T.dir d).length : Int)) = false := decide_eq_false (by omega)
                have g2 : decide (64 ≤ (T.dir d).length) = false := decide_eq_false h64
                have ki : (i : Int) < 48 := by omega
                obtain ⟨T2, hT2⟩ : ∃ T2, T.put d i n = T2 := ⟨_, rfl⟩
                rw [hT2] at HKK HPD HKE HLE ⊢
                have HTO := Lib.hid (fun w v (L' : List Asrt) (h : Sat W w (IsW p (T2.setK i k) :: Ir v [d, i] :: L')) => rtouch_any h (by simp))
                clear hE hh h64 hI hC hV hOK2 hT2 hn hf HE0 HM0 HM1
                rcases hk with rfl | rfl
                all_goals
                  go_enter Try.func40, Try.ntmps40
                  go_wp2_with (first
                    | (refine toList (by rfl) ?_; refine wp_of_reads (rLdRd (f := sv1) (x := n) (u := .string ⟨n.toArray⟩) (HR.out _ [_] hS) (sv1_len l) _ _ (by rfl) _ (by rfl) (agOf (by rfl)) m 0 (by omega) HX.out (by rfl) (by omega)) ?_)
                    | (go_at_call 63; refine (HNM.out _).mono ?_; rintro r w1 ⟨rfl, rfl⟩)
                    | (go_at_call 64; refine (HPA.out _ hS).mono ?_; rintro r w1 ⟨rfl, hS1⟩; clear hS; have hS := hS1; clear hS1; obtain ⟨v, vt, hO⟩ := IsW.open hS; clear hS; have hS := hO; clear hO; obtain ⟨ao1, c1, hv, _⟩ := rws_shape hS (k := 1) rfl hd)
                    | (refine toList (by rfl) ?_; refine wp_of_reads (rLdRd (f := sv1) (x := n) (u := .string ⟨n.toArray⟩) (HR.out _ [_, _, _] hS) (sv1_len l) _ _ (by rfl) _ (by rfl) (agOf (by rfl)) m 0 (by omega) HX.out (by rfl) (by omega)) ?_)
                    | (refine toList (by rfl) ?_; refine ld hS _ _ (by rfl) _ _ (by rfl) (agOf (by rfl)) Has.z (wl_vu (u := .slice ao1 (T.dir d).length c1) hd (by omega) hv) ?_)
                    | (go_at_call 65; refine (HFI.out _ _ ao1 c1 hS (fun w h => by rw [← hv]; exact rws_rd h (k := 1) rfl hd)).mono ?_; rintro r w1 ⟨rfl, hS1⟩; clear hS; have hS := hS1; clear hS1)
                    | (go_at_call 51; refine (HFR.out _ (IsW.mk hS)).mono ?_; rintro r w1 ⟨rfl, hS1⟩; clear hS; have hS := hS1; clear hS1; obtain ⟨v, vt, hO⟩ := IsW.open hS; clear hS; have hS := hO; clear hO; obtain ⟨ao1, c1, hv, _⟩ := rws_shape hS (k := 1) rfl hd)
                    | (go_at_call 66; refine (HAD.out _ _ ao1 c1 hS (fun w h => by rw [← hv]; exact rws_rd h (k := 1) rfl hd)).mono ?_; rintro r w1 ⟨v', rfl, hS1⟩; clear hS; have hS := hS1; clear hS1; obtain ⟨ao2, c2, rfl, _⟩ := Sat.tbShape (k := 0) (show Sat _ _ (Tb 59 2 ev2 v' (insE (T.dir d) ⟨n, (i : Int)⟩) :: _) from hS) rfl; replace hS := hS.pull1)
                                      | (refine toList (by rfl) ?_; refine st hS _ _ _ (by rfl) _ _ (by rfl) _ (by first | exact evC | exact evT (by rfl)) (by rfl) (szOf (by rfl)) Has.z (by rw [wl_len]; omega) ?_; intro w1 hS1; clear hS; have hS := hS1; clear hS1; simp only [List.set_cons_zero] at hS; rw [wl_setV _ hd (by omega)] at hS; replace hS := putW hd HKE.out HPD.out HLE.out hS; obtain ⟨v2, vt2, hO⟩ := IsW.open hS; clear hS; have hS := hO; clear hO)
                                      | (refine toList (by rfl) ?_; refine st hS _ _ _ (by rfl) _ _ (by rfl) _ (by first | exact evC | exact evT (by rfl)) (by rfl) (szOf (by rfl)) Has.z (by rw [wl_len]; omega) ?_; intro w1 hS1; clear hS; have hS := hS1; clear hS1; simp only [List.set_cons_zero] at hS; rw [wl_setK _ f1 (by omega)] at hS; replace hS := IsW.mk (T := T2.setK i _) (v := v2) (vt := vt2) (by rw [HKK.out]; exact hS))
                                      | (refine toList (by rfl) ?_; refine bsF hS _ _ _ (by rfl) (elOf (by rfl)) [.int .i64 (d : Int), .int .i64 (i : Int)] (by rfl) (by rfl) (by decide) (by decide) (by intro v hv; simp only [List.mem_cons, List.not_mem_nil, or_false] at hv; rcases hv with rfl | rfl <;> rfl) ?_; intro b1 w1 hS1; clear hS; have hS := csIr (l := [d, i]) (by simp) (show Sat W w1 (Cs b1 _ (iv [d, i]) :: _) from hS1); clear hS1)
                                      | (go_at_call 67; refine (HTO.out _ _ _ hS.pull1).mono ?_; rintro r w1 ⟨rfl, hS1⟩; clear hS; have hS := hS1; clear hS1))
                  go_ret2
                  exact ⟨rfl, hS⟩
        · have hE : T.mkE l k = T.pE l := by unfold TrD.mkE; rw [if_pos hk, if_neg hp]
          have hE0 : T.mkE l k ≠ 0 := by rw [hE]; exact hp
          have hI : T.mkI l k = 0 := by unfold TrD.mkI; rw [if_neg hE0]
          have hM : T.mk' l k = T := by unfold TrD.mk'; rw [if_neg hE0]
          rw [hI, hM, hE]
          obtain ⟨e, he⟩ : ∃ e, T.pE l = e := ⟨_, rfl⟩
          rw [he] at HPA0 hp ⊢
          have e1 : (e != 0) = true := bne_iff_ne.2 hp
          clear hE hE0 hI hM he hp hpe hr h0 hnn hn
          rcases hk with rfl | rfl
          all_goals
            go_enter Try.func40, Try.ntmps40
            go_wp2_with (first
              | (refine toList (by rfl) ?_; refine wp_of_reads (rLdRd (f := sv1) (x := n) (u := .string ⟨n.toArray⟩) (HR.out _ [_] hS) (sv1_len l) _ _ (by rfl) _ (by rfl) (agOf (by rfl)) m 0 (by omega) HX.out (by rfl) (by omega)) ?_)
              | (go_at_call 63; refine (HNM.out _).mono ?_; rintro r w1 ⟨rfl, rfl⟩)
              | (go_at_call 64; refine (HPA0.out _ hS).mono ?_; rintro r w1 ⟨dd, rfl, _, hS1⟩; clear hS; have hS := hS1; clear hS1))
            go_ret2
            exact ⟨rfl, hS⟩
  · have hE : T.mkE l k = 1 := by unfold TrD.mkE; rw [if_neg hk]
    have hI : T.mkI l k = 0 := by unfold TrD.mkI; rw [hE, if_neg (by decide)]
    have hM : T.mk' l k = T := by unfold TrD.mk'; rw [hE, if_neg (by decide)]
    rw [hI, hM, hE]
    have q1 : (k != 1) = true := bne_iff_ne.2 (fun e => hk (.inl e))
    have q2 : (k != 2) = true := bne_iff_ne.2 (fun e => hk (.inr e))
    clear hE hI hM hk
    go_enter Try.func40, Try.ntmps40
    go_wp2
    go_ret2
    exact ⟨rfl, hS⟩
end Go.Proofs.Ytiieicdhkcikpaa
