/-
  The document's tree: Link, Unlink, Rmdir, Drop.
  The document's tree: Unlink, Rmdir, Drop.
-/
import Derived.Test.YtiieicdhkcikpaaTrRf6
namespace Go.Proofs.Ytiieicdhkcikpaa
open Go.RowKit Go.Sep
set_option linter.unusedSimpArgs false
set_option linter.unusedVariables false
attribute [local irreducible] Go.Oper.wp Go.wpList Go.Calls Go.Code.wp Go.Sep.Reg
attribute [local irreducible] IsT IsW
set_option maxRecDepth 20000 in
set_option maxHeartbeats 2000000 in
theorem rlink_any {W w : World} {L : List Asrt} {p : Nat} {T : TrD} (hS : Sat W w (IsW p T :: L)) (hT : T.Ok) (l to : List (List UInt8)) (ao ao' : Option Addr) (c c' : Nat) (hr : ∀ w L', Sat W w (L' ++ L) → Rd w (.slice ao l.length c) l.length 1 (l.flatMap sv1)) (hl : l.length ≤ 1000000)
    (hr' : ∀ w L', Sat W w (L' ++ L) → Rd w (.slice ao' to.length c') to.length 1 (to.flatMap sv1)) (hl' : to.length ≤ 1000000) :
    Calls Try.prog 41 #[.pointer (some ⟨p, 0, none⟩), .slice ao l.length c, .slice ao' to.length c'] w fun r w' => r = .returned (.tuple #[.int .i64 (T.lkI l to : Nat), .int .i64 (T.lkE l to)]) ∧ Sat W w' (IsW p (T.lk l to) :: L) := by
  have HWK := Lib.hid (fun w (h : Sat W w (IsW p T :: L)) => rwalk_any h hT l ao c hr hl)
  obtain ⟨i, hi, hi48⟩ := hT.walk_lt l 0 (by omega)
  by_cases hw : (T.walk 0 l).2 = 0
  · rw [hi, hw] at HWK
    have q1 : (i : Int) < 48 := by omega
    obtain ⟨kk, hkk⟩ : ∃ kk, T.kind i = kk := ⟨_, rfl⟩
    by_cases h2 : kk = 2
    · have hE : T.lkE l to = 7 := by unfold TrD.lkE; rw [if_pos hw, hi, Int.toNat_natCast, hkk, if_pos h2]
      have hI : T.lkI l to = 0 := by unfold TrD.lkI; rw [hE, if_neg (by decide)]
      have hM : T.lk l to = T := by unfold TrD.lk; rw [hE, if_neg (by decide)]
      rw [hI, hM, hE]
      have e1 : (kk == 2) = true := by rw [h2]; rfl
      clear hE hI hM hw hi h2 hr hr'
      go_enter Try.func41, Try.ntmps41
      go_wp2_with (first
        | (go_at_call 47; refine (HWK.out _ hS).mono ?_; rintro r w1 ⟨rfl, hS1⟩; clear hS; have hS := hS1; clear hS1; obtain ⟨v, vt, hO⟩ := IsW.open hS; clear hS; have hS := hO; clear hO)
        | (refine toList (by rfl) ?_; refine ld hS _ _ (by rfl) _ _ (by rfl) (agOf (by rfl)) Has.z (wl_ku (z := kk) hi48 (by omega) hkk) ?_)
        )
      go_ret2
      exact ⟨rfl, IsW.mk hS⟩
    · have e1 : (kk == 2) = false := beq_eq_false_iff_ne.2 h2
      by_cases h0 : to = []
      · have hE : T.lkE l to = 1 := by unfold TrD.lkE TrD.pE; rw [if_pos hw, hi, Int.toNat_natCast, hkk, if_neg h2, if_pos h0]; rfl
        have hI : T.lkI l to = 0 := by unfold TrD.lkI; rw [hE, if_neg (by decide)]
        have hM : T.lk l to = T := by unfold TrD.lk; rw [hE, if_neg (by decide)]
        rw [hI, hM, hE]
        subst h0
        clear hE hI hM hw hi h2 hr hr'
        go_enter Try.func41, Try.ntmps41
        go_wp2_with (first
          | (go_at_call 47; refine (HWK.out _ hS).mono ?_; rintro r w1 ⟨rfl, hS1⟩; clear hS; have hS := hS1; clear hS1; obtain ⟨v, vt, hO⟩ := IsW.open hS; clear hS; have hS := hO; clear hO)
          | (refine toList (by rfl) ?_; refine ld hS _ _ (by rfl) _ _ (by rfl) (agOf (by rfl)) Has.z (wl_ku (z := kk) hi48 (by omega) hkk) ?_)
          )
        go_ret2
        exact ⟨rfl, IsW.mk hS⟩
      · have hi1 : 1 ≤ i := by
          rcases Nat.eq_zero_or_pos i with e | e
          · subst e; rw [hT.k0] at hkk; exact absurd hkk.symm h2
          · exact e
        obtain ⟨_, _, he, hc1, hc2, _, h5⟩ := hr' w [_] hS
        simp only [Value.slice.injEq, true_and] at he
        obtain ⟨rfl, rfl⟩ := he
        obtain ⟨b, off, rfl, _⟩ := h5 (List.length_pos_iff.2 h0)
        clear h5
        obtain ⟨m, hm⟩ : ∃ m, to.length = m + 1 := ⟨to.length - 1, by have := List.length_pos_iff.2 h0; omega⟩
        have HX := Lib.hid (last_at hm).1
        have HR := Lib.hid (fun w (L' : List Asrt) (h : Sat W w (L' ++ L)) => hr' w L' h)
        have e0 : ((to.length : Int) == 0) = false := beq_eq_false_iff_ne.2 (by omega)
        have hsub : (to.length : Int) - 1 = (m : Int) := by omega
        have k1 : (m : Int) < (to.length : Int) := by omega
        have k2 : m < to.length := by omega
        have k3 : (1 : Int) ≤ (to.length : Int) := by omega
        have k4 : (to.length : Int) ≤ 1000000 := by omega
        have HPA0 := Lib.hid (fun w (h : Sat W w (IsW p T :: L)) => rparent_any h hT to _ _ hr' hl' h0)
        clear hm
        obtain ⟨n, hnn⟩ : ∃ n, TrD.lastN to = n := ⟨_, rfl⟩
        rw [hnn] at HX
        have HNM := Lib.hid (fun w => rname_any n w)
        cases hn : nameOk n with
        | false =>
          have hE : T.lkE l to = 1 := by unfold TrD.lkE TrD.pE; rw [if_pos hw, hi, Int.toNat_natCast, hkk, if_neg h2, if_neg h0, hnn, hn]; rfl
          have hI : T.lkI l to = 0 := by unfold TrD.lkI; rw [hE, if_neg (by decide)]
          have hM : T.lk l to = T := by unfold TrD.lk; rw [hE, if_neg (by decide)]
          rw [hI, hM, hE]
          rw [hn] at HNM
          clear hE hI hM hw hi h2 hr hr' h0 hn hnn
          go_enter Try.func41, Try.ntmps41
          go_wp2_with (first
            | (go_at_call 47; refine (HWK.out _ hS).mono ?_; rintro r w1 ⟨rfl, hS1⟩; clear hS; have hS := hS1; clear hS1; obtain ⟨v, vt, hO⟩ := IsW.open hS; clear hS; have hS := hO; clear hO)
            | (refine toList (by rfl) ?_; refine ld hS _ _ (by rfl) _ _ (by rfl) (agOf (by rfl)) Has.z (wl_ku (z := kk) hi48 (by omega) hkk) ?_)
            | (refine toList (by rfl) ?_; refine wp_of_reads (rLdRd (f := sv1) (x := n) (u := .string ⟨n.toArray⟩) (HR.out _ [_, _, _] hS) (sv1_len to) _ _ (by rfl) _ (by rfl) (agOf (by rfl)) m 0 (by omega) HX.out (by rfl) (by omega)) ?_)
                      | (go_at_call 63; refine (HNM.out _).mono ?_; rintro r w1 ⟨rfl, rfl⟩))
          go_ret2
          exact ⟨rfl, IsW.mk hS⟩
        | true =>
          rw [hn] at HNM
          have hpe : T.pE to = if (T.walk 0 to.dropLast).2 = 0 then (if T.kind (T.pD to) = 2 then 0 else 8) else (T.walk 0 to.dropLast).2 := by unfold TrD.pE; rw [if_neg h0, hnn, hn, if_pos rfl]; rfl
          rw [← hpe] at HPA0
          by_cases hp : T.pE to = 0
          · obtain ⟨_, _, hd, hkd, hwd⟩ := hT.pE_zero hp
            have HPA := Lib.hid (fun w (h : Sat W w (IsW p T :: L)) => (show Calls Try.prog 64 #[.pointer (some ⟨p, 0, none⟩), .slice (some ⟨b, off, none⟩) to.length c'] w fun r w' => r = .returned (.tuple #[.int .i64 (T.pD to : Nat), .int .i64 0]) ∧ Sat W w' (IsW p T :: L) from
              (HPA0.out w h).mono fun r w' ⟨dd, h1, h2, h3⟩ => by rw [h2 (by rw [hwd]) hkd, hp] at h1; exact ⟨h1, h3⟩))
            have hE0 : T.lkE l to = if hasE (T.dir (T.pD to)) (TrD.lastN to) = true then 6 else if 64 ≤ (T.dir (T.pD to)).length then 5 else 0 := by
              unfold TrD.lkE; rw [if_pos hw, hi, Int.toNat_natCast, hkk, if_neg h2, if_pos hp]
            have hC0 : addC (T.dir (T.pD to)) ⟨TrD.lastN to, (i : Int)⟩ = T.lkE l to := by
              rw [hE0]; unfold addC
              have hok : entOk ⟨TrD.lastN to, (i : Int)⟩ = true := by unfold entOk; rw [hnn, hn]; simp; omega
              rw [hok, if_pos rfl]
            have HI0 := Lib.hid (show T.lkI l to = if T.lkE l to = 0 then i else 0 by unfold TrD.lkI; rw [hi]; rfl)
            have HM0 := Lib.hid (show T.lk l to = if T.lkE l to = 0 then (T.put (T.pD to) (T.lkI l to) (TrD.lastN to)).tch [T.pD to, T.lkI l to] else T from rfl)
            obtain ⟨d, hdd⟩ : ∃ d, T.pD to = d := ⟨_, rfl⟩
            rw [hdd] at HPA hd hC0 HM0
            rw [hnn] at hC0 HM0
            have hlen := hT.len _ (hT.dir_mem hd)
            have kd : (d : Int) < 48 := by omega
            have HAD := Lib.hid (fun w (L' : List Asrt) ao1 c1 (h : Sat W w L') (hr : ∀ w, Sat W w L' → Rd w (.slice ao1 (T.dir d).length c1) (T.dir d).length 2 ((T.dir d).flatMap ev2)) => radd_any h (T.dir d) ao1 c1 ⟨n, (i : Int)⟩ hr (by omega) (hT.srt _ (hT.dir_mem hd)))
            clear hE0 hp hpe hwd hdd hnn hkd HPA0
            by_cases hz : T.lkE l to = 0
            · have HIL := Lib.hid (show addV (T.dir d) ⟨n, (i : Int)⟩ = insE (T.dir d) ⟨n, (i : Int)⟩ by unfold addV; rw [hC0, if_pos hz])
              rw [HM0.out, HI0.out, hz, if_pos rfl, if_pos rfl]
              rw [hz] at hC0
              have HPD := Lib.hid (TrD.put_dir hT hd i n)
              have HKE := Lib.hid (show (T.put d i n).kind = T.kind from rfl)
              have HLE := Lib.hid (show (T.put d i n).last = T.last from rfl)
              obtain ⟨T2, hT2⟩ : ∃ T2, T.put d i n = T2 := ⟨_, rfl⟩
              rw [hT2] at HPD HKE HLE ⊢
              have HTO := Lib.hid (fun w v (L' : List Asrt) (h : Sat W w (IsW p T2 :: Ir v [d, i] :: L')) => rtouch_any h (by simp))
              have HA2 := Lib.hid (fun w (L' : List Asrt) ao1 c1 (h : Sat W w L') hr => by have := HAD.out w L' ao1 c1 h hr; rw [hC0, HIL.out] at this; exact this)
              clear hw hi h2 hr hr' h0 hn hz hC0 HI0 HM0 hT2
              go_enter Try.func41, Try.ntmps41
              go_wp2_with (first
                | (go_at_call 47; refine (HWK.out _ hS).mono ?_; rintro r w1 ⟨rfl, hS1⟩; clear hS; have hS := hS1; clear hS1; obtain ⟨v, vt, hO⟩ := IsW.open hS; clear hS; have hS := hO; clear hO)
                | (refine toList (by rfl) ?_; refine ld hS _ _ (by rfl) _ _ (by rfl) (agOf (by rfl)) Has.z (wl_ku (z := kk) hi48 (by omega) hkk) ?_)
                | (refine toList (by rfl) ?_; refine wp_of_reads (rLdRd (f := sv1) (x := n) (u := .string ⟨n.toArray⟩) (HR.out _ [_, _, _] hS) (sv1_len to) _ _ (by rfl) _ (by rfl) (agOf (by rfl)) m 0 (by omega) HX.out (by rfl) (by omega)) ?_)
                              | (go_at_call 63; refine (HNM.out _).mono ?_; rintro r w1 ⟨rfl, rfl⟩)
                              | (go_at_call 64; refine (HPA.out _ (IsW.mk hS)).mono ?_; rintro r w1 ⟨rfl, hS1⟩; clear hS; have hS := hS1; clear hS1; obtain ⟨v, vt, hO⟩ := IsW.open hS; clear hS; have hS := hO; clear hO; obtain ⟨ao1, c1, hv, _⟩ := rws_shape hS (k := 1) rfl hd))
              refine regStart [14] hS (by kernel_rfl) rfl ?_
              intro w1 hS1
              clear hS; have hS := hS1; clear hS1
              (refine regP 0 hS (fun _ h => h) rfl (by kernel_rfl) (by kernel_rfl) (by kernel_rfl) (fun _ _ _ _ h => h) (by rfl) (by rfl) ?_; apply Exists.intro; apply And.intro; (intro w; go_simp; try with_reducible rfl); go_frame)
              (refine regP 1 hS (fun _ h => h) rfl (by kernel_rfl) (by kernel_rfl) (by kernel_rfl) (fun _ _ _ _ h => h) (by rfl) (by rfl) ?_; apply Exists.intro; apply And.intro; (intro w; go_simp; try with_reducible rfl); go_frame)
              (refine regP 2 hS (fun _ h => h) rfl (by kernel_rfl) (by kernel_rfl) (by kernel_rfl) (fun _ _ _ _ h => h) (by rfl) (by rfl) ?_; apply Exists.intro; apply And.intro; (intro w; go_simp; try with_reducible rfl); go_frame)
              (refine regP 3 hS (fun _ h => h) rfl (by kernel_rfl) (by kernel_rfl) (by kernel_rfl) (fun _ _ _ _ h => h) (by rfl) (by rfl) ?_; apply Exists.intro; apply And.intro; (intro w; go_simp; try with_reducible rfl); go_frame)
              (refine regP 4 hS (fun _ h => h) rfl (by kernel_rfl) (by kernel_rfl) (by kernel_rfl) (fun _ _ _ _ h => h) (by rfl) (by rfl) ?_; apply Exists.intro; apply And.intro; (intro w; go_simp; try with_reducible rfl); go_frame)
              (refine regR 5 hS (fun _ h => h) rfl (by kernel_rfl) (by kernel_rfl) (by kernel_rfl) (by kernel_rfl) (by kernel_rfl) (fun _ _ _ _ h => h) (by rfl) (by rfl) ?_; ((first
                                            | refine ⟨.slice ao1 (T.dir d).length c1, yLd _ _ (by rfl) _ _ (by rfl) (agOf (by rfl)) Has.z (wl_vu (u := .slice ao1 (T.dir d).length c1) hd (by omega) hv), ?_⟩
                                            | refine ⟨.string ⟨n.toArray⟩, fun u hu => rLdRd (f := sv1) (x := n) (HR.out _ [_, _, _] hu) (sv1_len to) _ _ (by rfl) _ (by rfl) (agOf (by rfl)) m 0 (by omega) HX.out (by rfl) (by omega), ?_⟩)); go_frame)
              (refine regP 6 hS (fun _ h => h) rfl (by kernel_rfl) (by kernel_rfl) (by kernel_rfl) (fun _ _ _ _ h => h) (by rfl) (by rfl) ?_; apply Exists.intro; apply And.intro; (intro w; go_simp; try with_reducible rfl); go_frame)
              (refine regP 7 hS (fun _ h => h) rfl (by kernel_rfl) (by kernel_rfl) (by kernel_rfl) (fun _ _ _ _ h => h) (by rfl) (by rfl) ?_; apply Exists.intro; apply And.intro; (intro w; go_simp; try with_reducible rfl); go_frame)
              (refine regP 8 hS (fun _ h => h) rfl (by kernel_rfl) (by kernel_rfl) (by kernel_rfl) (fun _ _ _ _ h => h) (by rfl) (by rfl) ?_; apply Exists.intro; apply And.intro; (intro w; go_simp; try with_reducible rfl); go_frame)
              (refine regP 9 hS (fun _ h => h) rfl (by kernel_rfl) (by kernel_rfl) (by kernel_rfl) (fun _ _ _ _ h => h) (by rfl) (by rfl) ?_; apply Exists.intro; apply And.intro; (intro w; go_simp; try with_reducible rfl); go_frame; try simp (disch := omega) only [IntWalk.i64_in])
              (refine regP 10 hS (fun _ h => h) rfl (by kernel_rfl) (by kernel_rfl) (by kernel_rfl) (fun _ _ _ _ h => h) (by rfl) (by rfl) ?_; apply Exists.intro; apply And.intro; (intro w; go_simp; try with_reducible rfl); go_frame)
              (refine regR 11 hS (fun _ h => h) rfl (by kernel_rfl) (by kernel_rfl) (by kernel_rfl) (by kernel_rfl) (by kernel_rfl) (fun _ _ _ _ h => h) (by rfl) (by rfl) ?_; ((first
                                            | refine ⟨.slice ao1 (T.dir d).length c1, yLd _ _ (by rfl) _ _ (by rfl) (agOf (by rfl)) Has.z (wl_vu (u := .slice ao1 (T.dir d).length c1) hd (by omega) hv), ?_⟩
                                            | refine ⟨.string ⟨n.toArray⟩, fun u hu => rLdRd (f := sv1) (x := n) (HR.out _ [_, _, _] hu) (sv1_len to) _ _ (by rfl) _ (by rfl) (agOf (by rfl)) m 0 (by omega) HX.out (by rfl) (by omega), ?_⟩)); go_frame)
              (refine regP 12 hS (fun _ h => h) rfl (by kernel_rfl) (by kernel_rfl) (by kernel_rfl) (fun _ _ _ _ h => h) (by rfl) (by rfl) ?_; apply Exists.intro; apply And.intro; (intro w; go_simp; try with_reducible rfl); go_frame)
              (refine regP 13 hS (fun _ h => h) rfl (by kernel_rfl) (by kernel_rfl) (by kernel_rfl) (fun _ _ _ _ h => h) (by rfl) (by rfl) ?_; apply Exists.intro; apply And.intro; (intro w; go_simp; try with_reducible rfl); go_frame)
              (refine regA 14 rfl (by kernel_rfl) (by rfl) (by rfl) true (by kernel_rfl) (fun K hK => ?_); ((refine Go.Sep.cl 66 _ _ (by rfl) (by rfl) (by kernel_rfl) (HA2.out _ _ ao1 c1 hS (fun w h => by rw [← hv]; exact rws_rd h (k := 1) rfl hd)) ?_; rintro r w1 ⟨v', rfl, hS1⟩; clear hS; have hS := hS1; clear hS1; obtain ⟨ao2, c2, rfl, _⟩ := Sat.tbShape (k := 0) (show Sat _ _ (Tb 59 2 ev2 v' (insE (T.dir d) ⟨n, (i : Int)⟩) :: _) from hS) rfl; replace hS := hS.pull1; refine ⟨_, rfl, ?_⟩)); refine hK _ _ _ hS (by first | (intro h; cases h; done) | exact fun _ _ h => h | exact fun _ _ h => h.drop | exact fun _ _ h => h.drop.drop | exact fun _ _ h => h.drop.pull1 | exact fun _ _ h => h.take2 | exact fun _ _ h => h.one Has.z | exact fun _ _ h => h.one (Has.s Has.z) | exact fun _ _ h => h.one (Has.s (Has.s Has.z))) ?_; clear hK K; go_frame)
              (refine regP 15 hS (fun _ h => h) rfl (by kernel_rfl) (by kernel_rfl) (by kernel_rfl) (fun _ _ _ _ h => h) (by rfl) (by rfl) ?_; apply Exists.intro; apply And.intro; (intro w; go_simp; try with_reducible rfl); go_frame)
              (refine regP 16 hS (fun _ h => h) rfl (by kernel_rfl) (by kernel_rfl) (by kernel_rfl) (fun _ _ _ _ h => h) (by rfl) (by rfl) ?_; apply Exists.intro; apply And.intro; (intro w; go_simp; try with_reducible rfl); go_frame)
              (refine regP 17 hS (fun _ h => h) rfl (by kernel_rfl) (by kernel_rfl) (by kernel_rfl) (fun _ _ _ _ h => h) (by rfl) (by rfl) ?_; apply Exists.intro; apply And.intro; (intro w; go_simp; try with_reducible rfl); go_frame)
              (refine regP 18 hS (fun _ h => h) rfl (by kernel_rfl) (by kernel_rfl) (by kernel_rfl) (fun _ _ _ _ h => h) (by rfl) (by rfl) ?_; apply Exists.intro; apply And.intro; (intro w; go_simp; try with_reducible rfl); go_frame)
              (refine regP 19 hS (fun _ h => h) rfl (by kernel_rfl) (by kernel_rfl) (by kernel_rfl) (fun _ _ _ _ h => h) (by rfl) (by rfl) ?_; apply Exists.intro; apply And.intro; (intro w; go_simp; try with_reducible rfl); go_frame)
              refine regDone (by kernel_rfl) ?_
              go_wp2_with (first
                | (refine toList (by rfl) ?_; refine st hS _ _ _ (by rfl) _ _ (by rfl) _ (by first | exact evC | exact evT (by rfl)) (by rfl) (szOf (by rfl)) Has.z (by rw [wl_len]; omega) ?_; intro w1 hS1; clear hS; have hS := hS1; clear hS1; simp only [List.set_cons_zero] at hS; rw [wl_setV _ hd (by omega)] at hS; replace hS := putW hd HKE.out HPD.out HLE.out hS)
                | (refine toList (by rfl) ?_; refine bsF hS _ _ _ (by rfl) (elOf (by rfl)) [.int .i64 (d : Int), .int .i64 (i : Int)] (by rfl) (by rfl) (by decide) (by decide) (by intro v hv; simp only [List.mem_cons, List.not_mem_nil, or_false] at hv; rcases hv with rfl | rfl <;> rfl) ?_; intro b1 w1 hS1; clear hS; have hS := csIr (l := [d, i]) (by simp) (show Sat W w1 (Cs b1 _ (iv [d, i]) :: _) from hS1); clear hS1)
                | (go_at_call 67; refine (HTO.out _ _ _ hS.pull1).mono ?_; rintro r w1 ⟨rfl, hS1⟩; clear hS; have hS := hS1; clear hS1))
              go_ret2
              exact ⟨rfl, hS⟩
            · rw [HM0.out, HI0.out, if_neg hz, if_neg hz]
              obtain ⟨ee, hee⟩ : ∃ ee, T.lkE l to = ee := ⟨_, rfl⟩
              rw [hee] at hC0 hz ⊢
              have e2 : (ee != 0) = true := bne_iff_ne.2 hz
              obtain ⟨av, hav⟩ : ∃ av, addV (T.dir d) ⟨n, (i : Int)⟩ = av := ⟨_, rfl⟩
              have HA2 := Lib.hid (fun w (L' : List Asrt) ao1 c1 (h : Sat W w L') hr => by have := HAD.out w L' ao1 c1 h hr; rw [hC0, hav] at this; exact this)
              clear hw hi h2 hr hr' h0 hn hz hC0 HI0 HM0 hee hav
              go_enter Try.func41, Try.ntmps41
              go_wp2_with (first
                | (go_at_call 47; refine (HWK.out _ hS).mono ?_; rintro r w1 ⟨rfl, hS1⟩; clear hS; have hS := hS1; clear hS1; obtain ⟨v, vt, hO⟩ := IsW.open hS; clear hS; have hS := hO; clear hO)
                | (refine toList (by rfl) ?_; refine ld hS _ _ (by rfl) _ _ (by rfl) (agOf (by rfl)) Has.z (wl_ku (z := kk) hi48 (by omega) hkk) ?_)
                | (refine toList (by rfl) ?_; refine wp_of_reads (rLdRd (f := sv1) (x := n) (u := .string ⟨n.toArray⟩) (HR.out _ [_, _, _] hS) (sv1_len to) _ _ (by rfl) _ (by rfl) (agOf (by rfl)) m 0 (by omega) HX.out (by rfl) (by omega)) ?_)
                              | (go_at_call 63; refine (HNM.out _).mono ?_; rintro r w1 ⟨rfl, rfl⟩)
                              | (go_at_call 64; refine (HPA.out _ (IsW.mk hS)).mono ?_; rintro r w1 ⟨rfl, hS1⟩; clear hS; have hS := hS1; clear hS1; obtain ⟨v, vt, hO⟩ := IsW.open hS; clear hS; have hS := hO; clear hO; obtain ⟨ao1, c1, hv, _⟩ := rws_shape hS (k := 1) rfl hd))
              refine regStart [14] hS (by kernel_rfl) rfl ?_
              intro w1 hS1
              clear hS; have hS := hS1; clear hS1
              (refine regP 0 hS (fun _ h => h) rfl (by kernel_rfl) (by kernel_rfl) (by kernel_rfl) (fun _ _ _ _ h => h) (by rfl) (by rfl) ?_; apply Exists.intro; apply And.intro; (intro w; go_simp; try with_reducible rfl); go_frame)
              (refine regP 1 hS (fun _ h => h) rfl (by kernel_rfl) (by kernel_rfl) (by kernel_rfl) (fun _ _ _ _ h => h) (by rfl) (by rfl) ?_; apply Exists.intro; apply And.intro; (intro w; go_simp; try with_reducible rfl); go_frame)
              (refine regP 2 hS (fun _ h => h) rfl (by kernel_rfl) (by kernel_rfl) (by kernel_rfl) (fun _ _ _ _ h => h) (by rfl) (by rfl) ?_; apply Exists.intro; apply And.intro; (intro w; go_simp; try with_reducible rfl); go_frame)
              (refine regP 3 hS (fun _ h => h) rfl (by kernel_rfl) (by kernel_rfl) (by kernel_rfl) (fun _ _ _ _ h => h) (by rfl) (by rfl) ?_; apply Exists.intro; apply And.intro; (intro w; go_simp; try with_reducible rfl); go_frame)
              (refine regP 4 hS (fun _ h => h) rfl (by kernel_rfl) (by kernel_rfl) (by kernel_rfl) (fun _ _ _ _ h => h) (by rfl) (by rfl) ?_; apply Exists.intro; apply And.intro; (intro w; go_simp; try with_reducible rfl); go_frame)
              (refine regR 5 hS (fun _ h => h) rfl (by kernel_rfl) (by kernel_rfl) (by kernel_rfl) (by kernel_rfl) (by kernel_rfl) (fun _ _ _ _ h => h) (by rfl) (by rfl) ?_; ((first
                                            | refine ⟨.slice ao1 (T.dir d).length c1, yLd _ _ (by rfl) _ _ (by rfl) (agOf (by rfl)) Has.z (wl_vu (u := .slice ao1 (T.dir d).length c1) hd (by omega) hv), ?_⟩
                                            | refine ⟨.string ⟨n.toArray⟩, fun u hu => rLdRd (f := sv1) (x := n) (HR.out _ [_, _, _] hu) (sv1_len to) _ _ (by rfl) _ (by rfl) (agOf (by rfl)) m 0 (by omega) HX.out (by rfl) (by omega), ?_⟩)); go_frame)
              (refine regP 6 hS (fun _ h => h) rfl (by kernel_rfl) (by kernel_rfl) (by kernel_rfl) (fun _ _ _ _ h => h) (by rfl) (by rfl) ?_; apply Exists.intro; apply And.intro; (intro w; go_simp; try with_reducible rfl); go_frame)
              (refine regP 7 hS (fun _ h => h) rfl (by kernel_rfl) (by kernel_rfl) (by kernel_rfl) (fun _ _ _ _ h => h) (by rfl) (by rfl) ?_; apply Exists.intro; apply And.intro; (intro w; go_simp; try with_reducible rfl); go_frame)
              (refine regP 8 hS (fun _ h => h) rfl (by kernel_rfl) (by kernel_rfl) (by kernel_rfl) (fun _ _ _ _ h => h) (by rfl) (by rfl) ?_; apply Exists.intro; apply And.intro; (intro w; go_simp; try with_reducible rfl); go_frame)
              (refine regP 9 hS (fun _ h => h) rfl (by kernel_rfl) (by kernel_rfl) (by kernel_rfl) (fun _ _ _ _ h => h) (by rfl) (by rfl) ?_; apply Exists.intro; apply And.intro; (intro w; go_simp; try with_reducible rfl); go_frame; try simp (disch := omega) only [IntWalk.i64_in])
              (refine regP 10 hS (fun _ h => h) rfl (by kernel_rfl) (by kernel_rfl) (by kernel_rfl) (fun _ _ _ _ h => h) (by rfl) (by rfl) ?_; apply Exists.intro; apply And.intro; (intro w; go_simp; try with_reducible rfl); go_frame)
              (refine regR 11 hS (fun _ h => h) rfl (by kernel_rfl) (by kernel_rfl) (by kernel_rfl) (by kernel_rfl) (by kernel_rfl) (fun _ _ _ _ h => h) (by rfl) (by rfl) ?_; ((first
                                            | refine ⟨.slice ao1 (T.dir d).length c1, yLd _ _ (by rfl) _ _ (by rfl) (agOf (by rfl)) Has.z (wl_vu (u := .slice ao1 (T.dir d).length c1) hd (by omega) hv), ?_⟩
                                            | refine ⟨.string ⟨n.toArray⟩, fun u hu => rLdRd (f := sv1) (x := n) (HR.out _ [_, _, _] hu) (sv1_len to) _ _ (by rfl) _ (by rfl) (agOf (by rfl)) m 0 (by omega) HX.out (by rfl) (by omega), ?_⟩)); go_frame)
              (refine regP 12 hS (fun _ h => h) rfl (by kernel_rfl) (by kernel_rfl) (by kernel_rfl) (fun _ _ _ _ h => h) (by rfl) (by rfl) ?_; apply Exists.intro; apply And.intro; (intro w; go_simp; try with_reducible rfl); go_frame)
              (refine regP 13 hS (fun _ h => h) rfl (by kernel_rfl) (by kernel_rfl) (by kernel_rfl) (fun _ _ _ _ h => h) (by rfl) (by rfl) ?_; apply Exists.intro; apply And.intro; (intro w; go_simp; try with_reducible rfl); go_frame)
              (refine regA 14 rfl (by kernel_rfl) (by rfl) (by rfl) true (by kernel_rfl) (fun K hK => ?_); ((refine Go.Sep.cl 66 _ _ (by rfl) (by rfl) (by kernel_rfl) (HA2.out _ _ ao1 c1 hS (fun w h => by rw [← hv]; exact rws_rd h (k := 1) rfl hd)) ?_; rintro r w1 ⟨v', rfl, hS1⟩; clear hS; have hS := hS1; clear hS1; replace hS := hS.drop; refine ⟨_, rfl, ?_⟩)); refine hK _ _ _ hS (by first | (intro h; cases h; done) | exact fun _ _ h => h | exact fun _ _ h => h.drop | exact fun _ _ h => h.drop.drop | exact fun _ _ h => h.drop.pull1 | exact fun _ _ h => h.take2 | exact fun _ _ h => h.one Has.z | exact fun _ _ h => h.one (Has.s Has.z) | exact fun _ _ h => h.one (Has.s (Has.s Has.z))) ?_; clear hK K; go_frame)
              (refine regP 15 hS (fun _ h => h) rfl (by kernel_rfl) (by kernel_rfl) (by kernel_rfl) (fun _ _ _ _ h => h) (by rfl) (by rfl) ?_; apply Exists.intro; apply And.intro; (intro w; go_simp; try with_reducible rfl); go_frame)
              (refine regP 16 hS (fun _ h => h) rfl (by kernel_rfl) (by kernel_rfl) (by kernel_rfl) (fun _ _ _ _ h => h) (by rfl) (by rfl) ?_; apply Exists.intro; apply And.intro; (intro w; go_simp; try with_reducible rfl); go_frame)
              (refine regP 17 hS (fun _ h => h) rfl (by kernel_rfl) (by kernel_rfl) (by kernel_rfl) (fun _ _ _ _ h => h) (by rfl) (by rfl) ?_; apply Exists.intro; apply And.intro; (intro w; go_simp; try with_reducible rfl); go_frame)
              (refine regP 18 hS (fun _ h => h) rfl (by kernel_rfl) (by kernel_rfl) (by kernel_rfl) (fun _ _ _ _ h => h) (by rfl) (by rfl) ?_; apply Exists.intro; apply And.intro; (intro w; go_simp; try with_reducible rfl); go_frame)
              (refine regP 19 hS (fun _ h => h) rfl (by kernel_rfl) (by kernel_rfl) (by kernel_rfl) (fun _ _ _ _ h => h) (by rfl) (by rfl) ?_; apply Exists.intro; apply And.intro; (intro w; go_simp; try with_reducible rfl); go_frame)
              refine regDone (by kernel_rfl) ?_
              go_wp2
              go_ret2
              exact ⟨rfl, IsW.mk hS⟩
          · have hE : T.lkE l to = T.pE to := by unfold TrD.lkE; rw [if_pos hw, hi, Int.toNat_natCast, hkk, if_neg h2, if_neg hp]
            have hE0 : T.lkE l to ≠ 0 := by rw [hE]; exact hp
            have hI : T.lkI l to = 0 := by unfold TrD.lkI; rw [if_neg hE0]
            have hM : T.lk l to = T := by unfold TrD.lk; rw [if_neg hE0]
            rw [hI, hM, hE]
            obtain ⟨ee, hee⟩ : ∃ ee, T.pE to = ee := ⟨_, rfl⟩
            rw [hee] at HPA0 hp ⊢
            have e2 : (ee != 0) = true := bne_iff_ne.2 hp
            clear hE hE0 hI hM hw hi h2 hp hpe hee hr hr' h0 hn hnn
            go_enter Try.func41, Try.ntmps41
            go_wp2_with (first
              | (go_at_call 47; refine (HWK.out _ hS).mono ?_; rintro r w1 ⟨rfl, hS1⟩; clear hS; have hS := hS1; clear hS1; obtain ⟨v, vt, hO⟩ := IsW.open hS; clear hS; have hS := hO; clear hO)
              | (refine toList (by rfl) ?_; refine ld hS _ _ (by rfl) _ _ (by rfl) (agOf (by rfl)) Has.z (wl_ku (z := kk) hi48 (by omega) hkk) ?_)
              | (refine toList (by rfl) ?_; refine wp_of_reads (rLdRd (f := sv1) (x := n) (u := .string ⟨n.toArray⟩) (HR.out _ [_, _, _] hS) (sv1_len to) _ _ (by rfl) _ (by rfl) (agOf (by rfl)) m 0 (by omega) HX.out (by rfl) (by omega)) ?_)
                          | (go_at_call 63; refine (HNM.out _).mono ?_; rintro r w1 ⟨rfl, rfl⟩)
                          | (go_at_call 64; refine (HPA0.out _ (IsW.mk hS)).mono ?_; rintro r w1 ⟨dd, rfl, _, hS1⟩; clear hS; have hS := hS1; clear hS1))
            go_ret2
            exact ⟨rfl, hS⟩
  · have hE : T.lkE l to = (T.walk 0 l).2 := by unfold TrD.lkE; rw [if_neg hw]
    have hE0 : T.lkE l to ≠ 0 := by rw [hE]; exact hw
    have hI : T.lkI l to = 0 := by unfold TrD.lkI; rw [if_neg hE0]
    have hM : T.lk l to = T := by unfold TrD.lk; rw [if_neg hE0]
    rw [hI, hM, hE]
    obtain ⟨we, hwe⟩ : ∃ we, (T.walk 0 l).2 = we := ⟨_, rfl⟩
    rw [hi, hwe] at HWK
    rw [hwe] at hw ⊢
    have e1 : (we != 0) = true := bne_iff_ne.2 hw
    clear hE hE0 hI hM hw hi hwe hr hr'
    go_enter Try.func41, Try.ntmps41
    go_wp2_with (go_at_call 47; refine (HWK.out _ hS).mono ?_; rintro r w1 ⟨rfl, hS1⟩; clear hS; have hS := hS1; clear hS1)
    go_ret2
    exact ⟨rfl, hS⟩
end Go.Proofs.Ytiieicdhkcikpaa
namespace Go.Proofs.Ytiieicdhkcikpaa
open Go.RowKit Go.Sep
set_option linter.unusedSimpArgs false
set_option linter.unusedVariables false
attribute [local irreducible] Go.Oper.wp Go.wpList Go.Calls Go.Code.wp Go.Sep.Reg
attribute [local irreducible] IsT IsW
/-- A list of entries is taken out of a directory. -/
theorem remV_yes {l : List EntD} {n : List UInt8} {z : Int} (h : findE l n = some z) : remV l n = remE l n ∧ (if hasE l n = true then (0 : Int) else 3) = 0 := by
  have hh : hasE l n = true := by rw [← findE_some, h]; rfl
  unfold remV
  rw [hh]
  exact ⟨rfl, rfl⟩
set_option maxRecDepth 20000 in
set_option maxHeartbeats 1000000 in
theorem runlink_any {W w : World} {L : List Asrt} {p : Nat} {T : TrD} (hS : Sat W w (IsW p T :: L)) (hT : T.Ok) (l : List (List UInt8)) (ao : Option Addr) (c : Nat) (hr : ∀ w L', Sat W w (L' ++ L) → Rd w (.slice ao l.length c) l.length 1 (l.flatMap sv1)) (hl : l.length ≤ 1000000) :
    Calls Try.prog 42 #[.pointer (some ⟨p, 0, none⟩), .slice ao l.length c] w fun r w' => r = .returned (.tuple #[.int .i64 (T.ulI l : Nat), .int .i64 (T.ulE l)]) ∧ Sat W w' (IsW p (T.ul l) :: L) := by
  have HWK := Lib.hid (fun w (h : Sat W w (IsW p T :: L)) => rwalk_any h hT l ao c hr hl)
  by_cases h0 : l = []
  · have hE : T.ulE l = 1 := by unfold TrD.ulE; rw [if_pos h0]
    have hI : T.ulI l = 0 := by unfold TrD.ulI; rw [hE, if_neg (by decide)]
    have hM : T.ul l = T := by unfold TrD.ul; rw [hE, if_neg (by decide)]
    rw [hI, hM, hE]
    clear hE hI hM hr
    subst h0
    go_enter Try.func42, Try.ntmps42
    go_wp2
    go_ret2
    exact ⟨rfl, hS⟩
  · obtain ⟨i, hi, hi48⟩ := hT.walk_lt l 0 (by omega)
    obtain ⟨_, _, he, hc1, hc2, _, h5⟩ := hr w [_] hS
    simp only [Value.slice.injEq, true_and] at he
    obtain ⟨rfl, rfl⟩ := he
    obtain ⟨b, off, rfl, _⟩ := h5 (List.length_pos_iff.2 h0)
    clear h5
    obtain ⟨m, hm⟩ : ∃ m, l.length = m + 1 := ⟨l.length - 1, by have := List.length_pos_iff.2 h0; omega⟩
    have HX := Lib.hid (last_at hm).1
    have HR := Lib.hid (fun w (L' : List Asrt) (h : Sat W w (L' ++ L)) => hr w L' h)
    have e0 : ((l.length : Int) == 0) = false := beq_eq_false_iff_ne.2 (by omega)
    have hsub : (l.length : Int) - 1 = (m : Int) := by omega
    have k1 : (m : Int) < (l.length : Int) := by omega
    have k2 : m < l.length := by omega
    have k3 : (1 : Int) ≤ (l.length : Int) := by omega
    have k4 : (l.length : Int) ≤ 1000000 := by omega
    have HPA0 := Lib.hid (fun w (h : Sat W w (IsW p T :: L)) => rparent_any h hT l _ _ hr hl h0)
    clear hm
    obtain ⟨n, hnn⟩ : ∃ n, TrD.lastN l = n := ⟨_, rfl⟩
    rw [hnn] at HX
    have HNM := Lib.hid (fun w => rname_any n w)
    by_cases hw : (T.walk 0 l).2 = 0
    · obtain ⟨p1, hd, p3, p4, p5, p6⟩ := hT.parent h0 hw
      have HPA := Lib.hid (fun w (h : Sat W w (IsW p T :: L)) => (show Calls Try.prog 64 #[.pointer (some ⟨p, 0, none⟩), .slice (some ⟨b, off, none⟩) l.length c] w fun r w' => r = .returned (.tuple #[.int .i64 (T.pD l : Nat), .int .i64 0]) ∧ Sat W w' (IsW p T :: L) from
        (HPA0.out w h).mono fun r w' ⟨dd, h1, h2, h3⟩ => by rw [h2 p3 p4, if_pos p3, if_pos p4] at h1; exact ⟨h1, h3⟩))
      rw [hi, hw] at HWK
      rw [hi] at p5
      rw [hnn] at p5
      have q1 : (i : Int) < 48 := by omega
      obtain ⟨kk, hkk⟩ : ∃ kk, T.kind i = kk := ⟨_, rfl⟩
      by_cases h2 : kk = 2
      · have hE : T.ulE l = 7 := by unfold TrD.ulE; rw [if_neg h0, if_pos hw, hi, Int.toNat_natCast, hkk, if_pos h2]
        have hI : T.ulI l = 0 := by unfold TrD.ulI; rw [hE, if_neg (by decide)]
        have hM : T.ul l = T := by unfold TrD.ul; rw [hE, if_neg (by decide)]
        rw [hI, hM, hE]
        have e1 : (kk == 2) = true := by rw [h2]; rfl
        clear hE hI hM h0 hw hi h2 p1 p3 p4 p5 p6 HPA0 HPA hr hnn
        go_enter Try.func42, Try.ntmps42
        go_wp2_with (first
          | (go_at_call 47; refine (HWK.out _ hS).mono ?_; rintro r w1 ⟨rfl, hS1⟩; clear hS; have hS := hS1; clear hS1; obtain ⟨v, vt, hO⟩ := IsW.open hS; clear hS; have hS := hO; clear hO)
          | (refine toList (by rfl) ?_; refine ld hS _ _ (by rfl) _ _ (by rfl) (agOf (by rfl)) Has.z (wl_ku (z := kk) hi48 (by omega) hkk) ?_)
          )
        go_ret2
        exact ⟨rfl, IsW.mk hS⟩
      · have hE : T.ulE l = 0 := by unfold TrD.ulE; rw [if_neg h0, if_pos hw, hi, Int.toNat_natCast, hkk, if_neg h2]
        have hI : T.ulI l = i := by unfold TrD.ulI; rw [hE, if_pos rfl, hi, Int.toNat_natCast]
        have hM : T.ul l = (T.del (T.pD l) (TrD.lastN l)).tch [T.pD l, i] := by unfold TrD.ul; rw [hE, if_pos rfl, hI]
        rw [hI, hM, hE, hnn]
        have e1 : (kk == 2) = false := beq_eq_false_iff_ne.2 h2
        obtain ⟨d, hdd⟩ : ∃ d, T.pD l = d := ⟨_, rfl⟩
        rw [hdd] at HPA p5 hd ⊢
        have hlen := hT.len _ (hT.dir_mem hd)
        have kd : (d : Int) < 48 := by omega
        have HRM := Lib.hid (fun w (L' : List Asrt) ao1 c1 (h : Sat W w L') (hr : ∀ w, Sat W w L' → Rd w (.slice ao1 (T.dir d).length c1) (T.dir d).length 2 ((T.dir d).flatMap ev2)) => by have := rremove_any h (T.dir d) ao1 c1 n hr (by omega) (hT.srt _ (hT.dir_mem hd)); rw [(remV_yes p5).1, (remV_yes p5).2] at this; exact this)
        have HPD := Lib.hid (TrD.del_dir' hT hd n)
        have HKE := Lib.hid (show (T.del d n).kind = T.kind from rfl)
        have HLE := Lib.hid (show (T.del d n).last = T.last from rfl)
        obtain ⟨T2, hT2⟩ : ∃ T2, T.del d n = T2 := ⟨_, rfl⟩
        rw [hT2] at HPD HKE HLE ⊢
        have HTO := Lib.hid (fun w v (L' : List Asrt) (h : Sat W w (IsW p T2 :: Ir v [d, i] :: L')) => rtouch_any h (by simp))
        clear hE hI hM h0 hw hi h2 p1 p3 p4 p5 p6 HPA0 hdd hnn hT2 hr
        go_enter Try.func42, Try.ntmps42
        go_wp2_with (first
          | (go_at_call 47; refine (HWK.out _ hS).mono ?_; rintro r w1 ⟨rfl, hS1⟩; clear hS; have hS := hS1; clear hS1; obtain ⟨v, vt, hO⟩ := IsW.open hS; clear hS; have hS := hO; clear hO)
          | (refine toList (by rfl) ?_; refine ld hS _ _ (by rfl) _ _ (by rfl) (agOf (by rfl)) Has.z (wl_ku (z := kk) hi48 (by omega) hkk) ?_)
          | (go_at_call 64; refine (HPA.out _ (IsW.mk hS)).mono ?_; rintro r w1 ⟨rfl, hS1⟩; clear hS; have hS := hS1; clear hS1; obtain ⟨v, vt, hO⟩ := IsW.open hS; clear hS; have hS := hO; clear hO; obtain ⟨ao1, c1, hv, _⟩ := rws_shape hS (k := 1) rfl hd))
        refine regStart [14, 21] hS (by kernel_rfl) rfl ?_
        intro w1 hS1
        clear hS; have hS := hS1; clear hS1
        (refine regP 0 hS (fun _ h => h) rfl (by kernel_rfl) (by kernel_rfl) (by kernel_rfl) (fun _ _ _ _ h => h) (by rfl) (by rfl) ?_; apply Exists.intro; apply And.intro; (intro w; go_simp; try with_reducible rfl); go_frame)
        (refine regP 1 hS (fun _ h => h) rfl (by kernel_rfl) (by kernel_rfl) (by kernel_rfl) (fun _ _ _ _ h => h) (by rfl) (by rfl) ?_; apply Exists.intro; apply And.intro; (intro w; go_simp; try with_reducible rfl); go_frame)
        (refine regP 2 hS (fun _ h => h) rfl (by kernel_rfl) (by kernel_rfl) (by kernel_rfl) (fun _ _ _ _ h => h) (by rfl) (by rfl) ?_; apply Exists.intro; apply And.intro; (intro w; go_simp; try with_reducible rfl); go_frame)
        (refine regP 3 hS (fun _ h => h) rfl (by kernel_rfl) (by kernel_rfl) (by kernel_rfl) (fun _ _ _ _ h => h) (by rfl) (by rfl) ?_; apply Exists.intro; apply And.intro; (intro w; go_simp; try with_reducible rfl); go_frame)
        (refine regP 4 hS (fun _ h => h) rfl (by kernel_rfl) (by kernel_rfl) (by kernel_rfl) (fun _ _ _ _ h => h) (by rfl) (by rfl) ?_; apply Exists.intro; apply And.intro; (intro w; go_simp; try with_reducible rfl); go_frame)
        (refine regP 5 hS (fun _ h => h) rfl (by kernel_rfl) (by kernel_rfl) (by kernel_rfl) (fun _ _ _ _ h => h) (by rfl) (by rfl) ?_; apply Exists.intro; apply And.intro; (intro w; go_simp; try with_reducible rfl); go_frame)
        (refine regP 6 hS (fun _ h => h) rfl (by kernel_rfl) (by kernel_rfl) (by kernel_rfl) (fun _ _ _ _ h => h) (by rfl) (by rfl) ?_; apply Exists.intro; apply And.intro; (intro w; go_simp; try with_reducible rfl); go_frame)
        (refine regR 7 hS (fun _ h => h) rfl (by kernel_rfl) (by kernel_rfl) (by kernel_rfl) (by kernel_rfl) (by kernel_rfl) (fun _ _ _ _ h => h) (by rfl) (by rfl) ?_; ((first
                          | refine ⟨.slice ao1 (T.dir d).length c1, yLd _ _ (by rfl) _ _ (by rfl) (agOf (by rfl)) Has.z (wl_vu (u := .slice ao1 (T.dir d).length c1) hd (by omega) hv), ?_⟩
                          | refine ⟨.string ⟨n.toArray⟩, fun u hu => rLdRd (f := sv1) (x := n) (HR.out _ [_, _, _] hu) (sv1_len l) _ _ (by rfl) _ (by rfl) (agOf (by rfl)) m 0 (by omega) HX.out (by rfl) (by omega), ?_⟩)); go_frame)
        (refine regP 8 hS (fun _ h => h) rfl (by kernel_rfl) (by kernel_rfl) (by kernel_rfl) (fun _ _ _ _ h => h) (by rfl) (by rfl) ?_; apply Exists.intro; apply And.intro; (intro w; go_simp; try with_reducible rfl); go_frame)
        (refine regP 9 hS (fun _ h => h) rfl (by kernel_rfl) (by kernel_rfl) (by kernel_rfl) (fun _ _ _ _ h => h) (by rfl) (by rfl) ?_; apply Exists.intro; apply And.intro; (intro w; go_simp; try with_reducible rfl); go_frame)
        (refine regP 10 hS (fun _ h => h) rfl (by kernel_rfl) (by kernel_rfl) (by kernel_rfl) (fun _ _ _ _ h => h) (by rfl) (by rfl) ?_; apply Exists.intro; apply And.intro; (intro w; go_simp; try with_reducible rfl); go_frame)
        (refine regP 11 hS (fun _ h => h) rfl (by kernel_rfl) (by kernel_rfl) (by kernel_rfl) (fun _ _ _ _ h => h) (by rfl) (by rfl) ?_; apply Exists.intro; apply And.intro; (intro w; go_simp; try with_reducible rfl); go_frame; try simp (disch := omega) only [IntWalk.i64_in])
        (refine regP 12 hS (fun _ h => h) rfl (by kernel_rfl) (by kernel_rfl) (by kernel_rfl) (fun _ _ _ _ h => h) (by rfl) (by rfl) ?_; apply Exists.intro; apply And.intro; (intro w; go_simp; try with_reducible rfl); go_frame)
        (refine regR 13 hS (fun _ h => h) rfl (by kernel_rfl) (by kernel_rfl) (by kernel_rfl) (by kernel_rfl) (by kernel_rfl) (fun _ _ _ _ h => h) (by rfl) (by rfl) ?_; ((first
                          | refine ⟨.slice ao1 (T.dir d).length c1, yLd _ _ (by rfl) _ _ (by rfl) (agOf (by rfl)) Has.z (wl_vu (u := .slice ao1 (T.dir d).length c1) hd (by omega) hv), ?_⟩
                          | refine ⟨.string ⟨n.toArray⟩, fun u hu => rLdRd (f := sv1) (x := n) (HR.out _ [_, _, _] hu) (sv1_len l) _ _ (by rfl) _ (by rfl) (agOf (by rfl)) m 0 (by omega) HX.out (by rfl) (by omega), ?_⟩)); go_frame)
        (refine regP 18 hS (fun _ h => h) rfl (by kernel_rfl) (by kernel_rfl) (by kernel_rfl) (fun _ _ _ _ h => h) (by rfl) (by rfl) ?_; apply Exists.intro; apply And.intro; (intro w; go_simp; try with_reducible rfl); go_frame)
        (refine regP 19 hS (fun _ h => h) rfl (by kernel_rfl) (by kernel_rfl) (by kernel_rfl) (fun _ _ _ _ h => h) (by rfl) (by rfl) ?_; apply Exists.intro; apply And.intro; (intro w; go_simp; try with_reducible rfl); go_frame)
        (refine regA 14 rfl (by kernel_rfl) (by rfl) (by rfl) true (by kernel_rfl) (fun K hK => ?_); ((first
                            | (refine Go.Sep.cl 68 _ _ (by rfl) (by rfl) (by kernel_rfl) (HRM.out _ _ ao1 c1 hS (fun w h => by rw [← hv]; exact rws_rd h (k := 1) rfl hd)) ?_; rintro r w1 ⟨v', rfl, hS1⟩; clear hS; have hS := hS1; clear hS1; obtain ⟨ao2, c2, rfl, _⟩ := Sat.tbShape (k := 0) (show Sat _ _ (Tb 59 2 ev2 v' (remE (T.dir d) n) :: _) from hS) rfl; replace hS := hS.pull1; refine ⟨_, rfl, ?_⟩)
                            | (refine st hS _ _ _ (by rfl) _ _ (by rfl) _ (by first | exact evC | exact evT (by rfl)) (by rfl) (szOf (by rfl)) Has.z (by rw [wl_len]; omega) ?_; intro w1 hS1; clear hS; have hS := hS1; clear hS1; simp only [List.set_cons_zero] at hS; rw [wl_setV _ hd (by omega)] at hS))); refine hK _ _ _ hS (by first | (intro h; cases h; done) | exact fun _ _ h => h | exact fun _ _ h => h.drop | exact fun _ _ h => h.drop.drop | exact fun _ _ h => h.drop.pull1 | exact fun _ _ h => h.take2 | exact fun _ _ h => h.one Has.z | exact fun _ _ h => h.one (Has.s Has.z) | exact fun _ _ h => h.one (Has.s (Has.s Has.z))) ?_; clear hK K; go_frame)
        (refine regP 15 hS (fun _ h => h) rfl (by kernel_rfl) (by kernel_rfl) (by kernel_rfl) (fun _ _ _ _ h => h) (by rfl) (by rfl) ?_; apply Exists.intro; apply And.intro; (intro w; go_simp; try with_reducible rfl); go_frame)
        (refine regP 16 hS (fun _ h => h) rfl (by kernel_rfl) (by kernel_rfl) (by kernel_rfl) (fun _ _ _ _ h => h) (by rfl) (by rfl) ?_; apply Exists.intro; apply And.intro; (intro w; go_simp; try with_reducible rfl); go_frame)
        (refine regP 17 hS (fun _ h => h) rfl (by kernel_rfl) (by kernel_rfl) (by kernel_rfl) (fun _ _ _ _ h => h) (by rfl) (by rfl) ?_; apply Exists.intro; apply And.intro; (intro w; go_simp; try with_reducible rfl); go_frame)
        (refine regP 20 hS (fun _ h => h) rfl (by kernel_rfl) (by kernel_rfl) (by kernel_rfl) (fun _ _ _ _ h => h) (by rfl) (by rfl) ?_; apply Exists.intro; apply And.intro; (intro w; go_simp; try with_reducible rfl); go_frame)
        (refine regA 21 rfl (by kernel_rfl) (by rfl) (by rfl) true (by kernel_rfl) (fun K hK => ?_); ((first
                            | (refine Go.Sep.cl 68 _ _ (by rfl) (by rfl) (by kernel_rfl) (HRM.out _ _ ao1 c1 hS (fun w h => by rw [← hv]; exact rws_rd h (k := 1) rfl hd)) ?_; rintro r w1 ⟨v', rfl, hS1⟩; clear hS; have hS := hS1; clear hS1; obtain ⟨ao2, c2, rfl, _⟩ := Sat.tbShape (k := 0) (show Sat _ _ (Tb 59 2 ev2 v' (remE (T.dir d) n) :: _) from hS) rfl; replace hS := hS.pull1; refine ⟨_, rfl, ?_⟩)
                            | (refine st hS _ _ _ (by rfl) _ _ (by rfl) _ (by first | exact evC | exact evT (by rfl)) (by rfl) (szOf (by rfl)) Has.z (by rw [wl_len]; omega) ?_; intro w1 hS1; clear hS; have hS := hS1; clear hS1; simp only [List.set_cons_zero] at hS; rw [wl_setV _ hd (by omega)] at hS))); refine hK _ _ _ hS (by first | (intro h; cases h; done) | exact fun _ _ h => h | exact fun _ _ h => h.drop | exact fun _ _ h => h.drop.drop | exact fun _ _ h => h.drop.pull1 | exact fun _ _ h => h.take2 | exact fun _ _ h => h.one Has.z | exact fun _ _ h => h.one (Has.s Has.z) | exact fun _ _ h => h.one (Has.s (Has.s Has.z))) ?_; clear hK K; go_frame)
        refine regDone (by kernel_rfl) ?_
        replace hS := putW hd HKE.out HPD.out HLE.out hS
        go_wp2_with (first
          | (refine toList (by rfl) ?_; refine bsF hS _ _ _ (by rfl) (elOf (by rfl)) [.int .i64 (d : Int), .int .i64 (i : Int)] (by rfl) (by rfl) (by decide) (by decide) (by intro v hv; simp only [List.mem_cons, List.not_mem_nil, or_false] at hv; rcases hv with rfl | rfl <;> rfl) ?_; intro b1 w1 hS1; clear hS; have hS := csIr (l := [d, i]) (by simp) (show Sat W w1 (Cs b1 _ (iv [d, i]) :: _) from hS1); clear hS1)
          | (go_at_call 67; refine (HTO.out _ _ _ hS.pull1).mono ?_; rintro r w1 ⟨rfl, hS1⟩; clear hS; have hS := hS1; clear hS1))
        go_ret2
        exact ⟨rfl, hS⟩
    · have hE : T.ulE l = (T.walk 0 l).2 := by unfold TrD.ulE; rw [if_neg h0, if_neg hw]
      have hE0 : T.ulE l ≠ 0 := by rw [hE]; exact hw
      have hI : T.ulI l = 0 := by unfold TrD.ulI; rw [if_neg hE0]
      have hM : T.ul l = T := by unfold TrD.ul; rw [if_neg hE0]
      rw [hI, hM, hE]
      obtain ⟨we, hwe⟩ : ∃ we, (T.walk 0 l).2 = we := ⟨_, rfl⟩
      rw [hi, hwe] at HWK
      rw [hwe] at hw ⊢
      have e1 : (we != 0) = true := bne_iff_ne.2 hw
      clear hE hE0 hI hM h0 hw hi hwe HPA0 hr hnn
      go_enter Try.func42, Try.ntmps42
      go_wp2_with (first
        | (go_at_call 47; refine (HWK.out _ hS).mono ?_; rintro r w1 ⟨rfl, hS1⟩; clear hS; have hS := hS1; clear hS1; obtain ⟨v, vt, hO⟩ := IsW.open hS; clear hS; have hS := hO; clear hO)
        | (refine toList (by rfl) ?_; refine ld hS _ _ (by rfl) _ _ (by rfl) (agOf (by rfl)) Has.z (wl_ku (z := kk) hi48 (by omega) hkk) ?_)
        )
      go_ret2
      exact ⟨rfl, IsW.mk hS⟩
set_option maxRecDepth 20000 in
set_option maxHeartbeats 1000000 in
theorem rrmdir_any {W w : World} {L : List Asrt} {p : Nat} {T : TrD} (hS : Sat W w (IsW p T :: L)) (hT : T.Ok) (l : List (List UInt8)) (ao : Option Addr) (c : Nat) (hr : ∀ w L', Sat W w (L' ++ L) → Rd w (.slice ao l.length c) l.length 1 (l.flatMap sv1)) (hl : l.length ≤ 1000000) :
    Calls Try.prog 44 #[.pointer (some ⟨p, 0, none⟩), .slice ao l.length c] w fun r w' => r = .returned (.tuple #[.int .i64 (T.rdI l : Nat), .int .i64 (T.rdE l)]) ∧ Sat W w' (IsW p (T.rd l) :: L) := by
  have HWK := Lib.hid (fun w (h : Sat W w (IsW p T :: L)) => rwalk_any h hT l ao c hr hl)
  by_cases h0 : l = []
  · have hE : T.rdE l = 10 := by unfold TrD.rdE; rw [if_pos h0]
    have hI : T.rdI l = 0 := by unfold TrD.rdI; rw [hE, if_neg (by decide)]
    have hM : T.rd l = T := by unfold TrD.rd; rw [hE, if_neg (by decide)]
    rw [hI, hM, hE]
    clear hE hI hM hr
    subst h0
    go_enter Try.func44, Try.ntmps44
    go_wp2
    go_ret2
    exact ⟨rfl, hS⟩
  · obtain ⟨i, hi, hi48⟩ := hT.walk_lt l 0 (by omega)
    obtain ⟨_, _, he, hc1, hc2, _, h5⟩ := hr w [_] hS
    simp only [Value.slice.injEq, true_and] at he
    obtain ⟨rfl, rfl⟩ := he
    obtain ⟨b, off, rfl, _⟩ := h5 (List.length_pos_iff.2 h0)
    clear h5
    obtain ⟨m, hm⟩ : ∃ m, l.length = m + 1 := ⟨l.length - 1, by have := List.length_pos_iff.2 h0; omega⟩
    have HX := Lib.hid (last_at hm).1
    have HR := Lib.hid (fun w (L' : List Asrt) (h : Sat W w (L' ++ L)) => hr w L' h)
    have e0 : ((l.length : Int) == 0) = false := beq_eq_false_iff_ne.2 (by omega)
    have hsub : (l.length : Int) - 1 = (m : Int) := by omega
    have k1 : (m : Int) < (l.length : Int) := by omega
    have k2 : m < l.length := by omega
    have k3 : (1 : Int) ≤ (l.length : Int) := by omega
    have k4 : (l.length : Int) ≤ 1000000 := by omega
    have HPA0 := Lib.hid (fun w (h : Sat W w (IsW p T :: L)) => rparent_any h hT l _ _ hr hl h0)
    clear hm
    obtain ⟨n, hnn⟩ : ∃ n, TrD.lastN l = n := ⟨_, rfl⟩
    rw [hnn] at HX
    have HNM := Lib.hid (fun w => rname_any n w)
    by_cases hw : (T.walk 0 l).2 = 0
    · obtain ⟨p1, hd, p3, p4, p5, p6⟩ := hT.parent h0 hw
      have HPA := Lib.hid (fun w (h : Sat W w (IsW p T :: L)) => (show Calls Try.prog 64 #[.pointer (some ⟨p, 0, none⟩), .slice (some ⟨b, off, none⟩) l.length c] w fun r w' => r = .returned (.tuple #[.int .i64 (T.pD l : Nat), .int .i64 0]) ∧ Sat W w' (IsW p T :: L) from
        (HPA0.out w h).mono fun r w' ⟨dd, h1, h2, h3⟩ => by rw [h2 p3 p4, if_pos p3, if_pos p4] at h1; exact ⟨h1, h3⟩))
      rw [hi, hw] at HWK
      rw [hi] at p5
      rw [hnn] at p5
      have q1 : (i : Int) < 48 := by omega
      obtain ⟨kk, hkk⟩ : ∃ kk, T.kind i = kk := ⟨_, rfl⟩
      by_cases h2 : kk = 2
      · have e1 : (kk != 2) = false := by rw [h2]; rfl
        obtain ⟨il, hil⟩ : ∃ il, (T.dir i).length = il := ⟨_, rfl⟩
        have HIL := Lib.hid hil
        by_cases h3 : 0 < il
        · have hE : T.rdE l = 9 := by unfold TrD.rdE; rw [if_neg h0, if_pos hw, hi, Int.toNat_natCast, hkk, if_pos h2, hil, if_pos h3]
          have hI : T.rdI l = 0 := by unfold TrD.rdI; rw [hE, if_neg (by decide)]
          have hM : T.rd l = T := by unfold TrD.rd; rw [hE, if_neg (by decide)]
          rw [hI, hM, hE]
          have e2 : decide ((0 : Int) < (il : Int)) = true := decide_eq_true (by omega)
          have e3 : decide (0 < il) = true := decide_eq_true h3
          clear hE hI hM h0 hw hi h2 p1 p3 p4 p5 p6 HPA0 HPA hr hnn hil
          go_enter Try.func44, Try.ntmps44
          go_wp2_with (first
            | (go_at_call 47; refine (HWK.out _ hS).mono ?_; rintro r w1 ⟨rfl, hS1⟩; clear hS; have hS := hS1; clear hS1; obtain ⟨v, vt, hO⟩ := IsW.open hS; clear hS; have hS := hO; clear hO; obtain ⟨ao3, c3, hv3, _⟩ := rws_shape hS (k := 1) rfl hi48; rw [HIL.out] at hv3)
            | (refine toList (by rfl) ?_; refine ld hS _ _ (by rfl) _ _ (by rfl) (agOf (by rfl)) Has.z (wl_ku (z := kk) hi48 (by omega) hkk) ?_)
            | (refine toList (by rfl) ?_; refine ld hS _ _ (by rfl) _ _ (by rfl) (agOf (by rfl)) Has.z (wl_vu (u := .slice ao3 il c3) hi48 (by omega) hv3) ?_))
          go_ret2
          exact ⟨rfl, IsW.mk hS⟩
        · have hE : T.rdE l = 0 := by unfold TrD.rdE; rw [if_neg h0, if_pos hw, hi, Int.toNat_natCast, hkk, if_pos h2, hil, if_neg h3]
          have hI : T.rdI l = i := by unfold TrD.rdI; rw [hE, if_pos rfl, hi, Int.toNat_natCast]
          have hM : T.rd l = ((T.del (T.pD l) (TrD.lastN l)).setK i 0).tch [T.pD l, i] := by unfold TrD.rd; rw [hE, if_pos rfl, hI]
          rw [hI, hM, hE, hnn]
          have e2 : decide ((0 : Int) < (il : Int)) = false := decide_eq_false (by omega)
          have e3 : decide (0 < il) = false := decide_eq_false h3
          obtain ⟨d, hdd⟩ : ∃ d, T.pD l = d := ⟨_, rfl⟩
          rw [hdd] at HPA p5 hd ⊢
          have hlen := hT.len _ (hT.dir_mem hd)
          have kd : (d : Int) < 48 := by omega
          have HRM := Lib.hid (fun w (L' : List Asrt) ao1 c1 (h : Sat W w L') (hr : ∀ w, Sat W w L' → Rd w (.slice ao1 (T.dir d).length c1) (T.dir d).length 2 ((T.dir d).flatMap ev2)) => by have := rremove_any h (T.dir d) ao1 c1 n hr (by omega) (hT.srt _ (hT.dir_mem hd)); rw [(remV_yes p5).1, (remV_yes p5).2] at this; exact this)
          have HPD := Lib.hid (TrD.del_dir' hT hd n)
          have HKE := Lib.hid (show (T.del d n).kind = T.kind from rfl)
          have HLE := Lib.hid (show (T.del d n).last = T.last from rfl)
          have HKK := Lib.hid (TrD.setK_kind (hT.del hd n) hi48 0)
          obtain ⟨T2, hT2⟩ : ∃ T2, T.del d n = T2 := ⟨_, rfl⟩
          rw [hT2] at HPD HKE HLE HKK ⊢
          have HTO := Lib.hid (fun w v (L' : List Asrt) (h : Sat W w (IsW p (T2.setK i 0) :: Ir v [d, i] :: L')) => rtouch_any h (by simp))
          clear hE hI hM h0 hw hi h2 p1 p3 p4 p5 p6 HPA0 hdd hnn hT2 hr hil h3
          go_enter Try.func44, Try.ntmps44
          go_wp2_with (first
            | (go_at_call 47; refine (HWK.out _ hS).mono ?_; rintro r w1 ⟨rfl, hS1⟩; clear hS; have hS := hS1; clear hS1; obtain ⟨v, vt, hO⟩ := IsW.open hS; clear hS; have hS := hO; clear hO; obtain ⟨ao3, c3, hv3, _⟩ := rws_shape hS (k := 1) rfl hi48; rw [HIL.out] at hv3)
            | (refine toList (by rfl) ?_; refine ld hS _ _ (by rfl) _ _ (by rfl) (agOf (by rfl)) Has.z (wl_ku (z := kk) hi48 (by omega) hkk) ?_)
            | (refine toList (by rfl) ?_; refine ld hS _ _ (by rfl) _ _ (by rfl) (agOf (by rfl)) Has.z (wl_vu (u := .slice ao3 il c3) hi48 (by omega) hv3) ?_)
            | (go_at_call 64; refine (HPA.out _ (IsW.mk hS)).mono ?_; rintro r w1 ⟨rfl, hS1⟩; clear hS; have hS := hS1; clear hS1; obtain ⟨v, vt, hO⟩ := IsW.open hS; clear hS; have hS := hO; clear hO; obtain ⟨ao1, c1, hv, _⟩ := rws_shape hS (k := 1) rfl hd))
          refine regStart [14, 21] hS (by kernel_rfl) rfl ?_
          intro w1 hS1
          clear hS; have hS := hS1; clear hS1
          (refine regP 0 hS (fun _ h => h) rfl (by kernel_rfl) (by kernel_rfl) (by kernel_rfl) (fun _ _ _ _ h => h) (by rfl) (by rfl) ?_; apply Exists.intro; apply And.intro; (intro w; go_simp; try with_reducible rfl); go_frame)
          (refine regP 1 hS (fun _ h => h) rfl (by kernel_rfl) (by kernel_rfl) (by kernel_rfl) (fun _ _ _ _ h => h) (by rfl) (by rfl) ?_; apply Exists.intro; apply And.intro; (intro w; go_simp; try with_reducible rfl); go_frame)
          (refine regP 2 hS (fun _ h => h) rfl (by kernel_rfl) (by kernel_rfl) (by kernel_rfl) (fun _ _ _ _ h => h) (by rfl) (by rfl) ?_; apply Exists.intro; apply And.intro; (intro w; go_simp; try with_reducible rfl); go_frame)
          (refine regP 3 hS (fun _ h => h) rfl (by kernel_rfl) (by kernel_rfl) (by kernel_rfl) (fun _ _ _ _ h => h) (by rfl) (by rfl) ?_; apply Exists.intro; apply And.intro; (intro w; go_simp; try with_reducible rfl); go_frame)
          (refine regP 4 hS (fun _ h => h) rfl (by kernel_rfl) (by kernel_rfl) (by kernel_rfl) (fun _ _ _ _ h => h) (by rfl) (by rfl) ?_; apply Exists.intro; apply And.intro; (intro w; go_simp; try with_reducible rfl); go_frame)
          (refine regP 5 hS (fun _ h => h) rfl (by kernel_rfl) (by kernel_rfl) (by kernel_rfl) (fun _ _ _ _ h => h) (by rfl) (by rfl) ?_; apply Exists.intro; apply And.intro; (intro w; go_simp; try with_reducible rfl); go_frame)
          (refine regP 6 hS (fun _ h => h) rfl (by kernel_rfl) (by kernel_rfl) (by kernel_rfl) (fun _ _ _ _ h => h) (by rfl) (by rfl) ?_; apply Exists.intro; apply And.intro; (intro w; go_simp; try with_reducible rfl); go_frame)
          (refine regR 7 hS (fun _ h => h) rfl (by kernel_rfl) (by kernel_rfl) (by kernel_rfl) (by kernel_rfl) (by kernel_rfl) (fun _ _ _ _ h => h) (by rfl) (by rfl) ?_; ((first
                                | refine ⟨.slice ao1 (T.dir d).length c1, yLd _ _ (by rfl) _ _ (by rfl) (agOf (by rfl)) Has.z (wl_vu (u := .slice ao1 (T.dir d).length c1) hd (by omega) hv), ?_⟩
                                | refine ⟨.string ⟨n.toArray⟩, fun u hu => rLdRd (f := sv1) (x := n) (HR.out _ [_, _, _] hu) (sv1_len l) _ _ (by rfl) _ (by rfl) (agOf (by rfl)) m 0 (by omega) HX.out (by rfl) (by omega), ?_⟩)); go_frame)
          (refine regP 8 hS (fun _ h => h) rfl (by kernel_rfl) (by kernel_rfl) (by kernel_rfl) (fun _ _ _ _ h => h) (by rfl) (by rfl) ?_; apply Exists.intro; apply And.intro; (intro w; go_simp; try with_reducible rfl); go_frame)
          (refine regP 9 hS (fun _ h => h) rfl (by kernel_rfl) (by kernel_rfl) (by kernel_rfl) (fun _ _ _ _ h => h) (by rfl) (by rfl) ?_; apply Exists.intro; apply And.intro; (intro w; go_simp; try with_reducible rfl); go_frame)
          (refine regP 10 hS (fun _ h => h) rfl (by kernel_rfl) (by kernel_rfl) (by kernel_rfl) (fun _ _ _ _ h => h) (by rfl) (by rfl) ?_; apply Exists.intro; apply And.intro; (intro w; go_simp; try with_reducible rfl); go_frame)
          (refine regP 11 hS (fun _ h => h) rfl (by kernel_rfl) (by kernel_rfl) (by kernel_rfl) (fun _ _ _ _ h => h) (by rfl) (by rfl) ?_; apply Exists.intro; apply And.intro; (intro w; go_simp; try with_reducible rfl); go_frame; try simp (disch := omega) only [IntWalk.i64_in])
          (refine regP 12 hS (fun _ h => h) rfl (by kernel_rfl) (by kernel_rfl) (by kernel_rfl) (fun _ _ _ _ h => h) (by rfl) (by rfl) ?_; apply Exists.intro; apply And.intro; (intro w; go_simp; try with_reducible rfl); go_frame)
          (refine regR 13 hS (fun _ h => h) rfl (by kernel_rfl) (by kernel_rfl) (by kernel_rfl) (by kernel_rfl) (by kernel_rfl) (fun _ _ _ _ h => h) (by rfl) (by rfl) ?_; ((first
                                | refine ⟨.slice ao1 (T.dir d).length c1, yLd _ _ (by rfl) _ _ (by rfl) (agOf (by rfl)) Has.z (wl_vu (u := .slice ao1 (T.dir d).length c1) hd (by omega) hv), ?_⟩
                                | refine ⟨.string ⟨n.toArray⟩, fun u hu => rLdRd (f := sv1) (x := n) (HR.out _ [_, _, _] hu) (sv1_len l) _ _ (by rfl) _ (by rfl) (agOf (by rfl)) m 0 (by omega) HX.out (by rfl) (by omega), ?_⟩)); go_frame)
          (refine regP 18 hS (fun _ h => h) rfl (by kernel_rfl) (by kernel_rfl) (by kernel_rfl) (fun _ _ _ _ h => h) (by rfl) (by rfl) ?_; apply Exists.intro; apply And.intro; (intro w; go_simp; try with_reducible rfl); go_frame)
          (refine regP 19 hS (fun _ h => h) rfl (by kernel_rfl) (by kernel_rfl) (by kernel_rfl) (fun _ _ _ _ h => h) (by rfl) (by rfl) ?_; apply Exists.intro; apply And.intro; (intro w; go_simp; try with_reducible rfl); go_frame)
          (refine regA 14 rfl (by kernel_rfl) (by rfl) (by rfl) true (by kernel_rfl) (fun K hK => ?_); ((first
                                  | (refine Go.Sep.cl 68 _ _ (by rfl) (by rfl) (by kernel_rfl) (HRM.out _ _ ao1 c1 hS (fun w h => by rw [← hv]; exact rws_rd h (k := 1) rfl hd)) ?_; rintro r w1 ⟨v', rfl, hS1⟩; clear hS; have hS := hS1; clear hS1; obtain ⟨ao2, c2, rfl, _⟩ := Sat.tbShape (k := 0) (show Sat _ _ (Tb 59 2 ev2 v' (remE (T.dir d) n) :: _) from hS) rfl; replace hS := hS.pull1; refine ⟨_, rfl, ?_⟩)
                                  | (refine st hS _ _ _ (by rfl) _ _ (by rfl) _ (by first | exact evC | exact evT (by rfl)) (by rfl) (szOf (by rfl)) Has.z (by rw [wl_len]; omega) ?_; intro w1 hS1; clear hS; have hS := hS1; clear hS1; simp only [List.set_cons_zero] at hS; rw [wl_setV _ hd (by omega)] at hS))); refine hK _ _ _ hS (by first | (intro h; cases h; done) | exact fun _ _ h => h | exact fun _ _ h => h.drop | exact fun _ _ h => h.drop.drop | exact fun _ _ h => h.drop.pull1 | exact fun _ _ h => h.take2 | exact fun _ _ h => h.one Has.z | exact fun _ _ h => h.one (Has.s Has.z) | exact fun _ _ h => h.one (Has.s (Has.s Has.z))) ?_; clear hK K; go_frame)
          (refine regP 15 hS (fun _ h => h) rfl (by kernel_rfl) (by kernel_rfl) (by kernel_rfl) (fun _ _ _ _ h => h) (by rfl) (by rfl) ?_; apply Exists.intro; apply And.intro; (intro w; go_simp; try with_reducible rfl); go_frame)
          (refine regP 16 hS (fun _ h => h) rfl (by kernel_rfl) (by kernel_rfl) (by kernel_rfl) (fun _ _ _ _ h => h) (by rfl) (by rfl) ?_; apply Exists.intro; apply And.intro; (intro w; go_simp; try with_reducible rfl); go_frame)
          (refine regP 17 hS (fun _ h => h) rfl (by kernel_rfl) (by kernel_rfl) (by kernel_rfl) (fun _ _ _ _ h => h) (by rfl) (by rfl) ?_; apply Exists.intro; apply And.intro; (intro w; go_simp; try with_reducible rfl); go_frame)
          (refine regP 20 hS (fun _ h => h) rfl (by kernel_rfl) (by kernel_rfl) (by kernel_rfl) (fun _ _ _ _ h => h) (by rfl) (by rfl) ?_; apply Exists.intro; apply And.intro; (intro w; go_simp; try with_reducible rfl); go_frame)
          (refine regA 21 rfl (by kernel_rfl) (by rfl) (by rfl) true (by kernel_rfl) (fun K hK => ?_); ((first
                                  | (refine Go.Sep.cl 68 _ _ (by rfl) (by rfl) (by kernel_rfl) (HRM.out _ _ ao1 c1 hS (fun w h => by rw [← hv]; exact rws_rd h (k := 1) rfl hd)) ?_; rintro r w1 ⟨v', rfl, hS1⟩; clear hS; have hS := hS1; clear hS1; obtain ⟨ao2, c2, rfl, _⟩ := Sat.tbShape (k := 0) (show Sat _ _ (Tb 59 2 ev2 v' (remE (T.dir d) n) :: _) from hS) rfl; replace hS := hS.pull1; refine ⟨_, rfl, ?_⟩)
                                  | (refine st hS _ _ _ (by rfl) _ _ (by rfl) _ (by first | exact evC | exact evT (by rfl)) (by rfl) (szOf (by rfl)) Has.z (by rw [wl_len]; omega) ?_; intro w1 hS1; clear hS; have hS := hS1; clear hS1; simp only [List.set_cons_zero] at hS; rw [wl_setV _ hd (by omega)] at hS))); refine hK _ _ _ hS (by first | (intro h; cases h; done) | exact fun _ _ h => h | exact fun _ _ h => h.drop | exact fun _ _ h => h.drop.drop | exact fun _ _ h => h.drop.pull1 | exact fun _ _ h => h.take2 | exact fun _ _ h => h.one Has.z | exact fun _ _ h => h.one (Has.s Has.z) | exact fun _ _ h => h.one (Has.s (Has.s Has.z))) ?_; clear hK K; go_frame)
          refine regDone (by kernel_rfl) ?_
          replace hS := putW hd HKE.out HPD.out HLE.out hS
          obtain ⟨v2, vt2, hO⟩ := IsW.open hS
          clear hS
          have hS := hO
          clear hO
          go_wp2_with (first
            | (refine toList (by rfl) ?_; refine st hS _ _ _ (by rfl) _ _ (by rfl) _ (by first | exact evC | exact evT (by rfl)) (by rfl) (szOf (by rfl)) Has.z (by rw [wl_len]; omega) ?_; intro w1 hS1; clear hS; have hS := hS1; clear hS1; simp only [List.set_cons_zero] at hS; rw [wl_setK _ hi48 (by omega)] at hS; replace hS := IsW.mk (T := T2.setK i 0) (v := v2) (vt := vt2) (by rw [HKK.out]; exact hS))
            | (refine toList (by rfl) ?_; refine bsF hS _ _ _ (by rfl) (elOf (by rfl)) [.int .i64 (d : Int), .int .i64 (i : Int)] (by rfl) (by rfl) (by decide) (by decide) (by intro v hv; simp only [List.mem_cons, List.not_mem_nil, or_false] at hv; rcases hv with rfl | rfl <;> rfl) ?_; intro b1 w1 hS1; clear hS; have hS := csIr (l := [d, i]) (by simp) (show Sat W w1 (Cs b1 _ (iv [d, i]) :: _) from hS1); clear hS1)
            | (go_at_call 67; refine (HTO.out _ _ _ hS.pull1).mono ?_; rintro r w1 ⟨rfl, hS1⟩; clear hS; have hS := hS1; clear hS1))
          go_ret2
          exact ⟨rfl, hS⟩
      · have hE : T.rdE l = 8 := by unfold TrD.rdE; rw [if_neg h0, if_pos hw, hi, Int.toNat_natCast, hkk, if_neg h2]
        have hI : T.rdI l = 0 := by unfold TrD.rdI; rw [hE, if_neg (by decide)]
        have hM : T.rd l = T := by unfold TrD.rd; rw [hE, if_neg (by decide)]
        rw [hI, hM, hE]
        have e1 : (kk != 2) = true := bne_iff_ne.2 h2
        clear hE hI hM h0 hw hi h2 p1 p3 p4 p5 p6 HPA0 HPA hr hnn
        go_enter Try.func44, Try.ntmps44
        go_wp2_with (first
          | (go_at_call 47; refine (HWK.out _ hS).mono ?_; rintro r w1 ⟨rfl, hS1⟩; clear hS; have hS := hS1; clear hS1; obtain ⟨v, vt, hO⟩ := IsW.open hS; clear hS; have hS := hO; clear hO)
          | (refine toList (by rfl) ?_; refine ld hS _ _ (by rfl) _ _ (by rfl) (agOf (by rfl)) Has.z (wl_ku (z := kk) hi48 (by omega) hkk) ?_)
          )
        go_ret2
        exact ⟨rfl, IsW.mk hS⟩
    · have hE : T.rdE l = (T.walk 0 l).2 := by unfold TrD.rdE; rw [if_neg h0, if_neg hw]
      have hE0 : T.rdE l ≠ 0 := by rw [hE]; exact hw
      have hI : T.rdI l = 0 := by unfold TrD.rdI; rw [if_neg hE0]
      have hM : T.rd l = T := by unfold TrD.rd; rw [if_neg hE0]
      rw [hI, hM, hE]
      obtain ⟨we, hwe⟩ : ∃ we, (T.walk 0 l).2 = we := ⟨_, rfl⟩
      rw [hi, hwe] at HWK
      rw [hwe] at hw ⊢
      have e1 : (we != 0) = true := bne_iff_ne.2 hw
      clear hE hE0 hI hM h0 hw hi hwe HPA0 hr hnn
      go_enter Try.func44, Try.ntmps44
      go_wp2_with (first
        | (go_at_call 47; refine (HWK.out _ hS).mono ?_; rintro r w1 ⟨rfl, hS1⟩; clear hS; have hS := hS1; clear hS1; obtain ⟨v, vt, hO⟩ := IsW.open hS; clear hS; have hS := hO; clear hO)
        | (refine toList (by rfl) ?_; refine ld hS _ _ (by rfl) _ _ (by rfl) (agOf (by rfl)) Has.z (wl_ku (z := kk) hi48 (by omega) hkk) ?_)
        )
      go_ret2
      exact ⟨rfl, IsW.mk hS⟩
set_option maxRecDepth 20000 in
set_option maxHeartbeats 1000000 in
theorem rdrop_any {W w : World} {L : List Asrt} {p : Nat} {T : TrD} (hS : Sat W w (IsW p T :: L)) (hT : T.Ok) (i : Int) :
    Calls Try.prog 46 #[.pointer (some ⟨p, 0, none⟩), .int .i64 i] w fun r w' => r = .returned (.bool (T.drOk i)) ∧ Sat W w' (IsW p (T.dr i) :: L) := by
  unfold TrD.dr
  have hdr : T.drOk i = (inR i && decide (T.kind i.toNat = 1) && decide (T.links i.toNat = 0)) := rfl
  rw [hdr]
  cases hb : inR i with
  | false =>
    rw [Bool.false_and, Bool.false_and, if_neg (by decide)]
    have hc : i < 0 ∨ (¬ i < 0 ∧ 48 ≤ i) := by
      unfold inR at hb
      rw [Bool.and_eq_false_iff] at hb
      rcases hb with h | h
      · have := of_decide_eq_false h; omega
      · have := of_decide_eq_false h; omega
    clear hb hdr
    rcases hc with q1 | ⟨q1, q2⟩
    · have e1 : decide (i < 0) = true := decide_eq_true q1
      go_enter Try.func46, Try.ntmps46
      go_wp2
      go_ret
      exact ⟨rfl, hS⟩
    · have e1 : decide (i < 0) = false := decide_eq_false q1
      have e2 : decide ((48 : Int) ≤ i) = true := decide_eq_true q2
      go_enter Try.func46, Try.ntmps46
      go_wp2
      go_ret
      exact ⟨rfl, hS⟩
  | true =>
    obtain ⟨m, rfl, hm⟩ := inR_yes hb
    rw [Int.toNat_natCast, Bool.true_and]
    have k1 : (m : Int) < 48 := by omega
    have k2 : decide ((m : Int) < 0) = false := decide_eq_false (by omega)
    have k3 : decide ((48 : Int) ≤ (m : Int)) = false := decide_eq_false (by omega)
    have k4 : decide (48 ≤ m) = false := decide_eq_false (by omega)
    have k5 : ¬ (m : Int) < 0 := by omega
    have k6 : ¬ (48 : Int) ≤ (m : Int) := by omega
    have HLK := Lib.hid (fun w (h : Sat W w (IsW p T :: L)) => rlinks_any h hT m hm)
    obtain ⟨v, vt, hO⟩ := IsW.open hS
    clear hS
    have hS := hO
    clear hO
    clear hb hdr
    obtain ⟨kk, hkk⟩ : ∃ kk, T.kind m = kk := ⟨_, rfl⟩
    obtain ⟨nn, hnn⟩ : ∃ nn, T.links m = nn := ⟨_, rfl⟩
    rw [hkk, hnn]
    rw [hnn] at HLK
    by_cases h1 : kk = 1
    · have e1 : (kk != 1) = false := by rw [h1]; rfl
      by_cases h2 : nn = 0
      · rw [decide_eq_true h1, decide_eq_true h2, Bool.and_true, if_pos rfl]
        have HKK := Lib.hid (TrD.setK_kind hT hm 0)
        have HTO := Lib.hid (fun w v (L' : List Asrt) (h : Sat W w (IsW p (T.setK m 0) :: Ir v [m] :: L')) => rtouch_any h (by simp))
        subst h2
        clear h1
        go_enter Try.func46, Try.ntmps46
        go_wp2_with (first
          | (refine toList (by rfl) ?_; refine ld hS _ _ (by rfl) _ _ (by rfl) (agOf (by rfl)) Has.z (wl_ku (z := kk) hm (by omega) hkk) ?_)
          | (go_at_call 50; refine (HLK.out _ (IsW.mk hS)).mono ?_; rintro r w1 ⟨rfl, hS1⟩; clear hS; have hS := hS1; clear hS1; obtain ⟨v2, vt2, hO⟩ := IsW.open hS; clear hS; have hS := hO; clear hO)
          | (refine toList (by rfl) ?_; refine st hS _ _ _ (by rfl) _ _ (by rfl) _ (by first | exact evC | exact evT (by rfl)) (by rfl) (szOf (by rfl)) Has.z (by rw [wl_len]; omega) ?_; intro w1 hS1; clear hS; have hS := hS1; clear hS1; simp only [List.set_cons_zero] at hS; rw [wl_setK _ hm (by omega)] at hS; replace hS := IsW.mk (T := T.setK m 0) (v := v2) (vt := vt2) (by rw [HKK.out]; exact hS))
          | (refine toList (by rfl) ?_; refine bsF hS _ _ _ (by rfl) (elOf (by rfl)) [.int .i64 (m : Int)] (by rfl) (by rfl) (by decide) (by decide) (by intro v hv; simp only [List.mem_cons, List.not_mem_nil, or_false] at hv; rcases hv with rfl <;> rfl) ?_; intro b1 w1 hS1; clear hS; have hS := csIr (l := [m]) (by simp) (show Sat W w1 (Cs b1 _ (iv [m]) :: _) from hS1); clear hS1)
          | (go_at_call 67; refine (HTO.out _ _ _ hS.pull1).mono ?_; rintro r w1 ⟨rfl, hS1⟩; clear hS; have hS := hS1; clear hS1))
        go_ret
        exact ⟨rfl, hS⟩
      · rw [decide_eq_true h1, decide_eq_false h2, Bool.and_false, if_neg (by decide)]
        have e2 : decide ((0 : Int) < (nn : Int)) = true := decide_eq_true (by omega)
        have e3 : decide (0 < nn) = true := decide_eq_true (by omega)
        have e4 : 0 < nn := by omega
        clear h1 h2
        go_enter Try.func46, Try.ntmps46
        go_wp2_with (first
          | (refine toList (by rfl) ?_; refine ld hS _ _ (by rfl) _ _ (by rfl) (agOf (by rfl)) Has.z (wl_ku (z := kk) hm (by omega) hkk) ?_)
          | (go_at_call 50; refine (HLK.out _ (IsW.mk hS)).mono ?_; rintro r w1 ⟨rfl, hS1⟩; clear hS; have hS := hS1; clear hS1))
        go_ret
        exact ⟨rfl, hS⟩
    · rw [decide_eq_false h1, Bool.false_and, if_neg (by decide)]
      have e1 : (kk != 1) = true := bne_iff_ne.2 h1
      clear h1
      go_enter Try.func46, Try.ntmps46
      go_wp2_with (first
        | (refine toList (by rfl) ?_; refine ld hS _ _ (by rfl) _ _ (by rfl) (agOf (by rfl)) Has.z (wl_ku (z := kk) hm (by omega) hkk) ?_))
      go_ret
      exact ⟨rfl, IsW.mk hS⟩
end Go.Proofs.Ytiieicdhkcikpaa
