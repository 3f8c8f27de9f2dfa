/-
  For all writes, numbers of blocks and cuts, WalGroups answers true: no condition.
-/
import Derived.Test.YtefbkpggmmhgcaaWlSame
namespace Go.Proofs.Ytefbkpggmmhgcaa
open Go.RowKit Go.Sep Go.ChangeShapes Go.WideShapes Go.ChangeAt
set_option linter.unusedSimpArgs false
set_option linter.unusedVariables false
attribute [local irreducible] Go.Oper.wp Go.wpList Go.Calls Go.Code.wp Go.Sep.Reg
theorem _root_.Go.Sep.Sat.clear {W w : World} {L : List Asrt} (h : Sat W w L) : Sat W w [] := h.map fun _ _ => trivial
set_option maxRecDepth 20000 in
set_option maxHeartbeats 8000000 in
theorem Groups.walk (l : List WD) (ao : Option Addr) (c : Nat) (bl cut : Int) (hcut : cut ≤ 9223372036854775807) (W : World) (hr : InW W (.slice ao l.length c) l) :
    Calls Try.prog 5 #[.slice ao l.length c, .int .i64 bl, .int .i64 cut] W fun e w' => e = .returned (.bool true) ∧ Sat W w' [] := by
  have hS := Sat.start W
  have HR := Lib.hid hr
  clear hr
  have HSM := Lib.hid (fun w (h : Sat W w []) => small_any h l ao c HR.out)
  cases hsm : smallW l
  · rw [hsm] at HSM
    clear hsm
    go_enter Try.func5, Try.ntmps5
    go_wp2_with (first
      | (go_at_call 8; refine (HSM.out _ hS).mono ?_; rintro e w1 ⟨rfl, hS1⟩; clear hS; have hS := hS1; clear hS1)
      | (go_at_call 9; refine (wawake_any hS).mono ?_; rintro e w1 ⟨rfl, hS1⟩; clear hS; have hS := hS1; clear hS1))
    go_ret
    exact ⟨rfl, hS⟩
  · rw [hsm] at HSM
    have HSB := Lib.hid (smallW_b hsm)
    obtain ⟨D, R, cb, hC⟩ := cut2 rel0 cut hcut
    have HC := Lib.hid hC
    clear hsm hC hcut
    go_enter Try.func5, Try.ntmps5
    go_wp2_with (first
      | (go_at_call 8; refine (HSM.out _ hS).mono ?_; rintro e w1 ⟨rfl, hS1⟩; clear hS; have hS := hS1; clear hS1)
      | (go_at_call 10; refine (group_any hS l ao c HR.out HSB.out.2).mono ?_; rintro e w1 ⟨v1, v2, rfl, xs, hgx, hS1⟩; clear hS; have hS := hS1; clear hS1; have HGX := Lib.hid hgx; obtain ⟨a1, c1, rfl, _⟩ := hS.tbShape (k := 0) rfl; obtain ⟨a2, c2, rfl, _⟩ := hS.tbShape (k := 2) rfl; clear hgx))
    have hgl : (g2 xs).length ≤ 60 := by rw [HGX.out, grpW_len (by unfold grpN; omega)]; unfold grpN; have := HSB.out.1; omega
    have hxl : xs.length ≤ 60 := by rw [← g2_len]; exact hgl
    have HRL2 := Lib.hid (HC.out.rel.commit (g2 xs))
    have hD160 : D.blocks.length = 160 := by rw [HC.out.len]; exact free0.len
    have hDG : DG D 0 := HC.out.rel.dg (by rw [HC.out.wr]; exact Nat.le_refl _)
    have HCM := Lib.hid (fun (pq : Nat × Nat) w (h : Sat W w (IsDisk pq.1 D :: IsRef pq.2 R :: Tb 40 2 gw (.slice a1 xs.length c1) xs :: St (xs.map grow) :: Tb 56 2 wvI (.slice a2 (g2 xs).length c2) (g2 xs) :: [])) => wcommit_any h hDG (by decide) xs a1 c1 (fun w h => grows_rd h.drop) (by omega))
    have HRC := Lib.hid (fun (pq : Nat × Nat) w (h : Sat W w (IsRef pq.2 R :: IsDisk pq.1 (commitR D (g2 xs)).2 :: Tb 40 2 gw (.slice a1 xs.length c1) xs :: St (xs.map grow) :: Tb 56 2 wvI (.slice a2 (g2 xs).length c2) (g2 xs) :: [])) => (show Calls Try.prog 24 #[.pointer (some ⟨pq.2, 0, none⟩), .slice a2 (g2 xs).length c2] w fun e w' => e = .returned (.int .i64 (commitR D (g2 xs)).1) ∧ Sat W w' (IsRef pq.2 (comRf D R (g2 xs)) :: IsDisk pq.1 (commitR D (g2 xs)).2 :: Tb 40 2 gw (.slice a1 xs.length c1) xs :: St (xs.map grow) :: Tb 56 2 wvI (.slice a2 (g2 xs).length c2) (g2 xs) :: []) from rcommit_any h HC.out.rel hDG (by decide) (g2 xs) a2 c2 (fun w h => h.tbRd (Has.s (Has.s (Has.s Has.z)))) (by omega)))
    obtain ⟨z, hz⟩ : ∃ z, (commitR D (g2 xs)).1 = z := ⟨_, rfl⟩
    obtain ⟨D2, hD2⟩ : ∃ D2, (commitR D (g2 xs)).2 = D2 := ⟨_, rfl⟩
    obtain ⟨R2, hR2⟩ : ∃ R2, comRf D R (g2 xs) = R2 := ⟨_, rfl⟩
    rw [hz, hD2] at HCM HRC
    rw [hR2] at HRC
    rw [hD2, hR2] at HRL2
    obtain ⟨b1, hb1⟩ : ∃ b1, okG bl (g2 xs) = b1 := ⟨_, rfl⟩
    have HCA := Lib.hid (fun w (h : Sat W w (Tb 40 2 gw (.slice a1 xs.length c1) xs :: St (xs.map grow) :: Tb 56 2 wvI (.slice a2 (g2 xs).length c2) (g2 xs) :: [])) => wcheck_any h xs a1 c1 (fun w h => grows_rd h) (by omega) bl)
    have HCB := Lib.hid (fun w (h : Sat W w (Tb 40 2 gw (.slice a1 xs.length c1) xs :: St (xs.map grow) :: Tb 56 2 wvI (.slice a2 (g2 xs).length c2) (g2 xs) :: [])) => rcheck_any h (g2 xs) a2 c2 (fun w h => h.tbRd (Has.s (Has.s Has.z))) (by omega) bl)
    rw [hb1] at HCA HCB
    have HCK := Lib.hid (fun (pq : Nat × Nat) w (h : Sat W w (IsDisk pq.1 D :: IsRef pq.2 R :: Tb 40 2 gw (.slice a1 xs.length c1) xs :: St (xs.map grow) :: Tb 56 2 wvI (.slice a2 (g2 xs).length c2) (g2 xs) :: [])) => rcheck_any h (g2 xs) a2 c2 (fun w h => h.tbRd (Has.s (Has.s (Has.s (Has.s Has.z))))) (by omega) 160)
    clear hb1 hz hD2 hR2 hDG hD160
    go_wp2_with (first
      | (go_at_call 19; refine (HCA.out _ hS).mono ?_; rintro e w1 ⟨rfl, hS1⟩; clear hS; have hS := hS1; clear hS1)
      | (go_at_call 11; refine (HCB.out _ hS).mono ?_; rintro e w1 ⟨rfl, hS1⟩; clear hS; have hS := hS1; clear hS1)
      | (go_at_call 12; refine (new_okN hS 160 (by decide) (by decide)).mono ?_; rintro e w1 ⟨p, rfl, hS1⟩; clear hS; have hS := hS1; clear hS1)
      | (go_at_call 20; refine (ref_new_ok hS 160 (by decide) (by decide)).mono ?_; rintro e w1 ⟨q, rfl, hS1⟩; clear hS; have hS := hS1; clear hS1; replace hS := hS.pull1)
      | (go_at_call 21; refine (HC.out.c1 _ _ _ p hS).mono ?_; rintro e w1 ⟨rfl, hS1⟩; clear hS; have hS := hS1; clear hS1)
      | (go_at_call 22; refine (HC.out.c2 _ _ _ q hS.pull1).mono ?_; rintro e w1 ⟨rfl, hS1⟩; clear hS; have hS := hS1; clear hS1; replace hS := hS.pull1))
    have HCM := Lib.hid (HCM.out (p, q))
    have HRC := Lib.hid (HRC.out (p, q))
    have HCK := Lib.hid (HCK.out (p, q))
    cases hok : okG 160 (g2 xs)
    · rw [hok] at HCK
      clear hok
      refine regStart [1, 4] hS (by kernel_rfl) rfl ?_
      intro w1 hS1
      clear hS; have hS := hS1; clear hS1
      (refine regP 0 hS (fun _ h => h) rfl (by kernel_rfl) (by kernel_rfl) (by kernel_rfl) (fun _ _ _ _ h => h) (by rfl) (by rfl) ?_; apply Exists.intro; apply And.intro; (intro w; go_simp; try with_reducible rfl); (simp only [Act.put, List.setIfInBounds_toArray, List.set_cons_zero, List.set_cons_succ]))
      (refine regA 1 rfl (by kernel_rfl) (by rfl) (by rfl) true (by kernel_rfl) (fun K hK => ?_); (first
                    | (refine Go.Sep.cl 11 _ _ (by rfl) (by rfl) (by kernel_rfl) (HCK.out _ hS) ?_; rintro e w1 ⟨rfl, hS1⟩; clear hS; have hS := hS1; clear hS1; refine ⟨_, rfl, ?_⟩)); refine hK _ _ _ hS (by first | (intro h; cases h; done) | exact fun _ _ h => h | exact fun _ _ h => h.drop | exact fun _ _ h => h.drop.drop | exact fun _ _ h => h.drop.pull1 | exact fun _ _ h => h.one Has.z | exact fun _ _ h => h.one (Has.s Has.z) | exact fun _ _ h => h.one (Has.s (Has.s Has.z))) ?_; clear hK K; (simp only [Act.put, List.setIfInBounds_toArray, List.set_cons_zero, List.set_cons_succ]))
      (refine regP 2 hS (fun _ h => h) rfl (by kernel_rfl) (by kernel_rfl) (by kernel_rfl) (fun _ _ _ _ h => h) (by rfl) (by rfl) ?_; apply Exists.intro; apply And.intro; (intro w; go_simp; try with_reducible rfl); (simp only [Act.put, List.setIfInBounds_toArray, List.set_cons_zero, List.set_cons_succ]))
      (first | (refine regP 3 hS (fun _ h => h) rfl (by kernel_rfl) (by kernel_rfl) (by kernel_rfl) (fun _ _ _ _ h => h) (by rfl) (by rfl) ?_; apply Exists.intro; apply And.intro; (intro w; go_simp; try with_reducible rfl); (simp only [Act.put, List.setIfInBounds_toArray, List.set_cons_zero, List.set_cons_succ])) | (refine regN 3 hS (fun _ h => h) rfl (by kernel_rfl) (by kernel_rfl) (by kernel_rfl) (fun _ _ _ h => h) (by rfl) (by rfl) ?_; (simp only [Act.put, List.setIfInBounds_toArray, List.set_cons_zero, List.set_cons_succ])))
      (first | (refine regP 6 hS (fun _ h => h) rfl (by kernel_rfl) (by kernel_rfl) (by kernel_rfl) (fun _ _ _ _ h => h) (by rfl) (by rfl) ?_; apply Exists.intro; apply And.intro; (intro w; go_simp; try with_reducible rfl); (simp only [Act.put, List.setIfInBounds_toArray, List.set_cons_zero, List.set_cons_succ])) | (refine regN 6 hS (fun _ h => h) rfl (by kernel_rfl) (by kernel_rfl) (by kernel_rfl) (fun _ _ _ h => h) (by rfl) (by rfl) ?_; (simp only [Act.put, List.setIfInBounds_toArray, List.set_cons_zero, List.set_cons_succ])))
      (first | (refine regA 4 rfl (by kernel_rfl) (by rfl) (by rfl) true (by kernel_rfl) (fun K hK => ?_); (first
                    | (refine Go.Sep.cl 11 _ _ (by rfl) (by rfl) (by kernel_rfl) (HCK.out _ hS) ?_; rintro e w1 ⟨rfl, hS1⟩; clear hS; have hS := hS1; clear hS1; refine ⟨_, rfl, ?_⟩)); refine hK _ _ _ hS (by first | (intro h; cases h; done) | exact fun _ _ h => h | exact fun _ _ h => h.drop | exact fun _ _ h => h.drop.drop | exact fun _ _ h => h.drop.pull1 | exact fun _ _ h => h.one Has.z | exact fun _ _ h => h.one (Has.s Has.z) | exact fun _ _ h => h.one (Has.s (Has.s Has.z))) ?_; clear hK K; (simp only [Act.put, List.setIfInBounds_toArray, List.set_cons_zero, List.set_cons_succ])) | (refine regN 4 hS (fun _ h => h) rfl (by kernel_rfl) (by kernel_rfl) (by kernel_rfl) (fun _ _ _ h => h) (by rfl) (by rfl) ?_; (simp only [Act.put, List.setIfInBounds_toArray, List.set_cons_zero, List.set_cons_succ])))
      (first | (refine regR 5 hS (fun _ h => h) rfl (by kernel_rfl) (by kernel_rfl) (by kernel_rfl) (by kernel_rfl) (by kernel_rfl) (fun _ _ _ _ h => h) (by rfl) (by rfl) ?_; (skip); (simp only [Act.put, List.setIfInBounds_toArray, List.set_cons_zero, List.set_cons_succ])) | (refine regN 5 hS (fun _ h => h) rfl (by kernel_rfl) (by kernel_rfl) (by kernel_rfl) (fun _ _ _ h => h) (by rfl) (by rfl) ?_; (simp only [Act.put, List.setIfInBounds_toArray, List.set_cons_zero, List.set_cons_succ])))
      (first | (refine regA 7 rfl (by kernel_rfl) (by rfl) (by rfl) false (by kernel_rfl) (fun K hK => ?_); (first
                    | (refine Go.Sep.cl 11 _ _ (by rfl) (by rfl) (by kernel_rfl) (HCK.out _ hS) ?_; rintro e w1 ⟨rfl, hS1⟩; clear hS; have hS := hS1; clear hS1; refine ⟨_, rfl, ?_⟩)); refine hK _ _ _ hS (by first | (intro h; cases h; done) | exact fun _ _ h => h | exact fun _ _ h => h.drop | exact fun _ _ h => h.drop.drop | exact fun _ _ h => h.drop.pull1 | exact fun _ _ h => h.one Has.z | exact fun _ _ h => h.one (Has.s Has.z) | exact fun _ _ h => h.one (Has.s (Has.s Has.z))) ?_; clear hK K; (simp only [Act.put, List.setIfInBounds_toArray, List.set_cons_zero, List.set_cons_succ])) | (refine regN 7 hS (fun _ h => h) rfl (by kernel_rfl) (by kernel_rfl) (by kernel_rfl) (fun _ _ _ h => h) (by rfl) (by rfl) ?_; (simp only [Act.put, List.setIfInBounds_toArray, List.set_cons_zero, List.set_cons_succ])))
      (first | (refine regR 8 hS (fun _ h => h) rfl (by kernel_rfl) (by kernel_rfl) (by kernel_rfl) (by kernel_rfl) (by kernel_rfl) (fun _ _ _ _ h => h) (by rfl) (by rfl) ?_; (skip); (simp only [Act.put, List.setIfInBounds_toArray, List.set_cons_zero, List.set_cons_succ])) | (refine regN 8 hS (fun _ h => h) rfl (by kernel_rfl) (by kernel_rfl) (by kernel_rfl) (fun _ _ _ h => h) (by rfl) (by rfl) ?_; (simp only [Act.put, List.setIfInBounds_toArray, List.set_cons_zero, List.set_cons_succ])))
      (first | (refine regP 9 hS (fun _ h => h) rfl (by kernel_rfl) (by kernel_rfl) (by kernel_rfl) (fun _ _ _ _ h => h) (by rfl) (by rfl) ?_; apply Exists.intro; apply And.intro; (intro w; go_simp; try with_reducible rfl); (simp only [Act.put, List.setIfInBounds_toArray, List.set_cons_zero, List.set_cons_succ])) | (refine regN 9 hS (fun _ h => h) rfl (by kernel_rfl) (by kernel_rfl) (by kernel_rfl) (fun _ _ _ h => h) (by rfl) (by rfl) ?_; (simp only [Act.put, List.setIfInBounds_toArray, List.set_cons_zero, List.set_cons_succ])))
      (refine regP 10 hS (fun _ h => h) rfl (by kernel_rfl) (by kernel_rfl) (by kernel_rfl) (fun _ _ _ _ h => h) (by rfl) (by rfl) ?_; apply Exists.intro; apply And.intro; (intro w; go_simp; try with_reducible rfl); (simp only [Act.put, List.setIfInBounds_toArray, List.set_cons_zero, List.set_cons_succ]))
      refine regDone (by kernel_rfl) ?_
      go_wp2_with (first
        | (go_at_call 13; refine (HCM.out _ hS).mono ?_; rintro e w1 ⟨rfl, hS1⟩; clear hS; have hS := hS1; clear hS1)
        | (go_at_call 24; refine (HRC.out _ hS.pull1).mono ?_; rintro e w1 ⟨rfl, hS1⟩; clear hS; have hS := hS1; clear hS1; replace hS := hS.pull1)
        | (go_at_call 25; refine (wsame_any hS HRL2.out).mono ?_; rintro e w1 ⟨rfl, hS1⟩; clear hS; have hS := hS1; clear hS1)
        | (go_at_call 9; refine (wawake_any hS).mono ?_; rintro e w1 ⟨rfl, hS1⟩; clear hS; have hS := hS1; clear hS1))
      go_ret
      exact ⟨rfl, hS.clear⟩
    · rw [hok] at HCK
      have hx20 : xs.length ≤ 20 := by have := (okG_len hok).2; rwa [g2_len] at this
      have HHL := Lib.hid (hdr_len (okG_len hok).2)
      have HHA := Lib.hid (fun w (h : Sat W w (IsDisk p D :: IsRef q R :: Tb 40 2 gw (.slice a1 xs.length c1) xs :: St (xs.map grow) :: Tb 56 2 wvI (.slice a2 (g2 xs).length c2) (g2 xs) :: [])) => wheader_any h xs a1 c1 (fun w h => grows_rd h.drop.drop) hx20 (okG_range (by decide) hok))
      have HHB := Lib.hid (fun (v : Value) w (h : Sat W w (Sl 5 1 v 128 (bv (hdr (g2 xs))) :: IsDisk p D :: IsRef q R :: Tb 40 2 gw (.slice a1 xs.length c1) xs :: St (xs.map grow) :: Tb 56 2 wvI (.slice a2 (g2 xs).length c2) (g2 xs) :: [])) => rheader_any h (g2 xs) a2 c2 (fun w h => h.tbRd (Has.s (Has.s (Has.s (Has.s (Has.s Has.z)))))) (okG_len hok).2 (okG_range2 (by decide) hok) (okG_d9 hok))
      clear hok
      refine regStart [1, 4] hS (by kernel_rfl) rfl ?_
      intro w1 hS1
      clear hS; have hS := hS1; clear hS1
      (refine regP 0 hS (fun _ h => h) rfl (by kernel_rfl) (by kernel_rfl) (by kernel_rfl) (fun _ _ _ _ h => h) (by rfl) (by rfl) ?_; apply Exists.intro; apply And.intro; (intro w; go_simp; try with_reducible rfl); (simp only [Act.put, List.setIfInBounds_toArray, List.set_cons_zero, List.set_cons_succ]))
      (refine regA 1 rfl (by kernel_rfl) (by rfl) (by rfl) true (by kernel_rfl) (fun K hK => ?_); (first
                    | (refine Go.Sep.cl 11 _ _ (by rfl) (by rfl) (by kernel_rfl) (HCK.out _ hS) ?_; rintro e w1 ⟨rfl, hS1⟩; clear hS; have hS := hS1; clear hS1; refine ⟨_, rfl, ?_⟩)
                    | (refine Go.Sep.cl 17 _ _ (by rfl) (by rfl) (by kernel_rfl) (HHA.out _ hS) ?_; rintro e w1 ⟨vh, rfl, hS1⟩; clear hS; have hS := hS1; clear hS1; refine ⟨_, rfl, ?_⟩)
                    | (refine Go.Sep.cl 23 _ _ (by rfl) (by rfl) (by kernel_rfl) (HHB.out _ _ hS) ?_; rintro e w1 ⟨vh2, rfl, hS1⟩; clear hS; have hS := hS1; clear hS1; refine ⟨_, rfl, ?_⟩)); refine hK _ _ _ hS (by first | (intro h; cases h; done) | exact fun _ _ h => h | exact fun _ _ h => h.drop | exact fun _ _ h => h.drop.drop | exact fun _ _ h => h.drop.pull1 | exact fun _ _ h => h.one Has.z | exact fun _ _ h => h.one (Has.s Has.z) | exact fun _ _ h => h.one (Has.s (Has.s Has.z))) ?_; clear hK K; (simp only [Act.put, List.setIfInBounds_toArray, List.set_cons_zero, List.set_cons_succ]))
      (refine regP 2 hS (fun _ h => h) rfl (by kernel_rfl) (by kernel_rfl) (by kernel_rfl) (fun _ _ _ _ h => h) (by rfl) (by rfl) ?_; apply Exists.intro; apply And.intro; (intro w; go_simp; try with_reducible rfl); (simp only [Act.put, List.setIfInBounds_toArray, List.set_cons_zero, List.set_cons_succ]))
      (first | (refine regP 3 hS (fun _ h => h) rfl (by kernel_rfl) (by kernel_rfl) (by kernel_rfl) (fun _ _ _ _ h => h) (by rfl) (by rfl) ?_; apply Exists.intro; apply And.intro; (intro w; go_simp; try with_reducible rfl); (simp only [Act.put, List.setIfInBounds_toArray, List.set_cons_zero, List.set_cons_succ])) | (refine regN 3 hS (fun _ h => h) rfl (by kernel_rfl) (by kernel_rfl) (by kernel_rfl) (fun _ _ _ h => h) (by rfl) (by rfl) ?_; (simp only [Act.put, List.setIfInBounds_toArray, List.set_cons_zero, List.set_cons_succ])))
      (first | (refine regP 6 hS (fun _ h => h) rfl (by kernel_rfl) (by kernel_rfl) (by kernel_rfl) (fun _ _ _ _ h => h) (by rfl) (by rfl) ?_; apply Exists.intro; apply And.intro; (intro w; go_simp; try with_reducible rfl); (simp only [Act.put, List.setIfInBounds_toArray, List.set_cons_zero, List.set_cons_succ])) | (refine regN 6 hS (fun _ h => h) rfl (by kernel_rfl) (by kernel_rfl) (by kernel_rfl) (fun _ _ _ h => h) (by rfl) (by rfl) ?_; (simp only [Act.put, List.setIfInBounds_toArray, List.set_cons_zero, List.set_cons_succ])))
      (first | (refine regA 4 rfl (by kernel_rfl) (by rfl) (by rfl) true (by kernel_rfl) (fun K hK => ?_); (first
                    | (refine Go.Sep.cl 11 _ _ (by rfl) (by rfl) (by kernel_rfl) (HCK.out _ hS) ?_; rintro e w1 ⟨rfl, hS1⟩; clear hS; have hS := hS1; clear hS1; refine ⟨_, rfl, ?_⟩)
                    | (refine Go.Sep.cl 17 _ _ (by rfl) (by rfl) (by kernel_rfl) (HHA.out _ hS) ?_; rintro e w1 ⟨vh, rfl, hS1⟩; clear hS; have hS := hS1; clear hS1; refine ⟨_, rfl, ?_⟩)
                    | (refine Go.Sep.cl 23 _ _ (by rfl) (by rfl) (by kernel_rfl) (HHB.out _ _ hS) ?_; rintro e w1 ⟨vh2, rfl, hS1⟩; clear hS; have hS := hS1; clear hS1; refine ⟨_, rfl, ?_⟩)); refine hK _ _ _ hS (by first | (intro h; cases h; done) | exact fun _ _ h => h | exact fun _ _ h => h.drop | exact fun _ _ h => h.drop.drop | exact fun _ _ h => h.drop.pull1 | exact fun _ _ h => h.one Has.z | exact fun _ _ h => h.one (Has.s Has.z) | exact fun _ _ h => h.one (Has.s (Has.s Has.z))) ?_; clear hK K; (simp only [Act.put, List.setIfInBounds_toArray, List.set_cons_zero, List.set_cons_succ])) | (refine regN 4 hS (fun _ h => h) rfl (by kernel_rfl) (by kernel_rfl) (by kernel_rfl) (fun _ _ _ h => h) (by rfl) (by rfl) ?_; (simp only [Act.put, List.setIfInBounds_toArray, List.set_cons_zero, List.set_cons_succ])))
      (first | (refine regR 5 hS (fun _ h => h) rfl (by kernel_rfl) (by kernel_rfl) (by kernel_rfl) (by kernel_rfl) (by kernel_rfl) (fun _ _ _ _ h => h) (by rfl) (by rfl) ?_; (first
                    | refine ⟨_, yCv (n := 128) (l := hdr (g2 xs)) _ _ _ (by rfl) _ (by rfl) strBytes (fun u hu => hu.slRd Has.z), ?_⟩
                    | refine ⟨_, yCv (n := 128) (l := hdr (g2 xs)) _ _ _ (by rfl) _ (by rfl) strBytes (fun u hu => hu.slRd (Has.s Has.z)), ?_⟩); (simp only [Act.put, List.setIfInBounds_toArray, List.set_cons_zero, List.set_cons_succ])) | (refine regN 5 hS (fun _ h => h) rfl (by kernel_rfl) (by kernel_rfl) (by kernel_rfl) (fun _ _ _ h => h) (by rfl) (by rfl) ?_; (simp only [Act.put, List.setIfInBounds_toArray, List.set_cons_zero, List.set_cons_succ])))
      (first | (refine regA 7 rfl (by kernel_rfl) (by rfl) (by rfl) false (by kernel_rfl) (fun K hK => ?_); (first
                    | (refine Go.Sep.cl 11 _ _ (by rfl) (by rfl) (by kernel_rfl) (HCK.out _ hS) ?_; rintro e w1 ⟨rfl, hS1⟩; clear hS; have hS := hS1; clear hS1; refine ⟨_, rfl, ?_⟩)
                    | (refine Go.Sep.cl 17 _ _ (by rfl) (by rfl) (by kernel_rfl) (HHA.out _ hS) ?_; rintro e w1 ⟨vh, rfl, hS1⟩; clear hS; have hS := hS1; clear hS1; refine ⟨_, rfl, ?_⟩)
                    | (refine Go.Sep.cl 23 _ _ (by rfl) (by rfl) (by kernel_rfl) (HHB.out _ _ hS) ?_; rintro e w1 ⟨vh2, rfl, hS1⟩; clear hS; have hS := hS1; clear hS1; refine ⟨_, rfl, ?_⟩)); refine hK _ _ _ hS (by first | (intro h; cases h; done) | exact fun _ _ h => h | exact fun _ _ h => h.drop | exact fun _ _ h => h.drop.drop | exact fun _ _ h => h.drop.pull1 | exact fun _ _ h => h.one Has.z | exact fun _ _ h => h.one (Has.s Has.z) | exact fun _ _ h => h.one (Has.s (Has.s Has.z))) ?_; clear hK K; (simp only [Act.put, List.setIfInBounds_toArray, List.set_cons_zero, List.set_cons_succ])) | (refine regN 7 hS (fun _ h => h) rfl (by kernel_rfl) (by kernel_rfl) (by kernel_rfl) (fun _ _ _ h => h) (by rfl) (by rfl) ?_; (simp only [Act.put, List.setIfInBounds_toArray, List.set_cons_zero, List.set_cons_succ])))
      (first | (refine regR 8 hS (fun _ h => h) rfl (by kernel_rfl) (by kernel_rfl) (by kernel_rfl) (by kernel_rfl) (by kernel_rfl) (fun _ _ _ _ h => h) (by rfl) (by rfl) ?_; (first
                    | refine ⟨_, yCv (n := 128) (l := hdr (g2 xs)) _ _ _ (by rfl) _ (by rfl) strBytes (fun u hu => hu.slRd Has.z), ?_⟩
                    | refine ⟨_, yCv (n := 128) (l := hdr (g2 xs)) _ _ _ (by rfl) _ (by rfl) strBytes (fun u hu => hu.slRd (Has.s Has.z)), ?_⟩); (simp only [Act.put, List.setIfInBounds_toArray, List.set_cons_zero, List.set_cons_succ])) | (refine regN 8 hS (fun _ h => h) rfl (by kernel_rfl) (by kernel_rfl) (by kernel_rfl) (fun _ _ _ h => h) (by rfl) (by rfl) ?_; (simp only [Act.put, List.setIfInBounds_toArray, List.set_cons_zero, List.set_cons_succ])))
      (first | (refine regP 9 hS (fun _ h => h) rfl (by kernel_rfl) (by kernel_rfl) (by kernel_rfl) (fun _ _ _ _ h => h) (by rfl) (by rfl) ?_; apply Exists.intro; apply And.intro; (intro w; go_simp; try with_reducible rfl); (simp only [Act.put, List.setIfInBounds_toArray, List.set_cons_zero, List.set_cons_succ])) | (refine regN 9 hS (fun _ h => h) rfl (by kernel_rfl) (by kernel_rfl) (by kernel_rfl) (fun _ _ _ h => h) (by rfl) (by rfl) ?_; (simp only [Act.put, List.setIfInBounds_toArray, List.set_cons_zero, List.set_cons_succ])))
      (refine regP 10 hS (fun _ h => h) rfl (by kernel_rfl) (by kernel_rfl) (by kernel_rfl) (fun _ _ _ _ h => h) (by rfl) (by rfl) ?_; apply Exists.intro; apply And.intro; (intro w; go_simp; try with_reducible rfl); (simp only [Act.put, List.setIfInBounds_toArray, List.set_cons_zero, List.set_cons_succ]))
      refine regDone (by kernel_rfl) ?_
      replace hS := hS.drop.drop
      go_wp2_with (first
        | (go_at_call 13; refine (HCM.out _ hS).mono ?_; rintro e w1 ⟨rfl, hS1⟩; clear hS; have hS := hS1; clear hS1)
        | (go_at_call 24; refine (HRC.out _ hS.pull1).mono ?_; rintro e w1 ⟨rfl, hS1⟩; clear hS; have hS := hS1; clear hS1; replace hS := hS.pull1)
        | (go_at_call 25; refine (wsame_any hS HRL2.out).mono ?_; rintro e w1 ⟨rfl, hS1⟩; clear hS; have hS := hS1; clear hS1)
        | (go_at_call 9; refine (wawake_any hS).mono ?_; rintro e w1 ⟨rfl, hS1⟩; clear hS; have hS := hS1; clear hS1))
      go_ret
      exact ⟨rfl, hS.clear⟩

set_option maxRecDepth 100000 in
theorem Groups.contract (H : Type) (enc : TypeId × Value → H) (W : World) (base : Nat) (args : Array Value) (ds gs : List (DataW H)) (before : List MemPlace)
    (hval : ∀ (j : Nat) t v, Try.f5.params[j]? = some t → args[j]? = some v → Value.okWide Try.prog W .any base t v)
    (hW : DataW.Whole enc Try.prog Try.f5.params.toList Rows.walGroupsSpec.vars false W args.toList ds gs before)
    (hreach : (DataW.weightsEach Try.prog (Try.f5.params.toList ++ Rows.walGroupsSpec.plain.varTypes Try.prog) (ds ++ gs)).all (· ≤ reachBytes) = true) :
    Calls Try.prog 5 args W fun e W' => ∃ v, e = .returned v ∧ Rows.walGroupsSpec.post enc Try.prog Try.f5 false true false false W args v W' := by
  have hW' := hW
  obtain ⟨p, q, hA, hV, rfl, hfz, hnd⟩ := hW
  rw [Try.params5] at hA hval hreach
  obtain ⟨v1, vs1, d1, ds1, p1, q1, hargs, rfl, rfl, h1, r1⟩ := trodAll_cons hA
  obtain ⟨v2, vs2, d2, ds2, p2, q2, rfl, rfl, rfl, h2, r2⟩ := trodAll_cons r1
  obtain ⟨v3, vs3, d3, ds3, p3, q3, rfl, rfl, rfl, h3, r3⟩ := trodAll_cons r2
  obtain ⟨rfl, rfl, rfl⟩ := trodAll_nil r3
  obtain rfl : args = #[v1, v2, v3] := by cases args; simp_all
  obtain ⟨rfl, rfl⟩ := trodVars_none hV
  obtain ⟨ao1, l1, c1, rfl⟩ := okWide_slice Try.underlying22 (hval 0 22 v1 rfl rfl)
  obtain ⟨a2, rfl, rfl, rfl, w2⟩ := open_int Try.underlying3 (hval 1 3 v2 rfl rfl) h2
  obtain ⟨a3, rfl, rfl, rfl, w3⟩ := open_int Try.underlying3 (hval 2 3 v3 rfl rfl) h3
  obtain ⟨l, rfl, hr, hro⟩ := open_wds h1
  refine (Groups.walk l ao1 c1 a2 a3 (i64_of w3).2 W ⟨hr, hro⟩).mono ?_
  refine fun e W' ⟨he, hS⟩ => ?_
  subst he
  exact ⟨_, rfl, law_post (tb := 4) (by kernel_rfl) (by kernel_rfl) rfl Try.underlying4 rfl hW' rfl hS⟩

theorem Groups.own : ownKnob Try.prog.godebug = none := by kernel_rfl
set_option maxRecDepth 100000 in
theorem Groups.lifted (os : Os) (started : os.Started) (H : Type) (enc : TypeId × Value → H) :
    ReturnsInHanded {} Try.checked os 5 .any (Rows.walGroupsSpec.pre6 enc Try.prog Try.f5 Rows.walGroupsRow.domain false) (Rows.walGroupsSpec.post enc Try.prog Try.f5 false true false false) := by
  refine returnsInHanded_of_change_shaped (C := Try.checked) Groups.own started (by kernel_rfl) Try.func5
    (ChangeSpec.witness6 (enc := enc) (C := Try.checked) false ⟨#[], #[.slice none 0 0, .int .i64 0, .int .i64 0], []⟩ 8 (by kernel_rfl) (by kernel_rfl) (by kernel_rfl) (by kernel_rfl)) ?_
  intro W base args ds gs before hval hW _ hreach _ _
  exact Groups.contract H enc W base args ds gs before hval hW hreach

theorem Groups.holds : Rows.WalGroupsSaid :=
  OpenClaim.holds_of_wide 5 Try.f5 rfl rfl rfl rfl rfl rfl rfl ⟨rfl, rfl, rfl, rfl, rfl⟩ rfl rfl rfl rfl rfl (by kernel_rfl) Try.func5 (by kernel_rfl)
    (of_decide_eq_true (by kernel_rfl)) (by unfold Func.isWrapper; first | (rw [if_pos (by decide +kernel)]; kernel_rfl) | (rw [if_neg (by decide +kernel)]; exact ⟨rfl, rfl⟩))
    (fun os started H enc _ => Groups.lifted os started H enc)
end Go.Proofs.Ytefbkpggmmhgcaa
