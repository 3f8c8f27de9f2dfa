/-
  Package wal: a group is written to its places (done).
-/
import Derived.Test.YtefbkpggmmhgcaaWlCheck
import Derived.Test.YtefbkpggmmhgcaaSepScope
namespace Go.Proofs.Ytefbkpggmmhgcaa
open Go.RowKit Go.Sep
set_option linter.unusedSimpArgs false
set_option linter.unusedVariables false
attribute [local irreducible] Go.Oper.wp Go.wpList Go.Calls Go.Code.wp Go.Sep.Reg
def intOf : Value → Int | .int _ q => q | _ => 0
theorem yLdRd {P : Program} {W : World} {L : List Asrt} {o : Oper} {a : Act} {α : Type} {f : α → List Value} {l : List α} {x : α} {b off n sz c : Nat} (h : ∀ u, Sat W u L → Rd u (.slice (some ⟨b, off, none⟩) n c) n sz (l.flatMap f)) (hf : ∀ x ∈ l, (f x).length = sz) (T : TypeId) (y : Operand) (ho : o.op = .load T y) (ad : Nat) (hy : a.eval y = .pointer (some ⟨b, ad, none⟩)) (hT : aggB P T = some false)
    (i j : Nat) (hj : ad = off + (i * sz + j)) (hx : l[i]? = some x) {u : Value} (hu : (f x)[j]? = some u) (hn : 0 < n) : ∀ w, Sat W w L → (execOp a.eval o).run P w = .ok (.value u) w :=
  fun w hS => rLdRd (h w hS) hf T y ho ad hy hT i j hj hx hu hn
theorem writeD_any {W w : World} {L : List Asrt} {p k : Nat} {D : DiskS} (hS : Sat W w (IsDisk p D :: L)) (hG : DG D k) (hk : k ≤ 1000) (n : Int) (v : Value) (b : List UInt8) {m : Nat} (hm : b.length = m) (hb : ∀ w, Sat W w L → Rd w v m 1 (bv b)) :
    Calls Try.prog 18 #[.pointer (some ⟨p, 0, none⟩), .int .i64 n, v] w fun e w' => e = .returned (.int .i64 (wcode D n b.length)) ∧ Sat W w' (IsDisk p (wnext D n b) :: L) := by
  subst hm
  obtain ⟨ao, c, rfl, _⟩ := hb w hS.drop
  unfold wcode wnext
  have hw := hG.wr
  by_cases h1 : D.dead = true
  · simp only [if_pos h1]; exact (write_dead hS n _ h1).mono fun e w' ⟨he, hw⟩ => ⟨he, hw ▸ hS⟩
  have h1' : D.dead = false := by simpa using h1
  simp only [if_neg h1]
  by_cases h2 : bad D.blocks.length n b.length
  · simp only [if_pos h2]; exact (write_arg hS n _ _ _ h1' h2).mono fun e w' ⟨he, hw⟩ => ⟨he, hw ▸ hS⟩
  simp only [if_neg h2]
  unfold bad at h2
  obtain ⟨j, rfl⟩ := Int.eq_ofNat_of_zero_le (show 0 ≤ n by omega)
  have hbl : b.length = 128 := by omega
  rw [hbl] at hb ⊢
  by_cases h3 : D.left = 0
  · simp only [if_pos h3]; exact write_cut hS j _ _ h1' (by omega) h3
  · simp only [if_neg h3]
    exact write_ok hS j _ b hb h1' (by omega) h3 hG.lo hG.hi (by omega) hG.ok.len
theorem doneL_at {xs : List GW} {i : Nat} {x : GW} (h : xs[i]? = some x) : (doneL (g2 xs))[i]? = some (x.at_, x.data) := by
  have hl := (List.getElem?_eq_some_iff.1 h).1
  unfold doneL
  rw [List.getElem?_append_left (by rw [g2_len]; exact hl), g2_at h]
theorem doneL_last (xs : List GW) : (doneL (g2 xs))[xs.length]? = some (2, zeros 128) := by
  unfold doneL
  rw [List.getElem?_append_right (by rw [g2_len]; exact Nat.le_refl _), g2_len, Nat.sub_self]; rfl
theorem DG.step {D D' : DiskS} {k : Nat} {l : G2} {i : Nat} (h : DG D k) (hr : runW D (l.take i) = (0, D')) : DG D' (k + i) := by
  have := h.run (l.take i)
  rw [hr] at this
  exact this.mono (by have := List.length_take_le i l; omega)
set_option maxRecDepth 20000 in
set_option maxHeartbeats 4000000 in
theorem done_any {W w : World} {L : List Asrt} {p k : Nat} {D : DiskS} (hS : Sat W w (IsDisk p D :: L)) (hG : DG D k) (hk : k ≤ 900) (xs : List GW) (ao : Option Addr) (c : Nat) (hr : ∀ w, Sat W w L → RdG w (.slice ao xs.length c) xs) (hb : xs.length ≤ 20) :
    Calls Try.prog 34 #[.pointer (some ⟨p, 0, none⟩), .slice ao xs.length c] w fun e w' => e = .returned (.int .i64 (runW D (doneL (g2 xs))).1) ∧ Sat W w' (IsDisk p (runW D (doneL (g2 xs))).2 :: L) := by
  have HR := Lib.hid hr
  obtain ⟨_, _, he, hc1, hc2, _, h5⟩ := (hr w hS.drop).1
  simp only [Value.slice.injEq, true_and] at he
  obtain ⟨rfl, rfl⟩ := he
  have H5 := Lib.hid h5
  have HG := Lib.hid hG
  clear hr h5 hG
  obtain ⟨l, hl⟩ : ∃ l, doneL (g2 xs) = l := ⟨_, rfl⟩
  have HL := Lib.hid hl
  have HLL := Lib.hid (show l.length = xs.length + 1 by rw [← hl]; simp [doneL, g2_len])
  rw [hl]
  clear hl
  go_enter Try.func34, Try.ntmps34
  go_wp2
  refine wp_scope_two_over 1 0 (fun a' w' => ∃ (i : Nat) (D' : DiskS) (u7 u8 u9 u10 u11 u12 u13 u14 u15 u16 u17 u18 u19 u20 u21 u22 u23 u24 u25 u26 u27 u28 u29 u30 : Value), i ≤ xs.length ∧ runW D (l.take i) = (0, D') ∧ Sat W w' (IsDisk p D' :: L) ∧ a' = { tmps := #[.pointer (some ⟨p, 0, none⟩), .slice ao xs.length c, undef, undef, .int .i64 0, .int .i64 (i : Int), .int .i64 0, u7, u8, u9, u10, u11, u12, u13, u14, u15, u16, u17, u18, u19, u20, u21, u22, u23, u24, u25, u26, u27, u28, u29, u30], defers := [] }) (fun a' _ => xs.length - (intOf (a'.tmps.getD 5 undef)).toNat) rfl rfl ?_ ?_
  · clear hS
    rintro a' w' ⟨i, D', u7, u8, u9, u10, u11, u12, u13, u14, u15, u16, u17, u18, u19, u20, u21, u22, u23, u24, u25, u26, u27, u28, u29, u30, hi, hrun, hS, rfl⟩
    have HRUN := Lib.hid hrun
    clear hrun
    by_cases hlt : i < xs.length
    · obtain ⟨b, off, rfl, _⟩ := H5.out (by omega)
      obtain ⟨⟨xa, xv, xd⟩, hx⟩ : ∃ x, xs[i]? = some x := ⟨_, List.getElem?_eq_getElem hlt⟩
      obtain ⟨ad, cd, rfl⟩ : ∃ ad cd, xv = .slice ad xd.length cd := (HR.out _ hS.drop).slice hx
      have HX := Lib.hid hx
      have HLT := Lib.hid hlt
      have i1 : (i : Int) < (xs.length : Int) := by omega
      have HN := Lib.hid (runW_next HRUN.out (by rw [← HL.out]; exact doneL_at hx))
      have HWR := Lib.hid (fun w (h : Sat W w (IsDisk p D' :: L)) => writeD_any h (HG.out.step HRUN.out) (by omega) xa _ xd rfl (fun w h => (HR.out w h).2 _ (List.mem_of_getElem? hx)))
      dsimp only at HN
      obtain ⟨q, hq⟩ : ∃ q, wcode D' xa xd.length = q := ⟨_, rfl⟩
      rw [hq] at HN HWR
      clear hx hlt hq
      by_cases h0 : q = 0
      · subst h0
        go_wp2
        refine regStart [11] hS (by kernel_rfl) rfl ?_
        intro w1 hS1
        clear hS; have hS := hS1; clear hS1
        (refine regP 0 hS (fun _ h => h) rfl (by kernel_rfl) (by kernel_rfl) (by kernel_rfl) (fun _ _ _ _ h => h) (by rfl) (by rfl) ?_; apply Exists.intro; apply And.intro; (intro w; go_simp; try with_reducible rfl); (simp only [Act.put, List.setIfInBounds_toArray, List.set_cons_zero, List.set_cons_succ]))
        (refine regP 1 hS (fun _ h => h) rfl (by kernel_rfl) (by kernel_rfl) (by kernel_rfl) (fun _ _ _ _ h => h) (by rfl) (by rfl) ?_; apply Exists.intro; apply And.intro; (intro w; go_simp; try with_reducible rfl); (simp only [Act.put, List.setIfInBounds_toArray, List.set_cons_zero, List.set_cons_succ]))
        (refine regP 2 hS (fun _ h => h) rfl (by kernel_rfl) (by kernel_rfl) (by kernel_rfl) (fun _ _ _ _ h => h) (by rfl) (by rfl) ?_; apply Exists.intro; apply And.intro; (intro w; go_simp; try with_reducible rfl); (simp only [Act.put, List.setIfInBounds_toArray, List.set_cons_zero, List.set_cons_succ]))
        (refine regP 3 hS (fun _ h => h) rfl (by kernel_rfl) (by kernel_rfl) (by kernel_rfl) (fun _ _ _ _ h => h) (by rfl) (by rfl) ?_; apply Exists.intro; apply And.intro; (intro w; go_simp; try with_reducible rfl); (simp only [Act.put, List.setIfInBounds_toArray, List.set_cons_zero, List.set_cons_succ]))
        (refine regP 4 hS (fun _ h => h) rfl (by kernel_rfl) (by kernel_rfl) (by kernel_rfl) (fun _ _ _ _ h => h) (by rfl) (by rfl) ?_; apply Exists.intro; apply And.intro; (intro w; go_simp; try with_reducible rfl); (simp only [Act.put, List.setIfInBounds_toArray, List.set_cons_zero, List.set_cons_succ]))
        (refine regR 5 hS (fun _ h => h) rfl (by kernel_rfl) (by kernel_rfl) (by kernel_rfl) (by kernel_rfl) (by kernel_rfl) (fun _ _ _ _ h => h) (by rfl) (by rfl) ?_; (first
                          | refine ⟨_, yLdRd (fun u h => (HR.out u h.drop).1) (gw_len xs) _ _ (by rfl) _ (by rfl) (agOf (by rfl)) i 0 (by omega) HX.out (by rfl) (by omega), ?_⟩
                          | refine ⟨_, yLdRd (fun u h => (HR.out u h.drop).1) (gw_len xs) _ _ (by rfl) _ (by rfl) (agOf (by rfl)) i 1 (by omega) HX.out (by rfl) (by omega), ?_⟩); (simp only [Act.put, List.setIfInBounds_toArray, List.set_cons_zero, List.set_cons_succ]))
        (refine regP 6 hS (fun _ h => h) rfl (by kernel_rfl) (by kernel_rfl) (by kernel_rfl) (fun _ _ _ _ h => h) (by rfl) (by rfl) ?_; apply Exists.intro; apply And.intro; (intro w; go_simp; try with_reducible rfl); (simp only [Act.put, List.setIfInBounds_toArray, List.set_cons_zero, List.set_cons_succ]))
        (refine regP 7 hS (fun _ h => h) rfl (by kernel_rfl) (by kernel_rfl) (by kernel_rfl) (fun _ _ _ _ h => h) (by rfl) (by rfl) ?_; apply Exists.intro; apply And.intro; (intro w; go_simp; try with_reducible rfl); (simp only [Act.put, List.setIfInBounds_toArray, List.set_cons_zero, List.set_cons_succ]))
        (refine regP 8 hS (fun _ h => h) rfl (by kernel_rfl) (by kernel_rfl) (by kernel_rfl) (fun _ _ _ _ h => h) (by rfl) (by rfl) ?_; apply Exists.intro; apply And.intro; (intro w; go_simp; try with_reducible rfl); (simp only [Act.put, List.setIfInBounds_toArray, List.set_cons_zero, List.set_cons_succ]))
        (refine regP 9 hS (fun _ h => h) rfl (by kernel_rfl) (by kernel_rfl) (by kernel_rfl) (fun _ _ _ _ h => h) (by rfl) (by rfl) ?_; apply Exists.intro; apply And.intro; (intro w; go_simp; try with_reducible rfl); (simp only [Act.put, List.setIfInBounds_toArray, List.set_cons_zero, List.set_cons_succ]))
        (refine regR 10 hS (fun _ h => h) rfl (by kernel_rfl) (by kernel_rfl) (by kernel_rfl) (by kernel_rfl) (by kernel_rfl) (fun _ _ _ _ h => h) (by rfl) (by rfl) ?_; (first
                          | refine ⟨_, yLdRd (fun u h => (HR.out u h.drop).1) (gw_len xs) _ _ (by rfl) _ (by rfl) (agOf (by rfl)) i 0 (by omega) HX.out (by rfl) (by omega), ?_⟩
                          | refine ⟨_, yLdRd (fun u h => (HR.out u h.drop).1) (gw_len xs) _ _ (by rfl) _ (by rfl) (agOf (by rfl)) i 1 (by omega) HX.out (by rfl) (by omega), ?_⟩); (simp only [Act.put, List.setIfInBounds_toArray, List.set_cons_zero, List.set_cons_succ]))
        (refine regA 11 rfl (by kernel_rfl) (by rfl) (by rfl) true (by kernel_rfl) (fun K hK => ?_); (refine Go.Sep.cl 18 _ _ (by rfl) (by rfl) (by kernel_rfl) (HWR.out _ hS) ?_; rintro e w1 ⟨rfl, hS1⟩; clear hS; have hS := hS1; clear hS1; refine ⟨_, rfl, ?_⟩); refine hK _ _ _ hS (by first | (intro h; cases h; done) | exact fun _ _ h => h | exact fun _ _ h => h.drop | exact fun _ _ h => h.drop.drop | exact fun _ _ h => h.drop.pull1 | exact fun _ _ h => h.take2 | exact fun _ _ h => h.one Has.z | exact fun _ _ h => h.one (Has.s Has.z) | exact fun _ _ h => h.one (Has.s (Has.s Has.z))) ?_; clear hK K; (simp only [Act.put, List.setIfInBounds_toArray, List.set_cons_zero, List.set_cons_succ]))
        (refine regP 12 hS (fun _ h => h) rfl (by kernel_rfl) (by kernel_rfl) (by kernel_rfl) (fun _ _ _ _ h => h) (by rfl) (by rfl) ?_; apply Exists.intro; apply And.intro; (intro w; go_simp; try with_reducible rfl); (simp only [Act.put, List.setIfInBounds_toArray, List.set_cons_zero, List.set_cons_succ]))
        refine regDone (by kernel_rfl) ?_
        go_wp2
        go_step3
        refine .inl ⟨rfl, ⟨i + 1, _, _, _, _, _, _, _, _, _, _, _, _, _, _, _, _, _, _, _, _, _, _, _, _, _, HLT.out, HN.out, hS, rfl⟩, ?_⟩
        simp [intOf]
        have := HLT.out
        omega
      · have e0 : (q != 0) = true := bne_iff_ne.2 h0
        have HST := Lib.hid (runW_stop (D := D) (l := l) (i := i + 1) (by rw [HN.out]; exact h0))
        clear h0
        go_wp2
        refine regStart [11] hS (by kernel_rfl) rfl ?_
        intro w1 hS1
        clear hS; have hS := hS1; clear hS1
        (refine regP 0 hS (fun _ h => h) rfl (by kernel_rfl) (by kernel_rfl) (by kernel_rfl) (fun _ _ _ _ h => h) (by rfl) (by rfl) ?_; apply Exists.intro; apply And.intro; (intro w; go_simp; try with_reducible rfl); (simp only [Act.put, List.setIfInBounds_toArray, List.set_cons_zero, List.set_cons_succ]))
        (refine regP 1 hS (fun _ h => h) rfl (by kernel_rfl) (by kernel_rfl) (by kernel_rfl) (fun _ _ _ _ h => h) (by rfl) (by rfl) ?_; apply Exists.intro; apply And.intro; (intro w; go_simp; try with_reducible rfl); (simp only [Act.put, List.setIfInBounds_toArray, List.set_cons_zero, List.set_cons_succ]))
        (refine regP 2 hS (fun _ h => h) rfl (by kernel_rfl) (by kernel_rfl) (by kernel_rfl) (fun _ _ _ _ h => h) (by rfl) (by rfl) ?_; apply Exists.intro; apply And.intro; (intro w; go_simp; try with_reducible rfl); (simp only [Act.put, List.setIfInBounds_toArray, List.set_cons_zero, List.set_cons_succ]))
        (refine regP 3 hS (fun _ h => h) rfl (by kernel_rfl) (by kernel_rfl) (by kernel_rfl) (fun _ _ _ _ h => h) (by rfl) (by rfl) ?_; apply Exists.intro; apply And.intro; (intro w; go_simp; try with_reducible rfl); (simp only [Act.put, List.setIfInBounds_toArray, List.set_cons_zero, List.set_cons_succ]))
        (refine regP 4 hS (fun _ h => h) rfl (by kernel_rfl) (by kernel_rfl) (by kernel_rfl) (fun _ _ _ _ h => h) (by rfl) (by rfl) ?_; apply Exists.intro; apply And.intro; (intro w; go_simp; try with_reducible rfl); (simp only [Act.put, List.setIfInBounds_toArray, List.set_cons_zero, List.set_cons_succ]))
        (refine regR 5 hS (fun _ h => h) rfl (by kernel_rfl) (by kernel_rfl) (by kernel_rfl) (by kernel_rfl) (by kernel_rfl) (fun _ _ _ _ h => h) (by rfl) (by rfl) ?_; (first
                          | refine ⟨_, yLdRd (fun u h => (HR.out u h.drop).1) (gw_len xs) _ _ (by rfl) _ (by rfl) (agOf (by rfl)) i 0 (by omega) HX.out (by rfl) (by omega), ?_⟩
                          | refine ⟨_, yLdRd (fun u h => (HR.out u h.drop).1) (gw_len xs) _ _ (by rfl) _ (by rfl) (agOf (by rfl)) i 1 (by omega) HX.out (by rfl) (by omega), ?_⟩); (simp only [Act.put, List.setIfInBounds_toArray, List.set_cons_zero, List.set_cons_succ]))
        (refine regP 6 hS (fun _ h => h) rfl (by kernel_rfl) (by kernel_rfl) (by kernel_rfl) (fun _ _ _ _ h => h) (by rfl) (by rfl) ?_; apply Exists.intro; apply And.intro; (intro w; go_simp; try with_reducible rfl); (simp only [Act.put, List.setIfInBounds_toArray, List.set_cons_zero, List.set_cons_succ]))
        (refine regP 7 hS (fun _ h => h) rfl (by kernel_rfl) (by kernel_rfl) (by kernel_rfl) (fun _ _ _ _ h => h) (by rfl) (by rfl) ?_; apply Exists.intro; apply And.intro; (intro w; go_simp; try with_reducible rfl); (simp only [Act.put, List.setIfInBounds_toArray, List.set_cons_zero, List.set_cons_succ]))
        (refine regP 8 hS (fun _ h => h) rfl (by kernel_rfl) (by kernel_rfl) (by kernel_rfl) (fun _ _ _ _ h => h) (by rfl) (by rfl) ?_; apply Exists.intro; apply And.intro; (intro w; go_simp; try with_reducible rfl); (simp only [Act.put, List.setIfInBounds_toArray, List.set_cons_zero, List.set_cons_succ]))
        (refine regP 9 hS (fun _ h => h) rfl (by kernel_rfl) (by kernel_rfl) (by kernel_rfl) (fun _ _ _ _ h => h) (by rfl) (by rfl) ?_; apply Exists.intro; apply And.intro; (intro w; go_simp; try with_reducible rfl); (simp only [Act.put, List.setIfInBounds_toArray, List.set_cons_zero, List.set_cons_succ]))
        (refine regR 10 hS (fun _ h => h) rfl (by kernel_rfl) (by kernel_rfl) (by kernel_rfl) (by kernel_rfl) (by kernel_rfl) (fun _ _ _ _ h => h) (by rfl) (by rfl) ?_; (first
                          | refine ⟨_, yLdRd (fun u h => (HR.out u h.drop).1) (gw_len xs) _ _ (by rfl) _ (by rfl) (agOf (by rfl)) i 0 (by omega) HX.out (by rfl) (by omega), ?_⟩
                          | refine ⟨_, yLdRd (fun u h => (HR.out u h.drop).1) (gw_len xs) _ _ (by rfl) _ (by rfl) (agOf (by rfl)) i 1 (by omega) HX.out (by rfl) (by omega), ?_⟩); (simp only [Act.put, List.setIfInBounds_toArray, List.set_cons_zero, List.set_cons_succ]))
        (refine regA 11 rfl (by kernel_rfl) (by rfl) (by rfl) true (by kernel_rfl) (fun K hK => ?_); (refine Go.Sep.cl 18 _ _ (by rfl) (by rfl) (by kernel_rfl) (HWR.out _ hS) ?_; rintro e w1 ⟨rfl, hS1⟩; clear hS; have hS := hS1; clear hS1; refine ⟨_, rfl, ?_⟩); refine hK _ _ _ hS (by first | (intro h; cases h; done) | exact fun _ _ h => h | exact fun _ _ h => h.drop | exact fun _ _ h => h.drop.drop | exact fun _ _ h => h.drop.pull1 | exact fun _ _ h => h.take2 | exact fun _ _ h => h.one Has.z | exact fun _ _ h => h.one (Has.s Has.z) | exact fun _ _ h => h.one (Has.s (Has.s Has.z))) ?_; clear hK K; (simp only [Act.put, List.setIfInBounds_toArray, List.set_cons_zero, List.set_cons_succ]))
        (refine regP 12 hS (fun _ h => h) rfl (by kernel_rfl) (by kernel_rfl) (by kernel_rfl) (fun _ _ _ _ h => h) (by rfl) (by rfl) ?_; apply Exists.intro; apply And.intro; (intro w; go_simp; try with_reducible rfl); (simp only [Act.put, List.setIfInBounds_toArray, List.set_cons_zero, List.set_cons_succ]))
        refine regDone (by kernel_rfl) ?_
        go_wp2
        go_step3
        refine .inr ⟨rfl, ?_⟩
        go_wp2
        rw [Exit.noGoto_ret]
        go_ret
        rw [HST.out, HN.out]
        exact ⟨rfl, hS⟩
    · obtain rfl : i = xs.length := by omega
      have HN := Lib.hid (runW_next HRUN.out (by rw [← HL.out]; exact doneL_last xs))
      have HT := Lib.hid (show l.take (xs.length + 1) = l from List.take_of_length_le (by rw [HLL.out]; exact Nat.le_refl _))
      rw [HT.out] at HN
      have HWR := Lib.hid (fun (pb : Nat) w (h : Sat W w (IsDisk p D' :: Cs pb 5 (bv (zeros 128)) :: L)) => writeD_any h (HG.out.step HRUN.out) (by omega) 2 (.slice (some ⟨pb, 0, none⟩) 128 128) (zeros 128) (m := 128) (by simp [zeros]) (fun w h => h.csRd0 (n := 128) (sz := 1) Has.z (by decide) (by simp [bv_length, zeros])))
      clear hlt
      go_wp2_with (first
        | (refine toList (by rfl) ?_; refine mk hS _ _ _ (by rfl) 128 128 _ _ (by rfl) (by rfl) (elOf (by rfl)) (by omega) (by omega) (by omega) ?_; intro pb w1 hS1; clear hS; have hS := hS1; clear hS1; rw [made_u8] at hS)
        | (go_at_call 18; refine (HWR.out _ _ hS.pull1).mono ?_; rintro e w1 ⟨rfl, hS1⟩; clear hS; have hS := hS1; clear hS1))
      go_step3
      go_wp2
      rw [Exit.jump2_ret]
      go_ret
      rw [HN.out]
      exact ⟨rfl, hS.pull1.drop⟩
  · intro HP
    go_wp2
    go_step3
    rename_i K hK
    exact hK _ _ (HP _ _ ⟨0, D, _, _, _, _, _, _, _, _, _, _, _, _, _, _, _, _, _, _, _, _, _, _, _, _, Nat.zero_le _, rfl, hS, rfl⟩)
end Go.Proofs.Ytefbkpggmmhgcaa
