/-
  Package wal: Commit, Recover.
-/
import Derived.Test.YtefbkpggmmhgcaaWlHead
namespace Go.Proofs.Ytefbkpggmmhgcaa
open Go.RowKit Go.Sep
set_option linter.unusedSimpArgs false
set_option linter.unusedVariables false
attribute [local irreducible] Go.Oper.wp Go.wpList Go.Calls Go.Code.wp Go.Sep.Reg
theorem commitL_eq (g : G2) : commitL g = (logL g ++ [(2, hdr g)]) ++ doneL g := by simp [commitL]
theorem commitL_log {g : G2} {i : Nat} {x : Int × List UInt8} (h : g[i]? = some x) : (logL g ++ [(2, hdr g)])[i]? = some (((3 + i : Nat) : Int), x.2) := by
  rw [List.getElem?_append_left (by rw [logL_len]; exact (List.getElem?_eq_some_iff.1 h).1), logL_at h]
theorem commitL_hdr (g : G2) : (logL g ++ [(2, hdr g)])[g.length]? = some (2, hdr g) := by
  rw [List.getElem?_append_right (by rw [logL_len]; exact Nat.le_refl _), logL_len, Nat.sub_self]; rfl
theorem okG_range {n : Int} (hn : n ≤ 1024) {xs : List GW} (h : okG n (g2 xs) = true) : ∀ x ∈ xs, -9223372036854775808 ≤ x.at_ ∧ x.at_ ≤ 9223372036854775807 := fun x hx => by
  obtain ⟨i, hi⟩ := List.mem_iff_getElem?.1 hx
  have := okW_at (okG_at h (g2_at hi)).1
  dsimp only at this
  omega
set_option maxRecDepth 20000 in
set_option maxHeartbeats 4000000 in
theorem wcommit_any {W w : World} {L : List Asrt} {p k : Nat} {D : DiskS} (hS : Sat W w (IsDisk p D :: L)) (hG : DG D k) (hk : k ≤ 800) (xs : List GW) (ao : Option Addr) (c : Nat) (hr : ∀ w, Sat W w L → RdG w (.slice ao xs.length c) xs) (hb : xs.length ≤ 1000000) :
    Calls Try.prog 13 #[.pointer (some ⟨p, 0, none⟩), .slice ao xs.length c] w fun e w' => e = .returned (.int .i64 (commitR D (g2 xs)).1) ∧ Sat W w' (IsDisk p (commitR D (g2 xs)).2 :: L) := by
  have HR := Lib.hid hr
  obtain ⟨_, _, he, hc1, hc2, _, h5⟩ := (hr w hS.drop).1
  simp only [Value.slice.injEq, true_and] at he
  obtain ⟨rfl, rfl⟩ := he
  have H5 := Lib.hid h5
  have HG := Lib.hid hG
  have HCH := Lib.hid (fun w (h : Sat W w (IsDisk p D :: L)) => wcheck_any h xs ao c (fun w h => HR.out w h.drop) hb (D.blocks.length : Nat))
  have HBL := Lib.hid hG.ok.len
  clear hr h5 hG
  cases hok : okG D.blocks.length (g2 xs)
  · have HC := Lib.hid (show commitR D (g2 xs) = (1, D) by unfold commitR; rw [hok]; rfl)
    rw [HC.out]
    rw [hok] at HCH
    clear hok
    go_enter Try.func13, Try.ntmps13
    go_wp2_with (first
      | (go_at_call 33; refine (blocks_any hS (n := D.blocks.length) rfl).mono ?_; rintro e w1 ⟨rfl, rfl⟩)
      | (go_at_call 19; refine (HCH.out _ hS).mono ?_; rintro e w1 ⟨rfl, hS1⟩; clear hS; have hS := hS1; clear hS1))
    go_ret
    exact ⟨rfl, hS⟩
  · have HC := Lib.hid (show commitR D (g2 xs) = runW D (commitL (g2 xs)) by unfold commitR; rw [hok]; rfl)
    have HOK := Lib.hid hok
    have HLEN := Lib.hid (okG_len hok)
    have h20 : xs.length ≤ 20 := by have := HLEN.out.2; rw [g2_len] at this; exact this
    rw [HC.out]
    rw [hok] at HCH
    clear hok
    obtain ⟨l, hl⟩ : ∃ l, logL (g2 xs) ++ [(2, hdr (g2 xs))] = l := ⟨_, rfl⟩
    have HL := Lib.hid hl
    have HLL := Lib.hid (show l.length = xs.length + 1 by rw [← hl]; simp [logL_len, g2_len])
    have HE := Lib.hid (show commitL (g2 xs) = l ++ doneL (g2 xs) by rw [commitL_eq, hl])
    rw [HE.out]
    clear hl
    go_enter Try.func13, Try.ntmps13
    go_wp2_with (first
      | (go_at_call 33; refine (blocks_any hS (n := D.blocks.length) rfl).mono ?_; rintro e w1 ⟨rfl, rfl⟩)
      | (go_at_call 19; refine (HCH.out _ hS).mono ?_; rintro e w1 ⟨rfl, hS1⟩; clear hS; have hS := hS1; clear hS1))
    have H0 := Lib.hid hS
    go_loopw [16] (fun v wz => ∃ (i : Nat) (D' : DiskS), v = .int .i64 i ∧ i ≤ xs.length ∧ runW D (l.take i) = (0, D') ∧ Sat W wz (IsDisk p D' :: L)) (fun v _ => xs.length - (intOf v).toNat)
    case atStart => exact ⟨0, D, rfl, by omega, rfl, H0.out⟩
    case round =>
      clear hS H0
      obtain ⟨i, D', rfl, hi, hrun, hS⟩ := hrel
      have HRUN := Lib.hid hrun
      clear hrun
      by_cases hlt : i < xs.length
      · obtain ⟨b, off, rfl, _⟩ := H5.out (by omega)
        obtain ⟨⟨xa, xv, xd⟩, hx⟩ : ∃ x, xs[i]? = some x := ⟨_, List.getElem?_eq_getElem hlt⟩
        obtain ⟨ad, cd, rfl⟩ : ∃ ad cd, xv = .slice ad xd.length cd := (HR.out _ hS.drop).slice hx
        have HX := Lib.hid hx
        have HLT := Lib.hid hlt
        have i1 : (i : Int) < (xs.length : Int) := by omega
        have i2 : (i : Int) < 20 := by omega
        have HN := Lib.hid (runW_next HRUN.out (by rw [← HL.out]; exact commitL_log (g2_at hx)))
        have HWR := Lib.hid (fun (A : Asrt) w (h : Sat W w (IsDisk p D' :: A :: L)) => (show Calls Try.prog 18 #[.pointer (some ⟨p, 0, none⟩), .int .i64 (3 + (i : Int)), .slice ad xd.length cd] w fun e w' => e = .returned (.int .i64 (wcode D' ((3 + i : Nat) : Int) xd.length)) ∧ Sat W w' (IsDisk p (wnext D' ((3 + i : Nat) : Int) xd) :: A :: L) by
          have := writeD_any h (HG.out.step HRUN.out) (by omega) ((3 + i : Nat) : Int) (.slice ad xd.length cd) xd rfl (fun w h => (HR.out w h.drop).2 _ (List.mem_of_getElem? hx))
          rw [show (((3 + i : Nat) : Int)) = 3 + (i : Int) by omega] at this ⊢
          exact this))
        dsimp only at HN
        obtain ⟨q, hq⟩ : ∃ q, wcode D' ((3 + i : Nat) : Int) xd.length = q := ⟨_, rfl⟩
        rw [hq] at HN HWR
        clear hx hlt hq
        by_cases h0 : q = 0
        · subst h0
          go_wp2_with (first
            | (refine toList (by rfl) ?_; refine wp_of_reads (rLdRdA (HR.out _ hS.drop).1 (gw_len xs) _ _ (by rfl) _ (by rfl) (agOf (by rfl)) (szOf (by rfl)) i (by omega) HX.out (by omega)) ?_)
            | (refine toList (by rfl) ?_; refine al hS _ (by rfl) (zrOf (by rfl)) ?_; intro px w1 hS1; clear hS; have hS := hS1; clear hS1; rw [cells_agg] at hS)
            | (refine toList (by rfl) ?_; refine stW hS _ _ _ (by rfl) (by rfl) (gw ⟨xa, .slice ad xd.length cd, xd⟩) (by rfl) (gw_one _ _) (szOf (by rfl)) Has.z (by rfl) ?_; intro w1 hS1; clear hS; have hS := hS1; clear hS1; dsimp only [List.set_cons_zero] at hS)
            | (refine toList (by rfl) ?_; refine ld hS _ _ (by rfl) _ _ (by rfl) (agOf (by rfl)) Has.z (by rfl) ?_)
            | (go_at_call 18; refine (HWR.out _ _ hS.pull1).mono ?_; rintro e w1 ⟨rfl, hS1⟩; clear hS; have hS := hS1; clear hS1))
          exact ⟨⟨i + 1, _, by go_num, HLT.out, HN.out, hS.pull1.drop⟩, by simp [intOf]; have := HLT.out; omega⟩
        · have e0 : (q != 0) = true := bne_iff_ne.2 h0
          have HST := Lib.hid (show runW D (l ++ doneL (g2 xs)) = (q, wnext D' ((3 + i : Nat) : Int) xd) by
            have h1 := runW_stop (D := D) (l := l) (i := i + 1) (by rw [HN.out]; exact h0)
            rw [runW_append, h1, HN.out, if_neg h0])
          clear h0
          go_wp2_with (first
            | (refine toList (by rfl) ?_; refine wp_of_reads (rLdRdA (HR.out _ hS.drop).1 (gw_len xs) _ _ (by rfl) _ (by rfl) (agOf (by rfl)) (szOf (by rfl)) i (by omega) HX.out (by omega)) ?_)
            | (refine toList (by rfl) ?_; refine al hS _ (by rfl) (zrOf (by rfl)) ?_; intro px w1 hS1; clear hS; have hS := hS1; clear hS1; rw [cells_agg] at hS)
            | (refine toList (by rfl) ?_; refine stW hS _ _ _ (by rfl) (by rfl) (gw ⟨xa, .slice ad xd.length cd, xd⟩) (by rfl) (gw_one _ _) (szOf (by rfl)) Has.z (by rfl) ?_; intro w1 hS1; clear hS; have hS := hS1; clear hS1; dsimp only [List.set_cons_zero] at hS)
            | (refine toList (by rfl) ?_; refine ld hS _ _ (by rfl) _ _ (by rfl) (agOf (by rfl)) Has.z (by rfl) ?_)
            | (go_at_call 18; refine (HWR.out _ _ hS.pull1).mono ?_; rintro e w1 ⟨rfl, hS1⟩; clear hS; have hS := hS1; clear hS1))
          go_ret
          rw [HST.out]
          exact ⟨rfl, hS.pull1.drop⟩
      · obtain rfl : i = xs.length := by omega
        have HN := Lib.hid (runW_next HRUN.out (by rw [← HL.out]; have := commitL_hdr (g2 xs); rw [g2_len] at this; exact this))
        have HT := Lib.hid (show l.take (xs.length + 1) = l from List.take_of_length_le (by rw [HLL.out]; exact Nat.le_refl _))
        rw [HT.out] at HN
        have hl128 : (hdr (g2 xs)).length = 128 := hdr_len HLEN.out.2
        have HHD := Lib.hid (fun w (h : Sat W w (IsDisk p D' :: L)) => wheader_any h xs ao c (fun w h => HR.out w h.drop) h20 (okG_range (by have := HBL.out; omega) HOK.out))
        have HWR := Lib.hid (fun (v : Value) w (h : Sat W w (IsDisk p D' :: Sl 5 1 v 128 (bv (hdr (g2 xs))) :: L)) => writeD_any h (HG.out.step HRUN.out) (by omega) 2 v (hdr (g2 xs)) (m := 128) hl128 (fun w h => h.slRd Has.z))
        obtain ⟨q, hq⟩ : ∃ q, wcode D' 2 (hdr (g2 xs)).length = q := ⟨_, rfl⟩
        dsimp only at HN
        rw [hq] at HN HWR
        obtain ⟨D2, hD2⟩ : ∃ D2, wnext D' 2 (hdr (g2 xs)) = D2 := ⟨_, rfl⟩
        rw [hD2] at HN HWR
        have HG2 := Lib.hid (show DG D2 (k + xs.length + 1) by rw [← hD2]; exact (HG.out.step HRUN.out).next _ _)
        clear hlt hq hl128 hD2
        by_cases h0 : q = 0
        · subst h0
          have HDN := Lib.hid (fun (A : Asrt) w (h : Sat W w (IsDisk p D2 :: A :: L)) => done_any h HG2.out (by omega) xs ao c (fun w h => HR.out w h.drop) h20)
          have HST := Lib.hid (show runW D (l ++ doneL (g2 xs)) = runW D2 (doneL (g2 xs)) by rw [runW_append, HN.out, if_pos rfl])
          go_wp2_with (first
            | (go_at_call 17; refine (HHD.out _ hS).mono ?_; rintro e w1 ⟨vh, rfl, hS1⟩; clear hS; have hS := hS1; clear hS1)
            | (go_at_call 18; refine (HWR.out _ _ hS.pull1).mono ?_; rintro e w1 ⟨rfl, hS1⟩; clear hS; have hS := hS1; clear hS1)
            | (go_at_call 34; refine (HDN.out _ _ hS).mono ?_; rintro e w1 ⟨rfl, hS1⟩; clear hS; have hS := hS1; clear hS1))
          go_ret
          rw [HST.out]
          exact ⟨rfl, hS.pull1.drop⟩
        · have e0 : (q != 0) = true := bne_iff_ne.2 h0
          have HST := Lib.hid (show runW D (l ++ doneL (g2 xs)) = (q, D2) by rw [runW_append, HN.out, if_neg h0])
          clear h0
          go_wp2_with (first
            | (go_at_call 17; refine (HHD.out _ hS).mono ?_; rintro e w1 ⟨vh, rfl, hS1⟩; clear hS; have hS := hS1; clear hS1)
            | (go_at_call 18; refine (HWR.out _ _ hS.pull1).mono ?_; rintro e w1 ⟨rfl, hS1⟩; clear hS; have hS := hS1; clear hS1))
          go_ret
          rw [HST.out]
          exact ⟨rfl, hS.pull1.drop⟩
/-! ### Recover -/
def grow (x : GW) : Asrt := Sl 5 1 x.val x.data.length (bv x.data)
theorem grows_rd {W w : World} {L : List Asrt} {xs : List GW} {v : Value} (h : Sat W w (Tb 40 2 gw v xs :: St (xs.map grow) :: L)) : RdG w v xs := by
  refine ⟨h.tbRd Has.z, fun x hx => ?_⟩
  obtain ⟨i, hi⟩ := List.mem_iff_getElem?.1 hx
  obtain ⟨L', h2⟩ := h.stAt (k := 1) (j := i) (A := grow x) rfl (by unfold Has; rw [List.getElem?_map, hi]; rfl)
  exact Sat.slRd (E := 5) (k := 0) h2 Has.z
theorem atB_at {D : DiskS} {n : Nat} (h : n < D.blocks.length) : D.blocks[n]? = some (atB D n) := by unfold atB; rw [List.getElem?_eq_getElem h]; rfl
theorem logN_le (D : DiskS) : logN D < 256 := by have := getN_lt (atB D 2) 0 1; simpa [logN] using this
theorem sl_of_cs {W w : World} {L : List Asrt} {q E : Nat} {b : List UInt8} (h : Sat W w (Cs q E (bv b) :: L)) (hb : b.length = 128) : Sat W w (Sl 5 1 (.slice (some ⟨q, 0, none⟩) 128 128) b.length (bv b) :: L) := by
  have := Sat.slMk (E := E) (n := 128) (sz := 1) (cap := 128) (off := 0) (pre := []) (vs := bv b) (rest := []) (by simpa using h) (Nat.le_refl _) (by decide) (by simp [bv_length, hb]) rfl (by simp [bv_length, hb])
  rw [hb]
  exact this.slE
end Go.Proofs.Ytefbkpggmmhgcaa
