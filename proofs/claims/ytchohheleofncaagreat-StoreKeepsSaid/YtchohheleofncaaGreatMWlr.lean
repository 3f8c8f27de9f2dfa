/-
 Package wal: Commit, Recover.
 Package wal: Recover.
-/
import Derived.Test.YtchohheleofncaaGreatMWlq
set_option linter.unusedSimpArgs false
set_option linter.unusedVariables false
namespace Go.Proofs.YtchohheleofncaaGreat
open Go.RowKit Go.Sep
attribute [local irreducible] Go.Oper.wp Go.wpList Go.Calls Go.Code.wp Go.Sep.Reg
theorem commitL_eq (g : G2) : commitL g = (logL g ++ [(2, hdr g)]) ++ doneL g := by simp [commitL]
theorem commitL_log {g : G2} {i : Nat} {x : Int × List UInt8} (h : g[i]? = some x) : (logL g ++ [(2, hdr g)])[i]? = some (((3 + i : Nat) : Int), x.2) := by
 rw [List.getElem?_append_left (by rw [logL_len]; exact (List.getElem?_eq_some_iff.1 h).1), logL_at h]
theorem commitL_hdr (g : G2) : (logL g ++ [(2, hdr g)])[g.length]? = some (2, hdr g) := by
 rw [List.getElem?_append_right (by rw [logL_len]; exact Nat.le_refl _), logL_len, Nat.sub_self]; rfl
theorem okG_range {n : Int} (hn : n ≤ 1024) {xs : List GW} (h : okG n (g2 xs) = true) : ∀ x ∈ xs, -9223372036854775808 ≤ x.at_ ∧ x.at_ ≤ 9223372036854775807 := fun x hx => by
 obtain ⟨i, hi⟩ := List.mem_iff_getElem?.1 hx
 have := okW_at (okG_at h (g2_at hi)).1
 dsimp only at this
 omega
set_option maxRecDepth 20000 in
set_option maxHeartbeats 4000000 in
theorem wcommit_any {W w : World} {L : List Asrt} {p k : Nat} {D : DiskS} (hS : Sat W w (IsDisk p D :: L)) (hG : DG D k) (hk : k ≤ 90000) (xs : List GW) (ao : Option Addr) (c : Nat) (hr : ∀ w, Sat W w L → RdG w (.slice ao xs.length c) xs) (hb : xs.length ≤ 1000000) :
  Calls Tryz.prog 87 #[.pointer (some ⟨p, 0, none⟩), .slice ao xs.length c] w fun e w' => e = .returned (.int .i64 (commitR D (g2 xs)).1) ∧ Sat W w' (IsDisk p (commitR D (g2 xs)).2 :: L) := by
 have HR := Lib.hid hr
 obtain ⟨_, _, he, hc1, hc2, _, h5⟩ := (hr w hS.drop).1
 simp only [Value.slice.injEq, true_and] at he
 obtain ⟨rfl, rfl⟩ := he
 have H5 := Lib.hid h5
 have HG := Lib.hid hG
 have HCH := Lib.hid (fun w (h : Sat W w (IsDisk p D :: L)) => wcheck_any h xs ao c (fun w h => HR.out w h.drop) hb (D.blocks.length : Nat))
 have HBL := Lib.hid hG.ok.len
 clear hr h5 hG
 cases hok : okG D.blocks.length (g2 xs)
 ·have HC := Lib.hid (show commitR D (g2 xs) = (1, D) by unfold commitR; rw [hok]; rfl)
  rw [HC.out]
  rw [hok] at HCH
  clear hok
  go_enter Tryz.func87, Tryz.ntmps87
  go_wp2_with (first
   | (go_at_call 46; refine (blocks_any hS (n := D.blocks.length) rfl).mono ?_; rintro e w1 ⟨rfl, rfl⟩)
   | (go_at_call 90; refine (HCH.out _ hS).mono ?_; clear hS; rintro e w1 ⟨rfl, hS⟩))
  go_ret
  exact ⟨rfl, hS⟩
 ·have HC := Lib.hid (show commitR D (g2 xs) = runW D (commitL (g2 xs)) by unfold commitR; rw [hok]; rfl)
  have HOK := Lib.hid hok
  have HLEN := Lib.hid (okG_len hok)
  have h20 : xs.length ≤ 20 := by have := HLEN.out.2; rw [g2_len] at this; exact this
  rw [HC.out]
  rw [hok] at HCH
  clear hok
  obtain ⟨l, hl⟩ : ∃ l, logL (g2 xs) ++ [(2, hdr (g2 xs))] = l := ⟨_, rfl⟩
  have HL := Lib.hid hl
  have HLL := Lib.hid (show l.length = xs.length + 1 by rw [← hl]; simp [logL_len, g2_len])
  have HE := Lib.hid (show commitL (g2 xs) = l ++ doneL (g2 xs) by rw [commitL_eq, hl])
  rw [HE.out]
  clear hl
  go_enter Tryz.func87, Tryz.ntmps87
  go_wp2_with (first
   | (go_at_call 46; refine (blocks_any hS (n := D.blocks.length) rfl).mono ?_; rintro e w1 ⟨rfl, rfl⟩)
   | (go_at_call 90; refine (HCH.out _ hS).mono ?_; clear hS; rintro e w1 ⟨rfl, hS⟩))
  have H0 := Lib.hid hS
  go_loopw [16] (fun v wz => ∃ (i : Nat) (D' : DiskS), v = .int .i64 i ∧ i ≤ xs.length ∧ runW D (l.take i) = (0, D') ∧ Sat W wz (IsDisk p D' :: L)) (fun v _ => xs.length - (wintOf v).toNat)
  case atStart => exact ⟨0, D, rfl, by omega, rfl, H0.out⟩
  case round =>
   clear hS H0
   obtain ⟨i, D', rfl, hi, hrun, hS⟩ := hrel
   have HRUN := Lib.hid hrun
   clear hrun
   by_cases hlt : i < xs.length
   ·obtain ⟨b, off, rfl, _⟩ := H5.out (by omega)
    obtain ⟨⟨xa, xv, xd⟩, hx⟩ : ∃ x, xs[i]? = some x := ⟨_, List.getElem?_eq_getElem hlt⟩
    obtain ⟨ad, cd, rfl⟩ : ∃ ad cd, xv = .slice ad xd.length cd := (HR.out _ hS.drop).slice hx
    have HX := Lib.hid hx
    have HLT := Lib.hid hlt
    have i1 : (i : Int) < (xs.length : Int) := by omega
    have i2 : (i : Int) < 20 := by omega
    have HN := Lib.hid (runW_next HRUN.out (by rw [← HL.out]; exact commitL_log (g2_at hx)))
    have HWR := Lib.hid (fun (A : Asrt) w (h : Sat W w (IsDisk p D' :: A :: L)) => (show Calls Tryz.prog 37 #[.pointer (some ⟨p, 0, none⟩), .int .i64 (3 + (i : Int)), .slice ad xd.length cd] w fun e w' => e = .returned (.int .i64 (wcode D' ((3 + i : Nat) : Int) xd.length)) ∧ Sat W w' (IsDisk p (wnext D' ((3 + i : Nat) : Int) xd) :: A :: L) by
     have := writeD_any h (HG.out.step HRUN.out) (by omega) ((3 + i : Nat) : Int) (.slice ad xd.length cd) xd rfl (fun w h => (HR.out w h.drop).2 _ (List.mem_of_getElem? hx))
     rw [show (((3 + i : Nat) : Int)) = 3 + (i : Int) by omega] at this ⊢
     exact this))
    dsimp only at HN
    obtain ⟨q, hq⟩ : ∃ q, wcode D' ((3 + i : Nat) : Int) xd.length = q := ⟨_, rfl⟩
    rw [hq] at HN HWR
    clear hx hlt hq
    by_cases h0 : q = 0
    ·subst h0
     go_wp2_with (first
      | (refine toList (by rfl) ?_; refine wp_of_reads (rLdRdA (HR.out _ hS.drop).1 (gw_len xs) _ _ (by rfl) _ (by rfl) (agOf (by rfl)) (szOf (by rfl)) i (by omega) HX.out (by omega)) ?_)
      | (refine toList (by rfl) ?_; refine al hS _ (by rfl) (zrOf (by rfl)) ?_; clear hS; intro px w1 hS; rw [cells_agg] at hS)
      | (refine toList (by rfl) ?_; refine stW hS _ _ _ (by rfl) (by rfl) (gw ⟨xa, .slice ad xd.length cd, xd⟩) (by rfl) (gw_one _ _) (szOf (by rfl)) Has.z (by rfl) ?_; clear hS; intro w1 hS; dsimp only [List.set_cons_zero] at hS)
      | (refine toList (by rfl) ?_; refine ld hS _ _ (by rfl) _ _ (by rfl) (agOf (by rfl)) Has.z (by rfl) ?_)
      | (go_at_call 37; refine (HWR.out _ _ hS.pull1).mono ?_; clear hS; rintro e w1 ⟨rfl, hS⟩))
     exact ⟨⟨i + 1, _, by go_num, HLT.out, HN.out, hS.pull1.drop⟩, by simp [wintOf]; have := HLT.out; omega⟩
    ·have e0 : (q != 0) = true := bne_iff_ne.2 h0
     have HST := Lib.hid (show runW D (l ++ doneL (g2 xs)) = (q, wnext D' ((3 + i : Nat) : Int) xd) by
      have h1 := runW_stop (D := D) (l := l) (i := i + 1) (by rw [HN.out]; exact h0)
      rw [runW_append, h1, HN.out, if_neg h0])
     clear h0
     go_wp2_with (first
      | (refine toList (by rfl) ?_; refine wp_of_reads (rLdRdA (HR.out _ hS.drop).1 (gw_len xs) _ _ (by rfl) _ (by rfl) (agOf (by rfl)) (szOf (by rfl)) i (by omega) HX.out (by omega)) ?_)
      | (refine toList (by rfl) ?_; refine al hS _ (by rfl) (zrOf (by rfl)) ?_; clear hS; intro px w1 hS; rw [cells_agg] at hS)
      | (refine toList (by rfl) ?_; refine stW hS _ _ _ (by rfl) (by rfl) (gw ⟨xa, .slice ad xd.length cd, xd⟩) (by rfl) (gw_one _ _) (szOf (by rfl)) Has.z (by rfl) ?_; clear hS; intro w1 hS; dsimp only [List.set_cons_zero] at hS)
      | (refine toList (by rfl) ?_; refine ld hS _ _ (by rfl) _ _ (by rfl) (agOf (by rfl)) Has.z (by rfl) ?_)
      | (go_at_call 37; refine (HWR.out _ _ hS.pull1).mono ?_; clear hS; rintro e w1 ⟨rfl, hS⟩))
     go_ret
     rw [HST.out]
     exact ⟨rfl, hS.pull1.drop⟩
   ·obtain rfl : i = xs.length := by omega
    have HN := Lib.hid (runW_next HRUN.out (by rw [← HL.out]; have := commitL_hdr (g2 xs); rw [g2_len] at this; exact this))
    have HT := Lib.hid (show l.take (xs.length + 1) = l from List.take_of_length_le (by rw [HLL.out]; exact Nat.le_refl _))
    rw [HT.out] at HN
    have hl128 : (hdr (g2 xs)).length = 128 := hdr_len HLEN.out.2
    have HHD := Lib.hid (fun w (h : Sat W w (IsDisk p D' :: L)) => wheader_any h xs ao c (fun w h => HR.out w h.drop) h20 (okG_range (by have := HBL.out; omega) HOK.out))
    have HWR := Lib.hid (fun (v : Value) w (h : Sat W w (IsDisk p D' :: Sl 5 1 v 128 (bv (hdr (g2 xs))) :: L)) => writeD_any h (HG.out.step HRUN.out) (by omega) 2 v (hdr (g2 xs)) (m := 128) hl128 (fun w h => h.slRd Has.z))
    obtain ⟨q, hq⟩ : ∃ q, wcode D' 2 (hdr (g2 xs)).length = q := ⟨_, rfl⟩
    dsimp only at HN
    rw [hq] at HN HWR
    obtain ⟨D2, hD2⟩ : ∃ D2, wnext D' 2 (hdr (g2 xs)) = D2 := ⟨_, rfl⟩
    rw [hD2] at HN HWR
    have HG2 := Lib.hid (show DG D2 (k + xs.length + 1) by rw [← hD2]; exact (HG.out.step HRUN.out).next _ _)
    clear hlt hq hl128 hD2
    by_cases h0 : q = 0
    ·subst h0
     have HDN := Lib.hid (fun (A : Asrt) w (h : Sat W w (IsDisk p D2 :: A :: L)) => done_any h HG2.out (by omega) xs ao c (fun w h => HR.out w h.drop) h20)
     have HST := Lib.hid (show runW D (l ++ doneL (g2 xs)) = runW D2 (doneL (g2 xs)) by rw [runW_append, HN.out, if_pos rfl])
     go_wp2_with (first
      | (go_at_call 92; refine (HHD.out _ hS).mono ?_; clear hS; rintro e w1 ⟨vh, rfl, hS⟩)
      | (go_at_call 37; refine (HWR.out _ _ hS.pull1).mono ?_; clear hS; rintro e w1 ⟨rfl, hS⟩)
      | (go_at_call 93; refine (HDN.out _ _ hS).mono ?_; clear hS; rintro e w1 ⟨rfl, hS⟩))
     go_ret
     rw [HST.out]
     exact ⟨rfl, hS.pull1.drop⟩
    ·have e0 : (q != 0) = true := bne_iff_ne.2 h0
     have HST := Lib.hid (show runW D (l ++ doneL (g2 xs)) = (q, D2) by rw [runW_append, HN.out, if_neg h0])
     clear h0
     go_wp2_with (first
      | (go_at_call 92; refine (HHD.out _ hS).mono ?_; clear hS; rintro e w1 ⟨vh, rfl, hS⟩)
      | (go_at_call 37; refine (HWR.out _ _ hS.pull1).mono ?_; clear hS; rintro e w1 ⟨rfl, hS⟩))
     go_ret
     rw [HST.out]
     exact ⟨rfl, hS.pull1.drop⟩
/-! ### Recover -/
def grow (x : GW) : Asrt := Sl 5 1 x.val x.data.length (bv x.data)
theorem grows_rd {W w : World} {L : List Asrt} {xs : List GW} {v : Value} (h : Sat W w (Tb 95 2 gw v xs :: St (xs.map grow) :: L)) : RdG w v xs := by
 refine ⟨h.tbRd Has.z, fun x hx => ?_⟩
 obtain ⟨i, hi⟩ := List.mem_iff_getElem?.1 hx
 obtain ⟨L', h2⟩ := h.stAt (k := 1) (j := i) (A := grow x) rfl (by unfold Has; rw [List.getElem?_map, hi]; rfl)
 exact Sat.slRd (E := 5) (k := 0) h2 Has.z
theorem atB_at {D : DiskS} {n : Nat} (h : n < D.blocks.length) : D.blocks[n]? = some (atB D n) := by unfold atB; rw [List.getElem?_eq_getElem h]; rfl
theorem logN_le (D : DiskS) : logN D < 256 := by have := getN_lt (atB D 2) 0 1; simpa [logN] using this
theorem sl_of_cs {W w : World} {L : List Asrt} {q E : Nat} {b : List UInt8} (h : Sat W w (Cs q E (bv b) :: L)) (hb : b.length = 128) : Sat W w (Sl 5 1 (.slice (some ⟨q, 0, none⟩) 128 128) b.length (bv b) :: L) := by
 have := Sat.slMk (E := E) (n := 128) (sz := 1) (cap := 128) (off := 0) (pre := []) (vs := bv b) (rest := []) (by simpa using h) (Nat.le_refl _) (by decide) (by simp [bv_length, hb]) rfl (by simp [bv_length, hb])
 rw [hb]
 exact this.slE

end Go.Proofs.YtchohheleofncaaGreat
namespace Go.Proofs.YtchohheleofncaaGreat
open Go.RowKit Go.Sep
attribute [local irreducible] Go.Oper.wp Go.wpList Go.Calls Go.Code.wp Go.Sep.Reg
theorem logG_at {D : DiskS} {n i : Nat} (h : i < n) : (logG D n)[i]? = some (((getN (atB D 2) (1 + 2 * i) 2 : Nat) : Int), atB D (3 + i)) := by simp [logG, h]
theorem logG_range (D : DiskS) {n : Nat} {xs : List GW} (h : g2 xs = logG D n) : ∀ x ∈ xs, -9223372036854775808 ≤ x.at_ ∧ x.at_ ≤ 9223372036854775807 := fun x hx => by
 obtain ⟨i, hi⟩ := List.mem_iff_getElem?.1 hx
 have h1 := g2_at hi
 rw [h] at h1
 have hl := (List.getElem?_eq_some_iff.1 h1).1
 rw [logG_len] at hl
 rw [logG_at hl] at h1
 simp only [Option.some.injEq, Prod.mk.injEq] at h1
 have := getN_lt (atB D 2) (1 + 2 * i) 2
 have e := h1.1
 omega
theorem getM_any {W w : World} {L : List Asrt} (hS : Sat W w L) (ao : Option Addr) (c : Nat) (l : List UInt8) {m : Nat} (hm : l.length = m) (hr : ∀ w, Sat W w L → Rd w (.slice ao m c) m 1 (bv l)) (a : Int) (t n : Nat) (ha : a = (t : Nat)) (hn : 1 ≤ n) (hn2 : n ≤ 7) (hl : m ≤ 140737488355328) {r : Nat} (hr2 : getN l t n = r) :
  Calls Tryz.prog 89 #[.slice ao m c, .int .i64 a, .int .i64 n] w fun e w' => ∃ ok, e = .returned (.tuple #[.int .i64 (r : Nat), .bool ok]) ∧ w = w' := by
 subst hm hr2
 exact getN_any hS ao c l hr a t n ha hn hn2 hl
theorem logX_succ {D : DiskS} {k : Nat} {xs : List GW} {v : Value} (h : g2 xs = logG D k) : g2 (xs ++ [⟨((getN (atB D 2) (1 + 2 * k) 2 : Nat) : Int), v, atB D (3 + k)⟩]) = logG D (k + 1) := by
 rw [logG_succ, ← h]; simp [g2]
theorem gw_ones (l : List GW) (h : ∀ x ∈ l, ∃ ao n c, x.val = .slice ao n c) : ∀ u ∈ l.flatMap gw, u.oneCell' = true := fun u hu => by
 obtain ⟨x, hx, hu⟩ := List.mem_flatMap.1 hu
 obtain ⟨ao, n, c, e⟩ := h x hx
 simp only [gw, e, List.mem_cons, List.not_mem_nil, or_false] at hu
 rcases hu with rfl | rfl <;> rfl
theorem recOk_many {D : DiskS} {n : Nat} (h : logN D = n) (hn : 20 < n) : wrecOk D = false := by
 unfold wrecOk
 rw [h, decide_eq_false (by omega : ¬ n ≤ 20)]; rfl
theorem recOk_few {D : DiskS} {n : Nat} {xs : List GW} (h : logN D = n) (hn : n ≤ 20) (hx : g2 xs = logG D n) : wrecOk D = (okG D.blocks.length (g2 xs) && decide (hdr (g2 xs) = atB D 2)) := by
 unfold wrecOk
 rw [h, decide_eq_true hn, ← hx]; rfl
theorem recR_no {D : DiskS} (h : wrecOk D = false) : recR D = (0, D) ∧ recB D = false := by unfold recB recR; rw [h]; exact ⟨rfl, rfl⟩
theorem recR_yes {D : DiskS} {n : Nat} {xs : List GW} (h : wrecOk D = true) (hl : logN D = n) (hx : g2 xs = logG D n) : recR D = runW D (doneL (g2 xs)) ∧ recB D = decide ((runW D (doneL (g2 xs))).1 = 0) := by
 have e : recR D = runW D (doneL (g2 xs)) := by unfold recR; rw [h, if_pos rfl, hl, ← hx]
 exact ⟨e, by unfold recB; rw [h, e]; rfl⟩
set_option maxRecDepth 20000 in
set_option maxHeartbeats 4000000 in
theorem wrecover_any {W w : World} {L : List Asrt} {p k0 : Nat} {D : DiskS} (hS : Sat W w (IsDisk p D :: L)) (hG : DG D k0) (hk : k0 ≤ 90000) (hn : 26 ≤ D.blocks.length) :
  Calls Tryz.prog 44 #[.pointer (some ⟨p, 0, none⟩)] w fun e w' => e = .returned (.tuple #[.bool (recB D), .int .i64 (recR D).1]) ∧ Sat W w' (IsDisk p (recR D).2 :: L) := by
 have HG := Lib.hid hG
 have HN := Lib.hid hn
 have HBL := Lib.hid hG.ok.len
 clear hG
 have HB2 := Lib.hid (atB_at (D := D) (n := 2) (by omega))
 clear hn
 obtain ⟨b, hb⟩ : ∃ b, atB D 2 = b := ⟨_, rfl⟩
 rw [hb] at HB2
 have HBB := Lib.hid hb
 have HLN := Lib.hid (show getN b 0 1 = logN D by rw [← hb]; rfl)
 have hlt := logN_le D
 obtain ⟨n, hn⟩ : ∃ n, logN D = n := ⟨_, rfl⟩
 rw [hn] at HLN hlt
 have HLG := Lib.hid hn
 clear hb hn
 obtain ⟨m, hm⟩ : ∃ m, min n 20 = m := ⟨_, rfl⟩
 have hcase : ((n : Int) ≤ 20 ∧ (m : Int) = n) ∨ ((20 : Int) < (n : Int) ∧ (m : Int) = 20) := by omega
 have hm20 : m ≤ 20 := by omega
 have HM := Lib.hid hm
 have n255 : (n : Int) < 256 := by omega
 clear hm hlt
 rcases hcase with ⟨c1, c2⟩ | ⟨c1, c2⟩
 all_goals
  go_enter Tryz.func44, Tryz.ntmps44
  go_wp2_with (first
   | (go_at_call 42; refine (read_ok hS 2 b HB2.out HBL.out).mono ?_; clear hS; rintro e w1 ⟨q, rfl, hb128, hS⟩; have HB128 := Lib.hid hb128; clear hb128)
   | (go_at_call 89; refine (getM_any hS (some ⟨q, 0, none⟩) 128 b HB128.out (fun w h => h.csRd0 (n := 128) Has.z (by decide) (by rw [bv_length, HB128.out])) 0 0 1 (by rfl) (by omega) (by omega) (by omega) HLN.out).mono ?_; rintro e w1 ⟨ok1, rfl, rfl⟩))
  have H0 : Hid (Sat W _ (Tb 95 2 gw (.slice none 0 0) ([]) :: St (([]).map grow) :: Cs q 143 (bv b) :: IsDisk p D :: L)) := Lib.hid ((Sat.mkSt (M := []) hS).tbNil)
  go_loopw [8, 27] (fun v8 v27 wz => ∃ (i : Nat) (xs : List GW), v27 = .int .i64 i ∧ i ≤ m ∧ g2 xs = logG D i ∧ Sat W wz (Tb 95 2 gw (v8) (xs) :: St ((xs).map grow) :: Cs q 143 (bv b) :: IsDisk p D :: L)) (fun _ v27 _ => m - (wintOf v27).toNat)
  case atStart => exact ⟨0, [], rfl, by omega, rfl, H0.out⟩
  case round =>
   clear hS H0
   obtain ⟨i, xs, rfl, hi, hx, hS⟩ := hrel
   have HX := Lib.hid hx
   have hxl : xs.length = i := by have := congrArg List.length hx; rwa [g2_len, logG_len] at this
   clear hx
   by_cases hl : i < m
   ·have i1 : (i : Int) < (m : Int) := by omega
    have i2 : (i : Int) < 20 := by omega
    have HL := Lib.hid hl
    have HXL := Lib.hid hxl
    have HD := Lib.hid (atB_at (D := D) (n := 3 + i) (by have := HN.out; omega))
    obtain ⟨a, ha⟩ : ∃ a, getN b (1 + 2 * i) 2 = a := ⟨_, rfl⟩
    obtain ⟨d, hd⟩ : ∃ d, atB D (3 + i) = d := ⟨_, rfl⟩
    have HSU := Lib.hid (fun v => (show g2 (xs ++ [⟨(a : Int), v, d⟩]) = logG D (i + 1) by rw [← ha, ← hd, ← HBB.out]; exact logX_succ HX.out))
    rw [hd] at HD
    have HAT := Lib.hid ha
    have HRD := Lib.hid (fun w (M : List Asrt) (h : Sat W w (IsDisk p D :: M)) => (show Calls Tryz.prog 42 #[.pointer (some ⟨p, 0, none⟩), .int .i64 (3 + (i : Int))] w fun e w' => ∃ q, e = .returned (.tuple #[.slice (some ⟨q, 0, none⟩) 128 128, .int .i64 0]) ∧ d.length = 128 ∧ Sat W w' (Cs q 143 (bv d) :: IsDisk p D :: M) by
     have := read_ok h (3 + i) d HD.out HBL.out
     rw [show (((3 + i : Nat) : Int)) = 3 + (i : Int) by omega] at this
     exact this))
    clear hl ha hd hxl
    go_wp2_with (first
     | (go_at_call 89; refine (getM_any hS (some ⟨q, 0, none⟩) 128 b HB128.out (fun w h => h.csRd0 (n := 128) (Has.s (Has.s Has.z)) (by decide) (by rw [bv_length, HB128.out])) _ (1 + 2 * i) 2 (by omega) (by omega) (by omega) (by omega) HAT.out).mono ?_; rintro e w1 ⟨ok1, rfl, rfl⟩)
     | (go_at_call 42; refine (HRD.out _ _ (hS.re [3])).mono ?_; clear hS; rintro e w1 ⟨r, rfl, hd128, hS⟩; have HD128 := Lib.hid hd128; clear hd128; replace hS := (sl_of_cs hS HD128.out).re [2, 3, 4, 1, 0])
     | (refine toList (by rfl) ?_; refine bsF hS _ _ _ (by rfl) (elOf (by rfl)) [.agg (gw (⟨(a : Int), .slice (some ⟨r, 0, none⟩) 128 128, d⟩ : GW)).toArray] (by rfl) (by rfl) (by decide) (by decide) (by intro v hv; rw [List.mem_singleton.1 hv]; rfl) ?_; clear hS; intro b1 w1 hS; rw [agg1] at hS)
     | (refine toList (by rfl) ?_; refine apTbS (f := gw) hS _ _ _ _ (by rfl) _ _ (by rfl) (by rfl) (elOf (by rfl)) (by rfl) (by decide) (inOf (by rfl)) (by repeat first | exact Has.z | apply Has.s) [(⟨(a : Int), .slice (some ⟨r, 0, none⟩) 128 128, d⟩ : GW)] (by exact gw_len _) (by exact hS.src1 (f := gw) Has.z rfl) (by exact gw_ones _ (fun x hx => by rw [List.mem_singleton.1 hx]; exact ⟨_, _, _, rfl⟩)) (by simp; have := HXL.out; omega) (by simp; have := HXL.out; omega) ?_; clear hS; intro ao5 c5 w1 hcap5 hS; dsimp only [List.set_cons_zero, List.set_cons_succ] at hS))
    refine ⟨⟨i + 1, _, by go_num, HL.out, HSU.out (.slice (some ⟨r, 0, none⟩) 128 128), ?_⟩, by simp [wintOf]; have := HL.out; omega⟩
    have h3 := (Sat.stSnoc (hS.drop.re [4, 1])).pull1
    simp only [List.length_append, List.length_singleton] at h3
    rw [List.map_append]
    exact h3
   ·have i1 : ¬ (i : Int) < (m : Int) := by omega
    by_cases h20 : 20 < n
    ·have HNO := Lib.hid (recR_no (recOk_many HLG.out h20))
     have e20 : decide ((20 : Int) < (n : Int)) = true := decide_eq_true (by omega)
     clear hl h20
     go_wp2
     go_ret2
     rw [HNO.out.1, HNO.out.2]
     exact ⟨rfl, hS.drop.drop.drop⟩
    ·have hin : i = n := by omega
     have HXN := Lib.hid (show g2 xs = logG D n by rw [← hin]; exact HX.out)
     have HXL := Lib.hid (show xs.length ≤ 20 by omega)
     have HOF := Lib.hid (recOk_few HLG.out (by omega) HXN.out)
     have n20 : ¬ (20 : Int) < (n : Int) := by omega
     have e20 : decide ((20 : Int) < (n : Int)) = false := decide_eq_false n20
     obtain ⟨ao, c, rfl, _⟩ := hS.tbShape (k := 0) rfl
     have HCH := Lib.hid (fun w (h : Sat W w (Tb 95 2 gw (.slice ao xs.length c) (xs) :: St ((xs).map grow) :: Cs q 143 (bv b) :: IsDisk p D :: L)) => wcheck_any h xs ao c (fun w h => grows_rd h) (by have := HXL.out; omega) (D.blocks.length : Nat))
     clear hl h20 hin hxl
     cases hok : okG D.blocks.length (g2 xs)
     ·have HNO := Lib.hid (recR_no (D := D) (by rw [HOF.out, hok]; rfl))
      rw [hok] at HCH
      clear hok
      go_wp2_with (first
       | (go_at_call 46; refine (blocks_any (hS.re [3]) (n := D.blocks.length) rfl).mono ?_; rintro e w1 ⟨rfl, rfl⟩)
       | (go_at_call 90; refine (HCH.out _ hS).mono ?_; clear hS; rintro e w1 ⟨rfl, hS⟩))
      all_goals (go_ret2; rw [HNO.out.1, HNO.out.2]; exact ⟨rfl, hS.drop.drop.drop⟩)
     ·have hl128 : (hdr (g2 xs)).length = 128 := hdr_len (okG_len hok).2
      have HHD := Lib.hid (fun w (h : Sat W w (Tb 95 2 gw (.slice ao xs.length c) (xs) :: St ((xs).map grow) :: Cs q 143 (bv b) :: IsDisk p D :: L)) => wheader_any h xs ao c (fun w h => grows_rd h) HXL.out (logG_range D HXN.out))
      have HEQ := Lib.hid (fun v w (h : Sat W w (Sl 5 1 v 128 (bv (hdr (g2 xs))) :: Tb 95 2 gw (.slice ao xs.length c) (xs) :: St ((xs).map grow) :: Cs q 143 (bv b) :: IsDisk p D :: L)) => equal_any h (hdr (g2 xs)) b v (.slice (some ⟨q, 0, none⟩) 128 128) 128 hl128 HB128.out (fun w h => h.slRd Has.z) (fun w h => h.csRd0 (n := 128) (Has.s (Has.s (Has.s Has.z))) (by decide) (by rw [bv_length, HB128.out])) (by decide))
      rw [hok] at HCH
      by_cases he : hdr (g2 xs) = b
      ·have hrok : wrecOk D = true := by rw [HOF.out, hok, HBB.out, decide_eq_true he]; rfl
       have HYES := Lib.hid (recR_yes hrok HLG.out HXN.out)
       rw [decide_eq_true he] at HEQ
       have HDN := Lib.hid (fun v w (h : Sat W w (IsDisk p D :: Sl 5 1 v 128 (bv (hdr (g2 xs))) :: Tb 95 2 gw (.slice ao xs.length c) xs :: St (xs.map grow) :: Cs q 143 (bv b) :: L)) => done_any h HG.out (by omega) xs ao c (fun w h => grows_rd h.drop) HXL.out)
       obtain ⟨z, hz⟩ : ∃ z, (runW D (doneL (g2 xs))).1 = z := ⟨_, rfl⟩
       rw [hz] at HDN
       have HZ := Lib.hid hz
       clear hok hl128 he hrok hz
       go_wp2_with (first
        | (go_at_call 46; refine (blocks_any (hS.re [3]) (n := D.blocks.length) rfl).mono ?_; rintro e w1 ⟨rfl, rfl⟩)
        | (go_at_call 90; refine (HCH.out _ hS).mono ?_; clear hS; rintro e w1 ⟨rfl, hS⟩)
        | (go_at_call 92; refine (HHD.out _ hS).mono ?_; clear hS; rintro e w1 ⟨vh, rfl, hS⟩)
        | (go_at_call 91; refine (HEQ.out _ _ hS).mono ?_; clear hS; rintro e w1 ⟨rfl, hS⟩)
        | (go_at_call 93; refine (HDN.out _ _ (hS.re [4])).mono ?_; clear hS; rintro e w1 ⟨rfl, hS⟩))
       all_goals (go_ret2; rw [HYES.out.1, HYES.out.2, HZ.out]; exact ⟨by first | rfl | (congr 2; simp), (hS.re [1, 2, 3, 4]).drop.drop.drop.drop⟩)
      ·have HNO := Lib.hid (recR_no (D := D) (by rw [HOF.out, HBB.out, decide_eq_false he]; simp))
       rw [decide_eq_false he] at HEQ
       clear hok hl128 he
       go_wp2_with (first
        | (go_at_call 46; refine (blocks_any (hS.re [3]) (n := D.blocks.length) rfl).mono ?_; rintro e w1 ⟨rfl, rfl⟩)
        | (go_at_call 90; refine (HCH.out _ hS).mono ?_; clear hS; rintro e w1 ⟨rfl, hS⟩)
        | (go_at_call 92; refine (HHD.out _ hS).mono ?_; clear hS; rintro e w1 ⟨vh, rfl, hS⟩)
        | (go_at_call 91; refine (HEQ.out _ _ hS).mono ?_; clear hS; rintro e w1 ⟨rfl, hS⟩))
       all_goals (go_ret2; rw [HNO.out.1, HNO.out.2]; exact ⟨rfl, hS.drop.drop.drop.drop⟩)

end Go.Proofs.YtchohheleofncaaGreat
