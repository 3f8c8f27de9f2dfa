/-
  For all writes, cuts, WalWhole answers true: no condition.
-/
import Derived.Test.YtefbkpggmmhgcaaWlAw
namespace Go.Proofs.Ytefbkpggmmhgcaa
open Go.RowKit Go.Sep Go.ChangeShapes Go.WideShapes Go.ChangeAt
set_option linter.unusedSimpArgs false
set_option linter.unusedVariables false
attribute [local irreducible] Go.Oper.wp Go.wpList Go.Calls Go.Code.wp Go.Sep.Reg
def kv (k : Int) : List Value := [.int .i64 k]
theorem kv_len (l : List Int) : ∀ x ∈ l, (kv x).length = 1 := fun _ _ => rfl
theorem _root_.Go.Sep.Sat.clear {W w : World} {L : List Asrt} (h : Sat W w L) : Sat W w [] := h.map fun _ _ => trivial
/-- A disk that was left behind a cut, and started again. -/
structure CrSt (B0 : List (List UInt8)) (g : G2) (f : Int) (Y : DiskS) : Prop where
  inv : Inv Y
  dead : Y.dead = false
  left : Y.left = -1
  len : Y.blocks.length = 160
  wr : Y.writes.length = 0
  st : StW B0 g f Y.blocks
theorem CrSt.image {B0 : List (List UInt8)} {g : G2} {f : Int} {D : DiskS} (h : Inv D) (hl : D.blocks.length = 160) (hs : StW B0 g f D.blocks) : CrSt B0 g f (D.image D.writes.length) := by
  obtain ⟨e, hi⟩ := h.image
  exact ⟨hi, rfl, rfl, by rw [e]; exact hl, rfl, by rw [e]; exact hs⟩
def cutD (Y : DiskS) (k : Int) : DiskS := { Y with left := k }
theorem CrSt.cut {B0 : List (List UInt8)} {g : G2} {f : Int} {Y : DiskS} (h : CrSt B0 g f Y) (hg : okG 160 g = true) (hB0 : B0.length = 160) (k : Int) : Inv (recR (cutD Y k)).2 ∧ (recR (cutD Y k)).2.blocks.length = 160 ∧ StW B0 g f (recR (cutD Y k)).2.blocks := by
  have hi : Inv (cutD Y k) := ⟨⟨h.inv.ok.len, h.inv.ok.base, h.inv.ok.at_⟩, h.inv.blk⟩
  have hl : (cutD Y k).blocks.length = 160 := h.len
  refine ⟨?_, ?_, ?_⟩
  · unfold recR
    split
    · exact Inv.run _ hi
    · exact hi
  · unfold recR
    split
    · rw [run_len, hl]
    · exact hl
  · exact (StW.recover (D := cutD Y k) h.dead (by rw [hl]; exact hg) (by rw [hl]; decide) (by rw [hl]; decide) (by rw [hB0, hl]) h.st).1
theorem CrSt.dg {B0 : List (List UInt8)} {g : G2} {f : Int} {Y : DiskS} (h : CrSt B0 g f Y) {k : Int} (h1 : 0 ≤ k) (h2 : k ≤ 9223372036854775807) : DG (cutD Y k) 0 := ⟨⟨h.inv.ok.len, h.inv.ok.base, h.inv.ok.at_⟩, by show -1 ≤ k; omega, h2, by show Y.writes.length ≤ 0; rw [h.wr]; exact Nat.le_refl _⟩
theorem CrSt.dg0 {B0 : List (List UInt8)} {g : G2} {f : Int} {Y : DiskS} (h : CrSt B0 g f Y) : DG Y 0 := ⟨h.inv.ok, by rw [h.left]; decide, by rw [h.left]; decide, by rw [h.wr]; exact Nat.le_refl _⟩
theorem CrSt.last {B0 : List (List UInt8)} {g : G2} {f : Int} {Y : DiskS} (h : CrSt B0 g f Y) (hg : okG 160 g = true) (hB0 : B0.length = 160) : (recR Y).1 = 0 ∧ (recR Y).2.blocks.length = 160 ∧ (SameOut (recR Y).2.blocks (putL B0 g) ∨ (f ≠ 0 ∧ SameOut (recR Y).2.blocks B0)) := by
  have h2 := (StW.recover (D := Y) h.dead (by rw [h.len]; exact hg) (by rw [h.len]; decide) (by rw [h.len]; decide) (by rw [hB0, h.len]) h.st).2 h.left
  have h3 := (h.cut hg hB0 (-1)).2.1
  have e : cutD Y (-1) = Y := by cases Y; simp only [cutD]; rw [← h.left]
  rw [e] at h3
  exact ⟨h2.1, h3, h2.2⟩
theorem commit_cut {D : DiskS} {g : G2} (h : Free D) (hg : okG 160 g = true) (k : Int) : Inv (commitR (cutD D k) g).2 ∧ (commitR (cutD D k) g).2.blocks.length = 160 ∧ D.writes.length ≤ (commitR (cutD D k) g).2.writes.length ∧ StW D.blocks g (commitR (cutD D k) g).1 (commitR (cutD D k) g).2.blocks := by
  have hl : (cutD D k).blocks.length = 160 := h.len
  have hi : Inv (cutD D k) := ⟨⟨h.inv.ok.len, h.inv.ok.base, h.inv.ok.at_⟩, h.inv.blk⟩
  have e : commitR (cutD D k) g = runW (cutD D k) (commitL g) := by unfold commitR; rw [hl]; show (if okG 160 g = true then _ else _) = _; rw [hg, if_pos rfl]
  rw [e]
  obtain ⟨j, _, _, hw, _, _⟩ := run_any (commitL g) (cutD D k) h.dead (good_commitL (by rw [hl]; exact hg) (by rw [hl]; decide))
  exact ⟨Inv.run _ hi, by rw [run_len, hl], by rw [hw]; exact Nat.le_add_right _ _, StW.commit (D := cutD D k) h.dead (by rw [hl]; exact hg) (by rw [hl]; decide) h.zero⟩
theorem image_free {D : DiskS} (h : Free D) : Free (D.image D.writes.length) ∧ (D.image D.writes.length).blocks = D.blocks ∧ (D.image D.writes.length).writes.length = 0 := by
  obtain ⟨e, hi⟩ := h.inv.image
  exact ⟨⟨hi, rfl, rfl, by rw [e]; exact h.len, by rw [e]; exact h.zero⟩, e, rfl⟩
set_option maxRecDepth 20000 in
set_option maxHeartbeats 8000000 in
theorem Whole.walk (l m : List WD) (ao bo co : Option Addr) (c c' c'' : Nat) (cut : Int) (again : List Int) (W : World) (hr : InW W (.slice ao l.length c) l) (hr2 : InW W (.slice bo m.length c') m) (hr3 : Rd W (.slice co again.length c'') again.length 1 (again.flatMap kv)) :
    Calls Try.prog 7 #[.slice ao l.length c, .slice bo m.length c', .int .i64 cut, .slice co again.length c''] W fun e w' => e = .returned (.bool true) ∧ Sat W w' [] := by
  have hS := Sat.start W
  have HR := Lib.hid hr
  have HR2 := Lib.hid hr2
  have HR3 := Lib.hid hr3
  obtain ⟨_, _, he, hc1, hc2, _, h5⟩ := hr3
  simp only [Value.slice.injEq, true_and] at he
  obtain ⟨rfl, rfl⟩ := he
  have H5 := Lib.hid h5
  clear hr hr2 h5
  have HSM := Lib.hid (fun w (h : Sat W w []) => small_any h l ao c HR.out)
  have HSM2 := Lib.hid (fun w (h : Sat W w []) => small_any h m bo c' HR2.out)
  cases hsm : smallW l
  · rw [hsm] at HSM
    clear hsm
    go_enter Try.func7, Try.ntmps7
    go_wp2_with (first
      | (go_at_call 8; refine (HSM.out _ hS).mono ?_; rintro e w1 ⟨rfl, hS1⟩; clear hS; have hS := hS1; clear hS1)
      | (go_at_call 9; refine (wawake_any hS).mono ?_; rintro e w1 ⟨rfl, hS1⟩; clear hS; have hS := hS1; clear hS1))
    go_ret
    exact ⟨rfl, hS⟩
  cases hsm2 : smallW m
  · rw [hsm] at HSM
    rw [hsm2] at HSM2
    clear hsm hsm2
    go_enter Try.func7, Try.ntmps7
    go_wp2_with (first
      | (go_at_call 8; with_reducible refine (HSM.out _ hS).mono ?_; rintro e w1 ⟨rfl, hS1⟩; clear hS; have hS := hS1; clear hS1)
      | (go_at_call 8; with_reducible refine (HSM2.out _ hS).mono ?_; rintro e w1 ⟨rfl, hS1⟩; clear hS; have hS := hS1; clear hS1)
      | (go_at_call 9; refine (wawake_any hS).mono ?_; rintro e w1 ⟨rfl, hS1⟩; clear hS; have hS := hS1; clear hS1))
    go_ret
    exact ⟨rfl, hS⟩
  rw [hsm] at HSM
  rw [hsm2] at HSM2
  have HSB := Lib.hid (smallW_b hsm)
  have HSB2 := Lib.hid (smallW_b hsm2)
  clear hsm hsm2
  go_enter Try.func7, Try.ntmps7
  go_wp2_with (first
    | (go_at_call 8; with_reducible refine (HSM.out _ hS).mono ?_; rintro e w1 ⟨rfl, hS1⟩; clear hS; have hS := hS1; clear hS1)
    | (go_at_call 8; with_reducible refine (HSM2.out _ hS).mono ?_; rintro e w1 ⟨rfl, hS1⟩; clear hS; have hS := hS1; clear hS1)
    | (go_at_call 10; refine (group_any hS l ao c HR.out HSB.out.2).mono ?_; rintro e w1 ⟨v1, v2, rfl, xs, hgx, hS1⟩; clear hS; have hS := hS1; clear hS1; have HGX := Lib.hid hgx; obtain ⟨a1, c1, rfl, _⟩ := hS.tbShape (k := 0) rfl; obtain ⟨a2, c2, rfl, _⟩ := hS.tbShape (k := 2) rfl; clear hgx)
    | (go_at_call 10; refine (group_any hS m bo c' HR2.out HSB2.out.2).mono ?_; rintro e w1 ⟨v1, v2, rfl, ys, hgy, hS1⟩; clear hS; have hS := hS1; clear hS1; have HGY := Lib.hid hgy; obtain ⟨b1, d1, rfl, _⟩ := hS.tbShape (k := 0) rfl; obtain ⟨b2, d2, rfl, _⟩ := hS.tbShape (k := 2) rfl; clear hgy))
  have hgl : (g2 xs).length ≤ 60 := by rw [HGX.out, grpW_len (by unfold grpN; omega)]; unfold grpN; have := HSB.out.1; omega
  have hgl2 : (g2 ys).length ≤ 60 := by rw [HGY.out, grpW_len (by unfold grpN; omega)]; unfold grpN; have := HSB2.out.1; omega
  have HCH := Lib.hid (fun w (h : Sat W w (Tb 40 2 gw (.slice b1 ys.length d1) ys :: St (ys.map grow) :: Tb 56 2 wvI (.slice b2 (g2 ys).length d2) (g2 ys) :: Tb 40 2 gw (.slice a1 xs.length c1) xs :: St (xs.map grow) :: Tb 56 2 wvI (.slice a2 (g2 xs).length c2) (g2 xs) :: [])) => rcheck_any h (g2 xs) a2 c2 (fun w h => h.tbRd (Has.s (Has.s (Has.s (Has.s (Has.s Has.z)))))) (by omega) 160)
  have HCH2 := Lib.hid (fun w (h : Sat W w (Tb 40 2 gw (.slice b1 ys.length d1) ys :: St (ys.map grow) :: Tb 56 2 wvI (.slice b2 (g2 ys).length d2) (g2 ys) :: Tb 40 2 gw (.slice a1 xs.length c1) xs :: St (xs.map grow) :: Tb 56 2 wvI (.slice a2 (g2 xs).length c2) (g2 xs) :: [])) => rcheck_any h (g2 ys) b2 d2 (fun w h => h.tbRd (Has.s (Has.s Has.z))) (by omega) 160)
  cases hok : okG 160 (g2 xs)
  · rw [hok] at HCH
    clear hok
    go_wp2_with (first
      | (go_at_call 11; with_reducible refine (HCH.out _ hS).mono ?_; rintro e w1 ⟨rfl, hS1⟩; clear hS; have hS := hS1; clear hS1)
      | (go_at_call 9; refine (wawake_any hS).mono ?_; rintro e w1 ⟨rfl, hS1⟩; clear hS; have hS := hS1; clear hS1))
    go_ret
    exact ⟨rfl, hS.clear⟩
  cases hok2 : okG 160 (g2 ys)
  · rw [hok] at HCH
    rw [hok2] at HCH2
    clear hok hok2
    go_wp2_with (first
      | (go_at_call 11; with_reducible refine (HCH.out _ hS).mono ?_; rintro e w1 ⟨rfl, hS1⟩; clear hS; have hS := hS1; clear hS1)
      | (go_at_call 11; with_reducible refine (HCH2.out _ hS).mono ?_; rintro e w1 ⟨rfl, hS1⟩; clear hS; have hS := hS1; clear hS1)
      | (go_at_call 9; refine (wawake_any hS).mono ?_; rintro e w1 ⟨rfl, hS1⟩; clear hS; have hS := hS1; clear hS1))
    go_ret
    exact ⟨rfl, hS.clear⟩
  rw [hok] at HCH
  rw [hok2] at HCH2
  obtain ⟨k1, k2, _, k4, _⟩ := commit_free free0 hok
  have hxl : xs.length ≤ 20 := by have := (okG_len hok).2; rwa [g2_len] at this
  have hyl : ys.length ≤ 20 := by have := (okG_len hok2).2; rwa [g2_len] at this
  have HCM := Lib.hid (fun (p : Nat) w (h : Sat W w (IsDisk p disk0 :: Tb 40 2 gw (.slice b1 ys.length d1) ys :: St (ys.map grow) :: Tb 56 2 wvI (.slice b2 (g2 ys).length d2) (g2 ys) :: Tb 40 2 gw (.slice a1 xs.length c1) xs :: St (xs.map grow) :: Tb 56 2 wvI (.slice a2 (g2 xs).length c2) (g2 xs) :: [])) => (show Calls Try.prog 13 #[.pointer (some ⟨p, 0, none⟩), .slice a1 xs.length c1] w fun e w' => e = .returned (.int .i64 0) ∧ Sat W w' (IsDisk p (commitR disk0 (g2 xs)).2 :: Tb 40 2 gw (.slice b1 ys.length d1) ys :: St (ys.map grow) :: Tb 56 2 wvI (.slice b2 (g2 ys).length d2) (g2 ys) :: Tb 40 2 gw (.slice a1 xs.length c1) xs :: St (xs.map grow) :: Tb 56 2 wvI (.slice a2 (g2 xs).length c2) (g2 xs) :: []) by
    have := wcommit_any h (free0.dg (k := 0) (Nat.le_refl _)) (by decide) xs a1 c1 (fun w h => grows_rd h.drop.drop.drop) (by omega)
    rw [k1] at this
    exact this))
  obtain ⟨D1, hD1⟩ : ∃ D1, (commitR disk0 (g2 xs)).2 = D1 := ⟨_, rfl⟩
  rw [hD1] at HCM k4
  have hD1w : D1.writes.length ≤ 60 := by rw [← hD1, k2, g2_len]; simp [disk0]; omega
  have HF1 := Lib.hid k4
  obtain ⟨i1, i2, i3⟩ := image_free k4
  obtain ⟨X0, hX0⟩ : ∃ X0, D1.image D1.writes.length = X0 := ⟨_, rfl⟩
  have HIM := Lib.hid (fun (p : Nat) w (L : List Asrt) (h : Sat W w (IsDisk p D1 :: L)) => (show Calls Try.prog 31 #[.pointer (some ⟨p, 0, none⟩), .int .i64 D1.writes.length] w fun e w' => ∃ q, e = .returned (.tuple #[.pointer (some ⟨q, 0, none⟩), .bool true]) ∧ Sat W w' (IsDisk q X0 :: IsDisk p D1 :: L) by
    rw [← hX0]; exact image_ok h k4.inv.ok D1.writes.length (Nat.le_refl _)))
  rw [hX0] at i1 i2 i3
  obtain ⟨m1, m2, _, m4, m5⟩ := commit_free i1 hok2
  have HCM2 := Lib.hid (fun (p q : Nat) w (h : Sat W w (IsDisk q X0 :: IsDisk p D1 :: Tb 40 2 gw (.slice b1 ys.length d1) ys :: St (ys.map grow) :: Tb 56 2 wvI (.slice b2 (g2 ys).length d2) (g2 ys) :: Tb 40 2 gw (.slice a1 xs.length c1) xs :: St (xs.map grow) :: Tb 56 2 wvI (.slice a2 (g2 xs).length c2) (g2 xs) :: [])) => (show Calls Try.prog 13 #[.pointer (some ⟨q, 0, none⟩), .slice b1 ys.length d1] w fun e w' => e = .returned (.int .i64 0) ∧ Sat W w' (IsDisk q (commitR X0 (g2 ys)).2 :: IsDisk p D1 :: Tb 40 2 gw (.slice b1 ys.length d1) ys :: St (ys.map grow) :: Tb 56 2 wvI (.slice b2 (g2 ys).length d2) (g2 ys) :: Tb 40 2 gw (.slice a1 xs.length c1) xs :: St (xs.map grow) :: Tb 56 2 wvI (.slice a2 (g2 xs).length c2) (g2 xs) :: []) by
    have := wcommit_any h (i1.dg (k := 0) (by rw [i3]; exact Nat.le_refl _)) (by decide) ys b1 d1 (fun w h => grows_rd h.drop) (by omega)
    rw [m1] at this
    exact this))
  obtain ⟨X1, hX1⟩ : ∃ X1, (commitR X0 (g2 ys)).2 = X1 := ⟨_, rfl⟩
  rw [hX1] at HCM2 m4 m5
  rw [i2] at m5
  have HFX := Lib.hid m4
  have HSX := Lib.hid m5
  have HOK2 := Lib.hid hok2
  obtain ⟨k, hk⟩ : ∃ k, cut % (2 * (ys.length : Int) + 3) = k := ⟨_, rfl⟩
  have hk0 : 0 ≤ k := by rw [← hk]; exact Int.emod_nonneg _ (by omega)
  have hk9 : k < 2 * (ys.length : Int) + 3 := by rw [← hk]; exact Int.emod_lt_of_pos _ (by omega)
  have HPL := Lib.hid (fun w => (show Calls Try.prog 28 #[.int .i64 cut, .int .i64 (2 * (ys.length : Int) + 3)] w fun e w' => e = .returned (.int .i64 k) ∧ w = w' by rw [← hk]; exact place_any cut _ (by omega) (by omega) w))
  obtain ⟨n1, n2, n3, n4⟩ := commit_cut HF1.out hok2 k
  have HCM3 := Lib.hid (fun (p q : Nat) w (h : Sat W w (IsDisk p (cutD D1 k) :: IsDisk q X1 :: Tb 40 2 gw (.slice b1 ys.length d1) ys :: St (ys.map grow) :: Tb 56 2 wvI (.slice b2 (g2 ys).length d2) (g2 ys) :: Tb 40 2 gw (.slice a1 xs.length c1) xs :: St (xs.map grow) :: Tb 56 2 wvI (.slice a2 (g2 xs).length c2) (g2 xs) :: [])) => wcommit_any h (D := cutD D1 k) (k := 60) ⟨⟨HF1.out.inv.ok.len, HF1.out.inv.ok.base, HF1.out.inv.ok.at_⟩, by show -1 ≤ k; omega, by show k ≤ _; omega, hD1w⟩ (by decide) ys b1 d1 (fun w h => grows_rd h.drop) (by omega))
  obtain ⟨f, hf⟩ : ∃ f, (commitR (cutD D1 k) (g2 ys)).1 = f := ⟨_, rfl⟩
  obtain ⟨D2, hD2⟩ : ∃ D2, (commitR (cutD D1 k) (g2 ys)).2 = D2 := ⟨_, rfl⟩
  rw [hD2, hf] at HCM3 n4
  rw [hD2] at n1 n2 n3
  have HI2 := Lib.hid n1
  have HCR := Lib.hid (CrSt.image n1 n2 n4)
  have n3' : (D1.writes.length : Int) ≤ (D2.writes.length : Int) := by omega
  have e3' : decide ((D2.writes.length : Int) < (D1.writes.length : Int)) = false := decide_eq_false (by omega)
  have e3n : decide (D2.writes.length < D1.writes.length) = false := decide_eq_false (by omega)
  have HLN := Lib.hid (show D1.blocks.length = 160 from HF1.out.len)
  clear hok hok2 k1 k2 k4 hD1 hD1w i1 i2 i3 hX0 m1 m2 m4 m5 hX1 hk hk9 n1 n2 n3 n4 hf hD2
  go_wp2_with (first
    | (go_at_call 11; with_reducible refine (HCH.out _ hS).mono ?_; rintro e w1 ⟨rfl, hS1⟩; clear hS; have hS := hS1; clear hS1)
    | (go_at_call 11; with_reducible refine (HCH2.out _ hS).mono ?_; rintro e w1 ⟨rfl, hS1⟩; clear hS; have hS := hS1; clear hS1)
    | (go_at_call 12; refine (new_okN hS 160 (by decide) (by decide)).mono ?_; rintro e w1 ⟨p, rfl, hS1⟩; clear hS; have hS := hS1; clear hS1)
    | (go_at_call 13; with_reducible refine (HCM.out p _ hS).mono ?_; rintro e w1 ⟨rfl, hS1⟩; clear hS; have hS := hS1; clear hS1)
    | (go_at_call 30; with_reducible refine (wblocks_any (D := D1) hS (by rw [HLN.out]; decide)).mono ?_; rintro e w1 ⟨rfl, hS1⟩; clear hS; have hS := hS1; clear hS1)
    | (go_at_call 31; with_reducible refine (HIM.out p _ _ hS).mono ?_; rintro e w1 ⟨q, rfl, hS1⟩; clear hS; have hS := hS1; clear hS1)
    | (go_at_call 13; with_reducible refine (HCM2.out p q _ hS).mono ?_; rintro e w1 ⟨rfl, hS1⟩; clear hS; have hS := hS1; clear hS1)
    | (go_at_call 30; with_reducible refine (wblocks_any (D := X1) hS (by rw [HFX.out.len]; decide)).mono ?_; rintro e w1 ⟨rfl, hS1⟩; clear hS; have hS := hS1; clear hS1; replace hS := hS.pull1)
    | (go_at_call 28; refine (HPL.out _).mono ?_; rintro e w1 ⟨rfl, rfl⟩)
    | (go_at_call 21; refine (cut_yes hS k hk0).mono ?_; rintro e w1 ⟨rfl, hS1⟩; clear hS; have hS := hS1; clear hS1)
    | (go_at_call 13; with_reducible refine (HCM3.out p q _ hS).mono ?_; rintro e w1 ⟨rfl, hS1⟩; clear hS; have hS := hS1; clear hS1)
    | (go_at_call 31; with_reducible refine (image_ok (D := D2) hS HI2.out.ok D2.writes.length (Nat.le_refl _)).mono ?_; rintro e w1 ⟨q2, rfl, hS1⟩; clear hS; have hS := hS1; clear hS1)
    | (go_at_call 14; refine (writes_any hS rfl).mono ?_; rintro e w1 ⟨rfl, rfl⟩)
    | (go_at_call 14; refine (writes_any (hS.re [1]) rfl).mono ?_; rintro e w1 ⟨rfl, rfl⟩))
  have H0 := Lib.hid (hS.one Has.z)
  clear hS
  go_loopw [21, 23] (fun v21 v23 wz => ∃ (i yp : Nat) (Y : DiskS), v21 = .pointer (some ⟨yp, 0, none⟩) ∧ v23 = .int .i64 i ∧ i ≤ 5 ∧ CrSt D1.blocks (g2 ys) f Y ∧ Sat W wz [IsDisk yp Y]) (fun _ v23 _ => 5 - (intOf v23).toNat)
  case atStart => exact ⟨0, q2, _, rfl, rfl, by omega, HCR.out, H0.out⟩
  case round =>
    clear H0 HCR
    obtain ⟨i, yp, Y, rfl, rfl, hi, hY, hS⟩ := hrel
    have HY := Lib.hid hY
    clear hY
    by_cases hl : i < again.length
    · have n1 : (i : Int) < (again.length : Int) := by omega
      have e1 : decide ((i : Int) < (again.length : Int)) = true := decide_eq_true n1
      by_cases h5' : i < 5
      · have n2 : (i : Int) < 5 := by omega
        have e2 : decide ((i : Int) < 5) = true := decide_eq_true n2
        obtain ⟨ba, oa, rfl, _⟩ := H5.out (by omega)
        obtain ⟨a, ha⟩ : ∃ a, again[i]? = some a := ⟨_, List.getElem?_eq_getElem hl⟩
        have HA := Lib.hid ha
        obtain ⟨j, hj⟩ : ∃ j, a % 25 = j := ⟨_, rfl⟩
        have hj0 : 0 ≤ j := by rw [← hj]; exact Int.emod_nonneg _ (by decide)
        have hj9 : j < 25 := by rw [← hj]; exact Int.emod_lt_of_pos _ (by decide)
        have HPA := Lib.hid (fun w => (show Calls Try.prog 28 #[.int .i64 a, .int .i64 25] w fun e w' => e = .returned (.int .i64 j) ∧ w = w' by rw [← hj]; exact place_any a 25 (by decide) (by decide) w))
        obtain ⟨g1, g2', g3⟩ := HY.out.cut HOK2.out HLN.out j
        have HRC := Lib.hid (fun w (h : Sat W w [IsDisk yp (cutD Y j)]) => wrecover_any h (HY.out.dg hj0 (by omega)) (by decide) (by show 26 ≤ Y.blocks.length; rw [HY.out.len]; decide))
        have HCI := Lib.hid (CrSt.image g1 g2' g3)
        have HI3 := Lib.hid g1.ok
        obtain ⟨Y2, hY2⟩ : ∃ Y2, (recR (cutD Y j)).2 = Y2 := ⟨_, rfl⟩
        obtain ⟨rb, hrb⟩ : ∃ rb, recB (cutD Y j) = rb := ⟨_, rfl⟩
        obtain ⟨rc, hrc⟩ : ∃ rc, (recR (cutD Y j)).1 = rc := ⟨_, rfl⟩
        rw [hY2, hrb, hrc] at HRC
        rw [hY2] at HCI HI3
        have HL5 := Lib.hid h5'
        clear ha hj hj9 g1 g2' g3 hY2 hrb hrc hl h5'
        go_wp2_with (first
          | (refine toList (by rfl) ?_; refine wp_of_reads (rLdRd (HR3.out.old hS) (kv_len again) _ _ (by rfl) _ (by rfl) (agOf (by rfl)) i 0 (by omega) HA.out (by rfl) (by omega)) ?_)
          | (go_at_call 28; refine (HPA.out _).mono ?_; rintro e w1 ⟨rfl, rfl⟩)
          | (go_at_call 21; refine (cut_yes hS j hj0).mono ?_; rintro e w1 ⟨rfl, hS1⟩; clear hS; have hS := hS1; clear hS1)
          | (go_at_call 16; refine (HRC.out _ hS).mono ?_; rintro e w1 ⟨rfl, hS1⟩; clear hS; have hS := hS1; clear hS1)
          | (go_at_call 31; refine (image_ok (D := Y2) hS HI3.out Y2.writes.length (Nat.le_refl _)).mono ?_; rintro e w1 ⟨q3, rfl, hS1⟩; clear hS; have hS := hS1; clear hS1)
          | (go_at_call 14; refine (writes_any hS rfl).mono ?_; rintro e w1 ⟨rfl, rfl⟩))
        exact ⟨⟨i + 1, q3, _, rfl, by go_num, HL5.out, HCI.out, hS.one Has.z⟩, by simp [intOf]; have := HL5.out; omega⟩
      · have e2 : decide ((i : Int) < 5) = false := decide_eq_false (by omega)
        clear hl h5'
        obtain ⟨r1, r2, r3⟩ := HY.out.last HOK2.out HLN.out
        have HREC := Lib.hid (fun w (h : Sat W w [IsDisk yp Y]) => (show Calls Try.prog 16 #[.pointer (some ⟨yp, 0, none⟩)] w fun e w' => e = .returned (.tuple #[.bool (recB Y), .int .i64 0]) ∧ Sat W w' [IsDisk yp (recR Y).2] by
          have := wrecover_any h HY.out.dg0 (by decide) (by rw [HY.out.len]; decide)
          rw [r1] at this
          exact this))
        obtain ⟨Y3, hY3⟩ : ∃ Y3, (recR Y).2 = Y3 := ⟨_, rfl⟩
        rw [hY3] at HREC r2 r3
        have HYL := Lib.hid r2
        obtain ⟨rb, hrb⟩ : ∃ rb, recB Y = rb := ⟨_, rfl⟩
        rw [hrb] at HREC
        have hcs : (outS Y3.blocks == outS X1.blocks) = true ∨ ((outS Y3.blocks == outS X1.blocks) = false ∧ (outS Y3.blocks == outS D1.blocks) = true ∧ (f != 0) = true) := by
          have e1 : SameOut Y3.blocks (putL D1.blocks (g2 ys)) → outS Y3.blocks = outS X1.blocks := fun h => outS_same (by rw [r2, HFX.out.len]) (fun j hj => by rw [h j hj, HSX.out j hj])
          by_cases hq : outS Y3.blocks = outS X1.blocks
          · exact .inl (beq_iff_eq.2 hq)
          · rcases r3 with h | ⟨h, h2⟩
            · exact absurd (e1 h) hq
            · exact .inr ⟨beq_eq_false_iff_ne.2 hq, beq_iff_eq.2 (outS_same (by rw [r2, HLN.out]) h2), bne_iff_ne.2 h⟩
        clear r1 r2 r3 hY3 hrb
        obtain ⟨s3, hs3⟩ : ∃ s, outS Y3.blocks = s := ⟨_, rfl⟩
        obtain ⟨s2, hs2⟩ : ∃ s, outS X1.blocks = s := ⟨_, rfl⟩
        obtain ⟨s1, hs1⟩ : ∃ s, outS D1.blocks = s := ⟨_, rfl⟩
        have HS3 := Lib.hid hs3
        rw [hs3, hs2, hs1] at hcs
        rw [hs2, hs1]
        clear hs1 hs2 hs3
        have q1 := eq_strv s3 s2
        have q2 := eq_strv s3 s1
        have q3 := eqg_strv s3 s2
        have q4 := eqg_strv s3 s1
        rcases hcs with c1 | ⟨c1, c2, c3⟩
        all_goals
          go_wp2_with (first
            | (go_at_call 16; refine (HREC.out _ hS).mono ?_; rintro e w1 ⟨rfl, hS1⟩; clear hS; have hS := hS1; clear hS1)
            | (go_at_call 30; refine (wblocks_any (D := Y3) hS (by rw [HYL.out]; decide)).mono ?_; rw [HS3.out]; rintro e w1 ⟨rfl, hS1⟩; clear hS; have hS := hS1; clear hS1)
            | (go_at_call 9; refine (wawake_any hS).mono ?_; rintro e w1 ⟨rfl, hS1⟩; clear hS; have hS := hS1; clear hS1))
          go_ret
          exact ⟨rfl, hS.clear⟩
    · have n1 : ¬ (i : Int) < (again.length : Int) := by omega
      have e1 : decide ((i : Int) < (again.length : Int)) = false := decide_eq_false n1
      clear hl
      obtain ⟨r1, r2, r3⟩ := HY.out.last HOK2.out HLN.out
      have HREC := Lib.hid (fun w (h : Sat W w [IsDisk yp Y]) => (show Calls Try.prog 16 #[.pointer (some ⟨yp, 0, none⟩)] w fun e w' => e = .returned (.tuple #[.bool (recB Y), .int .i64 0]) ∧ Sat W w' [IsDisk yp (recR Y).2] by
        have := wrecover_any h HY.out.dg0 (by decide) (by rw [HY.out.len]; decide)
        rw [r1] at this
        exact this))
      obtain ⟨Y3, hY3⟩ : ∃ Y3, (recR Y).2 = Y3 := ⟨_, rfl⟩
      rw [hY3] at HREC r2 r3
      have HYL := Lib.hid r2
      obtain ⟨rb, hrb⟩ : ∃ rb, recB Y = rb := ⟨_, rfl⟩
      rw [hrb] at HREC
      have hcs : (outS Y3.blocks == outS X1.blocks) = true ∨ ((outS Y3.blocks == outS X1.blocks) = false ∧ (outS Y3.blocks == outS D1.blocks) = true ∧ (f != 0) = true) := by
        have e1 : SameOut Y3.blocks (putL D1.blocks (g2 ys)) → outS Y3.blocks = outS X1.blocks := fun h => outS_same (by rw [r2, HFX.out.len]) (fun j hj => by rw [h j hj, HSX.out j hj])
        by_cases hq : outS Y3.blocks = outS X1.blocks
        · exact .inl (beq_iff_eq.2 hq)
        · rcases r3 with h | ⟨h, h2⟩
          · exact absurd (e1 h) hq
          · exact .inr ⟨beq_eq_false_iff_ne.2 hq, beq_iff_eq.2 (outS_same (by rw [r2, HLN.out]) h2), bne_iff_ne.2 h⟩
      clear r1 r2 r3 hY3 hrb
      obtain ⟨s3, hs3⟩ : ∃ s, outS Y3.blocks = s := ⟨_, rfl⟩
      obtain ⟨s2, hs2⟩ : ∃ s, outS X1.blocks = s := ⟨_, rfl⟩
      obtain ⟨s1, hs1⟩ : ∃ s, outS D1.blocks = s := ⟨_, rfl⟩
      have HS3 := Lib.hid hs3
      rw [hs3, hs2, hs1] at hcs
      rw [hs2, hs1]
      clear hs1 hs2 hs3
      have q1 := eq_strv s3 s2
      have q2 := eq_strv s3 s1
      have q3 := eqg_strv s3 s2
      have q4 := eqg_strv s3 s1
      rcases hcs with c1 | ⟨c1, c2, c3⟩
      all_goals
        go_wp2_with (first
          | (go_at_call 16; refine (HREC.out _ hS).mono ?_; rintro e w1 ⟨rfl, hS1⟩; clear hS; have hS := hS1; clear hS1)
          | (go_at_call 30; refine (wblocks_any (D := Y3) hS (by rw [HYL.out]; decide)).mono ?_; rw [HS3.out]; rintro e w1 ⟨rfl, hS1⟩; clear hS; have hS := hS1; clear hS1)
          | (go_at_call 9; refine (wawake_any hS).mono ?_; rintro e w1 ⟨rfl, hS1⟩; clear hS; have hS := hS1; clear hS1))
        go_ret
        exact ⟨rfl, hS.clear⟩

set_option maxRecDepth 100000 in
theorem Whole.contract (H : Type) (enc : TypeId × Value → H) (W : World) (base : Nat) (args : Array Value) (ds gs : List (DataW H)) (before : List MemPlace)
    (hval : ∀ (j : Nat) t v, Try.f7.params[j]? = some t → args[j]? = some v → Value.okWide Try.prog W .any base t v)
    (hW : DataW.Whole enc Try.prog Try.f7.params.toList Rows.walWholeSpec.vars false W args.toList ds gs before)
    (hreach : (DataW.weightsEach Try.prog (Try.f7.params.toList ++ Rows.walWholeSpec.plain.varTypes Try.prog) (ds ++ gs)).all (· ≤ reachBytes) = true) :
    Calls Try.prog 7 args W fun e W' => ∃ v, e = .returned v ∧ Rows.walWholeSpec.post enc Try.prog Try.f7 false true false false W args v W' := by
  have hW' := hW
  obtain ⟨p, q, hA, hV, rfl, hfz, hnd⟩ := hW
  rw [Try.params7] at hA hval hreach
  obtain ⟨v1, vs1, d1, ds1, p1, q1, hargs, rfl, rfl, h1, r1⟩ := trodAll_cons hA
  obtain ⟨v2, vs2, d2, ds2, p2, q2, rfl, rfl, rfl, h2, r2⟩ := trodAll_cons r1
  obtain ⟨v3, vs3, d3, ds3, p3, q3, rfl, rfl, rfl, h3, r3⟩ := trodAll_cons r2
  obtain ⟨v4, vs4, d4, ds4, p4, q4, rfl, rfl, rfl, h4, r4⟩ := trodAll_cons r3
  obtain ⟨rfl, rfl, rfl⟩ := trodAll_nil r4
  obtain rfl : args = #[v1, v2, v3, v4] := by cases args; simp_all
  obtain ⟨rfl, rfl⟩ := trodVars_none hV
  obtain ⟨ao1, l1, c1, rfl⟩ := okWide_slice Try.underlying22 (hval 0 22 v1 rfl rfl)
  obtain ⟨ao2, l2, c2, rfl⟩ := okWide_slice Try.underlying22 (hval 1 22 v2 rfl rfl)
  obtain ⟨a3, rfl, rfl, rfl, w3⟩ := open_int Try.underlying3 (hval 2 3 v3 rfl rfl) h3
  obtain ⟨ao4, l4, c4, rfl⟩ := okWide_slice Try.underlying62 (hval 3 62 v4 rfl rfl)
  obtain ⟨l, rfl, hr, hro⟩ := open_wds h1
  obtain ⟨m, rfl, hr2, hro2⟩ := open_wds h2
  obtain ⟨ks, rfl, hr3, _⟩ := open_enc (f := kv) (Q := fun _ => True) Try.underlying62 (sz := 1) (by kernel_rfl) (by decide) h4 (fun r n x hl h => by
    obtain ⟨k, hk, _⟩ := DataW.trod_int Try.underlying3 h
    exact ⟨k, hk, trivial⟩)
  refine (Whole.walk l m ao1 ao2 ao4 c1 c2 c4 a3 ks W ⟨hr, hro⟩ ⟨hr2, hro2⟩ hr3).mono ?_
  refine fun e W' ⟨he, hS⟩ => ?_
  subst he
  exact ⟨_, rfl, law_post (tb := 4) (by kernel_rfl) (by kernel_rfl) rfl Try.underlying4 rfl hW' rfl hS⟩

theorem Whole.own : ownKnob Try.prog.godebug = none := by kernel_rfl
set_option maxRecDepth 100000 in
theorem Whole.lifted (os : Os) (started : os.Started) (H : Type) (enc : TypeId × Value → H) :
    ReturnsInHanded {} Try.checked os 7 .any (Rows.walWholeSpec.pre6 enc Try.prog Try.f7 Rows.walWholeRow.domain false) (Rows.walWholeSpec.post enc Try.prog Try.f7 false true false false) := by
  refine returnsInHanded_of_change_shaped (C := Try.checked) Whole.own started (by kernel_rfl) Try.func7
    (ChangeSpec.witness6 (enc := enc) (C := Try.checked) false ⟨#[], #[.slice none 0 0, .slice none 0 0, .int .i64 0, .slice none 0 0], []⟩ 8 (by kernel_rfl) (by kernel_rfl) (by kernel_rfl) (by kernel_rfl)) ?_
  intro W base args ds gs before hval hW _ hreach _ _
  exact Whole.contract H enc W base args ds gs before hval hW hreach

theorem Whole.holds : Rows.WalWholeSaid :=
  OpenClaim.holds_of_wide 7 Try.f7 rfl rfl rfl rfl rfl rfl rfl ⟨rfl, rfl, rfl, rfl, rfl⟩ rfl rfl rfl rfl rfl (by kernel_rfl) Try.func7 (by kernel_rfl)
    (of_decide_eq_true (by kernel_rfl)) (by unfold Func.isWrapper; first | (rw [if_pos (by decide +kernel)]; kernel_rfl) | (rw [if_neg (by decide +kernel)]; exact ⟨rfl, rfl⟩))
    (fun os started H enc _ => Whole.lifted os started H enc)
end Go.Proofs.Ytefbkpggmmhgcaa
