/-
  Package wal: Recover.
-/
import Derived.Test.YtefbkpggmmhgcaaWlRec
namespace Go.Proofs.Ytefbkpggmmhgcaa
open Go.RowKit Go.Sep
set_option linter.unusedSimpArgs false
set_option linter.unusedVariables false
attribute [local irreducible] Go.Oper.wp Go.wpList Go.Calls Go.Code.wp Go.Sep.Reg
theorem logG_at {D : DiskS} {n i : Nat} (h : i < n) : (logG D n)[i]? = some (((getN (atB D 2) (1 + 2 * i) 2 : Nat) : Int), atB D (3 + i)) := by simp [logG, h]
theorem logG_range (D : DiskS) {n : Nat} {xs : List GW} (h : g2 xs = logG D n) : ∀ x ∈ xs, -9223372036854775808 ≤ x.at_ ∧ x.at_ ≤ 9223372036854775807 := fun x hx => by
  obtain ⟨i, hi⟩ := List.mem_iff_getElem?.1 hx
  have h1 := g2_at hi
  rw [h] at h1
  have hl := (List.getElem?_eq_some_iff.1 h1).1
  rw [logG_len] at hl
  rw [logG_at hl] at h1
  simp only [Option.some.injEq, Prod.mk.injEq] at h1
  have := getN_lt (atB D 2) (1 + 2 * i) 2
  have e := h1.1
  omega
theorem getM_any {W w : World} {L : List Asrt} (hS : Sat W w L) (ao : Option Addr) (c : Nat) (l : List UInt8) {m : Nat} (hm : l.length = m) (hr : ∀ w, Sat W w L → Rd w (.slice ao m c) m 1 (bv l)) (a : Int) (t n : Nat) (ha : a = (t : Nat)) (hn : 1 ≤ n) (hn2 : n ≤ 7) (hl : m ≤ 140737488355328) {r : Nat} (hr2 : getN l t n = r) :
    Calls Try.prog 35 #[.slice ao m c, .int .i64 a, .int .i64 n] w fun e w' => ∃ ok, e = .returned (.tuple #[.int .i64 (r : Nat), .bool ok]) ∧ w = w' := by
  subst hm hr2
  exact getN_any hS ao c l hr a t n ha hn hn2 hl
theorem logX_succ {D : DiskS} {k : Nat} {xs : List GW} {v : Value} (h : g2 xs = logG D k) : g2 (xs ++ [⟨((getN (atB D 2) (1 + 2 * k) 2 : Nat) : Int), v, atB D (3 + k)⟩]) = logG D (k + 1) := by
  rw [logG_succ, ← h]; simp [g2]
theorem gw_ones (l : List GW) (h : ∀ x ∈ l, ∃ ao n c, x.val = .slice ao n c) : ∀ u ∈ l.flatMap gw, u.oneCell' = true := fun u hu => by
  obtain ⟨x, hx, hu⟩ := List.mem_flatMap.1 hu
  obtain ⟨ao, n, c, e⟩ := h x hx
  simp only [gw, e, List.mem_cons, List.not_mem_nil, or_false] at hu
  rcases hu with rfl | rfl <;> rfl
theorem recOk_many {D : DiskS} {n : Nat} (h : logN D = n) (hn : 20 < n) : recOk D = false := by
  unfold recOk
  rw [h, decide_eq_false (by omega : ¬ n ≤ 20)]; rfl
theorem recOk_few {D : DiskS} {n : Nat} {xs : List GW} (h : logN D = n) (hn : n ≤ 20) (hx : g2 xs = logG D n) : recOk D = (okG D.blocks.length (g2 xs) && decide (hdr (g2 xs) = atB D 2)) := by
  unfold recOk
  rw [h, decide_eq_true hn, ← hx]; rfl
theorem recR_no {D : DiskS} (h : recOk D = false) : recR D = (0, D) ∧ recB D = false := by unfold recB recR; rw [h]; exact ⟨rfl, rfl⟩
theorem recR_yes {D : DiskS} {n : Nat} {xs : List GW} (h : recOk D = true) (hl : logN D = n) (hx : g2 xs = logG D n) : recR D = runW D (doneL (g2 xs)) ∧ recB D = decide ((runW D (doneL (g2 xs))).1 = 0) := by
  have e : recR D = runW D (doneL (g2 xs)) := by unfold recR; rw [h, if_pos rfl, hl, ← hx]
  exact ⟨e, by unfold recB; rw [h, e]; rfl⟩
set_option maxRecDepth 20000 in
set_option maxHeartbeats 4000000 in
theorem wrecover_any {W w : World} {L : List Asrt} {p k0 : Nat} {D : DiskS} (hS : Sat W w (IsDisk p D :: L)) (hG : DG D k0) (hk : k0 ≤ 800) (hn : 26 ≤ D.blocks.length) :
    Calls Try.prog 16 #[.pointer (some ⟨p, 0, none⟩)] w fun e w' => e = .returned (.tuple #[.bool (recB D), .int .i64 (recR D).1]) ∧ Sat W w' (IsDisk p (recR D).2 :: L) := by
  have HG := Lib.hid hG
  have HN := Lib.hid hn
  have HBL := Lib.hid hG.ok.len
  clear hG
  have HB2 := Lib.hid (atB_at (D := D) (n := 2) (by omega))
  clear hn
  obtain ⟨b, hb⟩ : ∃ b, atB D 2 = b := ⟨_, rfl⟩
  rw [hb] at HB2
  have HBB := Lib.hid hb
  have HLN := Lib.hid (show getN b 0 1 = logN D by rw [← hb]; rfl)
  have hlt := logN_le D
  obtain ⟨n, hn⟩ : ∃ n, logN D = n := ⟨_, rfl⟩
  rw [hn] at HLN hlt
  have HLG := Lib.hid hn
  clear hb hn
  obtain ⟨m, hm⟩ : ∃ m, min n 20 = m := ⟨_, rfl⟩
  have hcase : ((n : Int) ≤ 20 ∧ (m : Int) = n) ∨ ((20 : Int) < (n : Int) ∧ (m : Int) = 20) := by omega
  have hm20 : m ≤ 20 := by omega
  have HM := Lib.hid hm
  have n255 : (n : Int) < 256 := by omega
  clear hm hlt
  rcases hcase with ⟨c1, c2⟩ | ⟨c1, c2⟩
  all_goals
    go_enter Try.func16, Try.ntmps16
    go_wp2_with (first
      | (go_at_call 15; refine (read_ok hS 2 b HB2.out HBL.out).mono ?_; rintro e w1 ⟨q, rfl, hb128, hS1⟩; clear hS; have hS := hS1; clear hS1; have HB128 := Lib.hid hb128; clear hb128)
      | (go_at_call 35; refine (getM_any hS (some ⟨q, 0, none⟩) 128 b HB128.out (fun w h => h.csRd0 (n := 128) Has.z (by decide) (by rw [bv_length, HB128.out])) 0 0 1 (by rfl) (by omega) (by omega) (by omega) HLN.out).mono ?_; rintro e w1 ⟨ok1, rfl, rfl⟩))
    have H0 : Hid (Sat W _ (Tb 40 2 gw (.slice none 0 0) ([]) :: St (([]).map grow) :: Cs q 71 (bv b) :: IsDisk p D :: L)) := Lib.hid ((Sat.mkSt (M := []) hS).tbNil)
    go_loopw [8, 27] (fun v8 v27 wz => ∃ (i : Nat) (xs : List GW), v27 = .int .i64 i ∧ i ≤ m ∧ g2 xs = logG D i ∧ Sat W wz (Tb 40 2 gw (v8) (xs) :: St ((xs).map grow) :: Cs q 71 (bv b) :: IsDisk p D :: L)) (fun _ v27 _ => m - (intOf v27).toNat)
    case atStart => exact ⟨0, [], rfl, by omega, rfl, H0.out⟩
    case round =>
      clear hS H0
      obtain ⟨i, xs, rfl, hi, hx, hS⟩ := hrel
      have HX := Lib.hid hx
      have hxl : xs.length = i := by have := congrArg List.length hx; rwa [g2_len, logG_len] at this
      clear hx
      by_cases hl : i < m
      · have i1 : (i : Int) < (m : Int) := by omega
        have i2 : (i : Int) < 20 := by omega
        have HL := Lib.hid hl
        have HXL := Lib.hid hxl
        have HD := Lib.hid (atB_at (D := D) (n := 3 + i) (by have := HN.out; omega))
        obtain ⟨a, ha⟩ : ∃ a, getN b (1 + 2 * i) 2 = a := ⟨_, rfl⟩
        obtain ⟨d, hd⟩ : ∃ d, atB D (3 + i) = d := ⟨_, rfl⟩
        have HSU := Lib.hid (fun v => (show g2 (xs ++ [⟨(a : Int), v, d⟩]) = logG D (i + 1) by rw [← ha, ← hd, ← HBB.out]; exact logX_succ HX.out))
        rw [hd] at HD
        have HAT := Lib.hid ha
        have HRD := Lib.hid (fun w (M : List Asrt) (h : Sat W w (IsDisk p D :: M)) => (show Calls Try.prog 15 #[.pointer (some ⟨p, 0, none⟩), .int .i64 (3 + (i : Int))] w fun e w' => ∃ q, e = .returned (.tuple #[.slice (some ⟨q, 0, none⟩) 128 128, .int .i64 0]) ∧ d.length = 128 ∧ Sat W w' (Cs q 71 (bv d) :: IsDisk p D :: M) by
          have := read_ok h (3 + i) d HD.out HBL.out
          rw [show (((3 + i : Nat) : Int)) = 3 + (i : Int) by omega] at this
          exact this))
        clear hl ha hd hxl
        go_wp2_with (first
          | (go_at_call 35; refine (getM_any hS (some ⟨q, 0, none⟩) 128 b HB128.out (fun w h => h.csRd0 (n := 128) (Has.s (Has.s Has.z)) (by decide) (by rw [bv_length, HB128.out])) _ (1 + 2 * i) 2 (by omega) (by omega) (by omega) (by omega) HAT.out).mono ?_; rintro e w1 ⟨ok1, rfl, rfl⟩)
          | (go_at_call 15; refine (HRD.out _ _ (hS.re [3])).mono ?_; rintro e w1 ⟨r, rfl, hd128, hS1⟩; clear hS; have hS := hS1; clear hS1; have HD128 := Lib.hid hd128; clear hd128; replace hS := (sl_of_cs hS HD128.out).re [2, 3, 4, 1, 0])
          | (refine toList (by rfl) ?_; refine bsF hS _ _ _ (by rfl) (elOf (by rfl)) [.agg (gw (⟨(a : Int), .slice (some ⟨r, 0, none⟩) 128 128, d⟩ : GW)).toArray] (by rfl) (by rfl) (by decide) (by decide) (by intro v hv; rw [List.mem_singleton.1 hv]; rfl) ?_; intro b1 w1 hS1; clear hS; have hS := hS1; clear hS1; rw [agg1] at hS)
          | (refine toList (by rfl) ?_; refine apTbS (f := gw) hS _ _ _ _ (by rfl) _ _ (by rfl) (by rfl) (elOf (by rfl)) (by rfl) (by decide) (inOf (by rfl)) (by first | exact Has.z | exact Has.s Has.z | exact Has.s (Has.s Has.z) | exact Has.s (Has.s (Has.s Has.z)) | exact Has.s (Has.s (Has.s (Has.s Has.z))) | exact Has.s (Has.s (Has.s (Has.s (Has.s Has.z))))) [(⟨(a : Int), .slice (some ⟨r, 0, none⟩) 128 128, d⟩ : GW)] (by exact gw_len _) (by exact hS.src1 (f := gw) Has.z rfl) (by exact gw_ones _ (fun x hx => by rw [List.mem_singleton.1 hx]; exact ⟨_, _, _, rfl⟩)) (by simp; have := HXL.out; omega) (by simp; have := HXL.out; omega) ?_; intro ao5 c5 w1 hcap5 hS1; clear hS; have hS := hS1; clear hS1; dsimp only [List.set_cons_zero, List.set_cons_succ] at hS))
        refine ⟨⟨i + 1, _, by go_num, HL.out, HSU.out (.slice (some ⟨r, 0, none⟩) 128 128), ?_⟩, by simp [intOf]; have := HL.out; omega⟩
        have h3 := (Sat.stSnoc (hS.drop.re [4, 1])).pull1
        simp only [List.length_append, List.length_singleton] at h3
        rw [List.map_append]
        exact h3
      · have i1 : ¬ (i : Int) < (m : Int) := by omega
        by_cases h20 : 20 < n
        · have HNO := Lib.hid (recR_no (recOk_many HLG.out h20))
          have e20 : decide ((20 : Int) < (n : Int)) = true := decide_eq_true (by omega)
          clear hl h20
          go_wp2
          go_ret2
          rw [HNO.out.1, HNO.out.2]
          exact ⟨rfl, hS.drop.drop.drop⟩
        · have hin : i = n := by omega
          have HXN := Lib.hid (show g2 xs = logG D n by rw [← hin]; exact HX.out)
          have HXL := Lib.hid (show xs.length ≤ 20 by omega)
          have HOF := Lib.hid (recOk_few HLG.out (by omega) HXN.out)
          have n20 : ¬ (20 : Int) < (n : Int) := by omega
          have e20 : decide ((20 : Int) < (n : Int)) = false := decide_eq_false n20
          obtain ⟨ao, c, rfl, _⟩ := hS.tbShape (k := 0) rfl
          have HCH := Lib.hid (fun w (h : Sat W w (Tb 40 2 gw (.slice ao xs.length c) (xs) :: St ((xs).map grow) :: Cs q 71 (bv b) :: IsDisk p D :: L)) => wcheck_any h xs ao c (fun w h => grows_rd h) (by have := HXL.out; omega) (D.blocks.length : Nat))
          clear hl h20 hin hxl
          cases hok : okG D.blocks.length (g2 xs)
          · have HNO := Lib.hid (recR_no (D := D) (by rw [HOF.out, hok]; rfl))
            rw [hok] at HCH
            clear hok
            go_wp2_with (first
              | (go_at_call 33; refine (blocks_any (hS.re [3]) (n := D.blocks.length) rfl).mono ?_; rintro e w1 ⟨rfl, rfl⟩)
              | (go_at_call 19; refine (HCH.out _ hS).mono ?_; rintro e w1 ⟨rfl, hS1⟩; clear hS; have hS := hS1; clear hS1))
            all_goals (go_ret2; rw [HNO.out.1, HNO.out.2]; exact ⟨rfl, hS.drop.drop.drop⟩)
          · have hl128 : (hdr (g2 xs)).length = 128 := hdr_len (okG_len hok).2
            have HHD := Lib.hid (fun w (h : Sat W w (Tb 40 2 gw (.slice ao xs.length c) (xs) :: St ((xs).map grow) :: Cs q 71 (bv b) :: IsDisk p D :: L)) => wheader_any h xs ao c (fun w h => grows_rd h) HXL.out (logG_range D HXN.out))
            have HEQ := Lib.hid (fun v w (h : Sat W w (Sl 5 1 v 128 (bv (hdr (g2 xs))) :: Tb 40 2 gw (.slice ao xs.length c) (xs) :: St ((xs).map grow) :: Cs q 71 (bv b) :: IsDisk p D :: L)) => equal_any h (hdr (g2 xs)) b v (.slice (some ⟨q, 0, none⟩) 128 128) 128 hl128 HB128.out (fun w h => h.slRd Has.z) (fun w h => h.csRd0 (n := 128) (Has.s (Has.s (Has.s Has.z))) (by decide) (by rw [bv_length, HB128.out])) (by decide))
            rw [hok] at HCH
            by_cases he : hdr (g2 xs) = b
            · have hrok : recOk D = true := by rw [HOF.out, hok, HBB.out, decide_eq_true he]; rfl
              have HYES := Lib.hid (recR_yes hrok HLG.out HXN.out)
              rw [decide_eq_true he] at HEQ
              have HDN := Lib.hid (fun v w (h : Sat W w (IsDisk p D :: Sl 5 1 v 128 (bv (hdr (g2 xs))) :: Tb 40 2 gw (.slice ao xs.length c) xs :: St (xs.map grow) :: Cs q 71 (bv b) :: L)) => done_any h HG.out (by omega) xs ao c (fun w h => grows_rd h.drop) HXL.out)
              obtain ⟨z, hz⟩ : ∃ z, (runW D (doneL (g2 xs))).1 = z := ⟨_, rfl⟩
              rw [hz] at HDN
              have HZ := Lib.hid hz
              clear hok hl128 he hrok hz
              go_wp2_with (first
                | (go_at_call 33; refine (blocks_any (hS.re [3]) (n := D.blocks.length) rfl).mono ?_; rintro e w1 ⟨rfl, rfl⟩)
                | (go_at_call 19; refine (HCH.out _ hS).mono ?_; rintro e w1 ⟨rfl, hS1⟩; clear hS; have hS := hS1; clear hS1)
                | (go_at_call 17; refine (HHD.out _ hS).mono ?_; rintro e w1 ⟨vh, rfl, hS1⟩; clear hS; have hS := hS1; clear hS1)
                | (go_at_call 36; refine (HEQ.out _ _ hS).mono ?_; rintro e w1 ⟨rfl, hS1⟩; clear hS; have hS := hS1; clear hS1)
                | (go_at_call 34; refine (HDN.out _ _ (hS.re [4])).mono ?_; rintro e w1 ⟨rfl, hS1⟩; clear hS; have hS := hS1; clear hS1))
              all_goals (go_ret2; rw [HYES.out.1, HYES.out.2, HZ.out]; exact ⟨by first | rfl | (congr 2; simp), (hS.re [1, 2, 3, 4]).drop.drop.drop.drop⟩)
            · have HNO := Lib.hid (recR_no (D := D) (by rw [HOF.out, HBB.out, decide_eq_false he]; simp))
              rw [decide_eq_false he] at HEQ
              clear hok hl128 he
              go_wp2_with (first
                | (go_at_call 33; refine (blocks_any (hS.re [3]) (n := D.blocks.length) rfl).mono ?_; rintro e w1 ⟨rfl, rfl⟩)
                | (go_at_call 19; refine (HCH.out _ hS).mono ?_; rintro e w1 ⟨rfl, hS1⟩; clear hS; have hS := hS1; clear hS1)
                | (go_at_call 17; refine (HHD.out _ hS).mono ?_; rintro e w1 ⟨vh, rfl, hS1⟩; clear hS; have hS := hS1; clear hS1)
                | (go_at_call 36; refine (HEQ.out _ _ hS).mono ?_; rintro e w1 ⟨rfl, hS1⟩; clear hS; have hS := hS1; clear hS1))
              all_goals (go_ret2; rw [HNO.out.1, HNO.out.2]; exact ⟨rfl, hS.drop.drop.drop.drop⟩)
end Go.Proofs.Ytefbkpggmmhgcaa
