/-
  Package pedigreeref07: Recover.
-/
import Derived.Test.YtefbkpggmmhgcaaWlRefRec
import Derived.Test.YtefbkpggmmhgcaaWlAw
namespace Go.Proofs.Ytefbkpggmmhgcaa
open Go.RowKit Go.Sep
set_option linter.unusedSimpArgs false
set_option linter.unusedVariables false
attribute [local irreducible] Go.Oper.wp Go.wpList Go.Calls Go.Code.wp Go.Sep.Reg
theorem getN_first {b : List UInt8} (h : 0 < b.length) : getN b 0 1 = (b[0]).toNat := by
  unfold getN
  rw [if_pos (by omega), List.drop_zero]
  cases b with
  | nil => simp at h
  | cons x b => simp [un]
def recRf (D : DiskS) (R : RefS) : RefS := if recOk D then runRf D R (doneL (logG D (logN D))) else R
theorem recRf_no {D : DiskS} {R : RefS} (h : recOk D = false) : recRf D R = R := by unfold recRf; rw [h]; rfl
theorem logG_d {D : DiskS} (hD : ∀ b ∈ D.blocks, b.length = 128) (n : Nat) : ∀ x ∈ logG D n, x.2.length ≤ 1000000 := fun x hx => by
  obtain ⟨i, _, rfl⟩ := List.mem_map.1 hx
  show (atB D (3 + i)).length ≤ _
  unfold atB
  cases h : D.blocks[3 + i]? with
  | none => simp
  | some b =>
    have := hD b (List.mem_of_getElem? h)
    show b.length ≤ _; omega
theorem logG_range2 (D : DiskS) (n : Nat) : ∀ x ∈ logG D n, -9223372036854775808 ≤ x.1 ∧ x.1 ≤ 9223372036854775807 := fun x hx => by
  obtain ⟨i, _, rfl⟩ := List.mem_map.1 hx
  have := getN_lt (atB D 2) (1 + 2 * i) 2
  show -9223372036854775808 ≤ ((getN (atB D 2) (1 + 2 * i) 2 : Nat) : Int) ∧ ((getN (atB D 2) (1 + 2 * i) 2 : Nat) : Int) ≤ _
  omega
theorem ix_strv (x : UInt8) (b : List UInt8) (w : World) : (Instr.index 9 (strv (x :: b)) (.int .i64 0)).run Try.prog w = .ok (.int .u8 (x.toNat : Int)) w := by
  first | rfl | kernel_rfl | (simp [Instr.index, strv]; done)
theorem ne_strv2 (a b : List UInt8) (w : World) : (binOp .neq 9 (.string ⟨a.toArray⟩) (strv b)).run Try.prog w = .ok (.bool (!(a == b))) w := ne_strv a b w
theorem neg_strv2 (a b : List UInt8) (x y : Operand) (w : World) : (eqGuard .neq 9 x y (.string ⟨a.toArray⟩) (strv b)).run Try.prog w = .ok () w := by simp [eqGuard, strv]
theorem recOk_few2 {D : DiskS} {n : Nat} (h : logN D = n) (hn : n ≤ 20) : recOk D = (okG D.blocks.length (logG D n) && decide (hdr (logG D n) = atB D 2)) := by
  unfold recOk
  rw [h, decide_eq_true hn]; rfl
theorem recOk_none {D : DiskS} (h : logN D = 0) : recOk D = false := by unfold recOk; rw [h]; rfl
theorem recRf_yes {D : DiskS} {R : RefS} {n : Nat} (h : recOk D = true) (hl : logN D = n) : recR D = runW D (doneL (logG D n)) ∧ recB D = decide ((runW D (doneL (logG D n))).1 = 0) ∧ recRf D R = runRf D R (doneL (logG D n)) := by
  have e : recR D = runW D (doneL (logG D n)) := by unfold recR; rw [h, if_pos rfl, hl]
  exact ⟨e, by unfold recB; rw [h, e]; rfl, by unfold recRf; rw [h, if_pos rfl, hl]⟩
set_option maxRecDepth 20000 in
set_option maxHeartbeats 4000000 in
theorem rrecover_any {W w : World} {L : List Asrt} {p k : Nat} {D : DiskS} {R : RefS} (hS : Sat W w (IsRef p R :: L)) (hR : Rel D R) (hG : DG D k) (hk : k ≤ 800) (hn : 26 ≤ D.blocks.length) (hD : ∀ b ∈ D.blocks, b.length = 128) :
    Calls Try.prog 29 #[.pointer (some ⟨p, 0, none⟩)] w fun e w' => e = .returned (.tuple #[.bool (recB D), .int .i64 (recR D).1]) ∧ Sat W w' (IsRef p (recRf D R) :: L) := by
  have HRL := Lib.hid hR
  have HG := Lib.hid hG
  have HD := Lib.hid hD
  have HBL := Lib.hid hR.blocks
  have HLEN := Lib.hid (show R.L.length = D.blocks.length by rw [hR.blocks])
  have h1024 : (R.L.length : Int) ≤ 1024 := by have := hG.ok.len; rw [hR.blocks] at this; omega
  have h26 : (26 : Int) ≤ (R.L.length : Int) := by rw [← hR.blocks]; omega
  have HB2 := Lib.hid (show R.L[2]? = some (atB D 2) by rw [← hR.blocks]; exact atB_at (by omega))
  obtain ⟨v1, v2, hS⟩ := IsRef.open hS
  obtain ⟨al, cl, rfl, _⟩ := hS.tbShape (k := 1) rfl
  obtain ⟨ba, oa, cl', hv, _⟩ := hS.tbAddr (k := 1) rfl (by omega)
  simp only [Value.slice.injEq, true_and] at hv
  obtain ⟨rfl, rfl⟩ := hv
  have hb128 : (atB D 2).length = 128 := hD _ (List.mem_of_getElem? (by rw [hR.blocks]; exact HB2.out))
  have hl0 : logN D = ((atB D 2)[0]'(by rw [hb128]; decide)).toNat := getN_first (by rw [hb128]; decide)
  obtain ⟨x, b', hxb⟩ : ∃ x b', atB D 2 = x :: b' := by
    cases h : atB D 2 with
    | nil => rw [h] at hb128; simp at hb128
    | cons x b' => exact ⟨x, b', rfl⟩
  have hlx : logN D = x.toNat := by rw [hl0]; simp [hxb]
  have hix := fun w => ix_strv x b' w
  rw [← hxb] at hix
  obtain ⟨b, hb⟩ : ∃ b, atB D 2 = b := ⟨_, rfl⟩
  rw [hb] at HB2 hb128 hix
  have HBB := Lib.hid hb
  have HB128 := Lib.hid hb128
  obtain ⟨n, hn'⟩ : ∃ n, x.toNat = n := ⟨_, rfl⟩
  have hn255 : n < 256 := by rw [← hn']; exact UInt8.toNat_lt x
  rw [hn'] at hlx hix
  have HLX := Lib.hid hlx
  clear hR hG hn hD hb128 hl0 hxb hlx hn' hb
  by_cases hout : n < 1 ∨ 20 < n
  · have HNO : Hid (recOk D = false) := Lib.hid (by
      rcases hout with h | h
      · exact recOk_none (by rw [HLX.out]; omega)
      · exact recOk_many HLX.out h)
    have HN1 := Lib.hid (recR_no HNO.out)
    have HN2 := Lib.hid (recRf_no (R := R) HNO.out)
    have hcs : decide ((n : Int) < 1) = true ∨ (decide ((n : Int) < 1) = false ∧ decide ((20 : Int) < (n : Int)) = true) := by
      simp only [decide_eq_true_eq, decide_eq_false_iff_not]; omega
    clear hout
    rcases hcs with e1 | ⟨e1, e2⟩
    all_goals
      go_enter Try.func29, Try.ntmps29
      go_wp2_with (first
        | (refine toList (by rfl) ?_; refine ld hS _ _ (by rfl) _ _ (by rfl) (agOf (by rfl)) Has.z (by rfl) ?_)
        | (refine toList (by rfl) ?_; refine ldTb (f := sv) hS _ _ (by rfl) _ _ (by rfl) (agOf (by rfl)) (Has.s Has.z) 2 0 (by omega) HB2.out (by rfl) ?_))
      go_ret2
      rw [HN1.out.1, HN1.out.2, HN2.out]
      exact ⟨rfl, IsRef.mk hS⟩
  have e1 : decide ((n : Int) < 1) = false := decide_eq_false (by omega)
  have e2 : decide ((20 : Int) < (n : Int)) = false := decide_eq_false (by omega)
  have h20 : n ≤ 20 := by omega
  clear hout
  go_enter Try.func29, Try.ntmps29
  go_wp2_with (first
    | (refine toList (by rfl) ?_; refine ld hS _ _ (by rfl) _ _ (by rfl) (agOf (by rfl)) Has.z (by rfl) ?_)
    | (refine toList (by rfl) ?_; refine ldTb (f := sv) hS _ _ (by rfl) _ _ (by rfl) (agOf (by rfl)) (Has.s Has.z) 2 0 (by omega) HB2.out (by rfl) ?_))
  have H0 : Hid (Sat W _ (Tb 56 2 wvI (.slice none 0 0) (logG D 0) :: Cs p 87 [.slice (some ⟨ba, oa, none⟩) R.L.length cl, v2, .bool R.armed, .int .i64 R.left, .bool R.dead] :: Tb 9 1 sv (.slice (some ⟨ba, oa, none⟩) R.L.length cl) R.L :: Tb 56 2 wv v2 R.Log :: L)) := Lib.hid hS.tbNil
  go_loopw [6, 7] (fun v6 v7 wz => ∃ i : Nat, v7 = .int .i64 i ∧ i ≤ n ∧ Sat W wz (Tb 56 2 wvI v6 (logG D i) :: Cs p 87 [.slice (some ⟨ba, oa, none⟩) R.L.length cl, v2, .bool R.armed, .int .i64 R.left, .bool R.dead] :: Tb 9 1 sv (.slice (some ⟨ba, oa, none⟩) R.L.length cl) R.L :: Tb 56 2 wv v2 R.Log :: L)) (fun _ v7 _ => n - (intOf v7).toNat)
  case atStart => exact ⟨0, rfl, by omega, H0.out⟩
  case round =>
    clear hS H0
    obtain ⟨i, rfl, hi, hS⟩ := hrel
    by_cases hl : i < n
    · have i1 : (i : Int) < (n : Int) := by omega
      have i2 : (i : Int) < 20 := by omega
      have i3 : 3 + (i : Int) < (R.L.length : Int) := by omega
      have HL := Lib.hid hl
      have HDI := Lib.hid (show R.L[3 + i]? = some (atB D (3 + i)) by rw [← HBL.out]; exact atB_at (by rw [← HLEN.out]; omega))
      obtain ⟨a, ha⟩ : ∃ a, getN b (1 + 2 * i) 2 = a := ⟨_, rfl⟩
      obtain ⟨d, hd⟩ : ∃ d, atB D (3 + i) = d := ⟨_, rfl⟩
      have HSU := Lib.hid (show logG D i ++ [((a : Int), d)] = logG D (i + 1) by rw [logG_succ, HBB.out, ha, hd])
      rw [hd] at HDI
      have HAT := Lib.hid ha
      have HLL := Lib.hid (show (logG D i).length ≤ 20 by rw [logG_len]; omega)
      clear hl ha hd
      go_wp2_with (first
        | (refine toList (by rfl) ?_; refine cvB hS _ _ _ (by rfl) b (by rfl) bstr (by rw [HB128.out]; decide) ?_; intro q cq w1 hS1; clear hS; have hS := hS1; clear hS1)
        | (go_at_call 49; refine (ref_getN_any hS (some ⟨q, 0, none⟩) cq b (fun w h => h.slRd Has.z) _ (1 + 2 * i) 2 (by omega) (by omega) (by omega) (by rw [HB128.out]; decide)).mono ?_; rw [HAT.out]; rintro e w1 ⟨ok1, rfl, rfl⟩; replace hS := hS.drop)
        | (refine toList (by rfl) ?_; refine ld hS _ _ (by rfl) _ _ (by rfl) (agOf (by rfl)) (Has.s Has.z) (by rfl) ?_)
        | (refine toList (by rfl) ?_; refine ldTb (f := sv) hS _ _ (by rfl) _ _ (by rfl) (agOf (by rfl)) (Has.s (Has.s Has.z)) (3 + i) 0 (by omega) HDI.out (show (sv d)[0]? = some (.string ⟨d.toArray⟩) from rfl) ?_)
        | (refine toList (by rfl) ?_; refine bsF hS _ _ _ (by rfl) (elOf (by rfl)) [.agg (wvI (((a : Int), d))).toArray] (by rfl) (by rfl) (by decide) (by decide) (by intro v hv; rw [List.mem_singleton.1 hv]; rfl) ?_; intro b1 w1 hS1; clear hS; have hS := hS1; clear hS1; rw [agg1] at hS)
        | (refine toList (by rfl) ?_; refine apTbS (f := wvI) hS _ _ _ _ (by rfl) _ _ (by rfl) (by rfl) (elOf (by rfl)) (by rfl) (by decide) (inOf (by rfl)) (by first | exact Has.z | exact Has.s Has.z | exact Has.s (Has.s Has.z) | exact Has.s (Has.s (Has.s Has.z)) | exact Has.s (Has.s (Has.s (Has.s Has.z))) | exact Has.s (Has.s (Has.s (Has.s (Has.s Has.z))))) [(((a : Int), d))] (by exact wvI_len _) (by exact hS.src1 (f := wvI) Has.z rfl) (by exact wvI_ones _) (by simp; have := HLL.out; omega) (by simp; have := HLL.out; omega) ?_; intro ao5 c5 w1 hcap5 hS1; clear hS; have hS := hS1; clear hS1; dsimp only [List.set_cons_zero, List.set_cons_succ] at hS))
      simp only [List.length_append, List.length_singleton] at hS
      rw [HSU.out] at hS
      exact ⟨⟨i + 1, by go_num, HL.out, hS.drop⟩, by simp [intOf]; have := HL.out; omega⟩
    · have i1 : ¬ (i : Int) < (n : Int) := by omega
      obtain rfl : i = n := by omega
      obtain ⟨ag, cg, rfl, _⟩ := hS.tbShape (k := 0) rfl
      have HOF := Lib.hid (recOk_few2 HLX.out h20)
      have HGL := Lib.hid (show (logG D i).length ≤ 20 by rw [logG_len]; exact h20)
      have HD9 := Lib.hid (logG_d HD.out i)
      have HRG := Lib.hid (logG_range2 D i)
      obtain ⟨g, hg⟩ : ∃ g, logG D i = g := ⟨_, rfl⟩
      rw [hg] at HOF HGL HD9 HRG hS ⊢
      have HGG := Lib.hid hg
      have HCH := Lib.hid (fun w (h : Sat W w (Tb 56 2 wvI (.slice ag g.length cg) g :: Cs p 87 [.slice (some ⟨ba, oa, none⟩) R.L.length cl, v2, .bool R.armed, .int .i64 R.left, .bool R.dead] :: Tb 9 1 sv (.slice (some ⟨ba, oa, none⟩) R.L.length cl) R.L :: Tb 56 2 wv v2 R.Log :: L)) => (show Calls Try.prog 11 #[.slice ag g.length cg, .int .i64 (R.L.length : Int)] w fun e w' => e = .returned (.bool (okG D.blocks.length g)) ∧ Sat W w' (Tb 56 2 wvI (.slice ag g.length cg) g :: Cs p 87 [.slice (some ⟨ba, oa, none⟩) R.L.length cl, v2, .bool R.armed, .int .i64 R.left, .bool R.dead] :: Tb 9 1 sv (.slice (some ⟨ba, oa, none⟩) R.L.length cl) R.L :: Tb 56 2 wv v2 R.Log :: L) by
        rw [← HLEN.out]; exact rcheck_any h g ag cg (fun w h => h.tbRd Has.z) (by have := HGL.out; omega) (R.L.length : Nat)))
      have HHD := Lib.hid (fun w (h : Sat W w (Tb 56 2 wvI (.slice ag g.length cg) g :: Cs p 87 [.slice (some ⟨ba, oa, none⟩) R.L.length cl, v2, .bool R.armed, .int .i64 R.left, .bool R.dead] :: Tb 9 1 sv (.slice (some ⟨ba, oa, none⟩) R.L.length cl) R.L :: Tb 56 2 wv v2 R.Log :: L)) => rheader_any h g ag cg (fun w h => h.tbRd Has.z) HGL.out HRG.out HD9.out)
      have HHL := Lib.hid (hdr_len HGL.out)
      clear hl hg
      cases hok : okG D.blocks.length g
      · have HNO := Lib.hid (show recOk D = false by rw [HOF.out, hok]; rfl)
        rw [hok] at HCH
        clear hok
        go_wp2_with (first
          | (refine toList (by rfl) ?_; refine ld hS _ _ (by rfl) _ _ (by rfl) (agOf (by rfl)) (Has.s Has.z) (by rfl) ?_)
          | (go_at_call 11; refine (HCH.out _ hS).mono ?_; rintro e w1 ⟨rfl, hS1⟩; clear hS; have hS := hS1; clear hS1))
        go_ret2
        rw [(recR_no HNO.out).1, (recR_no HNO.out).2, recRf_no HNO.out]
        exact ⟨rfl, IsRef.mk hS.drop⟩
      · rw [hok] at HCH
        by_cases he : hdr g = b
        · have hrok : recOk D = true := by rw [HOF.out, hok, HBB.out, decide_eq_true he]; rfl
          have hyes := recRf_yes (R := R) hrok HLX.out
          rw [HGG.out] at hyes
          have HYES := Lib.hid hyes
          have HDN := Lib.hid (fun w (h : Sat W w (IsRef p R :: Tb 56 2 wvI (.slice ag g.length cg) g :: L)) => rhome_any h HRL.out HG.out (by omega) g ag cg (fun w h => h.tbRd Has.z) HGL.out HD9.out)
          have hn1 := ne_strv2 (hdr g) b
          have hn2 := neg_strv2 (hdr g) b
          have hbe : (hdr g == b) = true := beq_iff_eq.2 he
          rw [hbe] at hn1
          obtain ⟨z, hz⟩ : ∃ z, (runW D (doneL g)).1 = z := ⟨_, rfl⟩
          rw [hz] at HDN
          have HZ := Lib.hid hz
          clear hok he hrok hyes hz hbe
          by_cases hz0 : z = 0
          · subst hz0
            go_wp2_with (first
              | (refine toList (by rfl) ?_; refine ld hS _ _ (by rfl) _ _ (by rfl) (agOf (by rfl)) (Has.s Has.z) (by rfl) ?_)
              | (go_at_call 11; refine (HCH.out _ hS).mono ?_; rintro e w1 ⟨rfl, hS1⟩; clear hS; have hS := hS1; clear hS1)
              | (go_at_call 23; refine (HHD.out _ hS).mono ?_; rintro e w1 ⟨vh, rfl, hS1⟩; clear hS; have hS := hS1; clear hS1)
              | ((refine toList (by rfl) ?_; refine cvS _ _ _ (by rfl) _ (by rfl) strBytes (by exact hS.slRd Has.z) ?_); replace hS := hS.drop)
              | (go_at_call 47; refine (HDN.out _ (IsRef.mk (hS.re [1, 2, 3]))).mono ?_; rintro e w1 ⟨rfl, hS1⟩; clear hS; have hS := hS1; clear hS1))
            go_ret2
            rw [HYES.out.1, HYES.out.2.1, HYES.out.2.2, HZ.out]
            exact ⟨rfl, hS.pull1.drop⟩
          · have e9 : (z != 0) = true := bne_iff_ne.2 hz0
            have HBF := Lib.hid (show decide (z = 0) = false from decide_eq_false hz0)
            clear hz0
            go_wp2_with (first
              | (refine toList (by rfl) ?_; refine ld hS _ _ (by rfl) _ _ (by rfl) (agOf (by rfl)) (Has.s Has.z) (by rfl) ?_)
              | (go_at_call 11; refine (HCH.out _ hS).mono ?_; rintro e w1 ⟨rfl, hS1⟩; clear hS; have hS := hS1; clear hS1)
              | (go_at_call 23; refine (HHD.out _ hS).mono ?_; rintro e w1 ⟨vh, rfl, hS1⟩; clear hS; have hS := hS1; clear hS1)
              | ((refine toList (by rfl) ?_; refine cvS _ _ _ (by rfl) _ (by rfl) strBytes (by exact hS.slRd Has.z) ?_); replace hS := hS.drop)
              | (go_at_call 47; refine (HDN.out _ (IsRef.mk (hS.re [1, 2, 3]))).mono ?_; rintro e w1 ⟨rfl, hS1⟩; clear hS; have hS := hS1; clear hS1))
            go_ret2
            rw [HYES.out.1, HYES.out.2.1, HYES.out.2.2, HZ.out, HBF.out]
            exact ⟨rfl, hS.pull1.drop⟩
        · have HNO := Lib.hid (show recOk D = false by rw [HOF.out, HBB.out, decide_eq_false he]; simp)
          have hn1 := ne_strv2 (hdr g) b
          have hn2 := neg_strv2 (hdr g) b
          have hbe : (hdr g == b) = false := beq_eq_false_iff_ne.2 he
          rw [hbe] at hn1
          clear hok he hbe
          go_wp2_with (first
            | (refine toList (by rfl) ?_; refine ld hS _ _ (by rfl) _ _ (by rfl) (agOf (by rfl)) (Has.s Has.z) (by rfl) ?_)
            | (go_at_call 11; refine (HCH.out _ hS).mono ?_; rintro e w1 ⟨rfl, hS1⟩; clear hS; have hS := hS1; clear hS1)
            | (go_at_call 23; refine (HHD.out _ hS).mono ?_; rintro e w1 ⟨vh, rfl, hS1⟩; clear hS; have hS := hS1; clear hS1)
            | ((refine toList (by rfl) ?_; refine cvS _ _ _ (by rfl) _ (by rfl) strBytes (by exact hS.slRd Has.z) ?_); replace hS := hS.drop))
          go_ret2
          rw [(recR_no HNO.out).1, (recR_no HNO.out).2, recRf_no HNO.out]
          exact ⟨rfl, IsRef.mk hS.drop⟩
end Go.Proofs.Ytefbkpggmmhgcaa
