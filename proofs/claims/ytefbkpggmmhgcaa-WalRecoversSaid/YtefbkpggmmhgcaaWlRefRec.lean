/-
  Package pedigreeref07: Commit, Recover.
-/
import Derived.Test.YtefbkpggmmhgcaaWlRefDo
namespace Go.Proofs.Ytefbkpggmmhgcaa
open Go.RowKit Go.Sep
set_option linter.unusedSimpArgs false
set_option linter.unusedVariables false
attribute [local irreducible] Go.Oper.wp Go.wpList Go.Calls Go.Code.wp Go.Sep.Reg
theorem okG_range2 {n : Int} (hn : n ≤ 1024) {g : G2} (h : okG n g = true) : ∀ x ∈ g, -9223372036854775808 ≤ x.1 ∧ x.1 ≤ 9223372036854775807 := fun x hx => by
  obtain ⟨i, hi⟩ := List.mem_iff_getElem?.1 hx
  have := okW_at (okG_at h hi).1
  omega
theorem okG_d9 {n : Int} {g : G2} (h : okG n g = true) : ∀ x ∈ g, x.2.length ≤ 1000000 := fun x hx => by
  obtain ⟨i, hi⟩ := List.mem_iff_getElem?.1 hx
  have := okW_data (okG_at h hi).1
  omega
set_option maxRecDepth 20000 in
set_option maxHeartbeats 4000000 in
theorem rcommit_any {W w : World} {L : List Asrt} {p k : Nat} {D : DiskS} {R : RefS} (hS : Sat W w (IsRef p R :: L)) (hR : Rel D R) (hG : DG D k) (hk : k ≤ 800) (g : G2) (ao : Option Addr) (c : Nat) (hr : ∀ w, Sat W w L → Rd w (.slice ao g.length c) g.length 2 (g.flatMap wvI)) (hb : g.length ≤ 1000000) :
    Calls Try.prog 24 #[.pointer (some ⟨p, 0, none⟩), .slice ao g.length c] w fun e w' => e = .returned (.int .i64 (commitR D g).1) ∧ Sat W w' (IsRef p (if okG D.blocks.length g then runRf D R (commitL g) else R) :: L) := by
  have HR := Lib.hid hr
  have HRL := Lib.hid hR
  obtain ⟨_, _, he, hc1, hc2, _, h5⟩ := hr w hS.drop
  simp only [Value.slice.injEq, true_and] at he
  obtain ⟨rfl, rfl⟩ := he
  have H5 := Lib.hid h5
  have HG := Lib.hid hG
  have hlen : R.L.length = D.blocks.length := by rw [hR.blocks]
  have HLE := Lib.hid hlen
  obtain ⟨v1, v2, hS⟩ := IsRef.open hS
  obtain ⟨al, cl, rfl, _⟩ := hS.tbShape (k := 1) rfl
  have HCH := Lib.hid (fun w (h : Sat W w (Cs p 87 [.slice al R.L.length cl, v2, .bool R.armed, .int .i64 R.left, .bool R.dead] :: Tb 9 1 sv (.slice al R.L.length cl) R.L :: Tb 56 2 wv v2 R.Log :: L)) => rcheck_any h g ao c (fun w h => HR.out w h.drop.drop.drop) hb (R.L.length : Nat))
  rw [hlen] at HCH
  have h1024 := hG.ok.len
  clear hr h5 hG hR
  cases hok : okG D.blocks.length g
  · have HC := Lib.hid (show commitR D g = (1, D) by unfold commitR; rw [hok]; rfl)
    rw [HC.out, if_neg (by decide)]
    rw [hok] at HCH
    clear hok
    rw [← hlen] at HCH
    clear hlen h1024
    go_enter Try.func24, Try.ntmps24
    go_wp2_with (first
      | (refine toList (by rfl) ?_; refine ld hS _ _ (by rfl) _ _ (by rfl) (agOf (by rfl)) Has.z (by rfl) ?_)
      | (go_at_call 11; refine (HCH.out _ hS).mono ?_; rintro e w1 ⟨rfl, hS1⟩; clear hS; have hS := hS1; clear hS1; replace hS := IsRef.mk hS))
    go_ret
    exact ⟨rfl, hS⟩
  · have HC := Lib.hid (show commitR D g = runW D (commitL g) by unfold commitR; rw [hok]; rfl)
    have HOK := Lib.hid hok
    have HLEN := Lib.hid (okG_len hok)
    have h20 : g.length ≤ 20 := HLEN.out.2
    have HD9 := Lib.hid (okG_d9 hok)
    have HRG := Lib.hid (okG_range2 (by omega) hok)
    rw [HC.out, if_pos rfl]
    rw [hok] at HCH
    clear hok
    obtain ⟨l, hl⟩ : ∃ l, logL g ++ [(2, hdr g)] = l := ⟨_, rfl⟩
    have HL := Lib.hid hl
    have HLL := Lib.hid (show l.length = g.length + 1 by rw [← hl]; simp [logL_len])
    have HE := Lib.hid (show commitL g = l ++ doneL g by rw [commitL_eq, hl])
    rw [HE.out]
    rw [← hlen] at HCH
    clear hl hlen h1024
    go_enter Try.func24, Try.ntmps24
    go_wp2_with (first
      | (refine toList (by rfl) ?_; refine ld hS _ _ (by rfl) _ _ (by rfl) (agOf (by rfl)) Has.z (by rfl) ?_)
      | (go_at_call 11; refine (HCH.out _ hS).mono ?_; rintro e w1 ⟨rfl, hS1⟩; clear hS; have hS := hS1; clear hS1; replace hS := IsRef.mk hS))
    have H0 := Lib.hid hS
    go_loopw [5] (fun v wz => ∃ (i : Nat) (D' : DiskS) (R' : RefS), v = .int .i64 i ∧ i ≤ g.length ∧ runW D (l.take i) = (0, D') ∧ runRf D R (l.take i) = R' ∧ Sat W wz (IsRef p R' :: L)) (fun v _ => g.length - (intOf v).toNat)
    case atStart => exact ⟨0, D, R, rfl, by omega, rfl, rfl, H0.out⟩
    case round =>
      clear hS H0
      obtain ⟨i, D', R', rfl, hi, hrun, hrun2, hS⟩ := hrel
      have HRUN := Lib.hid hrun
      have HREL := Lib.hid (show Rel D' R' by have := HRL.out.run (l.take i); rw [hrun, hrun2] at this; exact this)
      have HRUN2 := Lib.hid hrun2
      clear hrun hrun2
      by_cases hlt : i < g.length
      · obtain ⟨b, off, rfl, _⟩ := H5.out (by omega)
        obtain ⟨⟨xa, xd⟩, hx⟩ : ∃ x, g[i]? = some x := ⟨_, List.getElem?_eq_getElem hlt⟩
        have HDL := Lib.hid (show xd.length ≤ 1000000 from HD9.out _ (List.mem_of_getElem? hx))
        have HX := Lib.hid hx
        have HLT := Lib.hid hlt
        have i1 : (i : Int) < (g.length : Int) := by omega
        have i2 : (i : Int) < 20 := by omega
        have hlx : l[i]? = some (((3 + i : Nat) : Int), xd) := by rw [← HL.out]; exact commitL_log (x := (xa, xd)) hx
        have HN := Lib.hid (runW_next HRUN.out hlx)
        have HN2 := Lib.hid (runRf_next (R := R) HRUN.out hlx)
        rw [HRUN2.out] at HN2
        have HWR := Lib.hid (fun (qc : Nat × Nat) w (h : Sat W w (IsRef p R' :: Sl 5 1 (.slice (some ⟨qc.1, 0, none⟩) xd.length qc.2) xd.length (bv xd) :: L)) => (show Calls Try.prog 27 #[.pointer (some ⟨p, 0, none⟩), .int .i64 (3 + (i : Int)), .slice (some ⟨qc.1, 0, none⟩) xd.length qc.2] w fun e w' => e = .returned (.int .i64 (wcode D' ((3 + i : Nat) : Int) xd.length)) ∧ Sat W w' (IsRef p (rnext D' R' ((3 + i : Nat) : Int) xd) :: Sl 5 1 (.slice (some ⟨qc.1, 0, none⟩) xd.length qc.2) xd.length (bv xd) :: L) by
          have := rwriteR_any h HREL.out (HG.out.step HRUN.out) (by omega) ((3 + i : Nat) : Int) (.slice (some ⟨qc.1, 0, none⟩) xd.length qc.2) xd rfl (fun w h => h.slRd Has.z)
          rw [show (((3 + i : Nat) : Int)) = 3 + (i : Int) by omega] at this ⊢
          exact this))
        dsimp only at HN HN2
        obtain ⟨z, hz⟩ : ∃ z, wcode D' ((3 + i : Nat) : Int) xd.length = z := ⟨_, rfl⟩
        rw [hz] at HN HWR
        clear hx hlt hz hlx
        by_cases h0 : z = 0
        · subst h0
          go_wp2_with (first
            | (refine toList (by rfl) ?_; refine wp_of_reads (rLdRd (HR.out _ hS.drop) (wvI_len g) _ _ (by rfl) _ (by rfl) (agOf (by rfl)) i 1 (by omega) HX.out (by rfl) (by omega)) ?_)
            | (refine toList (by rfl) ?_; refine cvB hS _ _ _ (by rfl) xd (by rfl) bstr (by have := HDL.out; omega) ?_; intro q cq w1 hS1; clear hS; have hS := hS1; clear hS1)
            | (go_at_call 27; refine (HWR.out (q, cq) _ hS.pull1).mono ?_; rintro e w1 ⟨rfl, hS1⟩; clear hS; have hS := hS1; clear hS1))
          exact ⟨⟨i + 1, _, _, by go_num, HLT.out, HN.out, HN2.out, hS.pull1.drop⟩, by simp [intOf]; have := HLT.out; omega⟩
        · have e0 : (z != 0) = true := bne_iff_ne.2 h0
          have hst := runW_stop (D := D) (l := l) (i := i + 1) (by rw [HN.out]; exact h0)
          have HST := Lib.hid (show runW D (l ++ doneL g) = (z, wnext D' ((3 + i : Nat) : Int) xd) by rw [runW_append, hst, HN.out, if_neg h0])
          have HST2 := Lib.hid (show runRf D R (l ++ doneL g) = rnext D' R' ((3 + i : Nat) : Int) xd by rw [runRf_append, hst, HN.out, if_neg h0, runRf_stop (i := i + 1) (by rw [HN.out]; exact h0), HN2.out])
          clear h0 hst
          go_wp2_with (first
            | (refine toList (by rfl) ?_; refine wp_of_reads (rLdRd (HR.out _ hS.drop) (wvI_len g) _ _ (by rfl) _ (by rfl) (agOf (by rfl)) i 1 (by omega) HX.out (by rfl) (by omega)) ?_)
            | (refine toList (by rfl) ?_; refine cvB hS _ _ _ (by rfl) xd (by rfl) bstr (by have := HDL.out; omega) ?_; intro q cq w1 hS1; clear hS; have hS := hS1; clear hS1)
            | (go_at_call 27; refine (HWR.out (q, cq) _ hS.pull1).mono ?_; rintro e w1 ⟨rfl, hS1⟩; clear hS; have hS := hS1; clear hS1))
          go_ret
          rw [HST.out, HST2.out]
          exact ⟨rfl, hS.pull1.drop⟩
      · obtain rfl : i = g.length := by omega
        have hlx : l[g.length]? = some (2, hdr g) := by rw [← HL.out]; exact commitL_hdr g
        have HN := Lib.hid (runW_next HRUN.out hlx)
        have HN2 := Lib.hid (runRf_next (R := R) HRUN.out hlx)
        have hT : l.take (g.length + 1) = l := List.take_of_length_le (by rw [HLL.out]; exact Nat.le_refl _)
        rw [hT] at HN HN2
        rw [HRUN2.out] at HN2
        have hl128 : (hdr g).length = 128 := hdr_len HLEN.out.2
        have HHD := Lib.hid (fun w (h : Sat W w (IsRef p R' :: L)) => rheader_any h g ao c (fun w h => HR.out w h.drop) h20 HRG.out HD9.out)
        have HWR := Lib.hid (fun (v : Value) w (h : Sat W w (IsRef p R' :: Sl 5 1 v 128 (bv (hdr g)) :: L)) => rwriteR_any h HREL.out (HG.out.step HRUN.out) (by omega) 2 v (hdr g) (m := 128) hl128 (fun w h => h.slRd Has.z))
        have HREL2 := Lib.hid (HREL.out.next 2 (hdr g))
        have HG2 := Lib.hid ((HG.out.step HRUN.out).next 2 (hdr g))
        obtain ⟨q, hq⟩ : ∃ q, wcode D' 2 (hdr g).length = q := ⟨_, rfl⟩
        dsimp only at HN HN2
        rw [hq] at HN HWR
        obtain ⟨D2, hD2⟩ : ∃ D2, wnext D' 2 (hdr g) = D2 := ⟨_, rfl⟩
        obtain ⟨R2, hR2⟩ : ∃ R2, rnext D' R' 2 (hdr g) = R2 := ⟨_, rfl⟩
        rw [hD2] at HN HREL2 HG2
        rw [hR2] at HN2 HWR HREL2
        clear hlt hq hl128 hD2 hR2 hT hlx
        by_cases h0 : q = 0
        · subst h0
          have HDN := Lib.hid (fun (A : Asrt) w (h : Sat W w (IsRef p R2 :: A :: L)) => rhome_any h HREL2.out HG2.out (by omega) g ao c (fun w h => HR.out w h.drop) h20 HD9.out)
          have HST := Lib.hid (show runW D (l ++ doneL g) = runW D2 (doneL g) by rw [runW_append, HN.out, if_pos rfl])
          have HST2 := Lib.hid (show runRf D R (l ++ doneL g) = runRf D2 R2 (doneL g) by rw [runRf_append, HN.out, if_pos rfl, HN2.out])
          go_wp2_with (first
            | (go_at_call 23; refine (HHD.out _ hS).mono ?_; rintro e w1 ⟨vh, rfl, hS1⟩; clear hS; have hS := hS1; clear hS1)
            | (go_at_call 27; refine (HWR.out _ _ hS.pull1).mono ?_; rintro e w1 ⟨rfl, hS1⟩; clear hS; have hS := hS1; clear hS1)
            | (go_at_call 47; refine (HDN.out _ _ hS).mono ?_; rintro e w1 ⟨rfl, hS1⟩; clear hS; have hS := hS1; clear hS1))
          go_ret
          rw [HST.out, HST2.out]
          exact ⟨rfl, hS.pull1.drop⟩
        · have e0 : (q != 0) = true := bne_iff_ne.2 h0
          have HST := Lib.hid (show runW D (l ++ doneL g) = (q, D2) by rw [runW_append, HN.out, if_neg h0])
          have HST2 := Lib.hid (show runRf D R (l ++ doneL g) = R2 by rw [runRf_append, HN.out, if_neg h0, HN2.out])
          clear h0
          go_wp2_with (first
            | (go_at_call 23; refine (HHD.out _ hS).mono ?_; rintro e w1 ⟨vh, rfl, hS1⟩; clear hS; have hS := hS1; clear hS1)
            | (go_at_call 27; refine (HWR.out _ _ hS.pull1).mono ?_; rintro e w1 ⟨rfl, hS1⟩; clear hS; have hS := hS1; clear hS1))
          go_ret
          rw [HST.out, HST2.out]
          exact ⟨rfl, hS.pull1.drop⟩
end Go.Proofs.Ytefbkpggmmhgcaa
