/-
  Package pedigreeref07: Header, home, Commit.
-/
import Derived.Test.YtefbkpggmmhgcaaWlArg
namespace Go.Proofs.Ytefbkpggmmhgcaa
open Go.RowKit Go.Sep
set_option linter.unusedSimpArgs false
set_option linter.unusedVariables false
attribute [local irreducible] Go.Oper.wp Go.wpList Go.Calls Go.Code.wp Go.Sep.Reg
def runRf : DiskS → RefS → G2 → RefS
  | _, R, [] => R
  | D, R, x :: l => if wcode D x.1 x.2.length = 0 then runRf (wnext D x.1 x.2) (rnext D R x.1 x.2) l else rnext D R x.1 x.2
theorem Rel.run (l : G2) : ∀ {D : DiskS} {R : RefS}, Rel D R → Rel (runW D l).2 (runRf D R l) := by
  induction l with
  | nil => exact fun h => h
  | cons x l ih =>
    intro D R h
    show Rel (if wcode D x.1 x.2.length = 0 then runW (wnext D x.1 x.2) l else (wcode D x.1 x.2.length, wnext D x.1 x.2)).2 (if wcode D x.1 x.2.length = 0 then runRf (wnext D x.1 x.2) (rnext D R x.1 x.2) l else rnext D R x.1 x.2)
    by_cases h0 : wcode D x.1 x.2.length = 0
    · rw [if_pos h0, if_pos h0]; exact ih (h.next _ _)
    · rw [if_neg h0, if_neg h0]; exact h.next _ _
theorem runRf_append (l m : G2) : ∀ (D : DiskS) (R : RefS), runRf D R (l ++ m) = if (runW D l).1 = 0 then runRf (runW D l).2 (runRf D R l) m else runRf D R l := by
  induction l with
  | nil => intro D R; rfl
  | cons x l ih =>
    intro D R
    show (if wcode D x.1 x.2.length = 0 then runRf (wnext D x.1 x.2) (rnext D R x.1 x.2) (l ++ m) else _) = _
    by_cases h : wcode D x.1 x.2.length = 0
    · have e : runW D (x :: l) = runW (wnext D x.1 x.2) l := by show (if _ then _ else _) = _; rw [if_pos h]
      have e2 : runRf D R (x :: l) = runRf (wnext D x.1 x.2) (rnext D R x.1 x.2) l := by show (if _ then _ else _) = _; rw [if_pos h]
      rw [if_pos h, e, e2]; exact ih _ _
    · have e : runW D (x :: l) = (wcode D x.1 x.2.length, wnext D x.1 x.2) := by show (if _ then _ else _) = _; rw [if_neg h]
      have e2 : runRf D R (x :: l) = rnext D R x.1 x.2 := by show (if _ then _ else _) = _; rw [if_neg h]
      rw [if_neg h, e, e2, if_neg h]
theorem runRf_one (D : DiskS) (R : RefS) (x : Int × List UInt8) : runRf D R [x] = rnext D R x.1 x.2 := by
  show (if wcode D x.1 x.2.length = 0 then runRf (wnext D x.1 x.2) (rnext D R x.1 x.2) [] else _) = _
  split <;> rfl
theorem runRf_next {D D' : DiskS} {R : RefS} {l : G2} {i : Nat} {x : Int × List UInt8} (h : runW D (l.take i) = (0, D')) (hx : l[i]? = some x) : runRf D R (l.take (i + 1)) = rnext D' (runRf D R (l.take i)) x.1 x.2 := by
  rw [List.take_add_one, hx, runRf_append, h, if_pos rfl]
  exact runRf_one D' _ x
theorem runRf_stop {D : DiskS} {R : RefS} {l : G2} {i : Nat} (h : (runW D (l.take i)).1 ≠ 0) : runRf D R l = runRf D R (l.take i) := by
  conv => lhs; rw [← List.take_append_drop i l]
  rw [runRf_append, if_neg h]
theorem rwriteR_any {W w : World} {L : List Asrt} {p k : Nat} {D : DiskS} {R : RefS} (hS : Sat W w (IsRef p R :: L)) (hR : Rel D R) (hG : DG D k) (hk : k ≤ 1000) (n : Int) (v : Value) (b : List UInt8) {m : Nat} (hm : b.length = m) (hb : ∀ w, Sat W w L → Rd w v m 1 (bv b)) :
    Calls Try.prog 27 #[.pointer (some ⟨p, 0, none⟩), .int .i64 n, v] w fun e w' => e = .returned (.int .i64 (wcode D n b.length)) ∧ Sat W w' (IsRef p (rnext D R n b) :: L) := by
  subst hm
  obtain ⟨ao, c, rfl, _⟩ := hb w hS.drop
  exact ref_write_any hS hR n ao c b hb (by have := hG.wr; omega)
/-! ### Header -/
set_option maxRecDepth 20000 in
set_option maxHeartbeats 4000000 in
theorem rheader_any {W w : World} {L : List Asrt} (hS : Sat W w L) (g : G2) (ao : Option Addr) (c : Nat) (hr : ∀ w, Sat W w L → Rd w (.slice ao g.length c) g.length 2 (g.flatMap wvI)) (hb : g.length ≤ 20) (ha : ∀ x ∈ g, -9223372036854775808 ≤ x.1 ∧ x.1 ≤ 9223372036854775807) (hd9 : ∀ x ∈ g, x.2.length ≤ 1000000) :
    Calls Try.prog 23 #[.slice ao g.length c] w fun e w' => ∃ v, e = .returned v ∧ Sat W w' (Sl 5 1 v 128 (bv (hdr g)) :: L) := by
  have HR := Lib.hid hr
  have HA := Lib.hid ha
  have HD9 := Lib.hid hd9
  obtain ⟨_, _, he, hc1, hc2, _, h5⟩ := hr w hS
  simp only [Value.slice.injEq, true_and] at he
  obtain ⟨rfl, rfl⟩ := he
  have H5 := Lib.hid h5
  clear hr h5 ha hd9
  have n1 : (g.length : Int) ≤ 20 := by omega
  have H60 := Lib.hid (hdrB_len (g := g) hb)
  have H64 := Lib.hid (hdr1_len (g := g) hb)
  have HZ := Lib.hid (hd0_zero g)
  go_enter Try.func23, Try.ntmps23
  go_wp2_with (first
    | (go_at_call 43; refine (ref_put_any hS (g.length : Nat) (by omega) (by omega) 1 (by omega)).mono ?_; rintro e w1 ⟨v1, rfl, hS1⟩; clear hS; have hS := hS1; clear hS1))
  have H0 : Hid (Sat W _ (Sl 5 1 v1 (hd0 g 0).length (bv (hd0 g 0)) :: L)) := Lib.hid (by rw [HZ.out]; exact hS)
  go_loopw [3, 4] (fun v3 v4 wz => ∃ k : Nat, v4 = .int .i64 k ∧ k ≤ g.length ∧ Sat W wz (Sl 5 1 v3 (hd0 g k).length (bv (hd0 g k)) :: L)) (fun _ v4 _ => g.length - (intOf v4).toNat)
  case atStart => exact ⟨0, rfl, by omega, H0.out⟩
  case round =>
    clear hS H0
    obtain ⟨k, rfl, hk, hS⟩ := hrel
    by_cases hl : k < g.length
    · have k1 : (k : Int) < (g.length : Int) := by omega
      obtain ⟨b, off, rfl, _⟩ := H5.out (by omega)
      obtain ⟨⟨xa, xd⟩, hx⟩ : ∃ x, g[k]? = some x := ⟨_, List.getElem?_eq_getElem hl⟩
      obtain ⟨r1, r2⟩ := HA.out _ (List.mem_of_getElem? hx)
      dsimp only at r1 r2
      have HX := Lib.hid hx
      have HL := Lib.hid hl
      have HSU := Lib.hid (show hd0 g k ++ le xa 2 = hd0 g (k + 1) from hd0_succ hx)
      have HLN := Lib.hid (hd0_len g k)
      clear hx hl
      go_wp2_with (first
        | (refine toList (by rfl) ?_; refine wp_of_reads (rLdRd (HR.out _ hS.drop) (wvI_len g) _ _ (by rfl) _ (by rfl) (agOf (by rfl)) k 0 (by omega) HX.out (by rfl) (by omega)) ?_)
        | (go_at_call 43; refine (ref_put_any hS xa (by omega) (by omega) 2 (by omega)).mono ?_; rintro e w1 ⟨v2, rfl, hS1⟩; clear hS; have hS := hS1; clear hS1)
        | (refine toList (by rfl) ?_; (refine apB hS _ _ _ _ (by rfl) (by rfl) (by rfl) (elOf (by rfl)) (by rfl) (by rfl) (by rfl) (inOf (by rfl)) (Has.s Has.z) Has.z (by have := HLN.out; simp only [le_length]; omega) ?_; intro v1 w1 hS1; clear hS; have hS := hS1; clear hS1; dsimp only [List.set_cons_zero, List.set_cons_succ] at hS); rw [HSU.out] at hS))
      exact ⟨⟨k + 1, by go_num, HL.out, hS.drop⟩, by simp [intOf]; have := HL.out; omega⟩
    · have k1 : ¬ (k : Int) < (g.length : Int) := by omega
      obtain rfl : k = g.length := by omega
      have HAL := Lib.hid (hd0_all g)
      rw [HAL.out] at hS
      have HLN := Lib.hid (show (hdr0 g).length ≤ 60 by rw [hdr0_len]; omega)
      have HS0 := Lib.hid (hsum_zero g)
      clear hl
      go_wp2_with (first
        | (go_at_call 44; refine (ref_pad_any hS 60 HLN.out (by omega)).mono ?_; rintro e w1 ⟨v3, rfl, hS1⟩; clear hS; have hS := hS1; clear hS1; replace hS : Sat W _ (Sl 5 1 v3 (hdrB g).length (bv (hdrB g)) :: L) := (by rw [H60.out]; exact hS))
        | (go_at_call 45; refine (rof_any (hdrB g) _ _ (hS.slRd Has.z)).mono ?_; rintro e w1 ⟨rfl, rfl⟩))
      have H1 := Lib.hid hS
      go_loopw [5, 6] (fun v5 v6 wz => ∃ k : Nat, v6 = .int .i64 k ∧ k ≤ g.length ∧ v5 = .int .u32 (hsum g k : Nat) ∧ Sat W wz (Sl 5 1 v3 (hdrB g).length (bv (hdrB g)) :: L)) (fun _ v6 _ => g.length - (intOf v6).toNat)
      case atStart => exact ⟨0, rfl, by omega, by rw [HS0.out], H1.out⟩
      case round =>
        clear hS H1
        obtain ⟨k, rfl, hk, rfl, hS⟩ := hrel
        by_cases hl : k < g.length
        · have k1 : (k : Int) < (g.length : Int) := by omega
          obtain ⟨b, off, rfl, _⟩ := H5.out (by omega)
          obtain ⟨⟨xa, xd⟩, hx⟩ : ∃ x, g[k]? = some x := ⟨_, List.getElem?_eq_getElem hl⟩
          have hd9 := HD9.out _ (List.mem_of_getElem? hx)
          dsimp only at hd9
          have HX := Lib.hid hx
          have HL := Lib.hid hl
          have HDL := Lib.hid hd9
          have HLT := Lib.hid (hsum_lt g k)
          have HSU := Lib.hid (show hsum g (k + 1) = adMore (hsum g k) xd from hsum_succ (x := (xa, xd)) hx)
          obtain ⟨s, hs⟩ : ∃ s, hsum g k = s := ⟨_, rfl⟩
          rw [hs] at HLT HSU ⊢
          clear hx hl hs hd9
          go_wp2_with (first
            | (refine toList (by rfl) ?_; refine wp_of_reads (rLdRd (HR.out _ hS.drop) (wvI_len g) _ _ (by rfl) _ (by rfl) (agOf (by rfl)) k 1 (by omega) HX.out (by rfl) (by omega)) ?_)
            | (refine toList (by rfl) ?_; refine cvB hS _ _ _ (by rfl) xd (by rfl) bstr (by have := HDL.out; omega) ?_; intro q cq w1 hS1; clear hS; have hS := hS1; clear hS1)
            | (go_at_call 46; refine (rmore_any s HLT.out xd _ _ (hS.slRd Has.z)).mono ?_; rintro e w1 ⟨rfl, rfl⟩))
          exact ⟨⟨k + 1, by go_num, HL.out, by rw [HSU.out], hS.drop⟩, by simp [intOf]; have := HL.out; omega⟩
        · have k1 : ¬ (k : Int) < (g.length : Int) := by omega
          have HSA := Lib.hid (show hsum g k = hdrS g by rw [← hsum_all, show k = g.length by omega])
          rw [HSA.out]
          have hlt := hdrS_lt g
          obtain ⟨s, hs⟩ : ∃ s, hdrS g = s := ⟨_, rfl⟩
          have HH1 := Lib.hid (show hdrB g ++ le (s : Int) 4 = hdr1 g by rw [← hs]; rfl)
          rw [hs] at hlt ⊢
          have s1 : (s : Int) < 4294967296 := by omega
          have HH64 := Lib.hid (show (hdr1 g).length ≤ 128 by rw [H64.out]; omega)
          have HB60 := Lib.hid (show (hdrB g).length ≤ 1000000 by rw [H60.out]; omega)
          clear hl hs hlt
          go_wp2_with (first
            | (go_at_call 43; refine (ref_put_any hS (s : Int) (by omega) (by omega) 4 (by omega)).mono ?_; rintro e w1 ⟨v4, rfl, hS1⟩; clear hS; have hS := hS1; clear hS1)
            | (refine toList (by rfl) ?_; (refine apB hS _ _ _ _ (by rfl) (by rfl) (by rfl) (elOf (by rfl)) (by rfl) (by rfl) (by rfl) (inOf (by rfl)) (Has.s Has.z) Has.z (by have := HB60.out; simp only [le_length]; omega) ?_; intro v1 w1 hS1; clear hS; have hS := hS1; clear hS1; dsimp only [List.set_cons_zero, List.set_cons_succ] at hS); rw [HH1.out] at hS; replace hS := hS.drop)
            | (go_at_call 44; refine (ref_pad_any hS 128 HH64.out (by omega)).mono ?_; rintro e w1 ⟨v5, rfl, hS1⟩; clear hS; have hS := hS1; clear hS1))
          go_ret
          exact ⟨_, rfl, hS⟩
/-! ### home -/
theorem doneG_at {g : G2} {i : Nat} {x : Int × List UInt8} (h : g[i]? = some x) : (doneL g)[i]? = some x := by
  unfold doneL
  rw [List.getElem?_append_left (List.getElem?_eq_some_iff.1 h).1, h]
theorem doneG_last (g : G2) : (doneL g)[g.length]? = some (2, zeros 128) := by
  unfold doneL
  rw [List.getElem?_append_right (Nat.le_refl _), Nat.sub_self]; rfl
set_option maxRecDepth 20000 in
set_option maxHeartbeats 4000000 in
theorem rhome_any {W w : World} {L : List Asrt} {p k : Nat} {D : DiskS} {R : RefS} (hS : Sat W w (IsRef p R :: L)) (hR : Rel D R) (hG : DG D k) (hk : k ≤ 900) (g : G2) (ao : Option Addr) (c : Nat) (hr : ∀ w, Sat W w L → Rd w (.slice ao g.length c) g.length 2 (g.flatMap wvI)) (hb : g.length ≤ 20) (hd9 : ∀ x ∈ g, x.2.length ≤ 1000000) :
    Calls Try.prog 47 #[.pointer (some ⟨p, 0, none⟩), .slice ao g.length c] w fun e w' => e = .returned (.int .i64 (runW D (doneL g)).1) ∧ Sat W w' (IsRef p (runRf D R (doneL g)) :: L) := by
  have HR := Lib.hid hr
  have HRL := Lib.hid hR
  have HD9 := Lib.hid hd9
  obtain ⟨_, _, he, hc1, hc2, _, h5⟩ := hr w hS.drop
  simp only [Value.slice.injEq, true_and] at he
  obtain ⟨rfl, rfl⟩ := he
  have H5 := Lib.hid h5
  have HG := Lib.hid hG
  clear hr h5 hG hR hd9
  obtain ⟨l, hl⟩ : ∃ l, doneL g = l := ⟨_, rfl⟩
  have HL := Lib.hid hl
  have HLL := Lib.hid (show l.length = g.length + 1 by rw [← hl]; simp [doneL])
  rw [hl]
  clear hl
  go_enter Try.func47, Try.ntmps47
  go_wp2
  have H0 := Lib.hid hS
  go_loopw [5] (fun v wz => ∃ (i : Nat) (D' : DiskS) (R' : RefS), v = .int .i64 i ∧ i ≤ g.length ∧ runW D (l.take i) = (0, D') ∧ runRf D R (l.take i) = R' ∧ Sat W wz (IsRef p R' :: L)) (fun v _ => g.length - (intOf v).toNat)
  case atStart => exact ⟨0, D, R, rfl, by omega, rfl, rfl, H0.out⟩
  case round =>
    clear hS H0
    obtain ⟨i, D', R', rfl, hi, hrun, hrun2, hS⟩ := hrel
    have HRUN := Lib.hid hrun
    have HREL := Lib.hid (show Rel D' R' by have := HRL.out.run (l.take i); rw [hrun, hrun2] at this; exact this)
    have HRUN2 := Lib.hid hrun2
    clear hrun hrun2
    by_cases hlt : i < g.length
    · obtain ⟨b, off, rfl, _⟩ := H5.out (by omega)
      obtain ⟨⟨xa, xd⟩, hx⟩ : ∃ x, g[i]? = some x := ⟨_, List.getElem?_eq_getElem hlt⟩
      have hd9 := HD9.out _ (List.mem_of_getElem? hx)
      dsimp only at hd9
      have HDL := Lib.hid hd9
      have HX := Lib.hid hx
      have HLT := Lib.hid hlt
      have i1 : (i : Int) < (g.length : Int) := by omega
      have hlx : l[i]? = some (xa, xd) := by rw [← HL.out]; exact doneG_at hx
      have HN := Lib.hid (runW_next HRUN.out hlx)
      have HN2 := Lib.hid (runRf_next (R := R) HRUN.out hlx)
      rw [HRUN2.out] at HN2
      have HWR := Lib.hid (fun (qc : Nat × Nat) w (h : Sat W w (IsRef p R' :: Sl 5 1 (.slice (some ⟨qc.1, 0, none⟩) xd.length qc.2) xd.length (bv xd) :: L)) => rwriteR_any h HREL.out (HG.out.step HRUN.out) (by omega) xa (.slice (some ⟨qc.1, 0, none⟩) xd.length qc.2) xd rfl (fun w h => h.slRd Has.z))
      dsimp only at HN HN2
      obtain ⟨z, hz⟩ : ∃ z, wcode D' xa xd.length = z := ⟨_, rfl⟩
      rw [hz] at HN HWR
      clear hx hlt hz hd9 hlx
      by_cases h0 : z = 0
      · subst h0
        go_wp2
        refine regStart [12] hS (by kernel_rfl) rfl ?_
        intro w1 hS1
        clear hS; have hS := hS1; clear hS1
        (refine regP 0 hS (fun _ h => h) rfl (by kernel_rfl) (by kernel_rfl) (by kernel_rfl) (fun _ _ _ _ h => h) (by rfl) (by rfl) ?_; apply Exists.intro; apply And.intro; (intro w; go_simp; try with_reducible rfl); (simp only [Act.put, List.setIfInBounds_toArray, List.set_cons_zero, List.set_cons_succ]))
        (refine regP 1 hS (fun _ h => h) rfl (by kernel_rfl) (by kernel_rfl) (by kernel_rfl) (fun _ _ _ _ h => h) (by rfl) (by rfl) ?_; apply Exists.intro; apply And.intro; (intro w; go_simp; try with_reducible rfl); (simp only [Act.put, List.setIfInBounds_toArray, List.set_cons_zero, List.set_cons_succ]))
        (refine regP 2 hS (fun _ h => h) rfl (by kernel_rfl) (by kernel_rfl) (by kernel_rfl) (fun _ _ _ _ h => h) (by rfl) (by rfl) ?_; apply Exists.intro; apply And.intro; (intro w; go_simp; try with_reducible rfl); (simp only [Act.put, List.setIfInBounds_toArray, List.set_cons_zero, List.set_cons_succ]))
        (refine regP 3 hS (fun _ h => h) rfl (by kernel_rfl) (by kernel_rfl) (by kernel_rfl) (fun _ _ _ _ h => h) (by rfl) (by rfl) ?_; apply Exists.intro; apply And.intro; (intro w; go_simp; try with_reducible rfl); (simp only [Act.put, List.setIfInBounds_toArray, List.set_cons_zero, List.set_cons_succ]))
        (refine regP 4 hS (fun _ h => h) rfl (by kernel_rfl) (by kernel_rfl) (by kernel_rfl) (fun _ _ _ _ h => h) (by rfl) (by rfl) ?_; apply Exists.intro; apply And.intro; (intro w; go_simp; try with_reducible rfl); (simp only [Act.put, List.setIfInBounds_toArray, List.set_cons_zero, List.set_cons_succ]))
        (refine regR 5 hS (fun _ h => h) rfl (by kernel_rfl) (by kernel_rfl) (by kernel_rfl) (by kernel_rfl) (by kernel_rfl) (fun _ _ _ _ h => h) (by rfl) (by rfl) ?_; (first
                          | refine ⟨_, yLdRd (fun u h => HR.out u h.drop) (wvI_len g) _ _ (by rfl) _ (by rfl) (agOf (by rfl)) i 0 (by omega) HX.out (by rfl) (by omega), ?_⟩
                          | refine ⟨_, yLdRd (fun u h => HR.out u h.drop) (wvI_len g) _ _ (by rfl) _ (by rfl) (agOf (by rfl)) i 1 (by omega) HX.out (by rfl) (by omega), ?_⟩); (simp only [Act.put, List.setIfInBounds_toArray, List.set_cons_zero, List.set_cons_succ]))
        (refine regP 6 hS (fun _ h => h) rfl (by kernel_rfl) (by kernel_rfl) (by kernel_rfl) (fun _ _ _ _ h => h) (by rfl) (by rfl) ?_; apply Exists.intro; apply And.intro; (intro w; go_simp; try with_reducible rfl); (simp only [Act.put, List.setIfInBounds_toArray, List.set_cons_zero, List.set_cons_succ]))
        (refine regP 7 hS (fun _ h => h) rfl (by kernel_rfl) (by kernel_rfl) (by kernel_rfl) (fun _ _ _ _ h => h) (by rfl) (by rfl) ?_; apply Exists.intro; apply And.intro; (intro w; go_simp; try with_reducible rfl); (simp only [Act.put, List.setIfInBounds_toArray, List.set_cons_zero, List.set_cons_succ]))
        (refine regP 8 hS (fun _ h => h) rfl (by kernel_rfl) (by kernel_rfl) (by kernel_rfl) (fun _ _ _ _ h => h) (by rfl) (by rfl) ?_; apply Exists.intro; apply And.intro; (intro w; go_simp; try with_reducible rfl); (simp only [Act.put, List.setIfInBounds_toArray, List.set_cons_zero, List.set_cons_succ]))
        (refine regP 9 hS (fun _ h => h) rfl (by kernel_rfl) (by kernel_rfl) (by kernel_rfl) (fun _ _ _ _ h => h) (by rfl) (by rfl) ?_; apply Exists.intro; apply And.intro; (intro w; go_simp; try with_reducible rfl); (simp only [Act.put, List.setIfInBounds_toArray, List.set_cons_zero, List.set_cons_succ]))
        (refine regR 10 hS (fun _ h => h) rfl (by kernel_rfl) (by kernel_rfl) (by kernel_rfl) (by kernel_rfl) (by kernel_rfl) (fun _ _ _ _ h => h) (by rfl) (by rfl) ?_; (first
                          | refine ⟨_, yLdRd (fun u h => HR.out u h.drop) (wvI_len g) _ _ (by rfl) _ (by rfl) (agOf (by rfl)) i 0 (by omega) HX.out (by rfl) (by omega), ?_⟩
                          | refine ⟨_, yLdRd (fun u h => HR.out u h.drop) (wvI_len g) _ _ (by rfl) _ (by rfl) (agOf (by rfl)) i 1 (by omega) HX.out (by rfl) (by omega), ?_⟩); (simp only [Act.put, List.setIfInBounds_toArray, List.set_cons_zero, List.set_cons_succ]))
        (refine regA 11 rfl (by kernel_rfl) (by rfl) (by rfl) false (by kernel_rfl) (fun K hK => ?_); (first
                          | (refine cvB hS _ _ _ (by rfl) xd (by rfl) bstr (by have := HDL.out; omega) ?_; intro q cq w1 hS1; clear hS; have hS := hS1; clear hS1)
                          | (refine Go.Sep.cl 27 _ _ (by rfl) (by rfl) (by kernel_rfl) (HWR.out (q, cq) _ hS.pull1) ?_; rintro e w1 ⟨rfl, hS1⟩; clear hS; have hS := hS1; clear hS1; refine ⟨_, rfl, ?_⟩)); refine hK _ _ _ hS (by first | (intro h; cases h; done) | exact fun _ _ h => h | exact fun _ _ h => h.drop | exact fun _ _ h => h.drop.drop | exact fun _ _ h => h.drop.pull1 | exact fun _ _ h => h.take2 | exact fun _ _ h => h.one Has.z | exact fun _ _ h => h.one (Has.s Has.z) | exact fun _ _ h => h.one (Has.s (Has.s Has.z))) ?_; clear hK K; (simp only [Act.put, List.setIfInBounds_toArray, List.set_cons_zero, List.set_cons_succ]))
        (refine regA 12 rfl (by kernel_rfl) (by rfl) (by rfl) true (by kernel_rfl) (fun K hK => ?_); (first
                          | (refine cvB hS _ _ _ (by rfl) xd (by rfl) bstr (by have := HDL.out; omega) ?_; intro q cq w1 hS1; clear hS; have hS := hS1; clear hS1)
                          | (refine Go.Sep.cl 27 _ _ (by rfl) (by rfl) (by kernel_rfl) (HWR.out (q, cq) _ hS.pull1) ?_; rintro e w1 ⟨rfl, hS1⟩; clear hS; have hS := hS1; clear hS1; refine ⟨_, rfl, ?_⟩)); refine hK _ _ _ hS (by first | (intro h; cases h; done) | exact fun _ _ h => h | exact fun _ _ h => h.drop | exact fun _ _ h => h.drop.drop | exact fun _ _ h => h.drop.pull1 | exact fun _ _ h => h.take2 | exact fun _ _ h => h.one Has.z | exact fun _ _ h => h.one (Has.s Has.z) | exact fun _ _ h => h.one (Has.s (Has.s Has.z))) ?_; clear hK K; (simp only [Act.put, List.setIfInBounds_toArray, List.set_cons_zero, List.set_cons_succ]))
        (refine regP 13 hS (fun _ h => h) rfl (by kernel_rfl) (by kernel_rfl) (by kernel_rfl) (fun _ _ _ _ h => h) (by rfl) (by rfl) ?_; apply Exists.intro; apply And.intro; (intro w; go_simp; try with_reducible rfl); (simp only [Act.put, List.setIfInBounds_toArray, List.set_cons_zero, List.set_cons_succ]))
        refine regDone (by kernel_rfl) ?_
        go_wp2
        exact ⟨⟨i + 1, _, _, by go_num, HLT.out, HN.out, HN2.out, hS.pull1.drop⟩, by simp [intOf]; have := HLT.out; omega⟩
      · have e0 : (z != 0) = true := bne_iff_ne.2 h0
        have HST := Lib.hid (runW_stop (D := D) (l := l) (i := i + 1) (by rw [HN.out]; exact h0))
        have HST2 := Lib.hid (runRf_stop (D := D) (R := R) (l := l) (i := i + 1) (by rw [HN.out]; exact h0))
        clear h0
        go_wp2
        refine regStart [12] hS (by kernel_rfl) rfl ?_
        intro w1 hS1
        clear hS; have hS := hS1; clear hS1
        (refine regP 0 hS (fun _ h => h) rfl (by kernel_rfl) (by kernel_rfl) (by kernel_rfl) (fun _ _ _ _ h => h) (by rfl) (by rfl) ?_; apply Exists.intro; apply And.intro; (intro w; go_simp; try with_reducible rfl); (simp only [Act.put, List.setIfInBounds_toArray, List.set_cons_zero, List.set_cons_succ]))
        (refine regP 1 hS (fun _ h => h) rfl (by kernel_rfl) (by kernel_rfl) (by kernel_rfl) (fun _ _ _ _ h => h) (by rfl) (by rfl) ?_; apply Exists.intro; apply And.intro; (intro w; go_simp; try with_reducible rfl); (simp only [Act.put, List.setIfInBounds_toArray, List.set_cons_zero, List.set_cons_succ]))
        (refine regP 2 hS (fun _ h => h) rfl (by kernel_rfl) (by kernel_rfl) (by kernel_rfl) (fun _ _ _ _ h => h) (by rfl) (by rfl) ?_; apply Exists.intro; apply And.intro; (intro w; go_simp; try with_reducible rfl); (simp only [Act.put, List.setIfInBounds_toArray, List.set_cons_zero, List.set_cons_succ]))
        (refine regP 3 hS (fun _ h => h) rfl (by kernel_rfl) (by kernel_rfl) (by kernel_rfl) (fun _ _ _ _ h => h) (by rfl) (by rfl) ?_; apply Exists.intro; apply And.intro; (intro w; go_simp; try with_reducible rfl); (simp only [Act.put, List.setIfInBounds_toArray, List.set_cons_zero, List.set_cons_succ]))
        (refine regP 4 hS (fun _ h => h) rfl (by kernel_rfl) (by kernel_rfl) (by kernel_rfl) (fun _ _ _ _ h => h) (by rfl) (by rfl) ?_; apply Exists.intro; apply And.intro; (intro w; go_simp; try with_reducible rfl); (simp only [Act.put, List.setIfInBounds_toArray, List.set_cons_zero, List.set_cons_succ]))
        (refine regR 5 hS (fun _ h => h) rfl (by kernel_rfl) (by kernel_rfl) (by kernel_rfl) (by kernel_rfl) (by kernel_rfl) (fun _ _ _ _ h => h) (by rfl) (by rfl) ?_; (first
                          | refine ⟨_, yLdRd (fun u h => HR.out u h.drop) (wvI_len g) _ _ (by rfl) _ (by rfl) (agOf (by rfl)) i 0 (by omega) HX.out (by rfl) (by omega), ?_⟩
                          | refine ⟨_, yLdRd (fun u h => HR.out u h.drop) (wvI_len g) _ _ (by rfl) _ (by rfl) (agOf (by rfl)) i 1 (by omega) HX.out (by rfl) (by omega), ?_⟩); (simp only [Act.put, List.setIfInBounds_toArray, List.set_cons_zero, List.set_cons_succ]))
        (refine regP 6 hS (fun _ h => h) rfl (by kernel_rfl) (by kernel_rfl) (by kernel_rfl) (fun _ _ _ _ h => h) (by rfl) (by rfl) ?_; apply Exists.intro; apply And.intro; (intro w; go_simp; try with_reducible rfl); (simp only [Act.put, List.setIfInBounds_toArray, List.set_cons_zero, List.set_cons_succ]))
        (refine regP 7 hS (fun _ h => h) rfl (by kernel_rfl) (by kernel_rfl) (by kernel_rfl) (fun _ _ _ _ h => h) (by rfl) (by rfl) ?_; apply Exists.intro; apply And.intro; (intro w; go_simp; try with_reducible rfl); (simp only [Act.put, List.setIfInBounds_toArray, List.set_cons_zero, List.set_cons_succ]))
        (refine regP 8 hS (fun _ h => h) rfl (by kernel_rfl) (by kernel_rfl) (by kernel_rfl) (fun _ _ _ _ h => h) (by rfl) (by rfl) ?_; apply Exists.intro; apply And.intro; (intro w; go_simp; try with_reducible rfl); (simp only [Act.put, List.setIfInBounds_toArray, List.set_cons_zero, List.set_cons_succ]))
        (refine regP 9 hS (fun _ h => h) rfl (by kernel_rfl) (by kernel_rfl) (by kernel_rfl) (fun _ _ _ _ h => h) (by rfl) (by rfl) ?_; apply Exists.intro; apply And.intro; (intro w; go_simp; try with_reducible rfl); (simp only [Act.put, List.setIfInBounds_toArray, List.set_cons_zero, List.set_cons_succ]))
        (refine regR 10 hS (fun _ h => h) rfl (by kernel_rfl) (by kernel_rfl) (by kernel_rfl) (by kernel_rfl) (by kernel_rfl) (fun _ _ _ _ h => h) (by rfl) (by rfl) ?_; (first
                          | refine ⟨_, yLdRd (fun u h => HR.out u h.drop) (wvI_len g) _ _ (by rfl) _ (by rfl) (agOf (by rfl)) i 0 (by omega) HX.out (by rfl) (by omega), ?_⟩
                          | refine ⟨_, yLdRd (fun u h => HR.out u h.drop) (wvI_len g) _ _ (by rfl) _ (by rfl) (agOf (by rfl)) i 1 (by omega) HX.out (by rfl) (by omega), ?_⟩); (simp only [Act.put, List.setIfInBounds_toArray, List.set_cons_zero, List.set_cons_succ]))
        (refine regA 11 rfl (by kernel_rfl) (by rfl) (by rfl) false (by kernel_rfl) (fun K hK => ?_); (first
                          | (refine cvB hS _ _ _ (by rfl) xd (by rfl) bstr (by have := HDL.out; omega) ?_; intro q cq w1 hS1; clear hS; have hS := hS1; clear hS1)
                          | (refine Go.Sep.cl 27 _ _ (by rfl) (by rfl) (by kernel_rfl) (HWR.out (q, cq) _ hS.pull1) ?_; rintro e w1 ⟨rfl, hS1⟩; clear hS; have hS := hS1; clear hS1; refine ⟨_, rfl, ?_⟩)); refine hK _ _ _ hS (by first | (intro h; cases h; done) | exact fun _ _ h => h | exact fun _ _ h => h.drop | exact fun _ _ h => h.drop.drop | exact fun _ _ h => h.drop.pull1 | exact fun _ _ h => h.take2 | exact fun _ _ h => h.one Has.z | exact fun _ _ h => h.one (Has.s Has.z) | exact fun _ _ h => h.one (Has.s (Has.s Has.z))) ?_; clear hK K; (simp only [Act.put, List.setIfInBounds_toArray, List.set_cons_zero, List.set_cons_succ]))
        (refine regA 12 rfl (by kernel_rfl) (by rfl) (by rfl) true (by kernel_rfl) (fun K hK => ?_); (first
                          | (refine cvB hS _ _ _ (by rfl) xd (by rfl) bstr (by have := HDL.out; omega) ?_; intro q cq w1 hS1; clear hS; have hS := hS1; clear hS1)
                          | (refine Go.Sep.cl 27 _ _ (by rfl) (by rfl) (by kernel_rfl) (HWR.out (q, cq) _ hS.pull1) ?_; rintro e w1 ⟨rfl, hS1⟩; clear hS; have hS := hS1; clear hS1; refine ⟨_, rfl, ?_⟩)); refine hK _ _ _ hS (by first | (intro h; cases h; done) | exact fun _ _ h => h | exact fun _ _ h => h.drop | exact fun _ _ h => h.drop.drop | exact fun _ _ h => h.drop.pull1 | exact fun _ _ h => h.take2 | exact fun _ _ h => h.one Has.z | exact fun _ _ h => h.one (Has.s Has.z) | exact fun _ _ h => h.one (Has.s (Has.s Has.z))) ?_; clear hK K; (simp only [Act.put, List.setIfInBounds_toArray, List.set_cons_zero, List.set_cons_succ]))
        (refine regP 13 hS (fun _ h => h) rfl (by kernel_rfl) (by kernel_rfl) (by kernel_rfl) (fun _ _ _ _ h => h) (by rfl) (by rfl) ?_; apply Exists.intro; apply And.intro; (intro w; go_simp; try with_reducible rfl); (simp only [Act.put, List.setIfInBounds_toArray, List.set_cons_zero, List.set_cons_succ]))
        refine regDone (by kernel_rfl) ?_
        go_wp2
        go_ret
        rw [HST.out, HST2.out, HN.out, HN2.out]
        exact ⟨rfl, hS.pull1.drop⟩
    · have i1 : ¬ (i : Int) < (g.length : Int) := by omega
      obtain rfl : i = g.length := by omega
      have hlx : l[g.length]? = some (2, zeros 128) := by rw [← HL.out]; exact doneG_last g
      have HN := Lib.hid (runW_next HRUN.out hlx)
      have HN2 := Lib.hid (runRf_next (R := R) HRUN.out hlx)
      have hT : l.take (g.length + 1) = l := List.take_of_length_le (by rw [HLL.out]; exact Nat.le_refl _)
      rw [hT] at HN HN2
      rw [HRUN2.out] at HN2
      have HWR := Lib.hid (fun (pb : Nat) w (h : Sat W w (IsRef p R' :: Cs pb 5 (bv (zeros 128)) :: L)) => rwriteR_any h HREL.out (HG.out.step HRUN.out) (by omega) 2 (.slice (some ⟨pb, 0, none⟩) 128 128) (zeros 128) (m := 128) (by simp [zeros]) (fun w h => h.csRd0 (n := 128) (sz := 1) Has.z (by decide) (by simp [bv_length, zeros])))
      clear hlt hT hlx
      go_wp2_with (first
        | (refine toList (by rfl) ?_; refine mk hS _ _ _ (by rfl) 128 128 _ _ (by rfl) (by rfl) (elOf (by rfl)) (by omega) (by omega) (by omega) ?_; intro pb w1 hS1; clear hS; have hS := hS1; clear hS1; rw [made_u8] at hS)
        | (go_at_call 27; refine (HWR.out _ _ hS.pull1).mono ?_; rintro e w1 ⟨rfl, hS1⟩; clear hS; have hS := hS1; clear hS1))
      go_ret
      rw [HN.out, HN2.out]
      exact ⟨rfl, hS.pull1.drop⟩
end Go.Proofs.Ytefbkpggmmhgcaa
