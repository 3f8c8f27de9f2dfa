/-
  For all numbers of blocks and all operations, DiskPlays answers true: no condition.
-/
import Derived.Test.YtnppgkbincffeaaDiskBoth
namespace Go.Proofs.Ytnppgkbincffeaa
open Go.RowKit Go.Sep Go.ChangeShapes Go.WideShapes Go.ChangeAt
set_option linter.unusedSimpArgs false
set_option linter.unusedVariables false
attribute [local irreducible] Go.Oper.wp Go.wpList Go.Calls Go.Code.wp Go.Sep.Reg

theorem Rel.zero (n : Nat) (h2 : n ≤ 1024) : Rel (.new n) (.new n) :=
  ⟨by simp [DiskS.new, RefS.new], rfl, rfl, by simp [DiskS.new, RefS.new], by simp [RefS.new], by simp [RefS.new], ⟨by simpa [DiskS.new] using h2, by simp [DiskS.new], by simp [DiskS.new]⟩⟩
theorem Rel.cut {D : DiskS} {R : RefS} (h : Rel D R) (n : Int) (h0 : 0 ≤ n) (h1 : n ≤ 9223372036854775807) : Rel { D with left := n } { R with armed := true, left := n } :=
  ⟨h.blocks, h.writes, h.dead, by simp, h0, h1, ⟨h.ok.len, h.ok.base, h.ok.at_⟩⟩
theorem opv_one {W : World} {x : OpD} (h : x.Ok W) : ∀ u ∈ opv x, u.oneCell' = true := fun u hu => by
  obtain ⟨_, _, ao, c, hv, _⟩ := h
  simp only [opv, List.mem_cons, List.not_mem_nil, or_false] at hu
  rcases hu with rfl | rfl | rfl | rfl
  · rfl
  · rfl
  · rw [hv]; rfl
  · rfl
set_option maxRecDepth 20000 in
set_option maxHeartbeats 2000000 in
theorem Plays.no (n : Int) (v : Value) (W : World) (h : n < 160 ∨ 1024 < n) :
    Calls Try.prog 3 #[.int .i64 n, v] W fun e w' => e = .returned (.bool true) ∧ Sat W w' [] := by
  have hS := Sat.start W
  go_enter Try.func3, Try.ntmps3
  go_wp2_with (first
    | (go_at_call 8; refine (new_no _ n h).mono ?_; rintro e w1 ⟨rfl, rfl⟩)
    | (go_at_call 9; refine (ref_new_no _ n h).mono ?_; rintro e w1 ⟨rfl, rfl⟩)
    | (go_at_call 10; refine (awake_any hS).mono ?_; rintro e w1 ⟨rfl, hS1⟩; clear hS; have hS := hS1; clear hS1))
  go_ret
  exact ⟨rfl, hS⟩
/-- What the loop keeps. -/
def PlInv (W : World) (p q : Nat) (len : Nat) (vi : Value) (wz : World) : Prop :=
  ∃ (i : Nat) (D : DiskS) (R : RefS), i ≤ 60 ∧ i ≤ len ∧ vi = .int .i64 (i : Nat) ∧ Rel D R ∧ D.writes.length ≤ i ∧ Sat W wz (IsDisk p D :: IsRef q R :: [])
set_option maxRecDepth 20000 in
set_option maxHeartbeats 8000000 in
theorem Plays.walk (n : Nat) (l : List OpD) (ao : Option Addr) (cap : Nat) (W : World) (h1 : 160 ≤ n) (h2 : n ≤ 1024) (hl : Rd W (.slice ao l.length cap) l.length 4 (l.flatMap opv)) (hOp : ∀ x ∈ l, x.Ok W) :
    Calls Try.prog 3 #[.int .i64 n, .slice ao l.length cap] W fun e w' => e = .returned (.bool true) ∧ Sat W w' [] := by
  have hS := Sat.start W
  have HL := Lib.hid hl
  have HOP := Lib.hid hOp
  obtain ⟨ao', cap', he, hcap, hcap2, _⟩ := id hl
  simp only [Value.slice.injEq, true_and] at he
  obtain ⟨rfl, rfl⟩ := he
  clear hl hOp
  go_enter Try.func3, Try.ntmps3
  go_wp2_with (first
    | (go_at_call 8; refine (new_ok hS n (by omega) (by omega)).mono ?_; rintro e w1 ⟨p, rfl, hS1⟩; clear hS; have hS := hS1; clear hS1)
    | (go_at_call 9; refine (ref_new_ok hS n h1 h2).mono ?_; rintro e w1 ⟨q, rfl, hS1⟩; clear hS; have hS := hS1; clear hS1))
  have HI : Hid (PlInv W p q l.length (.int .i64 ((0 : Nat) : Int)) _) := Lib.hid ⟨0, _, _, by omega, by omega, rfl, Rel.zero n h2, by simp [DiskS.new], hS.pull1⟩
  go_loopw [8] (fun vi wz => PlInv W p q l.length vi wz) (fun vi _ => 60 - (intOf vi).toNat)
  case atStart => exact HI.out
  case round =>
    clear HI hS
    obtain ⟨i, D, R, hi1, hi2, rfl, hR, hwl, hS⟩ := hrel
    have HR := Lib.hid hR
    clear hR
    by_cases hlt : i < l.length ∧ i < 60
    · obtain ⟨hlt1, hlt2⟩ := hlt
      obtain ⟨⟨kd, m, vb, lb, wg⟩, hx⟩ : ∃ x, l[i]? = some x := ⟨_, List.getElem?_eq_getElem (by omega)⟩
      have hok := HOP.out _ (List.mem_of_getElem? hx)
      have HONE := Lib.hid (opv_one hok)
      obtain ⟨⟨hk1, hk2⟩, ⟨hm1, hm2⟩, hb⟩ := hok
      simp only at hk1 hk2 hm1 hm2 hb
      obtain ⟨aob, capb, rfl, hcb1, hcb2, _⟩ := id hb
      obtain ⟨_, _, he, _, _, _, h5⟩ := HL.out
      simp only [Value.slice.injEq, true_and] at he
      obtain ⟨rfl, rfl⟩ := he
      obtain ⟨b, off, rfl, _⟩ := h5 (by omega)
      clear h5
      have hcell : ∀ j v, (opv ⟨kd, m, .slice aob lb.length capb, lb, wg⟩)[j]? = some v → W.cell? ⟨b, off + i * 4 + j, none⟩ = some v := fun j v hv => HL.out.elem (opv_len l) hx hv (by omega)
      have HC := Lib.hid hcell
      have HB := Lib.hid hb
      clear hcell hb hx
      have j1 : (i : Int) < (l.length : Int) := by omega
      have j2 : (i : Int) < 60 := by omega
      by_cases h300 : 300 < lb.length
      · have j3 : (300 : Int) < (lb.length : Int) := by omega
        go_wp2_with (first
          | (refine toList (by rfl) ?_; refine wp_of_reads (rLdAOld hS _ _ (by rfl) _ _ (by rfl) (agOf (by rfl)) (szOf (by rfl)) (vs := opv ⟨kd, m, .slice aob lb.length capb, lb, wg⟩) (by rfl) (by exact HC.out)) ?_)
          | (refine toList (by rfl) ?_; refine al hS _ (by rfl) (zrOf (by rfl)) ?_; intro px w1 hS1; clear hS; have hS := hS1; clear hS1; rw [cells_agg] at hS)
          | (refine toList (by rfl) ?_; refine stW hS _ _ _ (by rfl) (by rfl) (opv ⟨kd, m, .slice aob lb.length capb, lb, wg⟩) (by rfl) HONE.out (szOf (by rfl)) Has.z (by rfl) ?_; intro w1 hS1; clear hS; have hS := hS1; clear hS1; dsimp only [List.set_cons_zero] at hS)
          | (refine toList (by rfl) ?_; refine ld hS _ _ (by rfl) _ _ (by rfl) (agOf (by rfl)) (by first | exact Has.z | exact Has.s Has.z | exact Has.s (Has.s Has.z) | exact Has.s (Has.s (Has.s Has.z)) | exact Has.s (Has.s (Has.s (Has.s Has.z))) | exact Has.s (Has.s (Has.s (Has.s (Has.s Has.z))))) (by rfl) ?_)
          | (go_at_call 10; refine (awake_any hS).mono ?_; rintro e w1 ⟨rfl, hS1⟩; clear hS; have hS := hS1; clear hS1))
        go_ret
        exact ⟨rfl, hS.drop.drop.drop⟩
      · have j3 : (lb.length : Int) ≤ 300 := by omega
        obtain ⟨pk, hpk⟩ : ∃ pk, place kd 6 = pk := ⟨_, rfl⟩
        have HPK := Lib.hid hpk
        have hpk2 : 0 ≤ pk ∧ pk < 6 := by rw [← hpk]; exact place_lt (by decide)
        clear hpk
        by_cases h4 : pk = 4
        · subst h4
          by_cases hin : 0 ≤ m ∧ m < (D.blocks.length : Int)
          · obtain ⟨j, rfl⟩ := Int.eq_ofNat_of_zero_le hin.1
            obtain ⟨bb, hb⟩ : ∃ b, D.blocks[j]? = some b := ⟨_, List.getElem?_eq_getElem (by omega)⟩
            have HB1 := Lib.hid hb
            have HB2 := Lib.hid (show R.L[j]? = some bb by rw [← HR.out.blocks]; exact hb)
            have hbl : bb.length = 128 := by
              obtain ⟨u1, u2, u3, hq⟩ := IsDisk.open hS
              simpa [bv_length] using hq.tbLen (k := 1) rfl bb (List.mem_of_getElem? hb)
            have HBL := Lib.hid hbl
            clear hb hbl hin
            go_wp2_with (first
            | (refine toList (by rfl) ?_; refine wp_of_reads (rLdAOld hS _ _ (by rfl) _ _ (by rfl) (agOf (by rfl)) (szOf (by rfl)) (vs := opv ⟨kd, (j : Int), .slice aob lb.length capb, lb, wg⟩) (by rfl) (by exact HC.out)) ?_)
            | (refine toList (by rfl) ?_; refine al hS _ (by rfl) (zrOf (by rfl)) ?_; intro px w1 hS1; clear hS; have hS := hS1; clear hS1; rw [cells_agg] at hS)
            | (refine toList (by rfl) ?_; refine stW hS _ _ _ (by rfl) (by rfl) (opv ⟨kd, (j : Int), .slice aob lb.length capb, lb, wg⟩) (by rfl) HONE.out (szOf (by rfl)) Has.z (by rfl) ?_; intro w1 hS1; clear hS; have hS := hS1; clear hS1; dsimp only [List.set_cons_zero] at hS)
            | (go_at_call 11; refine (place_any _ kd 6 (by decide) (by decide) hk1 hk2).mono ?_; rintro e w1 ⟨rfl, rfl⟩; rw [HPK.out])
            | (refine toList (by rfl) ?_; refine ld hS _ _ (by rfl) _ _ (by rfl) (agOf (by rfl)) (by first | exact Has.z | exact Has.s Has.z | exact Has.s (Has.s Has.z) | exact Has.s (Has.s (Has.s Has.z)) | exact Has.s (Has.s (Has.s (Has.s Has.z))) | exact Has.s (Has.s (Has.s (Has.s (Has.s Has.z))))) (by rfl) ?_)
            | (go_at_call 12; refine (read_ok hS.pull1 j _ HB1.out HR.out.ok.len).mono ?_; rintro e w1 ⟨q1, rfl, _, hS1⟩; clear hS; have hS := hS1; clear hS1))
            have HS := Lib.hid hS
            go_loopw [12] (fun vi wz => ∃ k : Nat, k ≤ 128 ∧ vi = .int .i64 k ∧ ∃ Z : List Value, Z.length = 128 ∧ Sat W wz (Cs q1 56 Z :: IsDisk p D :: Cs px 31 (opv ⟨kd, (j : Int), .slice aob lb.length capb, lb, wg⟩) :: IsRef q R :: [])) (fun vi _ => 128 - (intOf vi).toNat)
            case atStart => exact ⟨0, by omega, rfl, _, by rw [bv_length]; exact HBL.out, HS.out⟩
            case round =>
              clear hS HS
              obtain ⟨k, hk, rfl, Z, hZ, hS⟩ := hrel
              by_cases hlt : k < 128
              · have j4 : (k : Int) < 128 := by omega
                have HZ := Lib.hid hZ
                clear hZ
                go_wp2_with (first
                  | (refine toList (by rfl) ?_; refine st hS _ _ _ (by rfl) _ _ (by rfl) _ (by first | exact evC | exact evT (by rfl)) (by rfl) (szOf (by rfl)) Has.z (by rw [HZ.out]; omega) ?_; intro w1 hS1; clear hS; have hS := hS1; clear hS1; dsimp only [List.set_cons_zero] at hS))
                exact ⟨⟨k + 1, by omega, by go_num, _, by simp [HZ.out], hS⟩, by simp [intOf]; omega⟩
              · obtain rfl : k = 128 := by omega
                go_wp2_with (first
                  | (refine toList (by rfl) ?_; refine ld hS _ _ (by rfl) _ _ (by rfl) (agOf (by rfl)) (by first | exact Has.z | exact Has.s Has.z | exact Has.s (Has.s Has.z) | exact Has.s (Has.s (Has.s Has.z)) | exact Has.s (Has.s (Has.s (Has.s Has.z))) | exact Has.s (Has.s (Has.s (Has.s (Has.s Has.z))))) (by rfl) ?_)
                  | (go_at_call 13; refine (ref_read_ok (hS.front 3 rfl) j _ HB2.out (by rw [← HR.out.blocks]; exact HR.out.ok.len) HBL.out).mono ?_; rintro e w1 ⟨q2, c2, rfl, hS1⟩; clear hS; have hS := hS1; clear hS1))
                exact ⟨⟨i + 1, D, R, by omega, by omega, by go_num, HR.out, by omega, (hS.re [0, 2, 4, 3, 1]).drop.drop.drop⟩, by simp [intOf]; omega⟩
          · have HIN := Lib.hid (show m < 0 ∨ (D.blocks.length : Int) ≤ m by omega)
            have HIN2 := Lib.hid (show m < 0 ∨ (R.L.length : Int) ≤ m by rw [← HR.out.blocks]; omega)
            clear hin
            go_wp2_with (first
            | (refine toList (by rfl) ?_; refine wp_of_reads (rLdAOld hS _ _ (by rfl) _ _ (by rfl) (agOf (by rfl)) (szOf (by rfl)) (vs := opv ⟨kd, m, .slice aob lb.length capb, lb, wg⟩) (by rfl) (by exact HC.out)) ?_)
            | (refine toList (by rfl) ?_; refine al hS _ (by rfl) (zrOf (by rfl)) ?_; intro px w1 hS1; clear hS; have hS := hS1; clear hS1; rw [cells_agg] at hS)
            | (refine toList (by rfl) ?_; refine stW hS _ _ _ (by rfl) (by rfl) (opv ⟨kd, m, .slice aob lb.length capb, lb, wg⟩) (by rfl) HONE.out (szOf (by rfl)) Has.z (by rfl) ?_; intro w1 hS1; clear hS; have hS := hS1; clear hS1; dsimp only [List.set_cons_zero] at hS)
            | (go_at_call 11; refine (place_any _ kd 6 (by decide) (by decide) hk1 hk2).mono ?_; rintro e w1 ⟨rfl, rfl⟩; rw [HPK.out])
            | (refine toList (by rfl) ?_; refine ld hS _ _ (by rfl) _ _ (by rfl) (agOf (by rfl)) (by first | exact Has.z | exact Has.s Has.z | exact Has.s (Has.s Has.z) | exact Has.s (Has.s (Has.s Has.z)) | exact Has.s (Has.s (Has.s (Has.s Has.z))) | exact Has.s (Has.s (Has.s (Has.s (Has.s Has.z))))) (by rfl) ?_)
            | (go_at_call 12; refine (read_no (hS.front 1 rfl) m HIN.out).mono ?_; rintro e w1 ⟨rfl, rfl⟩))
            have HS := Lib.hid hS
            go_loopw [12] (fun vi wz => vi = .int .i64 0 ∧ Sat W wz (Cs px 31 (opv ⟨kd, m, .slice aob lb.length capb, lb, wg⟩) :: IsDisk p D :: IsRef q R :: [])) (fun _ _ => 0)
            case atStart => exact ⟨rfl, HS.out⟩
            case round =>
              clear hS HS
              obtain ⟨rfl, hS⟩ := hrel
              go_wp2_with (first
                | (refine toList (by rfl) ?_; refine ld hS _ _ (by rfl) _ _ (by rfl) (agOf (by rfl)) (by first | exact Has.z | exact Has.s Has.z | exact Has.s (Has.s Has.z) | exact Has.s (Has.s (Has.s Has.z)) | exact Has.s (Has.s (Has.s (Has.s Has.z))) | exact Has.s (Has.s (Has.s (Has.s (Has.s Has.z))))) (by rfl) ?_)
                | (go_at_call 13; refine (ref_read_no (hS.front 2 rfl) m HIN2.out).mono ?_; rintro e w1 ⟨rfl, rfl⟩))
              exact ⟨⟨i + 1, D, R, by omega, by omega, by go_num, HR.out, by omega, hS.drop⟩, by simp [intOf]; omega⟩
        by_cases h5 : pk = 5
        · subst h5
          by_cases hm0 : 0 ≤ m
          · go_wp2_with (first
            | (refine toList (by rfl) ?_; refine wp_of_reads (rLdAOld hS _ _ (by rfl) _ _ (by rfl) (agOf (by rfl)) (szOf (by rfl)) (vs := opv ⟨kd, m, .slice aob lb.length capb, lb, wg⟩) (by rfl) (by exact HC.out)) ?_)
            | (refine toList (by rfl) ?_; refine al hS _ (by rfl) (zrOf (by rfl)) ?_; intro px w1 hS1; clear hS; have hS := hS1; clear hS1; rw [cells_agg] at hS)
            | (refine toList (by rfl) ?_; refine stW hS _ _ _ (by rfl) (by rfl) (opv ⟨kd, m, .slice aob lb.length capb, lb, wg⟩) (by rfl) HONE.out (szOf (by rfl)) Has.z (by rfl) ?_; intro w1 hS1; clear hS; have hS := hS1; clear hS1; dsimp only [List.set_cons_zero] at hS)
            | (go_at_call 11; refine (place_any _ kd 6 (by decide) (by decide) hk1 hk2).mono ?_; rintro e w1 ⟨rfl, rfl⟩; rw [HPK.out])
            | (refine toList (by rfl) ?_; refine ld hS _ _ (by rfl) _ _ (by rfl) (agOf (by rfl)) (by first | exact Has.z | exact Has.s Has.z | exact Has.s (Has.s Has.z) | exact Has.s (Has.s (Has.s Has.z)) | exact Has.s (Has.s (Has.s (Has.s Has.z))) | exact Has.s (Has.s (Has.s (Has.s (Has.s Has.z))))) (by rfl) ?_))
            refine regStart2 [7] hS (fun _ h => h.one Has.z) (by kernel_rfl) rfl ?_
            intro w1 hS1
            clear hS; have hS := hS1; clear hS1
            (refine regP 0 hS (fun _ h => h.one Has.z) rfl (by kernel_rfl) (by kernel_rfl) (by kernel_rfl) (fun _ _ _ _ h => h) (by rfl) (by rfl) ?_; apply Exists.intro; apply And.intro; (intro w; go_simp; try with_reducible rfl); (simp only [Act.put, List.setIfInBounds_toArray, List.set_cons_zero, List.set_cons_succ]))
            (refine regP 1 hS (fun _ h => h.one Has.z) rfl (by kernel_rfl) (by kernel_rfl) (by kernel_rfl) (fun _ _ _ _ h => h) (by rfl) (by rfl) ?_; apply Exists.intro; apply And.intro; (intro w; go_simp; try with_reducible rfl); (simp only [Act.put, List.setIfInBounds_toArray, List.set_cons_zero, List.set_cons_succ]))
            (refine regR 2 hS (fun _ h => h.one Has.z) rfl (by kernel_rfl) (by kernel_rfl) (by kernel_rfl) (by kernel_rfl) (by kernel_rfl) (fun _ _ _ _ h => h) (by rfl) (by rfl) ?_; (first
                                      | refine ⟨_, yLd _ _ (by rfl) _ _ (by rfl) (agOf (by rfl)) (by first | exact Has.z | exact Has.s Has.z | exact Has.s (Has.s Has.z) | exact Has.s (Has.s (Has.s Has.z)) | exact Has.s (Has.s (Has.s (Has.s Has.z))) | exact Has.s (Has.s (Has.s (Has.s (Has.s Has.z))))) (by rfl), ?_⟩); (simp only [Act.put, List.setIfInBounds_toArray, List.set_cons_zero, List.set_cons_succ]))
            (refine regP 4 hS (fun _ h => h.one Has.z) rfl (by kernel_rfl) (by kernel_rfl) (by kernel_rfl) (fun _ _ _ _ h => h) (by rfl) (by rfl) ?_; apply Exists.intro; apply And.intro; (intro w; go_simp; try with_reducible rfl); (simp only [Act.put, List.setIfInBounds_toArray, List.set_cons_zero, List.set_cons_succ]))
            (refine regP 5 hS (fun _ h => h.one Has.z) rfl (by kernel_rfl) (by kernel_rfl) (by kernel_rfl) (fun _ _ _ _ h => h) (by rfl) (by rfl) ?_; apply Exists.intro; apply And.intro; (intro w; go_simp; try with_reducible rfl); (simp only [Act.put, List.setIfInBounds_toArray, List.set_cons_zero, List.set_cons_succ]))
            (refine regR 6 hS (fun _ h => h.one Has.z) rfl (by kernel_rfl) (by kernel_rfl) (by kernel_rfl) (by kernel_rfl) (by kernel_rfl) (fun _ _ _ _ h => h) (by rfl) (by rfl) ?_; (first
                                      | refine ⟨_, yLd _ _ (by rfl) _ _ (by rfl) (agOf (by rfl)) (by first | exact Has.z | exact Has.s Has.z | exact Has.s (Has.s Has.z) | exact Has.s (Has.s (Has.s Has.z)) | exact Has.s (Has.s (Has.s (Has.s Has.z))) | exact Has.s (Has.s (Has.s (Has.s (Has.s Has.z))))) (by rfl), ?_⟩); (simp only [Act.put, List.setIfInBounds_toArray, List.set_cons_zero, List.set_cons_succ]))
            (refine regA 3 rfl (by kernel_rfl) (by rfl) (by rfl) false (by kernel_rfl) (fun K hK => ?_); (first
                                      | (refine Go.Sep.cl 14 _ _ (by rfl) (by rfl) (by kernel_rfl) (cut_yes hS.pull1 m hm0) ?_; rintro e w1 ⟨rfl, hS1⟩; clear hS; have hS := hS1; clear hS1; refine ⟨_, rfl, ?_⟩)
                                      | (refine Go.Sep.cl 15 _ _ (by rfl) (by rfl) (by kernel_rfl) (ref_cut_yes hS.pull2 m hm0) ?_; rintro e w1 ⟨rfl, hS1⟩; clear hS; have hS := hS1; clear hS1; refine ⟨_, rfl, ?_⟩)); refine hK _ _ _ hS (by first | (intro h; cases h; done) | exact fun _ _ h => h | exact fun _ _ h => h.drop | exact fun _ _ h => h.drop.drop | exact fun _ _ h => h.one Has.z | exact fun _ _ h => h.one (Has.s Has.z) | exact fun _ _ h => h.one (Has.s (Has.s Has.z))) ?_; clear hK K; (simp only [Act.put, List.setIfInBounds_toArray, List.set_cons_zero, List.set_cons_succ]))
            (refine regA 7 rfl (by kernel_rfl) (by rfl) (by rfl) true (by kernel_rfl) (fun K hK => ?_); (first
                                      | (refine Go.Sep.cl 14 _ _ (by rfl) (by rfl) (by kernel_rfl) (cut_yes hS.pull1 m hm0) ?_; rintro e w1 ⟨rfl, hS1⟩; clear hS; have hS := hS1; clear hS1; refine ⟨_, rfl, ?_⟩)
                                      | (refine Go.Sep.cl 15 _ _ (by rfl) (by rfl) (by kernel_rfl) (ref_cut_yes hS.pull2 m hm0) ?_; rintro e w1 ⟨rfl, hS1⟩; clear hS; have hS := hS1; clear hS1; refine ⟨_, rfl, ?_⟩)); refine hK _ _ _ hS (by first | (intro h; cases h; done) | exact fun _ _ h => h | exact fun _ _ h => h.drop | exact fun _ _ h => h.drop.drop | exact fun _ _ h => h.one Has.z | exact fun _ _ h => h.one (Has.s Has.z) | exact fun _ _ h => h.one (Has.s (Has.s Has.z))) ?_; clear hK K; (simp only [Act.put, List.setIfInBounds_toArray, List.set_cons_zero, List.set_cons_succ]))
            (refine regP 8 hS (fun _ h => h) rfl (by kernel_rfl) (by kernel_rfl) (by kernel_rfl) (fun _ _ _ _ h => h) (by rfl) (by rfl) ?_; apply Exists.intro; apply And.intro; (intro w; go_simp; try with_reducible rfl); (simp only [Act.put, List.setIfInBounds_toArray, List.set_cons_zero, List.set_cons_succ]))
            refine regDone (by kernel_rfl) ?_
            go_wp2
            exact ⟨⟨i + 1, _, _, by omega, by omega, by go_num, HR.out.cut m hm0 hm2, by show D.writes.length ≤ i + 1; omega, (hS.re [2, 1, 0]).drop⟩, by simp [intOf]; omega⟩
          · have hm3 : m < 0 := by omega
            clear hm0
            go_wp2_with (first
            | (refine toList (by rfl) ?_; refine wp_of_reads (rLdAOld hS _ _ (by rfl) _ _ (by rfl) (agOf (by rfl)) (szOf (by rfl)) (vs := opv ⟨kd, m, .slice aob lb.length capb, lb, wg⟩) (by rfl) (by exact HC.out)) ?_)
            | (refine toList (by rfl) ?_; refine al hS _ (by rfl) (zrOf (by rfl)) ?_; intro px w1 hS1; clear hS; have hS := hS1; clear hS1; rw [cells_agg] at hS)
            | (refine toList (by rfl) ?_; refine stW hS _ _ _ (by rfl) (by rfl) (opv ⟨kd, m, .slice aob lb.length capb, lb, wg⟩) (by rfl) HONE.out (szOf (by rfl)) Has.z (by rfl) ?_; intro w1 hS1; clear hS; have hS := hS1; clear hS1; dsimp only [List.set_cons_zero] at hS)
            | (go_at_call 11; refine (place_any _ kd 6 (by decide) (by decide) hk1 hk2).mono ?_; rintro e w1 ⟨rfl, rfl⟩; rw [HPK.out])
            | (refine toList (by rfl) ?_; refine ld hS _ _ (by rfl) _ _ (by rfl) (agOf (by rfl)) (by first | exact Has.z | exact Has.s Has.z | exact Has.s (Has.s Has.z) | exact Has.s (Has.s (Has.s Has.z)) | exact Has.s (Has.s (Has.s (Has.s Has.z))) | exact Has.s (Has.s (Has.s (Has.s (Has.s Has.z))))) (by rfl) ?_))
            refine regStart2 [7] hS (fun _ h => h.one Has.z) (by kernel_rfl) rfl ?_
            intro w1 hS1
            clear hS; have hS := hS1; clear hS1
            (refine regP 0 hS (fun _ h => h.one Has.z) rfl (by kernel_rfl) (by kernel_rfl) (by kernel_rfl) (fun _ _ _ _ h => h) (by rfl) (by rfl) ?_; apply Exists.intro; apply And.intro; (intro w; go_simp; try with_reducible rfl); (simp only [Act.put, List.setIfInBounds_toArray, List.set_cons_zero, List.set_cons_succ]))
            (refine regP 1 hS (fun _ h => h.one Has.z) rfl (by kernel_rfl) (by kernel_rfl) (by kernel_rfl) (fun _ _ _ _ h => h) (by rfl) (by rfl) ?_; apply Exists.intro; apply And.intro; (intro w; go_simp; try with_reducible rfl); (simp only [Act.put, List.setIfInBounds_toArray, List.set_cons_zero, List.set_cons_succ]))
            (refine regR 2 hS (fun _ h => h.one Has.z) rfl (by kernel_rfl) (by kernel_rfl) (by kernel_rfl) (by kernel_rfl) (by kernel_rfl) (fun _ _ _ _ h => h) (by rfl) (by rfl) ?_; (first
                                      | refine ⟨_, yLd _ _ (by rfl) _ _ (by rfl) (agOf (by rfl)) (by first | exact Has.z | exact Has.s Has.z | exact Has.s (Has.s Has.z) | exact Has.s (Has.s (Has.s Has.z)) | exact Has.s (Has.s (Has.s (Has.s Has.z))) | exact Has.s (Has.s (Has.s (Has.s (Has.s Has.z))))) (by rfl), ?_⟩); (simp only [Act.put, List.setIfInBounds_toArray, List.set_cons_zero, List.set_cons_succ]))
            (refine regP 4 hS (fun _ h => h.one Has.z) rfl (by kernel_rfl) (by kernel_rfl) (by kernel_rfl) (fun _ _ _ _ h => h) (by rfl) (by rfl) ?_; apply Exists.intro; apply And.intro; (intro w; go_simp; try with_reducible rfl); (simp only [Act.put, List.setIfInBounds_toArray, List.set_cons_zero, List.set_cons_succ]))
            (refine regP 5 hS (fun _ h => h.one Has.z) rfl (by kernel_rfl) (by kernel_rfl) (by kernel_rfl) (fun _ _ _ _ h => h) (by rfl) (by rfl) ?_; apply Exists.intro; apply And.intro; (intro w; go_simp; try with_reducible rfl); (simp only [Act.put, List.setIfInBounds_toArray, List.set_cons_zero, List.set_cons_succ]))
            (refine regR 6 hS (fun _ h => h.one Has.z) rfl (by kernel_rfl) (by kernel_rfl) (by kernel_rfl) (by kernel_rfl) (by kernel_rfl) (fun _ _ _ _ h => h) (by rfl) (by rfl) ?_; (first
                                      | refine ⟨_, yLd _ _ (by rfl) _ _ (by rfl) (agOf (by rfl)) (by first | exact Has.z | exact Has.s Has.z | exact Has.s (Has.s Has.z) | exact Has.s (Has.s (Has.s Has.z)) | exact Has.s (Has.s (Has.s (Has.s Has.z))) | exact Has.s (Has.s (Has.s (Has.s (Has.s Has.z))))) (by rfl), ?_⟩); (simp only [Act.put, List.setIfInBounds_toArray, List.set_cons_zero, List.set_cons_succ]))
            (refine regA 3 rfl (by kernel_rfl) (by rfl) (by rfl) false (by kernel_rfl) (fun K hK => ?_); (first
                                      | (refine Go.Sep.cl 14 _ _ (by rfl) (by rfl) (by kernel_rfl) (cut_no (hS.front 1 rfl) m hm3) ?_; rintro e w1 ⟨rfl, rfl⟩; refine ⟨_, rfl, ?_⟩)
                                      | (refine Go.Sep.cl 15 _ _ (by rfl) (by rfl) (by kernel_rfl) (ref_cut_no (hS.front 2 rfl) m hm3) ?_; rintro e w1 ⟨rfl, rfl⟩; refine ⟨_, rfl, ?_⟩)); refine hK _ _ _ hS (by first | (intro h; cases h; done) | exact fun _ _ h => h | exact fun _ _ h => h.drop | exact fun _ _ h => h.drop.drop | exact fun _ _ h => h.one Has.z | exact fun _ _ h => h.one (Has.s Has.z) | exact fun _ _ h => h.one (Has.s (Has.s Has.z))) ?_; clear hK K; (simp only [Act.put, List.setIfInBounds_toArray, List.set_cons_zero, List.set_cons_succ]))
            (refine regA 7 rfl (by kernel_rfl) (by rfl) (by rfl) true (by kernel_rfl) (fun K hK => ?_); (first
                                      | (refine Go.Sep.cl 14 _ _ (by rfl) (by rfl) (by kernel_rfl) (cut_no (hS.front 1 rfl) m hm3) ?_; rintro e w1 ⟨rfl, rfl⟩; refine ⟨_, rfl, ?_⟩)
                                      | (refine Go.Sep.cl 15 _ _ (by rfl) (by rfl) (by kernel_rfl) (ref_cut_no (hS.front 2 rfl) m hm3) ?_; rintro e w1 ⟨rfl, rfl⟩; refine ⟨_, rfl, ?_⟩)); refine hK _ _ _ hS (by first | (intro h; cases h; done) | exact fun _ _ h => h | exact fun _ _ h => h.drop | exact fun _ _ h => h.drop.drop | exact fun _ _ h => h.one Has.z | exact fun _ _ h => h.one (Has.s Has.z) | exact fun _ _ h => h.one (Has.s (Has.s Has.z))) ?_; clear hK K; (simp only [Act.put, List.setIfInBounds_toArray, List.set_cons_zero, List.set_cons_succ]))
            (refine regP 8 hS (fun _ h => h) rfl (by kernel_rfl) (by kernel_rfl) (by kernel_rfl) (fun _ _ _ _ h => h) (by rfl) (by rfl) ?_; apply Exists.intro; apply And.intro; (intro w; go_simp; try with_reducible rfl); (simp only [Act.put, List.setIfInBounds_toArray, List.set_cons_zero, List.set_cons_succ]))
            refine regDone (by kernel_rfl) ?_
            go_wp2
            exact ⟨⟨i + 1, D, R, by omega, by omega, by go_num, HR.out, by omega, hS.drop⟩, by simp [intOf]; omega⟩
        · have e4 : (pk == 4) = false := beq_eq_false_iff_ne.2 h4
          have e5 : (pk == 5) = false := beq_eq_false_iff_ne.2 h5
          obtain ⟨bl, hbl⟩ : ∃ bl, blockOf ⟨kd, m, .slice aob lb.length capb, lb, wg⟩ = bl := ⟨_, rfl⟩
          have hbl2 : bl.length ≤ 300 := by
            rw [← hbl]; unfold blockOf
            cases wg
            · simp [pad_length]
            · simp only [if_true]; omega
          have HBL := Lib.hid hbl
          obtain ⟨cd, hcd⟩ : ∃ cd, wcode D m bl.length = cd := ⟨_, rfl⟩
          have HCD := Lib.hid hcd
          have HRN := Lib.hid (HR.out.next m bl)
          have HWN := Lib.hid (wnext_writes D m bl)
          clear hbl hcd h4 h5
          go_wp2_with (first
            | (refine toList (by rfl) ?_; refine wp_of_reads (rLdAOld hS _ _ (by rfl) _ _ (by rfl) (agOf (by rfl)) (szOf (by rfl)) (vs := opv ⟨kd, m, .slice aob lb.length capb, lb, wg⟩) (by rfl) (by exact HC.out)) ?_)
            | (refine toList (by rfl) ?_; refine al hS _ (by rfl) (zrOf (by rfl)) ?_; intro px w1 hS1; clear hS; have hS := hS1; clear hS1; rw [cells_agg] at hS)
            | (refine toList (by rfl) ?_; refine stW hS _ _ _ (by rfl) (by rfl) (opv ⟨kd, m, .slice aob lb.length capb, lb, wg⟩) (by rfl) HONE.out (szOf (by rfl)) Has.z (by rfl) ?_; intro w1 hS1; clear hS; have hS := hS1; clear hS1; dsimp only [List.set_cons_zero] at hS)
            | (go_at_call 11; refine (place_any _ kd 6 (by decide) (by decide) hk1 hk2).mono ?_; rintro e w1 ⟨rfl, rfl⟩; rw [HPK.out])
            | (refine toList (by rfl) ?_; refine ld hS _ _ (by rfl) _ _ (by rfl) (agOf (by rfl)) (by first | exact Has.z | exact Has.s Has.z | exact Has.s (Has.s Has.z) | exact Has.s (Has.s (Has.s Has.z)) | exact Has.s (Has.s (Has.s (Has.s Has.z))) | exact Has.s (Has.s (Has.s (Has.s (Has.s Has.z))))) (by rfl) ?_)
            | (refine toList (by rfl) ?_; refine wp_of_reads (rLdA hS _ _ (by rfl) _ _ (by rfl) (agOf (by rfl)) (szOf (by rfl)) Has.z (vs := opv ⟨kd, m, .slice aob lb.length capb, lb, wg⟩) (by rfl) (by rfl)) ?_)
            | (go_at_call 16; refine (block_any hS kd m _ lb wg HB.out (by omega)).mono ?_; rintro e w1 ⟨v', rfl, hS1⟩; rw [HBL.out] at hS1; obtain ⟨ao6, c6, rfl, _, _⟩ := hS1.slShape (k := 0) rfl; clear hS; have hS := hS1; clear hS1)
            | (go_at_call 17; refine (write_any (hS.re [2, 0, 1, 3]) HR.out m _ _ bl (fun w h => h.slRd Has.z) (by omega)).mono ?_; rintro e w1 ⟨rfl, hS1⟩; clear hS; have hS := hS1; clear hS1; rw [HCD.out])
            | (go_at_call 18; refine (ref_write_any (hS.re [3, 1, 0, 2]) HR.out m _ _ bl (fun w h => h.slRd Has.z) (by omega)).mono ?_; rintro e w1 ⟨rfl, hS1⟩; clear hS; have hS := hS1; clear hS1; rw [HCD.out]))
          have h0 : Sat W _ (Sl 5 1 (.slice ao6 bl.length c6) bl.length (bv bl) :: IsDisk p (wnext D m bl) :: IsRef q (rnext D R m bl) :: []) := (hS.re [3, 1, 2, 0]).drop
          have HS := Lib.hid h0
          clear h0
          go_loopw [18] (fun vi wz => ∃ k : Nat, k ≤ bl.length ∧ vi = .int .i64 k ∧ ∃ Z : List Value, Z.length = bl.length ∧ Sat W wz (Sl 5 1 (.slice ao6 bl.length c6) bl.length Z :: IsDisk p (wnext D m bl) :: IsRef q (rnext D R m bl) :: [])) (fun vi _ => bl.length - (intOf vi).toNat)
          case atStart => exact ⟨0, by omega, rfl, _, by rw [bv_length], HS.out⟩
          case round =>
            clear hS HS
            obtain ⟨k, hk, rfl, Z, hZ, hS⟩ := hrel
            by_cases hlt : k < bl.length
            · have j4 : (k : Int) < (bl.length : Int) := by omega
              have j5 : (bl.length : Int) ≤ 300 := by omega
              obtain ⟨b6, o6, c7, he6, _⟩ := hS.slAddr (k := 0) rfl (by omega)
              simp only [Value.slice.injEq, true_and] at he6
              obtain ⟨rfl, rfl⟩ := he6
              have HZ := Lib.hid hZ
              clear hZ
              go_wp2_with (first
                | (refine toList (by rfl) ?_; refine stSl hS _ _ _ (by rfl) _ _ (by rfl) _ (by first | exact evC | exact evT (by rfl)) (by rfl) (szOf (by rfl)) Has.z k (by omega) (by rw [HZ.out]; exact hlt) ?_; intro w1 hS1; clear hS; have hS := hS1; clear hS1; dsimp only [List.set_cons_zero] at hS))
              exact ⟨⟨k + 1, by omega, by go_num, _, by simp [HZ.out], hS⟩, by simp [intOf]; omega⟩
            · obtain rfl : k = bl.length := by omega
              go_wp2_with (refine toList (by rfl) ?_; refine ld hS _ _ (by rfl) _ _ (by rfl) (agOf (by rfl)) (by first | exact Has.z | exact Has.s Has.z | exact Has.s (Has.s Has.z) | exact Has.s (Has.s (Has.s Has.z)) | exact Has.s (Has.s (Has.s (Has.s Has.z))) | exact Has.s (Has.s (Has.s (Has.s (Has.s Has.z))))) (by rfl) ?_)
              exact ⟨⟨i + 1, _, _, by omega, by omega, by go_num, HRN.out, by have := HWN.out; omega, hS.drop⟩, by simp [intOf]; omega⟩
    · have hee : (decide ((i : Int) < (l.length : Int)) = false ∧ decide (i < l.length) = false) ∨ decide ((i : Int) < (l.length : Int)) = true ∧ decide ((i : Int) < 60) = false ∧ i < l.length := by
        by_cases h : i < l.length
        · exact .inr ⟨by simp; omega, by simp; omega, h⟩
        · exact .inl ⟨by simp; omega, by simp; omega⟩
      rcases hee with ⟨e1, e2⟩ | ⟨e1, e2, e3⟩
      all_goals
        go_wp2_with (first
          | (go_at_call 19; refine (same_any hS HR.out).mono ?_; rintro e w1 ⟨rfl, hS1⟩; clear hS; have hS := hS1; clear hS1)
          | (go_at_call 10; refine (awake_any hS).mono ?_; rintro e w1 ⟨rfl, hS1⟩; clear hS; have hS := hS1; clear hS1))
        go_ret
        exact ⟨rfl, hS.drop.drop⟩

theorem Plays.contract (H : Type) (enc : TypeId × Value → H) (W : World) (base : Nat) (args : Array Value) (ds gs : List (DataW H)) (before : List MemPlace)
    (hval : ∀ (j : Nat) t v, Try.f3.params[j]? = some t → args[j]? = some v → Value.okWide Try.prog W .any base t v)
    (hW : DataW.Whole enc Try.prog Try.f3.params.toList Rows.diskPlaysSpec.vars false W args.toList ds gs before)
    (hreach : (DataW.weightsEach Try.prog (Try.f3.params.toList ++ Rows.diskPlaysSpec.plain.varTypes Try.prog) (ds ++ gs)).all (· ≤ reachBytes) = true) :
    Calls Try.prog 3 args W fun e W' => ∃ v, e = .returned v ∧ Rows.diskPlaysSpec.post enc Try.prog Try.f3 false true false false W args v W' := by
  have hW' := hW
  obtain ⟨p, q, hA, hV, rfl, hfz, hnd⟩ := hW
  rw [Try.params3] at hA hval hreach
  obtain ⟨v0, vs0, d0, ds0, p0, q0, hargs, rfl, rfl, h0, r0⟩ := trodAll_cons hA
  obtain ⟨v1, vs1, d1, ds1, p1, q1, rfl, rfl, rfl, h1, r1⟩ := trodAll_cons r0
  obtain ⟨rfl, rfl, rfl⟩ := trodAll_nil r1
  obtain rfl : args = #[v0, v1] := by cases args; simp_all
  obtain ⟨rfl, rfl⟩ := trodVars_none hV
  obtain ⟨a0, rfl, rfl, rfl, w0⟩ := open_int Try.underlying3 (hval 0 3 v0 rfl rfl) h0
  obtain ⟨ao1, len1, cap1, rfl⟩ := okWide_slice Try.underlying22 (hval 1 22 v1 rfl rfl)
  obtain ⟨l, rfl, hr1, hl1⟩ := open_ops h1
  refine Calls.mono (R := fun e w' => e = .returned (.bool true) ∧ Sat W w' []) ?_ ?_
  · by_cases h : 160 ≤ a0 ∧ a0 ≤ 1024
    · obtain ⟨n, rfl⟩ := Int.eq_ofNat_of_zero_le (show 0 ≤ a0 by omega)
      exact Plays.walk n l ao1 cap1 W (by omega) (by omega) hr1 hl1
    · exact Plays.no a0 _ W (by omega)
  refine fun e W' ⟨he, hS⟩ => ?_
  subst he
  exact ⟨_, rfl, law_post (tb := 4) (by kernel_rfl) (by kernel_rfl) rfl Try.underlying4 rfl hW' rfl hS⟩

theorem Plays.own : ownKnob Try.prog.godebug = none := by kernel_rfl
set_option maxRecDepth 100000 in
theorem Plays.lifted (os : Os) (started : os.Started) (H : Type) (enc : TypeId × Value → H) :
    ReturnsInHanded {} Try.checked os 3 .any (Rows.diskPlaysSpec.pre6 enc Try.prog Try.f3 Rows.diskPlaysRow.domain false) (Rows.diskPlaysSpec.post enc Try.prog Try.f3 false true false false) := by
  refine returnsInHanded_of_change_shaped (C := Try.checked) Plays.own started (by kernel_rfl) Try.func3
    (ChangeSpec.witness6 (enc := enc) (C := Try.checked) false ⟨#[], #[.int .i64 0, .slice none 0 0], []⟩ 8 (by kernel_rfl) (by kernel_rfl) (by kernel_rfl) (by kernel_rfl)) ?_
  intro W base args ds gs before hval hW _ hreach _ _
  exact Plays.contract H enc W base args ds gs before hval hW hreach

theorem Plays.holds : Rows.DiskPlaysSaid :=
  OpenClaim.holds_of_wide 3 Try.f3 rfl rfl rfl rfl rfl rfl rfl ⟨rfl, rfl, rfl, rfl, rfl⟩ rfl rfl rfl rfl rfl (by kernel_rfl) Try.func3 (by kernel_rfl)
    (of_decide_eq_true (by kernel_rfl)) (by unfold Func.isWrapper; first | (rw [if_pos (by decide +kernel)]; kernel_rfl) | (rw [if_neg (by decide +kernel)]; exact ⟨rfl, rfl⟩))
    (fun os started H enc _ => Plays.lifted os started H enc)
end Go.Proofs.Ytnppgkbincffeaa
