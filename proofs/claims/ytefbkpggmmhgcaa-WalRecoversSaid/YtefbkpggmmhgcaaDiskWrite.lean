/-
  Package disk: the contract of Write.
-/
import Derived.Test.YtefbkpggmmhgcaaDisk
import Derived.Test.YtefbkpggmmhgcaaSepReg
namespace Go.Proofs.Ytefbkpggmmhgcaa
open Go.RowKit Go.Sep
set_option linter.unusedSimpArgs false
set_option linter.unusedVariables false
attribute [local irreducible] Go.Oper.wp Go.wpList Go.Calls Go.Code.wp Go.Sep.Reg

theorem write_dead {W w : World} {L : List Asrt} {p : Nat} {D : DiskS} (hS : Sat W w (IsDisk p D :: L)) (n : Int) (v : Value) (hd : D.dead = true) :
    Calls Try.prog 18 #[.pointer (some ⟨p, 0, none⟩), .int .i64 n, v] w fun e w' => e = .returned (.int .i64 22) ∧ w = w' := by
  obtain ⟨v1, v2, v3, hS⟩ := IsDisk.open hS
  rw [hd] at hS
  go_enter Try.func18, Try.ntmps18
  go_wp2_with (refine toList (by rfl) ?_; refine ld hS _ _ (by rfl) _ _ (by rfl) (agOf (by rfl)) (by first | exact Has.z | exact Has.s Has.z | exact Has.s (Has.s Has.z) | exact Has.s (Has.s (Has.s Has.z)) | exact Has.s (Has.s (Has.s (Has.s Has.z))) | exact Has.s (Has.s (Has.s (Has.s (Has.s Has.z))))) (by rfl) ?_)
  go_ret
  exact ⟨rfl, rfl⟩
set_option maxHeartbeats 2000000 in
theorem write_arg {W w : World} {L : List Asrt} {p : Nat} {D : DiskS} (hS : Sat W w (IsDisk p D :: L)) (n : Int) (ao : Option Addr) (m c : Nat) (hd : D.dead = false) (h : n < 0 ∨ (D.blocks.length : Int) ≤ n ∨ m ≠ 128) :
    Calls Try.prog 18 #[.pointer (some ⟨p, 0, none⟩), .int .i64 n, .slice ao m c] w fun e w' => e = .returned (.int .i64 1) ∧ w = w' := by
  obtain ⟨v1, v2, v3, hS⟩ := IsDisk.open hS
  rw [hd] at hS
  obtain ⟨ao1, c1, rfl, _⟩ := hS.tbShape (k := 1) rfl
  by_cases h0 : n < 0
  · go_enter Try.func18, Try.ntmps18
    go_wp2_with (refine toList (by rfl) ?_; refine ld hS _ _ (by rfl) _ _ (by rfl) (agOf (by rfl)) (by first | exact Has.z | exact Has.s Has.z | exact Has.s (Has.s Has.z) | exact Has.s (Has.s (Has.s Has.z)) | exact Has.s (Has.s (Has.s (Has.s Has.z))) | exact Has.s (Has.s (Has.s (Has.s (Has.s Has.z))))) (by rfl) ?_)
    go_ret
    exact ⟨rfl, rfl⟩
  by_cases h1 : (D.blocks.length : Int) ≤ n
  · go_enter Try.func18, Try.ntmps18
    go_wp2_with (refine toList (by rfl) ?_; refine ld hS _ _ (by rfl) _ _ (by rfl) (agOf (by rfl)) (by first | exact Has.z | exact Has.s Has.z | exact Has.s (Has.s Has.z) | exact Has.s (Has.s (Has.s Has.z)) | exact Has.s (Has.s (Has.s (Has.s Has.z))) | exact Has.s (Has.s (Has.s (Has.s (Has.s Has.z))))) (by rfl) ?_)
    go_ret
    exact ⟨rfl, rfl⟩
  · have h2 : ((m : Int) == 128) = false := beq_eq_false_iff_ne.2 (by omega)
    have h3 : ((m : Int) != 128) = true := by rw [bne_iff_ne]; omega
    have h4 : n < (D.blocks.length : Int) := by omega
    have h5 : 0 ≤ n := by omega
    clear h h0 h1
    obtain ⟨k, rfl⟩ := Int.eq_ofNat_of_zero_le h5
    go_enter Try.func18, Try.ntmps18
    go_wp2_with (refine toList (by rfl) ?_; refine ld hS _ _ (by rfl) _ _ (by rfl) (agOf (by rfl)) (by first | exact Has.z | exact Has.s Has.z | exact Has.s (Has.s Has.z) | exact Has.s (Has.s (Has.s Has.z)) | exact Has.s (Has.s (Has.s (Has.s Has.z))) | exact Has.s (Has.s (Has.s (Has.s (Has.s Has.z))))) (by rfl) ?_)
    go_ret
    exact ⟨rfl, rfl⟩
set_option maxHeartbeats 2000000 in
theorem write_cut {W w : World} {L : List Asrt} {p : Nat} {D : DiskS} (hS : Sat W w (IsDisk p D :: L)) (n : Nat) (ao : Option Addr) (c : Nat) (hd : D.dead = false) (hn : n < D.blocks.length) (hl : D.left = 0) :
    Calls Try.prog 18 #[.pointer (some ⟨p, 0, none⟩), .int .i64 n, .slice ao 128 c] w fun e w' => e = .returned (.int .i64 22) ∧ Sat W w' (IsDisk p { D with dead := true } :: L) := by
  obtain ⟨v1, v2, v3, hS⟩ := IsDisk.open hS
  obtain ⟨ao1, c1, rfl, _⟩ := hS.tbShape (k := 1) rfl
  rw [hd, hl] at hS
  have h4 : (n : Int) < (D.blocks.length : Int) := by omega
  go_enter Try.func18, Try.ntmps18
  go_wp2_with (first
    | (refine toList (by rfl) ?_; refine ld hS _ _ (by rfl) _ _ (by rfl) (agOf (by rfl)) (by first | exact Has.z | exact Has.s Has.z | exact Has.s (Has.s Has.z) | exact Has.s (Has.s (Has.s Has.z)) | exact Has.s (Has.s (Has.s (Has.s Has.z))) | exact Has.s (Has.s (Has.s (Has.s (Has.s Has.z))))) (by rfl) ?_)
    | (refine toList (by rfl) ?_; refine st hS _ _ _ (by rfl) _ _ (by rfl) _ (by first | exact evC | exact evT (by rfl)) (by rfl) (szOf (by rfl)) (by first | exact Has.z | exact Has.s Has.z | exact Has.s (Has.s Has.z) | exact Has.s (Has.s (Has.s Has.z)) | exact Has.s (Has.s (Has.s (Has.s Has.z))) | exact Has.s (Has.s (Has.s (Has.s (Has.s Has.z))))) (by exact Nat.le_of_ble_eq_true rfl) ?_; intro w1 hS1; clear hS; have hS := hS1; clear hS1; dsimp only [List.set] at hS))
  go_ret
  exact ⟨rfl, IsDisk.mk (D := { D with dead := true }) (by rw [hl]; exact hS)⟩

/-- What a write that is done leaves. -/
def DiskS.wrote (D : DiskS) (n : Nat) (b : List UInt8) : DiskS :=
  { D with blocks := D.blocks.set n b, writes := D.writes ++ [(n, b)], left := if 0 < D.left then D.left - 1 else D.left }
theorem wr_zero (n : Nat) : wenc (n, zeros 128) = .int .i64 n :: List.replicate 128 (.int .u8 0) := by simp [wenc, bv_zeros]
set_option maxRecDepth 20000 in
set_option maxHeartbeats 4000000 in
theorem write_ok {W w : World} {L : List Asrt} {p : Nat} {D : DiskS} (hS : Sat W w (IsDisk p D :: L)) (n : Nat) (v : Value) (b : List UInt8) (hb : ∀ w, Sat W w L → Rd w v 128 1 (bv b))
    (hd : D.dead = false) (hn : n < D.blocks.length) (hl : D.left ≠ 0) (hl2 : -1 ≤ D.left) (hl3 : D.left ≤ 9223372036854775807) (hw : D.writes.length ≤ 1048576) (hlen : D.blocks.length ≤ 1024) :
    Calls Try.prog 18 #[.pointer (some ⟨p, 0, none⟩), .int .i64 n, v] w fun e w' => e = .returned (.int .i64 0) ∧ Sat W w' (IsDisk p (D.wrote n b) :: L) := by
  obtain ⟨v1, v2, v3, hS⟩ := IsDisk.open hS
  obtain ⟨bb, off, c1, rfl, _⟩ := hS.tbAddr (k := 1) rfl (by omega)
  obtain ⟨ao3, c3, rfl, _⟩ := hS.tbShape (k := 3) rfl
  have hrd := hb w hS.drop.drop.drop.drop
  obtain ⟨ao, c, rfl, _, _, hbl, _⟩ := id hrd
  rw [bv_length] at hbl
  rw [hd] at hS
  have h4 : (n : Int) < (D.blocks.length : Int) := by omega
  have h5 : (D.left == 0) = false := beq_eq_false_iff_ne.2 hl
  have hwl : (wenc (n, zeros 128)).length = 129 := by simp [wenc, bv_length, zeros]
  have hwo : ∀ x : Nat × List UInt8, ∀ u ∈ wenc x, u.oneCell' = true := fun x u hu => by
    rcases List.mem_cons.1 hu with rfl | hu
    · rfl
    · exact bv_one _ u hu
  have hX : ∀ Z : List Value, Z.length = 129 → List.take 0 Z ++ wenc (n, zeros 128) ++ List.drop (0 + (wenc (n, zeros 128)).length) Z = wenc (n, zeros 128) := fun Z hZ => by
    rw [List.take_zero, List.nil_append, hwl, List.drop_eq_nil_of_le (by omega), List.append_nil]
  have hY : List.take 1 (wenc (n, zeros 128)) ++ List.take (min 128 128 * 1) (bv b) ++ List.drop (1 + min 128 128 * 1) (wenc (n, zeros 128)) = wenc (n, b) := by
    rw [List.drop_eq_nil_of_le (by rw [hwl]; simp), show List.take (min 128 128 * 1) (bv b) = bv b from List.take_of_length_le (by rw [bv_length]; simp; omega)]
    simp [wenc]
  have hR : List.take 128 (List.drop 1 (wenc (n, b))) = bv b := by
    rw [show List.drop 1 (wenc (n, b)) = bv b from rfl]; exact List.take_of_length_le (by rw [bv_length]; omega)
  have hbl2 : (bv b).length = 128 := by rw [bv_length]; omega
  have hN : (wenc (n, b)).length = 129 := by simp [wenc, bv_length]; omega
  have hA : List.take 129 (List.drop 0 (wenc (n, b))) = wenc (n, b) := List.take_of_length_le (by rw [List.drop_zero, hN]; exact Nat.le_refl _)
  have hC : ∀ u ∈ [Value.agg (wenc (n, b)).toArray], u.cells.size = 129 := fun u hu => by
    rcases List.mem_singleton.1 hu with rfl
    simp [Value.cells, hN]
  have HN := Lib.hid hN
  have HA := Lib.hid hA
  have HC := Lib.hid hC
  clear hN hA hC
  have HR := Lib.hid hR
  have HL := Lib.hid hbl2
  clear hR hbl2
  have HX := Lib.hid hX
  have HY := Lib.hid hY
  have HW := Lib.hid hwo
  clear hX hY hwo
  have hbd : ∀ u : World, (Instr.build 82 #[(0, .int .i64 (n : Int))]).run Try.prog u = .ok (.agg (wenc (n, zeros 128)).toArray) u := fun u => run_build u _ _ _ (by kernel_rfl)
  have HB := Lib.hid hbd
  clear hbd
  by_cases h6 : 0 < D.left
  all_goals
    go_enter Try.func18, Try.ntmps18
    go_wp2_with (first
      | (refine toList (by rfl) ?_; refine ld hS _ _ (by rfl) _ _ (by rfl) (agOf (by rfl)) (by first | exact Has.z | exact Has.s Has.z | exact Has.s (Has.s Has.z) | exact Has.s (Has.s (Has.s Has.z)) | exact Has.s (Has.s (Has.s (Has.s Has.z))) | exact Has.s (Has.s (Has.s (Has.s (Has.s Has.z))))) (by rfl) ?_)
      | (refine toList (by rfl) ?_; refine st hS _ _ _ (by rfl) _ _ (by rfl) _ (by first | exact evC | exact evT (by rfl)) (by rfl) (szOf (by rfl)) (by first | exact Has.z | exact Has.s Has.z | exact Has.s (Has.s Has.z) | exact Has.s (Has.s (Has.s Has.z)) | exact Has.s (Has.s (Has.s (Has.s Has.z))) | exact Has.s (Has.s (Has.s (Has.s (Has.s Has.z))))) (by exact Nat.le_of_ble_eq_true rfl) ?_; intro w1 hS1; clear hS; have hS := hS1; clear hS1; dsimp only [List.set] at hS)
      | (refine toList (by rfl) ?_; refine al hS _ (by rfl) (zrOf (by rfl)) ?_; intro pw w1 hS1; clear hS; have hS := hS1; clear hS1; rw [cells_agg] at hS)
      | (refine toList (by rfl) ?_; refine bd _ _ (by rfl) (by simp only [List.map_toArray, List.map_cons, List.map_nil]; rfl) HB.out ?_)
      | (refine toList (by rfl) ?_; refine stA hS _ _ _ (by rfl) _ _ (by rfl) (wenc (n, zeros 128)) (by rfl) (HW.out _) (by rw [hwl]; exact szOf (by rfl)) Has.z (by rw [hwl]; simp) ?_; intro w1 hS1; clear hS; have hS := hS1; clear hS1; rw [List.set_cons_zero, HX.out _ (by simp)] at hS)
      | (refine toList (by rfl) ?_; refine cp hS _ _ _ _ (by rfl) _ _ _ _ _ (by rfl) (by rfl) (elOf (by rfl)) (by omega) Has.z (by exact hb _ hS.drop.drop.drop.drop.drop) (bv_one b) (by rw [hwl]; exact Nat.le_refl _) ?_; intro w1 hS1; clear hS; have hS := hS1; clear hS1; rw [List.set_cons_zero, HY.out] at hS))
    (refine wp_region_tail_sat 8 hS (by kernel_rfl) (by kernel_rfl) ?_
     intro w1 hS1
     clear hS; have hS := hS1; clear hS1
     simp only [List.take_succ_cons, List.take_zero, List.drop_succ_cons, List.drop_zero]
     repeat (first | (first
          | (refine stillList (by rfl) ?_; refine ldS hS _ _ (by rfl) _ _ (by rfl) (agOf (by rfl)) (by first | exact Has.z | exact Has.s Has.z | exact Has.s (Has.s Has.z) | exact Has.s (Has.s (Has.s Has.z)) | exact Has.s (Has.s (Has.s (Has.s Has.z))) | exact Has.s (Has.s (Has.s (Has.s (Has.s Has.z))))) (by rfl) ?_; (simp only [Act.put, List.setIfInBounds_toArray, List.set_cons_zero, List.set_cons_succ]))
          | (refine stillList (by rfl) ?_; refine ldAS hS _ _ (by rfl) _ _ (by rfl) (agOf (by rfl)) (szOf (by rfl)) (by first | exact Has.z | exact Has.s Has.z | exact Has.s (Has.s Has.z) | exact Has.s (Has.s (Has.s Has.z)) | exact Has.s (Has.s (Has.s (Has.s Has.z))) | exact Has.s (Has.s (Has.s (Has.s (Has.s Has.z))))) (by exact HR.out) (by exact HL.out) ?_; (simp only [Act.put, List.setIfInBounds_toArray, List.set_cons_zero, List.set_cons_succ]))) | still_step)
     refine wpStill_nil ?_)
    refine toList (by rfl) ?_
    refine stTbA hS _ _ _ (by rfl) _ _ (by rfl) b (by rfl) (bv_one b) HL.out (szOf (by rfl)) (by first | exact Has.z | exact Has.s Has.z | exact Has.s (Has.s Has.z) | exact Has.s (Has.s (Has.s Has.z)) | exact Has.s (Has.s (Has.s (Has.s Has.z))) | exact Has.s (Has.s (Has.s (Has.s (Has.s Has.z))))) n (by rfl) hn ?_
    intro w1 hS1
    clear hS; have hS := hS1; clear hS1
    go_wp2
    refine regStart [7, 10] hS (by kernel_rfl) rfl ?_
    intro w1 hS1
    clear hS; have hS := hS1; clear hS1
    (refine regP 0 hS (fun _ h => h) rfl (by kernel_rfl) (by kernel_rfl) (by kernel_rfl) (fun _ _ _ _ h => h) (by rfl) (by rfl) ?_; apply Exists.intro; apply And.intro; (intro w; go_simp; try with_reducible rfl); (simp only [Act.put, List.setIfInBounds_toArray, List.set_cons_zero, List.set_cons_succ]))
    (refine regP 1 hS (fun _ h => h) rfl (by kernel_rfl) (by kernel_rfl) (by kernel_rfl) (fun _ _ _ _ h => h) (by rfl) (by rfl) ?_; apply Exists.intro; apply And.intro; (intro w; go_simp; try with_reducible rfl); (simp only [Act.put, List.setIfInBounds_toArray, List.set_cons_zero, List.set_cons_succ]))
    (refine regP 2 hS (fun _ h => h) rfl (by kernel_rfl) (by kernel_rfl) (by kernel_rfl) (fun _ _ _ _ h => h) (by rfl) (by rfl) ?_; apply Exists.intro; apply And.intro; (intro w; go_simp; try with_reducible rfl); (simp only [Act.put, List.setIfInBounds_toArray, List.set_cons_zero, List.set_cons_succ]))
    (refine regP 3 hS (fun _ h => h) rfl (by kernel_rfl) (by kernel_rfl) (by kernel_rfl) (fun _ _ _ _ h => h) (by rfl) (by rfl) ?_; apply Exists.intro; apply And.intro; (intro w; go_simp; try with_reducible rfl); (simp only [Act.put, List.setIfInBounds_toArray, List.set_cons_zero, List.set_cons_succ]))
    (refine regR 4 hS (fun _ h => h) rfl (by kernel_rfl) (by kernel_rfl) (by kernel_rfl) (by kernel_rfl) (by kernel_rfl) (fun _ _ _ _ h => h) (by rfl) (by rfl) ?_; (first
              | refine ⟨_, yLd _ _ (by rfl) _ _ (by rfl) (agOf (by rfl)) (by first | exact Has.z | exact Has.s Has.z | exact Has.s (Has.s Has.z) | exact Has.s (Has.s (Has.s Has.z)) | exact Has.s (Has.s (Has.s (Has.s Has.z))) | exact Has.s (Has.s (Has.s (Has.s (Has.s Has.z))))) (by rfl), ?_⟩
              | refine ⟨_, yLdA _ _ (by rfl) _ _ (by rfl) (agOf (by rfl)) (szOf (by rfl)) (by first | exact Has.z | exact Has.s Has.z | exact Has.s (Has.s Has.z) | exact Has.s (Has.s (Has.s Has.z)) | exact Has.s (Has.s (Has.s (Has.s Has.z))) | exact Has.s (Has.s (Has.s (Has.s (Has.s Has.z))))) (by exact HA.out) (by exact HN.out), ?_⟩); (simp only [Act.put, List.setIfInBounds_toArray, List.set_cons_zero, List.set_cons_succ]))
    (refine regR 5 hS (fun _ h => h) rfl (by kernel_rfl) (by kernel_rfl) (by kernel_rfl) (by kernel_rfl) (by kernel_rfl) (fun _ _ _ _ h => h) (by rfl) (by rfl) ?_; (first
              | refine ⟨_, yLd _ _ (by rfl) _ _ (by rfl) (agOf (by rfl)) (by first | exact Has.z | exact Has.s Has.z | exact Has.s (Has.s Has.z) | exact Has.s (Has.s (Has.s Has.z)) | exact Has.s (Has.s (Has.s (Has.s Has.z))) | exact Has.s (Has.s (Has.s (Has.s (Has.s Has.z))))) (by rfl), ?_⟩
              | refine ⟨_, yLdA _ _ (by rfl) _ _ (by rfl) (agOf (by rfl)) (szOf (by rfl)) (by first | exact Has.z | exact Has.s Has.z | exact Has.s (Has.s Has.z) | exact Has.s (Has.s (Has.s Has.z)) | exact Has.s (Has.s (Has.s (Has.s Has.z))) | exact Has.s (Has.s (Has.s (Has.s (Has.s Has.z))))) (by exact HA.out) (by exact HN.out), ?_⟩); (simp only [Act.put, List.setIfInBounds_toArray, List.set_cons_zero, List.set_cons_succ]))
    (refine regA 6 rfl (by kernel_rfl) (by rfl) (by rfl) false (by kernel_rfl) (fun K hK => ?_); (first
              | (refine bsF hS _ _ _ (by rfl) (elOf (by rfl)) [.agg (wenc (n, b)).toArray] (by rfl) (by rfl) (by decide) (by decide) (by exact HC.out) ?_; intro b1 w1 hS1; clear hS; have hS := hS1; clear hS1; rw [agg1] at hS)
              | (refine apTbS hS _ _ _ _ (by rfl) _ _ (by rfl) (by rfl) (elOf (by rfl)) (by rfl) (by decide) (inOf (by rfl)) (by first | exact Has.z | exact Has.s Has.z | exact Has.s (Has.s Has.z) | exact Has.s (Has.s (Has.s Has.z)) | exact Has.s (Has.s (Has.s (Has.s Has.z))) | exact Has.s (Has.s (Has.s (Has.s (Has.s Has.z))))) [(n, b)] (by simpa using HN.out) (by exact hS.src1 Has.z HN.out) (by rw [fm1]; exact HW.out (n, b)) (by simp; omega) (by simp; omega) ?_; intro ao4 c4 w1 _ hS1; clear hS; have hS := hS1; clear hS1)
              | (refine st hS _ _ _ (by rfl) _ _ (by rfl) _ (by first | exact evC | exact evT (by rfl)) (by rfl) (szOf (by rfl)) (by first | exact Has.z | exact Has.s Has.z | exact Has.s (Has.s Has.z) | exact Has.s (Has.s (Has.s Has.z)) | exact Has.s (Has.s (Has.s (Has.s Has.z))) | exact Has.s (Has.s (Has.s (Has.s (Has.s Has.z))))) (by exact Nat.le_of_ble_eq_true rfl) ?_; intro w1 hS1; clear hS; have hS := hS1; clear hS1; dsimp only [List.set] at hS)); refine hK _ _ _ hS (by first | (intro h; cases h; done) | exact fun _ _ h => h | exact fun _ _ h => h.drop | exact fun _ _ h => h.drop.drop | exact fun _ _ h => h.drop.pull1 | exact fun _ _ h => h.take2 | exact fun _ _ h => h.one Has.z | exact fun _ _ h => h.one (Has.s Has.z) | exact fun _ _ h => h.one (Has.s (Has.s Has.z))) ?_; clear hK K; (simp only [Act.put, List.setIfInBounds_toArray, List.set_cons_zero, List.set_cons_succ]))
    (refine regA 7 rfl (by kernel_rfl) (by rfl) (by rfl) true (by kernel_rfl) (fun K hK => ?_); (first
              | (refine bsF hS _ _ _ (by rfl) (elOf (by rfl)) [.agg (wenc (n, b)).toArray] (by rfl) (by rfl) (by decide) (by decide) (by exact HC.out) ?_; intro b1 w1 hS1; clear hS; have hS := hS1; clear hS1; rw [agg1] at hS)
              | (refine apTbS hS _ _ _ _ (by rfl) _ _ (by rfl) (by rfl) (elOf (by rfl)) (by rfl) (by decide) (inOf (by rfl)) (by first | exact Has.z | exact Has.s Has.z | exact Has.s (Has.s Has.z) | exact Has.s (Has.s (Has.s Has.z)) | exact Has.s (Has.s (Has.s (Has.s Has.z))) | exact Has.s (Has.s (Has.s (Has.s (Has.s Has.z))))) [(n, b)] (by simpa using HN.out) (by exact hS.src1 Has.z HN.out) (by rw [fm1]; exact HW.out (n, b)) (by simp; omega) (by simp; omega) ?_; intro ao4 c4 w1 _ hS1; clear hS; have hS := hS1; clear hS1)
              | (refine st hS _ _ _ (by rfl) _ _ (by rfl) _ (by first | exact evC | exact evT (by rfl)) (by rfl) (szOf (by rfl)) (by first | exact Has.z | exact Has.s Has.z | exact Has.s (Has.s Has.z) | exact Has.s (Has.s (Has.s Has.z)) | exact Has.s (Has.s (Has.s (Has.s Has.z))) | exact Has.s (Has.s (Has.s (Has.s (Has.s Has.z))))) (by exact Nat.le_of_ble_eq_true rfl) ?_; intro w1 hS1; clear hS; have hS := hS1; clear hS1; dsimp only [List.set] at hS)); refine hK _ _ _ hS (by first | (intro h; cases h; done) | exact fun _ _ h => h | exact fun _ _ h => h.drop | exact fun _ _ h => h.drop.drop | exact fun _ _ h => h.drop.pull1 | exact fun _ _ h => h.take2 | exact fun _ _ h => h.one Has.z | exact fun _ _ h => h.one (Has.s Has.z) | exact fun _ _ h => h.one (Has.s (Has.s Has.z))) ?_; clear hK K; (simp only [Act.put, List.setIfInBounds_toArray, List.set_cons_zero, List.set_cons_succ]))
    (refine regP 8 hS (fun _ h => h) rfl (by kernel_rfl) (by kernel_rfl) (by kernel_rfl) (fun _ _ _ _ h => h) (by rfl) (by rfl) ?_; apply Exists.intro; apply And.intro; (intro w; go_simp; try with_reducible rfl); (simp only [Act.put, List.setIfInBounds_toArray, List.set_cons_zero, List.set_cons_succ]))
    (refine regP 9 hS (fun _ h => h) rfl (by kernel_rfl) (by kernel_rfl) (by kernel_rfl) (fun _ _ _ _ h => h) (by rfl) (by rfl) ?_; apply Exists.intro; apply And.intro; (intro w; go_simp; try with_reducible rfl); (simp only [Act.put, List.setIfInBounds_toArray, List.set_cons_zero, List.set_cons_succ]))
    (refine regA 10 rfl (by kernel_rfl) (by rfl) (by rfl) true (by kernel_rfl) (fun K hK => ?_); (first
              | (refine bsF hS _ _ _ (by rfl) (elOf (by rfl)) [.agg (wenc (n, b)).toArray] (by rfl) (by rfl) (by decide) (by decide) (by exact HC.out) ?_; intro b1 w1 hS1; clear hS; have hS := hS1; clear hS1; rw [agg1] at hS)
              | (refine apTbS hS _ _ _ _ (by rfl) _ _ (by rfl) (by rfl) (elOf (by rfl)) (by rfl) (by decide) (inOf (by rfl)) (by first | exact Has.z | exact Has.s Has.z | exact Has.s (Has.s Has.z) | exact Has.s (Has.s (Has.s Has.z)) | exact Has.s (Has.s (Has.s (Has.s Has.z))) | exact Has.s (Has.s (Has.s (Has.s (Has.s Has.z))))) [(n, b)] (by simpa using HN.out) (by exact hS.src1 Has.z HN.out) (by rw [fm1]; exact HW.out (n, b)) (by simp; omega) (by simp; omega) ?_; intro ao4 c4 w1 _ hS1; clear hS; have hS := hS1; clear hS1)
              | (refine st hS _ _ _ (by rfl) _ _ (by rfl) _ (by first | exact evC | exact evT (by rfl)) (by rfl) (szOf (by rfl)) (by first | exact Has.z | exact Has.s Has.z | exact Has.s (Has.s Has.z) | exact Has.s (Has.s (Has.s Has.z)) | exact Has.s (Has.s (Has.s (Has.s Has.z))) | exact Has.s (Has.s (Has.s (Has.s (Has.s Has.z))))) (by exact Nat.le_of_ble_eq_true rfl) ?_; intro w1 hS1; clear hS; have hS := hS1; clear hS1; dsimp only [List.set] at hS)); refine hK _ _ _ hS (by first | (intro h; cases h; done) | exact fun _ _ h => h | exact fun _ _ h => h.drop | exact fun _ _ h => h.drop.drop | exact fun _ _ h => h.drop.pull1 | exact fun _ _ h => h.take2 | exact fun _ _ h => h.one Has.z | exact fun _ _ h => h.one (Has.s Has.z) | exact fun _ _ h => h.one (Has.s (Has.s Has.z))) ?_; clear hK K; (simp only [Act.put, List.setIfInBounds_toArray, List.set_cons_zero, List.set_cons_succ]))
    refine regDone (by kernel_rfl) ?_
    go_wp2
    go_ret
    refine ⟨rfl, ?_⟩
    rw [show D.wrote n b = { D with blocks := D.blocks.set n b, writes := D.writes ++ [(n, b)], left := if 0 < D.left then D.left - 1 else D.left } from rfl]
    apply IsDisk.mk
    dsimp only
    rw [hd]
    first
    | rw [if_pos h6]; exact hS.drop.drop
    | rw [if_neg (by omega)]; exact hS.drop.drop
end Go.Proofs.Ytefbkpggmmhgcaa
