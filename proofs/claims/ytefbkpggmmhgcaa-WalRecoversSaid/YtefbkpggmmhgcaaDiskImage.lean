/-
  Package disk: the contract of Image.
-/
import Derived.Test.YtefbkpggmmhgcaaDiskWrite
namespace Go.Proofs.Ytefbkpggmmhgcaa
open Go.RowKit Go.Sep
set_option linter.unusedSimpArgs false
set_option linter.unusedVariables false
attribute [local irreducible] Go.Oper.wp Go.wpList Go.Calls Go.Code.wp Go.Sep.Reg

def applyW (bs : List (List UInt8)) (ws : List (Nat × List UInt8)) : List (List UInt8) := ws.foldl (fun bs w => bs.set w.1 w.2) bs
theorem applyW_length (ws : List (Nat × List UInt8)) : ∀ bs, (applyW bs ws).length = bs.length := by
  induction ws with
  | nil => intro bs; rfl
  | cons w ws ih => intro bs; rw [applyW, List.foldl_cons, ← applyW, ih, List.length_set]
theorem applyW_snoc (bs : List (List UInt8)) (ws : List (Nat × List UInt8)) (w : Nat × List UInt8) : applyW bs (ws ++ [w]) = (applyW bs ws).set w.1 w.2 := by simp [applyW]
def DiskS.start (D : DiskS) : List (List UInt8) := D.base ++ List.replicate (D.blocks.length - D.base.length) (zeros 128)
def DiskS.image (D : DiskS) (k : Nat) : DiskS :=
  { blocks := applyW D.start (D.writes.take k), base := applyW D.start (D.writes.take k), writes := [], left := -1, dead := false }
/-- What holds of each disk. -/
structure DiskS.Ok (D : DiskS) : Prop where
  len : D.blocks.length ≤ 1024
  base : D.base.length ≤ D.blocks.length
  at_ : ∀ x ∈ D.writes, x.1 < D.blocks.length
theorem DiskS.start_length {D : DiskS} (h : D.Ok) : D.start.length = D.blocks.length := by have := h.base; simp [DiskS.start]; omega
theorem start_copy {D : DiskS} (h : D.Ok) (hb : ∀ x ∈ D.base, (bv x).length = 128) :
    List.take 0 (List.replicate (D.blocks.length * 128) (Value.int .u8 0)) ++ List.take (min D.base.length D.blocks.length * 128) (D.base.flatMap bv) ++
      List.drop (0 + min D.base.length D.blocks.length * 128) (List.replicate (D.blocks.length * 128) (Value.int .u8 0)) = D.start.flatMap bv := by
  have hl := fm_len hb
  have := h.base
  rw [Nat.min_eq_left this, List.take_zero, List.nil_append, Nat.zero_add, List.take_of_length_le (by omega), DiskS.start, List.flatMap_append, flat_rep (f := bv) (bv_zeros 128), List.drop_replicate, Nat.sub_mul]

theorem wenc_one (x : Nat × List UInt8) : ∀ u ∈ wenc x, u.oneCell' = true := fun u hu => by
  rcases List.mem_cons.1 hu with rfl | hu
  · rfl
  · exact bv_one _ u hu
theorem image_no {W w : World} {L : List Asrt} {p : Nat} {D : DiskS} (hS : Sat W w (IsDisk p D :: L)) (n : Int) (h : n < 0 ∨ (D.writes.length : Int) < n) :
    Calls Try.prog 31 #[.pointer (some ⟨p, 0, none⟩), .int .i64 n] w fun e w' => e = .returned (.tuple #[.pointer none, .bool false]) ∧ w = w' := by
  obtain ⟨v1, v2, v3, hS⟩ := IsDisk.open hS
  obtain ⟨ao, c, rfl, _⟩ := hS.tbShape (k := 3) rfl
  by_cases h0 : n < 0
  · go_enter Try.func31, Try.ntmps31
    go_wp2_with (refine toList (by rfl) ?_; refine ld hS _ _ (by rfl) _ _ (by rfl) (agOf (by rfl)) (by first | exact Has.z | exact Has.s Has.z | exact Has.s (Has.s Has.z) | exact Has.s (Has.s (Has.s Has.z)) | exact Has.s (Has.s (Has.s (Has.s Has.z))) | exact Has.s (Has.s (Has.s (Has.s (Has.s Has.z))))) (by rfl) ?_)
    go_ret2
    exact ⟨rfl, rfl⟩
  · have h1 : (D.writes.length : Int) < n := by omega
    go_enter Try.func31, Try.ntmps31
    go_wp2_with (refine toList (by rfl) ?_; refine ld hS _ _ (by rfl) _ _ (by rfl) (agOf (by rfl)) (by first | exact Has.z | exact Has.s Has.z | exact Has.s (Has.s Has.z) | exact Has.s (Has.s (Has.s Has.z)) | exact Has.s (Has.s (Has.s (Has.s Has.z))) | exact Has.s (Has.s (Has.s (Has.s (Has.s Has.z))))) (by rfl) ?_)
    go_ret2
    exact ⟨rfl, rfl⟩

set_option maxRecDepth 20000 in
set_option maxHeartbeats 4000000 in
theorem image_ok {W w : World} {L : List Asrt} {p : Nat} {D : DiskS} (hS : Sat W w (IsDisk p D :: L)) (hO : D.Ok) (n : Nat) (hn : n ≤ D.writes.length) :
    Calls Try.prog 31 #[.pointer (some ⟨p, 0, none⟩), .int .i64 n] w fun e w' => ∃ q, e = .returned (.tuple #[.pointer (some ⟨q, 0, none⟩), .bool true]) ∧
      Sat W w' (IsDisk q (D.image n) :: IsDisk p D :: L) := by
  obtain ⟨v1, v2, v3, hS⟩ := IsDisk.open hS
  have hbl := hS.tbLen (k := 2) rfl
  have hwl := hS.tbLen (k := 3) rfl
  have hcopy := start_copy hO hbl
  have HC := Lib.hid hcopy
  have HONE := Lib.hid wenc_one
  have HL := Lib.hid (DiskS.start_length hO)
  have HWL := Lib.hid hwl
  have HB := Lib.hid (show ∀ x ∈ D.start, (bv x).length = 128 from fun x hx => by
    rcases List.mem_append.1 hx with h | h
    · exact hbl x h
    · rw [(List.mem_replicate.1 h).2]; simp [bv_length, zeros])
  have hlen := hO.len
  have HO := Lib.hid hO
  obtain ⟨ao1, c1, rfl, _⟩ := hS.tbShape (k := 1) rfl
  obtain ⟨ao2, c2, rfl, _⟩ := hS.tbShape (k := 2) rfl
  have i1 : (n : Int) ≤ (D.writes.length : Int) := by omega
  clear hcopy hbl hwl hO
  rcases hS.tbCases (k := 3) rfl with ⟨rfl, hnil⟩ | ⟨bw, ow, cw, rfl, hc1, hc2⟩
  · obtain rfl : n = 0 := by rw [hnil] at hn; simpa using hn
    have HNIL := Lib.hid hnil
    clear hnil i1
    go_enter Try.func31, Try.ntmps31
    go_wp2_with (first
      | (refine toList (by rfl) ?_; refine ld hS _ _ (by rfl) _ _ (by rfl) (agOf (by rfl)) (by first | exact Has.z | exact Has.s Has.z | exact Has.s (Has.s Has.z) | exact Has.s (Has.s (Has.s Has.z)) | exact Has.s (Has.s (Has.s (Has.s Has.z))) | exact Has.s (Has.s (Has.s (Has.s (Has.s Has.z))))) (by rfl) ?_)
      | ((refine toList (by rfl) ?_; refine mk hS _ _ _ (by rfl) D.blocks.length D.blocks.length _ _ (by rfl) (by rfl) (elOf (by rfl)) (by omega) (by omega) (by omega) ?_; intro pb w1 hS1; clear hS; have hS := hS1; clear hS1; rw [cells_agg] at hS); rw [made_rep 128 _ (by omega)] at hS)
      | (refine toList (by rfl) ?_; refine bx hS _ _ (by rfl) _ (by first | exact evC | exact evT (by rfl)) ?_; intro px w1 hS1; clear hS; have hS := hS1; clear hS1; rw [cells_agg] at hS))
    refine regStart [8] hS (by kernel_rfl) rfl ?_
    intro w1 hS1
    clear hS; have hS := hS1; clear hS1
    (refine regP 0 hS (fun _ h => h) rfl (by kernel_rfl) (by kernel_rfl) (by kernel_rfl) (fun _ _ _ _ h => h) (by rfl) (by rfl) ?_; apply Exists.intro; apply And.intro; (intro w; go_simp; try with_reducible rfl); (simp only [Act.put, List.setIfInBounds_toArray, List.set_cons_zero, List.set_cons_succ]))
    (refine regP 1 hS (fun _ h => h) rfl (by kernel_rfl) (by kernel_rfl) (by kernel_rfl) (fun _ _ _ _ h => h) (by rfl) (by rfl) ?_; apply Exists.intro; apply And.intro; (intro w; go_simp; try with_reducible rfl); (simp only [Act.put, List.setIfInBounds_toArray, List.set_cons_zero, List.set_cons_succ]))
    (refine regP 2 hS (fun _ h => h) rfl (by kernel_rfl) (by kernel_rfl) (by kernel_rfl) (fun _ _ _ _ h => h) (by rfl) (by rfl) ?_; apply Exists.intro; apply And.intro; (intro w; go_simp; try with_reducible rfl); (simp only [Act.put, List.setIfInBounds_toArray, List.set_cons_zero, List.set_cons_succ]))
    (refine regR 3 hS (fun _ h => h) rfl (by kernel_rfl) (by kernel_rfl) (by kernel_rfl) (by kernel_rfl) (by kernel_rfl) (fun _ _ _ _ h => h) (by rfl) (by rfl) ?_; (first
              | refine ⟨_, yLd _ _ (by rfl) _ _ (by rfl) (agOf (by rfl)) (by first | exact Has.z | exact Has.s Has.z | exact Has.s (Has.s Has.z) | exact Has.s (Has.s (Has.s Has.z)) | exact Has.s (Has.s (Has.s (Has.s Has.z))) | exact Has.s (Has.s (Has.s (Has.s (Has.s Has.z))))) (by rfl), ?_⟩); (simp only [Act.put, List.setIfInBounds_toArray, List.set_cons_zero, List.set_cons_succ]))
    (refine regP 4 hS (fun _ h => h) rfl (by kernel_rfl) (by kernel_rfl) (by kernel_rfl) (fun _ _ _ _ h => h) (by rfl) (by rfl) ?_; apply Exists.intro; apply And.intro; (intro w; go_simp; try with_reducible rfl); (simp only [Act.put, List.setIfInBounds_toArray, List.set_cons_zero, List.set_cons_succ]))
    (refine regP 5 hS (fun _ h => h) rfl (by kernel_rfl) (by kernel_rfl) (by kernel_rfl) (fun _ _ _ _ h => h) (by rfl) (by rfl) ?_; apply Exists.intro; apply And.intro; (intro w; go_simp; try with_reducible rfl); (simp only [Act.put, List.setIfInBounds_toArray, List.set_cons_zero, List.set_cons_succ]))
    (refine regP 6 hS (fun _ h => h) rfl (by kernel_rfl) (by kernel_rfl) (by kernel_rfl) (fun _ _ _ _ h => h) (by rfl) (by rfl) ?_; apply Exists.intro; apply And.intro; (intro w; go_simp; try with_reducible rfl); (simp only [Act.put, List.setIfInBounds_toArray, List.set_cons_zero, List.set_cons_succ]))
    (refine regR 7 hS (fun _ h => h) rfl (by kernel_rfl) (by kernel_rfl) (by kernel_rfl) (by kernel_rfl) (by kernel_rfl) (fun _ _ _ _ h => h) (by rfl) (by rfl) ?_; (first
              | refine ⟨_, yLd _ _ (by rfl) _ _ (by rfl) (agOf (by rfl)) (by first | exact Has.z | exact Has.s Has.z | exact Has.s (Has.s Has.z) | exact Has.s (Has.s (Has.s Has.z)) | exact Has.s (Has.s (Has.s (Has.s Has.z))) | exact Has.s (Has.s (Has.s (Has.s (Has.s Has.z))))) (by rfl), ?_⟩); (simp only [Act.put, List.setIfInBounds_toArray, List.set_cons_zero, List.set_cons_succ]))
    (refine regA 8 rfl (by kernel_rfl) (by rfl) (by rfl) true (by kernel_rfl) (fun K hK => ?_); (first
              | (refine cp hS _ _ _ _ (by rfl) _ _ _ _ _ (by rfl) (by rfl) (elOf (by rfl)) (by omega) (Has.s Has.z) (by exact hS.tbRd (k := 4) rfl) (fun u hu => by obtain ⟨x, hx, hu⟩ := List.mem_flatMap.1 hu; exact bv_one x u hu) (by simp) ?_; intro w1 hS1; clear hS; have hS := hS1; clear hS1; dsimp only [List.set_cons_zero, List.set_cons_succ] at hS; rw [HC.out] at hS)); refine hK _ _ _ hS (by first | (intro h; cases h; done) | exact fun _ _ h => h | exact fun _ _ h => h.drop | exact fun _ _ h => h.drop.drop | exact fun _ _ h => h.drop.pull1 | exact fun _ _ h => h.take2 | exact fun _ _ h => h.one Has.z | exact fun _ _ h => h.one (Has.s Has.z) | exact fun _ _ h => h.one (Has.s (Has.s Has.z))) ?_; clear hK K; (simp only [Act.put, List.setIfInBounds_toArray, List.set_cons_zero, List.set_cons_succ]))
    refine regDone (by kernel_rfl) ?_
    have hS := (Sat.csTb (E := 71) (sz := 128) (f := bv) (xs := D.start) (n := D.blocks.length) (HB.out) HL.out (by omega) hS.pull1)
    have hW0 : applyW D.start (D.writes.take 0) = D.start := rfl
    rw [← hW0] at hS
    have HS := Lib.hid hS
    clear hW0
    go_wp2_with (first
      | (refine toList (by rfl) ?_; refine ld hS _ _ (by rfl) _ _ (by rfl) (agOf (by rfl)) (by first | exact Has.z | exact Has.s Has.z | exact Has.s (Has.s Has.z) | exact Has.s (Has.s (Has.s Has.z)) | exact Has.s (Has.s (Has.s (Has.s Has.z))) | exact Has.s (Has.s (Has.s (Has.s (Has.s Has.z))))) (by rfl) ?_))
    go_loopw [44] (fun v wz => ∃ k : Nat, k ≤ 0 ∧ v = .int .i64 k ∧ Sat W wz (Tb 71 128 bv (.slice (some ⟨pb, 0, none⟩) D.blocks.length D.blocks.length) (applyW D.start (D.writes.take k)) ::
      Cs px 69 [.slice (some ⟨pb, 0, none⟩) D.blocks.length D.blocks.length, .slice none 0 0, .slice none 0 0, .int .i64 (-1), .bool false] ::
      Cs p 69 [.slice ao1 D.blocks.length c1, .slice ao2 D.base.length c2, .slice none 0 0, .int .i64 D.left, .bool D.dead] ::
      Tb 71 128 bv (.slice ao1 D.blocks.length c1) D.blocks :: Tb 71 128 bv (.slice ao2 D.base.length c2) D.base :: Tb 82 129 wenc (.slice none 0 0) D.writes :: L))
      (fun v _ => 0 - (intOf v).toNat)
    case atStart => exact ⟨0, by omega, rfl, HS.out⟩
    case round =>
      clear hS HS
      obtain ⟨k, hk, rfl, hS⟩ := hrel
      by_cases hlt : k < 0
      · omega
      · obtain rfl : k = 0 := by omega
        have HAL := Lib.hid (show (applyW D.start (D.writes.take 0)).length = D.blocks.length by rw [applyW_length, HL.out])
        have HBA := Lib.hid (hS.tbLen (k := 0) rfl)
        have H1 := Lib.hid (show ∀ u ∈ (applyW D.start (D.writes.take 0)).flatMap bv, u.oneCell' = true from fun u hu => by obtain ⟨x, hx, hu⟩ := List.mem_flatMap.1 hu; exact bv_one x u hu)
        go_wp2_with (first
          | (refine toList (by rfl) ?_; refine ld hS _ _ (by rfl) _ _ (by rfl) (agOf (by rfl)) (by first | exact Has.z | exact Has.s Has.z | exact Has.s (Has.s Has.z) | exact Has.s (Has.s (Has.s Has.z)) | exact Has.s (Has.s (Has.s (Has.s Has.z))) | exact Has.s (Has.s (Has.s (Has.s (Has.s Has.z))))) (by rfl) ?_)
          | (refine toList (by rfl) ?_; refine st hS _ _ _ (by rfl) _ _ (by rfl) _ (by first | exact evC | exact evT (by rfl)) (by rfl) (szOf (by rfl)) (by first | exact Has.z | exact Has.s Has.z | exact Has.s (Has.s Has.z) | exact Has.s (Has.s (Has.s Has.z)) | exact Has.s (Has.s (Has.s (Has.s Has.z))) | exact Has.s (Has.s (Has.s (Has.s (Has.s Has.z))))) (by exact Nat.le_of_ble_eq_true rfl) ?_; intro w1 hS1; clear hS; have hS := hS1; clear hS1; dsimp only [List.set] at hS)
          | (refine toList (by rfl) ?_; refine apTbS (f := bv) (xs := []) (hS.tbNil (E := 71) (sz := 128)) _ _ _ _ (by rfl) _ _ (by rfl) (by rfl) (elOf (by rfl)) (by rfl) (by decide) (inOf (by rfl)) Has.z (applyW D.start (D.writes.take 0)) HBA.out (by exact .inl ((hS.tbNil (E := 71) (sz := 128) (f := bv)).tbRd (Has.s Has.z))) H1.out (by rw [HAL.out]; simp; omega) (by rw [HAL.out]; simp; omega) ?_; intro ao5 c5 w1 _ hS1; clear hS; have hS := hS1; clear hS1; dsimp only [List.set_cons_zero, List.nil_append] at hS))
        go_ret2
        refine ⟨px, rfl, ?_⟩
        have h := (hS.tbNil (E := 82) (sz := 129) (f := wenc)).re [3, 2, 1, 0, 4, 5, 6, 7]
        have h := IsDisk.mk (D := D.image 0) h
        exact (IsDisk.mk (D := D) (h.re [1, 2, 3, 4, 0])).pull1
  · go_enter Try.func31, Try.ntmps31
    go_wp2_with (first
      | (refine toList (by rfl) ?_; refine ld hS _ _ (by rfl) _ _ (by rfl) (agOf (by rfl)) (by first | exact Has.z | exact Has.s Has.z | exact Has.s (Has.s Has.z) | exact Has.s (Has.s (Has.s Has.z)) | exact Has.s (Has.s (Has.s (Has.s Has.z))) | exact Has.s (Has.s (Has.s (Has.s (Has.s Has.z))))) (by rfl) ?_)
      | ((refine toList (by rfl) ?_; refine mk hS _ _ _ (by rfl) D.blocks.length D.blocks.length _ _ (by rfl) (by rfl) (elOf (by rfl)) (by omega) (by omega) (by omega) ?_; intro pb w1 hS1; clear hS; have hS := hS1; clear hS1; rw [cells_agg] at hS); rw [made_rep 128 _ (by omega)] at hS)
      | (refine toList (by rfl) ?_; refine bx hS _ _ (by rfl) _ (by first | exact evC | exact evT (by rfl)) ?_; intro px w1 hS1; clear hS; have hS := hS1; clear hS1; rw [cells_agg] at hS))
    refine regStart [8] hS (by kernel_rfl) rfl ?_
    intro w1 hS1
    clear hS; have hS := hS1; clear hS1
    (refine regP 0 hS (fun _ h => h) rfl (by kernel_rfl) (by kernel_rfl) (by kernel_rfl) (fun _ _ _ _ h => h) (by rfl) (by rfl) ?_; apply Exists.intro; apply And.intro; (intro w; go_simp; try with_reducible rfl); (simp only [Act.put, List.setIfInBounds_toArray, List.set_cons_zero, List.set_cons_succ]))
    (refine regP 1 hS (fun _ h => h) rfl (by kernel_rfl) (by kernel_rfl) (by kernel_rfl) (fun _ _ _ _ h => h) (by rfl) (by rfl) ?_; apply Exists.intro; apply And.intro; (intro w; go_simp; try with_reducible rfl); (simp only [Act.put, List.setIfInBounds_toArray, List.set_cons_zero, List.set_cons_succ]))
    (refine regP 2 hS (fun _ h => h) rfl (by kernel_rfl) (by kernel_rfl) (by kernel_rfl) (fun _ _ _ _ h => h) (by rfl) (by rfl) ?_; apply Exists.intro; apply And.intro; (intro w; go_simp; try with_reducible rfl); (simp only [Act.put, List.setIfInBounds_toArray, List.set_cons_zero, List.set_cons_succ]))
    (refine regR 3 hS (fun _ h => h) rfl (by kernel_rfl) (by kernel_rfl) (by kernel_rfl) (by kernel_rfl) (by kernel_rfl) (fun _ _ _ _ h => h) (by rfl) (by rfl) ?_; (first
              | refine ⟨_, yLd _ _ (by rfl) _ _ (by rfl) (agOf (by rfl)) (by first | exact Has.z | exact Has.s Has.z | exact Has.s (Has.s Has.z) | exact Has.s (Has.s (Has.s Has.z)) | exact Has.s (Has.s (Has.s (Has.s Has.z))) | exact Has.s (Has.s (Has.s (Has.s (Has.s Has.z))))) (by rfl), ?_⟩); (simp only [Act.put, List.setIfInBounds_toArray, List.set_cons_zero, List.set_cons_succ]))
    (refine regP 4 hS (fun _ h => h) rfl (by kernel_rfl) (by kernel_rfl) (by kernel_rfl) (fun _ _ _ _ h => h) (by rfl) (by rfl) ?_; apply Exists.intro; apply And.intro; (intro w; go_simp; try with_reducible rfl); (simp only [Act.put, List.setIfInBounds_toArray, List.set_cons_zero, List.set_cons_succ]))
    (refine regP 5 hS (fun _ h => h) rfl (by kernel_rfl) (by kernel_rfl) (by kernel_rfl) (fun _ _ _ _ h => h) (by rfl) (by rfl) ?_; apply Exists.intro; apply And.intro; (intro w; go_simp; try with_reducible rfl); (simp only [Act.put, List.setIfInBounds_toArray, List.set_cons_zero, List.set_cons_succ]))
    (refine regP 6 hS (fun _ h => h) rfl (by kernel_rfl) (by kernel_rfl) (by kernel_rfl) (fun _ _ _ _ h => h) (by rfl) (by rfl) ?_; apply Exists.intro; apply And.intro; (intro w; go_simp; try with_reducible rfl); (simp only [Act.put, List.setIfInBounds_toArray, List.set_cons_zero, List.set_cons_succ]))
    (refine regR 7 hS (fun _ h => h) rfl (by kernel_rfl) (by kernel_rfl) (by kernel_rfl) (by kernel_rfl) (by kernel_rfl) (fun _ _ _ _ h => h) (by rfl) (by rfl) ?_; (first
              | refine ⟨_, yLd _ _ (by rfl) _ _ (by rfl) (agOf (by rfl)) (by first | exact Has.z | exact Has.s Has.z | exact Has.s (Has.s Has.z) | exact Has.s (Has.s (Has.s Has.z)) | exact Has.s (Has.s (Has.s (Has.s Has.z))) | exact Has.s (Has.s (Has.s (Has.s (Has.s Has.z))))) (by rfl), ?_⟩); (simp only [Act.put, List.setIfInBounds_toArray, List.set_cons_zero, List.set_cons_succ]))
    (refine regA 8 rfl (by kernel_rfl) (by rfl) (by rfl) true (by kernel_rfl) (fun K hK => ?_); (first
              | (refine cp hS _ _ _ _ (by rfl) _ _ _ _ _ (by rfl) (by rfl) (elOf (by rfl)) (by omega) (Has.s Has.z) (by exact hS.tbRd (k := 4) rfl) (fun u hu => by obtain ⟨x, hx, hu⟩ := List.mem_flatMap.1 hu; exact bv_one x u hu) (by simp) ?_; intro w1 hS1; clear hS; have hS := hS1; clear hS1; dsimp only [List.set_cons_zero, List.set_cons_succ] at hS; rw [HC.out] at hS)); refine hK _ _ _ hS (by first | (intro h; cases h; done) | exact fun _ _ h => h | exact fun _ _ h => h.drop | exact fun _ _ h => h.drop.drop | exact fun _ _ h => h.drop.pull1 | exact fun _ _ h => h.take2 | exact fun _ _ h => h.one Has.z | exact fun _ _ h => h.one (Has.s Has.z) | exact fun _ _ h => h.one (Has.s (Has.s Has.z))) ?_; clear hK K; (simp only [Act.put, List.setIfInBounds_toArray, List.set_cons_zero, List.set_cons_succ]))
    refine regDone (by kernel_rfl) ?_
    have hS := (Sat.csTb (E := 71) (sz := 128) (f := bv) (xs := D.start) (n := D.blocks.length) (HB.out) HL.out (by omega) hS.pull1)
    have hW0 : applyW D.start (D.writes.take 0) = D.start := rfl
    rw [← hW0] at hS
    have HS := Lib.hid hS
    clear hW0
    go_wp2_with (first
      | (refine toList (by rfl) ?_; refine ld hS _ _ (by rfl) _ _ (by rfl) (agOf (by rfl)) (by first | exact Has.z | exact Has.s Has.z | exact Has.s (Has.s Has.z) | exact Has.s (Has.s (Has.s Has.z)) | exact Has.s (Has.s (Has.s (Has.s Has.z))) | exact Has.s (Has.s (Has.s (Has.s (Has.s Has.z))))) (by rfl) ?_))
    go_loopw [44] (fun v wz => ∃ k : Nat, k ≤ n ∧ v = .int .i64 k ∧ Sat W wz (Tb 71 128 bv (.slice (some ⟨pb, 0, none⟩) D.blocks.length D.blocks.length) (applyW D.start (D.writes.take k)) ::
      Cs px 69 [.slice (some ⟨pb, 0, none⟩) D.blocks.length D.blocks.length, .slice none 0 0, .slice none 0 0, .int .i64 (-1), .bool false] ::
      Cs p 69 [.slice ao1 D.blocks.length c1, .slice ao2 D.base.length c2, .slice (some ⟨bw, ow, none⟩) D.writes.length cw, .int .i64 D.left, .bool D.dead] ::
      Tb 71 128 bv (.slice ao1 D.blocks.length c1) D.blocks :: Tb 71 128 bv (.slice ao2 D.base.length c2) D.base :: Tb 82 129 wenc (.slice (some ⟨bw, ow, none⟩) D.writes.length cw) D.writes :: L))
      (fun v _ => n - (intOf v).toNat)
    case atStart => exact ⟨0, by omega, rfl, HS.out⟩
    case round =>
      clear hS HS
      obtain ⟨k, hk, rfl, hS⟩ := hrel
      by_cases hlt : k < n
      · obtain ⟨⟨xa, xb⟩, hx⟩ : ∃ x, D.writes[k]? = some x := ⟨_, List.getElem?_eq_getElem (by omega)⟩
        have hxl : (wenc (xa, xb)).length = 129 := HWL.out _ (List.mem_of_getElem? hx)
        have hxb : (bv xb).length = 128 := by simpa [wenc] using hxl
        have hat : xa < D.blocks.length := HO.out.at_ _ (List.mem_of_getElem? hx)
        have i2 : (k : Int) < (n : Int) := by omega
        have i3 : (xa : Int) < (D.blocks.length : Int) := by omega
        have hnext : applyW D.start (D.writes.take (k + 1)) = (applyW D.start (D.writes.take k)).set xa xb := by
          rw [List.take_add_one, hx]; exact applyW_snoc _ _ _
        have HX := Lib.hid hx
        have HXL := Lib.hid hxl
        have HXB := Lib.hid hxb
        have HNX := Lib.hid hnext
        have HR := Lib.hid (show List.take 128 (List.drop 1 (wenc (xa, xb))) = bv xb from List.take_of_length_le (show (bv xb).length ≤ 128 by rw [HXB.out]; exact Nat.le_refl _))
        have HAL := Lib.hid (show (applyW D.start (D.writes.take k)).length = D.blocks.length by rw [applyW_length, HL.out])
        clear hx hxl hxb hnext
        go_wp2_with (first
          | (refine toList (by rfl) ?_; refine ldTbA hS _ _ (by rfl) _ _ (by rfl) (agOf (by rfl)) (szOf (by rfl)) (by first | exact Has.z | exact Has.s Has.z | exact Has.s (Has.s Has.z) | exact Has.s (Has.s (Has.s Has.z)) | exact Has.s (Has.s (Has.s (Has.s Has.z))) | exact Has.s (Has.s (Has.s (Has.s (Has.s Has.z))))) k (by rfl) (by exact HX.out) ?_)
          | (refine toList (by rfl) ?_; refine al hS _ (by rfl) (zrOf (by rfl)) ?_; intro pw w1 hS1; clear hS; have hS := hS1; clear hS1; rw [cells_agg] at hS)
          | (refine toList (by rfl) ?_; refine stW hS _ _ _ (by rfl) (by rfl) (wenc (xa, xb)) (by rfl) (HONE.out _) (by rw [HXL.out]; exact szOf (by rfl)) Has.z (by rw [HXL.out]; rfl) ?_; intro w1 hS1; clear hS; have hS := hS1; clear hS1; dsimp only [List.set_cons_zero] at hS))
        refine regStart [9] hS (by kernel_rfl) rfl ?_
        intro w1 hS1
        clear hS; have hS := hS1; clear hS1
        (refine regP 0 hS (fun _ h => h) rfl (by kernel_rfl) (by kernel_rfl) (by kernel_rfl) (fun _ _ _ _ h => h) (by rfl) (by rfl) ?_; apply Exists.intro; apply And.intro; (intro w; go_simp; try with_reducible rfl); (simp only [Act.put, List.setIfInBounds_toArray, List.set_cons_zero, List.set_cons_succ]))
        (refine regP 1 hS (fun _ h => h) rfl (by kernel_rfl) (by kernel_rfl) (by kernel_rfl) (fun _ _ _ _ h => h) (by rfl) (by rfl) ?_; apply Exists.intro; apply And.intro; (intro w; go_simp; try with_reducible rfl); (simp only [Act.put, List.setIfInBounds_toArray, List.set_cons_zero, List.set_cons_succ]))
        (refine regP 2 hS (fun _ h => h) rfl (by kernel_rfl) (by kernel_rfl) (by kernel_rfl) (fun _ _ _ _ h => h) (by rfl) (by rfl) ?_; apply Exists.intro; apply And.intro; (intro w; go_simp; try with_reducible rfl); (simp only [Act.put, List.setIfInBounds_toArray, List.set_cons_zero, List.set_cons_succ]))
        (refine regR 3 hS (fun _ h => h) rfl (by kernel_rfl) (by kernel_rfl) (by kernel_rfl) (by kernel_rfl) (by kernel_rfl) (fun _ _ _ _ h => h) (by rfl) (by rfl) ?_; (first
                          | refine ⟨_, yLd _ _ (by rfl) _ _ (by rfl) (agOf (by rfl)) (by first | exact Has.z | exact Has.s Has.z | exact Has.s (Has.s Has.z) | exact Has.s (Has.s (Has.s Has.z)) | exact Has.s (Has.s (Has.s (Has.s Has.z))) | exact Has.s (Has.s (Has.s (Has.s (Has.s Has.z))))) (by rfl), ?_⟩
                          | refine ⟨_, yLdA _ _ (by rfl) _ _ (by rfl) (agOf (by rfl)) (szOf (by rfl)) (by first | exact Has.z | exact Has.s Has.z | exact Has.s (Has.s Has.z) | exact Has.s (Has.s (Has.s Has.z)) | exact Has.s (Has.s (Has.s (Has.s Has.z))) | exact Has.s (Has.s (Has.s (Has.s (Has.s Has.z))))) (by exact HR.out) (by exact HXB.out), ?_⟩); (simp only [Act.put, List.setIfInBounds_toArray, List.set_cons_zero, List.set_cons_succ]))
        (refine regP 4 hS (fun _ h => h) rfl (by kernel_rfl) (by kernel_rfl) (by kernel_rfl) (fun _ _ _ _ h => h) (by rfl) (by rfl) ?_; apply Exists.intro; apply And.intro; (intro w; go_simp; try with_reducible rfl); (simp only [Act.put, List.setIfInBounds_toArray, List.set_cons_zero, List.set_cons_succ]))
        (refine regR 5 hS (fun _ h => h) rfl (by kernel_rfl) (by kernel_rfl) (by kernel_rfl) (by kernel_rfl) (by kernel_rfl) (fun _ _ _ _ h => h) (by rfl) (by rfl) ?_; (first
                          | refine ⟨_, yLd _ _ (by rfl) _ _ (by rfl) (agOf (by rfl)) (by first | exact Has.z | exact Has.s Has.z | exact Has.s (Has.s Has.z) | exact Has.s (Has.s (Has.s Has.z)) | exact Has.s (Has.s (Has.s (Has.s Has.z))) | exact Has.s (Has.s (Has.s (Has.s (Has.s Has.z))))) (by rfl), ?_⟩
                          | refine ⟨_, yLdA _ _ (by rfl) _ _ (by rfl) (agOf (by rfl)) (szOf (by rfl)) (by first | exact Has.z | exact Has.s Has.z | exact Has.s (Has.s Has.z) | exact Has.s (Has.s (Has.s Has.z)) | exact Has.s (Has.s (Has.s (Has.s Has.z))) | exact Has.s (Has.s (Has.s (Has.s (Has.s Has.z))))) (by exact HR.out) (by exact HXB.out), ?_⟩); (simp only [Act.put, List.setIfInBounds_toArray, List.set_cons_zero, List.set_cons_succ]))
        (refine regP 6 hS (fun _ h => h) rfl (by kernel_rfl) (by kernel_rfl) (by kernel_rfl) (fun _ _ _ _ h => h) (by rfl) (by rfl) ?_; apply Exists.intro; apply And.intro; (intro w; go_simp; try with_reducible rfl); (simp only [Act.put, List.setIfInBounds_toArray, List.set_cons_zero, List.set_cons_succ]))
        (refine regR 7 hS (fun _ h => h) rfl (by kernel_rfl) (by kernel_rfl) (by kernel_rfl) (by kernel_rfl) (by kernel_rfl) (fun _ _ _ _ h => h) (by rfl) (by rfl) ?_; (first
                          | refine ⟨_, yLd _ _ (by rfl) _ _ (by rfl) (agOf (by rfl)) (by first | exact Has.z | exact Has.s Has.z | exact Has.s (Has.s Has.z) | exact Has.s (Has.s (Has.s Has.z)) | exact Has.s (Has.s (Has.s (Has.s Has.z))) | exact Has.s (Has.s (Has.s (Has.s (Has.s Has.z))))) (by rfl), ?_⟩
                          | refine ⟨_, yLdA _ _ (by rfl) _ _ (by rfl) (agOf (by rfl)) (szOf (by rfl)) (by first | exact Has.z | exact Has.s Has.z | exact Has.s (Has.s Has.z) | exact Has.s (Has.s (Has.s Has.z)) | exact Has.s (Has.s (Has.s (Has.s Has.z))) | exact Has.s (Has.s (Has.s (Has.s (Has.s Has.z))))) (by exact HR.out) (by exact HXB.out), ?_⟩); (simp only [Act.put, List.setIfInBounds_toArray, List.set_cons_zero, List.set_cons_succ]))
        (refine regP 8 hS (fun _ h => h) rfl (by kernel_rfl) (by kernel_rfl) (by kernel_rfl) (fun _ _ _ _ h => h) (by rfl) (by rfl) ?_; apply Exists.intro; apply And.intro; (intro w; go_simp; try with_reducible rfl); (simp only [Act.put, List.setIfInBounds_toArray, List.set_cons_zero, List.set_cons_succ]))
        (refine regA 9 rfl (by kernel_rfl) (by rfl) (by rfl) true (by kernel_rfl) (fun K hK => ?_); ((refine stTbN hS _ _ _ (by rfl) _ _ (by rfl) xb (by rfl) (bv_one xb) HXB.out (szOf (by rfl)) (by first | exact Has.z | exact Has.s Has.z | exact Has.s (Has.s Has.z) | exact Has.s (Has.s (Has.s Has.z)) | exact Has.s (Has.s (Has.s (Has.s Has.z))) | exact Has.s (Has.s (Has.s (Has.s (Has.s Has.z))))) HAL.out xa (by omega) (by exact hat) ?_; intro w1 hS1; clear hS; have hS := hS1; clear hS1; dsimp only [List.set_cons_zero, List.set_cons_succ] at hS; rw [← HNX.out] at hS)); refine hK _ _ _ hS (by first | (intro h; cases h; done) | exact fun _ _ h => h | exact fun _ _ h => h.drop | exact fun _ _ h => h.drop.drop | exact fun _ _ h => h.drop.pull1 | exact fun _ _ h => h.take2 | exact fun _ _ h => h.one Has.z | exact fun _ _ h => h.one (Has.s Has.z) | exact fun _ _ h => h.one (Has.s (Has.s Has.z))) ?_; clear hK K; (simp only [Act.put, List.setIfInBounds_toArray, List.set_cons_zero, List.set_cons_succ]))
        refine regDone (by kernel_rfl) ?_
        go_wp2
        exact ⟨⟨k + 1, by omega, by go_num, hS.drop⟩, by simp [intOf]; omega⟩
      · obtain rfl : k = n := by omega
        have HAL := Lib.hid (show (applyW D.start (D.writes.take k)).length = D.blocks.length by rw [applyW_length, HL.out])
        have HBA := Lib.hid (hS.tbLen (k := 0) rfl)
        have H1 := Lib.hid (show ∀ u ∈ (applyW D.start (D.writes.take k)).flatMap bv, u.oneCell' = true from fun u hu => by obtain ⟨x, hx, hu⟩ := List.mem_flatMap.1 hu; exact bv_one x u hu)
        go_wp2_with (first
          | (refine toList (by rfl) ?_; refine ld hS _ _ (by rfl) _ _ (by rfl) (agOf (by rfl)) (by first | exact Has.z | exact Has.s Has.z | exact Has.s (Has.s Has.z) | exact Has.s (Has.s (Has.s Has.z)) | exact Has.s (Has.s (Has.s (Has.s Has.z))) | exact Has.s (Has.s (Has.s (Has.s (Has.s Has.z))))) (by rfl) ?_)
          | (refine toList (by rfl) ?_; refine st hS _ _ _ (by rfl) _ _ (by rfl) _ (by first | exact evC | exact evT (by rfl)) (by rfl) (szOf (by rfl)) (by first | exact Has.z | exact Has.s Has.z | exact Has.s (Has.s Has.z) | exact Has.s (Has.s (Has.s Has.z)) | exact Has.s (Has.s (Has.s (Has.s Has.z))) | exact Has.s (Has.s (Has.s (Has.s (Has.s Has.z))))) (by exact Nat.le_of_ble_eq_true rfl) ?_; intro w1 hS1; clear hS; have hS := hS1; clear hS1; dsimp only [List.set] at hS)
          | (refine toList (by rfl) ?_; refine apTbS (f := bv) (xs := []) (hS.tbNil (E := 71) (sz := 128)) _ _ _ _ (by rfl) _ _ (by rfl) (by rfl) (elOf (by rfl)) (by rfl) (by decide) (inOf (by rfl)) Has.z (applyW D.start (D.writes.take k)) HBA.out (by exact .inl ((hS.tbNil (E := 71) (sz := 128) (f := bv)).tbRd (Has.s Has.z))) H1.out (by rw [HAL.out]; simp; omega) (by rw [HAL.out]; simp; omega) ?_; intro ao5 c5 w1 _ hS1; clear hS; have hS := hS1; clear hS1; dsimp only [List.set_cons_zero, List.nil_append] at hS))
        go_ret2
        refine ⟨px, rfl, ?_⟩
        have h := (hS.tbNil (E := 82) (sz := 129) (f := wenc)).re [3, 2, 1, 0, 4, 5, 6, 7]
        have h := IsDisk.mk (D := D.image k) h
        exact (IsDisk.mk (D := D) (h.re [1, 2, 3, 4, 0])).pull1
end Go.Proofs.Ytefbkpggmmhgcaa
