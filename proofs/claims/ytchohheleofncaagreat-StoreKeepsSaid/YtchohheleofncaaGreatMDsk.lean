/-
 Package disk: contracts of New, Blocks, Read, Write, Writes, Cut, Dead, Image.
 Package disk: the contract of Write.
 Package disk: the contract of Image.
 The disk, plain.
 Package pedigreeref05: contracts of New, Write, Cut.
 The disk and the document's disk, side by side; Bytes.
-/
import Derived.Test.YtchohheleofncaaGreatTypes
import Derived.Test.YtchohheleofncaaGreatMSep
import Derived.Test.YtchohheleofncaaGreatMReg
import Derived.Lib.Hide
set_option linter.unusedSimpArgs false
set_option linter.unusedVariables false
namespace Go.Proofs.YtchohheleofncaaGreat
open Go.RowKit Go.Sep
attribute [local irreducible] Go.Oper.wp Go.wpList Go.Calls Go.Code.wp Go.Sep.Reg

structure DiskS where
 blocks : List (List UInt8)
 base : List (List UInt8)
 writes : List (Nat × List UInt8)
 left : Int
 dead : Bool
def wenc (x : Nat × List UInt8) : List Value := .int .i64 x.1 :: bv x.2
def IsDisk (p : Nat) (D : DiskS) : Asrt := Ex fun x : Value × Value × Value => St [Cs p 114 [x.1, x.2.1, x.2.2, .int .i64 D.left, .bool D.dead],
 Tb 143 128 bv x.1 D.blocks, Tb 143 128 bv x.2.1 D.base, Tb 145 129 wenc x.2.2 D.writes]
theorem IsDisk.open {W w : World} {L : List Asrt} {p : Nat} {D : DiskS} (h : Sat W w (IsDisk p D :: L)) : ∃ v1 v2 v3, Sat W w (Cs p 114 [v1, v2, v3, .int .i64 D.left, .bool D.dead] ::
  Tb 143 128 bv v1 D.blocks :: Tb 143 128 bv v2 D.base :: Tb 145 129 wenc v3 D.writes :: L) := by
 obtain ⟨⟨v1, v2, v3⟩, h⟩ := h.ex
 exact ⟨v1, v2, v3, h.open⟩
theorem IsDisk.mk {W w : World} {L : List Asrt} {p : Nat} {D : DiskS} {v1 v2 v3 : Value} (h : Sat W w (Cs p 114 [v1, v2, v3, .int .i64 D.left, .bool D.dead] ::
  Tb 143 128 bv v1 D.blocks :: Tb 143 128 bv v2 D.base :: Tb 145 129 wenc v3 D.writes :: L)) : Sat W w (IsDisk p D :: L) :=
 Sat.mkEx (v1, v2, v3) (Sat.mkSt h)

theorem made_rep (s m : Nat) (hs : 0 < s) (u : Value) : (madeCells (List.replicate s u).toArray m).toList = List.replicate m u := by
 apply List.ext_getElem?
 intro j
 simp only [madeCells, Array.toList_map, Array.toList_range, List.getElem?_map, List.getElem?_replicate]
 by_cases h : j < m
 ·have hm : j % s < s := Nat.mod_lt _ hs
  simp [h, hm]
 ·simp [h]
theorem flat_rep {α : Type} {f : α → List Value} {x : α} {s : Nat} {u : Value} (h : f x = List.replicate s u) (n : Nat) : (List.replicate n x).flatMap f = List.replicate (n * s) u := by
 induction n with
 | zero => simp
 | succ n ih => rw [List.replicate_succ, List.flatMap_cons, ih, h, List.replicate_append_replicate]; congr 1; rw [Nat.add_mul]; omega
def zeros (n : Nat) : List UInt8 := List.replicate n 0
theorem bv_zeros (n : Nat) : bv (zeros n) = List.replicate n (.int .u8 0) := by simp [bv, zeros, u8]

theorem made_u8 (n : Nat) : (madeCells (Value.int .u8 0).cells (n * 1)).toList = bv (zeros n) := by
 rw [bv_zeros, show (Value.int .u8 0).cells = (List.replicate 1 (Value.int .u8 0)).toArray from rfl, made_rep 1 _ (by decide), Nat.mul_one]
set_option maxRecDepth 20000 in
theorem new_okN {W w : World} {L : List Asrt} (hS : Sat W w L) (n : Nat) (h1 : 160 ≤ n) (h2 : n ≤ 1024) :
  Calls Tryz.prog 20 #[.int .i64 n] w fun e w' => ∃ p, e = .returned (.tuple #[.pointer (some ⟨p, 0, none⟩), .bool true]) ∧
   Sat W w' (IsDisk p { blocks := List.replicate n (zeros 128), base := [], writes := [], left := -1, dead := false } :: L) := by
 have i1 : (160 : Int) ≤ (n : Int) := by omega
 have i2 : (n : Int) ≤ 1024 := by omega
 go_enter Tryz.func20, Tryz.ntmps20
 go_wp2_with (first | ((refine toList (by rfl) ?_; refine mk hS _ _ _ (by rfl) n n _ _ (by rfl) (by rfl) (elOf (by rfl)) (by omega) (by omega) (by omega) ?_; clear hS; intro pb w1 hS; rw [cells_agg] at hS); rw [made_rep 128 _ (by omega)] at hS) | (refine toList (by rfl) ?_; refine bx hS _ _ (by rfl) _ (by first | exact evC | exact evT (by rfl)) ?_; clear hS; intro p w1 hS; rw [cells_agg] at hS))
 go_ret2
 refine ⟨p, rfl, IsDisk.mk (v1 := .slice (some ⟨pb, 0, none⟩) n n) (v2 := .slice none 0 0) (v3 := .slice none 0 0) ?_⟩
 rw [← flat_rep (f := bv) (bv_zeros 128) n] at hS
 have h := Sat.csTb (sz := 128) (n := n) (by simp [bv_length, zeros]) (by simp) (by omega) hS.pull1
 have h := (h.tbNil (E := 143) (sz := 128) (f := bv)).tbNil (E := 145) (sz := 129) (f := wenc)
 exact h.re [3, 2, 1, 0]
def DiskS.new (n : Int) : DiskS := { blocks := List.replicate n.toNat (zeros 128), base := [], writes := [], left := -1, dead := false }
theorem new_ok {W w : World} {L : List Asrt} (hS : Sat W w L) (n : Int) (h1 : 160 ≤ n) (h2 : n ≤ 1024) :
  Calls Tryz.prog 20 #[.int .i64 n] w fun e w' => ∃ p, e = .returned (.tuple #[.pointer (some ⟨p, 0, none⟩), .bool true]) ∧ Sat W w' (IsDisk p (.new n) :: L) := by
 obtain ⟨k, rfl⟩ := Int.eq_ofNat_of_zero_le (show 0 ≤ n by omega)
 exact new_okN hS k (by omega) (by omega)
theorem blocks_any {W w : World} {L : List Asrt} {p : Nat} {D : DiskS} (hS : Sat W w (IsDisk p D :: L)) {n : Int} (hn : (D.blocks.length : Int) = n) :
  Calls Tryz.prog 46 #[.pointer (some ⟨p, 0, none⟩)] w fun e w' => e = .returned (.int .i64 n) ∧ w = w' := by
 subst hn
 obtain ⟨v1, v2, v3, hS⟩ := IsDisk.open hS
 obtain ⟨ao, c, rfl, _⟩ := hS.tbShape (k := 1) rfl
 go_enter Tryz.func46, Tryz.ntmps46
 go_wp2_with (refine toList (by rfl) ?_; refine ld hS _ _ (by rfl) _ _ (by rfl) (agOf (by rfl)) (by repeat first | exact Has.z | apply Has.s) (by rfl) ?_)
 go_ret
 exact ⟨rfl, rfl⟩
theorem writes_any {W w : World} {L : List Asrt} {p : Nat} {D : DiskS} (hS : Sat W w (IsDisk p D :: L)) {n : Int} (hn : (D.writes.length : Int) = n) :
  Calls Tryz.prog 18 #[.pointer (some ⟨p, 0, none⟩)] w fun e w' => e = .returned (.int .i64 n) ∧ w = w' := by
 subst hn
 obtain ⟨v1, v2, v3, hS⟩ := IsDisk.open hS
 obtain ⟨ao, c, rfl, _⟩ := hS.tbShape (k := 3) rfl
 go_enter Tryz.func18, Tryz.ntmps18
 go_wp2_with (refine toList (by rfl) ?_; refine ld hS _ _ (by rfl) _ _ (by rfl) (agOf (by rfl)) (by repeat first | exact Has.z | apply Has.s) (by rfl) ?_)
 go_ret
 exact ⟨rfl, rfl⟩
set_option maxRecDepth 20000 in
set_option maxHeartbeats 2000000 in
theorem read_ok {W w : World} {L : List Asrt} {p : Nat} {D : DiskS} (hS : Sat W w (IsDisk p D :: L)) (n : Nat) (b : List UInt8) (hb : D.blocks[n]? = some b) (hlen : D.blocks.length ≤ 1024) :
  Calls Tryz.prog 42 #[.pointer (some ⟨p, 0, none⟩), .int .i64 n] w fun e w' => ∃ q, e = .returned (.tuple #[.slice (some ⟨q, 0, none⟩) 128 128, .int .i64 0]) ∧ b.length = 128 ∧ Sat W w' (Cs q 143 (bv b) :: IsDisk p D :: L) := by
 obtain ⟨v1, v2, v3, hS⟩ := IsDisk.open hS
 have hn := (List.getElem?_eq_some_iff.1 hb).1
 obtain ⟨bb, off, c, rfl, _⟩ := hS.tbAddr (k := 1) rfl (by omega)
 have hbl : (bv b).length = 128 := hS.tbLen (k := 1) rfl b (List.mem_of_getElem? hb)
 have i1 : (n : Int) < (D.blocks.length : Int) := by omega
 have i2 : (D.blocks.length : Int) ≤ 1024 := by omega
 go_enter Tryz.func42, Tryz.ntmps42
 go_wp2_with (first
  | (refine toList (by rfl) ?_; refine ld hS _ _ (by rfl) _ _ (by rfl) (agOf (by rfl)) (by repeat first | exact Has.z | apply Has.s) (by rfl) ?_)
  | (refine toList (by rfl) ?_; refine ldTbA hS _ _ (by rfl) _ _ (by rfl) (agOf (by rfl)) (szOf (by rfl)) (by repeat first | exact Has.z | apply Has.s) n (by rfl) (by exact hb) ?_)
  | (refine toList (by rfl) ?_; refine al hS _ (by rfl) (zrOf (by rfl)) ?_; clear hS; intro pb w1 hS; rw [cells_agg] at hS)
  | (refine toList (by rfl) ?_; refine stA hS _ _ _ (by rfl) _ _ (by rfl) (bv b) (by rfl) (bv_one b) (by rw [hbl]; exact szOf (by rfl)) Has.z (by rw [hbl]; simp) ?_; clear hS; intro w1 hS; rw [List.set_cons_zero, List.take_zero, List.nil_append, List.drop_eq_nil_of_le (by rw [hbl]; simp), List.append_nil] at hS))
 go_ret2
 exact ⟨_, rfl, by simpa [bv_length] using hbl, (IsDisk.mk (hS.re [1, 2, 3, 4])).pull1⟩

end Go.Proofs.YtchohheleofncaaGreat
namespace Go.Proofs.YtchohheleofncaaGreat
open Go.RowKit Go.Sep
attribute [local irreducible] Go.Oper.wp Go.wpList Go.Calls Go.Code.wp Go.Sep.Reg

theorem write_dead {W w : World} {L : List Asrt} {p : Nat} {D : DiskS} (hS : Sat W w (IsDisk p D :: L)) (n : Int) (v : Value) (hd : D.dead = true) :
  Calls Tryz.prog 37 #[.pointer (some ⟨p, 0, none⟩), .int .i64 n, v] w fun e w' => e = .returned (.int .i64 22) ∧ w = w' := by
 obtain ⟨v1, v2, v3, hS⟩ := IsDisk.open hS
 rw [hd] at hS
 go_enter Tryz.func37, Tryz.ntmps37
 go_wp2_with (refine toList (by rfl) ?_; refine ld hS _ _ (by rfl) _ _ (by rfl) (agOf (by rfl)) (by repeat first | exact Has.z | apply Has.s) (by rfl) ?_)
 go_ret
 exact ⟨rfl, rfl⟩
set_option maxHeartbeats 2000000 in
theorem write_arg {W w : World} {L : List Asrt} {p : Nat} {D : DiskS} (hS : Sat W w (IsDisk p D :: L)) (n : Int) (ao : Option Addr) (m c : Nat) (hd : D.dead = false) (h : n < 0 ∨ (D.blocks.length : Int) ≤ n ∨ m ≠ 128) :
  Calls Tryz.prog 37 #[.pointer (some ⟨p, 0, none⟩), .int .i64 n, .slice ao m c] w fun e w' => e = .returned (.int .i64 1) ∧ w = w' := by
 obtain ⟨v1, v2, v3, hS⟩ := IsDisk.open hS
 rw [hd] at hS
 obtain ⟨ao1, c1, rfl, _⟩ := hS.tbShape (k := 1) rfl
 by_cases h0 : n < 0
 ·go_enter Tryz.func37, Tryz.ntmps37
  go_wp2_with (refine toList (by rfl) ?_; refine ld hS _ _ (by rfl) _ _ (by rfl) (agOf (by rfl)) (by repeat first | exact Has.z | apply Has.s) (by rfl) ?_)
  go_ret
  exact ⟨rfl, rfl⟩
 by_cases h1 : (D.blocks.length : Int) ≤ n
 ·go_enter Tryz.func37, Tryz.ntmps37
  go_wp2_with (refine toList (by rfl) ?_; refine ld hS _ _ (by rfl) _ _ (by rfl) (agOf (by rfl)) (by repeat first | exact Has.z | apply Has.s) (by rfl) ?_)
  go_ret
  exact ⟨rfl, rfl⟩
 ·have h2 : ((m : Int) == 128) = false := beq_eq_false_iff_ne.2 (by omega)
  have h3 : ((m : Int) != 128) = true := by rw [bne_iff_ne]; omega
  have h4 : n < (D.blocks.length : Int) := by omega
  have h5 : 0 ≤ n := by omega
  clear h h0 h1
  obtain ⟨k, rfl⟩ := Int.eq_ofNat_of_zero_le h5
  go_enter Tryz.func37, Tryz.ntmps37
  go_wp2_with (refine toList (by rfl) ?_; refine ld hS _ _ (by rfl) _ _ (by rfl) (agOf (by rfl)) (by repeat first | exact Has.z | apply Has.s) (by rfl) ?_)
  go_ret
  exact ⟨rfl, rfl⟩
set_option maxHeartbeats 2000000 in
theorem write_cut {W w : World} {L : List Asrt} {p : Nat} {D : DiskS} (hS : Sat W w (IsDisk p D :: L)) (n : Nat) (ao : Option Addr) (c : Nat) (hd : D.dead = false) (hn : n < D.blocks.length) (hl : D.left = 0) :
  Calls Tryz.prog 37 #[.pointer (some ⟨p, 0, none⟩), .int .i64 n, .slice ao 128 c] w fun e w' => e = .returned (.int .i64 22) ∧ Sat W w' (IsDisk p { D with dead := true } :: L) := by
 obtain ⟨v1, v2, v3, hS⟩ := IsDisk.open hS
 obtain ⟨ao1, c1, rfl, _⟩ := hS.tbShape (k := 1) rfl
 rw [hd, hl] at hS
 have h4 : (n : Int) < (D.blocks.length : Int) := by omega
 go_enter Tryz.func37, Tryz.ntmps37
 go_wp2_with (first
  | (refine toList (by rfl) ?_; refine ld hS _ _ (by rfl) _ _ (by rfl) (agOf (by rfl)) (by repeat first | exact Has.z | apply Has.s) (by rfl) ?_)
  | (refine toList (by rfl) ?_; refine st hS _ _ _ (by rfl) _ _ (by rfl) _ (by first | exact evC | exact evT (by rfl)) (by rfl) (szOf (by rfl)) (by repeat first | exact Has.z | apply Has.s) (by exact Nat.le_of_ble_eq_true rfl) ?_; clear hS; intro w1 hS; dsimp only [List.set] at hS))
 go_ret
 exact ⟨rfl, IsDisk.mk (D := { D with dead := true }) (by rw [hl]; exact hS)⟩

def DiskS.wrote (D : DiskS) (n : Nat) (b : List UInt8) : DiskS :=
 {D with blocks := D.blocks.set n b, writes := D.writes ++ [(n, b)], left := if 0 < D.left then D.left - 1 else D.left }
set_option maxRecDepth 20000 in
set_option maxHeartbeats 4000000 in
theorem write_ok {W w : World} {L : List Asrt} {p : Nat} {D : DiskS} (hS : Sat W w (IsDisk p D :: L)) (n : Nat) (v : Value) (b : List UInt8) (hb : ∀ w, Sat W w L → Rd w v 128 1 (bv b))
  (hd : D.dead = false) (hn : n < D.blocks.length) (hl : D.left ≠ 0) (hl2 : -1 ≤ D.left) (hl3 : D.left ≤ 9223372036854775807) (hw : D.writes.length ≤ 1048576) (hlen : D.blocks.length ≤ 1024) :
  Calls Tryz.prog 37 #[.pointer (some ⟨p, 0, none⟩), .int .i64 n, v] w fun e w' => e = .returned (.int .i64 0) ∧ Sat W w' (IsDisk p (D.wrote n b) :: L) := by
 obtain ⟨v1, v2, v3, hS⟩ := IsDisk.open hS
 obtain ⟨bb, off, c1, rfl, _⟩ := hS.tbAddr (k := 1) rfl (by omega)
 obtain ⟨ao3, c3, rfl, _⟩ := hS.tbShape (k := 3) rfl
 have hrd := hb w hS.drop.drop.drop.drop
 obtain ⟨ao, c, rfl, _, _, hbl, _⟩ := id hrd
 rw [bv_length] at hbl
 rw [hd] at hS
 have h4 : (n : Int) < (D.blocks.length : Int) := by omega
 have h5 : (D.left == 0) = false := beq_eq_false_iff_ne.2 hl
 have hwl : (wenc (n, zeros 128)).length = 129 := by simp [wenc, bv_length, zeros]
 have hwo : ∀ x : Nat × List UInt8, ∀ u ∈ wenc x, u.oneCell' = true := fun x u hu => by
  rcases List.mem_cons.1 hu with rfl | hu
  ·rfl
  ·exact bv_one _ u hu
 have hX : ∀ Z : List Value, Z.length = 129 → List.take 0 Z ++ wenc (n, zeros 128) ++ List.drop (0 + (wenc (n, zeros 128)).length) Z = wenc (n, zeros 128) := fun Z hZ => by
  rw [List.take_zero, List.nil_append, hwl, List.drop_eq_nil_of_le (by omega), List.append_nil]
 have hY : List.take 1 (wenc (n, zeros 128)) ++ List.take (min 128 128 * 1) (bv b) ++ List.drop (1 + min 128 128 * 1) (wenc (n, zeros 128)) = wenc (n, b) := by
  rw [List.drop_eq_nil_of_le (by rw [hwl]; simp), show List.take (min 128 128 * 1) (bv b) = bv b from List.take_of_length_le (by rw [bv_length]; simp; omega)]
  simp [wenc]
 have hR : List.take 128 (List.drop 1 (wenc (n, b))) = bv b := by
  rw [show List.drop 1 (wenc (n, b)) = bv b from rfl]; exact List.take_of_length_le (by rw [bv_length]; omega)
 have hbl2 : (bv b).length = 128 := by rw [bv_length]; omega
 have hN : (wenc (n, b)).length = 129 := by simp [wenc, bv_length]; omega
 have hA : List.take 129 (List.drop 0 (wenc (n, b))) = wenc (n, b) := List.take_of_length_le (by rw [List.drop_zero, hN]; exact Nat.le_refl _)
 have hC : ∀ u ∈ [Value.agg (wenc (n, b)).toArray], u.cells.size = 129 := fun u hu => by
  rcases List.mem_singleton.1 hu with rfl
  simp [Value.cells, hN]
 have HN := Lib.hid hN
 have HA := Lib.hid hA
 have HC := Lib.hid hC
 clear hN hA hC
 have HR := Lib.hid hR
 have HL := Lib.hid hbl2
 clear hR hbl2
 have HX := Lib.hid hX
 have HY := Lib.hid hY
 have HW := Lib.hid hwo
 clear hX hY hwo
 have hbd : ∀ u : World, (Instr.build 145 #[(0, .int .i64 (n : Int))]).run Tryz.prog u = .ok (.agg (wenc (n, zeros 128)).toArray) u := fun u => run_build u _ _ _ (by kernel_rfl)
 have HB := Lib.hid hbd
 clear hbd
 by_cases h6 : 0 < D.left
 all_goals
  go_enter Tryz.func37, Tryz.ntmps37
  go_wp2_with (first
   | (refine toList (by rfl) ?_; refine ld hS _ _ (by rfl) _ _ (by rfl) (agOf (by rfl)) (by repeat first | exact Has.z | apply Has.s) (by rfl) ?_)
   | (refine toList (by rfl) ?_; refine st hS _ _ _ (by rfl) _ _ (by rfl) _ (by first | exact evC | exact evT (by rfl)) (by rfl) (szOf (by rfl)) (by repeat first | exact Has.z | apply Has.s) (by exact Nat.le_of_ble_eq_true rfl) ?_; clear hS; intro w1 hS; dsimp only [List.set] at hS)
   | (refine toList (by rfl) ?_; refine al hS _ (by rfl) (zrOf (by rfl)) ?_; clear hS; intro pw w1 hS; rw [cells_agg] at hS)
   | (refine toList (by rfl) ?_; refine bd _ _ (by rfl) (by simp only [List.map_toArray, List.map_cons, List.map_nil]; rfl) HB.out ?_)
   | (refine toList (by rfl) ?_; refine stA hS _ _ _ (by rfl) _ _ (by rfl) (wenc (n, zeros 128)) (by rfl) (HW.out _) (by rw [hwl]; exact szOf (by rfl)) Has.z (by rw [hwl]; simp) ?_; clear hS; intro w1 hS; rw [List.set_cons_zero, HX.out _ (by simp)] at hS)
   | (refine toList (by rfl) ?_; refine cp hS _ _ _ _ (by rfl) _ _ _ _ _ (by rfl) (by rfl) (elOf (by rfl)) (by omega) Has.z (by exact hb _ hS.drop.drop.drop.drop.drop) (bv_one b) (by rw [hwl]; exact Nat.le_refl _) ?_; clear hS; intro w1 hS; rw [List.set_cons_zero, HY.out] at hS))
  (refine wp_region_tail_sat 8 hS (by kernel_rfl) (by kernel_rfl) ?_
   intro w1 hS1
   clear hS; have hS := hS1; clear hS1
   simp only [List.take_succ_cons, List.take_zero, List.drop_succ_cons, List.drop_zero]
   repeat (first | (first
     | (refine stillList (by rfl) ?_; refine ldS hS _ _ (by rfl) _ _ (by rfl) (agOf (by rfl)) (by repeat first | exact Has.z | apply Has.s) (by rfl) ?_; go_frame)
     | (refine stillList (by rfl) ?_; refine ldAS hS _ _ (by rfl) _ _ (by rfl) (agOf (by rfl)) (szOf (by rfl)) (by repeat first | exact Has.z | apply Has.s) (by exact HR.out) (by exact HL.out) ?_; go_frame)) | still_step)
   refine wpStill_nil ?_)
  refine toList (by rfl) ?_
  refine stTbA hS _ _ _ (by rfl) _ _ (by rfl) b (by rfl) (bv_one b) HL.out (szOf (by rfl)) (by repeat first | exact Has.z | apply Has.s) n (by rfl) hn ?_
  intro w1 hS1
  clear hS; have hS := hS1; clear hS1
  go_wp2
  refine regStart [7, 10] hS (by kernel_rfl) rfl ?_
  intro w1 hS1
  clear hS; have hS := hS1; clear hS1
  (refine rgP 0 hS (fun _ h => h) ?_; go_frame)
  (refine rgP 1 hS (fun _ h => h) ?_; go_frame)
  (refine rgP 2 hS (fun _ h => h) ?_; go_frame)
  (refine rgP 3 hS (fun _ h => h) ?_; go_frame)
  (refine rgR 4 hS (fun _ h => h) ?_; (first
       | refine ⟨_, yLd _ _ (by rfl) _ _ (by rfl) (agOf (by rfl)) (by repeat first | exact Has.z | apply Has.s) (by rfl), ?_⟩
       | refine ⟨_, yLdA _ _ (by rfl) _ _ (by rfl) (agOf (by rfl)) (szOf (by rfl)) (by repeat first | exact Has.z | apply Has.s) (by exact HA.out) (by exact HN.out), ?_⟩); go_frame)
  (refine rgR 5 hS (fun _ h => h) ?_; (first
       | refine ⟨_, yLd _ _ (by rfl) _ _ (by rfl) (agOf (by rfl)) (by repeat first | exact Has.z | apply Has.s) (by rfl), ?_⟩
       | refine ⟨_, yLdA _ _ (by rfl) _ _ (by rfl) (agOf (by rfl)) (szOf (by rfl)) (by repeat first | exact Has.z | apply Has.s) (by exact HA.out) (by exact HN.out), ?_⟩); go_frame)
  (refine rgA 6 false fun K hK => ?_; (first
       | (refine bsF hS _ _ _ (by rfl) (elOf (by rfl)) [.agg (wenc (n, b)).toArray] (by rfl) (by rfl) (by decide) (by decide) (by exact HC.out) ?_; clear hS; intro b1 w1 hS; rw [agg1] at hS)
       | (refine apTbS hS _ _ _ _ (by rfl) _ _ (by rfl) (by rfl) (elOf (by rfl)) (by rfl) (by decide) (inOf (by rfl)) (by repeat first | exact Has.z | apply Has.s) [(n, b)] (by simpa using HN.out) (by exact hS.src1 Has.z HN.out) (by rw [fm1]; exact HW.out (n, b)) (by simp; omega) (by simp; omega) ?_; clear hS; intro ao4 c4 w1 _ hS)
       | (refine st hS _ _ _ (by rfl) _ _ (by rfl) _ (by first | exact evC | exact evT (by rfl)) (by rfl) (szOf (by rfl)) (by repeat first | exact Has.z | apply Has.s) (by exact Nat.le_of_ble_eq_true rfl) ?_; clear hS; intro w1 hS; dsimp only [List.set] at hS)); refine hK _ _ _ hS (by first | (intro h; cases h; done) | exact fun _ _ h => h | exact fun _ _ h => h.drop | exact fun _ _ h => h.drop.drop | exact fun _ _ h => h.drop.pull1 | exact fun _ _ h => h.take2 | exact fun _ _ h => h.one Has.z | exact fun _ _ h => h.one (Has.s Has.z) | exact fun _ _ h => h.one (Has.s (Has.s Has.z))) ?_; clear hK K; go_frame)
  (refine rgA 7 true fun K hK => ?_; (first
       | (refine bsF hS _ _ _ (by rfl) (elOf (by rfl)) [.agg (wenc (n, b)).toArray] (by rfl) (by rfl) (by decide) (by decide) (by exact HC.out) ?_; clear hS; intro b1 w1 hS; rw [agg1] at hS)
       | (refine apTbS hS _ _ _ _ (by rfl) _ _ (by rfl) (by rfl) (elOf (by rfl)) (by rfl) (by decide) (inOf (by rfl)) (by repeat first | exact Has.z | apply Has.s) [(n, b)] (by simpa using HN.out) (by exact hS.src1 Has.z HN.out) (by rw [fm1]; exact HW.out (n, b)) (by simp; omega) (by simp; omega) ?_; clear hS; intro ao4 c4 w1 _ hS)
       | (refine st hS _ _ _ (by rfl) _ _ (by rfl) _ (by first | exact evC | exact evT (by rfl)) (by rfl) (szOf (by rfl)) (by repeat first | exact Has.z | apply Has.s) (by exact Nat.le_of_ble_eq_true rfl) ?_; clear hS; intro w1 hS; dsimp only [List.set] at hS)); refine hK _ _ _ hS (by first | (intro h; cases h; done) | exact fun _ _ h => h | exact fun _ _ h => h.drop | exact fun _ _ h => h.drop.drop | exact fun _ _ h => h.drop.pull1 | exact fun _ _ h => h.take2 | exact fun _ _ h => h.one Has.z | exact fun _ _ h => h.one (Has.s Has.z) | exact fun _ _ h => h.one (Has.s (Has.s Has.z))) ?_; clear hK K; go_frame)
  (refine rgP 8 hS (fun _ h => h) ?_; go_frame)
  (refine rgP 9 hS (fun _ h => h) ?_; go_frame)
  (refine rgA 10 true fun K hK => ?_; (first
       | (refine bsF hS _ _ _ (by rfl) (elOf (by rfl)) [.agg (wenc (n, b)).toArray] (by rfl) (by rfl) (by decide) (by decide) (by exact HC.out) ?_; clear hS; intro b1 w1 hS; rw [agg1] at hS)
       | (refine apTbS hS _ _ _ _ (by rfl) _ _ (by rfl) (by rfl) (elOf (by rfl)) (by rfl) (by decide) (inOf (by rfl)) (by repeat first | exact Has.z | apply Has.s) [(n, b)] (by simpa using HN.out) (by exact hS.src1 Has.z HN.out) (by rw [fm1]; exact HW.out (n, b)) (by simp; omega) (by simp; omega) ?_; clear hS; intro ao4 c4 w1 _ hS)
       | (refine st hS _ _ _ (by rfl) _ _ (by rfl) _ (by first | exact evC | exact evT (by rfl)) (by rfl) (szOf (by rfl)) (by repeat first | exact Has.z | apply Has.s) (by exact Nat.le_of_ble_eq_true rfl) ?_; clear hS; intro w1 hS; dsimp only [List.set] at hS)); refine hK _ _ _ hS (by first | (intro h; cases h; done) | exact fun _ _ h => h | exact fun _ _ h => h.drop | exact fun _ _ h => h.drop.drop | exact fun _ _ h => h.drop.pull1 | exact fun _ _ h => h.take2 | exact fun _ _ h => h.one Has.z | exact fun _ _ h => h.one (Has.s Has.z) | exact fun _ _ h => h.one (Has.s (Has.s Has.z))) ?_; clear hK K; go_frame)
  refine regDone (by kernel_rfl) ?_
  go_wp2
  go_ret
  refine ⟨rfl, ?_⟩
  rw [show D.wrote n b = { D with blocks := D.blocks.set n b, writes := D.writes ++ [(n, b)], left := if 0 < D.left then D.left - 1 else D.left } from rfl]
  apply IsDisk.mk
  dsimp only
  rw [hd]
  first
  | rw [if_pos h6]; exact hS.drop.drop
  | rw [if_neg (by omega)]; exact hS.drop.drop

end Go.Proofs.YtchohheleofncaaGreat
namespace Go.Proofs.YtchohheleofncaaGreat
open Go.RowKit Go.Sep
attribute [local irreducible] Go.Oper.wp Go.wpList Go.Calls Go.Code.wp Go.Sep.Reg

def applyW (bs : List (List UInt8)) (ws : List (Nat × List UInt8)) : List (List UInt8) := ws.foldl (fun bs w => bs.set w.1 w.2) bs
theorem applyW_snoc (bs : List (List UInt8)) (ws : List (Nat × List UInt8)) (w : Nat × List UInt8) : applyW bs (ws ++ [w]) = (applyW bs ws).set w.1 w.2 := by simp [applyW]
def DiskS.start (D : DiskS) : List (List UInt8) := D.base ++ List.replicate (D.blocks.length - D.base.length) (zeros 128)
def DiskS.image (D : DiskS) (k : Nat) : DiskS :=
 {blocks := applyW D.start (D.writes.take k), base := applyW D.start (D.writes.take k), writes := [], left := -1, dead := false }
structure DiskS.Ok (D : DiskS) : Prop where
 len : D.blocks.length ≤ 1024
 base : D.base.length ≤ D.blocks.length
 at_ : ∀ x ∈ D.writes, x.1 < D.blocks.length
end Go.Proofs.YtchohheleofncaaGreat
namespace Go.Proofs.YtchohheleofncaaGreat
open Go.RowKit Go.Sep
attribute [local irreducible] Go.Oper.wp Go.wpList Go.Calls Go.Code.wp Go.Sep.Reg
theorem wrote_len (D : DiskS) (n : Nat) (b : List UInt8) : (D.wrote n b).blocks.length = D.blocks.length := by simp [DiskS.wrote]
def pad (l : List UInt8) : List UInt8 := l.take 128 ++ zeros (128 - l.length)
end Go.Proofs.YtchohheleofncaaGreat
namespace Go.Proofs.YtchohheleofncaaGreat
open Go.RowKit Go.Sep
attribute [local irreducible] Go.Oper.wp Go.wpList Go.Calls Go.Code.wp Go.Sep.Reg
structure RefS where
 L : List (List UInt8)
 Log : List (Nat × List UInt8)
 armed : Bool
 left : Int
 dead : Bool
def strv (l : List UInt8) : Value := .string ⟨l.toArray⟩
def wsv (l : List UInt8) : List Value := [strv l]
def wv (x : Nat × List UInt8) : List Value := [.int .i64 x.1, strv x.2]
def IsRef (p : Nat) (D : RefS) : Asrt := Ex fun x : Value × Value => St [Cs p 124 [x.1, x.2, .bool D.armed, .int .i64 D.left, .bool D.dead],
 Tb 9 1 wsv x.1 D.L, Tb 181 2 wv x.2 D.Log]
theorem IsRef.open {W w : World} {L : List Asrt} {p : Nat} {D : RefS} (h : Sat W w (IsRef p D :: L)) : ∃ v1 v2, Sat W w (Cs p 124 [v1, v2, .bool D.armed, .int .i64 D.left, .bool D.dead] ::
  Tb 9 1 wsv v1 D.L :: Tb 181 2 wv v2 D.Log :: L) := by
 obtain ⟨⟨v1, v2⟩, h⟩ := h.ex
 exact ⟨v1, v2, h.open⟩
theorem IsRef.mk {W w : World} {L : List Asrt} {p : Nat} {D : RefS} {v1 v2 : Value} (h : Sat W w (Cs p 124 [v1, v2, .bool D.armed, .int .i64 D.left, .bool D.dead] ::
  Tb 9 1 wsv v1 D.L :: Tb 181 2 wv v2 D.Log :: L)) : Sat W w (IsRef p D :: L) :=
 Sat.mkEx (v1, v2) (Sat.mkSt h)
def RefS.new (n : Nat) : RefS := { L := List.replicate n (zeros 128), Log := [], armed := false, left := 0, dead := false }
def RefS.wrote (D : RefS) (n : Nat) (b : List UInt8) : RefS :=
 {D with L := D.L.set n b, Log := D.Log ++ [(n, b)], left := if D.armed then D.left - 1 else D.left }
end Go.Proofs.YtchohheleofncaaGreat
namespace Go.Proofs.YtchohheleofncaaGreat
open Go.RowKit Go.Sep
attribute [local irreducible] Go.Oper.wp Go.wpList Go.Calls Go.Code.wp Go.Sep.Reg
structure Rel (D : DiskS) (R : RefS) : Prop where
 blocks : D.blocks = R.L
 writes : D.writes = R.Log
 dead : D.dead = R.dead
 left : D.left = if R.armed then R.left else -1
 lo : 0 ≤ R.left
 hi : R.left ≤ 9223372036854775807
 ok : D.Ok
def bad (len : Nat) (n : Int) (m : Nat) : Prop := n < 0 ∨ (len : Int) ≤ n ∨ m ≠ 128
instance (len : Nat) (n : Int) (m : Nat) : Decidable (bad len n m) := by unfold bad; infer_instance
def wcode (D : DiskS) (n : Int) (m : Nat) : Int := if D.dead then 22 else if bad D.blocks.length n m then 1 else if D.left = 0 then 22 else 0
def wnext (D : DiskS) (n : Int) (b : List UInt8) : DiskS := if D.dead then D else if bad D.blocks.length n b.length then D else if D.left = 0 then { D with dead := true } else D.wrote n.toNat b
def rnext (D : DiskS) (R : RefS) (n : Int) (b : List UInt8) : RefS := if D.dead then R else if bad D.blocks.length n b.length then R else if D.left = 0 then { R with dead := true } else R.wrote n.toNat b
theorem Rel.next {D : DiskS} {R : RefS} (h : Rel D R) (n : Int) (b : List UInt8) : Rel (wnext D n b) (rnext D R n b) := by
 unfold wnext rnext
 by_cases h1 : D.dead = true
 ·rw [if_pos h1, if_pos h1]; exact h
 rw [if_neg h1, if_neg h1]
 by_cases h2 : bad D.blocks.length n b.length
 ·rw [if_pos h2, if_pos h2]; exact h
 rw [if_neg h2, if_neg h2]
 by_cases h3 : D.left = 0
 ·rw [if_pos h3, if_pos h3]; exact ⟨h.blocks, h.writes, rfl, h.left, h.lo, h.hi, ⟨h.ok.len, h.ok.base, h.ok.at_⟩⟩
 rw [if_neg h3, if_neg h3]
 have hl := h.left
 have h4 := h.lo
 have h5 := h.hi
 unfold bad at h2
 refine ⟨by simp only [DiskS.wrote, RefS.wrote, h.blocks], by simp only [DiskS.wrote, RefS.wrote, h.writes], h.dead, ?_, ?_, ?_, ⟨by rw [wrote_len]; exact h.ok.len, by rw [wrote_len]; exact h.ok.base, fun x hx => ?_⟩⟩
 ·cases ha : R.armed <;> simp only [ha, Bool.false_eq_true, if_false, if_true] at hl <;> simp only [DiskS.wrote, RefS.wrote, ha, hl] <;> simp <;> omega
 ·cases ha : R.armed <;> simp only [ha, Bool.false_eq_true, if_false, if_true] at hl <;> simp only [RefS.wrote, ha] <;> simp <;> omega
 ·cases ha : R.armed <;> simp only [ha, Bool.false_eq_true, if_false, if_true] at hl <;> simp only [RefS.wrote, ha] <;> simp <;> omega
 ·rw [wrote_len]
  rcases List.mem_append.1 hx with hx | hx
  ·exact h.ok.at_ x hx
  ·rw [List.mem_singleton.1 hx]; show n.toNat < _; omega
end Go.Proofs.YtchohheleofncaaGreat
