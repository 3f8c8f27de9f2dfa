/-
  Package disk: contracts of New, Blocks, Read, Write, Writes, Cut, Dead, Image.
-/
import Derived.Test.YtefbkpggmmhgcaaTypes
import Derived.Test.YtefbkpggmmhgcaaSepTb
import Derived.Test.YtefbkpggmmhgcaaSepReg
import Derived.Lib.Hide
namespace Go.Proofs.Ytefbkpggmmhgcaa
open Go.RowKit Go.Sep
set_option linter.unusedSimpArgs false
set_option linter.unusedVariables false
attribute [local irreducible] Go.Oper.wp Go.wpList Go.Calls Go.Code.wp Go.Sep.Reg

/-- What a disk is: its blocks, as they were at first, what was written, how many writes are left. -/
structure DiskS where
  blocks : List (List UInt8)
  base : List (List UInt8)
  writes : List (Nat × List UInt8)
  left : Int
  dead : Bool
def wenc (x : Nat × List UInt8) : List Value := .int .i64 x.1 :: bv x.2
def IsDisk (p : Nat) (D : DiskS) : Asrt := Ex fun x : Value × Value × Value => St [Cs p 69 [x.1, x.2.1, x.2.2, .int .i64 D.left, .bool D.dead],
  Tb 71 128 bv x.1 D.blocks, Tb 71 128 bv x.2.1 D.base, Tb 82 129 wenc x.2.2 D.writes]
theorem IsDisk.open {W w : World} {L : List Asrt} {p : Nat} {D : DiskS} (h : Sat W w (IsDisk p D :: L)) : ∃ v1 v2 v3, Sat W w (Cs p 69 [v1, v2, v3, .int .i64 D.left, .bool D.dead] ::
    Tb 71 128 bv v1 D.blocks :: Tb 71 128 bv v2 D.base :: Tb 82 129 wenc v3 D.writes :: L) := by
  obtain ⟨⟨v1, v2, v3⟩, h⟩ := h.ex
  exact ⟨v1, v2, v3, h.open⟩
theorem IsDisk.mk {W w : World} {L : List Asrt} {p : Nat} {D : DiskS} {v1 v2 v3 : Value} (h : Sat W w (Cs p 69 [v1, v2, v3, .int .i64 D.left, .bool D.dead] ::
    Tb 71 128 bv v1 D.blocks :: Tb 71 128 bv v2 D.base :: Tb 82 129 wenc v3 D.writes :: L)) : Sat W w (IsDisk p D :: L) :=
  Sat.mkEx (v1, v2, v3) (Sat.mkSt h)

theorem made_rep (s m : Nat) (hs : 0 < s) (u : Value) : (madeCells (List.replicate s u).toArray m).toList = List.replicate m u := by
  apply List.ext_getElem?
  intro j
  simp only [madeCells, Array.toList_map, Array.toList_range, List.getElem?_map, List.getElem?_replicate]
  by_cases h : j < m
  · have hm : j % s < s := Nat.mod_lt _ hs
    simp [h, hm]
  · simp [h]
theorem flat_rep {α : Type} {f : α → List Value} {x : α} {s : Nat} {u : Value} (h : f x = List.replicate s u) (n : Nat) : (List.replicate n x).flatMap f = List.replicate (n * s) u := by
  induction n with
  | zero => simp
  | succ n ih => rw [List.replicate_succ, List.flatMap_cons, ih, h, List.replicate_append_replicate]; congr 1; rw [Nat.add_mul]; omega
def zeros (n : Nat) : List UInt8 := List.replicate n 0
theorem bv_zeros (n : Nat) : bv (zeros n) = List.replicate n (.int .u8 0) := by simp [bv, zeros, u8]

theorem made_u8 (n : Nat) : (madeCells (Value.int .u8 0).cells (n * 1)).toList = bv (zeros n) := by
  rw [bv_zeros, show (Value.int .u8 0).cells = (List.replicate 1 (Value.int .u8 0)).toArray from rfl, made_rep 1 _ (by decide), Nat.mul_one]
set_option maxRecDepth 20000 in
theorem new_okN {W w : World} {L : List Asrt} (hS : Sat W w L) (n : Nat) (h1 : 160 ≤ n) (h2 : n ≤ 1024) :
    Calls Try.prog 12 #[.int .i64 n] w fun e w' => ∃ p, e = .returned (.tuple #[.pointer (some ⟨p, 0, none⟩), .bool true]) ∧
      Sat W w' (IsDisk p { blocks := List.replicate n (zeros 128), base := [], writes := [], left := -1, dead := false } :: L) := by
  have i1 : (160 : Int) ≤ (n : Int) := by omega
  have i2 : (n : Int) ≤ 1024 := by omega
  go_enter Try.func12, Try.ntmps12
  go_wp2_with (first | ((refine toList (by rfl) ?_; refine mk hS _ _ _ (by rfl) n n _ _ (by rfl) (by rfl) (elOf (by rfl)) (by omega) (by omega) (by omega) ?_; intro pb w1 hS1; clear hS; have hS := hS1; clear hS1; rw [cells_agg] at hS); rw [made_rep 128 _ (by omega)] at hS) | (refine toList (by rfl) ?_; refine bx hS _ _ (by rfl) _ (by first | exact evC | exact evT (by rfl)) ?_; intro p w1 hS1; clear hS; have hS := hS1; clear hS1; rw [cells_agg] at hS))
  go_ret2
  refine ⟨p, rfl, IsDisk.mk (v1 := .slice (some ⟨pb, 0, none⟩) n n) (v2 := .slice none 0 0) (v3 := .slice none 0 0) ?_⟩
  rw [← flat_rep (f := bv) (bv_zeros 128) n] at hS
  have h := Sat.csTb (sz := 128) (n := n) (by simp [bv_length, zeros]) (by simp) (by omega) hS.pull1
  have h := (h.tbNil (E := 71) (sz := 128) (f := bv)).tbNil (E := 82) (sz := 129) (f := wenc)
  exact h.re [3, 2, 1, 0]
def DiskS.new (n : Int) : DiskS := { blocks := List.replicate n.toNat (zeros 128), base := [], writes := [], left := -1, dead := false }
theorem new_ok {W w : World} {L : List Asrt} (hS : Sat W w L) (n : Int) (h1 : 160 ≤ n) (h2 : n ≤ 1024) :
    Calls Try.prog 12 #[.int .i64 n] w fun e w' => ∃ p, e = .returned (.tuple #[.pointer (some ⟨p, 0, none⟩), .bool true]) ∧ Sat W w' (IsDisk p (.new n) :: L) := by
  obtain ⟨k, rfl⟩ := Int.eq_ofNat_of_zero_le (show 0 ≤ n by omega)
  exact new_okN hS k (by omega) (by omega)
theorem new_no (w : World) (n : Int) (h : n < 160 ∨ 1024 < n) :
    Calls Try.prog 12 #[.int .i64 n] w fun e w' => e = .returned (.tuple #[.pointer none, .bool false]) ∧ w = w' := by
  rcases h with h | h
  · go_enter Try.func12, Try.ntmps12
    go_wp2
    go_ret2
    exact ⟨rfl, rfl⟩
  · have h2 : ¬ n < 160 := by omega
    go_enter Try.func12, Try.ntmps12
    go_wp2
    go_ret2
    exact ⟨rfl, rfl⟩

theorem blocks_any {W w : World} {L : List Asrt} {p : Nat} {D : DiskS} (hS : Sat W w (IsDisk p D :: L)) {n : Int} (hn : (D.blocks.length : Int) = n) :
    Calls Try.prog 33 #[.pointer (some ⟨p, 0, none⟩)] w fun e w' => e = .returned (.int .i64 n) ∧ w = w' := by
  subst hn
  obtain ⟨v1, v2, v3, hS⟩ := IsDisk.open hS
  obtain ⟨ao, c, rfl, _⟩ := hS.tbShape (k := 1) rfl
  go_enter Try.func33, Try.ntmps33
  go_wp2_with (refine toList (by rfl) ?_; refine ld hS _ _ (by rfl) _ _ (by rfl) (agOf (by rfl)) (by first | exact Has.z | exact Has.s Has.z | exact Has.s (Has.s Has.z) | exact Has.s (Has.s (Has.s Has.z)) | exact Has.s (Has.s (Has.s (Has.s Has.z))) | exact Has.s (Has.s (Has.s (Has.s (Has.s Has.z))))) (by rfl) ?_)
  go_ret
  exact ⟨rfl, rfl⟩
theorem writes_any {W w : World} {L : List Asrt} {p : Nat} {D : DiskS} (hS : Sat W w (IsDisk p D :: L)) {n : Int} (hn : (D.writes.length : Int) = n) :
    Calls Try.prog 14 #[.pointer (some ⟨p, 0, none⟩)] w fun e w' => e = .returned (.int .i64 n) ∧ w = w' := by
  subst hn
  obtain ⟨v1, v2, v3, hS⟩ := IsDisk.open hS
  obtain ⟨ao, c, rfl, _⟩ := hS.tbShape (k := 3) rfl
  go_enter Try.func14, Try.ntmps14
  go_wp2_with (refine toList (by rfl) ?_; refine ld hS _ _ (by rfl) _ _ (by rfl) (agOf (by rfl)) (by first | exact Has.z | exact Has.s Has.z | exact Has.s (Has.s Has.z) | exact Has.s (Has.s (Has.s Has.z)) | exact Has.s (Has.s (Has.s (Has.s Has.z))) | exact Has.s (Has.s (Has.s (Has.s (Has.s Has.z))))) (by rfl) ?_)
  go_ret
  exact ⟨rfl, rfl⟩
theorem dead_any {W w : World} {L : List Asrt} {p : Nat} {D : DiskS} (hS : Sat W w (IsDisk p D :: L)) {b : Bool} (hb : D.dead = b) :
    Calls Try.prog 48 #[.pointer (some ⟨p, 0, none⟩)] w fun e w' => e = .returned (.bool b) ∧ w = w' := by
  subst hb
  obtain ⟨v1, v2, v3, hS⟩ := IsDisk.open hS
  go_enter Try.func48, Try.ntmps48
  go_wp2_with (refine toList (by rfl) ?_; refine ld hS _ _ (by rfl) _ _ (by rfl) (agOf (by rfl)) (by first | exact Has.z | exact Has.s Has.z | exact Has.s (Has.s Has.z) | exact Has.s (Has.s (Has.s Has.z)) | exact Has.s (Has.s (Has.s (Has.s Has.z))) | exact Has.s (Has.s (Has.s (Has.s (Has.s Has.z))))) (by rfl) ?_)
  go_ret
  exact ⟨rfl, rfl⟩
theorem cut_yes {W w : World} {L : List Asrt} {p : Nat} {D : DiskS} (hS : Sat W w (IsDisk p D :: L)) (n : Int) (h : 0 ≤ n) :
    Calls Try.prog 21 #[.pointer (some ⟨p, 0, none⟩), .int .i64 n] w fun e w' => e = .returned (.bool true) ∧ Sat W w' (IsDisk p { D with left := n } :: L) := by
  obtain ⟨v1, v2, v3, hS⟩ := IsDisk.open hS
  go_enter Try.func21, Try.ntmps21
  go_wp2_with (refine toList (by rfl) ?_; refine st hS _ _ _ (by rfl) _ _ (by rfl) _ (by first | exact evC | exact evT (by rfl)) (by rfl) (szOf (by rfl)) (by first | exact Has.z | exact Has.s Has.z | exact Has.s (Has.s Has.z) | exact Has.s (Has.s (Has.s Has.z)) | exact Has.s (Has.s (Has.s (Has.s Has.z))) | exact Has.s (Has.s (Has.s (Has.s (Has.s Has.z))))) (by exact Nat.le_of_ble_eq_true rfl) ?_; intro w1 hS1; clear hS; have hS := hS1; clear hS1; dsimp only [List.set] at hS)
  go_ret
  exact ⟨by simp, IsDisk.mk hS⟩
theorem cut_no {W w : World} {L : List Asrt} {p : Nat} {D : DiskS} (_ : Sat W w (IsDisk p D :: L)) (n : Int) (h : n < 0) :
    Calls Try.prog 21 #[.pointer (some ⟨p, 0, none⟩), .int .i64 n] w fun e w' => e = .returned (.bool false) ∧ w = w' := by
  go_enter Try.func21, Try.ntmps21
  go_wp2
  go_ret
  exact ⟨by simp; omega, rfl⟩

theorem read_no {W w : World} {L : List Asrt} {p : Nat} {D : DiskS} (hS : Sat W w (IsDisk p D :: L)) (n : Int) (h : n < 0 ∨ (D.blocks.length : Int) ≤ n) :
    Calls Try.prog 15 #[.pointer (some ⟨p, 0, none⟩), .int .i64 n] w fun e w' => e = .returned (.tuple #[.slice none 0 0, .int .i64 1]) ∧ w = w' := by
  obtain ⟨v1, v2, v3, hS⟩ := IsDisk.open hS
  obtain ⟨ao, c, rfl, _⟩ := hS.tbShape (k := 1) rfl
  by_cases h0 : n < 0
  · go_enter Try.func15, Try.ntmps15
    go_wp2_with (refine toList (by rfl) ?_; refine ld hS _ _ (by rfl) _ _ (by rfl) (agOf (by rfl)) (by first | exact Has.z | exact Has.s Has.z | exact Has.s (Has.s Has.z) | exact Has.s (Has.s (Has.s Has.z)) | exact Has.s (Has.s (Has.s (Has.s Has.z))) | exact Has.s (Has.s (Has.s (Has.s (Has.s Has.z))))) (by rfl) ?_)
    go_ret2
    exact ⟨rfl, rfl⟩
  · have h1 : (D.blocks.length : Int) ≤ n := by omega
    go_enter Try.func15, Try.ntmps15
    go_wp2_with (refine toList (by rfl) ?_; refine ld hS _ _ (by rfl) _ _ (by rfl) (agOf (by rfl)) (by first | exact Has.z | exact Has.s Has.z | exact Has.s (Has.s Has.z) | exact Has.s (Has.s (Has.s Has.z)) | exact Has.s (Has.s (Has.s (Has.s Has.z))) | exact Has.s (Has.s (Has.s (Has.s (Has.s Has.z))))) (by rfl) ?_)
    go_ret2
    exact ⟨rfl, rfl⟩
set_option maxRecDepth 20000 in
set_option maxHeartbeats 2000000 in
theorem read_ok {W w : World} {L : List Asrt} {p : Nat} {D : DiskS} (hS : Sat W w (IsDisk p D :: L)) (n : Nat) (b : List UInt8) (hb : D.blocks[n]? = some b) (hlen : D.blocks.length ≤ 1024) :
    Calls Try.prog 15 #[.pointer (some ⟨p, 0, none⟩), .int .i64 n] w fun e w' => ∃ q, e = .returned (.tuple #[.slice (some ⟨q, 0, none⟩) 128 128, .int .i64 0]) ∧ b.length = 128 ∧ Sat W w' (Cs q 71 (bv b) :: IsDisk p D :: L) := by
  obtain ⟨v1, v2, v3, hS⟩ := IsDisk.open hS
  have hn := (List.getElem?_eq_some_iff.1 hb).1
  obtain ⟨bb, off, c, rfl, _⟩ := hS.tbAddr (k := 1) rfl (by omega)
  have hbl : (bv b).length = 128 := hS.tbLen (k := 1) rfl b (List.mem_of_getElem? hb)
  have i1 : (n : Int) < (D.blocks.length : Int) := by omega
  have i2 : (D.blocks.length : Int) ≤ 1024 := by omega
  go_enter Try.func15, Try.ntmps15
  go_wp2_with (first
    | (refine toList (by rfl) ?_; refine ld hS _ _ (by rfl) _ _ (by rfl) (agOf (by rfl)) (by first | exact Has.z | exact Has.s Has.z | exact Has.s (Has.s Has.z) | exact Has.s (Has.s (Has.s Has.z)) | exact Has.s (Has.s (Has.s (Has.s Has.z))) | exact Has.s (Has.s (Has.s (Has.s (Has.s Has.z))))) (by rfl) ?_)
    | (refine toList (by rfl) ?_; refine ldTbA hS _ _ (by rfl) _ _ (by rfl) (agOf (by rfl)) (szOf (by rfl)) (by first | exact Has.z | exact Has.s Has.z | exact Has.s (Has.s Has.z) | exact Has.s (Has.s (Has.s Has.z)) | exact Has.s (Has.s (Has.s (Has.s Has.z))) | exact Has.s (Has.s (Has.s (Has.s (Has.s Has.z))))) n (by rfl) (by exact hb) ?_)
    | (refine toList (by rfl) ?_; refine al hS _ (by rfl) (zrOf (by rfl)) ?_; intro pb w1 hS1; clear hS; have hS := hS1; clear hS1; rw [cells_agg] at hS)
    | (refine toList (by rfl) ?_; refine stA hS _ _ _ (by rfl) _ _ (by rfl) (bv b) (by rfl) (bv_one b) (by rw [hbl]; exact szOf (by rfl)) Has.z (by rw [hbl]; simp) ?_; intro w1 hS1; clear hS; have hS := hS1; clear hS1; rw [List.set_cons_zero, List.take_zero, List.nil_append, List.drop_eq_nil_of_le (by rw [hbl]; simp), List.append_nil] at hS))
  go_ret2
  exact ⟨_, rfl, by simpa [bv_length] using hbl, (IsDisk.mk (hS.re [1, 2, 3, 4])).pull1⟩
end Go.Proofs.Ytefbkpggmmhgcaa
