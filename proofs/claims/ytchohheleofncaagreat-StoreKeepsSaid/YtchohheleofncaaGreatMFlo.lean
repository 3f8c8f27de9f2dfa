/-
 Floats that are small whole numbers: sums, order, back to integers (plain).
 Floats that are small whole numbers: cut to whole ones, beside the bounds (plain).
 Maps of blocks as bytes (plain).
-/
import Derived.Laws.ComplexArith
set_option linter.unusedSimpArgs false
set_option linter.unusedVariables false
namespace Go.Proofs.YtchohheleofncaaGreat
open Go
set_option linter.unusedSimpArgs false
def fw (n : Nat) : Nat := floatOfInt .f64 (n : Int)
theorem log2_mul_pow (c p : Nat) (h : 0 < c) : (c * 2 ^ p).log2 = c.log2 + p := by
 have h0 : c * 2 ^ p ≠ 0 := Nat.ne_of_gt (Nat.mul_pos h (Nat.pow_pos (by decide)))
 rw [Nat.log2_eq_iff h0]
 have h1 := (Nat.log2_eq_iff (n := c) (k := c.log2) (by omega)).1 rfl
 have h2 : 0 < 2 ^ p := Nat.pow_pos (by decide)
 refine ⟨?_, ?_⟩
 ·rw [Nat.pow_add]; exact Nat.mul_le_mul_right _ h1.1
 ·rw [show c.log2 + p + 1 = (c.log2 + 1) + p by omega, Nat.pow_add]; exact Nat.mul_lt_mul_of_pos_right h1.2 h2
theorem cut_exact (m d : Nat) (hd : d ≤ (m * 2 ^ d).log2 + 2) : Ieee.Toward.even.cut false (m * 2 ^ d) d = m := by
 unfold Ieee.Toward.cut
 have h2 : 0 < 2 ^ d := Nat.pow_pos (by decide)
 rw [Nat.min_eq_left hd, Nat.shiftLeft_eq, Nat.one_mul]
 simp only [Nat.mul_div_cancel _ h2, Nat.mul_mod_left, Nat.mul_zero]
 have e1 : decide (2 ^ d < 0) = false := decide_eq_false (by omega)
 have e2 : (2 ^ d == 0) = false := beq_eq_false_iff_ne.2 (by omega)
 rw [e1, e2]
 rfl
theorem nearest_scaled (c p : Nat) (h : 0 < c) (hl : c.log2 ≤ 52) : Ieee.Format.nearest Ieee.double false (c * 2 ^ p) (-(p : Int)) = Ieee.Format.word Ieee.double false (min ((c.log2 + 1022) * 2 ^ 52 + c * 2 ^ (52 - c.log2)) Ieee.double.infRung) := by
 have hlp : Ieee.double.leastPlace = -1074 := by decide
 have hfb : Ieee.double.fractionBits = 52 := rfl
 have hbi : Ieee.double.binade = 2 ^ 52 := rfl
 have h0 : c * 2 ^ p ≠ 0 := Nat.ne_of_gt (Nat.mul_pos h (Nat.pow_pos (by decide)))
 unfold Ieee.Format.nearest
 rw [if_neg h0, hlp, hfb, log2_mul_pow c p h]
 have e1 : max (-(p : Int) + ((c.log2 + p : Nat) : Int) - ((52 : Nat) : Int)) (-1074) = (c.log2 : Int) - 52 := by omega
 simp only [e1, hbi]
 have e2 : ((c.log2 : Int) - 52 - -1074).toNat = c.log2 + 1022 := by omega
 rw [e2]
 have e3 : Ieee.Toward.even.cut false ((c * 2 ^ p) <<< (-(p : Int) - ((c.log2 : Int) - 52)).toNat) ((c.log2 : Int) - 52 - -(p : Int)).toNat = c * 2 ^ (52 - c.log2) := by
  by_cases hp : p ≤ 52 - c.log2
  ·rw [show (-(p : Int) - ((c.log2 : Int) - 52)).toNat = 52 - c.log2 - p by omega, show ((c.log2 : Int) - 52 - -(p : Int)).toNat = 0 by omega, Nat.shiftLeft_eq, Nat.mul_assoc, ← Nat.pow_add, show p + (52 - c.log2 - p) = 52 - c.log2 by omega]
   have := cut_exact (c * 2 ^ (52 - c.log2)) 0 (by omega)
   rwa [Nat.pow_zero, Nat.mul_one] at this
  ·rw [show (-(p : Int) - ((c.log2 : Int) - 52)).toNat = 0 by omega, show ((c.log2 : Int) - 52 - -(p : Int)).toNat = p - (52 - c.log2) by omega, Nat.shiftLeft_zero, show c * 2 ^ p = (c * 2 ^ (52 - c.log2)) * 2 ^ (p - (52 - c.log2)) by rw [Nat.mul_assoc, ← Nat.pow_add]; congr 2; omega]
   refine cut_exact _ _ ?_
   rw [Nat.mul_assoc, ← Nat.pow_add, log2_mul_pow c _ h]
   omega
 rw [e3]
theorem log_le {n : Nat} (h : n ≤ 1100) : n.log2 ≤ 10 := by
 by_cases h0 : n = 0
 ·subst h0; decide
 ·have := (Nat.log2_lt (k := 11) h0).2 (by omega)
  omega
theorem fw_eq {n : Nat} (h0 : 0 < n) (h : n ≤ 1100) (p : Nat) : Ieee.Format.nearest Ieee.double false (n * 2 ^ p) (-(p : Int)) = fw n := by
 have hl := log_le h
 have e : fw n = Ieee.Format.nearest Ieee.double false (n * 2 ^ 0) (-((0 : Nat) : Int)) := by
  have h1 : decide (((n : Nat) : Int) < 0) = false := decide_eq_false (by omega)
  show Ieee.Format.nearest Ieee.double (decide (((n : Nat) : Int) < 0)) ((n : Nat) : Int).natAbs 0 = _
  rw [h1, Int.natAbs_natCast, Nat.pow_zero, Nat.mul_one]
  rfl
 rw [e, nearest_scaled n p h0 (by omega), nearest_scaled n 0 h0 (by omega)]
def fwRd (n : Nat) : Bool := n == 0 || FloatKind.f64.decode (fw n) == .number false (n * 2 ^ (52 - n.log2)) (n.log2 - 52)
set_option maxRecDepth 100000 in
theorem fwRd_all : (List.range 1101).all fwRd = true := by decide +kernel
def fwI (n : Nat) : Bool := floatToIntVal .f64 (fw n) .i64 == some (n : Int)
set_option maxRecDepth 100000 in
theorem fwI_all : (List.range 1101).all fwI = true := by decide +kernel
theorem fw_read {n : Nat} (h : n ≤ 1100) : ∃ (m : Nat) (i : Int), Ieee.double.read (fw n) = .number false m i ∧ i ≤ 0 ∧ ∀ (b : Int), b ≤ i → m <<< (i - b).toNat = n * 2 ^ (-b).toNat := by
 by_cases h0 : n = 0
 ·subst h0
  refine ⟨0, -1074, by decide, by decide, fun b _ => by simp⟩
 ·have := List.all_eq_true.1 fwRd_all n (List.mem_range.2 (by omega))
  simp only [fwRd, Bool.or_eq_true, beq_iff_eq] at this
  have hl := log_le h
  rcases this with h1 | h1
  ·omega
  ·refine ⟨_, _, h1, by omega, fun b hb => ?_⟩
   rw [Nat.shiftLeft_eq, Nat.mul_assoc, ← Nat.pow_add]
   congr 2
   omega
theorem fw_add {a b : Nat} (h : a + b ≤ 1100) : floatBits .add .f64 (fw a) (fw b) = some (fw (a + b)) := by
 obtain ⟨m, i, h1, hi, h2⟩ := fw_read (n := a) (by omega)
 obtain ⟨n, j, h3, hj, h4⟩ := fw_read (n := b) (by omega)
 show Ieee.Format.add Ieee.double (fw a) (fw b) = _
 unfold Ieee.Format.add
 rw [h1, h3]
 unfold Ieee.Datum.sum
 obtain ⟨base, hbase⟩ : ∃ base : Int, min i j = base := ⟨_, rfl⟩
 obtain ⟨p, hp⟩ : ∃ p : Nat, (p : Int) = -base := ⟨(-base).toNat, by omega⟩
 have hp2 : (-base).toNat = p := by omega
 simp only [hbase, Ieee.signed, Bool.false_eq_true, if_false, Option.map_some, Option.some.injEq]
 rw [h2 base (by omega), h4 base (by omega), hp2]
 have e1 : ((a * 2 ^ p : Nat) : Int) + ((b * 2 ^ p : Nat) : Int) = (((a + b) * 2 ^ p : Nat) : Int) := by rw [Nat.add_mul]; omega
 rw [e1, Int.natAbs_natCast]
 have hb2 : base = -(p : Int) := by omega
 rw [hb2]
 by_cases hz : a + b = 0
 ·rw [hz]
  simp only [Nat.zero_mul]
  rw [if_pos (by rfl)]
  show Ieee.Format.nearest Ieee.double _ 0 _ = _
  unfold Ieee.Format.nearest
  rw [if_pos rfl]
  decide
 ·have hpos : 0 < (a + b) * 2 ^ p := Nat.mul_pos (by omega) (Nat.pow_pos (by decide))
  have e2 : ¬ ((((a + b) * 2 ^ p : Nat) : Int) = 0) := by omega
  have e3 : decide ((((a + b) * 2 ^ p : Nat) : Int) < 0) = false := decide_eq_false (by omega)
  rw [if_neg e2, e3]
  exact fw_eq (by omega) h p
theorem fw_order {a b : Nat} (ha : a ≤ 1100) (hb : b ≤ 1100) : FloatKind.f64.format.order (fw a) (fw b) = some (compare a b) := by
 obtain ⟨m, i, h1, hi, h2⟩ := fw_read ha
 obtain ⟨n, j, h3, hj, h4⟩ := fw_read hb
 show Ieee.Format.order Ieee.double (fw a) (fw b) = _
 unfold Ieee.Format.order
 rw [h1, h3]
 unfold Ieee.Datum.order
 obtain ⟨base, hbase⟩ : ∃ base : Int, min i j = base := ⟨_, rfl⟩
 simp only [hbase, Ieee.signed, Bool.false_eq_true, if_false, Option.some.injEq]
 rw [h2 base (by omega), h4 base (by omega)]
 have h5 : 0 < 2 ^ (-base).toNat := Nat.pow_pos (by decide)
 rcases Nat.lt_trichotomy a b with h | h | h
 ·rw [Nat.compare_eq_lt.2 h, Int.compare_eq_lt.2 (by exact_mod_cast Nat.mul_lt_mul_of_pos_right h h5)]
 ·subst h; rw [Nat.compare_eq_eq.2 rfl, Int.compare_eq_eq.2 rfl]
 ·rw [Nat.compare_eq_gt.2 h, Int.compare_eq_gt.2 (by exact_mod_cast Nat.mul_lt_mul_of_pos_right h h5)]
theorem fw_int {n : Nat} (h : n ≤ 1100) : floatToIntVal .f64 (fw n) .i64 = some (n : Int) := by
 have := List.all_eq_true.1 fwI_all n (List.mem_range.2 (by omega))
 simpa [fwI] using this
end Go.Proofs.YtchohheleofncaaGreat
namespace Go.Proofs.YtchohheleofncaaGreat
open Go
def fwT (n : Nat) : Bool := FloatKind.f64.encode ((FloatKind.f64.decode (fw n)).integral .zero) == fw n
set_option maxRecDepth 100000 in
theorem fwT_all : (List.range 1101).all fwT = true := by decide +kernel
def fwC (n : Nat) : Bool := FloatKind.f64.format.order (fw n) 13943144446339055616 == some .gt && FloatKind.f64.format.order (fw n) 4719772409484279808 == some .lt
set_option maxRecDepth 100000 in
theorem fwC_all : (List.range 1101).all fwC = true := by decide +kernel
theorem fw_zero : fw 0 = 0 := by decide
theorem fw_one : fw 1 = 4607182418800017408 := by decide
theorem fw_cut {n : Nat} (h : n ≤ 1100) : FloatKind.f64.encode ((FloatKind.f64.decode (fw n)).integral .zero) = fw n := by
 have := List.all_eq_true.1 fwT_all n (List.mem_range.2 (by omega))
 simpa [fwT] using this
theorem fw_lo {n : Nat} (h : n ≤ 1100) : FloatKind.f64.format.order (fw n) 13943144446339055616 = some .gt := by
 have := List.all_eq_true.1 fwC_all n (List.mem_range.2 (by omega))
 simp only [fwC, Bool.and_eq_true, beq_iff_eq] at this
 exact this.1
theorem fw_hi {n : Nat} (h : n ≤ 1100) : FloatKind.f64.format.order (fw n) 4719772409484279808 = some .lt := by
 have := List.all_eq_true.1 fwC_all n (List.mem_range.2 (by omega))
 simp only [fwC, Bool.and_eq_true, beq_iff_eq] at this
 exact this.2
theorem fw_num {n : Nat} (h : n ≤ 1100) : ∃ (m : Nat) (i : Int), FloatKind.f64.decode (fw n) = .number false m i := by
 obtain ⟨m, i, h1, _⟩ := fw_read h
 exact ⟨m, i, h1⟩
theorem fw_self {n : Nat} (h : n ≤ 1100) : FloatKind.f64.format.order (fw n) (fw n) = some .eq := by
 rw [fw_order h h, Nat.compare_eq_eq.2 rfl]
theorem fw_ge {n m : Nat} (h : n ≤ 1100) (hm : m ≤ 1100) (hle : m ≤ n) : (FloatKind.f64.format.order (fw n) (fw m) == some .gt || FloatKind.f64.format.order (fw n) (fw m) == some .eq) = true := by
 rw [fw_order h hm]
 rcases Nat.lt_or_eq_of_le hle with h1 | h1
 ·rw [Nat.compare_eq_gt.2 h1]; rfl
 ·rw [Nat.compare_eq_eq.2 h1.symm]; rfl
theorem fw_nge {n m : Nat} (h : n ≤ 1100) (hm : m ≤ 1100) (hle : n < m) : (FloatKind.f64.format.order (fw n) (fw m) == some .gt || FloatKind.f64.format.order (fw n) (fw m) == some .eq) = false := by
 rw [fw_order h hm, Nat.compare_eq_lt.2 hle]; rfl
end Go.Proofs.YtchohheleofncaaGreat
namespace Go.Proofs.YtchohheleofncaaGreat
open Go
def byte8 (b0 b1 b2 b3 b4 b5 b6 b7 : Bool) : Nat := b0.toNat + 2 * b1.toNat + 4 * b2.toNat + 8 * b3.toNat + 16 * b4.toNat + 32 * b5.toNat + 64 * b6.toNat + 128 * b7.toNat
def byteN (f : Nat → Bool) : Nat := byte8 (f 0) (f 1) (f 2) (f 3) (f 4) (f 5) (f 6) (f 7)
theorem byte8_lt : ∀ b0 b1 b2 b3 b4 b5 b6 b7, byte8 b0 b1 b2 b3 b4 b5 b6 b7 < 256 := by decide
theorem byteN_lt (f : Nat → Bool) : byteN f < 256 := byte8_lt ..
theorem byte8_bit : ∀ b0 b1 b2 b3 b4 b5 b6 b7, (byte8 b0 b1 b2 b3 b4 b5 b6 b7 / 1 % 2 = b0.toNat) ∧ (byte8 b0 b1 b2 b3 b4 b5 b6 b7 / 2 % 2 = b1.toNat) ∧ (byte8 b0 b1 b2 b3 b4 b5 b6 b7 / 4 % 2 = b2.toNat) ∧ (byte8 b0 b1 b2 b3 b4 b5 b6 b7 / 8 % 2 = b3.toNat) ∧
  (byte8 b0 b1 b2 b3 b4 b5 b6 b7 / 16 % 2 = b4.toNat) ∧ (byte8 b0 b1 b2 b3 b4 b5 b6 b7 / 32 % 2 = b5.toNat) ∧ (byte8 b0 b1 b2 b3 b4 b5 b6 b7 / 64 % 2 = b6.toNat) ∧ (byte8 b0 b1 b2 b3 b4 b5 b6 b7 / 128 % 2 = b7.toNat) := by decide
theorem byteN_bit (f : Nat → Bool) {j : Nat} (h : j < 8) : byteN f / 2 ^ j % 2 = (f j).toNat := by
 have := byte8_bit (f 0) (f 1) (f 2) (f 3) (f 4) (f 5) (f 6) (f 7)
 unfold byteN
 match j, h with
 | 0, _ => exact this.1
 | 1, _ => exact this.2.1
 | 2, _ => exact this.2.2.1
 | 3, _ => exact this.2.2.2.1
 | 4, _ => exact this.2.2.2.2.1
 | 5, _ => exact this.2.2.2.2.2.1
 | 6, _ => exact this.2.2.2.2.2.2.1
 | 7, _ => exact this.2.2.2.2.2.2.2
def upd (S : Nat → Bool) (n : Nat) (u : Bool) : Nat → Bool := fun k => if k = n then u else S k
def mapB (S : Nat → Bool) : List UInt8 := (List.range 128).map fun i => UInt8.ofNat (byteN fun j => S (8 * i + j))
theorem mapB_len (S : Nat → Bool) : (mapB S).length = 128 := by simp [mapB]
theorem mapB_at (S : Nat → Bool) {i : Nat} (h : i < 128) : (mapB S)[i]? = some (UInt8.ofNat (byteN fun j => S (8 * i + j))) := by
 simp [mapB, h]
theorem mapB_congr {S T : Nat → Bool} (h : ∀ n, n < 1024 → S n = T n) : mapB S = mapB T := by
 unfold mapB
 apply List.map_congr_left
 intro i hi
 have hi := List.mem_range.1 hi
 congr 1
 unfold byteN
 congr 1 <;> exact h _ (by omega)
theorem byteN_congr {f g : Nat → Bool} (h : ∀ j, j < 8 → f j = g j) : byteN f = byteN g := by
 unfold byteN
 congr 1 <;> exact h _ (by omega)
theorem mapB_upd (S : Nat → Bool) {n : Nat} (u : Bool) (h : n < 1024) : mapB (upd S n u) = (mapB S).set (n / 8) (UInt8.ofNat (byteN (upd (fun j => S (8 * (n / 8) + j)) (n % 8) u))) := by
 apply List.ext_getElem?
 intro i
 by_cases hi : i < 128
 ·rw [mapB_at _ hi, List.getElem?_set, mapB_len]
  by_cases hq : n / 8 = i
  ·subst hq
   rw [if_pos rfl, if_pos hi]
   congr 2
   apply byteN_congr
   intro j hj
   unfold upd
   by_cases hk : j = n % 8
   ·subst hk
    rw [if_pos rfl, if_pos (by omega)]
   ·rw [if_neg hk, if_neg (by omega)]
  ·rw [if_neg hq, mapB_at _ hi]
   congr 2
   apply byteN_congr
   intro j hj
   unfold upd
   rw [if_neg (by omega)]
 ·rw [List.getElem?_eq_none (by rw [mapB_len]; omega), List.getElem?_eq_none (by rw [List.length_set, mapB_len]; omega)]
def freeL (S : Nat → Bool) (n : Nat) : List Nat := (List.range n).filter fun k => !S k
theorem freeL_succ (S : Nat → Bool) (n : Nat) : freeL S (n + 1) = freeL S n ++ (if S n then [] else [n]) := by
 unfold freeL
 rw [List.range_succ, List.filter_append]
 cases h : S n <;> simp [h]
end Go.Proofs.YtchohheleofncaaGreat
