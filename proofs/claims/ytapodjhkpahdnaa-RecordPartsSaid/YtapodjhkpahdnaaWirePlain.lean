/-
  Numbers in so many bytes: the plain part.
-/
import Derived.Test.YtapodjhkpahdnaaSepSl
import Derived.WalkKit
namespace Go.Proofs.Ytapodjhkpahdnaa
open Go.Sep

/-- The i-th byte of a number. -/
def lb (v : Int) (i : Nat) : UInt8 := UInt8.ofNat ((v / 256 ^ i) % 256).toNat
def le (v : Int) (n : Nat) : List UInt8 := (List.range n).map (lb v)
/-- The number of so many bytes. -/
def un : List UInt8 → Nat
  | [] => 0
  | b :: l => b.toNat + 256 * un l
theorem le_length (v : Int) (n : Nat) : (le v n).length = n := by simp [le]
theorem le_zero (v : Int) : le v 0 = [] := rfl
theorem le_succ (v : Int) (n : Nat) : le v (n + 1) = le v n ++ [lb v n] := by simp [le, List.range_succ]
theorem lb_toNat (v : Int) (i : Nat) : ((lb v i).toNat : Int) = (v / 256 ^ i) % 256 := by
  have h1 := Int.emod_nonneg (v / 256 ^ i) (show (256 : Int) ≠ 0 by decide)
  have h2 := Int.emod_lt_of_pos (v / 256 ^ i) (show (0 : Int) < 256 by decide)
  unfold lb
  rw [UInt8.toNat_ofNat_of_lt' (by show _ < 256; omega)]
  omega
theorem lb_zero (v : Int) : ((lb v 0).toNat : Int) = v % 256 := by rw [lb_toNat]; simp
theorem lb_succ (v : Int) (i : Nat) : lb v (i + 1) = lb (v / 256) i := by
  unfold lb
  rw [Int.pow_succ, Int.mul_comm, Int.ediv_ediv_of_nonneg (by decide)]
theorem le_cons (v : Int) (n : Nat) : le v (n + 1) = lb v 0 :: le (v / 256) n := by
  unfold le
  rw [List.range_succ_eq_map, List.map_cons, List.map_map]
  congr 1
  apply List.map_congr_left
  intro i _
  exact lb_succ v i
theorem un_le : ∀ (n : Nat) (v : Nat), v < 256 ^ n → un (le v n) = v
  | 0, v, h => by simp at h; subst h; rfl
  | n + 1, v, h => by
    rw [le_cons, un]
    have h0 : (lb v 0).toNat = v % 256 := by have := lb_zero (v : Int); omega
    have h1 : ((v : Int) / 256) = ((v / 256 : Nat) : Int) := by omega
    rw [h1, un_le n (v / 256) (by rw [Nat.pow_succ] at h; omega), h0]
    omega
theorem un_lt : ∀ (l : List UInt8), un l < 256 ^ l.length
  | [] => by simp [un]
  | b :: l => by
    have := un_lt l
    have hb := b.toNat_lt
    rw [un, List.length_cons, Nat.pow_succ]
    omega
theorem le_un : ∀ (l : List UInt8), le (un l) l.length = l
  | [] => rfl
  | b :: l => by
    have hb := b.toNat_lt
    rw [List.length_cons, le_cons]
    have h1 : ((un (b :: l) : Nat) : Int) / 256 = ((un l : Nat) : Int) := by rw [un]; omega
    have h2 : lb (un (b :: l) : Nat) 0 = b := by
      have h3 := lb_zero ((un (b :: l) : Nat) : Int)
      have h4 : (lb ((un (b :: l) : Nat) : Int) 0).toNat = b.toNat := by rw [un] at h3 ⊢; omega
      exact UInt8.toNat_inj.1 h4
    rw [h1, h2, le_un l]
theorem i64_or_nat (a b : Nat) (ha : a < 9223372036854775808) (hb : b < 9223372036854775808) : bits .or .i64 (a : Int) (b : Int) = ((a ||| b : Nat) : Int) := by
  have hx : a ||| b < 2 ^ 63 := Nat.or_lt_two_pow (by omega) (by omega)
  show IntKind.i64.wrap ((BitVec.ofInt 64 (a : Int) ||| BitVec.ofInt 64 (b : Int)).toNat : Int) = _
  have e : ∀ n : Nat, n < 9223372036854775808 → (BitVec.ofInt 64 (n : Int)).toNat = n := fun n hn => by
    rw [BitVec.ofInt_natCast, BitVec.toNat_ofNat]; exact Nat.mod_eq_of_lt (by omega)
  rw [BitVec.toNat_or, e a ha, e b hb, IntWalk.i64_in _ (by omega)]
theorem pow_256 (k : Nat) : 256 ^ k = 2 ^ (8 * k) := by rw [Nat.pow_mul]
theorem pow_le7 {k : Nat} (h : k < 7) : 256 ^ k ≤ 281474976710656 := by
  have : 256 ^ k ≤ 256 ^ 6 := Nat.pow_le_pow_right (by decide) (by omega)
  omega
open RowKit in
theorem get_step (u k : Nat) (b : UInt8) (hk : k < 7) (hu : u < 256 ^ k) : bits .or .i64 (u : Int) (wrap64 (wrap64 (b.toNat : Int) * 2 ^ (8 * k))) = ((u + b.toNat * 256 ^ k : Nat) : Int) := by
  have hb := b.toNat_lt
  have hp := pow_le7 hk
  have hm : b.toNat * 256 ^ k ≤ 255 * 281474976710656 := Nat.mul_le_mul (by omega) hp
  have e1 : wrap64 (b.toNat : Int) = (b.toNat : Int) := IntWalk.wrap64_in _ (by omega)
  have e2 : (b.toNat : Int) * 2 ^ (8 * k) = ((b.toNat * 256 ^ k : Nat) : Int) := by rw [pow_256]; simp
  rw [e1, e2, IntWalk.wrap64_in _ (by omega), i64_or_nat _ _ (by omega) (by omega), Nat.or_comm]
  rw [nat_join (8 * k) _ _ (by rw [pow_256]; exact Nat.mul_mod_left _ _) (by rw [← pow_256]; exact hu)]
  congr 1
  omega
end Go.Proofs.Ytapodjhkpahdnaa
