/-
 Numbers in so many bytes: the plain part.
 Package wire: contracts of Put, Get, Pad.
-/
import Derived.Test.YtchohheleofncaaGreatMSep
import Derived.WalkKit
import Derived.Test.YtchohheleofncaaGreatTypes
import Derived.Test.YtchohheleofncaaGreatMReg
import Derived.Lib.Hide
set_option linter.unusedSimpArgs false
set_option linter.unusedVariables false
namespace Go.Proofs.YtchohheleofncaaGreat
open Go.Sep

def lb (v : Int) (i : Nat) : UInt8 := UInt8.ofNat ((v / 256 ^ i) % 256).toNat
def le (v : Int) (n : Nat) : List UInt8 := (List.range n).map (lb v)
def un : List UInt8 → Nat
 | [] => 0
 | b :: l => b.toNat + 256 * un l
theorem le_length (v : Int) (n : Nat) : (le v n).length = n := by simp [le]
theorem le_zero (v : Int) : le v 0 = [] := rfl
theorem le_succ (v : Int) (n : Nat) : le v (n + 1) = le v n ++ [lb v n] := by simp [le, List.range_succ]
theorem lb_toNat (v : Int) (i : Nat) : ((lb v i).toNat : Int) = (v / 256 ^ i) % 256 := by
 have h1 := Int.emod_nonneg (v / 256 ^ i) (show (256 : Int) ≠ 0 by decide)
 have h2 := Int.emod_lt_of_pos (v / 256 ^ i) (show (0 : Int) < 256 by decide)
 unfold lb
 rw [UInt8.toNat_ofNat_of_lt' (by show _ < 256; omega)]
 omega
theorem lb_zero (v : Int) : ((lb v 0).toNat : Int) = v % 256 := by rw [lb_toNat]; simp
theorem lb_succ (v : Int) (i : Nat) : lb v (i + 1) = lb (v / 256) i := by
 unfold lb
 rw [Int.pow_succ, Int.mul_comm, Int.ediv_ediv_of_nonneg (by decide)]
theorem le_cons (v : Int) (n : Nat) : le v (n + 1) = lb v 0 :: le (v / 256) n := by
 unfold le
 rw [List.range_succ_eq_map, List.map_cons, List.map_map]
 congr 1
 apply List.map_congr_left
 intro i _
 exact lb_succ v i
theorem un_le : ∀ (n : Nat) (v : Nat), v < 256 ^ n → un (le v n) = v
 | 0, v, h => by simp at h; subst h; rfl
 | n + 1, v, h => by
  rw [le_cons, un]
  have h0 : (lb v 0).toNat = v % 256 := by have := lb_zero (v : Int); omega
  have h1 : ((v : Int) / 256) = ((v / 256 : Nat) : Int) := by omega
  rw [h1, un_le n (v / 256) (by rw [Nat.pow_succ] at h; omega), h0]
  omega
theorem un_lt : ∀ (l : List UInt8), un l < 256 ^ l.length
 | [] => by simp [un]
 | b :: l => by
  have := un_lt l
  have hb := b.toNat_lt
  rw [un, List.length_cons, Nat.pow_succ]
  omega
theorem i64_or_nat (a b : Nat) (ha : a < 9223372036854775808) (hb : b < 9223372036854775808) : bits .or .i64 (a : Int) (b : Int) = ((a ||| b : Nat) : Int) := by
 have hx : a ||| b < 2 ^ 63 := Nat.or_lt_two_pow (by omega) (by omega)
 show IntKind.i64.wrap ((BitVec.ofInt 64 (a : Int) ||| BitVec.ofInt 64 (b : Int)).toNat : Int) = _
 have e : ∀ n : Nat, n < 9223372036854775808 → (BitVec.ofInt 64 (n : Int)).toNat = n := fun n hn => by
  rw [BitVec.ofInt_natCast, BitVec.toNat_ofNat]; exact Nat.mod_eq_of_lt (by omega)
 rw [BitVec.toNat_or, e a ha, e b hb, IntWalk.i64_in _ (by omega)]
theorem pow_256 (k : Nat) : 256 ^ k = 2 ^ (8 * k) := by rw [Nat.pow_mul]
theorem pow_le7 {k : Nat} (h : k < 7) : 256 ^ k ≤ 281474976710656 := by
 have : 256 ^ k ≤ 256 ^ 6 := Nat.pow_le_pow_right (by decide) (by omega)
 omega
open RowKit in
theorem get_step (u k : Nat) (b : UInt8) (hk : k < 7) (hu : u < 256 ^ k) : bits .or .i64 (u : Int) (wrap64 (wrap64 (b.toNat : Int) * 2 ^ (8 * k))) = ((u + b.toNat * 256 ^ k : Nat) : Int) := by
 have hb := b.toNat_lt
 have hp := pow_le7 hk
 have hm : b.toNat * 256 ^ k ≤ 255 * 281474976710656 := Nat.mul_le_mul (by omega) hp
 have e1 : wrap64 (b.toNat : Int) = (b.toNat : Int) := IntWalk.wrap64_in _ (by omega)
 have e2 : (b.toNat : Int) * 2 ^ (8 * k) = ((b.toNat * 256 ^ k : Nat) : Int) := by rw [pow_256]; simp
 rw [e1, e2, IntWalk.wrap64_in _ (by omega), i64_or_nat _ _ (by omega) (by omega), Nat.or_comm]
 rw [nat_join (8 * k) _ _ (by rw [pow_256]; exact Nat.mul_mod_left _ _) (by rw [← pow_256]; exact hu)]
 congr 1
 omega

end Go.Proofs.YtchohheleofncaaGreat
namespace Go.Proofs.YtchohheleofncaaGreat
open Go.RowKit Go.Sep
attribute [local irreducible] Go.Oper.wp Go.wpList Go.Calls Go.Code.wp Go.Sep.Reg

theorem le_snoc (l : List UInt8) (x : Int) (k : Nat) : (l ++ le x k) ++ [lb x k] = l ++ le x (k + 1) := by rw [List.append_assoc, ← le_succ]
theorem lb_val (x : Int) (k : Nat) : Value.int .u8 (x / 2 ^ (8 * k) % 256) = u8 (lb x k) := by
 unfold u8
 rw [lb_toNat, Int.pow_mul]
 rfl
theorem bv_snoc (l : List UInt8) (b : UInt8) : bv l ++ [u8 b] = bv (l ++ [b]) := by simp [bv]
theorem len_snoc (l : List UInt8) (b : UInt8) : l.length + 1 = (l ++ [b]).length := by simp
set_option maxRecDepth 20000 in
set_option maxHeartbeats 1000000 in
theorem put_any {W w : World} {L : List Asrt} {v : Value} {l : List UInt8} (hS : Sat W w (Sl 5 1 v l.length (bv l) :: L)) (x : Int) (hx1 : -9223372036854775808 ≤ x) (hx2 : x ≤ 9223372036854775807) (n : Nat) (hn0 : 0 < n) (hn : n ≤ 8) (hl : l.length ≤ 1000000) :
  Calls Tryz.prog 84 #[v, .int .i64 x, .int .i64 n] w fun e w' => ∃ v', e = .returned v' ∧ Sat W w' (Sl 5 1 v' (l ++ le x n).length (bv (l ++ le x n)) :: L) := by
 have i1 : (n : Int) ≤ 8 := by omega
 have i2 : (0 : Int) < (n : Int) := by omega
 rcases hS.slCases (k := 0) rfl with ⟨rfl, hl0, _⟩ | ⟨b, off, c, rfl, hc1, hc2⟩
 ·obtain rfl : l = [] := List.eq_nil_of_length_eq_zero hl0
  clear hl0
  have H0 : Hid (Sat W w (Sl 5 1 (.slice none 0 0) (([] : List UInt8) ++ le x 0).length (bv ([] ++ le x 0)) :: L)) := Lib.hid hS
  go_enter Tryz.func84, Tryz.ntmps84
  go_wp2
  go_loopw [17, 0] (fun vi vb wz => ∃ k : Nat, k ≤ n ∧ vi = .int .i64 k ∧ Sat W wz (Sl 5 1 vb (([] : List UInt8) ++ le x k).length (bv (([] : List UInt8) ++ le x k)) :: L)) (fun vi _ _ => n - (intOf vi).toNat)
  case atStart => exact ⟨0, by omega, rfl, H0.out⟩
  case round =>
   clear H0 hS
   obtain ⟨k, hk, rfl, hS⟩ := hrel
   by_cases hlt : k < n
   ·have j1 : (k : Int) < (n : Int) := by omega
    have j2 : (k : Int) < 8 := by omega
    have hln : (([] : List UInt8) ++ le x k).length ≤ 1000008 := by simp [le_length]; omega
    have HV := Lib.hid (lb_val x k)
    go_wp2_with (first
     | (refine toList (by rfl) ?_; refine bsF hS _ _ _ (by rfl) (elOf (by rfl)) [.int .u8 (x / 2 ^ (8 * k) % 256)] (by rfl) (by rfl) (by decide) (by decide) (by simp [Value.cells]) ?_; clear hS; intro b1 w1 hS; rw [sca1 rfl, HV.out] at hS)
     | (at_builtin; refine toList (by rfl) ?_; refine ap hS _ _ _ _ (by rfl) _ _ (by rfl) (by rfl) (elOf (by rfl)) (by rfl) (by decide) (inOf (by rfl)) (Has.s Has.z) (m := 1) (by exact .inl (hS.csRd0 (sz := 1) Has.z (by decide) rfl)) (by simp [u8, Value.oneCell']) (by omega) (by omega) ?_; clear hS; intro v2 w1 hS; rw [bv_snoc, len_snoc _ (lb x k), le_snoc] at hS; dsimp only [List.set_cons_zero, List.set_cons_succ] at hS))
    exact ⟨⟨k + 1, by omega, by go_num, hS.drop⟩, by simp [intOf]; omega⟩
   ·obtain rfl : k = n := by omega
    go_wp2
    go_ret
    exact ⟨_, rfl, hS⟩
 ·have H0 : Hid (Sat W w (Sl 5 1 (.slice (some ⟨b, off, none⟩) l.length l.length) (l ++ le x 0).length (bv (l ++ le x 0)) :: L)) := Lib.hid (by rw [le_zero, List.append_nil]; exact hS.slClip)
  go_enter Tryz.func84, Tryz.ntmps84
  go_wp2
  go_loopw [17, 0] (fun vi vb wz => ∃ k : Nat, k ≤ n ∧ vi = .int .i64 k ∧ Sat W wz (Sl 5 1 vb (l ++ le x k).length (bv (l ++ le x k)) :: L)) (fun vi _ _ => n - (intOf vi).toNat)
  case atStart => exact ⟨0, by omega, rfl, H0.out⟩
  case round =>
   clear H0 hS
   obtain ⟨k, hk, rfl, hS⟩ := hrel
   by_cases hlt : k < n
   ·have j1 : (k : Int) < (n : Int) := by omega
    have j2 : (k : Int) < 8 := by omega
    have hln : (l ++ le x k).length ≤ 1000008 := by simp [le_length]; omega
    have HV := Lib.hid (lb_val x k)
    go_wp2_with (first
     | (refine toList (by rfl) ?_; refine bsF hS _ _ _ (by rfl) (elOf (by rfl)) [.int .u8 (x / 2 ^ (8 * k) % 256)] (by rfl) (by rfl) (by decide) (by decide) (by simp [Value.cells]) ?_; clear hS; intro b1 w1 hS; rw [sca1 rfl, HV.out] at hS)
     | (at_builtin; refine toList (by rfl) ?_; refine ap hS _ _ _ _ (by rfl) _ _ (by rfl) (by rfl) (elOf (by rfl)) (by rfl) (by decide) (inOf (by rfl)) (Has.s Has.z) (m := 1) (by exact .inl (hS.csRd0 (sz := 1) Has.z (by decide) rfl)) (by simp [u8, Value.oneCell']) (by omega) (by omega) ?_; clear hS; intro v2 w1 hS; rw [bv_snoc, len_snoc _ (lb x k), le_snoc] at hS; dsimp only [List.set_cons_zero, List.set_cons_succ] at hS))
    exact ⟨⟨k + 1, by omega, by go_num, hS.drop⟩, by simp [intOf]; omega⟩
   ·obtain rfl : k = n := by omega
    go_wp2
    go_ret
    exact ⟨_, rfl, hS⟩
def padTo (l : List UInt8) (n : Nat) : List UInt8 := l ++ List.replicate (n - l.length) 0
theorem padTo_length {l : List UInt8} {n : Nat} (h : l.length ≤ n) : (padTo l n).length = n := by simp [padTo]; omega
set_option maxRecDepth 20000 in
theorem pad_any {W w : World} {L : List Asrt} {v : Value} {l : List UInt8} (hS : Sat W w (Sl 5 1 v l.length (bv l) :: L)) (n : Nat) (hl : l.length ≤ n) (hn : n ≤ 1000000) :
  Calls Tryz.prog 85 #[v, .int .i64 n] w fun e w' => ∃ v', e = .returned (.tuple #[v', .bool true]) ∧ Sat W w' (Sl 5 1 v' n (bv (padTo l n)) :: L) := by
 have i1 : (l.length : Int) ≤ (n : Int) := by omega
 have i2 : (n : Int) ≤ 1000000 := by omega
 have HN := Lib.hid (show (n : Int) - (l.length : Int) = ((n - l.length : Nat) : Int) by omega)
 have HM := Lib.hid (show l.length + (n - l.length) = n by omega)
 rcases hS.slCases (k := 0) rfl with ⟨rfl, hl0, _⟩ | ⟨b, off, c, rfl, hc1, hc2⟩
 ·obtain rfl : l = [] := List.eq_nil_of_length_eq_zero hl0
  clear hl0 HN HM
  have i3 : (0 : Int) ≤ (n : Int) := by omega
  go_enter Tryz.func85, Tryz.ntmps85
  go_wp2_with (refine toList (by rfl) ?_; refine apZ (l := []) hS _ _ _ _ (by rfl) (by rfl) (m := n) (by rfl) (elOf (by rfl)) (inOf (by rfl)) (inOf (by rfl)) Has.z (by simp; omega) ?_; clear hS; intro v2 w1 hS; dsimp only [List.set_cons_zero] at hS)
  go_ret2
  exact ⟨_, rfl, by simpa [padTo] using hS⟩
 ·have hS := hS.slClip
  go_enter Tryz.func85, Tryz.ntmps85
  go_wp2_with (refine toList (by rfl) ?_; refine apZ hS _ _ _ _ (by rfl) (by rfl) (m := n - l.length) (by rw [← HN.out]; rfl) (elOf (by rfl)) (inOf (by rfl)) (inOf (by rfl)) Has.z (by rw [HM.out]; omega) ?_; clear hS; intro v2 w1 hS; rw [HM.out] at hS; dsimp only [List.set_cons_zero] at hS)
  go_ret2
  exact ⟨_, rfl, hS⟩
theorem un_take_succ (l : List UInt8) (k : Nat) (h : k < l.length) : un (l.take (k + 1)) = un (l.take k) + (l[k]).toNat * 256 ^ k := by
 induction l generalizing k with
 | nil => simp at h
 | cons b l ih =>
  cases k with
  | zero => simp [un]
  | succ k =>
   simp only [List.length_cons] at h
   rw [List.take_succ_cons, un, ih k (by omega), List.take_succ_cons, un]
   simp only [List.getElem_cons_succ]
   rw [Nat.pow_succ]
   have e : 256 * ((l[k]'(by omega)).toNat * 256 ^ k) = (l[k]'(by omega)).toNat * (256 ^ k * 256) := by
    rw [Nat.mul_comm 256, Nat.mul_assoc]
   omega
set_option maxRecDepth 20000 in
theorem get_no (w : World) (ao : Option Addr) (m c : Nat) (at_ n : Int) (h : n < 1 ∨ 7 < n ∨ at_ < 0 ∨ (m : Int) < at_ ∨ (m : Int) - at_ < n) (hm : (m : Int) ≤ 9223372036854775807) :
  Calls Tryz.prog 89 #[.slice ao m c, .int .i64 at_, .int .i64 n] w fun e w' => e = .returned (.tuple #[.int .i64 0, .bool false]) ∧ w = w' := by
 by_cases h1 : n < 1
 ·go_enter Tryz.func89, Tryz.ntmps89
  go_wp2
  go_ret2
  exact ⟨rfl, rfl⟩
 by_cases h2 : 7 < n
 ·have g1 : 1 ≤ n := by omega
  clear h h1
  go_enter Tryz.func89, Tryz.ntmps89
  go_wp2
  go_ret2
  exact ⟨rfl, rfl⟩
 by_cases h3 : at_ < 0
 ·have g1 : 1 ≤ n := by omega
  have g2 : n ≤ 7 := by omega
  clear h h1 h2
  go_enter Tryz.func89, Tryz.ntmps89
  go_wp2
  go_ret2
  exact ⟨rfl, rfl⟩
 obtain ⟨t, rfl⟩ := Int.eq_ofNat_of_zero_le (show 0 ≤ at_ by omega)
 by_cases h4 : (m : Int) < (t : Int)
 ·have g1 : 1 ≤ n := by omega
  have g2 : n ≤ 7 := by omega
  clear h h1 h2 h3
  go_enter Tryz.func89, Tryz.ntmps89
  go_wp2
  go_ret2
  exact ⟨rfl, rfl⟩
 ·have g1 : 1 ≤ n := by omega
  have g2 : n ≤ 7 := by omega
  have g3 : (t : Int) ≤ (m : Int) := by omega
  have g4 : (m : Int) - (t : Int) < n := by omega
  clear h h1 h2 h3 h4
  go_enter Tryz.func89, Tryz.ntmps89
  go_wp2
  go_ret2
  exact ⟨rfl, rfl⟩
set_option maxRecDepth 20000 in
set_option maxHeartbeats 1000000 in
theorem get_ok {W w : World} {L : List Asrt} (hS : Sat W w L) (ao : Option Addr) (c : Nat) (l : List UInt8) (hr : ∀ w, Sat W w L → Rd w (.slice ao l.length c) l.length 1 (bv l)) (t n : Nat) (hn : 1 ≤ n) (hn2 : n ≤ 7) (ht : t + n ≤ l.length) (hl : l.length ≤ 140737488355328) :
  Calls Tryz.prog 89 #[.slice ao l.length c, .int .i64 t, .int .i64 n] w fun e w' => e = .returned (.tuple #[.int .i64 (un ((l.drop t).take n) : Nat), .bool true]) ∧ w = w' := by
 have h0 := hr w hS
 obtain ⟨ao', c', he, hc1, hc2, _, h5⟩ := h0
 simp only [Value.slice.injEq, true_and] at he
 obtain ⟨rfl, rfl⟩ := he
 obtain ⟨b, off, rfl, hcell⟩ := h5 (by omega)
 have HC := Lib.hid hcell
 clear hcell h5
 have i1 : (1 : Int) ≤ (n : Int) := by omega
 have i2 : (n : Int) ≤ 7 := by omega
 have i3 : (t : Int) ≤ (l.length : Int) := by omega
 have i4 : (n : Int) ≤ (l.length : Int) - (t : Int) := by omega
 have i5 : (l.length : Int) ≤ 140737488355328 := by omega
 have i6 : (t : Int) + (n : Int) ≤ (c : Int) := by omega
 go_enter Tryz.func89, Tryz.ntmps89
 go_wp2
 go_loop [42, 8] (fun vi vv => ∃ k : Nat, k ≤ n ∧ vi = .int .i64 k ∧ vv = .int .i64 (un ((l.drop t).take k) : Nat)) (fun vi _ => n - (intOf vi).toNat)
 case atStart => exact ⟨0, by omega, rfl, rfl⟩
 case round =>
  obtain ⟨k, hk, rfl, rfl⟩ := hrel
  by_cases hlt : k < n
  ·have j1 : (k : Int) < (n : Int) := by omega
   have j2 : k < t + n - t := by omega
   have j3 : (k : Int) < 7 := by omega
   have hcl : W.cell? ⟨0, 0, none⟩ = W.cell? ⟨0, 0, none⟩ := rfl
   clear hcl
   have hx : (bv l)[t + k]? = some (u8 (l[t + k]'(by omega))) := by simp only [bv, List.getElem?_map]; rw [List.getElem?_eq_getElem (by omega)]; rfl
   have hc0 := HC.out _ _ hx
   rw [← Nat.add_assoc] at hc0
   have hlt2 := un_lt ((l.drop t).take k)
   have hc1 : w.cell? ⟨b, off + t + k, none⟩ = some (.int .u8 ((l[t + k]'(by omega)).toNat : Int)) := hc0
   clear hc0 hx
   have hst := get_step (un ((l.drop t).take k)) k (l[t + k]'(by omega)) (by omega) (by
    have h2 : ((l.drop t).take k).length = k := by simp; omega
    rw [h2] at hlt2; exact hlt2)
   have hsu := un_take_succ (l.drop t) k (by simp; omega)
   have hel : (l.drop t)[k]'(by simp; omega) = l[t + k]'(by omega) := by simp
   rw [hel] at hsu
   rw [← hsu] at hst
   have HST := Lib.hid hst
   clear hst hsu hel hlt2
   go_wp2
   exact ⟨⟨k + 1, by omega, by go_num, by rw [HST.out]⟩, by simp [intOf]; omega⟩
  ·obtain rfl : k = n := by omega
   go_wp2
   go_ret2
   exact ⟨rfl, rfl⟩

end Go.Proofs.YtchohheleofncaaGreat
