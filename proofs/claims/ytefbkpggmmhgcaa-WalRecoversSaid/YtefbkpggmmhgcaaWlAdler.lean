/-
  Adler for wal: contracts of adler.More, adler.Of, the document's More and Of, Place.
-/
import Derived.Test.YtefbkpggmmhgcaaRows
import Derived.Test.YtefbkpggmmhgcaaSepLaw
import Derived.Test.YtefbkpggmmhgcaaSepReg
import Derived.Lib.Hide
import Derived.Test.YtefbkpggmmhgcaaTypes
namespace Go.Proofs.Ytefbkpggmmhgcaa
open Go.RowKit Go.Sep
set_option linter.unusedSimpArgs false
set_option linter.unusedVariables false
attribute [local irreducible] Go.Oper.wp Go.wpList Go.Calls Go.Code.wp Go.Sep.Reg
def adStep (p : Nat × Nat) (x : UInt8) : Nat × Nat := ((p.1 + x.toNat) % 65521, (p.2 + (p.1 + x.toNat) % 65521) % 65521)
def adFold (p : Nat × Nat) (l : List UInt8) : Nat × Nat := l.foldl adStep p
def adOut (p : Nat × Nat) : Nat := p.2 * 65536 + p.1
def adIn (s : Nat) : Nat × Nat := (s % 65536 % 65521, s / 65536 % 65521)
def adMore (s : Nat) (l : List UInt8) : Nat := adOut (adFold (adIn s) l)
theorem ret_int {k : IntKind} {a b : Int} (h : a = b) : Ending.returned (.int k a) = .returned (.int k b) := by rw [h]
theorem adFold_lt {p : Nat × Nat} (h : p.1 < 65521 ∧ p.2 < 65521) : ∀ l, (adFold p l).1 < 65521 ∧ (adFold p l).2 < 65521 := by
  intro l
  induction l generalizing p with
  | nil => exact h
  | cons x l ih => exact ih ⟨Nat.mod_lt _ (by omega), Nat.mod_lt _ (by omega)⟩
theorem adIn_lt (s : Nat) : (adIn s).1 < 65521 ∧ (adIn s).2 < 65521 := ⟨Nat.mod_lt _ (by omega), Nat.mod_lt _ (by omega)⟩
theorem adFold_snoc (p : Nat × Nat) (l : List UInt8) (k : Nat) (h : k < l.length) : adFold p (l.take (k + 1)) = adStep (adFold p (l.take k)) l[k] := by
  rw [List.take_succ_eq_append_getElem h]; unfold adFold; rw [List.foldl_append]; rfl
theorem bv_at {l : List UInt8} {k : Nat} (h : k < l.length) : (bv l)[k]? = some (.int .u8 ((l[k]).toNat : Int)) := by simp [bv, h, u8]
theorem and_low (s : Nat) (h : s < 4294967296) : bits .and .u32 (s : Int) 65535 = ((s % 65536 : Nat) : Int) := by
  have := u32_and_nat s 65535 h (by omega)
  rw [show (65535 : Int) = ((65535 : Nat) : Int) from rfl, this, show 65535 = 2 ^ 16 - 1 from rfl, Nat.and_two_pow_sub_one_eq_mod]
theorem or_join (c a : Nat) (hc : c < 65536) (ha : a < 65536) : bits .or .u32 ((c : Int) * 65536) (a : Int) = ((c * 65536 + a : Nat) : Int) := by
  have h := u32_or_nat (c * 65536) a (by omega) (by omega)
  rw [nat_join 16 (c * 65536) a (by rw [show (2 : Nat) ^ 16 = 65536 from rfl]; omega) (by rw [show (2 : Nat) ^ 16 = 65536 from rfl]; omega)] at h
  rw [← h]; simp
set_option maxHeartbeats 400000 in
theorem more_any (s : Nat) (hs : s < 4294967296) (l : List UInt8) (v : Value) (w : World) (h : Rd w v l.length 1 (bv l)) :
    Calls Try.prog 40 #[.int .u32 s, v] w fun e w' => e = .returned (.int .u32 (adMore s l)) ∧ w = w' := by
  obtain ⟨ao, cap, rfl, h1, h2, h3, h4⟩ := h
  have hl := and_low s hs
  have hlm : l.length ≤ 9223372036854775807 := by omega
  go_enter Try.func40, Try.ntmps40
  go_wp2
  go_loop [5, 6, 16] (fun a c i => ∃ k : Nat, k ≤ l.length ∧ i = .int .i64 k ∧ a = .int .u32 ((adFold (adIn s) (l.take k)).1 : Nat) ∧ c = .int .u32 ((adFold (adIn s) (l.take k)).2 : Nat)) (fun _ _ i => l.length - (intOf i).toNat)
  case atStart => exact ⟨0, Nat.zero_le _, rfl, by simp [adFold, adIn], by simp [adFold, adIn]⟩
  case round =>
    obtain ⟨k, hk, rfl, rfl, rfl⟩ := hrel
    have hlt := adFold_lt (adIn_lt s) (l.take k)
    have hst := adFold_snoc (adIn s) l k
    generalize hp : adFold (adIn s) (l.take k) = p at *
    have Hp := Lib.hid hp
    clear hp
    obtain ⟨a, c⟩ := p
    obtain ⟨ha, hc⟩ := hlt
    simp only at ha hc
    by_cases hkl : k < l.length
    · obtain ⟨b, off, rfl, hcell⟩ := h4 (by omega)
      have hc0 := hcell k _ (bv_at hkl)
      have hx : (l[k]).toNat < 256 := UInt8.toNat_lt _
      have hst := hst hkl
      have Hst := Lib.hid hst
      clear hst h4 hcell
      go_wp2
      go_round
      case rel => exact ⟨k + 1, by omega, by go_num, by rw [Hst.out]; simp [adStep], by rw [Hst.out]; simp [adStep]⟩
      case measure => simp [intOf]; omega
    · obtain rfl : k = l.length := by omega
      go_wp2
      go_ret
      refine ⟨ret_int ?_, rfl⟩
      have hp := Hp.out
      rw [List.take_length] at hp
      rw [or_join c a (by omega) (by omega), adMore, hp]; rfl
theorem of_any (l : List UInt8) (v : Value) (w : World) (h : Rd w v l.length 1 (bv l)) :
    Calls Try.prog 39 #[v] w fun e w' => e = .returned (.int .u32 (adMore 1 l)) ∧ w = w' := by
  go_enter Try.func39, Try.ntmps39
  go_wp2_with (go_at_call 40; refine (more_any 1 (by omega) l _ _ h).mono ?_; rintro e w' ⟨rfl, rfl⟩)
  go_ret
  exact ⟨rfl, rfl⟩
set_option maxHeartbeats 400000 in
theorem rmore_any (s : Nat) (hs : s < 4294967296) (l : List UInt8) (v : Value) (w : World) (h : Rd w v l.length 1 (bv l)) :
    Calls Try.prog 46 #[.int .u32 s, v] w fun e w' => e = .returned (.int .u32 (adMore s l)) ∧ w = w' := by
  obtain ⟨ao, cap, rfl, h1, h2, h3, h4⟩ := h
  have hlm : l.length ≤ 9223372036854775807 := by omega
  go_enter Try.func46, Try.ntmps46
  go_wp2
  go_loop [5, 6, 7] (fun a c i => ∃ k : Nat, k ≤ l.length ∧ i = .int .i64 k ∧ a = .int .u32 ((adFold (adIn s) (l.take k)).1 : Nat) ∧ c = .int .u32 ((adFold (adIn s) (l.take k)).2 : Nat)) (fun _ _ i => l.length - (intOf i).toNat)
  case atStart => exact ⟨0, Nat.zero_le _, rfl, by simp [adFold, adIn], by simp [adFold, adIn]⟩
  case round =>
    obtain ⟨k, hk, rfl, rfl, rfl⟩ := hrel
    have hlt := adFold_lt (adIn_lt s) (l.take k)
    have hst := adFold_snoc (adIn s) l k
    generalize hp : adFold (adIn s) (l.take k) = p at *
    have Hp := Lib.hid hp
    clear hp
    obtain ⟨a, c⟩ := p
    obtain ⟨ha, hc⟩ := hlt
    simp only at ha hc
    by_cases hkl : k < l.length
    · obtain ⟨b, off, rfl, hcell⟩ := h4 (by omega)
      have hc0 := hcell k _ (bv_at hkl)
      have hx : (l[k]).toNat < 256 := UInt8.toNat_lt _
      have hst := hst hkl
      have Hst := Lib.hid hst
      clear hst h4 hcell
      go_wp2
      go_round
      case rel => exact ⟨k + 1, by omega, by go_num, by rw [Hst.out]; simp [adStep], by rw [Hst.out]; simp [adStep]⟩
      case measure => simp [intOf]; omega
    · obtain rfl : k = l.length := by omega
      go_wp2
      go_ret
      refine ⟨ret_int ?_, rfl⟩
      have hp := Hp.out
      rw [List.take_length] at hp
      rw [adMore, hp]; simp [adOut]
theorem rof_any (l : List UInt8) (v : Value) (w : World) (h : Rd w v l.length 1 (bv l)) :
    Calls Try.prog 45 #[v] w fun e w' => e = .returned (.int .u32 (adMore 1 l)) ∧ w = w' := by
  go_enter Try.func45, Try.ntmps45
  go_wp2_with (go_at_call 46; refine (rmore_any 1 (by omega) l _ _ h).mono ?_; rintro e w' ⟨rfl, rfl⟩)
  go_ret
  exact ⟨rfl, rfl⟩
theorem place_eq (v n : Int) (hn : 0 < n) : v % n = if v.tmod n < 0 then v.tmod n + n else v.tmod n := by
  have h1 : v % n = (v.tmod n) % n := by
    conv => lhs; rw [← Int.tmod_add_mul_tdiv v n]
    rw [Int.add_mul_emod_self_left]
  have h2 : v.tmod n < n := Int.tmod_lt_of_pos v hn
  have h3 : -n < v.tmod n := by
    have := Int.tmod_lt_of_pos (-v) hn
    rw [Int.neg_tmod] at this; omega
  rw [h1]
  split
  · rw [← Int.add_emod_right, Int.emod_eq_of_lt (by omega) (by omega)]
  · rw [Int.emod_eq_of_lt (by omega) (by omega)]
theorem place_any (v n : Int) (hn : 0 < n) (hn2 : n ≤ 9223372036854775807) (w : World) :
    Calls Try.prog 28 #[.int .i64 v, .int .i64 n] w fun e w' => e = .returned (.int .i64 (v % n)) ∧ w = w' := by
  have he := place_eq v n hn
  have h3 : -n < v.tmod n := by
    have := Int.tmod_lt_of_pos (-v) hn
    rw [Int.neg_tmod] at this; omega
  have h2 : v.tmod n < n := Int.tmod_lt_of_pos v hn
  have He := Lib.hid he
  clear he
  by_cases h : v.tmod n < 0
  all_goals
    go_enter Try.func28, Try.ntmps28
    go_wp2
    go_ret
    exact ⟨ret_int (by rw [He.out]; first | rw [if_pos (by omega)] | rw [if_neg (by omega)]), rfl⟩
theorem adIn_out (p : Nat × Nat) (h1 : p.1 < 65521) (h2 : p.2 < 65521) : adIn (adOut p) = p := by
  obtain ⟨a, c⟩ := p
  simp only [adIn, adOut] at *
  rw [Prod.mk.injEq]; omega
theorem adMore_append (s : Nat) (l m : List UInt8) : adMore (adMore s l) m = adMore s (l ++ m) := by
  have h := adFold_lt (adIn_lt s) l
  unfold adMore
  rw [adIn_out _ h.1 h.2]
  unfold adFold; rw [List.foldl_append]
theorem adMore_lt (s : Nat) (l : List UInt8) : adMore s l % 65536 < 65521 ∧ adMore s l / 65536 < 65521 ∧ adMore s l < 4294967296 := by
  have h := adFold_lt (adIn_lt s) l
  unfold adMore adOut
  omega
theorem adMore_nil (l : List UInt8) : adMore (adMore 1 l) [] = adMore 1 l := by rw [adMore_append, List.append_nil]
theorem rdNil (w : World) : Rd w (.slice none 0 0) 0 1 (bv []) := ⟨none, 0, rfl, Nat.le_refl _, by omega, rfl, fun h => by omega⟩
def sumB (l : List UInt8) : Nat := (l.map UInt8.toNat).sum
theorem adFold_one (p : Nat × Nat) (hp : p.1 < 65521) (l : List UInt8) : (adFold p l).1 = (p.1 + sumB l) % 65521 := by
  induction l generalizing p with
  | nil => simp [adFold, sumB, Nat.mod_eq_of_lt hp]
  | cons x l ih =>
    have := ih (adStep p x) (Nat.mod_lt _ (by omega))
    simp only [adFold, List.foldl_cons] at this ⊢
    rw [this]
    simp only [adStep, sumB, List.map_cons, List.sum_cons]
    omega
theorem adMore_low (l : List UInt8) : adMore 1 l % 65536 = (1 + sumB l) % 65521 := by
  have h := adFold_lt (adIn_lt 1) l
  have h1 := adFold_one (adIn 1) (adIn_lt 1).1 l
  rw [show (adIn 1).1 = 1 from rfl] at h1
  unfold adMore adOut
  rw [← h1]
  omega
theorem sumB_set (l : List UInt8) (k : Nat) (h : k < l.length) (y : UInt8) : sumB (l.set k y) + (l[k]).toNat = sumB l + y.toNat := by
  induction l generalizing k with
  | nil => simp at h
  | cons x l ih =>
    cases k with
    | zero => simp [sumB]; omega
    | succ k =>
      have := ih k (by simpa using h)
      simp [sumB] at this ⊢; omega
theorem one_law (l : List UInt8) (k : Nat) (h : k < l.length) (y : UInt8) : (adMore 1 (l.set k y) = adMore 1 l) ↔ y = l[k] := by
  constructor
  · intro e
    have e2 := congrArg (· % 65536) e
    simp only [adMore_low] at e2
    have hs := sumB_set l k h y
    have h1 := UInt8.toNat_lt y
    have h2 := UInt8.toNat_lt l[k]
    apply UInt8.toNat_inj.1
    omega
  · rintro rfl
    rw [List.set_getElem_self]
end Go.Proofs.Ytefbkpggmmhgcaa
