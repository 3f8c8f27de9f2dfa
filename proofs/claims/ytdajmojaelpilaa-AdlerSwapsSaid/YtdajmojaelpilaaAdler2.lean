/-
  Adler: sums put together, and adler.Join's contract.
-/
import Derived.Test.YtdajmojaelpilaaAdler
import Derived.Test.YtdajmojaelpilaaSepQuiet
namespace Go.Proofs.Ytdajmojaelpilaa
open Go.RowKit Go.Sep

theorem adIn_out (p : Nat × Nat) (h1 : p.1 < 65521) (h2 : p.2 < 65521) : adIn (adOut p) = p := by
  obtain ⟨a, c⟩ := p
  simp only [adIn, adOut] at *
  rw [Prod.mk.injEq]; omega
theorem adMore_append (s : Nat) (l m : List UInt8) : adMore (adMore s l) m = adMore s (l ++ m) := by
  have h := adFold_lt (adIn_lt s) l
  unfold adMore
  rw [adIn_out _ h.1 h.2]
  unfold adFold; rw [List.foldl_append]
theorem adMore_lt (s : Nat) (l : List UInt8) : adMore s l % 65536 < 65521 ∧ adMore s l / 65536 < 65521 ∧ adMore s l < 4294967296 := by
  have h := adFold_lt (adIn_lt s) l
  unfold adMore adOut
  omega
theorem adMore_nil (l : List UInt8) : adMore (adMore 1 l) [] = adMore 1 l := by rw [adMore_append, List.append_nil]
theorem rdNil (w : World) : Rd w (.slice none 0 0) 0 1 (bv []) := ⟨none, 0, rfl, Nat.le_refl _, by omega, rfl, fun h => by omega⟩

def wsum : List UInt8 → Nat
  | [] => 0
  | x :: r => (r.length + 1) * x.toNat + wsum r
def sum8 : List UInt8 → Nat
  | [] => 0
  | x :: r => x.toNat + sum8 r
theorem adFold_fst (l : List UInt8) : ∀ a c, a < 65521 → (adFold (a, c) l).1 = (a + sum8 l) % 65521 := by
  induction l with
  | nil => intro a c ha; simp [adFold, sum8, Nat.mod_eq_of_lt ha]
  | cons x l ih =>
    intro a c _
    have := ih ((a + x.toNat) % 65521) ((c + (a + x.toNat) % 65521) % 65521) (Nat.mod_lt _ (by omega))
    simp only [adFold, List.foldl_cons, adStep] at this ⊢
    rw [this]; simp only [sum8]; omega
theorem adFold_snd (l : List UInt8) : ∀ a c, c < 65521 → (adFold (a, c) l).2 = (c + l.length * a + wsum l) % 65521 := by
  induction l with
  | nil => intro a c hc; simp [adFold, wsum, Nat.mod_eq_of_lt hc]
  | cons x l ih =>
    intro a c _
    have := ih ((a + x.toNat) % 65521) ((c + (a + x.toNat) % 65521) % 65521) (Nat.mod_lt _ (by omega))
    simp only [adFold, List.foldl_cons, adStep] at this ⊢
    rw [this]; simp only [wsum, List.length_cons]
    have e1 : (l.length + 1) * a = l.length * a + a := by rw [Nat.add_mul]; omega
    have e2 : (l.length + 1) * x.toNat = l.length * x.toNat + x.toNat := by rw [Nat.add_mul]; omega
    have e3 : l.length * (a + x.toNat) = l.length * a + l.length * x.toNat := Nat.mul_add _ _ _
    have e4 : l.length * (a + x.toNat) = 65521 * (l.length * ((a + x.toNat) / 65521)) + l.length * ((a + x.toNat) % 65521) := by
      conv => lhs; rw [← Nat.div_add_mod (a + x.toNat) 65521, Nat.mul_add]
      rw [← Nat.mul_assoc, Nat.mul_comm l.length 65521, Nat.mul_assoc]
    rw [e1, e2]; omega
/-- What Join reckons. -/
def adJoin (s t n : Nat) : Nat :=
  ((s / 65536 + t / 65536 + n % 65521 * ((s % 65536 + 65520) % 65521)) % 65521) * 65536 + (s % 65536 + t % 65536 + 65520) % 65521
theorem adOut_mod (p : Nat × Nat) (h1 : p.1 < 65521) : adOut p % 65536 = p.1 ∧ adOut p / 65536 = p.2 := by unfold adOut; omega
theorem adJoin_eq (l m : List UInt8) : adJoin (adMore 1 l) (adMore 1 m) m.length = adMore 1 (l ++ m) := by
  rw [← adMore_append]
  have hl := adFold_lt (adIn_lt 1) l
  have hm := adFold_lt (adIn_lt 1) m
  have f1 := adFold_fst m 1 0 (by omega)
  have f2 := adFold_snd m 1 0 (by omega)
  have e0 : adMore 1 m = adOut (adFold (1, 0) m) := rfl
  have e1 : adMore 1 l = adOut (adFold (adIn 1) l) := rfl
  generalize adFold (adIn 1) l = p at *
  obtain ⟨a, c⟩ := p
  simp only at hl
  have g1 := adFold_fst m a c hl.1
  have g2 := adFold_snd m a c hl.2
  have e2 : adMore (adMore 1 l) m = adOut (adFold (a, c) m) := by rw [e1]; unfold adMore; rw [adIn_out _ hl.1 hl.2]
  have q1 := adOut_mod (a, c) hl.1
  have q2 := adOut_mod (adFold (1, 0) m) hm.1
  rw [e2, e1, e0]
  unfold adJoin
  rw [q1.1, q1.2, q2.1, q2.2]
  unfold adOut
  rw [f1, f2, g1, g2]
  simp only
  have k1 : (c + (0 + m.length * 1 + wsum m) % 65521 + m.length % 65521 * ((a + 65520) % 65521)) % 65521 = (c + m.length * a + wsum m) % 65521 := by
    have h1 : (m.length % 65521 * ((a + 65520) % 65521)) % 65521 = (m.length * (a + 65520)) % 65521 := (Nat.mul_mod _ _ _).symm
    have h2 : m.length * (a + 65520) = m.length * a + m.length * 65520 := Nat.mul_add _ _ _
    omega
  rw [k1]
  omega

theorem or_join' (c a : Nat) (hc : c < 65536) (ha : a < 65536) (x y : Int) (hx : x = (c : Int) * 65536) (hy : y = (a : Int)) : bits .or .u32 x y = ((c * 65536 + a : Nat) : Int) := by
  subst hx; subst hy; exact or_join c a hc ha

theorem join_low (s t : Nat) : ((s : Int) % 65536 + (t : Int) % 65536 + 65521 - 1) % 65521 % 4294967296 = (((s % 65536 + t % 65536 + 65520) % 65521 : Nat) : Int) := by omega
theorem join_high (s t : Nat) (q : Int) : ((s : Int) / 65536 + (t : Int) / 65536 + q) % 65521 % 4294967296 * 65536 % 4294967296 = (((s / 65536 + t / 65536 : Nat) : Int) + q) % ((65521 : Nat) : Int) * 65536 := by omega

set_option maxHeartbeats 1000000 in
theorem join_any (s t n : Nat) (hs : s < 4294967296) (ht : t < 4294967296) (hn : n ≤ 9223372036854775807) (w : World) :
    Calls Try.prog 16 #[.int .u32 s, .int .u32 t, .int .i64 n] w fun e w' => e = .returned (.int .u32 (adJoin s t n)) ∧ w = w' := by
  have h1 := and_low s hs
  have h2 := and_low t ht
  have a1 : (0 : Int) ≤ (n : Int) % 65521 ∧ (n : Int) % 65521 ≤ 65520 := by omega
  have a2 : (0 : Int) ≤ ((s : Int) % 65536 + 65521 - 1) % 65521 ∧ ((s : Int) % 65536 + 65521 - 1) % 65521 ≤ 65520 := by omega
  have hP1 : (0 : Int) ≤ (n : Int) % 65521 * (((s : Int) % 65536 + 65521 - 1) % 65521) := Int.mul_nonneg a1.1 a2.1
  have hP2 : (n : Int) % 65521 * (((s : Int) % 65536 + 65521 - 1) % 65521) ≤ 65520 * 65520 := Int.mul_le_mul a1.2 a2.2 a2.1 (by omega)
  go_enter Try.func16, Try.ntmps16
  go_wp2
  go_ret
  refine ⟨ret_int ?_, rfl⟩
  have e : ((s % 65536 + 65520) % 65521 : Nat) = (((s : Int) % 65536 + 65521 - 1) % 65521) := by omega
  have e2 : ((n % 65521 * ((s % 65536 + 65520) % 65521) : Nat) : Int) = (n : Int) % 65521 * (((s : Int) % 65536 + 65521 - 1) % 65521) := by
    rw [Int.natCast_mul, e]; simp
  refine or_join' ((s / 65536 + t / 65536 + n % 65521 * ((s % 65536 + 65520) % 65521)) % 65521) ((s % 65536 + t % 65536 + 65520) % 65521) (by omega) (by omega) _ _ ?_ ?_
  · rw [Int.natCast_emod, Int.natCast_add, e2]
    exact join_high s t _
  · exact join_low s t
end Go.Proofs.Ytdajmojaelpilaa
