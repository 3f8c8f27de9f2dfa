/-
  What the laws of records share: arguments opened, Bytes, Place.
-/
import Derived.Test.YtcabgeljdgcdlaaRecLaw
namespace Go.Proofs.Ytcabgeljdgcdlaa
open Go.RowKit Go.Sep Go.ChangeShapes Go.WideShapes Go.ChangeAt
set_option linter.unusedSimpArgs false
set_option linter.unusedVariables false
attribute [local irreducible] Go.Oper.wp Go.wpList Go.Calls Go.Code.wp Go.Sep.Reg
def RecD.Ok (x : RecD) : Prop := (-9223372036854775808 ≤ x.k ∧ x.k ≤ 9223372036854775807) ∧ (-9223372036854775808 ≤ x.a ∧ x.a ≤ 9223372036854775807) ∧ (-9223372036854775808 ≤ x.b ∧ x.b ≤ 9223372036854775807)
theorem open_recs {H : Type} {enc : TypeId × Value → H} {W : World} {ao : Option Addr} {len cap : Nat} {d : DataW H} {ps : List MemPlace}
    (h : DataW.Trod enc Try.prog W 0 (fun _ => true) true 65 (.slice ao len cap) d ps) :
    ∃ l : List RecD, l.length = len ∧ Rd W (.slice ao len cap) len 3 (l.flatMap rv) ∧ ∀ x ∈ l, x.Ok := by
  have c3 : Try.prog.cellsOf 3 = 1 := by kernel_rfl
  obtain ⟨l, h1, h2, h3, _⟩ := open_enc (f := rv) (Q := RecD.Ok) Try.underlying65 (sz := 3) (by kernel_rfl) (by decide) h (fun r n x hl h => by
    obtain ⟨xs, m, _, _, _, hlen, hf⟩ := DataW.trod_struct Try.underlying68 h
    have hlen : xs.length = 3 := hlen
    have f0 : DataW.trod enc Try.prog W 0 (fun _ => true) true m 3 ((r.drop 0).take (Try.prog.cellsOf 3)) = xs[0]? := hf 0 _ rfl
    have f1 : DataW.trod enc Try.prog W 0 (fun _ => true) true m 3 ((r.drop 1).take (Try.prog.cellsOf 3)) = xs[1]? := hf 1 _ rfl
    have f2 : DataW.trod enc Try.prog W 0 (fun _ => true) true m 3 ((r.drop 2).take (Try.prog.cellsOf 3)) = xs[2]? := hf 2 _ rfl
    rw [c3, List.getElem?_eq_getElem (by omega)] at f0 f1 f2
    obtain ⟨k0, e0, _, w0⟩ := DataW.trod_int Try.underlying3 f0
    obtain ⟨k1, e1, _, w1⟩ := DataW.trod_int Try.underlying3 f1
    obtain ⟨k2, e2, _, w2⟩ := DataW.trod_int Try.underlying3 f2
    exact ⟨⟨k0, k1, k2⟩, cells3 hl e0 e1 e2, i64_of w0, i64_of w1, i64_of w2⟩)
  exact ⟨l, h1, h2, h3⟩
def pad (l : List UInt8) : List UInt8 := l.take 128 ++ zeros (128 - l.length)
theorem pad_length (l : List UInt8) : (pad l).length = 128 := by simp [pad, zeros]; omega
theorem pad_copyN (N : Nat) (l : List UInt8) : List.take 0 (bv (zeros N)) ++ List.take (min l.length N * 1) (bv l) ++ List.drop (0 + min l.length N * 1) (bv (zeros N)) = bv (l.take N ++ zeros (N - l.length)) := by
  simp only [List.take_zero, List.nil_append, Nat.zero_add, Nat.mul_one]
  rcases Nat.le_total l.length N with h | h
  · rw [Nat.min_eq_left h, List.take_of_length_le (by simp [bv])]
    simp [bv, zeros, List.take_of_length_le h]
  · rw [Nat.min_eq_right h]
    simp [bv, zeros, List.map_take, Nat.sub_eq_zero_of_le h]
theorem pad_copy (l : List UInt8) : List.take 0 (bv (zeros 128)) ++ List.take (min l.length 128 * 1) (bv l) ++ List.drop (0 + min l.length 128 * 1) (bv (zeros 128)) = bv (pad l) := pad_copyN 128 l
theorem bytes_any {W w : World} {L : List Asrt} (hS : Sat W w L) (l : List UInt8) (v : Value) (h : Rd w v l.length 1 (bv l)) (hb : l.length ≤ 140737488351232) :
    Calls Try.prog 46 #[v] w fun e w' => ∃ v', e = .returned v' ∧ Sat W w' (Sl 5 1 v' l.length (bv l) :: L) := by
  go_enter Try.func46, Try.ntmps46
  go_wp2_with (refine toList (by rfl) ?_; refine ap (hS.slNil (E := 5) (sz := 1)) _ _ _ _ (by rfl) _ _ (by rfl) (by rfl) (elOf (by rfl)) (by rfl) (by omega) (inOf (by rfl)) Has.z (by exact .inl h) (bv_one l) (by omega) (by omega) ?_; intro v' w' hS')
  go_ret
  exact ⟨v', rfl, by simpa using hS'⟩
/-- Any number as one from 0 to n - 1. -/
def place (v n : Int) : Int := if v.tmod n < 0 then v.tmod n + n else v.tmod n
theorem place_lt {v n : Int} (h : 0 < n) : 0 ≤ place v n ∧ place v n < n := by
  unfold place
  have h1 := Int.tmod_lt_of_pos v h
  have h2 := Int.lt_tmod_of_pos v h
  split <;> omega
theorem place_any (w : World) (v n : Int) (h : 0 < n) (hn : n ≤ 9223372036854775807) (h1 : -9223372036854775808 ≤ v) (h2 : v ≤ 9223372036854775807) :
    Calls Try.prog 32 #[.int .i64 v, .int .i64 n] w fun e w' => e = .returned (.int .i64 (place v n)) ∧ w = w' := by
  have a1 := Int.tmod_lt_of_pos v h
  have a2 := Int.lt_tmod_of_pos v h
  go_enter Try.func32, Try.ntmps32
  go_wp2
  all_goals
    go_ret
    exact ⟨by unfold place; first | (rw [if_pos ‹_›]; rfl) | (rw [if_neg (Int.not_lt.2 ‹_›)]; rfl), rfl⟩
def SupD.Ok (x : SupD) : Prop := True
theorem cells7 {r : List Value} {a b c d e f g : Value} (h : r.length = 7) (h0 : (r.drop 0).take 1 = [a]) (h1 : (r.drop 1).take 1 = [b]) (h2 : (r.drop 2).take 1 = [c]) (h3 : (r.drop 3).take 1 = [d]) (h4 : (r.drop 4).take 1 = [e]) (h5 : (r.drop 5).take 1 = [f]) (h6 : (r.drop 6).take 1 = [g]) : r = [a, b, c, d, e, f, g] := by
  match r, h with
  | [x0, x1, x2, x3, x4, x5, x6], _ => simp at h0 h1 h2 h3 h4 h5 h6; subst h0; subst h1; subst h2; subst h3; subst h4; subst h5; subst h6; rfl
set_option maxRecDepth 20000 in
theorem open_sup {H : Type} {enc : TypeId × Value → H} {W : World} {base : Nat} {v : Value} {d : DataW H} {ps : List MemPlace}
    (hv : Value.okWide Try.prog W .any base 80 v) (h : DataW.Trod enc Try.prog W 0 (fun _ => true) true 80 v d ps) : ∃ s : SupD, v = .agg (sv s).toArray := by
  obtain ⟨cs, rfl, hsz⟩ := okWide_struct Try.underlying80 hv
  have hl : cs.toList.length = 7 := by rw [Array.length_toList, hsz]; kernel_rfl
  obtain ⟨n, h⟩ := h
  have c3 : Try.prog.cellsOf 3 = 1 := by kernel_rfl
  simp only [Value.cells] at h
  obtain ⟨xs, m, _, _, _, hlen, hf⟩ := DataW.trod_struct Try.underlying80 h
  have hlen : xs.length = 7 := hlen
  have f0 : DataW.trod enc Try.prog W 0 (fun _ => true) true m 3 ((cs.toList.drop 0).take (Try.prog.cellsOf 3)) = xs[0]? := hf 0 _ rfl
  have f1 : DataW.trod enc Try.prog W 0 (fun _ => true) true m 3 ((cs.toList.drop 1).take (Try.prog.cellsOf 3)) = xs[1]? := hf 1 _ rfl
  have f2 : DataW.trod enc Try.prog W 0 (fun _ => true) true m 3 ((cs.toList.drop 2).take (Try.prog.cellsOf 3)) = xs[2]? := hf 2 _ rfl
  have f3 : DataW.trod enc Try.prog W 0 (fun _ => true) true m 3 ((cs.toList.drop 3).take (Try.prog.cellsOf 3)) = xs[3]? := hf 3 _ rfl
  have f4 : DataW.trod enc Try.prog W 0 (fun _ => true) true m 3 ((cs.toList.drop 4).take (Try.prog.cellsOf 3)) = xs[4]? := hf 4 _ rfl
  have f5 : DataW.trod enc Try.prog W 0 (fun _ => true) true m 3 ((cs.toList.drop 5).take (Try.prog.cellsOf 3)) = xs[5]? := hf 5 _ rfl
  have f6 : DataW.trod enc Try.prog W 0 (fun _ => true) true m 3 ((cs.toList.drop 6).take (Try.prog.cellsOf 3)) = xs[6]? := hf 6 _ rfl
  rw [c3, List.getElem?_eq_getElem (by omega)] at f0 f1 f2 f3 f4 f5 f6
  obtain ⟨k0, e0, _, _⟩ := DataW.trod_int Try.underlying3 f0
  obtain ⟨k1, e1, _, _⟩ := DataW.trod_int Try.underlying3 f1
  obtain ⟨k2, e2, _, _⟩ := DataW.trod_int Try.underlying3 f2
  obtain ⟨k3, e3, _, _⟩ := DataW.trod_int Try.underlying3 f3
  obtain ⟨k4, e4, _, _⟩ := DataW.trod_int Try.underlying3 f4
  obtain ⟨k5, e5, _, _⟩ := DataW.trod_int Try.underlying3 f5
  obtain ⟨k6, e6, _, _⟩ := DataW.trod_int Try.underlying3 f6
  refine ⟨⟨k0, k1, k2, k3, k4, k5, k6⟩, ?_⟩
  congr 1
  exact Array.ext' (cells7 hl e0 e1 e2 e3 e4 e5 e6)
theorem ref_rget_n {W w : World} {L : List Asrt} (hS : Sat W w L) (b : List UInt8) (n : Nat) (hn : b.length = n) (ao : Option Addr) (c : Nat) (hr : ∀ w, Sat W w L → Rd w (.slice ao n c) n 1 (bv b)) (hb : b.length ≤ 140737488355328) :
    Calls Try.prog 47 #[.slice ao n c] w fun e w' => ∃ v', e = .returned (.tuple #[v', .int .i64 (getX b), .bool (getOk b)]) ∧ Sat W w' (Tb 68 3 rv v' (getL b) :: L) := by
  subst hn; exact ref_rget_any hS b ao c hr hb
theorem ref_sget_n {W w : World} {L : List Asrt} (hS : Sat W w L) (b : List UInt8) (n : Nat) (hn : b.length = n) (ao : Option Addr) (c : Nat) (hr : ∀ w, Sat W w L → Rd w (.slice ao n c) n 1 (bv b)) (hb : b.length ≤ 140737488355328) :
    Calls Try.prog 49 #[.slice ao n c] w fun e w' => e = .returned (.tuple #[.agg (sv (getS b)).toArray, .bool (getSOk b)]) ∧ Sat W w' L := by
  subst hn; exact ref_sget_any hS b ao c hr hb
theorem rget_n {W w : World} {L : List Asrt} (hS : Sat W w L) (b : List UInt8) (n : Nat) (hn : b.length = n) (ao : Option Addr) (c : Nat) (hr : ∀ w, Sat W w L → Rd w (.slice ao n c) n 1 (bv b)) (hb : b.length ≤ 140737488355328) :
    Calls Try.prog 44 #[.slice ao n c] w fun e w' => ∃ v', e = .returned (.tuple #[v', .int .i64 (getX b), .bool (getOk b)]) ∧ Sat W w' (Tb 68 3 rv v' (getL b) :: L) := by
  subst hn; exact rget_any hS b ao c hr hb
theorem sget_n {W w : World} {L : List Asrt} (hS : Sat W w L) (b : List UInt8) (n : Nat) (hn : b.length = n) (ao : Option Addr) (c : Nat) (hr : ∀ w, Sat W w L → Rd w (.slice ao n c) n 1 (bv b)) (hb : b.length ≤ 140737488355328) :
    Calls Try.prog 48 #[.slice ao n c] w fun e w' => e = .returned (.tuple #[.agg (sv (getS b)).toArray, .bool (getSOk b)]) ∧ Sat W w' L := by
  subst hn; exact sget_any hS b ao c hr hb
theorem Rd.bvn {w : World} {v : Value} {n : Nat} {b : List UInt8} (h : Rd w v n 1 (bv b)) : Rd w v b.length 1 (bv b) := by
  have hl : (bv b).length = n * 1 := Src.length (.inl h)
  rw [bv_length, Nat.mul_one] at hl
  rw [hl]; exact h
end Go.Proofs.Ytcabgeljdgcdlaa
