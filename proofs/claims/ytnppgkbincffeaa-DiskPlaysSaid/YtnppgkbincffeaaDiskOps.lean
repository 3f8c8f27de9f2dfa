/-
  Package pedigreelaw05: the operations that come in; a disk behind writes.
-/
import Derived.Test.YtnppgkbincffeaaDiskLaw
import Derived.Test.YtnppgkbincffeaaDiskImage
import Derived.Test.YtnppgkbincffeaaSepArg
namespace Go.Proofs.Ytnppgkbincffeaa
open Go.RowKit Go.Sep Go.ChangeShapes Go.WideShapes Go.ChangeAt
set_option linter.unusedSimpArgs false
set_option linter.unusedVariables false
attribute [local irreducible] Go.Oper.wp Go.wpList Go.Calls Go.Code.wp Go.Sep.Reg

structure OpD where
  kind : Int
  n : Int
  v : Value
  b : List UInt8
  wrong : Bool
def opv (x : OpD) : List Value := [.int .i64 x.kind, .int .i64 x.n, x.v, .bool x.wrong]
def OpD.Ok (W : World) (x : OpD) : Prop :=
  (-9223372036854775808 ≤ x.kind ∧ x.kind ≤ 9223372036854775807) ∧ (-9223372036854775808 ≤ x.n ∧ x.n ≤ 9223372036854775807) ∧ Rd W x.v x.b.length 1 (bv x.b)
theorem open_ops {H : Type} {enc : TypeId × Value → H} {W : World} {ao : Option Addr} {len cap : Nat} {d : DataW H} {ps : List MemPlace}
    (h : DataW.Trod enc Try.prog W 0 (fun _ => true) true 22 (.slice ao len cap) d ps) :
    ∃ l : List OpD, l.length = len ∧ Rd W (.slice ao len cap) len 4 (l.flatMap opv) ∧ ∀ x ∈ l, x.Ok W := by
  have c3 : Try.prog.cellsOf 3 = 1 := by kernel_rfl
  have c29 : Try.prog.cellsOf 29 = 1 := by kernel_rfl
  have c4 : Try.prog.cellsOf 4 = 1 := by kernel_rfl
  obtain ⟨l, h1, h2, h3, _⟩ := open_enc (f := opv) (Q := OpD.Ok W) Try.underlying22 (sz := 4) (by kernel_rfl) (by decide) h (fun r n x hl h => by
    obtain ⟨xs, m, _, _, _, hlen, hf⟩ := DataW.trod_struct Try.underlying31 h
    have hlen : xs.length = 4 := hlen
    have f0 : DataW.trod enc Try.prog W 0 (fun _ => true) true m 3 ((r.drop 0).take (Try.prog.cellsOf 3)) = xs[0]? := hf 0 _ rfl
    have f1 : DataW.trod enc Try.prog W 0 (fun _ => true) true m 3 ((r.drop 1).take (Try.prog.cellsOf 3)) = xs[1]? := hf 1 _ rfl
    have f2 : DataW.trod enc Try.prog W 0 (fun _ => true) true m 29 ((r.drop 2).take (Try.prog.cellsOf 29)) = xs[2]? := hf 2 _ rfl
    have f3 : DataW.trod enc Try.prog W 0 (fun _ => true) true m 4 ((r.drop 3).take (Try.prog.cellsOf 4)) = xs[3]? := hf 3 _ rfl
    rw [c3, List.getElem?_eq_getElem (by omega)] at f0 f1
    rw [c29, List.getElem?_eq_getElem (by omega)] at f2
    rw [c4, List.getElem?_eq_getElem (by omega)] at f3
    obtain ⟨k0, e0, _, w0⟩ := DataW.trod_int Try.underlying3 f0
    obtain ⟨k1, e1, _, w1⟩ := DataW.trod_int Try.underlying3 f1
    obtain ⟨v2, l2, e2, r2⟩ := open_bytes1 Try.underlying29 Try.underlying5 (by kernel_rfl) f2
    obtain ⟨b3, e3, _⟩ := DataW.trod_bool Try.underlying4 f3
    exact ⟨⟨k0, k1, v2, l2, b3⟩, cells4 hl e0 e1 e2 e3, i64_of w0, i64_of w1, r2⟩)
  exact ⟨l, h1, h2, h3⟩
theorem opv_len (l : List OpD) : ∀ x ∈ l, (opv x).length = 4 := fun _ _ => rfl
def pad (l : List UInt8) : List UInt8 := l.take 128 ++ zeros (128 - l.length)
theorem pad_length (l : List UInt8) : (pad l).length = 128 := by simp [pad, zeros]; omega
theorem pad_copyN (N : Nat) (l : List UInt8) : List.take 0 (bv (zeros N)) ++ List.take (min l.length N * 1) (bv l) ++ List.drop (0 + min l.length N * 1) (bv (zeros N)) = bv (l.take N ++ zeros (N - l.length)) := by
  simp only [List.take_zero, List.nil_append, Nat.zero_add, Nat.mul_one]
  rcases Nat.le_total l.length N with h | h
  · rw [Nat.min_eq_left h, List.take_of_length_le (by simp [bv])]
    simp [bv, zeros, List.take_of_length_le h]
  · rw [Nat.min_eq_right h]
    simp [bv, zeros, List.map_take, Nat.sub_eq_zero_of_le h]
theorem pad_copy (l : List UInt8) : List.take 0 (bv (zeros 128)) ++ List.take (min l.length 128 * 1) (bv l) ++ List.drop (0 + min l.length 128 * 1) (bv (zeros 128)) = bv (pad l) := pad_copyN 128 l

/-- A new disk behind so many writes. -/
def DiskS.after (xs : List (Nat × List UInt8)) : DiskS := xs.foldl (fun D x => D.wrote x.1 x.2) (.new 160)
theorem DiskS.after_snoc (xs : List (Nat × List UInt8)) (x : Nat × List UInt8) : DiskS.after (xs ++ [x]) = (DiskS.after xs).wrote x.1 x.2 := by simp [DiskS.after]
theorem DiskS.after_gen (xs : List (Nat × List UInt8)) : ∀ D : DiskS, D.left = -1 → D.dead = false → D.base = [] →
    (xs.foldl (fun D x => D.wrote x.1 x.2) D).blocks = applyW D.blocks xs ∧ (xs.foldl (fun D x => D.wrote x.1 x.2) D).writes = D.writes ++ xs ∧ (xs.foldl (fun D x => D.wrote x.1 x.2) D).left = -1 ∧ (xs.foldl (fun D x => D.wrote x.1 x.2) D).dead = false ∧ (xs.foldl (fun D x => D.wrote x.1 x.2) D).base = [] := by
  induction xs with
  | nil => intro D h1 h2 h3; exact ⟨rfl, by simp, h1, h2, h3⟩
  | cons x xs ih =>
    intro D h1 h2 h3
    obtain ⟨g1, g2, g3, g4, g5⟩ := ih (D.wrote x.1 x.2) (by simp [DiskS.wrote, h1]) h2 h3
    refine ⟨by rw [List.foldl_cons, g1]; rfl, by rw [List.foldl_cons, g2]; simp [DiskS.wrote], g3, g4, g5⟩
theorem DiskS.after_facts (xs : List (Nat × List UInt8)) : (DiskS.after xs).blocks = applyW (List.replicate 160 (zeros 128)) xs ∧ (DiskS.after xs).writes = xs ∧ (DiskS.after xs).left = -1 ∧ (DiskS.after xs).dead = false ∧ (DiskS.after xs).base = [] := by
  have h := DiskS.after_gen xs (.new 160) rfl rfl rfl
  exact ⟨h.1, by rw [DiskS.after, h.2.1]; rfl, h.2.2⟩
theorem DiskS.after_len (xs : List (Nat × List UInt8)) : (DiskS.after xs).blocks.length = 160 := by rw [(DiskS.after_facts xs).1, applyW_length, List.length_replicate]
theorem DiskS.after_ok {xs : List (Nat × List UInt8)} (h : ∀ x ∈ xs, x.1 < 160) : (DiskS.after xs).Ok :=
  ⟨by rw [DiskS.after_len]; decide, by rw [(DiskS.after_facts xs).2.2.2.2]; simp, fun x hx => by rw [DiskS.after_len]; exact h x (by rw [(DiskS.after_facts xs).2.1] at hx; exact hx)⟩
theorem DiskS.after_image (xs : List (Nat × List UInt8)) (k : Nat) : ((DiskS.after xs).image k).blocks = (DiskS.after (xs.take k)).blocks := by
  simp only [DiskS.image, DiskS.start]
  rw [(DiskS.after_facts xs).2.1, (DiskS.after_facts xs).2.2.2.2, DiskS.after_len, (DiskS.after_facts (xs.take k)).1]
  rfl
end Go.Proofs.Ytnppgkbincffeaa
