/-
  Package pedigreelaw11: the calls that come in.
-/
import Derived.Test.YtiieicdhkcikpaaMWlk
import Derived.Test.YtiieicdhkcikpaaMSep
import Derived.Test.YtiieicdhkcikpaaMReg
import Derived.Test.YtiieicdhkcikpaaTypes
namespace Go.Proofs.Ytiieicdhkcikpaa
open Go.RowKit Go.Sep Go.ChangeShapes Go.WideShapes Go.ChangeAt
set_option linter.unusedSimpArgs false
set_option linter.unusedVariables false
attribute [local irreducible] Go.Oper.wp Go.wpList Go.Calls Go.Code.wp Go.Sep.Reg
structure TOp where
  kind : Int
  lv : Value
  l : List Int
  tv : Value
  to : List Int
  what : Int
  rv : Value
  raw : List (List UInt8)
def inv1 (x : Int) : List Value := [.int .i64 x]
theorem inv1_len (l : List Int) : ∀ x ∈ l, (inv1 x).length = 1 := fun _ _ => rfl
theorem inv1_fm (l : List Int) : l.flatMap inv1 = l.map (.int .i64) := by
  induction l with
  | nil => rfl
  | cons x l ih => rw [List.flatMap_cons, ih]; rfl
def i64B (x : Int) : Prop := -9223372036854775808 ≤ x ∧ x ≤ 9223372036854775807
def opv (x : TOp) : List Value := [.int .i64 x.kind, x.lv, x.tv, .int .i64 x.what, x.rv]
structure TOp.Ok (W : World) (x : TOp) : Prop where
  kb : i64B x.kind
  wb : i64B x.what
  lr : Rd W x.lv x.l.length 1 (x.l.flatMap inv1)
  lb : ∀ y ∈ x.l, i64B y
  tr : Rd W x.tv x.to.length 1 (x.to.flatMap inv1)
  tb : ∀ y ∈ x.to, i64B y
  rr : Rd W x.rv x.raw.length 1 (x.raw.flatMap sv1)
theorem opv_len (l : List TOp) : ∀ x ∈ l, (opv x).length = 5 := fun _ _ => rfl
theorem cells5 {r : List Value} {a b c d e : Value} (h : r.length = 5) (h0 : (r.drop 0).take 1 = [a]) (h1 : (r.drop 1).take 1 = [b]) (h2 : (r.drop 2).take 1 = [c]) (h3 : (r.drop 3).take 1 = [d]) (h4 : (r.drop 4).take 1 = [e]) : r = [a, b, c, d, e] := by
  match r, h with
  | [x0, x1, x2, x3, x4], _ => simp at h0 h1 h2 h3 h4; subst h0; subst h1; subst h2; subst h3; subst h4; rfl
section
variable {H : Type} {enc : TypeId × Value → H} {P : Program} {W : World}
theorem open_ints1 {t e n : Nat} (ht : P.underlying t = some (.slice e)) (he : P.underlying e = some (.int .i64)) (hc : P.cellsOf e = 1) {cs : List Value} {x : DataW H × List MemPlace}
    (h : DataW.trod enc P W 0 (fun _ => true) true n t cs = some x) : ∃ (v : Value) (l : List Int), cs = [v] ∧ Rd W v l.length 1 (l.flatMap inv1) ∧ ∀ y ∈ l, i64B y := by
  rcases DataW.trod_slice ht h with ⟨h1, _⟩ | ⟨a, len, cap, elems, rest, m, _, h1, _⟩
  · exact ⟨_, [], h1, ⟨none, 0, rfl, Nat.le_refl _, by omega, rfl, fun h => by simp at h⟩, fun _ h => by cases h⟩
  · subst h1
    obtain ⟨l, rfl, hr, hb, _⟩ := open_nums (d := x.1) (ps := x.2) ht he hc ⟨n, h⟩
    exact ⟨_, l, rfl, by rw [inv1_fm]; exact hr, fun y hy => i64_of (hb y hy)⟩
theorem open_texts {t e n : Nat} (ht : P.underlying t = some (.slice e)) (he : P.underlying e = some .string) (hc : P.cellsOf e = 1) {cs : List Value} {x : DataW H × List MemPlace}
    (h : DataW.trod enc P W 0 (fun _ => true) true n t cs = some x) : ∃ (v : Value) (l : List (List UInt8)), cs = [v] ∧ Rd W v l.length 1 (l.flatMap sv1) := by
  rcases DataW.trod_slice ht h with ⟨h1, _⟩ | ⟨a, len, cap, elems, rest, m, _, h1, _⟩
  · exact ⟨_, [], h1, none, 0, rfl, Nat.le_refl _, by omega, rfl, fun h => by simp at h⟩
  · subst h1
    obtain ⟨l, h1, h2, _, _⟩ := open_enc (f := sv1) (Q := fun _ => True) (sz := 1) ht hc (by decide) ⟨n, h⟩ (fun r n x _ h => by
      obtain ⟨s, hs, _⟩ := DataW.trod_string he h
      exact ⟨s.data.toList, by rw [hs]; rfl, trivial⟩)
    exact ⟨_, l, rfl, by rw [h1]; exact h2⟩
end
theorem open_tops {H : Type} {enc : TypeId × Value → H} {W : World} {ao : Option Addr} {len cap : Nat} {d : DataW H} {ps : List MemPlace}
    (h : DataW.Trod enc Try.prog W 0 (fun _ => true) true 41 (.slice ao len cap) d ps) :
    ∃ l : List TOp, l.length = len ∧ Rd W (.slice ao len cap) len 5 (l.flatMap opv) ∧ ∀ x ∈ l, x.Ok W := by
  have c1 : Try.prog.cellsOf 3 = 1 := by kernel_rfl
  have c2 : Try.prog.cellsOf 36 = 1 := by kernel_rfl
  have c3 : Try.prog.cellsOf 28 = 1 := by kernel_rfl
  obtain ⟨l, h1, h2, h3, _⟩ := open_enc (f := opv) (Q := TOp.Ok W) Try.underlying41 (sz := 5) (by kernel_rfl) (by decide) h (fun r n x hl h => by
    obtain ⟨xs, m, _, _, _, hlen, hf⟩ := DataW.trod_struct Try.underlying46 h
    have hlen : xs.length = 5 := hlen
    have f0 : DataW.trod enc Try.prog W 0 (fun _ => true) true m 3 ((r.drop 0).take (Try.prog.cellsOf 3)) = xs[0]? := hf 0 _ rfl
    have f1 : DataW.trod enc Try.prog W 0 (fun _ => true) true m 36 ((r.drop 1).take (Try.prog.cellsOf 36)) = xs[1]? := hf 1 _ rfl
    have f2 : DataW.trod enc Try.prog W 0 (fun _ => true) true m 36 ((r.drop 2).take (Try.prog.cellsOf 36)) = xs[2]? := hf 2 _ rfl
    have f3 : DataW.trod enc Try.prog W 0 (fun _ => true) true m 3 ((r.drop 3).take (Try.prog.cellsOf 3)) = xs[3]? := hf 3 _ rfl
    have f4 : DataW.trod enc Try.prog W 0 (fun _ => true) true m 28 ((r.drop 4).take (Try.prog.cellsOf 28)) = xs[4]? := hf 4 _ rfl
    rw [c1, List.getElem?_eq_getElem (by omega)] at f0 f3
    rw [c2, List.getElem?_eq_getElem (by omega)] at f1 f2
    rw [c3, List.getElem?_eq_getElem (by omega)] at f4
    obtain ⟨k0, e0, _, w0⟩ := DataW.trod_int Try.underlying3 f0
    obtain ⟨v1, l1, e1, r1, b1⟩ := open_ints1 Try.underlying36 Try.underlying3 (by kernel_rfl) f1
    obtain ⟨v2, l2, e2, r2, b2⟩ := open_ints1 Try.underlying36 Try.underlying3 (by kernel_rfl) f2
    obtain ⟨k3, e3, _, w3⟩ := DataW.trod_int Try.underlying3 f3
    obtain ⟨v4, l4, e4, r4⟩ := open_texts Try.underlying28 Try.underlying9 (by kernel_rfl) f4
    exact ⟨⟨k0, v1, l1, v2, l2, k3, v4, l4⟩, cells5 hl e0 e1 e2 e3 e4, i64_of w0, i64_of w3, r1, b1, r2, b2, r4⟩)
  exact ⟨l, h1, h2, h3⟩
end Go.Proofs.Ytiieicdhkcikpaa
