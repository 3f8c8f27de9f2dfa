/-
  Package pedigreelaw11: kinds and entries that come in.
-/
import Derived.Test.YtiieicdhkcikpaaMOp
namespace Go.Proofs.Ytiieicdhkcikpaa
open Go.RowKit Go.Sep Go.ChangeShapes Go.WideShapes Go.ChangeAt
set_option linter.unusedSimpArgs false
set_option linter.unusedVariables false
attribute [local irreducible] Go.Oper.wp Go.wpList Go.Calls Go.Code.wp Go.Sep.Reg
structure DArg where
  v : Value
  l : List EntD
def dav (x : DArg) : List Value := [x.v]
theorem dav_len (l : List DArg) : ∀ x ∈ l, (dav x).length = 1 := fun _ _ => rfl
theorem cells2 {r : List Value} {a b : Value} (h : r.length = 2) (h0 : (r.drop 0).take 1 = [a]) (h1 : (r.drop 1).take 1 = [b]) : r = [a, b] := by
  match r, h with
  | [x0, x1], _ => simp at h0 h1; subst h0; subst h1; rfl
theorem open_ents1 {H : Type} {enc : TypeId × Value → H} {W : World} {n : Nat} {cs : List Value} {x : DataW H × List MemPlace}
    (h : DataW.trod enc Try.prog W 0 (fun _ => true) true n 51 cs = some x) : ∃ (v : Value) (l : List EntD), cs = [v] ∧ Rd W v l.length 2 (l.flatMap ev2) := by
  have c1 : Try.prog.cellsOf 3 = 1 := by kernel_rfl
  have c2 : Try.prog.cellsOf 9 = 1 := by kernel_rfl
  rcases DataW.trod_slice Try.underlying51 h with ⟨h1, _⟩ | ⟨a, len, cap, elems, rest, m, _, h1, _⟩
  · exact ⟨_, [], h1, none, 0, rfl, Nat.le_refl _, by omega, rfl, fun h => by simp at h⟩
  · subst h1
    obtain ⟨l, h1, h2, _, _⟩ := open_enc (f := ev2) (Q := fun _ => True) (sz := 2) (d := x.1) (ps := x.2) Try.underlying51 (by kernel_rfl) (by decide) ⟨n, h⟩ (fun r n x hl h => by
      obtain ⟨xs, m, _, _, _, hlen, hf⟩ := DataW.trod_struct Try.underlying59 h
      have hlen : xs.length = 2 := hlen
      have f0 : DataW.trod enc Try.prog W 0 (fun _ => true) true m 9 ((r.drop 0).take (Try.prog.cellsOf 9)) = xs[0]? := hf 0 _ rfl
      have f1 : DataW.trod enc Try.prog W 0 (fun _ => true) true m 3 ((r.drop 1).take (Try.prog.cellsOf 3)) = xs[1]? := hf 1 _ rfl
      rw [c2, List.getElem?_eq_getElem (by omega)] at f0
      rw [c1, List.getElem?_eq_getElem (by omega)] at f1
      obtain ⟨s, e0, _⟩ := DataW.trod_string Try.underlying9 f0
      obtain ⟨k1, e1, _, _⟩ := DataW.trod_int Try.underlying3 f1
      refine ⟨⟨s.data.toList, k1⟩, ?_, trivial⟩
      rw [cells2 hl e0 e1]; rfl)
    exact ⟨_, l, rfl, by rw [h1]; exact h2⟩
theorem open_dargs {H : Type} {enc : TypeId × Value → H} {W : World} {ao : Option Addr} {len cap : Nat} {d : DataW H} {ps : List MemPlace}
    (h : DataW.Trod enc Try.prog W 0 (fun _ => true) true 57 (.slice ao len cap) d ps) :
    ∃ l : List DArg, l.length = len ∧ Rd W (.slice ao len cap) len 1 (l.flatMap dav) ∧ ∀ x ∈ l, Rd W x.v x.l.length 2 (x.l.flatMap ev2) := by
  obtain ⟨l, h1, h2, h3, _⟩ := open_enc (f := dav) (Q := fun x : DArg => Rd W x.v x.l.length 2 (x.l.flatMap ev2)) Try.underlying57 (sz := 1) (by kernel_rfl) (by decide) h (fun r n x hl h => by
    obtain ⟨v, l, rfl, hr⟩ := open_ents1 h
    exact ⟨⟨v, l⟩, rfl, hr⟩)
  exact ⟨l, h1, h2, h3⟩
end Go.Proofs.Ytiieicdhkcikpaa
