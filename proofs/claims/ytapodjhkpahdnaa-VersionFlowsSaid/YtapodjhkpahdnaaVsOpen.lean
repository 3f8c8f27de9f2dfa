/-
  A script of calls that is an argument.
-/
import Derived.Test.YtapodjhkpahdnaaRecOpen
import Derived.Test.YtapodjhkpahdnaaSepLaw
import Derived.Test.YtapodjhkpahdnaaSepArg
import Derived.Test.YtapodjhkpahdnaaTypes
namespace Go.Proofs.Ytapodjhkpahdnaa
open Go.RowKit Go.Sep Go.ChangeShapes Go.WideShapes Go.ChangeAt
set_option linter.unusedSimpArgs false
set_option linter.unusedVariables false
attribute [local irreducible] Go.Oper.wp Go.wpList Go.Calls Go.Code.wp Go.Sep.Reg
theorem open_vops {H : Type} {enc : TypeId × Value → H} {W : World} {ao : Option Addr} {len cap : Nat} {d : DataW H} {ps : List MemPlace}
    (h : DataW.Trod enc Try.prog W 0 (fun _ => true) true 59 (.slice ao len cap) d ps) :
    ∃ l : List RecD, l.length = len ∧ Rd W (.slice ao len cap) len 3 (l.flatMap rv) ∧ ∀ x ∈ l, x.Ok := by
  have c3 : Try.prog.cellsOf 3 = 1 := by kernel_rfl
  obtain ⟨l, h1, h2, h3, _⟩ := open_enc (f := rv) (Q := RecD.Ok) Try.underlying59 (sz := 3) (by kernel_rfl) (by decide) h (fun r n x hl h => by
    obtain ⟨xs, m, _, _, _, hlen, hf⟩ := DataW.trod_struct Try.underlying63 h
    have hlen : xs.length = 3 := hlen
    have f0 : DataW.trod enc Try.prog W 0 (fun _ => true) true m 3 ((r.drop 0).take (Try.prog.cellsOf 3)) = xs[0]? := hf 0 _ rfl
    have f1 : DataW.trod enc Try.prog W 0 (fun _ => true) true m 3 ((r.drop 1).take (Try.prog.cellsOf 3)) = xs[1]? := hf 1 _ rfl
    have f2 : DataW.trod enc Try.prog W 0 (fun _ => true) true m 3 ((r.drop 2).take (Try.prog.cellsOf 3)) = xs[2]? := hf 2 _ rfl
    rw [c3, List.getElem?_eq_getElem (by omega)] at f0 f1 f2
    obtain ⟨k0, e0, _, w0⟩ := DataW.trod_int Try.underlying3 f0
    obtain ⟨k1, e1, _, w1⟩ := DataW.trod_int Try.underlying3 f1
    obtain ⟨k2, e2, _, w2⟩ := DataW.trod_int Try.underlying3 f2
    exact ⟨⟨k0, k1, k2⟩, cells3 hl e0 e1 e2, i64_of w0, i64_of w1, i64_of w2⟩)
  exact ⟨l, h1, h2, h3⟩
end Go.Proofs.Ytapodjhkpahdnaa
