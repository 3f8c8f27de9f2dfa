/-
  A region that draws its order and only reads, or calls what keeps an assertion: one walk in the order of the text, in the class of the worlds that meet the assertion.
-/
import Derived.Test.YtdajmojaelpilaaSepSl
import Derived.BigQuiet
namespace Go.Sep
open Go

/-- The worlds that meet L. -/
def Ix (W : World) (L : List Asrt) : Type := { w : World // Sat W w L }

section
variable {P : Program} {W w : World} {L : List Asrt}
theorem Ix.some (h : Sat W w L) : Nonempty (Ix W L) := ⟨⟨w, h⟩⟩
theorem Ix.sat (n : Ix W L) : Sat W n.val L := n.property
theorem wp_region_quiet_sat {id : Nat} {Q : Exit → Act → World → Prop} {a : Act} {l : List Oper} (hS : Sat W w L) (hm : P.follows .mixedOrders = true) (hB : Region.lexB .any l.toArray = true)
    (h : wpQuiet P l.toArray (fun w' => ∃ n : Ix W L, w' = n.val) (fun a' => ∀ w', (∃ n : Ix W L, w' = n.val) → Q .normal a' w') l a) : (Code.region id l.toArray true).wp P Q a w :=
  wp_region_quiet (C := fun w' => ∃ n : Ix W L, w' = n.val) hm hB ⟨(⟨{ w with drawn := w.drawn + 1 }, hS.of_heap rfl rfl rfl⟩ : Ix W L), rfl⟩ (by simpa using h)
theorem Calls.qs {f : FuncId} {args : Array Value} {v : Value} {n : Ix W L} (h : Calls P f args n.val fun e w' => e = .returned v ∧ n.val = w') :
    Calls P f args n.val fun e w'' => e = .returned v ∧ ∃ m : Ix W L, w'' = m.val := h.mono fun _ _ ⟨he, hw⟩ => ⟨he, n, hw.symm⟩
theorem Calls.qa {f : FuncId} {args : Array Value} {v : Value} {n : Ix W L} (h : Calls P f args n.val fun e w' => e = .returned v ∧ Sat W w' L) :
    Calls P f args n.val fun e w'' => e = .returned v ∧ ∃ m : Ix W L, w'' = m.val := h.mono fun _ w' ⟨he, hw⟩ => ⟨he, ⟨w', hw⟩, rfl⟩
end
end Go.Sep
