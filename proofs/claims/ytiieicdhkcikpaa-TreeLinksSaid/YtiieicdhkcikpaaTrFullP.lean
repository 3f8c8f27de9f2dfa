/-
  A full tree, and a file of many names (plain).
-/
import Derived.Test.YtiieicdhkcikpaaMTou
namespace Go.Proofs.Ytiieicdhkcikpaa
open Go.Sep
set_option linter.unusedSimpArgs false
set_option linter.unusedVariables false
def fnm (i : Nat) : List UInt8 := [102, UInt8.ofNat (97 + i / 26), UInt8.ofNat (97 + i % 26)]
def more4 : List UInt8 := [109, 111, 114, 101]
namespace TrD
def fT : Nat → TrD
  | 0 => new
  | i + 1 => (fT i).mk' [fnm (i + 1)] 1
theorem fT_ok : ∀ i, (fT i).Ok
  | 0 => new_ok
  | i + 1 => (fT_ok i).mk' _ _
theorem fT_mk : ∀ i, i < 47 → (fT i).mkE [fnm (i + 1)] 1 = 0 ∧ (fT i).mkI [fnm (i + 1)] 1 = i + 1 := by decide +kernel
theorem fT_more : (fT 47).mkE [more4] 2 = 5 ∧ (fT 47).free = none := by decide +kernel
theorem fT_un : ∀ m, m < 47 → (fT 47).ulE [fnm (m + 1)] = 0 ∧ (fT 47).ulI [fnm (m + 1)] = m + 1 ∧ ((fT 47).ul [fnm (m + 1)]).linksI ((m + 1 : Nat) : Int) = 0 ∧ ((fT 47).ul [fnm (m + 1)]).kindI ((m + 1 : Nat) : Int) = 1 := by decide +kernel
theorem fT_dr : ∀ m, m < 47 → ((fT 47).ul [fnm (m + 1)]).drOk ((m + 1 : Nat) : Int) = true ∧ (((fT 47).ul [fnm (m + 1)]).dr ((m + 1 : Nat) : Int)).drOk ((m + 1 : Nat) : Int) = false ∧ (((fT 47).ul [fnm (m + 1)]).dr ((m + 1 : Nat) : Int)).mkE [more4] 2 = 0 ∧ (((fT 47).ul [fnm (m + 1)]).dr ((m + 1 : Nat) : Int)).mkI [more4] 2 = m + 1 := by decide +kernel
end TrD
end Go.Proofs.Ytiieicdhkcikpaa
