/-
  Package pedigreelaw05: awake, block; pedigreelaw00.Place, Bytes.
-/
import Derived.Test.YtnppgkbincffeaaDiskWrite
import Derived.Test.YtnppgkbincffeaaSepLaw
namespace Go.Proofs.Ytnppgkbincffeaa
open Go.RowKit Go.Sep
set_option linter.unusedSimpArgs false
set_option linter.unusedVariables false
attribute [local irreducible] Go.Oper.wp Go.wpList Go.Calls Go.Code.wp Go.Sep.Reg

set_option maxRecDepth 20000 in
theorem awake_any {W w : World} {L : List Asrt} (hS : Sat W w L) :
    Calls Try.prog 10 #[] w fun e w' => e = .returned (.bool true) ∧ Sat W w' L := by
  go_enter Try.func10, Try.ntmps10
  go_wp2_with (first
    | (go_at_call 8; refine (new_ok hS 200 (by decide) (by decide)).mono ?_; rintro e w1 ⟨p, rfl, hS1⟩; clear hS; have hS := hS1; clear hS1)
    | (go_at_call 21; refine (blocks_any hS (n := 200) (by simp [DiskS.new])).mono ?_; rintro e w1 ⟨rfl, rfl⟩)
    | (go_at_call 14; refine (cut_yes hS 0 (by decide)).mono ?_; rintro e w1 ⟨rfl, hS1⟩; clear hS; have hS := hS1; clear hS1)
    | (refine toList (by rfl) ?_; refine mk hS _ _ _ (by rfl) 128 128 _ _ (by rfl) (by rfl) (elOf (by rfl)) (by omega) (by omega) (by omega) ?_; intro pb w1 hS1; clear hS; have hS := hS1; clear hS1; rw [made_u8] at hS)
    | (go_at_call 17; refine (write_cut hS.pull1 3 _ _ rfl (by simp [DiskS.new]) rfl).mono ?_; rintro e w1 ⟨rfl, hS1⟩; clear hS; have hS := hS1; clear hS1)
    | (go_at_call 23; refine (dead_any hS (b := true) rfl).mono ?_; rintro e w1 ⟨rfl, rfl⟩))
  go_ret
  exact ⟨rfl, hS.drop.drop⟩

/-- Any number as one from 0 to n - 1. -/
def place (v n : Int) : Int := if v.tmod n < 0 then v.tmod n + n else v.tmod n
theorem place_lt {v n : Int} (h : 0 < n) : 0 ≤ place v n ∧ place v n < n := by
  unfold place
  have h1 := Int.tmod_lt_of_pos v h
  have h2 := Int.lt_tmod_of_pos v h
  split <;> omega
theorem place_any (w : World) (v n : Int) (h : 0 < n) (hn : n ≤ 9223372036854775807) (h1 : -9223372036854775808 ≤ v) (h2 : v ≤ 9223372036854775807) :
    Calls Try.prog 11 #[.int .i64 v, .int .i64 n] w fun e w' => e = .returned (.int .i64 (place v n)) ∧ w = w' := by
  have a1 := Int.tmod_lt_of_pos v h
  have a2 := Int.lt_tmod_of_pos v h
  go_enter Try.func11, Try.ntmps11
  go_wp2
  all_goals
    go_ret
    exact ⟨by unfold place; first | (rw [if_pos ‹_›]; rfl) | (rw [if_neg (Int.not_lt.2 ‹_›)]; rfl), rfl⟩
theorem wrote_len (D : DiskS) (n : Nat) (b : List UInt8) : (D.wrote n b).blocks.length = D.blocks.length := by simp [DiskS.wrote]
theorem wrote_at {D : DiskS} {n : Nat} {b : List UInt8} (h : n < D.blocks.length) : (D.wrote n b).blocks[n]? = some b := by simp [DiskS.wrote, h]
theorem wrote_ne {D : DiskS} {n m : Nat} {b : List UInt8} (h : n ≠ m) : (D.wrote n b).blocks[m]? = D.blocks[m]? := by simp [DiskS.wrote, h]
end Go.Proofs.Ytnppgkbincffeaa
