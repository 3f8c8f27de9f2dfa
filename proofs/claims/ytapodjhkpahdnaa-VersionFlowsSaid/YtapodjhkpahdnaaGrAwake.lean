/-
  Place; Reaches (plain).
-/
import Derived.Test.YtapodjhkpahdnaaGrEdge
namespace Go.Proofs.Ytapodjhkpahdnaa
open Go.RowKit Go.Sep
set_option linter.unusedSimpArgs false
set_option linter.unusedVariables false
attribute [local irreducible] Go.Oper.wp Go.wpList Go.Calls Go.Code.wp Go.Sep.Reg
attribute [local irreducible] IsG
theorem ret_int {k : IntKind} {a b : Int} (h : a = b) : Ending.returned (.int k a) = .returned (.int k b) := by rw [h]
theorem place_eq (v n : Int) (hn : 0 < n) : v % n = if v.tmod n < 0 then v.tmod n + n else v.tmod n := by
  have h1 : v % n = (v.tmod n) % n := by
    conv => lhs; rw [← Int.tmod_add_mul_tdiv v n]
    rw [Int.add_mul_emod_self_left]
  have h2 : v.tmod n < n := Int.tmod_lt_of_pos v hn
  have h3 : -n < v.tmod n := by
    have := Int.tmod_lt_of_pos (-v) hn
    rw [Int.neg_tmod] at this; omega
  rw [h1]
  split
  · rw [← Int.add_emod_right, Int.emod_eq_of_lt (by omega) (by omega)]
  · rw [Int.emod_eq_of_lt (by omega) (by omega)]
theorem place_any (v n : Int) (hn : 0 < n) (hn2 : n ≤ 9223372036854775807) (w : World) :
    Calls Try.prog 10 #[.int .i64 v, .int .i64 n] w fun e w' => e = .returned (.int .i64 (v % n)) ∧ w = w' := by
  have he := place_eq v n hn
  have h3 : -n < v.tmod n := by
    have := Int.tmod_lt_of_pos (-v) hn
    rw [Int.neg_tmod] at this; omega
  have h2 : v.tmod n < n := Int.tmod_lt_of_pos v hn
  have He := Lib.hid he
  clear he
  by_cases h : v.tmod n < 0
  all_goals
    go_enter Try.func10, Try.ntmps10
    go_wp2
    go_ret
    exact ⟨ret_int (by rw [He.out]; first | rw [if_pos (by omega)] | rw [if_neg (by omega)]), rfl⟩
theorem Gr.reaches_true {G : Gr} {a b : Nat} (ha : a < G.N.length) (hb : b < G.N.length) (h : G.Reach a b) : G.reaches (a : Int) (b : Int) = true := by
  unfold Gr.reaches Gr.aboveI
  rw [if_pos (Gr.is_mk ha)]
  exact List.any_eq_true.2 ⟨b, Gr.mem_above.2 ⟨hb, h⟩, by simp⟩
theorem Gr.reaches_false {G : Gr} {a b : Nat} (h : ¬ G.Reach a b) : G.reaches (a : Int) (b : Int) = false := by
  unfold Gr.reaches Gr.aboveI
  split
  · refine List.any_eq_false.2 fun x hx he => h ?_
    have hx2 := (Gr.mem_above.1 hx).2
    have : x = b := by have := of_decide_eq_true he; omega
    exact this ▸ hx2
  · rfl
end Go.Proofs.Ytapodjhkpahdnaa
