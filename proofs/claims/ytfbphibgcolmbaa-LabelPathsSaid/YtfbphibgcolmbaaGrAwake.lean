/-
  Package graph: the example that the laws end with; Place.
-/
import Derived.Test.YtfbphibgcolmbaaGrEdge
namespace Go.Proofs.Ytfbphibgcolmbaa
open Go.RowKit Go.Sep
set_option linter.unusedSimpArgs false
set_option linter.unusedVariables false
attribute [local irreducible] Go.Oper.wp Go.wpList Go.Calls Go.Code.wp Go.Sep.Reg
attribute [local irreducible] IsG
theorem ret_int {k : IntKind} {a b : Int} (h : a = b) : Ending.returned (.int k a) = .returned (.int k b) := by rw [h]
theorem place_eq (v n : Int) (hn : 0 < n) : v % n = if v.tmod n < 0 then v.tmod n + n else v.tmod n := by
  have h1 : v % n = (v.tmod n) % n := by
    conv => lhs; rw [← Int.tmod_add_mul_tdiv v n]
    rw [Int.add_mul_emod_self_left]
  have h2 : v.tmod n < n := Int.tmod_lt_of_pos v hn
  have h3 : -n < v.tmod n := by
    have := Int.tmod_lt_of_pos (-v) hn
    rw [Int.neg_tmod] at this; omega
  rw [h1]
  split
  · rw [← Int.add_emod_right, Int.emod_eq_of_lt (by omega) (by omega)]
  · rw [Int.emod_eq_of_lt (by omega) (by omega)]
theorem place_any (v n : Int) (hn : 0 < n) (hn2 : n ≤ 9223372036854775807) (w : World) :
    Calls Try.prog 15 #[.int .i64 v, .int .i64 n] w fun e w' => e = .returned (.int .i64 (v % n)) ∧ w = w' := by
  have he := place_eq v n hn
  have h3 : -n < v.tmod n := by
    have := Int.tmod_lt_of_pos (-v) hn
    rw [Int.neg_tmod] at this; omega
  have h2 : v.tmod n < n := Int.tmod_lt_of_pos v hn
  have He := Lib.hid he
  clear he
  by_cases h : v.tmod n < 0
  all_goals
    go_enter Try.func15, Try.ntmps15
    go_wp2
    go_ret
    exact ⟨ret_int (by rw [He.out]; first | rw [if_pos (by omega)] | rw [if_neg (by omega)]), rfl⟩

theorem Gr.reaches_true {G : Gr} {a b : Nat} (ha : a < G.N.length) (hb : b < G.N.length) (h : G.Reach a b) : G.reaches (a : Int) (b : Int) = true := by
  unfold Gr.reaches Gr.aboveI
  rw [if_pos (Gr.is_mk ha)]
  exact List.any_eq_true.2 ⟨b, Gr.mem_above.2 ⟨hb, h⟩, by simp⟩
theorem Gr.reaches_false {G : Gr} {a b : Nat} (h : ¬ G.Reach a b) : G.reaches (a : Int) (b : Int) = false := by
  unfold Gr.reaches Gr.aboveI
  split
  · refine List.any_eq_false.2 fun x hx he => h ?_
    have hx2 := (Gr.mem_above.1 hx).2
    have : x = b := by have := of_decide_eq_true he; omega
    exact this ▸ hx2
  · rfl
def aw1 : Gr := ⟨[⟨1, 1, 1, 0, 0, false⟩], []⟩
def aw2 : Gr := ⟨[⟨1, 1, 1, 0, 0, false⟩, ⟨2, 1, 1, 0, 0, false⟩], []⟩
def aw3 : Gr := ⟨[⟨1, 1, 1, 0, 0, false⟩, ⟨2, 1, 1, 0, 0, false⟩], [(1, 0)]⟩
theorem aw1_ok : aw1.Ok := Gr.addG_ok Gr.new_ok 1 1
theorem aw2_ok : aw2.Ok := Gr.addG_ok aw1_ok 2 1
theorem aw3_ok : aw3.Ok := Gr.link_ok (a := 1) (b := 0) aw2_ok (by decide) (by decide) (by decide) (by decide)
theorem aw_e1 : aw2.edgeE 1 0 = 0 := by
  unfold Gr.edgeE
  have h : aw2.reaches 0 1 = false := Gr.reaches_false (a := 0) (b := 1) fun h => absurd (h (fun x => x = 0) rfl fun x y _ he => by cases he) (by decide)
  rw [if_neg (by decide), if_neg (by decide), h]; rfl
theorem aw_g1 : aw2.edgeG 1 0 = aw3 := by unfold Gr.edgeG; rw [aw_e1]; rfl
theorem aw_e2 : aw3.edgeE 0 1 = 11 := by
  unfold Gr.edgeE
  have h : aw3.reaches 1 0 = true := Gr.reaches_true (a := 1) (b := 0) (by decide) (by decide) (Gr.Reach.edge (by decide))
  rw [if_neg (by decide), if_neg (by decide), h]; rfl
theorem aw_g2 : aw3.edgeG 0 1 = aw3 := by unfold Gr.edgeG; rw [aw_e2]; rfl
theorem aw_e3 : aw3.edgeE 1 0 = 23 := by
  unfold Gr.edgeE
  rw [if_neg (by decide), if_pos (by decide)]
theorem aw_g3 : aw3.edgeG 1 0 = aw3 := by unfold Gr.edgeG; rw [aw_e3]; rfl
theorem aw_r : aw3.reaches 1 0 = true := Gr.reaches_true (a := 1) (b := 0) (by decide) (by decide) (Gr.Reach.edge (by decide))
set_option maxRecDepth 20000 in
set_option maxHeartbeats 1000000 in
theorem awake_any {W w : World} {L : List Asrt} (hS : Sat W w L) : Calls Try.prog 21 #[] w fun e w' => e = .returned (.bool true) ∧ Sat W w' L := by
  have A1 := Lib.hid (fun p w (h : Sat W w (IsG p Gr.new :: L)) => (show Calls Try.prog 17 #[.pointer (some ⟨p, 0, none⟩), .int .i64 1, .int .i64 1] w fun e w' => e = .returned (.tuple #[.int .i64 0, .int .i64 0]) ∧ Sat W w' (IsG p aw1 :: L) from add_any h Gr.new_ok 1 1))
  have A2 := Lib.hid (fun p w (h : Sat W w (IsG p aw1 :: L)) => (show Calls Try.prog 17 #[.pointer (some ⟨p, 0, none⟩), .int .i64 2, .int .i64 1] w fun e w' => e = .returned (.tuple #[.int .i64 1, .int .i64 0]) ∧ Sat W w' (IsG p aw2 :: L) from add_any h aw1_ok 2 1))
  have E1 := Lib.hid (fun p w (h : Sat W w (IsG p aw2 :: L)) => (show Calls Try.prog 19 #[.pointer (some ⟨p, 0, none⟩), .int .i64 1, .int .i64 0] w fun e w' => e = .returned (.int .i64 0) ∧ Sat W w' (IsG p aw3 :: L) by have := edge_any h aw2_ok 1 0; rw [aw_e1, aw_g1] at this; exact this))
  have E2 := Lib.hid (fun p w (h : Sat W w (IsG p aw3 :: L)) => (show Calls Try.prog 19 #[.pointer (some ⟨p, 0, none⟩), .int .i64 0, .int .i64 1] w fun e w' => e = .returned (.int .i64 11) ∧ Sat W w' (IsG p aw3 :: L) by have := edge_any h aw3_ok 0 1; rw [aw_e2, aw_g2] at this; exact this))
  have E3 := Lib.hid (fun p w (h : Sat W w (IsG p aw3 :: L)) => (show Calls Try.prog 19 #[.pointer (some ⟨p, 0, none⟩), .int .i64 1, .int .i64 0] w fun e w' => e = .returned (.int .i64 23) ∧ Sat W w' (IsG p aw3 :: L) by have := edge_any h aw3_ok 1 0; rw [aw_e3, aw_g3] at this; exact this))
  have R1 := Lib.hid (fun p w (h : Sat W w (IsG p aw3 :: L)) => (show Calls Try.prog 18 #[.pointer (some ⟨p, 0, none⟩), .int .i64 1, .int .i64 0] w fun e w' => e = .returned (.bool true) ∧ Sat W w' (IsG p aw3 :: L) by have := reaches_any h aw3_ok 1 0; rw [aw_r] at this; exact this))
  go_enter Try.func21, Try.ntmps21
  go_wp2_with (first
    | (go_at_call 14; refine (new_any hS).mono ?_; rintro e w1 ⟨p, rfl, hS1⟩; clear hS; have hS := hS1; clear hS1)
    | (go_at_call 17; (first | with_reducible refine (A1.out _ _ hS).mono ?_ | with_reducible refine (A2.out _ _ hS).mono ?_); rintro e w1 ⟨rfl, hS1⟩; clear hS; have hS := hS1; clear hS1)
    | (go_at_call 19; (first | with_reducible refine (E1.out _ _ hS).mono ?_ | with_reducible refine (E2.out _ _ hS).mono ?_ | with_reducible refine (E3.out _ _ hS).mono ?_); rintro e w1 ⟨rfl, hS1⟩; clear hS; have hS := hS1; clear hS1)
    | (go_at_call 18; refine (R1.out _ _ hS).mono ?_; rintro e w1 ⟨rfl, hS1⟩; clear hS; have hS := hS1; clear hS1)
    | (go_at_call 27; refine (closed_any hS 0 (r := true) (by rfl)).mono ?_; rintro e w1 ⟨rfl, rfl⟩))
  go_ret
  exact ⟨rfl, hS.drop⟩
end Go.Proofs.Ytfbphibgcolmbaa
