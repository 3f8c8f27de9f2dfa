/-
  Packages record, pedigreeref21: contracts of in, Check.
-/
import Derived.Test.YtapodjhkpahdnaaGrDo
namespace Go.Proofs.Ytapodjhkpahdnaa
open Go.RowKit Go.Sep
set_option linter.unusedSimpArgs false
set_option linter.unusedVariables false
attribute [local irreducible] Go.Oper.wp Go.wpList Go.Calls Go.Code.wp Go.Sep.Reg
def inB (v a b : Int) : Bool := decide (a ≤ v) && decide (v ≤ b)
def okRec (k a b : Int) : Bool :=
  if k = 1 then inB a 1 5 && inB b 1 16777215 else if k = 2 ∨ k = 5 then inB a 0 4096 && inB b 0 4096 else if k = 3 ∨ k = 4 then inB a 0 4096 && inB b 0 7 else false
theorem recin_any (w : World) (v a b : Int) {r : Bool} (h : inB v a b = r) :
    Calls Try.prog 77 #[.int .i64 v, .int .i64 a, .int .i64 b] w fun e w' => e = .returned (.bool r) ∧ w = w' := by
  subst h
  unfold inB
  by_cases h1 : a ≤ v
  · by_cases h2 : v ≤ b
    · go_enter Try.func77, Try.ntmps77
      go_wp2
      go_ret
      exact ⟨by simp [h1, h2], rfl⟩
    · have h2 : b < v := by omega
      go_enter Try.func77, Try.ntmps77
      go_wp2
      go_ret
      exact ⟨by simp [h1]; omega, rfl⟩
  · have h1 : v < a := by omega
    go_enter Try.func77, Try.ntmps77
    go_wp2
    go_ret
    exact ⟨by simp; omega, rfl⟩
theorem ref_in_any (w : World) (v a b : Int) {r : Bool} (h : inB v a b = r) :
    Calls Try.prog 79 #[.int .i64 v, .int .i64 a, .int .i64 b] w fun e w' => e = .returned (.bool r) ∧ w = w' := by
  subst h
  unfold inB
  by_cases h1 : a ≤ v
  · by_cases h2 : v ≤ b
    · go_enter Try.func79, Try.ntmps79
      go_wp2
      go_ret
      exact ⟨by simp [h1, h2], rfl⟩
    · have h2 : b < v := by omega
      go_enter Try.func79, Try.ntmps79
      go_wp2
      go_ret
      exact ⟨by simp [h1]; omega, rfl⟩
  · have h1 : v < a := by omega
    go_enter Try.func79, Try.ntmps79
    go_wp2
    go_ret
    exact ⟨by simp; omega, rfl⟩
set_option maxRecDepth 20000 in
theorem check_any (w : World) (W : World) (L : List Asrt) (hS : Sat W w L) (k a b : Int) :
    Calls Try.prog 45 #[.agg #[.int .i64 k, .int .i64 a, .int .i64 b]] w fun e w' => e = .returned (.bool (okRec k a b)) ∧ Sat W w' L := by
  unfold okRec
  by_cases k1 : k = 1
  · subst k1
    simp only [reduceIte, Int.reduceEq, false_or, or_false, or_true, true_or]
    cases ha : inB a 1 5
    · go_enter Try.func45, Try.ntmps45
      go_wp2_with (first
        | (refine toList (by rfl) ?_; refine bx hS _ _ (by rfl) _ (by first | exact evC | exact evT (by rfl)) ?_; intro px w1 hS1; clear hS; have hS := hS1; clear hS1; rw [cells_agg] at hS)
        | (refine toList (by rfl) ?_; refine ld hS _ _ (by rfl) _ _ (by rfl) (agOf (by rfl)) (by first | exact Has.z | exact Has.s Has.z | exact Has.s (Has.s Has.z) | exact Has.s (Has.s (Has.s Has.z)) | exact Has.s (Has.s (Has.s (Has.s Has.z))) | exact Has.s (Has.s (Has.s (Has.s (Has.s Has.z))))) (by rfl) ?_)
        | (go_at_call 77; refine (recin_any _ a _ _ ha).mono ?_; rintro e w1 ⟨rfl, rfl⟩))
      go_ret
      exact ⟨rfl, hS.drop⟩
    · cases hb : inB b 1 16777215
      all_goals
        go_enter Try.func45, Try.ntmps45
        go_wp2_with (first
          | (refine toList (by rfl) ?_; refine bx hS _ _ (by rfl) _ (by first | exact evC | exact evT (by rfl)) ?_; intro px w1 hS1; clear hS; have hS := hS1; clear hS1; rw [cells_agg] at hS)
          | (refine toList (by rfl) ?_; refine ld hS _ _ (by rfl) _ _ (by rfl) (agOf (by rfl)) (by first | exact Has.z | exact Has.s Has.z | exact Has.s (Has.s Has.z) | exact Has.s (Has.s (Has.s Has.z)) | exact Has.s (Has.s (Has.s (Has.s Has.z))) | exact Has.s (Has.s (Has.s (Has.s (Has.s Has.z))))) (by rfl) ?_)
          | (go_at_call 77; refine (recin_any _ a _ _ ha).mono ?_; rintro e w1 ⟨rfl, rfl⟩)
          | (go_at_call 77; refine (recin_any _ b _ _ hb).mono ?_; rintro e w1 ⟨rfl, rfl⟩))
        go_ret
        exact ⟨rfl, hS.drop⟩
  by_cases k2 : k = 2
  · subst k2
    simp only [reduceIte, Int.reduceEq, false_or, or_false, or_true, true_or]
    cases ha : inB a 0 4096
    · go_enter Try.func45, Try.ntmps45
      go_wp2_with (first
        | (refine toList (by rfl) ?_; refine bx hS _ _ (by rfl) _ (by first | exact evC | exact evT (by rfl)) ?_; intro px w1 hS1; clear hS; have hS := hS1; clear hS1; rw [cells_agg] at hS)
        | (refine toList (by rfl) ?_; refine ld hS _ _ (by rfl) _ _ (by rfl) (agOf (by rfl)) (by first | exact Has.z | exact Has.s Has.z | exact Has.s (Has.s Has.z) | exact Has.s (Has.s (Has.s Has.z)) | exact Has.s (Has.s (Has.s (Has.s Has.z))) | exact Has.s (Has.s (Has.s (Has.s (Has.s Has.z))))) (by rfl) ?_)
        | (go_at_call 77; refine (recin_any _ a _ _ ha).mono ?_; rintro e w1 ⟨rfl, rfl⟩))
      go_ret
      exact ⟨rfl, hS.drop⟩
    · cases hb : inB b 0 4096
      all_goals
        go_enter Try.func45, Try.ntmps45
        go_wp2_with (first
          | (refine toList (by rfl) ?_; refine bx hS _ _ (by rfl) _ (by first | exact evC | exact evT (by rfl)) ?_; intro px w1 hS1; clear hS; have hS := hS1; clear hS1; rw [cells_agg] at hS)
          | (refine toList (by rfl) ?_; refine ld hS _ _ (by rfl) _ _ (by rfl) (agOf (by rfl)) (by first | exact Has.z | exact Has.s Has.z | exact Has.s (Has.s Has.z) | exact Has.s (Has.s (Has.s Has.z)) | exact Has.s (Has.s (Has.s (Has.s Has.z))) | exact Has.s (Has.s (Has.s (Has.s (Has.s Has.z))))) (by rfl) ?_)
          | (go_at_call 77; refine (recin_any _ a _ _ ha).mono ?_; rintro e w1 ⟨rfl, rfl⟩)
          | (go_at_call 77; refine (recin_any _ b _ _ hb).mono ?_; rintro e w1 ⟨rfl, rfl⟩))
        go_ret
        exact ⟨rfl, hS.drop⟩
  by_cases k5 : k = 5
  · subst k5
    simp only [reduceIte, Int.reduceEq, false_or, or_false, or_true, true_or]
    cases ha : inB a 0 4096
    · go_enter Try.func45, Try.ntmps45
      go_wp2_with (first
        | (refine toList (by rfl) ?_; refine bx hS _ _ (by rfl) _ (by first | exact evC | exact evT (by rfl)) ?_; intro px w1 hS1; clear hS; have hS := hS1; clear hS1; rw [cells_agg] at hS)
        | (refine toList (by rfl) ?_; refine ld hS _ _ (by rfl) _ _ (by rfl) (agOf (by rfl)) (by first | exact Has.z | exact Has.s Has.z | exact Has.s (Has.s Has.z) | exact Has.s (Has.s (Has.s Has.z)) | exact Has.s (Has.s (Has.s (Has.s Has.z))) | exact Has.s (Has.s (Has.s (Has.s (Has.s Has.z))))) (by rfl) ?_)
        | (go_at_call 77; refine (recin_any _ a _ _ ha).mono ?_; rintro e w1 ⟨rfl, rfl⟩))
      go_ret
      exact ⟨rfl, hS.drop⟩
    · cases hb : inB b 0 4096
      all_goals
        go_enter Try.func45, Try.ntmps45
        go_wp2_with (first
          | (refine toList (by rfl) ?_; refine bx hS _ _ (by rfl) _ (by first | exact evC | exact evT (by rfl)) ?_; intro px w1 hS1; clear hS; have hS := hS1; clear hS1; rw [cells_agg] at hS)
          | (refine toList (by rfl) ?_; refine ld hS _ _ (by rfl) _ _ (by rfl) (agOf (by rfl)) (by first | exact Has.z | exact Has.s Has.z | exact Has.s (Has.s Has.z) | exact Has.s (Has.s (Has.s Has.z)) | exact Has.s (Has.s (Has.s (Has.s Has.z))) | exact Has.s (Has.s (Has.s (Has.s (Has.s Has.z))))) (by rfl) ?_)
          | (go_at_call 77; refine (recin_any _ a _ _ ha).mono ?_; rintro e w1 ⟨rfl, rfl⟩)
          | (go_at_call 77; refine (recin_any _ b _ _ hb).mono ?_; rintro e w1 ⟨rfl, rfl⟩))
        go_ret
        exact ⟨rfl, hS.drop⟩
  by_cases k3 : k = 3
  · subst k3
    simp only [reduceIte, Int.reduceEq, false_or, or_false, or_true, true_or]
    cases ha : inB a 0 4096
    · go_enter Try.func45, Try.ntmps45
      go_wp2_with (first
        | (refine toList (by rfl) ?_; refine bx hS _ _ (by rfl) _ (by first | exact evC | exact evT (by rfl)) ?_; intro px w1 hS1; clear hS; have hS := hS1; clear hS1; rw [cells_agg] at hS)
        | (refine toList (by rfl) ?_; refine ld hS _ _ (by rfl) _ _ (by rfl) (agOf (by rfl)) (by first | exact Has.z | exact Has.s Has.z | exact Has.s (Has.s Has.z) | exact Has.s (Has.s (Has.s Has.z)) | exact Has.s (Has.s (Has.s (Has.s Has.z))) | exact Has.s (Has.s (Has.s (Has.s (Has.s Has.z))))) (by rfl) ?_)
        | (go_at_call 77; refine (recin_any _ a _ _ ha).mono ?_; rintro e w1 ⟨rfl, rfl⟩))
      go_ret
      exact ⟨rfl, hS.drop⟩
    · cases hb : inB b 0 7
      all_goals
        go_enter Try.func45, Try.ntmps45
        go_wp2_with (first
          | (refine toList (by rfl) ?_; refine bx hS _ _ (by rfl) _ (by first | exact evC | exact evT (by rfl)) ?_; intro px w1 hS1; clear hS; have hS := hS1; clear hS1; rw [cells_agg] at hS)
          | (refine toList (by rfl) ?_; refine ld hS _ _ (by rfl) _ _ (by rfl) (agOf (by rfl)) (by first | exact Has.z | exact Has.s Has.z | exact Has.s (Has.s Has.z) | exact Has.s (Has.s (Has.s Has.z)) | exact Has.s (Has.s (Has.s (Has.s Has.z))) | exact Has.s (Has.s (Has.s (Has.s (Has.s Has.z))))) (by rfl) ?_)
          | (go_at_call 77; refine (recin_any _ a _ _ ha).mono ?_; rintro e w1 ⟨rfl, rfl⟩)
          | (go_at_call 77; refine (recin_any _ b _ _ hb).mono ?_; rintro e w1 ⟨rfl, rfl⟩))
        go_ret
        exact ⟨rfl, hS.drop⟩
  by_cases k4 : k = 4
  · subst k4
    simp only [reduceIte, Int.reduceEq, false_or, or_false, or_true, true_or]
    cases ha : inB a 0 4096
    · go_enter Try.func45, Try.ntmps45
      go_wp2_with (first
        | (refine toList (by rfl) ?_; refine bx hS _ _ (by rfl) _ (by first | exact evC | exact evT (by rfl)) ?_; intro px w1 hS1; clear hS; have hS := hS1; clear hS1; rw [cells_agg] at hS)
        | (refine toList (by rfl) ?_; refine ld hS _ _ (by rfl) _ _ (by rfl) (agOf (by rfl)) (by first | exact Has.z | exact Has.s Has.z | exact Has.s (Has.s Has.z) | exact Has.s (Has.s (Has.s Has.z)) | exact Has.s (Has.s (Has.s (Has.s Has.z))) | exact Has.s (Has.s (Has.s (Has.s (Has.s Has.z))))) (by rfl) ?_)
        | (go_at_call 77; refine (recin_any _ a _ _ ha).mono ?_; rintro e w1 ⟨rfl, rfl⟩))
      go_ret
      exact ⟨rfl, hS.drop⟩
    · cases hb : inB b 0 7
      all_goals
        go_enter Try.func45, Try.ntmps45
        go_wp2_with (first
          | (refine toList (by rfl) ?_; refine bx hS _ _ (by rfl) _ (by first | exact evC | exact evT (by rfl)) ?_; intro px w1 hS1; clear hS; have hS := hS1; clear hS1; rw [cells_agg] at hS)
          | (refine toList (by rfl) ?_; refine ld hS _ _ (by rfl) _ _ (by rfl) (agOf (by rfl)) (by first | exact Has.z | exact Has.s Has.z | exact Has.s (Has.s Has.z) | exact Has.s (Has.s (Has.s Has.z)) | exact Has.s (Has.s (Has.s (Has.s Has.z))) | exact Has.s (Has.s (Has.s (Has.s (Has.s Has.z))))) (by rfl) ?_)
          | (go_at_call 77; refine (recin_any _ a _ _ ha).mono ?_; rintro e w1 ⟨rfl, rfl⟩)
          | (go_at_call 77; refine (recin_any _ b _ _ hb).mono ?_; rintro e w1 ⟨rfl, rfl⟩))
        go_ret
        exact ⟨rfl, hS.drop⟩
  · rw [if_neg k1, if_neg (by omega), if_neg (by omega)]
    have e1 : (k == 1) = false := beq_eq_false_iff_ne.2 k1
    have e2 : (k == 2) = false := beq_eq_false_iff_ne.2 k2
    have e3 : (k == 3) = false := beq_eq_false_iff_ne.2 k3
    have e4 : (k == 4) = false := beq_eq_false_iff_ne.2 k4
    have e5 : (k == 5) = false := beq_eq_false_iff_ne.2 k5
    clear k1 k2 k3 k4 k5
    go_enter Try.func45, Try.ntmps45
    go_wp2_with (first
      | (refine toList (by rfl) ?_; refine bx hS _ _ (by rfl) _ (by first | exact evC | exact evT (by rfl)) ?_; intro px w1 hS1; clear hS; have hS := hS1; clear hS1; rw [cells_agg] at hS)
      | (refine toList (by rfl) ?_; refine ld hS _ _ (by rfl) _ _ (by rfl) (agOf (by rfl)) (by first | exact Has.z | exact Has.s Has.z | exact Has.s (Has.s Has.z) | exact Has.s (Has.s (Has.s Has.z)) | exact Has.s (Has.s (Has.s (Has.s Has.z))) | exact Has.s (Has.s (Has.s (Has.s (Has.s Has.z))))) (by rfl) ?_))
    go_ret
    exact ⟨rfl, hS.drop⟩
set_option maxRecDepth 20000 in
theorem ref_check_any (w : World) (W : World) (L : List Asrt) (hS : Sat W w L) (k a b : Int) :
    Calls Try.prog 51 #[.agg #[.int .i64 k, .int .i64 a, .int .i64 b]] w fun e w' => e = .returned (.bool (okRec k a b)) ∧ Sat W w' L := by
  unfold okRec
  by_cases k1 : k = 1
  · subst k1
    simp only [reduceIte, Int.reduceEq, false_or, or_false, or_true, true_or]
    cases ha : inB a 1 5
    · go_enter Try.func51, Try.ntmps51
      go_wp2_with (first
        | (refine toList (by rfl) ?_; refine bx hS _ _ (by rfl) _ (by first | exact evC | exact evT (by rfl)) ?_; intro px w1 hS1; clear hS; have hS := hS1; clear hS1; rw [cells_agg] at hS)
        | (refine toList (by rfl) ?_; refine ld hS _ _ (by rfl) _ _ (by rfl) (agOf (by rfl)) (by first | exact Has.z | exact Has.s Has.z | exact Has.s (Has.s Has.z) | exact Has.s (Has.s (Has.s Has.z)) | exact Has.s (Has.s (Has.s (Has.s Has.z))) | exact Has.s (Has.s (Has.s (Has.s (Has.s Has.z))))) (by rfl) ?_)
        | (go_at_call 79; refine (ref_in_any _ a _ _ ha).mono ?_; rintro e w1 ⟨rfl, rfl⟩))
      go_ret
      exact ⟨rfl, hS.drop⟩
    · cases hb : inB b 1 16777215
      all_goals
        go_enter Try.func51, Try.ntmps51
        go_wp2_with (first
          | (refine toList (by rfl) ?_; refine bx hS _ _ (by rfl) _ (by first | exact evC | exact evT (by rfl)) ?_; intro px w1 hS1; clear hS; have hS := hS1; clear hS1; rw [cells_agg] at hS)
          | (refine toList (by rfl) ?_; refine ld hS _ _ (by rfl) _ _ (by rfl) (agOf (by rfl)) (by first | exact Has.z | exact Has.s Has.z | exact Has.s (Has.s Has.z) | exact Has.s (Has.s (Has.s Has.z)) | exact Has.s (Has.s (Has.s (Has.s Has.z))) | exact Has.s (Has.s (Has.s (Has.s (Has.s Has.z))))) (by rfl) ?_)
          | (go_at_call 79; refine (ref_in_any _ a _ _ ha).mono ?_; rintro e w1 ⟨rfl, rfl⟩)
          | (go_at_call 79; refine (ref_in_any _ b _ _ hb).mono ?_; rintro e w1 ⟨rfl, rfl⟩))
        go_ret
        exact ⟨rfl, hS.drop⟩
  by_cases k2 : k = 2
  · subst k2
    simp only [reduceIte, Int.reduceEq, false_or, or_false, or_true, true_or]
    cases ha : inB a 0 4096
    · go_enter Try.func51, Try.ntmps51
      go_wp2_with (first
        | (refine toList (by rfl) ?_; refine bx hS _ _ (by rfl) _ (by first | exact evC | exact evT (by rfl)) ?_; intro px w1 hS1; clear hS; have hS := hS1; clear hS1; rw [cells_agg] at hS)
        | (refine toList (by rfl) ?_; refine ld hS _ _ (by rfl) _ _ (by rfl) (agOf (by rfl)) (by first | exact Has.z | exact Has.s Has.z | exact Has.s (Has.s Has.z) | exact Has.s (Has.s (Has.s Has.z)) | exact Has.s (Has.s (Has.s (Has.s Has.z))) | exact Has.s (Has.s (Has.s (Has.s (Has.s Has.z))))) (by rfl) ?_)
        | (go_at_call 79; refine (ref_in_any _ a _ _ ha).mono ?_; rintro e w1 ⟨rfl, rfl⟩))
      go_ret
      exact ⟨rfl, hS.drop⟩
    · cases hb : inB b 0 4096
      all_goals
        go_enter Try.func51, Try.ntmps51
        go_wp2_with (first
          | (refine toList (by rfl) ?_; refine bx hS _ _ (by rfl) _ (by first | exact evC | exact evT (by rfl)) ?_; intro px w1 hS1; clear hS; have hS := hS1; clear hS1; rw [cells_agg] at hS)
          | (refine toList (by rfl) ?_; refine ld hS _ _ (by rfl) _ _ (by rfl) (agOf (by rfl)) (by first | exact Has.z | exact Has.s Has.z | exact Has.s (Has.s Has.z) | exact Has.s (Has.s (Has.s Has.z)) | exact Has.s (Has.s (Has.s (Has.s Has.z))) | exact Has.s (Has.s (Has.s (Has.s (Has.s Has.z))))) (by rfl) ?_)
          | (go_at_call 79; refine (ref_in_any _ a _ _ ha).mono ?_; rintro e w1 ⟨rfl, rfl⟩)
          | (go_at_call 79; refine (ref_in_any _ b _ _ hb).mono ?_; rintro e w1 ⟨rfl, rfl⟩))
        go_ret
        exact ⟨rfl, hS.drop⟩
  by_cases k5 : k = 5
  · subst k5
    simp only [reduceIte, Int.reduceEq, false_or, or_false, or_true, true_or]
    cases ha : inB a 0 4096
    · go_enter Try.func51, Try.ntmps51
      go_wp2_with (first
        | (refine toList (by rfl) ?_; refine bx hS _ _ (by rfl) _ (by first | exact evC | exact evT (by rfl)) ?_; intro px w1 hS1; clear hS; have hS := hS1; clear hS1; rw [cells_agg] at hS)
        | (refine toList (by rfl) ?_; refine ld hS _ _ (by rfl) _ _ (by rfl) (agOf (by rfl)) (by first | exact Has.z | exact Has.s Has.z | exact Has.s (Has.s Has.z) | exact Has.s (Has.s (Has.s Has.z)) | exact Has.s (Has.s (Has.s (Has.s Has.z))) | exact Has.s (Has.s (Has.s (Has.s (Has.s Has.z))))) (by rfl) ?_)
        | (go_at_call 79; refine (ref_in_any _ a _ _ ha).mono ?_; rintro e w1 ⟨rfl, rfl⟩))
      go_ret
      exact ⟨rfl, hS.drop⟩
    · cases hb : inB b 0 4096
      all_goals
        go_enter Try.func51, Try.ntmps51
        go_wp2_with (first
          | (refine toList (by rfl) ?_; refine bx hS _ _ (by rfl) _ (by first | exact evC | exact evT (by rfl)) ?_; intro px w1 hS1; clear hS; have hS := hS1; clear hS1; rw [cells_agg] at hS)
          | (refine toList (by rfl) ?_; refine ld hS _ _ (by rfl) _ _ (by rfl) (agOf (by rfl)) (by first | exact Has.z | exact Has.s Has.z | exact Has.s (Has.s Has.z) | exact Has.s (Has.s (Has.s Has.z)) | exact Has.s (Has.s (Has.s (Has.s Has.z))) | exact Has.s (Has.s (Has.s (Has.s (Has.s Has.z))))) (by rfl) ?_)
          | (go_at_call 79; refine (ref_in_any _ a _ _ ha).mono ?_; rintro e w1 ⟨rfl, rfl⟩)
          | (go_at_call 79; refine (ref_in_any _ b _ _ hb).mono ?_; rintro e w1 ⟨rfl, rfl⟩))
        go_ret
        exact ⟨rfl, hS.drop⟩
  by_cases k3 : k = 3
  · subst k3
    simp only [reduceIte, Int.reduceEq, false_or, or_false, or_true, true_or]
    cases ha : inB a 0 4096
    · go_enter Try.func51, Try.ntmps51
      go_wp2_with (first
        | (refine toList (by rfl) ?_; refine bx hS _ _ (by rfl) _ (by first | exact evC | exact evT (by rfl)) ?_; intro px w1 hS1; clear hS; have hS := hS1; clear hS1; rw [cells_agg] at hS)
        | (refine toList (by rfl) ?_; refine ld hS _ _ (by rfl) _ _ (by rfl) (agOf (by rfl)) (by first | exact Has.z | exact Has.s Has.z | exact Has.s (Has.s Has.z) | exact Has.s (Has.s (Has.s Has.z)) | exact Has.s (Has.s (Has.s (Has.s Has.z))) | exact Has.s (Has.s (Has.s (Has.s (Has.s Has.z))))) (by rfl) ?_)
        | (go_at_call 79; refine (ref_in_any _ a _ _ ha).mono ?_; rintro e w1 ⟨rfl, rfl⟩))
      go_ret
      exact ⟨rfl, hS.drop⟩
    · cases hb : inB b 0 7
      all_goals
        go_enter Try.func51, Try.ntmps51
        go_wp2_with (first
          | (refine toList (by rfl) ?_; refine bx hS _ _ (by rfl) _ (by first | exact evC | exact evT (by rfl)) ?_; intro px w1 hS1; clear hS; have hS := hS1; clear hS1; rw [cells_agg] at hS)
          | (refine toList (by rfl) ?_; refine ld hS _ _ (by rfl) _ _ (by rfl) (agOf (by rfl)) (by first | exact Has.z | exact Has.s Has.z | exact Has.s (Has.s Has.z) | exact Has.s (Has.s (Has.s Has.z)) | exact Has.s (Has.s (Has.s (Has.s Has.z))) | exact Has.s (Has.s (Has.s (Has.s (Has.s Has.z))))) (by rfl) ?_)
          | (go_at_call 79; refine (ref_in_any _ a _ _ ha).mono ?_; rintro e w1 ⟨rfl, rfl⟩)
          | (go_at_call 79; refine (ref_in_any _ b _ _ hb).mono ?_; rintro e w1 ⟨rfl, rfl⟩))
        go_ret
        exact ⟨rfl, hS.drop⟩
  by_cases k4 : k = 4
  · subst k4
    simp only [reduceIte, Int.reduceEq, false_or, or_false, or_true, true_or]
    cases ha : inB a 0 4096
    · go_enter Try.func51, Try.ntmps51
      go_wp2_with (first
        | (refine toList (by rfl) ?_; refine bx hS _ _ (by rfl) _ (by first | exact evC | exact evT (by rfl)) ?_; intro px w1 hS1; clear hS; have hS := hS1; clear hS1; rw [cells_agg] at hS)
        | (refine toList (by rfl) ?_; refine ld hS _ _ (by rfl) _ _ (by rfl) (agOf (by rfl)) (by first | exact Has.z | exact Has.s Has.z | exact Has.s (Has.s Has.z) | exact Has.s (Has.s (Has.s Has.z)) | exact Has.s (Has.s (Has.s (Has.s Has.z))) | exact Has.s (Has.s (Has.s (Has.s (Has.s Has.z))))) (by rfl) ?_)
        | (go_at_call 79; refine (ref_in_any _ a _ _ ha).mono ?_; rintro e w1 ⟨rfl, rfl⟩))
      go_ret
      exact ⟨rfl, hS.drop⟩
    · cases hb : inB b 0 7
      all_goals
        go_enter Try.func51, Try.ntmps51
        go_wp2_with (first
          | (refine toList (by rfl) ?_; refine bx hS _ _ (by rfl) _ (by first | exact evC | exact evT (by rfl)) ?_; intro px w1 hS1; clear hS; have hS := hS1; clear hS1; rw [cells_agg] at hS)
          | (refine toList (by rfl) ?_; refine ld hS _ _ (by rfl) _ _ (by rfl) (agOf (by rfl)) (by first | exact Has.z | exact Has.s Has.z | exact Has.s (Has.s Has.z) | exact Has.s (Has.s (Has.s Has.z)) | exact Has.s (Has.s (Has.s (Has.s Has.z))) | exact Has.s (Has.s (Has.s (Has.s (Has.s Has.z))))) (by rfl) ?_)
          | (go_at_call 79; refine (ref_in_any _ a _ _ ha).mono ?_; rintro e w1 ⟨rfl, rfl⟩)
          | (go_at_call 79; refine (ref_in_any _ b _ _ hb).mono ?_; rintro e w1 ⟨rfl, rfl⟩))
        go_ret
        exact ⟨rfl, hS.drop⟩
  · rw [if_neg k1, if_neg (by omega), if_neg (by omega)]
    have e1 : (k == 1) = false := beq_eq_false_iff_ne.2 k1
    have e2 : (k == 2) = false := beq_eq_false_iff_ne.2 k2
    have e3 : (k == 3) = false := beq_eq_false_iff_ne.2 k3
    have e4 : (k == 4) = false := beq_eq_false_iff_ne.2 k4
    have e5 : (k == 5) = false := beq_eq_false_iff_ne.2 k5
    clear k1 k2 k3 k4 k5
    go_enter Try.func51, Try.ntmps51
    go_wp2_with (first
      | (refine toList (by rfl) ?_; refine bx hS _ _ (by rfl) _ (by first | exact evC | exact evT (by rfl)) ?_; intro px w1 hS1; clear hS; have hS := hS1; clear hS1; rw [cells_agg] at hS)
      | (refine toList (by rfl) ?_; refine ld hS _ _ (by rfl) _ _ (by rfl) (agOf (by rfl)) (by first | exact Has.z | exact Has.s Has.z | exact Has.s (Has.s Has.z) | exact Has.s (Has.s (Has.s Has.z)) | exact Has.s (Has.s (Has.s (Has.s Has.z))) | exact Has.s (Has.s (Has.s (Has.s (Has.s Has.z))))) (by rfl) ?_))
    go_ret
    exact ⟨rfl, hS.drop⟩
end Go.Proofs.Ytapodjhkpahdnaa
