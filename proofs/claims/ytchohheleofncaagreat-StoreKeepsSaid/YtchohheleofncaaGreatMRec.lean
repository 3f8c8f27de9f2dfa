/-
 Packages record, pedigreeref21: contracts of in, Check.
 Records: their cells.
 Packages record: Records, Nodes.
 Packages record, pedigreeref21: contracts of Apply (what one record does to a graph).
 Packages record, pedigreeref21: contracts of Graph (what records do to a new graph).
-/
import Derived.Test.YtchohheleofncaaGreatMGrc
import Derived.Test.YtchohheleofncaaGreatMReg
set_option linter.unusedSimpArgs false
set_option linter.unusedVariables false
namespace Go.Proofs.YtchohheleofncaaGreat
open Go.RowKit Go.Sep
attribute [local irreducible] Go.Oper.wp Go.wpList Go.Calls Go.Code.wp Go.Sep.Reg
def inB (v a b : Int) : Bool := decide (a ≤ v) && decide (v ≤ b)
def okRec (k a b : Int) : Bool :=
 if k = 1 then inB a 1 5 && inB b 1 16777215 else if k = 2 ∨ k = 5 then inB a 0 4096 && inB b 0 4096 else if k = 3 ∨ k = 4 then inB a 0 4096 && inB b 0 7 else false
theorem recin_any (w : World) (v a b : Int) {r : Bool} (h : inB v a b = r) :
  Calls Tryz.prog 95 #[.int .i64 v, .int .i64 a, .int .i64 b] w fun e w' => e = .returned (.bool r) ∧ w = w' := by
 subst h
 unfold inB
 by_cases h1 : a ≤ v
 ·by_cases h2 : v ≤ b
  ·go_enter Tryz.func95, Tryz.ntmps95
   go_wp2
   go_ret
   exact ⟨by simp [h1, h2], rfl⟩
  ·have h2 : b < v := by omega
   go_enter Tryz.func95, Tryz.ntmps95
   go_wp2
   go_ret
   exact ⟨by simp [h1]; omega, rfl⟩
 ·have h1 : v < a := by omega
  go_enter Tryz.func95, Tryz.ntmps95
  go_wp2
  go_ret
  exact ⟨by simp; omega, rfl⟩
set_option maxRecDepth 20000 in
theorem check_any (w : World) (W : World) (L : List Asrt) (hS : Sat W w L) (k a b : Int) :
  Calls Tryz.prog 53 #[.agg #[.int .i64 k, .int .i64 a, .int .i64 b]] w fun e w' => e = .returned (.bool (okRec k a b)) ∧ Sat W w' L := by
 unfold okRec
 by_cases k1 : k = 1
 ·subst k1
  simp only [reduceIte, Int.reduceEq, false_or, or_false, or_true, true_or]
  cases ha : inB a 1 5
  ·go_enter Tryz.func53, Tryz.ntmps53
   go_wp2_with (first
    | (refine toList (by rfl) ?_; refine bx hS _ _ (by rfl) _ (by first | exact evC | exact evT (by rfl)) ?_; clear hS; intro px w1 hS; rw [cells_agg] at hS)
    | (refine toList (by rfl) ?_; refine ld hS _ _ (by rfl) _ _ (by rfl) (agOf (by rfl)) (by repeat first | exact Has.z | apply Has.s) (by rfl) ?_)
    | (go_at_call 95; refine (recin_any _ a _ _ ha).mono ?_; rintro e w1 ⟨rfl, rfl⟩))
   go_ret
   exact ⟨rfl, hS.drop⟩
  ·cases hb : inB b 1 16777215
   all_goals
    go_enter Tryz.func53, Tryz.ntmps53
    go_wp2_with (first
     | (refine toList (by rfl) ?_; refine bx hS _ _ (by rfl) _ (by first | exact evC | exact evT (by rfl)) ?_; clear hS; intro px w1 hS; rw [cells_agg] at hS)
     | (refine toList (by rfl) ?_; refine ld hS _ _ (by rfl) _ _ (by rfl) (agOf (by rfl)) (by repeat first | exact Has.z | apply Has.s) (by rfl) ?_)
     | (go_at_call 95; refine (recin_any _ a _ _ ha).mono ?_; rintro e w1 ⟨rfl, rfl⟩)
     | (go_at_call 95; refine (recin_any _ b _ _ hb).mono ?_; rintro e w1 ⟨rfl, rfl⟩))
    go_ret
    exact ⟨rfl, hS.drop⟩
 by_cases k2 : k = 2
 ·subst k2
  simp only [reduceIte, Int.reduceEq, false_or, or_false, or_true, true_or]
  cases ha : inB a 0 4096
  ·go_enter Tryz.func53, Tryz.ntmps53
   go_wp2_with (first
    | (refine toList (by rfl) ?_; refine bx hS _ _ (by rfl) _ (by first | exact evC | exact evT (by rfl)) ?_; clear hS; intro px w1 hS; rw [cells_agg] at hS)
    | (refine toList (by rfl) ?_; refine ld hS _ _ (by rfl) _ _ (by rfl) (agOf (by rfl)) (by repeat first | exact Has.z | apply Has.s) (by rfl) ?_)
    | (go_at_call 95; refine (recin_any _ a _ _ ha).mono ?_; rintro e w1 ⟨rfl, rfl⟩))
   go_ret
   exact ⟨rfl, hS.drop⟩
  ·cases hb : inB b 0 4096
   all_goals
    go_enter Tryz.func53, Tryz.ntmps53
    go_wp2_with (first
     | (refine toList (by rfl) ?_; refine bx hS _ _ (by rfl) _ (by first | exact evC | exact evT (by rfl)) ?_; clear hS; intro px w1 hS; rw [cells_agg] at hS)
     | (refine toList (by rfl) ?_; refine ld hS _ _ (by rfl) _ _ (by rfl) (agOf (by rfl)) (by repeat first | exact Has.z | apply Has.s) (by rfl) ?_)
     | (go_at_call 95; refine (recin_any _ a _ _ ha).mono ?_; rintro e w1 ⟨rfl, rfl⟩)
     | (go_at_call 95; refine (recin_any _ b _ _ hb).mono ?_; rintro e w1 ⟨rfl, rfl⟩))
    go_ret
    exact ⟨rfl, hS.drop⟩
 by_cases k5 : k = 5
 ·subst k5
  simp only [reduceIte, Int.reduceEq, false_or, or_false, or_true, true_or]
  cases ha : inB a 0 4096
  ·go_enter Tryz.func53, Tryz.ntmps53
   go_wp2_with (first
    | (refine toList (by rfl) ?_; refine bx hS _ _ (by rfl) _ (by first | exact evC | exact evT (by rfl)) ?_; clear hS; intro px w1 hS; rw [cells_agg] at hS)
    | (refine toList (by rfl) ?_; refine ld hS _ _ (by rfl) _ _ (by rfl) (agOf (by rfl)) (by repeat first | exact Has.z | apply Has.s) (by rfl) ?_)
    | (go_at_call 95; refine (recin_any _ a _ _ ha).mono ?_; rintro e w1 ⟨rfl, rfl⟩))
   go_ret
   exact ⟨rfl, hS.drop⟩
  ·cases hb : inB b 0 4096
   all_goals
    go_enter Tryz.func53, Tryz.ntmps53
    go_wp2_with (first
     | (refine toList (by rfl) ?_; refine bx hS _ _ (by rfl) _ (by first | exact evC | exact evT (by rfl)) ?_; clear hS; intro px w1 hS; rw [cells_agg] at hS)
     | (refine toList (by rfl) ?_; refine ld hS _ _ (by rfl) _ _ (by rfl) (agOf (by rfl)) (by repeat first | exact Has.z | apply Has.s) (by rfl) ?_)
     | (go_at_call 95; refine (recin_any _ a _ _ ha).mono ?_; rintro e w1 ⟨rfl, rfl⟩)
     | (go_at_call 95; refine (recin_any _ b _ _ hb).mono ?_; rintro e w1 ⟨rfl, rfl⟩))
    go_ret
    exact ⟨rfl, hS.drop⟩
 by_cases k3 : k = 3
 ·subst k3
  simp only [reduceIte, Int.reduceEq, false_or, or_false, or_true, true_or]
  cases ha : inB a 0 4096
  ·go_enter Tryz.func53, Tryz.ntmps53
   go_wp2_with (first
    | (refine toList (by rfl) ?_; refine bx hS _ _ (by rfl) _ (by first | exact evC | exact evT (by rfl)) ?_; clear hS; intro px w1 hS; rw [cells_agg] at hS)
    | (refine toList (by rfl) ?_; refine ld hS _ _ (by rfl) _ _ (by rfl) (agOf (by rfl)) (by repeat first | exact Has.z | apply Has.s) (by rfl) ?_)
    | (go_at_call 95; refine (recin_any _ a _ _ ha).mono ?_; rintro e w1 ⟨rfl, rfl⟩))
   go_ret
   exact ⟨rfl, hS.drop⟩
  ·cases hb : inB b 0 7
   all_goals
    go_enter Tryz.func53, Tryz.ntmps53
    go_wp2_with (first
     | (refine toList (by rfl) ?_; refine bx hS _ _ (by rfl) _ (by first | exact evC | exact evT (by rfl)) ?_; clear hS; intro px w1 hS; rw [cells_agg] at hS)
     | (refine toList (by rfl) ?_; refine ld hS _ _ (by rfl) _ _ (by rfl) (agOf (by rfl)) (by repeat first | exact Has.z | apply Has.s) (by rfl) ?_)
     | (go_at_call 95; refine (recin_any _ a _ _ ha).mono ?_; rintro e w1 ⟨rfl, rfl⟩)
     | (go_at_call 95; refine (recin_any _ b _ _ hb).mono ?_; rintro e w1 ⟨rfl, rfl⟩))
    go_ret
    exact ⟨rfl, hS.drop⟩
 by_cases k4 : k = 4
 ·subst k4
  simp only [reduceIte, Int.reduceEq, false_or, or_false, or_true, true_or]
  cases ha : inB a 0 4096
  ·go_enter Tryz.func53, Tryz.ntmps53
   go_wp2_with (first
    | (refine toList (by rfl) ?_; refine bx hS _ _ (by rfl) _ (by first | exact evC | exact evT (by rfl)) ?_; clear hS; intro px w1 hS; rw [cells_agg] at hS)
    | (refine toList (by rfl) ?_; refine ld hS _ _ (by rfl) _ _ (by rfl) (agOf (by rfl)) (by repeat first | exact Has.z | apply Has.s) (by rfl) ?_)
    | (go_at_call 95; refine (recin_any _ a _ _ ha).mono ?_; rintro e w1 ⟨rfl, rfl⟩))
   go_ret
   exact ⟨rfl, hS.drop⟩
  ·cases hb : inB b 0 7
   all_goals
    go_enter Tryz.func53, Tryz.ntmps53
    go_wp2_with (first
     | (refine toList (by rfl) ?_; refine bx hS _ _ (by rfl) _ (by first | exact evC | exact evT (by rfl)) ?_; clear hS; intro px w1 hS; rw [cells_agg] at hS)
     | (refine toList (by rfl) ?_; refine ld hS _ _ (by rfl) _ _ (by rfl) (agOf (by rfl)) (by repeat first | exact Has.z | apply Has.s) (by rfl) ?_)
     | (go_at_call 95; refine (recin_any _ a _ _ ha).mono ?_; rintro e w1 ⟨rfl, rfl⟩)
     | (go_at_call 95; refine (recin_any _ b _ _ hb).mono ?_; rintro e w1 ⟨rfl, rfl⟩))
    go_ret
    exact ⟨rfl, hS.drop⟩
 ·rw [if_neg k1, if_neg (by omega), if_neg (by omega)]
  have e1 : (k == 1) = false := beq_eq_false_iff_ne.2 k1
  have e2 : (k == 2) = false := beq_eq_false_iff_ne.2 k2
  have e3 : (k == 3) = false := beq_eq_false_iff_ne.2 k3
  have e4 : (k == 4) = false := beq_eq_false_iff_ne.2 k4
  have e5 : (k == 5) = false := beq_eq_false_iff_ne.2 k5
  clear k1 k2 k3 k4 k5
  go_enter Tryz.func53, Tryz.ntmps53
  go_wp2_with (first
   | (refine toList (by rfl) ?_; refine bx hS _ _ (by rfl) _ (by first | exact evC | exact evT (by rfl)) ?_; clear hS; intro px w1 hS; rw [cells_agg] at hS)
   | (refine toList (by rfl) ?_; refine ld hS _ _ (by rfl) _ _ (by rfl) (agOf (by rfl)) (by repeat first | exact Has.z | apply Has.s) (by rfl) ?_))
  go_ret
  exact ⟨rfl, hS.drop⟩
end Go.Proofs.YtchohheleofncaaGreat
namespace Go.Proofs.YtchohheleofncaaGreat
open Go.Sep
structure RecD where
 k : Int
 a : Int
 b : Int
instance : DecidableEq RecD := fun x y => if h : x.k = y.k ∧ x.a = y.a ∧ x.b = y.b then isTrue (by cases x; cases y; simp_all) else isFalse (fun e => by subst e; exact h ⟨rfl, rfl, rfl⟩)
def rv (x : RecD) : List Value := [.int .i64 x.k, .int .i64 x.a, .int .i64 x.b]
theorem rv_len (l : List RecD) : ∀ x ∈ l, (rv x).length = 3 := fun _ _ => rfl
theorem rv_all (x : RecD) : ∀ u ∈ rv x, u.oneCell' = true := fun u hu => by
 simp only [rv, List.mem_cons, List.not_mem_nil, or_false] at hu
 rcases hu with rfl | rfl | rfl <;> rfl
theorem rv_one (l : List RecD) : ∀ u ∈ l.flatMap rv, u.oneCell' = true := fun u hu => by
 obtain ⟨x, _, hu⟩ := List.mem_flatMap.1 hu
 exact rv_all x u hu

end Go.Proofs.YtchohheleofncaaGreat
namespace Go.Proofs.YtchohheleofncaaGreat
open Go.RowKit Go.Sep
attribute [local irreducible] Go.Oper.wp Go.wpList Go.Calls Go.Code.wp Go.Sep.Reg
def nodes (l : List RecD) : Nat := (l.filter fun x => x.k == 1).length
end Go.Proofs.YtchohheleofncaaGreat
namespace Go.Proofs.YtchohheleofncaaGreat
open Go.RowKit Go.Sep
attribute [local irreducible] Go.Oper.wp Go.wpList Go.Calls Go.Code.wp Go.Sep.Reg
noncomputable def Gr.appG (G : Gr) (k a b : Int) : Gr :=
 if okRec k a b = true then (if k = 1 then G.addG a b else if k = 2 then G.edgeG a b else if k = 3 then G.markG a b else if k = 4 then G.clearG a b else G.lostG a b) else G
noncomputable def Gr.appE (G : Gr) (k a b : Int) : Int :=
 if okRec k a b = true then (if k = 1 then G.addE a b else if k = 2 then G.edgeE a b else if k = 3 then bitE G a b else if k = 4 then bitE G a b else lostE G a b) else 1
theorem okRec_kind {k a b : Int} (h : okRec k a b = true) : k = 1 ∨ k = 2 ∨ k = 3 ∨ k = 4 ∨ k = 5 := by
 unfold okRec at h
 split at h
 ·omega
 ·split at h
  ·omega
  ·split at h
   ·omega
   ·cases h
theorem Gr.appG_ok {G : Gr} (hG : G.Ok) (hel : G.E.length < 1000000) (k a b : Int) : (G.appG k a b).Ok := by
 unfold Gr.appG
 split
 ·split
  ·exact Gr.addG_ok hG _ _
  ·split
   ·exact Gr.edgeG_ok hG _ _ hel
   ·split
    ·exact Gr.markG_ok hG _ _
    ·split
     ·exact Gr.clearG_ok hG _ _
     ·exact Gr.lostG_ok hG _ _
 ·exact hG
theorem Gr.appG_E (G : Gr) (k a b : Int) : (G.appG k a b).E.length ≤ G.E.length + 1 := by
 unfold Gr.appG
 split
 ·split
  ·unfold Gr.addG; split <;> simp [Gr.plus]
  ·split
   ·exact Gr.edgeG_len _ _ _
   ·split
    ·unfold Gr.markG; split <;> simp [Gr.withN]
    ·split
     ·unfold Gr.clearG; split <;> simp [Gr.withN]
     ·unfold Gr.lostG; split <;> simp [Gr.withN]
 ·omega
set_option maxRecDepth 20000 in
set_option maxHeartbeats 4000000 in
theorem apply_any {W w : World} {L : List Asrt} {p : Nat} {G : Gr} (hS : Sat W w (IsG p G :: L)) (hG : G.Ok) (k a b : Int) :
  Calls Tryz.prog 97 #[.pointer (some ⟨p, 0, none⟩), .agg #[.int .i64 k, .int .i64 a, .int .i64 b]] w fun e w' => e = .returned (.int .i64 (G.appE k a b)) ∧ Sat W w' (IsG p (G.appG k a b) :: L) := by
 cases hok : okRec k a b with
 | false =>
  have HOK := Lib.hid hok
  have HE := Lib.hid (show G.appE k a b = 1 by unfold Gr.appE; rw [hok]; rfl)
  have HG2 := Lib.hid (show G.appG k a b = G by unfold Gr.appG; rw [hok]; rfl)
  rw [HE.out, HG2.out]
  clear hok
  go_enter Tryz.func97, Tryz.ntmps97
  go_wp2_with (first
   | (refine toList (by rfl) ?_; refine bx hS _ _ (by rfl) _ (by first | exact evC | exact evT (by rfl)) ?_; clear hS; intro px w1 hS; rw [cells_agg] at hS)
   | (refine toList (by rfl) ?_; refine wp_of_reads (rLdA hS _ _ (by rfl) _ _ (by rfl) (agOf (by rfl)) (szOf (by rfl)) Has.z (vs := [.int .i64 k, .int .i64 a, .int .i64 b]) (by rfl) (by rfl)) ?_)
   | (refine toList (by rfl) ?_; refine ld hS _ _ (by rfl) _ _ (by rfl) (agOf (by rfl)) (by repeat first | exact Has.z | apply Has.s) (by rfl) ?_)
   | (go_at_call 53; refine (check_any _ W _ hS k a b).mono ?_; rintro e w1 ⟨rfl, hS1⟩; rw [HOK.out]; clear hS; have hS := hS1; clear hS1))
  go_ret
  exact ⟨rfl, hS.drop⟩
 | true =>
  rcases okRec_kind hok with rfl | rfl | rfl | rfl | rfl
  ·have HOK := Lib.hid hok
   have HE := Lib.hid (show G.appE 1 a b = G.addE a b by unfold Gr.appE; rw [hok]; rfl)
   have HG2 := Lib.hid (show G.appG 1 a b = G.addG a b by unfold Gr.appG; rw [hok]; rfl)
   rw [HE.out, HG2.out]
   clear hok
   obtain ⟨G2, hG2⟩ : ∃ G2, G.addG a b = G2 := ⟨_, rfl⟩
   obtain ⟨E, hE⟩ : ∃ E, G.addE a b = E := ⟨_, rfl⟩
   obtain ⟨I, hI⟩ : ∃ I, G.addI a b = I := ⟨_, rfl⟩
   have HP := Lib.hid (fun w L (h : Sat W w (IsG p G :: L)) => (show Calls Tryz.prog 126 #[.pointer (some ⟨p, 0, none⟩), .int .i64 a, .int .i64 b] w fun e w' => e = .returned (.tuple #[.int .i64 I, .int .i64 E]) ∧ Sat W w' (IsG p G2 :: L) by
    have := add_any h hG a b
    rw [hG2, hE, hI] at this
    exact this))
   rw [hG2, hE]
   clear hG2 hE hI
   go_enter Tryz.func97, Tryz.ntmps97
   go_wp2_with (first
    | (refine toList (by rfl) ?_; refine bx hS _ _ (by rfl) _ (by first | exact evC | exact evT (by rfl)) ?_; clear hS; intro px w1 hS; rw [cells_agg] at hS)
    | (refine toList (by rfl) ?_; refine wp_of_reads (rLdA hS _ _ (by rfl) _ _ (by rfl) (agOf (by rfl)) (szOf (by rfl)) Has.z (vs := [.int .i64 1, .int .i64 a, .int .i64 b]) (by rfl) (by rfl)) ?_)
    | (refine toList (by rfl) ?_; refine ld hS _ _ (by rfl) _ _ (by rfl) (agOf (by rfl)) (by repeat first | exact Has.z | apply Has.s) (by rfl) ?_)
    | (go_at_call 53; refine (check_any _ W _ hS 1 a b).mono ?_; rintro e w1 ⟨rfl, hS1⟩; rw [HOK.out]; clear hS; have hS := hS1; clear hS1)
    | (go_at_call 126; refine (Calls.atS hS (k := 1) rfl (fun hF => HP.out _ _ hF)).mono ?_; clear hS; rintro e w1 ⟨rfl, hS⟩; dsimp only [List.set_cons_zero, List.set_cons_succ] at hS))
   go_ret
   exact ⟨rfl, hS.drop⟩
  ·have HOK := Lib.hid hok
   have HE := Lib.hid (show G.appE 2 a b = G.edgeE a b by unfold Gr.appE; rw [hok]; rfl)
   have HG2 := Lib.hid (show G.appG 2 a b = G.edgeG a b by unfold Gr.appG; rw [hok]; rfl)
   rw [HE.out, HG2.out]
   clear hok
   obtain ⟨G2, hG2⟩ : ∃ G2, G.edgeG a b = G2 := ⟨_, rfl⟩
   obtain ⟨E, hE⟩ : ∃ E, G.edgeE a b = E := ⟨_, rfl⟩
   have HP := Lib.hid (fun w L (h : Sat W w (IsG p G :: L)) => (show Calls Tryz.prog 127 #[.pointer (some ⟨p, 0, none⟩), .int .i64 a, .int .i64 b] w fun e w' => e = .returned (.int .i64 E) ∧ Sat W w' (IsG p G2 :: L) by
    have := edge_any h hG a b
    rw [hG2, hE] at this
    exact this))
   rw [hG2, hE]
   clear hG2 hE
   go_enter Tryz.func97, Tryz.ntmps97
   go_wp2_with (first
    | (refine toList (by rfl) ?_; refine bx hS _ _ (by rfl) _ (by first | exact evC | exact evT (by rfl)) ?_; clear hS; intro px w1 hS; rw [cells_agg] at hS)
    | (refine toList (by rfl) ?_; refine wp_of_reads (rLdA hS _ _ (by rfl) _ _ (by rfl) (agOf (by rfl)) (szOf (by rfl)) Has.z (vs := [.int .i64 2, .int .i64 a, .int .i64 b]) (by rfl) (by rfl)) ?_)
    | (refine toList (by rfl) ?_; refine ld hS _ _ (by rfl) _ _ (by rfl) (agOf (by rfl)) (by repeat first | exact Has.z | apply Has.s) (by rfl) ?_)
    | (go_at_call 53; refine (check_any _ W _ hS 2 a b).mono ?_; rintro e w1 ⟨rfl, hS1⟩; rw [HOK.out]; clear hS; have hS := hS1; clear hS1)
    | (go_at_call 127; refine (Calls.atS hS (k := 1) rfl (fun hF => HP.out _ _ hF)).mono ?_; clear hS; rintro e w1 ⟨rfl, hS⟩; dsimp only [List.set_cons_zero, List.set_cons_succ] at hS))
   go_ret
   exact ⟨rfl, hS.drop⟩
  ·have HOK := Lib.hid hok
   have HE := Lib.hid (show G.appE 3 a b = bitE G a b by unfold Gr.appE; rw [hok]; rfl)
   have HG2 := Lib.hid (show G.appG 3 a b = G.markG a b by unfold Gr.appG; rw [hok]; rfl)
   rw [HE.out, HG2.out]
   clear hok
   obtain ⟨G2, hG2⟩ : ∃ G2, G.markG a b = G2 := ⟨_, rfl⟩
   obtain ⟨E, hE⟩ : ∃ E, bitE G a b = E := ⟨_, rfl⟩
   have HP := Lib.hid (fun w L (h : Sat W w (IsG p G :: L)) => (show Calls Tryz.prog 128 #[.pointer (some ⟨p, 0, none⟩), .int .i64 a, .int .i64 b] w fun e w' => e = .returned (.int .i64 E) ∧ Sat W w' (IsG p G2 :: L) by
    have := mark_any h a b hG.marks
    rw [hG2, hE] at this
    exact this))
   rw [hG2, hE]
   clear hG2 hE
   go_enter Tryz.func97, Tryz.ntmps97
   go_wp2_with (first
    | (refine toList (by rfl) ?_; refine bx hS _ _ (by rfl) _ (by first | exact evC | exact evT (by rfl)) ?_; clear hS; intro px w1 hS; rw [cells_agg] at hS)
    | (refine toList (by rfl) ?_; refine wp_of_reads (rLdA hS _ _ (by rfl) _ _ (by rfl) (agOf (by rfl)) (szOf (by rfl)) Has.z (vs := [.int .i64 3, .int .i64 a, .int .i64 b]) (by rfl) (by rfl)) ?_)
    | (refine toList (by rfl) ?_; refine ld hS _ _ (by rfl) _ _ (by rfl) (agOf (by rfl)) (by repeat first | exact Has.z | apply Has.s) (by rfl) ?_)
    | (go_at_call 53; refine (check_any _ W _ hS 3 a b).mono ?_; rintro e w1 ⟨rfl, hS1⟩; rw [HOK.out]; clear hS; have hS := hS1; clear hS1)
    | (go_at_call 128; refine (Calls.atS hS (k := 1) rfl (fun hF => HP.out _ _ hF)).mono ?_; clear hS; rintro e w1 ⟨rfl, hS⟩; dsimp only [List.set_cons_zero, List.set_cons_succ] at hS))
   go_ret
   exact ⟨rfl, hS.drop⟩
  ·have HOK := Lib.hid hok
   have HE := Lib.hid (show G.appE 4 a b = bitE G a b by unfold Gr.appE; rw [hok]; rfl)
   have HG2 := Lib.hid (show G.appG 4 a b = G.clearG a b by unfold Gr.appG; rw [hok]; rfl)
   rw [HE.out, HG2.out]
   clear hok
   obtain ⟨G2, hG2⟩ : ∃ G2, G.clearG a b = G2 := ⟨_, rfl⟩
   obtain ⟨E, hE⟩ : ∃ E, bitE G a b = E := ⟨_, rfl⟩
   have HP := Lib.hid (fun w L (h : Sat W w (IsG p G :: L)) => (show Calls Tryz.prog 129 #[.pointer (some ⟨p, 0, none⟩), .int .i64 a, .int .i64 b] w fun e w' => e = .returned (.int .i64 E) ∧ Sat W w' (IsG p G2 :: L) by
    have := clear_any h a b hG.marks
    rw [hG2, hE] at this
    exact this))
   rw [hG2, hE]
   clear hG2 hE
   go_enter Tryz.func97, Tryz.ntmps97
   go_wp2_with (first
    | (refine toList (by rfl) ?_; refine bx hS _ _ (by rfl) _ (by first | exact evC | exact evT (by rfl)) ?_; clear hS; intro px w1 hS; rw [cells_agg] at hS)
    | (refine toList (by rfl) ?_; refine wp_of_reads (rLdA hS _ _ (by rfl) _ _ (by rfl) (agOf (by rfl)) (szOf (by rfl)) Has.z (vs := [.int .i64 4, .int .i64 a, .int .i64 b]) (by rfl) (by rfl)) ?_)
    | (refine toList (by rfl) ?_; refine ld hS _ _ (by rfl) _ _ (by rfl) (agOf (by rfl)) (by repeat first | exact Has.z | apply Has.s) (by rfl) ?_)
    | (go_at_call 53; refine (check_any _ W _ hS 4 a b).mono ?_; rintro e w1 ⟨rfl, hS1⟩; rw [HOK.out]; clear hS; have hS := hS1; clear hS1)
    | (go_at_call 129; refine (Calls.atS hS (k := 1) rfl (fun hF => HP.out _ _ hF)).mono ?_; clear hS; rintro e w1 ⟨rfl, hS⟩; dsimp only [List.set_cons_zero, List.set_cons_succ] at hS))
   go_ret
   exact ⟨rfl, hS.drop⟩
  ·have HOK := Lib.hid hok
   have HE := Lib.hid (show G.appE 5 a b = lostE G a b by unfold Gr.appE; rw [hok]; rfl)
   have HG2 := Lib.hid (show G.appG 5 a b = G.lostG a b by unfold Gr.appG; rw [hok]; rfl)
   rw [HE.out, HG2.out]
   clear hok
   obtain ⟨G2, hG2⟩ : ∃ G2, G.lostG a b = G2 := ⟨_, rfl⟩
   obtain ⟨E, hE⟩ : ∃ E, lostE G a b = E := ⟨_, rfl⟩
   have HP := Lib.hid (fun w L (h : Sat W w (IsG p G :: L)) => (show Calls Tryz.prog 130 #[.pointer (some ⟨p, 0, none⟩), .int .i64 a, .int .i64 b] w fun e w' => e = .returned (.int .i64 E) ∧ Sat W w' (IsG p G2 :: L) by
    have := lost_any h a b (by have := hG.len; omega)
    rw [hG2, hE] at this
    exact this))
   rw [hG2, hE]
   clear hG2 hE
   go_enter Tryz.func97, Tryz.ntmps97
   go_wp2_with (first
    | (refine toList (by rfl) ?_; refine bx hS _ _ (by rfl) _ (by first | exact evC | exact evT (by rfl)) ?_; clear hS; intro px w1 hS; rw [cells_agg] at hS)
    | (refine toList (by rfl) ?_; refine wp_of_reads (rLdA hS _ _ (by rfl) _ _ (by rfl) (agOf (by rfl)) (szOf (by rfl)) Has.z (vs := [.int .i64 5, .int .i64 a, .int .i64 b]) (by rfl) (by rfl)) ?_)
    | (refine toList (by rfl) ?_; refine ld hS _ _ (by rfl) _ _ (by rfl) (agOf (by rfl)) (by repeat first | exact Has.z | apply Has.s) (by rfl) ?_)
    | (go_at_call 53; refine (check_any _ W _ hS 5 a b).mono ?_; rintro e w1 ⟨rfl, hS1⟩; rw [HOK.out]; clear hS; have hS := hS1; clear hS1)
    | (go_at_call 130; refine (Calls.atS hS (k := 1) rfl (fun hF => HP.out _ _ hF)).mono ?_; clear hS; rintro e w1 ⟨rfl, hS⟩; dsimp only [List.set_cons_zero, List.set_cons_succ] at hS))
   go_ret
   exact ⟨rfl, hS.drop⟩
end Go.Proofs.YtchohheleofncaaGreat
namespace Go.Proofs.YtchohheleofncaaGreat
open Go.RowKit Go.Sep
attribute [local irreducible] Go.Oper.wp Go.wpList Go.Calls Go.Code.wp Go.Sep.Reg
noncomputable def Gr.appL : Gr → List RecD → Gr × Nat
 | G, [] => (G, 0)
 | G, x :: l => if G.appE x.k x.a x.b = 0 then ((Gr.appL (G.appG x.k x.a x.b) l).1, (Gr.appL (G.appG x.k x.a x.b) l).2 + 1) else (G.appG x.k x.a x.b, 0)
theorem Gr.appL_yes {G : Gr} {l : List RecD} {i : Nat} {x : RecD} (hx : l[i]? = some x) (he : G.appE x.k x.a x.b = 0) :
  G.appL (l.drop i) = (((G.appG x.k x.a x.b).appL (l.drop (i + 1))).1, ((G.appG x.k x.a x.b).appL (l.drop (i + 1))).2 + 1) := by
 obtain ⟨hi, rfl⟩ := List.getElem?_eq_some_iff.1 hx
 rw [List.drop_eq_getElem_cons hi, Gr.appL, if_pos he]
theorem Gr.appL_no {G : Gr} {l : List RecD} {i : Nat} {x : RecD} (hx : l[i]? = some x) (he : G.appE x.k x.a x.b ≠ 0) :
  G.appL (l.drop i) = (G.appG x.k x.a x.b, 0) := by
 obtain ⟨hi, rfl⟩ := List.getElem?_eq_some_iff.1 hx
 rw [List.drop_eq_getElem_cons hi, Gr.appL, if_neg he]
set_option maxRecDepth 20000 in
set_option maxHeartbeats 1000000 in
theorem graph_any {W w : World} {L : List Asrt} (hS : Sat W w L) (l : List RecD) (ao : Option Addr) (c : Nat) (hr : ∀ w, Sat W w L → Rd w (.slice ao l.length c) l.length 3 (l.flatMap rv)) (hb : l.length ≤ 900000) :
  Calls Tryz.prog 54 #[.slice ao l.length c] w fun e w' => ∃ p, e = .returned (.tuple #[.pointer (some ⟨p, 0, none⟩), .int .i64 ((Gr.new.appL l).2 : Nat), .bool (decide ((Gr.new.appL l).2 = l.length))]) ∧ Sat W w' (IsG p (Gr.new.appL l).1 :: L) := by
 have HR : Hid (∀ w, Sat W w L → Rd w (.slice ao l.length c) l.length 3 (l.flatMap rv)) := Lib.hid hr
 obtain ⟨_, _, he, hc1, hc2, _, h5⟩ := hr w hS
 simp only [Value.slice.injEq, true_and] at he
 obtain ⟨rfl, rfl⟩ := he
 clear hr
 have H5 := Lib.hid h5
 clear h5
 have i5 : (l.length : Int) ≤ 1000000 := by omega
 obtain ⟨Gl, hGl⟩ : ∃ Gl, Gr.new.appL l = Gl := ⟨_, rfl⟩
 rw [hGl]
 have HGL := Lib.hid hGl
 clear hGl
 go_enter Tryz.func54, Tryz.ntmps54
 go_wp2_with (first
  | (go_at_call 96; refine (new_any hS).mono ?_; clear hS; rintro e w1 ⟨p, rfl, hS⟩))
 have H0 := Lib.hid hS
 go_loopw [11] (fun v wz => ∃ (i : Nat) (G : Gr), v = .int .i64 i ∧ i ≤ l.length ∧ G.Ok ∧ G.E.length ≤ i ∧ Gl = ((G.appL (l.drop i)).1, (G.appL (l.drop i)).2 + i) ∧ Sat W wz (IsG p G :: L)) (fun v _ => l.length - (intOf v).toNat)
 case atStart => exact ⟨0, Gr.new, rfl, by omega, Gr.new_ok, Nat.le_refl _, HGL.out.symm, H0.out⟩
 case round =>
  clear hS H0
  obtain ⟨i, G, rfl, hi, hok, hel, hgl, hS⟩ := hrel
  have HOK := Lib.hid hok
  have HEL := Lib.hid hel
  clear hok hel
  by_cases hlt : i < l.length
  ·obtain ⟨b, off, rfl, _⟩ := H5.out (by omega)
   obtain ⟨⟨xk, xa, xb⟩, hx⟩ : ∃ x, l[i]? = some x := ⟨_, List.getElem?_eq_getElem hlt⟩
   have j1 : (i : Int) < (l.length : Int) := by omega
   have HX := Lib.hid hx
   have HLT := Lib.hid hlt
   have HA := Lib.hid (fun w (L : List Asrt) (h : Sat W w (IsG p G :: L)) => apply_any h HOK.out xk xa xb)
   have HOK2 := Lib.hid (Gr.appG_ok HOK.out (by have := HEL.out; omega) xk xa xb)
   have HE2 := Lib.hid (show (G.appG xk xa xb).E.length ≤ i + 1 by have := G.appG_E xk xa xb; have := HEL.out; omega)
   by_cases h0 : G.appE xk xa xb = 0
   ·have HGL2 := Lib.hid (show Gl = (((G.appG xk xa xb).appL (l.drop (i + 1))).1, ((G.appG xk xa xb).appL (l.drop (i + 1))).2 + (i + 1)) by
     rw [hgl, Gr.appL_yes hx h0]; simp only [Prod.mk.injEq, true_and]; omega)
    rw [h0] at HA
    obtain ⟨G2, hG2⟩ : ∃ G2, G.appG xk xa xb = G2 := ⟨_, rfl⟩
    rw [hG2] at HA HOK2 HE2 HGL2
    clear hx h0 hG2 hgl hlt
    go_wp2_with (first
     | (refine toList (by rfl) ?_; refine wp_of_reads (rLdRdA (HR.out _ hS.drop) (rv_len l) _ _ (by rfl) _ (by rfl) (agOf (by rfl)) (szOf (by rfl)) i (by omega) HX.out (by omega)) ?_)
     | (refine toList (by rfl) ?_; refine al hS _ (by rfl) (zrOf (by rfl)) ?_; clear hS; intro px w1 hS; rw [cells_agg] at hS)
     | (refine toList (by rfl) ?_; refine stW hS _ _ _ (by rfl) (by rfl) (rv ⟨xk, xa, xb⟩) (by rfl) (rv_all _) (szOf (by rfl)) Has.z (by rfl) ?_; clear hS; intro w1 hS; dsimp only [List.set_cons_zero] at hS)
     | (refine toList (by rfl) ?_; refine wp_of_reads (rLdA hS _ _ (by rfl) _ _ (by rfl) (agOf (by rfl)) (szOf (by rfl)) Has.z (vs := rv ⟨xk, xa, xb⟩) (by rfl) (by rfl)) ?_)
     | (go_at_call 97; refine (Calls.atS hS (k := 1) rfl (fun hF => HA.out _ _ hF)).mono ?_; clear hS; rintro e w1 ⟨rfl, hS⟩; dsimp only [List.set_cons_zero, List.set_cons_succ] at hS))
    exact ⟨⟨i + 1, G2, by go_num, HLT.out, HOK2.out, HE2.out, HGL2.out, hS.drop⟩, by simp [intOf]; have := HLT.out; omega⟩
   ·have HGL2 := Lib.hid (show Gl = (G.appG xk xa xb, i) by rw [hgl, Gr.appL_no hx h0]; simp)
    have HLI := Lib.hid (show decide (i = l.length) = false by simp; omega)
    obtain ⟨G2, hG2⟩ : ∃ G2, G.appG xk xa xb = G2 := ⟨_, rfl⟩
    obtain ⟨E, hE⟩ : ∃ E, G.appE xk xa xb = E := ⟨_, rfl⟩
    rw [hG2, hE] at HA
    rw [hG2] at HGL2
    rw [hE] at h0
    have e0 : (E == 0) = false := beq_eq_false_iff_ne.2 h0
    clear hx hG2 hE hgl hlt HOK2 HE2
    go_wp2_with (first
     | (refine toList (by rfl) ?_; refine wp_of_reads (rLdRdA (HR.out _ hS.drop) (rv_len l) _ _ (by rfl) _ (by rfl) (agOf (by rfl)) (szOf (by rfl)) i (by omega) HX.out (by omega)) ?_)
     | (refine toList (by rfl) ?_; refine al hS _ (by rfl) (zrOf (by rfl)) ?_; clear hS; intro px w1 hS; rw [cells_agg] at hS)
     | (refine toList (by rfl) ?_; refine stW hS _ _ _ (by rfl) (by rfl) (rv ⟨xk, xa, xb⟩) (by rfl) (rv_all _) (szOf (by rfl)) Has.z (by rfl) ?_; clear hS; intro w1 hS; dsimp only [List.set_cons_zero] at hS)
     | (refine toList (by rfl) ?_; refine wp_of_reads (rLdA hS _ _ (by rfl) _ _ (by rfl) (agOf (by rfl)) (szOf (by rfl)) Has.z (vs := rv ⟨xk, xa, xb⟩) (by rfl) (by rfl)) ?_)
     | (go_at_call 97; refine (Calls.atS hS (k := 1) rfl (fun hF => HA.out _ _ hF)).mono ?_; clear hS; rintro e w1 ⟨rfl, hS⟩; dsimp only [List.set_cons_zero, List.set_cons_succ] at hS))
    go_ret3
    exact ⟨p, by rw [HGL2.out, HLI.out]; rfl, by rw [HGL2.out]; exact hS.drop⟩
  ·have HGL2 := Lib.hid (show Gl = (G, l.length) by
    rw [hgl, List.drop_eq_nil_of_le (by omega)]; simp [Gr.appL]; omega)
   have j1 : ¬ (i : Int) < (l.length : Int) := by omega
   clear hgl hlt
   go_wp2
   go_ret3
   exact ⟨p, by rw [HGL2.out]; simp, by rw [HGL2.out]; exact hS⟩
end Go.Proofs.YtchohheleofncaaGreat
