/-
  SameRecords.
-/
import Derived.Test.YtapodjhkpahdnaaRecD
import Derived.Test.YtapodjhkpahdnaaSepReg
import Derived.Test.YtapodjhkpahdnaaSepArg
import Derived.Test.YtapodjhkpahdnaaTypes
import Derived.Lib.Hide
namespace Go.Proofs.Ytapodjhkpahdnaa
open Go.RowKit Go.Sep
set_option linter.unusedSimpArgs false
set_option linter.unusedVariables false
attribute [local irreducible] Go.Oper.wp Go.wpList Go.Calls Go.Code.wp Go.Sep.Reg
set_option maxRecDepth 20000 in
set_option maxHeartbeats 1000000 in
theorem same_recs {W w : World} {L : List Asrt} (hS : Sat W w L) (l m : List RecD) (ao ao' : Option Addr) (c c' : Nat) (hr : ∀ w, Sat W w L → Rd w (.slice ao l.length c) l.length 3 (l.flatMap rv)) (hr' : ∀ w, Sat W w L → Rd w (.slice ao' m.length c') m.length 3 (m.flatMap rv)) (hb : l.length ≤ 1000000) :
    Calls Try.prog 63 #[.slice ao l.length c, .slice ao' m.length c'] w fun e w' => e = .returned (.bool (decide (l = m))) ∧ Sat W w' L := by
  by_cases hlen : l.length = m.length
  · have HR : Hid (∀ w, Sat W w L → Rd w (.slice ao l.length c) l.length 3 (l.flatMap rv)) := Lib.hid hr
    have HR' : Hid (∀ w, Sat W w L → Rd w (.slice ao' l.length c') l.length 3 (m.flatMap rv)) := Lib.hid (by rw [hlen]; exact hr')
    rw [← hlen]
    obtain ⟨_, _, he, hc1, hc2, _, h5⟩ := hr w hS
    simp only [Value.slice.injEq, true_and] at he
    obtain ⟨rfl, rfl⟩ := he
    obtain ⟨_, _, he, hc1', hc2', _, h5'⟩ := HR'.out w hS
    simp only [Value.slice.injEq, true_and] at he
    obtain ⟨rfl, rfl⟩ := he
    have HLEN := Lib.hid hlen
    have i5 : (l.length : Int) ≤ 1000000 := by omega
    have HS := Lib.hid hS
    clear hr hr' hlen
    go_enter Try.func63, Try.ntmps63
    go_wp2
    go_loopw [5] (fun vi wz => ∃ k : Nat, k ≤ l.length ∧ vi = .int .i64 k ∧ l.take k = m.take k ∧ Sat W wz L) (fun vi _ => l.length - (intOf vi).toNat)
    case atStart => exact ⟨0, by omega, rfl, by simp, HS.out⟩
    case round =>
      clear hS HS
      obtain ⟨k, hk, rfl, htk, hS⟩ := hrel
      have HTK := Lib.hid htk
      clear htk
      by_cases hlt : k < l.length
      · obtain ⟨b, off, rfl, _⟩ := h5 (by omega)
        obtain ⟨b', off', rfl, _⟩ := h5' (by omega)
        have hml := HLEN.out
        obtain ⟨⟨a1, a2, a3⟩, hx⟩ : ∃ x, l[k]? = some x := ⟨_, List.getElem?_eq_getElem hlt⟩
        obtain ⟨⟨b1, b2, b3⟩, hy⟩ : ∃ y, m[k]? = some y := ⟨_, List.getElem?_eq_getElem (by omega)⟩
        have HX := Lib.hid hx
        have HY := Lib.hid hy
        have j1 : (k : Int) < (l.length : Int) := by omega
        clear hx hy hml h5 h5'
        by_cases hxy : a1 = b1 ∧ a2 = b2 ∧ a3 = b3
        · obtain ⟨rfl, rfl, rfl⟩ := hxy
          go_wp2
          refine regStart [] hS (by kernel_rfl) rfl ?_
          intro w1 hS1
          clear hS; have hS := hS1; clear hS1
          (refine regP 0 hS (fun _ h => h) rfl (by kernel_rfl) (by kernel_rfl) (by kernel_rfl) (fun _ _ _ _ h => h) (by rfl) (by rfl) ?_; apply Exists.intro; apply And.intro; (intro w; go_simp; try with_reducible rfl); (simp only [Act.put, List.setIfInBounds_toArray, List.set_cons_zero, List.set_cons_succ]))
          (refine regP 1 hS (fun _ h => h) rfl (by kernel_rfl) (by kernel_rfl) (by kernel_rfl) (fun _ _ _ _ h => h) (by rfl) (by rfl) ?_; apply Exists.intro; apply And.intro; (intro w; go_simp; try with_reducible rfl); (simp only [Act.put, List.setIfInBounds_toArray, List.set_cons_zero, List.set_cons_succ]))
          (refine regP 2 hS (fun _ h => h) rfl (by kernel_rfl) (by kernel_rfl) (by kernel_rfl) (fun _ _ _ _ h => h) (by rfl) (by rfl) ?_; apply Exists.intro; apply And.intro; (intro w; go_simp; try with_reducible rfl); (simp only [Act.put, List.setIfInBounds_toArray, List.set_cons_zero, List.set_cons_succ]))
          (refine regR 3 hS (fun _ h => h) rfl (by kernel_rfl) (by kernel_rfl) (by kernel_rfl) (by kernel_rfl) (by kernel_rfl) (fun _ _ _ _ h => h) (by rfl) (by rfl) ?_; (first
                                | refine ⟨.agg #[.int .i64 a1, .int .i64 a2, .int .i64 a3], fun u hu => rLdRdA (f := rv) (x := ⟨a1, a2, a3⟩) (HR.out _ hu) (rv_len l) _ _ (by rfl) _ (by rfl) (agOf (by rfl)) (szOf (by rfl)) k (by omega) HX.out (by omega), ?_⟩
                                | refine ⟨.agg #[.int .i64 a1, .int .i64 a2, .int .i64 a3], fun u hu => rLdRdA (f := rv) (x := ⟨a1, a2, a3⟩) (HR'.out _ hu) (rv_len m) _ _ (by rfl) _ (by rfl) (agOf (by rfl)) (szOf (by rfl)) k (by omega) HY.out (by omega), ?_⟩); (simp only [Act.put, List.setIfInBounds_toArray, List.set_cons_zero, List.set_cons_succ]))
          (refine regP 4 hS (fun _ h => h) rfl (by kernel_rfl) (by kernel_rfl) (by kernel_rfl) (fun _ _ _ _ h => h) (by rfl) (by rfl) ?_; apply Exists.intro; apply And.intro; (intro w; go_simp; try with_reducible rfl); (simp only [Act.put, List.setIfInBounds_toArray, List.set_cons_zero, List.set_cons_succ]))
          (refine regP 5 hS (fun _ h => h) rfl (by kernel_rfl) (by kernel_rfl) (by kernel_rfl) (fun _ _ _ _ h => h) (by rfl) (by rfl) ?_; apply Exists.intro; apply And.intro; (intro w; go_simp; try with_reducible rfl); (simp only [Act.put, List.setIfInBounds_toArray, List.set_cons_zero, List.set_cons_succ]))
          (refine regP 6 hS (fun _ h => h) rfl (by kernel_rfl) (by kernel_rfl) (by kernel_rfl) (fun _ _ _ _ h => h) (by rfl) (by rfl) ?_; apply Exists.intro; apply And.intro; (intro w; go_simp; try with_reducible rfl); (simp only [Act.put, List.setIfInBounds_toArray, List.set_cons_zero, List.set_cons_succ]))
          (refine regR 7 hS (fun _ h => h) rfl (by kernel_rfl) (by kernel_rfl) (by kernel_rfl) (by kernel_rfl) (by kernel_rfl) (fun _ _ _ _ h => h) (by rfl) (by rfl) ?_; (first
                                | refine ⟨.agg #[.int .i64 a1, .int .i64 a2, .int .i64 a3], fun u hu => rLdRdA (f := rv) (x := ⟨a1, a2, a3⟩) (HR.out _ hu) (rv_len l) _ _ (by rfl) _ (by rfl) (agOf (by rfl)) (szOf (by rfl)) k (by omega) HX.out (by omega), ?_⟩
                                | refine ⟨.agg #[.int .i64 a1, .int .i64 a2, .int .i64 a3], fun u hu => rLdRdA (f := rv) (x := ⟨a1, a2, a3⟩) (HR'.out _ hu) (rv_len m) _ _ (by rfl) _ (by rfl) (agOf (by rfl)) (szOf (by rfl)) k (by omega) HY.out (by omega), ?_⟩); (simp only [Act.put, List.setIfInBounds_toArray, List.set_cons_zero, List.set_cons_succ]))
          (refine regP 8 hS (fun _ h => h) rfl (by kernel_rfl) (by kernel_rfl) (by kernel_rfl) (fun _ _ _ _ h => h) (by rfl) (by rfl) ?_; apply Exists.intro; apply And.intro; (intro w; go_simp; try with_reducible rfl); (simp only [Act.put, List.setIfInBounds_toArray, List.set_cons_zero, List.set_cons_succ]))
          refine regDone (by kernel_rfl) ?_
          go_wp2
          exact ⟨⟨k + 1, by omega, by go_num, by rw [List.take_add_one, List.take_add_one, HX.out, HY.out, HTK.out], hS⟩, by simp [intOf]; omega⟩
        · have HNE : Hid (decide (l = m) = false) := Lib.hid (by
            rw [decide_eq_false_iff_not]; intro e; subst e
            have := HX.out.symm.trans HY.out
            simp only [Option.some.injEq, RecD.mk.injEq] at this
            exact hxy this)
          have hd : (a1 == b1) = false ∨ ((a1 = b1) ∧ (a2 == b2) = false) ∨ (a1 = b1 ∧ a2 = b2 ∧ (a3 == b3) = false) := by
            by_cases h1 : a1 = b1
            · by_cases h2 : a2 = b2
              · exact .inr (.inr ⟨h1, h2, beq_eq_false_iff_ne.2 fun h3 => hxy ⟨h1, h2, h3⟩⟩)
              · exact .inr (.inl ⟨h1, beq_eq_false_iff_ne.2 h2⟩)
            · exact .inl (beq_eq_false_iff_ne.2 h1)
          clear hxy
          rcases hd with e1 | ⟨rfl, e1⟩ | ⟨rfl, rfl, e1⟩
          all_goals
            go_wp2
            refine regStart [] hS (by kernel_rfl) rfl ?_
            intro w1 hS1
            clear hS; have hS := hS1; clear hS1
            (refine regP 0 hS (fun _ h => h) rfl (by kernel_rfl) (by kernel_rfl) (by kernel_rfl) (fun _ _ _ _ h => h) (by rfl) (by rfl) ?_; apply Exists.intro; apply And.intro; (intro w; go_simp; try with_reducible rfl); (simp only [Act.put, List.setIfInBounds_toArray, List.set_cons_zero, List.set_cons_succ]))
            (refine regP 1 hS (fun _ h => h) rfl (by kernel_rfl) (by kernel_rfl) (by kernel_rfl) (fun _ _ _ _ h => h) (by rfl) (by rfl) ?_; apply Exists.intro; apply And.intro; (intro w; go_simp; try with_reducible rfl); (simp only [Act.put, List.setIfInBounds_toArray, List.set_cons_zero, List.set_cons_succ]))
            (refine regP 2 hS (fun _ h => h) rfl (by kernel_rfl) (by kernel_rfl) (by kernel_rfl) (fun _ _ _ _ h => h) (by rfl) (by rfl) ?_; apply Exists.intro; apply And.intro; (intro w; go_simp; try with_reducible rfl); (simp only [Act.put, List.setIfInBounds_toArray, List.set_cons_zero, List.set_cons_succ]))
            (refine regR 3 hS (fun _ h => h) rfl (by kernel_rfl) (by kernel_rfl) (by kernel_rfl) (by kernel_rfl) (by kernel_rfl) (fun _ _ _ _ h => h) (by rfl) (by rfl) ?_; (first
                                      | refine ⟨.agg #[.int .i64 a1, .int .i64 a2, .int .i64 a3], fun u hu => rLdRdA (f := rv) (x := ⟨a1, a2, a3⟩) (HR.out _ hu) (rv_len l) _ _ (by rfl) _ (by rfl) (agOf (by rfl)) (szOf (by rfl)) k (by omega) HX.out (by omega), ?_⟩
                                      | refine ⟨.agg #[.int .i64 b1, .int .i64 b2, .int .i64 b3], fun u hu => rLdRdA (f := rv) (x := ⟨b1, b2, b3⟩) (HR'.out _ hu) (rv_len m) _ _ (by rfl) _ (by rfl) (agOf (by rfl)) (szOf (by rfl)) k (by omega) HY.out (by omega), ?_⟩
                                      | refine ⟨.agg #[.int .i64 a1, .int .i64 b2, .int .i64 b3], fun u hu => rLdRdA (f := rv) (x := ⟨a1, b2, b3⟩) (HR'.out _ hu) (rv_len m) _ _ (by rfl) _ (by rfl) (agOf (by rfl)) (szOf (by rfl)) k (by omega) HY.out (by omega), ?_⟩
                                      | refine ⟨.agg #[.int .i64 a1, .int .i64 a2, .int .i64 b3], fun u hu => rLdRdA (f := rv) (x := ⟨a1, a2, b3⟩) (HR'.out _ hu) (rv_len m) _ _ (by rfl) _ (by rfl) (agOf (by rfl)) (szOf (by rfl)) k (by omega) HY.out (by omega), ?_⟩); (simp only [Act.put, List.setIfInBounds_toArray, List.set_cons_zero, List.set_cons_succ]))
            (refine regP 4 hS (fun _ h => h) rfl (by kernel_rfl) (by kernel_rfl) (by kernel_rfl) (fun _ _ _ _ h => h) (by rfl) (by rfl) ?_; apply Exists.intro; apply And.intro; (intro w; go_simp; try with_reducible rfl); (simp only [Act.put, List.setIfInBounds_toArray, List.set_cons_zero, List.set_cons_succ]))
            (refine regP 5 hS (fun _ h => h) rfl (by kernel_rfl) (by kernel_rfl) (by kernel_rfl) (fun _ _ _ _ h => h) (by rfl) (by rfl) ?_; apply Exists.intro; apply And.intro; (intro w; go_simp; try with_reducible rfl); (simp only [Act.put, List.setIfInBounds_toArray, List.set_cons_zero, List.set_cons_succ]))
            (refine regP 6 hS (fun _ h => h) rfl (by kernel_rfl) (by kernel_rfl) (by kernel_rfl) (fun _ _ _ _ h => h) (by rfl) (by rfl) ?_; apply Exists.intro; apply And.intro; (intro w; go_simp; try with_reducible rfl); (simp only [Act.put, List.setIfInBounds_toArray, List.set_cons_zero, List.set_cons_succ]))
            (refine regR 7 hS (fun _ h => h) rfl (by kernel_rfl) (by kernel_rfl) (by kernel_rfl) (by kernel_rfl) (by kernel_rfl) (fun _ _ _ _ h => h) (by rfl) (by rfl) ?_; (first
                                      | refine ⟨.agg #[.int .i64 a1, .int .i64 a2, .int .i64 a3], fun u hu => rLdRdA (f := rv) (x := ⟨a1, a2, a3⟩) (HR.out _ hu) (rv_len l) _ _ (by rfl) _ (by rfl) (agOf (by rfl)) (szOf (by rfl)) k (by omega) HX.out (by omega), ?_⟩
                                      | refine ⟨.agg #[.int .i64 b1, .int .i64 b2, .int .i64 b3], fun u hu => rLdRdA (f := rv) (x := ⟨b1, b2, b3⟩) (HR'.out _ hu) (rv_len m) _ _ (by rfl) _ (by rfl) (agOf (by rfl)) (szOf (by rfl)) k (by omega) HY.out (by omega), ?_⟩
                                      | refine ⟨.agg #[.int .i64 a1, .int .i64 b2, .int .i64 b3], fun u hu => rLdRdA (f := rv) (x := ⟨a1, b2, b3⟩) (HR'.out _ hu) (rv_len m) _ _ (by rfl) _ (by rfl) (agOf (by rfl)) (szOf (by rfl)) k (by omega) HY.out (by omega), ?_⟩
                                      | refine ⟨.agg #[.int .i64 a1, .int .i64 a2, .int .i64 b3], fun u hu => rLdRdA (f := rv) (x := ⟨a1, a2, b3⟩) (HR'.out _ hu) (rv_len m) _ _ (by rfl) _ (by rfl) (agOf (by rfl)) (szOf (by rfl)) k (by omega) HY.out (by omega), ?_⟩); (simp only [Act.put, List.setIfInBounds_toArray, List.set_cons_zero, List.set_cons_succ]))
            (refine regP 8 hS (fun _ h => h) rfl (by kernel_rfl) (by kernel_rfl) (by kernel_rfl) (fun _ _ _ _ h => h) (by rfl) (by rfl) ?_; apply Exists.intro; apply And.intro; (intro w; go_simp; try with_reducible rfl); (simp only [Act.put, List.setIfInBounds_toArray, List.set_cons_zero, List.set_cons_succ]))
            refine regDone (by kernel_rfl) ?_
            go_wp2
            go_ret
            rw [HNE.out]
            exact ⟨rfl, hS⟩
      · obtain rfl : k = l.length := by omega
        have HEQ : Hid (decide (l = m) = true) := Lib.hid (by
          rw [decide_eq_true_iff]
          have := HTK.out
          rw [List.take_length, HLEN.out, List.take_length] at this
          exact this)
        go_wp2
        go_ret
        rw [HEQ.out]
        exact ⟨rfl, hS⟩
  · have HNE : Hid (decide (l = m) = false) := Lib.hid (by rw [decide_eq_false_iff_not]; intro e; subst e; exact hlen rfl)
    have e1 : ((l.length : Int) != (m.length : Int)) = true := bne_iff_ne.2 (by omega)
    clear hr hr' hlen
    go_enter Try.func63, Try.ntmps63
    go_wp2
    go_ret
    rw [HNE.out]
    exact ⟨rfl, hS⟩
end Go.Proofs.Ytapodjhkpahdnaa
