/-
  pedigreeref21.Put: a block of records.
-/
import Derived.Test.YtcabgeljdgcdlaaRecPut
namespace Go.Proofs.Ytcabgeljdgcdlaa
open Go.RowKit Go.Sep
set_option linter.unusedSimpArgs false
set_option linter.unusedVariables false
attribute [local irreducible] Go.Oper.wp Go.wpList Go.Calls Go.Code.wp Go.Sep.Reg
set_option maxRecDepth 20000 in
set_option maxHeartbeats 2000000 in
theorem ref_rput_any {W w : World} {L : List Asrt} (hS : Sat W w L) (l : List RecD) (ao : Option Addr) (c : Nat) (hr : ∀ w, Sat W w L → Rd w (.slice ao l.length c) l.length 3 (l.flatMap rv)) (hb : l.length ≤ 1000000) (next : Int) :
    Calls Try.prog 41 #[.slice ao l.length c, .int .i64 next] w fun e w' => ∃ v', e = .returned v' ∧ Sat W w' (Sl 5 1 v' (putB l next).length (bv (putB l next)) :: L) := by
  have HR : Hid (∀ w, Sat W w L → Rd w (.slice ao l.length c) l.length 3 (l.flatMap rv)) := Lib.hid hr
  obtain ⟨_, _, he, hc1, hc2, _, h5⟩ := hr w hS
  simp only [Value.slice.injEq, true_and] at he
  obtain ⟨rfl, rfl⟩ := he
  clear hr
  by_cases hlen : 15 < l.length
  · have j1 : (15 : Int) < (l.length : Int) := by omega
    rw [putB_no (okPut_len hlen)]
    go_enter Try.func41, Try.ntmps41
    go_wp2
    go_ret
    exact ⟨_, rfl, hS.slNil⟩
  by_cases hnx : okNext next = false
  · have hne : next ≠ 0 := fun e => by subst e; exact absurd hnx (by decide)
    have hin : inB next 74 1023 = false := by unfold okNext at hnx; simpa [hne] using hnx
    rw [putB_no (okPut_next hnx)]
    have j1 : (l.length : Int) ≤ 15 := by omega
    have e1 : (next != 0) = true := bne_iff_ne.2 hne
    clear hlen hnx
    go_enter Try.func41, Try.ntmps41
    go_wp2_with (go_at_call 70; refine (ref_in_any _ next _ _ hin).mono ?_; rintro e w1 ⟨rfl, rfl⟩)
    go_ret
    exact ⟨_, rfl, hS.slNil⟩
  have HNX := Lib.hid (show okNext next = true by simpa using hnx)
  have hrg := okNext_range HNX.out
  have hcase : (next != 0) = false ∨ ((next != 0) = true ∧ inB next 74 1023 = true) := by
    by_cases h0 : next = 0
    · exact .inl (by subst h0; rfl)
    · refine .inr ⟨bne_iff_ne.2 h0, ?_⟩
      have := HNX.out
      unfold okNext at this; simpa [h0] using this
  have i5 : (l.length : Int) ≤ 15 := by omega
  have hlt15 : l.length ≤ 15 := by omega
  have HS := Lib.hid hS
  clear hnx hlen
  rcases hcase with e1 | ⟨e1, hin⟩
  all_goals
    go_enter Try.func41, Try.ntmps41
    go_wp2_with (first
      | (go_at_call 70; refine (ref_in_any _ next _ _ hin).mono ?_; rintro e w1 ⟨rfl, rfl⟩)
      | (go_at_call 62; refine (ref_put_any hS next (by omega) (by omega) 2 (by omega)).mono ?_; rintro e w1 ⟨v1, rfl, hS1⟩; clear hS; have hS := hS1; clear hS1)
      | (go_at_call 62; refine (ref_put_any hS (l.length : Nat) (by omega) (by omega) 1 (by omega)).mono ?_; rintro e w1 ⟨v1, rfl, hS1⟩; clear hS; have hS := hS1; clear hS1)
      | (at_builtin; refine toList (by rfl) ?_; (refine apB hS _ _ _ _ (by rfl) (by rfl) (by rfl) (elOf (by rfl)) (by rfl) (by rfl) (by rfl) (inOf (by rfl)) (Has.s Has.z) Has.z (by simp only [le_length]; omega) ?_; intro v1 w1 hS1; clear hS; have hS := hS1; clear hS1; dsimp only [List.set_cons_zero, List.set_cons_succ] at hS)))
    have H0 : Hid (Sat W _ (Sl 5 1 _ (encH l.length next ++ (l.take 0).flatMap encR).length (bv (encH l.length next ++ (l.take 0).flatMap encR)) :: L)) := Lib.hid (by simpa [encH] using hS.drop)
    go_loopw [6, 5] (fun vi vb wz => ∃ k : Nat, k ≤ l.length ∧ vi = .int .i64 k ∧ (l.take k).all recOk = true ∧ Sat W wz (Sl 5 1 vb (encH l.length next ++ (l.take k).flatMap encR).length (bv (encH l.length next ++ (l.take k).flatMap encR)) :: L)) (fun vi _ _ => l.length - (intOf vi).toNat)
    case atStart => exact ⟨0, by omega, rfl, rfl, H0.out⟩
    case round =>
      clear H0 hS
      obtain ⟨k, hk, rfl, hall, hS⟩ := hrel
      by_cases hlt : k < l.length
      · obtain ⟨b, off, rfl, _⟩ := h5 (by omega)
        obtain ⟨⟨xk, xa, xb⟩, hx⟩ : ∃ x, l[k]? = some x := ⟨_, List.getElem?_eq_getElem hlt⟩
        have j1 : (k : Int) < (l.length : Int) := by omega
        have HX := Lib.hid hx
        by_cases hok : recOk ⟨xk, xa, xb⟩ = true
        · have hrx := recOk_range hok
          obtain ⟨r1, r2, r3, r4, r5, r6⟩ := hrx
          dsimp only at r1 r2 r3 r4 r5 r6
          have HOK : Hid (okRec xk xa xb = true) := Lib.hid hok
          have HLN := Lib.hid (show (encH l.length next ++ (l.take k).flatMap encR).length ≤ 200 by rw [List.length_append, encH_len, encRs_len, List.length_take]; omega)
          have HTE := Lib.hid (take_enc (encH l.length next) hx)
          have HAL := Lib.hid (show (l.take (k + 1)).all recOk = true by rw [List.take_add_one, hx]; simp [hall, hok])
          clear hx hall hok
          go_wp2_with (first
            | (refine toList (by rfl) ?_; refine wp_of_reads (rLdRdA (HR.out _ hS.drop) (rv_len l) _ _ (by rfl) _ (by rfl) (agOf (by rfl)) (szOf (by rfl)) k (by omega) HX.out (by omega)) ?_)
            | (go_at_call 38; refine (ref_check_any _ W _ hS xk xa xb).mono ?_; rintro e w1 ⟨rfl, hS1⟩; rw [HOK.out]; clear hS; have hS := hS1; clear hS1))
          refine regStart2 [] hS (fun _ h => h.drop) (by kernel_rfl) rfl ?_
          intro w1 hS1
          clear hS; have hS := hS1; clear hS1
          (refine regP 0 hS (fun _ h => h.drop) rfl (by kernel_rfl) (by kernel_rfl) (by kernel_rfl) (fun _ _ _ _ h => h) (by rfl) (by rfl) ?_; apply Exists.intro; apply And.intro; (intro w; go_simp; try with_reducible rfl); (simp only [Act.put, List.setIfInBounds_toArray, List.set_cons_zero, List.set_cons_succ]))
          (refine regP 1 hS (fun _ h => h.drop) rfl (by kernel_rfl) (by kernel_rfl) (by kernel_rfl) (fun _ _ _ _ h => h) (by rfl) (by rfl) ?_; apply Exists.intro; apply And.intro; (intro w; go_simp; try with_reducible rfl); (simp only [Act.put, List.setIfInBounds_toArray, List.set_cons_zero, List.set_cons_succ]))
          (refine regP 2 hS (fun _ h => h.drop) rfl (by kernel_rfl) (by kernel_rfl) (by kernel_rfl) (fun _ _ _ _ h => h) (by rfl) (by rfl) ?_; apply Exists.intro; apply And.intro; (intro w; go_simp; try with_reducible rfl); (simp only [Act.put, List.setIfInBounds_toArray, List.set_cons_zero, List.set_cons_succ]))
          (refine regP 3 hS (fun _ h => h.drop) rfl (by kernel_rfl) (by kernel_rfl) (by kernel_rfl) (fun _ _ _ _ h => h) (by rfl) (by rfl) ?_; apply Exists.intro; apply And.intro; (intro w; go_simp; try with_reducible rfl); (simp only [Act.put, List.setIfInBounds_toArray, List.set_cons_zero, List.set_cons_succ]))
          (refine regP 4 hS (fun _ h => h.drop) rfl (by kernel_rfl) (by kernel_rfl) (by kernel_rfl) (fun _ _ _ _ h => h) (by rfl) (by rfl) ?_; apply Exists.intro; apply And.intro; (intro w; go_simp; try with_reducible rfl); (simp only [Act.put, List.setIfInBounds_toArray, List.set_cons_zero, List.set_cons_succ]))
          (refine regR 5 hS (fun _ h => h.drop) rfl (by kernel_rfl) (by kernel_rfl) (by kernel_rfl) (by kernel_rfl) (by kernel_rfl) (fun _ _ _ _ h => h) (by rfl) (by rfl) ?_; (first
                                | refine ⟨_, fun u hu => rLdRd (HR.out _ hu) (rv_len l) _ _ (by rfl) _ (by rfl) (agOf (by rfl)) k 0 (by omega) HX.out (by rfl) (by omega), ?_⟩
                                | refine ⟨_, fun u hu => rLdRd (HR.out _ hu) (rv_len l) _ _ (by rfl) _ (by rfl) (agOf (by rfl)) k 1 (by omega) HX.out (by rfl) (by omega), ?_⟩
                                | refine ⟨_, fun u hu => rLdRd (HR.out _ hu) (rv_len l) _ _ (by rfl) _ (by rfl) (agOf (by rfl)) k 2 (by omega) HX.out (by rfl) (by omega), ?_⟩); (simp only [Act.put, List.setIfInBounds_toArray, List.set_cons_zero, List.set_cons_succ]))
          (refine regP 8 hS (fun _ h => h.drop) rfl (by kernel_rfl) (by kernel_rfl) (by kernel_rfl) (fun _ _ _ _ h => h) (by rfl) (by rfl) ?_; apply Exists.intro; apply And.intro; (intro w; go_simp; try with_reducible rfl); (simp only [Act.put, List.setIfInBounds_toArray, List.set_cons_zero, List.set_cons_succ]))
          (refine regP 9 hS (fun _ h => h.drop) rfl (by kernel_rfl) (by kernel_rfl) (by kernel_rfl) (fun _ _ _ _ h => h) (by rfl) (by rfl) ?_; apply Exists.intro; apply And.intro; (intro w; go_simp; try with_reducible rfl); (simp only [Act.put, List.setIfInBounds_toArray, List.set_cons_zero, List.set_cons_succ]))
          (refine regP 10 hS (fun _ h => h.drop) rfl (by kernel_rfl) (by kernel_rfl) (by kernel_rfl) (fun _ _ _ _ h => h) (by rfl) (by rfl) ?_; apply Exists.intro; apply And.intro; (intro w; go_simp; try with_reducible rfl); (simp only [Act.put, List.setIfInBounds_toArray, List.set_cons_zero, List.set_cons_succ]))
          (refine regP 11 hS (fun _ h => h.drop) rfl (by kernel_rfl) (by kernel_rfl) (by kernel_rfl) (fun _ _ _ _ h => h) (by rfl) (by rfl) ?_; apply Exists.intro; apply And.intro; (intro w; go_simp; try with_reducible rfl); (simp only [Act.put, List.setIfInBounds_toArray, List.set_cons_zero, List.set_cons_succ]))
          (refine regR 12 hS (fun _ h => h.drop) rfl (by kernel_rfl) (by kernel_rfl) (by kernel_rfl) (by kernel_rfl) (by kernel_rfl) (fun _ _ _ _ h => h) (by rfl) (by rfl) ?_; (first
                                | refine ⟨_, fun u hu => rLdRd (HR.out _ hu) (rv_len l) _ _ (by rfl) _ (by rfl) (agOf (by rfl)) k 0 (by omega) HX.out (by rfl) (by omega), ?_⟩
                                | refine ⟨_, fun u hu => rLdRd (HR.out _ hu) (rv_len l) _ _ (by rfl) _ (by rfl) (agOf (by rfl)) k 1 (by omega) HX.out (by rfl) (by omega), ?_⟩
                                | refine ⟨_, fun u hu => rLdRd (HR.out _ hu) (rv_len l) _ _ (by rfl) _ (by rfl) (agOf (by rfl)) k 2 (by omega) HX.out (by rfl) (by omega), ?_⟩); (simp only [Act.put, List.setIfInBounds_toArray, List.set_cons_zero, List.set_cons_succ]))
          (refine regP 15 hS (fun _ h => h.drop) rfl (by kernel_rfl) (by kernel_rfl) (by kernel_rfl) (fun _ _ _ _ h => h) (by rfl) (by rfl) ?_; apply Exists.intro; apply And.intro; (intro w; go_simp; try with_reducible rfl); (simp only [Act.put, List.setIfInBounds_toArray, List.set_cons_zero, List.set_cons_succ]))
          (refine regP 16 hS (fun _ h => h.drop) rfl (by kernel_rfl) (by kernel_rfl) (by kernel_rfl) (fun _ _ _ _ h => h) (by rfl) (by rfl) ?_; apply Exists.intro; apply And.intro; (intro w; go_simp; try with_reducible rfl); (simp only [Act.put, List.setIfInBounds_toArray, List.set_cons_zero, List.set_cons_succ]))
          (refine regP 17 hS (fun _ h => h.drop) rfl (by kernel_rfl) (by kernel_rfl) (by kernel_rfl) (fun _ _ _ _ h => h) (by rfl) (by rfl) ?_; apply Exists.intro; apply And.intro; (intro w; go_simp; try with_reducible rfl); (simp only [Act.put, List.setIfInBounds_toArray, List.set_cons_zero, List.set_cons_succ]))
          (refine regP 18 hS (fun _ h => h.drop) rfl (by kernel_rfl) (by kernel_rfl) (by kernel_rfl) (fun _ _ _ _ h => h) (by rfl) (by rfl) ?_; apply Exists.intro; apply And.intro; (intro w; go_simp; try with_reducible rfl); (simp only [Act.put, List.setIfInBounds_toArray, List.set_cons_zero, List.set_cons_succ]))
          (refine regR 19 hS (fun _ h => h.drop) rfl (by kernel_rfl) (by kernel_rfl) (by kernel_rfl) (by kernel_rfl) (by kernel_rfl) (fun _ _ _ _ h => h) (by rfl) (by rfl) ?_; (first
                                | refine ⟨_, fun u hu => rLdRd (HR.out _ hu) (rv_len l) _ _ (by rfl) _ (by rfl) (agOf (by rfl)) k 0 (by omega) HX.out (by rfl) (by omega), ?_⟩
                                | refine ⟨_, fun u hu => rLdRd (HR.out _ hu) (rv_len l) _ _ (by rfl) _ (by rfl) (agOf (by rfl)) k 1 (by omega) HX.out (by rfl) (by omega), ?_⟩
                                | refine ⟨_, fun u hu => rLdRd (HR.out _ hu) (rv_len l) _ _ (by rfl) _ (by rfl) (agOf (by rfl)) k 2 (by omega) HX.out (by rfl) (by omega), ?_⟩); (simp only [Act.put, List.setIfInBounds_toArray, List.set_cons_zero, List.set_cons_succ]))
          (refine regA 6 rfl (by kernel_rfl) (by rfl) (by rfl) false (by kernel_rfl) (fun K hK => ?_); (first
                                | (refine Go.Sep.cl 62 _ _ (by rfl) (by rfl) (by kernel_rfl) (ref_put_any hS xk (by omega) (by omega) 1 (by omega)) ?_; rintro e w1 ⟨v2, rfl, hS1⟩; clear hS; have hS := hS1; clear hS1; refine ⟨_, rfl, ?_⟩)
                                | (refine Go.Sep.cl 62 _ _ (by rfl) (by rfl) (by kernel_rfl) (ref_put_any hS xa (by omega) (by omega) 3 (by omega)) ?_; rintro e w1 ⟨v2, rfl, hS1⟩; clear hS; have hS := hS1; clear hS1; refine ⟨_, rfl, ?_⟩)
                                | (refine Go.Sep.cl 62 _ _ (by rfl) (by rfl) (by kernel_rfl) (ref_put_any hS xb (by omega) (by omega) 3 (by omega)) ?_; rintro e w1 ⟨v2, rfl, hS1⟩; clear hS; have hS := hS1; clear hS1; refine ⟨_, rfl, ?_⟩)
                                | ((refine apB hS _ _ _ _ (by rfl) (by rfl) (by rfl) (elOf (by rfl)) (by rfl) (by rfl) (by rfl) (inOf (by rfl)) (Has.s Has.z) Has.z (by have := HLN.out; simp only [List.length_append, le_length] at this ⊢; omega) ?_; intro v1 w1 hS1; clear hS; have hS := hS1; clear hS1; dsimp only [List.set_cons_zero, List.set_cons_succ] at hS); replace hS := hS.drop)); refine hK _ _ _ (hS.upTo (fun _ h => by first | exact h.one Has.z | exact h.one (Has.s Has.z) | exact h.one (Has.s (Has.s Has.z)) | exact h.one (Has.s (Has.s (Has.s Has.z))) | exact h | exact h.drop | exact h.drop.drop | exact h.drop.drop.drop | exact h.drop.drop.drop.drop)) (fun _ _ h => h) ?_; clear hK K; (simp only [Act.put, List.setIfInBounds_toArray, List.set_cons_zero, List.set_cons_succ]))
          (refine regA 7 rfl (by kernel_rfl) (by rfl) (by rfl) false (by kernel_rfl) (fun K hK => ?_); (first
                                | (refine Go.Sep.cl 62 _ _ (by rfl) (by rfl) (by kernel_rfl) (ref_put_any hS xk (by omega) (by omega) 1 (by omega)) ?_; rintro e w1 ⟨v2, rfl, hS1⟩; clear hS; have hS := hS1; clear hS1; refine ⟨_, rfl, ?_⟩)
                                | (refine Go.Sep.cl 62 _ _ (by rfl) (by rfl) (by kernel_rfl) (ref_put_any hS xa (by omega) (by omega) 3 (by omega)) ?_; rintro e w1 ⟨v2, rfl, hS1⟩; clear hS; have hS := hS1; clear hS1; refine ⟨_, rfl, ?_⟩)
                                | (refine Go.Sep.cl 62 _ _ (by rfl) (by rfl) (by kernel_rfl) (ref_put_any hS xb (by omega) (by omega) 3 (by omega)) ?_; rintro e w1 ⟨v2, rfl, hS1⟩; clear hS; have hS := hS1; clear hS1; refine ⟨_, rfl, ?_⟩)
                                | ((refine apB hS _ _ _ _ (by rfl) (by rfl) (by rfl) (elOf (by rfl)) (by rfl) (by rfl) (by rfl) (inOf (by rfl)) (Has.s Has.z) Has.z (by have := HLN.out; simp only [List.length_append, le_length] at this ⊢; omega) ?_; intro v1 w1 hS1; clear hS; have hS := hS1; clear hS1; dsimp only [List.set_cons_zero, List.set_cons_succ] at hS); replace hS := hS.drop)); refine hK _ _ _ (hS.upTo (fun _ h => by first | exact h.one Has.z | exact h.one (Has.s Has.z) | exact h.one (Has.s (Has.s Has.z)) | exact h.one (Has.s (Has.s (Has.s Has.z))) | exact h | exact h.drop | exact h.drop.drop | exact h.drop.drop.drop | exact h.drop.drop.drop.drop)) (fun _ _ h => h) ?_; clear hK K; (simp only [Act.put, List.setIfInBounds_toArray, List.set_cons_zero, List.set_cons_succ]))
          (refine regA 13 rfl (by kernel_rfl) (by rfl) (by rfl) false (by kernel_rfl) (fun K hK => ?_); (first
                                | (refine Go.Sep.cl 62 _ _ (by rfl) (by rfl) (by kernel_rfl) (ref_put_any hS xk (by omega) (by omega) 1 (by omega)) ?_; rintro e w1 ⟨v2, rfl, hS1⟩; clear hS; have hS := hS1; clear hS1; refine ⟨_, rfl, ?_⟩)
                                | (refine Go.Sep.cl 62 _ _ (by rfl) (by rfl) (by kernel_rfl) (ref_put_any hS xa (by omega) (by omega) 3 (by omega)) ?_; rintro e w1 ⟨v2, rfl, hS1⟩; clear hS; have hS := hS1; clear hS1; refine ⟨_, rfl, ?_⟩)
                                | (refine Go.Sep.cl 62 _ _ (by rfl) (by rfl) (by kernel_rfl) (ref_put_any hS xb (by omega) (by omega) 3 (by omega)) ?_; rintro e w1 ⟨v2, rfl, hS1⟩; clear hS; have hS := hS1; clear hS1; refine ⟨_, rfl, ?_⟩)
                                | ((refine apB hS _ _ _ _ (by rfl) (by rfl) (by rfl) (elOf (by rfl)) (by rfl) (by rfl) (by rfl) (inOf (by rfl)) (Has.s Has.z) Has.z (by have := HLN.out; simp only [List.length_append, le_length] at this ⊢; omega) ?_; intro v1 w1 hS1; clear hS; have hS := hS1; clear hS1; dsimp only [List.set_cons_zero, List.set_cons_succ] at hS); replace hS := hS.drop)); refine hK _ _ _ (hS.upTo (fun _ h => by first | exact h.one Has.z | exact h.one (Has.s Has.z) | exact h.one (Has.s (Has.s Has.z)) | exact h.one (Has.s (Has.s (Has.s Has.z))) | exact h | exact h.drop | exact h.drop.drop | exact h.drop.drop.drop | exact h.drop.drop.drop.drop)) (fun _ _ h => h) ?_; clear hK K; (simp only [Act.put, List.setIfInBounds_toArray, List.set_cons_zero, List.set_cons_succ]))
          (refine regA 14 rfl (by kernel_rfl) (by rfl) (by rfl) false (by kernel_rfl) (fun K hK => ?_); (first
                                | (refine Go.Sep.cl 62 _ _ (by rfl) (by rfl) (by kernel_rfl) (ref_put_any hS xk (by omega) (by omega) 1 (by omega)) ?_; rintro e w1 ⟨v2, rfl, hS1⟩; clear hS; have hS := hS1; clear hS1; refine ⟨_, rfl, ?_⟩)
                                | (refine Go.Sep.cl 62 _ _ (by rfl) (by rfl) (by kernel_rfl) (ref_put_any hS xa (by omega) (by omega) 3 (by omega)) ?_; rintro e w1 ⟨v2, rfl, hS1⟩; clear hS; have hS := hS1; clear hS1; refine ⟨_, rfl, ?_⟩)
                                | (refine Go.Sep.cl 62 _ _ (by rfl) (by rfl) (by kernel_rfl) (ref_put_any hS xb (by omega) (by omega) 3 (by omega)) ?_; rintro e w1 ⟨v2, rfl, hS1⟩; clear hS; have hS := hS1; clear hS1; refine ⟨_, rfl, ?_⟩)
                                | ((refine apB hS _ _ _ _ (by rfl) (by rfl) (by rfl) (elOf (by rfl)) (by rfl) (by rfl) (by rfl) (inOf (by rfl)) (Has.s Has.z) Has.z (by have := HLN.out; simp only [List.length_append, le_length] at this ⊢; omega) ?_; intro v1 w1 hS1; clear hS; have hS := hS1; clear hS1; dsimp only [List.set_cons_zero, List.set_cons_succ] at hS); replace hS := hS.drop)); refine hK _ _ _ (hS.upTo (fun _ h => by first | exact h.one Has.z | exact h.one (Has.s Has.z) | exact h.one (Has.s (Has.s Has.z)) | exact h.one (Has.s (Has.s (Has.s Has.z))) | exact h | exact h.drop | exact h.drop.drop | exact h.drop.drop.drop | exact h.drop.drop.drop.drop)) (fun _ _ h => h) ?_; clear hK K; (simp only [Act.put, List.setIfInBounds_toArray, List.set_cons_zero, List.set_cons_succ]))
          (refine regA 20 rfl (by kernel_rfl) (by rfl) (by rfl) false (by kernel_rfl) (fun K hK => ?_); (first
                                | (refine Go.Sep.cl 62 _ _ (by rfl) (by rfl) (by kernel_rfl) (ref_put_any hS xk (by omega) (by omega) 1 (by omega)) ?_; rintro e w1 ⟨v2, rfl, hS1⟩; clear hS; have hS := hS1; clear hS1; refine ⟨_, rfl, ?_⟩)
                                | (refine Go.Sep.cl 62 _ _ (by rfl) (by rfl) (by kernel_rfl) (ref_put_any hS xa (by omega) (by omega) 3 (by omega)) ?_; rintro e w1 ⟨v2, rfl, hS1⟩; clear hS; have hS := hS1; clear hS1; refine ⟨_, rfl, ?_⟩)
                                | (refine Go.Sep.cl 62 _ _ (by rfl) (by rfl) (by kernel_rfl) (ref_put_any hS xb (by omega) (by omega) 3 (by omega)) ?_; rintro e w1 ⟨v2, rfl, hS1⟩; clear hS; have hS := hS1; clear hS1; refine ⟨_, rfl, ?_⟩)
                                | ((refine apB hS _ _ _ _ (by rfl) (by rfl) (by rfl) (elOf (by rfl)) (by rfl) (by rfl) (by rfl) (inOf (by rfl)) (Has.s Has.z) Has.z (by have := HLN.out; simp only [List.length_append, le_length] at this ⊢; omega) ?_; intro v1 w1 hS1; clear hS; have hS := hS1; clear hS1; dsimp only [List.set_cons_zero, List.set_cons_succ] at hS); replace hS := hS.drop)); refine hK _ _ _ (hS.upTo (fun _ h => by first | exact h.one Has.z | exact h.one (Has.s Has.z) | exact h.one (Has.s (Has.s Has.z)) | exact h.one (Has.s (Has.s (Has.s Has.z))) | exact h | exact h.drop | exact h.drop.drop | exact h.drop.drop.drop | exact h.drop.drop.drop.drop)) (fun _ _ h => h) ?_; clear hK K; (simp only [Act.put, List.setIfInBounds_toArray, List.set_cons_zero, List.set_cons_succ]))
          (refine regA 21 rfl (by kernel_rfl) (by rfl) (by rfl) false (by kernel_rfl) (fun K hK => ?_); (first
                                | (refine Go.Sep.cl 62 _ _ (by rfl) (by rfl) (by kernel_rfl) (ref_put_any hS xk (by omega) (by omega) 1 (by omega)) ?_; rintro e w1 ⟨v2, rfl, hS1⟩; clear hS; have hS := hS1; clear hS1; refine ⟨_, rfl, ?_⟩)
                                | (refine Go.Sep.cl 62 _ _ (by rfl) (by rfl) (by kernel_rfl) (ref_put_any hS xa (by omega) (by omega) 3 (by omega)) ?_; rintro e w1 ⟨v2, rfl, hS1⟩; clear hS; have hS := hS1; clear hS1; refine ⟨_, rfl, ?_⟩)
                                | (refine Go.Sep.cl 62 _ _ (by rfl) (by rfl) (by kernel_rfl) (ref_put_any hS xb (by omega) (by omega) 3 (by omega)) ?_; rintro e w1 ⟨v2, rfl, hS1⟩; clear hS; have hS := hS1; clear hS1; refine ⟨_, rfl, ?_⟩)
                                | ((refine apB hS _ _ _ _ (by rfl) (by rfl) (by rfl) (elOf (by rfl)) (by rfl) (by rfl) (by rfl) (inOf (by rfl)) (Has.s Has.z) Has.z (by have := HLN.out; simp only [List.length_append, le_length] at this ⊢; omega) ?_; intro v1 w1 hS1; clear hS; have hS := hS1; clear hS1; dsimp only [List.set_cons_zero, List.set_cons_succ] at hS); replace hS := hS.drop)); refine hK _ _ _ (hS.upTo (fun _ h => by first | exact h.one Has.z | exact h.one (Has.s Has.z) | exact h.one (Has.s (Has.s Has.z)) | exact h.one (Has.s (Has.s (Has.s Has.z))) | exact h | exact h.drop | exact h.drop.drop | exact h.drop.drop.drop | exact h.drop.drop.drop.drop)) (fun _ _ h => h) ?_; clear hK K; (simp only [Act.put, List.setIfInBounds_toArray, List.set_cons_zero, List.set_cons_succ]))
          (refine regP 22 hS (fun _ h => by first | exact h.one Has.z | exact h.one (Has.s Has.z) | exact h.one (Has.s (Has.s Has.z)) | exact h.one (Has.s (Has.s (Has.s Has.z))) | exact h | exact h.drop | exact h.drop.drop | exact h.drop.drop.drop | exact h.drop.drop.drop.drop) rfl (by kernel_rfl) (by kernel_rfl) (by kernel_rfl) (fun _ _ _ _ h => h) (by rfl) (by rfl) ?_; apply Exists.intro; apply And.intro; (intro w; go_simp; try with_reducible rfl); (simp only [Act.put, List.setIfInBounds_toArray, List.set_cons_zero, List.set_cons_succ]))
          refine regDone (by kernel_rfl) ?_
          go_wp2
          rw [HTE.out] at hS
          exact ⟨⟨k + 1, by omega, by go_num, HAL.out, hS⟩, by simp [intOf]; omega⟩
        · have hok : recOk ⟨xk, xa, xb⟩ = false := by simpa using hok
          have HNO := Lib.hid (okPut_at (next := next) hx hok)
          have HOK : Hid (okRec xk xa xb = false) := Lib.hid hok
          clear hx hall hok
          go_wp2_with (first
            | (refine toList (by rfl) ?_; refine wp_of_reads (rLdRdA (HR.out _ hS.drop) (rv_len l) _ _ (by rfl) _ (by rfl) (agOf (by rfl)) (szOf (by rfl)) k (by omega) HX.out (by omega)) ?_)
            | (go_at_call 38; refine (ref_check_any _ W _ hS xk xa xb).mono ?_; rintro e w1 ⟨rfl, hS1⟩; rw [HOK.out]; clear hS; have hS := hS1; clear hS1))
          go_ret
          rw [putB_no HNO.out]
          exact ⟨_, rfl, hS.drop.slNil⟩
      · obtain rfl : k = l.length := by omega
        rw [List.take_length] at hall hS
        have HLN := Lib.hid (show (encH l.length next ++ l.flatMap encR).length ≤ 128 by rw [List.length_append, encH_len, encRs_len]; omega)
        have HYES := Lib.hid (show okPut l next = true by unfold okPut; rw [HNX.out, hall]; simp; omega)
        have HB := Lib.hid (encB_len next hlt15)
        clear hall
        go_wp2_with (go_at_call 63; refine (ref_pad_any hS 128 HLN.out (by omega)).mono ?_; rintro e w1 ⟨v3, rfl, hS1⟩; clear hS; have hS := hS1; clear hS1)
        go_ret
        rw [putB_yes HYES.out, HB.out]
        exact ⟨_, rfl, hS⟩
end Go.Proofs.Ytcabgeljdgcdlaa
