/-
  pedigreeref21.PutSuper.
-/
import Derived.Test.YtcabgeljdgcdlaaRecSuper
namespace Go.Proofs.Ytcabgeljdgcdlaa
open Go.RowKit Go.Sep
set_option linter.unusedSimpArgs false
set_option linter.unusedVariables false
attribute [local irreducible] Go.Oper.wp Go.wpList Go.Calls Go.Code.wp Go.Sep.Reg
set_option maxRecDepth 20000 in
set_option maxHeartbeats 2000000 in
theorem ref_sput_any {W w : World} {L : List Asrt} (hS : Sat W w L) (blocks head tail records shown next mounts : Int) :
    Calls Try.prog 51 #[.agg (sv ⟨blocks, head, tail, records, shown, next, mounts⟩).toArray] w fun e w' => ∃ v', e = .returned v' ∧ Sat W w' (Sl 5 1 v' (supB ⟨blocks, head, tail, records, shown, next, mounts⟩).length (bv (supB ⟨blocks, head, tail, records, shown, next, mounts⟩)) :: L) := by
  have HNIL := Lib.hid (hS.slNil (E := 5) (sz := 1))
  cases h0 : inB blocks 160 1024
  · have HNO : Hid (okSup ⟨blocks, head, tail, records, shown, next, mounts⟩ = false) := Lib.hid (by unfold okSup; simp only [inB, Bool.and_eq_true, Bool.and_eq_false_iff, decide_eq_true_eq, decide_eq_false_iff_not] at h0 ⊢; omega)
    go_enter Try.func51, Try.ntmps51
    go_wp2_with (first
      | (refine toList (by rfl) ?_; refine bx hS _ _ (by rfl) _ (by first | exact evC | exact evT (by rfl)) ?_; intro ps w1 hS1; clear hS; have hS := hS1; clear hS1; rw [cells_agg] at hS)
      | (refine toList (by rfl) ?_; refine ld hS _ _ (by rfl) _ _ (by rfl) (agOf (by rfl)) (by first | exact Has.z | exact Has.s Has.z | exact Has.s (Has.s Has.z) | exact Has.s (Has.s (Has.s Has.z)) | exact Has.s (Has.s (Has.s (Has.s Has.z))) | exact Has.s (Has.s (Has.s (Has.s (Has.s Has.z))))) (by rfl) ?_)
      | (go_at_call 70; refine (ref_in_any _ blocks _ _ h0).mono ?_; rintro e w1 ⟨rfl, rfl⟩))
    go_ret
    rw [supB_no HNO.out]
    exact ⟨_, rfl, hS.drop.slNil⟩
  cases h1 : inB head 74 (blocks - 1)
  · have HNO : Hid (okSup ⟨blocks, head, tail, records, shown, next, mounts⟩ = false) := Lib.hid (by unfold okSup; simp only [inB, Bool.and_eq_true, Bool.and_eq_false_iff, decide_eq_true_eq, decide_eq_false_iff_not] at h0 h1 ⊢; omega)
    have hb0 : 160 ≤ blocks ∧ blocks ≤ 1024 := by simpa [inB] using h0
    obtain ⟨hb1, hb2⟩ := hb0
    go_enter Try.func51, Try.ntmps51
    go_wp2_with (first
      | (refine toList (by rfl) ?_; refine bx hS _ _ (by rfl) _ (by first | exact evC | exact evT (by rfl)) ?_; intro ps w1 hS1; clear hS; have hS := hS1; clear hS1; rw [cells_agg] at hS)
      | (refine toList (by rfl) ?_; refine ld hS _ _ (by rfl) _ _ (by rfl) (agOf (by rfl)) (by first | exact Has.z | exact Has.s Has.z | exact Has.s (Has.s Has.z) | exact Has.s (Has.s (Has.s Has.z)) | exact Has.s (Has.s (Has.s (Has.s Has.z))) | exact Has.s (Has.s (Has.s (Has.s (Has.s Has.z))))) (by rfl) ?_)
      | (go_at_call 70; refine (ref_in_any _ blocks _ _ h0).mono ?_; rintro e w1 ⟨rfl, rfl⟩)
      | (go_at_call 70; refine (ref_in_any _ head _ _ h1).mono ?_; rintro e w1 ⟨rfl, rfl⟩))
    go_ret
    rw [supB_no HNO.out]
    exact ⟨_, rfl, hS.drop.slNil⟩
  cases h2 : inB tail 74 (blocks - 1)
  · have HNO : Hid (okSup ⟨blocks, head, tail, records, shown, next, mounts⟩ = false) := Lib.hid (by unfold okSup; simp only [inB, Bool.and_eq_true, Bool.and_eq_false_iff, decide_eq_true_eq, decide_eq_false_iff_not] at h0 h1 h2 ⊢; omega)
    have hb0 : 160 ≤ blocks ∧ blocks ≤ 1024 := by simpa [inB] using h0
    obtain ⟨hb1, hb2⟩ := hb0
    go_enter Try.func51, Try.ntmps51
    go_wp2_with (first
      | (refine toList (by rfl) ?_; refine bx hS _ _ (by rfl) _ (by first | exact evC | exact evT (by rfl)) ?_; intro ps w1 hS1; clear hS; have hS := hS1; clear hS1; rw [cells_agg] at hS)
      | (refine toList (by rfl) ?_; refine ld hS _ _ (by rfl) _ _ (by rfl) (agOf (by rfl)) (by first | exact Has.z | exact Has.s Has.z | exact Has.s (Has.s Has.z) | exact Has.s (Has.s (Has.s Has.z)) | exact Has.s (Has.s (Has.s (Has.s Has.z))) | exact Has.s (Has.s (Has.s (Has.s (Has.s Has.z))))) (by rfl) ?_)
      | (go_at_call 70; refine (ref_in_any _ blocks _ _ h0).mono ?_; rintro e w1 ⟨rfl, rfl⟩)
      | (go_at_call 70; refine (ref_in_any _ head _ _ h1).mono ?_; rintro e w1 ⟨rfl, rfl⟩)
      | (go_at_call 70; refine (ref_in_any _ tail _ _ h2).mono ?_; rintro e w1 ⟨rfl, rfl⟩))
    go_ret
    rw [supB_no HNO.out]
    exact ⟨_, rfl, hS.drop.slNil⟩
  cases h3 : inB records 0 16777215
  · have HNO : Hid (okSup ⟨blocks, head, tail, records, shown, next, mounts⟩ = false) := Lib.hid (by unfold okSup; simp only [inB, Bool.and_eq_true, Bool.and_eq_false_iff, decide_eq_true_eq, decide_eq_false_iff_not] at h0 h1 h2 h3 ⊢; omega)
    have hb0 : 160 ≤ blocks ∧ blocks ≤ 1024 := by simpa [inB] using h0
    obtain ⟨hb1, hb2⟩ := hb0
    go_enter Try.func51, Try.ntmps51
    go_wp2_with (first
      | (refine toList (by rfl) ?_; refine bx hS _ _ (by rfl) _ (by first | exact evC | exact evT (by rfl)) ?_; intro ps w1 hS1; clear hS; have hS := hS1; clear hS1; rw [cells_agg] at hS)
      | (refine toList (by rfl) ?_; refine ld hS _ _ (by rfl) _ _ (by rfl) (agOf (by rfl)) (by first | exact Has.z | exact Has.s Has.z | exact Has.s (Has.s Has.z) | exact Has.s (Has.s (Has.s Has.z)) | exact Has.s (Has.s (Has.s (Has.s Has.z))) | exact Has.s (Has.s (Has.s (Has.s (Has.s Has.z))))) (by rfl) ?_)
      | (go_at_call 70; refine (ref_in_any _ blocks _ _ h0).mono ?_; rintro e w1 ⟨rfl, rfl⟩)
      | (go_at_call 70; refine (ref_in_any _ head _ _ h1).mono ?_; rintro e w1 ⟨rfl, rfl⟩)
      | (go_at_call 70; refine (ref_in_any _ tail _ _ h2).mono ?_; rintro e w1 ⟨rfl, rfl⟩)
      | (go_at_call 70; refine (ref_in_any _ records _ _ h3).mono ?_; rintro e w1 ⟨rfl, rfl⟩))
    go_ret
    rw [supB_no HNO.out]
    exact ⟨_, rfl, hS.drop.slNil⟩
  cases h4 : inB shown 0 records
  · have HNO : Hid (okSup ⟨blocks, head, tail, records, shown, next, mounts⟩ = false) := Lib.hid (by unfold okSup; simp only [inB, Bool.and_eq_true, Bool.and_eq_false_iff, decide_eq_true_eq, decide_eq_false_iff_not] at h0 h1 h2 h3 h4 ⊢; omega)
    have hb0 : 160 ≤ blocks ∧ blocks ≤ 1024 := by simpa [inB] using h0
    obtain ⟨hb1, hb2⟩ := hb0
    go_enter Try.func51, Try.ntmps51
    go_wp2_with (first
      | (refine toList (by rfl) ?_; refine bx hS _ _ (by rfl) _ (by first | exact evC | exact evT (by rfl)) ?_; intro ps w1 hS1; clear hS; have hS := hS1; clear hS1; rw [cells_agg] at hS)
      | (refine toList (by rfl) ?_; refine ld hS _ _ (by rfl) _ _ (by rfl) (agOf (by rfl)) (by first | exact Has.z | exact Has.s Has.z | exact Has.s (Has.s Has.z) | exact Has.s (Has.s (Has.s Has.z)) | exact Has.s (Has.s (Has.s (Has.s Has.z))) | exact Has.s (Has.s (Has.s (Has.s (Has.s Has.z))))) (by rfl) ?_)
      | (go_at_call 70; refine (ref_in_any _ blocks _ _ h0).mono ?_; rintro e w1 ⟨rfl, rfl⟩)
      | (go_at_call 70; refine (ref_in_any _ head _ _ h1).mono ?_; rintro e w1 ⟨rfl, rfl⟩)
      | (go_at_call 70; refine (ref_in_any _ tail _ _ h2).mono ?_; rintro e w1 ⟨rfl, rfl⟩)
      | (go_at_call 70; refine (ref_in_any _ records _ _ h3).mono ?_; rintro e w1 ⟨rfl, rfl⟩)
      | (go_at_call 70; refine (ref_in_any _ shown _ _ h4).mono ?_; rintro e w1 ⟨rfl, rfl⟩))
    go_ret
    rw [supB_no HNO.out]
    exact ⟨_, rfl, hS.drop.slNil⟩
  cases h5 : inB next 1 16777215
  · have HNO : Hid (okSup ⟨blocks, head, tail, records, shown, next, mounts⟩ = false) := Lib.hid (by unfold okSup; simp only [inB, Bool.and_eq_true, Bool.and_eq_false_iff, decide_eq_true_eq, decide_eq_false_iff_not] at h0 h1 h2 h3 h4 h5 ⊢; omega)
    have hb0 : 160 ≤ blocks ∧ blocks ≤ 1024 := by simpa [inB] using h0
    obtain ⟨hb1, hb2⟩ := hb0
    go_enter Try.func51, Try.ntmps51
    go_wp2_with (first
      | (refine toList (by rfl) ?_; refine bx hS _ _ (by rfl) _ (by first | exact evC | exact evT (by rfl)) ?_; intro ps w1 hS1; clear hS; have hS := hS1; clear hS1; rw [cells_agg] at hS)
      | (refine toList (by rfl) ?_; refine ld hS _ _ (by rfl) _ _ (by rfl) (agOf (by rfl)) (by first | exact Has.z | exact Has.s Has.z | exact Has.s (Has.s Has.z) | exact Has.s (Has.s (Has.s Has.z)) | exact Has.s (Has.s (Has.s (Has.s Has.z))) | exact Has.s (Has.s (Has.s (Has.s (Has.s Has.z))))) (by rfl) ?_)
      | (go_at_call 70; refine (ref_in_any _ blocks _ _ h0).mono ?_; rintro e w1 ⟨rfl, rfl⟩)
      | (go_at_call 70; refine (ref_in_any _ head _ _ h1).mono ?_; rintro e w1 ⟨rfl, rfl⟩)
      | (go_at_call 70; refine (ref_in_any _ tail _ _ h2).mono ?_; rintro e w1 ⟨rfl, rfl⟩)
      | (go_at_call 70; refine (ref_in_any _ records _ _ h3).mono ?_; rintro e w1 ⟨rfl, rfl⟩)
      | (go_at_call 70; refine (ref_in_any _ shown _ _ h4).mono ?_; rintro e w1 ⟨rfl, rfl⟩)
      | (go_at_call 70; refine (ref_in_any _ next _ _ h5).mono ?_; rintro e w1 ⟨rfl, rfl⟩))
    go_ret
    rw [supB_no HNO.out]
    exact ⟨_, rfl, hS.drop.slNil⟩
  cases h6 : inB mounts 0 16777215
  · have HNO : Hid (okSup ⟨blocks, head, tail, records, shown, next, mounts⟩ = false) := Lib.hid (by unfold okSup; simp only [inB, Bool.and_eq_true, Bool.and_eq_false_iff, decide_eq_true_eq, decide_eq_false_iff_not] at h0 h1 h2 h3 h4 h5 h6 ⊢; omega)
    have hb0 : 160 ≤ blocks ∧ blocks ≤ 1024 := by simpa [inB] using h0
    obtain ⟨hb1, hb2⟩ := hb0
    go_enter Try.func51, Try.ntmps51
    go_wp2_with (first
      | (refine toList (by rfl) ?_; refine bx hS _ _ (by rfl) _ (by first | exact evC | exact evT (by rfl)) ?_; intro ps w1 hS1; clear hS; have hS := hS1; clear hS1; rw [cells_agg] at hS)
      | (refine toList (by rfl) ?_; refine ld hS _ _ (by rfl) _ _ (by rfl) (agOf (by rfl)) (by first | exact Has.z | exact Has.s Has.z | exact Has.s (Has.s Has.z) | exact Has.s (Has.s (Has.s Has.z)) | exact Has.s (Has.s (Has.s (Has.s Has.z))) | exact Has.s (Has.s (Has.s (Has.s (Has.s Has.z))))) (by rfl) ?_)
      | (go_at_call 70; refine (ref_in_any _ blocks _ _ h0).mono ?_; rintro e w1 ⟨rfl, rfl⟩)
      | (go_at_call 70; refine (ref_in_any _ head _ _ h1).mono ?_; rintro e w1 ⟨rfl, rfl⟩)
      | (go_at_call 70; refine (ref_in_any _ tail _ _ h2).mono ?_; rintro e w1 ⟨rfl, rfl⟩)
      | (go_at_call 70; refine (ref_in_any _ records _ _ h3).mono ?_; rintro e w1 ⟨rfl, rfl⟩)
      | (go_at_call 70; refine (ref_in_any _ shown _ _ h4).mono ?_; rintro e w1 ⟨rfl, rfl⟩)
      | (go_at_call 70; refine (ref_in_any _ next _ _ h5).mono ?_; rintro e w1 ⟨rfl, rfl⟩)
      | (go_at_call 70; refine (ref_in_any _ mounts _ _ h6).mono ?_; rintro e w1 ⟨rfl, rfl⟩))
    go_ret
    rw [supB_no HNO.out]
    exact ⟨_, rfl, hS.drop.slNil⟩
  have HYES : Hid (okSup ⟨blocks, head, tail, records, shown, next, mounts⟩ = true) := Lib.hid (by unfold okSup; simp only [inB, Bool.and_eq_true, decide_eq_true_eq] at h0 h1 h2 h3 h4 h5 h6 ⊢; omega)
  have hb0 : 160 ≤ blocks ∧ blocks ≤ 1024 := by simpa [inB] using h0
  obtain ⟨hb1, hb2⟩ := hb0
  have hr : (0 ≤ head ∧ head ≤ 1024) ∧ (0 ≤ tail ∧ tail ≤ 1024) ∧ (0 ≤ records ∧ records ≤ 16777215) ∧ (0 ≤ shown ∧ shown ≤ 16777215) ∧ (0 ≤ next ∧ next ≤ 16777215) ∧ (0 ≤ mounts ∧ mounts ≤ 16777215) := by
    simp only [inB, Bool.and_eq_true, decide_eq_true_eq] at h0 h1 h2 h3 h4 h5 h6; omega
  obtain ⟨⟨r1, r2⟩, ⟨r3, r4⟩, ⟨r5, r6⟩, ⟨r7, r8⟩, ⟨r9, r10⟩, r11, r12⟩ := hr
  have HMG := Lib.hid (show [Value.int .u8 112, Value.int .u8 101, Value.int .u8 100, Value.int .u8 105] = bv magicB by rfl)
  go_enter Try.func51, Try.ntmps51
  go_wp2_with (first
    | (refine toList (by rfl) ?_; refine bx hS _ _ (by rfl) _ (by first | exact evC | exact evT (by rfl)) ?_; intro ps w1 hS1; clear hS; have hS := hS1; clear hS1; rw [cells_agg] at hS)
    | (refine toList (by rfl) ?_; refine ld hS _ _ (by rfl) _ _ (by rfl) (agOf (by rfl)) (by first | exact Has.z | exact Has.s Has.z | exact Has.s (Has.s Has.z) | exact Has.s (Has.s (Has.s Has.z)) | exact Has.s (Has.s (Has.s (Has.s Has.z))) | exact Has.s (Has.s (Has.s (Has.s (Has.s Has.z))))) (by rfl) ?_)
    | (go_at_call 70; refine (ref_in_any _ blocks _ _ h0).mono ?_; rintro e w1 ⟨rfl, rfl⟩)
    | (go_at_call 70; refine (ref_in_any _ head _ _ h1).mono ?_; rintro e w1 ⟨rfl, rfl⟩)
    | (go_at_call 70; refine (ref_in_any _ tail _ _ h2).mono ?_; rintro e w1 ⟨rfl, rfl⟩)
    | (go_at_call 70; refine (ref_in_any _ records _ _ h3).mono ?_; rintro e w1 ⟨rfl, rfl⟩)
    | (go_at_call 70; refine (ref_in_any _ shown _ _ h4).mono ?_; rintro e w1 ⟨rfl, rfl⟩)
    | (go_at_call 70; refine (ref_in_any _ next _ _ h5).mono ?_; rintro e w1 ⟨rfl, rfl⟩)
    | (go_at_call 70; refine (ref_in_any _ mounts _ _ h6).mono ?_; rintro e w1 ⟨rfl, rfl⟩)
    | (refine toList (by rfl) ?_; refine bsF hS _ _ _ (by rfl) (elOf (by rfl)) [.int .u8 112, .int .u8 101, .int .u8 100, .int .u8 105] (by rfl) (by rfl) (by decide) (by decide) (by decide) ?_; intro b1 w1 hS1; clear hS; have hS := hS1; clear hS1)
    | (refine toList (by rfl) ?_; refine fzS hS _ _ (by rfl) _ _ _ _ (by rfl) (by kernel_rfl) (by first | exact Has.z | exact Has.s Has.z | exact Has.s (Has.s Has.z) | exact Has.s (Has.s (Has.s Has.z)) | exact Has.s (Has.s (Has.s (Has.s Has.z))) | exact Has.s (Has.s (Has.s (Has.s (Has.s Has.z))))) ?_; intro w1 hS1; clear hS; have hS := hS1; clear hS1))
  have hS1 : Sat W _ (Sl 5 1 (.slice (some ⟨b1, 0, none⟩) 4 4) (encS0 ⟨blocks, head, tail, records, shown, next, mounts⟩ 0).length (bv (encS0 ⟨blocks, head, tail, records, shown, next, mounts⟩ 0)) :: _) := Sat.slMk (n := 4) (sz := 1) (cap := 4) (pre := []) (vs := bv magicB) (rest := []) (by exact hS) (Nat.le_refl _) (by decide) (by rfl) rfl (by decide)
  have HL0 := Lib.hid (encS0_len ⟨blocks, head, tail, records, shown, next, mounts⟩ (Nat.zero_le 3))
  clear hS; have hS := hS1; clear hS1
  refine regStart2 [] hS (fun _ h => h.one (Has.s Has.z)) (by kernel_rfl) rfl ?_
  intro w1 hS1
  clear hS; have hS := hS1; clear hS1
  (refine regP 0 hS (fun _ h => h.one (Has.s Has.z)) rfl (by kernel_rfl) (by kernel_rfl) (by kernel_rfl) (fun _ _ _ _ h => h) (by rfl) (by rfl) ?_; apply Exists.intro; apply And.intro; (intro w; go_simp; try with_reducible rfl); (simp only [Act.put, List.setIfInBounds_toArray, List.set_cons_zero, List.set_cons_succ]))
  (refine regP 1 hS (fun _ h => h.one (Has.s Has.z)) rfl (by kernel_rfl) (by kernel_rfl) (by kernel_rfl) (fun _ _ _ _ h => h) (by rfl) (by rfl) ?_; apply Exists.intro; apply And.intro; (intro w; go_simp; try with_reducible rfl); (simp only [Act.put, List.setIfInBounds_toArray, List.set_cons_zero, List.set_cons_succ]))
  (refine regR 2 hS (fun _ h => h.one (Has.s Has.z)) rfl (by kernel_rfl) (by kernel_rfl) (by kernel_rfl) (by kernel_rfl) (by kernel_rfl) (fun _ _ _ _ h => h) (by rfl) (by rfl) ?_; (first
        | refine ⟨_, yLd _ _ (by rfl) _ _ (by rfl) (agOf (by rfl)) (by first | exact Has.z | exact Has.s Has.z | exact Has.s (Has.s Has.z) | exact Has.s (Has.s (Has.s Has.z)) | exact Has.s (Has.s (Has.s (Has.s Has.z))) | exact Has.s (Has.s (Has.s (Has.s (Has.s Has.z))))) (by rfl), ?_⟩); (simp only [Act.put, List.setIfInBounds_toArray, List.set_cons_zero, List.set_cons_succ]))
  (refine regP 5 hS (fun _ h => h.one (Has.s Has.z)) rfl (by kernel_rfl) (by kernel_rfl) (by kernel_rfl) (fun _ _ _ _ h => h) (by rfl) (by rfl) ?_; apply Exists.intro; apply And.intro; (intro w; go_simp; try with_reducible rfl); (simp only [Act.put, List.setIfInBounds_toArray, List.set_cons_zero, List.set_cons_succ]))
  (refine regR 6 hS (fun _ h => h.one (Has.s Has.z)) rfl (by kernel_rfl) (by kernel_rfl) (by kernel_rfl) (by kernel_rfl) (by kernel_rfl) (fun _ _ _ _ h => h) (by rfl) (by rfl) ?_; (first
        | refine ⟨_, yLd _ _ (by rfl) _ _ (by rfl) (agOf (by rfl)) (by first | exact Has.z | exact Has.s Has.z | exact Has.s (Has.s Has.z) | exact Has.s (Has.s (Has.s Has.z)) | exact Has.s (Has.s (Has.s (Has.s Has.z))) | exact Has.s (Has.s (Has.s (Has.s (Has.s Has.z))))) (by rfl), ?_⟩); (simp only [Act.put, List.setIfInBounds_toArray, List.set_cons_zero, List.set_cons_succ]))
  (refine regP 9 hS (fun _ h => h.one (Has.s Has.z)) rfl (by kernel_rfl) (by kernel_rfl) (by kernel_rfl) (fun _ _ _ _ h => h) (by rfl) (by rfl) ?_; apply Exists.intro; apply And.intro; (intro w; go_simp; try with_reducible rfl); (simp only [Act.put, List.setIfInBounds_toArray, List.set_cons_zero, List.set_cons_succ]))
  (refine regR 10 hS (fun _ h => h.one (Has.s Has.z)) rfl (by kernel_rfl) (by kernel_rfl) (by kernel_rfl) (by kernel_rfl) (by kernel_rfl) (fun _ _ _ _ h => h) (by rfl) (by rfl) ?_; (first
        | refine ⟨_, yLd _ _ (by rfl) _ _ (by rfl) (agOf (by rfl)) (by first | exact Has.z | exact Has.s Has.z | exact Has.s (Has.s Has.z) | exact Has.s (Has.s (Has.s Has.z)) | exact Has.s (Has.s (Has.s (Has.s Has.z))) | exact Has.s (Has.s (Has.s (Has.s (Has.s Has.z))))) (by rfl), ?_⟩); (simp only [Act.put, List.setIfInBounds_toArray, List.set_cons_zero, List.set_cons_succ]))
  (refine regA 3 rfl (by kernel_rfl) (by rfl) (by rfl) false (by kernel_rfl) (fun K hK => ?_); (first
        | (refine Go.Sep.cl 62 _ _ (by rfl) (by rfl) (by kernel_rfl) (ref_put_any hS blocks (by omega) (by omega) 2 (by omega)) ?_; rintro e w1 ⟨v2, rfl, hS1⟩; clear hS; have hS := hS1; clear hS1; refine ⟨_, rfl, ?_⟩)
        | (refine Go.Sep.cl 62 _ _ (by rfl) (by rfl) (by kernel_rfl) (ref_put_any hS head (by omega) (by omega) 2 (by omega)) ?_; rintro e w1 ⟨v2, rfl, hS1⟩; clear hS; have hS := hS1; clear hS1; refine ⟨_, rfl, ?_⟩)
        | (refine Go.Sep.cl 62 _ _ (by rfl) (by rfl) (by kernel_rfl) (ref_put_any hS tail (by omega) (by omega) 2 (by omega)) ?_; rintro e w1 ⟨v2, rfl, hS1⟩; clear hS; have hS := hS1; clear hS1; refine ⟨_, rfl, ?_⟩)
        | ((refine apB hS _ _ _ _ (by rfl) (by rfl) (by rfl) (elOf (by rfl)) (by rfl) (by rfl) (by rfl) (inOf (by rfl)) (Has.s Has.z) Has.z (by have := HL0.out; simp only [List.length_append, le_length]; omega) ?_; intro v1 w1 hS1; clear hS; have hS := hS1; clear hS1; dsimp only [List.set_cons_zero, List.set_cons_succ] at hS); replace hS := hS.drop)); refine hK _ _ _ (hS.upTo (fun _ h => by first | exact h.one Has.z | exact h.one (Has.s Has.z) | exact h.one (Has.s (Has.s Has.z)) | exact h.one (Has.s (Has.s (Has.s Has.z))) | exact h | exact h.drop | exact h.drop.drop | exact h.drop.drop.drop | exact h.drop.drop.drop.drop)) (fun _ _ h => h) ?_; clear hK K; (simp only [Act.put, List.setIfInBounds_toArray, List.set_cons_zero, List.set_cons_succ]))
  (refine regA 4 rfl (by kernel_rfl) (by rfl) (by rfl) false (by kernel_rfl) (fun K hK => ?_); (first
        | (refine Go.Sep.cl 62 _ _ (by rfl) (by rfl) (by kernel_rfl) (ref_put_any hS blocks (by omega) (by omega) 2 (by omega)) ?_; rintro e w1 ⟨v2, rfl, hS1⟩; clear hS; have hS := hS1; clear hS1; refine ⟨_, rfl, ?_⟩)
        | (refine Go.Sep.cl 62 _ _ (by rfl) (by rfl) (by kernel_rfl) (ref_put_any hS head (by omega) (by omega) 2 (by omega)) ?_; rintro e w1 ⟨v2, rfl, hS1⟩; clear hS; have hS := hS1; clear hS1; refine ⟨_, rfl, ?_⟩)
        | (refine Go.Sep.cl 62 _ _ (by rfl) (by rfl) (by kernel_rfl) (ref_put_any hS tail (by omega) (by omega) 2 (by omega)) ?_; rintro e w1 ⟨v2, rfl, hS1⟩; clear hS; have hS := hS1; clear hS1; refine ⟨_, rfl, ?_⟩)
        | ((refine apB hS _ _ _ _ (by rfl) (by rfl) (by rfl) (elOf (by rfl)) (by rfl) (by rfl) (by rfl) (inOf (by rfl)) (Has.s Has.z) Has.z (by have := HL0.out; simp only [List.length_append, le_length]; omega) ?_; intro v1 w1 hS1; clear hS; have hS := hS1; clear hS1; dsimp only [List.set_cons_zero, List.set_cons_succ] at hS); replace hS := hS.drop)); refine hK _ _ _ (hS.upTo (fun _ h => by first | exact h.one Has.z | exact h.one (Has.s Has.z) | exact h.one (Has.s (Has.s Has.z)) | exact h.one (Has.s (Has.s (Has.s Has.z))) | exact h | exact h.drop | exact h.drop.drop | exact h.drop.drop.drop | exact h.drop.drop.drop.drop)) (fun _ _ h => h) ?_; clear hK K; (simp only [Act.put, List.setIfInBounds_toArray, List.set_cons_zero, List.set_cons_succ]))
  (refine regA 7 rfl (by kernel_rfl) (by rfl) (by rfl) false (by kernel_rfl) (fun K hK => ?_); (first
        | (refine Go.Sep.cl 62 _ _ (by rfl) (by rfl) (by kernel_rfl) (ref_put_any hS blocks (by omega) (by omega) 2 (by omega)) ?_; rintro e w1 ⟨v2, rfl, hS1⟩; clear hS; have hS := hS1; clear hS1; refine ⟨_, rfl, ?_⟩)
        | (refine Go.Sep.cl 62 _ _ (by rfl) (by rfl) (by kernel_rfl) (ref_put_any hS head (by omega) (by omega) 2 (by omega)) ?_; rintro e w1 ⟨v2, rfl, hS1⟩; clear hS; have hS := hS1; clear hS1; refine ⟨_, rfl, ?_⟩)
        | (refine Go.Sep.cl 62 _ _ (by rfl) (by rfl) (by kernel_rfl) (ref_put_any hS tail (by omega) (by omega) 2 (by omega)) ?_; rintro e w1 ⟨v2, rfl, hS1⟩; clear hS; have hS := hS1; clear hS1; refine ⟨_, rfl, ?_⟩)
        | ((refine apB hS _ _ _ _ (by rfl) (by rfl) (by rfl) (elOf (by rfl)) (by rfl) (by rfl) (by rfl) (inOf (by rfl)) (Has.s Has.z) Has.z (by have := HL0.out; simp only [List.length_append, le_length]; omega) ?_; intro v1 w1 hS1; clear hS; have hS := hS1; clear hS1; dsimp only [List.set_cons_zero, List.set_cons_succ] at hS); replace hS := hS.drop)); refine hK _ _ _ (hS.upTo (fun _ h => by first | exact h.one Has.z | exact h.one (Has.s Has.z) | exact h.one (Has.s (Has.s Has.z)) | exact h.one (Has.s (Has.s (Has.s Has.z))) | exact h | exact h.drop | exact h.drop.drop | exact h.drop.drop.drop | exact h.drop.drop.drop.drop)) (fun _ _ h => h) ?_; clear hK K; (simp only [Act.put, List.setIfInBounds_toArray, List.set_cons_zero, List.set_cons_succ]))
  (refine regA 8 rfl (by kernel_rfl) (by rfl) (by rfl) false (by kernel_rfl) (fun K hK => ?_); (first
        | (refine Go.Sep.cl 62 _ _ (by rfl) (by rfl) (by kernel_rfl) (ref_put_any hS blocks (by omega) (by omega) 2 (by omega)) ?_; rintro e w1 ⟨v2, rfl, hS1⟩; clear hS; have hS := hS1; clear hS1; refine ⟨_, rfl, ?_⟩)
        | (refine Go.Sep.cl 62 _ _ (by rfl) (by rfl) (by kernel_rfl) (ref_put_any hS head (by omega) (by omega) 2 (by omega)) ?_; rintro e w1 ⟨v2, rfl, hS1⟩; clear hS; have hS := hS1; clear hS1; refine ⟨_, rfl, ?_⟩)
        | (refine Go.Sep.cl 62 _ _ (by rfl) (by rfl) (by kernel_rfl) (ref_put_any hS tail (by omega) (by omega) 2 (by omega)) ?_; rintro e w1 ⟨v2, rfl, hS1⟩; clear hS; have hS := hS1; clear hS1; refine ⟨_, rfl, ?_⟩)
        | ((refine apB hS _ _ _ _ (by rfl) (by rfl) (by rfl) (elOf (by rfl)) (by rfl) (by rfl) (by rfl) (inOf (by rfl)) (Has.s Has.z) Has.z (by have := HL0.out; simp only [List.length_append, le_length]; omega) ?_; intro v1 w1 hS1; clear hS; have hS := hS1; clear hS1; dsimp only [List.set_cons_zero, List.set_cons_succ] at hS); replace hS := hS.drop)); refine hK _ _ _ (hS.upTo (fun _ h => by first | exact h.one Has.z | exact h.one (Has.s Has.z) | exact h.one (Has.s (Has.s Has.z)) | exact h.one (Has.s (Has.s (Has.s Has.z))) | exact h | exact h.drop | exact h.drop.drop | exact h.drop.drop.drop | exact h.drop.drop.drop.drop)) (fun _ _ h => h) ?_; clear hK K; (simp only [Act.put, List.setIfInBounds_toArray, List.set_cons_zero, List.set_cons_succ]))
  (refine regA 11 rfl (by kernel_rfl) (by rfl) (by rfl) false (by kernel_rfl) (fun K hK => ?_); (first
        | (refine Go.Sep.cl 62 _ _ (by rfl) (by rfl) (by kernel_rfl) (ref_put_any hS blocks (by omega) (by omega) 2 (by omega)) ?_; rintro e w1 ⟨v2, rfl, hS1⟩; clear hS; have hS := hS1; clear hS1; refine ⟨_, rfl, ?_⟩)
        | (refine Go.Sep.cl 62 _ _ (by rfl) (by rfl) (by kernel_rfl) (ref_put_any hS head (by omega) (by omega) 2 (by omega)) ?_; rintro e w1 ⟨v2, rfl, hS1⟩; clear hS; have hS := hS1; clear hS1; refine ⟨_, rfl, ?_⟩)
        | (refine Go.Sep.cl 62 _ _ (by rfl) (by rfl) (by kernel_rfl) (ref_put_any hS tail (by omega) (by omega) 2 (by omega)) ?_; rintro e w1 ⟨v2, rfl, hS1⟩; clear hS; have hS := hS1; clear hS1; refine ⟨_, rfl, ?_⟩)
        | ((refine apB hS _ _ _ _ (by rfl) (by rfl) (by rfl) (elOf (by rfl)) (by rfl) (by rfl) (by rfl) (inOf (by rfl)) (Has.s Has.z) Has.z (by have := HL0.out; simp only [List.length_append, le_length]; omega) ?_; intro v1 w1 hS1; clear hS; have hS := hS1; clear hS1; dsimp only [List.set_cons_zero, List.set_cons_succ] at hS); replace hS := hS.drop)); refine hK _ _ _ (hS.upTo (fun _ h => by first | exact h.one Has.z | exact h.one (Has.s Has.z) | exact h.one (Has.s (Has.s Has.z)) | exact h.one (Has.s (Has.s (Has.s Has.z))) | exact h | exact h.drop | exact h.drop.drop | exact h.drop.drop.drop | exact h.drop.drop.drop.drop)) (fun _ _ h => h) ?_; clear hK K; (simp only [Act.put, List.setIfInBounds_toArray, List.set_cons_zero, List.set_cons_succ]))
  (refine regA 12 rfl (by kernel_rfl) (by rfl) (by rfl) false (by kernel_rfl) (fun K hK => ?_); (first
        | (refine Go.Sep.cl 62 _ _ (by rfl) (by rfl) (by kernel_rfl) (ref_put_any hS blocks (by omega) (by omega) 2 (by omega)) ?_; rintro e w1 ⟨v2, rfl, hS1⟩; clear hS; have hS := hS1; clear hS1; refine ⟨_, rfl, ?_⟩)
        | (refine Go.Sep.cl 62 _ _ (by rfl) (by rfl) (by kernel_rfl) (ref_put_any hS head (by omega) (by omega) 2 (by omega)) ?_; rintro e w1 ⟨v2, rfl, hS1⟩; clear hS; have hS := hS1; clear hS1; refine ⟨_, rfl, ?_⟩)
        | (refine Go.Sep.cl 62 _ _ (by rfl) (by rfl) (by kernel_rfl) (ref_put_any hS tail (by omega) (by omega) 2 (by omega)) ?_; rintro e w1 ⟨v2, rfl, hS1⟩; clear hS; have hS := hS1; clear hS1; refine ⟨_, rfl, ?_⟩)
        | ((refine apB hS _ _ _ _ (by rfl) (by rfl) (by rfl) (elOf (by rfl)) (by rfl) (by rfl) (by rfl) (inOf (by rfl)) (Has.s Has.z) Has.z (by have := HL0.out; simp only [List.length_append, le_length]; omega) ?_; intro v1 w1 hS1; clear hS; have hS := hS1; clear hS1; dsimp only [List.set_cons_zero, List.set_cons_succ] at hS); replace hS := hS.drop)); refine hK _ _ _ (hS.upTo (fun _ h => by first | exact h.one Has.z | exact h.one (Has.s Has.z) | exact h.one (Has.s (Has.s Has.z)) | exact h.one (Has.s (Has.s (Has.s Has.z))) | exact h | exact h.drop | exact h.drop.drop | exact h.drop.drop.drop | exact h.drop.drop.drop.drop)) (fun _ _ h => h) ?_; clear hK K; (simp only [Act.put, List.setIfInBounds_toArray, List.set_cons_zero, List.set_cons_succ]))
  (refine regP 13 hS (fun _ h => by first | exact h.one Has.z | exact h.one (Has.s Has.z) | exact h.one (Has.s (Has.s Has.z)) | exact h.one (Has.s (Has.s (Has.s Has.z))) | exact h | exact h.drop | exact h.drop.drop | exact h.drop.drop.drop | exact h.drop.drop.drop.drop) rfl (by kernel_rfl) (by kernel_rfl) (by kernel_rfl) (fun _ _ _ _ h => h) (by rfl) (by rfl) ?_; apply Exists.intro; apply And.intro; (intro w; go_simp; try with_reducible rfl); (simp only [Act.put, List.setIfInBounds_toArray, List.set_cons_zero, List.set_cons_succ]))
  refine regDone (by kernel_rfl) ?_
  rw [encS0_0, encS0_1, encS0_2, encS01] at hS
  have HL1 := Lib.hid (encS1_len ⟨blocks, head, tail, records, shown, next, mounts⟩ (Nat.zero_le 4))
  go_wp2
  refine regStart2 [7, 8] hS (fun _ h => h.one (Has.s Has.z)) (by kernel_rfl) rfl ?_
  intro w1 hS1
  clear hS; have hS := hS1; clear hS1
  (refine regP 0 hS (fun _ h => h.one (Has.s Has.z)) rfl (by kernel_rfl) (by kernel_rfl) (by kernel_rfl) (fun _ _ _ _ h => h) (by rfl) (by rfl) ?_; apply Exists.intro; apply And.intro; (intro w; go_simp; try with_reducible rfl); (simp only [Act.put, List.setIfInBounds_toArray, List.set_cons_zero, List.set_cons_succ]))
  (refine regP 1 hS (fun _ h => h.one (Has.s Has.z)) rfl (by kernel_rfl) (by kernel_rfl) (by kernel_rfl) (fun _ _ _ _ h => h) (by rfl) (by rfl) ?_; apply Exists.intro; apply And.intro; (intro w; go_simp; try with_reducible rfl); (simp only [Act.put, List.setIfInBounds_toArray, List.set_cons_zero, List.set_cons_succ]))
  (refine regR 2 hS (fun _ h => h.one (Has.s Has.z)) rfl (by kernel_rfl) (by kernel_rfl) (by kernel_rfl) (by kernel_rfl) (by kernel_rfl) (fun _ _ _ _ h => h) (by rfl) (by rfl) ?_; (first
        | refine ⟨_, yLd _ _ (by rfl) _ _ (by rfl) (agOf (by rfl)) (by first | exact Has.z | exact Has.s Has.z | exact Has.s (Has.s Has.z) | exact Has.s (Has.s (Has.s Has.z)) | exact Has.s (Has.s (Has.s (Has.s Has.z))) | exact Has.s (Has.s (Has.s (Has.s (Has.s Has.z))))) (by rfl), ?_⟩); (simp only [Act.put, List.setIfInBounds_toArray, List.set_cons_zero, List.set_cons_succ]))
  (refine regP 5 hS (fun _ h => h.one (Has.s Has.z)) rfl (by kernel_rfl) (by kernel_rfl) (by kernel_rfl) (fun _ _ _ _ h => h) (by rfl) (by rfl) ?_; apply Exists.intro; apply And.intro; (intro w; go_simp; try with_reducible rfl); (simp only [Act.put, List.setIfInBounds_toArray, List.set_cons_zero, List.set_cons_succ]))
  (refine regR 6 hS (fun _ h => h.one (Has.s Has.z)) rfl (by kernel_rfl) (by kernel_rfl) (by kernel_rfl) (by kernel_rfl) (by kernel_rfl) (fun _ _ _ _ h => h) (by rfl) (by rfl) ?_; (first
        | refine ⟨_, yLd _ _ (by rfl) _ _ (by rfl) (agOf (by rfl)) (by first | exact Has.z | exact Has.s Has.z | exact Has.s (Has.s Has.z) | exact Has.s (Has.s (Has.s Has.z)) | exact Has.s (Has.s (Has.s (Has.s Has.z))) | exact Has.s (Has.s (Has.s (Has.s (Has.s Has.z))))) (by rfl), ?_⟩); (simp only [Act.put, List.setIfInBounds_toArray, List.set_cons_zero, List.set_cons_succ]))
  (refine regA 3 rfl (by kernel_rfl) (by rfl) (by rfl) false (by kernel_rfl) (fun K hK => ?_); (first
        | (refine Go.Sep.cl 62 _ _ (by rfl) (by rfl) (by kernel_rfl) (ref_put_any hS records (by omega) (by omega) 3 (by omega)) ?_; rintro e w1 ⟨v2, rfl, hS1⟩; clear hS; have hS := hS1; clear hS1; refine ⟨_, rfl, ?_⟩)
        | (refine Go.Sep.cl 62 _ _ (by rfl) (by rfl) (by kernel_rfl) (ref_put_any hS shown (by omega) (by omega) 3 (by omega)) ?_; rintro e w1 ⟨v2, rfl, hS1⟩; clear hS; have hS := hS1; clear hS1; refine ⟨_, rfl, ?_⟩)
        | ((refine apB hS _ _ _ _ (by rfl) (by rfl) (by rfl) (elOf (by rfl)) (by rfl) (by rfl) (by rfl) (inOf (by rfl)) (Has.s Has.z) Has.z (by have := HL1.out; simp only [List.length_append, le_length]; omega) ?_; intro v1 w1 hS1; clear hS; have hS := hS1; clear hS1; dsimp only [List.set_cons_zero, List.set_cons_succ] at hS); replace hS := hS.drop)); refine hK _ _ _ (hS.upTo (fun _ h => by first | exact h.one Has.z | exact h.one (Has.s Has.z) | exact h.one (Has.s (Has.s Has.z)) | exact h.one (Has.s (Has.s (Has.s Has.z))) | exact h | exact h.drop | exact h.drop.drop | exact h.drop.drop.drop | exact h.drop.drop.drop.drop)) (fun _ _ h => h) ?_; clear hK K; (simp only [Act.put, List.setIfInBounds_toArray, List.set_cons_zero, List.set_cons_succ]))
  (refine regA 4 rfl (by kernel_rfl) (by rfl) (by rfl) false (by kernel_rfl) (fun K hK => ?_); (first
        | (refine Go.Sep.cl 62 _ _ (by rfl) (by rfl) (by kernel_rfl) (ref_put_any hS records (by omega) (by omega) 3 (by omega)) ?_; rintro e w1 ⟨v2, rfl, hS1⟩; clear hS; have hS := hS1; clear hS1; refine ⟨_, rfl, ?_⟩)
        | (refine Go.Sep.cl 62 _ _ (by rfl) (by rfl) (by kernel_rfl) (ref_put_any hS shown (by omega) (by omega) 3 (by omega)) ?_; rintro e w1 ⟨v2, rfl, hS1⟩; clear hS; have hS := hS1; clear hS1; refine ⟨_, rfl, ?_⟩)
        | ((refine apB hS _ _ _ _ (by rfl) (by rfl) (by rfl) (elOf (by rfl)) (by rfl) (by rfl) (by rfl) (inOf (by rfl)) (Has.s Has.z) Has.z (by have := HL1.out; simp only [List.length_append, le_length]; omega) ?_; intro v1 w1 hS1; clear hS; have hS := hS1; clear hS1; dsimp only [List.set_cons_zero, List.set_cons_succ] at hS); replace hS := hS.drop)); refine hK _ _ _ (hS.upTo (fun _ h => by first | exact h.one Has.z | exact h.one (Has.s Has.z) | exact h.one (Has.s (Has.s Has.z)) | exact h.one (Has.s (Has.s (Has.s Has.z))) | exact h | exact h.drop | exact h.drop.drop | exact h.drop.drop.drop | exact h.drop.drop.drop.drop)) (fun _ _ h => h) ?_; clear hK K; (simp only [Act.put, List.setIfInBounds_toArray, List.set_cons_zero, List.set_cons_succ]))
  (refine regA 7 rfl (by kernel_rfl) (by rfl) (by rfl) true (by kernel_rfl) (fun K hK => ?_); (first
        | (refine Go.Sep.cl 62 _ _ (by rfl) (by rfl) (by kernel_rfl) (ref_put_any hS records (by omega) (by omega) 3 (by omega)) ?_; rintro e w1 ⟨v2, rfl, hS1⟩; clear hS; have hS := hS1; clear hS1; refine ⟨_, rfl, ?_⟩)
        | (refine Go.Sep.cl 62 _ _ (by rfl) (by rfl) (by kernel_rfl) (ref_put_any hS shown (by omega) (by omega) 3 (by omega)) ?_; rintro e w1 ⟨v2, rfl, hS1⟩; clear hS; have hS := hS1; clear hS1; refine ⟨_, rfl, ?_⟩)
        | ((refine apB hS _ _ _ _ (by rfl) (by rfl) (by rfl) (elOf (by rfl)) (by rfl) (by rfl) (by rfl) (inOf (by rfl)) (Has.s Has.z) Has.z (by have := HL1.out; simp only [List.length_append, le_length]; omega) ?_; intro v1 w1 hS1; clear hS; have hS := hS1; clear hS1; dsimp only [List.set_cons_zero, List.set_cons_succ] at hS); replace hS := hS.drop)); refine hK _ _ _ hS (by first | (intro h; cases h; done) | exact fun _ _ h => h | exact fun _ _ h => h.drop | exact fun _ _ h => h.drop.drop | exact fun _ _ h => h.one Has.z | exact fun _ _ h => h.one (Has.s Has.z) | exact fun _ _ h => h.one (Has.s (Has.s Has.z))) ?_; clear hK K; (simp only [Act.put, List.setIfInBounds_toArray, List.set_cons_zero, List.set_cons_succ]))
  (refine regA 8 rfl (by kernel_rfl) (by rfl) (by rfl) true (by kernel_rfl) (fun K hK => ?_); (first
        | (refine Go.Sep.cl 62 _ _ (by rfl) (by rfl) (by kernel_rfl) (ref_put_any hS records (by omega) (by omega) 3 (by omega)) ?_; rintro e w1 ⟨v2, rfl, hS1⟩; clear hS; have hS := hS1; clear hS1; refine ⟨_, rfl, ?_⟩)
        | (refine Go.Sep.cl 62 _ _ (by rfl) (by rfl) (by kernel_rfl) (ref_put_any hS shown (by omega) (by omega) 3 (by omega)) ?_; rintro e w1 ⟨v2, rfl, hS1⟩; clear hS; have hS := hS1; clear hS1; refine ⟨_, rfl, ?_⟩)
        | ((refine apB hS _ _ _ _ (by rfl) (by rfl) (by rfl) (elOf (by rfl)) (by rfl) (by rfl) (by rfl) (inOf (by rfl)) (Has.s Has.z) Has.z (by have := HL1.out; simp only [List.length_append, le_length]; omega) ?_; intro v1 w1 hS1; clear hS; have hS := hS1; clear hS1; dsimp only [List.set_cons_zero, List.set_cons_succ] at hS); replace hS := hS.drop)); refine hK _ _ _ hS (by first | (intro h; cases h; done) | exact fun _ _ h => h | exact fun _ _ h => h.drop | exact fun _ _ h => h.drop.drop | exact fun _ _ h => h.one Has.z | exact fun _ _ h => h.one (Has.s Has.z) | exact fun _ _ h => h.one (Has.s (Has.s Has.z))) ?_; clear hK K; (simp only [Act.put, List.setIfInBounds_toArray, List.set_cons_zero, List.set_cons_succ]))
  (refine regP 9 hS (fun _ h => h) rfl (by kernel_rfl) (by kernel_rfl) (by kernel_rfl) (fun _ _ _ _ h => h) (by rfl) (by rfl) ?_; apply Exists.intro; apply And.intro; (intro w; go_simp; try with_reducible rfl); (simp only [Act.put, List.setIfInBounds_toArray, List.set_cons_zero, List.set_cons_succ]))
  refine regDone (by kernel_rfl) ?_
  go_wp2
  refine regStart2 [7, 8] hS (fun _ h => h.one (Has.s Has.z)) (by kernel_rfl) rfl ?_
  intro w1 hS1
  clear hS; have hS := hS1; clear hS1
  (refine regP 0 hS (fun _ h => h.one (Has.s Has.z)) rfl (by kernel_rfl) (by kernel_rfl) (by kernel_rfl) (fun _ _ _ _ h => h) (by rfl) (by rfl) ?_; apply Exists.intro; apply And.intro; (intro w; go_simp; try with_reducible rfl); (simp only [Act.put, List.setIfInBounds_toArray, List.set_cons_zero, List.set_cons_succ]))
  (refine regP 1 hS (fun _ h => h.one (Has.s Has.z)) rfl (by kernel_rfl) (by kernel_rfl) (by kernel_rfl) (fun _ _ _ _ h => h) (by rfl) (by rfl) ?_; apply Exists.intro; apply And.intro; (intro w; go_simp; try with_reducible rfl); (simp only [Act.put, List.setIfInBounds_toArray, List.set_cons_zero, List.set_cons_succ]))
  (refine regR 2 hS (fun _ h => h.one (Has.s Has.z)) rfl (by kernel_rfl) (by kernel_rfl) (by kernel_rfl) (by kernel_rfl) (by kernel_rfl) (fun _ _ _ _ h => h) (by rfl) (by rfl) ?_; (first
        | refine ⟨_, yLd _ _ (by rfl) _ _ (by rfl) (agOf (by rfl)) (by first | exact Has.z | exact Has.s Has.z | exact Has.s (Has.s Has.z) | exact Has.s (Has.s (Has.s Has.z)) | exact Has.s (Has.s (Has.s (Has.s Has.z))) | exact Has.s (Has.s (Has.s (Has.s (Has.s Has.z))))) (by rfl), ?_⟩); (simp only [Act.put, List.setIfInBounds_toArray, List.set_cons_zero, List.set_cons_succ]))
  (refine regP 5 hS (fun _ h => h.one (Has.s Has.z)) rfl (by kernel_rfl) (by kernel_rfl) (by kernel_rfl) (fun _ _ _ _ h => h) (by rfl) (by rfl) ?_; apply Exists.intro; apply And.intro; (intro w; go_simp; try with_reducible rfl); (simp only [Act.put, List.setIfInBounds_toArray, List.set_cons_zero, List.set_cons_succ]))
  (refine regR 6 hS (fun _ h => h.one (Has.s Has.z)) rfl (by kernel_rfl) (by kernel_rfl) (by kernel_rfl) (by kernel_rfl) (by kernel_rfl) (fun _ _ _ _ h => h) (by rfl) (by rfl) ?_; (first
        | refine ⟨_, yLd _ _ (by rfl) _ _ (by rfl) (agOf (by rfl)) (by first | exact Has.z | exact Has.s Has.z | exact Has.s (Has.s Has.z) | exact Has.s (Has.s (Has.s Has.z)) | exact Has.s (Has.s (Has.s (Has.s Has.z))) | exact Has.s (Has.s (Has.s (Has.s (Has.s Has.z))))) (by rfl), ?_⟩); (simp only [Act.put, List.setIfInBounds_toArray, List.set_cons_zero, List.set_cons_succ]))
  (refine regA 3 rfl (by kernel_rfl) (by rfl) (by rfl) false (by kernel_rfl) (fun K hK => ?_); (first
        | (refine Go.Sep.cl 62 _ _ (by rfl) (by rfl) (by kernel_rfl) (ref_put_any hS next (by omega) (by omega) 3 (by omega)) ?_; rintro e w1 ⟨v2, rfl, hS1⟩; clear hS; have hS := hS1; clear hS1; refine ⟨_, rfl, ?_⟩)
        | (refine Go.Sep.cl 62 _ _ (by rfl) (by rfl) (by kernel_rfl) (ref_put_any hS mounts (by omega) (by omega) 3 (by omega)) ?_; rintro e w1 ⟨v2, rfl, hS1⟩; clear hS; have hS := hS1; clear hS1; refine ⟨_, rfl, ?_⟩)
        | ((refine apB hS _ _ _ _ (by rfl) (by rfl) (by rfl) (elOf (by rfl)) (by rfl) (by rfl) (by rfl) (inOf (by rfl)) (Has.s Has.z) Has.z (by have := HL1.out; simp only [List.length_append, le_length]; omega) ?_; intro v1 w1 hS1; clear hS; have hS := hS1; clear hS1; dsimp only [List.set_cons_zero, List.set_cons_succ] at hS); replace hS := hS.drop)); refine hK _ _ _ (hS.upTo (fun _ h => by first | exact h.one Has.z | exact h.one (Has.s Has.z) | exact h.one (Has.s (Has.s Has.z)) | exact h.one (Has.s (Has.s (Has.s Has.z))) | exact h | exact h.drop | exact h.drop.drop | exact h.drop.drop.drop | exact h.drop.drop.drop.drop)) (fun _ _ h => h) ?_; clear hK K; (simp only [Act.put, List.setIfInBounds_toArray, List.set_cons_zero, List.set_cons_succ]))
  (refine regA 4 rfl (by kernel_rfl) (by rfl) (by rfl) false (by kernel_rfl) (fun K hK => ?_); (first
        | (refine Go.Sep.cl 62 _ _ (by rfl) (by rfl) (by kernel_rfl) (ref_put_any hS next (by omega) (by omega) 3 (by omega)) ?_; rintro e w1 ⟨v2, rfl, hS1⟩; clear hS; have hS := hS1; clear hS1; refine ⟨_, rfl, ?_⟩)
        | (refine Go.Sep.cl 62 _ _ (by rfl) (by rfl) (by kernel_rfl) (ref_put_any hS mounts (by omega) (by omega) 3 (by omega)) ?_; rintro e w1 ⟨v2, rfl, hS1⟩; clear hS; have hS := hS1; clear hS1; refine ⟨_, rfl, ?_⟩)
        | ((refine apB hS _ _ _ _ (by rfl) (by rfl) (by rfl) (elOf (by rfl)) (by rfl) (by rfl) (by rfl) (inOf (by rfl)) (Has.s Has.z) Has.z (by have := HL1.out; simp only [List.length_append, le_length]; omega) ?_; intro v1 w1 hS1; clear hS; have hS := hS1; clear hS1; dsimp only [List.set_cons_zero, List.set_cons_succ] at hS); replace hS := hS.drop)); refine hK _ _ _ (hS.upTo (fun _ h => by first | exact h.one Has.z | exact h.one (Has.s Has.z) | exact h.one (Has.s (Has.s Has.z)) | exact h.one (Has.s (Has.s (Has.s Has.z))) | exact h | exact h.drop | exact h.drop.drop | exact h.drop.drop.drop | exact h.drop.drop.drop.drop)) (fun _ _ h => h) ?_; clear hK K; (simp only [Act.put, List.setIfInBounds_toArray, List.set_cons_zero, List.set_cons_succ]))
  (refine regA 7 rfl (by kernel_rfl) (by rfl) (by rfl) true (by kernel_rfl) (fun K hK => ?_); (first
        | (refine Go.Sep.cl 62 _ _ (by rfl) (by rfl) (by kernel_rfl) (ref_put_any hS next (by omega) (by omega) 3 (by omega)) ?_; rintro e w1 ⟨v2, rfl, hS1⟩; clear hS; have hS := hS1; clear hS1; refine ⟨_, rfl, ?_⟩)
        | (refine Go.Sep.cl 62 _ _ (by rfl) (by rfl) (by kernel_rfl) (ref_put_any hS mounts (by omega) (by omega) 3 (by omega)) ?_; rintro e w1 ⟨v2, rfl, hS1⟩; clear hS; have hS := hS1; clear hS1; refine ⟨_, rfl, ?_⟩)
        | ((refine apB hS _ _ _ _ (by rfl) (by rfl) (by rfl) (elOf (by rfl)) (by rfl) (by rfl) (by rfl) (inOf (by rfl)) (Has.s Has.z) Has.z (by have := HL1.out; simp only [List.length_append, le_length]; omega) ?_; intro v1 w1 hS1; clear hS; have hS := hS1; clear hS1; dsimp only [List.set_cons_zero, List.set_cons_succ] at hS); replace hS := hS.drop)); refine hK _ _ _ hS (by first | (intro h; cases h; done) | exact fun _ _ h => h | exact fun _ _ h => h.drop | exact fun _ _ h => h.drop.drop | exact fun _ _ h => h.one Has.z | exact fun _ _ h => h.one (Has.s Has.z) | exact fun _ _ h => h.one (Has.s (Has.s Has.z))) ?_; clear hK K; (simp only [Act.put, List.setIfInBounds_toArray, List.set_cons_zero, List.set_cons_succ]))
  (refine regA 8 rfl (by kernel_rfl) (by rfl) (by rfl) true (by kernel_rfl) (fun K hK => ?_); (first
        | (refine Go.Sep.cl 62 _ _ (by rfl) (by rfl) (by kernel_rfl) (ref_put_any hS next (by omega) (by omega) 3 (by omega)) ?_; rintro e w1 ⟨v2, rfl, hS1⟩; clear hS; have hS := hS1; clear hS1; refine ⟨_, rfl, ?_⟩)
        | (refine Go.Sep.cl 62 _ _ (by rfl) (by rfl) (by kernel_rfl) (ref_put_any hS mounts (by omega) (by omega) 3 (by omega)) ?_; rintro e w1 ⟨v2, rfl, hS1⟩; clear hS; have hS := hS1; clear hS1; refine ⟨_, rfl, ?_⟩)
        | ((refine apB hS _ _ _ _ (by rfl) (by rfl) (by rfl) (elOf (by rfl)) (by rfl) (by rfl) (by rfl) (inOf (by rfl)) (Has.s Has.z) Has.z (by have := HL1.out; simp only [List.length_append, le_length]; omega) ?_; intro v1 w1 hS1; clear hS; have hS := hS1; clear hS1; dsimp only [List.set_cons_zero, List.set_cons_succ] at hS); replace hS := hS.drop)); refine hK _ _ _ hS (by first | (intro h; cases h; done) | exact fun _ _ h => h | exact fun _ _ h => h.drop | exact fun _ _ h => h.drop.drop | exact fun _ _ h => h.one Has.z | exact fun _ _ h => h.one (Has.s Has.z) | exact fun _ _ h => h.one (Has.s (Has.s Has.z))) ?_; clear hK K; (simp only [Act.put, List.setIfInBounds_toArray, List.set_cons_zero, List.set_cons_succ]))
  (refine regP 9 hS (fun _ h => h) rfl (by kernel_rfl) (by kernel_rfl) (by kernel_rfl) (fun _ _ _ _ h => h) (by rfl) (by rfl) ?_; apply Exists.intro; apply And.intro; (intro w; go_simp; try with_reducible rfl); (simp only [Act.put, List.setIfInBounds_toArray, List.set_cons_zero, List.set_cons_succ]))
  refine regDone (by kernel_rfl) ?_
  rw [encS1_0, encS1_1, encS1_2, encS1_3] at hS
  have HLE := Lib.hid (encS1_len ⟨blocks, head, tail, records, shown, next, mounts⟩ (Nat.le_refl 4))
  have HEL := Lib.hid (encS_len ⟨blocks, head, tail, records, shown, next, mounts⟩)
  go_wp2_with (go_at_call 63; refine (ref_pad_any hS 128 (by have := HLE.out; omega) (by omega)).mono ?_; rintro e w1 ⟨v3, rfl, hS1⟩; clear hS; have hS := hS1; clear hS1)
  go_ret
  rw [supB_yes HYES.out, HEL.out]
  exact ⟨_, rfl, hS.pull1.drop⟩
end Go.Proofs.Ytcabgeljdgcdlaa
