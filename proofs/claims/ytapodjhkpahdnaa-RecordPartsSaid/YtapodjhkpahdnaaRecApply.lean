/-
  Packages record, pedigreeref21: contracts of Apply (what one record does to a graph).
-/
import Derived.Test.YtapodjhkpahdnaaRecCheck
import Derived.Test.YtapodjhkpahdnaaGrDo
namespace Go.Proofs.Ytapodjhkpahdnaa
open Go.RowKit Go.Sep
set_option linter.unusedSimpArgs false
set_option linter.unusedVariables false
attribute [local irreducible] Go.Oper.wp Go.wpList Go.Calls Go.Code.wp Go.Sep.Reg
noncomputable def Gr.appG (G : Gr) (k a b : Int) : Gr :=
  if okRec k a b = true then (if k = 1 then G.addG a b else if k = 2 then G.edgeG a b else if k = 3 then G.markG a b else if k = 4 then G.clearG a b else G.lostG a b) else G
noncomputable def Gr.appE (G : Gr) (k a b : Int) : Int :=
  if okRec k a b = true then (if k = 1 then G.addE a b else if k = 2 then G.edgeE a b else if k = 3 then bitE G a b else if k = 4 then bitE G a b else lostE G a b) else 1
theorem okRec_kind {k a b : Int} (h : okRec k a b = true) : k = 1 ∨ k = 2 ∨ k = 3 ∨ k = 4 ∨ k = 5 := by
  unfold okRec at h
  split at h
  · omega
  · split at h
    · omega
    · split at h
      · omega
      · cases h
theorem Gr.appG_ok {G : Gr} (hG : G.Ok) (hel : G.E.length < 1000000) (k a b : Int) : (G.appG k a b).Ok := by
  unfold Gr.appG
  split
  · split
    · exact Gr.addG_ok hG _ _
    · split
      · exact Gr.edgeG_ok hG _ _ hel
      · split
        · exact Gr.markG_ok hG _ _
        · split
          · exact Gr.clearG_ok hG _ _
          · exact Gr.lostG_ok hG _ _
  · exact hG
theorem Gr.appG_E (G : Gr) (k a b : Int) : (G.appG k a b).E.length ≤ G.E.length + 1 := by
  unfold Gr.appG
  split
  · split
    · unfold Gr.addG; split <;> simp [Gr.plus]
    · split
      · exact Gr.edgeG_len _ _ _
      · split
        · unfold Gr.markG; split <;> simp [Gr.withN]
        · split
          · unfold Gr.clearG; split <;> simp [Gr.withN]
          · unfold Gr.lostG; split <;> simp [Gr.withN]
  · omega
theorem Gr.appG_N (G : Gr) (k a b : Int) : (G.appG k a b).N.length ≤ G.N.length + 1 := by
  unfold Gr.appG
  split
  · split
    · unfold Gr.addG; split <;> simp [Gr.plus]
    · split
      · rw [Gr.edgeG_N]; omega
      · split
        · unfold Gr.markG; split <;> simp [Gr.withN]
        · split
          · unfold Gr.clearG; split <;> simp [Gr.withN]
          · unfold Gr.lostG; split <;> simp [Gr.withN, orphN_len]
  · omega
set_option maxRecDepth 20000 in
set_option maxHeartbeats 4000000 in
theorem apply_any {W w : World} {L : List Asrt} {p : Nat} {G : Gr} (hS : Sat W w (IsG p G :: L)) (hG : G.Ok) (k a b : Int) :
    Calls Try.prog 22 #[.pointer (some ⟨p, 0, none⟩), .agg #[.int .i64 k, .int .i64 a, .int .i64 b]] w fun e w' => e = .returned (.int .i64 (G.appE k a b)) ∧ Sat W w' (IsG p (G.appG k a b) :: L) := by
  cases hok : okRec k a b with
  | false =>
    have HOK := Lib.hid hok
    have HE := Lib.hid (show G.appE k a b = 1 by unfold Gr.appE; rw [hok]; rfl)
    have HG2 := Lib.hid (show G.appG k a b = G by unfold Gr.appG; rw [hok]; rfl)
    rw [HE.out, HG2.out]
    clear hok
    go_enter Try.func22, Try.ntmps22
    go_wp2_with (first
      | (refine toList (by rfl) ?_; refine bx hS _ _ (by rfl) _ (by first | exact evC | exact evT (by rfl)) ?_; intro px w1 hS1; clear hS; have hS := hS1; clear hS1; rw [cells_agg] at hS)
      | (refine toList (by rfl) ?_; refine wp_of_reads (rLdA hS _ _ (by rfl) _ _ (by rfl) (agOf (by rfl)) (szOf (by rfl)) Has.z (vs := [.int .i64 k, .int .i64 a, .int .i64 b]) (by rfl) (by rfl)) ?_)
      | (refine toList (by rfl) ?_; refine ld hS _ _ (by rfl) _ _ (by rfl) (agOf (by rfl)) (by first | exact Has.z | exact Has.s Has.z | exact Has.s (Has.s Has.z) | exact Has.s (Has.s (Has.s Has.z)) | exact Has.s (Has.s (Has.s (Has.s Has.z))) | exact Has.s (Has.s (Has.s (Has.s (Has.s Has.z))))) (by rfl) ?_)
      | (go_at_call 45; refine (check_any _ W _ hS k a b).mono ?_; rintro e w1 ⟨rfl, hS1⟩; rw [HOK.out]; clear hS; have hS := hS1; clear hS1))
    go_ret
    exact ⟨rfl, hS.drop⟩
  | true =>
    rcases okRec_kind hok with rfl | rfl | rfl | rfl | rfl
    · have HOK := Lib.hid hok
      have HE := Lib.hid (show G.appE 1 a b = G.addE a b by unfold Gr.appE; rw [hok]; rfl)
      have HG2 := Lib.hid (show G.appG 1 a b = G.addG a b by unfold Gr.appG; rw [hok]; rfl)
      rw [HE.out, HG2.out]
      clear hok
      obtain ⟨G2, hG2⟩ : ∃ G2, G.addG a b = G2 := ⟨_, rfl⟩
      obtain ⟨E, hE⟩ : ∃ E, G.addE a b = E := ⟨_, rfl⟩
      obtain ⟨I, hI⟩ : ∃ I, G.addI a b = I := ⟨_, rfl⟩
      have HP := Lib.hid (fun w L (h : Sat W w (IsG p G :: L)) => (show Calls Try.prog 46 #[.pointer (some ⟨p, 0, none⟩), .int .i64 a, .int .i64 b] w fun e w' => e = .returned (.tuple #[.int .i64 I, .int .i64 E]) ∧ Sat W w' (IsG p G2 :: L) by
        have := add_any h hG a b
        rw [hG2, hE, hI] at this
        exact this))
      rw [hG2, hE]
      clear hG2 hE hI
      go_enter Try.func22, Try.ntmps22
      go_wp2_with (first
        | (refine toList (by rfl) ?_; refine bx hS _ _ (by rfl) _ (by first | exact evC | exact evT (by rfl)) ?_; intro px w1 hS1; clear hS; have hS := hS1; clear hS1; rw [cells_agg] at hS)
        | (refine toList (by rfl) ?_; refine wp_of_reads (rLdA hS _ _ (by rfl) _ _ (by rfl) (agOf (by rfl)) (szOf (by rfl)) Has.z (vs := [.int .i64 1, .int .i64 a, .int .i64 b]) (by rfl) (by rfl)) ?_)
        | (refine toList (by rfl) ?_; refine ld hS _ _ (by rfl) _ _ (by rfl) (agOf (by rfl)) (by first | exact Has.z | exact Has.s Has.z | exact Has.s (Has.s Has.z) | exact Has.s (Has.s (Has.s Has.z)) | exact Has.s (Has.s (Has.s (Has.s Has.z))) | exact Has.s (Has.s (Has.s (Has.s (Has.s Has.z))))) (by rfl) ?_)
        | (go_at_call 45; refine (check_any _ W _ hS 1 a b).mono ?_; rintro e w1 ⟨rfl, hS1⟩; rw [HOK.out]; clear hS; have hS := hS1; clear hS1)
        | (go_at_call 46; refine (Calls.atS hS (k := 1) rfl (fun hF => HP.out _ _ hF)).mono ?_; rintro e w1 ⟨rfl, hS1⟩; clear hS; have hS := hS1; clear hS1; dsimp only [List.set_cons_zero, List.set_cons_succ] at hS))
      go_ret
      exact ⟨rfl, hS.drop⟩
    · have HOK := Lib.hid hok
      have HE := Lib.hid (show G.appE 2 a b = G.edgeE a b by unfold Gr.appE; rw [hok]; rfl)
      have HG2 := Lib.hid (show G.appG 2 a b = G.edgeG a b by unfold Gr.appG; rw [hok]; rfl)
      rw [HE.out, HG2.out]
      clear hok
      obtain ⟨G2, hG2⟩ : ∃ G2, G.edgeG a b = G2 := ⟨_, rfl⟩
      obtain ⟨E, hE⟩ : ∃ E, G.edgeE a b = E := ⟨_, rfl⟩
      have HP := Lib.hid (fun w L (h : Sat W w (IsG p G :: L)) => (show Calls Try.prog 47 #[.pointer (some ⟨p, 0, none⟩), .int .i64 a, .int .i64 b] w fun e w' => e = .returned (.int .i64 E) ∧ Sat W w' (IsG p G2 :: L) by
        have := edge_any h hG a b
        rw [hG2, hE] at this
        exact this))
      rw [hG2, hE]
      clear hG2 hE
      go_enter Try.func22, Try.ntmps22
      go_wp2_with (first
        | (refine toList (by rfl) ?_; refine bx hS _ _ (by rfl) _ (by first | exact evC | exact evT (by rfl)) ?_; intro px w1 hS1; clear hS; have hS := hS1; clear hS1; rw [cells_agg] at hS)
        | (refine toList (by rfl) ?_; refine wp_of_reads (rLdA hS _ _ (by rfl) _ _ (by rfl) (agOf (by rfl)) (szOf (by rfl)) Has.z (vs := [.int .i64 2, .int .i64 a, .int .i64 b]) (by rfl) (by rfl)) ?_)
        | (refine toList (by rfl) ?_; refine ld hS _ _ (by rfl) _ _ (by rfl) (agOf (by rfl)) (by first | exact Has.z | exact Has.s Has.z | exact Has.s (Has.s Has.z) | exact Has.s (Has.s (Has.s Has.z)) | exact Has.s (Has.s (Has.s (Has.s Has.z))) | exact Has.s (Has.s (Has.s (Has.s (Has.s Has.z))))) (by rfl) ?_)
        | (go_at_call 45; refine (check_any _ W _ hS 2 a b).mono ?_; rintro e w1 ⟨rfl, hS1⟩; rw [HOK.out]; clear hS; have hS := hS1; clear hS1)
        | (go_at_call 47; refine (Calls.atS hS (k := 1) rfl (fun hF => HP.out _ _ hF)).mono ?_; rintro e w1 ⟨rfl, hS1⟩; clear hS; have hS := hS1; clear hS1; dsimp only [List.set_cons_zero, List.set_cons_succ] at hS))
      go_ret
      exact ⟨rfl, hS.drop⟩
    · have HOK := Lib.hid hok
      have HE := Lib.hid (show G.appE 3 a b = bitE G a b by unfold Gr.appE; rw [hok]; rfl)
      have HG2 := Lib.hid (show G.appG 3 a b = G.markG a b by unfold Gr.appG; rw [hok]; rfl)
      rw [HE.out, HG2.out]
      clear hok
      obtain ⟨G2, hG2⟩ : ∃ G2, G.markG a b = G2 := ⟨_, rfl⟩
      obtain ⟨E, hE⟩ : ∃ E, bitE G a b = E := ⟨_, rfl⟩
      have HP := Lib.hid (fun w L (h : Sat W w (IsG p G :: L)) => (show Calls Try.prog 48 #[.pointer (some ⟨p, 0, none⟩), .int .i64 a, .int .i64 b] w fun e w' => e = .returned (.int .i64 E) ∧ Sat W w' (IsG p G2 :: L) by
        have := mark_any h a b hG.marks
        rw [hG2, hE] at this
        exact this))
      rw [hG2, hE]
      clear hG2 hE
      go_enter Try.func22, Try.ntmps22
      go_wp2_with (first
        | (refine toList (by rfl) ?_; refine bx hS _ _ (by rfl) _ (by first | exact evC | exact evT (by rfl)) ?_; intro px w1 hS1; clear hS; have hS := hS1; clear hS1; rw [cells_agg] at hS)
        | (refine toList (by rfl) ?_; refine wp_of_reads (rLdA hS _ _ (by rfl) _ _ (by rfl) (agOf (by rfl)) (szOf (by rfl)) Has.z (vs := [.int .i64 3, .int .i64 a, .int .i64 b]) (by rfl) (by rfl)) ?_)
        | (refine toList (by rfl) ?_; refine ld hS _ _ (by rfl) _ _ (by rfl) (agOf (by rfl)) (by first | exact Has.z | exact Has.s Has.z | exact Has.s (Has.s Has.z) | exact Has.s (Has.s (Has.s Has.z)) | exact Has.s (Has.s (Has.s (Has.s Has.z))) | exact Has.s (Has.s (Has.s (Has.s (Has.s Has.z))))) (by rfl) ?_)
        | (go_at_call 45; refine (check_any _ W _ hS 3 a b).mono ?_; rintro e w1 ⟨rfl, hS1⟩; rw [HOK.out]; clear hS; have hS := hS1; clear hS1)
        | (go_at_call 48; refine (Calls.atS hS (k := 1) rfl (fun hF => HP.out _ _ hF)).mono ?_; rintro e w1 ⟨rfl, hS1⟩; clear hS; have hS := hS1; clear hS1; dsimp only [List.set_cons_zero, List.set_cons_succ] at hS))
      go_ret
      exact ⟨rfl, hS.drop⟩
    · have HOK := Lib.hid hok
      have HE := Lib.hid (show G.appE 4 a b = bitE G a b by unfold Gr.appE; rw [hok]; rfl)
      have HG2 := Lib.hid (show G.appG 4 a b = G.clearG a b by unfold Gr.appG; rw [hok]; rfl)
      rw [HE.out, HG2.out]
      clear hok
      obtain ⟨G2, hG2⟩ : ∃ G2, G.clearG a b = G2 := ⟨_, rfl⟩
      obtain ⟨E, hE⟩ : ∃ E, bitE G a b = E := ⟨_, rfl⟩
      have HP := Lib.hid (fun w L (h : Sat W w (IsG p G :: L)) => (show Calls Try.prog 49 #[.pointer (some ⟨p, 0, none⟩), .int .i64 a, .int .i64 b] w fun e w' => e = .returned (.int .i64 E) ∧ Sat W w' (IsG p G2 :: L) by
        have := clear_any h a b hG.marks
        rw [hG2, hE] at this
        exact this))
      rw [hG2, hE]
      clear hG2 hE
      go_enter Try.func22, Try.ntmps22
      go_wp2_with (first
        | (refine toList (by rfl) ?_; refine bx hS _ _ (by rfl) _ (by first | exact evC | exact evT (by rfl)) ?_; intro px w1 hS1; clear hS; have hS := hS1; clear hS1; rw [cells_agg] at hS)
        | (refine toList (by rfl) ?_; refine wp_of_reads (rLdA hS _ _ (by rfl) _ _ (by rfl) (agOf (by rfl)) (szOf (by rfl)) Has.z (vs := [.int .i64 4, .int .i64 a, .int .i64 b]) (by rfl) (by rfl)) ?_)
        | (refine toList (by rfl) ?_; refine ld hS _ _ (by rfl) _ _ (by rfl) (agOf (by rfl)) (by first | exact Has.z | exact Has.s Has.z | exact Has.s (Has.s Has.z) | exact Has.s (Has.s (Has.s Has.z)) | exact Has.s (Has.s (Has.s (Has.s Has.z))) | exact Has.s (Has.s (Has.s (Has.s (Has.s Has.z))))) (by rfl) ?_)
        | (go_at_call 45; refine (check_any _ W _ hS 4 a b).mono ?_; rintro e w1 ⟨rfl, hS1⟩; rw [HOK.out]; clear hS; have hS := hS1; clear hS1)
        | (go_at_call 49; refine (Calls.atS hS (k := 1) rfl (fun hF => HP.out _ _ hF)).mono ?_; rintro e w1 ⟨rfl, hS1⟩; clear hS; have hS := hS1; clear hS1; dsimp only [List.set_cons_zero, List.set_cons_succ] at hS))
      go_ret
      exact ⟨rfl, hS.drop⟩
    · have HOK := Lib.hid hok
      have HE := Lib.hid (show G.appE 5 a b = lostE G a b by unfold Gr.appE; rw [hok]; rfl)
      have HG2 := Lib.hid (show G.appG 5 a b = G.lostG a b by unfold Gr.appG; rw [hok]; rfl)
      rw [HE.out, HG2.out]
      clear hok
      obtain ⟨G2, hG2⟩ : ∃ G2, G.lostG a b = G2 := ⟨_, rfl⟩
      obtain ⟨E, hE⟩ : ∃ E, lostE G a b = E := ⟨_, rfl⟩
      have HP := Lib.hid (fun w L (h : Sat W w (IsG p G :: L)) => (show Calls Try.prog 50 #[.pointer (some ⟨p, 0, none⟩), .int .i64 a, .int .i64 b] w fun e w' => e = .returned (.int .i64 E) ∧ Sat W w' (IsG p G2 :: L) by
        have := lost_any h a b (by have := hG.len; omega)
        rw [hG2, hE] at this
        exact this))
      rw [hG2, hE]
      clear hG2 hE
      go_enter Try.func22, Try.ntmps22
      go_wp2_with (first
        | (refine toList (by rfl) ?_; refine bx hS _ _ (by rfl) _ (by first | exact evC | exact evT (by rfl)) ?_; intro px w1 hS1; clear hS; have hS := hS1; clear hS1; rw [cells_agg] at hS)
        | (refine toList (by rfl) ?_; refine wp_of_reads (rLdA hS _ _ (by rfl) _ _ (by rfl) (agOf (by rfl)) (szOf (by rfl)) Has.z (vs := [.int .i64 5, .int .i64 a, .int .i64 b]) (by rfl) (by rfl)) ?_)
        | (refine toList (by rfl) ?_; refine ld hS _ _ (by rfl) _ _ (by rfl) (agOf (by rfl)) (by first | exact Has.z | exact Has.s Has.z | exact Has.s (Has.s Has.z) | exact Has.s (Has.s (Has.s Has.z)) | exact Has.s (Has.s (Has.s (Has.s Has.z))) | exact Has.s (Has.s (Has.s (Has.s (Has.s Has.z))))) (by rfl) ?_)
        | (go_at_call 45; refine (check_any _ W _ hS 5 a b).mono ?_; rintro e w1 ⟨rfl, hS1⟩; rw [HOK.out]; clear hS; have hS := hS1; clear hS1)
        | (go_at_call 50; refine (Calls.atS hS (k := 1) rfl (fun hF => HP.out _ _ hF)).mono ?_; rintro e w1 ⟨rfl, hS1⟩; clear hS; have hS := hS1; clear hS1; dsimp only [List.set_cons_zero, List.set_cons_succ] at hS))
      go_ret
      exact ⟨rfl, hS.drop⟩
set_option maxRecDepth 20000 in
set_option maxHeartbeats 4000000 in
theorem rapply_any {W w : World} {L : List Asrt} {p : Nat} {G : Gr} (hS : Sat W w (IsR p G :: L)) (hG : G.Ok) (hel : G.E.length < 1000000) (k a b : Int) :
    Calls Try.prog 23 #[.pointer (some ⟨p, 0, none⟩), .agg #[.int .i64 k, .int .i64 a, .int .i64 b]] w fun e w' => e = .returned (.int .i64 (G.appE k a b)) ∧ Sat W w' (IsR p (G.appG k a b) :: L) := by
  cases hok : okRec k a b with
  | false =>
    have HOK := Lib.hid hok
    have HE := Lib.hid (show G.appE k a b = 1 by unfold Gr.appE; rw [hok]; rfl)
    have HG2 := Lib.hid (show G.appG k a b = G by unfold Gr.appG; rw [hok]; rfl)
    rw [HE.out, HG2.out]
    clear hok
    go_enter Try.func23, Try.ntmps23
    go_wp2_with (first
      | (refine toList (by rfl) ?_; refine bx hS _ _ (by rfl) _ (by first | exact evC | exact evT (by rfl)) ?_; intro px w1 hS1; clear hS; have hS := hS1; clear hS1; rw [cells_agg] at hS)
      | (refine toList (by rfl) ?_; refine wp_of_reads (rLdA hS _ _ (by rfl) _ _ (by rfl) (agOf (by rfl)) (szOf (by rfl)) Has.z (vs := [.int .i64 k, .int .i64 a, .int .i64 b]) (by rfl) (by rfl)) ?_)
      | (refine toList (by rfl) ?_; refine ld hS _ _ (by rfl) _ _ (by rfl) (agOf (by rfl)) (by first | exact Has.z | exact Has.s Has.z | exact Has.s (Has.s Has.z) | exact Has.s (Has.s (Has.s Has.z)) | exact Has.s (Has.s (Has.s (Has.s Has.z))) | exact Has.s (Has.s (Has.s (Has.s (Has.s Has.z))))) (by rfl) ?_)
      | (go_at_call 51; refine (ref_check_any _ W _ hS k a b).mono ?_; rintro e w1 ⟨rfl, hS1⟩; rw [HOK.out]; clear hS; have hS := hS1; clear hS1))
    go_ret
    exact ⟨rfl, hS.drop⟩
  | true =>
    rcases okRec_kind hok with rfl | rfl | rfl | rfl | rfl
    · have HOK := Lib.hid hok
      have HE := Lib.hid (show G.appE 1 a b = G.addE a b by unfold Gr.appE; rw [hok]; rfl)
      have HG2 := Lib.hid (show G.appG 1 a b = G.addG a b by unfold Gr.appG; rw [hok]; rfl)
      rw [HE.out, HG2.out]
      clear hok
      obtain ⟨G2, hG2⟩ : ∃ G2, G.addG a b = G2 := ⟨_, rfl⟩
      obtain ⟨E, hE⟩ : ∃ E, G.addE a b = E := ⟨_, rfl⟩
      obtain ⟨I, hI⟩ : ∃ I, G.addI a b = I := ⟨_, rfl⟩
      have HP := Lib.hid (fun w L (h : Sat W w (IsR p G :: L)) => (show Calls Try.prog 52 #[.pointer (some ⟨p, 0, none⟩), .int .i64 a, .int .i64 b] w fun e w' => e = .returned (.tuple #[.int .i64 I, .int .i64 E]) ∧ Sat W w' (IsR p G2 :: L) by
        have := radd_any h hG a b
        rw [hG2, hE, hI] at this
        exact this))
      rw [hG2, hE]
      clear hG2 hE hI
      go_enter Try.func23, Try.ntmps23
      go_wp2_with (first
        | (refine toList (by rfl) ?_; refine bx hS _ _ (by rfl) _ (by first | exact evC | exact evT (by rfl)) ?_; intro px w1 hS1; clear hS; have hS := hS1; clear hS1; rw [cells_agg] at hS)
        | (refine toList (by rfl) ?_; refine wp_of_reads (rLdA hS _ _ (by rfl) _ _ (by rfl) (agOf (by rfl)) (szOf (by rfl)) Has.z (vs := [.int .i64 1, .int .i64 a, .int .i64 b]) (by rfl) (by rfl)) ?_)
        | (refine toList (by rfl) ?_; refine ld hS _ _ (by rfl) _ _ (by rfl) (agOf (by rfl)) (by first | exact Has.z | exact Has.s Has.z | exact Has.s (Has.s Has.z) | exact Has.s (Has.s (Has.s Has.z)) | exact Has.s (Has.s (Has.s (Has.s Has.z))) | exact Has.s (Has.s (Has.s (Has.s (Has.s Has.z))))) (by rfl) ?_)
        | (go_at_call 51; refine (ref_check_any _ W _ hS 1 a b).mono ?_; rintro e w1 ⟨rfl, hS1⟩; rw [HOK.out]; clear hS; have hS := hS1; clear hS1)
        | (go_at_call 52; refine (Calls.atS hS (k := 1) rfl (fun hF => HP.out _ _ hF)).mono ?_; rintro e w1 ⟨rfl, hS1⟩; clear hS; have hS := hS1; clear hS1; dsimp only [List.set_cons_zero, List.set_cons_succ] at hS))
      go_ret
      exact ⟨rfl, hS.drop⟩
    · have HOK := Lib.hid hok
      have HE := Lib.hid (show G.appE 2 a b = G.edgeE a b by unfold Gr.appE; rw [hok]; rfl)
      have HG2 := Lib.hid (show G.appG 2 a b = G.edgeG a b by unfold Gr.appG; rw [hok]; rfl)
      rw [HE.out, HG2.out]
      clear hok
      obtain ⟨G2, hG2⟩ : ∃ G2, G.edgeG a b = G2 := ⟨_, rfl⟩
      obtain ⟨E, hE⟩ : ∃ E, G.edgeE a b = E := ⟨_, rfl⟩
      have HP := Lib.hid (fun w L (h : Sat W w (IsR p G :: L)) => (show Calls Try.prog 53 #[.pointer (some ⟨p, 0, none⟩), .int .i64 a, .int .i64 b] w fun e w' => e = .returned (.int .i64 E) ∧ Sat W w' (IsR p G2 :: L) by
        have := redge_any h hG hel a b
        rw [hG2, hE] at this
        exact this))
      rw [hG2, hE]
      clear hG2 hE
      go_enter Try.func23, Try.ntmps23
      go_wp2_with (first
        | (refine toList (by rfl) ?_; refine bx hS _ _ (by rfl) _ (by first | exact evC | exact evT (by rfl)) ?_; intro px w1 hS1; clear hS; have hS := hS1; clear hS1; rw [cells_agg] at hS)
        | (refine toList (by rfl) ?_; refine wp_of_reads (rLdA hS _ _ (by rfl) _ _ (by rfl) (agOf (by rfl)) (szOf (by rfl)) Has.z (vs := [.int .i64 2, .int .i64 a, .int .i64 b]) (by rfl) (by rfl)) ?_)
        | (refine toList (by rfl) ?_; refine ld hS _ _ (by rfl) _ _ (by rfl) (agOf (by rfl)) (by first | exact Has.z | exact Has.s Has.z | exact Has.s (Has.s Has.z) | exact Has.s (Has.s (Has.s Has.z)) | exact Has.s (Has.s (Has.s (Has.s Has.z))) | exact Has.s (Has.s (Has.s (Has.s (Has.s Has.z))))) (by rfl) ?_)
        | (go_at_call 51; refine (ref_check_any _ W _ hS 2 a b).mono ?_; rintro e w1 ⟨rfl, hS1⟩; rw [HOK.out]; clear hS; have hS := hS1; clear hS1)
        | (go_at_call 53; refine (Calls.atS hS (k := 1) rfl (fun hF => HP.out _ _ hF)).mono ?_; rintro e w1 ⟨rfl, hS1⟩; clear hS; have hS := hS1; clear hS1; dsimp only [List.set_cons_zero, List.set_cons_succ] at hS))
      go_ret
      exact ⟨rfl, hS.drop⟩
    · have HOK := Lib.hid hok
      have HE := Lib.hid (show G.appE 3 a b = bitE G a b by unfold Gr.appE; rw [hok]; rfl)
      have HG2 := Lib.hid (show G.appG 3 a b = G.markG a b by unfold Gr.appG; rw [hok]; rfl)
      rw [HE.out, HG2.out]
      clear hok
      obtain ⟨G2, hG2⟩ : ∃ G2, G.markG a b = G2 := ⟨_, rfl⟩
      obtain ⟨E, hE⟩ : ∃ E, bitE G a b = E := ⟨_, rfl⟩
      have HP := Lib.hid (fun w L (h : Sat W w (IsR p G :: L)) => (show Calls Try.prog 54 #[.pointer (some ⟨p, 0, none⟩), .int .i64 a, .int .i64 b] w fun e w' => e = .returned (.int .i64 E) ∧ Sat W w' (IsR p G2 :: L) by
        have := rmark_any h a b hG.marks
        rw [hG2, hE] at this
        exact this))
      rw [hG2, hE]
      clear hG2 hE
      go_enter Try.func23, Try.ntmps23
      go_wp2_with (first
        | (refine toList (by rfl) ?_; refine bx hS _ _ (by rfl) _ (by first | exact evC | exact evT (by rfl)) ?_; intro px w1 hS1; clear hS; have hS := hS1; clear hS1; rw [cells_agg] at hS)
        | (refine toList (by rfl) ?_; refine wp_of_reads (rLdA hS _ _ (by rfl) _ _ (by rfl) (agOf (by rfl)) (szOf (by rfl)) Has.z (vs := [.int .i64 3, .int .i64 a, .int .i64 b]) (by rfl) (by rfl)) ?_)
        | (refine toList (by rfl) ?_; refine ld hS _ _ (by rfl) _ _ (by rfl) (agOf (by rfl)) (by first | exact Has.z | exact Has.s Has.z | exact Has.s (Has.s Has.z) | exact Has.s (Has.s (Has.s Has.z)) | exact Has.s (Has.s (Has.s (Has.s Has.z))) | exact Has.s (Has.s (Has.s (Has.s (Has.s Has.z))))) (by rfl) ?_)
        | (go_at_call 51; refine (ref_check_any _ W _ hS 3 a b).mono ?_; rintro e w1 ⟨rfl, hS1⟩; rw [HOK.out]; clear hS; have hS := hS1; clear hS1)
        | (go_at_call 54; refine (Calls.atS hS (k := 1) rfl (fun hF => HP.out _ _ hF)).mono ?_; rintro e w1 ⟨rfl, hS1⟩; clear hS; have hS := hS1; clear hS1; dsimp only [List.set_cons_zero, List.set_cons_succ] at hS))
      go_ret
      exact ⟨rfl, hS.drop⟩
    · have HOK := Lib.hid hok
      have HE := Lib.hid (show G.appE 4 a b = bitE G a b by unfold Gr.appE; rw [hok]; rfl)
      have HG2 := Lib.hid (show G.appG 4 a b = G.clearG a b by unfold Gr.appG; rw [hok]; rfl)
      rw [HE.out, HG2.out]
      clear hok
      obtain ⟨G2, hG2⟩ : ∃ G2, G.clearG a b = G2 := ⟨_, rfl⟩
      obtain ⟨E, hE⟩ : ∃ E, bitE G a b = E := ⟨_, rfl⟩
      have HP := Lib.hid (fun w L (h : Sat W w (IsR p G :: L)) => (show Calls Try.prog 55 #[.pointer (some ⟨p, 0, none⟩), .int .i64 a, .int .i64 b] w fun e w' => e = .returned (.int .i64 E) ∧ Sat W w' (IsR p G2 :: L) by
        have := rclear_any h a b hG.marks
        rw [hG2, hE] at this
        exact this))
      rw [hG2, hE]
      clear hG2 hE
      go_enter Try.func23, Try.ntmps23
      go_wp2_with (first
        | (refine toList (by rfl) ?_; refine bx hS _ _ (by rfl) _ (by first | exact evC | exact evT (by rfl)) ?_; intro px w1 hS1; clear hS; have hS := hS1; clear hS1; rw [cells_agg] at hS)
        | (refine toList (by rfl) ?_; refine wp_of_reads (rLdA hS _ _ (by rfl) _ _ (by rfl) (agOf (by rfl)) (szOf (by rfl)) Has.z (vs := [.int .i64 4, .int .i64 a, .int .i64 b]) (by rfl) (by rfl)) ?_)
        | (refine toList (by rfl) ?_; refine ld hS _ _ (by rfl) _ _ (by rfl) (agOf (by rfl)) (by first | exact Has.z | exact Has.s Has.z | exact Has.s (Has.s Has.z) | exact Has.s (Has.s (Has.s Has.z)) | exact Has.s (Has.s (Has.s (Has.s Has.z))) | exact Has.s (Has.s (Has.s (Has.s (Has.s Has.z))))) (by rfl) ?_)
        | (go_at_call 51; refine (ref_check_any _ W _ hS 4 a b).mono ?_; rintro e w1 ⟨rfl, hS1⟩; rw [HOK.out]; clear hS; have hS := hS1; clear hS1)
        | (go_at_call 55; refine (Calls.atS hS (k := 1) rfl (fun hF => HP.out _ _ hF)).mono ?_; rintro e w1 ⟨rfl, hS1⟩; clear hS; have hS := hS1; clear hS1; dsimp only [List.set_cons_zero, List.set_cons_succ] at hS))
      go_ret
      exact ⟨rfl, hS.drop⟩
    · have HOK := Lib.hid hok
      have HE := Lib.hid (show G.appE 5 a b = lostE G a b by unfold Gr.appE; rw [hok]; rfl)
      have HG2 := Lib.hid (show G.appG 5 a b = G.lostG a b by unfold Gr.appG; rw [hok]; rfl)
      rw [HE.out, HG2.out]
      clear hok
      obtain ⟨G2, hG2⟩ : ∃ G2, G.lostG a b = G2 := ⟨_, rfl⟩
      obtain ⟨E, hE⟩ : ∃ E, lostE G a b = E := ⟨_, rfl⟩
      have HP := Lib.hid (fun w L (h : Sat W w (IsR p G :: L)) => (show Calls Try.prog 56 #[.pointer (some ⟨p, 0, none⟩), .int .i64 a, .int .i64 b] w fun e w' => e = .returned (.int .i64 E) ∧ Sat W w' (IsR p G2 :: L) by
        have := rlost_any h a b (by have := hG.len; omega)
        rw [hG2, hE] at this
        exact this))
      rw [hG2, hE]
      clear hG2 hE
      go_enter Try.func23, Try.ntmps23
      go_wp2_with (first
        | (refine toList (by rfl) ?_; refine bx hS _ _ (by rfl) _ (by first | exact evC | exact evT (by rfl)) ?_; intro px w1 hS1; clear hS; have hS := hS1; clear hS1; rw [cells_agg] at hS)
        | (refine toList (by rfl) ?_; refine wp_of_reads (rLdA hS _ _ (by rfl) _ _ (by rfl) (agOf (by rfl)) (szOf (by rfl)) Has.z (vs := [.int .i64 5, .int .i64 a, .int .i64 b]) (by rfl) (by rfl)) ?_)
        | (refine toList (by rfl) ?_; refine ld hS _ _ (by rfl) _ _ (by rfl) (agOf (by rfl)) (by first | exact Has.z | exact Has.s Has.z | exact Has.s (Has.s Has.z) | exact Has.s (Has.s (Has.s Has.z)) | exact Has.s (Has.s (Has.s (Has.s Has.z))) | exact Has.s (Has.s (Has.s (Has.s (Has.s Has.z))))) (by rfl) ?_)
        | (go_at_call 51; refine (ref_check_any _ W _ hS 5 a b).mono ?_; rintro e w1 ⟨rfl, hS1⟩; rw [HOK.out]; clear hS; have hS := hS1; clear hS1)
        | (go_at_call 56; refine (Calls.atS hS (k := 1) rfl (fun hF => HP.out _ _ hF)).mono ?_; rintro e w1 ⟨rfl, hS1⟩; clear hS; have hS := hS1; clear hS1; dsimp only [List.set_cons_zero, List.set_cons_succ] at hS))
      go_ret
      exact ⟨rfl, hS.drop⟩
end Go.Proofs.Ytapodjhkpahdnaa
