/-
  What is done to both graphs, side by side: GDo, Graphs; SameInts.
-/
import Derived.Test.YtfbphibgcolmbaaGrRefR
namespace Go.Proofs.Ytfbphibgcolmbaa
open Go.RowKit Go.Sep
set_option linter.unusedSimpArgs false
set_option linter.unusedVariables false
attribute [local irreducible] Go.Oper.wp Go.wpList Go.Calls Go.Code.wp Go.Sep.Reg
noncomputable def Gr.step (G : Gr) (x : GOpD) : Gr :=
  if x.kind % 9 < 2 then G.addG x.a x.b else if x.kind % 9 = 6 then G.markG x.a x.b else if x.kind % 9 = 7 then G.clearG x.a x.b else if x.kind % 9 = 8 then G.lostG x.a x.b else G.edgeG x.a x.b
theorem Gr.step_ok {G : Gr} (hG : G.Ok) (hel : G.E.length < 1000000) (x : GOpD) : (G.step x).Ok := by
  unfold Gr.step
  split
  · exact Gr.addG_ok hG _ _
  · split
    · exact Gr.markG_ok hG _ _
    · split
      · exact Gr.clearG_ok hG _ _
      · split
        · exact Gr.lostG_ok hG _ _
        · exact Gr.edgeG_ok hG _ _ hel
theorem Gr.step_E (G : Gr) (x : GOpD) : (G.step x).E.length ≤ G.E.length + 1 := by
  unfold Gr.step
  split
  · unfold Gr.addG; split <;> simp [Gr.plus]
  · split
    · unfold Gr.markG; split <;> simp [Gr.withN]
    · split
      · unfold Gr.clearG; split <;> simp [Gr.withN]
      · split
        · unfold Gr.lostG; split <;> simp [Gr.withN]
        · exact Gr.edgeG_len _ _ _
theorem Gr.step_N (G : Gr) (x : GOpD) : (G.step x).N.length ≤ G.N.length + 1 := by
  unfold Gr.step
  split
  · unfold Gr.addG; split <;> simp [Gr.plus]
  · split
    · unfold Gr.markG; split <;> simp [Gr.withN]
    · split
      · unfold Gr.clearG; split <;> simp [Gr.withN]
      · split
        · unfold Gr.lostG; split <;> simp [Gr.withN, orphN_len]
        · rw [Gr.edgeG_N]; omega
set_option maxRecDepth 20000 in
set_option maxHeartbeats 4000000 in
theorem gdo_any {W w : World} {L : List Asrt} {p q : Nat} {G : Gr} (hS : Sat W w (IsG p G :: IsR q G :: L)) (hG : G.Ok) (hel : G.E.length < 1000000) (x : GOpD) :
    Calls Try.prog 44 #[.pointer (some ⟨p, 0, none⟩), .pointer (some ⟨q, 0, none⟩), .agg (gov x).toArray] w fun e w' => e = .returned (.bool true) ∧ Sat W w' (IsG p (G.step x) :: IsR q (G.step x) :: L) := by
  obtain ⟨xk, xa, xb⟩ := x
  have HK := Lib.hid (fun w => place_any xk 9 (by decide) (by decide) w)
  have hc : xk % 9 = 0 ∨ xk % 9 = 1 ∨ xk % 9 = 2 ∨ xk % 9 = 3 ∨ xk % 9 = 4 ∨ xk % 9 = 5 ∨ xk % 9 = 6 ∨ xk % 9 = 7 ∨ xk % 9 = 8 := by omega
  rcases hc with hm | hm | hm | hm | hm | hm | hm | hm | hm
  · have HG2 := Lib.hid (show G.step ⟨xk, xa, xb⟩ = G.addG xa xb by unfold Gr.step; dsimp only; rw [hm]; rfl)
    rw [HG2.out]
    clear HG2
    obtain ⟨G2, hG2⟩ : ∃ G2, G.addG xa xb = G2 := ⟨_, rfl⟩
    obtain ⟨E, hE⟩ : ∃ E, G.addE xa xb = E := ⟨_, rfl⟩
    obtain ⟨I, hI⟩ : ∃ I, G.addI xa xb = I := ⟨_, rfl⟩
    have HP := Lib.hid (fun w L (h : Sat W w (IsG p G :: L)) => (show Calls Try.prog 17 #[.pointer (some ⟨p, 0, none⟩), .int .i64 xa, .int .i64 xb] w fun e w' => e = .returned (.tuple #[.int .i64 I, .int .i64 E]) ∧ Sat W w' (IsG p G2 :: L) by
      have := add_any h hG xa xb
      rw [hG2, hE, hI] at this
      exact this))
    have HQ := Lib.hid (fun w L (h : Sat W w (IsR q G :: L)) => (show Calls Try.prog 57 #[.pointer (some ⟨q, 0, none⟩), .int .i64 xa, .int .i64 xb] w fun e w' => e = .returned (.tuple #[.int .i64 I, .int .i64 E]) ∧ Sat W w' (IsR q G2 :: L) by
      have := radd_any h hG xa xb
      rw [hG2, hE, hI] at this
      exact this))
    rw [hG2]
    rw [hm] at HK
    clear hm hG2 hE hI
    go_enter Try.func44, Try.ntmps44
    go_wp2_with (first
      | (refine toList (by rfl) ?_; refine bx hS _ _ (by rfl) _ (by first | exact evC | exact evT (by rfl)) ?_; intro px w1 hS1; clear hS; have hS := hS1; clear hS1; rw [cells_agg] at hS)
      | (refine toList (by rfl) ?_; refine ld hS _ _ (by rfl) _ _ (by rfl) (agOf (by rfl)) (by first | exact Has.z | exact Has.s Has.z | exact Has.s (Has.s Has.z) | exact Has.s (Has.s (Has.s Has.z)) | exact Has.s (Has.s (Has.s (Has.s Has.z))) | exact Has.s (Has.s (Has.s (Has.s (Has.s Has.z))))) (by rfl) ?_)
      | (go_at_call 15; refine (HK.out _).mono ?_; rintro e w1 ⟨rfl, rfl⟩)
      | (go_at_call 17; refine (Calls.atS hS (k := 1) rfl (fun hF => HP.out _ _ hF)).mono ?_; rintro e w1 ⟨rfl, hS1⟩; clear hS; have hS := hS1; clear hS1; dsimp only [List.set_cons_zero, List.set_cons_succ] at hS)
      | (go_at_call 57; refine (Calls.atS hS (k := 2) rfl (fun hF => HQ.out _ _ hF)).mono ?_; rintro e w1 ⟨rfl, hS1⟩; clear hS; have hS := hS1; clear hS1; dsimp only [List.set_cons_zero, List.set_cons_succ] at hS))
    go_ret
    exact ⟨by simp, hS.drop⟩
  · have HG2 := Lib.hid (show G.step ⟨xk, xa, xb⟩ = G.addG xa xb by unfold Gr.step; dsimp only; rw [hm]; rfl)
    rw [HG2.out]
    clear HG2
    obtain ⟨G2, hG2⟩ : ∃ G2, G.addG xa xb = G2 := ⟨_, rfl⟩
    obtain ⟨E, hE⟩ : ∃ E, G.addE xa xb = E := ⟨_, rfl⟩
    obtain ⟨I, hI⟩ : ∃ I, G.addI xa xb = I := ⟨_, rfl⟩
    have HP := Lib.hid (fun w L (h : Sat W w (IsG p G :: L)) => (show Calls Try.prog 17 #[.pointer (some ⟨p, 0, none⟩), .int .i64 xa, .int .i64 xb] w fun e w' => e = .returned (.tuple #[.int .i64 I, .int .i64 E]) ∧ Sat W w' (IsG p G2 :: L) by
      have := add_any h hG xa xb
      rw [hG2, hE, hI] at this
      exact this))
    have HQ := Lib.hid (fun w L (h : Sat W w (IsR q G :: L)) => (show Calls Try.prog 57 #[.pointer (some ⟨q, 0, none⟩), .int .i64 xa, .int .i64 xb] w fun e w' => e = .returned (.tuple #[.int .i64 I, .int .i64 E]) ∧ Sat W w' (IsR q G2 :: L) by
      have := radd_any h hG xa xb
      rw [hG2, hE, hI] at this
      exact this))
    rw [hG2]
    rw [hm] at HK
    clear hm hG2 hE hI
    go_enter Try.func44, Try.ntmps44
    go_wp2_with (first
      | (refine toList (by rfl) ?_; refine bx hS _ _ (by rfl) _ (by first | exact evC | exact evT (by rfl)) ?_; intro px w1 hS1; clear hS; have hS := hS1; clear hS1; rw [cells_agg] at hS)
      | (refine toList (by rfl) ?_; refine ld hS _ _ (by rfl) _ _ (by rfl) (agOf (by rfl)) (by first | exact Has.z | exact Has.s Has.z | exact Has.s (Has.s Has.z) | exact Has.s (Has.s (Has.s Has.z)) | exact Has.s (Has.s (Has.s (Has.s Has.z))) | exact Has.s (Has.s (Has.s (Has.s (Has.s Has.z))))) (by rfl) ?_)
      | (go_at_call 15; refine (HK.out _).mono ?_; rintro e w1 ⟨rfl, rfl⟩)
      | (go_at_call 17; refine (Calls.atS hS (k := 1) rfl (fun hF => HP.out _ _ hF)).mono ?_; rintro e w1 ⟨rfl, hS1⟩; clear hS; have hS := hS1; clear hS1; dsimp only [List.set_cons_zero, List.set_cons_succ] at hS)
      | (go_at_call 57; refine (Calls.atS hS (k := 2) rfl (fun hF => HQ.out _ _ hF)).mono ?_; rintro e w1 ⟨rfl, hS1⟩; clear hS; have hS := hS1; clear hS1; dsimp only [List.set_cons_zero, List.set_cons_succ] at hS))
    go_ret
    exact ⟨by simp, hS.drop⟩
  · have HG2 := Lib.hid (show G.step ⟨xk, xa, xb⟩ = G.edgeG xa xb by unfold Gr.step; dsimp only; rw [hm]; rfl)
    rw [HG2.out]
    clear HG2
    obtain ⟨G2, hG2⟩ : ∃ G2, G.edgeG xa xb = G2 := ⟨_, rfl⟩
    obtain ⟨E, hE⟩ : ∃ E, G.edgeE xa xb = E := ⟨_, rfl⟩
    have HP := Lib.hid (fun w L (h : Sat W w (IsG p G :: L)) => (show Calls Try.prog 19 #[.pointer (some ⟨p, 0, none⟩), .int .i64 xa, .int .i64 xb] w fun e w' => e = .returned (.int .i64 E) ∧ Sat W w' (IsG p G2 :: L) by
      have := edge_any h hG xa xb
      rw [hG2, hE] at this
      exact this))
    have HQ := Lib.hid (fun w L (h : Sat W w (IsR q G :: L)) => (show Calls Try.prog 61 #[.pointer (some ⟨q, 0, none⟩), .int .i64 xa, .int .i64 xb] w fun e w' => e = .returned (.int .i64 E) ∧ Sat W w' (IsR q G2 :: L) by
      have := redge_any h hG hel xa xb
      rw [hG2, hE] at this
      exact this))
    rw [hG2]
    rw [hm] at HK
    clear hm hG2 hE
    go_enter Try.func44, Try.ntmps44
    go_wp2_with (first
      | (refine toList (by rfl) ?_; refine bx hS _ _ (by rfl) _ (by first | exact evC | exact evT (by rfl)) ?_; intro px w1 hS1; clear hS; have hS := hS1; clear hS1; rw [cells_agg] at hS)
      | (refine toList (by rfl) ?_; refine ld hS _ _ (by rfl) _ _ (by rfl) (agOf (by rfl)) (by first | exact Has.z | exact Has.s Has.z | exact Has.s (Has.s Has.z) | exact Has.s (Has.s (Has.s Has.z)) | exact Has.s (Has.s (Has.s (Has.s Has.z))) | exact Has.s (Has.s (Has.s (Has.s (Has.s Has.z))))) (by rfl) ?_)
      | (go_at_call 15; refine (HK.out _).mono ?_; rintro e w1 ⟨rfl, rfl⟩))
    refine regStart2 [11] hS (fun _ h => h.one Has.z) (by kernel_rfl) rfl ?_
    intro w1 hS1
    clear hS; have hS := hS1; clear hS1
    (refine regP 0 hS (fun _ h => h.one Has.z) rfl (by kernel_rfl) (by kernel_rfl) (by kernel_rfl) (fun _ _ _ _ h => h) (by rfl) (by rfl) ?_; apply Exists.intro; apply And.intro; (intro w; go_simp; try with_reducible rfl); (simp only [Act.put, List.setIfInBounds_toArray, List.set_cons_zero, List.set_cons_succ]))
    (refine regP 1 hS (fun _ h => h.one Has.z) rfl (by kernel_rfl) (by kernel_rfl) (by kernel_rfl) (fun _ _ _ _ h => h) (by rfl) (by rfl) ?_; apply Exists.intro; apply And.intro; (intro w; go_simp; try with_reducible rfl); (simp only [Act.put, List.setIfInBounds_toArray, List.set_cons_zero, List.set_cons_succ]))
    (refine regR 2 hS (fun _ h => h.one Has.z) rfl (by kernel_rfl) (by kernel_rfl) (by kernel_rfl) (by kernel_rfl) (by kernel_rfl) (fun _ _ _ _ h => h) (by rfl) (by rfl) ?_; (refine ⟨_, yLd _ _ (by rfl) _ _ (by rfl) (agOf (by rfl)) (by first | exact Has.z | exact Has.s Has.z | exact Has.s (Has.s Has.z) | exact Has.s (Has.s (Has.s Has.z)) | exact Has.s (Has.s (Has.s (Has.s Has.z))) | exact Has.s (Has.s (Has.s (Has.s (Has.s Has.z))))) (by rfl), ?_⟩); (simp only [Act.put, List.setIfInBounds_toArray, List.set_cons_zero, List.set_cons_succ]))
    (refine regP 3 hS (fun _ h => h.one Has.z) rfl (by kernel_rfl) (by kernel_rfl) (by kernel_rfl) (fun _ _ _ _ h => h) (by rfl) (by rfl) ?_; apply Exists.intro; apply And.intro; (intro w; go_simp; try with_reducible rfl); (simp only [Act.put, List.setIfInBounds_toArray, List.set_cons_zero, List.set_cons_succ]))
    (refine regR 4 hS (fun _ h => h.one Has.z) rfl (by kernel_rfl) (by kernel_rfl) (by kernel_rfl) (by kernel_rfl) (by kernel_rfl) (fun _ _ _ _ h => h) (by rfl) (by rfl) ?_; (refine ⟨_, yLd _ _ (by rfl) _ _ (by rfl) (agOf (by rfl)) (by first | exact Has.z | exact Has.s Has.z | exact Has.s (Has.s Has.z) | exact Has.s (Has.s (Has.s Has.z)) | exact Has.s (Has.s (Has.s (Has.s Has.z))) | exact Has.s (Has.s (Has.s (Has.s (Has.s Has.z))))) (by rfl), ?_⟩); (simp only [Act.put, List.setIfInBounds_toArray, List.set_cons_zero, List.set_cons_succ]))
    (refine regP 6 hS (fun _ h => h.one Has.z) rfl (by kernel_rfl) (by kernel_rfl) (by kernel_rfl) (fun _ _ _ _ h => h) (by rfl) (by rfl) ?_; apply Exists.intro; apply And.intro; (intro w; go_simp; try with_reducible rfl); (simp only [Act.put, List.setIfInBounds_toArray, List.set_cons_zero, List.set_cons_succ]))
    (refine regP 7 hS (fun _ h => h.one Has.z) rfl (by kernel_rfl) (by kernel_rfl) (by kernel_rfl) (fun _ _ _ _ h => h) (by rfl) (by rfl) ?_; apply Exists.intro; apply And.intro; (intro w; go_simp; try with_reducible rfl); (simp only [Act.put, List.setIfInBounds_toArray, List.set_cons_zero, List.set_cons_succ]))
    (refine regR 8 hS (fun _ h => h.one Has.z) rfl (by kernel_rfl) (by kernel_rfl) (by kernel_rfl) (by kernel_rfl) (by kernel_rfl) (fun _ _ _ _ h => h) (by rfl) (by rfl) ?_; (refine ⟨_, yLd _ _ (by rfl) _ _ (by rfl) (agOf (by rfl)) (by first | exact Has.z | exact Has.s Has.z | exact Has.s (Has.s Has.z) | exact Has.s (Has.s (Has.s Has.z)) | exact Has.s (Has.s (Has.s (Has.s Has.z))) | exact Has.s (Has.s (Has.s (Has.s (Has.s Has.z))))) (by rfl), ?_⟩); (simp only [Act.put, List.setIfInBounds_toArray, List.set_cons_zero, List.set_cons_succ]))
    (refine regP 9 hS (fun _ h => h.one Has.z) rfl (by kernel_rfl) (by kernel_rfl) (by kernel_rfl) (fun _ _ _ _ h => h) (by rfl) (by rfl) ?_; apply Exists.intro; apply And.intro; (intro w; go_simp; try with_reducible rfl); (simp only [Act.put, List.setIfInBounds_toArray, List.set_cons_zero, List.set_cons_succ]))
    (refine regR 10 hS (fun _ h => h.one Has.z) rfl (by kernel_rfl) (by kernel_rfl) (by kernel_rfl) (by kernel_rfl) (by kernel_rfl) (fun _ _ _ _ h => h) (by rfl) (by rfl) ?_; (refine ⟨_, yLd _ _ (by rfl) _ _ (by rfl) (agOf (by rfl)) (by first | exact Has.z | exact Has.s Has.z | exact Has.s (Has.s Has.z) | exact Has.s (Has.s (Has.s Has.z)) | exact Has.s (Has.s (Has.s (Has.s Has.z))) | exact Has.s (Has.s (Has.s (Has.s (Has.s Has.z))))) (by rfl), ?_⟩); (simp only [Act.put, List.setIfInBounds_toArray, List.set_cons_zero, List.set_cons_succ]))
    (refine regA 5 rfl (by kernel_rfl) (by rfl) (by rfl) false (by kernel_rfl) (fun K hK => ?_); (first
              | (refine Go.Sep.cl 19 _ _ (by rfl) (by rfl) (by kernel_rfl) (Calls.atS hS (k := 1) rfl (fun hF => HP.out _ _ hF)) ?_; rintro e w1 ⟨rfl, hS1⟩; clear hS; have hS := hS1; clear hS1; dsimp only [List.set_cons_zero, List.set_cons_succ] at hS; refine ⟨_, rfl, ?_⟩)
              | (refine Go.Sep.cl 61 _ _ (by rfl) (by rfl) (by kernel_rfl) (Calls.atS hS (k := 2) rfl (fun hF => HQ.out _ _ hF)) ?_; rintro e w1 ⟨rfl, hS1⟩; clear hS; have hS := hS1; clear hS1; dsimp only [List.set_cons_zero, List.set_cons_succ] at hS; refine ⟨_, rfl, ?_⟩)); refine hK _ _ _ (hS.upTo (fun _ h => by first | exact h.one Has.z | exact h.one (Has.s Has.z) | exact h.one (Has.s (Has.s Has.z)) | exact h.one (Has.s (Has.s (Has.s Has.z))) | exact h | exact h.drop | exact h.drop.drop | exact h.drop.drop.drop | exact h.drop.drop.drop.drop)) (fun _ _ h => h) ?_; clear hK K; (simp only [Act.put, List.setIfInBounds_toArray, List.set_cons_zero, List.set_cons_succ]))
    (refine regA 11 rfl (by kernel_rfl) (by rfl) (by rfl) true (by kernel_rfl) (fun K hK => ?_); (first
              | (refine Go.Sep.cl 19 _ _ (by rfl) (by rfl) (by kernel_rfl) (Calls.atS hS (k := 1) rfl (fun hF => HP.out _ _ hF)) ?_; rintro e w1 ⟨rfl, hS1⟩; clear hS; have hS := hS1; clear hS1; dsimp only [List.set_cons_zero, List.set_cons_succ] at hS; refine ⟨_, rfl, ?_⟩)
              | (refine Go.Sep.cl 61 _ _ (by rfl) (by rfl) (by kernel_rfl) (Calls.atS hS (k := 2) rfl (fun hF => HQ.out _ _ hF)) ?_; rintro e w1 ⟨rfl, hS1⟩; clear hS; have hS := hS1; clear hS1; dsimp only [List.set_cons_zero, List.set_cons_succ] at hS; refine ⟨_, rfl, ?_⟩)); refine hK _ _ _ hS (by first | (intro h; cases h; done) | exact fun _ _ h => h | exact fun _ _ h => h.drop | exact fun _ _ h => h.drop.drop | exact fun _ _ h => h.drop.pull1 | exact fun _ _ h => h.one Has.z | exact fun _ _ h => h.one (Has.s Has.z) | exact fun _ _ h => h.one (Has.s (Has.s Has.z))) ?_; clear hK K; (simp only [Act.put, List.setIfInBounds_toArray, List.set_cons_zero, List.set_cons_succ]))
    (refine regP 12 hS (fun _ h => h) rfl (by kernel_rfl) (by kernel_rfl) (by kernel_rfl) (fun _ _ _ _ h => h) (by rfl) (by rfl) ?_; apply Exists.intro; apply And.intro; (intro w; go_simp; try with_reducible rfl); (simp only [Act.put, List.setIfInBounds_toArray, List.set_cons_zero, List.set_cons_succ]))
    (refine regP 13 hS (fun _ h => h) rfl (by kernel_rfl) (by kernel_rfl) (by kernel_rfl) (fun _ _ _ _ h => h) (by rfl) (by rfl) ?_; apply Exists.intro; apply And.intro; (intro w; go_simp; try with_reducible rfl); (simp only [Act.put, List.setIfInBounds_toArray, List.set_cons_zero, List.set_cons_succ]))
    refine regDone (by kernel_rfl) ?_
    go_wp2
    go_ret
    exact ⟨by simp, hS.drop⟩
  · have HG2 := Lib.hid (show G.step ⟨xk, xa, xb⟩ = G.edgeG xa xb by unfold Gr.step; dsimp only; rw [hm]; rfl)
    rw [HG2.out]
    clear HG2
    obtain ⟨G2, hG2⟩ : ∃ G2, G.edgeG xa xb = G2 := ⟨_, rfl⟩
    obtain ⟨E, hE⟩ : ∃ E, G.edgeE xa xb = E := ⟨_, rfl⟩
    have HP := Lib.hid (fun w L (h : Sat W w (IsG p G :: L)) => (show Calls Try.prog 19 #[.pointer (some ⟨p, 0, none⟩), .int .i64 xa, .int .i64 xb] w fun e w' => e = .returned (.int .i64 E) ∧ Sat W w' (IsG p G2 :: L) by
      have := edge_any h hG xa xb
      rw [hG2, hE] at this
      exact this))
    have HQ := Lib.hid (fun w L (h : Sat W w (IsR q G :: L)) => (show Calls Try.prog 61 #[.pointer (some ⟨q, 0, none⟩), .int .i64 xa, .int .i64 xb] w fun e w' => e = .returned (.int .i64 E) ∧ Sat W w' (IsR q G2 :: L) by
      have := redge_any h hG hel xa xb
      rw [hG2, hE] at this
      exact this))
    rw [hG2]
    rw [hm] at HK
    clear hm hG2 hE
    go_enter Try.func44, Try.ntmps44
    go_wp2_with (first
      | (refine toList (by rfl) ?_; refine bx hS _ _ (by rfl) _ (by first | exact evC | exact evT (by rfl)) ?_; intro px w1 hS1; clear hS; have hS := hS1; clear hS1; rw [cells_agg] at hS)
      | (refine toList (by rfl) ?_; refine ld hS _ _ (by rfl) _ _ (by rfl) (agOf (by rfl)) (by first | exact Has.z | exact Has.s Has.z | exact Has.s (Has.s Has.z) | exact Has.s (Has.s (Has.s Has.z)) | exact Has.s (Has.s (Has.s (Has.s Has.z))) | exact Has.s (Has.s (Has.s (Has.s (Has.s Has.z))))) (by rfl) ?_)
      | (go_at_call 15; refine (HK.out _).mono ?_; rintro e w1 ⟨rfl, rfl⟩))
    refine regStart2 [11] hS (fun _ h => h.one Has.z) (by kernel_rfl) rfl ?_
    intro w1 hS1
    clear hS; have hS := hS1; clear hS1
    (refine regP 0 hS (fun _ h => h.one Has.z) rfl (by kernel_rfl) (by kernel_rfl) (by kernel_rfl) (fun _ _ _ _ h => h) (by rfl) (by rfl) ?_; apply Exists.intro; apply And.intro; (intro w; go_simp; try with_reducible rfl); (simp only [Act.put, List.setIfInBounds_toArray, List.set_cons_zero, List.set_cons_succ]))
    (refine regP 1 hS (fun _ h => h.one Has.z) rfl (by kernel_rfl) (by kernel_rfl) (by kernel_rfl) (fun _ _ _ _ h => h) (by rfl) (by rfl) ?_; apply Exists.intro; apply And.intro; (intro w; go_simp; try with_reducible rfl); (simp only [Act.put, List.setIfInBounds_toArray, List.set_cons_zero, List.set_cons_succ]))
    (refine regR 2 hS (fun _ h => h.one Has.z) rfl (by kernel_rfl) (by kernel_rfl) (by kernel_rfl) (by kernel_rfl) (by kernel_rfl) (fun _ _ _ _ h => h) (by rfl) (by rfl) ?_; (refine ⟨_, yLd _ _ (by rfl) _ _ (by rfl) (agOf (by rfl)) (by first | exact Has.z | exact Has.s Has.z | exact Has.s (Has.s Has.z) | exact Has.s (Has.s (Has.s Has.z)) | exact Has.s (Has.s (Has.s (Has.s Has.z))) | exact Has.s (Has.s (Has.s (Has.s (Has.s Has.z))))) (by rfl), ?_⟩); (simp only [Act.put, List.setIfInBounds_toArray, List.set_cons_zero, List.set_cons_succ]))
    (refine regP 3 hS (fun _ h => h.one Has.z) rfl (by kernel_rfl) (by kernel_rfl) (by kernel_rfl) (fun _ _ _ _ h => h) (by rfl) (by rfl) ?_; apply Exists.intro; apply And.intro; (intro w; go_simp; try with_reducible rfl); (simp only [Act.put, List.setIfInBounds_toArray, List.set_cons_zero, List.set_cons_succ]))
    (refine regR 4 hS (fun _ h => h.one Has.z) rfl (by kernel_rfl) (by kernel_rfl) (by kernel_rfl) (by kernel_rfl) (by kernel_rfl) (fun _ _ _ _ h => h) (by rfl) (by rfl) ?_; (refine ⟨_, yLd _ _ (by rfl) _ _ (by rfl) (agOf (by rfl)) (by first | exact Has.z | exact Has.s Has.z | exact Has.s (Has.s Has.z) | exact Has.s (Has.s (Has.s Has.z)) | exact Has.s (Has.s (Has.s (Has.s Has.z))) | exact Has.s (Has.s (Has.s (Has.s (Has.s Has.z))))) (by rfl), ?_⟩); (simp only [Act.put, List.setIfInBounds_toArray, List.set_cons_zero, List.set_cons_succ]))
    (refine regP 6 hS (fun _ h => h.one Has.z) rfl (by kernel_rfl) (by kernel_rfl) (by kernel_rfl) (fun _ _ _ _ h => h) (by rfl) (by rfl) ?_; apply Exists.intro; apply And.intro; (intro w; go_simp; try with_reducible rfl); (simp only [Act.put, List.setIfInBounds_toArray, List.set_cons_zero, List.set_cons_succ]))
    (refine regP 7 hS (fun _ h => h.one Has.z) rfl (by kernel_rfl) (by kernel_rfl) (by kernel_rfl) (fun _ _ _ _ h => h) (by rfl) (by rfl) ?_; apply Exists.intro; apply And.intro; (intro w; go_simp; try with_reducible rfl); (simp only [Act.put, List.setIfInBounds_toArray, List.set_cons_zero, List.set_cons_succ]))
    (refine regR 8 hS (fun _ h => h.one Has.z) rfl (by kernel_rfl) (by kernel_rfl) (by kernel_rfl) (by kernel_rfl) (by kernel_rfl) (fun _ _ _ _ h => h) (by rfl) (by rfl) ?_; (refine ⟨_, yLd _ _ (by rfl) _ _ (by rfl) (agOf (by rfl)) (by first | exact Has.z | exact Has.s Has.z | exact Has.s (Has.s Has.z) | exact Has.s (Has.s (Has.s Has.z)) | exact Has.s (Has.s (Has.s (Has.s Has.z))) | exact Has.s (Has.s (Has.s (Has.s (Has.s Has.z))))) (by rfl), ?_⟩); (simp only [Act.put, List.setIfInBounds_toArray, List.set_cons_zero, List.set_cons_succ]))
    (refine regP 9 hS (fun _ h => h.one Has.z) rfl (by kernel_rfl) (by kernel_rfl) (by kernel_rfl) (fun _ _ _ _ h => h) (by rfl) (by rfl) ?_; apply Exists.intro; apply And.intro; (intro w; go_simp; try with_reducible rfl); (simp only [Act.put, List.setIfInBounds_toArray, List.set_cons_zero, List.set_cons_succ]))
    (refine regR 10 hS (fun _ h => h.one Has.z) rfl (by kernel_rfl) (by kernel_rfl) (by kernel_rfl) (by kernel_rfl) (by kernel_rfl) (fun _ _ _ _ h => h) (by rfl) (by rfl) ?_; (refine ⟨_, yLd _ _ (by rfl) _ _ (by rfl) (agOf (by rfl)) (by first | exact Has.z | exact Has.s Has.z | exact Has.s (Has.s Has.z) | exact Has.s (Has.s (Has.s Has.z)) | exact Has.s (Has.s (Has.s (Has.s Has.z))) | exact Has.s (Has.s (Has.s (Has.s (Has.s Has.z))))) (by rfl), ?_⟩); (simp only [Act.put, List.setIfInBounds_toArray, List.set_cons_zero, List.set_cons_succ]))
    (refine regA 5 rfl (by kernel_rfl) (by rfl) (by rfl) false (by kernel_rfl) (fun K hK => ?_); (first
              | (refine Go.Sep.cl 19 _ _ (by rfl) (by rfl) (by kernel_rfl) (Calls.atS hS (k := 1) rfl (fun hF => HP.out _ _ hF)) ?_; rintro e w1 ⟨rfl, hS1⟩; clear hS; have hS := hS1; clear hS1; dsimp only [List.set_cons_zero, List.set_cons_succ] at hS; refine ⟨_, rfl, ?_⟩)
              | (refine Go.Sep.cl 61 _ _ (by rfl) (by rfl) (by kernel_rfl) (Calls.atS hS (k := 2) rfl (fun hF => HQ.out _ _ hF)) ?_; rintro e w1 ⟨rfl, hS1⟩; clear hS; have hS := hS1; clear hS1; dsimp only [List.set_cons_zero, List.set_cons_succ] at hS; refine ⟨_, rfl, ?_⟩)); refine hK _ _ _ (hS.upTo (fun _ h => by first | exact h.one Has.z | exact h.one (Has.s Has.z) | exact h.one (Has.s (Has.s Has.z)) | exact h.one (Has.s (Has.s (Has.s Has.z))) | exact h | exact h.drop | exact h.drop.drop | exact h.drop.drop.drop | exact h.drop.drop.drop.drop)) (fun _ _ h => h) ?_; clear hK K; (simp only [Act.put, List.setIfInBounds_toArray, List.set_cons_zero, List.set_cons_succ]))
    (refine regA 11 rfl (by kernel_rfl) (by rfl) (by rfl) true (by kernel_rfl) (fun K hK => ?_); (first
              | (refine Go.Sep.cl 19 _ _ (by rfl) (by rfl) (by kernel_rfl) (Calls.atS hS (k := 1) rfl (fun hF => HP.out _ _ hF)) ?_; rintro e w1 ⟨rfl, hS1⟩; clear hS; have hS := hS1; clear hS1; dsimp only [List.set_cons_zero, List.set_cons_succ] at hS; refine ⟨_, rfl, ?_⟩)
              | (refine Go.Sep.cl 61 _ _ (by rfl) (by rfl) (by kernel_rfl) (Calls.atS hS (k := 2) rfl (fun hF => HQ.out _ _ hF)) ?_; rintro e w1 ⟨rfl, hS1⟩; clear hS; have hS := hS1; clear hS1; dsimp only [List.set_cons_zero, List.set_cons_succ] at hS; refine ⟨_, rfl, ?_⟩)); refine hK _ _ _ hS (by first | (intro h; cases h; done) | exact fun _ _ h => h | exact fun _ _ h => h.drop | exact fun _ _ h => h.drop.drop | exact fun _ _ h => h.drop.pull1 | exact fun _ _ h => h.one Has.z | exact fun _ _ h => h.one (Has.s Has.z) | exact fun _ _ h => h.one (Has.s (Has.s Has.z))) ?_; clear hK K; (simp only [Act.put, List.setIfInBounds_toArray, List.set_cons_zero, List.set_cons_succ]))
    (refine regP 12 hS (fun _ h => h) rfl (by kernel_rfl) (by kernel_rfl) (by kernel_rfl) (fun _ _ _ _ h => h) (by rfl) (by rfl) ?_; apply Exists.intro; apply And.intro; (intro w; go_simp; try with_reducible rfl); (simp only [Act.put, List.setIfInBounds_toArray, List.set_cons_zero, List.set_cons_succ]))
    (refine regP 13 hS (fun _ h => h) rfl (by kernel_rfl) (by kernel_rfl) (by kernel_rfl) (fun _ _ _ _ h => h) (by rfl) (by rfl) ?_; apply Exists.intro; apply And.intro; (intro w; go_simp; try with_reducible rfl); (simp only [Act.put, List.setIfInBounds_toArray, List.set_cons_zero, List.set_cons_succ]))
    refine regDone (by kernel_rfl) ?_
    go_wp2
    go_ret
    exact ⟨by simp, hS.drop⟩
  · have HG2 := Lib.hid (show G.step ⟨xk, xa, xb⟩ = G.edgeG xa xb by unfold Gr.step; dsimp only; rw [hm]; rfl)
    rw [HG2.out]
    clear HG2
    obtain ⟨G2, hG2⟩ : ∃ G2, G.edgeG xa xb = G2 := ⟨_, rfl⟩
    obtain ⟨E, hE⟩ : ∃ E, G.edgeE xa xb = E := ⟨_, rfl⟩
    have HP := Lib.hid (fun w L (h : Sat W w (IsG p G :: L)) => (show Calls Try.prog 19 #[.pointer (some ⟨p, 0, none⟩), .int .i64 xa, .int .i64 xb] w fun e w' => e = .returned (.int .i64 E) ∧ Sat W w' (IsG p G2 :: L) by
      have := edge_any h hG xa xb
      rw [hG2, hE] at this
      exact this))
    have HQ := Lib.hid (fun w L (h : Sat W w (IsR q G :: L)) => (show Calls Try.prog 61 #[.pointer (some ⟨q, 0, none⟩), .int .i64 xa, .int .i64 xb] w fun e w' => e = .returned (.int .i64 E) ∧ Sat W w' (IsR q G2 :: L) by
      have := redge_any h hG hel xa xb
      rw [hG2, hE] at this
      exact this))
    rw [hG2]
    rw [hm] at HK
    clear hm hG2 hE
    go_enter Try.func44, Try.ntmps44
    go_wp2_with (first
      | (refine toList (by rfl) ?_; refine bx hS _ _ (by rfl) _ (by first | exact evC | exact evT (by rfl)) ?_; intro px w1 hS1; clear hS; have hS := hS1; clear hS1; rw [cells_agg] at hS)
      | (refine toList (by rfl) ?_; refine ld hS _ _ (by rfl) _ _ (by rfl) (agOf (by rfl)) (by first | exact Has.z | exact Has.s Has.z | exact Has.s (Has.s Has.z) | exact Has.s (Has.s (Has.s Has.z)) | exact Has.s (Has.s (Has.s (Has.s Has.z))) | exact Has.s (Has.s (Has.s (Has.s (Has.s Has.z))))) (by rfl) ?_)
      | (go_at_call 15; refine (HK.out _).mono ?_; rintro e w1 ⟨rfl, rfl⟩))
    refine regStart2 [11] hS (fun _ h => h.one Has.z) (by kernel_rfl) rfl ?_
    intro w1 hS1
    clear hS; have hS := hS1; clear hS1
    (refine regP 0 hS (fun _ h => h.one Has.z) rfl (by kernel_rfl) (by kernel_rfl) (by kernel_rfl) (fun _ _ _ _ h => h) (by rfl) (by rfl) ?_; apply Exists.intro; apply And.intro; (intro w; go_simp; try with_reducible rfl); (simp only [Act.put, List.setIfInBounds_toArray, List.set_cons_zero, List.set_cons_succ]))
    (refine regP 1 hS (fun _ h => h.one Has.z) rfl (by kernel_rfl) (by kernel_rfl) (by kernel_rfl) (fun _ _ _ _ h => h) (by rfl) (by rfl) ?_; apply Exists.intro; apply And.intro; (intro w; go_simp; try with_reducible rfl); (simp only [Act.put, List.setIfInBounds_toArray, List.set_cons_zero, List.set_cons_succ]))
    (refine regR 2 hS (fun _ h => h.one Has.z) rfl (by kernel_rfl) (by kernel_rfl) (by kernel_rfl) (by kernel_rfl) (by kernel_rfl) (fun _ _ _ _ h => h) (by rfl) (by rfl) ?_; (refine ⟨_, yLd _ _ (by rfl) _ _ (by rfl) (agOf (by rfl)) (by first | exact Has.z | exact Has.s Has.z | exact Has.s (Has.s Has.z) | exact Has.s (Has.s (Has.s Has.z)) | exact Has.s (Has.s (Has.s (Has.s Has.z))) | exact Has.s (Has.s (Has.s (Has.s (Has.s Has.z))))) (by rfl), ?_⟩); (simp only [Act.put, List.setIfInBounds_toArray, List.set_cons_zero, List.set_cons_succ]))
    (refine regP 3 hS (fun _ h => h.one Has.z) rfl (by kernel_rfl) (by kernel_rfl) (by kernel_rfl) (fun _ _ _ _ h => h) (by rfl) (by rfl) ?_; apply Exists.intro; apply And.intro; (intro w; go_simp; try with_reducible rfl); (simp only [Act.put, List.setIfInBounds_toArray, List.set_cons_zero, List.set_cons_succ]))
    (refine regR 4 hS (fun _ h => h.one Has.z) rfl (by kernel_rfl) (by kernel_rfl) (by kernel_rfl) (by kernel_rfl) (by kernel_rfl) (fun _ _ _ _ h => h) (by rfl) (by rfl) ?_; (refine ⟨_, yLd _ _ (by rfl) _ _ (by rfl) (agOf (by rfl)) (by first | exact Has.z | exact Has.s Has.z | exact Has.s (Has.s Has.z) | exact Has.s (Has.s (Has.s Has.z)) | exact Has.s (Has.s (Has.s (Has.s Has.z))) | exact Has.s (Has.s (Has.s (Has.s (Has.s Has.z))))) (by rfl), ?_⟩); (simp only [Act.put, List.setIfInBounds_toArray, List.set_cons_zero, List.set_cons_succ]))
    (refine regP 6 hS (fun _ h => h.one Has.z) rfl (by kernel_rfl) (by kernel_rfl) (by kernel_rfl) (fun _ _ _ _ h => h) (by rfl) (by rfl) ?_; apply Exists.intro; apply And.intro; (intro w; go_simp; try with_reducible rfl); (simp only [Act.put, List.setIfInBounds_toArray, List.set_cons_zero, List.set_cons_succ]))
    (refine regP 7 hS (fun _ h => h.one Has.z) rfl (by kernel_rfl) (by kernel_rfl) (by kernel_rfl) (fun _ _ _ _ h => h) (by rfl) (by rfl) ?_; apply Exists.intro; apply And.intro; (intro w; go_simp; try with_reducible rfl); (simp only [Act.put, List.setIfInBounds_toArray, List.set_cons_zero, List.set_cons_succ]))
    (refine regR 8 hS (fun _ h => h.one Has.z) rfl (by kernel_rfl) (by kernel_rfl) (by kernel_rfl) (by kernel_rfl) (by kernel_rfl) (fun _ _ _ _ h => h) (by rfl) (by rfl) ?_; (refine ⟨_, yLd _ _ (by rfl) _ _ (by rfl) (agOf (by rfl)) (by first | exact Has.z | exact Has.s Has.z | exact Has.s (Has.s Has.z) | exact Has.s (Has.s (Has.s Has.z)) | exact Has.s (Has.s (Has.s (Has.s Has.z))) | exact Has.s (Has.s (Has.s (Has.s (Has.s Has.z))))) (by rfl), ?_⟩); (simp only [Act.put, List.setIfInBounds_toArray, List.set_cons_zero, List.set_cons_succ]))
    (refine regP 9 hS (fun _ h => h.one Has.z) rfl (by kernel_rfl) (by kernel_rfl) (by kernel_rfl) (fun _ _ _ _ h => h) (by rfl) (by rfl) ?_; apply Exists.intro; apply And.intro; (intro w; go_simp; try with_reducible rfl); (simp only [Act.put, List.setIfInBounds_toArray, List.set_cons_zero, List.set_cons_succ]))
    (refine regR 10 hS (fun _ h => h.one Has.z) rfl (by kernel_rfl) (by kernel_rfl) (by kernel_rfl) (by kernel_rfl) (by kernel_rfl) (fun _ _ _ _ h => h) (by rfl) (by rfl) ?_; (refine ⟨_, yLd _ _ (by rfl) _ _ (by rfl) (agOf (by rfl)) (by first | exact Has.z | exact Has.s Has.z | exact Has.s (Has.s Has.z) | exact Has.s (Has.s (Has.s Has.z)) | exact Has.s (Has.s (Has.s (Has.s Has.z))) | exact Has.s (Has.s (Has.s (Has.s (Has.s Has.z))))) (by rfl), ?_⟩); (simp only [Act.put, List.setIfInBounds_toArray, List.set_cons_zero, List.set_cons_succ]))
    (refine regA 5 rfl (by kernel_rfl) (by rfl) (by rfl) false (by kernel_rfl) (fun K hK => ?_); (first
              | (refine Go.Sep.cl 19 _ _ (by rfl) (by rfl) (by kernel_rfl) (Calls.atS hS (k := 1) rfl (fun hF => HP.out _ _ hF)) ?_; rintro e w1 ⟨rfl, hS1⟩; clear hS; have hS := hS1; clear hS1; dsimp only [List.set_cons_zero, List.set_cons_succ] at hS; refine ⟨_, rfl, ?_⟩)
              | (refine Go.Sep.cl 61 _ _ (by rfl) (by rfl) (by kernel_rfl) (Calls.atS hS (k := 2) rfl (fun hF => HQ.out _ _ hF)) ?_; rintro e w1 ⟨rfl, hS1⟩; clear hS; have hS := hS1; clear hS1; dsimp only [List.set_cons_zero, List.set_cons_succ] at hS; refine ⟨_, rfl, ?_⟩)); refine hK _ _ _ (hS.upTo (fun _ h => by first | exact h.one Has.z | exact h.one (Has.s Has.z) | exact h.one (Has.s (Has.s Has.z)) | exact h.one (Has.s (Has.s (Has.s Has.z))) | exact h | exact h.drop | exact h.drop.drop | exact h.drop.drop.drop | exact h.drop.drop.drop.drop)) (fun _ _ h => h) ?_; clear hK K; (simp only [Act.put, List.setIfInBounds_toArray, List.set_cons_zero, List.set_cons_succ]))
    (refine regA 11 rfl (by kernel_rfl) (by rfl) (by rfl) true (by kernel_rfl) (fun K hK => ?_); (first
              | (refine Go.Sep.cl 19 _ _ (by rfl) (by rfl) (by kernel_rfl) (Calls.atS hS (k := 1) rfl (fun hF => HP.out _ _ hF)) ?_; rintro e w1 ⟨rfl, hS1⟩; clear hS; have hS := hS1; clear hS1; dsimp only [List.set_cons_zero, List.set_cons_succ] at hS; refine ⟨_, rfl, ?_⟩)
              | (refine Go.Sep.cl 61 _ _ (by rfl) (by rfl) (by kernel_rfl) (Calls.atS hS (k := 2) rfl (fun hF => HQ.out _ _ hF)) ?_; rintro e w1 ⟨rfl, hS1⟩; clear hS; have hS := hS1; clear hS1; dsimp only [List.set_cons_zero, List.set_cons_succ] at hS; refine ⟨_, rfl, ?_⟩)); refine hK _ _ _ hS (by first | (intro h; cases h; done) | exact fun _ _ h => h | exact fun _ _ h => h.drop | exact fun _ _ h => h.drop.drop | exact fun _ _ h => h.drop.pull1 | exact fun _ _ h => h.one Has.z | exact fun _ _ h => h.one (Has.s Has.z) | exact fun _ _ h => h.one (Has.s (Has.s Has.z))) ?_; clear hK K; (simp only [Act.put, List.setIfInBounds_toArray, List.set_cons_zero, List.set_cons_succ]))
    (refine regP 12 hS (fun _ h => h) rfl (by kernel_rfl) (by kernel_rfl) (by kernel_rfl) (fun _ _ _ _ h => h) (by rfl) (by rfl) ?_; apply Exists.intro; apply And.intro; (intro w; go_simp; try with_reducible rfl); (simp only [Act.put, List.setIfInBounds_toArray, List.set_cons_zero, List.set_cons_succ]))
    (refine regP 13 hS (fun _ h => h) rfl (by kernel_rfl) (by kernel_rfl) (by kernel_rfl) (fun _ _ _ _ h => h) (by rfl) (by rfl) ?_; apply Exists.intro; apply And.intro; (intro w; go_simp; try with_reducible rfl); (simp only [Act.put, List.setIfInBounds_toArray, List.set_cons_zero, List.set_cons_succ]))
    refine regDone (by kernel_rfl) ?_
    go_wp2
    go_ret
    exact ⟨by simp, hS.drop⟩
  · have HG2 := Lib.hid (show G.step ⟨xk, xa, xb⟩ = G.edgeG xa xb by unfold Gr.step; dsimp only; rw [hm]; rfl)
    rw [HG2.out]
    clear HG2
    obtain ⟨G2, hG2⟩ : ∃ G2, G.edgeG xa xb = G2 := ⟨_, rfl⟩
    obtain ⟨E, hE⟩ : ∃ E, G.edgeE xa xb = E := ⟨_, rfl⟩
    have HP := Lib.hid (fun w L (h : Sat W w (IsG p G :: L)) => (show Calls Try.prog 19 #[.pointer (some ⟨p, 0, none⟩), .int .i64 xa, .int .i64 xb] w fun e w' => e = .returned (.int .i64 E) ∧ Sat W w' (IsG p G2 :: L) by
      have := edge_any h hG xa xb
      rw [hG2, hE] at this
      exact this))
    have HQ := Lib.hid (fun w L (h : Sat W w (IsR q G :: L)) => (show Calls Try.prog 61 #[.pointer (some ⟨q, 0, none⟩), .int .i64 xa, .int .i64 xb] w fun e w' => e = .returned (.int .i64 E) ∧ Sat W w' (IsR q G2 :: L) by
      have := redge_any h hG hel xa xb
      rw [hG2, hE] at this
      exact this))
    rw [hG2]
    rw [hm] at HK
    clear hm hG2 hE
    go_enter Try.func44, Try.ntmps44
    go_wp2_with (first
      | (refine toList (by rfl) ?_; refine bx hS _ _ (by rfl) _ (by first | exact evC | exact evT (by rfl)) ?_; intro px w1 hS1; clear hS; have hS := hS1; clear hS1; rw [cells_agg] at hS)
      | (refine toList (by rfl) ?_; refine ld hS _ _ (by rfl) _ _ (by rfl) (agOf (by rfl)) (by first | exact Has.z | exact Has.s Has.z | exact Has.s (Has.s Has.z) | exact Has.s (Has.s (Has.s Has.z)) | exact Has.s (Has.s (Has.s (Has.s Has.z))) | exact Has.s (Has.s (Has.s (Has.s (Has.s Has.z))))) (by rfl) ?_)
      | (go_at_call 15; refine (HK.out _).mono ?_; rintro e w1 ⟨rfl, rfl⟩))
    refine regStart2 [11] hS (fun _ h => h.one Has.z) (by kernel_rfl) rfl ?_
    intro w1 hS1
    clear hS; have hS := hS1; clear hS1
    (refine regP 0 hS (fun _ h => h.one Has.z) rfl (by kernel_rfl) (by kernel_rfl) (by kernel_rfl) (fun _ _ _ _ h => h) (by rfl) (by rfl) ?_; apply Exists.intro; apply And.intro; (intro w; go_simp; try with_reducible rfl); (simp only [Act.put, List.setIfInBounds_toArray, List.set_cons_zero, List.set_cons_succ]))
    (refine regP 1 hS (fun _ h => h.one Has.z) rfl (by kernel_rfl) (by kernel_rfl) (by kernel_rfl) (fun _ _ _ _ h => h) (by rfl) (by rfl) ?_; apply Exists.intro; apply And.intro; (intro w; go_simp; try with_reducible rfl); (simp only [Act.put, List.setIfInBounds_toArray, List.set_cons_zero, List.set_cons_succ]))
    (refine regR 2 hS (fun _ h => h.one Has.z) rfl (by kernel_rfl) (by kernel_rfl) (by kernel_rfl) (by kernel_rfl) (by kernel_rfl) (fun _ _ _ _ h => h) (by rfl) (by rfl) ?_; (refine ⟨_, yLd _ _ (by rfl) _ _ (by rfl) (agOf (by rfl)) (by first | exact Has.z | exact Has.s Has.z | exact Has.s (Has.s Has.z) | exact Has.s (Has.s (Has.s Has.z)) | exact Has.s (Has.s (Has.s (Has.s Has.z))) | exact Has.s (Has.s (Has.s (Has.s (Has.s Has.z))))) (by rfl), ?_⟩); (simp only [Act.put, List.setIfInBounds_toArray, List.set_cons_zero, List.set_cons_succ]))
    (refine regP 3 hS (fun _ h => h.one Has.z) rfl (by kernel_rfl) (by kernel_rfl) (by kernel_rfl) (fun _ _ _ _ h => h) (by rfl) (by rfl) ?_; apply Exists.intro; apply And.intro; (intro w; go_simp; try with_reducible rfl); (simp only [Act.put, List.setIfInBounds_toArray, List.set_cons_zero, List.set_cons_succ]))
    (refine regR 4 hS (fun _ h => h.one Has.z) rfl (by kernel_rfl) (by kernel_rfl) (by kernel_rfl) (by kernel_rfl) (by kernel_rfl) (fun _ _ _ _ h => h) (by rfl) (by rfl) ?_; (refine ⟨_, yLd _ _ (by rfl) _ _ (by rfl) (agOf (by rfl)) (by first | exact Has.z | exact Has.s Has.z | exact Has.s (Has.s Has.z) | exact Has.s (Has.s (Has.s Has.z)) | exact Has.s (Has.s (Has.s (Has.s Has.z))) | exact Has.s (Has.s (Has.s (Has.s (Has.s Has.z))))) (by rfl), ?_⟩); (simp only [Act.put, List.setIfInBounds_toArray, List.set_cons_zero, List.set_cons_succ]))
    (refine regP 6 hS (fun _ h => h.one Has.z) rfl (by kernel_rfl) (by kernel_rfl) (by kernel_rfl) (fun _ _ _ _ h => h) (by rfl) (by rfl) ?_; apply Exists.intro; apply And.intro; (intro w; go_simp; try with_reducible rfl); (simp only [Act.put, List.setIfInBounds_toArray, List.set_cons_zero, List.set_cons_succ]))
    (refine regP 7 hS (fun _ h => h.one Has.z) rfl (by kernel_rfl) (by kernel_rfl) (by kernel_rfl) (fun _ _ _ _ h => h) (by rfl) (by rfl) ?_; apply Exists.intro; apply And.intro; (intro w; go_simp; try with_reducible rfl); (simp only [Act.put, List.setIfInBounds_toArray, List.set_cons_zero, List.set_cons_succ]))
    (refine regR 8 hS (fun _ h => h.one Has.z) rfl (by kernel_rfl) (by kernel_rfl) (by kernel_rfl) (by kernel_rfl) (by kernel_rfl) (fun _ _ _ _ h => h) (by rfl) (by rfl) ?_; (refine ⟨_, yLd _ _ (by rfl) _ _ (by rfl) (agOf (by rfl)) (by first | exact Has.z | exact Has.s Has.z | exact Has.s (Has.s Has.z) | exact Has.s (Has.s (Has.s Has.z)) | exact Has.s (Has.s (Has.s (Has.s Has.z))) | exact Has.s (Has.s (Has.s (Has.s (Has.s Has.z))))) (by rfl), ?_⟩); (simp only [Act.put, List.setIfInBounds_toArray, List.set_cons_zero, List.set_cons_succ]))
    (refine regP 9 hS (fun _ h => h.one Has.z) rfl (by kernel_rfl) (by kernel_rfl) (by kernel_rfl) (fun _ _ _ _ h => h) (by rfl) (by rfl) ?_; apply Exists.intro; apply And.intro; (intro w; go_simp; try with_reducible rfl); (simp only [Act.put, List.setIfInBounds_toArray, List.set_cons_zero, List.set_cons_succ]))
    (refine regR 10 hS (fun _ h => h.one Has.z) rfl (by kernel_rfl) (by kernel_rfl) (by kernel_rfl) (by kernel_rfl) (by kernel_rfl) (fun _ _ _ _ h => h) (by rfl) (by rfl) ?_; (refine ⟨_, yLd _ _ (by rfl) _ _ (by rfl) (agOf (by rfl)) (by first | exact Has.z | exact Has.s Has.z | exact Has.s (Has.s Has.z) | exact Has.s (Has.s (Has.s Has.z)) | exact Has.s (Has.s (Has.s (Has.s Has.z))) | exact Has.s (Has.s (Has.s (Has.s (Has.s Has.z))))) (by rfl), ?_⟩); (simp only [Act.put, List.setIfInBounds_toArray, List.set_cons_zero, List.set_cons_succ]))
    (refine regA 5 rfl (by kernel_rfl) (by rfl) (by rfl) false (by kernel_rfl) (fun K hK => ?_); (first
              | (refine Go.Sep.cl 19 _ _ (by rfl) (by rfl) (by kernel_rfl) (Calls.atS hS (k := 1) rfl (fun hF => HP.out _ _ hF)) ?_; rintro e w1 ⟨rfl, hS1⟩; clear hS; have hS := hS1; clear hS1; dsimp only [List.set_cons_zero, List.set_cons_succ] at hS; refine ⟨_, rfl, ?_⟩)
              | (refine Go.Sep.cl 61 _ _ (by rfl) (by rfl) (by kernel_rfl) (Calls.atS hS (k := 2) rfl (fun hF => HQ.out _ _ hF)) ?_; rintro e w1 ⟨rfl, hS1⟩; clear hS; have hS := hS1; clear hS1; dsimp only [List.set_cons_zero, List.set_cons_succ] at hS; refine ⟨_, rfl, ?_⟩)); refine hK _ _ _ (hS.upTo (fun _ h => by first | exact h.one Has.z | exact h.one (Has.s Has.z) | exact h.one (Has.s (Has.s Has.z)) | exact h.one (Has.s (Has.s (Has.s Has.z))) | exact h | exact h.drop | exact h.drop.drop | exact h.drop.drop.drop | exact h.drop.drop.drop.drop)) (fun _ _ h => h) ?_; clear hK K; (simp only [Act.put, List.setIfInBounds_toArray, List.set_cons_zero, List.set_cons_succ]))
    (refine regA 11 rfl (by kernel_rfl) (by rfl) (by rfl) true (by kernel_rfl) (fun K hK => ?_); (first
              | (refine Go.Sep.cl 19 _ _ (by rfl) (by rfl) (by kernel_rfl) (Calls.atS hS (k := 1) rfl (fun hF => HP.out _ _ hF)) ?_; rintro e w1 ⟨rfl, hS1⟩; clear hS; have hS := hS1; clear hS1; dsimp only [List.set_cons_zero, List.set_cons_succ] at hS; refine ⟨_, rfl, ?_⟩)
              | (refine Go.Sep.cl 61 _ _ (by rfl) (by rfl) (by kernel_rfl) (Calls.atS hS (k := 2) rfl (fun hF => HQ.out _ _ hF)) ?_; rintro e w1 ⟨rfl, hS1⟩; clear hS; have hS := hS1; clear hS1; dsimp only [List.set_cons_zero, List.set_cons_succ] at hS; refine ⟨_, rfl, ?_⟩)); refine hK _ _ _ hS (by first | (intro h; cases h; done) | exact fun _ _ h => h | exact fun _ _ h => h.drop | exact fun _ _ h => h.drop.drop | exact fun _ _ h => h.drop.pull1 | exact fun _ _ h => h.one Has.z | exact fun _ _ h => h.one (Has.s Has.z) | exact fun _ _ h => h.one (Has.s (Has.s Has.z))) ?_; clear hK K; (simp only [Act.put, List.setIfInBounds_toArray, List.set_cons_zero, List.set_cons_succ]))
    (refine regP 12 hS (fun _ h => h) rfl (by kernel_rfl) (by kernel_rfl) (by kernel_rfl) (fun _ _ _ _ h => h) (by rfl) (by rfl) ?_; apply Exists.intro; apply And.intro; (intro w; go_simp; try with_reducible rfl); (simp only [Act.put, List.setIfInBounds_toArray, List.set_cons_zero, List.set_cons_succ]))
    (refine regP 13 hS (fun _ h => h) rfl (by kernel_rfl) (by kernel_rfl) (by kernel_rfl) (fun _ _ _ _ h => h) (by rfl) (by rfl) ?_; apply Exists.intro; apply And.intro; (intro w; go_simp; try with_reducible rfl); (simp only [Act.put, List.setIfInBounds_toArray, List.set_cons_zero, List.set_cons_succ]))
    refine regDone (by kernel_rfl) ?_
    go_wp2
    go_ret
    exact ⟨by simp, hS.drop⟩
  · have HG2 := Lib.hid (show G.step ⟨xk, xa, xb⟩ = G.markG xa xb by unfold Gr.step; dsimp only; rw [hm]; rfl)
    rw [HG2.out]
    clear HG2
    obtain ⟨G2, hG2⟩ : ∃ G2, G.markG xa xb = G2 := ⟨_, rfl⟩
    obtain ⟨E, hE⟩ : ∃ E, bitE G xa xb = E := ⟨_, rfl⟩
    have HP := Lib.hid (fun w L (h : Sat W w (IsG p G :: L)) => (show Calls Try.prog 34 #[.pointer (some ⟨p, 0, none⟩), .int .i64 xa, .int .i64 xb] w fun e w' => e = .returned (.int .i64 E) ∧ Sat W w' (IsG p G2 :: L) by
      have := mark_any h xa xb hG.marks
      rw [hG2, hE] at this
      exact this))
    have HQ := Lib.hid (fun w L (h : Sat W w (IsR q G :: L)) => (show Calls Try.prog 58 #[.pointer (some ⟨q, 0, none⟩), .int .i64 xa, .int .i64 xb] w fun e w' => e = .returned (.int .i64 E) ∧ Sat W w' (IsR q G2 :: L) by
      have := rmark_any h xa xb hG.marks
      rw [hG2, hE] at this
      exact this))
    rw [hG2]
    rw [hm] at HK
    clear hm hG2 hE
    go_enter Try.func44, Try.ntmps44
    go_wp2_with (first
      | (refine toList (by rfl) ?_; refine bx hS _ _ (by rfl) _ (by first | exact evC | exact evT (by rfl)) ?_; intro px w1 hS1; clear hS; have hS := hS1; clear hS1; rw [cells_agg] at hS)
      | (refine toList (by rfl) ?_; refine ld hS _ _ (by rfl) _ _ (by rfl) (agOf (by rfl)) (by first | exact Has.z | exact Has.s Has.z | exact Has.s (Has.s Has.z) | exact Has.s (Has.s (Has.s Has.z)) | exact Has.s (Has.s (Has.s (Has.s Has.z))) | exact Has.s (Has.s (Has.s (Has.s (Has.s Has.z))))) (by rfl) ?_)
      | (go_at_call 15; refine (HK.out _).mono ?_; rintro e w1 ⟨rfl, rfl⟩))
    refine regStart2 [11] hS (fun _ h => h.one Has.z) (by kernel_rfl) rfl ?_
    intro w1 hS1
    clear hS; have hS := hS1; clear hS1
    (refine regP 0 hS (fun _ h => h.one Has.z) rfl (by kernel_rfl) (by kernel_rfl) (by kernel_rfl) (fun _ _ _ _ h => h) (by rfl) (by rfl) ?_; apply Exists.intro; apply And.intro; (intro w; go_simp; try with_reducible rfl); (simp only [Act.put, List.setIfInBounds_toArray, List.set_cons_zero, List.set_cons_succ]))
    (refine regP 1 hS (fun _ h => h.one Has.z) rfl (by kernel_rfl) (by kernel_rfl) (by kernel_rfl) (fun _ _ _ _ h => h) (by rfl) (by rfl) ?_; apply Exists.intro; apply And.intro; (intro w; go_simp; try with_reducible rfl); (simp only [Act.put, List.setIfInBounds_toArray, List.set_cons_zero, List.set_cons_succ]))
    (refine regR 2 hS (fun _ h => h.one Has.z) rfl (by kernel_rfl) (by kernel_rfl) (by kernel_rfl) (by kernel_rfl) (by kernel_rfl) (fun _ _ _ _ h => h) (by rfl) (by rfl) ?_; (refine ⟨_, yLd _ _ (by rfl) _ _ (by rfl) (agOf (by rfl)) (by first | exact Has.z | exact Has.s Has.z | exact Has.s (Has.s Has.z) | exact Has.s (Has.s (Has.s Has.z)) | exact Has.s (Has.s (Has.s (Has.s Has.z))) | exact Has.s (Has.s (Has.s (Has.s (Has.s Has.z))))) (by rfl), ?_⟩); (simp only [Act.put, List.setIfInBounds_toArray, List.set_cons_zero, List.set_cons_succ]))
    (refine regP 3 hS (fun _ h => h.one Has.z) rfl (by kernel_rfl) (by kernel_rfl) (by kernel_rfl) (fun _ _ _ _ h => h) (by rfl) (by rfl) ?_; apply Exists.intro; apply And.intro; (intro w; go_simp; try with_reducible rfl); (simp only [Act.put, List.setIfInBounds_toArray, List.set_cons_zero, List.set_cons_succ]))
    (refine regR 4 hS (fun _ h => h.one Has.z) rfl (by kernel_rfl) (by kernel_rfl) (by kernel_rfl) (by kernel_rfl) (by kernel_rfl) (fun _ _ _ _ h => h) (by rfl) (by rfl) ?_; (refine ⟨_, yLd _ _ (by rfl) _ _ (by rfl) (agOf (by rfl)) (by first | exact Has.z | exact Has.s Has.z | exact Has.s (Has.s Has.z) | exact Has.s (Has.s (Has.s Has.z)) | exact Has.s (Has.s (Has.s (Has.s Has.z))) | exact Has.s (Has.s (Has.s (Has.s (Has.s Has.z))))) (by rfl), ?_⟩); (simp only [Act.put, List.setIfInBounds_toArray, List.set_cons_zero, List.set_cons_succ]))
    (refine regP 6 hS (fun _ h => h.one Has.z) rfl (by kernel_rfl) (by kernel_rfl) (by kernel_rfl) (fun _ _ _ _ h => h) (by rfl) (by rfl) ?_; apply Exists.intro; apply And.intro; (intro w; go_simp; try with_reducible rfl); (simp only [Act.put, List.setIfInBounds_toArray, List.set_cons_zero, List.set_cons_succ]))
    (refine regP 7 hS (fun _ h => h.one Has.z) rfl (by kernel_rfl) (by kernel_rfl) (by kernel_rfl) (fun _ _ _ _ h => h) (by rfl) (by rfl) ?_; apply Exists.intro; apply And.intro; (intro w; go_simp; try with_reducible rfl); (simp only [Act.put, List.setIfInBounds_toArray, List.set_cons_zero, List.set_cons_succ]))
    (refine regR 8 hS (fun _ h => h.one Has.z) rfl (by kernel_rfl) (by kernel_rfl) (by kernel_rfl) (by kernel_rfl) (by kernel_rfl) (fun _ _ _ _ h => h) (by rfl) (by rfl) ?_; (refine ⟨_, yLd _ _ (by rfl) _ _ (by rfl) (agOf (by rfl)) (by first | exact Has.z | exact Has.s Has.z | exact Has.s (Has.s Has.z) | exact Has.s (Has.s (Has.s Has.z)) | exact Has.s (Has.s (Has.s (Has.s Has.z))) | exact Has.s (Has.s (Has.s (Has.s (Has.s Has.z))))) (by rfl), ?_⟩); (simp only [Act.put, List.setIfInBounds_toArray, List.set_cons_zero, List.set_cons_succ]))
    (refine regP 9 hS (fun _ h => h.one Has.z) rfl (by kernel_rfl) (by kernel_rfl) (by kernel_rfl) (fun _ _ _ _ h => h) (by rfl) (by rfl) ?_; apply Exists.intro; apply And.intro; (intro w; go_simp; try with_reducible rfl); (simp only [Act.put, List.setIfInBounds_toArray, List.set_cons_zero, List.set_cons_succ]))
    (refine regR 10 hS (fun _ h => h.one Has.z) rfl (by kernel_rfl) (by kernel_rfl) (by kernel_rfl) (by kernel_rfl) (by kernel_rfl) (fun _ _ _ _ h => h) (by rfl) (by rfl) ?_; (refine ⟨_, yLd _ _ (by rfl) _ _ (by rfl) (agOf (by rfl)) (by first | exact Has.z | exact Has.s Has.z | exact Has.s (Has.s Has.z) | exact Has.s (Has.s (Has.s Has.z)) | exact Has.s (Has.s (Has.s (Has.s Has.z))) | exact Has.s (Has.s (Has.s (Has.s (Has.s Has.z))))) (by rfl), ?_⟩); (simp only [Act.put, List.setIfInBounds_toArray, List.set_cons_zero, List.set_cons_succ]))
    (refine regA 5 rfl (by kernel_rfl) (by rfl) (by rfl) false (by kernel_rfl) (fun K hK => ?_); (first
              | (refine Go.Sep.cl 34 _ _ (by rfl) (by rfl) (by kernel_rfl) (Calls.atS hS (k := 1) rfl (fun hF => HP.out _ _ hF)) ?_; rintro e w1 ⟨rfl, hS1⟩; clear hS; have hS := hS1; clear hS1; dsimp only [List.set_cons_zero, List.set_cons_succ] at hS; refine ⟨_, rfl, ?_⟩)
              | (refine Go.Sep.cl 58 _ _ (by rfl) (by rfl) (by kernel_rfl) (Calls.atS hS (k := 2) rfl (fun hF => HQ.out _ _ hF)) ?_; rintro e w1 ⟨rfl, hS1⟩; clear hS; have hS := hS1; clear hS1; dsimp only [List.set_cons_zero, List.set_cons_succ] at hS; refine ⟨_, rfl, ?_⟩)); refine hK _ _ _ (hS.upTo (fun _ h => by first | exact h.one Has.z | exact h.one (Has.s Has.z) | exact h.one (Has.s (Has.s Has.z)) | exact h.one (Has.s (Has.s (Has.s Has.z))) | exact h | exact h.drop | exact h.drop.drop | exact h.drop.drop.drop | exact h.drop.drop.drop.drop)) (fun _ _ h => h) ?_; clear hK K; (simp only [Act.put, List.setIfInBounds_toArray, List.set_cons_zero, List.set_cons_succ]))
    (refine regA 11 rfl (by kernel_rfl) (by rfl) (by rfl) true (by kernel_rfl) (fun K hK => ?_); (first
              | (refine Go.Sep.cl 34 _ _ (by rfl) (by rfl) (by kernel_rfl) (Calls.atS hS (k := 1) rfl (fun hF => HP.out _ _ hF)) ?_; rintro e w1 ⟨rfl, hS1⟩; clear hS; have hS := hS1; clear hS1; dsimp only [List.set_cons_zero, List.set_cons_succ] at hS; refine ⟨_, rfl, ?_⟩)
              | (refine Go.Sep.cl 58 _ _ (by rfl) (by rfl) (by kernel_rfl) (Calls.atS hS (k := 2) rfl (fun hF => HQ.out _ _ hF)) ?_; rintro e w1 ⟨rfl, hS1⟩; clear hS; have hS := hS1; clear hS1; dsimp only [List.set_cons_zero, List.set_cons_succ] at hS; refine ⟨_, rfl, ?_⟩)); refine hK _ _ _ hS (by first | (intro h; cases h; done) | exact fun _ _ h => h | exact fun _ _ h => h.drop | exact fun _ _ h => h.drop.drop | exact fun _ _ h => h.drop.pull1 | exact fun _ _ h => h.one Has.z | exact fun _ _ h => h.one (Has.s Has.z) | exact fun _ _ h => h.one (Has.s (Has.s Has.z))) ?_; clear hK K; (simp only [Act.put, List.setIfInBounds_toArray, List.set_cons_zero, List.set_cons_succ]))
    (refine regP 12 hS (fun _ h => h) rfl (by kernel_rfl) (by kernel_rfl) (by kernel_rfl) (fun _ _ _ _ h => h) (by rfl) (by rfl) ?_; apply Exists.intro; apply And.intro; (intro w; go_simp; try with_reducible rfl); (simp only [Act.put, List.setIfInBounds_toArray, List.set_cons_zero, List.set_cons_succ]))
    (refine regP 13 hS (fun _ h => h) rfl (by kernel_rfl) (by kernel_rfl) (by kernel_rfl) (fun _ _ _ _ h => h) (by rfl) (by rfl) ?_; apply Exists.intro; apply And.intro; (intro w; go_simp; try with_reducible rfl); (simp only [Act.put, List.setIfInBounds_toArray, List.set_cons_zero, List.set_cons_succ]))
    refine regDone (by kernel_rfl) ?_
    go_wp2
    go_ret
    exact ⟨by simp, hS.drop⟩
  · have HG2 := Lib.hid (show G.step ⟨xk, xa, xb⟩ = G.clearG xa xb by unfold Gr.step; dsimp only; rw [hm]; rfl)
    rw [HG2.out]
    clear HG2
    obtain ⟨G2, hG2⟩ : ∃ G2, G.clearG xa xb = G2 := ⟨_, rfl⟩
    obtain ⟨E, hE⟩ : ∃ E, bitE G xa xb = E := ⟨_, rfl⟩
    have HP := Lib.hid (fun w L (h : Sat W w (IsG p G :: L)) => (show Calls Try.prog 35 #[.pointer (some ⟨p, 0, none⟩), .int .i64 xa, .int .i64 xb] w fun e w' => e = .returned (.int .i64 E) ∧ Sat W w' (IsG p G2 :: L) by
      have := clear_any h xa xb hG.marks
      rw [hG2, hE] at this
      exact this))
    have HQ := Lib.hid (fun w L (h : Sat W w (IsR q G :: L)) => (show Calls Try.prog 59 #[.pointer (some ⟨q, 0, none⟩), .int .i64 xa, .int .i64 xb] w fun e w' => e = .returned (.int .i64 E) ∧ Sat W w' (IsR q G2 :: L) by
      have := rclear_any h xa xb hG.marks
      rw [hG2, hE] at this
      exact this))
    rw [hG2]
    rw [hm] at HK
    clear hm hG2 hE
    go_enter Try.func44, Try.ntmps44
    go_wp2_with (first
      | (refine toList (by rfl) ?_; refine bx hS _ _ (by rfl) _ (by first | exact evC | exact evT (by rfl)) ?_; intro px w1 hS1; clear hS; have hS := hS1; clear hS1; rw [cells_agg] at hS)
      | (refine toList (by rfl) ?_; refine ld hS _ _ (by rfl) _ _ (by rfl) (agOf (by rfl)) (by first | exact Has.z | exact Has.s Has.z | exact Has.s (Has.s Has.z) | exact Has.s (Has.s (Has.s Has.z)) | exact Has.s (Has.s (Has.s (Has.s Has.z))) | exact Has.s (Has.s (Has.s (Has.s (Has.s Has.z))))) (by rfl) ?_)
      | (go_at_call 15; refine (HK.out _).mono ?_; rintro e w1 ⟨rfl, rfl⟩))
    refine regStart2 [11] hS (fun _ h => h.one Has.z) (by kernel_rfl) rfl ?_
    intro w1 hS1
    clear hS; have hS := hS1; clear hS1
    (refine regP 0 hS (fun _ h => h.one Has.z) rfl (by kernel_rfl) (by kernel_rfl) (by kernel_rfl) (fun _ _ _ _ h => h) (by rfl) (by rfl) ?_; apply Exists.intro; apply And.intro; (intro w; go_simp; try with_reducible rfl); (simp only [Act.put, List.setIfInBounds_toArray, List.set_cons_zero, List.set_cons_succ]))
    (refine regP 1 hS (fun _ h => h.one Has.z) rfl (by kernel_rfl) (by kernel_rfl) (by kernel_rfl) (fun _ _ _ _ h => h) (by rfl) (by rfl) ?_; apply Exists.intro; apply And.intro; (intro w; go_simp; try with_reducible rfl); (simp only [Act.put, List.setIfInBounds_toArray, List.set_cons_zero, List.set_cons_succ]))
    (refine regR 2 hS (fun _ h => h.one Has.z) rfl (by kernel_rfl) (by kernel_rfl) (by kernel_rfl) (by kernel_rfl) (by kernel_rfl) (fun _ _ _ _ h => h) (by rfl) (by rfl) ?_; (refine ⟨_, yLd _ _ (by rfl) _ _ (by rfl) (agOf (by rfl)) (by first | exact Has.z | exact Has.s Has.z | exact Has.s (Has.s Has.z) | exact Has.s (Has.s (Has.s Has.z)) | exact Has.s (Has.s (Has.s (Has.s Has.z))) | exact Has.s (Has.s (Has.s (Has.s (Has.s Has.z))))) (by rfl), ?_⟩); (simp only [Act.put, List.setIfInBounds_toArray, List.set_cons_zero, List.set_cons_succ]))
    (refine regP 3 hS (fun _ h => h.one Has.z) rfl (by kernel_rfl) (by kernel_rfl) (by kernel_rfl) (fun _ _ _ _ h => h) (by rfl) (by rfl) ?_; apply Exists.intro; apply And.intro; (intro w; go_simp; try with_reducible rfl); (simp only [Act.put, List.setIfInBounds_toArray, List.set_cons_zero, List.set_cons_succ]))
    (refine regR 4 hS (fun _ h => h.one Has.z) rfl (by kernel_rfl) (by kernel_rfl) (by kernel_rfl) (by kernel_rfl) (by kernel_rfl) (fun _ _ _ _ h => h) (by rfl) (by rfl) ?_; (refine ⟨_, yLd _ _ (by rfl) _ _ (by rfl) (agOf (by rfl)) (by first | exact Has.z | exact Has.s Has.z | exact Has.s (Has.s Has.z) | exact Has.s (Has.s (Has.s Has.z)) | exact Has.s (Has.s (Has.s (Has.s Has.z))) | exact Has.s (Has.s (Has.s (Has.s (Has.s Has.z))))) (by rfl), ?_⟩); (simp only [Act.put, List.setIfInBounds_toArray, List.set_cons_zero, List.set_cons_succ]))
    (refine regP 6 hS (fun _ h => h.one Has.z) rfl (by kernel_rfl) (by kernel_rfl) (by kernel_rfl) (fun _ _ _ _ h => h) (by rfl) (by rfl) ?_; apply Exists.intro; apply And.intro; (intro w; go_simp; try with_reducible rfl); (simp only [Act.put, List.setIfInBounds_toArray, List.set_cons_zero, List.set_cons_succ]))
    (refine regP 7 hS (fun _ h => h.one Has.z) rfl (by kernel_rfl) (by kernel_rfl) (by kernel_rfl) (fun _ _ _ _ h => h) (by rfl) (by rfl) ?_; apply Exists.intro; apply And.intro; (intro w; go_simp; try with_reducible rfl); (simp only [Act.put, List.setIfInBounds_toArray, List.set_cons_zero, List.set_cons_succ]))
    (refine regR 8 hS (fun _ h => h.one Has.z) rfl (by kernel_rfl) (by kernel_rfl) (by kernel_rfl) (by kernel_rfl) (by kernel_rfl) (fun _ _ _ _ h => h) (by rfl) (by rfl) ?_; (refine ⟨_, yLd _ _ (by rfl) _ _ (by rfl) (agOf (by rfl)) (by first | exact Has.z | exact Has.s Has.z | exact Has.s (Has.s Has.z) | exact Has.s (Has.s (Has.s Has.z)) | exact Has.s (Has.s (Has.s (Has.s Has.z))) | exact Has.s (Has.s (Has.s (Has.s (Has.s Has.z))))) (by rfl), ?_⟩); (simp only [Act.put, List.setIfInBounds_toArray, List.set_cons_zero, List.set_cons_succ]))
    (refine regP 9 hS (fun _ h => h.one Has.z) rfl (by kernel_rfl) (by kernel_rfl) (by kernel_rfl) (fun _ _ _ _ h => h) (by rfl) (by rfl) ?_; apply Exists.intro; apply And.intro; (intro w; go_simp; try with_reducible rfl); (simp only [Act.put, List.setIfInBounds_toArray, List.set_cons_zero, List.set_cons_succ]))
    (refine regR 10 hS (fun _ h => h.one Has.z) rfl (by kernel_rfl) (by kernel_rfl) (by kernel_rfl) (by kernel_rfl) (by kernel_rfl) (fun _ _ _ _ h => h) (by rfl) (by rfl) ?_; (refine ⟨_, yLd _ _ (by rfl) _ _ (by rfl) (agOf (by rfl)) (by first | exact Has.z | exact Has.s Has.z | exact Has.s (Has.s Has.z) | exact Has.s (Has.s (Has.s Has.z)) | exact Has.s (Has.s (Has.s (Has.s Has.z))) | exact Has.s (Has.s (Has.s (Has.s (Has.s Has.z))))) (by rfl), ?_⟩); (simp only [Act.put, List.setIfInBounds_toArray, List.set_cons_zero, List.set_cons_succ]))
    (refine regA 5 rfl (by kernel_rfl) (by rfl) (by rfl) false (by kernel_rfl) (fun K hK => ?_); (first
              | (refine Go.Sep.cl 35 _ _ (by rfl) (by rfl) (by kernel_rfl) (Calls.atS hS (k := 1) rfl (fun hF => HP.out _ _ hF)) ?_; rintro e w1 ⟨rfl, hS1⟩; clear hS; have hS := hS1; clear hS1; dsimp only [List.set_cons_zero, List.set_cons_succ] at hS; refine ⟨_, rfl, ?_⟩)
              | (refine Go.Sep.cl 59 _ _ (by rfl) (by rfl) (by kernel_rfl) (Calls.atS hS (k := 2) rfl (fun hF => HQ.out _ _ hF)) ?_; rintro e w1 ⟨rfl, hS1⟩; clear hS; have hS := hS1; clear hS1; dsimp only [List.set_cons_zero, List.set_cons_succ] at hS; refine ⟨_, rfl, ?_⟩)); refine hK _ _ _ (hS.upTo (fun _ h => by first | exact h.one Has.z | exact h.one (Has.s Has.z) | exact h.one (Has.s (Has.s Has.z)) | exact h.one (Has.s (Has.s (Has.s Has.z))) | exact h | exact h.drop | exact h.drop.drop | exact h.drop.drop.drop | exact h.drop.drop.drop.drop)) (fun _ _ h => h) ?_; clear hK K; (simp only [Act.put, List.setIfInBounds_toArray, List.set_cons_zero, List.set_cons_succ]))
    (refine regA 11 rfl (by kernel_rfl) (by rfl) (by rfl) true (by kernel_rfl) (fun K hK => ?_); (first
              | (refine Go.Sep.cl 35 _ _ (by rfl) (by rfl) (by kernel_rfl) (Calls.atS hS (k := 1) rfl (fun hF => HP.out _ _ hF)) ?_; rintro e w1 ⟨rfl, hS1⟩; clear hS; have hS := hS1; clear hS1; dsimp only [List.set_cons_zero, List.set_cons_succ] at hS; refine ⟨_, rfl, ?_⟩)
              | (refine Go.Sep.cl 59 _ _ (by rfl) (by rfl) (by kernel_rfl) (Calls.atS hS (k := 2) rfl (fun hF => HQ.out _ _ hF)) ?_; rintro e w1 ⟨rfl, hS1⟩; clear hS; have hS := hS1; clear hS1; dsimp only [List.set_cons_zero, List.set_cons_succ] at hS; refine ⟨_, rfl, ?_⟩)); refine hK _ _ _ hS (by first | (intro h; cases h; done) | exact fun _ _ h => h | exact fun _ _ h => h.drop | exact fun _ _ h => h.drop.drop | exact fun _ _ h => h.drop.pull1 | exact fun _ _ h => h.one Has.z | exact fun _ _ h => h.one (Has.s Has.z) | exact fun _ _ h => h.one (Has.s (Has.s Has.z))) ?_; clear hK K; (simp only [Act.put, List.setIfInBounds_toArray, List.set_cons_zero, List.set_cons_succ]))
    (refine regP 12 hS (fun _ h => h) rfl (by kernel_rfl) (by kernel_rfl) (by kernel_rfl) (fun _ _ _ _ h => h) (by rfl) (by rfl) ?_; apply Exists.intro; apply And.intro; (intro w; go_simp; try with_reducible rfl); (simp only [Act.put, List.setIfInBounds_toArray, List.set_cons_zero, List.set_cons_succ]))
    (refine regP 13 hS (fun _ h => h) rfl (by kernel_rfl) (by kernel_rfl) (by kernel_rfl) (fun _ _ _ _ h => h) (by rfl) (by rfl) ?_; apply Exists.intro; apply And.intro; (intro w; go_simp; try with_reducible rfl); (simp only [Act.put, List.setIfInBounds_toArray, List.set_cons_zero, List.set_cons_succ]))
    refine regDone (by kernel_rfl) ?_
    go_wp2
    go_ret
    exact ⟨by simp, hS.drop⟩
  · have HG2 := Lib.hid (show G.step ⟨xk, xa, xb⟩ = G.lostG xa xb by unfold Gr.step; dsimp only; rw [hm]; rfl)
    rw [HG2.out]
    clear HG2
    obtain ⟨G2, hG2⟩ : ∃ G2, G.lostG xa xb = G2 := ⟨_, rfl⟩
    obtain ⟨E, hE⟩ : ∃ E, lostE G xa xb = E := ⟨_, rfl⟩
    have HP := Lib.hid (fun w L (h : Sat W w (IsG p G :: L)) => (show Calls Try.prog 24 #[.pointer (some ⟨p, 0, none⟩), .int .i64 xa, .int .i64 xb] w fun e w' => e = .returned (.int .i64 E) ∧ Sat W w' (IsG p G2 :: L) by
      have := lost_any h xa xb (by have := hG.len; omega)
      rw [hG2, hE] at this
      exact this))
    have HQ := Lib.hid (fun w L (h : Sat W w (IsR q G :: L)) => (show Calls Try.prog 60 #[.pointer (some ⟨q, 0, none⟩), .int .i64 xa, .int .i64 xb] w fun e w' => e = .returned (.int .i64 E) ∧ Sat W w' (IsR q G2 :: L) by
      have := rlost_any h xa xb (by have := hG.len; omega)
      rw [hG2, hE] at this
      exact this))
    rw [hG2]
    rw [hm] at HK
    clear hm hG2 hE
    go_enter Try.func44, Try.ntmps44
    go_wp2_with (first
      | (refine toList (by rfl) ?_; refine bx hS _ _ (by rfl) _ (by first | exact evC | exact evT (by rfl)) ?_; intro px w1 hS1; clear hS; have hS := hS1; clear hS1; rw [cells_agg] at hS)
      | (refine toList (by rfl) ?_; refine ld hS _ _ (by rfl) _ _ (by rfl) (agOf (by rfl)) (by first | exact Has.z | exact Has.s Has.z | exact Has.s (Has.s Has.z) | exact Has.s (Has.s (Has.s Has.z)) | exact Has.s (Has.s (Has.s (Has.s Has.z))) | exact Has.s (Has.s (Has.s (Has.s (Has.s Has.z))))) (by rfl) ?_)
      | (go_at_call 15; refine (HK.out _).mono ?_; rintro e w1 ⟨rfl, rfl⟩))
    refine regStart2 [11] hS (fun _ h => h.one Has.z) (by kernel_rfl) rfl ?_
    intro w1 hS1
    clear hS; have hS := hS1; clear hS1
    (refine regP 0 hS (fun _ h => h.one Has.z) rfl (by kernel_rfl) (by kernel_rfl) (by kernel_rfl) (fun _ _ _ _ h => h) (by rfl) (by rfl) ?_; apply Exists.intro; apply And.intro; (intro w; go_simp; try with_reducible rfl); (simp only [Act.put, List.setIfInBounds_toArray, List.set_cons_zero, List.set_cons_succ]))
    (refine regP 1 hS (fun _ h => h.one Has.z) rfl (by kernel_rfl) (by kernel_rfl) (by kernel_rfl) (fun _ _ _ _ h => h) (by rfl) (by rfl) ?_; apply Exists.intro; apply And.intro; (intro w; go_simp; try with_reducible rfl); (simp only [Act.put, List.setIfInBounds_toArray, List.set_cons_zero, List.set_cons_succ]))
    (refine regR 2 hS (fun _ h => h.one Has.z) rfl (by kernel_rfl) (by kernel_rfl) (by kernel_rfl) (by kernel_rfl) (by kernel_rfl) (fun _ _ _ _ h => h) (by rfl) (by rfl) ?_; (refine ⟨_, yLd _ _ (by rfl) _ _ (by rfl) (agOf (by rfl)) (by first | exact Has.z | exact Has.s Has.z | exact Has.s (Has.s Has.z) | exact Has.s (Has.s (Has.s Has.z)) | exact Has.s (Has.s (Has.s (Has.s Has.z))) | exact Has.s (Has.s (Has.s (Has.s (Has.s Has.z))))) (by rfl), ?_⟩); (simp only [Act.put, List.setIfInBounds_toArray, List.set_cons_zero, List.set_cons_succ]))
    (refine regP 3 hS (fun _ h => h.one Has.z) rfl (by kernel_rfl) (by kernel_rfl) (by kernel_rfl) (fun _ _ _ _ h => h) (by rfl) (by rfl) ?_; apply Exists.intro; apply And.intro; (intro w; go_simp; try with_reducible rfl); (simp only [Act.put, List.setIfInBounds_toArray, List.set_cons_zero, List.set_cons_succ]))
    (refine regR 4 hS (fun _ h => h.one Has.z) rfl (by kernel_rfl) (by kernel_rfl) (by kernel_rfl) (by kernel_rfl) (by kernel_rfl) (fun _ _ _ _ h => h) (by rfl) (by rfl) ?_; (refine ⟨_, yLd _ _ (by rfl) _ _ (by rfl) (agOf (by rfl)) (by first | exact Has.z | exact Has.s Has.z | exact Has.s (Has.s Has.z) | exact Has.s (Has.s (Has.s Has.z)) | exact Has.s (Has.s (Has.s (Has.s Has.z))) | exact Has.s (Has.s (Has.s (Has.s (Has.s Has.z))))) (by rfl), ?_⟩); (simp only [Act.put, List.setIfInBounds_toArray, List.set_cons_zero, List.set_cons_succ]))
    (refine regP 6 hS (fun _ h => h.one Has.z) rfl (by kernel_rfl) (by kernel_rfl) (by kernel_rfl) (fun _ _ _ _ h => h) (by rfl) (by rfl) ?_; apply Exists.intro; apply And.intro; (intro w; go_simp; try with_reducible rfl); (simp only [Act.put, List.setIfInBounds_toArray, List.set_cons_zero, List.set_cons_succ]))
    (refine regP 7 hS (fun _ h => h.one Has.z) rfl (by kernel_rfl) (by kernel_rfl) (by kernel_rfl) (fun _ _ _ _ h => h) (by rfl) (by rfl) ?_; apply Exists.intro; apply And.intro; (intro w; go_simp; try with_reducible rfl); (simp only [Act.put, List.setIfInBounds_toArray, List.set_cons_zero, List.set_cons_succ]))
    (refine regR 8 hS (fun _ h => h.one Has.z) rfl (by kernel_rfl) (by kernel_rfl) (by kernel_rfl) (by kernel_rfl) (by kernel_rfl) (fun _ _ _ _ h => h) (by rfl) (by rfl) ?_; (refine ⟨_, yLd _ _ (by rfl) _ _ (by rfl) (agOf (by rfl)) (by first | exact Has.z | exact Has.s Has.z | exact Has.s (Has.s Has.z) | exact Has.s (Has.s (Has.s Has.z)) | exact Has.s (Has.s (Has.s (Has.s Has.z))) | exact Has.s (Has.s (Has.s (Has.s (Has.s Has.z))))) (by rfl), ?_⟩); (simp only [Act.put, List.setIfInBounds_toArray, List.set_cons_zero, List.set_cons_succ]))
    (refine regP 9 hS (fun _ h => h.one Has.z) rfl (by kernel_rfl) (by kernel_rfl) (by kernel_rfl) (fun _ _ _ _ h => h) (by rfl) (by rfl) ?_; apply Exists.intro; apply And.intro; (intro w; go_simp; try with_reducible rfl); (simp only [Act.put, List.setIfInBounds_toArray, List.set_cons_zero, List.set_cons_succ]))
    (refine regR 10 hS (fun _ h => h.one Has.z) rfl (by kernel_rfl) (by kernel_rfl) (by kernel_rfl) (by kernel_rfl) (by kernel_rfl) (fun _ _ _ _ h => h) (by rfl) (by rfl) ?_; (refine ⟨_, yLd _ _ (by rfl) _ _ (by rfl) (agOf (by rfl)) (by first | exact Has.z | exact Has.s Has.z | exact Has.s (Has.s Has.z) | exact Has.s (Has.s (Has.s Has.z)) | exact Has.s (Has.s (Has.s (Has.s Has.z))) | exact Has.s (Has.s (Has.s (Has.s (Has.s Has.z))))) (by rfl), ?_⟩); (simp only [Act.put, List.setIfInBounds_toArray, List.set_cons_zero, List.set_cons_succ]))
    (refine regA 5 rfl (by kernel_rfl) (by rfl) (by rfl) false (by kernel_rfl) (fun K hK => ?_); (first
              | (refine Go.Sep.cl 24 _ _ (by rfl) (by rfl) (by kernel_rfl) (Calls.atS hS (k := 1) rfl (fun hF => HP.out _ _ hF)) ?_; rintro e w1 ⟨rfl, hS1⟩; clear hS; have hS := hS1; clear hS1; dsimp only [List.set_cons_zero, List.set_cons_succ] at hS; refine ⟨_, rfl, ?_⟩)
              | (refine Go.Sep.cl 60 _ _ (by rfl) (by rfl) (by kernel_rfl) (Calls.atS hS (k := 2) rfl (fun hF => HQ.out _ _ hF)) ?_; rintro e w1 ⟨rfl, hS1⟩; clear hS; have hS := hS1; clear hS1; dsimp only [List.set_cons_zero, List.set_cons_succ] at hS; refine ⟨_, rfl, ?_⟩)); refine hK _ _ _ (hS.upTo (fun _ h => by first | exact h.one Has.z | exact h.one (Has.s Has.z) | exact h.one (Has.s (Has.s Has.z)) | exact h.one (Has.s (Has.s (Has.s Has.z))) | exact h | exact h.drop | exact h.drop.drop | exact h.drop.drop.drop | exact h.drop.drop.drop.drop)) (fun _ _ h => h) ?_; clear hK K; (simp only [Act.put, List.setIfInBounds_toArray, List.set_cons_zero, List.set_cons_succ]))
    (refine regA 11 rfl (by kernel_rfl) (by rfl) (by rfl) true (by kernel_rfl) (fun K hK => ?_); (first
              | (refine Go.Sep.cl 24 _ _ (by rfl) (by rfl) (by kernel_rfl) (Calls.atS hS (k := 1) rfl (fun hF => HP.out _ _ hF)) ?_; rintro e w1 ⟨rfl, hS1⟩; clear hS; have hS := hS1; clear hS1; dsimp only [List.set_cons_zero, List.set_cons_succ] at hS; refine ⟨_, rfl, ?_⟩)
              | (refine Go.Sep.cl 60 _ _ (by rfl) (by rfl) (by kernel_rfl) (Calls.atS hS (k := 2) rfl (fun hF => HQ.out _ _ hF)) ?_; rintro e w1 ⟨rfl, hS1⟩; clear hS; have hS := hS1; clear hS1; dsimp only [List.set_cons_zero, List.set_cons_succ] at hS; refine ⟨_, rfl, ?_⟩)); refine hK _ _ _ hS (by first | (intro h; cases h; done) | exact fun _ _ h => h | exact fun _ _ h => h.drop | exact fun _ _ h => h.drop.drop | exact fun _ _ h => h.drop.pull1 | exact fun _ _ h => h.one Has.z | exact fun _ _ h => h.one (Has.s Has.z) | exact fun _ _ h => h.one (Has.s (Has.s Has.z))) ?_; clear hK K; (simp only [Act.put, List.setIfInBounds_toArray, List.set_cons_zero, List.set_cons_succ]))
    (refine regP 12 hS (fun _ h => h) rfl (by kernel_rfl) (by kernel_rfl) (by kernel_rfl) (fun _ _ _ _ h => h) (by rfl) (by rfl) ?_; apply Exists.intro; apply And.intro; (intro w; go_simp; try with_reducible rfl); (simp only [Act.put, List.setIfInBounds_toArray, List.set_cons_zero, List.set_cons_succ]))
    (refine regP 13 hS (fun _ h => h) rfl (by kernel_rfl) (by kernel_rfl) (by kernel_rfl) (fun _ _ _ _ h => h) (by rfl) (by rfl) ?_; apply Exists.intro; apply And.intro; (intro w; go_simp; try with_reducible rfl); (simp only [Act.put, List.setIfInBounds_toArray, List.set_cons_zero, List.set_cons_succ]))
    refine regDone (by kernel_rfl) ?_
    go_wp2
    go_ret
    exact ⟨by simp, hS.drop⟩
set_option maxRecDepth 20000 in
set_option maxHeartbeats 1000000 in
theorem graphs_any {W w : World} {L : List Asrt} (hS : Sat W w L) (l : List GOpD) (ao : Option Addr) (c : Nat) (hr : Rd w (.slice ao l.length c) l.length 3 (l.flatMap gov)) (hrW : ∀ u L', Sat W u L' → Rd u (.slice ao l.length c) l.length 3 (l.flatMap gov)) :
    Calls Try.prog 25 #[.slice ao l.length c] w fun e w' => ∃ p q G, e = .returned (.tuple #[.pointer (some ⟨p, 0, none⟩), .pointer (some ⟨q, 0, none⟩), .bool true]) ∧ G.Ok ∧ G.E.length ≤ 80 ∧ G.N.length ≤ 80 ∧ Sat W w' (IsG p G :: IsR q G :: L) := by
  have HR := Lib.hid hrW
  clear hrW
  obtain ⟨_, _, he, hc1, hc2, _, h5⟩ := hr
  simp only [Value.slice.injEq, true_and] at he
  obtain ⟨rfl, rfl⟩ := he
  have H5 := Lib.hid h5
  clear h5
  go_enter Try.func25, Try.ntmps25
  go_wp2_with (first
    | (go_at_call 14; refine (new_any hS).mono ?_; rintro e w1 ⟨p, rfl, hS1⟩; clear hS; have hS := hS1; clear hS1)
    | (refine toList (by rfl) ?_; refine bx hS _ _ (by rfl) _ (by first | exact evC | exact evT (by rfl)) ?_; intro q w1 hS1; clear hS; have hS := hS1; clear hS1; rw [cells_agg] at hS))
  have H0 : Hid (Sat W _ (IsG p Gr.new :: IsR q Gr.new :: L)) := Lib.hid (by
    have h1 := ((hS.tbNil (α := Nat × Nat) (f := ev) (E := 87) (sz := 2)).tbNil (α := NodeD) (f := nv) (E := 40) (sz := 6))
    exact (IsR.mk (G := Gr.new) (h1.re [2, 0, 1])).pull1)
  go_loopw [7] (fun v wz => ∃ (i : Nat) (G : Gr), v = .int .i64 i ∧ i ≤ 80 ∧ G.Ok ∧ G.E.length ≤ i ∧ G.N.length ≤ i ∧ Sat W wz (IsG p G :: IsR q G :: L)) (fun v _ => 80 - (intOf v).toNat)
  case atStart => exact ⟨0, Gr.new, rfl, by omega, Gr.new_ok, Nat.le_refl _, Nat.le_refl _, H0.out⟩
  case round =>
    clear hS H0
    obtain ⟨i, G, rfl, hi, hok, hel, hnl, hS⟩ := hrel
    have HOK := Lib.hid hok
    have HEL := Lib.hid hel
    have HNL := Lib.hid hnl
    clear hok hel hnl
    by_cases hf : i < l.length
    · have i1 : (i : Int) < (l.length : Int) := by omega
      have e1 : decide ((i : Int) < (l.length : Int)) = true := decide_eq_true i1
      by_cases h80 : i < 80
      · have i3 : (i : Int) < 80 := by omega
        have e3 : decide ((i : Int) < 80) = true := decide_eq_true i3
        obtain ⟨x, hx⟩ : ∃ x, l[i]? = some x := ⟨_, List.getElem?_eq_getElem hf⟩
        have HX := Lib.hid hx
        obtain ⟨b0, off, rfl, _⟩ := H5.out (by omega)
        have HD := Lib.hid (fun w (h : Sat W w (IsG p G :: IsR q G :: L)) => gdo_any h HOK.out (by have := HEL.out; omega) x)
        have HOK2 := Lib.hid (Gr.step_ok HOK.out (by have := HEL.out; omega) x)
        have HE2 := Lib.hid (show (G.step x).E.length ≤ i + 1 by have := G.step_E x; have := HEL.out; omega)
        have HN2 := Lib.hid (show (G.step x).N.length ≤ i + 1 by have := G.step_N x; have := HNL.out; omega)
        obtain ⟨G2, hG2⟩ : ∃ G2, G.step x = G2 := ⟨_, rfl⟩
        rw [hG2] at HD HOK2 HE2 HN2
        clear hx hG2
        go_wp2_with (first
          | (refine toList (by rfl) ?_; refine wp_of_reads (rLdRdA (HR.out _ _ hS) (gov_len l) _ _ (by rfl) _ (by rfl) (agOf (by rfl)) (szOf (by rfl)) i (by rfl) HX.out (by omega)) ?_)
          | (go_at_call 44; refine (HD.out _ hS).mono ?_; rintro e w1 ⟨rfl, hS1⟩; clear hS; have hS := hS1; clear hS1))
        exact ⟨⟨i + 1, G2, by go_num, by omega, HOK2.out, HE2.out, HN2.out, hS⟩, by simp [intOf]; omega⟩
      · have e3 : decide ((i : Int) < 80) = false := decide_eq_false (by omega)
        have e4 : ¬ (i : Int) < 80 := by omega
        clear h80
        go_wp2
        go_ret3
        exact ⟨p, q, rfl, G, HOK.out, by have := HEL.out; omega, by have := HNL.out; omega, hS⟩
    · have e1 : decide ((i : Int) < (l.length : Int)) = false := decide_eq_false (by omega)
      have e1b : decide (i < l.length) = false := decide_eq_false hf
      have e4 : ¬ (i : Int) < (l.length : Int) := by omega
      clear hf
      go_wp2
      go_ret3
      exact ⟨p, q, rfl, G, HOK.out, by have := HEL.out; omega, by have := HNL.out; omega, hS⟩
set_option maxRecDepth 20000 in
theorem same_any {W w : World} {L : List Asrt} (hS : Sat W w L) (l : List Nat) (ao bo : Option Addr) (c d : Nat) (h1 : ∀ w, Sat W w L → Rd w (.slice ao l.length c) l.length 1 (iv l)) (h2 : ∀ w, Sat W w L → Rd w (.slice bo l.length d) l.length 1 (iv l)) (hl : l.length ≤ 1000000) :
    Calls Try.prog 29 #[.slice ao l.length c, .slice bo l.length d] w fun e w' => e = .returned (.bool true) ∧ Sat W w' L := by
  have HR1 := Lib.hid h1
  have HR2 := Lib.hid h2
  obtain ⟨_, _, he, hc1, hc2, _, h5⟩ := h1 w hS
  simp only [Value.slice.injEq, true_and] at he
  obtain ⟨rfl, rfl⟩ := he
  obtain ⟨_, _, he, hd1, hd2, _, h6⟩ := h2 w hS
  simp only [Value.slice.injEq, true_and] at he
  obtain ⟨rfl, rfl⟩ := he
  have H5 := Lib.hid h5
  have H6 := Lib.hid h6
  have H0 := Lib.hid hS
  clear h1 h2 h5 h6
  go_enter Try.func29, Try.ntmps29
  go_wp2
  go_loopw [5] (fun v wz => ∃ i : Nat, v = .int .i64 i ∧ i ≤ l.length ∧ Sat W wz L) (fun v _ => l.length - (intOf v).toNat)
  case atStart => exact ⟨0, rfl, by omega, H0.out⟩
  case round =>
    clear hS H0
    obtain ⟨i, rfl, hi, hS⟩ := hrel
    by_cases hf : i < l.length
    · have i1 : (i : Int) < (l.length : Int) := by omega
      obtain ⟨x, hx⟩ : ∃ x, l[i]? = some x := ⟨_, List.getElem?_eq_getElem hf⟩
      have HX := Lib.hid (iv_at hx)
      obtain ⟨ba, oa, rfl, _⟩ := H5.out (by omega)
      obtain ⟨bb, ob, rfl, _⟩ := H6.out (by omega)
      have HL := Lib.hid hf
      clear hx hf
      go_wp2
      refine regStart [] hS (by kernel_rfl) rfl ?_
      intro w1 hS1
      clear hS; have hS := hS1; clear hS1
      (refine regP 0 hS (fun _ h => h) rfl (by kernel_rfl) (by kernel_rfl) (by kernel_rfl) (fun _ _ _ _ h => h) (by rfl) (by rfl) ?_; apply Exists.intro; apply And.intro; (intro w; go_simp; try with_reducible rfl); (simp only [Act.put, List.setIfInBounds_toArray, List.set_cons_zero, List.set_cons_succ]))
      (refine regP 1 hS (fun _ h => h) rfl (by kernel_rfl) (by kernel_rfl) (by kernel_rfl) (fun _ _ _ _ h => h) (by rfl) (by rfl) ?_; apply Exists.intro; apply And.intro; (intro w; go_simp; try with_reducible rfl); (simp only [Act.put, List.setIfInBounds_toArray, List.set_cons_zero, List.set_cons_succ]))
      (refine regP 2 hS (fun _ h => h) rfl (by kernel_rfl) (by kernel_rfl) (by kernel_rfl) (fun _ _ _ _ h => h) (by rfl) (by rfl) ?_; apply Exists.intro; apply And.intro; (intro w; go_simp; try with_reducible rfl); (simp only [Act.put, List.setIfInBounds_toArray, List.set_cons_zero, List.set_cons_succ]))
      (refine regR 3 hS (fun _ h => h) rfl (by kernel_rfl) (by kernel_rfl) (by kernel_rfl) (by kernel_rfl) (by kernel_rfl) (fun _ _ _ _ h => h) (by rfl) (by rfl) ?_; (refine ⟨_, fun u hu => (by first | exact rLdRd1 (HR1.out u hu) _ _ (by rfl) _ (by rfl) (agOf (by rfl)) i (by omega) HX.out (by omega) | exact rLdRd1 (HR2.out u hu) _ _ (by rfl) _ (by rfl) (agOf (by rfl)) i (by omega) HX.out (by omega)), ?_⟩); (simp only [Act.put, List.setIfInBounds_toArray, List.set_cons_zero, List.set_cons_succ]))
      (refine regP 4 hS (fun _ h => h) rfl (by kernel_rfl) (by kernel_rfl) (by kernel_rfl) (fun _ _ _ _ h => h) (by rfl) (by rfl) ?_; apply Exists.intro; apply And.intro; (intro w; go_simp; try with_reducible rfl); (simp only [Act.put, List.setIfInBounds_toArray, List.set_cons_zero, List.set_cons_succ]))
      (refine regP 5 hS (fun _ h => h) rfl (by kernel_rfl) (by kernel_rfl) (by kernel_rfl) (fun _ _ _ _ h => h) (by rfl) (by rfl) ?_; apply Exists.intro; apply And.intro; (intro w; go_simp; try with_reducible rfl); (simp only [Act.put, List.setIfInBounds_toArray, List.set_cons_zero, List.set_cons_succ]))
      (refine regP 6 hS (fun _ h => h) rfl (by kernel_rfl) (by kernel_rfl) (by kernel_rfl) (fun _ _ _ _ h => h) (by rfl) (by rfl) ?_; apply Exists.intro; apply And.intro; (intro w; go_simp; try with_reducible rfl); (simp only [Act.put, List.setIfInBounds_toArray, List.set_cons_zero, List.set_cons_succ]))
      (refine regR 7 hS (fun _ h => h) rfl (by kernel_rfl) (by kernel_rfl) (by kernel_rfl) (by kernel_rfl) (by kernel_rfl) (fun _ _ _ _ h => h) (by rfl) (by rfl) ?_; (refine ⟨_, fun u hu => (by first | exact rLdRd1 (HR1.out u hu) _ _ (by rfl) _ (by rfl) (agOf (by rfl)) i (by omega) HX.out (by omega) | exact rLdRd1 (HR2.out u hu) _ _ (by rfl) _ (by rfl) (agOf (by rfl)) i (by omega) HX.out (by omega)), ?_⟩); (simp only [Act.put, List.setIfInBounds_toArray, List.set_cons_zero, List.set_cons_succ]))
      (refine regP 8 hS (fun _ h => h) rfl (by kernel_rfl) (by kernel_rfl) (by kernel_rfl) (fun _ _ _ _ h => h) (by rfl) (by rfl) ?_; apply Exists.intro; apply And.intro; (intro w; go_simp; try with_reducible rfl); (simp only [Act.put, List.setIfInBounds_toArray, List.set_cons_zero, List.set_cons_succ]))
      refine regDone (by kernel_rfl) ?_
      go_wp2
      exact ⟨⟨i + 1, by go_num, HL.out, hS⟩, by simp [intOf]; have := HL.out; omega⟩
    · have e1 : decide ((i : Int) < (l.length : Int)) = false := decide_eq_false (by omega)
      have e4 : ¬ (i : Int) < (l.length : Int) := by omega
      clear hf
      go_wp2
      go_ret
      exact ⟨rfl, hS⟩
end Go.Proofs.Ytfbphibgcolmbaa
