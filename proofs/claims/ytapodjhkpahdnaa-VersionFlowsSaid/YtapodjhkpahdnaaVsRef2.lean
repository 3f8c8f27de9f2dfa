/-
  The document's keeper: Flow, Set, Lost, Records, Copy, Need, New.
-/
import Derived.Test.YtapodjhkpahdnaaVsRef
namespace Go.Proofs.Ytapodjhkpahdnaa
open Go.RowKit Go.Sep
set_option linter.unusedSimpArgs false
set_option linter.unusedVariables false
attribute [local irreducible] Go.Oper.wp Go.wpList Go.Calls Go.Code.wp Go.Sep.Reg
attribute [local irreducible] IsR
set_option maxRecDepth 20000 in
set_option maxHeartbeats 1000000 in
theorem qlost_any {W w : World} {L : List Asrt} {q h n : Nat} {K : KD} (hS : Sat W w (IsQ q h K :: IsR h K.G :: L)) (hK : K.Ok n) (hn : n ≤ 900000) (a b : Int) :
    Calls Try.prog 66 #[.pointer (some ⟨q, 0, none⟩), .int .i64 a, .int .i64 b] w fun e w' => e = .returned (.int .i64 (lostE K.G a b)) ∧ Sat W w' (IsQ q h (K.lost a b) :: IsR h (K.lost a b).G :: L) := by
  have hr := hK.r
  have HL := Lib.hid (fun w (L : List Asrt) (h2 : Sat W w (IsR h K.G :: L)) => rlost_any h2 a b (by have := hK.g.len; omega))
  clear hK
  obtain ⟨v, hO⟩ := IsQ.open hS
  clear hS
  have hS := hO
  clear hO
  obtain ⟨E, hE⟩ : ∃ E, lostE K.G a b = E := ⟨_, rfl⟩
  obtain ⟨G2, hG2⟩ : ∃ G2, K.G.lostG a b = G2 := ⟨_, rfl⟩
  rw [hE, hG2] at HL
  rw [hE]
  by_cases h0 : E = 0
  · subst h0
    have HB := Lib.hid (show K.lost a b = ⟨G2, K.R ++ [⟨5, a, b⟩]⟩ by unfold KD.lost; rw [if_pos hE]; simp [KD.says, hG2])
    rw [HB.out]
    clear hE hG2
    go_enter Try.func66, Try.ntmps66
    go_wp2_with (first
      | (refine toList (by rfl) ?_; refine ld hS _ _ (by rfl) _ _ (by rfl) (agOf (by rfl)) (by first | exact Has.z | exact Has.s Has.z | exact Has.s (Has.s Has.z) | exact Has.s (Has.s (Has.s Has.z)) | exact Has.s (Has.s (Has.s (Has.s Has.z))) | exact Has.s (Has.s (Has.s (Has.s (Has.s Has.z))))) (by rfl) ?_)
      | (go_at_call 56; refine (HL.out _ _ (hS.re [1])).mono ?_; rintro e w1 ⟨rfl, hS1⟩; clear hS; have hS := hS1; clear hS1; replace hS := hS.re [1, 2, 0])
      | (refine toList (by rfl) ?_; refine bsF hS _ _ _ (by rfl) (elOf (by rfl)) [.agg (rv (⟨5, a, b⟩ : RecD)).toArray] (by rfl) (by rfl) (by decide) (by decide) (by intro v hv; rw [List.mem_singleton.1 hv]; rfl) ?_; intro b1 w1 hS1; clear hS; have hS := hS1; clear hS1; rw [agg1] at hS)
      | (refine toList (by rfl) ?_; refine apTbS (f := rv) hS _ _ _ _ (by rfl) _ _ (by rfl) (by rfl) (elOf (by rfl)) (by rfl) (by decide) (inOf (by rfl)) (by first | exact Has.z | exact Has.s Has.z | exact Has.s (Has.s Has.z) | exact Has.s (Has.s (Has.s Has.z)) | exact Has.s (Has.s (Has.s (Has.s Has.z))) | exact Has.s (Has.s (Has.s (Has.s (Has.s Has.z))))) [(⟨5, a, b⟩ : RecD)] (by exact rv_len _) (by exact hS.src1 (f := rv) Has.z rfl) (by exact rv_one _) (by simp; omega) (by simp; omega) ?_; intro ao5 c5 w1 hcap5 hS1; clear hS; have hS := hS1; clear hS1; dsimp only [List.set_cons_zero, List.set_cons_succ] at hS)
      | (refine toList (by rfl) ?_; refine st hS _ _ _ (by rfl) _ _ (by rfl) _ (by first | exact evC | exact evT (by rfl)) (by rfl) (szOf (by rfl)) (by first | exact Has.z | exact Has.s Has.z | exact Has.s (Has.s Has.z) | exact Has.s (Has.s (Has.s Has.z)) | exact Has.s (Has.s (Has.s (Has.s Has.z))) | exact Has.s (Has.s (Has.s (Has.s (Has.s Has.z))))) (by exact Nat.le_of_ble_eq_true rfl) ?_; intro w1 hS1; clear hS; have hS := hS1; clear hS1; dsimp only [List.set] at hS))
    go_ret
    have h9 := hS.drop
    rw [List.length_append] at h9
    exact ⟨rfl, IsQ.mk (K := ⟨G2, K.R ++ [⟨5, a, b⟩]⟩) (h9.re [0, 2, 1])⟩
  · have HB := Lib.hid (show K.lost a b = K by unfold KD.lost; rw [if_neg (by rw [hE]; exact h0)])
    have HG := Lib.hid (show G2 = K.G by
      rw [← hG2]; unfold Gr.lostG
      rw [if_neg]
      intro h
      apply h0
      rw [← hE]; unfold lostE; rw [if_pos h])
    have e0 : (E == 0) = false := beq_eq_false_iff_ne.2 h0
    rw [HG.out] at HL
    rw [HB.out]
    clear hE hG2 h0
    go_enter Try.func66, Try.ntmps66
    go_wp2_with (first
      | (refine toList (by rfl) ?_; refine ld hS _ _ (by rfl) _ _ (by rfl) (agOf (by rfl)) (by first | exact Has.z | exact Has.s Has.z | exact Has.s (Has.s Has.z) | exact Has.s (Has.s (Has.s Has.z)) | exact Has.s (Has.s (Has.s (Has.s Has.z))) | exact Has.s (Has.s (Has.s (Has.s (Has.s Has.z))))) (by rfl) ?_)
      | (go_at_call 56; refine (HL.out _ _ (hS.re [1])).mono ?_; rintro e w1 ⟨rfl, hS1⟩; clear hS; have hS := hS1; clear hS1; replace hS := hS.pull1))
    go_ret
    exact ⟨rfl, IsQ.mk hS⟩
theorem qrecords_any {W w : World} {L : List Asrt} {q h : Nat} {K : KD} (hS : Sat W w (IsQ q h K :: IsR h K.G :: L)) :
    Calls Try.prog 64 #[.pointer (some ⟨q, 0, none⟩)] w fun e w' => ∃ v, e = .returned v ∧ Sat W w' (Tb 53 3 rv v K.R :: IsQ q h K.clean :: IsR h K.G :: L) := by
  obtain ⟨v, hO⟩ := IsQ.open hS
  clear hS
  have hS := hO
  clear hO
  go_enter Try.func64, Try.ntmps64
  go_wp2_with (first
    | (refine toList (by rfl) ?_; refine ld hS _ _ (by rfl) _ _ (by rfl) (agOf (by rfl)) (by first | exact Has.z | exact Has.s Has.z | exact Has.s (Has.s Has.z) | exact Has.s (Has.s (Has.s Has.z)) | exact Has.s (Has.s (Has.s (Has.s Has.z))) | exact Has.s (Has.s (Has.s (Has.s (Has.s Has.z))))) (by rfl) ?_)
    | (refine toList (by rfl) ?_; refine st hS _ _ _ (by rfl) _ _ (by rfl) _ (by first | exact evC | exact evT (by rfl)) (by rfl) (szOf (by rfl)) (by first | exact Has.z | exact Has.s Has.z | exact Has.s (Has.s Has.z) | exact Has.s (Has.s (Has.s Has.z)) | exact Has.s (Has.s (Has.s (Has.s Has.z))) | exact Has.s (Has.s (Has.s (Has.s (Has.s Has.z))))) (by exact Nat.le_of_ble_eq_true rfl) ?_; intro w1 hS1; clear hS; have hS := hS1; clear hS1; dsimp only [List.set] at hS))
  go_ret
  have h1 := (hS.re [2]).tbNil (α := RecD) (f := rv) (E := 53) (sz := 3)
  exact ⟨v, rfl, (IsQ.mk (K := K.clean) (h1.re [2, 3, 0])).re [2]⟩
theorem qnew_any {W w : World} {L : List Asrt} (hS : Sat W w L) : Calls Try.prog 28 #[] w fun e w' => ∃ q h, e = .returned (.pointer (some ⟨q, 0, none⟩)) ∧ Sat W w' (IsQ q h KD.new :: IsR h Gr.new :: L) := by
  go_enter Try.func28, Try.ntmps28
  go_wp2_with (first
    | (refine toList (by rfl) ?_; refine bx hS _ _ (by rfl) _ (by first | exact evC | exact evT (by rfl)) ?_; intro x w1 hS1; clear hS; have hS := hS1; clear hS1; rw [cells_agg] at hS))
  go_ret
  have h1 := ((hS.tbNil (α := Nat × Nat) (f := ev) (E := 85) (sz := 2)).tbNil (α := NodeD) (f := nv) (E := 32) (sz := 6))
  have h2 := IsR.mk (G := Gr.new) (h1.re [3, 0, 1])
  have h3 := h2.tbNil (α := RecD) (f := rv) (E := 53) (sz := 3)
  exact ⟨_, rfl, _, IsQ.mk (K := KD.new) (h3.re [2, 1, 0])⟩
set_option maxRecDepth 20000 in
set_option maxHeartbeats 1000000 in
theorem rcopy_any {W w : World} {L : List Asrt} {p : Nat} {G : Gr} (hS : Sat W w (IsR p G :: L)) (hG : G.Ok) :
    Calls Try.prog 113 #[.pointer (some ⟨p, 0, none⟩)] w fun e w' => ∃ p', e = .returned (.pointer (some ⟨p', 0, none⟩)) ∧ Sat W w' (IsR p' G :: IsR p G :: L) := by
  obtain ⟨an, cn, ae, ce, hcn, hce, hO⟩ := IsR.open hS
  clear hS
  have hS := hO
  clear hO
  have hnl := hG.len
  have hel := hG.edges
  go_enter Try.func113, Try.ntmps113
  go_wp2
  refine regStart2 [9, 11] hS (fun _ h => h.one Has.z) (by kernel_rfl) rfl ?_
  intro w1 hS1
  clear hS; have hS := hS1; clear hS1
  (refine regP 0 hS (fun _ h => h.one Has.z) rfl (by kernel_rfl) (by kernel_rfl) (by kernel_rfl) (fun _ _ _ _ h => h) (by rfl) (by rfl) ?_; apply Exists.intro; apply And.intro; (intro w; go_simp; try with_reducible rfl); (simp only [Act.put, List.setIfInBounds_toArray, List.set_cons_zero, List.set_cons_succ]))
  (refine regP 1 hS (fun _ h => h.one Has.z) rfl (by kernel_rfl) (by kernel_rfl) (by kernel_rfl) (fun _ _ _ _ h => h) (by rfl) (by rfl) ?_; apply Exists.intro; apply And.intro; (intro w; go_simp; try with_reducible rfl); (simp only [Act.put, List.setIfInBounds_toArray, List.set_cons_zero, List.set_cons_succ]))
  (refine regP 2 hS (fun _ h => h.one Has.z) rfl (by kernel_rfl) (by kernel_rfl) (by kernel_rfl) (fun _ _ _ _ h => h) (by rfl) (by rfl) ?_; apply Exists.intro; apply And.intro; (intro w; go_simp; try with_reducible rfl); (simp only [Act.put, List.setIfInBounds_toArray, List.set_cons_zero, List.set_cons_succ]))
  (refine regR 3 hS (fun _ h => h.one Has.z) rfl (by kernel_rfl) (by kernel_rfl) (by kernel_rfl) (by kernel_rfl) (by kernel_rfl) (fun _ _ _ _ h => h) (by rfl) (by rfl) ?_; (first
          | refine ⟨_, yLd _ _ (by rfl) _ _ (by rfl) (agOf (by rfl)) (by first | exact Has.z | exact Has.s Has.z | exact Has.s (Has.s Has.z) | exact Has.s (Has.s (Has.s Has.z)) | exact Has.s (Has.s (Has.s (Has.s Has.z))) | exact Has.s (Has.s (Has.s (Has.s (Has.s Has.z))))) (by rfl), ?_⟩); (simp only [Act.put, List.setIfInBounds_toArray, List.set_cons_zero, List.set_cons_succ]))
  (refine regP 5 hS (fun _ h => h.one Has.z) rfl (by kernel_rfl) (by kernel_rfl) (by kernel_rfl) (fun _ _ _ _ h => h) (by rfl) (by rfl) ?_; apply Exists.intro; apply And.intro; (intro w; go_simp; try with_reducible rfl); (simp only [Act.put, List.setIfInBounds_toArray, List.set_cons_zero, List.set_cons_succ]))
  (refine regP 6 hS (fun _ h => h.one Has.z) rfl (by kernel_rfl) (by kernel_rfl) (by kernel_rfl) (fun _ _ _ _ h => h) (by rfl) (by rfl) ?_; apply Exists.intro; apply And.intro; (intro w; go_simp; try with_reducible rfl); (simp only [Act.put, List.setIfInBounds_toArray, List.set_cons_zero, List.set_cons_succ]))
  (refine regP 7 hS (fun _ h => h.one Has.z) rfl (by kernel_rfl) (by kernel_rfl) (by kernel_rfl) (fun _ _ _ _ h => h) (by rfl) (by rfl) ?_; apply Exists.intro; apply And.intro; (intro w; go_simp; try with_reducible rfl); (simp only [Act.put, List.setIfInBounds_toArray, List.set_cons_zero, List.set_cons_succ]))
  (refine regR 8 hS (fun _ h => h.one Has.z) rfl (by kernel_rfl) (by kernel_rfl) (by kernel_rfl) (by kernel_rfl) (by kernel_rfl) (fun _ _ _ _ h => h) (by rfl) (by rfl) ?_; (first
          | refine ⟨_, yLd _ _ (by rfl) _ _ (by rfl) (agOf (by rfl)) (by first | exact Has.z | exact Has.s Has.z | exact Has.s (Has.s Has.z) | exact Has.s (Has.s (Has.s Has.z)) | exact Has.s (Has.s (Has.s (Has.s Has.z))) | exact Has.s (Has.s (Has.s (Has.s (Has.s Has.z))))) (by rfl), ?_⟩); (simp only [Act.put, List.setIfInBounds_toArray, List.set_cons_zero, List.set_cons_succ]))
  (refine regA 4 rfl (by kernel_rfl) (by rfl) (by rfl) false (by kernel_rfl) (fun K hK => ?_); (first
          | (refine apTbS (f := nv) (xs := []) (hS.tbNil (E := 32) (sz := 6)) _ _ _ _ (by rfl) _ _ (by rfl) (by rfl) (elOf (by rfl)) (by rfl) (by decide) (inOf (by rfl)) Has.z G.N (nv_len _) (by exact .inl (hS.tbRd (f := nv) (by first | exact Has.z | exact Has.s Has.z | exact Has.s (Has.s Has.z) | exact Has.s (Has.s (Has.s Has.z)) | exact Has.s (Has.s (Has.s (Has.s Has.z))) | exact Has.s (Has.s (Has.s (Has.s (Has.s Has.z))))))) (nv_one _) (by simp; omega) (by simp; omega) ?_; intro ao5 c5 w1 hcap5 hS1; clear hS; have hS := hS1; clear hS1; dsimp only [List.set_cons_zero, List.nil_append] at hS)
          | (refine apTbS (f := ev) (xs := []) (hS.tbNil (E := 85) (sz := 2)) _ _ _ _ (by rfl) _ _ (by rfl) (by rfl) (elOf (by rfl)) (by rfl) (by decide) (inOf (by rfl)) Has.z G.E (ev_len _) (by exact .inl (hS.tbRd (f := ev) (by first | exact Has.z | exact Has.s Has.z | exact Has.s (Has.s Has.z) | exact Has.s (Has.s (Has.s Has.z)) | exact Has.s (Has.s (Has.s (Has.s Has.z))) | exact Has.s (Has.s (Has.s (Has.s (Has.s Has.z))))))) (ev_one _) (by simp; omega) (by simp; omega) ?_; intro ao6 c6 w1 hcap6 hS1; clear hS; have hS := hS1; clear hS1; dsimp only [List.set_cons_zero, List.nil_append] at hS)
          | (refine bx hS _ _ (by rfl) _ (by first | exact evC | exact evT (by rfl)) ?_; intro p2 w1 hS1; clear hS; have hS := hS1; clear hS1; rw [cells_agg] at hS)); refine hK _ _ _ (hS.upTo (fun _ h => by first | exact h.one Has.z | exact h.one (Has.s Has.z) | exact h.one (Has.s (Has.s Has.z)) | exact h.one (Has.s (Has.s (Has.s Has.z))) | exact h | exact h.drop | exact h.drop.drop | exact h.drop.drop.drop | exact h.drop.drop.drop.drop)) (fun _ _ h => h) ?_; clear hK K; (simp only [Act.put, List.setIfInBounds_toArray, List.set_cons_zero, List.set_cons_succ]))
  (refine regA 9 rfl (by kernel_rfl) (by rfl) (by rfl) true (by kernel_rfl) (fun K hK => ?_); (first
          | (refine apTbS (f := nv) (xs := []) (hS.tbNil (E := 32) (sz := 6)) _ _ _ _ (by rfl) _ _ (by rfl) (by rfl) (elOf (by rfl)) (by rfl) (by decide) (inOf (by rfl)) Has.z G.N (nv_len _) (by exact .inl (hS.tbRd (f := nv) (by first | exact Has.z | exact Has.s Has.z | exact Has.s (Has.s Has.z) | exact Has.s (Has.s (Has.s Has.z)) | exact Has.s (Has.s (Has.s (Has.s Has.z))) | exact Has.s (Has.s (Has.s (Has.s (Has.s Has.z))))))) (nv_one _) (by simp; omega) (by simp; omega) ?_; intro ao5 c5 w1 hcap5 hS1; clear hS; have hS := hS1; clear hS1; dsimp only [List.set_cons_zero, List.nil_append] at hS)
          | (refine apTbS (f := ev) (xs := []) (hS.tbNil (E := 85) (sz := 2)) _ _ _ _ (by rfl) _ _ (by rfl) (by rfl) (elOf (by rfl)) (by rfl) (by decide) (inOf (by rfl)) Has.z G.E (ev_len _) (by exact .inl (hS.tbRd (f := ev) (by first | exact Has.z | exact Has.s Has.z | exact Has.s (Has.s Has.z) | exact Has.s (Has.s (Has.s Has.z)) | exact Has.s (Has.s (Has.s (Has.s Has.z))) | exact Has.s (Has.s (Has.s (Has.s (Has.s Has.z))))))) (ev_one _) (by simp; omega) (by simp; omega) ?_; intro ao6 c6 w1 hcap6 hS1; clear hS; have hS := hS1; clear hS1; dsimp only [List.set_cons_zero, List.nil_append] at hS)
          | (refine bx hS _ _ (by rfl) _ (by first | exact evC | exact evT (by rfl)) ?_; intro p2 w1 hS1; clear hS; have hS := hS1; clear hS1; rw [cells_agg] at hS)); refine hK _ _ _ hS (by first | (intro h; cases h; done) | exact fun _ _ h => h | exact fun _ _ h => h.drop | exact fun _ _ h => h.drop.drop | exact fun _ _ h => h.drop.pull1 | exact fun _ _ h => h.take2 | exact fun _ _ h => h.one Has.z | exact fun _ _ h => h.one (Has.s Has.z) | exact fun _ _ h => h.one (Has.s (Has.s Has.z))) ?_; clear hK K; (simp only [Act.put, List.setIfInBounds_toArray, List.set_cons_zero, List.set_cons_succ]))
  (refine regP 10 hS (fun _ h => h) rfl (by kernel_rfl) (by kernel_rfl) (by kernel_rfl) (fun _ _ _ _ h => h) (by rfl) (by rfl) ?_; apply Exists.intro; apply And.intro; (intro w; go_simp; try with_reducible rfl); (simp only [Act.put, List.setIfInBounds_toArray, List.set_cons_zero, List.set_cons_succ]))
  (refine regA 11 rfl (by kernel_rfl) (by rfl) (by rfl) true (by kernel_rfl) (fun K hK => ?_); (first
          | (refine apTbS (f := nv) (xs := []) (hS.tbNil (E := 32) (sz := 6)) _ _ _ _ (by rfl) _ _ (by rfl) (by rfl) (elOf (by rfl)) (by rfl) (by decide) (inOf (by rfl)) Has.z G.N (nv_len _) (by exact .inl (hS.tbRd (f := nv) (by first | exact Has.z | exact Has.s Has.z | exact Has.s (Has.s Has.z) | exact Has.s (Has.s (Has.s Has.z)) | exact Has.s (Has.s (Has.s (Has.s Has.z))) | exact Has.s (Has.s (Has.s (Has.s (Has.s Has.z))))))) (nv_one _) (by simp; omega) (by simp; omega) ?_; intro ao5 c5 w1 hcap5 hS1; clear hS; have hS := hS1; clear hS1; dsimp only [List.set_cons_zero, List.nil_append] at hS)
          | (refine apTbS (f := ev) (xs := []) (hS.tbNil (E := 85) (sz := 2)) _ _ _ _ (by rfl) _ _ (by rfl) (by rfl) (elOf (by rfl)) (by rfl) (by decide) (inOf (by rfl)) Has.z G.E (ev_len _) (by exact .inl (hS.tbRd (f := ev) (by first | exact Has.z | exact Has.s Has.z | exact Has.s (Has.s Has.z) | exact Has.s (Has.s (Has.s Has.z)) | exact Has.s (Has.s (Has.s (Has.s Has.z))) | exact Has.s (Has.s (Has.s (Has.s (Has.s Has.z))))))) (ev_one _) (by simp; omega) (by simp; omega) ?_; intro ao6 c6 w1 hcap6 hS1; clear hS; have hS := hS1; clear hS1; dsimp only [List.set_cons_zero, List.nil_append] at hS)
          | (refine bx hS _ _ (by rfl) _ (by first | exact evC | exact evT (by rfl)) ?_; intro p2 w1 hS1; clear hS; have hS := hS1; clear hS1; rw [cells_agg] at hS)); refine hK _ _ _ hS (by first | (intro h; cases h; done) | exact fun _ _ h => h | exact fun _ _ h => h.drop | exact fun _ _ h => h.drop.drop | exact fun _ _ h => h.drop.pull1 | exact fun _ _ h => h.take2 | exact fun _ _ h => h.one Has.z | exact fun _ _ h => h.one (Has.s Has.z) | exact fun _ _ h => h.one (Has.s (Has.s Has.z))) ?_; clear hK K; (simp only [Act.put, List.setIfInBounds_toArray, List.set_cons_zero, List.set_cons_succ]))
  (refine regP 12 hS (fun _ h => h) rfl (by kernel_rfl) (by kernel_rfl) (by kernel_rfl) (fun _ _ _ _ h => h) (by rfl) (by rfl) ?_; apply Exists.intro; apply And.intro; (intro w; go_simp; try with_reducible rfl); (simp only [Act.put, List.setIfInBounds_toArray, List.set_cons_zero, List.set_cons_succ]))
  refine regDone (by kernel_rfl) ?_
  go_wp2
  go_ret
  exact ⟨_, rfl, (IsR.mk ((IsR.mk (hS.re [0, 2, 1])).re [1, 2, 3])).pull1⟩
set_option maxRecDepth 20000 in
set_option maxHeartbeats 1000000 in
theorem qcopy_any {W w : World} {L : List Asrt} {q h n : Nat} {Z : KD} (hS : Sat W w (IsQ q h Z :: IsR h Z.G :: L)) (hK : Z.Ok n) (hn : n ≤ 900000) :
    Calls Try.prog 89 #[.pointer (some ⟨q, 0, none⟩)] w fun e w' => ∃ q' h', e = .returned (.pointer (some ⟨q', 0, none⟩)) ∧ Sat W w' (IsQ q' h' Z :: IsR h' Z.G :: IsQ q h Z :: IsR h Z.G :: L) := by
  have hr := hK.r
  have HC := Lib.hid (fun w (L : List Asrt) (h2 : Sat W w (IsR h Z.G :: L)) => rcopy_any h2 hK.g)
  clear hK
  obtain ⟨v, hO⟩ := IsQ.open hS
  clear hS
  obtain ⟨ao0, c0, rfl, hc0⟩ := hO.tbShape (k := 2) rfl
  have hS := hO
  clear hO
  go_enter Try.func89, Try.ntmps89
  go_wp2
  refine regStart2 [9, 11] hS (fun _ h => h.one Has.z) (by kernel_rfl) rfl ?_
  intro w1 hS1
  clear hS; have hS := hS1; clear hS1
  (refine regP 0 hS (fun _ h => h.one Has.z) rfl (by kernel_rfl) (by kernel_rfl) (by kernel_rfl) (fun _ _ _ _ h => h) (by rfl) (by rfl) ?_; apply Exists.intro; apply And.intro; (intro w; go_simp; try with_reducible rfl); (simp only [Act.put, List.setIfInBounds_toArray, List.set_cons_zero, List.set_cons_succ]))
  (refine regP 1 hS (fun _ h => h.one Has.z) rfl (by kernel_rfl) (by kernel_rfl) (by kernel_rfl) (fun _ _ _ _ h => h) (by rfl) (by rfl) ?_; apply Exists.intro; apply And.intro; (intro w; go_simp; try with_reducible rfl); (simp only [Act.put, List.setIfInBounds_toArray, List.set_cons_zero, List.set_cons_succ]))
  (refine regP 2 hS (fun _ h => h.one Has.z) rfl (by kernel_rfl) (by kernel_rfl) (by kernel_rfl) (fun _ _ _ _ h => h) (by rfl) (by rfl) ?_; apply Exists.intro; apply And.intro; (intro w; go_simp; try with_reducible rfl); (simp only [Act.put, List.setIfInBounds_toArray, List.set_cons_zero, List.set_cons_succ]))
  (refine regR 3 hS (fun _ h => h.one Has.z) rfl (by kernel_rfl) (by kernel_rfl) (by kernel_rfl) (by kernel_rfl) (by kernel_rfl) (fun _ _ _ _ h => h) (by rfl) (by rfl) ?_; (first
          | refine ⟨_, yLd _ _ (by rfl) _ _ (by rfl) (agOf (by rfl)) (by first | exact Has.z | exact Has.s Has.z | exact Has.s (Has.s Has.z) | exact Has.s (Has.s (Has.s Has.z)) | exact Has.s (Has.s (Has.s (Has.s Has.z))) | exact Has.s (Has.s (Has.s (Has.s (Has.s Has.z))))) (by rfl), ?_⟩); (simp only [Act.put, List.setIfInBounds_toArray, List.set_cons_zero, List.set_cons_succ]))
  (refine regP 5 hS (fun _ h => h.one Has.z) rfl (by kernel_rfl) (by kernel_rfl) (by kernel_rfl) (fun _ _ _ _ h => h) (by rfl) (by rfl) ?_; apply Exists.intro; apply And.intro; (intro w; go_simp; try with_reducible rfl); (simp only [Act.put, List.setIfInBounds_toArray, List.set_cons_zero, List.set_cons_succ]))
  (refine regP 6 hS (fun _ h => h.one Has.z) rfl (by kernel_rfl) (by kernel_rfl) (by kernel_rfl) (fun _ _ _ _ h => h) (by rfl) (by rfl) ?_; apply Exists.intro; apply And.intro; (intro w; go_simp; try with_reducible rfl); (simp only [Act.put, List.setIfInBounds_toArray, List.set_cons_zero, List.set_cons_succ]))
  (refine regP 7 hS (fun _ h => h.one Has.z) rfl (by kernel_rfl) (by kernel_rfl) (by kernel_rfl) (fun _ _ _ _ h => h) (by rfl) (by rfl) ?_; apply Exists.intro; apply And.intro; (intro w; go_simp; try with_reducible rfl); (simp only [Act.put, List.setIfInBounds_toArray, List.set_cons_zero, List.set_cons_succ]))
  (refine regR 8 hS (fun _ h => h.one Has.z) rfl (by kernel_rfl) (by kernel_rfl) (by kernel_rfl) (by kernel_rfl) (by kernel_rfl) (fun _ _ _ _ h => h) (by rfl) (by rfl) ?_; (first
          | refine ⟨_, yLd _ _ (by rfl) _ _ (by rfl) (agOf (by rfl)) (by first | exact Has.z | exact Has.s Has.z | exact Has.s (Has.s Has.z) | exact Has.s (Has.s (Has.s Has.z)) | exact Has.s (Has.s (Has.s (Has.s Has.z))) | exact Has.s (Has.s (Has.s (Has.s (Has.s Has.z))))) (by rfl), ?_⟩); (simp only [Act.put, List.setIfInBounds_toArray, List.set_cons_zero, List.set_cons_succ]))
  (refine regA 4 rfl (by kernel_rfl) (by rfl) (by rfl) false (by kernel_rfl) (fun K hK => ?_); (first
          | (refine Go.Sep.cl 113 _ _ (by rfl) (by rfl) (by kernel_rfl) (HC.out _ _ (hS.re [1])) ?_; rintro e w1 ⟨h', rfl, hS1⟩; clear hS; have hS := hS1; clear hS1; refine ⟨_, rfl, ?_⟩)
          | (refine bx hS _ _ (by rfl) _ (by first | exact evC | exact evT (by rfl)) ?_; intro p2 w1 hS1; clear hS; have hS := hS1; clear hS1; rw [cells_agg] at hS)
          | (refine apTbS (f := rv) (xs := []) (hS.tbNil (E := 53) (sz := 3)) _ _ _ _ (by rfl) _ _ (by rfl) (by rfl) (elOf (by rfl)) (by rfl) (by decide) (inOf (by rfl)) Has.z Z.R (rv_len _) (by exact .inl (hS.tbRd (f := rv) (by first | exact Has.z | exact Has.s Has.z | exact Has.s (Has.s Has.z) | exact Has.s (Has.s (Has.s Has.z)) | exact Has.s (Has.s (Has.s (Has.s Has.z))) | exact Has.s (Has.s (Has.s (Has.s (Has.s Has.z))))))) (rv_one _) (by simp; omega) (by simp; omega) ?_; intro ao6 c6 w1 hcap6 hS1; clear hS; have hS := hS1; clear hS1; dsimp only [List.set_cons_zero, List.nil_append] at hS)); refine hK _ _ _ (hS.upTo (fun _ h => by first | exact h.one Has.z | exact h.one (Has.s Has.z) | exact h.one (Has.s (Has.s Has.z)) | exact h.one (Has.s (Has.s (Has.s Has.z))) | exact h | exact h.drop | exact h.drop.drop | exact h.drop.drop.drop | exact h.drop.drop.drop.drop)) (fun _ _ h => h) ?_; clear hK K; (simp only [Act.put, List.setIfInBounds_toArray, List.set_cons_zero, List.set_cons_succ]))
  (refine regA 9 rfl (by kernel_rfl) (by rfl) (by rfl) true (by kernel_rfl) (fun K hK => ?_); (first
          | (refine Go.Sep.cl 113 _ _ (by rfl) (by rfl) (by kernel_rfl) (HC.out _ _ (hS.re [1])) ?_; rintro e w1 ⟨h', rfl, hS1⟩; clear hS; have hS := hS1; clear hS1; refine ⟨_, rfl, ?_⟩)
          | (refine bx hS _ _ (by rfl) _ (by first | exact evC | exact evT (by rfl)) ?_; intro p2 w1 hS1; clear hS; have hS := hS1; clear hS1; rw [cells_agg] at hS)
          | (refine apTbS (f := rv) (xs := []) (hS.tbNil (E := 53) (sz := 3)) _ _ _ _ (by rfl) _ _ (by rfl) (by rfl) (elOf (by rfl)) (by rfl) (by decide) (inOf (by rfl)) Has.z Z.R (rv_len _) (by exact .inl (hS.tbRd (f := rv) (by first | exact Has.z | exact Has.s Has.z | exact Has.s (Has.s Has.z) | exact Has.s (Has.s (Has.s Has.z)) | exact Has.s (Has.s (Has.s (Has.s Has.z))) | exact Has.s (Has.s (Has.s (Has.s (Has.s Has.z))))))) (rv_one _) (by simp; omega) (by simp; omega) ?_; intro ao6 c6 w1 hcap6 hS1; clear hS; have hS := hS1; clear hS1; dsimp only [List.set_cons_zero, List.nil_append] at hS)); refine hK _ _ _ hS (by first | (intro h; cases h; done) | exact fun _ _ h => h | exact fun _ _ h => h.drop | exact fun _ _ h => h.drop.drop | exact fun _ _ h => h.drop.pull1 | exact fun _ _ h => h.take2 | exact fun _ _ h => h.one Has.z | exact fun _ _ h => h.one (Has.s Has.z) | exact fun _ _ h => h.one (Has.s (Has.s Has.z))) ?_; clear hK K; (simp only [Act.put, List.setIfInBounds_toArray, List.set_cons_zero, List.set_cons_succ]))
  (refine regP 10 hS (fun _ h => h) rfl (by kernel_rfl) (by kernel_rfl) (by kernel_rfl) (fun _ _ _ _ h => h) (by rfl) (by rfl) ?_; apply Exists.intro; apply And.intro; (intro w; go_simp; try with_reducible rfl); (simp only [Act.put, List.setIfInBounds_toArray, List.set_cons_zero, List.set_cons_succ]))
  (refine regA 11 rfl (by kernel_rfl) (by rfl) (by rfl) true (by kernel_rfl) (fun K hK => ?_); (first
          | (refine Go.Sep.cl 113 _ _ (by rfl) (by rfl) (by kernel_rfl) (HC.out _ _ (hS.re [1])) ?_; rintro e w1 ⟨h', rfl, hS1⟩; clear hS; have hS := hS1; clear hS1; refine ⟨_, rfl, ?_⟩)
          | (refine bx hS _ _ (by rfl) _ (by first | exact evC | exact evT (by rfl)) ?_; intro p2 w1 hS1; clear hS; have hS := hS1; clear hS1; rw [cells_agg] at hS)
          | (refine apTbS (f := rv) (xs := []) (hS.tbNil (E := 53) (sz := 3)) _ _ _ _ (by rfl) _ _ (by rfl) (by rfl) (elOf (by rfl)) (by rfl) (by decide) (inOf (by rfl)) Has.z Z.R (rv_len _) (by exact .inl (hS.tbRd (f := rv) (by first | exact Has.z | exact Has.s Has.z | exact Has.s (Has.s Has.z) | exact Has.s (Has.s (Has.s Has.z)) | exact Has.s (Has.s (Has.s (Has.s Has.z))) | exact Has.s (Has.s (Has.s (Has.s (Has.s Has.z))))))) (rv_one _) (by simp; omega) (by simp; omega) ?_; intro ao6 c6 w1 hcap6 hS1; clear hS; have hS := hS1; clear hS1; dsimp only [List.set_cons_zero, List.nil_append] at hS)); refine hK _ _ _ hS (by first | (intro h; cases h; done) | exact fun _ _ h => h | exact fun _ _ h => h.drop | exact fun _ _ h => h.drop.drop | exact fun _ _ h => h.drop.pull1 | exact fun _ _ h => h.take2 | exact fun _ _ h => h.one Has.z | exact fun _ _ h => h.one (Has.s Has.z) | exact fun _ _ h => h.one (Has.s (Has.s Has.z))) ?_; clear hK K; (simp only [Act.put, List.setIfInBounds_toArray, List.set_cons_zero, List.set_cons_succ]))
  (refine regP 12 hS (fun _ h => h) rfl (by kernel_rfl) (by kernel_rfl) (by kernel_rfl) (fun _ _ _ _ h => h) (by rfl) (by rfl) ?_; apply Exists.intro; apply And.intro; (intro w; go_simp; try with_reducible rfl); (simp only [Act.put, List.setIfInBounds_toArray, List.set_cons_zero, List.set_cons_succ]))
  refine regDone (by kernel_rfl) ?_
  go_wp2
  go_ret
  exact ⟨_, rfl, _, (IsQ.mk ((IsQ.mk (hS.re [0, 2, 1])).re [3, 2, 4])).re [2, 3]⟩
theorem wrong_is' {K : KD} {a b : Int} (h : K.wrong a b = false) : K.G.is a = true ∧ K.G.is b = true ∧ a ≠ b := by
  unfold KD.wrong at h
  simp only [Bool.or_eq_false_iff, Bool.not_eq_false', decide_eq_false_iff_not] at h
  exact ⟨h.1.1, h.1.2, h.2⟩
set_option maxRecDepth 20000 in
set_option maxHeartbeats 2000000 in
theorem qflow_any {W w : World} {L : List Asrt} {q h n : Nat} {K : KD} (hS : Sat W w (IsQ q h K :: IsR h K.G :: L)) (hK : K.Ok n) (hn : n ≤ 700000) (a b : Int) :
    Calls Try.prog 68 #[.pointer (some ⟨q, 0, none⟩), .int .i64 a, .int .i64 b] w fun e w' => e = .returned (.tuple #[.int .i64 (K.flowI a b), .int .i64 (K.flowE a b)]) ∧ Sat W w' (IsQ q h (K.flow a b) :: IsR h (K.flow a b).G :: L) := by
  have HK := Lib.hid hK
  clear hK
  obtain ⟨ba, hba⟩ : ∃ ba, K.G.is a = ba := ⟨_, rfl⟩
  obtain ⟨bb, hbb⟩ : ∃ bb, K.G.is b = bb := ⟨_, rfl⟩
  have HIA := Lib.hid (fun w (L : List Asrt) (h2 : Sat W w (IsR h K.G :: L)) => is_any h2 a hba)
  have HIB := Lib.hid (fun w (L : List Asrt) (h2 : Sat W w (IsR h K.G :: L)) => is_any h2 b hbb)
  cases hw : K.wrong a b with
  | true =>
    have HF := Lib.hid (show K.flowI a b = 0 ∧ K.flowE a b = 1 ∧ K.flow a b = K by unfold KD.flowI KD.flowE KD.flow; simp only [hw, if_true]; exact ⟨trivial, trivial, trivial⟩)
    rw [HF.out.1, HF.out.2.1, HF.out.2.2]
    obtain ⟨be, hbe⟩ : ∃ be, decide (a = b) = be := ⟨_, rfl⟩
    have e1 : (a == b) = be := by rw [← hbe]; rfl
    unfold KD.wrong at hw
    rw [hba, hbb, hbe] at hw
    clear hba hbb hbe
    obtain ⟨v, hO⟩ := IsQ.open hS
    clear hS
    have hS := hO
    clear hO
    cases ba <;> cases bb <;> cases be <;> (try (cases hw; done)) <;> clear hw
    all_goals
      go_enter Try.func68, Try.ntmps68
      go_wp2_with (first
        | (go_at_call 80; refine (HIA.out _ _ (hS.re [1])).mono ?_; rintro e w1 ⟨rfl, rfl⟩)
        | (go_at_call 80; refine (HIB.out _ _ (hS.re [1])).mono ?_; rintro e w1 ⟨rfl, rfl⟩)
        | (refine toList (by rfl) ?_; refine ld hS _ _ (by rfl) _ _ (by rfl) (agOf (by rfl)) (by first | exact Has.z | exact Has.s Has.z | exact Has.s (Has.s Has.z) | exact Has.s (Has.s (Has.s Has.z)) | exact Has.s (Has.s (Has.s (Has.s Has.z))) | exact Has.s (Has.s (Has.s (Has.s (Has.s Has.z))))) (by rfl) ?_))
      go_ret2
      exact ⟨rfl, IsQ.mk hS⟩
  | false =>
    obtain ⟨ia, ib, iab⟩ := wrong_is' hw
    obtain rfl : ba = true := by rw [← hba, ia]
    obtain rfl : bb = true := by rw [← hbb, ib]
    have e1 : (a == b) = false := beq_eq_false_iff_ne.2 iab
    obtain ⟨y, rfl, hy⟩ := Gr.is_nat ib
    obtain ⟨⟨x1, x2, x3, x4, x5, x6⟩, hx2⟩ : ∃ x, K.G.N[y]? = some x := ⟨_, List.getElem?_eq_getElem hy⟩
    have hx := Gr.nodeI_at hx2
    have HX := Lib.hid hx2
    have hnl : (K.G.N.length : Int) ≤ 4096 := by have := HK.out.g.len; omega
    have hy2 : (y : Int) < (K.G.N.length : Int) := by omega
    obtain ⟨bd, hbd⟩ : ∃ bd, decide (0 < (K.G.downsI (y : Int)).length) = bd := ⟨_, rfl⟩
    have HCL := Lib.hid (fun w (L : List Asrt) (h2 : Sat W w (IsR h K.G :: L)) => rclosed_any h2 HK.out.g (y : Int) hbd)
    have hends : K.ends (y : Int) = (bd || decide (x5 ≠ 0)) := by unfold KD.ends; rw [hbd, hx]
    have HOPEN := Lib.hid (show ∀ w L, Sat W w (IsQ q h K :: IsR h K.G :: L) → ∃ v bb off cn ae ce, Sat W w (Cs q 94 [.pointer (some ⟨h, 0, none⟩), v] :: Cs h 50 [.slice (some ⟨bb, off, none⟩) K.G.N.length cn, .slice ae K.G.E.length ce] :: Tb 32 6 nv (.slice (some ⟨bb, off, none⟩) K.G.N.length cn) K.G.N :: Tb 85 2 ev (.slice ae K.G.E.length ce) K.G.E :: Tb 53 3 rv v K.R :: L) by
      intro w L h0
      obtain ⟨v, hO⟩ := IsQ.open h0
      obtain ⟨an, cn, ae, ce, hcn, hce, hO2⟩ := IsR.open (hO.re [1])
      obtain ⟨bb, off, c', hv, _⟩ := hO2.tbAddr (k := 1) rfl (by omega)
      simp only [Value.slice.injEq, true_and] at hv
      obtain ⟨rfl, rfl⟩ := hv
      exact ⟨v, bb, off, cn, ae, ce, hO2.re [3]⟩)
    obtain ⟨v, bk, off, cn, ae, ce, hO⟩ := HOPEN.out _ _ hS
    clear hS
    have hS := hO
    clear hO hba hbb hbd hx hx2 ia ib iab
    cases he : K.ends (y : Int) with
    | false =>
      rw [he] at hends
      obtain rfl : bd = false := by cases bd with | false => rfl | true => simp at hends
      obtain rfl : x5 = 0 := by simpa using hends.symm
      have HF := Lib.hid (show K.flowI a y = y ∧ K.flowE a y = 0 ∧ K.flow a y = K.edge y a by unfold KD.flowI KD.flowE KD.flow; rw [hw, he]; exact ⟨rfl, rfl, rfl⟩)
      have HEDGE := Lib.hid (fun w (L : List Asrt) (h2 : Sat W w (IsQ q h K :: IsR h K.G :: L)) => qedge_any h2 HK.out (by omega) (y : Int) a)
      rw [HF.out.1, HF.out.2.1, HF.out.2.2]
      clear hw he hends hy
      obtain ⟨K2, hK2⟩ : ∃ K2, K.edge (y : Int) a = K2 := ⟨_, rfl⟩
      rw [hK2] at HEDGE ⊢
      clear hK2
      go_enter Try.func68, Try.ntmps68
      go_wp2_with (first
        | (go_at_call 80; refine (HIA.out _ _ (IsR.mk (hS.re [1, 2, 3]))).mono ?_; rintro e w1 ⟨rfl, rfl⟩)
        | (go_at_call 80; refine (HIB.out _ _ (IsR.mk (hS.re [1, 2, 3]))).mono ?_; rintro e w1 ⟨rfl, rfl⟩)
        | (go_at_call 90; refine (HCL.out _ _ (IsR.mk (hS.re [1, 2, 3]))).mono ?_; rintro e w1 ⟨rfl, rfl⟩)
        | (refine toList (by rfl) ?_; refine ld hS _ _ (by rfl) _ _ (by rfl) (agOf (by rfl)) (by first | exact Has.z | exact Has.s Has.z | exact Has.s (Has.s Has.z) | exact Has.s (Has.s (Has.s Has.z)) | exact Has.s (Has.s (Has.s (Has.s Has.z))) | exact Has.s (Has.s (Has.s (Has.s (Has.s Has.z))))) (by rfl) ?_)
        | (refine toList (by rfl) ?_; refine ldTb hS _ _ (by rfl) _ _ (by rfl) (agOf (by rfl)) (Has.s (Has.s Has.z)) y 4 (by omega) HX.out (by rfl) ?_)
        | (go_at_call 91; refine (HEDGE.out _ _ (IsQ.mk ((IsR.mk (hS.re [1, 2, 3])).re [1]))).mono ?_; rintro e w1 ⟨rfl, hS1⟩; clear hS; have hS := hS1; clear hS1))
      go_ret2
      exact ⟨rfl, hS⟩
    | true =>
      have HNX := Lib.hid (fun w (L : List Asrt) (h2 : Sat W w (IsQ q h K :: IsR h K.G :: L)) => qopened_any h2 HK.out (by omega) (wrong_is' hw).2.1)
      have HENDS := Lib.hid (show bd = false → ((x5 : Int) != 0) = true by
        intro hb
        rw [he, hb] at hends
        simp at hends ⊢
        omega)
      obtain ⟨E, hE⟩ : ∃ E, K.nextE (y : Int) = E := ⟨_, rfl⟩
      by_cases h0 : E = 0
      · subst h0
        have HF := Lib.hid (show K.flowI a y = K.nextI y ∧ K.flowE a y = 0 ∧ K.flow a y = (K.next y).edge (K.nextI y) a by unfold KD.flowI KD.flowE KD.flow; rw [hw, he, hE]; exact ⟨rfl, rfl, rfl⟩)
        have HK1 := Lib.hid (HK.out.next (by omega) (y : Int))
        have HEDGE := Lib.hid (fun w (L : List Asrt) (h2 : Sat W w (IsQ q h (K.next y) :: IsR h (K.next y).G :: L)) => qedge_any h2 HK1.out (by omega) (K.nextI y) a)
        rw [HF.out.1, HF.out.2.1, HF.out.2.2]
        rw [hE] at HNX
        obtain ⟨K2, hK2⟩ : ∃ K2, (K.next (y : Int)).edge (K.nextI (y : Int)) a = K2 := ⟨_, rfl⟩
        rw [hK2] at HEDGE ⊢
        obtain ⟨I, hI⟩ : ∃ I, K.nextI (y : Int) = I := ⟨_, rfl⟩
        obtain ⟨K1, hK1⟩ : ∃ K1, K.next (y : Int) = K1 := ⟨_, rfl⟩
        rw [hI, hK1] at HEDGE HNX
        rw [hI]
        clear hw he hE hI hK1 hK2 HF HK1 hends hy
        cases bd
        · have e5 := HENDS.out rfl
          clear HENDS
          go_enter Try.func68, Try.ntmps68
          go_wp2_with (first
            | (go_at_call 80; refine (HIA.out _ _ (IsR.mk (hS.re [1, 2, 3]))).mono ?_; rintro e w1 ⟨rfl, rfl⟩)
            | (go_at_call 80; refine (HIB.out _ _ (IsR.mk (hS.re [1, 2, 3]))).mono ?_; rintro e w1 ⟨rfl, rfl⟩)
            | (go_at_call 90; refine (HCL.out _ _ (IsR.mk (hS.re [1, 2, 3]))).mono ?_; rintro e w1 ⟨rfl, rfl⟩)
            | (refine toList (by rfl) ?_; refine ld hS _ _ (by rfl) _ _ (by rfl) (agOf (by rfl)) (by first | exact Has.z | exact Has.s Has.z | exact Has.s (Has.s Has.z) | exact Has.s (Has.s (Has.s Has.z)) | exact Has.s (Has.s (Has.s (Has.s Has.z))) | exact Has.s (Has.s (Has.s (Has.s (Has.s Has.z))))) (by rfl) ?_)
            | (refine toList (by rfl) ?_; refine ldTb hS _ _ (by rfl) _ _ (by rfl) (agOf (by rfl)) (Has.s (Has.s Has.z)) y 4 (by omega) HX.out (by rfl) ?_)
            | (go_at_call 88; refine (HNX.out _ _ (IsQ.mk ((IsR.mk (hS.re [1, 2, 3])).re [1]))).mono ?_; rintro e w1 ⟨rfl, hS1⟩; clear hS; have hS := hS1; clear hS1)
            | (go_at_call 91; refine (HEDGE.out _ _ hS).mono ?_; rintro e w1 ⟨rfl, hS1⟩; clear hS; have hS := hS1; clear hS1))
          go_ret2
          exact ⟨rfl, hS⟩
        · clear HENDS
          go_enter Try.func68, Try.ntmps68
          go_wp2_with (first
            | (go_at_call 80; refine (HIA.out _ _ (IsR.mk (hS.re [1, 2, 3]))).mono ?_; rintro e w1 ⟨rfl, rfl⟩)
            | (go_at_call 80; refine (HIB.out _ _ (IsR.mk (hS.re [1, 2, 3]))).mono ?_; rintro e w1 ⟨rfl, rfl⟩)
            | (go_at_call 90; refine (HCL.out _ _ (IsR.mk (hS.re [1, 2, 3]))).mono ?_; rintro e w1 ⟨rfl, rfl⟩)
            | (refine toList (by rfl) ?_; refine ld hS _ _ (by rfl) _ _ (by rfl) (agOf (by rfl)) (by first | exact Has.z | exact Has.s Has.z | exact Has.s (Has.s Has.z) | exact Has.s (Has.s (Has.s Has.z)) | exact Has.s (Has.s (Has.s (Has.s Has.z))) | exact Has.s (Has.s (Has.s (Has.s (Has.s Has.z))))) (by rfl) ?_)
            | (go_at_call 88; refine (HNX.out _ _ (IsQ.mk ((IsR.mk (hS.re [1, 2, 3])).re [1]))).mono ?_; rintro e w1 ⟨rfl, hS1⟩; clear hS; have hS := hS1; clear hS1)
            | (go_at_call 91; refine (HEDGE.out _ _ hS).mono ?_; rintro e w1 ⟨rfl, hS1⟩; clear hS; have hS := hS1; clear hS1))
          go_ret2
          exact ⟨rfl, hS⟩
      · have HF := Lib.hid (show K.flowI a y = 0 ∧ K.flowE a y = E ∧ K.flow a y = K by unfold KD.flowI KD.flowE KD.flow; rw [hw, he, hE, if_neg h0, if_neg h0]; exact ⟨rfl, rfl, rfl⟩)
        have HXK := Lib.hid (show K.next (y : Int) = K by unfold KD.next; rw [if_neg (by rw [hE]; exact h0)])
        have e2 : (E != 0) = true := by simp [h0]
        rw [HF.out.1, HF.out.2.1, HF.out.2.2]
        rw [hE, HXK.out] at HNX
        obtain ⟨I, hI⟩ : ∃ I, K.nextI (y : Int) = I := ⟨_, rfl⟩
        rw [hI] at HNX
        clear hw he hE h0 hI HF hends hy
        cases bd
        · have e5 := HENDS.out rfl
          clear HENDS
          go_enter Try.func68, Try.ntmps68
          go_wp2_with (first
            | (go_at_call 80; refine (HIA.out _ _ (IsR.mk (hS.re [1, 2, 3]))).mono ?_; rintro e w1 ⟨rfl, rfl⟩)
            | (go_at_call 80; refine (HIB.out _ _ (IsR.mk (hS.re [1, 2, 3]))).mono ?_; rintro e w1 ⟨rfl, rfl⟩)
            | (go_at_call 90; refine (HCL.out _ _ (IsR.mk (hS.re [1, 2, 3]))).mono ?_; rintro e w1 ⟨rfl, rfl⟩)
            | (refine toList (by rfl) ?_; refine ld hS _ _ (by rfl) _ _ (by rfl) (agOf (by rfl)) (by first | exact Has.z | exact Has.s Has.z | exact Has.s (Has.s Has.z) | exact Has.s (Has.s (Has.s Has.z)) | exact Has.s (Has.s (Has.s (Has.s Has.z))) | exact Has.s (Has.s (Has.s (Has.s (Has.s Has.z))))) (by rfl) ?_)
            | (refine toList (by rfl) ?_; refine ldTb hS _ _ (by rfl) _ _ (by rfl) (agOf (by rfl)) (Has.s (Has.s Has.z)) y 4 (by omega) HX.out (by rfl) ?_)
            | (go_at_call 88; refine (HNX.out _ _ (IsQ.mk ((IsR.mk (hS.re [1, 2, 3])).re [1]))).mono ?_; rintro e w1 ⟨rfl, hS1⟩; clear hS; have hS := hS1; clear hS1))
          go_ret2
          exact ⟨rfl, hS⟩
        · clear HENDS
          go_enter Try.func68, Try.ntmps68
          go_wp2_with (first
            | (go_at_call 80; refine (HIA.out _ _ (IsR.mk (hS.re [1, 2, 3]))).mono ?_; rintro e w1 ⟨rfl, rfl⟩)
            | (go_at_call 80; refine (HIB.out _ _ (IsR.mk (hS.re [1, 2, 3]))).mono ?_; rintro e w1 ⟨rfl, rfl⟩)
            | (go_at_call 90; refine (HCL.out _ _ (IsR.mk (hS.re [1, 2, 3]))).mono ?_; rintro e w1 ⟨rfl, rfl⟩)
            | (refine toList (by rfl) ?_; refine ld hS _ _ (by rfl) _ _ (by rfl) (agOf (by rfl)) (by first | exact Has.z | exact Has.s Has.z | exact Has.s (Has.s Has.z) | exact Has.s (Has.s (Has.s Has.z)) | exact Has.s (Has.s (Has.s (Has.s Has.z))) | exact Has.s (Has.s (Has.s (Has.s (Has.s Has.z))))) (by rfl) ?_)
            | (go_at_call 88; refine (HNX.out _ _ (IsQ.mk ((IsR.mk (hS.re [1, 2, 3])).re [1]))).mono ?_; rintro e w1 ⟨rfl, hS1⟩; clear hS; have hS := hS1; clear hS1))
          go_ret2
          exact ⟨rfl, hS⟩
end Go.Proofs.Ytapodjhkpahdnaa
