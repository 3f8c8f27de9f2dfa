/-
  The document's keeper (package pedigreeref17).
-/
import Derived.Test.YtapodjhkpahdnaaVsPlain
import Derived.Test.YtapodjhkpahdnaaGrRefR
import Derived.Test.YtapodjhkpahdnaaSepRegD
namespace Go.Proofs.Ytapodjhkpahdnaa
open Go.RowKit Go.Sep
set_option linter.unusedSimpArgs false
set_option linter.unusedVariables false
attribute [local irreducible] Go.Oper.wp Go.wpList Go.Calls Go.Code.wp Go.Sep.Reg
attribute [local irreducible] IsR
/-- The document's keeper without its graph: where that is, its records. -/
def IsQ (q h : Nat) (K : KD) : Asrt := Ex fun v : Value => St [Cs q 94 [.pointer (some ⟨h, 0, none⟩), v], Tb 53 3 rv v K.R]
theorem IsQ.open {W w : World} {L : List Asrt} {q h : Nat} {K : KD} (hS : Sat W w (IsQ q h K :: IsR h K.G :: L)) : ∃ v, Sat W w (Cs q 94 [.pointer (some ⟨h, 0, none⟩), v] :: IsR h K.G :: Tb 53 3 rv v K.R :: L) := by
  obtain ⟨v, h2⟩ := hS.ex
  have h3 : Sat W w (Cs q 94 [.pointer (some ⟨h, 0, none⟩), v] :: Tb 53 3 rv v K.R :: IsR h K.G :: L) := h2.open
  exact ⟨v, h3.re [0, 2, 1]⟩
theorem IsQ.mk {W w : World} {L : List Asrt} {q h : Nat} {K : KD} {v : Value} (hS : Sat W w (Cs q 94 [.pointer (some ⟨h, 0, none⟩), v] :: IsR h K.G :: Tb 53 3 rv v K.R :: L)) : Sat W w (IsQ q h K :: IsR h K.G :: L) :=
  Sat.mkEx v (Sat.mkSt (hS.re [0, 2, 1]))
theorem take_len (l : List RecD) (m : List RecD) : l.length + m.length = (l ++ m).length := (List.length_append ..).symm
set_option maxRecDepth 20000 in
set_option maxHeartbeats 1000000 in
theorem qborn_any {W w : World} {L : List Asrt} {q h n : Nat} {K : KD} (hS : Sat W w (IsQ q h K :: IsR h K.G :: L)) (hK : K.Ok n) (hn : n ≤ 900000) (k o : Int) :
    Calls Try.prog 59 #[.pointer (some ⟨q, 0, none⟩), .int .i64 k, .int .i64 o] w fun e w' => e = .returned (.tuple #[.int .i64 (K.G.addI k o), .int .i64 (K.G.addE k o)]) ∧ Sat W w' (IsQ q h (K.born k o) :: IsR h (K.born k o).G :: L) := by
  have HK := Lib.hid hK
  have hr := hK.r
  clear hK
  obtain ⟨v, hO⟩ := IsQ.open hS
  clear hS
  have hS := hO
  clear hO
  have HADD := Lib.hid (fun w (L : List Asrt) (h2 : Sat W w (IsR h K.G :: L)) => radd_any h2 HK.out.g k o)
  obtain ⟨E, hE⟩ : ∃ E, K.G.addE k o = E := ⟨_, rfl⟩
  obtain ⟨I, hI⟩ : ∃ I, K.G.addI k o = I := ⟨_, rfl⟩
  obtain ⟨G2, hG2⟩ : ∃ G2, K.G.addG k o = G2 := ⟨_, rfl⟩
  rw [hE, hI, hG2] at HADD
  rw [hE, hI]
  by_cases h0 : E = 0
  · subst h0
    have HB := Lib.hid (show K.born k o = ⟨G2, K.R ++ [⟨1, k, o⟩]⟩ by unfold KD.born; rw [if_pos hE]; simp [KD.says, hG2])
    rw [HB.out]
    clear hE hI hG2
    go_enter Try.func59, Try.ntmps59
    go_wp2_with (first
      | (refine toList (by rfl) ?_; refine ld hS _ _ (by rfl) _ _ (by rfl) (agOf (by rfl)) (by first | exact Has.z | exact Has.s Has.z | exact Has.s (Has.s Has.z) | exact Has.s (Has.s (Has.s Has.z)) | exact Has.s (Has.s (Has.s (Has.s Has.z))) | exact Has.s (Has.s (Has.s (Has.s (Has.s Has.z))))) (by rfl) ?_)
      | (go_at_call 52; refine (HADD.out _ _ (hS.re [1])).mono ?_; rintro e w1 ⟨rfl, hS1⟩; clear hS; have hS := hS1; clear hS1; replace hS := hS.re [1, 2, 0])
      | (refine toList (by rfl) ?_; refine bsF hS _ _ _ (by rfl) (elOf (by rfl)) [.agg (rv (⟨1, k, o⟩ : RecD)).toArray] (by rfl) (by rfl) (by decide) (by decide) (by intro v hv; rw [List.mem_singleton.1 hv]; rfl) ?_; intro b1 w1 hS1; clear hS; have hS := hS1; clear hS1; rw [agg1] at hS)
      | (refine toList (by rfl) ?_; refine apTbS (f := rv) hS _ _ _ _ (by rfl) _ _ (by rfl) (by rfl) (elOf (by rfl)) (by rfl) (by decide) (inOf (by rfl)) (by first | exact Has.z | exact Has.s Has.z | exact Has.s (Has.s Has.z) | exact Has.s (Has.s (Has.s Has.z)) | exact Has.s (Has.s (Has.s (Has.s Has.z))) | exact Has.s (Has.s (Has.s (Has.s (Has.s Has.z))))) [(⟨1, k, o⟩ : RecD)] (by exact rv_len _) (by exact hS.src1 (f := rv) Has.z rfl) (by exact rv_one _) (by simp; omega) (by simp; omega) ?_; intro ao5 c5 w1 hcap5 hS1; clear hS; have hS := hS1; clear hS1; dsimp only [List.set_cons_zero, List.set_cons_succ] at hS)
      | (refine toList (by rfl) ?_; refine st hS _ _ _ (by rfl) _ _ (by rfl) _ (by first | exact evC | exact evT (by rfl)) (by rfl) (szOf (by rfl)) (by first | exact Has.z | exact Has.s Has.z | exact Has.s (Has.s Has.z) | exact Has.s (Has.s (Has.s Has.z)) | exact Has.s (Has.s (Has.s (Has.s Has.z))) | exact Has.s (Has.s (Has.s (Has.s (Has.s Has.z))))) (by exact Nat.le_of_ble_eq_true rfl) ?_; intro w1 hS1; clear hS; have hS := hS1; clear hS1; dsimp only [List.set] at hS))
    go_ret2
    have h9 := hS.drop
    rw [List.length_append] at h9
    exact ⟨rfl, IsQ.mk (K := ⟨G2, K.R ++ [⟨1, k, o⟩]⟩) (h9.re [0, 2, 1])⟩
  · have HB := Lib.hid (show K.born k o = K by unfold KD.born; rw [if_neg (by rw [hE]; exact h0)])
    have HG := Lib.hid (show G2 = K.G by rw [← hG2]; exact addG_no (by rw [hE]; exact h0))
    have e0 : (E == 0) = false := beq_eq_false_iff_ne.2 h0
    rw [HG.out] at HADD
    rw [HB.out]
    clear hE hI hG2 h0
    go_enter Try.func59, Try.ntmps59
    go_wp2_with (first
      | (refine toList (by rfl) ?_; refine ld hS _ _ (by rfl) _ _ (by rfl) (agOf (by rfl)) (by first | exact Has.z | exact Has.s Has.z | exact Has.s (Has.s Has.z) | exact Has.s (Has.s (Has.s Has.z)) | exact Has.s (Has.s (Has.s (Has.s Has.z))) | exact Has.s (Has.s (Has.s (Has.s (Has.s Has.z))))) (by rfl) ?_)
      | (go_at_call 52; refine (HADD.out _ _ (hS.re [1])).mono ?_; rintro e w1 ⟨rfl, hS1⟩; clear hS; have hS := hS1; clear hS1; replace hS := hS.pull1))
    go_ret2
    exact ⟨rfl, IsQ.mk hS⟩
set_option maxRecDepth 20000 in
set_option maxHeartbeats 1000000 in
theorem qedge_any {W w : World} {L : List Asrt} {q h n : Nat} {K : KD} (hS : Sat W w (IsQ q h K :: IsR h K.G :: L)) (hK : K.Ok n) (hn : n ≤ 900000) (a b : Int) :
    Calls Try.prog 91 #[.pointer (some ⟨q, 0, none⟩), .int .i64 a, .int .i64 b] w fun e w' => e = .returned (.tuple #[]) ∧ Sat W w' (IsQ q h (K.edge a b) :: IsR h (K.edge a b).G :: L) := by
  have HK := Lib.hid hK
  have hr := hK.r
  have he := hK.e
  clear hK
  obtain ⟨v, hO⟩ := IsQ.open hS
  clear hS
  have hS := hO
  clear hO
  have HED := Lib.hid (fun w (L : List Asrt) (h2 : Sat W w (IsR h K.G :: L)) => redge_any h2 HK.out.g (by omega) a b)
  obtain ⟨E, hE⟩ : ∃ E, K.G.edgeE a b = E := ⟨_, rfl⟩
  obtain ⟨G2, hG2⟩ : ∃ G2, K.G.edgeG a b = G2 := ⟨_, rfl⟩
  rw [hE, hG2] at HED
  by_cases h0 : E = 0
  · subst h0
    have HB := Lib.hid (show K.edge a b = ⟨G2, K.R ++ [⟨2, a, b⟩]⟩ by unfold KD.edge; rw [if_pos hE]; simp [KD.says, hG2])
    rw [HB.out]
    clear hE hG2
    go_enter Try.func91, Try.ntmps91
    go_wp2_with (first
      | (refine toList (by rfl) ?_; refine ld hS _ _ (by rfl) _ _ (by rfl) (agOf (by rfl)) (by first | exact Has.z | exact Has.s Has.z | exact Has.s (Has.s Has.z) | exact Has.s (Has.s (Has.s Has.z)) | exact Has.s (Has.s (Has.s (Has.s Has.z))) | exact Has.s (Has.s (Has.s (Has.s (Has.s Has.z))))) (by rfl) ?_)
      | (go_at_call 53; refine (HED.out _ _ (hS.re [1])).mono ?_; rintro e w1 ⟨rfl, hS1⟩; clear hS; have hS := hS1; clear hS1; replace hS := hS.re [1, 2, 0])
      | (refine toList (by rfl) ?_; refine bsF hS _ _ _ (by rfl) (elOf (by rfl)) [.agg (rv (⟨2, a, b⟩ : RecD)).toArray] (by rfl) (by rfl) (by decide) (by decide) (by intro v hv; rw [List.mem_singleton.1 hv]; rfl) ?_; intro b1 w1 hS1; clear hS; have hS := hS1; clear hS1; rw [agg1] at hS)
      | (refine toList (by rfl) ?_; refine apTbS (f := rv) hS _ _ _ _ (by rfl) _ _ (by rfl) (by rfl) (elOf (by rfl)) (by rfl) (by decide) (inOf (by rfl)) (by first | exact Has.z | exact Has.s Has.z | exact Has.s (Has.s Has.z) | exact Has.s (Has.s (Has.s Has.z)) | exact Has.s (Has.s (Has.s (Has.s Has.z))) | exact Has.s (Has.s (Has.s (Has.s (Has.s Has.z))))) [(⟨2, a, b⟩ : RecD)] (by exact rv_len _) (by exact hS.src1 (f := rv) Has.z rfl) (by exact rv_one _) (by simp; omega) (by simp; omega) ?_; intro ao5 c5 w1 hcap5 hS1; clear hS; have hS := hS1; clear hS1; dsimp only [List.set_cons_zero, List.set_cons_succ] at hS)
      | (refine toList (by rfl) ?_; refine st hS _ _ _ (by rfl) _ _ (by rfl) _ (by first | exact evC | exact evT (by rfl)) (by rfl) (szOf (by rfl)) (by first | exact Has.z | exact Has.s Has.z | exact Has.s (Has.s Has.z) | exact Has.s (Has.s (Has.s Has.z)) | exact Has.s (Has.s (Has.s (Has.s Has.z))) | exact Has.s (Has.s (Has.s (Has.s (Has.s Has.z))))) (by exact Nat.le_of_ble_eq_true rfl) ?_; intro w1 hS1; clear hS; have hS := hS1; clear hS1; dsimp only [List.set] at hS))
    go_end0
    have h9 := hS.drop
    rw [List.length_append] at h9
    exact ⟨rfl, IsQ.mk (K := ⟨G2, K.R ++ [⟨2, a, b⟩]⟩) (h9.re [0, 2, 1])⟩
  · have HB := Lib.hid (show K.edge a b = K by unfold KD.edge; rw [if_neg (by rw [hE]; exact h0)])
    have HG := Lib.hid (show G2 = K.G by rw [← hG2]; unfold Gr.edgeG; rw [if_neg (by rw [hE]; exact h0)])
    have e0 : (E == 0) = false := beq_eq_false_iff_ne.2 h0
    rw [HG.out] at HED
    rw [HB.out]
    clear hE hG2 h0
    go_enter Try.func91, Try.ntmps91
    go_wp2_with (first
      | (refine toList (by rfl) ?_; refine ld hS _ _ (by rfl) _ _ (by rfl) (agOf (by rfl)) (by first | exact Has.z | exact Has.s Has.z | exact Has.s (Has.s Has.z) | exact Has.s (Has.s (Has.s Has.z)) | exact Has.s (Has.s (Has.s (Has.s Has.z))) | exact Has.s (Has.s (Has.s (Has.s (Has.s Has.z))))) (by rfl) ?_)
      | (go_at_call 53; refine (HED.out _ _ (hS.re [1])).mono ?_; rintro e w1 ⟨rfl, hS1⟩; clear hS; have hS := hS1; clear hS1; replace hS := hS.pull1))
    go_end0
    exact ⟨rfl, IsQ.mk hS⟩
set_option maxRecDepth 20000 in
set_option maxHeartbeats 1000000 in
theorem qopened_any {W w : World} {L : List Asrt} {q h n : Nat} {K : KD} (hS : Sat W w (IsQ q h K :: IsR h K.G :: L)) (hK : K.Ok n) (hn : n ≤ 800000) {b : Int} (hb : K.G.is b = true) :
    Calls Try.prog 88 #[.pointer (some ⟨q, 0, none⟩), .int .i64 b] w fun e w' => e = .returned (.tuple #[.int .i64 (K.nextI b), .int .i64 (K.nextE b)]) ∧ Sat W w' (IsQ q h (K.next b) :: IsR h (K.next b).G :: L) := by
  have HK := Lib.hid hK
  clear hK
  obtain ⟨y, rfl, hy⟩ := Gr.is_nat hb
  obtain ⟨⟨x1, x2, x3, x4, x5, x6⟩, hx2⟩ : ∃ x, K.G.N[y]? = some x := ⟨_, List.getElem?_eq_getElem hy⟩
  have hx := Gr.nodeI_at hx2
  obtain ⟨E, hE⟩ : ∃ E, K.nextE (y : Int) = E := ⟨_, rfl⟩
  obtain ⟨I, hI⟩ : ∃ I, K.nextI (y : Int) = I := ⟨_, rfl⟩
  have eE : K.G.addE x1 x2 = E := by rw [← hE]; unfold KD.nextE; rw [hx]
  have eI : K.G.addI x1 x2 = I := by rw [← hI]; unfold KD.nextI; rw [hx]
  have HBORN := Lib.hid (fun w (L : List Asrt) (h2 : Sat W w (IsQ q h K :: IsR h K.G :: L)) => qborn_any h2 HK.out (by omega) x1 x2)
  rw [eE, eI] at HBORN
  obtain ⟨K1, hK1⟩ : ∃ K1, K.born x1 x2 = K1 := ⟨_, rfl⟩
  have hk1 := HK.out.born x1 x2
  rw [hK1] at HBORN hk1
  have HK1 := Lib.hid hk1
  have HX := Lib.hid hx2
  have hnl : (K.G.N.length : Int) ≤ 4096 := by have := HK.out.g.len; omega
  have hy2 : (y : Int) < (K.G.N.length : Int) := by omega
  clear hk1
  obtain ⟨v, hO⟩ := IsQ.open hS
  obtain ⟨an, cn, ae, ce, hcn, hce, hO2⟩ := IsR.open (hO.re [1])
  clear hS hO
  obtain ⟨bb, off, c', hv, _⟩ := hO2.tbAddr (k := 1) rfl (by omega)
  simp only [Value.slice.injEq, true_and] at hv
  obtain ⟨rfl, rfl⟩ := hv
  have hS := hO2.re [3]
  clear hO2
  by_cases h0 : E = 0
  · subst h0
    have HNX := Lib.hid (show K.next (y : Int) = K1.edge I y by unfold KD.next; rw [if_pos hE, hI, hx, hK1])
    have HEDGE := Lib.hid (fun w (L : List Asrt) (h2 : Sat W w (IsQ q h K1 :: IsR h K1.G :: L)) => qedge_any h2 HK1.out (by omega) I y)
    rw [hE, hI, HNX.out]
    clear hE hI eE eI hx hK1 hx2 hy hb
    obtain ⟨K2, hK2⟩ : ∃ K2, K1.edge I y = K2 := ⟨_, rfl⟩
    rw [hK2] at HEDGE ⊢
    clear hK2
    go_enter Try.func88, Try.ntmps88
    go_wp2
    refine regStart [23] hS (by kernel_rfl) rfl ?_
    intro w1 hS1
    clear hS; have hS := hS1; clear hS1
    (refine regP 0 hS (fun _ h => h) rfl (by kernel_rfl) (by kernel_rfl) (by kernel_rfl) (fun _ _ _ _ h => h) (by rfl) (by rfl) ?_; apply Exists.intro; apply And.intro; (intro w; go_simp; try with_reducible rfl); (simp only [Act.put, List.setIfInBounds_toArray, List.set_cons_zero, List.set_cons_succ]))
    (refine regP 1 hS (fun _ h => h) rfl (by kernel_rfl) (by kernel_rfl) (by kernel_rfl) (fun _ _ _ _ h => h) (by rfl) (by rfl) ?_; apply Exists.intro; apply And.intro; (intro w; go_simp; try with_reducible rfl); (simp only [Act.put, List.setIfInBounds_toArray, List.set_cons_zero, List.set_cons_succ]))
    (refine regP 2 hS (fun _ h => h) rfl (by kernel_rfl) (by kernel_rfl) (by kernel_rfl) (fun _ _ _ _ h => h) (by rfl) (by rfl) ?_; apply Exists.intro; apply And.intro; (intro w; go_simp; try with_reducible rfl); (simp only [Act.put, List.setIfInBounds_toArray, List.set_cons_zero, List.set_cons_succ]))
    (refine regP 3 hS (fun _ h => h) rfl (by kernel_rfl) (by kernel_rfl) (by kernel_rfl) (fun _ _ _ _ h => h) (by rfl) (by rfl) ?_; apply Exists.intro; apply And.intro; (intro w; go_simp; try with_reducible rfl); (simp only [Act.put, List.setIfInBounds_toArray, List.set_cons_zero, List.set_cons_succ]))
    (refine regRD 4 hS (fun _ h => h) rfl (by kernel_rfl) (by kernel_rfl) (by kernel_rfl) (by kernel_rfl) (by kernel_rfl) (fun _ _ _ _ h => h) (by rfl) (by rfl) ?_; (first
                | refine ⟨_, yLd _ _ (by rfl) _ _ (by rfl) (agOf (by rfl)) (by first | exact Has.z | exact Has.s Has.z | exact Has.s (Has.s Has.z) | exact Has.s (Has.s (Has.s Has.z)) | exact Has.s (Has.s (Has.s (Has.s Has.z))) | exact Has.s (Has.s (Has.s (Has.s (Has.s Has.z))))) (by rfl), ?_⟩
                | refine ⟨.int .i64 x1, yLdTb (f := nv) (x := ⟨x1, x2, x3, x4, x5, x6⟩) _ _ (by rfl) _ _ (by rfl) (agOf (by rfl)) (by repeat (first | exact Has.z | apply Has.s)) y 0 (by omega) HX.out (by rfl), ?_⟩
                | refine ⟨.int .i64 x2, yLdTb (f := nv) (x := ⟨x1, x2, x3, x4, x5, x6⟩) _ _ (by rfl) _ _ (by rfl) (agOf (by rfl)) (by repeat (first | exact Has.z | apply Has.s)) y 1 (by omega) HX.out (by rfl), ?_⟩); (simp only [Act.put, List.setIfInBounds_toArray, List.set_cons_zero, List.set_cons_succ]))
    (refine regP 5 hS (fun _ h => h) rfl (by kernel_rfl) (by kernel_rfl) (by kernel_rfl) (fun _ _ _ _ h => h) (by rfl) (by rfl) ?_; apply Exists.intro; apply And.intro; (intro w; go_simp; try with_reducible rfl); (simp only [Act.put, List.setIfInBounds_toArray, List.set_cons_zero, List.set_cons_succ]))
    (refine regP 6 hS (fun _ h => h) rfl (by kernel_rfl) (by kernel_rfl) (by kernel_rfl) (fun _ _ _ _ h => h) (by rfl) (by rfl) ?_; apply Exists.intro; apply And.intro; (intro w; go_simp; try with_reducible rfl); (simp only [Act.put, List.setIfInBounds_toArray, List.set_cons_zero, List.set_cons_succ]))
    (refine regRD 7 hS (fun _ h => h) rfl (by kernel_rfl) (by kernel_rfl) (by kernel_rfl) (by kernel_rfl) (by kernel_rfl) (fun _ _ _ _ h => h) (by rfl) (by rfl) ?_; (first
                | refine ⟨_, yLd _ _ (by rfl) _ _ (by rfl) (agOf (by rfl)) (by first | exact Has.z | exact Has.s Has.z | exact Has.s (Has.s Has.z) | exact Has.s (Has.s (Has.s Has.z)) | exact Has.s (Has.s (Has.s (Has.s Has.z))) | exact Has.s (Has.s (Has.s (Has.s (Has.s Has.z))))) (by rfl), ?_⟩
                | refine ⟨.int .i64 x1, yLdTb (f := nv) (x := ⟨x1, x2, x3, x4, x5, x6⟩) _ _ (by rfl) _ _ (by rfl) (agOf (by rfl)) (by repeat (first | exact Has.z | apply Has.s)) y 0 (by omega) HX.out (by rfl), ?_⟩
                | refine ⟨.int .i64 x2, yLdTb (f := nv) (x := ⟨x1, x2, x3, x4, x5, x6⟩) _ _ (by rfl) _ _ (by rfl) (agOf (by rfl)) (by repeat (first | exact Has.z | apply Has.s)) y 1 (by omega) HX.out (by rfl), ?_⟩); (simp only [Act.put, List.setIfInBounds_toArray, List.set_cons_zero, List.set_cons_succ]))
    (refine regP 8 hS (fun _ h => h) rfl (by kernel_rfl) (by kernel_rfl) (by kernel_rfl) (fun _ _ _ _ h => h) (by rfl) (by rfl) ?_; apply Exists.intro; apply And.intro; (intro w; go_simp; try with_reducible rfl); (simp only [Act.put, List.setIfInBounds_toArray, List.set_cons_zero, List.set_cons_succ]))
    (refine regP 9 hS (fun _ h => h) rfl (by kernel_rfl) (by kernel_rfl) (by kernel_rfl) (fun _ _ _ _ h => h) (by rfl) (by rfl) ?_; apply Exists.intro; apply And.intro; (intro w; go_simp; try with_reducible rfl); (simp only [Act.put, List.setIfInBounds_toArray, List.set_cons_zero, List.set_cons_succ]))
    (refine regP 10 hS (fun _ h => h) rfl (by kernel_rfl) (by kernel_rfl) (by kernel_rfl) (fun _ _ _ _ h => h) (by rfl) (by rfl) ?_; apply Exists.intro; apply And.intro; (intro w; go_simp; try with_reducible rfl); (simp only [Act.put, List.setIfInBounds_toArray, List.set_cons_zero, List.set_cons_succ]))
    (refine regRD 11 hS (fun _ h => h) rfl (by kernel_rfl) (by kernel_rfl) (by kernel_rfl) (by kernel_rfl) (by kernel_rfl) (fun _ _ _ _ h => h) (by rfl) (by rfl) ?_; (first
                | refine ⟨_, yLd _ _ (by rfl) _ _ (by rfl) (agOf (by rfl)) (by first | exact Has.z | exact Has.s Has.z | exact Has.s (Has.s Has.z) | exact Has.s (Has.s (Has.s Has.z)) | exact Has.s (Has.s (Has.s (Has.s Has.z))) | exact Has.s (Has.s (Has.s (Has.s (Has.s Has.z))))) (by rfl), ?_⟩
                | refine ⟨.int .i64 x1, yLdTb (f := nv) (x := ⟨x1, x2, x3, x4, x5, x6⟩) _ _ (by rfl) _ _ (by rfl) (agOf (by rfl)) (by repeat (first | exact Has.z | apply Has.s)) y 0 (by omega) HX.out (by rfl), ?_⟩
                | refine ⟨.int .i64 x2, yLdTb (f := nv) (x := ⟨x1, x2, x3, x4, x5, x6⟩) _ _ (by rfl) _ _ (by rfl) (agOf (by rfl)) (by repeat (first | exact Has.z | apply Has.s)) y 1 (by omega) HX.out (by rfl), ?_⟩); (simp only [Act.put, List.setIfInBounds_toArray, List.set_cons_zero, List.set_cons_succ]))
    (refine regP 12 hS (fun _ h => h) rfl (by kernel_rfl) (by kernel_rfl) (by kernel_rfl) (fun _ _ _ _ h => h) (by rfl) (by rfl) ?_; apply Exists.intro; apply And.intro; (intro w; go_simp; try with_reducible rfl); (simp only [Act.put, List.setIfInBounds_toArray, List.set_cons_zero, List.set_cons_succ]))
    (refine regP 13 hS (fun _ h => h) rfl (by kernel_rfl) (by kernel_rfl) (by kernel_rfl) (fun _ _ _ _ h => h) (by rfl) (by rfl) ?_; apply Exists.intro; apply And.intro; (intro w; go_simp; try with_reducible rfl); (simp only [Act.put, List.setIfInBounds_toArray, List.set_cons_zero, List.set_cons_succ]))
    (refine regP 14 hS (fun _ h => h) rfl (by kernel_rfl) (by kernel_rfl) (by kernel_rfl) (fun _ _ _ _ h => h) (by rfl) (by rfl) ?_; apply Exists.intro; apply And.intro; (intro w; go_simp; try with_reducible rfl); (simp only [Act.put, List.setIfInBounds_toArray, List.set_cons_zero, List.set_cons_succ]))
    (refine regRD 15 hS (fun _ h => h) rfl (by kernel_rfl) (by kernel_rfl) (by kernel_rfl) (by kernel_rfl) (by kernel_rfl) (fun _ _ _ _ h => h) (by rfl) (by rfl) ?_; (first
                | refine ⟨_, yLd _ _ (by rfl) _ _ (by rfl) (agOf (by rfl)) (by first | exact Has.z | exact Has.s Has.z | exact Has.s (Has.s Has.z) | exact Has.s (Has.s (Has.s Has.z)) | exact Has.s (Has.s (Has.s (Has.s Has.z))) | exact Has.s (Has.s (Has.s (Has.s (Has.s Has.z))))) (by rfl), ?_⟩
                | refine ⟨.int .i64 x1, yLdTb (f := nv) (x := ⟨x1, x2, x3, x4, x5, x6⟩) _ _ (by rfl) _ _ (by rfl) (agOf (by rfl)) (by repeat (first | exact Has.z | apply Has.s)) y 0 (by omega) HX.out (by rfl), ?_⟩
                | refine ⟨.int .i64 x2, yLdTb (f := nv) (x := ⟨x1, x2, x3, x4, x5, x6⟩) _ _ (by rfl) _ _ (by rfl) (agOf (by rfl)) (by repeat (first | exact Has.z | apply Has.s)) y 1 (by omega) HX.out (by rfl), ?_⟩); (simp only [Act.put, List.setIfInBounds_toArray, List.set_cons_zero, List.set_cons_succ]))
    (refine regP 16 hS (fun _ h => h) rfl (by kernel_rfl) (by kernel_rfl) (by kernel_rfl) (fun _ _ _ _ h => h) (by rfl) (by rfl) ?_; apply Exists.intro; apply And.intro; (intro w; go_simp; try with_reducible rfl); (simp only [Act.put, List.setIfInBounds_toArray, List.set_cons_zero, List.set_cons_succ]))
    (refine regP 17 hS (fun _ h => h) rfl (by kernel_rfl) (by kernel_rfl) (by kernel_rfl) (fun _ _ _ _ h => h) (by rfl) (by rfl) ?_; apply Exists.intro; apply And.intro; (intro w; go_simp; try with_reducible rfl); (simp only [Act.put, List.setIfInBounds_toArray, List.set_cons_zero, List.set_cons_succ]))
    (refine regRD 18 hS (fun _ h => h) rfl (by kernel_rfl) (by kernel_rfl) (by kernel_rfl) (by kernel_rfl) (by kernel_rfl) (fun _ _ _ _ h => h) (by rfl) (by rfl) ?_; (first
                | refine ⟨_, yLd _ _ (by rfl) _ _ (by rfl) (agOf (by rfl)) (by first | exact Has.z | exact Has.s Has.z | exact Has.s (Has.s Has.z) | exact Has.s (Has.s (Has.s Has.z)) | exact Has.s (Has.s (Has.s (Has.s Has.z))) | exact Has.s (Has.s (Has.s (Has.s (Has.s Has.z))))) (by rfl), ?_⟩
                | refine ⟨.int .i64 x1, yLdTb (f := nv) (x := ⟨x1, x2, x3, x4, x5, x6⟩) _ _ (by rfl) _ _ (by rfl) (agOf (by rfl)) (by repeat (first | exact Has.z | apply Has.s)) y 0 (by omega) HX.out (by rfl), ?_⟩
                | refine ⟨.int .i64 x2, yLdTb (f := nv) (x := ⟨x1, x2, x3, x4, x5, x6⟩) _ _ (by rfl) _ _ (by rfl) (agOf (by rfl)) (by repeat (first | exact Has.z | apply Has.s)) y 1 (by omega) HX.out (by rfl), ?_⟩); (simp only [Act.put, List.setIfInBounds_toArray, List.set_cons_zero, List.set_cons_succ]))
    (refine regP 19 hS (fun _ h => h) rfl (by kernel_rfl) (by kernel_rfl) (by kernel_rfl) (fun _ _ _ _ h => h) (by rfl) (by rfl) ?_; apply Exists.intro; apply And.intro; (intro w; go_simp; try with_reducible rfl); (simp only [Act.put, List.setIfInBounds_toArray, List.set_cons_zero, List.set_cons_succ]))
    (refine regP 20 hS (fun _ h => h) rfl (by kernel_rfl) (by kernel_rfl) (by kernel_rfl) (fun _ _ _ _ h => h) (by rfl) (by rfl) ?_; apply Exists.intro; apply And.intro; (intro w; go_simp; try with_reducible rfl); (simp only [Act.put, List.setIfInBounds_toArray, List.set_cons_zero, List.set_cons_succ]))
    (refine regP 21 hS (fun _ h => h) rfl (by kernel_rfl) (by kernel_rfl) (by kernel_rfl) (fun _ _ _ _ h => h) (by rfl) (by rfl) ?_; apply Exists.intro; apply And.intro; (intro w; go_simp; try with_reducible rfl); (simp only [Act.put, List.setIfInBounds_toArray, List.set_cons_zero, List.set_cons_succ]))
    (refine regRD 22 hS (fun _ h => h) rfl (by kernel_rfl) (by kernel_rfl) (by kernel_rfl) (by kernel_rfl) (by kernel_rfl) (fun _ _ _ _ h => h) (by rfl) (by rfl) ?_; (first
                | refine ⟨_, yLd _ _ (by rfl) _ _ (by rfl) (agOf (by rfl)) (by first | exact Has.z | exact Has.s Has.z | exact Has.s (Has.s Has.z) | exact Has.s (Has.s (Has.s Has.z)) | exact Has.s (Has.s (Has.s (Has.s Has.z))) | exact Has.s (Has.s (Has.s (Has.s (Has.s Has.z))))) (by rfl), ?_⟩
                | refine ⟨.int .i64 x1, yLdTb (f := nv) (x := ⟨x1, x2, x3, x4, x5, x6⟩) _ _ (by rfl) _ _ (by rfl) (agOf (by rfl)) (by repeat (first | exact Has.z | apply Has.s)) y 0 (by omega) HX.out (by rfl), ?_⟩
                | refine ⟨.int .i64 x2, yLdTb (f := nv) (x := ⟨x1, x2, x3, x4, x5, x6⟩) _ _ (by rfl) _ _ (by rfl) (agOf (by rfl)) (by repeat (first | exact Has.z | apply Has.s)) y 1 (by omega) HX.out (by rfl), ?_⟩); (simp only [Act.put, List.setIfInBounds_toArray, List.set_cons_zero, List.set_cons_succ]))
    (refine regA 23 rfl (by kernel_rfl) (by rfl) (by rfl) true (by kernel_rfl) (fun K hK => ?_); (refine Go.Sep.cl 59 _ _ (by rfl) (by rfl) (by kernel_rfl) (HBORN.out _ _ (IsQ.mk ((IsR.mk (hS.re [1, 2, 3])).re [1]))) ?_; rintro e w1 ⟨rfl, hS1⟩; clear hS; have hS := hS1; clear hS1; refine ⟨_, rfl, ?_⟩); refine hK _ _ _ hS (by first | (intro h; cases h; done) | exact fun _ _ h => h | exact fun _ _ h => h.drop | exact fun _ _ h => h.drop.drop | exact fun _ _ h => h.drop.pull1 | exact fun _ _ h => h.take2 | exact fun _ _ h => h.one Has.z | exact fun _ _ h => h.one (Has.s Has.z) | exact fun _ _ h => h.one (Has.s (Has.s Has.z))) ?_; clear hK K; (simp only [Act.put, List.setIfInBounds_toArray, List.set_cons_zero, List.set_cons_succ]))
    (refine regP 24 hS (fun _ h => h) rfl (by kernel_rfl) (by kernel_rfl) (by kernel_rfl) (fun _ _ _ _ h => h) (by rfl) (by rfl) ?_; apply Exists.intro; apply And.intro; (intro w; go_simp; try with_reducible rfl); (simp only [Act.put, List.setIfInBounds_toArray, List.set_cons_zero, List.set_cons_succ]))
    (refine regP 25 hS (fun _ h => h) rfl (by kernel_rfl) (by kernel_rfl) (by kernel_rfl) (fun _ _ _ _ h => h) (by rfl) (by rfl) ?_; apply Exists.intro; apply And.intro; (intro w; go_simp; try with_reducible rfl); (simp only [Act.put, List.setIfInBounds_toArray, List.set_cons_zero, List.set_cons_succ]))
    (refine regP 26 hS (fun _ h => h) rfl (by kernel_rfl) (by kernel_rfl) (by kernel_rfl) (fun _ _ _ _ h => h) (by rfl) (by rfl) ?_; apply Exists.intro; apply And.intro; (intro w; go_simp; try with_reducible rfl); (simp only [Act.put, List.setIfInBounds_toArray, List.set_cons_zero, List.set_cons_succ]))
    (refine regP 27 hS (fun _ h => h) rfl (by kernel_rfl) (by kernel_rfl) (by kernel_rfl) (fun _ _ _ _ h => h) (by rfl) (by rfl) ?_; apply Exists.intro; apply And.intro; (intro w; go_simp; try with_reducible rfl); (simp only [Act.put, List.setIfInBounds_toArray, List.set_cons_zero, List.set_cons_succ]))
    (refine regP 28 hS (fun _ h => h) rfl (by kernel_rfl) (by kernel_rfl) (by kernel_rfl) (fun _ _ _ _ h => h) (by rfl) (by rfl) ?_; apply Exists.intro; apply And.intro; (intro w; go_simp; try with_reducible rfl); (simp only [Act.put, List.setIfInBounds_toArray, List.set_cons_zero, List.set_cons_succ]))
    refine regDone (by kernel_rfl) ?_
    go_wp2_with (first
      | (go_at_call 91; refine (HEDGE.out _ _ hS).mono ?_; rintro e w1 ⟨rfl, hS1⟩; clear hS; have hS := hS1; clear hS1))
    go_ret2
    exact ⟨rfl, hS⟩
  · have HNX := Lib.hid (show K.next (y : Int) = K by unfold KD.next; rw [if_neg (by rw [hE]; exact h0)])
    have HK2 := Lib.hid (show K1 = K by rw [← hK1]; unfold KD.born; rw [if_neg (by rw [eE]; exact h0)])
    have e0 : (E == 0) = false := beq_eq_false_iff_ne.2 h0
    rw [hE, hI, HNX.out]
    rw [HK2.out] at HBORN
    clear hE hI eE eI hx hK1 h0 hx2 hy hb
    go_enter Try.func88, Try.ntmps88
    go_wp2
    refine regStart [23] hS (by kernel_rfl) rfl ?_
    intro w1 hS1
    clear hS; have hS := hS1; clear hS1
    (refine regP 0 hS (fun _ h => h) rfl (by kernel_rfl) (by kernel_rfl) (by kernel_rfl) (fun _ _ _ _ h => h) (by rfl) (by rfl) ?_; apply Exists.intro; apply And.intro; (intro w; go_simp; try with_reducible rfl); (simp only [Act.put, List.setIfInBounds_toArray, List.set_cons_zero, List.set_cons_succ]))
    (refine regP 1 hS (fun _ h => h) rfl (by kernel_rfl) (by kernel_rfl) (by kernel_rfl) (fun _ _ _ _ h => h) (by rfl) (by rfl) ?_; apply Exists.intro; apply And.intro; (intro w; go_simp; try with_reducible rfl); (simp only [Act.put, List.setIfInBounds_toArray, List.set_cons_zero, List.set_cons_succ]))
    (refine regP 2 hS (fun _ h => h) rfl (by kernel_rfl) (by kernel_rfl) (by kernel_rfl) (fun _ _ _ _ h => h) (by rfl) (by rfl) ?_; apply Exists.intro; apply And.intro; (intro w; go_simp; try with_reducible rfl); (simp only [Act.put, List.setIfInBounds_toArray, List.set_cons_zero, List.set_cons_succ]))
    (refine regP 3 hS (fun _ h => h) rfl (by kernel_rfl) (by kernel_rfl) (by kernel_rfl) (fun _ _ _ _ h => h) (by rfl) (by rfl) ?_; apply Exists.intro; apply And.intro; (intro w; go_simp; try with_reducible rfl); (simp only [Act.put, List.setIfInBounds_toArray, List.set_cons_zero, List.set_cons_succ]))
    (refine regRD 4 hS (fun _ h => h) rfl (by kernel_rfl) (by kernel_rfl) (by kernel_rfl) (by kernel_rfl) (by kernel_rfl) (fun _ _ _ _ h => h) (by rfl) (by rfl) ?_; (first
                | refine ⟨_, yLd _ _ (by rfl) _ _ (by rfl) (agOf (by rfl)) (by first | exact Has.z | exact Has.s Has.z | exact Has.s (Has.s Has.z) | exact Has.s (Has.s (Has.s Has.z)) | exact Has.s (Has.s (Has.s (Has.s Has.z))) | exact Has.s (Has.s (Has.s (Has.s (Has.s Has.z))))) (by rfl), ?_⟩
                | refine ⟨.int .i64 x1, yLdTb (f := nv) (x := ⟨x1, x2, x3, x4, x5, x6⟩) _ _ (by rfl) _ _ (by rfl) (agOf (by rfl)) (by repeat (first | exact Has.z | apply Has.s)) y 0 (by omega) HX.out (by rfl), ?_⟩
                | refine ⟨.int .i64 x2, yLdTb (f := nv) (x := ⟨x1, x2, x3, x4, x5, x6⟩) _ _ (by rfl) _ _ (by rfl) (agOf (by rfl)) (by repeat (first | exact Has.z | apply Has.s)) y 1 (by omega) HX.out (by rfl), ?_⟩); (simp only [Act.put, List.setIfInBounds_toArray, List.set_cons_zero, List.set_cons_succ]))
    (refine regP 5 hS (fun _ h => h) rfl (by kernel_rfl) (by kernel_rfl) (by kernel_rfl) (fun _ _ _ _ h => h) (by rfl) (by rfl) ?_; apply Exists.intro; apply And.intro; (intro w; go_simp; try with_reducible rfl); (simp only [Act.put, List.setIfInBounds_toArray, List.set_cons_zero, List.set_cons_succ]))
    (refine regP 6 hS (fun _ h => h) rfl (by kernel_rfl) (by kernel_rfl) (by kernel_rfl) (fun _ _ _ _ h => h) (by rfl) (by rfl) ?_; apply Exists.intro; apply And.intro; (intro w; go_simp; try with_reducible rfl); (simp only [Act.put, List.setIfInBounds_toArray, List.set_cons_zero, List.set_cons_succ]))
    (refine regRD 7 hS (fun _ h => h) rfl (by kernel_rfl) (by kernel_rfl) (by kernel_rfl) (by kernel_rfl) (by kernel_rfl) (fun _ _ _ _ h => h) (by rfl) (by rfl) ?_; (first
                | refine ⟨_, yLd _ _ (by rfl) _ _ (by rfl) (agOf (by rfl)) (by first | exact Has.z | exact Has.s Has.z | exact Has.s (Has.s Has.z) | exact Has.s (Has.s (Has.s Has.z)) | exact Has.s (Has.s (Has.s (Has.s Has.z))) | exact Has.s (Has.s (Has.s (Has.s (Has.s Has.z))))) (by rfl), ?_⟩
                | refine ⟨.int .i64 x1, yLdTb (f := nv) (x := ⟨x1, x2, x3, x4, x5, x6⟩) _ _ (by rfl) _ _ (by rfl) (agOf (by rfl)) (by repeat (first | exact Has.z | apply Has.s)) y 0 (by omega) HX.out (by rfl), ?_⟩
                | refine ⟨.int .i64 x2, yLdTb (f := nv) (x := ⟨x1, x2, x3, x4, x5, x6⟩) _ _ (by rfl) _ _ (by rfl) (agOf (by rfl)) (by repeat (first | exact Has.z | apply Has.s)) y 1 (by omega) HX.out (by rfl), ?_⟩); (simp only [Act.put, List.setIfInBounds_toArray, List.set_cons_zero, List.set_cons_succ]))
    (refine regP 8 hS (fun _ h => h) rfl (by kernel_rfl) (by kernel_rfl) (by kernel_rfl) (fun _ _ _ _ h => h) (by rfl) (by rfl) ?_; apply Exists.intro; apply And.intro; (intro w; go_simp; try with_reducible rfl); (simp only [Act.put, List.setIfInBounds_toArray, List.set_cons_zero, List.set_cons_succ]))
    (refine regP 9 hS (fun _ h => h) rfl (by kernel_rfl) (by kernel_rfl) (by kernel_rfl) (fun _ _ _ _ h => h) (by rfl) (by rfl) ?_; apply Exists.intro; apply And.intro; (intro w; go_simp; try with_reducible rfl); (simp only [Act.put, List.setIfInBounds_toArray, List.set_cons_zero, List.set_cons_succ]))
    (refine regP 10 hS (fun _ h => h) rfl (by kernel_rfl) (by kernel_rfl) (by kernel_rfl) (fun _ _ _ _ h => h) (by rfl) (by rfl) ?_; apply Exists.intro; apply And.intro; (intro w; go_simp; try with_reducible rfl); (simp only [Act.put, List.setIfInBounds_toArray, List.set_cons_zero, List.set_cons_succ]))
    (refine regRD 11 hS (fun _ h => h) rfl (by kernel_rfl) (by kernel_rfl) (by kernel_rfl) (by kernel_rfl) (by kernel_rfl) (fun _ _ _ _ h => h) (by rfl) (by rfl) ?_; (first
                | refine ⟨_, yLd _ _ (by rfl) _ _ (by rfl) (agOf (by rfl)) (by first | exact Has.z | exact Has.s Has.z | exact Has.s (Has.s Has.z) | exact Has.s (Has.s (Has.s Has.z)) | exact Has.s (Has.s (Has.s (Has.s Has.z))) | exact Has.s (Has.s (Has.s (Has.s (Has.s Has.z))))) (by rfl), ?_⟩
                | refine ⟨.int .i64 x1, yLdTb (f := nv) (x := ⟨x1, x2, x3, x4, x5, x6⟩) _ _ (by rfl) _ _ (by rfl) (agOf (by rfl)) (by repeat (first | exact Has.z | apply Has.s)) y 0 (by omega) HX.out (by rfl), ?_⟩
                | refine ⟨.int .i64 x2, yLdTb (f := nv) (x := ⟨x1, x2, x3, x4, x5, x6⟩) _ _ (by rfl) _ _ (by rfl) (agOf (by rfl)) (by repeat (first | exact Has.z | apply Has.s)) y 1 (by omega) HX.out (by rfl), ?_⟩); (simp only [Act.put, List.setIfInBounds_toArray, List.set_cons_zero, List.set_cons_succ]))
    (refine regP 12 hS (fun _ h => h) rfl (by kernel_rfl) (by kernel_rfl) (by kernel_rfl) (fun _ _ _ _ h => h) (by rfl) (by rfl) ?_; apply Exists.intro; apply And.intro; (intro w; go_simp; try with_reducible rfl); (simp only [Act.put, List.setIfInBounds_toArray, List.set_cons_zero, List.set_cons_succ]))
    (refine regP 13 hS (fun _ h => h) rfl (by kernel_rfl) (by kernel_rfl) (by kernel_rfl) (fun _ _ _ _ h => h) (by rfl) (by rfl) ?_; apply Exists.intro; apply And.intro; (intro w; go_simp; try with_reducible rfl); (simp only [Act.put, List.setIfInBounds_toArray, List.set_cons_zero, List.set_cons_succ]))
    (refine regP 14 hS (fun _ h => h) rfl (by kernel_rfl) (by kernel_rfl) (by kernel_rfl) (fun _ _ _ _ h => h) (by rfl) (by rfl) ?_; apply Exists.intro; apply And.intro; (intro w; go_simp; try with_reducible rfl); (simp only [Act.put, List.setIfInBounds_toArray, List.set_cons_zero, List.set_cons_succ]))
    (refine regRD 15 hS (fun _ h => h) rfl (by kernel_rfl) (by kernel_rfl) (by kernel_rfl) (by kernel_rfl) (by kernel_rfl) (fun _ _ _ _ h => h) (by rfl) (by rfl) ?_; (first
                | refine ⟨_, yLd _ _ (by rfl) _ _ (by rfl) (agOf (by rfl)) (by first | exact Has.z | exact Has.s Has.z | exact Has.s (Has.s Has.z) | exact Has.s (Has.s (Has.s Has.z)) | exact Has.s (Has.s (Has.s (Has.s Has.z))) | exact Has.s (Has.s (Has.s (Has.s (Has.s Has.z))))) (by rfl), ?_⟩
                | refine ⟨.int .i64 x1, yLdTb (f := nv) (x := ⟨x1, x2, x3, x4, x5, x6⟩) _ _ (by rfl) _ _ (by rfl) (agOf (by rfl)) (by repeat (first | exact Has.z | apply Has.s)) y 0 (by omega) HX.out (by rfl), ?_⟩
                | refine ⟨.int .i64 x2, yLdTb (f := nv) (x := ⟨x1, x2, x3, x4, x5, x6⟩) _ _ (by rfl) _ _ (by rfl) (agOf (by rfl)) (by repeat (first | exact Has.z | apply Has.s)) y 1 (by omega) HX.out (by rfl), ?_⟩); (simp only [Act.put, List.setIfInBounds_toArray, List.set_cons_zero, List.set_cons_succ]))
    (refine regP 16 hS (fun _ h => h) rfl (by kernel_rfl) (by kernel_rfl) (by kernel_rfl) (fun _ _ _ _ h => h) (by rfl) (by rfl) ?_; apply Exists.intro; apply And.intro; (intro w; go_simp; try with_reducible rfl); (simp only [Act.put, List.setIfInBounds_toArray, List.set_cons_zero, List.set_cons_succ]))
    (refine regP 17 hS (fun _ h => h) rfl (by kernel_rfl) (by kernel_rfl) (by kernel_rfl) (fun _ _ _ _ h => h) (by rfl) (by rfl) ?_; apply Exists.intro; apply And.intro; (intro w; go_simp; try with_reducible rfl); (simp only [Act.put, List.setIfInBounds_toArray, List.set_cons_zero, List.set_cons_succ]))
    (refine regRD 18 hS (fun _ h => h) rfl (by kernel_rfl) (by kernel_rfl) (by kernel_rfl) (by kernel_rfl) (by kernel_rfl) (fun _ _ _ _ h => h) (by rfl) (by rfl) ?_; (first
                | refine ⟨_, yLd _ _ (by rfl) _ _ (by rfl) (agOf (by rfl)) (by first | exact Has.z | exact Has.s Has.z | exact Has.s (Has.s Has.z) | exact Has.s (Has.s (Has.s Has.z)) | exact Has.s (Has.s (Has.s (Has.s Has.z))) | exact Has.s (Has.s (Has.s (Has.s (Has.s Has.z))))) (by rfl), ?_⟩
                | refine ⟨.int .i64 x1, yLdTb (f := nv) (x := ⟨x1, x2, x3, x4, x5, x6⟩) _ _ (by rfl) _ _ (by rfl) (agOf (by rfl)) (by repeat (first | exact Has.z | apply Has.s)) y 0 (by omega) HX.out (by rfl), ?_⟩
                | refine ⟨.int .i64 x2, yLdTb (f := nv) (x := ⟨x1, x2, x3, x4, x5, x6⟩) _ _ (by rfl) _ _ (by rfl) (agOf (by rfl)) (by repeat (first | exact Has.z | apply Has.s)) y 1 (by omega) HX.out (by rfl), ?_⟩); (simp only [Act.put, List.setIfInBounds_toArray, List.set_cons_zero, List.set_cons_succ]))
    (refine regP 19 hS (fun _ h => h) rfl (by kernel_rfl) (by kernel_rfl) (by kernel_rfl) (fun _ _ _ _ h => h) (by rfl) (by rfl) ?_; apply Exists.intro; apply And.intro; (intro w; go_simp; try with_reducible rfl); (simp only [Act.put, List.setIfInBounds_toArray, List.set_cons_zero, List.set_cons_succ]))
    (refine regP 20 hS (fun _ h => h) rfl (by kernel_rfl) (by kernel_rfl) (by kernel_rfl) (fun _ _ _ _ h => h) (by rfl) (by rfl) ?_; apply Exists.intro; apply And.intro; (intro w; go_simp; try with_reducible rfl); (simp only [Act.put, List.setIfInBounds_toArray, List.set_cons_zero, List.set_cons_succ]))
    (refine regP 21 hS (fun _ h => h) rfl (by kernel_rfl) (by kernel_rfl) (by kernel_rfl) (fun _ _ _ _ h => h) (by rfl) (by rfl) ?_; apply Exists.intro; apply And.intro; (intro w; go_simp; try with_reducible rfl); (simp only [Act.put, List.setIfInBounds_toArray, List.set_cons_zero, List.set_cons_succ]))
    (refine regRD 22 hS (fun _ h => h) rfl (by kernel_rfl) (by kernel_rfl) (by kernel_rfl) (by kernel_rfl) (by kernel_rfl) (fun _ _ _ _ h => h) (by rfl) (by rfl) ?_; (first
                | refine ⟨_, yLd _ _ (by rfl) _ _ (by rfl) (agOf (by rfl)) (by first | exact Has.z | exact Has.s Has.z | exact Has.s (Has.s Has.z) | exact Has.s (Has.s (Has.s Has.z)) | exact Has.s (Has.s (Has.s (Has.s Has.z))) | exact Has.s (Has.s (Has.s (Has.s (Has.s Has.z))))) (by rfl), ?_⟩
                | refine ⟨.int .i64 x1, yLdTb (f := nv) (x := ⟨x1, x2, x3, x4, x5, x6⟩) _ _ (by rfl) _ _ (by rfl) (agOf (by rfl)) (by repeat (first | exact Has.z | apply Has.s)) y 0 (by omega) HX.out (by rfl), ?_⟩
                | refine ⟨.int .i64 x2, yLdTb (f := nv) (x := ⟨x1, x2, x3, x4, x5, x6⟩) _ _ (by rfl) _ _ (by rfl) (agOf (by rfl)) (by repeat (first | exact Has.z | apply Has.s)) y 1 (by omega) HX.out (by rfl), ?_⟩); (simp only [Act.put, List.setIfInBounds_toArray, List.set_cons_zero, List.set_cons_succ]))
    (refine regA 23 rfl (by kernel_rfl) (by rfl) (by rfl) true (by kernel_rfl) (fun K hK => ?_); (refine Go.Sep.cl 59 _ _ (by rfl) (by rfl) (by kernel_rfl) (HBORN.out _ _ (IsQ.mk ((IsR.mk (hS.re [1, 2, 3])).re [1]))) ?_; rintro e w1 ⟨rfl, hS1⟩; clear hS; have hS := hS1; clear hS1; refine ⟨_, rfl, ?_⟩); refine hK _ _ _ hS (by first | (intro h; cases h; done) | exact fun _ _ h => h | exact fun _ _ h => h.drop | exact fun _ _ h => h.drop.drop | exact fun _ _ h => h.drop.pull1 | exact fun _ _ h => h.take2 | exact fun _ _ h => h.one Has.z | exact fun _ _ h => h.one (Has.s Has.z) | exact fun _ _ h => h.one (Has.s (Has.s Has.z))) ?_; clear hK K; (simp only [Act.put, List.setIfInBounds_toArray, List.set_cons_zero, List.set_cons_succ]))
    (refine regP 24 hS (fun _ h => h) rfl (by kernel_rfl) (by kernel_rfl) (by kernel_rfl) (fun _ _ _ _ h => h) (by rfl) (by rfl) ?_; apply Exists.intro; apply And.intro; (intro w; go_simp; try with_reducible rfl); (simp only [Act.put, List.setIfInBounds_toArray, List.set_cons_zero, List.set_cons_succ]))
    (refine regP 25 hS (fun _ h => h) rfl (by kernel_rfl) (by kernel_rfl) (by kernel_rfl) (fun _ _ _ _ h => h) (by rfl) (by rfl) ?_; apply Exists.intro; apply And.intro; (intro w; go_simp; try with_reducible rfl); (simp only [Act.put, List.setIfInBounds_toArray, List.set_cons_zero, List.set_cons_succ]))
    (refine regP 26 hS (fun _ h => h) rfl (by kernel_rfl) (by kernel_rfl) (by kernel_rfl) (fun _ _ _ _ h => h) (by rfl) (by rfl) ?_; apply Exists.intro; apply And.intro; (intro w; go_simp; try with_reducible rfl); (simp only [Act.put, List.setIfInBounds_toArray, List.set_cons_zero, List.set_cons_succ]))
    (refine regP 27 hS (fun _ h => h) rfl (by kernel_rfl) (by kernel_rfl) (by kernel_rfl) (fun _ _ _ _ h => h) (by rfl) (by rfl) ?_; apply Exists.intro; apply And.intro; (intro w; go_simp; try with_reducible rfl); (simp only [Act.put, List.setIfInBounds_toArray, List.set_cons_zero, List.set_cons_succ]))
    (refine regP 28 hS (fun _ h => h) rfl (by kernel_rfl) (by kernel_rfl) (by kernel_rfl) (fun _ _ _ _ h => h) (by rfl) (by rfl) ?_; apply Exists.intro; apply And.intro; (intro w; go_simp; try with_reducible rfl); (simp only [Act.put, List.setIfInBounds_toArray, List.set_cons_zero, List.set_cons_succ]))
    refine regDone (by kernel_rfl) ?_
    go_wp2
    go_ret2
    exact ⟨rfl, hS⟩
theorem closed_iff {G : Gr} (hG : G.Ok) (n : Int) : (G.E.any fun e => decide ((e.2 : Int) = n)) = decide (0 < (G.downsI n).length) := by
  rw [Bool.eq_iff_iff, List.any_eq_true, decide_eq_true_iff]
  constructor
  · rintro ⟨⟨x, y⟩, hx, h⟩
    obtain rfl : (y : Int) = n := by simpa using h
    rw [Gr.downsI_nat (hG.low _ hx).2]
    exact List.length_pos_of_mem (Gr.mem_downs.2 ⟨(hG.low _ hx).1, hx⟩)
  · intro h
    obtain ⟨z, hz⟩ := List.exists_mem_of_length_pos h
    cases hb : G.is n with
    | false => rw [Gr.downsI_no hb] at hz; cases hz
    | true =>
      obtain ⟨k, rfl, hk⟩ := Gr.is_nat hb
      rw [Gr.downsI_nat hk] at hz
      exact ⟨(z, k), (Gr.mem_downs.1 hz).2, by simp⟩
set_option maxRecDepth 20000 in
theorem rclosed_any {W w : World} {L : List Asrt} {p : Nat} {G : Gr} (hS : Sat W w (IsR p G :: L)) (hG : G.Ok) (n : Int) {r : Bool} (hr : decide (0 < (G.downsI n).length) = r) :
    Calls Try.prog 90 #[.pointer (some ⟨p, 0, none⟩), .int .i64 n] w fun e w' => e = .returned (.bool r) ∧ w = w' := by
  obtain ⟨an, cn, ae, ce, hcn, hce, hO⟩ := IsR.open hS
  clear hS
  have hS := hO
  clear hO
  rw [← closed_iff hG] at hr
  have hE := hG.edges
  have HR := Lib.hid hr
  clear hr hG
  go_enter Try.func90, Try.ntmps90
  go_wp2_with (refine toList (by rfl) ?_; refine ld hS _ _ (by rfl) _ _ (by rfl) (agOf (by rfl)) (by first | exact Has.z | exact Has.s Has.z | exact Has.s (Has.s Has.z) | exact Has.s (Has.s (Has.s Has.z)) | exact Has.s (Has.s (Has.s (Has.s Has.z))) | exact Has.s (Has.s (Has.s (Has.s (Has.s Has.z))))) (by rfl) ?_)
  have H0 := Lib.hid hS
  go_loopw [5] (fun v wz => ∃ i : Nat, v = .int .i64 i ∧ i ≤ G.E.length ∧ (G.E.take i).any (fun e => decide ((e.2 : Int) = n)) = false ∧ w = wz) (fun v _ => G.E.length - (intOf v).toNat)
  case atStart => exact ⟨0, rfl, by omega, rfl, rfl⟩
  case round =>
    obtain ⟨i, rfl, hi, hno, rfl⟩ := hrel
    have HNO := Lib.hid hno
    clear H0 hno
    by_cases hl : i < G.E.length
    · have k1 : (i : Int) < (G.E.length : Int) := by omega
      obtain ⟨⟨x, y⟩, hx⟩ : ∃ e, G.E[i]? = some e := ⟨_, List.getElem?_eq_getElem hl⟩
      have HX := Lib.hid hx
      have HL := Lib.hid hl
      obtain ⟨be, oe, c', hv, _⟩ := hS.tbAddr (k := 2) rfl (by omega)
      simp only [Value.slice.injEq, true_and] at hv
      obtain ⟨rfl, rfl⟩ := hv
      clear hx hl
      by_cases hyb : (y : Int) = n
      · have HYB := Lib.hid hyb
        have f2 : ((y : Int) == n) = true := by rw [hyb]; simp
        have f2d : decide ((y : Int) = n) = true := decide_eq_true hyb
        obtain rfl : r = true := by rw [← HR.out]; exact any_split HX.out HNO.out f2d
        go_wp2_with (first
          | (refine toList (by rfl) ?_; refine ld hS _ _ (by rfl) _ _ (by rfl) (agOf (by rfl)) (by first | exact Has.z | exact Has.s Has.z | exact Has.s (Has.s Has.z) | exact Has.s (Has.s (Has.s Has.z)) | exact Has.s (Has.s (Has.s (Has.s Has.z))) | exact Has.s (Has.s (Has.s (Has.s (Has.s Has.z))))) (by rfl) ?_)
          | (refine toList (by rfl) ?_; refine ldTb hS _ _ (by rfl) _ _ (by rfl) (agOf (by rfl)) (Has.s (Has.s Has.z)) i 1 (by omega) HX.out (by rfl) ?_))
        go_ret
        exact ⟨rfl, rfl⟩
      · have f2 : ((y : Int) == n) = false := beq_eq_false_iff_ne.2 hyb
        have f2d : decide ((y : Int) = n) = false := decide_eq_false hyb
        go_wp2_with (first
          | (refine toList (by rfl) ?_; refine ld hS _ _ (by rfl) _ _ (by rfl) (agOf (by rfl)) (by first | exact Has.z | exact Has.s Has.z | exact Has.s (Has.s Has.z) | exact Has.s (Has.s (Has.s Has.z)) | exact Has.s (Has.s (Has.s (Has.s Has.z))) | exact Has.s (Has.s (Has.s (Has.s (Has.s Has.z))))) (by rfl) ?_)
          | (refine toList (by rfl) ?_; refine ldTb hS _ _ (by rfl) _ _ (by rfl) (agOf (by rfl)) (Has.s (Has.s Has.z)) i 1 (by omega) HX.out (by rfl) ?_))
        exact ⟨⟨i + 1, by go_num, HL.out, any_next HX.out HNO.out f2d, trivial⟩, by simp [intOf]; have := HL.out; omega⟩
    · have k1 : decide ((i : Int) < (G.E.length : Int)) = false := decide_eq_false (by omega)
      have k2 : ¬ (i : Int) < (G.E.length : Int) := by omega
      obtain rfl : r = false := by rw [← HR.out, ← HNO.out, List.take_of_length_le (by omega)]
      clear hl
      go_wp2_with (refine toList (by rfl) ?_; refine ld hS _ _ (by rfl) _ _ (by rfl) (agOf (by rfl)) (by first | exact Has.z | exact Has.s Has.z | exact Has.s (Has.s Has.z) | exact Has.s (Has.s (Has.s Has.z)) | exact Has.s (Has.s (Has.s (Has.s Has.z))) | exact Has.s (Has.s (Has.s (Has.s (Has.s Has.z))))) (by rfl) ?_)
      go_ret
      exact ⟨rfl, rfl⟩
end Go.Proofs.Ytapodjhkpahdnaa
