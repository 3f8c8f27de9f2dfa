/-
  Package version: next, wrong, ends, Flow.
-/
import Derived.Test.YtapodjhkpahdnaaVsKeep
namespace Go.Proofs.Ytapodjhkpahdnaa
open Go.RowKit Go.Sep
set_option linter.unusedSimpArgs false
set_option linter.unusedVariables false
attribute [local irreducible] Go.Oper.wp Go.wpList Go.Calls Go.Code.wp Go.Sep.Reg
attribute [local irreducible] IsG IsK
set_option maxRecDepth 20000 in
set_option maxHeartbeats 1000000 in
/-- A new version behind a node. -/
theorem knext_any {W w : World} {L : List Asrt} {p g n : Nat} {K : KD} (hS : Sat W w (IsK p g K :: IsG g K.G :: L)) (hK : K.Ok n) (hn : n ≤ 800000) (b : Int) :
    Calls Try.prog 39 #[.pointer (some ⟨p, 0, none⟩), .int .i64 b] w fun e w' => e = .returned (.tuple #[.int .i64 (K.nextI b), .int .i64 (K.nextE b)]) ∧ Sat W w' (IsK p g (K.next b) :: IsG g (K.next b).G :: L) := by
  have HK := Lib.hid hK
  clear hK
  obtain ⟨⟨x1, x2, x3, x4, x5, x6⟩, hx⟩ : ∃ x, K.G.nodeI b = x := ⟨_, rfl⟩
  obtain ⟨bb, hbb⟩ : ∃ bb, K.G.is b = bb := ⟨_, rfl⟩
  have HNODE := Lib.hid (fun w (L : List Asrt) (h : Sat W w (IsG g K.G :: L)) => (show Calls Try.prog 14 #[.pointer (some ⟨g, 0, none⟩), .int .i64 b] w fun e w' =>
      e = .returned (.tuple #[.agg #[.int .i64 x1, .int .i64 x2, .int .i64 (x3 : Int), .int .i64 (x4 : Int), .int .i64 (x5 : Int), .bool x6], .bool bb]) ∧ Sat W w' (IsG g K.G :: L) by
    have := node_any h b
    rw [hx, hbb] at this
    exact this))
  obtain ⟨E, hE⟩ : ∃ E, K.nextE b = E := ⟨_, rfl⟩
  obtain ⟨I, hI⟩ : ∃ I, K.nextI b = I := ⟨_, rfl⟩
  have eE : K.G.addE x1 x2 = E := by rw [← hE]; unfold KD.nextE; rw [hx]
  have eI : K.G.addI x1 x2 = I := by rw [← hI]; unfold KD.nextI; rw [hx]
  have HBORN := Lib.hid (fun w (L : List Asrt) (h : Sat W w (IsK p g K :: IsG g K.G :: L)) => knode_any h HK.out (by omega) x1 x2)
  rw [eE, eI] at HBORN
  obtain ⟨K1, hK1⟩ : ∃ K1, K.born x1 x2 = K1 := ⟨_, rfl⟩
  have hk1 := HK.out.born x1 x2
  rw [hK1] at HBORN hk1
  have HK1 := Lib.hid hk1
  clear hk1 hbb
  obtain ⟨c, f, v, hkn, hS⟩ := IsK.open hS
  have HKN := Lib.hid hkn
  clear hkn
  by_cases h0 : E = 0
  · subst h0
    have HNX := Lib.hid (show K.next b = K1.edge I b by unfold KD.next; rw [if_pos hE, hI, hx, hK1])
    have HEDGE := Lib.hid (fun w (L : List Asrt) (h : Sat W w (IsK p g K1 :: IsG g K1.G :: L)) => kedge_any h HK1.out (by omega) I b (fun _ => by
      obtain ⟨e1, e2, e3⟩ := addG_yes eE
      rw [← hK1, KD.born_G, e1, ← eI, e2, Gr.downsI_nat (by show _ < (K.G.N ++ [_]).length; simp)]
      exact downs_new HK.out.g))
    rw [hE, hI, HNX.out]
    clear hE hI eE eI hx hK1
    obtain ⟨K2, hK2⟩ : ∃ K2, K1.edge I b = K2 := ⟨_, rfl⟩
    rw [hK2] at HEDGE ⊢
    clear hK2
    go_enter Try.func39, Try.ntmps39
    go_wp2_with (first
      | (refine toList (by rfl) ?_; refine al hS _ (by rfl) (zrOf (by rfl)) ?_; intro px w1 hS1; clear hS; have hS := hS1; clear hS1; rw [cells_agg] at hS)
      | (refine toList (by rfl) ?_; refine stW hS _ _ _ (by rfl) (by rfl) [.int .i64 x1, .int .i64 x2, .int .i64 (x3 : Int), .int .i64 (x4 : Int), .int .i64 (x5 : Int), .bool x6] (by rfl) (by simp [Value.oneCell']) (szOf (by rfl)) Has.z rfl ?_; intro w1 hS1; clear hS; have hS := hS1; clear hS1; dsimp only [List.set_cons_zero] at hS)
      | (go_at_call 14; refine (HNODE.out _ _ (hS.re [1])).mono ?_; rintro e w1 ⟨rfl, hS1⟩; clear hS; have hS := hS1; clear hS1; replace hS := hS.pull1)
      | (go_at_call 36; refine (HBORN.out _ _ (IsK.mk HKN.out (hS.re [1, 2, 3, 4]))).mono ?_; rintro e w1 ⟨rfl, hS1⟩; clear hS; have hS := hS1; clear hS1)
      | (go_at_call 40; refine (HEDGE.out _ _ hS).mono ?_; rintro e w1 ⟨rfl, hS1⟩; clear hS; have hS := hS1; clear hS1)
      | (refine toList (by rfl) ?_; refine ld hS _ _ (by rfl) _ _ (by rfl) (agOf (by rfl)) (by first | exact Has.z | exact Has.s Has.z | exact Has.s (Has.s Has.z) | exact Has.s (Has.s (Has.s Has.z)) | exact Has.s (Has.s (Has.s (Has.s Has.z))) | exact Has.s (Has.s (Has.s (Has.s (Has.s Has.z))))) (by rfl) ?_))
    go_ret2
    exact ⟨rfl, hS.pull2.drop⟩
  · have HNX := Lib.hid (show K.next b = K by unfold KD.next; rw [if_neg (by rw [hE]; exact h0)])
    have HK2 := Lib.hid (show K1 = K by rw [← hK1]; unfold KD.born; rw [if_neg (by rw [eE]; exact h0)])
    have e0 : (E == 0) = false := beq_eq_false_iff_ne.2 h0
    rw [hE, hI, HNX.out]
    rw [HK2.out] at HBORN
    clear hE hI eE eI hx hK1 h0
    go_enter Try.func39, Try.ntmps39
    go_wp2_with (first
      | (refine toList (by rfl) ?_; refine al hS _ (by rfl) (zrOf (by rfl)) ?_; intro px w1 hS1; clear hS; have hS := hS1; clear hS1; rw [cells_agg] at hS)
      | (refine toList (by rfl) ?_; refine stW hS _ _ _ (by rfl) (by rfl) [.int .i64 x1, .int .i64 x2, .int .i64 (x3 : Int), .int .i64 (x4 : Int), .int .i64 (x5 : Int), .bool x6] (by rfl) (by simp [Value.oneCell']) (szOf (by rfl)) Has.z rfl ?_; intro w1 hS1; clear hS; have hS := hS1; clear hS1; dsimp only [List.set_cons_zero] at hS)
      | (go_at_call 14; refine (HNODE.out _ _ (hS.re [1])).mono ?_; rintro e w1 ⟨rfl, hS1⟩; clear hS; have hS := hS1; clear hS1; replace hS := hS.pull1)
      | (go_at_call 36; refine (HBORN.out _ _ (IsK.mk HKN.out (hS.re [1, 2, 3, 4]))).mono ?_; rintro e w1 ⟨rfl, hS1⟩; clear hS; have hS := hS1; clear hS1)
      | (refine toList (by rfl) ?_; refine ld hS _ _ (by rfl) _ _ (by rfl) (agOf (by rfl)) (by first | exact Has.z | exact Has.s Has.z | exact Has.s (Has.s Has.z) | exact Has.s (Has.s (Has.s Has.z)) | exact Has.s (Has.s (Has.s (Has.s Has.z))) | exact Has.s (Has.s (Has.s (Has.s (Has.s Has.z))))) (by rfl) ?_))
    go_ret2
    exact ⟨rfl, hS.pull2.drop⟩
set_option maxRecDepth 20000 in
set_option maxHeartbeats 1000000 in
theorem wrong_any {W w : World} {L : List Asrt} {p g : Nat} {K : KD} (hS : Sat W w (IsK p g K :: IsG g K.G :: L)) (a b : Int) {r : Bool} (hr : K.wrong a b = r) :
    Calls Try.prog 37 #[.pointer (some ⟨p, 0, none⟩), .int .i64 a, .int .i64 b] w fun e w' => e = .returned (.bool r) ∧ Sat W w' (IsK p g K :: IsG g K.G :: L) := by
  obtain ⟨⟨x1, x2, x3, x4, x5, x6⟩, hx⟩ : ∃ x, K.G.nodeI a = x := ⟨_, rfl⟩
  obtain ⟨⟨y1, y2, y3, y4, y5, y6⟩, hy⟩ : ∃ x, K.G.nodeI b = x := ⟨_, rfl⟩
  obtain ⟨ba, hba⟩ : ∃ ba, K.G.is a = ba := ⟨_, rfl⟩
  obtain ⟨bb, hbb⟩ : ∃ bb, K.G.is b = bb := ⟨_, rfl⟩
  obtain ⟨be, hbe⟩ : ∃ be, decide (a = b) = be := ⟨_, rfl⟩
  have HA := Lib.hid (fun w (L : List Asrt) (h : Sat W w (IsG g K.G :: L)) => by have := node_any h a; rw [hx, hba] at this; exact this)
  have HB := Lib.hid (fun w (L : List Asrt) (h : Sat W w (IsG g K.G :: L)) => by have := node_any h b; rw [hy, hbb] at this; exact this)
  unfold KD.wrong at hr
  rw [hba, hbb, hbe] at hr
  subst hr
  have e1 : (a == b) = be := by rw [← hbe]; rfl
  clear hx hy hba hbb hbe
  obtain ⟨c, f, v, hkn, hS⟩ := IsK.open hS
  have HKN := Lib.hid hkn
  clear hkn
  cases ba <;> cases bb <;> cases be
  all_goals
    go_enter Try.func37, Try.ntmps37
    go_wp2_with (first
      | (refine toList (by rfl) ?_; refine ld hS _ _ (by rfl) _ _ (by rfl) (agOf (by rfl)) (by first | exact Has.z | exact Has.s Has.z | exact Has.s (Has.s Has.z) | exact Has.s (Has.s (Has.s Has.z)) | exact Has.s (Has.s (Has.s (Has.s Has.z))) | exact Has.s (Has.s (Has.s (Has.s (Has.s Has.z))))) (by rfl) ?_)
      | (go_at_call 14; refine (HA.out _ _ (hS.re [1])).mono ?_; rintro e w1 ⟨rfl, hS1⟩; clear hS; have hS := hS1; clear hS1; replace hS := hS.pull1)
      | (go_at_call 14; refine (HB.out _ _ (hS.re [2])).mono ?_; rintro e w1 ⟨rfl, hS1⟩; clear hS; have hS := hS1; clear hS1; replace hS := hS.re [1, 2, 0])
      | (refine toList (by rfl) ?_; refine al hS _ (by rfl) (zrOf (by rfl)) ?_; intro px w1 hS1; clear hS; have hS := hS1; clear hS1; rw [cells_agg] at hS)
      | (refine toList (by rfl) ?_; refine stW hS _ _ _ (by rfl) (by rfl) (nv ⟨x1, x2, x3, x4, x5, x6⟩) (by rfl) (nv_all _) (szOf (by rfl)) Has.z rfl ?_; intro w1 hS1; clear hS; have hS := hS1; clear hS1; dsimp only [List.set_cons_zero] at hS)
      | (refine toList (by rfl) ?_; refine al hS _ (by rfl) (zrOf (by rfl)) ?_; intro py w1 hS1; clear hS; have hS := hS1; clear hS1; rw [cells_agg] at hS)
      | (refine toList (by rfl) ?_; refine stW hS _ _ _ (by rfl) (by rfl) (nv ⟨y1, y2, y3, y4, y5, y6⟩) (by rfl) (nv_all _) (szOf (by rfl)) Has.z rfl ?_; intro w1 hS1; clear hS; have hS := hS1; clear hS1; dsimp only [List.set_cons_zero] at hS))
    go_ret
    exact ⟨rfl, IsK.mk HKN.out hS.drop.drop⟩
set_option maxRecDepth 20000 in
set_option maxHeartbeats 1000000 in
theorem ends_any {W w : World} {L : List Asrt} {p g : Nat} {K : KD} (hS : Sat W w (IsK p g K :: IsG g K.G :: L)) (b : Int) {r : Bool} (hr : K.ends b = r) :
    Calls Try.prog 38 #[.pointer (some ⟨p, 0, none⟩), .int .i64 b] w fun e w' => e = .returned (.bool r) ∧ Sat W w' (IsK p g K :: IsG g K.G :: L) := by
  obtain ⟨⟨y1, y2, y3, y4, y5, y6⟩, hy⟩ : ∃ x, K.G.nodeI b = x := ⟨_, rfl⟩
  obtain ⟨bb, hbb⟩ : ∃ bb, K.G.is b = bb := ⟨_, rfl⟩
  obtain ⟨bd, hbd⟩ : ∃ bd, decide (0 < (K.G.downsI b).length) = bd := ⟨_, rfl⟩
  have HB := Lib.hid (fun w (L : List Asrt) (h : Sat W w (IsG g K.G :: L)) => by have := node_any h b; rw [hy, hbb] at this; exact this)
  have HC := Lib.hid (fun w (L : List Asrt) (h : Sat W w (IsG g K.G :: L)) => closed_any h b hbd)
  unfold KD.ends at hr
  rw [hbd, hy] at hr
  dsimp only at hr
  subst hr
  clear hy hbb hbd
  obtain ⟨c, f, v, hkn, hS⟩ := IsK.open hS
  have HKN := Lib.hid hkn
  clear hkn
  cases bd
  · by_cases h5 : y5 = 0
    · subst h5
      go_enter Try.func38, Try.ntmps38
      go_wp2_with (first
        | (go_at_call 14; refine (HB.out _ _ (hS.re [1])).mono ?_; rintro e w1 ⟨rfl, hS1⟩; clear hS; have hS := hS1; clear hS1; replace hS := hS.pull1)
        | (go_at_call 32; refine (HC.out _ _ (hS.re [2])).mono ?_; rintro e w1 ⟨rfl, rfl⟩)
        | (refine toList (by rfl) ?_; refine al hS _ (by rfl) (zrOf (by rfl)) ?_; intro py w1 hS1; clear hS; have hS := hS1; clear hS1; rw [cells_agg] at hS)
        | (refine toList (by rfl) ?_; refine stW hS _ _ _ (by rfl) (by rfl) (nv ⟨y1, y2, y3, y4, 0, y6⟩) (by rfl) (nv_all _) (szOf (by rfl)) Has.z rfl ?_; intro w1 hS1; clear hS; have hS := hS1; clear hS1; dsimp only [List.set_cons_zero] at hS)
        | (refine toList (by rfl) ?_; refine ld hS _ _ (by rfl) _ _ (by rfl) (agOf (by rfl)) (by first | exact Has.z | exact Has.s Has.z | exact Has.s (Has.s Has.z) | exact Has.s (Has.s (Has.s Has.z)) | exact Has.s (Has.s (Has.s (Has.s Has.z))) | exact Has.s (Has.s (Has.s (Has.s (Has.s Has.z))))) (by rfl) ?_))
      go_ret
      exact ⟨rfl, IsK.mk HKN.out hS.drop⟩
    · have e1 : ((y5 : Int) != 0) = true := by simp; omega
      have e2 : decide (y5 ≠ 0) = true := decide_eq_true h5
      rw [e2]
      clear h5 e2
      go_enter Try.func38, Try.ntmps38
      go_wp2_with (first
        | (go_at_call 14; refine (HB.out _ _ (hS.re [1])).mono ?_; rintro e w1 ⟨rfl, hS1⟩; clear hS; have hS := hS1; clear hS1; replace hS := hS.pull1)
        | (go_at_call 32; refine (HC.out _ _ (hS.re [2])).mono ?_; rintro e w1 ⟨rfl, rfl⟩)
        | (refine toList (by rfl) ?_; refine al hS _ (by rfl) (zrOf (by rfl)) ?_; intro py w1 hS1; clear hS; have hS := hS1; clear hS1; rw [cells_agg] at hS)
        | (refine toList (by rfl) ?_; refine stW hS _ _ _ (by rfl) (by rfl) (nv ⟨y1, y2, y3, y4, y5, y6⟩) (by rfl) (nv_all _) (szOf (by rfl)) Has.z rfl ?_; intro w1 hS1; clear hS; have hS := hS1; clear hS1; dsimp only [List.set_cons_zero] at hS)
        | (refine toList (by rfl) ?_; refine ld hS _ _ (by rfl) _ _ (by rfl) (agOf (by rfl)) (by first | exact Has.z | exact Has.s Has.z | exact Has.s (Has.s Has.z) | exact Has.s (Has.s (Has.s Has.z)) | exact Has.s (Has.s (Has.s (Has.s Has.z))) | exact Has.s (Has.s (Has.s (Has.s (Has.s Has.z))))) (by rfl) ?_))
      go_ret
      exact ⟨rfl, IsK.mk HKN.out hS.drop⟩
  · go_enter Try.func38, Try.ntmps38
    go_wp2_with (first
      | (go_at_call 14; refine (HB.out _ _ (hS.re [1])).mono ?_; rintro e w1 ⟨rfl, hS1⟩; clear hS; have hS := hS1; clear hS1; replace hS := hS.pull1)
      | (go_at_call 32; refine (HC.out _ _ (hS.re [2])).mono ?_; rintro e w1 ⟨rfl, rfl⟩)
      | (refine toList (by rfl) ?_; refine al hS _ (by rfl) (zrOf (by rfl)) ?_; intro py w1 hS1; clear hS; have hS := hS1; clear hS1; rw [cells_agg] at hS)
      | (refine toList (by rfl) ?_; refine stW hS _ _ _ (by rfl) (by rfl) (nv ⟨y1, y2, y3, y4, y5, y6⟩) (by rfl) (nv_all _) (szOf (by rfl)) Has.z rfl ?_; intro w1 hS1; clear hS; have hS := hS1; clear hS1; dsimp only [List.set_cons_zero] at hS)
      | (refine toList (by rfl) ?_; refine ld hS _ _ (by rfl) _ _ (by rfl) (agOf (by rfl)) (by first | exact Has.z | exact Has.s Has.z | exact Has.s (Has.s Has.z) | exact Has.s (Has.s (Has.s Has.z)) | exact Has.s (Has.s (Has.s (Has.s Has.z))) | exact Has.s (Has.s (Has.s (Has.s (Has.s Has.z))))) (by rfl) ?_))
    go_ret
    exact ⟨rfl, IsK.mk HKN.out hS.drop⟩
theorem wrong_is {K : KD} {a b : Int} (h : K.wrong a b = false) : K.G.is a = true ∧ K.G.is b = true ∧ a ≠ b := by
  unfold KD.wrong at h
  simp only [Bool.or_eq_false_iff, Bool.not_eq_false', decide_eq_false_iff_not] at h
  exact ⟨h.1.1, h.1.2, h.2⟩
/-- The node into which something flows is open. -/
theorem flow_open1 {K : KD} {n : Nat} (h : K.Ok n) {a b : Int} (hw : K.wrong a b = false) (he : K.ends b = false) : K.G.downsI b = [] := by
  obtain ⟨x, y, rfl, rfl, hx, hy, _⟩ := KD.wrong_no hw
  rw [Gr.downsI_nat hy]
  exact (KD.open_no h hy he).2.1
theorem flow_open2 {K : KD} {n : Nat} (h : K.Ok n) {b : Int} (hb : K.G.is b = true) (hE : K.nextE b = 0) : (K.next b).G.downsI (K.nextI b) = [] ∧ K.nextI b = (K.G.N.length : Int) ∧ K.G.N.length < (K.next b).G.N.length := by
  obtain ⟨y, rfl, hy⟩ := Gr.is_nat hb
  have hl := (addG_yes hE).2.2
  obtain ⟨_, h2, h3⟩ := KD.next_yes h hy hl
  have hlen : K.G.N.length < (K.next (y : Int)).G.N.length := by rw [h3]; show _ < (K.G.N ++ [_]).length; simp
  refine ⟨?_, h2, hlen⟩
  rw [h2, Gr.downsI_nat hlen, h3]
  unfold Gr.downs
  rw [List.filter_eq_nil_iff]
  intro x _
  simp only [decide_eq_true_eq]
  intro hin
  rcases Gr.mem_link.1 hin with hin | ⟨_, e⟩
  · exact (new_no h.g).1 x hin
  · omega
set_option maxRecDepth 20000 in
set_option maxHeartbeats 1000000 in
/-- Something flows. -/
theorem kflow_any {W w : World} {L : List Asrt} {p g n : Nat} {K : KD} (hS : Sat W w (IsK p g K :: IsG g K.G :: L)) (hK : K.Ok n) (hn : n ≤ 700000) (a b : Int) :
    Calls Try.prog 13 #[.pointer (some ⟨p, 0, none⟩), .int .i64 a, .int .i64 b] w fun e w' => e = .returned (.tuple #[.int .i64 (K.flowI a b), .int .i64 (K.flowE a b)]) ∧ Sat W w' (IsK p g (K.flow a b) :: IsG g (K.flow a b).G :: L) := by
  have HK := Lib.hid hK
  clear hK
  cases hw : K.wrong a b with
  | true =>
    have HW := Lib.hid (fun w (L : List Asrt) (h : Sat W w (IsK p g K :: IsG g K.G :: L)) => wrong_any h a b hw)
    have HF := Lib.hid (show K.flowI a b = 0 ∧ K.flowE a b = 1 ∧ K.flow a b = K by unfold KD.flowI KD.flowE KD.flow; simp only [hw, if_true]; exact ⟨trivial, trivial, trivial⟩)
    rw [HF.out.1, HF.out.2.1, HF.out.2.2]
    clear hw
    go_enter Try.func13, Try.ntmps13
    go_wp2_with (first
      | (go_at_call 37; refine (HW.out _ _ hS).mono ?_; rintro e w1 ⟨rfl, hS1⟩; clear hS; have hS := hS1; clear hS1))
    go_ret2
    exact ⟨rfl, hS⟩
  | false =>
    have HW := Lib.hid (fun w (L : List Asrt) (h : Sat W w (IsK p g K :: IsG g K.G :: L)) => wrong_any h a b hw)
    cases he : K.ends b with
    | false =>
      have HN := Lib.hid (fun w (L : List Asrt) (h : Sat W w (IsK p g K :: IsG g K.G :: L)) => ends_any h b he)
      have HF := Lib.hid (show K.flowI a b = b ∧ K.flowE a b = 0 ∧ K.flow a b = K.edge b a by unfold KD.flowI KD.flowE KD.flow; rw [hw, he]; exact ⟨rfl, rfl, rfl⟩)
      have HD := Lib.hid (flow_open1 HK.out hw he)
      have HEDGE := Lib.hid (fun w (L : List Asrt) (h : Sat W w (IsK p g K :: IsG g K.G :: L)) => kedge_any h HK.out (by omega) b a (fun _ => HD.out))
      rw [HF.out.1, HF.out.2.1, HF.out.2.2]
      clear hw he
      obtain ⟨K2, hK2⟩ : ∃ K2, K.edge b a = K2 := ⟨_, rfl⟩
      rw [hK2] at HEDGE ⊢
      clear hK2
      go_enter Try.func13, Try.ntmps13
      go_wp2_with (first
        | (go_at_call 37; refine (HW.out _ _ hS).mono ?_; rintro e w1 ⟨rfl, hS1⟩; clear hS; have hS := hS1; clear hS1)
        | (go_at_call 38; refine (HN.out _ _ hS).mono ?_; rintro e w1 ⟨rfl, hS1⟩; clear hS; have hS := hS1; clear hS1)
        | (go_at_call 40; refine (HEDGE.out _ _ hS).mono ?_; rintro e w1 ⟨rfl, hS1⟩; clear hS; have hS := hS1; clear hS1))
      go_ret2
      exact ⟨rfl, hS⟩
    | true =>
      have HN := Lib.hid (fun w (L : List Asrt) (h : Sat W w (IsK p g K :: IsG g K.G :: L)) => ends_any h b he)
      have HNX := Lib.hid (fun w (L : List Asrt) (h : Sat W w (IsK p g K :: IsG g K.G :: L)) => knext_any h HK.out (by omega) b)
      obtain ⟨E, hE⟩ : ∃ E, K.nextE b = E := ⟨_, rfl⟩
      by_cases h0 : E = 0
      · subst h0
        have HF := Lib.hid (show K.flowI a b = K.nextI b ∧ K.flowE a b = 0 ∧ K.flow a b = (K.next b).edge (K.nextI b) a by unfold KD.flowI KD.flowE KD.flow; rw [hw, he, hE]; exact ⟨rfl, rfl, rfl⟩)
        have HO := Lib.hid (flow_open2 HK.out (wrong_is hw).2.1 hE)
        have HK1 := Lib.hid (HK.out.next (by omega) b)
        have HEDGE := Lib.hid (fun w (L : List Asrt) (h : Sat W w (IsK p g (K.next b) :: IsG g (K.next b).G :: L)) => kedge_any h HK1.out (by omega) (K.nextI b) a (fun _ => HO.out.1))
        rw [HF.out.1, HF.out.2.1, HF.out.2.2]
        rw [hE] at HNX
        clear HO
        obtain ⟨K2, hK2⟩ : ∃ K2, (K.next b).edge (K.nextI b) a = K2 := ⟨_, rfl⟩
        rw [hK2] at HEDGE ⊢
        obtain ⟨I, hI⟩ : ∃ I, K.nextI b = I := ⟨_, rfl⟩
        obtain ⟨K1, hK1⟩ : ∃ K1, K.next b = K1 := ⟨_, rfl⟩
        rw [hI, hK1] at HEDGE HNX
        rw [hI]
        clear hw he hE hI hK1 hK2 HF HK1
        go_enter Try.func13, Try.ntmps13
        go_wp2_with (first
          | (go_at_call 37; refine (HW.out _ _ hS).mono ?_; rintro e w1 ⟨rfl, hS1⟩; clear hS; have hS := hS1; clear hS1)
          | (go_at_call 38; refine (HN.out _ _ hS).mono ?_; rintro e w1 ⟨rfl, hS1⟩; clear hS; have hS := hS1; clear hS1)
          | (go_at_call 39; refine (HNX.out _ _ hS).mono ?_; rintro e w1 ⟨rfl, hS1⟩; clear hS; have hS := hS1; clear hS1)
          | (go_at_call 40; refine (HEDGE.out _ _ hS).mono ?_; rintro e w1 ⟨rfl, hS1⟩; clear hS; have hS := hS1; clear hS1))
        go_ret2
        exact ⟨rfl, hS⟩
      · have HF := Lib.hid (show K.flowI a b = 0 ∧ K.flowE a b = E ∧ K.flow a b = K by unfold KD.flowI KD.flowE KD.flow; rw [hw, he, hE, if_neg h0, if_neg h0]; exact ⟨rfl, rfl, rfl⟩)
        have HX := Lib.hid (show K.next b = K by unfold KD.next; rw [if_neg (by rw [hE]; exact h0)])
        have e1 : (E != 0) = true := by simp [h0]
        rw [HF.out.1, HF.out.2.1, HF.out.2.2]
        rw [hE, HX.out] at HNX
        obtain ⟨I, hI⟩ : ∃ I, K.nextI b = I := ⟨_, rfl⟩
        rw [hI] at HNX
        clear hw he hE h0 hI HF
        go_enter Try.func13, Try.ntmps13
        go_wp2_with (first
          | (go_at_call 37; refine (HW.out _ _ hS).mono ?_; rintro e w1 ⟨rfl, hS1⟩; clear hS; have hS := hS1; clear hS1)
          | (go_at_call 38; refine (HN.out _ _ hS).mono ?_; rintro e w1 ⟨rfl, hS1⟩; clear hS; have hS := hS1; clear hS1)
          | (go_at_call 39; refine (HNX.out _ _ hS).mono ?_; rintro e w1 ⟨rfl, hS1⟩; clear hS; have hS := hS1; clear hS1))
        go_ret2
        exact ⟨rfl, hS⟩
end Go.Proofs.Ytapodjhkpahdnaa
