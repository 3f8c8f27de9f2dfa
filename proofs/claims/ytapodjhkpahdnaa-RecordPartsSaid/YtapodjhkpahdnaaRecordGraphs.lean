/-
  For all records, RecordGraphs answers true: no condition.
-/
import Derived.Test.YtapodjhkpahdnaaRecGraph
import Derived.Test.YtapodjhkpahdnaaRecLaw
import Derived.Test.YtapodjhkpahdnaaGrSame
import Derived.Test.YtapodjhkpahdnaaRecOpen
namespace Go.Proofs.Ytapodjhkpahdnaa
open Go.RowKit Go.Sep Go.ChangeShapes Go.WideShapes Go.ChangeAt
set_option linter.unusedSimpArgs false
set_option linter.unusedVariables false
attribute [local irreducible] Go.Oper.wp Go.wpList Go.Calls Go.Code.wp Go.Sep.Reg
theorem Gr.appL_ok : ∀ (l : List RecD) (G : Gr), G.Ok → G.E.length + l.length < 1000000 → (G.appL l).1.Ok
  | [], G, h, _ => by unfold Gr.appL; exact h
  | x :: l, G, h, hl => by
    simp only [List.length_cons] at hl
    unfold Gr.appL
    have h2 := Gr.appG_ok h (by omega) x.k x.a x.b
    split
    · exact Gr.appL_ok l _ h2 (by have := G.appG_E x.k x.a x.b; omega)
    · exact h2
theorem rd_take {w : World} {ao : Option Addr} {c : Nat} {l : List RecD} (h : Rd w (.slice ao l.length c) l.length 3 (l.flatMap rv)) (i : Nat) (hi : i ≤ l.length) : Rd w (.slice ao (l.take i).length c) (l.take i).length 3 ((l.take i).flatMap rv) := by
  obtain ⟨_, _, he, h1, h2, h3, h5⟩ := h
  simp only [Value.slice.injEq, true_and] at he
  obtain ⟨rfl, rfl⟩ := he
  have hl : (l.take i).length = i := by rw [List.length_take]; omega
  have e : ∀ m : List RecD, (m.flatMap rv).length = m.length * 3 := fun m => by
    induction m with
    | nil => rfl
    | cons x m ih => rw [List.flatMap_cons, List.length_append, ih, List.length_cons]; simp [rv]; omega
  refine ⟨_, _, rfl, by rw [hl]; omega, h2, e _, fun hi0 => ?_⟩
  rw [hl] at hi0
  obtain ⟨b, off, h6, h7⟩ := h5 (by omega)
  refine ⟨b, off, h6, fun j u hu => h7 j u ?_⟩
  have e2 : l.flatMap rv = (l.take i).flatMap rv ++ (l.drop i).flatMap rv := by rw [← List.flatMap_append, List.take_append_drop]
  rw [e2, List.getElem?_append_left (by obtain ⟨h8, _⟩ := List.getElem?_eq_some_iff.1 hu; exact h8)]
  exact hu
theorem satNil {W w : World} {L : List Asrt} (h : Sat W w L) : Sat W w [] := h.map fun _ _ => trivial
set_option maxRecDepth 20000 in
set_option maxHeartbeats 4000000 in
theorem Graphs.short (m : List RecD) (ao : Option Addr) (c : Nat) (W : World) (hr : Rd W (.slice ao m.length c) m.length 3 (m.flatMap rv)) (h80 : m.length ≤ 80) :
    Calls Try.prog 4 #[.slice ao m.length c] W fun e w' => e = .returned (.bool true) ∧ Sat W w' [] := by
  have hS := Sat.start W
  have hrm := hr
  have hN : m.length = m.length := rfl
  have HB := Lib.hid (show m.length ≤ 1000000 by omega)
  have HL80 := Lib.hid (show m.length ≤ 80 by omega)
  have HRM : Hid (∀ u (L' : List Asrt), Sat W u L' → Rd u (.slice ao m.length c) m.length 3 (m.flatMap rv)) := Lib.hid (fun u L' h => by have := hrm.old h; rw [hN] at this; exact this)
  have HRN : Hid (∀ u (L' : List Asrt), Sat W u L' → Rd u (.slice ao m.length c) m.length 3 (m.flatMap rv)) := Lib.hid (fun u L' h => by rw [hN]; exact HRM.out u L' h)
  obtain ⟨_, _, he, hc1, hc2, _, h5⟩ := HRM.out _ _ hS
  simp only [Value.slice.injEq, true_and] at he
  obtain ⟨rfl, rfl⟩ := he
  have H5 := Lib.hid h5
  clear h5
  obtain ⟨⟨GG, nn⟩, hGL⟩ : ∃ x, Gr.new.appL m = x := ⟨_, rfl⟩
  have hnn : nn ≤ 80 := by have := Gr.appL_le m Gr.new; rw [hGL] at this; dsimp only at this; omega
  have HGOK := Lib.hid (show GG.Ok by have := Gr.appL_ok m Gr.new Gr.new_ok (by simp [Gr.new]; omega); rw [hGL] at this; exact this)
  obtain ⟨bb, hbb⟩ : ∃ bb, decide (nn = m.length) = bb := ⟨_, rfl⟩
  have HG1 := Lib.hid (fun w (L : List Asrt) ao1 c1 (h : Sat W w (Tb 53 3 rv (.slice ao1 m.length c1) m :: L)) => (show Calls Try.prog 17 #[.slice ao1 m.length c1] w fun e w' => ∃ p, e = .returned (.tuple #[.pointer (some ⟨p, 0, none⟩), .int .i64 (nn : Nat), .bool bb]) ∧ Sat W w' (IsG p GG :: Tb 53 3 rv (.slice ao1 m.length c1) m :: L) by
    have := graph_any h m _ _ (fun w h => h.tbRd Has.z) (by omega)
    rw [hGL] at this
    dsimp only at this
    rw [hbb] at this
    exact this))
  have HG2 := Lib.hid (fun w (L : List Asrt) (h : Sat W w L) => (show Calls Try.prog 19 #[.slice ao m.length c] w fun e w' => ∃ p, e = .returned (.tuple #[.pointer (some ⟨p, 0, none⟩), .int .i64 (nn : Nat), .bool bb]) ∧ Sat W w' (IsR p GG :: L) by
    have := rgraph_any h m ao c (fun w h => hrm.old h) (by omega)
    rw [hGL] at this
    dsimp only at this
    rw [hbb] at this
    rw [hN] at this
    exact this))
  have HN := Lib.hid hN
  clear hGL hbb hrm hr hN
  have j1 : ¬ (80 : Int) < (m.length : Int) := by omega
  cases bb
  all_goals
    go_enter Try.func4, Try.ntmps4
    go_wp2_with (first
      | (go_at_call 18; refine (records_any hS m _ (HRN.out _ _ hS) HB.out).mono ?_; rintro e w1 ⟨v1, rfl, hS1⟩; clear hS; have hS := hS1; clear hS1; obtain ⟨ao1, c1, rfl, _⟩ := hS.tbShape (k := 0) rfl)
      | (go_at_call 17; refine (HG1.out _ _ _ _ hS).mono ?_; rintro e w1 ⟨p, rfl, hS1⟩; clear hS; have hS := hS1; clear hS1)
      | (go_at_call 19; refine (HG2.out _ _ hS).mono ?_; rintro e w1 ⟨q, rfl, hS1⟩; clear hS; have hS := hS1; clear hS1)
      | (go_at_call 20; refine (sameg_any (hS.re [1, 0]) HGOK.out).mono ?_; rintro e w1 ⟨rfl, hS1⟩; clear hS; have hS := hS1; clear hS1)
      | (go_at_call 21; refine (new_any hS).mono ?_; rintro e w1 ⟨g2, rfl, hS1⟩; clear hS; have hS := hS1; clear hS1)
      | (refine toList (by rfl) ?_; refine bx hS _ _ (by rfl) _ (by first | exact evC | exact evT (by rfl)) ?_; intro q2 w1 hS1; clear hS; have hS := hS1; clear hS1; rw [cells_agg] at hS))
    obtain ⟨LL, H0⟩ : ∃ LL, Hid (Sat W _ (IsG g2 Gr.new :: IsR q2 Gr.new :: IsG p GG :: LL)) := ⟨_, Lib.hid (by
      have h1 := ((hS.tbNil (α := Nat × Nat) (f := ev) (E := 85) (sz := 2)).tbNil (α := NodeD) (f := nv) (E := 32) (sz := 6))
      exact (IsR.mk (G := Gr.new) (h1.re [2, 0, 1])).pull1)⟩
    go_loopw [11] (fun v wz => ∃ (i : Nat) (G : Gr), v = .int .i64 i ∧ i ≤ m.length ∧ G.Ok ∧ G.E.length ≤ i ∧ Sat W wz (IsG g2 G :: IsR q2 G :: IsG p GG :: LL)) (fun v _ => m.length - (intOf v).toNat)
    case atStart => exact ⟨0, Gr.new, rfl, by omega, Gr.new_ok, Nat.le_refl _, H0.out⟩
    case round =>
      clear hS H0
      obtain ⟨i, G, rfl, hi, hok, hel, hS⟩ := hrel
      have HOK := Lib.hid hok
      have HEL := Lib.hid hel
      clear hok hel
      by_cases hlt : i < m.length
      · obtain ⟨b, off, rfl, _⟩ := H5.out (by omega)
        obtain ⟨⟨xk, xa, xb⟩, hx⟩ : ∃ x, m[i]? = some x := ⟨_, List.getElem?_eq_getElem (by have := HN.out; omega)⟩
        have k1 : (i : Int) < (m.length : Nat) := by omega
        have HX := Lib.hid hx
        have HLT := Lib.hid hlt
        have HA := Lib.hid (fun w (L : List Asrt) (h2 : Sat W w (IsG g2 G :: L)) => apply_any h2 HOK.out xk xa xb)
        have HC := Lib.hid (fun w (L : List Asrt) (h2 : Sat W w (IsR q2 G :: L)) => rapply_any h2 HOK.out (by have := HEL.out; have := HN.out; have := HB.out; have := HL80.out; omega) xk xa xb)
        have HOK2 := Lib.hid (Gr.appG_ok HOK.out (by have := HEL.out; have := HL80.out; omega) xk xa xb)
        have HE2 := Lib.hid (show (G.appG xk xa xb).E.length ≤ i + 1 by have := G.appG_E xk xa xb; have := HEL.out; omega)
        obtain ⟨G2, hG2⟩ : ∃ G2, G.appG xk xa xb = G2 := ⟨_, rfl⟩
        obtain ⟨E, hE⟩ : ∃ E, G.appE xk xa xb = E := ⟨_, rfl⟩
        rw [hG2] at HA HC HOK2 HE2
        rw [hE] at HA HC
        clear hx hG2 hE hlt
        go_wp2
        refine regStart2 [11] hS (fun _ h => h.one (Has.s (Has.s Has.z))) (by kernel_rfl) rfl ?_
        intro w1 hS1
        clear hS; have hS := hS1; clear hS1
        (refine regP 0 hS (fun _ h => h.one (Has.s (Has.s Has.z))) rfl (by kernel_rfl) (by kernel_rfl) (by kernel_rfl) (fun _ _ _ _ h => h) (by rfl) (by rfl) ?_; apply Exists.intro; apply And.intro; (intro w; go_simp; try with_reducible rfl); (simp only [Act.put, List.setIfInBounds_toArray, List.set_cons_zero, List.set_cons_succ]))
        (refine regP 1 hS (fun _ h => h.one (Has.s (Has.s Has.z))) rfl (by kernel_rfl) (by kernel_rfl) (by kernel_rfl) (fun _ _ _ _ h => h) (by rfl) (by rfl) ?_; apply Exists.intro; apply And.intro; (intro w; go_simp; try with_reducible rfl); (simp only [Act.put, List.setIfInBounds_toArray, List.set_cons_zero, List.set_cons_succ]))
        (refine regP 2 hS (fun _ h => h.one (Has.s (Has.s Has.z))) rfl (by kernel_rfl) (by kernel_rfl) (by kernel_rfl) (fun _ _ _ _ h => h) (by rfl) (by rfl) ?_; apply Exists.intro; apply And.intro; (intro w; go_simp; try with_reducible rfl); (simp only [Act.put, List.setIfInBounds_toArray, List.set_cons_zero, List.set_cons_succ]))
        (refine regP 3 hS (fun _ h => h.one (Has.s (Has.s Has.z))) rfl (by kernel_rfl) (by kernel_rfl) (by kernel_rfl) (fun _ _ _ _ h => h) (by rfl) (by rfl) ?_; apply Exists.intro; apply And.intro; (intro w; go_simp; try with_reducible rfl); (simp only [Act.put, List.setIfInBounds_toArray, List.set_cons_zero, List.set_cons_succ]))
        (refine regR 4 hS (fun _ h => h.one (Has.s (Has.s Has.z))) rfl (by kernel_rfl) (by kernel_rfl) (by kernel_rfl) (by kernel_rfl) (by kernel_rfl) (fun _ _ _ _ h => h) (by rfl) (by rfl) ?_; (first
                          | refine ⟨.agg #[.int .i64 xk, .int .i64 xa, .int .i64 xb], fun u hu => rLdRdA (f := rv) (x := ⟨xk, xa, xb⟩) (HRM.out _ _ hu) (rv_len m) _ _ (by rfl) _ (by rfl) (agOf (by rfl)) (szOf (by rfl)) i (by omega) HX.out (by omega), ?_⟩); (simp only [Act.put, List.setIfInBounds_toArray, List.set_cons_zero, List.set_cons_succ]))
        (refine regP 6 hS (fun _ h => h.one (Has.s (Has.s Has.z))) rfl (by kernel_rfl) (by kernel_rfl) (by kernel_rfl) (fun _ _ _ _ h => h) (by rfl) (by rfl) ?_; apply Exists.intro; apply And.intro; (intro w; go_simp; try with_reducible rfl); (simp only [Act.put, List.setIfInBounds_toArray, List.set_cons_zero, List.set_cons_succ]))
        (refine regP 7 hS (fun _ h => h.one (Has.s (Has.s Has.z))) rfl (by kernel_rfl) (by kernel_rfl) (by kernel_rfl) (fun _ _ _ _ h => h) (by rfl) (by rfl) ?_; apply Exists.intro; apply And.intro; (intro w; go_simp; try with_reducible rfl); (simp only [Act.put, List.setIfInBounds_toArray, List.set_cons_zero, List.set_cons_succ]))
        (refine regP 8 hS (fun _ h => h.one (Has.s (Has.s Has.z))) rfl (by kernel_rfl) (by kernel_rfl) (by kernel_rfl) (fun _ _ _ _ h => h) (by rfl) (by rfl) ?_; apply Exists.intro; apply And.intro; (intro w; go_simp; try with_reducible rfl); (simp only [Act.put, List.setIfInBounds_toArray, List.set_cons_zero, List.set_cons_succ]))
        (refine regP 9 hS (fun _ h => h.one (Has.s (Has.s Has.z))) rfl (by kernel_rfl) (by kernel_rfl) (by kernel_rfl) (fun _ _ _ _ h => h) (by rfl) (by rfl) ?_; apply Exists.intro; apply And.intro; (intro w; go_simp; try with_reducible rfl); (simp only [Act.put, List.setIfInBounds_toArray, List.set_cons_zero, List.set_cons_succ]))
        (refine regR 10 hS (fun _ h => h.one (Has.s (Has.s Has.z))) rfl (by kernel_rfl) (by kernel_rfl) (by kernel_rfl) (by kernel_rfl) (by kernel_rfl) (fun _ _ _ _ h => h) (by rfl) (by rfl) ?_; (first
                          | refine ⟨.agg #[.int .i64 xk, .int .i64 xa, .int .i64 xb], fun u hu => rLdRdA (f := rv) (x := ⟨xk, xa, xb⟩) (HRM.out _ _ hu) (rv_len m) _ _ (by rfl) _ (by rfl) (agOf (by rfl)) (szOf (by rfl)) i (by omega) HX.out (by omega), ?_⟩); (simp only [Act.put, List.setIfInBounds_toArray, List.set_cons_zero, List.set_cons_succ]))
        (refine regA 5 rfl (by kernel_rfl) (by rfl) (by rfl) false (by kernel_rfl) (fun K hK => ?_); (first
                          | (refine Go.Sep.cl 22 _ _ (by rfl) (by rfl) (by kernel_rfl) (Calls.atS hS (k := 0) rfl (fun hF => HA.out _ _ hF)) ?_; rintro e w1 ⟨rfl, hS1⟩; clear hS; have hS := hS1; clear hS1; dsimp only [List.set_cons_zero, List.set_cons_succ] at hS; refine ⟨_, rfl, ?_⟩)
                          | (refine Go.Sep.cl 23 _ _ (by rfl) (by rfl) (by kernel_rfl) (Calls.atS hS (k := 1) rfl (fun hF => HC.out _ _ hF)) ?_; rintro e w1 ⟨rfl, hS1⟩; clear hS; have hS := hS1; clear hS1; dsimp only [List.set_cons_zero, List.set_cons_succ] at hS; refine ⟨_, rfl, ?_⟩)); refine hK _ _ _ (hS.upTo (fun _ h => by first | exact h.one Has.z | exact h.one (Has.s Has.z) | exact h.one (Has.s (Has.s Has.z)) | exact h.one (Has.s (Has.s (Has.s Has.z))) | exact h | exact h.drop | exact h.drop.drop | exact h.drop.drop.drop | exact h.drop.drop.drop.drop)) (fun _ _ h => h) ?_; clear hK K; (simp only [Act.put, List.setIfInBounds_toArray, List.set_cons_zero, List.set_cons_succ]))
        (refine regA 11 rfl (by kernel_rfl) (by rfl) (by rfl) true (by kernel_rfl) (fun K hK => ?_); (first
                          | (refine Go.Sep.cl 22 _ _ (by rfl) (by rfl) (by kernel_rfl) (Calls.atS hS (k := 0) rfl (fun hF => HA.out _ _ hF)) ?_; rintro e w1 ⟨rfl, hS1⟩; clear hS; have hS := hS1; clear hS1; dsimp only [List.set_cons_zero, List.set_cons_succ] at hS; refine ⟨_, rfl, ?_⟩)
                          | (refine Go.Sep.cl 23 _ _ (by rfl) (by rfl) (by kernel_rfl) (Calls.atS hS (k := 1) rfl (fun hF => HC.out _ _ hF)) ?_; rintro e w1 ⟨rfl, hS1⟩; clear hS; have hS := hS1; clear hS1; dsimp only [List.set_cons_zero, List.set_cons_succ] at hS; refine ⟨_, rfl, ?_⟩)); refine hK _ _ _ hS (by first | (intro h; cases h; done) | exact fun _ _ h => h | exact fun _ _ h => h.drop | exact fun _ _ h => h.drop.drop | exact fun _ _ h => h.drop.pull1 | exact fun _ _ h => h.take2 | exact fun _ _ h => h.one Has.z | exact fun _ _ h => h.one (Has.s Has.z) | exact fun _ _ h => h.one (Has.s (Has.s Has.z))) ?_; clear hK K; (simp only [Act.put, List.setIfInBounds_toArray, List.set_cons_zero, List.set_cons_succ]))
        (refine regP 12 hS (fun _ h => h) rfl (by kernel_rfl) (by kernel_rfl) (by kernel_rfl) (fun _ _ _ _ h => h) (by rfl) (by rfl) ?_; apply Exists.intro; apply And.intro; (intro w; go_simp; try with_reducible rfl); (simp only [Act.put, List.setIfInBounds_toArray, List.set_cons_zero, List.set_cons_succ]))
        refine regDone (by kernel_rfl) ?_
        go_wp2
        exact ⟨⟨i + 1, G2, by go_num, HLT.out, HOK2.out, HE2.out, hS⟩, by simp [intOf]; have := HLT.out; omega⟩
      · have k1 : ¬ (i : Int) < (m.length : Nat) := by omega
        have HSG := Lib.hid (fun w (L : List Asrt) (h2 : Sat W w (IsG g2 G :: IsR q2 G :: L)) => sameg_any h2 HOK.out)
        clear hlt
        go_wp2_with (first
          | (go_at_call 20; refine (HSG.out _ _ hS).mono ?_; rintro e w1 ⟨rfl, hS1⟩; clear hS; have hS := hS1; clear hS1)
          | (go_at_call 24; refine (awake_any hS).mono ?_; rintro e w1 ⟨rfl, hS1⟩; clear hS; have hS := hS1; clear hS1))
        go_ret
        exact ⟨by simp, satNil hS⟩
set_option maxRecDepth 20000 in
set_option maxHeartbeats 4000000 in
theorem Graphs.long (l : List RecD) (ao : Option Addr) (c : Nat) (W : World) (hr : Rd W (.slice ao l.length c) l.length 3 (l.flatMap rv)) (h80 : 80 < l.length) :
    Calls Try.prog 4 #[.slice ao l.length c] W fun e w' => e = .returned (.bool true) ∧ Sat W w' [] := by
  have hS := Sat.start W
  have hrm := rd_take hr 80 (by omega)
  obtain ⟨m, hm⟩ : ∃ m, l.take 80 = m := ⟨_, rfl⟩
  have hN : m.length = 80 := by rw [← hm, List.length_take]; omega
  rw [hm] at hrm
  clear hm
  obtain ⟨_, _, he0, hcl, _, _, _⟩ := hr
  simp only [Value.slice.injEq, true_and] at he0
  obtain ⟨rfl, rfl⟩ := he0
  have hr := hN
  have HB := Lib.hid (show m.length ≤ 1000000 by omega)
  have HL80 := Lib.hid (show 80 ≤ 80 by omega)
  have HRM : Hid (∀ u (L' : List Asrt), Sat W u L' → Rd u (.slice ao 80 c) 80 3 (m.flatMap rv)) := Lib.hid (fun u L' h => by have := hrm.old h; rw [hN] at this; exact this)
  have HRN : Hid (∀ u (L' : List Asrt), Sat W u L' → Rd u (.slice ao 80 c) m.length 3 (m.flatMap rv)) := Lib.hid (fun u L' h => by rw [hN]; exact HRM.out u L' h)
  obtain ⟨_, _, he, hc1, hc2, _, h5⟩ := HRM.out _ _ hS
  simp only [Value.slice.injEq, true_and] at he
  obtain ⟨rfl, rfl⟩ := he
  have H5 := Lib.hid h5
  clear h5
  obtain ⟨⟨GG, nn⟩, hGL⟩ : ∃ x, Gr.new.appL m = x := ⟨_, rfl⟩
  have hnn : nn ≤ 80 := by have := Gr.appL_le m Gr.new; rw [hGL] at this; dsimp only at this; omega
  have HGOK := Lib.hid (show GG.Ok by have := Gr.appL_ok m Gr.new Gr.new_ok (by simp [Gr.new]; omega); rw [hGL] at this; exact this)
  obtain ⟨bb, hbb⟩ : ∃ bb, decide (nn = m.length) = bb := ⟨_, rfl⟩
  have HG1 := Lib.hid (fun w (L : List Asrt) ao1 c1 (h : Sat W w (Tb 53 3 rv (.slice ao1 m.length c1) m :: L)) => (show Calls Try.prog 17 #[.slice ao1 m.length c1] w fun e w' => ∃ p, e = .returned (.tuple #[.pointer (some ⟨p, 0, none⟩), .int .i64 (nn : Nat), .bool bb]) ∧ Sat W w' (IsG p GG :: Tb 53 3 rv (.slice ao1 m.length c1) m :: L) by
    have := graph_any h m _ _ (fun w h => h.tbRd Has.z) (by omega)
    rw [hGL] at this
    dsimp only at this
    rw [hbb] at this
    exact this))
  have HG2 := Lib.hid (fun w (L : List Asrt) (h : Sat W w L) => (show Calls Try.prog 19 #[.slice ao 80 c] w fun e w' => ∃ p, e = .returned (.tuple #[.pointer (some ⟨p, 0, none⟩), .int .i64 (nn : Nat), .bool bb]) ∧ Sat W w' (IsR p GG :: L) by
    have := rgraph_any h m ao c (fun w h => hrm.old h) (by omega)
    rw [hGL] at this
    dsimp only at this
    rw [hbb] at this
    rw [hN] at this
    exact this))
  have HN := Lib.hid hN
  clear hGL hbb hrm hr hN
  have j1 : (80 : Int) < (l.length : Int) := by omega
  cases bb
  all_goals
    go_enter Try.func4, Try.ntmps4
    go_wp2_with (first
      | (go_at_call 18; refine (records_any hS m _ (HRN.out _ _ hS) HB.out).mono ?_; rintro e w1 ⟨v1, rfl, hS1⟩; clear hS; have hS := hS1; clear hS1; obtain ⟨ao1, c1, rfl, _⟩ := hS.tbShape (k := 0) rfl)
      | (go_at_call 17; refine (HG1.out _ _ _ _ hS).mono ?_; rintro e w1 ⟨p, rfl, hS1⟩; clear hS; have hS := hS1; clear hS1)
      | (go_at_call 19; refine (HG2.out _ _ hS).mono ?_; rintro e w1 ⟨q, rfl, hS1⟩; clear hS; have hS := hS1; clear hS1)
      | (go_at_call 20; refine (sameg_any (hS.re [1, 0]) HGOK.out).mono ?_; rintro e w1 ⟨rfl, hS1⟩; clear hS; have hS := hS1; clear hS1)
      | (go_at_call 21; refine (new_any hS).mono ?_; rintro e w1 ⟨g2, rfl, hS1⟩; clear hS; have hS := hS1; clear hS1)
      | (refine toList (by rfl) ?_; refine bx hS _ _ (by rfl) _ (by first | exact evC | exact evT (by rfl)) ?_; intro q2 w1 hS1; clear hS; have hS := hS1; clear hS1; rw [cells_agg] at hS))
    obtain ⟨LL, H0⟩ : ∃ LL, Hid (Sat W _ (IsG g2 Gr.new :: IsR q2 Gr.new :: IsG p GG :: LL)) := ⟨_, Lib.hid (by
      have h1 := ((hS.tbNil (α := Nat × Nat) (f := ev) (E := 85) (sz := 2)).tbNil (α := NodeD) (f := nv) (E := 32) (sz := 6))
      exact (IsR.mk (G := Gr.new) (h1.re [2, 0, 1])).pull1)⟩
    go_loopw [11] (fun v wz => ∃ (i : Nat) (G : Gr), v = .int .i64 i ∧ i ≤ 80 ∧ G.Ok ∧ G.E.length ≤ i ∧ Sat W wz (IsG g2 G :: IsR q2 G :: IsG p GG :: LL)) (fun v _ => 80 - (intOf v).toNat)
    case atStart => exact ⟨0, Gr.new, rfl, by omega, Gr.new_ok, Nat.le_refl _, H0.out⟩
    case round =>
      clear hS H0
      obtain ⟨i, G, rfl, hi, hok, hel, hS⟩ := hrel
      have HOK := Lib.hid hok
      have HEL := Lib.hid hel
      clear hok hel
      by_cases hlt : i < 80
      · obtain ⟨b, off, rfl, _⟩ := H5.out (by omega)
        obtain ⟨⟨xk, xa, xb⟩, hx⟩ : ∃ x, m[i]? = some x := ⟨_, List.getElem?_eq_getElem (by have := HN.out; omega)⟩
        have k1 : (i : Int) < (80 : Nat) := by omega
        have HX := Lib.hid hx
        have HLT := Lib.hid hlt
        have HA := Lib.hid (fun w (L : List Asrt) (h2 : Sat W w (IsG g2 G :: L)) => apply_any h2 HOK.out xk xa xb)
        have HC := Lib.hid (fun w (L : List Asrt) (h2 : Sat W w (IsR q2 G :: L)) => rapply_any h2 HOK.out (by have := HEL.out; have := HN.out; have := HB.out; have := HL80.out; omega) xk xa xb)
        have HOK2 := Lib.hid (Gr.appG_ok HOK.out (by have := HEL.out; have := HL80.out; omega) xk xa xb)
        have HE2 := Lib.hid (show (G.appG xk xa xb).E.length ≤ i + 1 by have := G.appG_E xk xa xb; have := HEL.out; omega)
        obtain ⟨G2, hG2⟩ : ∃ G2, G.appG xk xa xb = G2 := ⟨_, rfl⟩
        obtain ⟨E, hE⟩ : ∃ E, G.appE xk xa xb = E := ⟨_, rfl⟩
        rw [hG2] at HA HC HOK2 HE2
        rw [hE] at HA HC
        clear hx hG2 hE hlt
        go_wp2
        refine regStart2 [11] hS (fun _ h => h.one (Has.s (Has.s Has.z))) (by kernel_rfl) rfl ?_
        intro w1 hS1
        clear hS; have hS := hS1; clear hS1
        (refine regP 0 hS (fun _ h => h.one (Has.s (Has.s Has.z))) rfl (by kernel_rfl) (by kernel_rfl) (by kernel_rfl) (fun _ _ _ _ h => h) (by rfl) (by rfl) ?_; apply Exists.intro; apply And.intro; (intro w; go_simp; try with_reducible rfl); (simp only [Act.put, List.setIfInBounds_toArray, List.set_cons_zero, List.set_cons_succ]))
        (refine regP 1 hS (fun _ h => h.one (Has.s (Has.s Has.z))) rfl (by kernel_rfl) (by kernel_rfl) (by kernel_rfl) (fun _ _ _ _ h => h) (by rfl) (by rfl) ?_; apply Exists.intro; apply And.intro; (intro w; go_simp; try with_reducible rfl); (simp only [Act.put, List.setIfInBounds_toArray, List.set_cons_zero, List.set_cons_succ]))
        (refine regP 2 hS (fun _ h => h.one (Has.s (Has.s Has.z))) rfl (by kernel_rfl) (by kernel_rfl) (by kernel_rfl) (fun _ _ _ _ h => h) (by rfl) (by rfl) ?_; apply Exists.intro; apply And.intro; (intro w; go_simp; try with_reducible rfl); (simp only [Act.put, List.setIfInBounds_toArray, List.set_cons_zero, List.set_cons_succ]))
        (refine regP 3 hS (fun _ h => h.one (Has.s (Has.s Has.z))) rfl (by kernel_rfl) (by kernel_rfl) (by kernel_rfl) (fun _ _ _ _ h => h) (by rfl) (by rfl) ?_; apply Exists.intro; apply And.intro; (intro w; go_simp; try with_reducible rfl); (simp only [Act.put, List.setIfInBounds_toArray, List.set_cons_zero, List.set_cons_succ]))
        (refine regR 4 hS (fun _ h => h.one (Has.s (Has.s Has.z))) rfl (by kernel_rfl) (by kernel_rfl) (by kernel_rfl) (by kernel_rfl) (by kernel_rfl) (fun _ _ _ _ h => h) (by rfl) (by rfl) ?_; (first
                          | refine ⟨.agg #[.int .i64 xk, .int .i64 xa, .int .i64 xb], fun u hu => rLdRdA (f := rv) (x := ⟨xk, xa, xb⟩) (HRM.out _ _ hu) (rv_len m) _ _ (by rfl) _ (by rfl) (agOf (by rfl)) (szOf (by rfl)) i (by omega) HX.out (by omega), ?_⟩); (simp only [Act.put, List.setIfInBounds_toArray, List.set_cons_zero, List.set_cons_succ]))
        (refine regP 6 hS (fun _ h => h.one (Has.s (Has.s Has.z))) rfl (by kernel_rfl) (by kernel_rfl) (by kernel_rfl) (fun _ _ _ _ h => h) (by rfl) (by rfl) ?_; apply Exists.intro; apply And.intro; (intro w; go_simp; try with_reducible rfl); (simp only [Act.put, List.setIfInBounds_toArray, List.set_cons_zero, List.set_cons_succ]))
        (refine regP 7 hS (fun _ h => h.one (Has.s (Has.s Has.z))) rfl (by kernel_rfl) (by kernel_rfl) (by kernel_rfl) (fun _ _ _ _ h => h) (by rfl) (by rfl) ?_; apply Exists.intro; apply And.intro; (intro w; go_simp; try with_reducible rfl); (simp only [Act.put, List.setIfInBounds_toArray, List.set_cons_zero, List.set_cons_succ]))
        (refine regP 8 hS (fun _ h => h.one (Has.s (Has.s Has.z))) rfl (by kernel_rfl) (by kernel_rfl) (by kernel_rfl) (fun _ _ _ _ h => h) (by rfl) (by rfl) ?_; apply Exists.intro; apply And.intro; (intro w; go_simp; try with_reducible rfl); (simp only [Act.put, List.setIfInBounds_toArray, List.set_cons_zero, List.set_cons_succ]))
        (refine regP 9 hS (fun _ h => h.one (Has.s (Has.s Has.z))) rfl (by kernel_rfl) (by kernel_rfl) (by kernel_rfl) (fun _ _ _ _ h => h) (by rfl) (by rfl) ?_; apply Exists.intro; apply And.intro; (intro w; go_simp; try with_reducible rfl); (simp only [Act.put, List.setIfInBounds_toArray, List.set_cons_zero, List.set_cons_succ]))
        (refine regR 10 hS (fun _ h => h.one (Has.s (Has.s Has.z))) rfl (by kernel_rfl) (by kernel_rfl) (by kernel_rfl) (by kernel_rfl) (by kernel_rfl) (fun _ _ _ _ h => h) (by rfl) (by rfl) ?_; (first
                          | refine ⟨.agg #[.int .i64 xk, .int .i64 xa, .int .i64 xb], fun u hu => rLdRdA (f := rv) (x := ⟨xk, xa, xb⟩) (HRM.out _ _ hu) (rv_len m) _ _ (by rfl) _ (by rfl) (agOf (by rfl)) (szOf (by rfl)) i (by omega) HX.out (by omega), ?_⟩); (simp only [Act.put, List.setIfInBounds_toArray, List.set_cons_zero, List.set_cons_succ]))
        (refine regA 5 rfl (by kernel_rfl) (by rfl) (by rfl) false (by kernel_rfl) (fun K hK => ?_); (first
                          | (refine Go.Sep.cl 22 _ _ (by rfl) (by rfl) (by kernel_rfl) (Calls.atS hS (k := 0) rfl (fun hF => HA.out _ _ hF)) ?_; rintro e w1 ⟨rfl, hS1⟩; clear hS; have hS := hS1; clear hS1; dsimp only [List.set_cons_zero, List.set_cons_succ] at hS; refine ⟨_, rfl, ?_⟩)
                          | (refine Go.Sep.cl 23 _ _ (by rfl) (by rfl) (by kernel_rfl) (Calls.atS hS (k := 1) rfl (fun hF => HC.out _ _ hF)) ?_; rintro e w1 ⟨rfl, hS1⟩; clear hS; have hS := hS1; clear hS1; dsimp only [List.set_cons_zero, List.set_cons_succ] at hS; refine ⟨_, rfl, ?_⟩)); refine hK _ _ _ (hS.upTo (fun _ h => by first | exact h.one Has.z | exact h.one (Has.s Has.z) | exact h.one (Has.s (Has.s Has.z)) | exact h.one (Has.s (Has.s (Has.s Has.z))) | exact h | exact h.drop | exact h.drop.drop | exact h.drop.drop.drop | exact h.drop.drop.drop.drop)) (fun _ _ h => h) ?_; clear hK K; (simp only [Act.put, List.setIfInBounds_toArray, List.set_cons_zero, List.set_cons_succ]))
        (refine regA 11 rfl (by kernel_rfl) (by rfl) (by rfl) true (by kernel_rfl) (fun K hK => ?_); (first
                          | (refine Go.Sep.cl 22 _ _ (by rfl) (by rfl) (by kernel_rfl) (Calls.atS hS (k := 0) rfl (fun hF => HA.out _ _ hF)) ?_; rintro e w1 ⟨rfl, hS1⟩; clear hS; have hS := hS1; clear hS1; dsimp only [List.set_cons_zero, List.set_cons_succ] at hS; refine ⟨_, rfl, ?_⟩)
                          | (refine Go.Sep.cl 23 _ _ (by rfl) (by rfl) (by kernel_rfl) (Calls.atS hS (k := 1) rfl (fun hF => HC.out _ _ hF)) ?_; rintro e w1 ⟨rfl, hS1⟩; clear hS; have hS := hS1; clear hS1; dsimp only [List.set_cons_zero, List.set_cons_succ] at hS; refine ⟨_, rfl, ?_⟩)); refine hK _ _ _ hS (by first | (intro h; cases h; done) | exact fun _ _ h => h | exact fun _ _ h => h.drop | exact fun _ _ h => h.drop.drop | exact fun _ _ h => h.drop.pull1 | exact fun _ _ h => h.take2 | exact fun _ _ h => h.one Has.z | exact fun _ _ h => h.one (Has.s Has.z) | exact fun _ _ h => h.one (Has.s (Has.s Has.z))) ?_; clear hK K; (simp only [Act.put, List.setIfInBounds_toArray, List.set_cons_zero, List.set_cons_succ]))
        (refine regP 12 hS (fun _ h => h) rfl (by kernel_rfl) (by kernel_rfl) (by kernel_rfl) (fun _ _ _ _ h => h) (by rfl) (by rfl) ?_; apply Exists.intro; apply And.intro; (intro w; go_simp; try with_reducible rfl); (simp only [Act.put, List.setIfInBounds_toArray, List.set_cons_zero, List.set_cons_succ]))
        refine regDone (by kernel_rfl) ?_
        go_wp2
        exact ⟨⟨i + 1, G2, by go_num, HLT.out, HOK2.out, HE2.out, hS⟩, by simp [intOf]; have := HLT.out; omega⟩
      · have k1 : ¬ (i : Int) < (80 : Nat) := by omega
        have HSG := Lib.hid (fun w (L : List Asrt) (h2 : Sat W w (IsG g2 G :: IsR q2 G :: L)) => sameg_any h2 HOK.out)
        clear hlt
        go_wp2_with (first
          | (go_at_call 20; refine (HSG.out _ _ hS).mono ?_; rintro e w1 ⟨rfl, hS1⟩; clear hS; have hS := hS1; clear hS1)
          | (go_at_call 24; refine (awake_any hS).mono ?_; rintro e w1 ⟨rfl, hS1⟩; clear hS; have hS := hS1; clear hS1))
        go_ret
        exact ⟨by simp, satNil hS⟩
theorem Graphs.walk (l : List RecD) (ao : Option Addr) (c : Nat) (W : World) (hr : Rd W (.slice ao l.length c) l.length 3 (l.flatMap rv)) :
    Calls Try.prog 4 #[.slice ao l.length c] W fun e w' => e = .returned (.bool true) ∧ Sat W w' [] := by
  by_cases h : l.length ≤ 80
  · exact Graphs.short l ao c W hr h
  · exact Graphs.long l ao c W hr (by omega)

set_option maxRecDepth 100000 in
theorem Graphs.contract (H : Type) (enc : TypeId × Value → H) (W : World) (base : Nat) (args : Array Value) (ds gs : List (DataW H)) (before : List MemPlace)
    (hval : ∀ (j : Nat) t v, Try.f4.params[j]? = some t → args[j]? = some v → Value.okWide Try.prog W .any base t v)
    (hW : DataW.Whole enc Try.prog Try.f4.params.toList Rows.recordGraphsSpec.vars false W args.toList ds gs before)
    (hreach : (DataW.weightsEach Try.prog (Try.f4.params.toList ++ Rows.recordGraphsSpec.plain.varTypes Try.prog) (ds ++ gs)).all (· ≤ reachBytes) = true) :
    Calls Try.prog 4 args W fun e W' => ∃ v, e = .returned v ∧ Rows.recordGraphsSpec.post enc Try.prog Try.f4 false true false false W args v W' := by
  have hW' := hW
  obtain ⟨p, q, hA, hV, rfl, hfz, hnd⟩ := hW
  rw [Try.params4] at hA hval hreach
  obtain ⟨v0, vs0, d0, ds0, p0, q0, hargs, rfl, rfl, h0, r0⟩ := trodAll_cons hA
  obtain ⟨rfl, rfl, rfl⟩ := trodAll_nil r0
  obtain rfl : args = #[v0] := by cases args; simp_all
  obtain ⟨rfl, rfl⟩ := trodVars_none hV
  obtain ⟨ao0, len0, cap0, rfl⟩ := okWide_slice Try.underlying39 (hval 0 39 v0 rfl rfl)
  obtain ⟨l, rfl, hr0, hl0⟩ := open_recs h0
  refine (Graphs.walk l ao0 cap0 W hr0).mono ?_
  refine fun e W' ⟨he, hS⟩ => ?_
  subst he
  exact ⟨_, rfl, law_post (tb := 4) (by kernel_rfl) (by kernel_rfl) rfl Try.underlying4 rfl hW' rfl hS⟩

theorem Graphs.own : ownKnob Try.prog.godebug = none := by kernel_rfl
set_option maxRecDepth 100000 in
theorem Graphs.lifted (os : Os) (started : os.Started) (H : Type) (enc : TypeId × Value → H) :
    ReturnsInHanded {} Try.checked os 4 .any (Rows.recordGraphsSpec.pre6 enc Try.prog Try.f4 Rows.recordGraphsRow.domain false) (Rows.recordGraphsSpec.post enc Try.prog Try.f4 false true false false) := by
  refine returnsInHanded_of_change_shaped (C := Try.checked) Graphs.own started (by kernel_rfl) Try.func4
    (ChangeSpec.witness6 (enc := enc) (C := Try.checked) false ⟨#[], #[.slice none 0 0], []⟩ 8 (by kernel_rfl) (by kernel_rfl) (by kernel_rfl) (by kernel_rfl)) ?_
  intro W base args ds gs before hval hW _ hreach _ _
  exact Graphs.contract H enc W base args ds gs before hval hW hreach

theorem Graphs.holds : Rows.RecordGraphsSaid :=
  OpenClaim.holds_of_wide 4 Try.f4 rfl rfl rfl rfl rfl rfl rfl ⟨rfl, rfl, rfl, rfl, rfl⟩ rfl rfl rfl rfl rfl (by kernel_rfl) Try.func4 (by kernel_rfl)
    (of_decide_eq_true (by kernel_rfl)) (by unfold Func.isWrapper; first | (rw [if_pos (by decide +kernel)]; kernel_rfl) | (rw [if_neg (by decide +kernel)]; exact ⟨rfl, rfl⟩))
    (fun os started H enc _ => Graphs.lifted os started H enc)
end Go.Proofs.Ytapodjhkpahdnaa
