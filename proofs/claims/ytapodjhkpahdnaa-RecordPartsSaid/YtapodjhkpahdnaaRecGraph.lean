/-
  Packages record, pedigreeref21: contracts of Graph (what records do to a new graph).
-/
import Derived.Test.YtapodjhkpahdnaaRecApply
import Derived.Test.YtapodjhkpahdnaaRecBase
namespace Go.Proofs.Ytapodjhkpahdnaa
open Go.RowKit Go.Sep
set_option linter.unusedSimpArgs false
set_option linter.unusedVariables false
attribute [local irreducible] Go.Oper.wp Go.wpList Go.Calls Go.Code.wp Go.Sep.Reg
/-- What records do, one after the other, up to the first that may not be; how many were done. -/
noncomputable def Gr.appL : Gr → List RecD → Gr × Nat
  | G, [] => (G, 0)
  | G, x :: l => if G.appE x.k x.a x.b = 0 then ((Gr.appL (G.appG x.k x.a x.b) l).1, (Gr.appL (G.appG x.k x.a x.b) l).2 + 1) else (G.appG x.k x.a x.b, 0)
theorem Gr.appL_le : ∀ (l : List RecD) (G : Gr), (G.appL l).2 ≤ l.length
  | [], G => by simp [Gr.appL]
  | x :: l, G => by
    unfold Gr.appL
    split
    · have := Gr.appL_le l (G.appG x.k x.a x.b)
      simp only [List.length_cons]; omega
    · simp
theorem Gr.appL_yes {G : Gr} {l : List RecD} {i : Nat} {x : RecD} (hx : l[i]? = some x) (he : G.appE x.k x.a x.b = 0) :
    G.appL (l.drop i) = (((G.appG x.k x.a x.b).appL (l.drop (i + 1))).1, ((G.appG x.k x.a x.b).appL (l.drop (i + 1))).2 + 1) := by
  obtain ⟨hi, rfl⟩ := List.getElem?_eq_some_iff.1 hx
  rw [List.drop_eq_getElem_cons hi, Gr.appL, if_pos he]
theorem Gr.appL_no {G : Gr} {l : List RecD} {i : Nat} {x : RecD} (hx : l[i]? = some x) (he : G.appE x.k x.a x.b ≠ 0) :
    G.appL (l.drop i) = (G.appG x.k x.a x.b, 0) := by
  obtain ⟨hi, rfl⟩ := List.getElem?_eq_some_iff.1 hx
  rw [List.drop_eq_getElem_cons hi, Gr.appL, if_neg he]
set_option maxRecDepth 20000 in
set_option maxHeartbeats 1000000 in
theorem graph_any {W w : World} {L : List Asrt} (hS : Sat W w L) (l : List RecD) (ao : Option Addr) (c : Nat) (hr : ∀ w, Sat W w L → Rd w (.slice ao l.length c) l.length 3 (l.flatMap rv)) (hb : l.length ≤ 900000) :
    Calls Try.prog 17 #[.slice ao l.length c] w fun e w' => ∃ p, e = .returned (.tuple #[.pointer (some ⟨p, 0, none⟩), .int .i64 ((Gr.new.appL l).2 : Nat), .bool (decide ((Gr.new.appL l).2 = l.length))]) ∧ Sat W w' (IsG p (Gr.new.appL l).1 :: L) := by
  have HR : Hid (∀ w, Sat W w L → Rd w (.slice ao l.length c) l.length 3 (l.flatMap rv)) := Lib.hid hr
  obtain ⟨_, _, he, hc1, hc2, _, h5⟩ := hr w hS
  simp only [Value.slice.injEq, true_and] at he
  obtain ⟨rfl, rfl⟩ := he
  clear hr
  have H5 := Lib.hid h5
  clear h5
  have i5 : (l.length : Int) ≤ 1000000 := by omega
  obtain ⟨Gl, hGl⟩ : ∃ Gl, Gr.new.appL l = Gl := ⟨_, rfl⟩
  rw [hGl]
  have HGL := Lib.hid hGl
  clear hGl
  go_enter Try.func17, Try.ntmps17
  go_wp2_with (first
    | (go_at_call 21; refine (new_any hS).mono ?_; rintro e w1 ⟨p, rfl, hS1⟩; clear hS; have hS := hS1; clear hS1))
  have H0 := Lib.hid hS
  go_loopw [11] (fun v wz => ∃ (i : Nat) (G : Gr), v = .int .i64 i ∧ i ≤ l.length ∧ G.Ok ∧ G.E.length ≤ i ∧ Gl = ((G.appL (l.drop i)).1, (G.appL (l.drop i)).2 + i) ∧ Sat W wz (IsG p G :: L)) (fun v _ => l.length - (intOf v).toNat)
  case atStart => exact ⟨0, Gr.new, rfl, by omega, Gr.new_ok, Nat.le_refl _, HGL.out.symm, H0.out⟩
  case round =>
    clear hS H0
    obtain ⟨i, G, rfl, hi, hok, hel, hgl, hS⟩ := hrel
    have HOK := Lib.hid hok
    have HEL := Lib.hid hel
    clear hok hel
    by_cases hlt : i < l.length
    · obtain ⟨b, off, rfl, _⟩ := H5.out (by omega)
      obtain ⟨⟨xk, xa, xb⟩, hx⟩ : ∃ x, l[i]? = some x := ⟨_, List.getElem?_eq_getElem hlt⟩
      have j1 : (i : Int) < (l.length : Int) := by omega
      have HX := Lib.hid hx
      have HLT := Lib.hid hlt
      have HA := Lib.hid (fun w (L : List Asrt) (h : Sat W w (IsG p G :: L)) => apply_any h HOK.out xk xa xb)
      have HOK2 := Lib.hid (Gr.appG_ok HOK.out (by have := HEL.out; omega) xk xa xb)
      have HE2 := Lib.hid (show (G.appG xk xa xb).E.length ≤ i + 1 by have := G.appG_E xk xa xb; have := HEL.out; omega)
      by_cases h0 : G.appE xk xa xb = 0
      · have HGL2 := Lib.hid (show Gl = (((G.appG xk xa xb).appL (l.drop (i + 1))).1, ((G.appG xk xa xb).appL (l.drop (i + 1))).2 + (i + 1)) by
          rw [hgl, Gr.appL_yes hx h0]; simp only [Prod.mk.injEq, true_and]; omega)
        rw [h0] at HA
        obtain ⟨G2, hG2⟩ : ∃ G2, G.appG xk xa xb = G2 := ⟨_, rfl⟩
        rw [hG2] at HA HOK2 HE2 HGL2
        clear hx h0 hG2 hgl hlt
        go_wp2_with (first
          | (refine toList (by rfl) ?_; refine wp_of_reads (rLdRdA (HR.out _ hS.drop) (rv_len l) _ _ (by rfl) _ (by rfl) (agOf (by rfl)) (szOf (by rfl)) i (by omega) HX.out (by omega)) ?_)
          | (refine toList (by rfl) ?_; refine al hS _ (by rfl) (zrOf (by rfl)) ?_; intro px w1 hS1; clear hS; have hS := hS1; clear hS1; rw [cells_agg] at hS)
          | (refine toList (by rfl) ?_; refine stW hS _ _ _ (by rfl) (by rfl) (rv ⟨xk, xa, xb⟩) (by rfl) (rv_all _) (szOf (by rfl)) Has.z (by rfl) ?_; intro w1 hS1; clear hS; have hS := hS1; clear hS1; dsimp only [List.set_cons_zero] at hS)
          | (refine toList (by rfl) ?_; refine wp_of_reads (rLdA hS _ _ (by rfl) _ _ (by rfl) (agOf (by rfl)) (szOf (by rfl)) Has.z (vs := rv ⟨xk, xa, xb⟩) (by rfl) (by rfl)) ?_)
          | (go_at_call 22; refine (Calls.atS hS (k := 1) rfl (fun hF => HA.out _ _ hF)).mono ?_; rintro e w1 ⟨rfl, hS1⟩; clear hS; have hS := hS1; clear hS1; dsimp only [List.set_cons_zero, List.set_cons_succ] at hS))
        exact ⟨⟨i + 1, G2, by go_num, HLT.out, HOK2.out, HE2.out, HGL2.out, hS.drop⟩, by simp [intOf]; have := HLT.out; omega⟩
      · have HGL2 := Lib.hid (show Gl = (G.appG xk xa xb, i) by rw [hgl, Gr.appL_no hx h0]; simp)
        have HLI := Lib.hid (show decide (i = l.length) = false by simp; omega)
        obtain ⟨G2, hG2⟩ : ∃ G2, G.appG xk xa xb = G2 := ⟨_, rfl⟩
        obtain ⟨E, hE⟩ : ∃ E, G.appE xk xa xb = E := ⟨_, rfl⟩
        rw [hG2, hE] at HA
        rw [hG2] at HGL2
        rw [hE] at h0
        have e0 : (E == 0) = false := beq_eq_false_iff_ne.2 h0
        clear hx hG2 hE hgl hlt HOK2 HE2
        go_wp2_with (first
          | (refine toList (by rfl) ?_; refine wp_of_reads (rLdRdA (HR.out _ hS.drop) (rv_len l) _ _ (by rfl) _ (by rfl) (agOf (by rfl)) (szOf (by rfl)) i (by omega) HX.out (by omega)) ?_)
          | (refine toList (by rfl) ?_; refine al hS _ (by rfl) (zrOf (by rfl)) ?_; intro px w1 hS1; clear hS; have hS := hS1; clear hS1; rw [cells_agg] at hS)
          | (refine toList (by rfl) ?_; refine stW hS _ _ _ (by rfl) (by rfl) (rv ⟨xk, xa, xb⟩) (by rfl) (rv_all _) (szOf (by rfl)) Has.z (by rfl) ?_; intro w1 hS1; clear hS; have hS := hS1; clear hS1; dsimp only [List.set_cons_zero] at hS)
          | (refine toList (by rfl) ?_; refine wp_of_reads (rLdA hS _ _ (by rfl) _ _ (by rfl) (agOf (by rfl)) (szOf (by rfl)) Has.z (vs := rv ⟨xk, xa, xb⟩) (by rfl) (by rfl)) ?_)
          | (go_at_call 22; refine (Calls.atS hS (k := 1) rfl (fun hF => HA.out _ _ hF)).mono ?_; rintro e w1 ⟨rfl, hS1⟩; clear hS; have hS := hS1; clear hS1; dsimp only [List.set_cons_zero, List.set_cons_succ] at hS))
        go_ret3
        exact ⟨p, by rw [HGL2.out, HLI.out]; rfl, by rw [HGL2.out]; exact hS.drop⟩
    · have HGL2 := Lib.hid (show Gl = (G, l.length) by
        rw [hgl, List.drop_eq_nil_of_le (by omega)]; simp [Gr.appL]; omega)
      have j1 : ¬ (i : Int) < (l.length : Int) := by omega
      clear hgl hlt
      go_wp2
      go_ret3
      exact ⟨p, by rw [HGL2.out]; simp, by rw [HGL2.out]; exact hS⟩
set_option maxRecDepth 20000 in
set_option maxHeartbeats 1000000 in
theorem rgraph_any {W w : World} {L : List Asrt} (hS : Sat W w L) (l : List RecD) (ao : Option Addr) (c : Nat) (hr : ∀ w, Sat W w L → Rd w (.slice ao l.length c) l.length 3 (l.flatMap rv)) (hb : l.length ≤ 900000) :
    Calls Try.prog 19 #[.slice ao l.length c] w fun e w' => ∃ p, e = .returned (.tuple #[.pointer (some ⟨p, 0, none⟩), .int .i64 ((Gr.new.appL l).2 : Nat), .bool (decide ((Gr.new.appL l).2 = l.length))]) ∧ Sat W w' (IsR p (Gr.new.appL l).1 :: L) := by
  have HR : Hid (∀ w, Sat W w L → Rd w (.slice ao l.length c) l.length 3 (l.flatMap rv)) := Lib.hid hr
  obtain ⟨_, _, he, hc1, hc2, _, h5⟩ := hr w hS
  simp only [Value.slice.injEq, true_and] at he
  obtain ⟨rfl, rfl⟩ := he
  clear hr
  have H5 := Lib.hid h5
  clear h5
  have i5 : (l.length : Int) ≤ 1000000 := by omega
  obtain ⟨Gl, hGl⟩ : ∃ Gl, Gr.new.appL l = Gl := ⟨_, rfl⟩
  rw [hGl]
  have HGL := Lib.hid hGl
  clear hGl
  go_enter Try.func19, Try.ntmps19
  go_wp2_with (first
    | (refine toList (by rfl) ?_; refine bx hS _ _ (by rfl) _ (by first | exact evC | exact evT (by rfl)) ?_; intro p w1 hS1; clear hS; have hS := hS1; clear hS1; rw [cells_agg] at hS))
  have H0 : Hid (Sat W _ (IsR p Gr.new :: L)) := Lib.hid (by
    have h1 := ((hS.tbNil (α := Nat × Nat) (f := ev) (E := 85) (sz := 2)).tbNil (α := NodeD) (f := nv) (E := 32) (sz := 6))
    exact IsR.mk (G := Gr.new) (h1.re [2, 0, 1]))
  go_loopw [6] (fun v wz => ∃ (i : Nat) (G : Gr), v = .int .i64 i ∧ i ≤ l.length ∧ G.Ok ∧ G.E.length ≤ i ∧ Gl = ((G.appL (l.drop i)).1, (G.appL (l.drop i)).2 + i) ∧ Sat W wz (IsR p G :: L)) (fun v _ => l.length - (intOf v).toNat)
  case atStart => exact ⟨0, Gr.new, rfl, by omega, Gr.new_ok, Nat.le_refl _, HGL.out.symm, H0.out⟩
  case round =>
    clear hS H0
    obtain ⟨i, G, rfl, hi, hok, hel, hgl, hS⟩ := hrel
    have HOK := Lib.hid hok
    have HEL := Lib.hid hel
    clear hok hel
    by_cases hlt : i < l.length
    · obtain ⟨b, off, rfl, _⟩ := H5.out (by omega)
      obtain ⟨⟨xk, xa, xb⟩, hx⟩ : ∃ x, l[i]? = some x := ⟨_, List.getElem?_eq_getElem hlt⟩
      have j1 : (i : Int) < (l.length : Int) := by omega
      have HX := Lib.hid hx
      have HLT := Lib.hid hlt
      have HA := Lib.hid (fun w (L : List Asrt) (h : Sat W w (IsR p G :: L)) => rapply_any h HOK.out (by have := HEL.out; omega) xk xa xb)
      have HOK2 := Lib.hid (Gr.appG_ok HOK.out (by have := HEL.out; omega) xk xa xb)
      have HE2 := Lib.hid (show (G.appG xk xa xb).E.length ≤ i + 1 by have := G.appG_E xk xa xb; have := HEL.out; omega)
      by_cases h0 : G.appE xk xa xb = 0
      · have HGL2 := Lib.hid (show Gl = (((G.appG xk xa xb).appL (l.drop (i + 1))).1, ((G.appG xk xa xb).appL (l.drop (i + 1))).2 + (i + 1)) by
          rw [hgl, Gr.appL_yes hx h0]; simp only [Prod.mk.injEq, true_and]; omega)
        rw [h0] at HA
        obtain ⟨G2, hG2⟩ : ∃ G2, G.appG xk xa xb = G2 := ⟨_, rfl⟩
        rw [hG2] at HA HOK2 HE2 HGL2
        clear hx h0 hG2 hgl hlt
        go_wp2_with (first
          | (refine toList (by rfl) ?_; refine wp_of_reads (rLdRdA (HR.out _ hS.drop) (rv_len l) _ _ (by rfl) _ (by rfl) (agOf (by rfl)) (szOf (by rfl)) i (by omega) HX.out (by omega)) ?_)
          | (go_at_call 23; refine (HA.out _ _ hS).mono ?_; rintro e w1 ⟨rfl, hS1⟩; clear hS; have hS := hS1; clear hS1))
        exact ⟨⟨i + 1, G2, by go_num, HLT.out, HOK2.out, HE2.out, HGL2.out, hS⟩, by simp [intOf]; have := HLT.out; omega⟩
      · have HGL2 := Lib.hid (show Gl = (G.appG xk xa xb, i) by rw [hgl, Gr.appL_no hx h0]; simp)
        have HLI := Lib.hid (show decide (i = l.length) = false by simp; omega)
        obtain ⟨G2, hG2⟩ : ∃ G2, G.appG xk xa xb = G2 := ⟨_, rfl⟩
        obtain ⟨E, hE⟩ : ∃ E, G.appE xk xa xb = E := ⟨_, rfl⟩
        rw [hG2, hE] at HA
        rw [hG2] at HGL2
        rw [hE] at h0
        have e0 : (E == 0) = false := beq_eq_false_iff_ne.2 h0
        clear hx hG2 hE hgl hlt HOK2 HE2
        go_wp2_with (first
          | (refine toList (by rfl) ?_; refine wp_of_reads (rLdRdA (HR.out _ hS.drop) (rv_len l) _ _ (by rfl) _ (by rfl) (agOf (by rfl)) (szOf (by rfl)) i (by omega) HX.out (by omega)) ?_)
          | (go_at_call 23; refine (HA.out _ _ hS).mono ?_; rintro e w1 ⟨rfl, hS1⟩; clear hS; have hS := hS1; clear hS1))
        go_ret3
        exact ⟨p, by rw [HGL2.out, HLI.out]; rfl, by rw [HGL2.out]; exact hS⟩
    · have HGL2 := Lib.hid (show Gl = (G, l.length) by
        rw [hgl, List.drop_eq_nil_of_le (by omega)]; simp [Gr.appL]; omega)
      have j1 : ¬ (i : Int) < (l.length : Int) := by omega
      clear hgl hlt
      go_wp2
      go_ret3
      exact ⟨p, by rw [HGL2.out]; simp, by rw [HGL2.out]; exact hS⟩
end Go.Proofs.Ytapodjhkpahdnaa
