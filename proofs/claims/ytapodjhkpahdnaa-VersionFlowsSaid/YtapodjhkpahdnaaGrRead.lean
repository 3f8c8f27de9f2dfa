/-
  Package graph: contracts of New, Len, none, Node, Closed; the keys of its maps.
-/
import Derived.Test.YtapodjhkpahdnaaGrPlain
import Derived.Test.YtapodjhkpahdnaaTypes
import Derived.Lib.Hide
namespace Go.Proofs.Ytapodjhkpahdnaa
open Go.RowKit Go.Sep
set_option linter.unusedSimpArgs false
set_option linter.unusedVariables false
attribute [local irreducible] Go.Oper.wp Go.wpList Go.Calls Go.Code.wp Go.Sep.Reg
attribute [local irreducible] IsG
theorem eq_edge (x y : Int × Int) (w : World) : (Op.equalIn 10000 85 (ek x) (ek y)).run Try.prog w = .ok (decide (x = y)) w := by
  obtain ⟨a, b⟩ := x
  obtain ⟨c, d⟩ := y
  simp only [Prod.mk.injEq]
  unfold ek
  by_cases h1 : a = c
  · subst h1
    by_cases h2 : b = d
    · subst h2; go_simp
    · have e3 : (b == d) = false := beq_eq_false_iff_ne.2 h2
      go_simp
  · have e3 : (a == c) = false := beq_eq_false_iff_ne.2 h1
    go_simp
theorem eq_obj (x y : Int × Int) (w : World) : (Op.equalIn 10000 107 (ek x) (ek y)).run Try.prog w = .ok (decide (x = y)) w := by
  obtain ⟨a, b⟩ := x
  obtain ⟨c, d⟩ := y
  simp only [Prod.mk.injEq]
  unfold ek
  by_cases h1 : a = c
  · subst h1
    by_cases h2 : b = d
    · subst h2; go_simp
    · have e3 : (b == d) = false := beq_eq_false_iff_ne.2 h2
      go_simp
  · have e3 : (a == c) = false := beq_eq_false_iff_ne.2 h1
    go_simp
theorem key_edge : KeyOk Try.prog 85 ek := key_struct Try.underlying85 (fun k => ⟨_, rfl⟩) eq_edge (fun e k w => by unfold ek; kernel_rfl) (fun k => by unfold ek; simp [Instr.sameBits])
theorem key_obj : KeyOk Try.prog 107 ek := key_struct Try.underlying107 (fun k => ⟨_, rfl⟩) eq_obj (fun e k w => by unfold ek; kernel_rfl) (fun k => by unfold ek; simp [Instr.sameBits])
theorem new_any {W w : World} {L : List Asrt} (hS : Sat W w L) : Calls Try.prog 21 #[] w fun e w' => ∃ p, e = .returned (.pointer (some ⟨p, 0, none⟩)) ∧ Sat W w' (IsG p Gr.new :: L) := by
  go_enter Try.func21, Try.ntmps21
  go_wp2_with (first
    | (refine toList (by rfl) ?_; refine mpMake ek bw (show Sat W _ L from hS) _ (by rfl) ?_; intro me w1 hS1; clear hS; have hS := hS1; clear hS1)
    | (refine toList (by rfl) ?_; refine mpMake ek nw hS _ (by rfl) ?_; intro ml w1 hS1; clear hS; have hS := hS1; clear hS1)
    | (refine toList (by rfl) ?_; refine bx hS _ _ (by rfl) _ (by first | exact evC | exact evT (by rfl)) ?_; intro p w1 hS1; clear hS; have hS := hS1; clear hS1; rw [cells_agg] at hS))
  go_ret
  have h1 := (hS.re [0, 2, 1]).rwsNil (R := Irn)
  have h2 := (h1.rwsNil (R := Irn)).tbNil (α := NodeD) (f := nv) (E := 32) (sz := 6)
  exact ⟨p, rfl, IsG.mk (h2.re [3])⟩
theorem len_any {W w : World} {L : List Asrt} {p : Nat} {G : Gr} (hS : Sat W w (IsG p G :: L)) {n : Int} (hn : (G.N.length : Int) = n) :
    Calls Try.prog 12 #[.pointer (some ⟨p, 0, none⟩)] w fun e w' => e = .returned (.int .i64 n) ∧ w = w' := by
  subst hn
  obtain ⟨vn, vu, vd, me, ml, hS⟩ := IsG.open hS
  obtain ⟨aon, cn, rfl, _⟩ := hS.tbShape (k := 1) rfl
  go_enter Try.func12, Try.ntmps12
  go_wp2_with (refine toList (by rfl) ?_; refine ld hS _ _ (by rfl) _ _ (by rfl) (agOf (by rfl)) (by first | exact Has.z | exact Has.s Has.z | exact Has.s (Has.s Has.z) | exact Has.s (Has.s (Has.s Has.z)) | exact Has.s (Has.s (Has.s (Has.s Has.z))) | exact Has.s (Has.s (Has.s (Has.s (Has.s Has.z))))) (by rfl) ?_)
  go_ret
  exact ⟨rfl, rfl⟩
theorem none_any {W w : World} {L : List Asrt} {p : Nat} {G : Gr} (hS : Sat W w (IsG p G :: L)) (n : Int) {b : Bool} (hb : (!G.is n) = b) :
    Calls Try.prog 41 #[.pointer (some ⟨p, 0, none⟩), .int .i64 n] w fun e w' => e = .returned (.bool b) ∧ w = w' := by
  subst hb
  obtain ⟨vn, vu, vd, me, ml, hS⟩ := IsG.open hS
  obtain ⟨aon, cn, rfl, _⟩ := hS.tbShape (k := 1) rfl
  by_cases h1 : n < 0
  · have HB := Lib.hid (show (!G.is n) = true by unfold Gr.is; simp; omega)
    go_enter Try.func41, Try.ntmps41
    go_wp2
    go_ret
    rw [HB.out]
    exact ⟨rfl, rfl⟩
  by_cases h2 : (G.N.length : Int) ≤ n
  · have HB := Lib.hid (show (!G.is n) = true by unfold Gr.is; simp; omega)
    have h0 : 0 ≤ n := by omega
    have e1 : decide (n < 0) = false := by simp; omega
    clear h1
    go_enter Try.func41, Try.ntmps41
    go_wp2_with (refine toList (by rfl) ?_; refine ld hS _ _ (by rfl) _ _ (by rfl) (agOf (by rfl)) (by first | exact Has.z | exact Has.s Has.z | exact Has.s (Has.s Has.z) | exact Has.s (Has.s (Has.s Has.z)) | exact Has.s (Has.s (Has.s (Has.s Has.z))) | exact Has.s (Has.s (Has.s (Has.s (Has.s Has.z))))) (by rfl) ?_)
    go_ret
    rw [HB.out]
    exact ⟨rfl, rfl⟩
  · have HB := Lib.hid (show (!G.is n) = false by unfold Gr.is; simp; omega)
    have h0 : 0 ≤ n := by omega
    have h3 : n < (G.N.length : Int) := by omega
    have e1 : decide (n < 0) = false := by simp; omega
    clear h1 h2
    go_enter Try.func41, Try.ntmps41
    go_wp2_with (refine toList (by rfl) ?_; refine ld hS _ _ (by rfl) _ _ (by rfl) (agOf (by rfl)) (by first | exact Has.z | exact Has.s Has.z | exact Has.s (Has.s Has.z) | exact Has.s (Has.s (Has.s Has.z)) | exact Has.s (Has.s (Has.s (Has.s Has.z))) | exact Has.s (Has.s (Has.s (Has.s (Has.s Has.z))))) (by rfl) ?_)
    go_ret
    rw [HB.out]
    refine ⟨?_, rfl⟩
    rw [show (false : Bool) = decide ((G.N.length : Int) ≤ n) from (decide_eq_false (by omega)).symm]
    rfl
def Gr.nodeI (G : Gr) (n : Int) : NodeD := if G.is n then G.N[n.toNat]?.getD ⟨0, 0, 0, 0, 0, false⟩ else ⟨0, 0, 0, 0, 0, false⟩
theorem Gr.nodeI_no {G : Gr} {n : Int} (h : G.is n = false) : G.nodeI n = ⟨0, 0, 0, 0, 0, false⟩ := by simp [Gr.nodeI, h]
theorem Gr.nodeI_at {G : Gr} {k : Nat} {x : NodeD} (h : G.N[k]? = some x) : G.nodeI (k : Int) = x := by
  have := is_mk (List.getElem?_eq_some_iff.1 h).1
  simp [Gr.nodeI, this, h]
theorem node_any {W w : World} {L : List Asrt} {p : Nat} {G : Gr} (hS : Sat W w (IsG p G :: L)) (n : Int) :
    Calls Try.prog 14 #[.pointer (some ⟨p, 0, none⟩), .int .i64 n] w fun e w' => e = .returned (.tuple #[.agg (nv (G.nodeI n)).toArray, .bool (G.is n)]) ∧ Sat W w' (IsG p G :: L) := by
  cases hb : G.is n
  · have HB := Lib.hid (show (!G.is n) = true by rw [hb]; rfl)
    have HN := Lib.hid (Gr.nodeI_no hb)
    clear hb
    go_enter Try.func14, Try.ntmps14
    go_wp2_with (first
      | (refine toList (by rfl) ?_; refine al hS _ (by rfl) (zrOf (by rfl)) ?_; intro px w1 hS1; clear hS; have hS := hS1; clear hS1; rw [cells_agg] at hS)
      | (go_at_call 41; refine (none_any hS.pull1 n HB.out).mono ?_; rintro e w1 ⟨rfl, rfl⟩)
      | (refine toList (by rfl) ?_; refine stW hS _ _ _ (by rfl) (by rfl) (nv ⟨0, 0, 0, 0, 0, false⟩) (by rfl) (nv_all _) (szOf (by rfl)) Has.z (by rfl) ?_; intro w1 hS1; clear hS; have hS := hS1; clear hS1; dsimp only [List.set_cons_zero] at hS))
    refine bodyPost_cell_tmp hS rfl (by rfl) (agOf (by rfl)) (szOf (by rfl)) Has.z (by rfl) rfl ?_
    rw [HN.out]
    exact ⟨rfl, hS.drop⟩
  · have HB := Lib.hid (show (!G.is n) = false by rw [hb]; rfl)
    obtain ⟨k, rfl, hk⟩ := Gr.is_nat hb
    obtain ⟨⟨x1, x2, x3, x4, x5, x6⟩, hx⟩ : ∃ x, G.N[k]? = some x := ⟨_, List.getElem?_eq_getElem hk⟩
    have HN := Lib.hid (Gr.nodeI_at hx)
    have HX := Lib.hid hx
    have j1 : (k : Int) < (G.N.length : Int) := by omega
    clear hb hx
    obtain ⟨vn, vu, vd, me, ml, hO⟩ := IsG.open hS
    obtain ⟨b, off, c, rfl, hc⟩ := hO.tbAddr (k := 1) rfl (by omega)
    go_enter Try.func14, Try.ntmps14
    clear hS
    have hS := hO
    clear hO
    go_wp2_with (first
      | (refine toList (by rfl) ?_; refine al hS _ (by rfl) (zrOf (by rfl)) ?_; intro px w1 hS1; clear hS; have hS := hS1; clear hS1; rw [cells_agg] at hS)
      | (go_at_call 41; refine (none_any (IsG.mk hS.drop) k HB.out).mono ?_; rintro e w1 ⟨rfl, rfl⟩)
      | (refine toList (by rfl) ?_; refine ld hS _ _ (by rfl) _ _ (by rfl) (agOf (by rfl)) (by first | exact Has.z | exact Has.s Has.z | exact Has.s (Has.s Has.z) | exact Has.s (Has.s (Has.s Has.z)) | exact Has.s (Has.s (Has.s (Has.s Has.z))) | exact Has.s (Has.s (Has.s (Has.s (Has.s Has.z))))) (by rfl) ?_)
      | (refine toList (by rfl) ?_; refine ldTbA hS _ _ (by rfl) _ _ (by rfl) (agOf (by rfl)) (szOf (by rfl)) (Has.s (Has.s Has.z)) k (by omega) HX.out ?_)
      | (refine toList (by rfl) ?_; refine stW hS _ _ _ (by rfl) (by rfl) (nv ⟨x1, x2, x3, x4, x5, x6⟩) (by rfl) (nv_all _) (szOf (by rfl)) Has.z (by rfl) ?_; intro w1 hS1; clear hS; have hS := hS1; clear hS1; dsimp only [List.set_cons_zero] at hS))
    refine bodyPost_cell_tmp hS rfl (by rfl) (agOf (by rfl)) (szOf (by rfl)) Has.z (by rfl) rfl ?_
    rw [HN.out]
    exact ⟨rfl, IsG.mk hS.drop⟩
theorem ups_any {W w : World} {L : List Asrt} {p : Nat} {G : Gr} (hS : Sat W w (IsG p G :: L)) (n : Int) (hG : G.N.length ≤ 4096) :
    Calls Try.prog 27 #[.pointer (some ⟨p, 0, none⟩), .int .i64 n] w fun e w' => ∃ v, e = .returned v ∧ Sat W w' (Ir v (G.upsI n) :: IsG p G :: L) := by
  cases hb : G.is n
  · have HB := Lib.hid (show (!G.is n) = true by rw [hb]; rfl)
    have HN := Lib.hid (Gr.upsI_no hb)
    clear hb
    go_enter Try.func27, Try.ntmps27
    go_wp2_with (go_at_call 41; refine (none_any hS n HB.out).mono ?_; rintro e w1 ⟨rfl, rfl⟩)
    go_ret
    rw [HN.out]
    exact ⟨_, rfl, hS.irNil⟩
  · have HB := Lib.hid (show (!G.is n) = false by rw [hb]; rfl)
    obtain ⟨k, rfl, hk⟩ := Gr.is_nat hb
    have HN := Lib.hid (Gr.upsI_nat hk)
    have hul := Gr.ups_len G k
    have j1 : (k : Int) < (G.N.length : Int) := by omega
    have HX := Lib.hid (Gr.upsL_at hk)
    clear hb
    obtain ⟨vn, vu, vd, me, ml, hO⟩ := IsG.open hS
    obtain ⟨vs, hvl, hR⟩ := (hO.re [2]).rwsOpen
    obtain ⟨u, hu⟩ : ∃ u, vs[k]? = some u := ⟨_, List.getElem?_eq_getElem (by rw [hvl, Gr.upsL_len]; exact hk)⟩
    have HU := Lib.hid hu
    obtain ⟨b, off, c, rfl, hc⟩ := hR.tbAddr (k := 0) rfl (by rw [hvl, Gr.upsL_len]; omega)
    have j2 : (vs.length : Int) = (G.N.length : Int) := by rw [hvl, Gr.upsL_len]
    obtain ⟨L', hrow⟩ := irnRow (k := 1) hR rfl hu HX.out
    have HRD := Lib.hid (hrow.irRd (k := 0) rfl)
    have HNIL := Lib.hid (hS.irNil)
    clear hrow
    go_enter Try.func27, Try.ntmps27
    go_wp2_with (first
      | (go_at_call 41; refine (none_any hS k HB.out).mono ?_; rintro e w1 ⟨rfl, rfl⟩)
      | (refine toList (by rfl) ?_; refine ld hO _ _ (by rfl) _ _ (by rfl) (agOf (by rfl)) Has.z (by rfl) ?_)
      | (refine toList (by rfl) ?_; refine ldTb hR _ _ (by rfl) _ _ (by rfl) (agOf (by rfl)) Has.z k 0 (by omega) HU.out (by rfl) ?_)
      | (refine toList (by rfl) ?_; refine apI HNIL.out _ _ _ _ (by rfl) (by rfl) (by rfl) (elOf (by rfl)) (by rfl) (by rfl) (by rfl) (inOf (by rfl)) Has.z HRD.out (by simp; omega) ?_; intro v1 w1 hS1; clear hS; have hS := hS1; clear hS1; dsimp only [List.set_cons_zero, List.nil_append] at hS))
    go_ret
    rw [HN.out]
    exact ⟨_, rfl, hS⟩
theorem downs_any {W w : World} {L : List Asrt} {p : Nat} {G : Gr} (hS : Sat W w (IsG p G :: L)) (n : Int) (hG : G.N.length ≤ 4096) :
    Calls Try.prog 44 #[.pointer (some ⟨p, 0, none⟩), .int .i64 n] w fun e w' => ∃ v, e = .returned v ∧ Sat W w' (Ir v (G.downsI n) :: IsG p G :: L) := by
  cases hb : G.is n
  · have HB := Lib.hid (show (!G.is n) = true by rw [hb]; rfl)
    have HN := Lib.hid (Gr.downsI_no hb)
    clear hb
    go_enter Try.func44, Try.ntmps44
    go_wp2_with (go_at_call 41; refine (none_any hS n HB.out).mono ?_; rintro e w1 ⟨rfl, rfl⟩)
    go_ret
    rw [HN.out]
    exact ⟨_, rfl, hS.irNil⟩
  · have HB := Lib.hid (show (!G.is n) = false by rw [hb]; rfl)
    obtain ⟨k, rfl, hk⟩ := Gr.is_nat hb
    have HN := Lib.hid (Gr.downsI_nat hk)
    have hul := Gr.downs_len G k
    have j1 : (k : Int) < (G.N.length : Int) := by omega
    have HX := Lib.hid (Gr.downsL_at hk)
    clear hb
    obtain ⟨vn, vu, vd, me, ml, hO⟩ := IsG.open hS
    obtain ⟨vs, hvl, hR⟩ := (hO.re [3]).rwsOpen
    obtain ⟨u, hu⟩ : ∃ u, vs[k]? = some u := ⟨_, List.getElem?_eq_getElem (by rw [hvl, Gr.downsL_len]; exact hk)⟩
    have HU := Lib.hid hu
    obtain ⟨b, off, c, rfl, hc⟩ := hR.tbAddr (k := 0) rfl (by rw [hvl, Gr.downsL_len]; omega)
    have j2 : (vs.length : Int) = (G.N.length : Int) := by rw [hvl, Gr.downsL_len]
    obtain ⟨L', hrow⟩ := irnRow (k := 1) hR rfl hu HX.out
    have HRD := Lib.hid (hrow.irRd (k := 0) rfl)
    have HNIL := Lib.hid (hS.irNil)
    clear hrow
    go_enter Try.func44, Try.ntmps44
    go_wp2_with (first
      | (go_at_call 41; refine (none_any hS k HB.out).mono ?_; rintro e w1 ⟨rfl, rfl⟩)
      | (refine toList (by rfl) ?_; refine ld hO _ _ (by rfl) _ _ (by rfl) (agOf (by rfl)) Has.z (by rfl) ?_)
      | (refine toList (by rfl) ?_; refine ldTb hR _ _ (by rfl) _ _ (by rfl) (agOf (by rfl)) Has.z k 0 (by omega) HU.out (by rfl) ?_)
      | (refine toList (by rfl) ?_; refine apI HNIL.out _ _ _ _ (by rfl) (by rfl) (by rfl) (elOf (by rfl)) (by rfl) (by rfl) (by rfl) (inOf (by rfl)) Has.z HRD.out (by simp; omega) ?_; intro v1 w1 hS1; clear hS; have hS := hS1; clear hS1; dsimp only [List.set_cons_zero, List.nil_append] at hS))
    go_ret
    rw [HN.out]
    exact ⟨_, rfl, hS⟩
theorem closed_any {W w : World} {L : List Asrt} {p : Nat} {G : Gr} (hS : Sat W w (IsG p G :: L)) (n : Int) {r : Bool} (hr : decide (0 < (G.downsI n).length) = r) :
    Calls Try.prog 32 #[.pointer (some ⟨p, 0, none⟩), .int .i64 n] w fun e w' => e = .returned (.bool r) ∧ w = w' := by
  subst hr
  cases hb : G.is n
  · have HB := Lib.hid (show (!G.is n) = true by rw [hb]; rfl)
    have HN := Lib.hid (Gr.downsI_no hb)
    clear hb
    go_enter Try.func32, Try.ntmps32
    go_wp2_with (go_at_call 41; refine (none_any hS n HB.out).mono ?_; rintro e w1 ⟨rfl, rfl⟩)
    go_ret
    rw [HN.out]
    exact ⟨rfl, rfl⟩
  · have HB := Lib.hid (show (!G.is n) = false by rw [hb]; rfl)
    obtain ⟨k, rfl, hk⟩ := Gr.is_nat hb
    have HN := Lib.hid (Gr.downsI_nat hk)
    have j1 : (k : Int) < (G.N.length : Int) := by omega
    have HX := Lib.hid (Gr.downsL_at hk)
    clear hb
    obtain ⟨vn, vu, vd, me, ml, hO⟩ := IsG.open hS
    obtain ⟨vs, hvl, hR⟩ := (hO.re [3]).rwsOpen
    obtain ⟨u, hu⟩ : ∃ u, vs[k]? = some u := ⟨_, List.getElem?_eq_getElem (by rw [hvl, Gr.downsL_len]; exact hk)⟩
    have HU := Lib.hid hu
    obtain ⟨b, off, c, rfl, hc⟩ := hR.tbAddr (k := 0) rfl (by rw [hvl, Gr.downsL_len]; omega)
    have j2 : (vs.length : Int) = (G.N.length : Int) := by rw [hvl, Gr.downsL_len]
    obtain ⟨L', hrow⟩ := irnRow (k := 1) hR rfl hu HX.out
    obtain ⟨aou, cu, rfl, _⟩ := hrow.irShape (k := 0) rfl
    clear hrow
    go_enter Try.func32, Try.ntmps32
    go_wp2_with (first
      | (go_at_call 41; refine (none_any hS k HB.out).mono ?_; rintro e w1 ⟨rfl, rfl⟩)
      | (refine toList (by rfl) ?_; refine ld hO _ _ (by rfl) _ _ (by rfl) (agOf (by rfl)) Has.z (by rfl) ?_)
      | (refine toList (by rfl) ?_; refine ldTb hR _ _ (by rfl) _ _ (by rfl) (agOf (by rfl)) Has.z k 0 (by omega) HU.out (by rfl) ?_))
    go_ret
    rw [HN.out]
    refine ⟨?_, rfl⟩
    simp
end Go.Proofs.Ytapodjhkpahdnaa
