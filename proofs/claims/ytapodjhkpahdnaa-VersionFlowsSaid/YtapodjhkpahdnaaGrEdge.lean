/-
  Package graph: Edge.
-/
import Derived.Test.YtapodjhkpahdnaaGrAbove
import Derived.Test.YtapodjhkpahdnaaGrEdgeP
namespace Go.Proofs.Ytapodjhkpahdnaa
open Go.RowKit Go.Sep
set_option linter.unusedSimpArgs false
set_option linter.unusedVariables false
attribute [local irreducible] Go.Oper.wp Go.wpList Go.Calls Go.Code.wp Go.Sep.Reg
attribute [local irreducible] IsG
theorem IsG.link {W w : World} {L : List Asrt} {p : Nat} {G : Gr} {a b : Nat} (ha : a < G.N.length) (hb : b < G.N.length) (hn : (a, b) ∉ G.E) {vn vu vd v1 v2 : Value} {vsu vsd : List Value} {me ml : Nat} (hu : vsu.length = G.upsL.length) (hd : vsd.length = G.downsL.length)
    (h : Sat W w (Cs p 78 [vn, vu, vd, .map (some me), .map (some ml)] :: Tb 35 1 one1 vu (vsu.set a v1) :: Tb 35 1 one1 vd (vsd.set b v2) :: Ir v1 (ins (G.ups a) b) :: Ir v2 (ins (G.downs b) a) :: Tb 32 6 nv vn G.N :: St (List.zipWith Irn vsu G.upsL) ::
      St (List.zipWith Irn vsd G.downsL) :: Mp ek bw me (G.link a b).edgesF :: Mp ek nw ml G.latF :: L)) : Sat W w (IsG p (G.link a b) :: L) := by
  refine IsG.mkAll (vn := vn) (vu := vu) (vd := vd) (vsu := vsu.set a v1) (vsd := vsd.set b v2) (me := me) (ml := ml) ?_ ?_ ?_
  · rw [Gr.link_upsL ha hb hn, List.length_set, List.length_set]; exact hu
  · rw [Gr.link_downsL ha hb hn, List.length_set, List.length_set]; exact hd
  rw [Gr.link_upsL ha hb hn, Gr.link_downsL ha hb hn, zipWith_set, zipWith_set]
  have h1 := irnMk (fun e => absurd e (ins_ne _ _)) (h.re [3])
  have h2 := Sat.stPut (i := a) (h1.re [0, 6]) (by rw [List.length_zipWith, hu, Nat.min_self, Gr.upsL_len]; exact ha)
  have h3 := irnMk (fun e => absurd e (ins_ne _ _)) (h2.re [4])
  have h4 := Sat.stPut (i := b) (h3.re [0, 6]) (by rw [List.length_zipWith, hd, Nat.min_self, Gr.downsL_len]; exact hb)
  exact h4.re [2, 5, 3, 1, 4, 0]
theorem take3 {W w : World} {A B C : Asrt} : ∀ {L : List Asrt}, Sat W w (A :: B :: C :: L) → Sat W w [A, B, C]
  | [], h => h
  | _ :: _, h => take3 h.pull3.drop
theorem push3 {W w : World} {A B C D : Asrt} {L : List Asrt} (h : Sat W w (A :: B :: C :: D :: L)) : Sat W w (B :: C :: D :: A :: L) := h.re [1, 2, 3]
theorem push4 {W w : World} {A B C D E : Asrt} {L : List Asrt} (h : Sat W w (A :: B :: C :: D :: E :: L)) : Sat W w (B :: C :: D :: E :: A :: L) := h.re [1, 2, 3, 4]
theorem IsG.openFront {W w : World} {L : List Asrt} {p : Nat} {G : Gr} (h : Sat W w (IsG p G :: L)) : ∃ vn vu vd vsu vsd me ml, vsu.length = G.upsL.length ∧ vsd.length = G.downsL.length ∧
    Sat W w (Cs p 78 [vn, vu, vd, .map (some me), .map (some ml)] :: Tb 35 1 one1 vu vsu :: Tb 35 1 one1 vd vsd :: Tb 32 6 nv vn G.N :: St (List.zipWith Irn vsu G.upsL) ::
      St (List.zipWith Irn vsd G.downsL) :: Mp ek bw me G.edgesF :: Mp ek nw ml G.latF :: L) := by
  obtain ⟨vn, vu, vd, vsu, vsd, me, ml, hu, hd, hO⟩ := IsG.openAll h
  exact ⟨vn, vu, vd, vsu, vsd, me, ml, hu, hd, hO.re [0, 2, 4, 1, 3, 5]⟩
set_option maxRecDepth 20000 in
set_option maxHeartbeats 4000000 in
theorem edge_any {W w : World} {L : List Asrt} {p : Nat} {G : Gr} (hS : Sat W w (IsG p G :: L)) (hG : G.Ok) (a b : Int) :
    Calls Try.prog 47 #[.pointer (some ⟨p, 0, none⟩), .int .i64 a, .int .i64 b] w fun e w' => e = .returned (.int .i64 (G.edgeE a b)) ∧ Sat W w' (IsG p (G.edgeG a b) :: L) := by
  cases ha : G.is a
  · have HE := Lib.hid (show G.edgeE a b = 1 by unfold Gr.edgeE; rw [if_pos (by simp [ha])])
    have HB := Lib.hid (show (!G.is a) = true by rw [ha]; rfl)
    unfold Gr.edgeG
    rw [HE.out, if_neg (by decide)]
    clear ha
    go_enter Try.func47, Try.ntmps47
    go_wp2_with (go_at_call 41; refine (none_any hS a HB.out).mono ?_; rintro e w1 ⟨rfl, rfl⟩)
    go_ret
    exact ⟨rfl, hS⟩
  have HA := Lib.hid (show (!G.is a) = false by rw [ha]; rfl)
  cases hb : G.is b
  · have HE := Lib.hid (show G.edgeE a b = 1 by unfold Gr.edgeE; rw [if_pos (by simp [hb])])
    have HB := Lib.hid (show (!G.is b) = true by rw [hb]; rfl)
    unfold Gr.edgeG
    rw [HE.out, if_neg (by decide)]
    clear ha hb
    go_enter Try.func47, Try.ntmps47
    go_wp2_with (first
      | (go_at_call 41; refine (none_any hS a HA.out).mono ?_; rintro e w1 ⟨rfl, rfl⟩)
      | (go_at_call 41; refine (none_any hS b HB.out).mono ?_; rintro e w1 ⟨rfl, rfl⟩))
    go_ret
    exact ⟨rfl, hS⟩
  have HB := Lib.hid (show (!G.is b) = false by rw [hb]; rfl)
  by_cases hab : a = b
  · have HE := Lib.hid (show G.edgeE a b = 1 by unfold Gr.edgeE; rw [if_pos (by simp [hab])])
    have e1 : (a == b) = true := beq_iff_eq.2 hab
    unfold Gr.edgeG
    rw [HE.out, if_neg (by decide)]
    clear ha hb hab
    go_enter Try.func47, Try.ntmps47
    go_wp2_with (first
      | (go_at_call 41; refine (none_any hS a HA.out).mono ?_; rintro e w1 ⟨rfl, rfl⟩)
      | (go_at_call 41; refine (none_any hS b HB.out).mono ?_; rintro e w1 ⟨rfl, rfl⟩))
    go_ret
    exact ⟨rfl, hS⟩
  have e1 : (a == b) = false := beq_eq_false_iff_ne.2 hab
  have HT : (!G.is a || !G.is b || decide (a = b)) = false := by rw [ha, hb, decide_eq_false hab]; rfl
  clear ha hb hab
  obtain ⟨vn, vu, vd, vsu, vsd, me, ml, hu, hd, hO⟩ := IsG.openAll hS
  cases hh : G.has (a, b) with
  | true =>
    have HE := Lib.hid (show G.edgeE a b = 23 by unfold Gr.edgeE; rw [HT, hh]; rfl)
    have HV := Lib.hid (show mpVal bw (.bool false) (G.edgesF (a, b)) = .bool true by unfold Gr.edgesF; rw [hh]; rfl)
    unfold Gr.edgeG
    rw [HE.out, if_neg (by decide)]
    clear HT hh
    go_enter Try.func47, Try.ntmps47
    go_wp2_with (first
      | (go_at_call 41; refine (none_any hS a HA.out).mono ?_; rintro e w1 ⟨rfl, rfl⟩)
      | (go_at_call 41; refine (none_any hS b HB.out).mono ?_; rintro e w1 ⟨rfl, rfl⟩)
      | (refine toList (by rfl) ?_; refine ld hO _ _ (by rfl) _ _ (by rfl) (agOf (by rfl)) Has.z (by rfl) ?_)
      | (refine toList (by rfl) ?_; refine wp_of_reads (rLkp hO _ _ _ false (by rfl) (by rfl) (a, b) (by rfl) map_edg key_edge (zrOf (by rfl)) (Has.s (Has.s (Has.s (Has.s (Has.s (Has.s Has.z))))))) ?_; rw [if_neg (by decide), HV.out]))
    go_ret
    exact ⟨rfl, hS⟩
  | false =>
    have HV := Lib.hid (show mpVal bw (.bool false) (G.edgesF (a, b)) = .bool false by unfold Gr.edgesF; rw [hh]; rfl)
    cases hr : G.reaches b a with
    | true =>
      have HE := Lib.hid (show G.edgeE a b = 11 by unfold Gr.edgeE; rw [HT, hh, hr]; rfl)
      have HRC := Lib.hid (fun w (h : Sat W w (IsG p G :: L)) => hr ▸ reaches_any h hG b a)
      unfold Gr.edgeG
      rw [HE.out, if_neg (by decide)]
      clear HT hh hr
      go_enter Try.func47, Try.ntmps47
      go_wp2_with (first
        | (go_at_call 41; refine (none_any hS a HA.out).mono ?_; rintro e w1 ⟨rfl, rfl⟩)
        | (go_at_call 41; refine (none_any hS b HB.out).mono ?_; rintro e w1 ⟨rfl, rfl⟩)
        | (refine toList (by rfl) ?_; refine ld hO _ _ (by rfl) _ _ (by rfl) (agOf (by rfl)) Has.z (by rfl) ?_)
        | (refine toList (by rfl) ?_; refine wp_of_reads (rLkp hO _ _ _ false (by rfl) (by rfl) (a, b) (by rfl) map_edg key_edge (zrOf (by rfl)) (Has.s (Has.s (Has.s (Has.s (Has.s (Has.s Has.z))))))) ?_; rw [if_neg (by decide), HV.out])
        | (go_at_call 34; refine (HRC.out _ hS).mono ?_; rintro e w1 ⟨rfl, hS1⟩; clear hO; clear hS; have hS := hS1; clear hS1))
      go_ret
      exact ⟨rfl, hS⟩
    | false =>
      have hE : G.edgeE a b = 0 := by unfold Gr.edgeE; rw [HT, hh, hr]; rfl
      have HRC := Lib.hid (fun w (h : Sat W w (IsG p G :: L)) => hr ▸ reaches_any h hG b a)
      obtain ⟨x, y, rfl, rfl, hx, hy, _, hn, _⟩ := Gr.edge_yes hE
      have HE := Lib.hid hE
      have HN := Lib.hid hn
      have HX := Lib.hid hx
      have HY := Lib.hid hy
      have hgl := hG.len
      have HUL := Lib.hid (show (G.ups x).length ≤ 999999 by have := Gr.ups_len G x; omega)
      have HDL := Lib.hid (show (G.downs y).length ≤ 999999 by have := Gr.downs_len G y; omega)
      have HUS := Lib.hid ((Gr.ups_lt G x).imp (fun {a b : Nat} (h : a < b) => Nat.le_of_lt h))
      have HDS := Lib.hid ((Gr.downs_lt G y).imp (fun {a b : Nat} (h : a < b) => Nat.le_of_lt h))
      have hgi : (G.N.length : Int) ≤ 4096 := by omega
      have hxi : (x : Int) < (G.N.length : Int) := by omega
      have hyi : (y : Int) < (G.N.length : Int) := by omega
      unfold Gr.edgeG
      rw [HE.out, if_pos rfl, Int.toNat_natCast, Int.toNat_natCast]
      clear HT hh hr hE hn hu hd hx hy hgl
      go_enter Try.func47, Try.ntmps47
      go_wp2_with (first
        | (go_at_call 41; refine (none_any hS x HA.out).mono ?_; rintro e w1 ⟨rfl, rfl⟩)
        | (go_at_call 41; refine (none_any hS y HB.out).mono ?_; rintro e w1 ⟨rfl, rfl⟩)
        | (refine toList (by rfl) ?_; refine ld hO _ _ (by rfl) _ _ (by rfl) (agOf (by rfl)) Has.z (by rfl) ?_)
        | (refine toList (by rfl) ?_; refine wp_of_reads (rLkp hO _ _ _ false (by rfl) (by rfl) ((x : Int), (y : Int)) (by rfl) map_edg key_edge (zrOf (by rfl)) (Has.s (Has.s (Has.s (Has.s (Has.s (Has.s Has.z))))))) ?_; rw [if_neg (by decide), HV.out])
        | (go_at_call 34; refine (HRC.out _ hS).mono ?_; rintro e w1 ⟨rfl, hS1⟩; clear hO; clear hS; have hS := hS1; clear hS1; obtain ⟨vn, vu, vd, vsu, vsd, me, ml, hu, hd, hS1⟩ := IsG.openFront hS; clear hS; have hS := hS1; clear hS1; have HU := Lib.hid hu; have HD := Lib.hid hd; clear hu hd)
        | (refine toList (by rfl) ?_; refine ld hS _ _ (by rfl) _ _ (by rfl) (agOf (by rfl)) (by first | exact Has.z | exact Has.s Has.z | exact Has.s (Has.s Has.z) | exact Has.s (Has.s (Has.s Has.z)) | exact Has.s (Has.s (Has.s (Has.s Has.z))) | exact Has.s (Has.s (Has.s (Has.s (Has.s Has.z))))) (by rfl) ?_)
        | (refine toList (by rfl) ?_; refine mpSt (ke := ek) (ve := bw) hS _ _ _ _ (.inl (by rfl)) (by rfl) ((x : Int), (y : Int)) (by rfl) true (by rfl) map_edg key_edge (Has.s (Has.s (Has.s (Has.s (Has.s (Has.s Has.z)))))) ?_; intro w1 hS1; clear hS; have hS := hS1; clear hS1; dsimp only [List.set_cons_zero, List.set_cons_succ] at hS; rw [Gr.link_edges] at hS))
      have hsu : vsu.length = G.N.length := by rw [HU.out, Gr.upsL_len]
      have hsd : vsd.length = G.N.length := by rw [HD.out, Gr.downsL_len]
      obtain ⟨vx, hvx⟩ : ∃ v, vsu[x]? = some v := ⟨_, List.getElem?_eq_getElem (by omega)⟩
      obtain ⟨vy, hvy⟩ : ∃ v, vsd[y]? = some v := ⟨_, List.getElem?_eq_getElem (by omega)⟩
      have HRU : ∀ w (L' : List Asrt), Sat W w (St (List.zipWith Irn vsu G.upsL) :: L') → Rd w vx (G.ups x).length 1 (iv (G.ups x)) := fun w L' h => by
        obtain ⟨_, h2⟩ := irnRow (k := 0) h rfl hvx (Gr.upsL_at HX.out)
        exact h2.irRd (k := 0) rfl
      have HRD : ∀ w (L' : List Asrt), Sat W w (St (List.zipWith Irn vsd G.downsL) :: L') → Rd w vy (G.downs y).length 1 (iv (G.downs y)) := fun w L' h => by
        obtain ⟨_, h2⟩ := irnRow (k := 0) h rfl hvy (Gr.downsL_at HY.out)
        exact h2.irRd (k := 0) rfl
      have HRU := Lib.hid HRU
      have HRD := Lib.hid HRD
      have HZU := Lib.hid (irnRowNil (k := 4) hS rfl hvx (Gr.upsL_at HX.out))
      have HZD := Lib.hid (irnRowNil (k := 5) hS rfl hvy (Gr.downsL_at HY.out))
      have HVX := Lib.hid hvx
      have HVY := Lib.hid hvy
      obtain ⟨bu, ofu, cu, rfl, _⟩ := hS.tbAddr (k := 1) rfl (by omega)
      obtain ⟨bd, ofd, cd, rfl, _⟩ := hS.tbAddr (k := 2) rfl (by omega)
      have j1 : (x : Int) < (vsu.length : Int) := by omega
      have j2 : (y : Int) < (vsd.length : Int) := by omega
      clear hsu hsd hvx hvy
      refine regStart2 [29, 31] hS (fun _ h => take3 h) (by kernel_rfl) rfl ?_
      intro w1 hS1
      clear hS; have hS := hS1; clear hS1
      (refine regP 0 hS (fun _ h => take3 h) rfl (by kernel_rfl) (by kernel_rfl) (by kernel_rfl) (fun _ _ _ _ h => h) (by rfl) (by rfl) ?_; apply Exists.intro; apply And.intro; (intro w; go_simp; try with_reducible rfl); (simp only [Act.put, List.setIfInBounds_toArray, List.set_cons_zero, List.set_cons_succ]))
      (refine regP 1 hS (fun _ h => take3 h) rfl (by kernel_rfl) (by kernel_rfl) (by kernel_rfl) (fun _ _ _ _ h => h) (by rfl) (by rfl) ?_; apply Exists.intro; apply And.intro; (intro w; go_simp; try with_reducible rfl); (simp only [Act.put, List.setIfInBounds_toArray, List.set_cons_zero, List.set_cons_succ]))
      (refine regP 2 hS (fun _ h => take3 h) rfl (by kernel_rfl) (by kernel_rfl) (by kernel_rfl) (fun _ _ _ _ h => h) (by rfl) (by rfl) ?_; apply Exists.intro; apply And.intro; (intro w; go_simp; try with_reducible rfl); (simp only [Act.put, List.setIfInBounds_toArray, List.set_cons_zero, List.set_cons_succ]))
      (refine regR 3 hS (fun _ h => take3 h) rfl (by kernel_rfl) (by kernel_rfl) (by kernel_rfl) (by kernel_rfl) (by kernel_rfl) (fun _ _ _ _ h => h) (by rfl) (by rfl) ?_; (first
                    | refine ⟨_, yLd _ _ (by rfl) _ _ (by rfl) (agOf (by rfl)) (by first | exact Has.z | exact Has.s Has.z | exact Has.s (Has.s Has.z) | exact Has.s (Has.s (Has.s Has.z)) | exact Has.s (Has.s (Has.s (Has.s Has.z))) | exact Has.s (Has.s (Has.s (Has.s (Has.s Has.z))))) (by rfl), ?_⟩
                    | refine ⟨_, yLdTb (f := one1) (x := vx) _ _ (by rfl) _ _ (by rfl) (agOf (by rfl)) (Has.s Has.z) x 0 (by omega) HVX.out (by rfl), ?_⟩
                    | refine ⟨_, yLdTb (f := one1) (x := vy) _ _ (by rfl) _ _ (by rfl) (agOf (by rfl)) (Has.s (Has.s Has.z)) y 0 (by omega) HVY.out (by rfl), ?_⟩); (simp only [Act.put, List.setIfInBounds_toArray, List.set_cons_zero, List.set_cons_succ]))
      (refine regP 4 hS (fun _ h => take3 h) rfl (by kernel_rfl) (by kernel_rfl) (by kernel_rfl) (fun _ _ _ _ h => h) (by rfl) (by rfl) ?_; apply Exists.intro; apply And.intro; (intro w; go_simp; try with_reducible rfl); (simp only [Act.put, List.setIfInBounds_toArray, List.set_cons_zero, List.set_cons_succ]))
      (refine regP 5 hS (fun _ h => take3 h) rfl (by kernel_rfl) (by kernel_rfl) (by kernel_rfl) (fun _ _ _ _ h => h) (by rfl) (by rfl) ?_; apply Exists.intro; apply And.intro; (intro w; go_simp; try with_reducible rfl); (simp only [Act.put, List.setIfInBounds_toArray, List.set_cons_zero, List.set_cons_succ]))
      (refine regP 6 hS (fun _ h => take3 h) rfl (by kernel_rfl) (by kernel_rfl) (by kernel_rfl) (fun _ _ _ _ h => h) (by rfl) (by rfl) ?_; apply Exists.intro; apply And.intro; (intro w; go_simp; try with_reducible rfl); (simp only [Act.put, List.setIfInBounds_toArray, List.set_cons_zero, List.set_cons_succ]))
      (refine regP 7 hS (fun _ h => take3 h) rfl (by kernel_rfl) (by kernel_rfl) (by kernel_rfl) (fun _ _ _ _ h => h) (by rfl) (by rfl) ?_; apply Exists.intro; apply And.intro; (intro w; go_simp; try with_reducible rfl); (simp only [Act.put, List.setIfInBounds_toArray, List.set_cons_zero, List.set_cons_succ]))
      (refine regR 8 hS (fun _ h => take3 h) rfl (by kernel_rfl) (by kernel_rfl) (by kernel_rfl) (by kernel_rfl) (by kernel_rfl) (fun _ _ _ _ h => h) (by rfl) (by rfl) ?_; (first
                    | refine ⟨_, yLd _ _ (by rfl) _ _ (by rfl) (agOf (by rfl)) (by first | exact Has.z | exact Has.s Has.z | exact Has.s (Has.s Has.z) | exact Has.s (Has.s (Has.s Has.z)) | exact Has.s (Has.s (Has.s (Has.s Has.z))) | exact Has.s (Has.s (Has.s (Has.s (Has.s Has.z))))) (by rfl), ?_⟩
                    | refine ⟨_, yLdTb (f := one1) (x := vx) _ _ (by rfl) _ _ (by rfl) (agOf (by rfl)) (Has.s Has.z) x 0 (by omega) HVX.out (by rfl), ?_⟩
                    | refine ⟨_, yLdTb (f := one1) (x := vy) _ _ (by rfl) _ _ (by rfl) (agOf (by rfl)) (Has.s (Has.s Has.z)) y 0 (by omega) HVY.out (by rfl), ?_⟩); (simp only [Act.put, List.setIfInBounds_toArray, List.set_cons_zero, List.set_cons_succ]))
      (refine regP 9 hS (fun _ h => take3 h) rfl (by kernel_rfl) (by kernel_rfl) (by kernel_rfl) (fun _ _ _ _ h => h) (by rfl) (by rfl) ?_; apply Exists.intro; apply And.intro; (intro w; go_simp; try with_reducible rfl); (simp only [Act.put, List.setIfInBounds_toArray, List.set_cons_zero, List.set_cons_succ]))
      (refine regP 10 hS (fun _ h => take3 h) rfl (by kernel_rfl) (by kernel_rfl) (by kernel_rfl) (fun _ _ _ _ h => h) (by rfl) (by rfl) ?_; apply Exists.intro; apply And.intro; (intro w; go_simp; try with_reducible rfl); (simp only [Act.put, List.setIfInBounds_toArray, List.set_cons_zero, List.set_cons_succ]))
      (refine regP 11 hS (fun _ h => take3 h) rfl (by kernel_rfl) (by kernel_rfl) (by kernel_rfl) (fun _ _ _ _ h => h) (by rfl) (by rfl) ?_; apply Exists.intro; apply And.intro; (intro w; go_simp; try with_reducible rfl); (simp only [Act.put, List.setIfInBounds_toArray, List.set_cons_zero, List.set_cons_succ]))
      (refine regP 12 hS (fun _ h => take3 h) rfl (by kernel_rfl) (by kernel_rfl) (by kernel_rfl) (fun _ _ _ _ h => h) (by rfl) (by rfl) ?_; apply Exists.intro; apply And.intro; (intro w; go_simp; try with_reducible rfl); (simp only [Act.put, List.setIfInBounds_toArray, List.set_cons_zero, List.set_cons_succ]))
      (refine regR 13 hS (fun _ h => take3 h) rfl (by kernel_rfl) (by kernel_rfl) (by kernel_rfl) (by kernel_rfl) (by kernel_rfl) (fun _ _ _ _ h => h) (by rfl) (by rfl) ?_; (first
                    | refine ⟨_, yLd _ _ (by rfl) _ _ (by rfl) (agOf (by rfl)) (by first | exact Has.z | exact Has.s Has.z | exact Has.s (Has.s Has.z) | exact Has.s (Has.s (Has.s Has.z)) | exact Has.s (Has.s (Has.s (Has.s Has.z))) | exact Has.s (Has.s (Has.s (Has.s (Has.s Has.z))))) (by rfl), ?_⟩
                    | refine ⟨_, yLdTb (f := one1) (x := vx) _ _ (by rfl) _ _ (by rfl) (agOf (by rfl)) (Has.s Has.z) x 0 (by omega) HVX.out (by rfl), ?_⟩
                    | refine ⟨_, yLdTb (f := one1) (x := vy) _ _ (by rfl) _ _ (by rfl) (agOf (by rfl)) (Has.s (Has.s Has.z)) y 0 (by omega) HVY.out (by rfl), ?_⟩); (simp only [Act.put, List.setIfInBounds_toArray, List.set_cons_zero, List.set_cons_succ]))
      (refine regP 14 hS (fun _ h => take3 h) rfl (by kernel_rfl) (by kernel_rfl) (by kernel_rfl) (fun _ _ _ _ h => h) (by rfl) (by rfl) ?_; apply Exists.intro; apply And.intro; (intro w; go_simp; try with_reducible rfl); (simp only [Act.put, List.setIfInBounds_toArray, List.set_cons_zero, List.set_cons_succ]))
      (refine regP 15 hS (fun _ h => take3 h) rfl (by kernel_rfl) (by kernel_rfl) (by kernel_rfl) (fun _ _ _ _ h => h) (by rfl) (by rfl) ?_; apply Exists.intro; apply And.intro; (intro w; go_simp; try with_reducible rfl); (simp only [Act.put, List.setIfInBounds_toArray, List.set_cons_zero, List.set_cons_succ]))
      (refine regR 16 hS (fun _ h => take3 h) rfl (by kernel_rfl) (by kernel_rfl) (by kernel_rfl) (by kernel_rfl) (by kernel_rfl) (fun _ _ _ _ h => h) (by rfl) (by rfl) ?_; (first
                    | refine ⟨_, yLd _ _ (by rfl) _ _ (by rfl) (agOf (by rfl)) (by first | exact Has.z | exact Has.s Has.z | exact Has.s (Has.s Has.z) | exact Has.s (Has.s (Has.s Has.z)) | exact Has.s (Has.s (Has.s (Has.s Has.z))) | exact Has.s (Has.s (Has.s (Has.s (Has.s Has.z))))) (by rfl), ?_⟩
                    | refine ⟨_, yLdTb (f := one1) (x := vx) _ _ (by rfl) _ _ (by rfl) (agOf (by rfl)) (Has.s Has.z) x 0 (by omega) HVX.out (by rfl), ?_⟩
                    | refine ⟨_, yLdTb (f := one1) (x := vy) _ _ (by rfl) _ _ (by rfl) (agOf (by rfl)) (Has.s (Has.s Has.z)) y 0 (by omega) HVY.out (by rfl), ?_⟩); (simp only [Act.put, List.setIfInBounds_toArray, List.set_cons_zero, List.set_cons_succ]))
      (refine regP 17 hS (fun _ h => take3 h) rfl (by kernel_rfl) (by kernel_rfl) (by kernel_rfl) (fun _ _ _ _ h => h) (by rfl) (by rfl) ?_; apply Exists.intro; apply And.intro; (intro w; go_simp; try with_reducible rfl); (simp only [Act.put, List.setIfInBounds_toArray, List.set_cons_zero, List.set_cons_succ]))
      (refine regP 19 hS (fun _ h => take3 h) rfl (by kernel_rfl) (by kernel_rfl) (by kernel_rfl) (fun _ _ _ _ h => h) (by rfl) (by rfl) ?_; apply Exists.intro; apply And.intro; (intro w; go_simp; try with_reducible rfl); (simp only [Act.put, List.setIfInBounds_toArray, List.set_cons_zero, List.set_cons_succ]))
      (refine regP 20 hS (fun _ h => take3 h) rfl (by kernel_rfl) (by kernel_rfl) (by kernel_rfl) (fun _ _ _ _ h => h) (by rfl) (by rfl) ?_; apply Exists.intro; apply And.intro; (intro w; go_simp; try with_reducible rfl); (simp only [Act.put, List.setIfInBounds_toArray, List.set_cons_zero, List.set_cons_succ]))
      (refine regP 21 hS (fun _ h => take3 h) rfl (by kernel_rfl) (by kernel_rfl) (by kernel_rfl) (fun _ _ _ _ h => h) (by rfl) (by rfl) ?_; apply Exists.intro; apply And.intro; (intro w; go_simp; try with_reducible rfl); (simp only [Act.put, List.setIfInBounds_toArray, List.set_cons_zero, List.set_cons_succ]))
      (refine regR 22 hS (fun _ h => take3 h) rfl (by kernel_rfl) (by kernel_rfl) (by kernel_rfl) (by kernel_rfl) (by kernel_rfl) (fun _ _ _ _ h => h) (by rfl) (by rfl) ?_; (first
                    | refine ⟨_, yLd _ _ (by rfl) _ _ (by rfl) (agOf (by rfl)) (by first | exact Has.z | exact Has.s Has.z | exact Has.s (Has.s Has.z) | exact Has.s (Has.s (Has.s Has.z)) | exact Has.s (Has.s (Has.s (Has.s Has.z))) | exact Has.s (Has.s (Has.s (Has.s (Has.s Has.z))))) (by rfl), ?_⟩
                    | refine ⟨_, yLdTb (f := one1) (x := vx) _ _ (by rfl) _ _ (by rfl) (agOf (by rfl)) (Has.s Has.z) x 0 (by omega) HVX.out (by rfl), ?_⟩
                    | refine ⟨_, yLdTb (f := one1) (x := vy) _ _ (by rfl) _ _ (by rfl) (agOf (by rfl)) (Has.s (Has.s Has.z)) y 0 (by omega) HVY.out (by rfl), ?_⟩); (simp only [Act.put, List.setIfInBounds_toArray, List.set_cons_zero, List.set_cons_succ]))
      (refine regP 23 hS (fun _ h => take3 h) rfl (by kernel_rfl) (by kernel_rfl) (by kernel_rfl) (fun _ _ _ _ h => h) (by rfl) (by rfl) ?_; apply Exists.intro; apply And.intro; (intro w; go_simp; try with_reducible rfl); (simp only [Act.put, List.setIfInBounds_toArray, List.set_cons_zero, List.set_cons_succ]))
      (refine regP 24 hS (fun _ h => take3 h) rfl (by kernel_rfl) (by kernel_rfl) (by kernel_rfl) (fun _ _ _ _ h => h) (by rfl) (by rfl) ?_; apply Exists.intro; apply And.intro; (intro w; go_simp; try with_reducible rfl); (simp only [Act.put, List.setIfInBounds_toArray, List.set_cons_zero, List.set_cons_succ]))
      (refine regR 25 hS (fun _ h => take3 h) rfl (by kernel_rfl) (by kernel_rfl) (by kernel_rfl) (by kernel_rfl) (by kernel_rfl) (fun _ _ _ _ h => h) (by rfl) (by rfl) ?_; (first
                    | refine ⟨_, yLd _ _ (by rfl) _ _ (by rfl) (agOf (by rfl)) (by first | exact Has.z | exact Has.s Has.z | exact Has.s (Has.s Has.z) | exact Has.s (Has.s (Has.s Has.z)) | exact Has.s (Has.s (Has.s (Has.s Has.z))) | exact Has.s (Has.s (Has.s (Has.s (Has.s Has.z))))) (by rfl), ?_⟩
                    | refine ⟨_, yLdTb (f := one1) (x := vx) _ _ (by rfl) _ _ (by rfl) (agOf (by rfl)) (Has.s Has.z) x 0 (by omega) HVX.out (by rfl), ?_⟩
                    | refine ⟨_, yLdTb (f := one1) (x := vy) _ _ (by rfl) _ _ (by rfl) (agOf (by rfl)) (Has.s (Has.s Has.z)) y 0 (by omega) HVY.out (by rfl), ?_⟩); (simp only [Act.put, List.setIfInBounds_toArray, List.set_cons_zero, List.set_cons_succ]))
      (refine regP 26 hS (fun _ h => take3 h) rfl (by kernel_rfl) (by kernel_rfl) (by kernel_rfl) (fun _ _ _ _ h => h) (by rfl) (by rfl) ?_; apply Exists.intro; apply And.intro; (intro w; go_simp; try with_reducible rfl); (simp only [Act.put, List.setIfInBounds_toArray, List.set_cons_zero, List.set_cons_succ]))
      (refine regA 18 rfl (by kernel_rfl) (by rfl) (by rfl) false (by kernel_rfl) (fun K hK => ?_); (first
                    | (refine Go.Sep.cl 78 _ _ (by rfl) (by rfl) (by kernel_rfl) (with_any hS (fun w h => HRU.out w _ (h.re [4])) HUL.out HZU.out HUS.out y) ?_; rintro e w1 ⟨v1, rfl, hS1⟩; clear hS; have hS := hS1; clear hS1; obtain ⟨ao1, c1, rfl, _⟩ := hS.irShape (k := 0) rfl; have hS1 := push3 hS; clear hS; have hS := hS1; clear hS1; refine ⟨_, rfl, ?_⟩)
                    | (refine Go.Sep.cl 78 _ _ (by rfl) (by rfl) (by kernel_rfl) (with_any hS (fun w h => HRD.out w _ (h.re [6])) HDL.out HZD.out HDS.out x) ?_; rintro e w1 ⟨v2, rfl, hS1⟩; clear hS; have hS := hS1; clear hS1; obtain ⟨ao2, c2, rfl, _⟩ := hS.irShape (k := 0) rfl; have hS1 := push4 hS; clear hS; have hS := hS1; clear hS1; refine ⟨_, rfl, ?_⟩)
                    | (refine stTbF (f := one1) hS _ _ _ (by rfl) _ _ (by rfl) (.slice ao1 _ c1) (by rfl) (by rfl) (szOf (by rfl)) (Has.s Has.z) rfl x 0 (by omega) HVX.out _ (by rfl) (by decide) ?_; intro w1 hS1; clear hS; have hS := hS1; clear hS1; dsimp only [List.set_cons_zero, List.set_cons_succ] at hS)
                    | (refine stTbF (f := one1) hS _ _ _ (by rfl) _ _ (by rfl) (.slice ao2 _ c2) (by rfl) (by rfl) (szOf (by rfl)) (Has.s (Has.s Has.z)) rfl y 0 (by omega) HVY.out _ (by rfl) (by decide) ?_; intro w1 hS1; clear hS; have hS := hS1; clear hS1; dsimp only [List.set_cons_zero, List.set_cons_succ] at hS)); refine hK _ _ _ (hS.upTo (fun _ h => by exact take3 h)) (fun _ _ h => h) ?_; clear hK K; (simp only [Act.put, List.setIfInBounds_toArray, List.set_cons_zero, List.set_cons_succ]))
      (refine regA 27 rfl (by kernel_rfl) (by rfl) (by rfl) false (by kernel_rfl) (fun K hK => ?_); (first
                    | (refine Go.Sep.cl 78 _ _ (by rfl) (by rfl) (by kernel_rfl) (with_any hS (fun w h => HRU.out w _ (h.re [4])) HUL.out HZU.out HUS.out y) ?_; rintro e w1 ⟨v1, rfl, hS1⟩; clear hS; have hS := hS1; clear hS1; obtain ⟨ao1, c1, rfl, _⟩ := hS.irShape (k := 0) rfl; have hS1 := push3 hS; clear hS; have hS := hS1; clear hS1; refine ⟨_, rfl, ?_⟩)
                    | (refine Go.Sep.cl 78 _ _ (by rfl) (by rfl) (by kernel_rfl) (with_any hS (fun w h => HRD.out w _ (h.re [6])) HDL.out HZD.out HDS.out x) ?_; rintro e w1 ⟨v2, rfl, hS1⟩; clear hS; have hS := hS1; clear hS1; obtain ⟨ao2, c2, rfl, _⟩ := hS.irShape (k := 0) rfl; have hS1 := push4 hS; clear hS; have hS := hS1; clear hS1; refine ⟨_, rfl, ?_⟩)
                    | (refine stTbF (f := one1) hS _ _ _ (by rfl) _ _ (by rfl) (.slice ao1 _ c1) (by rfl) (by rfl) (szOf (by rfl)) (Has.s Has.z) rfl x 0 (by omega) HVX.out _ (by rfl) (by decide) ?_; intro w1 hS1; clear hS; have hS := hS1; clear hS1; dsimp only [List.set_cons_zero, List.set_cons_succ] at hS)
                    | (refine stTbF (f := one1) hS _ _ _ (by rfl) _ _ (by rfl) (.slice ao2 _ c2) (by rfl) (by rfl) (szOf (by rfl)) (Has.s (Has.s Has.z)) rfl y 0 (by omega) HVY.out _ (by rfl) (by decide) ?_; intro w1 hS1; clear hS; have hS := hS1; clear hS1; dsimp only [List.set_cons_zero, List.set_cons_succ] at hS)); refine hK _ _ _ (hS.upTo (fun _ h => by exact take3 h)) (fun _ _ h => h) ?_; clear hK K; (simp only [Act.put, List.setIfInBounds_toArray, List.set_cons_zero, List.set_cons_succ]))
      (refine regP 28 hS (fun _ h => by exact take3 h) rfl (by kernel_rfl) (by kernel_rfl) (by kernel_rfl) (fun _ _ _ _ h => h) (by rfl) (by rfl) ?_; apply Exists.intro; apply And.intro; (intro w; go_simp; try with_reducible rfl); (simp only [Act.put, List.setIfInBounds_toArray, List.set_cons_zero, List.set_cons_succ]))
      (refine regA 29 rfl (by kernel_rfl) (by rfl) (by rfl) true (by kernel_rfl) (fun K hK => ?_); (first
                    | (refine Go.Sep.cl 78 _ _ (by rfl) (by rfl) (by kernel_rfl) (with_any hS (fun w h => HRU.out w _ (h.re [4])) HUL.out HZU.out HUS.out y) ?_; rintro e w1 ⟨v1, rfl, hS1⟩; clear hS; have hS := hS1; clear hS1; obtain ⟨ao1, c1, rfl, _⟩ := hS.irShape (k := 0) rfl; have hS1 := push3 hS; clear hS; have hS := hS1; clear hS1; refine ⟨_, rfl, ?_⟩)
                    | (refine Go.Sep.cl 78 _ _ (by rfl) (by rfl) (by kernel_rfl) (with_any hS (fun w h => HRD.out w _ (h.re [6])) HDL.out HZD.out HDS.out x) ?_; rintro e w1 ⟨v2, rfl, hS1⟩; clear hS; have hS := hS1; clear hS1; obtain ⟨ao2, c2, rfl, _⟩ := hS.irShape (k := 0) rfl; have hS1 := push4 hS; clear hS; have hS := hS1; clear hS1; refine ⟨_, rfl, ?_⟩)
                    | (refine stTbF (f := one1) hS _ _ _ (by rfl) _ _ (by rfl) (.slice ao1 _ c1) (by rfl) (by rfl) (szOf (by rfl)) (Has.s Has.z) rfl x 0 (by omega) HVX.out _ (by rfl) (by decide) ?_; intro w1 hS1; clear hS; have hS := hS1; clear hS1; dsimp only [List.set_cons_zero, List.set_cons_succ] at hS)
                    | (refine stTbF (f := one1) hS _ _ _ (by rfl) _ _ (by rfl) (.slice ao2 _ c2) (by rfl) (by rfl) (szOf (by rfl)) (Has.s (Has.s Has.z)) rfl y 0 (by omega) HVY.out _ (by rfl) (by decide) ?_; intro w1 hS1; clear hS; have hS := hS1; clear hS1; dsimp only [List.set_cons_zero, List.set_cons_succ] at hS)); refine hK _ _ _ hS (by first | (intro h; cases h; done) | exact fun _ _ h => h | exact fun _ _ h => h.drop | exact fun _ _ h => h.drop.drop | exact fun _ _ h => h.drop.pull1 | exact fun _ _ h => h.take2 | exact fun _ _ h => h.one Has.z | exact fun _ _ h => h.one (Has.s Has.z) | exact fun _ _ h => h.one (Has.s (Has.s Has.z))) ?_; clear hK K; (simp only [Act.put, List.setIfInBounds_toArray, List.set_cons_zero, List.set_cons_succ]))
      (refine regP 30 hS (fun _ h => h) rfl (by kernel_rfl) (by kernel_rfl) (by kernel_rfl) (fun _ _ _ _ h => h) (by rfl) (by rfl) ?_; apply Exists.intro; apply And.intro; (intro w; go_simp; try with_reducible rfl); (simp only [Act.put, List.setIfInBounds_toArray, List.set_cons_zero, List.set_cons_succ]))
      (refine regA 31 rfl (by kernel_rfl) (by rfl) (by rfl) true (by kernel_rfl) (fun K hK => ?_); (first
                    | (refine Go.Sep.cl 78 _ _ (by rfl) (by rfl) (by kernel_rfl) (with_any hS (fun w h => HRU.out w _ (h.re [4])) HUL.out HZU.out HUS.out y) ?_; rintro e w1 ⟨v1, rfl, hS1⟩; clear hS; have hS := hS1; clear hS1; obtain ⟨ao1, c1, rfl, _⟩ := hS.irShape (k := 0) rfl; have hS1 := push3 hS; clear hS; have hS := hS1; clear hS1; refine ⟨_, rfl, ?_⟩)
                    | (refine Go.Sep.cl 78 _ _ (by rfl) (by rfl) (by kernel_rfl) (with_any hS (fun w h => HRD.out w _ (h.re [6])) HDL.out HZD.out HDS.out x) ?_; rintro e w1 ⟨v2, rfl, hS1⟩; clear hS; have hS := hS1; clear hS1; obtain ⟨ao2, c2, rfl, _⟩ := hS.irShape (k := 0) rfl; have hS1 := push4 hS; clear hS; have hS := hS1; clear hS1; refine ⟨_, rfl, ?_⟩)
                    | (refine stTbF (f := one1) hS _ _ _ (by rfl) _ _ (by rfl) (.slice ao1 _ c1) (by rfl) (by rfl) (szOf (by rfl)) (Has.s Has.z) rfl x 0 (by omega) HVX.out _ (by rfl) (by decide) ?_; intro w1 hS1; clear hS; have hS := hS1; clear hS1; dsimp only [List.set_cons_zero, List.set_cons_succ] at hS)
                    | (refine stTbF (f := one1) hS _ _ _ (by rfl) _ _ (by rfl) (.slice ao2 _ c2) (by rfl) (by rfl) (szOf (by rfl)) (Has.s (Has.s Has.z)) rfl y 0 (by omega) HVY.out _ (by rfl) (by decide) ?_; intro w1 hS1; clear hS; have hS := hS1; clear hS1; dsimp only [List.set_cons_zero, List.set_cons_succ] at hS)); refine hK _ _ _ hS (by first | (intro h; cases h; done) | exact fun _ _ h => h | exact fun _ _ h => h.drop | exact fun _ _ h => h.drop.drop | exact fun _ _ h => h.drop.pull1 | exact fun _ _ h => h.take2 | exact fun _ _ h => h.one Has.z | exact fun _ _ h => h.one (Has.s Has.z) | exact fun _ _ h => h.one (Has.s (Has.s Has.z))) ?_; clear hK K; (simp only [Act.put, List.setIfInBounds_toArray, List.set_cons_zero, List.set_cons_succ]))
      refine regDone (by kernel_rfl) ?_
      go_wp2
      go_ret
      exact ⟨rfl, IsG.link HX.out HY.out HN.out HU.out HD.out hS⟩
end Go.Proofs.Ytapodjhkpahdnaa
