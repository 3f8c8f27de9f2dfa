/-
  Package graph: Above, Reaches.
-/
import Derived.Test.YtapodjhkpahdnaaGrAboveP
import Derived.Test.YtapodjhkpahdnaaGrAdd
import Derived.WalkMore
namespace Go.Proofs.Ytapodjhkpahdnaa
open Go.RowKit Go.Sep
set_option linter.unusedSimpArgs false
set_option linter.unusedVariables false
attribute [local irreducible] Go.Oper.wp Go.wpList Go.Calls Go.Code.wp Go.Sep.Reg
attribute [local irreducible] IsG
theorem map_seen : mapB Try.prog 81 = some (3, 4) := by kernel_rfl
theorem key_nat : KeyOk Try.prog 3 (Value.int .i64) := key_int (by kernel_rfl)
def intOf : Value → Int | .int _ q => q | _ => 0
theorem IsG.mkAll {W w : World} {L : List Asrt} {p : Nat} {G : Gr} {vn vu vd : Value} {vsu vsd : List Value} {me ml : Nat} (hu : vsu.length = G.upsL.length) (hd : vsd.length = G.downsL.length)
    (h : Sat W w (Cs p 78 [vn, vu, vd, .map (some me), .map (some ml)] :: Tb 32 6 nv vn G.N :: Tb 35 1 one1 vu vsu :: St (List.zipWith Irn vsu G.upsL) ::
      Tb 35 1 one1 vd vsd :: St (List.zipWith Irn vsd G.downsL) :: Mp ek bw me G.edgesF :: Mp ek nw ml G.latF :: L)) : Sat W w (IsG p G :: L) := by
  refine IsG.mk (vn := vn) (vu := vu) (vd := vd) (me := me) (ml := ml) ?_
  rw [tb_E 35 0, tb_E 35 0] at h
  have h6 := Sat.rwsMk hd (h.re [4, 5])
  have h7 := Sat.rwsMk hu (h6.re [3, 4])
  exact h7.re [2, 3, 0, 1]
set_option maxRecDepth 20000 in
set_option maxHeartbeats 4000000 in
theorem above_any {W w : World} {L : List Asrt} {p : Nat} {G : Gr} (hS : Sat W w (IsG p G :: L)) (hG : G.Ok) (n : Int) :
    Calls Try.prog 15 #[.pointer (some ⟨p, 0, none⟩), .int .i64 n] w fun e w' => ∃ v, e = .returned v ∧ Sat W w' (Ir v (G.aboveI n) :: IsG p G :: L) := by
  cases hb : G.is n
  · have HB := Lib.hid (show (!G.is n) = true by rw [hb]; rfl)
    have HF := Lib.hid (show G.aboveI n = [] by unfold Gr.aboveI; rw [if_neg (by simp [hb])])
    rw [HF.out]
    go_enter Try.func15, Try.ntmps15
    go_wp2
    go_step3
    go_wp2_with (go_at_call 41; refine (none_any hS n HB.out).mono ?_; rintro e w1 ⟨rfl, rfl⟩)
    rw [Exit.noGoto_ret]
    go_ret
    exact ⟨_, rfl, hS.irNil⟩
  have HB := Lib.hid (show (!G.is n) = false by rw [hb]; rfl)
  obtain ⟨m, rfl, hm⟩ := Gr.is_nat hb
  have HF := Lib.hid (show G.aboveI (m : Int) = G.above m by unfold Gr.aboveI; rw [if_pos hb]; rfl)
  clear hb
  obtain ⟨vn, vu, vd, vsu, vsd, me, ml, hu, hd, hO⟩ := IsG.openAll hS
  have HU := Lib.hid hu
  have HD := Lib.hid hd
  clear hu hd
  rw [HF.out]
  go_enter Try.func15, Try.ntmps15
  go_wp2
  refine wp_scope_jumps3 0 (fun a' w' => ∃ (i : Nat) (l : List Nat) (vl : Value) (bs : Nat) (u9 u17 u18 u19 u20 u21 u22 u23 u24 u25 u26 u27 u28 u29 u30 u31 u32 u33 u34 u35 u36 u37 u38 u39 u40 u41 u42 u43 u44 u45 u46 u47 u48 u49 : Value), Wk G m l i ∧ Sat W w' (Ir vl l :: Mp (Value.int .i64) bw bs (seenF l) :: Cs p 78 [vn, vu, vd, .map (some me), .map (some ml)] :: Tb 32 6 nv vn G.N :: Tb 35 1 one1 vu vsu :: St (List.zipWith Irn vsu G.upsL) :: Tb 35 1 one1 vd vsd :: St (List.zipWith Irn vsd G.downsL) :: Mp ek bw me G.edgesF :: Mp ek nw ml G.latF :: L) ∧ a' = { tmps := #[.pointer (some ⟨p, 0, none⟩), .int .i64 (m : Int), undef, undef, .slice none 0 0, .map (some bs), vl, .int .i64 (i : Int), undef, u9, .pointer (some ⟨p, 0, none⟩), .int .i64 (m : Int), .bool false, .map (some bs), .int .i64 (m : Int), .map (some bs), .int .i64 (m : Int), u17, u18, u19, u20, u21, u22, u23, u24, u25, u26, u27, u28, u29, u30, u31, u32, u33, u34, u35, u36, u37, u38, u39, u40, u41, u42, u43, u44, u45, u46, u47, u48, u49, undef, undef, undef], defers := [] }) (fun a' _ => G.N.length - (intOf (a'.tmps.getD 7 undef)).toNat) rfl ?_ ?_
  · clear hO hS
    rintro a' w' ⟨i, l, vl, bs, u9, u17, u18, u19, u20, u21, u22, u23, u24, u25, u26, u27, u28, u29, u30, u31, u32, u33, u34, u35, u36, u37, u38, u39, u40, u41, u42, u43, u44, u45, u46, u47, u48, u49, hW, hS, rfl⟩
    have hll := hW.len
    have hgl := hG.len
    obtain ⟨aol, cl0, rfl, _⟩ := hS.irShape (k := 0) rfl
    by_cases hlt : i < l.length
    · obtain ⟨x, hx⟩ : ∃ x, l[i]? = some x := ⟨_, List.getElem?_eq_getElem hlt⟩
      have hxl := hW.low x (List.mem_of_getElem? hx)
      obtain ⟨vx, hvx⟩ : ∃ v, vsu[x]? = some v := ⟨_, List.getElem?_eq_getElem (by rw [HU.out, Gr.upsL_len]; exact hxl)⟩
      have hux := Gr.upsL_at hxl
      obtain ⟨L1, hrow⟩ := irnRow (k := 5) hS rfl hvx hux
      obtain ⟨aox, cx, rfl, _⟩ := hrow.irShape (k := 0) rfl
      have HROW : ∀ w (L' : List Asrt), Sat W w (St (List.zipWith Irn vsu G.upsL) :: L') → Rd w (.slice aox (G.ups x).length cx) (G.ups x).length 1 (iv (G.ups x)) := fun w L' h => by
        obtain ⟨_, h2⟩ := irnRow (k := 0) h rfl hvx hux
        exact h2.irRd (k := 0) rfl
      have HROW := Lib.hid HROW
      have hul := Gr.ups_len G x
      have HX := Lib.hid hx
      have HVX := Lib.hid hvx
      have HW := Lib.hid hW
      have HSU := Lib.hid (show vsu.length = G.N.length by rw [HU.out, Gr.upsL_len])
      have hsu : (x : Int) < (vsu.length : Int) := by rw [HSU.out]; omega
      obtain ⟨bu, ofu, cu, rfl, _⟩ := hS.tbAddr (k := 4) rfl (by rw [HSU.out]; omega)
      obtain ⟨bl, ofl, cl1, he, _⟩ := hS.slAddr (k := 0) (E := 0) (sz := 1) rfl (by omega)
      simp only [Value.slice.injEq, true_and] at he
      obtain ⟨rfl, rfl⟩ := he
      have j1 : (i : Int) < (l.length : Int) := by omega
      have j2 : (l.length : Int) ≤ 4096 := by omega
      have j3 : ((G.ups x).length : Int) ≤ 4096 := by omega
      have e1 : decide (i < l.length) = true := decide_eq_true hlt
      have e2 : decide ((i : Int) < (l.length : Int)) = true := decide_eq_true j1
      clear hx hvx hux hrow hW hlt
      go_wp2
      refine regStart [] hS (by kernel_rfl) rfl ?_
      intro w1 hS1
      clear hS; have hS := hS1; clear hS1
      (refine regP 0 hS (fun _ h => h) rfl (by kernel_rfl) (by kernel_rfl) (by kernel_rfl) (fun _ _ _ _ h => h) (by rfl) (by rfl) ?_; apply Exists.intro; apply And.intro; (intro w; go_simp; try with_reducible rfl); (simp only [Act.put, List.setIfInBounds_toArray, List.set_cons_zero, List.set_cons_succ]))
      (refine regP 1 hS (fun _ h => h) rfl (by kernel_rfl) (by kernel_rfl) (by kernel_rfl) (fun _ _ _ _ h => h) (by rfl) (by rfl) ?_; apply Exists.intro; apply And.intro; (intro w; go_simp; try with_reducible rfl); (simp only [Act.put, List.setIfInBounds_toArray, List.set_cons_zero, List.set_cons_succ]))
      (refine regP 2 hS (fun _ h => h) rfl (by kernel_rfl) (by kernel_rfl) (by kernel_rfl) (fun _ _ _ _ h => h) (by rfl) (by rfl) ?_; apply Exists.intro; apply And.intro; (intro w; go_simp; try with_reducible rfl); (simp only [Act.put, List.setIfInBounds_toArray, List.set_cons_zero, List.set_cons_succ]))
      (refine regR 3 hS (fun _ h => h) rfl (by kernel_rfl) (by kernel_rfl) (by kernel_rfl) (by kernel_rfl) (by kernel_rfl) (fun _ _ _ _ h => h) (by rfl) (by rfl) ?_; (first
                    | refine ⟨_, yLd _ _ (by rfl) _ _ (by rfl) (agOf (by rfl)) (by first | exact Has.z | exact Has.s Has.z | exact Has.s (Has.s Has.z) | exact Has.s (Has.s (Has.s Has.z)) | exact Has.s (Has.s (Has.s (Has.s Has.z))) | exact Has.s (Has.s (Has.s (Has.s (Has.s Has.z))))) (by rfl), ?_⟩
                    | refine ⟨_, yLdSl _ _ (by rfl) _ _ (by rfl) (agOf (by rfl)) (E := 0) (sz := 1) (vs := iv l) Has.z i (by omega) (iv_at HX.out), ?_⟩
                    | refine ⟨_, yLdTb (f := one1) (x := .slice aox (G.ups x).length cx) _ _ (by rfl) _ _ (by rfl) (agOf (by rfl)) (Has.s (Has.s (Has.s (Has.s Has.z)))) x 0 (by omega) HVX.out (by rfl), ?_⟩); (simp only [Act.put, List.setIfInBounds_toArray, List.set_cons_zero, List.set_cons_succ]))
      (refine regP 4 hS (fun _ h => h) rfl (by kernel_rfl) (by kernel_rfl) (by kernel_rfl) (fun _ _ _ _ h => h) (by rfl) (by rfl) ?_; apply Exists.intro; apply And.intro; (intro w; go_simp; try with_reducible rfl); (simp only [Act.put, List.setIfInBounds_toArray, List.set_cons_zero, List.set_cons_succ]))
      (refine regP 5 hS (fun _ h => h) rfl (by kernel_rfl) (by kernel_rfl) (by kernel_rfl) (fun _ _ _ _ h => h) (by rfl) (by rfl) ?_; apply Exists.intro; apply And.intro; (intro w; go_simp; try with_reducible rfl); (simp only [Act.put, List.setIfInBounds_toArray, List.set_cons_zero, List.set_cons_succ]))
      (refine regP 6 hS (fun _ h => h) rfl (by kernel_rfl) (by kernel_rfl) (by kernel_rfl) (fun _ _ _ _ h => h) (by rfl) (by rfl) ?_; apply Exists.intro; apply And.intro; (intro w; go_simp; try with_reducible rfl); (simp only [Act.put, List.setIfInBounds_toArray, List.set_cons_zero, List.set_cons_succ]))
      (refine regR 7 hS (fun _ h => h) rfl (by kernel_rfl) (by kernel_rfl) (by kernel_rfl) (by kernel_rfl) (by kernel_rfl) (fun _ _ _ _ h => h) (by rfl) (by rfl) ?_; (first
                    | refine ⟨_, yLd _ _ (by rfl) _ _ (by rfl) (agOf (by rfl)) (by first | exact Has.z | exact Has.s Has.z | exact Has.s (Has.s Has.z) | exact Has.s (Has.s (Has.s Has.z)) | exact Has.s (Has.s (Has.s (Has.s Has.z))) | exact Has.s (Has.s (Has.s (Has.s (Has.s Has.z))))) (by rfl), ?_⟩
                    | refine ⟨_, yLdSl _ _ (by rfl) _ _ (by rfl) (agOf (by rfl)) (E := 0) (sz := 1) (vs := iv l) Has.z i (by omega) (iv_at HX.out), ?_⟩
                    | refine ⟨_, yLdTb (f := one1) (x := .slice aox (G.ups x).length cx) _ _ (by rfl) _ _ (by rfl) (agOf (by rfl)) (Has.s (Has.s (Has.s (Has.s Has.z)))) x 0 (by omega) HVX.out (by rfl), ?_⟩); (simp only [Act.put, List.setIfInBounds_toArray, List.set_cons_zero, List.set_cons_succ]))
      (refine regP 8 hS (fun _ h => h) rfl (by kernel_rfl) (by kernel_rfl) (by kernel_rfl) (fun _ _ _ _ h => h) (by rfl) (by rfl) ?_; apply Exists.intro; apply And.intro; (intro w; go_simp; try with_reducible rfl); (simp only [Act.put, List.setIfInBounds_toArray, List.set_cons_zero, List.set_cons_succ]))
      (refine regR 9 hS (fun _ h => h) rfl (by kernel_rfl) (by kernel_rfl) (by kernel_rfl) (by kernel_rfl) (by kernel_rfl) (fun _ _ _ _ h => h) (by rfl) (by rfl) ?_; (first
                    | refine ⟨_, yLd _ _ (by rfl) _ _ (by rfl) (agOf (by rfl)) (by first | exact Has.z | exact Has.s Has.z | exact Has.s (Has.s Has.z) | exact Has.s (Has.s (Has.s Has.z)) | exact Has.s (Has.s (Has.s (Has.s Has.z))) | exact Has.s (Has.s (Has.s (Has.s (Has.s Has.z))))) (by rfl), ?_⟩
                    | refine ⟨_, yLdSl _ _ (by rfl) _ _ (by rfl) (agOf (by rfl)) (E := 0) (sz := 1) (vs := iv l) Has.z i (by omega) (iv_at HX.out), ?_⟩
                    | refine ⟨_, yLdTb (f := one1) (x := .slice aox (G.ups x).length cx) _ _ (by rfl) _ _ (by rfl) (agOf (by rfl)) (Has.s (Has.s (Has.s (Has.s Has.z)))) x 0 (by omega) HVX.out (by rfl), ?_⟩); (simp only [Act.put, List.setIfInBounds_toArray, List.set_cons_zero, List.set_cons_succ]))
      (refine regP 10 hS (fun _ h => h) rfl (by kernel_rfl) (by kernel_rfl) (by kernel_rfl) (fun _ _ _ _ h => h) (by rfl) (by rfl) ?_; apply Exists.intro; apply And.intro; (intro w; go_simp; try with_reducible rfl); (simp only [Act.put, List.setIfInBounds_toArray, List.set_cons_zero, List.set_cons_succ]))
      (refine regP 11 hS (fun _ h => h) rfl (by kernel_rfl) (by kernel_rfl) (by kernel_rfl) (fun _ _ _ _ h => h) (by rfl) (by rfl) ?_; apply Exists.intro; apply And.intro; (intro w; go_simp; try with_reducible rfl); (simp only [Act.put, List.setIfInBounds_toArray, List.set_cons_zero, List.set_cons_succ]))
      refine regDone (by kernel_rfl) ?_
      go_wp2
      go_loopw [6, 33] (fun v6 v33 wz => ∃ (j : Nat) (l' : List Nat), v33 = .int .i64 (j : Int) ∧ j ≤ (G.ups x).length ∧ Wk G m l' i ∧ l'[i]? = some x ∧ (∀ y ∈ (G.ups x).take j, y ∈ l') ∧ Sat W wz (Ir v6 l' :: Mp (Value.int .i64) bw bs (seenF l') :: Cs p 78 [vn, .slice (some ⟨bu, ofu, none⟩) vsu.length cu, vd, .map (some me), .map (some ml)] :: Tb 32 6 nv vn G.N :: Tb 35 1 one1 (.slice (some ⟨bu, ofu, none⟩) vsu.length cu) vsu :: St (List.zipWith Irn vsu G.upsL) :: Tb 35 1 one1 vd vsd :: St (List.zipWith Irn vsd G.downsL) :: Mp ek bw me G.edgesF :: Mp ek nw ml G.latF :: L)) (fun _ v33 _ => (G.ups x).length - (intOf v33).toNat)
      case atStart => exact ⟨0, l, rfl, Nat.zero_le _, HW.out, HX.out, by simp, hS⟩
      case round =>
        clear hS
        obtain ⟨j, l', rfl, hj, hW', hx', hin, hS⟩ := hrel
        have hl2 := hW'.len
        have hi2 := (List.getElem?_eq_some_iff.1 hx').1
        by_cases hlt : j < (G.ups x).length
        · obtain ⟨y, hy⟩ : ∃ y, (G.ups x)[j]? = some y := ⟨_, List.getElem?_eq_getElem hlt⟩
          have hym := List.mem_of_getElem? hy
          have HY := Lib.hid hy
          have HT := Lib.hid (show (G.ups x).take (j + 1) = (G.ups x).take j ++ [y] by rw [List.take_add_one, hy]; rfl)
          obtain ⟨bx, ofx, rfl⟩ : ∃ bx ofx, aox = some ⟨bx, ofx, none⟩ := by
            obtain ⟨_, _, he, h1, h2, h3, h5⟩ := HROW.out _ _ (hS.re [5])
            obtain ⟨b', o', h6, _⟩ := h5 (by omega)
            simp only [Value.slice.injEq] at he
            exact ⟨b', o', by rw [he.1, h6]⟩
          have k1 : (j : Int) < ((G.ups x).length : Int) := by omega
          have k2 : (l'.length : Int) ≤ 4096 := by omega
          have HLT := Lib.hid hlt
          have HLN := Lib.hid (show l'.length ≤ 4096 by omega)
          clear hy hlt
          by_cases hy' : y ∈ l'
          · have HSE := Lib.hid (seen_yes hy')
            go_wp2_with (first
              | (refine toList (by rfl) ?_; refine ld hS _ _ (by rfl) _ _ (by rfl) (agOf (by rfl)) (by first | exact Has.z | exact Has.s Has.z | exact Has.s (Has.s Has.z) | exact Has.s (Has.s (Has.s Has.z)) | exact Has.s (Has.s (Has.s (Has.s Has.z))) | exact Has.s (Has.s (Has.s (Has.s (Has.s Has.z))))) (by rfl) ?_)
              | (refine toList (by rfl) ?_; refine wp_of_reads (rLdRd1 (HROW.out _ _ (hS.re [5])) _ _ (by rfl) _ (by rfl) (agOf (by rfl)) j (by omega) (iv_at HY.out) (by omega)) ?_)
              | (refine toList (by rfl) ?_; refine wp_of_reads (rLkp hS _ _ _ false (by rfl) (by rfl) (y : Int) (by rfl) map_seen key_nat (zrOf (by rfl)) (Has.s Has.z)) ?_; rw [if_neg (by decide), HSE.out]))
            exact ⟨⟨j + 1, l', by go_num, HLT.out, hW', hx', fun z hz => by rw [HT.out, List.mem_append, List.mem_singleton] at hz; rcases hz with hz | rfl; exact hin z hz; exact hy', hS⟩, by simp [intOf]; omega⟩
          · have HSE := Lib.hid (seen_no hy')
            have HA := Lib.hid (show addS l' y = l' ++ [y] by unfold addS; rw [if_neg hy'])
            have HWA := Lib.hid (hW'.add hG hx' hym)
            have HXA := Lib.hid (addS_at (y := y) hx')
            go_wp2_with (first
              | (refine toList (by rfl) ?_; refine ld hS _ _ (by rfl) _ _ (by rfl) (agOf (by rfl)) (by first | exact Has.z | exact Has.s Has.z | exact Has.s (Has.s Has.z) | exact Has.s (Has.s (Has.s Has.z)) | exact Has.s (Has.s (Has.s (Has.s Has.z))) | exact Has.s (Has.s (Has.s (Has.s (Has.s Has.z))))) (by rfl) ?_)
              | (refine toList (by rfl) ?_; refine wp_of_reads (rLdRd1 (HROW.out _ _ (hS.re [5])) _ _ (by rfl) _ (by rfl) (agOf (by rfl)) j (by omega) (iv_at HY.out) (by omega)) ?_)
              | (refine toList (by rfl) ?_; refine wp_of_reads (rLkp hS _ _ _ false (by rfl) (by rfl) (y : Int) (by rfl) map_seen key_nat (zrOf (by rfl)) (Has.s Has.z)) ?_; rw [if_neg (by decide), HSE.out])
              | (refine toList (by rfl) ?_; refine mpSt (ke := Value.int .i64) (ve := bw) hS _ _ _ _ (.inl (by rfl)) (by rfl) (y : Int) (by rfl) true (by rfl) map_seen key_nat (Has.s Has.z) ?_; intro w1 hS1; clear hS; have hS := hS1; clear hS1; dsimp only [List.set_cons_zero, List.set_cons_succ] at hS; rw [seen_snoc] at hS)
              | (refine toList (by rfl) ?_; refine bsF hS _ _ _ (by rfl) (elOf (by rfl)) [.int .i64 y] (by rfl) (by rfl) (by decide) (by decide) (by simp [Value.cells]) ?_; intro b1 w1 hS1; clear hS; have hS := hS1; clear hS1; rw [sca1 rfl] at hS)
              | (refine toList (by rfl) ?_; refine apI (m := [y]) hS _ _ _ _ (by rfl) (by rfl) (by rfl) (elOf (by rfl)) (by rfl) (by rfl) (by rfl) (inOf (by rfl)) (Has.s Has.z) (by exact hS.csRd0 (n := 1) (sz := 1) Has.z (by decide) rfl) (by have := HLN.out; rw [List.length_singleton]; omega) ?_; intro v1 w1 hS1; clear hS; have hS := hS1; clear hS1; dsimp only [List.set_cons_zero, List.set_cons_succ] at hS; rw [← HA.out] at hS))
            exact ⟨⟨j + 1, addS l' y, by go_num, HLT.out, HWA.out, HXA.out, fun z hz => by rw [HT.out, List.mem_append, List.mem_singleton] at hz; exact mem_addS.2 (hz.imp_left (hin z)), hS.drop⟩, by simp [intOf]; omega⟩
        · obtain rfl : j = (G.ups x).length := by omega
          rw [List.take_length] at hin
          have HN := Lib.hid (hW'.next hG hx' hin)
          have k2 : (i : Int) < 4096 := by omega
          clear hin hlt hj
          go_wp2
          go_step3
          refine And.intro rfl (And.intro ⟨i + 1, l', _, bs, _, _, _, _, _, _, _, _, _, _, _, _, _, _, _, _, _, _, _, _, _, _, _, _, _, _, _, _, _, _, _, _, _, _, HN.out, hS, rfl⟩ ?_)
          simp [intOf]
          omega
    · have hil : i = l.length := by have := hW.le; omega
      have HDN := Lib.hid (hW.done_eq hil)
      have e1 : decide (i < l.length) = false := decide_eq_false hlt
      have e2 : decide ((i : Int) < (l.length : Int)) = false := decide_eq_false (by omega)
      clear hlt hil hW
      go_wp2_with (go_at_call 42; refine (sort_any hS (by omega)).mono ?_; rintro e w1 ⟨rfl, hS1⟩; clear hS; have hS := hS1; clear hS1)
      simp only [Exit.jump]
      go_ret
      rw [HDN.out] at hS
      exact ⟨_, rfl, Sat.pull1 (IsG.mkAll HU.out HD.out (hS.pull1.drop.re [1, 2, 3, 4, 5, 6, 7, 8, 0]))⟩
  · intro HP
    go_wp2_with (first
      | (go_at_call 41; refine (none_any hS m HB.out).mono ?_; rintro e w1 ⟨rfl, rfl⟩)
      | (refine toList (by rfl) ?_; refine mpMake (Value.int .i64) bw hO _ (by rfl) ?_; intro bs w1 hS1; clear hO; have hO := hS1; clear hS1)
      | (refine toList (by rfl) ?_; refine mpSt (ke := Value.int .i64) (ve := bw) hO _ _ _ _ (.inr (by rfl)) (by rfl) (m : Int) (by rfl) true (by rfl) map_seen key_nat Has.z ?_; intro w1 hS1; clear hO; have hO := hS1; clear hS1; dsimp only [List.set_cons_zero] at hO; rw [seen_one] at hO)
      | (refine toList (by rfl) ?_; refine bsF hO _ _ _ (by rfl) (elOf (by rfl)) [.int .i64 m] (by rfl) (by rfl) (by decide) (by decide) (by simp [Value.cells]) ?_; intro b1 w1 hS1; clear hO; have hO := hS1; clear hS1; rw [sca1 rfl] at hO))
    go_step3
    rename_i K hK
    exact hK _ _ (HP _ _ ⟨0, [m], _, bs, _, _, _, _, _, _, _, _, _, _, _, _, _, _, _, _, _, _, _, _, _, _, _, _, _, _, _, _, _, _, _, _, _, _, Wk.start hm, Sat.slMk (n := 1) (sz := 1) (cap := 1) (off := 0) (pre := []) (vs := iv [m]) (rest := []) hO (Nat.le_refl _) (by decide) rfl rfl (Nat.le_refl 1), rfl⟩)
theorem Gr.aboveI_len {G : Gr} (n : Int) : (G.aboveI n).length ≤ G.N.length := by
  unfold Gr.aboveI
  split
  · exact Gr.above_len G _
  · exact Nat.zero_le _
theorem reaches_any {W w : World} {L : List Asrt} {p : Nat} {G : Gr} (hS : Sat W w (IsG p G :: L)) (hG : G.Ok) (a b : Int) :
    Calls Try.prog 34 #[.pointer (some ⟨p, 0, none⟩), .int .i64 a, .int .i64 b] w fun e w' => e = .returned (.bool (G.reaches a b)) ∧ Sat W w' (IsG p G :: L) := by
  have HL := Lib.hid (show (G.aboveI a).length ≤ 1000000 by have := hG.len; have := Gr.aboveI_len (G := G) a; omega)
  obtain ⟨r, hr⟩ : ∃ r, G.reaches a b = r := ⟨_, rfl⟩
  have HR := Lib.hid (show (G.aboveI a).any (fun y => decide ((y : Int) = b)) = r from hr)
  rw [hr]
  clear hr
  go_enter Try.func34, Try.ntmps34
  go_wp2_with (first
    | (go_at_call 15; refine (above_any hS hG a).mono ?_; rintro e w1 ⟨v1, rfl, hS1⟩; clear hS; have hS := hS1; clear hS1; obtain ⟨ao1, c1, rfl, _⟩ := hS.irShape (k := 0) rfl)
    | (go_at_call 70; refine (contains_any hS _ _ _ (hS.irRd (k := 0) rfl) HL.out b HR.out).mono ?_; rintro e w1 ⟨rfl, rfl⟩))
  go_ret
  exact ⟨rfl, hS.drop⟩
end Go.Proofs.Ytapodjhkpahdnaa
