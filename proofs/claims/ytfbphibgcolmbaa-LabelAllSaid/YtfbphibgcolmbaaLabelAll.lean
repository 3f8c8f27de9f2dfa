/-
  For all calls and every number, LabelAll answers true: no condition.
-/
import Derived.Test.YtfbphibgcolmbaaLbRef
namespace Go.Proofs.Ytfbphibgcolmbaa
open Go.RowKit Go.Sep Go.ChangeShapes Go.WideShapes Go.ChangeAt
set_option linter.unusedSimpArgs false
set_option linter.unusedVariables false
attribute [local irreducible] Go.Oper.wp Go.wpList Go.Calls Go.Code.wp Go.Sep.Reg
theorem il_iv (f : Nat → Nat) (n : Nat) : il f n = iv ((List.range n).map f) := by simp [il, iv]
theorem same_il {W w : World} {L : List Asrt} (hS : Sat W w L) {f : Nat → Nat} {n b d k j E E' : Nat} (h1 : Has L k (Cs b E (il f n))) (h2 : Has L j (Cs d E' (il f n))) (hl : n ≤ 1000000) :
    Calls Try.prog 29 #[.slice (some ⟨b, 0, none⟩) n n, .slice (some ⟨d, 0, none⟩) n n] w fun e w' => e = .returned (.bool true) ∧ Sat W w' L := by
  have hn : ((List.range n).map f).length = n := by simp
  have h := same_any hS ((List.range n).map f) (some ⟨b, 0, none⟩) (some ⟨d, 0, none⟩) n n
    (fun w h => by rw [hn, ← il_iv]; exact h.csRd0 (n := n) h1 (by omega) (by rw [il_len]; omega)) (fun w h => by rw [hn, ← il_iv]; exact h.csRd0 (n := n) h2 (by omega) (by rw [il_len]; omega)) (by rw [hn]; exact hl)
  rw [hn] at h
  exact h
theorem rlof_any {W w : World} {L : List Asrt} {p : Nat} {G : Gr} (hS : Sat W w (IsR p G :: L)) (hG : G.Ok) (n : Int) :
    Calls Try.prog 41 #[.pointer (some ⟨p, 0, none⟩), .int .i64 n] w fun e w' => e = .returned (.int .i64 (G.labI n : Nat)) ∧ Sat W w' (IsR p G :: L) := by
  cases hb : G.is n
  · rw [Gr.labI_no hb]
    have HB := Lib.hid hb
    clear hb
    go_enter Try.func41, Try.ntmps41
    go_wp2_with (go_at_call 56; refine (is_any hS n HB.out).mono ?_; rintro e w1 ⟨rfl, rfl⟩)
    go_ret
    exact ⟨rfl, hS⟩
  · have HB := Lib.hid hb
    obtain ⟨k, rfl, hk⟩ := Gr.is_nat hb
    rw [Gr.labI_nat hk]
    have HX := Lib.hid (il_at (f := G.lab) hk)
    have j1 : (k : Int) < (G.N.length : Int) := by omega
    clear hb hk
    go_enter Try.func41, Try.ntmps41
    go_wp2_with (first
      | (go_at_call 56; refine (is_any hS (k : Int) HB.out).mono ?_; rintro e w1 ⟨rfl, rfl⟩)
      | (go_at_call 39; refine (rall_any hS hG).mono ?_; rintro e w1 ⟨ba, rfl, hS1⟩; clear hS; have hS := hS1; clear hS1)
      | (refine toList (by rfl) ?_; refine ld hS _ _ (by rfl) _ _ (by rfl) (agOf (by rfl)) Has.z HX.out ?_))
    go_ret
    exact ⟨rfl, hS.drop⟩
theorem cv_none {f : Int → Option (Nat × Nat)} {k : Int} (h : f k = none) : cv f k = (0, 0) := by unfold cv; rw [h]; rfl
theorem clab_none {f : Int → Option (Nat × Nat)} {k : Int} (h : f k = none) : clab f k = 0 := by unfold clab; rw [cv_none h]; rfl
theorem own_low {G : Gr} {n : Nat} {k : Int} (h : k < 0 ∨ (n : Int) ≤ k) : G.own n k = none := by
  unfold Gr.own
  rw [if_neg]
  simp only [Bool.and_eq_true, decide_eq_true_eq]
  omega
theorem own_cv {G : Gr} {n k : Nat} (h : k < n) : cv (G.own n) (k : Int) = (G.lab k, (G.nodeI (k : Int)).clear) := by
  unfold cv Gr.own
  rw [if_pos (by simp; omega)]
  simp
theorem own_clab {G : Gr} (hG : G.Ok) {k : Nat} (hk : k < G.N.length) : clab (G.own G.N.length) (k : Int) = G.lab k := by
  unfold clab
  rw [own_cv hk]
  apply Nat.eq_of_testBit_eq
  intro t
  show (andn (G.lab k) _).testBit t = _
  obtain ⟨x, hx⟩ : ∃ x, G.N[k]? = some x := ⟨_, List.getElem?_eq_getElem hk⟩
  rw [andn_test, Gr.nodeI_at hx, Gr.lab_test]
  cases h8 : decide (t < 8) with
  | false => simp
  | true =>
    cases hs : G.srcB k t with
    | false => simp
    | true =>
      obtain ⟨y, hy, hc, _⟩ := Gr.src_iff.1 (Gr.srcB_iff.1 hs)
      rw [hx] at hy; cases hy
      rw [hc]; rfl
theorem own_small {G : Gr} (hG : G.Ok) {k : Nat} (hk : k < G.N.length) : (cv (G.own G.N.length) (k : Int)).1 < 256 ∧ (cv (G.own G.N.length) (k : Int)).2 < 256 := by
  rw [own_cv hk]
  obtain ⟨x, hx⟩ : ∃ x, G.N[k]? = some x := ⟨_, List.getElem?_eq_getElem hk⟩
  refine ⟨G.lab_lt k, ?_⟩
  show (G.nodeI (k : Int)).clear < 256
  rw [Gr.nodeI_at hx]
  exact (hG.marks x (List.mem_of_getElem? hx)).2
attribute [local irreducible] IsG
set_option maxRecDepth 20000 in
set_option maxHeartbeats 4000000 in
theorem AllL.walk (l : List GOpD) (ao : Option Addr) (c0 : Nat) (n : Int) (W : World) (hr : Rd W (.slice ao l.length c0) l.length 3 (l.flatMap gov)) :
    Calls Try.prog 9 #[.slice ao l.length c0, .int .i64 n] W fun e w' => e = .returned (.bool true) ∧ Sat W w' [] := by
  have hS := Sat.start W
  have HR := Lib.hid hr
  clear hr
  go_enter Try.func9, Try.ntmps9
  go_wp2_with (first
    | (go_at_call 25; refine (graphsI_any hS l ao c0 (I := fun _ => True) trivial (fun _ _ _ _ _ => trivial) (fun u h => HR.out.old h)).mono ?_; rintro e w1 ⟨p, q, G, rfl, hok, hac, _, hel, hnl, hS1⟩; clear hS; have hS := hS1; clear hS1; have HOK := Lib.hid hok; have HAC := Lib.hid hac; have hn80 : (G.N.length : Int) ≤ 80 := (by omega); have HL1 := Lib.hid (G.labI_no (n := -1) (by unfold Gr.is; rfl)); clear hok hac hnl hel)
    | (go_at_call 38; refine (load_any hS HOK.out HAC.out).mono ?_; rintro e w1 ⟨c, rfl, hS1⟩; clear hS; have hS := hS1; clear hS1)
    | (go_at_call 39; refine (rall_any (hS.re [2]) HOK.out).mono ?_; rintro e w1 ⟨wb, rfl, hS1⟩; clear hS; have hS := hS1; clear hS1; replace hS : Sat W _ [Cs wb 3 (il G.lab G.N.length), IsC c (G.own G.N.length), IsG p G, IsR q G] := hS.re [0, 2, 3]; clear HR)
    | (go_at_call 40; refine (all_any (hS.re [2]) HOK.out HAC.out).mono ?_; rintro e w1 ⟨ba, rfl, hS1⟩; clear hS; have hS := hS1; clear hS1)
    | (go_at_call 29; refine (same_il hS Has.z (Has.s (Has.s Has.z)) (by omega)).mono ?_; rintro e w1 ⟨rfl, hS1⟩; clear hS; have hS := hS1; clear hS1; replace hS : Sat W _ [Cs wb 3 (il G.lab G.N.length), IsC c (G.own G.N.length), IsG p G, IsR q G] := (hS.re [2, 3, 1]).front 3 rfl |>.drop)
    | (go_at_call 36; with_reducible refine (of_any (hS.re [2]) HOK.out HAC.out n).mono ?_; rintro e w1 ⟨rfl, hS1⟩; clear hS; have hS := hS1; clear hS1; replace hS : Sat W _ [Cs wb 3 (il G.lab G.N.length), IsC c (G.own G.N.length), IsG p G, IsR q G] := hS.re [1, 2, 0])
    | (go_at_call 36; refine (of_any (hS.re [2]) HOK.out HAC.out (-1)).mono ?_; rw [HL1.out]; rintro e w1 ⟨rfl, hS1⟩; clear hS; have hS := hS1; clear hS1; replace hS : Sat W _ [Cs wb 3 (il G.lab G.N.length), IsC c (G.own G.N.length), IsG p G, IsR q G] := hS.re [1, 2, 0])
    | (go_at_call 41; refine (rlof_any (hS.re [3]) HOK.out n).mono ?_; rintro e w1 ⟨rfl, hS1⟩; clear hS; have hS := hS1; clear hS1; replace hS : Sat W _ [Cs wb 3 (il G.lab G.N.length), IsC c (G.own G.N.length), IsG p G, IsR q G] := hS.re [1, 2, 3]))
  have H2 := Lib.hid hS
  go_loopw [10] (fun v wz => ∃ k : Nat, v = .int .i64 k ∧ k ≤ G.N.length ∧ Sat W wz [Cs wb 3 (il G.lab G.N.length), IsC c (G.own G.N.length), IsG p G, IsR q G]) (fun v _ => G.N.length - (intOf v).toNat)
  case atStart => exact ⟨0, rfl, by omega, H2.out⟩
  case round =>
    clear hS H2
    obtain ⟨k, rfl, hk, hS⟩ := hrel
    by_cases hl : k < G.N.length
    · have n1 : (k : Int) < (G.N.length : Int) := by omega
      have HOF := Lib.hid (fun w (h : Sat W w [Cs wb 3 (il G.lab G.N.length), IsC c (G.own G.N.length), IsG p G, IsR q G]) => (show Calls Try.prog 36 #[.pointer (some ⟨p, 0, none⟩), .int .i64 (k : Int)] w fun e w' => e = .returned (.int .i64 (G.lab k : Nat)) ∧ Sat W w' [Cs wb 3 (il G.lab G.N.length), IsC c (G.own G.N.length), IsG p G, IsR q G] by
        have := of_any (h.re [2]) HOK.out HAC.out (k : Int)
        rw [Gr.labI_nat hl] at this
        exact this.mono fun e w' h => ⟨h.1, h.2.re [1, 2, 0]⟩))
      have HLA := Lib.hid (fun w (h : Sat W w [Cs wb 3 (il G.lab G.N.length), IsC c (G.own G.N.length), IsG p G, IsR q G]) => (show Calls Try.prog 42 #[.pointer (some ⟨c, 0, none⟩), .int .i64 (k : Int)] w fun e w' => e = .returned (.int .i64 (G.lab k : Nat)) ∧ Sat W w' [Cs wb 3 (il G.lab G.N.length), IsC c (G.own G.N.length), IsG p G, IsR q G] by
        have := clab_any h.pull1 (k : Int) (own_small HOK.out hl).1 (own_small HOK.out hl).2
        rw [own_clab HOK.out hl] at this
        exact this.mono fun e w' h => ⟨h.1, h.2.pull1⟩))
      have hil := il_at (f := G.lab) hl
      obtain ⟨y, hy⟩ : ∃ y, G.lab k = y := ⟨_, rfl⟩
      rw [hy] at HOF HLA hil
      have HW := Lib.hid hil
      have HL := Lib.hid hl
      clear hl hy hil
      go_wp2
      refine regStart [] hS (by kernel_rfl) rfl ?_
      intro w1 hS1
      clear hS; have hS := hS1; clear hS1
      (refine regP 0 hS (fun _ h => h) rfl (by kernel_rfl) (by kernel_rfl) (by kernel_rfl) (fun _ _ _ _ h => h) (by rfl) (by rfl) ?_; apply Exists.intro; apply And.intro; (intro w; go_simp; try with_reducible rfl); (simp only [Act.put, List.setIfInBounds_toArray, List.set_cons_zero, List.set_cons_succ]))
      (refine regP 1 hS (fun _ h => h) rfl (by kernel_rfl) (by kernel_rfl) (by kernel_rfl) (fun _ _ _ _ h => h) (by rfl) (by rfl) ?_; apply Exists.intro; apply And.intro; (intro w; go_simp; try with_reducible rfl); (simp only [Act.put, List.setIfInBounds_toArray, List.set_cons_zero, List.set_cons_succ]))
      (refine regP 3 hS (fun _ h => h) rfl (by kernel_rfl) (by kernel_rfl) (by kernel_rfl) (fun _ _ _ _ h => h) (by rfl) (by rfl) ?_; apply Exists.intro; apply And.intro; (intro w; go_simp; try with_reducible rfl); (simp only [Act.put, List.setIfInBounds_toArray, List.set_cons_zero, List.set_cons_succ]))
      (refine regP 4 hS (fun _ h => h) rfl (by kernel_rfl) (by kernel_rfl) (by kernel_rfl) (fun _ _ _ _ h => h) (by rfl) (by rfl) ?_; apply Exists.intro; apply And.intro; (intro w; go_simp; try with_reducible rfl); (simp only [Act.put, List.setIfInBounds_toArray, List.set_cons_zero, List.set_cons_succ]))
      (refine regP 5 hS (fun _ h => h) rfl (by kernel_rfl) (by kernel_rfl) (by kernel_rfl) (fun _ _ _ _ h => h) (by rfl) (by rfl) ?_; apply Exists.intro; apply And.intro; (intro w; go_simp; try with_reducible rfl); (simp only [Act.put, List.setIfInBounds_toArray, List.set_cons_zero, List.set_cons_succ]))
      (refine regR 6 hS (fun _ h => h) rfl (by kernel_rfl) (by kernel_rfl) (by kernel_rfl) (by kernel_rfl) (by kernel_rfl) (fun _ _ _ _ h => h) (by rfl) (by rfl) ?_; (refine ⟨_, yLd _ _ (by rfl) _ _ (by rfl) (agOf (by rfl)) Has.z HW.out, ?_⟩); (simp only [Act.put, List.setIfInBounds_toArray, List.set_cons_zero, List.set_cons_succ]))
      (refine regA 2 rfl (by kernel_rfl) (by rfl) (by rfl) false (by kernel_rfl) (fun K hK => ?_); (first
                    | (refine Go.Sep.cl 42 _ _ (by rfl) (by rfl) (by kernel_rfl) (HLA.out _ hS) ?_; rintro e w1 ⟨rfl, hS1⟩; clear hS; have hS := hS1; clear hS1; refine ⟨_, rfl, ?_⟩)
                    | (refine Go.Sep.cl 36 _ _ (by rfl) (by rfl) (by kernel_rfl) (HOF.out _ hS) ?_; rintro e w1 ⟨rfl, hS1⟩; clear hS; have hS := hS1; clear hS1; refine ⟨_, rfl, ?_⟩)); refine hK _ _ _ hS (by first | (intro h; cases h; done) | exact fun _ _ h => h | exact fun _ _ h => h.drop | exact fun _ _ h => h.drop.drop | exact fun _ _ h => h.drop.pull1 | exact fun _ _ h => h.one Has.z | exact fun _ _ h => h.one (Has.s Has.z) | exact fun _ _ h => h.one (Has.s (Has.s Has.z))) ?_; clear hK K; (simp only [Act.put, List.setIfInBounds_toArray, List.set_cons_zero, List.set_cons_succ]))
      (refine regP 7 hS (fun _ h => h) rfl (by kernel_rfl) (by kernel_rfl) (by kernel_rfl) (fun _ _ _ _ h => h) (by rfl) (by rfl) ?_; apply Exists.intro; apply And.intro; (intro w; go_simp; try with_reducible rfl); (simp only [Act.put, List.setIfInBounds_toArray, List.set_cons_zero, List.set_cons_succ]))
      (refine regP 8 hS (fun _ h => h) rfl (by kernel_rfl) (by kernel_rfl) (by kernel_rfl) (fun _ _ _ _ h => h) (by rfl) (by rfl) ?_; apply Exists.intro; apply And.intro; (intro w; go_simp; try with_reducible rfl); (simp only [Act.put, List.setIfInBounds_toArray, List.set_cons_zero, List.set_cons_succ]))
      (first | (refine regP 9 hS (fun _ h => h) rfl (by kernel_rfl) (by kernel_rfl) (by kernel_rfl) (fun _ _ _ _ h => h) (by rfl) (by rfl) ?_; apply Exists.intro; apply And.intro; (intro w; go_simp; try with_reducible rfl); (simp only [Act.put, List.setIfInBounds_toArray, List.set_cons_zero, List.set_cons_succ])) | (refine regN 9 hS (fun _ h => h) rfl (by kernel_rfl) (by kernel_rfl) (by kernel_rfl) (fun _ _ _ h => h) (by rfl) (by rfl) ?_; (simp only [Act.put, List.setIfInBounds_toArray, List.set_cons_zero, List.set_cons_succ])))
      (first | (refine regP 10 hS (fun _ h => h) rfl (by kernel_rfl) (by kernel_rfl) (by kernel_rfl) (fun _ _ _ _ h => h) (by rfl) (by rfl) ?_; apply Exists.intro; apply And.intro; (intro w; go_simp; try with_reducible rfl); (simp only [Act.put, List.setIfInBounds_toArray, List.set_cons_zero, List.set_cons_succ])) | (refine regN 10 hS (fun _ h => h) rfl (by kernel_rfl) (by kernel_rfl) (by kernel_rfl) (fun _ _ _ h => h) (by rfl) (by rfl) ?_; (simp only [Act.put, List.setIfInBounds_toArray, List.set_cons_zero, List.set_cons_succ])))
      (first | (refine regP 12 hS (fun _ h => h) rfl (by kernel_rfl) (by kernel_rfl) (by kernel_rfl) (fun _ _ _ _ h => h) (by rfl) (by rfl) ?_; apply Exists.intro; apply And.intro; (intro w; go_simp; try with_reducible rfl); (simp only [Act.put, List.setIfInBounds_toArray, List.set_cons_zero, List.set_cons_succ])) | (refine regN 12 hS (fun _ h => h) rfl (by kernel_rfl) (by kernel_rfl) (by kernel_rfl) (fun _ _ _ h => h) (by rfl) (by rfl) ?_; (simp only [Act.put, List.setIfInBounds_toArray, List.set_cons_zero, List.set_cons_succ])))
      (first | (refine regP 13 hS (fun _ h => h) rfl (by kernel_rfl) (by kernel_rfl) (by kernel_rfl) (fun _ _ _ _ h => h) (by rfl) (by rfl) ?_; apply Exists.intro; apply And.intro; (intro w; go_simp; try with_reducible rfl); (simp only [Act.put, List.setIfInBounds_toArray, List.set_cons_zero, List.set_cons_succ])) | (refine regN 13 hS (fun _ h => h) rfl (by kernel_rfl) (by kernel_rfl) (by kernel_rfl) (fun _ _ _ h => h) (by rfl) (by rfl) ?_; (simp only [Act.put, List.setIfInBounds_toArray, List.set_cons_zero, List.set_cons_succ])))
      (first | (refine regP 14 hS (fun _ h => h) rfl (by kernel_rfl) (by kernel_rfl) (by kernel_rfl) (fun _ _ _ _ h => h) (by rfl) (by rfl) ?_; apply Exists.intro; apply And.intro; (intro w; go_simp; try with_reducible rfl); (simp only [Act.put, List.setIfInBounds_toArray, List.set_cons_zero, List.set_cons_succ])) | (refine regN 14 hS (fun _ h => h) rfl (by kernel_rfl) (by kernel_rfl) (by kernel_rfl) (fun _ _ _ h => h) (by rfl) (by rfl) ?_; (simp only [Act.put, List.setIfInBounds_toArray, List.set_cons_zero, List.set_cons_succ])))
      (first | (refine regR 15 hS (fun _ h => h) rfl (by kernel_rfl) (by kernel_rfl) (by kernel_rfl) (by kernel_rfl) (by kernel_rfl) (fun _ _ _ _ h => h) (by rfl) (by rfl) ?_; (refine ⟨_, yLd _ _ (by rfl) _ _ (by rfl) (agOf (by rfl)) Has.z HW.out, ?_⟩); (simp only [Act.put, List.setIfInBounds_toArray, List.set_cons_zero, List.set_cons_succ])) | (refine regN 15 hS (fun _ h => h) rfl (by kernel_rfl) (by kernel_rfl) (by kernel_rfl) (fun _ _ _ h => h) (by rfl) (by rfl) ?_; (simp only [Act.put, List.setIfInBounds_toArray, List.set_cons_zero, List.set_cons_succ])))
      (first | (refine regA 11 rfl (by kernel_rfl) (by rfl) (by rfl) false (by kernel_rfl) (fun K hK => ?_); (first
                    | (refine Go.Sep.cl 42 _ _ (by rfl) (by rfl) (by kernel_rfl) (HLA.out _ hS) ?_; rintro e w1 ⟨rfl, hS1⟩; clear hS; have hS := hS1; clear hS1; refine ⟨_, rfl, ?_⟩)
                    | (refine Go.Sep.cl 36 _ _ (by rfl) (by rfl) (by kernel_rfl) (HOF.out _ hS) ?_; rintro e w1 ⟨rfl, hS1⟩; clear hS; have hS := hS1; clear hS1; refine ⟨_, rfl, ?_⟩)); refine hK _ _ _ hS (by first | (intro h; cases h; done) | exact fun _ _ h => h | exact fun _ _ h => h.drop | exact fun _ _ h => h.drop.drop | exact fun _ _ h => h.drop.pull1 | exact fun _ _ h => h.one Has.z | exact fun _ _ h => h.one (Has.s Has.z) | exact fun _ _ h => h.one (Has.s (Has.s Has.z))) ?_; clear hK K; (simp only [Act.put, List.setIfInBounds_toArray, List.set_cons_zero, List.set_cons_succ])) | (refine regN 11 hS (fun _ h => h) rfl (by kernel_rfl) (by kernel_rfl) (by kernel_rfl) (fun _ _ _ h => h) (by rfl) (by rfl) ?_; (simp only [Act.put, List.setIfInBounds_toArray, List.set_cons_zero, List.set_cons_succ])))
      (first | (refine regP 16 hS (fun _ h => h) rfl (by kernel_rfl) (by kernel_rfl) (by kernel_rfl) (fun _ _ _ _ h => h) (by rfl) (by rfl) ?_; apply Exists.intro; apply And.intro; (intro w; go_simp; try with_reducible rfl); (simp only [Act.put, List.setIfInBounds_toArray, List.set_cons_zero, List.set_cons_succ])) | (refine regN 16 hS (fun _ h => h) rfl (by kernel_rfl) (by kernel_rfl) (by kernel_rfl) (fun _ _ _ h => h) (by rfl) (by rfl) ?_; (simp only [Act.put, List.setIfInBounds_toArray, List.set_cons_zero, List.set_cons_succ])))
      (refine regP 17 hS (fun _ h => h) rfl (by kernel_rfl) (by kernel_rfl) (by kernel_rfl) (fun _ _ _ _ h => h) (by rfl) (by rfl) ?_; apply Exists.intro; apply And.intro; (intro w; go_simp; try with_reducible rfl); (simp only [Act.put, List.setIfInBounds_toArray, List.set_cons_zero, List.set_cons_succ]))
      refine regDone (by kernel_rfl) ?_
      go_wp2
      exact ⟨⟨k + 1, by go_num, HL.out, hS⟩, by simp [intOf]; have := HL.out; omega⟩
    · have n1 : ¬ (k : Int) < (G.N.length : Int) := by omega
      have HA1 := Lib.hid (fun w (h : Sat W w [Cs wb 3 (il G.lab G.N.length), IsC c (G.own G.N.length), IsG p G, IsR q G]) => (show Calls Try.prog 42 #[.pointer (some ⟨c, 0, none⟩), .int .i64 (-1)] w fun e w' => e = .returned (.int .i64 0) ∧ Sat W w' [Cs wb 3 (il G.lab G.N.length), IsC c (G.own G.N.length), IsG p G, IsR q G] by
        have := clab_any h.pull1 (-1) (by rw [cv_none (own_low (by omega))]; decide) (by rw [cv_none (own_low (by omega))]; decide)
        rw [clab_none (own_low (by omega))] at this
        exact this.mono fun e w' h => ⟨h.1, h.2.pull1⟩))
      have HA2 := Lib.hid (fun w (h : Sat W w [Cs wb 3 (il G.lab G.N.length), IsC c (G.own G.N.length), IsG p G, IsR q G]) => (show Calls Try.prog 42 #[.pointer (some ⟨c, 0, none⟩), .int .i64 (G.N.length : Int)] w fun e w' => e = .returned (.int .i64 0) ∧ Sat W w' [Cs wb 3 (il G.lab G.N.length), IsC c (G.own G.N.length), IsG p G, IsR q G] by
        have := clab_any h.pull1 (G.N.length : Int) (by rw [cv_none (own_low (by omega))]; decide) (by rw [cv_none (own_low (by omega))]; decide)
        rw [clab_none (own_low (by omega))] at this
        exact this.mono fun e w' h => ⟨h.1, h.2.pull1⟩))
      clear hl
      go_wp2_with (first
        | (go_at_call 42; with_reducible refine (HA1.out _ hS).mono ?_; rintro e w1 ⟨rfl, hS1⟩; clear hS; have hS := hS1; clear hS1)
        | (go_at_call 42; refine (HA2.out _ hS).mono ?_; rintro e w1 ⟨rfl, hS1⟩; clear hS; have hS := hS1; clear hS1)
        | (go_at_call 37; refine (wake_any hS).mono ?_; rintro e w1 ⟨rfl, hS1⟩; clear hS; have hS := hS1; clear hS1))
      go_ret
      exact ⟨rfl, hS.drop.drop.drop.drop⟩

set_option maxRecDepth 100000 in
theorem AllL.contract (H : Type) (enc : TypeId × Value → H) (W : World) (base : Nat) (args : Array Value) (ds gs : List (DataW H)) (before : List MemPlace)
    (hval : ∀ (j : Nat) t v, Try.f9.params[j]? = some t → args[j]? = some v → Value.okWide Try.prog W .any base t v)
    (hW : DataW.Whole enc Try.prog Try.f9.params.toList Rows.labelAllSpec.vars false W args.toList ds gs before)
    (hreach : (DataW.weightsEach Try.prog (Try.f9.params.toList ++ Rows.labelAllSpec.plain.varTypes Try.prog) (ds ++ gs)).all (· ≤ reachBytes) = true) :
    Calls Try.prog 9 args W fun e W' => ∃ v, e = .returned v ∧ Rows.labelAllSpec.post enc Try.prog Try.f9 false true false false W args v W' := by
  have hW' := hW
  obtain ⟨p, q, hA, hV, rfl, hfz, hnd⟩ := hW
  rw [Try.params9] at hA hval hreach
  obtain ⟨v1, vs1, d1, ds1, p1, q1, hargs, rfl, rfl, h1, r1⟩ := trodAll_cons hA
  obtain ⟨v2, vs2, d2, ds2, p2, q2, rfl, rfl, rfl, h2, r2⟩ := trodAll_cons r1
  obtain ⟨rfl, rfl, rfl⟩ := trodAll_nil r2
  obtain rfl : args = #[v1, v2] := by cases args; simp_all
  obtain ⟨rfl, rfl⟩ := trodVars_none hV
  obtain ⟨ao1, l1, c1, rfl⟩ := okWide_slice Try.underlying22 (hval 0 22 v1 rfl rfl)
  obtain ⟨a2, rfl, rfl, rfl, _⟩ := open_int Try.underlying3 (hval 1 3 v2 rfl rfl) h2
  obtain ⟨l, rfl, hr, _⟩ := open_gops h1
  refine (AllL.walk l ao1 c1 a2 W hr).mono ?_
  refine fun e W' ⟨he, hS⟩ => ?_
  subst he
  exact ⟨_, rfl, law_post (tb := 4) (by kernel_rfl) (by kernel_rfl) rfl Try.underlying4 rfl hW' rfl hS⟩

theorem AllL.own : ownKnob Try.prog.godebug = none := by kernel_rfl
set_option maxRecDepth 100000 in
theorem AllL.lifted (os : Os) (started : os.Started) (H : Type) (enc : TypeId × Value → H) :
    ReturnsInHanded {} Try.checked os 9 .any (Rows.labelAllSpec.pre6 enc Try.prog Try.f9 Rows.labelAllRow.domain false) (Rows.labelAllSpec.post enc Try.prog Try.f9 false true false false) := by
  refine returnsInHanded_of_change_shaped (C := Try.checked) AllL.own started (by kernel_rfl) Try.func9
    (ChangeSpec.witness6 (enc := enc) (C := Try.checked) false ⟨#[], #[.slice none 0 0, .int .i64 0], []⟩ 8 (by kernel_rfl) (by kernel_rfl) (by kernel_rfl) (by kernel_rfl)) ?_
  intro W base args ds gs before hval hW _ hreach _ _
  exact AllL.contract H enc W base args ds gs before hval hW hreach

theorem AllL.holds : Rows.LabelAllSaid :=
  OpenClaim.holds_of_wide 9 Try.f9 rfl rfl rfl rfl rfl rfl rfl ⟨rfl, rfl, rfl, rfl, rfl⟩ rfl rfl rfl rfl rfl (by kernel_rfl) Try.func9 (by kernel_rfl)
    (of_decide_eq_true (by kernel_rfl)) (by unfold Func.isWrapper; first | (rw [if_pos (by decide +kernel)]; kernel_rfl) | (rw [if_neg (by decide +kernel)]; exact ⟨rfl, rfl⟩))
    (fun os started H enc _ => AllL.lifted os started H enc)
end Go.Proofs.Ytfbphibgcolmbaa
