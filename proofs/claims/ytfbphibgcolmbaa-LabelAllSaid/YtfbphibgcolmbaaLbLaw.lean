/-
  What the laws of labels share: graphs that keep something, the example.
-/
import Derived.Test.YtfbphibgcolmbaaLbCache
namespace Go.Proofs.Ytfbphibgcolmbaa
open Go.RowKit Go.Sep
set_option linter.unusedSimpArgs false
set_option linter.unusedVariables false
attribute [local irreducible] Go.Oper.wp Go.wpList Go.Calls Go.Code.wp Go.Sep.Reg
attribute [local irreducible] IsG
theorem Gr.step_acyc {G : Gr} (hA : G.Acyc) (x : GOpD) : (G.step x).Acyc := by
  unfold Gr.step
  split
  · exact Gr.acyc_add hA _ _
  · split
    · unfold Gr.markG
      split <;> exact hA
    · split
      · unfold Gr.clearG
        split <;> exact hA
      · split
        · unfold Gr.lostG
          split <;> exact hA
        · exact Gr.acyc_edge hA _ _
set_option maxRecDepth 20000 in
set_option maxHeartbeats 1000000 in
theorem graphsI_any {W w : World} {L : List Asrt} (hS : Sat W w L) (l : List GOpD) (ao : Option Addr) (c : Nat) {I : Gr → Prop} (hI0 : I Gr.new) (hIs : ∀ G x, x ∈ l → G.Ok → I G → I (G.step x))
    (hr : ∀ u, Sat W u L → Rd u (.slice ao l.length c) l.length 3 (l.flatMap gov)) :
    Calls Try.prog 25 #[.slice ao l.length c] w fun e w' => ∃ p q G, e = .returned (.tuple #[.pointer (some ⟨p, 0, none⟩), .pointer (some ⟨q, 0, none⟩), .bool true]) ∧ G.Ok ∧ G.Acyc ∧ I G ∧ G.E.length ≤ 80 ∧ G.N.length ≤ 80 ∧ Sat W w' (IsG p G :: IsR q G :: L) := by
  have HR := Lib.hid hr
  have HIS := Lib.hid hIs
  obtain ⟨_, _, he, hc1, hc2, _, h5⟩ := hr w hS
  simp only [Value.slice.injEq, true_and] at he
  obtain ⟨rfl, rfl⟩ := he
  have H5 := Lib.hid h5
  clear h5 hr hIs
  go_enter Try.func25, Try.ntmps25
  go_wp2_with (first
    | (go_at_call 14; refine (new_any hS).mono ?_; rintro e w1 ⟨p, rfl, hS1⟩; clear hS; have hS := hS1; clear hS1)
    | (refine toList (by rfl) ?_; refine bx hS _ _ (by rfl) _ (by first | exact evC | exact evT (by rfl)) ?_; intro q w1 hS1; clear hS; have hS := hS1; clear hS1; rw [cells_agg] at hS))
  have H0 : Hid (Sat W _ (IsG p Gr.new :: IsR q Gr.new :: L)) := Lib.hid (by
    have h1 := ((hS.tbNil (α := Nat × Nat) (f := ev) (E := 87) (sz := 2)).tbNil (α := NodeD) (f := nv) (E := 40) (sz := 6))
    exact (IsR.mk (G := Gr.new) (h1.re [2, 0, 1])).pull1)
  go_loopw [7] (fun v wz => ∃ (i : Nat) (G : Gr), v = .int .i64 i ∧ i ≤ 80 ∧ (G.Ok ∧ G.Acyc ∧ I G) ∧ G.E.length ≤ i ∧ G.N.length ≤ i ∧ Sat W wz (IsG p G :: IsR q G :: L)) (fun v _ => 80 - (intOf v).toNat)
  case atStart => exact ⟨0, Gr.new, rfl, by omega, ⟨Gr.new_ok, Gr.acyc_new, hI0⟩, Nat.le_refl _, Nat.le_refl _, H0.out⟩
  case round =>
    clear hS H0
    obtain ⟨i, G, rfl, hi, hok, hel, hnl, hS⟩ := hrel
    have HOK := Lib.hid hok
    have HEL := Lib.hid hel
    have HNL := Lib.hid hnl
    clear hok hel hnl
    by_cases hf : i < l.length
    · have i1 : (i : Int) < (l.length : Int) := by omega
      have e1 : decide ((i : Int) < (l.length : Int)) = true := decide_eq_true i1
      by_cases h80 : i < 80
      · have i3 : (i : Int) < 80 := by omega
        have e3 : decide ((i : Int) < 80) = true := decide_eq_true i3
        obtain ⟨x, hx⟩ : ∃ x, l[i]? = some x := ⟨_, List.getElem?_eq_getElem hf⟩
        have HX := Lib.hid hx
        obtain ⟨b0, off, rfl, _⟩ := H5.out (by omega)
        have HD := Lib.hid (fun w (h : Sat W w (IsG p G :: IsR q G :: L)) => gdo_any h HOK.out.1 (by have := HEL.out; omega) x)
        have HOK2 := Lib.hid (show (G.step x).Ok ∧ (G.step x).Acyc ∧ I (G.step x) from ⟨Gr.step_ok HOK.out.1 (by have := HEL.out; omega) x, Gr.step_acyc HOK.out.2.1 x, HIS.out G x (List.mem_of_getElem? hx) HOK.out.1 HOK.out.2.2⟩)
        have HE2 := Lib.hid (show (G.step x).E.length ≤ i + 1 by have := G.step_E x; have := HEL.out; omega)
        have HN2 := Lib.hid (show (G.step x).N.length ≤ i + 1 by have := G.step_N x; have := HNL.out; omega)
        obtain ⟨G2, hG2⟩ : ∃ G2, G.step x = G2 := ⟨_, rfl⟩
        rw [hG2] at HD HOK2 HE2 HN2
        clear hx hG2
        go_wp2_with (first
          | (refine toList (by rfl) ?_; refine wp_of_reads (rLdRdA (HR.out _ hS.drop.drop) (gov_len l) _ _ (by rfl) _ (by rfl) (agOf (by rfl)) (szOf (by rfl)) i (by rfl) HX.out (by omega)) ?_)
          | (go_at_call 44; refine (HD.out _ hS).mono ?_; rintro e w1 ⟨rfl, hS1⟩; clear hS; have hS := hS1; clear hS1))
        exact ⟨⟨i + 1, G2, by go_num, by omega, HOK2.out, HE2.out, HN2.out, hS⟩, by simp [intOf]; omega⟩
      · have e3 : decide ((i : Int) < 80) = false := decide_eq_false (by omega)
        have e4 : ¬ (i : Int) < 80 := by omega
        clear h80
        go_wp2
        go_ret3
        exact ⟨p, q, rfl, G, HOK.out.1, HOK.out.2.1, HOK.out.2.2, by have := HEL.out; omega, by have := HNL.out; omega, hS⟩
    · have e1 : decide ((i : Int) < (l.length : Int)) = false := decide_eq_false (by omega)
      have e1b : decide (i < l.length) = false := decide_eq_false hf
      have e4 : ¬ (i : Int) < (l.length : Int) := by omega
      clear hf
      go_wp2
      go_ret3
      exact ⟨p, q, rfl, G, HOK.out.1, HOK.out.2.1, HOK.out.2.2, by have := HEL.out; omega, by have := HNL.out; omega, hS⟩
/-! ### the example -/
def wk1 : Gr := ⟨[⟨5, 1, 1, 0, 0, false⟩], []⟩
def wk2 : Gr := ⟨[⟨5, 1, 1, 0, 0, false⟩, ⟨1, 2, 1, 0, 0, false⟩], []⟩
def wk3 : Gr := ⟨[⟨5, 1, 1, 0, 0, false⟩, ⟨1, 2, 1, 0, 0, false⟩, ⟨1, 2, 2, 0, 0, false⟩], []⟩
def wk4 : Gr := ⟨[⟨5, 1, 1, 8, 0, false⟩, ⟨1, 2, 1, 0, 0, false⟩, ⟨1, 2, 2, 0, 0, false⟩], []⟩
def wk5 : Gr := ⟨[⟨5, 1, 1, 8, 0, false⟩, ⟨1, 2, 1, 0, 0, false⟩, ⟨1, 2, 2, 0, 0, false⟩], [(1, 0)]⟩
def wk6 : Gr := ⟨[⟨5, 1, 1, 8, 0, false⟩, ⟨1, 2, 1, 0, 0, false⟩, ⟨1, 2, 2, 0, 8, false⟩], [(1, 0)]⟩
def wk7 : Gr := ⟨[⟨5, 1, 1, 8, 0, false⟩, ⟨1, 2, 1, 0, 0, false⟩, ⟨1, 2, 2, 0, 8, false⟩], [(1, 0), (2, 1)]⟩
theorem wk1_ok : wk1.Ok := Gr.addG_ok Gr.new_ok 5 1
theorem wk2_ok : wk2.Ok := Gr.addG_ok wk1_ok 1 2
theorem wk3_ok : wk3.Ok := Gr.addG_ok wk2_ok 1 2
theorem wk4_ok : wk4.Ok := Gr.markG_ok wk3_ok 0 3
theorem wk5_ok : wk5.Ok := Gr.link_ok (a := 1) (b := 0) wk4_ok (by decide) (by decide) (by decide) (by decide)
theorem wk6_ok : wk6.Ok := Gr.clearG_ok wk5_ok 2 3
theorem wk7_ok : wk7.Ok := Gr.link_ok (a := 2) (b := 1) wk6_ok (by decide) (by decide) (by decide) (by decide)
theorem wk_n1 : ¬ wk4.Reach 0 1 := fun h => absurd (h (fun x => x = 0) rfl fun x y _ he => by cases he) (by decide)
theorem wk_n2 : ¬ wk6.Reach 1 2 := fun h => absurd (h (fun x => x = 0 ∨ x = 1) (.inr rfl) fun x y _ he => by
  have : (x, y) = (1, 0) := by simpa [wk6] using he
  cases this; exact .inl rfl) (by decide)
theorem wk7_acyc : wk7.Acyc := Gr.acyc_link (G := wk6) (a := 2) (b := 1) (Gr.acyc_link (G := wk4) (a := 1) (b := 0) (fun a b h => by cases h) wk_n1) wk_n2
theorem wk_e1 : wk4.edgeE 1 0 = 0 := by
  unfold Gr.edgeE
  have h : wk4.reaches 0 1 = false := Gr.reaches_false (a := 0) (b := 1) wk_n1
  rw [if_neg (by decide), if_neg (by decide), h]; rfl
theorem wk_g1 : wk4.edgeG 1 0 = wk5 := by unfold Gr.edgeG; rw [wk_e1]; rfl
theorem wk_e2 : wk6.edgeE 2 1 = 0 := by
  unfold Gr.edgeE
  have h : wk6.reaches 1 2 = false := Gr.reaches_false (a := 1) (b := 2) wk_n2
  rw [if_neg (by decide), if_neg (by decide), h]; rfl
theorem wk_g2 : wk6.edgeG 2 1 = wk7 := by unfold Gr.edgeG; rw [wk_e2]; rfl
theorem wk_l0 : wk7.lab 0 = 8 := by rw [← Gr.lab_eq wk7_ok (n := 0) (x := ⟨5, 1, 1, 8, 0, false⟩) rfl]; rfl
theorem wk_l1 : wk7.lab 1 = 8 := by
  rw [← Gr.lab_eq wk7_ok (n := 1) (x := ⟨1, 2, 1, 0, 0, false⟩) rfl]
  show andn (0 ||| wk7.lab 0) 0 = 8
  rw [wk_l0]; rfl
theorem wk_l2 : wk7.lab 2 = 0 := by
  rw [← Gr.lab_eq wk7_ok (n := 2) (x := ⟨1, 2, 2, 0, 8, false⟩) rfl]
  show andn (0 ||| wk7.lab 1) 8 = 0
  rw [wk_l1]; rfl
theorem wk_c1 : cv (wk7.own 3) 1 = (8, 0) := by
  show (wk7.lab 1, 0) = _
  rw [wk_l1]
set_option maxRecDepth 20000 in
set_option maxHeartbeats 1000000 in
theorem wake_any {W w : World} {L : List Asrt} (hS : Sat W w L) : Calls Try.prog 37 #[] w fun e w' => e = .returned (.bool true) ∧ Sat W w' L := by
  have A1 := Lib.hid (fun p w (h : Sat W w (IsG p Gr.new :: L)) => (show Calls Try.prog 17 #[.pointer (some ⟨p, 0, none⟩), .int .i64 5, .int .i64 1] w fun e w' => e = .returned (.tuple #[.int .i64 0, .int .i64 0]) ∧ Sat W w' (IsG p wk1 :: L) from add_any h Gr.new_ok 5 1))
  have A2 := Lib.hid (fun p w (h : Sat W w (IsG p wk1 :: L)) => (show Calls Try.prog 17 #[.pointer (some ⟨p, 0, none⟩), .int .i64 1, .int .i64 2] w fun e w' => e = .returned (.tuple #[.int .i64 1, .int .i64 0]) ∧ Sat W w' (IsG p wk2 :: L) from add_any h wk1_ok 1 2))
  have A3 := Lib.hid (fun p w (h : Sat W w (IsG p wk2 :: L)) => (show Calls Try.prog 17 #[.pointer (some ⟨p, 0, none⟩), .int .i64 1, .int .i64 2] w fun e w' => e = .returned (.tuple #[.int .i64 2, .int .i64 0]) ∧ Sat W w' (IsG p wk3 :: L) from add_any h wk2_ok 1 2))
  have M1 := Lib.hid (fun p w (h : Sat W w (IsG p wk3 :: L)) => (show Calls Try.prog 34 #[.pointer (some ⟨p, 0, none⟩), .int .i64 0, .int .i64 3] w fun e w' => e = .returned (.int .i64 0) ∧ Sat W w' (IsG p wk4 :: L) from mark_any h 0 3 wk3_ok.marks))
  have E1 := Lib.hid (fun p w (h : Sat W w (IsG p wk4 :: L)) => (show Calls Try.prog 19 #[.pointer (some ⟨p, 0, none⟩), .int .i64 1, .int .i64 0] w fun e w' => e = .returned (.int .i64 0) ∧ Sat W w' (IsG p wk5 :: L) by have := edge_any h wk4_ok 1 0; rw [wk_e1, wk_g1] at this; exact this))
  have C1 := Lib.hid (fun p w (h : Sat W w (IsG p wk5 :: L)) => (show Calls Try.prog 35 #[.pointer (some ⟨p, 0, none⟩), .int .i64 2, .int .i64 3] w fun e w' => e = .returned (.int .i64 0) ∧ Sat W w' (IsG p wk6 :: L) from clear_any h 2 3 wk5_ok.marks))
  have E2 := Lib.hid (fun p w (h : Sat W w (IsG p wk6 :: L)) => (show Calls Try.prog 19 #[.pointer (some ⟨p, 0, none⟩), .int .i64 2, .int .i64 1] w fun e w' => e = .returned (.int .i64 0) ∧ Sat W w' (IsG p wk7 :: L) by have := edge_any h wk6_ok 2 1; rw [wk_e2, wk_g2] at this; exact this))
  have LD := Lib.hid (fun p w (h : Sat W w (IsG p wk7 :: L)) => (show Calls Try.prog 38 #[.pointer (some ⟨p, 0, none⟩)] w fun e w' => ∃ c, e = .returned (.pointer (some ⟨c, 0, none⟩)) ∧ Sat W w' (IsC c (wk7.own 3) :: IsG p wk7 :: L) from load_any h wk7_ok wk7_acyc))
  have O1 := Lib.hid (fun p w (L : List Asrt) (h : Sat W w (IsG p wk7 :: L)) => (show Calls Try.prog 36 #[.pointer (some ⟨p, 0, none⟩), .int .i64 1] w fun e w' => e = .returned (.int .i64 8) ∧ Sat W w' (IsG p wk7 :: L) by
    have := of_any h wk7_ok wk7_acyc 1
    rw [show (1 : Int) = ((1 : Nat) : Int) from rfl, Gr.labI_nat (by decide), wk_l1] at this
    exact this))
  have O2 := Lib.hid (fun p w (L : List Asrt) (h : Sat W w (IsG p wk7 :: L)) => (show Calls Try.prog 36 #[.pointer (some ⟨p, 0, none⟩), .int .i64 2] w fun e w' => e = .returned (.int .i64 0) ∧ Sat W w' (IsG p wk7 :: L) by
    have := of_any h wk7_ok wk7_acyc 2
    rw [show (2 : Int) = ((2 : Nat) : Int) from rfl, Gr.labI_nat (by decide), wk_l2] at this
    exact this))
  have K1 := Lib.hid (fun c w (L : List Asrt) (h : Sat W w (IsC c (wk7.own 3) :: L)) => (show Calls Try.prog 42 #[.pointer (some ⟨c, 0, none⟩), .int .i64 1] w fun e w' => e = .returned (.int .i64 8) ∧ Sat W w' (IsC c (wk7.own 3) :: L) by
    have := clab_any h 1 (by rw [wk_c1]; decide) (by rw [wk_c1]; decide)
    unfold clab at this
    rw [wk_c1] at this
    exact this))
  go_enter Try.func37, Try.ntmps37
  go_wp2_with (first
    | (go_at_call 14; refine (new_any hS).mono ?_; rintro e w1 ⟨p, rfl, hS1⟩; clear hS; have hS := hS1; clear hS1)
    | (go_at_call 17; (first | with_reducible refine (A1.out _ _ hS).mono ?_ | with_reducible refine (A2.out _ _ hS).mono ?_ | with_reducible refine (A3.out _ _ hS).mono ?_); rintro e w1 ⟨rfl, hS1⟩; clear hS; have hS := hS1; clear hS1)
    | (go_at_call 19; (first | with_reducible refine (E1.out _ _ hS).mono ?_ | with_reducible refine (E2.out _ _ hS).mono ?_); rintro e w1 ⟨rfl, hS1⟩; clear hS; have hS := hS1; clear hS1)
    | (go_at_call 34; refine (M1.out _ _ hS).mono ?_; rintro e w1 ⟨rfl, hS1⟩; clear hS; have hS := hS1; clear hS1)
    | (go_at_call 35; refine (C1.out _ _ hS).mono ?_; rintro e w1 ⟨rfl, hS1⟩; clear hS; have hS := hS1; clear hS1)
    | (go_at_call 38; refine (LD.out _ _ hS).mono ?_; rintro e w1 ⟨c, rfl, hS1⟩; clear hS; have hS := hS1.pull1; clear hS1)
    | (go_at_call 36; (first | with_reducible refine (O1.out _ _ _ hS).mono ?_ | with_reducible refine (O2.out _ _ _ hS).mono ?_); rintro e w1 ⟨rfl, hS1⟩; clear hS; have hS := hS1; clear hS1)
    | (go_at_call 42; refine (K1.out _ _ _ hS.pull1).mono ?_; rintro e w1 ⟨rfl, hS1⟩; clear hS; have hS := hS1; clear hS1))
  go_ret
  exact ⟨rfl, hS.drop.drop⟩
/-! ### a bit, as the laws look at it -/
theorem and_one (y k : Nat) (hy : y < 256) : bits .and .i64 ((y : Int) / 2 ^ k) 1 = if y.testBit k then 1 else 0 := by
  have e1 : ((y : Int) / 2 ^ k) = ((y / 2 ^ k : Nat) : Int) := by simp
  rw [e1]
  have hq : y / 2 ^ k < 256 := Nat.lt_of_le_of_lt (Nat.div_le_self _ _) hy
  have h1 : bits .and .i64 ((y / 2 ^ k : Nat) : Int) 1 = (((y / 2 ^ k) &&& 1 : Nat) : Int) := by
    have hx2 : (y / 2 ^ k) &&& 1 ≤ 1 := Nat.and_le_right
    show IntKind.i64.wrap ((BitVec.ofInt 64 ((y / 2 ^ k : Nat) : Int) &&& BitVec.ofInt 64 ((1 : Nat) : Int)).toNat : Int) = _
    rw [BitVec.toNat_and, bv_nat _ hq, bv_nat 1 (by decide), IntWalk.i64_in _ (by omega)]
  rw [h1, Nat.and_one_is_mod, Nat.testBit_eq_decide_div_mod_eq]
  rcases Nat.mod_two_eq_zero_or_one (y / 2 ^ k) with h | h
  · rw [h]; rfl
  · rw [h]; rfl
end Go.Proofs.Ytfbphibgcolmbaa
