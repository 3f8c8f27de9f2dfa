/-
  The law's ways: what the iterator tells, at most so many.
  The law's awake: the document's example.
  The laws' arguments: a question, numbers.
-/
import Derived.Test.YtpnbdnfgdiakhaaGreatQuWays
namespace Go.Proofs.YtpnbdnfgdiakhaaGreat
open Go.RowKit Go.Sep
set_option linter.unusedSimpArgs false
set_option linter.unusedVariables false
attribute [local irreducible] Go.Oper.wp Go.wpList Go.Calls Go.Code.wp Go.Sep.Reg
attribute [local irreducible] IsG
set_option maxRecDepth 20000 in
theorem qways_any {W w : World} {M : List Asrt} {p : Nat} {G : Gr} (hS : Sat W w M) (a b : Int) :
    Calls Tryz.prog 30 #[.pointer (some ⟨p, 0, none⟩), .int .i64 a, .int .i64 b] w fun e w' => ∃ pg pA pb, e = .returned (.func (.func 64) #[] #[.pointer (some ⟨pg, 0, none⟩), .pointer (some ⟨pA, 0, none⟩), .pointer (some ⟨pb, 0, none⟩)]) ∧ Sat W w' (Cs pb 3 [.int .i64 b] :: Cs pA 3 [.int .i64 a] :: Cs pg 31 [.pointer (some ⟨p, 0, none⟩)] :: M) := by
  go_enter Tryz.func30, Tryz.ntmps30
  go_wp2_with (first
    | (refine toList (by rfl) ?_; refine bx (show Sat W _ M from hS) _ _ (by rfl) _ (by first | exact evC | exact evT (by rfl)) ?_; intro pg w1 hS1; clear hS; have hS := (show Sat W w1 (Cs pg 31 [.pointer (some ⟨p, 0, none⟩)] :: M) from hS1); clear hS1)
    | (refine toList (by rfl) ?_; refine bx (show Sat W _ (Cs pg _ _ :: M) from hS) _ _ (by rfl) _ (by first | exact evC | exact evT (by rfl)) ?_; intro pA w1 hS1; clear hS; have hS := (show Sat W w1 (Cs pA 3 [.int .i64 a] :: Cs pg _ _ :: M) from hS1); clear hS1)
    | (refine toList (by rfl) ?_; refine bx (show Sat W _ (Cs pA _ _ :: Cs pg _ _ :: M) from hS) _ _ (by rfl) _ (by first | exact evC | exact evT (by rfl)) ?_; intro pb w1 hS1; clear hS; have hS := (show Sat W w1 (Cs pb 3 [.int .i64 b] :: Cs pA _ _ :: Cs pg _ _ :: M) from hS1); clear hS1))
  go_ret
  exact ⟨pg, pA, pb, rfl, hS⟩
set_option maxRecDepth 20000 in
set_option maxHeartbeats 2000000 in
theorem lways_any {W w : World} {M : List Asrt} {p : Nat} {G : Gr} (hS : Sat W w (IsG p G :: M)) (hG : G.Ok) (hA : G.Acyc) (a b : Int) {most : Int} {K : Nat} (hK : (K : Int) ≤ most ∧ K ≤ 1000 ∧ ((K : Int) = most ∨ K = 1000)) (hK0 : 0 < K) :
    Calls Tryz.prog 13 #[.pointer (some ⟨p, 0, none⟩), .int .i64 a, .int .i64 b, .int .i64 most] w fun e w' => ∃ v, e = .returned v ∧ Sat W w' (Rws Ir v (told G a b K) :: IsG p G :: M) := by
  have HQ := Lib.hid (fun w L (h : Sat W w L) => qways_any (p := p) (G := G) h a b)
  have HW := Lib.hid (fun w pa pm pg pA pb M v (h : Sat W w (Cs pa 43 [v] :: Rws Ir v [] :: Cs pm 3 [.int .i64 most] :: Cs pg 31 [.pointer (some ⟨p, 0, none⟩)] :: Cs pA 3 [.int .i64 a] :: Cs pb 3 [.int .i64 b] :: IsG p G :: M)) => ways1_any hG hA hK hK0 h)
  have hm1 : ¬ most < 1 := by omega
  have hm2 : decide (most < 1) = false := decide_eq_false hm1
  clear hK hK0 hG hA
  have EF : ∀ (c : Array Value) (w : World), (binOp .eql 87 (.func (.func 64) #[] c) .nilFunc).run Tryz.prog w = .ok (.bool false) w := fun c w => by kernel_rfl
  go_enter Tryz.func13, Tryz.ntmps13
  go_wp2_with (first
    | (refine toList (by rfl) ?_; refine bx hS _ _ (by rfl) _ (by first | exact evC | exact evT (by rfl)) ?_; intro pm w1 hS1; clear hS; have hS := (show Sat W w1 (Cs pm 3 [.int .i64 most] :: IsG p G :: M) from hS1); clear hS1)
    | (refine toList (by rfl) ?_; refine ld hS _ _ (by rfl) _ _ (by rfl) (agOf (by rfl)) (by repeat first | exact Has.z | apply Has.s) (by rfl) ?_)
    | (go_at_call 30; refine (HQ.out _ _ hS).mono ?_; rintro e w1 ⟨pg, pA, pb, rfl, hS1⟩; clear hS; have hS := hS1; clear hS1)
    | (refine toList (by rfl) ?_; refine al hS _ (by rfl) (zrOf (T := 43) (by rfl)) ?_; intro pa w1 hS1; clear hS; have hS := (show Sat W w1 (Cs pa 43 [.slice none 0 0] :: Cs pb _ _ :: Cs pA _ _ :: Cs pg _ _ :: Cs pm _ _ :: IsG p G :: M) from hS1); clear hS1)
    | (refine toList (by rfl) ?_; refine clV _ _ _ _ (by rfl) (by rfl) (by rfl) (by kernel_rfl) (HW.out _ _ _ _ _ _ _ _ ((hS.rwsNil (R := Ir)).re [1, 0, 5, 4, 3, 2])) ?_; rintro e w1 ⟨v', rfl, hS1⟩; clear hS; have hS := hS1; clear hS1; refine ⟨_, rfl, ?_⟩))
  go_ret
  exact ⟨v', rfl, (hS.re [0, 2]).drop.drop⟩
end Go.Proofs.YtpnbdnfgdiakhaaGreat
namespace Go.Proofs.YtpnbdnfgdiakhaaGreat
open Go.RowKit Go.Sep
set_option linter.unusedSimpArgs false
set_option linter.unusedVariables false
attribute [local irreducible] Go.Oper.wp Go.wpList Go.Calls Go.Code.wp Go.Sep.Reg
attribute [local irreducible] IsG
def awL : List NodeD := [⟨2, 1, 1, 0, 0, false⟩, ⟨2, 2, 1, 0, 0, false⟩, ⟨2, 3, 1, 0, 0, false⟩]
def awN (i : Nat) : Gr := ⟨awL.take i, []⟩
def aw0 : Gr := ⟨awL, []⟩
def aw1 : Gr := ⟨awL, [(2, 1)]⟩
def aw2 : Gr := ⟨awL, [(2, 1), (1, 0)]⟩
def aw3 : Gr := ⟨awL, [(2, 1), (1, 0), (2, 0)]⟩
theorem awN1 : (awN 0).addG 2 1 = awN 1 := rfl
theorem awN2 : (awN 1).addG 2 2 = awN 2 := rfl
theorem awN3 : (awN 2).addG 2 3 = awN 3 := rfl
theorem awN_ok : ∀ i, i ≤ 3 → (awN i).Ok
  | 0, _ => Gr.new_ok
  | 1, _ => awN1 ▸ Gr.addG_ok Gr.new_ok 2 1
  | 2, _ => awN2 ▸ Gr.addG_ok (awN_ok 1 (by decide)) 2 2
  | 3, _ => awN3 ▸ Gr.addG_ok (awN_ok 2 (by decide)) 2 3
theorem aw0_ok : aw0.Ok := awN_ok 3 (by decide)
theorem aw1_ok : aw1.Ok := Gr.link_ok (a := 2) (b := 1) aw0_ok (by decide) (by decide) (by decide) (by decide)
theorem aw2_ok : aw2.Ok := Gr.link_ok (a := 1) (b := 0) aw1_ok (by decide) (by decide) (by decide) (by decide)
theorem aw3_ok : aw3.Ok := Gr.link_ok (a := 2) (b := 0) aw2_ok (by decide) (by decide) (by decide) (by decide)
theorem aw_n1 : ¬ aw0.Reach 1 2 := fun h => absurd (h (fun x => x = 1) rfl fun x y _ he => by cases he) (by decide)
theorem aw_n2 : ¬ aw1.Reach 0 1 := fun h => absurd (h (fun x => x = 0) rfl fun x y hx he => by subst hx; simp [aw1] at he) (by decide)
theorem aw_n3 : ¬ aw2.Reach 0 2 := fun h => absurd (h (fun x => x = 0) rfl fun x y hx he => by subst hx; simp [aw2] at he) (by decide)
theorem aw_e1 : aw0.edgeE 2 1 = 0 := by
  unfold Gr.edgeE
  rw [if_neg (by decide), if_neg (by decide), show aw0.reaches 1 2 = false from Gr.reaches_false (a := 1) (b := 2) aw_n1]; rfl
theorem aw_e2 : aw1.edgeE 1 0 = 0 := by
  unfold Gr.edgeE
  rw [if_neg (by decide), if_neg (by decide), show aw1.reaches 0 1 = false from Gr.reaches_false (a := 0) (b := 1) aw_n2]; rfl
theorem aw_e3 : aw2.edgeE 2 0 = 0 := by
  unfold Gr.edgeE
  rw [if_neg (by decide), if_neg (by decide), show aw2.reaches 0 2 = false from Gr.reaches_false (a := 0) (b := 2) aw_n3]; rfl
theorem aw_g1 : aw0.edgeG 2 1 = aw1 := by unfold Gr.edgeG; rw [aw_e1]; rfl
theorem aw_g2 : aw1.edgeG 1 0 = aw2 := by unfold Gr.edgeG; rw [aw_e2]; rfl
theorem aw_g3 : aw2.edgeG 2 0 = aw3 := by unfold Gr.edgeG; rw [aw_e3]; rfl
theorem aw3_acyc : aw3.Acyc := by
  have h0 : aw0.Acyc := fun a b h => by cases h
  have h1 := Gr.acyc_edge h0 2 1
  rw [aw_g1] at h1
  have h2 := Gr.acyc_edge h1 1 0
  rw [aw_g2] at h2
  have h3 := Gr.acyc_edge h2 2 0
  rwa [aw_g3] at h3
theorem aw_told : told aw3 2 0 10 = [[2, 0], [2, 1, 0]] := by
  unfold told
  rw [if_pos (by decide)]
  have w0 : aw3.wy 0 0 = [[0]] := Gr.wy_self aw3_ok aw3_acyc (by decide)
  have w1 : aw3.wy 0 1 = [[1, 0]] := by
    rw [Gr.wy_ne aw3_ok aw3_acyc (by decide) (by decide), show aw3.ups 1 = [0] from by decide]
    simp [w0]
  have w2 : aw3.wy 0 2 = [[2, 0], [2, 1, 0]] := by
    rw [Gr.wy_ne aw3_ok aw3_acyc (by decide) (by decide), show aw3.ups 2 = [0, 1] from by decide]
    simp [w0, w1]
  show (aw3.wy 0 2).take 10 = _
  rw [w2]; rfl
/-- A question without kids. -/
def leafQ (op n : Int) : StepD := .mk op n (.slice none 0 0) []
theorem leaf_rd (op n : Int) (w : World) (d : Nat) : QRd w (d + 1) (leafQ op n) := ⟨⟨none, 0, rfl, Nat.le_refl _, by omega, rfl, fun h => by simp [leafQ, StepD.kids] at h⟩, fun k hk => nomatch hk⟩
theorem aw_list : qlist aw3 (leafQ 1 0) [2] = [0, 1] := by
  rw [qlist_yes _ (by decide)]
  refine (fltN_eq (by decide) fun n => ?_).symm
  rw [rel_up aw3 11 (q := leafQ 1 0) rfl]
  constructor
  · intro h
    refine ⟨?_, 2, ⟨by decide, by decide⟩, ?_⟩
    · simp only [List.mem_cons, List.not_mem_nil, or_false] at h
      rcases h with rfl | rfl <;> decide
    · simp only [List.mem_cons, List.not_mem_nil, or_false] at h
      rcases h with rfl | rfl <;> decide
  · rintro ⟨_, m, ⟨_, hm⟩, h⟩
    have hm2 := List.mem_singleton.1 hm
    have : m = 2 := by omega
    subst this
    simp [aw3] at h
    rcases h with rfl | rfl <;> decide
theorem aw_add {W w : World} {L : List Asrt} {p : Nat} : ∀ i, i < 3 → Sat W w (IsG p (awN i) :: L) → Calls Tryz.prog 11 #[.pointer (some ⟨p, 0, none⟩), .int .i64 2, .int .i64 ((i : Int) + 1)] w fun e w' => ∃ v, e = .returned v ∧ Sat W w' (IsG p (awN (i + 1)) :: L)
  | 0, _, h => (add_any h (awN_ok 0 (by decide)) 2 1).mono fun e w' ⟨he, hs⟩ => ⟨_, he, hs⟩
  | 1, _, h => (add_any h (awN_ok 1 (by decide)) 2 2).mono fun e w' ⟨he, hs⟩ => ⟨_, he, hs⟩
  | 2, _, h => (add_any h (awN_ok 2 (by decide)) 2 3).mono fun e w' ⟨he, hs⟩ => ⟨_, he, hs⟩
set_option maxRecDepth 20000 in
set_option maxHeartbeats 4000000 in
theorem awake_any {W w : World} {L : List Asrt} (hS : Sat W w L) : Calls Tryz.prog 4 #[] w fun e w' => e = .returned (.bool true) ∧ Sat W w' L := by
  have AD := Lib.hid (fun p i w (hi : i < 3) (h : Sat W w (IsG p (awN i) :: L)) => aw_add i hi h)
  have E1 := Lib.hid (fun p w (h : Sat W w (IsG p (awN 3) :: L)) => (show Calls Tryz.prog 12 #[.pointer (some ⟨p, 0, none⟩), .int .i64 2, .int .i64 1] w fun e w' => e = .returned (.int .i64 0) ∧ Sat W w' (IsG p aw1 :: L) by have := edge_any (show Sat W w (IsG p aw0 :: L) from h) aw0_ok 2 1; rw [aw_e1, aw_g1] at this; exact this))
  have E2 := Lib.hid (fun p w (h : Sat W w (IsG p aw1 :: L)) => (show Calls Tryz.prog 12 #[.pointer (some ⟨p, 0, none⟩), .int .i64 1, .int .i64 0] w fun e w' => e = .returned (.int .i64 0) ∧ Sat W w' (IsG p aw2 :: L) by have := edge_any h aw1_ok 1 0; rw [aw_e2, aw_g2] at this; exact this))
  have E3 := Lib.hid (fun p w (h : Sat W w (IsG p aw2 :: L)) => (show Calls Tryz.prog 12 #[.pointer (some ⟨p, 0, none⟩), .int .i64 2, .int .i64 0] w fun e w' => e = .returned (.int .i64 0) ∧ Sat W w' (IsG p aw3 :: L) by have := edge_any h aw2_ok 2 0; rw [aw_e3, aw_g3] at this; exact this))
  have WY := Lib.hid (fun p w (h : Sat W w (IsG p aw3 :: L)) => (show Calls Tryz.prog 13 #[.pointer (some ⟨p, 0, none⟩), .int .i64 2, .int .i64 0, .int .i64 10] w fun e w' => ∃ a0 c0 a1 c1 bv ov cv, e = .returned (.slice (some ⟨bv, ov, none⟩) 2 cv) ∧ Sat W w' (Tb 0 1 one1 (.slice (some ⟨bv, ov, none⟩) 2 cv) [.slice a0 2 c0, .slice a1 3 c1] :: Ir (.slice a0 2 c0) [2, 0] :: Ir (.slice a1 3 c1) [2, 1, 0] :: IsG p aw3 :: L) by
    refine (lways_any h aw3_ok aw3_acyc 2 0 (most := 10) (K := 10) ⟨by decide, by decide, .inl rfl⟩ (by decide)).mono ?_
    rintro e w' ⟨v, he, hs⟩
    rw [aw_told] at hs
    obtain ⟨vs, hl, h2⟩ := hs.rwsOpen
    obtain ⟨v0, v1, rfl⟩ : ∃ v0 v1, vs = [v0, v1] := by
      match vs, hl with
      | [v0, v1], _ => exact ⟨v0, v1, rfl⟩
    have h3 := h2.pull1.open
    have h4 : Sat W w' (Ir v0 [2, 0] :: Ir v1 [2, 1, 0] :: Tb 0 1 one1 v [v0, v1] :: IsG p aw3 :: L) := h3
    obtain ⟨a0, c0, rfl, _⟩ := h4.irShape (k := 0) rfl
    obtain ⟨a1, c1, rfl, _⟩ := h4.irShape (k := 1) rfl
    obtain ⟨bv, ov, cv, rfl, _⟩ := h4.tbAddr (k := 2) rfl (by simp)
    exact ⟨a0, c0, a1, c1, bv, ov, cv, he, h4.re [2]⟩))
  have LS := Lib.hid (fun p w b M (h : Sat W w (Cs b 3 [.int .i64 2] :: IsG p aw3 :: M)) => (show Calls Tryz.prog 8 #[.pointer (some ⟨p, 0, none⟩), .agg #[.int .i64 1, .int .i64 0, .slice none 0 0], .slice (some ⟨b, 0, none⟩) 1 1] w fun e w' => ∃ a c, e = .returned (.slice a 2 c) ∧ Sat W w' (Ir (.slice a 2 c) [0, 1] :: IsG p aw3 :: Cs b 3 [.int .i64 2] :: M) by
    have := list_any h.pull1 aw3_ok aw3_acyc (leafQ 1 0) (fun w L' _ => leaf_rd 1 0 w 11) [2] (.slice (some ⟨b, 0, none⟩) 1 1) (fun w L' h => h.csRd0 (n := 1) (sz := 1) (has_app _ _ _) (by decide) rfl)
    rw [aw_list] at this
    refine this.mono ?_
    rintro e w' ⟨v, he, hs⟩
    have h2 := (irnOpen hs).2
    obtain ⟨a, c, rfl, _⟩ := h2.irShape (k := 0) rfl
    exact ⟨a, c, he, h2⟩))
  have S1 := Lib.hid (fun w a0 c0 b1 c1 L (h : Sat W w L) (h1 : ∀ w, Sat W w L → Rd w (.slice a0 2 c0) 2 1 (iv [2, 0])) (h2 : ∀ w, Sat W w L → Rd w (.slice b1 2 c1) 2 1 (iv [2, 0])) => same_any h [2, 0] a0 b1 c0 c1 h1 h2 (by decide))
  have S2 := Lib.hid (fun w a0 c0 b1 c1 L (h : Sat W w L) (h1 : ∀ w, Sat W w L → Rd w (.slice a0 3 c0) 3 1 (iv [2, 1, 0])) (h2 : ∀ w, Sat W w L → Rd w (.slice b1 3 c1) 3 1 (iv [2, 1, 0])) => same_any h [2, 1, 0] a0 b1 c0 c1 h1 h2 (by decide))
  have S3 := Lib.hid (fun w a0 c0 b1 c1 L (h : Sat W w L) (h1 : ∀ w, Sat W w L → Rd w (.slice a0 2 c0) 2 1 (iv [0, 1])) (h2 : ∀ w, Sat W w L → Rd w (.slice b1 2 c1) 2 1 (iv [0, 1])) => same_any h [0, 1] a0 b1 c0 c1 h1 h2 (by decide))
  go_enter Tryz.func4, Tryz.ntmps4
  go_wp2_with (first
    | (go_at_call 10; refine (new_any hS).mono ?_; rintro e w1 ⟨p, rfl, hS1⟩; clear hS; have hS := hS1; clear hS1))
  have H0 := Lib.hid (show Sat W _ (IsG p (awN 0) :: L) from hS)
  go_loopw [2] (fun v wz => ∃ i : Nat, v = .int .i64 ((i : Int) + 1) ∧ i ≤ 3 ∧ Sat W wz (IsG p (awN i) :: L)) (fun v _ => 4 - (intOf v).toNat)
  case atStart => exact ⟨0, rfl, by decide, H0.out⟩
  case round =>
    clear hS H0
    obtain ⟨i, rfl, hi, hS⟩ := hrel
    by_cases hlt : i < 3
    · have k1 : (i : Int) + 1 ≤ 3 := by omega
      have HLT := Lib.hid hlt
      clear hlt hi
      go_wp2_with (go_at_call 11; refine (AD.out _ _ _ HLT.out hS).mono ?_; rintro e w1 ⟨v, rfl, hS1⟩; clear hS; have hS := hS1; clear hS1)
      exact ⟨⟨i + 1, by go_num, HLT.out, hS⟩, by simp [intOf]; have := HLT.out; omega⟩
    · obtain rfl : i = 3 := by omega
      clear hlt hi
      go_wp2_with (first
        | (go_at_call 12; (first | with_reducible refine (E1.out _ _ hS).mono ?_ | with_reducible refine (E2.out _ _ hS).mono ?_ | with_reducible refine (E3.out _ _ hS).mono ?_); rintro e w1 ⟨rfl, hS1⟩; clear hS; have hS := hS1; clear hS1)
        | (go_at_call 13; refine (WY.out _ _ hS).mono ?_; rintro e w1 ⟨a0, c0, a1, c1, bv, ov, cv, rfl, hS1⟩; clear hS; have hS := hS1; clear hS1)
        | (refine toList (by rfl) ?_; refine ldTb (f := one1) (off := ov) (sz := 1) (xs := [.slice a0 2 c0, .slice a1 3 c1]) hS _ _ (by rfl) _ _ (by rfl) (agOf (by rfl)) Has.z 0 0 (by rfl) (x := .slice a0 2 c0) (by rfl) (by rfl) ?_)
        | (refine toList (by rfl) ?_; refine ldTb (f := one1) (off := ov) (sz := 1) (xs := [.slice a0 2 c0, .slice a1 3 c1]) hS _ _ (by rfl) _ _ (by rfl) (agOf (by rfl)) Has.z 1 0 (by rfl) (x := .slice a1 3 c1) (by rfl) (by rfl) ?_)
        | (refine toList (by rfl) ?_; refine bsF hS _ _ _ (by rfl) (elOf (by rfl)) [.int .i64 2, .int .i64 0] (by rfl) (by rfl) (by decide) (by decide) (by simp [Value.cells]) ?_; intro b1 w1 hS1; clear hS; have hS := (show Sat W w1 (Cs b1 3 (iv [2, 0]) :: Tb 0 1 one1 _ _ :: Ir _ [2, 0] :: Ir _ [2, 1, 0] :: IsG p aw3 :: L) from hS1); clear hS1)
        | (go_at_call 7; refine (S1.out _ _ _ _ _ _ hS (fun w h => h.irRd (k := 2) rfl) (fun w h => h.csRd0 (n := 2) (sz := 1) Has.z (by decide) rfl)).mono ?_; rintro e w1 ⟨rfl, hS1⟩; clear hS; have hS := hS1.drop; clear hS1)
        | (refine toList (by rfl) ?_; refine bsF hS _ _ _ (by rfl) (elOf (by rfl)) [.int .i64 2, .int .i64 1, .int .i64 0] (by rfl) (by rfl) (by decide) (by decide) (by simp [Value.cells]) ?_; intro b1 w1 hS1; clear hS; have hS := (show Sat W w1 (Cs b1 3 (iv [2, 1, 0]) :: Tb 0 1 one1 _ _ :: Ir _ [2, 0] :: Ir _ [2, 1, 0] :: IsG p aw3 :: L) from hS1); clear hS1)
        | (go_at_call 7; refine (S2.out _ _ _ _ _ _ hS (fun w h => h.irRd (k := 3) rfl) (fun w h => h.csRd0 (n := 3) (sz := 1) Has.z (by decide) rfl)).mono ?_; rintro e w1 ⟨rfl, hS1⟩; clear hS; have hS := (hS1.re [4]); clear hS1)
        | (refine toList (by rfl) ?_; refine bsF hS _ _ _ (by rfl) (elOf (by rfl)) [.int .i64 2] (by rfl) (by rfl) (by decide) (by decide) (by simp [Value.cells]) ?_; intro b1 w1 hS1; clear hS; have hS := (show Sat W w1 (Cs b1 3 [.int .i64 2] :: IsG p aw3 :: _) from hS1); clear hS1)
        | (go_at_call 8; refine (LS.out _ _ _ _ hS).mono ?_; rintro e w1 ⟨a2, c2, rfl, hS1⟩; clear hS; have hS := hS1; clear hS1)
        | (refine toList (by rfl) ?_; refine bsF hS _ _ _ (by rfl) (elOf (by rfl)) [.int .i64 0, .int .i64 1] (by rfl) (by rfl) (by decide) (by decide) (by simp [Value.cells]) ?_; intro b1 w1 hS1; clear hS; have hS := (show Sat W w1 (Cs b1 3 (iv [0, 1]) :: Ir _ [0, 1] :: _) from hS1); clear hS1)
        | (go_at_call 7; refine (S3.out _ _ _ _ _ _ hS (fun w h => h.irRd (k := 1) rfl) (fun w h => h.csRd0 (n := 2) (sz := 1) Has.z (by decide) rfl)).mono ?_; rintro e w1 ⟨rfl, hS1⟩; clear hS; have hS := hS1; clear hS1))
      go_ret
      refine ⟨rfl, ?_⟩
      exact (hS.re [0, 1, 2, 3, 4, 5, 6, 7]).drop.drop.drop.drop.drop.drop.drop.drop
end Go.Proofs.YtpnbdnfgdiakhaaGreat
namespace Go.Proofs.YtpnbdnfgdiakhaaGreat
open Go.RowKit Go.Sep Go.ChangeShapes Go.WideShapes Go.ChangeAt
set_option linter.unusedSimpArgs false
set_option linter.unusedVariables false
attribute [local irreducible] Go.Oper.wp Go.wpList Go.Calls Go.Code.wp Go.Sep.Reg
attribute [local irreducible] IsG
set_option maxRecDepth 20000 in
theorem open_q {H : Type} {enc : TypeId × Value → H} {W : World} {base : Nat} {v : Value} {d : DataW H} {ps : List MemPlace}
    (hv : Value.okWide Tryz.prog W .any base 27 v) (h : DataW.Trod enc Tryz.prog W 0 (fun _ => true) true 27 v d ps) : ∃ y : StepD, v = .agg (qv y).toArray ∧ ∀ d, QRd W d y := by
  obtain ⟨cs, rfl, hsz⟩ := okWide_struct Tryz.underlying27 hv
  obtain ⟨n, h⟩ := h
  simp only [Value.cells] at h
  obtain ⟨y, h1, h2⟩ := open_step n cs.toList _ h
  exact ⟨y, by rw [← h1], h2⟩
/-- A row of numbers of any kind. -/
def Iz (v : Value) (l : List Int) : Asrt := Sl 0 1 v l.length (ivz l)
theorem ivz_one (l : List Int) : ∀ u ∈ ivz l, u.oneCell' = true := by
  intro u hu
  obtain ⟨_, _, rfl⟩ := List.mem_map.1 hu
  rfl
theorem Sat.izShape {W w : World} {L : List Asrt} {k : Nat} {v : Value} {l : List Int} (h : Sat W w L) (hk : Has L k (Iz v l)) : ∃ ao c, v = .slice ao l.length c ∧ l.length ≤ c := by
  obtain ⟨ao, c, h1, h2, _⟩ := h.slShape (k := k) hk
  exact ⟨ao, c, h1, h2⟩
theorem Sat.izRd {W w : World} {L : List Asrt} {k : Nat} {v : Value} {l : List Int} (h : Sat W w L) (hk : Has L k (Iz v l)) : Rd w v l.length 1 (ivz l) := h.slRd (k := k) hk
theorem apZI {P : Program} {Q : Exit → Act → World → Prop} {W w : World} {L : List Asrt} {a : Act} {o : Oper} {K : Act → World → Prop} {k : Nat} {v xv : Value} {l m : List Int} (hS : Sat W w L) (T T2 : TypeId) (x y : Operand) (ho : o.op = .call { callee := .builtin .append, args := #[x, y], argTypes := #[T, T2] }) (hx : a.eval x = v) (hy : a.eval y = xv)
    {e size bytes : Nat} {z : Value} (hT : elemB P T = some (e, size, bytes, some z)) (hsz : size = 1) (hbs : bytes = 8) (hz : z.cells.size = size) (hT2 : intB P T2 = some false)
    (hk : Has L k (Iz v l)) (hr : Rd w xv m.length 1 (ivz m)) (hb : l.length + m.length ≤ 17592186044416)
    (h : ∀ v' w', Sat W w' (L.set k (Iz v' (l ++ m))) → K (a.put o.dst v') w') : o.wp P a w K Q := by
  subst hsz; subst hbs
  unfold Iz at hk
  rw [sl_E 0 e] at hk
  refine ap hS T T2 x y ho _ _ hx hy hT hz (by decide) hT2 hk (m := m.length) (.inl hr) (ivz_one _) (by omega) (by omega) fun v' w' hS' => h v' w' ?_
  unfold Iz
  rw [show ivz (l ++ m) = ivz l ++ ivz m from List.map_append, List.length_append, sl_E 0 e]; exact hS'
theorem izNil {W w : World} {L : List Asrt} (h : Sat W w L) : Sat W w (Iz (.slice none 0 0) [] :: L) := by
  have := h.slNil (E := 0) (sz := 1)
  exact this
theorem intsZ_any {W w : World} {L : List Asrt} {v : Value} {l : List Int} (hS : Sat W w L) (hr : Rd w v l.length 1 (ivz l)) (hl : l.length ≤ 1000000) :
    Calls Tryz.prog 32 #[v] w fun e w' => ∃ v', e = .returned v' ∧ Sat W w' (Iz v' l :: L) := by
  have HR := Lib.hid hr
  have H0 := Lib.hid (izNil hS)
  obtain ⟨ao, c, rfl, _⟩ := hr
  go_enter Tryz.func32, Tryz.ntmps32
  go_wp2_with (refine toList (by rfl) ?_; refine apZI (l := []) (m := l) H0.out _ _ _ _ (by rfl) (by rfl) (by rfl) (elOf (by rfl)) (by rfl) (by rfl) (by rfl) (inOf (by rfl)) Has.z HR.out (by simp; omega) ?_; intro v1 w1 hS1; clear hS; have hS := hS1; clear hS1; dsimp only [List.set_cons_zero, List.nil_append] at hS)
  go_ret
  exact ⟨_, rfl, hS⟩
/-- The same, read by anybody who has them. -/
theorem listO_any {W w : World} {L : List Asrt} {p : Nat} {G : Gr} (hS : Sat W w (IsG p G :: L)) (hG : G.Ok) (hA : G.Acyc) (q : StepD) (hq : ∀ d, QRd W d q) (fl : List Int) (fv : Value)
    (hf : ∀ w L', Sat W w (L' ++ L) → Rd w fv fl.length 1 (ivz fl)) :
    Calls Tryz.prog 8 #[.pointer (some ⟨p, 0, none⟩), .agg (qv q).toArray, fv] w fun e w' => ∃ v, e = .returned v ∧ Sat W w' (Irn v (qlist G q fl) :: IsG p G :: L) :=
  list_any hS hG hA q (fun w L' h => (hq 12).old h) fl fv hf
end Go.Proofs.YtpnbdnfgdiakhaaGreat
