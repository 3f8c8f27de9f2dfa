/-
  For every number of turns, VersionLine answers true: no condition.
-/
import Derived.Test.YtapodjhkpahdnaaVsAwake
import Derived.Test.YtapodjhkpahdnaaSepLaw
import Derived.Test.YtapodjhkpahdnaaSepArg
namespace Go.Proofs.Ytapodjhkpahdnaa
open Go.RowKit Go.Sep Go.ChangeShapes Go.WideShapes Go.ChangeAt
set_option linter.unusedSimpArgs false
set_option linter.unusedVariables false
attribute [local irreducible] Go.Oper.wp Go.wpList Go.Calls Go.Code.wp Go.Sep.Reg
attribute [local irreducible] IsG IsK IsQ IsR
def pN (i : Nat) : Nat := if i % 2 = 0 then i else i - 1
def fN (i : Nat) : Nat := if i = 0 then 1 else if i % 2 = 0 then i - 1 else i
def lenN (i : Nat) : Nat := if i = 0 then 2 else i + 1
theorem tmod2 (i : Nat) : (i : Int).tmod 2 = ((i % 2 : Nat) : Int) := by
  rw [Int.tmod_eq_emod_of_nonneg (by omega)]; rfl
theorem line_len (i : Nat) (h : i ≤ 100) : (KD.line i).G.N.length = lenN i := by
  unfold lenN
  split
  · rename_i h0; subst h0; rfl
  · rw [(line_all i (by omega) (by omega)).g, lineG_len]
theorem line_okA (i : Nat) (h : i ≤ 100) : (KD.line i).Ok 400 := by
  by_cases h0 : i = 0
  · subst h0; exact line_ok0.mono (by decide)
  · exact (line_all i (by omega) (by omega)).ok.mono (by omega)
/-- One more turn. -/
theorem line_turn (i : Nat) (h : i ≤ 99) : (KD.line i).flowE (i : Int) ((if i = 0 then 1 else i - 1 : Nat) : Int) = 0 ∧ (KD.line i).flowI (i : Int) ((if i = 0 then 1 else i - 1 : Nat) : Int) = ((i + 1 : Nat) : Int) ∧ (KD.line i).flow (i : Int) ((if i = 0 then 1 else i - 1 : Nat) : Int) = KD.line (i + 1) := by
  by_cases h0 : i = 0
  · subst h0
    exact ⟨line_step0.1, line_step0.2.1, rfl⟩
  · rw [if_neg h0]
    obtain ⟨h1, h2, _⟩ := line_step (by omega) (by omega) (line_all i (by omega) (by omega))
    refine ⟨h1, h2, ?_⟩
    obtain ⟨d, rfl⟩ : ∃ d, i = d + 1 := ⟨i - 1, by omega⟩
    rfl
theorem lineNode {c k : Nat} (h1 : 1 ≤ c) (h : c ≤ 100) (hk : k ≤ c) : (KD.line c).G.is (k : Int) = true ∧ (KD.line c).G.nodeI (k : Int) = lnode k := by
  rw [(line_all c h1 (by omega)).g]
  exact ⟨Gr.is_mk (by rw [lineG_len]; omega), Gr.nodeI_at (lineG_at hk)⟩
theorem turn_any (i a b : Nat) (h : i ≤ 99) (ha : a = i) (hb : b = if i = 0 then 1 else i - 1) : ∀ (p g : Nat) (W w : World) (L : List Asrt), Sat W w (IsK p g (KD.line i) :: IsG g (KD.line i).G :: L) → Calls Try.prog 13 #[.pointer (some ⟨p, 0, none⟩), .int .i64 ((a : Nat) : Int), .int .i64 ((b : Nat) : Int)] w fun e w' => e = .returned (.tuple #[.int .i64 ((i + 1 : Nat) : Int), .int .i64 0]) ∧ Sat W w' (IsK p g (KD.line (i + 1)) :: IsG g (KD.line (i + 1)).G :: L) := fun p g W w L h2 => by
  subst ha; subst hb
  have := kflow_any h2 (line_okA a (by omega)) (by decide) (a : Int) ((if a = 0 then 1 else a - 1 : Nat) : Int)
  obtain ⟨t1, t2, t3⟩ := line_turn a (by omega)
  rw [t1, t2, t3] at this
  exact this
set_option maxRecDepth 20000 in
set_option maxHeartbeats 4000000 in
theorem Line.walk (n : Int) (W : World) :
    Calls Try.prog 3 #[.int .i64 n] W fun e w' => e = .returned (.bool true) ∧ Sat W w' [] := by
  have hS := Sat.start W
  obtain ⟨k0, hk⟩ : ∃ k : Nat, n % 40 = k := ⟨(n % 40).toNat, by have := Int.emod_nonneg n (show (40 : Int) ≠ 0 by decide); omega⟩
  have hk4 : (k0 : Int) < 40 := by rw [← hk]; exact Int.emod_lt_of_pos _ (by decide)
  have HPL := Lib.hid (fun w => by have := place_any n 40 (by decide) (by decide) w; rw [hk] at this; exact this)
  clear hk
  have HB1 := Lib.hid (fun p g w (L : List Asrt) (h : Sat W w (IsK p g KD.new :: IsG g Gr.new :: L)) => kborn_any (K := KD.new) h KD.new_ok (by decide) 1 1)
  have HB2 := Lib.hid (fun p g w (L : List Asrt) (h : Sat W w (IsK p g (KD.new.born 1 1) :: IsG g (KD.new.born 1 1).G :: L)) => kborn_any h (KD.new_ok.born 1 1) (by decide) 2 2)
  have HI1 := Lib.hid (show KD.new.G.addI 1 1 = 0 ∧ KD.new.G.addE 1 1 = 0 from ⟨rfl, rfl⟩)
  have HI2 := Lib.hid (show (KD.new.born 1 1).G.addI 2 2 = 1 ∧ (KD.new.born 1 1).G.addE 2 2 = 0 from ⟨rfl, rfl⟩)
  rw [HI1.out.1, HI1.out.2] at HB1
  rw [HI2.out.1, HI2.out.2] at HB2
  clear HI1 HI2
  have e0 : (KD.new.born 1 1).born 2 2 = KD.line 0 := rfl
  rw [e0] at HB2
  clear e0
  obtain ⟨Kb, hKb⟩ : ∃ K, KD.new.born 1 1 = K := ⟨_, rfl⟩
  rw [hKb] at HB1 HB2
  clear hKb
  go_enter Try.func3, Try.ntmps3
  go_wp2_with (first
    | (go_at_call 8; refine (knew_any hS).mono ?_; rintro e w1 ⟨p, rfl, g, hS1⟩; clear hS; have hS := hS1; clear hS1)
    | (go_at_call 9; refine (HB1.out _ _ _ _ hS).mono ?_; rintro e w1 ⟨rfl, hS1⟩; clear hS; have hS := hS1; clear hS1)
    | (go_at_call 9; refine (HB2.out _ _ _ _ hS).mono ?_; rintro e w1 ⟨rfl, hS1⟩; clear hS; have hS := hS1; clear hS1)
    | (go_at_call 10; refine (HPL.out _).mono ?_; rintro e w1 ⟨rfl, rfl⟩))
  have H0 := Lib.hid hS
  clear HB1 HB2 HPL
  go_loopw [4, 6, 9] (fun v4 v6 v wz => ∃ i : Nat, v = .int .i64 i ∧ i ≤ k0 + 1 ∧ v4 = .int .i64 (pN i : Nat) ∧ v6 = .int .i64 (fN i : Nat) ∧ Sat W wz [IsK p g (KD.line i), IsG g (KD.line i).G]) (fun _ _ v _ => k0 + 1 - (intOf v).toNat)
  case atStart => exact ⟨0, rfl, by omega, rfl, rfl, H0.out⟩
  case round =>
    clear hS H0
    obtain ⟨i, rfl, hi, rfl, rfl, hS⟩ := hrel
    have hi4 : (i : Int) ≤ 40 := by omega
    by_cases hlt : i < k0 + 1
    · have j1 : (i : Int) < 1 + (k0 : Int) := by omega
      have j2 : decide ((i : Int) < 1 + (k0 : Int)) = true := decide_eq_true j1
      have HLT := Lib.hid hlt
      by_cases h0 : i = 0
      · subst h0
        have e2 : ((0 : Nat) : Int).tmod 2 = 0 := rfl
        have HF := Lib.hid (turn_any 0 (pN 0) (fN 0) (by omega) rfl rfl)
        have HL1 := Lib.hid (fun g w (L : List Asrt) (h2 : Sat W w (IsG g (KD.line 0).G :: L)) => len_any h2 (n := ((lenN 0 : Nat) : Int)) (by rw [line_len 0 (by omega)]))
        have HL2 := Lib.hid (fun g w (L : List Asrt) (h2 : Sat W w (IsG g (KD.line (0 + 1)).G :: L)) => len_any h2 (n := ((lenN (0 + 1) : Nat) : Int)) (by rw [line_len (0 + 1) (by omega)]))
        obtain ⟨K1, hK1⟩ : ∃ K, KD.line 0 = K := ⟨_, rfl⟩
        obtain ⟨K2, hK2⟩ : ∃ K, KD.line (0 + 1) = K := ⟨_, rfl⟩
        have HK2 := Lib.hid hK2
        rw [hK1] at HL1 HF hS
        rw [hK2] at HL2 HF
        clear hK1 hK2
        rw [show lenN 0 = 2 from rfl] at HL1
        rw [show lenN (0 + 1) = 2 from rfl] at HL2
        go_wp2_with (first
          | (go_at_call 11; refine (kgraph_any hS).mono ?_; rintro e w1 ⟨rfl, rfl⟩)
          | (go_at_call 12; refine (HL1.out _ _ _ (hS.re [1])).mono ?_; rintro e w1 ⟨rfl, rfl⟩)
          | (go_at_call 12; refine (HL2.out _ _ _ (hS.re [1])).mono ?_; rintro e w1 ⟨rfl, rfl⟩)
          | (go_at_call 13; refine (HF.out _ _ _ _ _ hS).mono ?_; rintro e w1 ⟨rfl, hS1⟩; clear hS; have hS := hS1; clear hS1))
        exact ⟨⟨1, rfl, HLT.out, rfl, rfl, by rw [HK2.out]; exact hS⟩, by simp [intOf]⟩
      · have hb0 : ((i : Int) == 0) = false := beq_eq_false_iff_ne.2 (by omega)
        have hln : lenN i = i + 1 ∧ lenN (i + 1) = i + 2 := ⟨by unfold lenN; rw [if_neg h0], by unfold lenN; rw [if_neg (by omega)]⟩
        by_cases h2 : i % 2 = 0
        · have e2 : (i : Int).tmod 2 = 0 := by rw [tmod2, h2]; rfl
          have ep : pN i = i := by unfold pN; rw [if_pos h2]
          have ef : fN i = i - 1 := by unfold fN; rw [if_neg h0, if_pos h2]
          have HP := Lib.hid (show pN (i + 1) = pN i ∧ fN (i + 1) = i + 1 by unfold pN fN; rw [if_neg (by omega), if_pos h2, if_neg (by omega), if_neg (by omega)]; exact ⟨by omega, rfl⟩)
          obtain ⟨P, hP⟩ : ∃ P, pN i = P := ⟨_, rfl⟩
          obtain ⟨F, hF⟩ : ∃ F, fN i = F := ⟨_, rfl⟩
          have hT : (if i = 0 then 1 else i - 1) = F := by rw [if_neg h0, ← hF, ef]
          have hPi : i = P := by rw [← hP, ep]
          have HF := Lib.hid (turn_any i P F (by omega) hPi.symm hT.symm)
          have HL1 := Lib.hid (fun g w (L : List Asrt) (h2 : Sat W w (IsG g (KD.line i).G :: L)) => len_any h2 (n := ((lenN i : Nat) : Int)) (by rw [line_len i (by omega)]))
          have HL2 := Lib.hid (fun g w (L : List Asrt) (h2 : Sat W w (IsG g (KD.line (i + 1)).G :: L)) => len_any h2 (n := ((lenN (i + 1) : Nat) : Int)) (by rw [line_len (i + 1) (by omega)]))
          obtain ⟨K1, hK1⟩ : ∃ K, KD.line i = K := ⟨_, rfl⟩
          obtain ⟨K2, hK2⟩ : ∃ K, KD.line (i + 1) = K := ⟨_, rfl⟩
          have HK2 := Lib.hid hK2
          rw [hK1] at HL1 HF hS
          rw [hK2] at HL2 HF
          clear hK1 hK2
          rw [hP, hF]
          rw [hln.1] at HL1
          rw [hln.2] at HL2
          clear hT hPi ep ef h0 h2 hlt hln
          go_wp2_with (first
            | (go_at_call 11; refine (kgraph_any hS).mono ?_; rintro e w1 ⟨rfl, rfl⟩)
            | (go_at_call 12; refine (HL1.out _ _ _ (hS.re [1])).mono ?_; rintro e w1 ⟨rfl, rfl⟩)
            | (go_at_call 12; refine (HL2.out _ _ _ (hS.re [1])).mono ?_; rintro e w1 ⟨rfl, rfl⟩)
            | (go_at_call 13; refine (HF.out _ _ _ _ _ hS).mono ?_; rintro e w1 ⟨rfl, hS1⟩; clear hS; have hS := hS1; clear hS1))
          exact ⟨⟨i + 1, by go_num, HLT.out, by rw [HP.out.1, hP], by rw [HP.out.2]; go_num, by rw [HK2.out]; exact hS⟩, by simp [intOf]; have := HLT.out; omega⟩
        · have h21 : i % 2 = 1 := by omega
          have e2 : (i : Int).tmod 2 = 1 := by rw [tmod2, h21]; rfl
          have ep : pN i = i - 1 := by unfold pN; rw [if_neg h2]
          have ef : fN i = i := by unfold fN; rw [if_neg h0, if_neg h2]
          have HP := Lib.hid (show pN (i + 1) = i + 1 ∧ fN (i + 1) = fN i by unfold pN fN; rw [if_pos (by omega), if_neg (by omega), if_pos (by omega), if_neg h0, if_neg h2]; exact ⟨rfl, by omega⟩)
          obtain ⟨P, hP⟩ : ∃ P, pN i = P := ⟨_, rfl⟩
          obtain ⟨F, hF⟩ : ∃ F, fN i = F := ⟨_, rfl⟩
          have hT : (if i = 0 then 1 else i - 1) = P := by rw [if_neg h0, ← hP, ep]
          have hPi : i = F := by rw [← hF, ef]
          have HF := Lib.hid (turn_any i F P (by omega) hPi.symm hT.symm)
          have HL1 := Lib.hid (fun g w (L : List Asrt) (h2 : Sat W w (IsG g (KD.line i).G :: L)) => len_any h2 (n := ((lenN i : Nat) : Int)) (by rw [line_len i (by omega)]))
          have HL2 := Lib.hid (fun g w (L : List Asrt) (h2 : Sat W w (IsG g (KD.line (i + 1)).G :: L)) => len_any h2 (n := ((lenN (i + 1) : Nat) : Int)) (by rw [line_len (i + 1) (by omega)]))
          obtain ⟨K1, hK1⟩ : ∃ K, KD.line i = K := ⟨_, rfl⟩
          obtain ⟨K2, hK2⟩ : ∃ K, KD.line (i + 1) = K := ⟨_, rfl⟩
          have HK2 := Lib.hid hK2
          rw [hK1] at HL1 HF hS
          rw [hK2] at HL2 HF
          clear hK1 hK2
          rw [hP, hF]
          rw [hln.1] at HL1
          rw [hln.2] at HL2
          clear hT hPi ep ef h0 h2 h21 hlt hln
          go_wp2_with (first
            | (go_at_call 11; refine (kgraph_any hS).mono ?_; rintro e w1 ⟨rfl, rfl⟩)
            | (go_at_call 12; refine (HL1.out _ _ _ (hS.re [1])).mono ?_; rintro e w1 ⟨rfl, rfl⟩)
            | (go_at_call 12; refine (HL2.out _ _ _ (hS.re [1])).mono ?_; rintro e w1 ⟨rfl, rfl⟩)
            | (go_at_call 13; refine (HF.out _ _ _ _ _ hS).mono ?_; rintro e w1 ⟨rfl, hS1⟩; clear hS; have hS := hS1; clear hS1))
          exact ⟨⟨i + 1, by go_num, HLT.out, by rw [HP.out.1]; go_num, by rw [HP.out.2, hF], by rw [HK2.out]; exact hS⟩, by simp [intOf]; have := HLT.out; omega⟩
    · obtain rfl : i = k0 + 1 := by omega
      have j1 : ¬ ((k0 + 1 : Nat) : Int) < 1 + (k0 : Int) := by omega
      have j2 : decide (((k0 + 1 : Nat) : Int) < 1 + (k0 : Int)) = false := decide_eq_false j1
      have hpf : (pN (k0 + 1) = k0 + 1 ∧ fN (k0 + 1) = k0 ∧ (k0 + 1) % 2 = 0) ∨ (pN (k0 + 1) = k0 ∧ fN (k0 + 1) = k0 + 1 ∧ (k0 + 1) % 2 = 1) := by
        unfold pN fN
        by_cases h : (k0 + 1) % 2 = 0
        · left; rw [if_pos h, if_neg (by omega), if_pos h]; exact ⟨rfl, by omega, h⟩
        · right; rw [if_neg h, if_neg (by omega), if_neg h]; exact ⟨by omega, rfl, by omega⟩
      have HAB := Lib.hid (show ((KD.line (k0 + 1)).G.aboveI ((k0 + 1 : Nat) : Int)).length = k0 + 2 by rw [(line_all (k0 + 1) (by omega) (by omega)).g, line_above])
      have HL := Lib.hid (fun w (L : List Asrt) (h2 : Sat W w (IsG g (KD.line (k0 + 1)).G :: L)) => len_any h2 (n := ((k0 + 2 : Nat) : Int)) (by rw [line_len (k0 + 1) (by omega)]; rfl))
      have HA := Lib.hid (fun w (L : List Asrt) (h2 : Sat W w (IsG g (KD.line (k0 + 1)).G :: L)) => above_any h2 (line_okA (k0 + 1) (by omega)).g ((k0 + 1 : Nat) : Int))
      obtain ⟨n1, n2⟩ := lineNode (c := k0 + 1) (k := k0 + 1) (by omega) (by omega) (Nat.le_refl _)
      obtain ⟨m1, m2⟩ := lineNode (c := k0 + 1) (k := k0) (by omega) (by omega) (by omega)
      have HN := Lib.hid (fun w (L : List Asrt) (h2 : Sat W w (IsG g (KD.line (k0 + 1)).G :: L)) => by have := node_any h2 ((k0 + 1 : Nat) : Int); rw [n1, n2] at this; exact this)
      have HM := Lib.hid (fun w (L : List Asrt) (h2 : Sat W w (IsG g (KD.line (k0 + 1)).G :: L)) => by have := node_any h2 ((k0 : Nat) : Int); rw [m1, m2] at this; exact this)
      have hv1 := lnode_ver (k0 + 1)
      have hv2 := lnode_ver k0
      obtain ⟨⟨x1, x2, x3, x4, x5, x6⟩, hx⟩ : ∃ x, lnode (k0 + 1) = x := ⟨_, rfl⟩
      obtain ⟨⟨y1, y2, y3, y4, y5, y6⟩, hy⟩ : ∃ x, lnode k0 = x := ⟨_, rfl⟩
      rw [hx] at HN hv1
      rw [hy] at HM hv2
      dsimp only at hv1 hv2
      have b1 : (x3 : Int) ≤ 100 := by omega
      have b2 : (y3 : Int) ≤ 100 := by omega
      obtain ⟨ab, hab⟩ : ∃ ab, (KD.line (k0 + 1)).G.aboveI ((k0 + 1 : Nat) : Int) = ab := ⟨_, rfl⟩
      rw [hab] at HAB HA
      obtain ⟨K1, hK1⟩ : ∃ K, KD.line (k0 + 1) = K := ⟨_, rfl⟩
      rw [hK1] at HL HA HN HM hS
      clear n1 n2 m1 m2 hx hy hab hK1 hi4 hi hlt
      rcases hpf with ⟨hp, hf, h2⟩ | ⟨hp, hf, h2⟩
      · have e2 : (1 + (k0 : Int)).tmod 2 = 0 := by
          have := tmod2 (k0 + 1)
          rw [h2] at this
          rw [show (1 + (k0 : Int)) = ((k0 + 1 : Nat) : Int) by omega]; exact this
        have e3 : ((x3 : Int) + (y3 : Int) == 1 + (k0 : Int) + 1) = true := beq_iff_eq.2 (by omega)
        rw [hp, hf]
        clear hp hf h2 hv1 hv2
        go_wp2_with (first
          | (go_at_call 11; refine (kgraph_any (by first | exact hS | exact hS.drop | exact hS.drop.drop | exact hS.pull1.drop)).mono ?_; rintro e w1 ⟨rfl, rfl⟩)
          | (go_at_call 14; refine (HN.out _ _ (hS.re [1])).mono ?_; rintro e w1 ⟨rfl, hS1⟩; clear hS; have hS := hS1; clear hS1; replace hS := hS.pull1)
          | (go_at_call 14; refine (HM.out _ _ (hS.re [2])).mono ?_; rintro e w1 ⟨rfl, hS1⟩; clear hS; have hS := hS1; clear hS1; replace hS := hS.re [1, 2, 0])
          | (go_at_call 15; refine (HA.out _ _ (hS.re [3])).mono ?_; rintro e w1 ⟨va, rfl, hS1⟩; clear hS; have hS := hS1; clear hS1; obtain ⟨aa, ca, rfl, _⟩ := hS.irShape (k := 0) rfl; simp only [HAB.out]; replace hS := hS.re [4, 1])
          | (go_at_call 12; refine (HL.out _ _ (hS.re [1])).mono ?_; rintro e w1 ⟨rfl, rfl⟩)
          | (refine toList (by rfl) ?_; refine al hS _ (by rfl) (zrOf (by rfl)) ?_; intro px w1 hS1; clear hS; have hS := hS1; clear hS1; rw [cells_agg] at hS)
          | (refine toList (by rfl) ?_; refine stW hS _ _ _ (by rfl) (by rfl) (nv ⟨x1, x2, x3, x4, x5, x6⟩) (by rfl) (nv_all _) (szOf (by rfl)) Has.z rfl ?_; intro w1 hS1; clear hS; have hS := hS1; clear hS1; dsimp only [List.set_cons_zero] at hS)
          | (refine toList (by rfl) ?_; refine stW hS _ _ _ (by rfl) (by rfl) (nv ⟨y1, y2, y3, y4, y5, y6⟩) (by rfl) (nv_all _) (szOf (by rfl)) Has.z rfl ?_; intro w1 hS1; clear hS; have hS := hS1; clear hS1; dsimp only [List.set_cons_zero] at hS)
          | (go_at_call 16; refine (awake_any hS).mono ?_; rintro e w1 ⟨rfl, hS1⟩; clear hS; have hS := hS1; clear hS1)
          | (refine toList (by rfl) ?_; refine ld hS _ _ (by rfl) _ _ (by rfl) (agOf (by rfl)) (by first | exact Has.z | exact Has.s Has.z | exact Has.s (Has.s Has.z) | exact Has.s (Has.s (Has.s Has.z)) | exact Has.s (Has.s (Has.s (Has.s Has.z))) | exact Has.s (Has.s (Has.s (Has.s (Has.s Has.z))))) (by rfl) ?_))
        go_ret
        exact ⟨by first | rfl | simp, hS.map fun _ _ => trivial⟩
      · have e2 : (1 + (k0 : Int)).tmod 2 = 1 := by
          have := tmod2 (k0 + 1)
          rw [h2] at this
          rw [show (1 + (k0 : Int)) = ((k0 + 1 : Nat) : Int) by omega]; exact this
        have e3 : ((y3 : Int) + (x3 : Int) == 1 + (k0 : Int) + 1) = true := beq_iff_eq.2 (by omega)
        rw [hp, hf]
        clear hp hf h2 hv1 hv2
        go_wp2_with (first
          | (go_at_call 11; refine (kgraph_any (by first | exact hS | exact hS.drop | exact hS.drop.drop | exact hS.pull1.drop)).mono ?_; rintro e w1 ⟨rfl, rfl⟩)
          | (go_at_call 14; refine (HM.out _ _ (hS.re [1])).mono ?_; rintro e w1 ⟨rfl, hS1⟩; clear hS; have hS := hS1; clear hS1; replace hS := hS.pull1)
          | (go_at_call 14; refine (HN.out _ _ (hS.re [2])).mono ?_; rintro e w1 ⟨rfl, hS1⟩; clear hS; have hS := hS1; clear hS1; replace hS := hS.re [1, 2, 0])
          | (go_at_call 15; refine (HA.out _ _ (hS.re [3])).mono ?_; rintro e w1 ⟨va, rfl, hS1⟩; clear hS; have hS := hS1; clear hS1; obtain ⟨aa, ca, rfl, _⟩ := hS.irShape (k := 0) rfl; simp only [HAB.out]; replace hS := hS.re [4, 1])
          | (go_at_call 12; refine (HL.out _ _ (hS.re [1])).mono ?_; rintro e w1 ⟨rfl, rfl⟩)
          | (refine toList (by rfl) ?_; refine al hS _ (by rfl) (zrOf (by rfl)) ?_; intro px w1 hS1; clear hS; have hS := hS1; clear hS1; rw [cells_agg] at hS)
          | (refine toList (by rfl) ?_; refine stW hS _ _ _ (by rfl) (by rfl) (nv ⟨x1, x2, x3, x4, x5, x6⟩) (by rfl) (nv_all _) (szOf (by rfl)) Has.z rfl ?_; intro w1 hS1; clear hS; have hS := hS1; clear hS1; dsimp only [List.set_cons_zero] at hS)
          | (refine toList (by rfl) ?_; refine stW hS _ _ _ (by rfl) (by rfl) (nv ⟨y1, y2, y3, y4, y5, y6⟩) (by rfl) (nv_all _) (szOf (by rfl)) Has.z rfl ?_; intro w1 hS1; clear hS; have hS := hS1; clear hS1; dsimp only [List.set_cons_zero] at hS)
          | (go_at_call 16; refine (awake_any hS).mono ?_; rintro e w1 ⟨rfl, hS1⟩; clear hS; have hS := hS1; clear hS1)
          | (refine toList (by rfl) ?_; refine ld hS _ _ (by rfl) _ _ (by rfl) (agOf (by rfl)) (by first | exact Has.z | exact Has.s Has.z | exact Has.s (Has.s Has.z) | exact Has.s (Has.s (Has.s Has.z)) | exact Has.s (Has.s (Has.s (Has.s Has.z))) | exact Has.s (Has.s (Has.s (Has.s (Has.s Has.z))))) (by rfl) ?_))
        go_ret
        exact ⟨by first | rfl | simp, hS.map fun _ _ => trivial⟩

set_option maxRecDepth 100000 in
theorem Line.contract (H : Type) (enc : TypeId × Value → H) (W : World) (base : Nat) (args : Array Value) (ds gs : List (DataW H)) (before : List MemPlace)
    (hval : ∀ (j : Nat) t v, Try.f3.params[j]? = some t → args[j]? = some v → Value.okWide Try.prog W .any base t v)
    (hW : DataW.Whole enc Try.prog Try.f3.params.toList Rows.versionLineSpec.vars false W args.toList ds gs before)
    (hreach : (DataW.weightsEach Try.prog (Try.f3.params.toList ++ Rows.versionLineSpec.plain.varTypes Try.prog) (ds ++ gs)).all (· ≤ reachBytes) = true) :
    Calls Try.prog 3 args W fun e W' => ∃ v, e = .returned v ∧ Rows.versionLineSpec.post enc Try.prog Try.f3 false true false false W args v W' := by
  have hW' := hW
  obtain ⟨p, q, hA, hV, rfl, hfz, hnd⟩ := hW
  rw [Try.params3] at hA hval hreach
  obtain ⟨v1, vs1, d1, ds1, p1, q1, hargs, rfl, rfl, h1, r1⟩ := trodAll_cons hA
  obtain ⟨rfl, rfl, rfl⟩ := trodAll_nil r1
  obtain rfl : args = #[v1] := by cases args; simp_all
  obtain ⟨rfl, rfl⟩ := trodVars_none hV
  obtain ⟨a1, rfl, rfl, rfl, w1⟩ := open_int Try.underlying3 (hval 0 3 v1 rfl rfl) h1
  refine (Line.walk a1 W).mono ?_
  refine fun e W' ⟨he, hS⟩ => ?_
  subst he
  exact ⟨_, rfl, law_post (tb := 4) (by kernel_rfl) (by kernel_rfl) rfl Try.underlying4 rfl hW' rfl hS⟩

theorem Line.own : ownKnob Try.prog.godebug = none := by kernel_rfl
set_option maxRecDepth 100000 in
theorem Line.lifted (os : Os) (started : os.Started) (H : Type) (enc : TypeId × Value → H) :
    ReturnsInHanded {} Try.checked os 3 .any (Rows.versionLineSpec.pre6 enc Try.prog Try.f3 Rows.versionLineRow.domain false) (Rows.versionLineSpec.post enc Try.prog Try.f3 false true false false) := by
  refine returnsInHanded_of_change_shaped (C := Try.checked) Line.own started (by kernel_rfl) Try.func3
    (ChangeSpec.witness6 (enc := enc) (C := Try.checked) false ⟨#[], #[.int .i64 0], []⟩ 8 (by kernel_rfl) (by kernel_rfl) (by kernel_rfl) (by kernel_rfl)) ?_
  intro W base args ds gs before hval hW _ hreach _ _
  exact Line.contract H enc W base args ds gs before hval hW hreach

theorem Line.holds : Rows.VersionLineSaid :=
  OpenClaim.holds_of_wide 3 Try.f3 rfl rfl rfl rfl rfl rfl rfl ⟨rfl, rfl, rfl, rfl, rfl⟩ rfl rfl rfl rfl rfl (by kernel_rfl) Try.func3 (by kernel_rfl)
    (of_decide_eq_true (by kernel_rfl)) (by unfold Func.isWrapper; first | (rw [if_pos (by decide +kernel)]; kernel_rfl) | (rw [if_neg (by decide +kernel)]; exact ⟨rfl, rfl⟩))
    (fun os started H enc _ => Line.lifted os started H enc)
end Go.Proofs.Ytapodjhkpahdnaa
