/-
  Package version: Born, Source, Declass, Lost, Records, Need, Graph, Label, New, Load.
-/
import Derived.Test.YtapodjhkpahdnaaVsFlow
namespace Go.Proofs.Ytapodjhkpahdnaa
open Go.RowKit Go.Sep
set_option linter.unusedSimpArgs false
set_option linter.unusedVariables false
attribute [local irreducible] Go.Oper.wp Go.wpList Go.Calls Go.Code.wp Go.Sep.Reg
attribute [local irreducible] IsG IsK
theorem kborn_any {W w : World} {L : List Asrt} {p g n : Nat} {K : KD} (hS : Sat W w (IsK p g K :: IsG g K.G :: L)) (hK : K.Ok n) (hn : n ≤ 900000) (k o : Int) :
    Calls Try.prog 9 #[.pointer (some ⟨p, 0, none⟩), .int .i64 k, .int .i64 o] w fun e w' => e = .returned (.tuple #[.int .i64 (K.G.addI k o), .int .i64 (K.G.addE k o)]) ∧ Sat W w' (IsK p g (K.born k o) :: IsG g (K.born k o).G :: L) := by
  obtain ⟨E, hE⟩ : ∃ E, K.G.addE k o = E := ⟨_, rfl⟩
  obtain ⟨I, hI⟩ : ∃ I, K.G.addI k o = I := ⟨_, rfl⟩
  obtain ⟨K2, hK2⟩ : ∃ K2, K.born k o = K2 := ⟨_, rfl⟩
  have HN := Lib.hid (fun w (L : List Asrt) (h : Sat W w (IsK p g K :: IsG g K.G :: L)) => knode_any h hK hn k o)
  rw [hE, hI, hK2] at HN
  rw [hE, hI, hK2]
  clear hE hI hK2
  go_enter Try.func9, Try.ntmps9
  go_wp2_with (first
    | (go_at_call 36; refine (HN.out _ _ hS).mono ?_; rintro e w1 ⟨rfl, hS1⟩; clear hS; have hS := hS1; clear hS1))
  go_ret2
  exact ⟨rfl, hS⟩
theorem kgraph_any {W w : World} {L : List Asrt} {p g : Nat} {K : KD} (hS : Sat W w (IsK p g K :: IsG g K.G :: L)) :
    Calls Try.prog 11 #[.pointer (some ⟨p, 0, none⟩)] w fun e w' => e = .returned (.pointer (some ⟨g, 0, none⟩)) ∧ w = w' := by
  obtain ⟨c, f, v, hkn, hS⟩ := IsK.open hS
  go_enter Try.func11, Try.ntmps11
  go_wp2_with (refine toList (by rfl) ?_; refine ld hS _ _ (by rfl) _ _ (by rfl) (agOf (by rfl)) (by first | exact Has.z | exact Has.s Has.z | exact Has.s (Has.s Has.z) | exact Has.s (Has.s (Has.s Has.z)) | exact Has.s (Has.s (Has.s (Has.s Has.z))) | exact Has.s (Has.s (Has.s (Has.s (Has.s Has.z))))) (by rfl) ?_)
  go_ret
  exact ⟨rfl, rfl⟩
theorem klabel_any {W w : World} {L : List Asrt} {p g n : Nat} {K : KD} (hS : Sat W w (IsK p g K :: IsG g K.G :: L)) (hK : K.Ok n) (m : Int) :
    Calls Try.prog 33 #[.pointer (some ⟨p, 0, none⟩), .int .i64 m] w fun e w' => e = .returned (.int .i64 (K.G.labI m : Nat)) ∧ Sat W w' (IsK p g K :: IsG g K.G :: L) := by
  obtain ⟨c, f, v, hkn, hS⟩ := IsK.open hS
  have HKN := Lib.hid hkn
  have hs := HKN.out.small hK.g m
  have HC := Lib.hid (fun w (L : List Asrt) (h : Sat W w (IsC c f :: L)) => by have := clab_any h m hs.1 hs.2; rw [HKN.out.lab m] at this; exact this)
  clear hkn hs hK
  go_enter Try.func33, Try.ntmps33
  go_wp2_with (first
    | (refine toList (by rfl) ?_; refine ld hS _ _ (by rfl) _ _ (by rfl) (agOf (by rfl)) (by first | exact Has.z | exact Has.s Has.z | exact Has.s (Has.s Has.z) | exact Has.s (Has.s (Has.s Has.z)) | exact Has.s (Has.s (Has.s (Has.s Has.z))) | exact Has.s (Has.s (Has.s (Has.s (Has.s Has.z))))) (by rfl) ?_)
    | (go_at_call 69; refine (HC.out _ _ (hS.re [2])).mono ?_; rintro e w1 ⟨rfl, hS1⟩; clear hS; have hS := hS1; clear hS1))
  go_ret
  exact ⟨rfl, IsK.mk HKN.out (hS.re [1, 2, 0])⟩
theorem krecords_any {W w : World} {L : List Asrt} {p g : Nat} {K : KD} (hS : Sat W w (IsK p g K :: IsG g K.G :: L)) :
    Calls Try.prog 30 #[.pointer (some ⟨p, 0, none⟩)] w fun e w' => ∃ v, e = .returned v ∧ Sat W w' (Tb 53 3 rv v K.R :: IsK p g K.clean :: IsG g K.G :: L) := by
  obtain ⟨c, f, v, hkn, hS⟩ := IsK.open hS
  have HKN := Lib.hid hkn
  clear hkn
  go_enter Try.func30, Try.ntmps30
  go_wp2_with (first
    | (refine toList (by rfl) ?_; refine ld hS _ _ (by rfl) _ _ (by rfl) (agOf (by rfl)) (by first | exact Has.z | exact Has.s Has.z | exact Has.s (Has.s Has.z) | exact Has.s (Has.s (Has.s Has.z)) | exact Has.s (Has.s (Has.s (Has.s Has.z))) | exact Has.s (Has.s (Has.s (Has.s (Has.s Has.z))))) (by rfl) ?_)
    | (refine toList (by rfl) ?_; refine st hS _ _ _ (by rfl) _ _ (by rfl) _ (by first | exact evC | exact evT (by rfl)) (by rfl) (szOf (by rfl)) (by first | exact Has.z | exact Has.s Has.z | exact Has.s (Has.s Has.z) | exact Has.s (Has.s (Has.s Has.z)) | exact Has.s (Has.s (Has.s (Has.s Has.z))) | exact Has.s (Has.s (Has.s (Has.s (Has.s Has.z))))) (by exact Nat.le_of_ble_eq_true rfl) ?_; intro w1 hS1; clear hS; have hS := hS1; clear hS1; dsimp only [List.set] at hS))
  go_ret
  have h1 := (hS.re [3]).tbNil (α := RecD) (f := rv) (E := 53) (sz := 3)
  exact ⟨v, rfl, (IsK.mk (K := K.clean) HKN.out (h1.re [2, 3, 4, 0])).re [2]⟩
set_option maxRecDepth 20000 in
set_option maxHeartbeats 1000000 in
theorem klost_any {W w : World} {L : List Asrt} {p g n : Nat} {K : KD} (hS : Sat W w (IsK p g K :: IsG g K.G :: L)) (hK : K.Ok n) (hn : n ≤ 900000) (a b : Int) :
    Calls Try.prog 65 #[.pointer (some ⟨p, 0, none⟩), .int .i64 a, .int .i64 b] w fun e w' => e = .returned (.int .i64 (lostE K.G a b)) ∧ Sat W w' (IsK p g (K.lost a b) :: IsG g (K.lost a b).G :: L) := by
  have hr := hK.r
  obtain ⟨c, f, v, hkn, hS⟩ := IsK.open hS
  have HKN := Lib.hid hkn
  have HL := Lib.hid (fun w (L : List Asrt) (h : Sat W w (IsG g K.G :: L)) => lost_any h a b (by have := hK.g.len; omega))
  have HK2 := Lib.hid (HKN.out.lost a b)
  obtain ⟨E, hE⟩ : ∃ E, lostE K.G a b = E := ⟨_, rfl⟩
  obtain ⟨G2, hG2⟩ : ∃ G2, K.G.lostG a b = G2 := ⟨_, rfl⟩
  rw [hE, hG2] at HL
  rw [hG2] at HK2
  rw [hE]
  clear hkn hK
  by_cases h0 : E = 0
  · subst h0
    have HB := Lib.hid (show K.lost a b = ⟨G2, K.R ++ [⟨5, a, b⟩]⟩ by unfold KD.lost; rw [if_pos hE]; simp [KD.says, hG2])
    rw [HB.out]
    clear hE hG2
    go_enter Try.func65, Try.ntmps65
    go_wp2_with (first
      | (refine toList (by rfl) ?_; refine ld hS _ _ (by rfl) _ _ (by rfl) (agOf (by rfl)) (by first | exact Has.z | exact Has.s Has.z | exact Has.s (Has.s Has.z) | exact Has.s (Has.s (Has.s Has.z)) | exact Has.s (Has.s (Has.s (Has.s Has.z))) | exact Has.s (Has.s (Has.s (Has.s (Has.s Has.z))))) (by rfl) ?_)
      | (go_at_call 50; refine (HL.out _ _ (hS.re [1])).mono ?_; rintro e w1 ⟨rfl, hS1⟩; clear hS; have hS := hS1; clear hS1; replace hS := hS.re [1, 3, 2, 0])
      | (go_at_call 73; refine (says_any hS (by omega) 5 a b).mono ?_; rintro e w1 ⟨rfl, v', hS1⟩; clear hS; have hS := hS1; clear hS1))
    go_ret
    exact ⟨rfl, IsK.mk (K := ⟨G2, K.R ++ [⟨5, a, b⟩]⟩) HK2.out (hS.re [0, 3, 2, 1])⟩
  · have HB := Lib.hid (show K.lost a b = K by unfold KD.lost; rw [if_neg (by rw [hE]; exact h0)])
    have HG := Lib.hid (show G2 = K.G by
      rw [← hG2]; unfold Gr.lostG
      rw [if_neg]
      intro h
      apply h0
      rw [← hE]; unfold lostE; rw [if_pos h])
    have e0 : (E == 0) = false := beq_eq_false_iff_ne.2 h0
    rw [HG.out] at HL
    rw [HB.out]
    clear hE hG2 h0
    go_enter Try.func65, Try.ntmps65
    go_wp2_with (first
      | (refine toList (by rfl) ?_; refine ld hS _ _ (by rfl) _ _ (by rfl) (agOf (by rfl)) (by first | exact Has.z | exact Has.s Has.z | exact Has.s (Has.s Has.z) | exact Has.s (Has.s (Has.s Has.z)) | exact Has.s (Has.s (Has.s (Has.s Has.z))) | exact Has.s (Has.s (Has.s (Has.s (Has.s Has.z))))) (by rfl) ?_)
      | (go_at_call 50; refine (HL.out _ _ (hS.re [1])).mono ?_; rintro e w1 ⟨rfl, hS1⟩; clear hS; have hS := hS1; clear hS1; replace hS := hS.pull1))
    go_ret
    exact ⟨rfl, IsK.mk HKN.out hS⟩
set_option maxRecDepth 20000 in
set_option maxHeartbeats 4000000 in
theorem kmark_any {W w : World} {L : List Asrt} {p g n : Nat} {K : KD} (hS : Sat W w (IsK p g K :: IsG g K.G :: L)) (hK : K.Ok n) (hn : n ≤ 700000) (m s : Int) :
    Calls Try.prog 87 #[.pointer (some ⟨p, 0, none⟩), .int .i64 m, .int .i64 s, .int .i64 3] w fun e w' => e = .returned (.tuple #[.int .i64 (K.setI m s), .int .i64 (K.setE m s)]) ∧ Sat W w' (IsK p g (K.set false m s) :: IsG g (K.set false m s).G :: L) := by
  have HK := Lib.hid hK
  obtain ⟨⟨y1, y2, y3, y4, y5, y6⟩, hy⟩ : ∃ x, K.G.nodeI m = x := ⟨_, rfl⟩
  cases hb : K.G.is m with
  | false =>
    have HB := Lib.hid (fun w (L : List Asrt) (h : Sat W w (IsG g K.G :: L)) => by have := node_any h m; rw [hy, hb] at this; exact this)
    have hbad : K.setBad m s = true := by unfold KD.setBad; rw [hb]; rfl
    have HF := Lib.hid (show K.setI m s = 0 ∧ K.setE m s = 1 ∧ K.set false m s = K by unfold KD.setI KD.setE KD.set; rw [hbad]; exact ⟨rfl, rfl, rfl⟩)
    rw [HF.out.1, HF.out.2.1, HF.out.2.2]
    have HNX := 0
    obtain ⟨c, f, v, hkn, hS⟩ := IsK.open hS
    have HKN := Lib.hid hkn
    clear hkn hy hb hbad hK
    go_enter Try.func87, Try.ntmps87
    go_wp2_with (first
      | (go_at_call 14; refine (HB.out _ _ (hS.re [1])).mono ?_; rintro e w1 ⟨rfl, hS1⟩; clear hS; have hS := hS1; clear hS1; replace hS := hS.pull1)
      | (go_at_call 39; refine (HNX.out _ _ (IsK.mk HKN.out (hS.re [1, 2, 3, 4]))).mono ?_; rintro e w1 ⟨rfl, hS1⟩; clear hS; have hS := hS1; clear hS1; skip)
      
      | (refine toList (by rfl) ?_; refine al hS _ (by rfl) (zrOf (by rfl)) ?_; intro py w1 hS1; clear hS; have hS := hS1; clear hS1; rw [cells_agg] at hS)
      | (refine toList (by rfl) ?_; refine stW hS _ _ _ (by rfl) (by rfl) (nv ⟨y1, y2, y3, y4, y5, y6⟩) (by rfl) (nv_all _) (szOf (by rfl)) Has.z rfl ?_; intro w1 hS1; clear hS; have hS := hS1; clear hS1; dsimp only [List.set_cons_zero] at hS)
      | (refine toList (by rfl) ?_; refine ld hS _ _ (by rfl) _ _ (by rfl) (agOf (by rfl)) (by first | exact Has.z | exact Has.s Has.z | exact Has.s (Has.s Has.z) | exact Has.s (Has.s (Has.s Has.z)) | exact Has.s (Has.s (Has.s (Has.s Has.z))) | exact Has.s (Has.s (Has.s (Has.s (Has.s Has.z))))) (by rfl) ?_))
    go_ret2
    exact ⟨rfl, IsK.mk HKN.out hS.drop⟩
  | true =>
    have HB := Lib.hid (fun w (L : List Asrt) (h : Sat W w (IsG g K.G :: L)) => by have := node_any h m; rw [hy, hb] at this; exact this)
    by_cases h1 : s < 0
    · have hbad : K.setBad m s = true := by unfold KD.setBad; rw [hb, decide_eq_true h1]; rfl
      have HF := Lib.hid (show K.setI m s = 0 ∧ K.setE m s = 1 ∧ K.set false m s = K by unfold KD.setI KD.setE KD.set; rw [hbad]; exact ⟨rfl, rfl, rfl⟩)
      rw [HF.out.1, HF.out.2.1, HF.out.2.2]
      have d1 : decide (s < 0) = true := decide_eq_true h1
      have HNX := 0
      obtain ⟨c, f, v, hkn, hS⟩ := IsK.open hS
      have HKN := Lib.hid hkn
      clear hkn hy hb hbad hK
      go_enter Try.func87, Try.ntmps87
      go_wp2_with (first
        | (go_at_call 14; refine (HB.out _ _ (hS.re [1])).mono ?_; rintro e w1 ⟨rfl, hS1⟩; clear hS; have hS := hS1; clear hS1; replace hS := hS.pull1)
        | (go_at_call 39; refine (HNX.out _ _ (IsK.mk HKN.out (hS.re [1, 2, 3, 4]))).mono ?_; rintro e w1 ⟨rfl, hS1⟩; clear hS; have hS := hS1; clear hS1; skip)
        
        | (refine toList (by rfl) ?_; refine al hS _ (by rfl) (zrOf (by rfl)) ?_; intro py w1 hS1; clear hS; have hS := hS1; clear hS1; rw [cells_agg] at hS)
        | (refine toList (by rfl) ?_; refine stW hS _ _ _ (by rfl) (by rfl) (nv ⟨y1, y2, y3, y4, y5, y6⟩) (by rfl) (nv_all _) (szOf (by rfl)) Has.z rfl ?_; intro w1 hS1; clear hS; have hS := hS1; clear hS1; dsimp only [List.set_cons_zero] at hS)
        | (refine toList (by rfl) ?_; refine ld hS _ _ (by rfl) _ _ (by rfl) (agOf (by rfl)) (by first | exact Has.z | exact Has.s Has.z | exact Has.s (Has.s Has.z) | exact Has.s (Has.s (Has.s Has.z)) | exact Has.s (Has.s (Has.s (Has.s Has.z))) | exact Has.s (Has.s (Has.s (Has.s (Has.s Has.z))))) (by rfl) ?_))
      go_ret2
      exact ⟨rfl, IsK.mk HKN.out hS.drop⟩
    have d1 : decide (s < 0) = false := decide_eq_false h1
    by_cases h2 : 8 ≤ s
    · have hbad : K.setBad m s = true := by unfold KD.setBad; rw [hb, decide_eq_true h2]; simp
      have HF := Lib.hid (show K.setI m s = 0 ∧ K.setE m s = 1 ∧ K.set false m s = K by unfold KD.setI KD.setE KD.set; rw [hbad]; exact ⟨rfl, rfl, rfl⟩)
      rw [HF.out.1, HF.out.2.1, HF.out.2.2]
      have d2 : decide (8 ≤ s) = true := decide_eq_true h2
      have HNX := 0
      obtain ⟨c, f, v, hkn, hS⟩ := IsK.open hS
      have HKN := Lib.hid hkn
      clear hkn hy hb hbad hK
      go_enter Try.func87, Try.ntmps87
      go_wp2_with (first
        | (go_at_call 14; refine (HB.out _ _ (hS.re [1])).mono ?_; rintro e w1 ⟨rfl, hS1⟩; clear hS; have hS := hS1; clear hS1; replace hS := hS.pull1)
        | (go_at_call 39; refine (HNX.out _ _ (IsK.mk HKN.out (hS.re [1, 2, 3, 4]))).mono ?_; rintro e w1 ⟨rfl, hS1⟩; clear hS; have hS := hS1; clear hS1; skip)
        
        | (refine toList (by rfl) ?_; refine al hS _ (by rfl) (zrOf (by rfl)) ?_; intro py w1 hS1; clear hS; have hS := hS1; clear hS1; rw [cells_agg] at hS)
        | (refine toList (by rfl) ?_; refine stW hS _ _ _ (by rfl) (by rfl) (nv ⟨y1, y2, y3, y4, y5, y6⟩) (by rfl) (nv_all _) (szOf (by rfl)) Has.z rfl ?_; intro w1 hS1; clear hS; have hS := hS1; clear hS1; dsimp only [List.set_cons_zero] at hS)
        | (refine toList (by rfl) ?_; refine ld hS _ _ (by rfl) _ _ (by rfl) (agOf (by rfl)) (by first | exact Has.z | exact Has.s Has.z | exact Has.s (Has.s Has.z) | exact Has.s (Has.s (Has.s Has.z)) | exact Has.s (Has.s (Has.s (Has.s Has.z))) | exact Has.s (Has.s (Has.s (Has.s (Has.s Has.z))))) (by rfl) ?_))
      go_ret2
      exact ⟨rfl, IsK.mk HKN.out hS.drop⟩
    have d2 : decide (8 ≤ s) = false := decide_eq_false h2
    have hbad : K.setBad m s = false := by unfold KD.setBad; rw [hb, d1, d2]; rfl
    have HNX := Lib.hid (fun w (L : List Asrt) (h : Sat W w (IsK p g K :: IsG g K.G :: L)) => knext_any h HK.out (by omega) m)
    by_cases h0 : K.nextE m = 0
    · have HOK1 := Lib.hid (hK.next (by omega) m)
      obtain ⟨hop, hI, hlt⟩ := flow_open2 hK hb h0
      obtain ⟨t, rfl⟩ := Int.eq_ofNat_of_zero_le (show 0 ≤ s by omega)
      have ht : t < 8 := by omega
      have hr1 := HOK1.out.r
      have HF := Lib.hid (show K.setI m t = K.G.N.length ∧ K.setE m t = 0 ∧ K.set false m t = ⟨(K.next m).G.markG K.G.N.length t, (K.next m).R ++ [⟨3, K.G.N.length, t⟩]⟩ by
        unfold KD.setI KD.setE KD.set; rw [hbad, h0, hI]; exact ⟨rfl, rfl, rfl⟩)
      rw [HF.out.1, HF.out.2.1, HF.out.2.2]
      rw [h0, hI] at HNX
      rw [hI, Gr.downsI_nat hlt] at hop
      obtain ⟨K1, hK1⟩ : ∃ K1, K.next m = K1 := ⟨_, rfl⟩
      rw [hK1] at HNX HOK1 hop hlt hr1 ⊢
      have hbit : bitE K1.G (K.G.N.length : Int) (t : Int) = 0 := by unfold bitE; rw [bitOk_yes hlt ht]; rfl
      have HM := Lib.hid (fun w (L : List Asrt) (h : Sat W w (IsG g K1.G :: L)) => by have := mark_any h (K.G.N.length : Int) (t : Int) HOK1.out.g.marks; rw [hbit] at this; exact this)
      have HKW := Lib.hid (fun f (h : KW f K1.G) => KW.mark h HOK1.out.g hlt ht hop)
      have HT := Lib.hid ht
      obtain ⟨c, f, v, hkn, hS⟩ := IsK.open hS
      have HKN := Lib.hid hkn
      clear hkn hy hb hbad hK h0 hop hI hlt hK1 hbit ht h1 h2
      go_enter Try.func87, Try.ntmps87
      go_wp2_with (first
        | (go_at_call 14; refine (HB.out _ _ (hS.re [1])).mono ?_; rintro e w1 ⟨rfl, hS1⟩; clear hS; have hS := hS1; clear hS1; replace hS := hS.pull1)
        | (go_at_call 39; refine (HNX.out _ _ (IsK.mk HKN.out (hS.re [1, 2, 3, 4]))).mono ?_; rintro e w1 ⟨rfl, hS1⟩; clear hS; have hS := hS1; clear hS1; (obtain ⟨c1, f1, v1, hk1, hO⟩ := IsK.open hS; clear hS; have hS := hO; clear hO; have HK1 := Lib.hid hk1; have hs1 := HK1.out.small HOK1.out.g K.G.N.length; have HS1 := Lib.hid hs1; clear hk1 hs1))
        | (go_at_call 48; refine (HM.out _ _ (hS.re [1])).mono ?_; rintro e w1 ⟨rfl, hS1⟩; clear hS; have hS := hS1; clear hS1; replace hS := hS.pull1)
            | (go_at_call 111; refine (cmark_any (hS.re [2]) (K.G.N.length : Int) t HT.out HS1.out.1 HS1.out.2).mono ?_; rintro e w1 ⟨rfl, hS1⟩; clear hS; have hS := hS1; clear hS1; replace hS := hS.re [1, 3, 2, 0])
            | (go_at_call 73; refine (says_any hS (by omega) 3 (K.G.N.length : Int) (t : Int)).mono ?_; rintro e w1 ⟨rfl, v', hS1⟩; clear hS; have hS := hS1; clear hS1)
        | (refine toList (by rfl) ?_; refine al hS _ (by rfl) (zrOf (by rfl)) ?_; intro py w1 hS1; clear hS; have hS := hS1; clear hS1; rw [cells_agg] at hS)
        | (refine toList (by rfl) ?_; refine stW hS _ _ _ (by rfl) (by rfl) (nv ⟨y1, y2, y3, y4, y5, y6⟩) (by rfl) (nv_all _) (szOf (by rfl)) Has.z rfl ?_; intro w1 hS1; clear hS; have hS := hS1; clear hS1; dsimp only [List.set_cons_zero] at hS)
        | (refine toList (by rfl) ?_; refine ld hS _ _ (by rfl) _ _ (by rfl) (agOf (by rfl)) (by first | exact Has.z | exact Has.s Has.z | exact Has.s (Has.s Has.z) | exact Has.s (Has.s (Has.s Has.z)) | exact Has.s (Has.s (Has.s (Has.s Has.z))) | exact Has.s (Has.s (Has.s (Has.s (Has.s Has.z))))) (by rfl) ?_))
      go_ret2
      have h9 := IsK.mk (K := ⟨K1.G.markG K.G.N.length t, K1.R ++ [⟨3, K.G.N.length, t⟩]⟩) (HKW.out _ HK1.out) (hS.re [0, 2, 3, 1])
      exact ⟨rfl, h9.pull2.drop⟩
    · obtain ⟨E, hE⟩ : ∃ E, K.nextE m = E := ⟨_, rfl⟩
      have HF := Lib.hid (show K.setI m s = 0 ∧ K.setE m s = E ∧ K.set false m s = K by unfold KD.setI KD.setE KD.set; rw [hbad, if_neg h0, if_neg h0, hE]; exact ⟨rfl, rfl, rfl⟩)
      have HX := Lib.hid (show K.next m = K by unfold KD.next; rw [if_neg h0])
      rw [hE] at h0
      have e1 : (E != 0) = true := by simp [h0]
      rw [HF.out.1, HF.out.2.1, HF.out.2.2]
      rw [hE, HX.out] at HNX
      obtain ⟨I, hI⟩ : ∃ I, K.nextI m = I := ⟨_, rfl⟩
      rw [hI] at HNX
      obtain ⟨c, f, v, hkn, hS⟩ := IsK.open hS
      have HKN := Lib.hid hkn
      clear hkn hy hb hbad hK h0 hE hI h1 h2
      go_enter Try.func87, Try.ntmps87
      go_wp2_with (first
        | (go_at_call 14; refine (HB.out _ _ (hS.re [1])).mono ?_; rintro e w1 ⟨rfl, hS1⟩; clear hS; have hS := hS1; clear hS1; replace hS := hS.pull1)
        | (go_at_call 39; refine (HNX.out _ _ (IsK.mk HKN.out (hS.re [1, 2, 3, 4]))).mono ?_; rintro e w1 ⟨rfl, hS1⟩; clear hS; have hS := hS1; clear hS1; skip)
        
        | (refine toList (by rfl) ?_; refine al hS _ (by rfl) (zrOf (by rfl)) ?_; intro py w1 hS1; clear hS; have hS := hS1; clear hS1; rw [cells_agg] at hS)
        | (refine toList (by rfl) ?_; refine stW hS _ _ _ (by rfl) (by rfl) (nv ⟨y1, y2, y3, y4, y5, y6⟩) (by rfl) (nv_all _) (szOf (by rfl)) Has.z rfl ?_; intro w1 hS1; clear hS; have hS := hS1; clear hS1; dsimp only [List.set_cons_zero] at hS)
        | (refine toList (by rfl) ?_; refine ld hS _ _ (by rfl) _ _ (by rfl) (agOf (by rfl)) (by first | exact Has.z | exact Has.s Has.z | exact Has.s (Has.s Has.z) | exact Has.s (Has.s (Has.s Has.z)) | exact Has.s (Has.s (Has.s (Has.s Has.z))) | exact Has.s (Has.s (Has.s (Has.s (Has.s Has.z))))) (by rfl) ?_))
      go_ret2
      exact ⟨rfl, hS.pull2.drop⟩
set_option maxRecDepth 20000 in
set_option maxHeartbeats 4000000 in
theorem kclear_any {W w : World} {L : List Asrt} {p g n : Nat} {K : KD} (hS : Sat W w (IsK p g K :: IsG g K.G :: L)) (hK : K.Ok n) (hn : n ≤ 700000) (m s : Int) :
    Calls Try.prog 87 #[.pointer (some ⟨p, 0, none⟩), .int .i64 m, .int .i64 s, .int .i64 4] w fun e w' => e = .returned (.tuple #[.int .i64 (K.setI m s), .int .i64 (K.setE m s)]) ∧ Sat W w' (IsK p g (K.set true m s) :: IsG g (K.set true m s).G :: L) := by
  have HK := Lib.hid hK
  obtain ⟨⟨y1, y2, y3, y4, y5, y6⟩, hy⟩ : ∃ x, K.G.nodeI m = x := ⟨_, rfl⟩
  cases hb : K.G.is m with
  | false =>
    have HB := Lib.hid (fun w (L : List Asrt) (h : Sat W w (IsG g K.G :: L)) => by have := node_any h m; rw [hy, hb] at this; exact this)
    have hbad : K.setBad m s = true := by unfold KD.setBad; rw [hb]; rfl
    have HF := Lib.hid (show K.setI m s = 0 ∧ K.setE m s = 1 ∧ K.set true m s = K by unfold KD.setI KD.setE KD.set; rw [hbad]; exact ⟨rfl, rfl, rfl⟩)
    rw [HF.out.1, HF.out.2.1, HF.out.2.2]
    have HNX := 0
    obtain ⟨c, f, v, hkn, hS⟩ := IsK.open hS
    have HKN := Lib.hid hkn
    clear hkn hy hb hbad hK
    go_enter Try.func87, Try.ntmps87
    go_wp2_with (first
      | (go_at_call 14; refine (HB.out _ _ (hS.re [1])).mono ?_; rintro e w1 ⟨rfl, hS1⟩; clear hS; have hS := hS1; clear hS1; replace hS := hS.pull1)
      | (go_at_call 39; refine (HNX.out _ _ (IsK.mk HKN.out (hS.re [1, 2, 3, 4]))).mono ?_; rintro e w1 ⟨rfl, hS1⟩; clear hS; have hS := hS1; clear hS1; skip)
      
      | (refine toList (by rfl) ?_; refine al hS _ (by rfl) (zrOf (by rfl)) ?_; intro py w1 hS1; clear hS; have hS := hS1; clear hS1; rw [cells_agg] at hS)
      | (refine toList (by rfl) ?_; refine stW hS _ _ _ (by rfl) (by rfl) (nv ⟨y1, y2, y3, y4, y5, y6⟩) (by rfl) (nv_all _) (szOf (by rfl)) Has.z rfl ?_; intro w1 hS1; clear hS; have hS := hS1; clear hS1; dsimp only [List.set_cons_zero] at hS)
      | (refine toList (by rfl) ?_; refine ld hS _ _ (by rfl) _ _ (by rfl) (agOf (by rfl)) (by first | exact Has.z | exact Has.s Has.z | exact Has.s (Has.s Has.z) | exact Has.s (Has.s (Has.s Has.z)) | exact Has.s (Has.s (Has.s (Has.s Has.z))) | exact Has.s (Has.s (Has.s (Has.s (Has.s Has.z))))) (by rfl) ?_))
    go_ret2
    exact ⟨rfl, IsK.mk HKN.out hS.drop⟩
  | true =>
    have HB := Lib.hid (fun w (L : List Asrt) (h : Sat W w (IsG g K.G :: L)) => by have := node_any h m; rw [hy, hb] at this; exact this)
    by_cases h1 : s < 0
    · have hbad : K.setBad m s = true := by unfold KD.setBad; rw [hb, decide_eq_true h1]; rfl
      have HF := Lib.hid (show K.setI m s = 0 ∧ K.setE m s = 1 ∧ K.set true m s = K by unfold KD.setI KD.setE KD.set; rw [hbad]; exact ⟨rfl, rfl, rfl⟩)
      rw [HF.out.1, HF.out.2.1, HF.out.2.2]
      have d1 : decide (s < 0) = true := decide_eq_true h1
      have HNX := 0
      obtain ⟨c, f, v, hkn, hS⟩ := IsK.open hS
      have HKN := Lib.hid hkn
      clear hkn hy hb hbad hK
      go_enter Try.func87, Try.ntmps87
      go_wp2_with (first
        | (go_at_call 14; refine (HB.out _ _ (hS.re [1])).mono ?_; rintro e w1 ⟨rfl, hS1⟩; clear hS; have hS := hS1; clear hS1; replace hS := hS.pull1)
        | (go_at_call 39; refine (HNX.out _ _ (IsK.mk HKN.out (hS.re [1, 2, 3, 4]))).mono ?_; rintro e w1 ⟨rfl, hS1⟩; clear hS; have hS := hS1; clear hS1; skip)
        
        | (refine toList (by rfl) ?_; refine al hS _ (by rfl) (zrOf (by rfl)) ?_; intro py w1 hS1; clear hS; have hS := hS1; clear hS1; rw [cells_agg] at hS)
        | (refine toList (by rfl) ?_; refine stW hS _ _ _ (by rfl) (by rfl) (nv ⟨y1, y2, y3, y4, y5, y6⟩) (by rfl) (nv_all _) (szOf (by rfl)) Has.z rfl ?_; intro w1 hS1; clear hS; have hS := hS1; clear hS1; dsimp only [List.set_cons_zero] at hS)
        | (refine toList (by rfl) ?_; refine ld hS _ _ (by rfl) _ _ (by rfl) (agOf (by rfl)) (by first | exact Has.z | exact Has.s Has.z | exact Has.s (Has.s Has.z) | exact Has.s (Has.s (Has.s Has.z)) | exact Has.s (Has.s (Has.s (Has.s Has.z))) | exact Has.s (Has.s (Has.s (Has.s (Has.s Has.z))))) (by rfl) ?_))
      go_ret2
      exact ⟨rfl, IsK.mk HKN.out hS.drop⟩
    have d1 : decide (s < 0) = false := decide_eq_false h1
    by_cases h2 : 8 ≤ s
    · have hbad : K.setBad m s = true := by unfold KD.setBad; rw [hb, decide_eq_true h2]; simp
      have HF := Lib.hid (show K.setI m s = 0 ∧ K.setE m s = 1 ∧ K.set true m s = K by unfold KD.setI KD.setE KD.set; rw [hbad]; exact ⟨rfl, rfl, rfl⟩)
      rw [HF.out.1, HF.out.2.1, HF.out.2.2]
      have d2 : decide (8 ≤ s) = true := decide_eq_true h2
      have HNX := 0
      obtain ⟨c, f, v, hkn, hS⟩ := IsK.open hS
      have HKN := Lib.hid hkn
      clear hkn hy hb hbad hK
      go_enter Try.func87, Try.ntmps87
      go_wp2_with (first
        | (go_at_call 14; refine (HB.out _ _ (hS.re [1])).mono ?_; rintro e w1 ⟨rfl, hS1⟩; clear hS; have hS := hS1; clear hS1; replace hS := hS.pull1)
        | (go_at_call 39; refine (HNX.out _ _ (IsK.mk HKN.out (hS.re [1, 2, 3, 4]))).mono ?_; rintro e w1 ⟨rfl, hS1⟩; clear hS; have hS := hS1; clear hS1; skip)
        
        | (refine toList (by rfl) ?_; refine al hS _ (by rfl) (zrOf (by rfl)) ?_; intro py w1 hS1; clear hS; have hS := hS1; clear hS1; rw [cells_agg] at hS)
        | (refine toList (by rfl) ?_; refine stW hS _ _ _ (by rfl) (by rfl) (nv ⟨y1, y2, y3, y4, y5, y6⟩) (by rfl) (nv_all _) (szOf (by rfl)) Has.z rfl ?_; intro w1 hS1; clear hS; have hS := hS1; clear hS1; dsimp only [List.set_cons_zero] at hS)
        | (refine toList (by rfl) ?_; refine ld hS _ _ (by rfl) _ _ (by rfl) (agOf (by rfl)) (by first | exact Has.z | exact Has.s Has.z | exact Has.s (Has.s Has.z) | exact Has.s (Has.s (Has.s Has.z)) | exact Has.s (Has.s (Has.s (Has.s Has.z))) | exact Has.s (Has.s (Has.s (Has.s (Has.s Has.z))))) (by rfl) ?_))
      go_ret2
      exact ⟨rfl, IsK.mk HKN.out hS.drop⟩
    have d2 : decide (8 ≤ s) = false := decide_eq_false h2
    have hbad : K.setBad m s = false := by unfold KD.setBad; rw [hb, d1, d2]; rfl
    have HNX := Lib.hid (fun w (L : List Asrt) (h : Sat W w (IsK p g K :: IsG g K.G :: L)) => knext_any h HK.out (by omega) m)
    by_cases h0 : K.nextE m = 0
    · have HOK1 := Lib.hid (hK.next (by omega) m)
      obtain ⟨hop, hI, hlt⟩ := flow_open2 hK hb h0
      obtain ⟨t, rfl⟩ := Int.eq_ofNat_of_zero_le (show 0 ≤ s by omega)
      have ht : t < 8 := by omega
      have hr1 := HOK1.out.r
      have HF := Lib.hid (show K.setI m t = K.G.N.length ∧ K.setE m t = 0 ∧ K.set true m t = ⟨(K.next m).G.clearG K.G.N.length t, (K.next m).R ++ [⟨4, K.G.N.length, t⟩]⟩ by
        unfold KD.setI KD.setE KD.set; rw [hbad, h0, hI]; exact ⟨rfl, rfl, rfl⟩)
      rw [HF.out.1, HF.out.2.1, HF.out.2.2]
      rw [h0, hI] at HNX
      rw [hI, Gr.downsI_nat hlt] at hop
      obtain ⟨K1, hK1⟩ : ∃ K1, K.next m = K1 := ⟨_, rfl⟩
      rw [hK1] at HNX HOK1 hop hlt hr1 ⊢
      have hbit : bitE K1.G (K.G.N.length : Int) (t : Int) = 0 := by unfold bitE; rw [bitOk_yes hlt ht]; rfl
      have HM := Lib.hid (fun w (L : List Asrt) (h : Sat W w (IsG g K1.G :: L)) => by have := clear_any h (K.G.N.length : Int) (t : Int) HOK1.out.g.marks; rw [hbit] at this; exact this)
      have HKW := Lib.hid (fun f (h : KW f K1.G) => KW.clear h HOK1.out.g hlt ht hop)
      have HT := Lib.hid ht
      obtain ⟨c, f, v, hkn, hS⟩ := IsK.open hS
      have HKN := Lib.hid hkn
      clear hkn hy hb hbad hK h0 hop hI hlt hK1 hbit ht h1 h2
      go_enter Try.func87, Try.ntmps87
      go_wp2_with (first
        | (go_at_call 14; refine (HB.out _ _ (hS.re [1])).mono ?_; rintro e w1 ⟨rfl, hS1⟩; clear hS; have hS := hS1; clear hS1; replace hS := hS.pull1)
        | (go_at_call 39; refine (HNX.out _ _ (IsK.mk HKN.out (hS.re [1, 2, 3, 4]))).mono ?_; rintro e w1 ⟨rfl, hS1⟩; clear hS; have hS := hS1; clear hS1; (obtain ⟨c1, f1, v1, hk1, hO⟩ := IsK.open hS; clear hS; have hS := hO; clear hO; have HK1 := Lib.hid hk1; have hs1 := HK1.out.small HOK1.out.g K.G.N.length; have HS1 := Lib.hid hs1; clear hk1 hs1))
        | (go_at_call 49; refine (HM.out _ _ (hS.re [1])).mono ?_; rintro e w1 ⟨rfl, hS1⟩; clear hS; have hS := hS1; clear hS1; replace hS := hS.pull1)
            | (go_at_call 112; refine (cclear_any (hS.re [2]) (K.G.N.length : Int) t HT.out HS1.out.1 HS1.out.2).mono ?_; rintro e w1 ⟨rfl, hS1⟩; clear hS; have hS := hS1; clear hS1; replace hS := hS.re [1, 3, 2, 0])
            | (go_at_call 73; refine (says_any hS (by omega) 4 (K.G.N.length : Int) (t : Int)).mono ?_; rintro e w1 ⟨rfl, v', hS1⟩; clear hS; have hS := hS1; clear hS1)
        | (refine toList (by rfl) ?_; refine al hS _ (by rfl) (zrOf (by rfl)) ?_; intro py w1 hS1; clear hS; have hS := hS1; clear hS1; rw [cells_agg] at hS)
        | (refine toList (by rfl) ?_; refine stW hS _ _ _ (by rfl) (by rfl) (nv ⟨y1, y2, y3, y4, y5, y6⟩) (by rfl) (nv_all _) (szOf (by rfl)) Has.z rfl ?_; intro w1 hS1; clear hS; have hS := hS1; clear hS1; dsimp only [List.set_cons_zero] at hS)
        | (refine toList (by rfl) ?_; refine ld hS _ _ (by rfl) _ _ (by rfl) (agOf (by rfl)) (by first | exact Has.z | exact Has.s Has.z | exact Has.s (Has.s Has.z) | exact Has.s (Has.s (Has.s Has.z)) | exact Has.s (Has.s (Has.s (Has.s Has.z))) | exact Has.s (Has.s (Has.s (Has.s (Has.s Has.z))))) (by rfl) ?_))
      go_ret2
      have h9 := IsK.mk (K := ⟨K1.G.clearG K.G.N.length t, K1.R ++ [⟨4, K.G.N.length, t⟩]⟩) (HKW.out _ HK1.out) (hS.re [0, 2, 3, 1])
      exact ⟨rfl, h9.pull2.drop⟩
    · obtain ⟨E, hE⟩ : ∃ E, K.nextE m = E := ⟨_, rfl⟩
      have HF := Lib.hid (show K.setI m s = 0 ∧ K.setE m s = E ∧ K.set true m s = K by unfold KD.setI KD.setE KD.set; rw [hbad, if_neg h0, if_neg h0, hE]; exact ⟨rfl, rfl, rfl⟩)
      have HX := Lib.hid (show K.next m = K by unfold KD.next; rw [if_neg h0])
      rw [hE] at h0
      have e1 : (E != 0) = true := by simp [h0]
      rw [HF.out.1, HF.out.2.1, HF.out.2.2]
      rw [hE, HX.out] at HNX
      obtain ⟨I, hI⟩ : ∃ I, K.nextI m = I := ⟨_, rfl⟩
      rw [hI] at HNX
      obtain ⟨c, f, v, hkn, hS⟩ := IsK.open hS
      have HKN := Lib.hid hkn
      clear hkn hy hb hbad hK h0 hE hI h1 h2
      go_enter Try.func87, Try.ntmps87
      go_wp2_with (first
        | (go_at_call 14; refine (HB.out _ _ (hS.re [1])).mono ?_; rintro e w1 ⟨rfl, hS1⟩; clear hS; have hS := hS1; clear hS1; replace hS := hS.pull1)
        | (go_at_call 39; refine (HNX.out _ _ (IsK.mk HKN.out (hS.re [1, 2, 3, 4]))).mono ?_; rintro e w1 ⟨rfl, hS1⟩; clear hS; have hS := hS1; clear hS1; skip)
        
        | (refine toList (by rfl) ?_; refine al hS _ (by rfl) (zrOf (by rfl)) ?_; intro py w1 hS1; clear hS; have hS := hS1; clear hS1; rw [cells_agg] at hS)
        | (refine toList (by rfl) ?_; refine stW hS _ _ _ (by rfl) (by rfl) (nv ⟨y1, y2, y3, y4, y5, y6⟩) (by rfl) (nv_all _) (szOf (by rfl)) Has.z rfl ?_; intro w1 hS1; clear hS; have hS := hS1; clear hS1; dsimp only [List.set_cons_zero] at hS)
        | (refine toList (by rfl) ?_; refine ld hS _ _ (by rfl) _ _ (by rfl) (agOf (by rfl)) (by first | exact Has.z | exact Has.s Has.z | exact Has.s (Has.s Has.z) | exact Has.s (Has.s (Has.s Has.z)) | exact Has.s (Has.s (Has.s (Has.s Has.z))) | exact Has.s (Has.s (Has.s (Has.s (Has.s Has.z))))) (by rfl) ?_))
      go_ret2
      exact ⟨rfl, hS.pull2.drop⟩
theorem ksource_any {W w : World} {L : List Asrt} {p g n : Nat} {K : KD} (hS : Sat W w (IsK p g K :: IsG g K.G :: L)) (hK : K.Ok n) (hn : n ≤ 700000) (m s : Int) :
    Calls Try.prog 60 #[.pointer (some ⟨p, 0, none⟩), .int .i64 m, .int .i64 s] w fun e w' => e = .returned (.tuple #[.int .i64 (K.setI m s), .int .i64 (K.setE m s)]) ∧ Sat W w' (IsK p g (K.set false m s) :: IsG g (K.set false m s).G :: L) := by
  obtain ⟨E, hE⟩ : ∃ E, K.setE m s = E := ⟨_, rfl⟩
  obtain ⟨I, hI⟩ : ∃ I, K.setI m s = I := ⟨_, rfl⟩
  obtain ⟨K2, hK2⟩ : ∃ K2, K.set false m s = K2 := ⟨_, rfl⟩
  have HN := Lib.hid (fun w (L : List Asrt) (h : Sat W w (IsK p g K :: IsG g K.G :: L)) => kmark_any h hK hn m s)
  rw [hE, hI, hK2] at HN
  rw [hE, hI, hK2]
  clear hE hI hK2
  go_enter Try.func60, Try.ntmps60
  go_wp2_with (first
    | (go_at_call 87; refine (HN.out _ _ hS).mono ?_; rintro e w1 ⟨rfl, hS1⟩; clear hS; have hS := hS1; clear hS1))
  go_ret2
  exact ⟨rfl, hS⟩
theorem kdeclass_any {W w : World} {L : List Asrt} {p g n : Nat} {K : KD} (hS : Sat W w (IsK p g K :: IsG g K.G :: L)) (hK : K.Ok n) (hn : n ≤ 700000) (m s : Int) :
    Calls Try.prog 62 #[.pointer (some ⟨p, 0, none⟩), .int .i64 m, .int .i64 s] w fun e w' => e = .returned (.tuple #[.int .i64 (K.setI m s), .int .i64 (K.setE m s)]) ∧ Sat W w' (IsK p g (K.set true m s) :: IsG g (K.set true m s).G :: L) := by
  obtain ⟨E, hE⟩ : ∃ E, K.setE m s = E := ⟨_, rfl⟩
  obtain ⟨I, hI⟩ : ∃ I, K.setI m s = I := ⟨_, rfl⟩
  obtain ⟨K2, hK2⟩ : ∃ K2, K.set true m s = K2 := ⟨_, rfl⟩
  have HN := Lib.hid (fun w (L : List Asrt) (h : Sat W w (IsK p g K :: IsG g K.G :: L)) => kclear_any h hK hn m s)
  rw [hE, hI, hK2] at HN
  rw [hE, hI, hK2]
  clear hE hI hK2
  go_enter Try.func62, Try.ntmps62
  go_wp2_with (first
    | (go_at_call 87; refine (HN.out _ _ hS).mono ?_; rintro e w1 ⟨rfl, hS1⟩; clear hS; have hS := hS1; clear hS1))
  go_ret2
  exact ⟨rfl, hS⟩
end Go.Proofs.Ytapodjhkpahdnaa
