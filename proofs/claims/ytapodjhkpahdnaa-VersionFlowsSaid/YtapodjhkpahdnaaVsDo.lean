/-
  Versions: Set (the document's), Need (the keeper's).
-/
import Derived.Test.YtapodjhkpahdnaaVsMore
import Derived.Test.YtapodjhkpahdnaaVsRef2
import Derived.Test.YtapodjhkpahdnaaRecSameR
import Derived.Test.YtapodjhkpahdnaaGrAwake
namespace Go.Proofs.Ytapodjhkpahdnaa
open Go.RowKit Go.Sep
set_option linter.unusedSimpArgs false
set_option linter.unusedVariables false
attribute [local irreducible] Go.Oper.wp Go.wpList Go.Calls Go.Code.wp Go.Sep.Reg
attribute [local irreducible] IsG IsK IsQ IsR
set_option maxRecDepth 20000 in
set_option maxHeartbeats 4000000 in
theorem qmark_any {W w : World} {L : List Asrt} {q h n : Nat} {K : KD} (hS : Sat W w (IsQ q h K :: IsR h K.G :: L)) (hK : K.Ok n) (hn : n ≤ 700000) (m s : Int) :
    Calls Try.prog 61 #[.pointer (some ⟨q, 0, none⟩), .int .i64 m, .int .i64 s, .bool false] w fun e w' => e = .returned (.tuple #[.int .i64 (K.setI m s), .int .i64 (K.setE m s)]) ∧ Sat W w' (IsQ q h (K.set false m s) :: IsR h (K.set false m s).G :: L) := by
  have HK := Lib.hid hK
  obtain ⟨bb, hb⟩ : ∃ bb, K.G.is m = bb := ⟨_, rfl⟩
  have HIS := Lib.hid (fun w (L : List Asrt) (h2 : Sat W w (IsR h K.G :: L)) => is_any h2 m hb)
  cases hbad : K.setBad m s with
  | true =>
    have HF := Lib.hid (show K.setI m s = 0 ∧ K.setE m s = 1 ∧ K.set false m s = K by unfold KD.setI KD.setE KD.set; rw [hbad]; exact ⟨rfl, rfl, rfl⟩)
    rw [HF.out.1, HF.out.2.1, HF.out.2.2]
    obtain ⟨d1, hd1⟩ : ∃ d, decide (s < 0) = d := ⟨_, rfl⟩
    obtain ⟨d2, hd2⟩ : ∃ d, decide (8 ≤ s) = d := ⟨_, rfl⟩
    unfold KD.setBad at hbad
    rw [hb, hd1, hd2] at hbad
    obtain ⟨v, hO⟩ := IsQ.open hS
    clear hS
    have hS := hO
    clear hO hb hK
    cases bb <;> cases d1 <;> cases d2 <;> (try (cases hbad; done)) <;> clear hbad
    all_goals
      go_enter Try.func61, Try.ntmps61
      go_wp2_with (first
        | (go_at_call 80; refine (HIS.out _ _ (hS.re [1])).mono ?_; rintro e w1 ⟨rfl, rfl⟩)
        | (refine toList (by rfl) ?_; refine ld hS _ _ (by rfl) _ _ (by rfl) (agOf (by rfl)) (by first | exact Has.z | exact Has.s Has.z | exact Has.s (Has.s Has.z) | exact Has.s (Has.s (Has.s Has.z)) | exact Has.s (Has.s (Has.s (Has.s Has.z))) | exact Has.s (Has.s (Has.s (Has.s (Has.s Has.z))))) (by rfl) ?_))
      go_ret2
      exact ⟨rfl, IsQ.mk hS⟩
  | false =>
    have hbad2 := hbad
    unfold KD.setBad at hbad2
    simp only [Bool.or_eq_false_iff, Bool.not_eq_false', decide_eq_false_iff_not] at hbad2
    obtain ⟨⟨ib, h1⟩, h2⟩ := hbad2
    obtain rfl : bb = true := by rw [← hb, ib]
    have d1 : decide (s < 0) = false := decide_eq_false h1
    have d2 : decide (8 ≤ s) = false := decide_eq_false h2
    have HNX := Lib.hid (fun w (L : List Asrt) (h2 : Sat W w (IsQ q h K :: IsR h K.G :: L)) => qopened_any h2 HK.out (by omega) ib)
    by_cases h0 : K.nextE m = 0
    · have HOK1 := Lib.hid (hK.next (by omega) m)
      obtain ⟨hop, hI, hlt⟩ := flow_open2 hK ib h0
      obtain ⟨t, rfl⟩ := Int.eq_ofNat_of_zero_le (show 0 ≤ s by omega)
      have ht : t < 8 := by omega
      have hr1 := HOK1.out.r
      have HF := Lib.hid (show K.setI m t = K.G.N.length ∧ K.setE m t = 0 ∧ K.set false m t = ⟨(K.next m).G.markG K.G.N.length t, (K.next m).R ++ [⟨3, K.G.N.length, t⟩]⟩ by
        unfold KD.setI KD.setE KD.set; rw [hbad, h0, hI]; exact ⟨rfl, rfl, rfl⟩)
      rw [HF.out.1, HF.out.2.1, HF.out.2.2]
      rw [h0, hI] at HNX
      obtain ⟨K1, hK1⟩ : ∃ K1, K.next m = K1 := ⟨_, rfl⟩
      rw [hK1] at HNX HOK1 hlt hr1 ⊢
      have hbit : bitE K1.G (K.G.N.length : Int) (t : Int) = 0 := by unfold bitE; rw [bitOk_yes hlt ht]; rfl
      have HM := Lib.hid (fun w (L : List Asrt) (h2 : Sat W w (IsR h K1.G :: L)) => by have := rmark_any h2 (K.G.N.length : Int) (t : Int) HOK1.out.g.marks; rw [hbit] at this; exact this)
      obtain ⟨v, hO⟩ := IsQ.open hS
      clear hS
      have hS := hO
      clear hO hb hbad hK h0 hop hI hlt hK1 hbit ht h1 h2 ib
      go_enter Try.func61, Try.ntmps61
      go_wp2_with (first
        | (go_at_call 80; refine (HIS.out _ _ (hS.re [1])).mono ?_; rintro e w1 ⟨rfl, rfl⟩)
        | (go_at_call 88; refine (HNX.out _ _ (IsQ.mk hS)).mono ?_; rintro e w1 ⟨rfl, hS1⟩; clear hS; have hS := hS1; clear hS1; (obtain ⟨v1, hO1⟩ := IsQ.open hS; clear hS; have hS := hO1; clear hO1))
        | (go_at_call 54; refine (HM.out _ _ (hS.re [1])).mono ?_; rintro e w1 ⟨rfl, hS1⟩; clear hS; have hS := hS1; clear hS1; replace hS := hS.re [1, 2, 0])
        | (refine toList (by rfl) ?_; refine ld hS _ _ (by rfl) _ _ (by rfl) (agOf (by rfl)) (by first | exact Has.z | exact Has.s Has.z | exact Has.s (Has.s Has.z) | exact Has.s (Has.s (Has.s Has.z)) | exact Has.s (Has.s (Has.s (Has.s Has.z))) | exact Has.s (Has.s (Has.s (Has.s (Has.s Has.z))))) (by rfl) ?_)
        | (refine toList (by rfl) ?_; refine bsF hS _ _ _ (by rfl) (elOf (by rfl)) [.agg (rv (⟨3, (K.G.N.length : Int), (t : Int)⟩ : RecD)).toArray] (by rfl) (by rfl) (by decide) (by decide) (by intro v hv; rw [List.mem_singleton.1 hv]; rfl) ?_; intro b1 w1 hS1; clear hS; have hS := hS1; clear hS1; rw [agg1] at hS)
        | (refine toList (by rfl) ?_; refine apTbS (f := rv) hS _ _ _ _ (by rfl) _ _ (by rfl) (by rfl) (elOf (by rfl)) (by rfl) (by decide) (inOf (by rfl)) (by first | exact Has.z | exact Has.s Has.z | exact Has.s (Has.s Has.z) | exact Has.s (Has.s (Has.s Has.z)) | exact Has.s (Has.s (Has.s (Has.s Has.z))) | exact Has.s (Has.s (Has.s (Has.s (Has.s Has.z))))) [(⟨3, (K.G.N.length : Int), (t : Int)⟩ : RecD)] (by exact rv_len _) (by exact hS.src1 (f := rv) Has.z rfl) (by exact rv_one _) (by simp; omega) (by simp; omega) ?_; intro ao5 c5 w1 hcap5 hS1; clear hS; have hS := hS1; clear hS1; dsimp only [List.set_cons_zero, List.set_cons_succ] at hS)
        | (refine toList (by rfl) ?_; refine st hS _ _ _ (by rfl) _ _ (by rfl) _ (by first | exact evC | exact evT (by rfl)) (by rfl) (szOf (by rfl)) (by first | exact Has.z | exact Has.s Has.z | exact Has.s (Has.s Has.z) | exact Has.s (Has.s (Has.s Has.z)) | exact Has.s (Has.s (Has.s (Has.s Has.z))) | exact Has.s (Has.s (Has.s (Has.s (Has.s Has.z))))) (by exact Nat.le_of_ble_eq_true rfl) ?_; intro w1 hS1; clear hS; have hS := hS1; clear hS1; dsimp only [List.set] at hS))
      go_ret2
      have h9 := hS.drop
      rw [List.length_append] at h9
      exact ⟨rfl, IsQ.mk (K := ⟨K1.G.markG K.G.N.length t, K1.R ++ [⟨3, K.G.N.length, t⟩]⟩) (by first | exact h9.re [0, 2, 1] | exact h9)⟩
    · obtain ⟨E, hE⟩ : ∃ E, K.nextE m = E := ⟨_, rfl⟩
      have HF := Lib.hid (show K.setI m s = 0 ∧ K.setE m s = E ∧ K.set false m s = K by unfold KD.setI KD.setE KD.set; rw [hbad, if_neg h0, if_neg h0, hE]; exact ⟨rfl, rfl, rfl⟩)
      have HX := Lib.hid (show K.next m = K by unfold KD.next; rw [if_neg h0])
      rw [hE] at h0
      have e1 : (E != 0) = true := by simp [h0]
      rw [HF.out.1, HF.out.2.1, HF.out.2.2]
      rw [hE, HX.out] at HNX
      obtain ⟨I, hI⟩ : ∃ I, K.nextI m = I := ⟨_, rfl⟩
      rw [hI] at HNX
      obtain ⟨v, hO⟩ := IsQ.open hS
      clear hS
      have hS := hO
      clear hO hb hbad hK h0 hE hI h1 h2 ib
      go_enter Try.func61, Try.ntmps61
      go_wp2_with (first
        | (go_at_call 80; refine (HIS.out _ _ (hS.re [1])).mono ?_; rintro e w1 ⟨rfl, rfl⟩)
        | (go_at_call 88; refine (HNX.out _ _ (IsQ.mk hS)).mono ?_; rintro e w1 ⟨rfl, hS1⟩; clear hS; have hS := hS1; clear hS1)
        | (refine toList (by rfl) ?_; refine ld hS _ _ (by rfl) _ _ (by rfl) (agOf (by rfl)) (by first | exact Has.z | exact Has.s Has.z | exact Has.s (Has.s Has.z) | exact Has.s (Has.s (Has.s Has.z)) | exact Has.s (Has.s (Has.s (Has.s Has.z))) | exact Has.s (Has.s (Has.s (Has.s (Has.s Has.z))))) (by rfl) ?_))
      go_ret2
      exact ⟨rfl, hS⟩
set_option maxRecDepth 20000 in
set_option maxHeartbeats 4000000 in
theorem qclear_any {W w : World} {L : List Asrt} {q h n : Nat} {K : KD} (hS : Sat W w (IsQ q h K :: IsR h K.G :: L)) (hK : K.Ok n) (hn : n ≤ 700000) (m s : Int) :
    Calls Try.prog 61 #[.pointer (some ⟨q, 0, none⟩), .int .i64 m, .int .i64 s, .bool true] w fun e w' => e = .returned (.tuple #[.int .i64 (K.setI m s), .int .i64 (K.setE m s)]) ∧ Sat W w' (IsQ q h (K.set true m s) :: IsR h (K.set true m s).G :: L) := by
  have HK := Lib.hid hK
  obtain ⟨bb, hb⟩ : ∃ bb, K.G.is m = bb := ⟨_, rfl⟩
  have HIS := Lib.hid (fun w (L : List Asrt) (h2 : Sat W w (IsR h K.G :: L)) => is_any h2 m hb)
  cases hbad : K.setBad m s with
  | true =>
    have HF := Lib.hid (show K.setI m s = 0 ∧ K.setE m s = 1 ∧ K.set true m s = K by unfold KD.setI KD.setE KD.set; rw [hbad]; exact ⟨rfl, rfl, rfl⟩)
    rw [HF.out.1, HF.out.2.1, HF.out.2.2]
    obtain ⟨d1, hd1⟩ : ∃ d, decide (s < 0) = d := ⟨_, rfl⟩
    obtain ⟨d2, hd2⟩ : ∃ d, decide (8 ≤ s) = d := ⟨_, rfl⟩
    unfold KD.setBad at hbad
    rw [hb, hd1, hd2] at hbad
    obtain ⟨v, hO⟩ := IsQ.open hS
    clear hS
    have hS := hO
    clear hO hb hK
    cases bb <;> cases d1 <;> cases d2 <;> (try (cases hbad; done)) <;> clear hbad
    all_goals
      go_enter Try.func61, Try.ntmps61
      go_wp2_with (first
        | (go_at_call 80; refine (HIS.out _ _ (hS.re [1])).mono ?_; rintro e w1 ⟨rfl, rfl⟩)
        | (refine toList (by rfl) ?_; refine ld hS _ _ (by rfl) _ _ (by rfl) (agOf (by rfl)) (by first | exact Has.z | exact Has.s Has.z | exact Has.s (Has.s Has.z) | exact Has.s (Has.s (Has.s Has.z)) | exact Has.s (Has.s (Has.s (Has.s Has.z))) | exact Has.s (Has.s (Has.s (Has.s (Has.s Has.z))))) (by rfl) ?_))
      go_ret2
      exact ⟨rfl, IsQ.mk hS⟩
  | false =>
    have hbad2 := hbad
    unfold KD.setBad at hbad2
    simp only [Bool.or_eq_false_iff, Bool.not_eq_false', decide_eq_false_iff_not] at hbad2
    obtain ⟨⟨ib, h1⟩, h2⟩ := hbad2
    obtain rfl : bb = true := by rw [← hb, ib]
    have d1 : decide (s < 0) = false := decide_eq_false h1
    have d2 : decide (8 ≤ s) = false := decide_eq_false h2
    have HNX := Lib.hid (fun w (L : List Asrt) (h2 : Sat W w (IsQ q h K :: IsR h K.G :: L)) => qopened_any h2 HK.out (by omega) ib)
    by_cases h0 : K.nextE m = 0
    · have HOK1 := Lib.hid (hK.next (by omega) m)
      obtain ⟨hop, hI, hlt⟩ := flow_open2 hK ib h0
      obtain ⟨t, rfl⟩ := Int.eq_ofNat_of_zero_le (show 0 ≤ s by omega)
      have ht : t < 8 := by omega
      have hr1 := HOK1.out.r
      have HF := Lib.hid (show K.setI m t = K.G.N.length ∧ K.setE m t = 0 ∧ K.set true m t = ⟨(K.next m).G.clearG K.G.N.length t, (K.next m).R ++ [⟨4, K.G.N.length, t⟩]⟩ by
        unfold KD.setI KD.setE KD.set; rw [hbad, h0, hI]; exact ⟨rfl, rfl, rfl⟩)
      rw [HF.out.1, HF.out.2.1, HF.out.2.2]
      rw [h0, hI] at HNX
      obtain ⟨K1, hK1⟩ : ∃ K1, K.next m = K1 := ⟨_, rfl⟩
      rw [hK1] at HNX HOK1 hlt hr1 ⊢
      have hbit : bitE K1.G (K.G.N.length : Int) (t : Int) = 0 := by unfold bitE; rw [bitOk_yes hlt ht]; rfl
      have HM := Lib.hid (fun w (L : List Asrt) (h2 : Sat W w (IsR h K1.G :: L)) => by have := rclear_any h2 (K.G.N.length : Int) (t : Int) HOK1.out.g.marks; rw [hbit] at this; exact this)
      obtain ⟨v, hO⟩ := IsQ.open hS
      clear hS
      have hS := hO
      clear hO hb hbad hK h0 hop hI hlt hK1 hbit ht h1 h2 ib
      go_enter Try.func61, Try.ntmps61
      go_wp2_with (first
        | (go_at_call 80; refine (HIS.out _ _ (hS.re [1])).mono ?_; rintro e w1 ⟨rfl, rfl⟩)
        | (go_at_call 88; refine (HNX.out _ _ (IsQ.mk hS)).mono ?_; rintro e w1 ⟨rfl, hS1⟩; clear hS; have hS := hS1; clear hS1; (obtain ⟨v1, hO1⟩ := IsQ.open hS; clear hS; have hS := hO1; clear hO1))
        | (go_at_call 55; refine (HM.out _ _ (hS.re [1])).mono ?_; rintro e w1 ⟨rfl, hS1⟩; clear hS; have hS := hS1; clear hS1; replace hS := hS.re [1, 2, 0])
        | (refine toList (by rfl) ?_; refine ld hS _ _ (by rfl) _ _ (by rfl) (agOf (by rfl)) (by first | exact Has.z | exact Has.s Has.z | exact Has.s (Has.s Has.z) | exact Has.s (Has.s (Has.s Has.z)) | exact Has.s (Has.s (Has.s (Has.s Has.z))) | exact Has.s (Has.s (Has.s (Has.s (Has.s Has.z))))) (by rfl) ?_)
        | (refine toList (by rfl) ?_; refine bsF hS _ _ _ (by rfl) (elOf (by rfl)) [.agg (rv (⟨4, (K.G.N.length : Int), (t : Int)⟩ : RecD)).toArray] (by rfl) (by rfl) (by decide) (by decide) (by intro v hv; rw [List.mem_singleton.1 hv]; rfl) ?_; intro b1 w1 hS1; clear hS; have hS := hS1; clear hS1; rw [agg1] at hS)
        | (refine toList (by rfl) ?_; refine apTbS (f := rv) hS _ _ _ _ (by rfl) _ _ (by rfl) (by rfl) (elOf (by rfl)) (by rfl) (by decide) (inOf (by rfl)) (by first | exact Has.z | exact Has.s Has.z | exact Has.s (Has.s Has.z) | exact Has.s (Has.s (Has.s Has.z)) | exact Has.s (Has.s (Has.s (Has.s Has.z))) | exact Has.s (Has.s (Has.s (Has.s (Has.s Has.z))))) [(⟨4, (K.G.N.length : Int), (t : Int)⟩ : RecD)] (by exact rv_len _) (by exact hS.src1 (f := rv) Has.z rfl) (by exact rv_one _) (by simp; omega) (by simp; omega) ?_; intro ao5 c5 w1 hcap5 hS1; clear hS; have hS := hS1; clear hS1; dsimp only [List.set_cons_zero, List.set_cons_succ] at hS)
        | (refine toList (by rfl) ?_; refine st hS _ _ _ (by rfl) _ _ (by rfl) _ (by first | exact evC | exact evT (by rfl)) (by rfl) (szOf (by rfl)) (by first | exact Has.z | exact Has.s Has.z | exact Has.s (Has.s Has.z) | exact Has.s (Has.s (Has.s Has.z)) | exact Has.s (Has.s (Has.s (Has.s Has.z))) | exact Has.s (Has.s (Has.s (Has.s (Has.s Has.z))))) (by exact Nat.le_of_ble_eq_true rfl) ?_; intro w1 hS1; clear hS; have hS := hS1; clear hS1; dsimp only [List.set] at hS))
      go_ret2
      have h9 := hS.drop
      rw [List.length_append] at h9
      exact ⟨rfl, IsQ.mk (K := ⟨K1.G.clearG K.G.N.length t, K1.R ++ [⟨4, K.G.N.length, t⟩]⟩) (by first | exact h9.re [0, 2, 1] | exact h9)⟩
    · obtain ⟨E, hE⟩ : ∃ E, K.nextE m = E := ⟨_, rfl⟩
      have HF := Lib.hid (show K.setI m s = 0 ∧ K.setE m s = E ∧ K.set true m s = K by unfold KD.setI KD.setE KD.set; rw [hbad, if_neg h0, if_neg h0, hE]; exact ⟨rfl, rfl, rfl⟩)
      have HX := Lib.hid (show K.next m = K by unfold KD.next; rw [if_neg h0])
      rw [hE] at h0
      have e1 : (E != 0) = true := by simp [h0]
      rw [HF.out.1, HF.out.2.1, HF.out.2.2]
      rw [hE, HX.out] at HNX
      obtain ⟨I, hI⟩ : ∃ I, K.nextI m = I := ⟨_, rfl⟩
      rw [hI] at HNX
      obtain ⟨v, hO⟩ := IsQ.open hS
      clear hS
      have hS := hO
      clear hO hb hbad hK h0 hE hI h1 h2 ib
      go_enter Try.func61, Try.ntmps61
      go_wp2_with (first
        | (go_at_call 80; refine (HIS.out _ _ (hS.re [1])).mono ?_; rintro e w1 ⟨rfl, rfl⟩)
        | (go_at_call 88; refine (HNX.out _ _ (IsQ.mk hS)).mono ?_; rintro e w1 ⟨rfl, hS1⟩; clear hS; have hS := hS1; clear hS1)
        | (refine toList (by rfl) ?_; refine ld hS _ _ (by rfl) _ _ (by rfl) (agOf (by rfl)) (by first | exact Has.z | exact Has.s Has.z | exact Has.s (Has.s Has.z) | exact Has.s (Has.s (Has.s Has.z)) | exact Has.s (Has.s (Has.s (Has.s Has.z))) | exact Has.s (Has.s (Has.s (Has.s (Has.s Has.z))))) (by rfl) ?_))
      go_ret2
      exact ⟨rfl, hS⟩
set_option maxRecDepth 20000 in
set_option maxHeartbeats 1000000 in
theorem kneed_any {W w : World} {L : List Asrt} {p g n : Nat} {K : KD} (hS : Sat W w (IsK p g K :: IsG g K.G :: L)) (hK : K.Ok n) (hn : n ≤ 700000) (a b : Int) :
    Calls Try.prog 31 #[.pointer (some ⟨p, 0, none⟩), .int .i64 a, .int .i64 b] w fun e w' => e = .returned (.int .i64 (K.need a b : Nat)) ∧ Sat W w' (IsK p g K :: IsG g K.G :: L) := by
  rw [KD.need_eq hK]
  obtain ⟨bw, hbw⟩ : ∃ bw, K.wrong a b = bw := ⟨_, rfl⟩
  obtain ⟨be, hbe⟩ : ∃ be, K.ends b = be := ⟨_, rfl⟩
  have HW := Lib.hid (fun w (L : List Asrt) (h : Sat W w (IsK p g K :: IsG g K.G :: L)) => wrong_any h a b hbw)
  have HN := Lib.hid (fun w (L : List Asrt) (h : Sat W w (IsK p g K :: IsG g K.G :: L)) => ends_any h b hbe)
  have HL := Lib.hid (fun w (L : List Asrt) (h : Sat W w (IsG g K.G :: L)) => len_any h (n := (K.G.N.length : Int)) rfl)
  have hnl := hK.g.len
  rw [hbw, hbe]
  clear hbw hbe
  cases bw with
  | true =>
    go_enter Try.func31, Try.ntmps31
    go_wp2_with (first
      | (go_at_call 37; refine (HW.out _ _ hS).mono ?_; rintro e w1 ⟨rfl, hS1⟩; clear hS; have hS := hS1; clear hS1))
    go_ret
    exact ⟨rfl, hS⟩
  | false =>
    cases be with
    | true =>
      by_cases hf : 4096 ≤ K.G.N.length
      · have f1 : (4096 : Int) ≤ (K.G.N.length : Int) := by omega
        have HF := Lib.hid hf
        rw [if_neg (by simp), if_pos rfl, if_pos HF.out]
        clear hf
        go_enter Try.func31, Try.ntmps31
        go_wp2_with (first
          | (go_at_call 37; refine (HW.out _ _ hS).mono ?_; rintro e w1 ⟨rfl, hS1⟩; clear hS; have hS := hS1; clear hS1)
          | (go_at_call 38; refine (HN.out _ _ hS).mono ?_; rintro e w1 ⟨rfl, hS1⟩; clear hS; have hS := hS1; clear hS1; obtain ⟨c, f, v, hkn, hO⟩ := IsK.open hS; have HKN := Lib.hid hkn; clear hkn hS; have hS := hO; clear hO)
          | (go_at_call 12; refine (HL.out _ _ (hS.re [1])).mono ?_; rintro e w1 ⟨rfl, rfl⟩)
          | (refine toList (by rfl) ?_; refine ld hS _ _ (by rfl) _ _ (by rfl) (agOf (by rfl)) (by first | exact Has.z | exact Has.s Has.z | exact Has.s (Has.s Has.z) | exact Has.s (Has.s (Has.s Has.z)) | exact Has.s (Has.s (Has.s (Has.s Has.z))) | exact Has.s (Has.s (Has.s (Has.s (Has.s Has.z))))) (by rfl) ?_))
        go_ret
        exact ⟨rfl, IsK.mk HKN.out hS⟩
      · have f1 : ¬ (4096 : Int) ≤ (K.G.N.length : Int) := by omega
        have HF := Lib.hid hf
        rw [if_neg (by simp), if_pos rfl, if_neg HF.out]
        clear hf
        go_enter Try.func31, Try.ntmps31
        go_wp2_with (first
          | (go_at_call 37; refine (HW.out _ _ hS).mono ?_; rintro e w1 ⟨rfl, hS1⟩; clear hS; have hS := hS1; clear hS1)
          | (go_at_call 38; refine (HN.out _ _ hS).mono ?_; rintro e w1 ⟨rfl, hS1⟩; clear hS; have hS := hS1; clear hS1; obtain ⟨c, f, v, hkn, hO⟩ := IsK.open hS; have HKN := Lib.hid hkn; clear hkn hS; have hS := hO; clear hO)
          | (go_at_call 12; refine (HL.out _ _ (hS.re [1])).mono ?_; rintro e w1 ⟨rfl, rfl⟩)
          | (refine toList (by rfl) ?_; refine ld hS _ _ (by rfl) _ _ (by rfl) (agOf (by rfl)) (by first | exact Has.z | exact Has.s Has.z | exact Has.s (Has.s Has.z) | exact Has.s (Has.s (Has.s Has.z)) | exact Has.s (Has.s (Has.s (Has.s Has.z))) | exact Has.s (Has.s (Has.s (Has.s (Has.s Has.z))))) (by rfl) ?_))
        go_ret
        exact ⟨rfl, IsK.mk HKN.out hS⟩
    | false =>
      rw [if_neg (by simp), if_neg (by simp)]
      obtain ⟨u, hu⟩ : ∃ u, K.G.upsI b = u := ⟨_, rfl⟩
      have HU := Lib.hid (fun w (L : List Asrt) (h : Sat W w (IsG g K.G :: L)) => by have := ups_any h b hnl; rw [hu] at this; exact this)
      have hul : u.length ≤ 4096 := by
        rw [← hu]; unfold Gr.upsI
        split
        · have := Gr.ups_len K.G b.toNat; omega
        · exact Nat.zero_le _
      rw [hu]
      have HUL := Lib.hid hul
      clear hu hul
      obtain ⟨r, hr⟩ : ∃ r, u.any (fun y => decide ((y : Int) = a)) = r := ⟨_, rfl⟩
      rw [hr]
      have HR := Lib.hid hr
      clear hr
      go_enter Try.func31, Try.ntmps31
      go_wp2_with (first
        | (go_at_call 37; refine (HW.out _ _ hS).mono ?_; rintro e w1 ⟨rfl, hS1⟩; clear hS; have hS := hS1; clear hS1)
        | (go_at_call 38; refine (HN.out _ _ hS).mono ?_; rintro e w1 ⟨rfl, hS1⟩; clear hS; have hS := hS1; clear hS1; obtain ⟨c, f, v, hkn, hO⟩ := IsK.open hS; have HKN := Lib.hid hkn; clear hkn hS; have hS := hO; clear hO)
        | (go_at_call 27; refine (HU.out _ _ (hS.re [1])).mono ?_; rintro e w1 ⟨vu, rfl, hS1⟩; clear hS; have hS := hS1; clear hS1; obtain ⟨au, cu, rfl, hcu⟩ := hS.irShape (k := 0) rfl)
        | (refine toList (by rfl) ?_; refine ld hS _ _ (by rfl) _ _ (by rfl) (agOf (by rfl)) (by first | exact Has.z | exact Has.s Has.z | exact Has.s (Has.s Has.z) | exact Has.s (Has.s (Has.s Has.z)) | exact Has.s (Has.s (Has.s (Has.s Has.z))) | exact Has.s (Has.s (Has.s (Has.s (Has.s Has.z))))) (by rfl) ?_))
      have iul : (u.length : Int) ≤ 4096 := by have := HUL.out; omega
      have H0 := Lib.hid hS
      go_loopw [33] (fun v wz => ∃ i : Nat, v = .int .i64 i ∧ i ≤ u.length ∧ (u.take i).any (fun y => decide ((y : Int) = a)) = false ∧ Sat W wz _) (fun v _ => u.length - (intOf v).toNat)
      case atStart => exact ⟨0, rfl, by omega, rfl, H0.out⟩
      case round =>
        clear H0 hS
        obtain ⟨i, rfl, hi, hno, hS⟩ := hrel
        have HNO := Lib.hid hno
        clear hno
        by_cases hl : i < u.length
        · have k1 : (i : Int) < (u.length : Int) := by omega
          obtain ⟨y, hy⟩ : ∃ y, u[i]? = some y := ⟨_, List.getElem?_eq_getElem hl⟩
          have HY := Lib.hid hy
          have HLT := Lib.hid hl
          obtain ⟨bu, ou, rfl⟩ := hS.irAddr (k := 0) rfl rfl (by omega)
          clear hy hl
          by_cases hya : (y : Int) = a
          · have f1 : ((y : Int) == a) = true := by rw [hya]; simp
            obtain rfl : r = true := by rw [← HR.out]; exact any_split HY.out HNO.out (decide_eq_true hya)
            go_wp2_with (refine toList (by rfl) ?_; refine ldSl hS _ _ (by rfl) _ _ (by rfl) (agOf (by rfl)) Has.z i (by omega) (iv_at HY.out) ?_)
            go_ret
            exact ⟨rfl, (IsK.mk HKN.out (hS.re [2, 1, 3, 4])).pull2.drop⟩
          · have f1 : ((y : Int) == a) = false := beq_eq_false_iff_ne.2 hya
            go_wp2_with (refine toList (by rfl) ?_; refine ldSl hS _ _ (by rfl) _ _ (by rfl) (agOf (by rfl)) Has.z i (by omega) (iv_at HY.out) ?_)
            exact ⟨⟨i + 1, by go_num, HLT.out, any_next HY.out HNO.out (decide_eq_false hya), hS⟩, by simp [intOf]; have := HLT.out; omega⟩
        · have k1 : ¬ (i : Int) < (u.length : Int) := by omega
          obtain rfl : r = false := by rw [← HR.out, ← HNO.out, List.take_of_length_le (by omega)]
          clear hl
          go_wp2
          go_ret
          exact ⟨rfl, (IsK.mk HKN.out (hS.re [2, 1, 3, 4])).pull2.drop⟩
end Go.Proofs.Ytapodjhkpahdnaa
