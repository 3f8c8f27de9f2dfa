/-
  Versions: Need (the document's), New, Load, and a call at both keepers (pedigreelaw17.do).
-/
import Derived.Test.YtapodjhkpahdnaaVsDo
namespace Go.Proofs.Ytapodjhkpahdnaa
open Go.RowKit Go.Sep
set_option linter.unusedSimpArgs false
set_option linter.unusedVariables false
attribute [local irreducible] Go.Oper.wp Go.wpList Go.Calls Go.Code.wp Go.Sep.Reg
attribute [local irreducible] IsG IsK IsQ IsR
set_option maxRecDepth 20000 in
set_option maxHeartbeats 1000000 in
theorem qneed_any {W w : World} {L : List Asrt} {q h n : Nat} {K : KD} (hS : Sat W w (IsQ q h K :: IsR h K.G :: L)) (hK : K.Ok n) (hn : n ≤ 700000) (a b : Int) :
    Calls Try.prog 67 #[.pointer (some ⟨q, 0, none⟩), .int .i64 a, .int .i64 b] w fun e w' => e = .returned (.int .i64 (K.need a b : Nat)) ∧ Sat W w' (IsQ q h K :: IsR h K.G :: L) := by
  have HC := Lib.hid (fun w (L : List Asrt) (h2 : Sat W w (IsQ q h K :: IsR h K.G :: L)) => qcopy_any h2 hK (by omega))
  have HF := Lib.hid (fun q2 h2 w (L : List Asrt) (h3 : Sat W w (IsQ q2 h2 K.clean :: IsR h2 K.G :: L)) => qflow_any (K := K.clean) h3 hK.clean hn a b)
  obtain ⟨E, hE⟩ : ∃ E, K.flowE a b = E := ⟨_, rfl⟩
  obtain ⟨I, hI⟩ : ∃ I, K.clean.flowI a b = I := ⟨_, rfl⟩
  obtain ⟨K2, hK2⟩ : ∃ K2, K.clean.flow a b = K2 := ⟨_, rfl⟩
  have hE2 : K.clean.flowE a b = E := hE
  rw [hE2, hI, hK2] at HF
  have hOK2 := hK.clean.flow (by omega) a b
  rw [hK2] at hOK2
  have hr2 := hOK2.r
  have HN := Lib.hid (show K.need a b = if E = 0 then K2.R.length else 0 by unfold KD.need; rw [hE, hK2])
  clear hE hI hK2 hE2 hOK2 hK
  by_cases h0 : E = 0
  · subst h0
    rw [HN.out, if_pos rfl]
    go_enter Try.func67, Try.ntmps67
    go_wp2_with (first
      | (go_at_call 89; refine (HC.out _ _ hS).mono ?_; rintro e w1 ⟨q2, h2, rfl, hS1⟩; clear hS; have hS := hS1; clear hS1; obtain ⟨v, hO⟩ := IsQ.open hS; clear hS; have hS := hO; clear hO)
      | (refine toList (by rfl) ?_; refine st hS _ _ _ (by rfl) _ _ (by rfl) _ (by first | exact evC | exact evT (by rfl)) (by rfl) (szOf (by rfl)) (by first | exact Has.z | exact Has.s Has.z | exact Has.s (Has.s Has.z) | exact Has.s (Has.s (Has.s Has.z)) | exact Has.s (Has.s (Has.s (Has.s Has.z))) | exact Has.s (Has.s (Has.s (Has.s (Has.s Has.z))))) (by exact Nat.le_of_ble_eq_true rfl) ?_; intro w1 hS1; clear hS; have hS := hS1; clear hS1; dsimp only [List.set] at hS)
      | (go_at_call 68; refine (HF.out _ _ _ _ (IsQ.mk (K := K.clean) ((hS.tbNil (α := RecD) (f := rv) (E := 53) (sz := 3)).re [1, 2, 0]))).mono ?_; rintro e w1 ⟨rfl, hS1⟩; clear hS; have hS := hS1; clear hS1; obtain ⟨v2, hO⟩ := IsQ.open hS; obtain ⟨ao2, c2, rfl, _⟩ := hO.tbShape (k := 2) rfl; clear hS; have hS := hO; clear hO)
      | (refine toList (by rfl) ?_; refine ld hS _ _ (by rfl) _ _ (by rfl) (agOf (by rfl)) (by first | exact Has.z | exact Has.s Has.z | exact Has.s (Has.s Has.z) | exact Has.s (Has.s (Has.s Has.z)) | exact Has.s (Has.s (Has.s (Has.s Has.z))) | exact Has.s (Has.s (Has.s (Has.s (Has.s Has.z))))) (by rfl) ?_))
    go_ret
    exact ⟨rfl, hS.drop.drop.drop.drop⟩
  · rw [HN.out, if_neg h0]
    have e1 : (E != 0) = true := by simp [h0]
    clear h0
    go_enter Try.func67, Try.ntmps67
    go_wp2_with (first
      | (go_at_call 89; refine (HC.out _ _ hS).mono ?_; rintro e w1 ⟨q2, h2, rfl, hS1⟩; clear hS; have hS := hS1; clear hS1; obtain ⟨v, hO⟩ := IsQ.open hS; clear hS; have hS := hO; clear hO)
      | (refine toList (by rfl) ?_; refine st hS _ _ _ (by rfl) _ _ (by rfl) _ (by first | exact evC | exact evT (by rfl)) (by rfl) (szOf (by rfl)) (by first | exact Has.z | exact Has.s Has.z | exact Has.s (Has.s Has.z) | exact Has.s (Has.s (Has.s Has.z)) | exact Has.s (Has.s (Has.s (Has.s Has.z))) | exact Has.s (Has.s (Has.s (Has.s (Has.s Has.z))))) (by exact Nat.le_of_ble_eq_true rfl) ?_; intro w1 hS1; clear hS; have hS := hS1; clear hS1; dsimp only [List.set] at hS)
      | (go_at_call 68; refine (HF.out _ _ _ _ (IsQ.mk (K := K.clean) ((hS.tbNil (α := RecD) (f := rv) (E := 53) (sz := 3)).re [1, 2, 0]))).mono ?_; rintro e w1 ⟨rfl, hS1⟩; clear hS; have hS := hS1; clear hS1; obtain ⟨v2, hO⟩ := IsQ.open hS; obtain ⟨ao2, c2, rfl, _⟩ := hO.tbShape (k := 2) rfl; clear hS; have hS := hO; clear hO)
      | (refine toList (by rfl) ?_; refine ld hS _ _ (by rfl) _ _ (by rfl) (agOf (by rfl)) (by first | exact Has.z | exact Has.s Has.z | exact Has.s (Has.s Has.z) | exact Has.s (Has.s (Has.s Has.z)) | exact Has.s (Has.s (Has.s (Has.s Has.z))) | exact Has.s (Has.s (Has.s (Has.s (Has.s Has.z))))) (by rfl) ?_))
    go_ret
    exact ⟨rfl, hS.drop.drop.drop.drop⟩
set_option maxRecDepth 20000 in
theorem kload_any {W w : World} {L : List Asrt} {g : Nat} {G : Gr} (hS : Sat W w (IsG g G :: L)) (hG : G.Ok) (hA : G.Acyc) :
    Calls Try.prog 35 #[.pointer (some ⟨g, 0, none⟩)] w fun e w' => ∃ p, e = .returned (.pointer (some ⟨p, 0, none⟩)) ∧ Sat W w' (IsK p g ⟨G, []⟩ :: IsG g G :: L) := by
  have HL := Lib.hid (fun w (L : List Asrt) (h : Sat W w (IsG g G :: L)) => load_any h hG hA)
  have HW := Lib.hid (KW.own hG)
  clear hG hA
  go_enter Try.func35, Try.ntmps35
  go_wp2_with (first
    | (go_at_call 71; refine (HL.out _ _ hS).mono ?_; rintro e w1 ⟨c, rfl, hS1⟩; clear hS; have hS := hS1; clear hS1)
    | (refine toList (by rfl) ?_; refine bx hS _ _ (by rfl) _ (by first | exact evC | exact evT (by rfl)) ?_; intro p w1 hS1; clear hS; have hS := hS1; clear hS1; rw [cells_agg] at hS))
  go_ret
  have h1 := hS.tbNil (α := RecD) (f := rv) (E := 53) (sz := 3)
  exact ⟨_, rfl, IsK.mk (K := ⟨G, []⟩) HW.out (h1.re [1, 3, 2, 0])⟩
set_option maxRecDepth 20000 in
theorem knew_any {W w : World} {L : List Asrt} (hS : Sat W w L) :
    Calls Try.prog 8 #[] w fun e w' => ∃ p, e = .returned (.pointer (some ⟨p, 0, none⟩)) ∧ ∃ g, Sat W w' (IsK p g KD.new :: IsG g Gr.new :: L) := by
  go_enter Try.func8, Try.ntmps8
  go_wp2_with (first
    | (go_at_call 21; refine (new_any hS).mono ?_; rintro e w1 ⟨g, rfl, hS1⟩; clear hS; have hS := hS1; clear hS1)
    | (go_at_call 35; refine (kload_any hS Gr.new_ok Gr.acyc_new).mono ?_; rintro e w1 ⟨p, rfl, hS1⟩; clear hS; have hS := hS1; clear hS1))
  go_ret
  exact ⟨_, rfl, _, hS⟩
/-- A call at both. -/
noncomputable def KD.step (K : KD) (x : RecD) : KD :=
  if x.k % 11 = 0 ∨ x.k % 11 = 1 then K.born x.a x.b else if x.k % 11 = 7 then K.set false x.a x.b else if x.k % 11 = 8 then K.set true x.a x.b
  else if x.k % 11 = 9 then K.clean else if x.k % 11 = 10 then K.lost x.a x.b else K.flow x.a x.b
theorem KD.Ok.step {K : KD} {n : Nat} (h : K.Ok n) (hn : n < 600000) (x : RecD) : (K.step x).Ok (n + 3) := by
  unfold KD.step
  repeat' split
  · exact (h.born _ _).mono (by omega)
  · exact h.set (by omega) _ _ _
  · exact h.set (by omega) _ _ _
  · exact h.clean.mono (by omega)
  · exact (h.lost _ _).mono (by omega)
  · exact h.flow (by omega) _ _
set_option maxRecDepth 20000 in
set_option maxHeartbeats 4000000 in
theorem do_any {W w : World} {L : List Asrt} {p g q h n : Nat} {K : KD} (hS : Sat W w (IsK p g K :: IsG g K.G :: IsQ q h K :: IsR h K.G :: L)) (hK : K.Ok n) (hn : n ≤ 500000) (x : RecD) :
    Calls Try.prog 29 #[.pointer (some ⟨p, 0, none⟩), .pointer (some ⟨q, 0, none⟩), .agg #[.int .i64 x.k, .int .i64 x.a, .int .i64 x.b]] w fun e w' => e = .returned (.bool true) ∧ Sat W w' (IsK p g (K.step x) :: IsG g (K.step x).G :: IsQ q h (K.step x) :: IsR h (K.step x).G :: L) := by
  obtain ⟨xk, xa, xb⟩ := x
  dsimp only
  have h1 : 0 ≤ xk % 11 := Int.emod_nonneg _ (by decide)
  have h2 : xk % 11 < 11 := Int.emod_lt_of_pos _ (by decide)
  obtain ⟨t, ht⟩ : ∃ t, xk % 11 = t := ⟨_, rfl⟩
  have HPL := Lib.hid (fun w => by have := place_any xk 11 (by decide) (by decide) w; rw [ht] at this; exact this)
  rw [ht] at h1 h2
  have hcase : t = 0 ∨ t = 1 ∨ t = 7 ∨ t = 8 ∨ t = 9 ∨ t = 10 ∨ t = 2 ∨ t = 3 ∨ t = 4 ∨ t = 5 ∨ t = 6 := by omega
  clear h1 h2
  rcases hcase with rfl | rfl | rfl | rfl | rfl | rfl | hflow
  · have HST := Lib.hid (show K.step ⟨xk, xa, xb⟩ = K.born xa xb by unfold KD.step; simp [ht])
    rw [HST.out]
    clear ht HST
    obtain ⟨K2, hK2⟩ : ∃ K2, K.born xa xb = K2 := ⟨_, rfl⟩
    have HA := Lib.hid (fun w (L : List Asrt) (h2 : Sat W w (IsK p g K :: IsG g K.G :: L)) => kborn_any h2 hK (by omega) xa xb)
    have HB := Lib.hid (fun w (L : List Asrt) (h2 : Sat W w (IsQ q h K :: IsR h K.G :: L)) => qborn_any h2 hK (by omega) xa xb)
    rw [hK2] at HA HB ⊢
    obtain ⟨I, hI⟩ : ∃ I, K.G.addI xa xb = I := ⟨_, rfl⟩
    obtain ⟨E, hE⟩ : ∃ E, K.G.addE xa xb = E := ⟨_, rfl⟩
    rw [hI, hE] at HA HB
    clear hK2 hI hE hK
    go_enter Try.func29, Try.ntmps29
    go_wp2_with (first
      | (refine toList (by rfl) ?_; refine bx hS _ _ (by rfl) _ (by first | exact evC | exact evT (by rfl)) ?_; intro px w1 hS1; clear hS; have hS := hS1; clear hS1; rw [cells_agg] at hS)
      | (go_at_call 10; refine (HPL.out _).mono ?_; rintro e w1 ⟨rfl, rfl⟩)
      | (go_at_call 9; refine (HA.out _ _ (hS.re [1, 2])).mono ?_; rintro e w1 ⟨rfl, hS1⟩; clear hS; have hS := hS1; clear hS1; replace hS := hS.re [2, 0, 1, 3, 4]) | (go_at_call 59; refine (HB.out _ _ (hS.re [3, 4])).mono ?_; rintro e w1 ⟨rfl, hS1⟩; clear hS; have hS := hS1; clear hS1; replace hS := hS.re [2, 3, 4, 0, 1])
      | (refine toList (by rfl) ?_; refine ld hS _ _ (by rfl) _ _ (by rfl) (agOf (by rfl)) (by first | exact Has.z | exact Has.s Has.z | exact Has.s (Has.s Has.z) | exact Has.s (Has.s (Has.s Has.z)) | exact Has.s (Has.s (Has.s (Has.s Has.z))) | exact Has.s (Has.s (Has.s (Has.s (Has.s Has.z))))) (by rfl) ?_))
    go_ret
    exact ⟨rfl, hS.drop⟩
  · have HST := Lib.hid (show K.step ⟨xk, xa, xb⟩ = K.born xa xb by unfold KD.step; simp [ht])
    rw [HST.out]
    clear ht HST
    obtain ⟨K2, hK2⟩ : ∃ K2, K.born xa xb = K2 := ⟨_, rfl⟩
    have HA := Lib.hid (fun w (L : List Asrt) (h2 : Sat W w (IsK p g K :: IsG g K.G :: L)) => kborn_any h2 hK (by omega) xa xb)
    have HB := Lib.hid (fun w (L : List Asrt) (h2 : Sat W w (IsQ q h K :: IsR h K.G :: L)) => qborn_any h2 hK (by omega) xa xb)
    rw [hK2] at HA HB ⊢
    obtain ⟨I, hI⟩ : ∃ I, K.G.addI xa xb = I := ⟨_, rfl⟩
    obtain ⟨E, hE⟩ : ∃ E, K.G.addE xa xb = E := ⟨_, rfl⟩
    rw [hI, hE] at HA HB
    clear hK2 hI hE hK
    go_enter Try.func29, Try.ntmps29
    go_wp2_with (first
      | (refine toList (by rfl) ?_; refine bx hS _ _ (by rfl) _ (by first | exact evC | exact evT (by rfl)) ?_; intro px w1 hS1; clear hS; have hS := hS1; clear hS1; rw [cells_agg] at hS)
      | (go_at_call 10; refine (HPL.out _).mono ?_; rintro e w1 ⟨rfl, rfl⟩)
      | (go_at_call 9; refine (HA.out _ _ (hS.re [1, 2])).mono ?_; rintro e w1 ⟨rfl, hS1⟩; clear hS; have hS := hS1; clear hS1; replace hS := hS.re [2, 0, 1, 3, 4]) | (go_at_call 59; refine (HB.out _ _ (hS.re [3, 4])).mono ?_; rintro e w1 ⟨rfl, hS1⟩; clear hS; have hS := hS1; clear hS1; replace hS := hS.re [2, 3, 4, 0, 1])
      | (refine toList (by rfl) ?_; refine ld hS _ _ (by rfl) _ _ (by rfl) (agOf (by rfl)) (by first | exact Has.z | exact Has.s Has.z | exact Has.s (Has.s Has.z) | exact Has.s (Has.s (Has.s Has.z)) | exact Has.s (Has.s (Has.s (Has.s Has.z))) | exact Has.s (Has.s (Has.s (Has.s (Has.s Has.z))))) (by rfl) ?_))
    go_ret
    exact ⟨rfl, hS.drop⟩
  · have HST := Lib.hid (show K.step ⟨xk, xa, xb⟩ = K.set false xa xb by unfold KD.step; simp [ht])
    rw [HST.out]
    clear ht HST
    obtain ⟨K2, hK2⟩ : ∃ K2, K.set false xa xb = K2 := ⟨_, rfl⟩
    have HA := Lib.hid (fun w (L : List Asrt) (h2 : Sat W w (IsK p g K :: IsG g K.G :: L)) => ksource_any h2 hK (by omega) xa xb)
    have HB := Lib.hid (fun w (L : List Asrt) (h2 : Sat W w (IsQ q h K :: IsR h K.G :: L)) => qmark_any h2 hK (by omega) xa xb)
    rw [hK2] at HA HB ⊢
    obtain ⟨I, hI⟩ : ∃ I, K.setI xa xb = I := ⟨_, rfl⟩
    obtain ⟨E, hE⟩ : ∃ E, K.setE xa xb = E := ⟨_, rfl⟩
    rw [hI, hE] at HA HB
    clear hK2 hI hE hK
    go_enter Try.func29, Try.ntmps29
    go_wp2_with (first
      | (refine toList (by rfl) ?_; refine bx hS _ _ (by rfl) _ (by first | exact evC | exact evT (by rfl)) ?_; intro px w1 hS1; clear hS; have hS := hS1; clear hS1; rw [cells_agg] at hS)
      | (go_at_call 10; refine (HPL.out _).mono ?_; rintro e w1 ⟨rfl, rfl⟩)
      | (go_at_call 60; refine (HA.out _ _ (hS.re [1, 2])).mono ?_; rintro e w1 ⟨rfl, hS1⟩; clear hS; have hS := hS1; clear hS1; replace hS := hS.re [2, 0, 1, 3, 4]) | (go_at_call 61; refine (HB.out _ _ (hS.re [3, 4])).mono ?_; rintro e w1 ⟨rfl, hS1⟩; clear hS; have hS := hS1; clear hS1; replace hS := hS.re [2, 3, 4, 0, 1])
      | (refine toList (by rfl) ?_; refine ld hS _ _ (by rfl) _ _ (by rfl) (agOf (by rfl)) (by first | exact Has.z | exact Has.s Has.z | exact Has.s (Has.s Has.z) | exact Has.s (Has.s (Has.s Has.z)) | exact Has.s (Has.s (Has.s (Has.s Has.z))) | exact Has.s (Has.s (Has.s (Has.s (Has.s Has.z))))) (by rfl) ?_))
    go_ret
    exact ⟨rfl, hS.drop⟩
  · have HST := Lib.hid (show K.step ⟨xk, xa, xb⟩ = K.set true xa xb by unfold KD.step; simp [ht])
    rw [HST.out]
    clear ht HST
    obtain ⟨K2, hK2⟩ : ∃ K2, K.set true xa xb = K2 := ⟨_, rfl⟩
    have HA := Lib.hid (fun w (L : List Asrt) (h2 : Sat W w (IsK p g K :: IsG g K.G :: L)) => kdeclass_any h2 hK (by omega) xa xb)
    have HB := Lib.hid (fun w (L : List Asrt) (h2 : Sat W w (IsQ q h K :: IsR h K.G :: L)) => qclear_any h2 hK (by omega) xa xb)
    rw [hK2] at HA HB ⊢
    obtain ⟨I, hI⟩ : ∃ I, K.setI xa xb = I := ⟨_, rfl⟩
    obtain ⟨E, hE⟩ : ∃ E, K.setE xa xb = E := ⟨_, rfl⟩
    rw [hI, hE] at HA HB
    clear hK2 hI hE hK
    go_enter Try.func29, Try.ntmps29
    go_wp2_with (first
      | (refine toList (by rfl) ?_; refine bx hS _ _ (by rfl) _ (by first | exact evC | exact evT (by rfl)) ?_; intro px w1 hS1; clear hS; have hS := hS1; clear hS1; rw [cells_agg] at hS)
      | (go_at_call 10; refine (HPL.out _).mono ?_; rintro e w1 ⟨rfl, rfl⟩)
      | (go_at_call 62; refine (HA.out _ _ (hS.re [1, 2])).mono ?_; rintro e w1 ⟨rfl, hS1⟩; clear hS; have hS := hS1; clear hS1; replace hS := hS.re [2, 0, 1, 3, 4]) | (go_at_call 61; refine (HB.out _ _ (hS.re [3, 4])).mono ?_; rintro e w1 ⟨rfl, hS1⟩; clear hS; have hS := hS1; clear hS1; replace hS := hS.re [2, 3, 4, 0, 1])
      | (refine toList (by rfl) ?_; refine ld hS _ _ (by rfl) _ _ (by rfl) (agOf (by rfl)) (by first | exact Has.z | exact Has.s Has.z | exact Has.s (Has.s Has.z) | exact Has.s (Has.s (Has.s Has.z)) | exact Has.s (Has.s (Has.s (Has.s Has.z))) | exact Has.s (Has.s (Has.s (Has.s (Has.s Has.z))))) (by rfl) ?_))
    go_ret
    exact ⟨rfl, hS.drop⟩
  · have HST := Lib.hid (show K.step ⟨xk, xa, xb⟩ = K.clean by unfold KD.step; simp [ht])
    rw [HST.out]
    clear ht HST
    have hr := hK.r
    have HRL := Lib.hid (show K.R.length ≤ 1000000 by omega)
    clear hK hr
    go_enter Try.func29, Try.ntmps29
    go_wp2_with (first
      | (refine toList (by rfl) ?_; refine bx hS _ _ (by rfl) _ (by first | exact evC | exact evT (by rfl)) ?_; intro px w1 hS1; clear hS; have hS := hS1; clear hS1; rw [cells_agg] at hS)
      | (go_at_call 10; refine (HPL.out _).mono ?_; rintro e w1 ⟨rfl, rfl⟩)
      | (go_at_call 30; refine (krecords_any (hS.re [1, 2])).mono ?_; rintro e w1 ⟨v1, rfl, hS1⟩; clear hS; have hS := hS1; clear hS1; obtain ⟨a1, c1, rfl, _⟩ := hS.tbShape (k := 0) rfl; replace hS := hS.re [4, 5])
      | (go_at_call 64; refine (qrecords_any hS).mono ?_; rintro e w1 ⟨v2, rfl, hS1⟩; clear hS; have hS := hS1; clear hS1; obtain ⟨a2, c2, rfl, _⟩ := hS.tbShape (k := 0) rfl)
      | (go_at_call 63; refine (same_recs hS K.R K.R _ _ _ _ (fun w h => h.tbRd (k := 3) rfl) (fun w h => h.tbRd (k := 0) rfl) HRL.out).mono ?_; rintro e w1 ⟨rfl, hS1⟩; rw [decide_eq_true (rfl : K.R = K.R)]; clear hS; have hS := hS1; clear hS1)
      | (refine toList (by rfl) ?_; refine ld hS _ _ (by rfl) _ _ (by rfl) (agOf (by rfl)) (by first | exact Has.z | exact Has.s Has.z | exact Has.s (Has.s Has.z) | exact Has.s (Has.s (Has.s Has.z)) | exact Has.s (Has.s (Has.s (Has.s Has.z))) | exact Has.s (Has.s (Has.s (Has.s (Has.s Has.z))))) (by rfl) ?_))
    go_ret
    exact ⟨rfl, (hS.re [4, 5, 1, 2, 0, 3, 6]).re [4, 5, 6] |>.drop.drop.drop⟩
  · have HST := Lib.hid (show K.step ⟨xk, xa, xb⟩ = K.lost xa xb by unfold KD.step; simp [ht])
    rw [HST.out]
    clear ht HST
    obtain ⟨K2, hK2⟩ : ∃ K2, K.lost xa xb = K2 := ⟨_, rfl⟩
    have HA := Lib.hid (fun w (L : List Asrt) (h2 : Sat W w (IsK p g K :: IsG g K.G :: L)) => klost_any h2 hK (by omega) xa xb)
    have HB := Lib.hid (fun w (L : List Asrt) (h2 : Sat W w (IsQ q h K :: IsR h K.G :: L)) => qlost_any h2 hK (by omega) xa xb)
    rw [hK2] at HA HB ⊢
    obtain ⟨E, hE⟩ : ∃ E, lostE K.G xa xb = E := ⟨_, rfl⟩
    rw [hE] at HA HB
    clear hK2 hE hK
    go_enter Try.func29, Try.ntmps29
    go_wp2_with (first
      | (refine toList (by rfl) ?_; refine bx hS _ _ (by rfl) _ (by first | exact evC | exact evT (by rfl)) ?_; intro px w1 hS1; clear hS; have hS := hS1; clear hS1; rw [cells_agg] at hS)
      | (go_at_call 10; refine (HPL.out _).mono ?_; rintro e w1 ⟨rfl, rfl⟩)
      | (refine toList (by rfl) ?_; refine ld hS _ _ (by rfl) _ _ (by rfl) (agOf (by rfl)) (by first | exact Has.z | exact Has.s Has.z | exact Has.s (Has.s Has.z) | exact Has.s (Has.s (Has.s Has.z)) | exact Has.s (Has.s (Has.s (Has.s Has.z))) | exact Has.s (Has.s (Has.s (Has.s (Has.s Has.z))))) (by rfl) ?_))
    generalize K = K0 at *
    refine regStart2 [11] hS (fun _ h => h.one Has.z) (by kernel_rfl) rfl ?_
    intro w1 hS1
    clear hS; have hS := hS1; clear hS1
    (refine regP 0 hS (fun _ h => h.one Has.z) rfl (by kernel_rfl) (by kernel_rfl) (by kernel_rfl) (fun _ _ _ _ h => h) (by rfl) (by rfl) ?_; apply Exists.intro; apply And.intro; (intro w; go_simp; try with_reducible rfl); (simp only [Act.put, List.setIfInBounds_toArray, List.set_cons_zero, List.set_cons_succ]))
    (refine regP 1 hS (fun _ h => h.one Has.z) rfl (by kernel_rfl) (by kernel_rfl) (by kernel_rfl) (fun _ _ _ _ h => h) (by rfl) (by rfl) ?_; apply Exists.intro; apply And.intro; (intro w; go_simp; try with_reducible rfl); (simp only [Act.put, List.setIfInBounds_toArray, List.set_cons_zero, List.set_cons_succ]))
    (refine regR 2 hS (fun _ h => h.one Has.z) rfl (by kernel_rfl) (by kernel_rfl) (by kernel_rfl) (by kernel_rfl) (by kernel_rfl) (fun _ _ _ _ h => h) (by rfl) (by rfl) ?_; (first
              | refine ⟨_, yLd _ _ (by rfl) _ _ (by rfl) (agOf (by rfl)) (by first | exact Has.z | exact Has.s Has.z | exact Has.s (Has.s Has.z) | exact Has.s (Has.s (Has.s Has.z)) | exact Has.s (Has.s (Has.s (Has.s Has.z))) | exact Has.s (Has.s (Has.s (Has.s (Has.s Has.z))))) (by rfl), ?_⟩); (simp only [Act.put, List.setIfInBounds_toArray, List.set_cons_zero, List.set_cons_succ]))
    (refine regP 3 hS (fun _ h => h.one Has.z) rfl (by kernel_rfl) (by kernel_rfl) (by kernel_rfl) (fun _ _ _ _ h => h) (by rfl) (by rfl) ?_; apply Exists.intro; apply And.intro; (intro w; go_simp; try with_reducible rfl); (simp only [Act.put, List.setIfInBounds_toArray, List.set_cons_zero, List.set_cons_succ]))
    (refine regR 4 hS (fun _ h => h.one Has.z) rfl (by kernel_rfl) (by kernel_rfl) (by kernel_rfl) (by kernel_rfl) (by kernel_rfl) (fun _ _ _ _ h => h) (by rfl) (by rfl) ?_; (first
              | refine ⟨_, yLd _ _ (by rfl) _ _ (by rfl) (agOf (by rfl)) (by first | exact Has.z | exact Has.s Has.z | exact Has.s (Has.s Has.z) | exact Has.s (Has.s (Has.s Has.z)) | exact Has.s (Has.s (Has.s (Has.s Has.z))) | exact Has.s (Has.s (Has.s (Has.s (Has.s Has.z))))) (by rfl), ?_⟩); (simp only [Act.put, List.setIfInBounds_toArray, List.set_cons_zero, List.set_cons_succ]))
    (refine regP 6 hS (fun _ h => h.one Has.z) rfl (by kernel_rfl) (by kernel_rfl) (by kernel_rfl) (fun _ _ _ _ h => h) (by rfl) (by rfl) ?_; apply Exists.intro; apply And.intro; (intro w; go_simp; try with_reducible rfl); (simp only [Act.put, List.setIfInBounds_toArray, List.set_cons_zero, List.set_cons_succ]))
    (refine regP 7 hS (fun _ h => h.one Has.z) rfl (by kernel_rfl) (by kernel_rfl) (by kernel_rfl) (fun _ _ _ _ h => h) (by rfl) (by rfl) ?_; apply Exists.intro; apply And.intro; (intro w; go_simp; try with_reducible rfl); (simp only [Act.put, List.setIfInBounds_toArray, List.set_cons_zero, List.set_cons_succ]))
    (refine regR 8 hS (fun _ h => h.one Has.z) rfl (by kernel_rfl) (by kernel_rfl) (by kernel_rfl) (by kernel_rfl) (by kernel_rfl) (fun _ _ _ _ h => h) (by rfl) (by rfl) ?_; (first
              | refine ⟨_, yLd _ _ (by rfl) _ _ (by rfl) (agOf (by rfl)) (by first | exact Has.z | exact Has.s Has.z | exact Has.s (Has.s Has.z) | exact Has.s (Has.s (Has.s Has.z)) | exact Has.s (Has.s (Has.s (Has.s Has.z))) | exact Has.s (Has.s (Has.s (Has.s (Has.s Has.z))))) (by rfl), ?_⟩); (simp only [Act.put, List.setIfInBounds_toArray, List.set_cons_zero, List.set_cons_succ]))
    (refine regP 9 hS (fun _ h => h.one Has.z) rfl (by kernel_rfl) (by kernel_rfl) (by kernel_rfl) (fun _ _ _ _ h => h) (by rfl) (by rfl) ?_; apply Exists.intro; apply And.intro; (intro w; go_simp; try with_reducible rfl); (simp only [Act.put, List.setIfInBounds_toArray, List.set_cons_zero, List.set_cons_succ]))
    (refine regR 10 hS (fun _ h => h.one Has.z) rfl (by kernel_rfl) (by kernel_rfl) (by kernel_rfl) (by kernel_rfl) (by kernel_rfl) (fun _ _ _ _ h => h) (by rfl) (by rfl) ?_; (first
              | refine ⟨_, yLd _ _ (by rfl) _ _ (by rfl) (agOf (by rfl)) (by first | exact Has.z | exact Has.s Has.z | exact Has.s (Has.s Has.z) | exact Has.s (Has.s (Has.s Has.z)) | exact Has.s (Has.s (Has.s (Has.s Has.z))) | exact Has.s (Has.s (Has.s (Has.s (Has.s Has.z))))) (by rfl), ?_⟩); (simp only [Act.put, List.setIfInBounds_toArray, List.set_cons_zero, List.set_cons_succ]))
    (refine regA 5 rfl (by kernel_rfl) (by rfl) (by rfl) false (by kernel_rfl) (fun K hK => ?_); (first
              | (refine Go.Sep.cl 65 _ _ (by rfl) (by rfl) (by kernel_rfl) (HA.out _ _ (hS.re [1, 2])) ?_; rintro e w1 ⟨rfl, hS1⟩; clear hS; have hS := hS1; clear hS1; replace hS := hS.re [2, 0, 1, 3, 4]; refine ⟨_, rfl, ?_⟩)
              | (refine Go.Sep.cl 66 _ _ (by rfl) (by rfl) (by kernel_rfl) (HB.out _ _ (hS.re [3, 4])) ?_; rintro e w1 ⟨rfl, hS1⟩; clear hS; have hS := hS1; clear hS1; replace hS := hS.re [2, 3, 4, 0, 1]; refine ⟨_, rfl, ?_⟩)); refine hK _ _ _ (hS.upTo (fun _ h => by first | exact h.one Has.z | exact h.one (Has.s Has.z) | exact h.one (Has.s (Has.s Has.z)) | exact h.one (Has.s (Has.s (Has.s Has.z))) | exact h | exact h.drop | exact h.drop.drop | exact h.drop.drop.drop | exact h.drop.drop.drop.drop)) (fun _ _ h => h) ?_; clear hK K; (simp only [Act.put, List.setIfInBounds_toArray, List.set_cons_zero, List.set_cons_succ]))
    (refine regA 11 rfl (by kernel_rfl) (by rfl) (by rfl) true (by kernel_rfl) (fun K hK => ?_); (first
              | (refine Go.Sep.cl 65 _ _ (by rfl) (by rfl) (by kernel_rfl) (HA.out _ _ (hS.re [1, 2])) ?_; rintro e w1 ⟨rfl, hS1⟩; clear hS; have hS := hS1; clear hS1; replace hS := hS.re [2, 0, 1, 3, 4]; refine ⟨_, rfl, ?_⟩)
              | (refine Go.Sep.cl 66 _ _ (by rfl) (by rfl) (by kernel_rfl) (HB.out _ _ (hS.re [3, 4])) ?_; rintro e w1 ⟨rfl, hS1⟩; clear hS; have hS := hS1; clear hS1; replace hS := hS.re [2, 3, 4, 0, 1]; refine ⟨_, rfl, ?_⟩)); refine hK _ _ _ hS (by first | (intro h; cases h; done) | exact fun _ _ h => h | exact fun _ _ h => h.drop | exact fun _ _ h => h.drop.drop | exact fun _ _ h => h.drop.pull1 | exact fun _ _ h => h.take2 | exact fun _ _ h => h.one Has.z | exact fun _ _ h => h.one (Has.s Has.z) | exact fun _ _ h => h.one (Has.s (Has.s Has.z))) ?_; clear hK K; (simp only [Act.put, List.setIfInBounds_toArray, List.set_cons_zero, List.set_cons_succ]))
    (refine regP 12 hS (fun _ h => h) rfl (by kernel_rfl) (by kernel_rfl) (by kernel_rfl) (fun _ _ _ _ h => h) (by rfl) (by rfl) ?_; apply Exists.intro; apply And.intro; (intro w; go_simp; try with_reducible rfl); (simp only [Act.put, List.setIfInBounds_toArray, List.set_cons_zero, List.set_cons_succ]))
    (refine regP 13 hS (fun _ h => h) rfl (by kernel_rfl) (by kernel_rfl) (by kernel_rfl) (fun _ _ _ _ h => h) (by rfl) (by rfl) ?_; apply Exists.intro; apply And.intro; (intro w; go_simp; try with_reducible rfl); (simp only [Act.put, List.setIfInBounds_toArray, List.set_cons_zero, List.set_cons_succ]))
    refine regDone (by kernel_rfl) ?_
    go_wp2
    go_ret
    exact ⟨by simp, hS.drop⟩
  · have HST := Lib.hid (show K.step ⟨xk, xa, xb⟩ = K.flow xa xb by unfold KD.step; rcases hflow with rfl | rfl | rfl | rfl | rfl <;> simp [ht])
    rw [HST.out]
    clear ht HST
    obtain ⟨K2, hK2⟩ : ∃ K2, K.flow xa xb = K2 := ⟨_, rfl⟩
    have HA := Lib.hid (fun w (L : List Asrt) (h2 : Sat W w (IsK p g K :: IsG g K.G :: L)) => kflow_any h2 hK (by omega) xa xb)
    have HB := Lib.hid (fun w (L : List Asrt) (h2 : Sat W w (IsQ q h K :: IsR h K.G :: L)) => qflow_any h2 hK (by omega) xa xb)
    have HC := Lib.hid (fun w (L : List Asrt) (h2 : Sat W w (IsK p g K :: IsG g K.G :: L)) => kneed_any h2 hK (by omega) xa xb)
    have HD := Lib.hid (fun w (L : List Asrt) (h2 : Sat W w (IsQ q h K :: IsR h K.G :: L)) => qneed_any h2 hK (by omega) xa xb)
    obtain ⟨m, hm⟩ : ∃ m, K.need xa xb = m := ⟨_, rfl⟩
    rw [hm] at HC HD
    rw [hK2] at HA HB ⊢
    obtain ⟨I, hI⟩ : ∃ I, K.flowI xa xb = I := ⟨_, rfl⟩
    obtain ⟨E, hE⟩ : ∃ E, K.flowE xa xb = E := ⟨_, rfl⟩
    rw [hI, hE] at HA HB
    clear hK2 hI hE hK hm
    have e0 : (t == 0) = false := by rcases hflow with rfl | rfl | rfl | rfl | rfl <;> rfl
    have e1 : (t == 1) = false := by rcases hflow with rfl | rfl | rfl | rfl | rfl <;> rfl
    have e7 : (t == 7) = false := by rcases hflow with rfl | rfl | rfl | rfl | rfl <;> rfl
    have e8 : (t == 8) = false := by rcases hflow with rfl | rfl | rfl | rfl | rfl <;> rfl
    have e9 : (t == 9) = false := by rcases hflow with rfl | rfl | rfl | rfl | rfl <;> rfl
    have e10 : (t == 10) = false := by rcases hflow with rfl | rfl | rfl | rfl | rfl <;> rfl
    clear hflow
    go_enter Try.func29, Try.ntmps29
    go_wp2_with (first
      | (refine toList (by rfl) ?_; refine bx hS _ _ (by rfl) _ (by first | exact evC | exact evT (by rfl)) ?_; intro px w1 hS1; clear hS; have hS := hS1; clear hS1; rw [cells_agg] at hS)
      | (go_at_call 10; refine (HPL.out _).mono ?_; rintro e w1 ⟨rfl, rfl⟩)
      | (go_at_call 31; refine (HC.out _ _ (hS.re [1, 2])).mono ?_; rintro e w1 ⟨rfl, hS1⟩; clear hS; have hS := hS1; clear hS1; replace hS := hS.re [2, 0, 1, 3, 4]) | (go_at_call 67; refine (HD.out _ _ (hS.re [3, 4])).mono ?_; rintro e w1 ⟨rfl, hS1⟩; clear hS; have hS := hS1; clear hS1; replace hS := hS.re [2, 3, 4, 0, 1]) | (go_at_call 13; refine (HA.out _ _ (hS.re [1, 2])).mono ?_; rintro e w1 ⟨rfl, hS1⟩; clear hS; have hS := hS1; clear hS1; replace hS := hS.re [2, 0, 1, 3, 4]) | (go_at_call 68; refine (HB.out _ _ (hS.re [3, 4])).mono ?_; rintro e w1 ⟨rfl, hS1⟩; clear hS; have hS := hS1; clear hS1; replace hS := hS.re [2, 3, 4, 0, 1])
      | (refine toList (by rfl) ?_; refine ld hS _ _ (by rfl) _ _ (by rfl) (agOf (by rfl)) (by first | exact Has.z | exact Has.s Has.z | exact Has.s (Has.s Has.z) | exact Has.s (Has.s (Has.s Has.z)) | exact Has.s (Has.s (Has.s (Has.s Has.z))) | exact Has.s (Has.s (Has.s (Has.s (Has.s Has.z))))) (by rfl) ?_))
    go_ret
    exact ⟨rfl, hS.drop⟩
end Go.Proofs.Ytapodjhkpahdnaa
