/-
  For all scripts, VersionPlays answers true: no condition.
-/
import Derived.Test.YtapodjhkpahdnaaGreatVsAwake
import Derived.Test.YtapodjhkpahdnaaGreatVsOpen
import Derived.Test.YtapodjhkpahdnaaGreatGrSame
namespace Go.Proofs.YtapodjhkpahdnaaGreat
open Go.RowKit Go.Sep Go.ChangeShapes Go.WideShapes Go.ChangeAt
set_option linter.unusedSimpArgs false
set_option linter.unusedVariables false
attribute [local irreducible] Go.Oper.wp Go.wpList Go.Calls Go.Code.wp Go.Sep.Reg
attribute [local irreducible] IsG IsK IsQ IsR
set_option maxRecDepth 20000 in
set_option maxHeartbeats 4000000 in
theorem VPlays.walk (l : List RecD) (ao : Option Addr) (c : Nat) (W : World) (hr : Rd W (.slice ao l.length c) l.length 3 (l.flatMap rv)) :
    Calls Tryz.prog 4 #[.slice ao l.length c] W fun e w' => e = .returned (.bool true) ∧ Sat W w' [] := by
  have hS := Sat.start W
  have HR : Hid (∀ u (L : List Asrt), Sat W u L → Rd u (.slice ao l.length c) l.length 3 (l.flatMap rv)) := Lib.hid (fun u L h => hr.old h)
  obtain ⟨_, _, he, hc1, hc2, _, h5⟩ := hr
  simp only [Value.slice.injEq, true_and] at he
  obtain ⟨rfl, rfl⟩ := he
  have H5 := Lib.hid h5
  clear h5
  go_enter Tryz.func4, Tryz.ntmps4
  go_wp2_with (first
    | (go_at_call 6; refine (knew_any hS).mono ?_; rintro e w1 ⟨p, rfl, g, hS1⟩; clear hS; have hS := hS1; clear hS1)
    | (go_at_call 7; refine (qnew_any hS).mono ?_; rintro e w1 ⟨q, h, rfl, hS1⟩; clear hS; have hS := hS1; clear hS1; replace hS := hS.re [2, 3]))
  have H0 := Lib.hid hS
  go_loopw [5] (fun v wz => ∃ (i : Nat) (K : KD), v = .int .i64 i ∧ i ≤ l.length ∧ i ≤ 60 ∧ K.Ok (3 * i) ∧ Sat W wz [IsK p g K, IsG g K.G, IsQ q h K, IsR h K.G]) (fun v _ => 60 - (intOf v).toNat)
  case atStart => exact ⟨0, KD.new, rfl, by omega, by omega, KD.new_ok, H0.out⟩
  case round =>
    clear hS H0
    obtain ⟨i, K, rfl, hi, hi5, hok, hS⟩ := hrel
    have HOK := Lib.hid hok
    clear hok
    by_cases hgo : i < l.length ∧ i < 60
    · obtain ⟨hlt, hl5⟩ := hgo
      obtain ⟨bb, off, rfl, _⟩ := H5.out (by omega)
      obtain ⟨⟨xk, xa, xb⟩, hx⟩ : ∃ x, l[i]? = some x := ⟨_, List.getElem?_eq_getElem hlt⟩
      have j1 : (i : Int) < (l.length : Int) := by omega
      have j2 : (i : Int) < 60 := by omega
      have HX := Lib.hid hx
      have HLT := Lib.hid hlt
      have HL5 := Lib.hid hl5
      have HDO := Lib.hid (fun w (L : List Asrt) (h2 : Sat W w (IsK p g K :: IsG g K.G :: IsQ q h K :: IsR h K.G :: L)) => do_any h2 HOK.out (by omega) ⟨xk, xa, xb⟩)
      have HOK2 := Lib.hid ((HOK.out.step (by omega) ⟨xk, xa, xb⟩).mono (show 3 * i + 3 ≤ 3 * (i + 1) by omega))
      obtain ⟨K2, hK2⟩ : ∃ K2, K.step ⟨xk, xa, xb⟩ = K2 := ⟨_, rfl⟩
      rw [hK2] at HDO HOK2
      clear hx hlt hl5 hK2 hi hi5
      go_wp2_with (first
        | (refine toList (by rfl) ?_; refine wp_of_reads (rLdRdA (f := rv) (x := ⟨xk, xa, xb⟩) (HR.out _ _ hS) (rv_len l) _ _ (by rfl) _ (by rfl) (agOf (by rfl)) (szOf (by rfl)) i (by omega) HX.out (by omega)) ?_)
        | (go_at_call 11; refine (HDO.out _ _ hS).mono ?_; rintro e w1 ⟨rfl, hS1⟩; clear hS; have hS := hS1; clear hS1))
      exact ⟨⟨i + 1, K2, by go_num, HLT.out, HL5.out, HOK2.out, hS⟩, by simp [intOf]; have := HL5.out; omega⟩
    have hcase : (¬ (i : Int) < (l.length : Int)) ∨ ((i : Int) < (l.length : Int) ∧ ¬ (i : Int) < 60) := by omega
    have hok3 := HOK.out.mono (show 3 * i ≤ 3 * 60 by omega)
    clear HOK hi hi5
    have HOK := Lib.hid hok3
    clear hok3
    have hrl := HOK.out.r
    have HRL := Lib.hid (show K.R.length ≤ 1000000 by omega)
    have HSG := Lib.hid (fun w (L : List Asrt) (h2 : Sat W w (IsG g K.G :: IsR h K.G :: L)) => sameg_any h2 HOK.out.g)
    have HSR := Lib.hid (fun w (L : List Asrt) (h2 : Sat W w L) (ao ao' : Option Addr) (c c' : Nat) (h1 : ∀ w, Sat W w L → Rd w (.slice ao K.R.length c) K.R.length 3 (K.R.flatMap rv)) (h3 : ∀ w, Sat W w L → Rd w (.slice ao' K.R.length c') K.R.length 3 (K.R.flatMap rv)) => by have := same_recs h2 K.R K.R ao ao' c c' h1 h3 HRL.out; rw [decide_eq_true (rfl : K.R = K.R)] at this; exact this)
    clear hgo hrl
    replace hS := hS.re [2, 3]
    obtain ⟨v0, hO⟩ := IsQ.open hS
    clear hS
    have hS := hO
    clear hO
    rcases hcase with k1 | ⟨k1, k2⟩
    all_goals
      go_wp2
      refine regStart2 [6, 10, 12, 13] hS (fun _ h => h.one Has.z) (by kernel_rfl) rfl ?_
      intro w1 hS1
      clear hS; have hS := hS1; clear hS1
      (refine regP 0 hS (fun _ h => h.one Has.z) rfl (by kernel_rfl) (by kernel_rfl) (by kernel_rfl) (fun _ _ _ _ h => h) (by rfl) (by rfl) ?_; apply Exists.intro; apply And.intro; (intro w; go_simp; try with_reducible rfl); (simp only [Act.put, List.setIfInBounds_toArray, List.set_cons_zero, List.set_cons_succ]))
      (refine regP 2 hS (fun _ h => h.one Has.z) rfl (by kernel_rfl) (by kernel_rfl) (by kernel_rfl) (fun _ _ _ _ h => h) (by rfl) (by rfl) ?_; apply Exists.intro; apply And.intro; (intro w; go_simp; try with_reducible rfl); (simp only [Act.put, List.setIfInBounds_toArray, List.set_cons_zero, List.set_cons_succ]))
      (refine regP 3 hS (fun _ h => h.one Has.z) rfl (by kernel_rfl) (by kernel_rfl) (by kernel_rfl) (fun _ _ _ _ h => h) (by rfl) (by rfl) ?_; apply Exists.intro; apply And.intro; (intro w; go_simp; try with_reducible rfl); (simp only [Act.put, List.setIfInBounds_toArray, List.set_cons_zero, List.set_cons_succ]))
      (refine regP 4 hS (fun _ h => h.one Has.z) rfl (by kernel_rfl) (by kernel_rfl) (by kernel_rfl) (fun _ _ _ _ h => h) (by rfl) (by rfl) ?_; apply Exists.intro; apply And.intro; (intro w; go_simp; try with_reducible rfl); (simp only [Act.put, List.setIfInBounds_toArray, List.set_cons_zero, List.set_cons_succ]))
      (refine regR 5 hS (fun _ h => h.one Has.z) rfl (by kernel_rfl) (by kernel_rfl) (by kernel_rfl) (by kernel_rfl) (by kernel_rfl) (fun _ _ _ _ h => h) (by rfl) (by rfl) ?_; (first
                    | refine ⟨_, yLd _ _ (by rfl) _ _ (by rfl) (agOf (by rfl)) (by first | exact Has.z | exact Has.s Has.z | exact Has.s (Has.s Has.z) | exact Has.s (Has.s (Has.s Has.z)) | exact Has.s (Has.s (Has.s (Has.s Has.z))) | exact Has.s (Has.s (Has.s (Has.s (Has.s Has.z))))) (by rfl), ?_⟩); (simp only [Act.put, List.setIfInBounds_toArray, List.set_cons_zero, List.set_cons_succ]))
      (refine regA 1 rfl (by kernel_rfl) (by rfl) (by rfl) false (by kernel_rfl) (fun K hK => ?_); (first
                    | (refine Go.Sep.cl 15 _ _ (by rfl) (by rfl) (by kernel_rfl) (kgraph_any (hS.re [3, 4])) ?_; rintro e w1 ⟨rfl, rfl⟩; refine ⟨_, rfl, ?_⟩)
                    | (refine Go.Sep.cl 13 _ _ (by rfl) (by rfl) (by kernel_rfl) (HSG.out _ _ (hS.re [4, 1])) ?_; rintro e w1 ⟨rfl, hS1⟩; clear hS; have hS := hS1; clear hS1; replace hS := (IsQ.mk (hS.re [2, 1, 3])).re [3, 2, 0, 1]; refine ⟨_, rfl, ?_⟩)
                    | (refine Go.Sep.cl 9 _ _ (by rfl) (by rfl) (by kernel_rfl) (krecords_any hS) ?_; rintro e w1 ⟨v1, rfl, hS1⟩; clear hS; have hS := hS1; clear hS1; obtain ⟨a1, c1, rfl, _⟩ := hS.tbShape (k := 0) rfl; replace hS := hS.re [3, 4]; refine ⟨_, rfl, ?_⟩)
                    | (refine Go.Sep.cl 10 _ _ (by rfl) (by rfl) (by kernel_rfl) (qrecords_any hS) ?_; rintro e w1 ⟨v2, rfl, hS1⟩; clear hS; have hS := hS1; clear hS1; obtain ⟨a2, c2, rfl, _⟩ := hS.tbShape (k := 0) rfl; refine ⟨_, rfl, ?_⟩)
                    | (refine Go.Sep.cl 16 _ _ (by rfl) (by rfl) (by kernel_rfl) (HSR.out _ _ hS _ _ _ _ (fun w h => h.tbRd (k := 3) rfl) (fun w h => h.tbRd (k := 0) rfl)) ?_; rintro e w1 ⟨rfl, hS1⟩; clear hS; have hS := hS1; clear hS1; refine ⟨_, rfl, ?_⟩)); refine hK _ _ _ (hS.upTo (fun _ h => by first | exact h.one Has.z | exact h.one (Has.s Has.z) | exact h.one (Has.s (Has.s Has.z)) | exact h.one (Has.s (Has.s (Has.s Has.z))) | exact h | exact h.drop | exact h.drop.drop | exact h.drop.drop.drop | exact h.drop.drop.drop.drop)) (fun _ _ h => h) ?_; clear hK K; (simp only [Act.put, List.setIfInBounds_toArray, List.set_cons_zero, List.set_cons_succ]))
      (refine regA 6 rfl (by kernel_rfl) (by rfl) (by rfl) true (by kernel_rfl) (fun K hK => ?_); (first
                    | (refine Go.Sep.cl 15 _ _ (by rfl) (by rfl) (by kernel_rfl) (kgraph_any (hS.re [3, 4])) ?_; rintro e w1 ⟨rfl, rfl⟩; refine ⟨_, rfl, ?_⟩)
                    | (refine Go.Sep.cl 13 _ _ (by rfl) (by rfl) (by kernel_rfl) (HSG.out _ _ (hS.re [4, 1])) ?_; rintro e w1 ⟨rfl, hS1⟩; clear hS; have hS := hS1; clear hS1; replace hS := (IsQ.mk (hS.re [2, 1, 3])).re [3, 2, 0, 1]; refine ⟨_, rfl, ?_⟩)
                    | (refine Go.Sep.cl 9 _ _ (by rfl) (by rfl) (by kernel_rfl) (krecords_any hS) ?_; rintro e w1 ⟨v1, rfl, hS1⟩; clear hS; have hS := hS1; clear hS1; obtain ⟨a1, c1, rfl, _⟩ := hS.tbShape (k := 0) rfl; replace hS := hS.re [3, 4]; refine ⟨_, rfl, ?_⟩)
                    | (refine Go.Sep.cl 10 _ _ (by rfl) (by rfl) (by kernel_rfl) (qrecords_any hS) ?_; rintro e w1 ⟨v2, rfl, hS1⟩; clear hS; have hS := hS1; clear hS1; obtain ⟨a2, c2, rfl, _⟩ := hS.tbShape (k := 0) rfl; refine ⟨_, rfl, ?_⟩)
                    | (refine Go.Sep.cl 16 _ _ (by rfl) (by rfl) (by kernel_rfl) (HSR.out _ _ hS _ _ _ _ (fun w h => h.tbRd (k := 3) rfl) (fun w h => h.tbRd (k := 0) rfl)) ?_; rintro e w1 ⟨rfl, hS1⟩; clear hS; have hS := hS1; clear hS1; refine ⟨_, rfl, ?_⟩)); refine hK _ _ _ hS (by first | (intro h; cases h; done) | exact fun _ _ h => h | exact fun _ _ h => h.drop | exact fun _ _ h => h.drop.drop | exact fun _ _ h => h.drop.pull1 | exact fun _ _ h => h.take2 | exact fun _ _ h => h.one Has.z | exact fun _ _ h => h.one (Has.s Has.z) | exact fun _ _ h => h.one (Has.s (Has.s Has.z))) ?_; clear hK K; (simp only [Act.put, List.setIfInBounds_toArray, List.set_cons_zero, List.set_cons_succ]))
      (refine regP 7 hS (fun _ h => h) rfl (by kernel_rfl) (by kernel_rfl) (by kernel_rfl) (fun _ _ _ _ h => h) (by rfl) (by rfl) ?_; apply Exists.intro; apply And.intro; (intro w; go_simp; try with_reducible rfl); (simp only [Act.put, List.setIfInBounds_toArray, List.set_cons_zero, List.set_cons_succ]))
      (refine regP 8 hS (fun _ h => h) rfl (by kernel_rfl) (by kernel_rfl) (by kernel_rfl) (fun _ _ _ _ h => h) (by rfl) (by rfl) ?_; apply Exists.intro; apply And.intro; (intro w; go_simp; try with_reducible rfl); (simp only [Act.put, List.setIfInBounds_toArray, List.set_cons_zero, List.set_cons_succ]))
      (first | (refine regP 9 hS (fun _ h => h) rfl (by kernel_rfl) (by kernel_rfl) (by kernel_rfl) (fun _ _ _ _ h => h) (by rfl) (by rfl) ?_; apply Exists.intro; apply And.intro; (intro w; go_simp; try with_reducible rfl); (simp only [Act.put, List.setIfInBounds_toArray, List.set_cons_zero, List.set_cons_succ])) | (refine regN 9 hS (fun _ h => h) rfl (by kernel_rfl) (by kernel_rfl) (by kernel_rfl) (fun _ _ _ h => h) (by rfl) (by rfl) ?_; (simp only [Act.put, List.setIfInBounds_toArray, List.set_cons_zero, List.set_cons_succ])))
      (first | (refine regP 11 hS (fun _ h => h) rfl (by kernel_rfl) (by kernel_rfl) (by kernel_rfl) (fun _ _ _ _ h => h) (by rfl) (by rfl) ?_; apply Exists.intro; apply And.intro; (intro w; go_simp; try with_reducible rfl); (simp only [Act.put, List.setIfInBounds_toArray, List.set_cons_zero, List.set_cons_succ])) | (refine regN 11 hS (fun _ h => h) rfl (by kernel_rfl) (by kernel_rfl) (by kernel_rfl) (fun _ _ _ h => h) (by rfl) (by rfl) ?_; (simp only [Act.put, List.setIfInBounds_toArray, List.set_cons_zero, List.set_cons_succ])))
      (first | (refine regA 10 rfl (by kernel_rfl) (by rfl) (by rfl) true (by kernel_rfl) (fun K hK => ?_); (first
                    | (refine Go.Sep.cl 15 _ _ (by rfl) (by rfl) (by kernel_rfl) (kgraph_any (hS.re [3, 4])) ?_; rintro e w1 ⟨rfl, rfl⟩; refine ⟨_, rfl, ?_⟩)
                    | (refine Go.Sep.cl 13 _ _ (by rfl) (by rfl) (by kernel_rfl) (HSG.out _ _ (hS.re [4, 1])) ?_; rintro e w1 ⟨rfl, hS1⟩; clear hS; have hS := hS1; clear hS1; replace hS := (IsQ.mk (hS.re [2, 1, 3])).re [3, 2, 0, 1]; refine ⟨_, rfl, ?_⟩)
                    | (refine Go.Sep.cl 9 _ _ (by rfl) (by rfl) (by kernel_rfl) (krecords_any hS) ?_; rintro e w1 ⟨v1, rfl, hS1⟩; clear hS; have hS := hS1; clear hS1; obtain ⟨a1, c1, rfl, _⟩ := hS.tbShape (k := 0) rfl; replace hS := hS.re [3, 4]; refine ⟨_, rfl, ?_⟩)
                    | (refine Go.Sep.cl 10 _ _ (by rfl) (by rfl) (by kernel_rfl) (qrecords_any hS) ?_; rintro e w1 ⟨v2, rfl, hS1⟩; clear hS; have hS := hS1; clear hS1; obtain ⟨a2, c2, rfl, _⟩ := hS.tbShape (k := 0) rfl; refine ⟨_, rfl, ?_⟩)
                    | (refine Go.Sep.cl 16 _ _ (by rfl) (by rfl) (by kernel_rfl) (HSR.out _ _ hS _ _ _ _ (fun w h => h.tbRd (k := 3) rfl) (fun w h => h.tbRd (k := 0) rfl)) ?_; rintro e w1 ⟨rfl, hS1⟩; clear hS; have hS := hS1; clear hS1; refine ⟨_, rfl, ?_⟩)); refine hK _ _ _ hS (by first | (intro h; cases h; done) | exact fun _ _ h => h | exact fun _ _ h => h.drop | exact fun _ _ h => h.drop.drop | exact fun _ _ h => h.drop.pull1 | exact fun _ _ h => h.take2 | exact fun _ _ h => h.one Has.z | exact fun _ _ h => h.one (Has.s Has.z) | exact fun _ _ h => h.one (Has.s (Has.s Has.z))) ?_; clear hK K; (simp only [Act.put, List.setIfInBounds_toArray, List.set_cons_zero, List.set_cons_succ])) | (refine regN 10 hS (fun _ h => h) rfl (by kernel_rfl) (by kernel_rfl) (by kernel_rfl) (fun _ _ _ h => h) (by rfl) (by rfl) ?_; (simp only [Act.put, List.setIfInBounds_toArray, List.set_cons_zero, List.set_cons_succ])))
      (first | (refine regA 12 rfl (by kernel_rfl) (by rfl) (by rfl) true (by kernel_rfl) (fun K hK => ?_); (first
                    | (refine Go.Sep.cl 15 _ _ (by rfl) (by rfl) (by kernel_rfl) (kgraph_any (hS.re [3, 4])) ?_; rintro e w1 ⟨rfl, rfl⟩; refine ⟨_, rfl, ?_⟩)
                    | (refine Go.Sep.cl 13 _ _ (by rfl) (by rfl) (by kernel_rfl) (HSG.out _ _ (hS.re [4, 1])) ?_; rintro e w1 ⟨rfl, hS1⟩; clear hS; have hS := hS1; clear hS1; replace hS := (IsQ.mk (hS.re [2, 1, 3])).re [3, 2, 0, 1]; refine ⟨_, rfl, ?_⟩)
                    | (refine Go.Sep.cl 9 _ _ (by rfl) (by rfl) (by kernel_rfl) (krecords_any hS) ?_; rintro e w1 ⟨v1, rfl, hS1⟩; clear hS; have hS := hS1; clear hS1; obtain ⟨a1, c1, rfl, _⟩ := hS.tbShape (k := 0) rfl; replace hS := hS.re [3, 4]; refine ⟨_, rfl, ?_⟩)
                    | (refine Go.Sep.cl 10 _ _ (by rfl) (by rfl) (by kernel_rfl) (qrecords_any hS) ?_; rintro e w1 ⟨v2, rfl, hS1⟩; clear hS; have hS := hS1; clear hS1; obtain ⟨a2, c2, rfl, _⟩ := hS.tbShape (k := 0) rfl; refine ⟨_, rfl, ?_⟩)
                    | (refine Go.Sep.cl 16 _ _ (by rfl) (by rfl) (by kernel_rfl) (HSR.out _ _ hS _ _ _ _ (fun w h => h.tbRd (k := 3) rfl) (fun w h => h.tbRd (k := 0) rfl)) ?_; rintro e w1 ⟨rfl, hS1⟩; clear hS; have hS := hS1; clear hS1; refine ⟨_, rfl, ?_⟩)); refine hK _ _ _ hS (by first | (intro h; cases h; done) | exact fun _ _ h => h | exact fun _ _ h => h.drop | exact fun _ _ h => h.drop.drop | exact fun _ _ h => h.drop.pull1 | exact fun _ _ h => h.take2 | exact fun _ _ h => h.one Has.z | exact fun _ _ h => h.one (Has.s Has.z) | exact fun _ _ h => h.one (Has.s (Has.s Has.z))) ?_; clear hK K; (simp only [Act.put, List.setIfInBounds_toArray, List.set_cons_zero, List.set_cons_succ])) | (refine regN 12 hS (fun _ h => h) rfl (by kernel_rfl) (by kernel_rfl) (by kernel_rfl) (fun _ _ _ h => h) (by rfl) (by rfl) ?_; (simp only [Act.put, List.setIfInBounds_toArray, List.set_cons_zero, List.set_cons_succ])))
      (first | (refine regA 13 rfl (by kernel_rfl) (by rfl) (by rfl) true (by kernel_rfl) (fun K hK => ?_); (first
                    | (refine Go.Sep.cl 15 _ _ (by rfl) (by rfl) (by kernel_rfl) (kgraph_any (hS.re [3, 4])) ?_; rintro e w1 ⟨rfl, rfl⟩; refine ⟨_, rfl, ?_⟩)
                    | (refine Go.Sep.cl 13 _ _ (by rfl) (by rfl) (by kernel_rfl) (HSG.out _ _ (hS.re [4, 1])) ?_; rintro e w1 ⟨rfl, hS1⟩; clear hS; have hS := hS1; clear hS1; replace hS := (IsQ.mk (hS.re [2, 1, 3])).re [3, 2, 0, 1]; refine ⟨_, rfl, ?_⟩)
                    | (refine Go.Sep.cl 9 _ _ (by rfl) (by rfl) (by kernel_rfl) (krecords_any hS) ?_; rintro e w1 ⟨v1, rfl, hS1⟩; clear hS; have hS := hS1; clear hS1; obtain ⟨a1, c1, rfl, _⟩ := hS.tbShape (k := 0) rfl; replace hS := hS.re [3, 4]; refine ⟨_, rfl, ?_⟩)
                    | (refine Go.Sep.cl 10 _ _ (by rfl) (by rfl) (by kernel_rfl) (qrecords_any hS) ?_; rintro e w1 ⟨v2, rfl, hS1⟩; clear hS; have hS := hS1; clear hS1; obtain ⟨a2, c2, rfl, _⟩ := hS.tbShape (k := 0) rfl; refine ⟨_, rfl, ?_⟩)
                    | (refine Go.Sep.cl 16 _ _ (by rfl) (by rfl) (by kernel_rfl) (HSR.out _ _ hS _ _ _ _ (fun w h => h.tbRd (k := 3) rfl) (fun w h => h.tbRd (k := 0) rfl)) ?_; rintro e w1 ⟨rfl, hS1⟩; clear hS; have hS := hS1; clear hS1; refine ⟨_, rfl, ?_⟩)); refine hK _ _ _ hS (by first | (intro h; cases h; done) | exact fun _ _ h => h | exact fun _ _ h => h.drop | exact fun _ _ h => h.drop.drop | exact fun _ _ h => h.drop.pull1 | exact fun _ _ h => h.take2 | exact fun _ _ h => h.one Has.z | exact fun _ _ h => h.one (Has.s Has.z) | exact fun _ _ h => h.one (Has.s (Has.s Has.z))) ?_; clear hK K; (simp only [Act.put, List.setIfInBounds_toArray, List.set_cons_zero, List.set_cons_succ])) | (refine regN 13 hS (fun _ h => h) rfl (by kernel_rfl) (by kernel_rfl) (by kernel_rfl) (fun _ _ _ h => h) (by rfl) (by rfl) ?_; (simp only [Act.put, List.setIfInBounds_toArray, List.set_cons_zero, List.set_cons_succ])))
      (first | (refine regP 14 hS (fun _ h => h) rfl (by kernel_rfl) (by kernel_rfl) (by kernel_rfl) (fun _ _ _ _ h => h) (by rfl) (by rfl) ?_; apply Exists.intro; apply And.intro; (intro w; go_simp; try with_reducible rfl); (simp only [Act.put, List.setIfInBounds_toArray, List.set_cons_zero, List.set_cons_succ])) | (refine regN 14 hS (fun _ h => h) rfl (by kernel_rfl) (by kernel_rfl) (by kernel_rfl) (fun _ _ _ h => h) (by rfl) (by rfl) ?_; (simp only [Act.put, List.setIfInBounds_toArray, List.set_cons_zero, List.set_cons_succ])))
      (refine regP 15 hS (fun _ h => h) rfl (by kernel_rfl) (by kernel_rfl) (by kernel_rfl) (fun _ _ _ _ h => h) (by rfl) (by rfl) ?_; apply Exists.intro; apply And.intro; (intro w; go_simp; try with_reducible rfl); (simp only [Act.put, List.setIfInBounds_toArray, List.set_cons_zero, List.set_cons_succ]))
      refine regDone (by kernel_rfl) ?_
      replace hS := hS.re [4, 5]
      go_wp2_with (first
        | (go_at_call 9; refine (krecords_any (K := K.clean) hS).mono ?_; rintro e w1 ⟨v3, rfl, hS1⟩; clear hS; have hS := (show Sat W w1 (Tb 64 3 rv v3 ([] : List RecD) :: _) from hS1); clear hS1; obtain ⟨a3, c3, rfl, _⟩ := hS.tbShape (k := 0) rfl)
        | (go_at_call 14; refine (awake_any hS).mono ?_; rintro e w1 ⟨rfl, hS1⟩; clear hS; have hS := hS1; clear hS1))
      go_ret
      exact ⟨rfl, hS.map fun _ _ => trivial⟩

set_option maxRecDepth 100000 in
theorem VPlays.contract (H : Type) (enc : TypeId × Value → H) (W : World) (base : Nat) (args : Array Value) (ds gs : List (DataW H)) (before : List MemPlace)
    (hval : ∀ (j : Nat) t v, Tryz.f4.params[j]? = some t → args[j]? = some v → Value.okWide Tryz.prog W .any base t v)
    (hW : DataW.Whole enc Tryz.prog Tryz.f4.params.toList Rows.versionPlaysSpec.vars false W args.toList ds gs before)
    (hreach : (DataW.weightsEach Tryz.prog (Tryz.f4.params.toList ++ Rows.versionPlaysSpec.plain.varTypes Tryz.prog) (ds ++ gs)).all (· ≤ reachBytes) = true) :
    Calls Tryz.prog 4 args W fun e W' => ∃ v, e = .returned v ∧ Rows.versionPlaysSpec.post enc Tryz.prog Tryz.f4 false true false false W args v W' := by
  have hW' := hW
  obtain ⟨p, q, hA, hV, rfl, hfz, hnd⟩ := hW
  rw [Tryz.params4] at hA hval hreach
  obtain ⟨v0, vs0, d0, ds0, p0, q0, hargs, rfl, rfl, h0, r0⟩ := trodAll_cons hA
  obtain ⟨rfl, rfl, rfl⟩ := trodAll_nil r0
  obtain rfl : args = #[v0] := by cases args; simp_all
  obtain ⟨rfl, rfl⟩ := trodVars_none hV
  obtain ⟨ao0, len0, cap0, rfl⟩ := okWide_slice Tryz.underlying22 (hval 0 22 v0 rfl rfl)
  obtain ⟨l, rfl, hr0, hl0⟩ := open_vops h0
  refine (VPlays.walk l ao0 cap0 W hr0).mono ?_
  refine fun e W' ⟨he, hS⟩ => ?_
  subst he
  exact ⟨_, rfl, law_post (tb := 4) (by kernel_rfl) (by kernel_rfl) rfl Tryz.underlying4 rfl hW' rfl hS⟩

theorem VPlays.own : ownKnob Tryz.prog.godebug = none := by kernel_rfl
set_option maxRecDepth 100000 in
theorem VPlays.lifted (os : Os) (started : os.Started) (H : Type) (enc : TypeId × Value → H) :
    ReturnsInHanded {} Tryz.checked os 4 .any (Rows.versionPlaysSpec.pre6 enc Tryz.prog Tryz.f4 Rows.versionPlaysRow.domain false) (Rows.versionPlaysSpec.post enc Tryz.prog Tryz.f4 false true false false) := by
  refine returnsInHanded_of_change_shaped (C := Tryz.checked) VPlays.own started (by kernel_rfl) Tryz.func4
    (ChangeSpec.witness6 (enc := enc) (C := Tryz.checked) false ⟨#[], #[.slice none 0 0], []⟩ 8 (by kernel_rfl) (by kernel_rfl) (by kernel_rfl) (by kernel_rfl)) ?_
  intro W base args ds gs before hval hW _ hreach _ _
  exact VPlays.contract H enc W base args ds gs before hval hW hreach

theorem VPlays.holds : Rows.VersionPlaysSaid :=
  OpenClaim.holds_of_wide 4 Tryz.f4 rfl rfl rfl rfl rfl rfl rfl ⟨rfl, rfl, rfl, rfl, rfl⟩ rfl rfl rfl rfl rfl (by kernel_rfl) Tryz.func4 (by kernel_rfl)
    (of_decide_eq_true (by kernel_rfl)) (by unfold Func.isWrapper; first | (rw [if_pos (by decide +kernel)]; kernel_rfl) | (rw [if_neg (by decide +kernel)]; exact ⟨rfl, rfl⟩))
    (fun os started H enc _ => VPlays.lifted os started H enc)
end Go.Proofs.YtapodjhkpahdnaaGreat
