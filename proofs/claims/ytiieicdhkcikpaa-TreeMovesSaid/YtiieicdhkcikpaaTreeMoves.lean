/-
  For all scripts and paths, TreeMoves answers true: no condition.
-/
import Derived.Test.YtiieicdhkcikpaaMDo
import Derived.Test.YtiieicdhkcikpaaTrSame
import Derived.Test.YtiieicdhkcikpaaMLaw
import Derived.Test.YtiieicdhkcikpaaTrMovP
namespace Go.Proofs.Ytiieicdhkcikpaa
open Go.RowKit Go.Sep Go.ChangeShapes Go.WideShapes Go.ChangeAt
set_option linter.unusedSimpArgs false
set_option linter.unusedVariables false
attribute [local irreducible] Go.Oper.wp Go.wpList Go.Calls Go.Code.wp Go.Sep.Reg
attribute [local irreducible] IsT IsW
set_option maxRecDepth 20000 in
set_option maxHeartbeats 4000000 in
theorem Moves.walk (l : List TOp) (ao : Option Addr) (c : Nat) (fr to : List Int) (aof aot : Option Addr) (cf ct : Nat) (W : World) (hr : Rd W (.slice ao l.length c) l.length 5 (l.flatMap opv)) (hx : ∀ x ∈ l, x.Ok W)
    (hrf : Rd W (.slice aof fr.length cf) fr.length 1 (fr.flatMap inv1)) (hbf : ∀ x ∈ fr, i64B x) (hrt : Rd W (.slice aot to.length ct) to.length 1 (to.flatMap inv1)) (hbt : ∀ x ∈ to, i64B x) :
    Calls Try.prog 7 #[.slice ao l.length c, .slice aof fr.length cf, .slice aot to.length ct] W fun e w' => e = .returned (.bool true) ∧ Sat W w' [] := by
  have hS := Sat.start W
  have HR := Lib.hid (fun u (L : List Asrt) (h : Sat W u L) => hr.old h)
  obtain ⟨_, _, he, hc1, hc2, _, h5⟩ := hr
  simp only [Value.slice.injEq, true_and] at he
  obtain ⟨rfl, rfl⟩ := he
  have H5 := Lib.hid h5
  have HOX := Lib.hid hx
  obtain ⟨ls, hls⟩ : ∃ ls, namesD fr = ls := ⟨_, rfl⟩
  obtain ⟨ms, hms⟩ : ∃ ms, namesD to = ms := ⟨_, rfl⟩
  have hll : ls.length ≤ 1000000 := by rw [← hls]; have := namesD_len fr; omega
  have hml : ms.length ≤ 1000000 := by rw [← hms]; have := namesD_len to; omega
  have HN1 := Lib.hid (fun w Lc (h : Sat W w Lc) => by have := names_any h fr aof cf (fun w L' h => hrf.old h) hbf; rw [hls] at this; exact this)
  have HN2 := Lib.hid (fun w Lc (h : Sat W w Lc) => by have := names_any h to aot ct (fun w L' h => hrt.old h) hbt; rw [hms] at this; exact this)
  clear h5 hx hrf hrt hbf hbt hls hms
  go_enter Try.func7, Try.ntmps7
  go_wp2_with (first
    | (go_at_call 10; refine (tnew_any hS).mono ?_; rintro r w1 ⟨p, rfl, hS1⟩; clear hS; have hS := hS1; clear hS1)
    | (go_at_call 21; refine (rnew_any hS).mono ?_; rintro r w1 ⟨q, rfl, hS1⟩; clear hS; have hS := hS1; clear hS1; replace hS := hS.pull1))
  have H0 := Lib.hid hS
  go_loopw [9] (fun v wz => ∃ (i : Nat) (T : TrD), v = .int .i64 i ∧ i ≤ l.length ∧ i ≤ 50 ∧ T.Ok ∧ T.Tre ∧ Sat W wz [IsT p T, IsW q T]) (fun v _ => 50 - (intOf v).toNat)
  case atStart => exact ⟨0, TrD.new, rfl, by omega, by omega, TrD.new_ok, TrD.new_tre, H0.out⟩
  case round =>
    clear hS H0
    obtain ⟨i, T, rfl, hi, hi5, hok, htre, hS⟩ := hrel
    by_cases hgo : i < l.length ∧ i < 50
    · obtain ⟨hlt, hl5⟩ := hgo
      obtain ⟨bb, off, rfl, _⟩ := H5.out (by omega)
      obtain ⟨x, hx⟩ : ∃ x, l[i]? = some x := ⟨_, List.getElem?_eq_getElem hlt⟩
      have j1 : (i : Int) < (l.length : Int) := by omega
      have j2 : (i : Int) < 50 := by omega
      have HX := Lib.hid hx
      have HLT := Lib.hid hlt
      have HL5 := Lib.hid hl5
      have hok2 := hok.stepO x
      have htre2 := htre.stepO hok x
      have HDO := Lib.hid (fun w (h2 : Sat W w [IsT p T, IsW q T]) => do_any h2 hok x (HOX.out x (List.mem_of_getElem? hx)))
      obtain ⟨T2, hT2⟩ : ∃ T2, T.step x = T2 := ⟨_, rfl⟩
      rw [hT2] at HDO hok2 htre2
      have HOK2 := Lib.hid hok2
      have HTR2 := Lib.hid htre2
      obtain ⟨xk, lv, xl, tv, to, xw, rv, raw⟩ := x
      clear hx hlt hl5 hT2 hi hi5 hok hok2 htre htre2
      go_wp2_with (first
        | (refine toList (by rfl) ?_; refine wp_of_reads (rLdRdA (f := opv) (x := ⟨xk, lv, xl, tv, to, xw, rv, raw⟩) (HR.out _ _ hS) (opv_len l) _ _ (by rfl) _ (by rfl) (agOf (by rfl)) (szOf (by rfl)) i (by omega) HX.out (by omega)) ?_)
        | (go_at_call 22; refine (HDO.out _ hS).mono ?_; rintro e w1 ⟨rfl, hS1⟩; clear hS; have hS := hS1; clear hS1))
      exact ⟨⟨i + 1, T2, by go_num, HLT.out, HL5.out, HOK2.out, HTR2.out, hS⟩, by simp [intOf]; have := HL5.out; omega⟩
    · have hcase : (decide ((i : Int) < (l.length : Int)) = false ∧ decide (i < l.length) = false ∧ ¬ (i : Int) < (l.length : Int)) ∨ ((decide ((i : Int) < (l.length : Int)) = true ∧ decide (i < l.length) = true ∧ (i : Int) < (l.length : Int)) ∧ decide ((i : Int) < 50) = false ∧ decide (i < 50) = false ∧ ¬ (i : Int) < 50) := by
        by_cases h : i < l.length
        · exact .inr ⟨⟨decide_eq_true (by omega), decide_eq_true h, by omega⟩, decide_eq_false (by omega), decide_eq_false (by omega), by omega⟩
        · exact .inl ⟨decide_eq_false (by omega), decide_eq_false h, by omega⟩
      clear hgo hi hi5
      obtain ⟨xi, hxi, hxi48⟩ := hok.walk_lt ls 0 (by omega)
      obtain ⟨el, hel⟩ : ∃ el, (T.walk 0 ls).2 = el := ⟨_, rfl⟩
      obtain ⟨mi, hmi⟩ : ∃ mi, (T.walk 0 ms).1 = mi := ⟨_, rfl⟩
      obtain ⟨em, hem⟩ : ∃ em, (T.walk 0 ms).2 = em := ⟨_, rfl⟩
      have HWM := Lib.hid (fun w ao1 c1 ao2 c2 R (h : Sat W w (IsT p T :: IsW q T :: Tb 9 1 sv1 (.slice ao1 ls.length c1) ls :: Tb 9 1 sv1 (.slice ao2 ms.length c2) ms :: R)) => by have := twalk_any h hok ms ao2 c2 (fun w L' h => h.tbRd (has_at (k := 2) rfl)) hml; rw [hmi, hem] at this; exact this)
      have HWL := Lib.hid (fun w ao1 c1 ao2 c2 R (h : Sat W w (IsT p T :: IsW q T :: Tb 9 1 sv1 (.slice ao1 ls.length c1) ls :: Tb 9 1 sv1 (.slice ao2 ms.length c2) ms :: R)) => by have := twalk_any h hok ls ao1 c1 (fun w L' h => h.tbRd (has_at (k := 1) rfl)) hll; rw [hxi, hel] at this; exact this)
      by_cases h0 : el = 0
      · by_cases hm0 : em = 3 ∨ em = 8
        · subst h0
          have hwl : T.walk 0 ls = ((xi : Int), 0) := by rw [← hxi, ← hel]
          have hwm : (T.walk 0 ms).2 ≠ 0 := by rw [hem]; omega
          have hkI : T.dirI (xi : Int) = T.dir xi := by unfold TrD.dirI inR; rw [decide_eq_true (by omega : (0 : Int) ≤ (xi : Int)), decide_eq_true (by omega : (xi : Int) < 48), Int.toNat_natCast]; rfl
          have HEN := Lib.hid (fun w Lc (h : Sat W w (IsT p T :: Lc)) => by have := tentries_any h hok (xi : Int); rw [hkI] at this; exact this)
          have HRN0 := Lib.hid (fun w ao1 c1 ao2 c2 R (h : Sat W w (IsT p T :: IsW q T :: Tb 9 1 sv1 (.slice ao1 ls.length c1) ls :: Tb 9 1 sv1 (.slice ao2 ms.length c2) ms :: R)) => trename_any h hok ls ms ao1 ao2 c1 c2 (fun w L' h => h.tbRd (has_at (k := 1) rfl)) hll (fun w L' h => h.tbRd (has_at (k := 2) rfl)) hml)
          by_cases hE : T.rnE ls ms = 0
          · obtain ⟨m1, m2, m3, m4, m5, m6, m7, m8, m9⟩ := htre.moves hok hwl hwm hE
            have hok1 := hok.rn ls ms
            have hok2 := hok1.rn ms ls
            have hdI : (T.rn ls ms).dirI (xi : Int) = T.dir xi := by unfold TrD.dirI inR; rw [decide_eq_true (by omega : (0 : Int) ≤ (xi : Int)), decide_eq_true (by omega : (xi : Int) < 48), Int.toNat_natCast, ← m5]; rfl
            have HRN := Lib.hid (fun w ao1 c1 ao2 c2 R (h : Sat W w (IsT p T :: IsW q T :: Tb 9 1 sv1 (.slice ao1 ls.length c1) ls :: Tb 9 1 sv1 (.slice ao2 ms.length c2) ms :: R)) => by have := HRN0.out w ao1 c1 ao2 c2 R h; rw [m1, m2, hE] at this; exact this)
            obtain ⟨fx, hfx⟩ : ∃ fx, ((T.rn ls ms).walk 0 ls).1 = fx := ⟨_, rfl⟩
            obtain ⟨fe, hfe⟩ : ∃ fe, ((T.rn ls ms).walk 0 ls).2 = fe := ⟨_, rfl⟩
            obtain ⟨ry, hry⟩ : ∃ ry, (T.rn ls ms).rnY ms ls = ry := ⟨_, rfl⟩
            have HWM1 := Lib.hid (fun w ao1 c1 ao2 c2 R (h : Sat W w (IsT p (T.rn ls ms) :: IsW q T :: Tb 9 1 sv1 (.slice ao1 ls.length c1) ls :: Tb 9 1 sv1 (.slice ao2 ms.length c2) ms :: R)) => by have := twalk_any h hok1 ms ao2 c2 (fun w L' h => h.tbRd (has_at (k := 2) rfl)) hml; rw [m3] at this; exact this)
            have HWL1 := Lib.hid (fun w ao1 c1 ao2 c2 R (h : Sat W w (IsT p (T.rn ls ms) :: IsW q T :: Tb 9 1 sv1 (.slice ao1 ls.length c1) ls :: Tb 9 1 sv1 (.slice ao2 ms.length c2) ms :: R)) => by have := twalk_any h hok1 ls ao1 c1 (fun w L' h => h.tbRd (has_at (k := 1) rfl)) hll; rw [hfx, hfe] at this; exact this)
            have HEN1 := Lib.hid (fun w Lc (h : Sat W w (IsT p (T.rn ls ms) :: Lc)) => by have := tentries_any h hok1 (xi : Int); rw [hdI] at this; exact this)
            have HRN1 := Lib.hid (fun w ao1 c1 ao2 c2 R (h : Sat W w (IsT p (T.rn ls ms) :: IsW q T :: Tb 9 1 sv1 (.slice ao1 ls.length c1) ls :: Tb 9 1 sv1 (.slice ao2 ms.length c2) ms :: R)) => by have := trename_any h hok1 ms ls ao2 ao1 c2 c1 (fun w L' h => h.tbRd (has_at (k := 2) rfl)) hml (fun w L' h => h.tbRd (has_at (k := 1) rfl)) hll; rw [m6, m7, hry] at this; exact this)
            have hTT : ((T.rn ls ms).rn ms ls).lst T.last = T := by
              unfold TrD.lst
              rw [m8, m9]
            obtain ⟨T1, hT1⟩ : ∃ T1, T.rn ls ms = T1 := ⟨_, rfl⟩
            rw [hT1] at HRN HWM1 HWL1 HEN1 HRN1 hok2 hTT
            obtain ⟨T2, hT2⟩ : ∃ T2, T1.rn ms ls = T2 := ⟨_, rfl⟩
            rw [hT2] at HRN1 hok2 hTT
            have HSM := Lib.hid (fun w Lc (h2 : Sat W w (IsT p T2 :: IsW q T :: Lc)) => by
              have := same_tree (T := T2) (l2 := T.last) (p := p) (q := q) (L := Lc) (by rw [hTT]; exact h2) hok2 hok.lst
              rw [hTT] at this
              exact this)
            have hlen := hok.len _ (hok.dir_mem hxi48)
            obtain ⟨kd, hkd⟩ : ∃ kd, T.dir xi = kd := ⟨_, rfl⟩
            rw [hkd] at HEN HEN1 hlen
            have HSE := Lib.hid (fun w Lc ao ao' c c' (h : Sat W w Lc) hr hr' => sameE_any h kd ao ao' c c' hr hr' (by omega))
            have d1 : (fe == 0) = false := beq_eq_false_iff_ne.2 (by rw [← hfe]; exact m4)
            clear hwl hwm hkI hdI m1 m2 m3 m4 m5 m6 m7 m8 m9 hok1 hok2 hTT hT1 hT2 hkd hE hok htre hxi hel hmi hem hfx hfe hry HRN0
            rcases hcase with ⟨k1, k2, k3⟩ | ⟨⟨k1, k2, k3⟩, k4, k5, k6⟩ <;> rcases hm0 with rfl | rfl
            all_goals
              go_wp2_with (first
                | (go_at_call 25; refine (HN1.out _ _ hS).mono ?_; rintro e w1 ⟨nv1, rfl, hS1⟩; clear hS; have hS := hS1; clear hS1; obtain ⟨ao1, c1, rfl, _⟩ := hS.tbShape (k := 0) rfl)
                        | (go_at_call 25; refine (HN2.out _ _ hS).mono ?_; rintro e w1 ⟨nv2, rfl, hS1⟩; clear hS; have hS := hS1; clear hS1; obtain ⟨ao2, c2, rfl, _⟩ := hS.tbShape (k := 0) rfl; have hS' := (show Sat W _ (IsT p T :: IsW q T :: Tb 9 1 sv1 (.slice ao1 ls.length c1) ls :: Tb 9 1 sv1 (.slice ao2 ms.length c2) ms :: []) from hS.re [2, 3, 1, 0]); clear hS; have hS := hS'; clear hS')
                        | (go_at_call 26; refine (HWM.out _ _ _ _ _ _ hS).mono ?_; rintro e w1 ⟨rfl, hS1⟩; clear hS; have hS := hS1; clear hS1)
                        | (go_at_call 26; refine (HWL.out _ _ _ _ _ _ hS).mono ?_; rintro e w1 ⟨rfl, hS1⟩; clear hS; have hS := hS1; clear hS1)
                | (go_at_call 27; refine (HEN.out _ _ hS).mono ?_; rintro e w1 ⟨ve, rfl, hS1⟩; clear hS; have hS := hS1; clear hS1; obtain ⟨aoe, ce, rfl, _⟩ := Sat.tbShape (k := 0) (show Sat _ _ (Tb 59 2 ev2 ve kd :: _) from hS) rfl; have hS' := (show Sat W _ (IsT p T :: IsW q T :: Tb 9 1 sv1 (.slice ao1 ls.length c1) ls :: Tb 9 1 sv1 (.slice ao2 ms.length c2) ms :: [Er (.slice aoe kd.length ce) kd]) from hS.re [1, 2, 3, 4, 0]); clear hS; have hS := hS'; clear hS')
                | (go_at_call 28; refine (HRN.out _ _ _ _ _ _ hS).mono ?_; rintro e w1 ⟨rfl, hS1⟩; clear hS; have hS := hS1; clear hS1)
                | (go_at_call 26; refine (HWM1.out _ _ _ _ _ _ hS).mono ?_; rintro e w1 ⟨rfl, hS1⟩; clear hS; have hS := hS1; clear hS1)
                | (go_at_call 26; refine (HWL1.out _ _ _ _ _ _ hS).mono ?_; rintro e w1 ⟨rfl, hS1⟩; clear hS; have hS := hS1; clear hS1)
                | (go_at_call 27; refine (HEN1.out _ _ hS).mono ?_; rintro e w1 ⟨vf, rfl, hS1⟩; clear hS; have hS := hS1; clear hS1; obtain ⟨aof2, cf2, rfl, _⟩ := Sat.tbShape (k := 0) (show Sat _ _ (Tb 59 2 ev2 vf kd :: _) from hS) rfl)
                | (go_at_call 29; refine (HSE.out _ _ _ _ _ _ hS (fun w h => Sat.tbRd (k := 0) (show Sat _ _ (Tb 59 2 ev2 _ kd :: _) from h) rfl) (fun w h => Sat.tbRd (k := 5) (show Sat _ _ (_ :: _ :: _ :: _ :: _ :: Tb 59 2 ev2 _ kd :: _) from h) rfl)).mono ?_; rintro e w1 ⟨rfl, hS1⟩; clear hS; have hS := hS1.drop; clear hS1)
                | (go_at_call 28; refine (HRN1.out _ _ _ _ _ _ hS).mono ?_; rintro e w1 ⟨rfl, hS1⟩; clear hS; have hS := hS1; clear hS1)
                | (go_at_call 23; refine (HSM.out _ _ hS).mono ?_; rintro e w1 ⟨rfl, hS1⟩; clear hS; have hS := hS1; clear hS1)
                | (go_at_call 18; refine (wake_any hS).mono ?_; rintro e w1 ⟨rfl, hS1⟩; clear hS; have hS := hS1; clear hS1))
              go_ret
              exact ⟨rfl, hS.map fun _ _ => trivial⟩
          · obtain ⟨hX, hY, hM⟩ := rn_err (l := ls) (to := ms) hE
            have HRN := Lib.hid (fun w ao1 c1 ao2 c2 R (h : Sat W w (IsT p T :: IsW q T :: Tb 9 1 sv1 (.slice ao1 ls.length c1) ls :: Tb 9 1 sv1 (.slice ao2 ms.length c2) ms :: R)) => by have := HRN0.out w ao1 c1 ao2 c2 R h; rw [hX, hY, hM] at this; exact this)
            obtain ⟨fe, hfe⟩ : ∃ fe, T.rnE ls ms = fe := ⟨_, rfl⟩
            rw [hfe] at HRN hE
            have d1 : (fe != 0) = true := bne_iff_ne.2 hE
            obtain ⟨kd, hkd⟩ : ∃ kd, T.dir xi = kd := ⟨_, rfl⟩
            rw [hkd] at HEN
            clear hwl hwm hkI hX hY hM hE hok htre hxi hel hmi hem hfe hkd HRN0
            rcases hcase with ⟨k1, k2, k3⟩ | ⟨⟨k1, k2, k3⟩, k4, k5, k6⟩ <;> rcases hm0 with rfl | rfl
            all_goals
              go_wp2_with (first
                | (go_at_call 25; refine (HN1.out _ _ hS).mono ?_; rintro e w1 ⟨nv1, rfl, hS1⟩; clear hS; have hS := hS1; clear hS1; obtain ⟨ao1, c1, rfl, _⟩ := hS.tbShape (k := 0) rfl)
                        | (go_at_call 25; refine (HN2.out _ _ hS).mono ?_; rintro e w1 ⟨nv2, rfl, hS1⟩; clear hS; have hS := hS1; clear hS1; obtain ⟨ao2, c2, rfl, _⟩ := hS.tbShape (k := 0) rfl; have hS' := (show Sat W _ (IsT p T :: IsW q T :: Tb 9 1 sv1 (.slice ao1 ls.length c1) ls :: Tb 9 1 sv1 (.slice ao2 ms.length c2) ms :: []) from hS.re [2, 3, 1, 0]); clear hS; have hS := hS'; clear hS')
                        | (go_at_call 26; refine (HWM.out _ _ _ _ _ _ hS).mono ?_; rintro e w1 ⟨rfl, hS1⟩; clear hS; have hS := hS1; clear hS1)
                        | (go_at_call 26; refine (HWL.out _ _ _ _ _ _ hS).mono ?_; rintro e w1 ⟨rfl, hS1⟩; clear hS; have hS := hS1; clear hS1)
                | (go_at_call 27; refine (HEN.out _ _ hS).mono ?_; rintro e w1 ⟨ve, rfl, hS1⟩; clear hS; have hS := hS1; clear hS1; obtain ⟨aoe, ce, rfl, _⟩ := Sat.tbShape (k := 0) (show Sat _ _ (Tb 59 2 ev2 ve kd :: _) from hS) rfl; replace hS := hS.drop)
                | (go_at_call 28; refine (HRN.out _ _ _ _ _ _ hS).mono ?_; rintro e w1 ⟨rfl, hS1⟩; clear hS; have hS := hS1; clear hS1)
                | (go_at_call 18; refine (wake_any hS).mono ?_; rintro e w1 ⟨rfl, hS1⟩; clear hS; have hS := hS1; clear hS1))
              go_ret
              exact ⟨rfl, hS.map fun _ _ => trivial⟩
        · have d1 : (em != 3) = true := bne_iff_ne.2 (fun e => hm0 (.inl e))
          have d2 : (em != 8) = true := bne_iff_ne.2 (fun e => hm0 (.inr e))
          subst h0
          clear hm0 hok htre hxi hel hmi hem
          rcases hcase with ⟨k1, k2, k3⟩ | ⟨⟨k1, k2, k3⟩, k4, k5, k6⟩
          all_goals
            go_wp2_with (first
              | (go_at_call 25; refine (HN1.out _ _ hS).mono ?_; rintro e w1 ⟨nv1, rfl, hS1⟩; clear hS; have hS := hS1; clear hS1; obtain ⟨ao1, c1, rfl, _⟩ := hS.tbShape (k := 0) rfl)
                      | (go_at_call 25; refine (HN2.out _ _ hS).mono ?_; rintro e w1 ⟨nv2, rfl, hS1⟩; clear hS; have hS := hS1; clear hS1; obtain ⟨ao2, c2, rfl, _⟩ := hS.tbShape (k := 0) rfl; have hS' := (show Sat W _ (IsT p T :: IsW q T :: Tb 9 1 sv1 (.slice ao1 ls.length c1) ls :: Tb 9 1 sv1 (.slice ao2 ms.length c2) ms :: []) from hS.re [2, 3, 1, 0]); clear hS; have hS := hS'; clear hS')
                      | (go_at_call 26; refine (HWM.out _ _ _ _ _ _ hS).mono ?_; rintro e w1 ⟨rfl, hS1⟩; clear hS; have hS := hS1; clear hS1)
                      | (go_at_call 26; refine (HWL.out _ _ _ _ _ _ hS).mono ?_; rintro e w1 ⟨rfl, hS1⟩; clear hS; have hS := hS1; clear hS1)
              | (go_at_call 18; refine (wake_any hS).mono ?_; rintro e w1 ⟨rfl, hS1⟩; clear hS; have hS := hS1; clear hS1))
            go_ret
            exact ⟨rfl, hS.map fun _ _ => trivial⟩
      · have d1 : (el != 0) = true := bne_iff_ne.2 h0
        clear h0 hok htre hxi hel hmi hem
        rcases hcase with ⟨k1, k2, k3⟩ | ⟨⟨k1, k2, k3⟩, k4, k5, k6⟩
        all_goals
          go_wp2_with (first
            | (go_at_call 25; refine (HN1.out _ _ hS).mono ?_; rintro e w1 ⟨nv1, rfl, hS1⟩; clear hS; have hS := hS1; clear hS1; obtain ⟨ao1, c1, rfl, _⟩ := hS.tbShape (k := 0) rfl)
                    | (go_at_call 25; refine (HN2.out _ _ hS).mono ?_; rintro e w1 ⟨nv2, rfl, hS1⟩; clear hS; have hS := hS1; clear hS1; obtain ⟨ao2, c2, rfl, _⟩ := hS.tbShape (k := 0) rfl; have hS' := (show Sat W _ (IsT p T :: IsW q T :: Tb 9 1 sv1 (.slice ao1 ls.length c1) ls :: Tb 9 1 sv1 (.slice ao2 ms.length c2) ms :: []) from hS.re [2, 3, 1, 0]); clear hS; have hS := hS'; clear hS')
                    | (go_at_call 26; refine (HWM.out _ _ _ _ _ _ hS).mono ?_; rintro e w1 ⟨rfl, hS1⟩; clear hS; have hS := hS1; clear hS1)
                    | (go_at_call 26; refine (HWL.out _ _ _ _ _ _ hS).mono ?_; rintro e w1 ⟨rfl, hS1⟩; clear hS; have hS := hS1; clear hS1)
            | (go_at_call 18; refine (wake_any hS).mono ?_; rintro e w1 ⟨rfl, hS1⟩; clear hS; have hS := hS1; clear hS1))
          go_ret
          exact ⟨rfl, hS.map fun _ _ => trivial⟩

set_option maxRecDepth 100000 in
theorem Moves.contract (H : Type) (enc : TypeId × Value → H) (W : World) (base : Nat) (args : Array Value) (ds gs : List (DataW H)) (before : List MemPlace)
    (hval : ∀ (j : Nat) t v, Try.f7.params[j]? = some t → args[j]? = some v → Value.okWide Try.prog W .any base t v)
    (hW : DataW.Whole enc Try.prog Try.f7.params.toList Rows.treeMovesSpec.vars false W args.toList ds gs before)
    (hreach : (DataW.weightsEach Try.prog (Try.f7.params.toList ++ Rows.treeMovesSpec.plain.varTypes Try.prog) (ds ++ gs)).all (· ≤ reachBytes) = true) :
    Calls Try.prog 7 args W fun e W' => ∃ v, e = .returned v ∧ Rows.treeMovesSpec.post enc Try.prog Try.f7 false true false false W args v W' := by
  have hW' := hW
  obtain ⟨p, q, hA, hV, rfl, hfz, hnd⟩ := hW
  rw [Try.params7] at hA hval hreach
  obtain ⟨v0, vs0, d0, ds0, p0, q0, hargs, rfl, rfl, h0, r0⟩ := trodAll_cons hA
  obtain ⟨v1, vs1, d1, ds1, p1, q1, hargs1, rfl, rfl, h1, r1⟩ := trodAll_cons r0
  obtain ⟨v2, vs2, d2, ds2, p2, q2, hargs2, rfl, rfl, h2, r2⟩ := trodAll_cons r1
  obtain ⟨rfl, rfl, rfl⟩ := trodAll_nil r2
  obtain rfl : args = #[v0, v1, v2] := by cases args; simp_all
  obtain ⟨rfl, rfl⟩ := trodVars_none hV
  obtain ⟨ao0, len0, cap0, rfl⟩ := okWide_slice Try.underlying41 (hval 0 41 v0 rfl rfl)
  obtain ⟨ao1, len1, cap1, rfl⟩ := okWide_slice Try.underlying36 (hval 1 36 v1 rfl rfl)
  obtain ⟨ao2, len2, cap2, rfl⟩ := okWide_slice Try.underlying36 (hval 2 36 v2 rfl rfl)
  obtain ⟨l, rfl, hr0, hl0⟩ := open_tops h0
  obtain ⟨f, rfl, hr1, hb1, _⟩ := open_nums Try.underlying36 Try.underlying3 (by kernel_rfl) h1
  obtain ⟨t, rfl, hr2, hb2, _⟩ := open_nums Try.underlying36 Try.underlying3 (by kernel_rfl) h2
  refine (Moves.walk l ao0 cap0 f t ao1 ao2 cap1 cap2 W hr0 hl0 (by rw [inv1_fm]; exact hr1) (fun y hy => i64_of (hb1 y hy)) (by rw [inv1_fm]; exact hr2) (fun y hy => i64_of (hb2 y hy))).mono ?_
  refine fun e W' ⟨he, hS⟩ => ?_
  subst he
  exact ⟨_, rfl, law_post (tb := 4) (by kernel_rfl) (by kernel_rfl) rfl Try.underlying4 rfl hW' rfl hS⟩

theorem Moves.own : ownKnob Try.prog.godebug = none := by kernel_rfl
set_option maxRecDepth 100000 in
theorem Moves.lifted (os : Os) (started : os.Started) (H : Type) (enc : TypeId × Value → H) :
    ReturnsInHanded {} Try.checked os 7 .any (Rows.treeMovesSpec.pre6 enc Try.prog Try.f7 Rows.treeMovesRow.domain false) (Rows.treeMovesSpec.post enc Try.prog Try.f7 false true false false) := by
  refine returnsInHanded_of_change_shaped (C := Try.checked) Moves.own started (by kernel_rfl) Try.func7
    (ChangeSpec.witness6 (enc := enc) (C := Try.checked) false ⟨#[], #[.slice none 0 0, .slice none 0 0, .slice none 0 0], []⟩ 8 (by kernel_rfl) (by kernel_rfl) (by kernel_rfl) (by kernel_rfl)) ?_
  intro W base args ds gs before hval hW _ hreach _ _
  exact Moves.contract H enc W base args ds gs before hval hW hreach

theorem Moves.holds : Rows.TreeMovesSaid :=
  OpenClaim.holds_of_wide 7 Try.f7 rfl rfl rfl rfl rfl rfl rfl ⟨rfl, rfl, rfl, rfl, rfl⟩ rfl rfl rfl rfl rfl (by kernel_rfl) Try.func7 (by kernel_rfl)
    (of_decide_eq_true (by kernel_rfl)) (by unfold Func.isWrapper; first | (rw [if_pos (by decide +kernel)]; kernel_rfl) | (rw [if_neg (by decide +kernel)]; exact ⟨rfl, rfl⟩))
    (fun os started H enc _ => Moves.lifted os started H enc)
end Go.Proofs.Ytiieicdhkcikpaa
