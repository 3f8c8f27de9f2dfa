/-
  For all writes, WalWrites answers true: no condition.
-/
import Derived.Test.YtefbkpggmmhgcaaWlAw
namespace Go.Proofs.Ytefbkpggmmhgcaa
open Go.RowKit Go.Sep Go.ChangeShapes Go.WideShapes Go.ChangeAt
set_option linter.unusedSimpArgs false
set_option linter.unusedVariables false
attribute [local irreducible] Go.Oper.wp Go.wpList Go.Calls Go.Code.wp Go.Sep.Reg
theorem rowTb {W w : World} {L : List Asrt} {xs : List GW} {v : Value} (h : Sat W w (Tb 40 2 gw v xs :: St (xs.map grow) :: L)) {i : Nat} {x : GW} (hx : xs[i]? = some x) : Rd w x.val x.data.length 1 (bv x.data) := (grows_rd h).2 x (List.mem_of_getElem? hx)
set_option maxRecDepth 20000 in
set_option maxHeartbeats 4000000 in
theorem Writes.walk (l : List WD) (ao : Option Addr) (c : Nat) (W : World) (hr : InW W (.slice ao l.length c) l) :
    Calls Try.prog 3 #[.slice ao l.length c] W fun e w' => e = .returned (.bool true) ∧ Sat W w' [] := by
  have hS := Sat.start W
  have HR := Lib.hid hr
  clear hr
  have HSM := Lib.hid (fun w (h : Sat W w []) => small_any h l ao c HR.out)
  cases hsm : smallW l
  · rw [hsm] at HSM
    clear hsm
    go_enter Try.func3, Try.ntmps3
    go_wp2_with (first
      | (go_at_call 8; refine (HSM.out _ hS).mono ?_; rintro e w1 ⟨rfl, hS1⟩; clear hS; have hS := hS1; clear hS1)
      | (go_at_call 9; refine (wawake_any hS).mono ?_; rintro e w1 ⟨rfl, hS1⟩; clear hS; have hS := hS1; clear hS1))
    go_ret
    exact ⟨rfl, hS⟩
  · rw [hsm] at HSM
    have HSB := Lib.hid (smallW_b hsm)
    clear hsm
    go_enter Try.func3, Try.ntmps3
    go_wp2_with (first
      | (go_at_call 8; refine (HSM.out _ hS).mono ?_; rintro e w1 ⟨rfl, hS1⟩; clear hS; have hS := hS1; clear hS1)
      | (go_at_call 10; refine (group_any hS l ao c HR.out HSB.out.2).mono ?_; rintro e w1 ⟨v1, v2, rfl, xs, hgx, hS1⟩; clear hS; have hS := hS1; clear hS1; have HGX := Lib.hid hgx; obtain ⟨a1, c1, rfl, _⟩ := hS.tbShape (k := 0) rfl; obtain ⟨a2, c2, rfl, _⟩ := hS.tbShape (k := 2) rfl; clear hgx))
    have hgl : (g2 xs).length ≤ 60 := by rw [HGX.out, grpW_len (by unfold grpN; omega)]; unfold grpN; have := HSB.out.1; omega
    have HCH := Lib.hid (fun w (h : Sat W w (Tb 40 2 gw (.slice a1 xs.length c1) xs :: St (xs.map grow) :: Tb 56 2 wvI (.slice a2 (g2 xs).length c2) (g2 xs) :: [])) => rcheck_any h (g2 xs) a2 c2 (fun w h => h.tbRd (Has.s (Has.s Has.z))) (by omega) 160)
    cases hok : okG 160 (g2 xs)
    · rw [hok] at HCH
      clear hok
      go_wp2_with (first
        | (go_at_call 11; refine (HCH.out _ hS).mono ?_; rintro e w1 ⟨rfl, hS1⟩; clear hS; have hS := hS1; clear hS1)
        | (go_at_call 9; refine (wawake_any hS).mono ?_; rintro e w1 ⟨rfl, hS1⟩; clear hS; have hS := hS1; clear hS1))
      go_ret
      exact ⟨rfl, hS.drop.drop.drop⟩
    · rw [hok] at HCH
      have HOK := Lib.hid hok
      obtain ⟨k1, k2, k3, k4, k5⟩ := commit_free free0 hok
      have hxl : xs.length ≤ 60 := by rw [← g2_len]; exact hgl
      have HCM := Lib.hid (fun (p : Nat) w (h : Sat W w (IsDisk p disk0 :: Tb 40 2 gw (.slice a1 xs.length c1) xs :: St (xs.map grow) :: Tb 56 2 wvI (.slice a2 (g2 xs).length c2) (g2 xs) :: [])) => (show Calls Try.prog 13 #[.pointer (some ⟨p, 0, none⟩), .slice a1 xs.length c1] w fun e w' => e = .returned (.int .i64 0) ∧ Sat W w' (IsDisk p (commitR disk0 (g2 xs)).2 :: Tb 40 2 gw (.slice a1 xs.length c1) xs :: St (xs.map grow) :: Tb 56 2 wvI (.slice a2 (g2 xs).length c2) (g2 xs) :: []) by
        have := wcommit_any h (free0.dg (k := 0) (Nat.le_refl _)) (by decide) xs a1 c1 (fun w h => grows_rd h) (by omega)
        rw [k1] at this
        exact this))
      have HW := Lib.hid (show ((commitR disk0 (g2 xs)).2.writes.length : Int) = 2 * (xs.length : Int) + 2 by rw [k2, g2_len]; simp [disk0])
      have HRC := Lib.hid k4.reco
      have HDG := Lib.hid (k4.dg (k := 200) (by rw [k2, g2_len]; simp [disk0]; omega))
      have HLN := Lib.hid k4.len
      have HBK := Lib.hid k3
      obtain ⟨D1, hD1⟩ : ∃ D1, (commitR disk0 (g2 xs)).2 = D1 := ⟨_, rfl⟩
      rw [hD1] at HCM HW HRC HDG HLN HBK
      clear k1 k2 k3 k4 k5 hD1 hok
      have HREC := Lib.hid (fun (p : Nat) w (M : List Asrt) (h : Sat W w (IsDisk p D1 :: M)) => (show Calls Try.prog 16 #[.pointer (some ⟨p, 0, none⟩)] w fun e w' => e = .returned (.tuple #[.bool false, .int .i64 0]) ∧ Sat W w' (IsDisk p D1 :: M) by
        have := wrecover_any h HDG.out (by decide) (by rw [HLN.out]; decide)
        rw [HRC.out.1, HRC.out.2] at this
        exact this))
      go_wp2_with (first
        | (go_at_call 11; refine (HCH.out _ hS).mono ?_; rintro e w1 ⟨rfl, hS1⟩; clear hS; have hS := hS1; clear hS1)
        | (go_at_call 12; refine (new_okN hS 160 (by decide) (by decide)).mono ?_; rintro e w1 ⟨p, rfl, hS1⟩; clear hS; have hS := hS1; clear hS1)
        | (go_at_call 13; refine (HCM.out p _ hS).mono ?_; rintro e w1 ⟨rfl, hS1⟩; clear hS; have hS := hS1; clear hS1)
        | (go_at_call 14; refine (writes_any hS HW.out).mono ?_; rintro e w1 ⟨rfl, rfl⟩))
      have H0 := Lib.hid hS
      go_loopw [7] (fun v wz => ∃ k : Nat, v = .int .i64 k ∧ k ≤ xs.length ∧ Sat W wz (IsDisk p D1 :: Tb 40 2 gw (.slice a1 xs.length c1) xs :: St (xs.map grow) :: Tb 56 2 wvI (.slice a2 (g2 xs).length c2) (g2 xs) :: [])) (fun v _ => xs.length - (intOf v).toNat)
      case atStart => exact ⟨0, rfl, by omega, H0.out⟩
      case round =>
        clear hS H0
        obtain ⟨k, rfl, hk, hS⟩ := hrel
        by_cases hl : k < xs.length
        · have n1 : (k : Int) < (xs.length : Int) := by omega
          obtain ⟨⟨xa, xv, xd⟩, hx⟩ : ∃ x, xs[k]? = some x := ⟨_, List.getElem?_eq_getElem hl⟩
          have hw := (okG_at HOK.out (g2_at hx)).1
          have hwa := okW_at hw
          have hwd := okW_data hw
          dsimp only at hwa hwd
          obtain ⟨m, rfl⟩ := Int.eq_ofNat_of_zero_le hwa.1
          have HB := Lib.hid (show D1.blocks[m]? = some xd from HBK.out k ((m : Int), xd) (g2_at hx))
          obtain ⟨ad, cd, rfl⟩ : ∃ ad cd, xv = .slice ad xd.length cd := (grows_rd hS.drop).slice hx
          have HX := Lib.hid hx
          have HL := Lib.hid hl
          have HD := Lib.hid hwd
          obtain ⟨bn, on, c', hv, _⟩ := hS.tbAddr (k := 1) rfl (by omega)
          simp only [Value.slice.injEq, true_and] at hv
          obtain ⟨rfl, rfl⟩ := hv
          clear hx hl hw hwa hwd
          go_wp2_with (first
            | (refine toList (by rfl) ?_; refine ldTb hS _ _ (by rfl) _ _ (by rfl) (agOf (by rfl)) (Has.s Has.z) k 0 (by omega) HX.out (by rfl) ?_)
            | (go_at_call 15; refine (read_ok hS m _ HB.out (by rw [HLN.out]; decide)).mono ?_; rintro e w1 ⟨q, rfl, _, hS1⟩; clear hS; have hS := hS1; clear hS1))
          refine regStart [] hS (by kernel_rfl) rfl ?_
          intro w1 hS1
          clear hS; have hS := hS1; clear hS1
          (refine regP 0 hS (fun _ h => h) rfl (by kernel_rfl) (by kernel_rfl) (by kernel_rfl) (fun _ _ _ _ h => h) (by rfl) (by rfl) ?_; apply Exists.intro; apply And.intro; (intro w; go_simp; try with_reducible rfl); (simp only [Act.put, List.setIfInBounds_toArray, List.set_cons_zero, List.set_cons_succ]))
          (refine regR 1 hS (fun _ h => h) rfl (by kernel_rfl) (by kernel_rfl) (by kernel_rfl) (by kernel_rfl) (by kernel_rfl) (fun _ _ _ _ h => h) (by rfl) (by rfl) ?_; (first
                                | refine ⟨_, yLdTb (f := gw) (x := ⟨(m : Int), .slice ad xd.length cd, xd⟩) _ _ (by rfl) _ _ (by rfl) (agOf (by rfl)) (Has.s (Has.s Has.z)) k 1 (by omega) HX.out (by rfl), ?_⟩
                                | refine ⟨_, yCv (n := 128) (l := xd) _ _ _ (by rfl) _ (by rfl) strBytes (fun u hu => hu.csRd0 (n := 128) Has.z (by decide) (by rw [bv_length, HD.out])), ?_⟩
                                | refine ⟨_, yCv (n := xd.length) (l := xd) _ _ _ (by rfl) _ (by rfl) strBytes (fun u hu => rowTb (hu.drop.drop) HX.out), ?_⟩); (simp only [Act.put, List.setIfInBounds_toArray, List.set_cons_zero, List.set_cons_succ]))
          (refine regP 2 hS (fun _ h => h) rfl (by kernel_rfl) (by kernel_rfl) (by kernel_rfl) (fun _ _ _ _ h => h) (by rfl) (by rfl) ?_; apply Exists.intro; apply And.intro; (intro w; go_simp; try with_reducible rfl); (simp only [Act.put, List.setIfInBounds_toArray, List.set_cons_zero, List.set_cons_succ]))
          (refine regP 3 hS (fun _ h => h) rfl (by kernel_rfl) (by kernel_rfl) (by kernel_rfl) (fun _ _ _ _ h => h) (by rfl) (by rfl) ?_; apply Exists.intro; apply And.intro; (intro w; go_simp; try with_reducible rfl); (simp only [Act.put, List.setIfInBounds_toArray, List.set_cons_zero, List.set_cons_succ]))
          (refine regP 4 hS (fun _ h => h) rfl (by kernel_rfl) (by kernel_rfl) (by kernel_rfl) (fun _ _ _ _ h => h) (by rfl) (by rfl) ?_; apply Exists.intro; apply And.intro; (intro w; go_simp; try with_reducible rfl); (simp only [Act.put, List.setIfInBounds_toArray, List.set_cons_zero, List.set_cons_succ]))
          (refine regP 5 hS (fun _ h => h) rfl (by kernel_rfl) (by kernel_rfl) (by kernel_rfl) (fun _ _ _ _ h => h) (by rfl) (by rfl) ?_; apply Exists.intro; apply And.intro; (intro w; go_simp; try with_reducible rfl); (simp only [Act.put, List.setIfInBounds_toArray, List.set_cons_zero, List.set_cons_succ]))
          (refine regR 6 hS (fun _ h => h) rfl (by kernel_rfl) (by kernel_rfl) (by kernel_rfl) (by kernel_rfl) (by kernel_rfl) (fun _ _ _ _ h => h) (by rfl) (by rfl) ?_; (first
                                | refine ⟨_, yLdTb (f := gw) (x := ⟨(m : Int), .slice ad xd.length cd, xd⟩) _ _ (by rfl) _ _ (by rfl) (agOf (by rfl)) (Has.s (Has.s Has.z)) k 1 (by omega) HX.out (by rfl), ?_⟩
                                | refine ⟨_, yCv (n := 128) (l := xd) _ _ _ (by rfl) _ (by rfl) strBytes (fun u hu => hu.csRd0 (n := 128) Has.z (by decide) (by rw [bv_length, HD.out])), ?_⟩
                                | refine ⟨_, yCv (n := xd.length) (l := xd) _ _ _ (by rfl) _ (by rfl) strBytes (fun u hu => rowTb (hu.drop.drop) HX.out), ?_⟩); (simp only [Act.put, List.setIfInBounds_toArray, List.set_cons_zero, List.set_cons_succ]))
          (refine regR 7 hS (fun _ h => h) rfl (by kernel_rfl) (by kernel_rfl) (by kernel_rfl) (by kernel_rfl) (by kernel_rfl) (fun _ _ _ _ h => h) (by rfl) (by rfl) ?_; (first
                                | refine ⟨_, yLdTb (f := gw) (x := ⟨(m : Int), .slice ad xd.length cd, xd⟩) _ _ (by rfl) _ _ (by rfl) (agOf (by rfl)) (Has.s (Has.s Has.z)) k 1 (by omega) HX.out (by rfl), ?_⟩
                                | refine ⟨_, yCv (n := 128) (l := xd) _ _ _ (by rfl) _ (by rfl) strBytes (fun u hu => hu.csRd0 (n := 128) Has.z (by decide) (by rw [bv_length, HD.out])), ?_⟩
                                | refine ⟨_, yCv (n := xd.length) (l := xd) _ _ _ (by rfl) _ (by rfl) strBytes (fun u hu => rowTb (hu.drop.drop) HX.out), ?_⟩); (simp only [Act.put, List.setIfInBounds_toArray, List.set_cons_zero, List.set_cons_succ]))
          (refine regP 8 hS (fun _ h => h) rfl (by kernel_rfl) (by kernel_rfl) (by kernel_rfl) (fun _ _ _ _ h => h) (by rfl) (by rfl) ?_; apply Exists.intro; apply And.intro; (intro w; go_simp; try with_reducible rfl); (simp only [Act.put, List.setIfInBounds_toArray, List.set_cons_zero, List.set_cons_succ]))
          refine regDone (by kernel_rfl) ?_
          go_wp2
          exact ⟨⟨k + 1, by go_num, HL.out, hS.drop⟩, by simp [intOf]; have := HL.out; omega⟩
        · have n1 : ¬ (k : Int) < (xs.length : Int) := by omega
          clear hl
          go_wp2_with (first
            | (go_at_call 16; refine (HREC.out _ _ _ hS).mono ?_; rintro e w1 ⟨rfl, hS1⟩; clear hS; have hS := hS1; clear hS1)
            | (go_at_call 14; refine (writes_any hS HW.out).mono ?_; rintro e w1 ⟨rfl, rfl⟩)
            | (go_at_call 9; refine (wawake_any hS).mono ?_; rintro e w1 ⟨rfl, hS1⟩; clear hS; have hS := hS1; clear hS1))
          go_ret
          exact ⟨rfl, hS.drop.drop.drop.drop⟩

set_option maxRecDepth 100000 in
theorem Writes.contract (H : Type) (enc : TypeId × Value → H) (W : World) (base : Nat) (args : Array Value) (ds gs : List (DataW H)) (before : List MemPlace)
    (hval : ∀ (j : Nat) t v, Try.f3.params[j]? = some t → args[j]? = some v → Value.okWide Try.prog W .any base t v)
    (hW : DataW.Whole enc Try.prog Try.f3.params.toList Rows.walWritesSpec.vars false W args.toList ds gs before)
    (hreach : (DataW.weightsEach Try.prog (Try.f3.params.toList ++ Rows.walWritesSpec.plain.varTypes Try.prog) (ds ++ gs)).all (· ≤ reachBytes) = true) :
    Calls Try.prog 3 args W fun e W' => ∃ v, e = .returned v ∧ Rows.walWritesSpec.post enc Try.prog Try.f3 false true false false W args v W' := by
  have hW' := hW
  obtain ⟨p, q, hA, hV, rfl, hfz, hnd⟩ := hW
  rw [Try.params3] at hA hval hreach
  obtain ⟨v1, vs1, d1, ds1, p1, q1, hargs, rfl, rfl, h1, r1⟩ := trodAll_cons hA
  obtain ⟨rfl, rfl, rfl⟩ := trodAll_nil r1
  obtain rfl : args = #[v1] := by cases args; simp_all
  obtain ⟨rfl, rfl⟩ := trodVars_none hV
  obtain ⟨ao1, l1, c1, rfl⟩ := okWide_slice Try.underlying22 (hval 0 22 v1 rfl rfl)
  obtain ⟨l, rfl, hr, hro⟩ := open_wds h1
  refine (Writes.walk l ao1 c1 W ⟨hr, hro⟩).mono ?_
  refine fun e W' ⟨he, hS⟩ => ?_
  subst he
  exact ⟨_, rfl, law_post (tb := 4) (by kernel_rfl) (by kernel_rfl) rfl Try.underlying4 rfl hW' rfl hS⟩

theorem Writes.own : ownKnob Try.prog.godebug = none := by kernel_rfl
set_option maxRecDepth 100000 in
theorem Writes.lifted (os : Os) (started : os.Started) (H : Type) (enc : TypeId × Value → H) :
    ReturnsInHanded {} Try.checked os 3 .any (Rows.walWritesSpec.pre6 enc Try.prog Try.f3 Rows.walWritesRow.domain false) (Rows.walWritesSpec.post enc Try.prog Try.f3 false true false false) := by
  refine returnsInHanded_of_change_shaped (C := Try.checked) Writes.own started (by kernel_rfl) Try.func3
    (ChangeSpec.witness6 (enc := enc) (C := Try.checked) false ⟨#[], #[.slice none 0 0], []⟩ 8 (by kernel_rfl) (by kernel_rfl) (by kernel_rfl) (by kernel_rfl)) ?_
  intro W base args ds gs before hval hW _ hreach _ _
  exact Writes.contract H enc W base args ds gs before hval hW hreach

theorem Writes.holds : Rows.WalWritesSaid :=
  OpenClaim.holds_of_wide 3 Try.f3 rfl rfl rfl rfl rfl rfl rfl ⟨rfl, rfl, rfl, rfl, rfl⟩ rfl rfl rfl rfl rfl (by kernel_rfl) Try.func3 (by kernel_rfl)
    (of_decide_eq_true (by kernel_rfl)) (by unfold Func.isWrapper; first | (rw [if_pos (by decide +kernel)]; kernel_rfl) | (rw [if_neg (by decide +kernel)]; exact ⟨rfl, rfl⟩))
    (fun os started H enc _ => Writes.lifted os started H enc)
end Go.Proofs.Ytefbkpggmmhgcaa
