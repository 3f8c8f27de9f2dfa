/-
  For all scripts, TreeNames answers true: no condition.
-/
import Derived.Test.YtiieicdhkcikpaaMDo
import Derived.Test.YtiieicdhkcikpaaMLaw
import Derived.Test.YtiieicdhkcikpaaTrWk
namespace Go.Proofs.Ytiieicdhkcikpaa
open Go.RowKit Go.Sep Go.ChangeShapes Go.WideShapes Go.ChangeAt
set_option linter.unusedSimpArgs false
set_option linter.unusedVariables false
attribute [local irreducible] Go.Oper.wp Go.wpList Go.Calls Go.Code.wp Go.Sep.Reg
attribute [local irreducible] IsT IsW
theorem made_lkl : (madeCells (Value.int .i64 0).cells (48 * 1)).toList = iv (lkl fun _ => 0) := by
  simp [madeCells, Value.cells, Nat.mod_one, List.map_const', lkl, iv]
set_option maxRecDepth 20000 in
set_option maxHeartbeats 4000000 in
theorem Names.walk (l : List TOp) (ao : Option Addr) (c : Nat) (W : World) (hr : Rd W (.slice ao l.length c) l.length 5 (l.flatMap opv)) (hx : ∀ x ∈ l, x.Ok W) :
    Calls Try.prog 6 #[.slice ao l.length c] W fun e w' => e = .returned (.bool true) ∧ Sat W w' [] := by
  have hS := Sat.start W
  have HR := Lib.hid (fun u (L : List Asrt) (h : Sat W u L) => hr.old h)
  obtain ⟨_, _, he, hc1, hc2, _, h5⟩ := hr
  simp only [Value.slice.injEq, true_and] at he
  obtain ⟨rfl, rfl⟩ := he
  have H5 := Lib.hid h5
  have HOX := Lib.hid hx
  clear h5 hx
  go_enter Try.func6, Try.ntmps6
  go_wp2_with (first
    | (go_at_call 10; refine (tnew_any hS).mono ?_; rintro r w1 ⟨p, rfl, hS1⟩; clear hS; have hS := hS1; clear hS1)
    | (go_at_call 21; refine (rnew_any hS).mono ?_; rintro r w1 ⟨q, rfl, hS1⟩; clear hS; have hS := hS1; clear hS1; replace hS := hS.pull1))
  have H0 := Lib.hid hS
  go_loopw [5] (fun v wz => ∃ (i : Nat) (T : TrD), v = .int .i64 i ∧ i ≤ l.length ∧ i ≤ 60 ∧ T.Ok ∧ T.Tre ∧ Sat W wz [IsT p T, IsW q T]) (fun v _ => 60 - (intOf v).toNat)
  case atStart => exact ⟨0, TrD.new, rfl, by omega, by omega, TrD.new_ok, TrD.new_tre, H0.out⟩
  case round =>
    clear hS H0
    obtain ⟨i, T, rfl, hi, hi5, hok, htre, hS⟩ := hrel
    by_cases hgo : i < l.length ∧ i < 60
    · obtain ⟨hlt, hl5⟩ := hgo
      obtain ⟨bb, off, rfl, _⟩ := H5.out (by omega)
      obtain ⟨x, hx⟩ : ∃ x, l[i]? = some x := ⟨_, List.getElem?_eq_getElem hlt⟩
      have j1 : (i : Int) < (l.length : Int) := by omega
      have j2 : (i : Int) < 60 := by omega
      have HX := Lib.hid hx
      have HLT := Lib.hid hlt
      have HL5 := Lib.hid hl5
      have hok2 := hok.stepO x
      have htre2 := htre.stepO hok x
      have HDO := Lib.hid (fun w (h2 : Sat W w [IsT p T, IsW q T]) => do_any h2 hok x (HOX.out x (List.mem_of_getElem? hx)))
      obtain ⟨T2, hT2⟩ : ∃ T2, T.step x = T2 := ⟨_, rfl⟩
      rw [hT2] at HDO hok2 htre2
      have HOK2 := Lib.hid hok2
      have HTR2 := Lib.hid htre2
      obtain ⟨xk, lv, xl, tv, to, xw, rv, raw⟩ := x
      clear hx hlt hl5 hT2 hi hi5 hok hok2 htre htre2
      go_wp2_with (first
        | (refine toList (by rfl) ?_; refine wp_of_reads (rLdRdA (f := opv) (x := ⟨xk, lv, xl, tv, to, xw, rv, raw⟩) (HR.out _ _ hS) (opv_len l) _ _ (by rfl) _ (by rfl) (agOf (by rfl)) (szOf (by rfl)) i (by omega) HX.out (by omega)) ?_)
        | (go_at_call 22; refine (HDO.out _ hS).mono ?_; rintro e w1 ⟨rfl, hS1⟩; clear hS; have hS := hS1; clear hS1))
      exact ⟨⟨i + 1, T2, by go_num, HLT.out, HL5.out, HOK2.out, HTR2.out, hS⟩, by simp [intOf]; have := HL5.out; omega⟩
    · have hcase : (decide ((i : Int) < (l.length : Int)) = false ∧ decide (i < l.length) = false ∧ ¬ (i : Int) < (l.length : Int)) ∨ ((decide ((i : Int) < (l.length : Int)) = true ∧ decide (i < l.length) = true ∧ (i : Int) < (l.length : Int)) ∧ decide ((i : Int) < 60) = false ∧ decide (i < 60) = false ∧ ¬ (i : Int) < 60) := by
        by_cases h : i < l.length
        · exact .inr ⟨⟨decide_eq_true (by omega), decide_eq_true h, by omega⟩, decide_eq_false (by omega), decide_eq_false (by omega), by omega⟩
        · exact .inl ⟨decide_eq_false (by omega), decide_eq_false h, by omega⟩
      clear hgo hi hi5
      obtain ⟨N, hN⟩ : ∃ N : Nat → Nat, (fun n => 0 + T.told 48 0 n) = N := ⟨_, rfl⟩
      have HN := Lib.hid (fun n (h1 : 1 ≤ n) => show N n = T.links n by rw [← hN]; show 0 + T.told 48 0 n = _; rw [Nat.zero_add]; exact htre.told_all hok h1)
      have HWK := Lib.hid (fun w b (h : Sat W w (IsT p T :: Sl 0 1 (.slice (some ⟨b, 0, none⟩) 48 48) 48 (iv (lkl (fun _ => 0))) :: [IsW q T])) => show Calls Try.prog 24 #[.pointer (some ⟨p, 0, none⟩), .int .i64 0, .slice none 0 0, .slice (some ⟨b, 0, none⟩) 48 48, .int .i64 0] w (fun r w' => r = .returned (.bool true) ∧ Sat W w' (IsT p T :: Sl 0 1 (.slice (some ⟨b, 0, none⟩) 48 48) 48 (iv (lkl N)) :: [IsW q T])) by
        have := lwalk_any hok htre b 0 48 48 (N := fun _ => 0) h 0 [] none 0 (fun w L' h => ⟨none, 0, rfl, Nat.le_refl _, by omega, rfl, fun h => absurd h (by simp)⟩) (TrD.pth_nil.2 rfl) hok.k0 rfl (fun n hn => by
          by_cases h0 : n = 0
          · subst h0; rw [hok.told_zero 48 (by omega)]; omega
          · rw [htre.told_all hok (by omega)]; have := TrD.links_le hok n; omega)
        rw [hN] at this
        exact this)
      have HKD := Lib.hid (fun w Lc (m : Nat) (hm : m < 48) (h : Sat W w (IsT p T :: Lc)) => by
        have := tkind_any h (m : Int)
        rw [(show T.kindI (m : Int) = T.kind m by unfold TrD.kindI inR; rw [decide_eq_true (by omega : (0 : Int) ≤ (m : Int)), decide_eq_true (by omega : (m : Int) < 48), Int.toNat_natCast]; rfl)] at this
        exact this)
      have HLN := Lib.hid (fun w Lc (m : Nat) (hm : m < 48) (h : Sat W w (IsT p T :: Lc)) => by
        have := tlinks_any h (m : Int)
        rw [(show T.linksI (m : Int) = T.links m by unfold TrD.linksI inR; rw [decide_eq_true (by omega : (0 : Int) ≤ (m : Int)), decide_eq_true (by omega : (m : Int) < 48), Int.toNat_natCast]; rfl)] at this
        exact this)
      have HOK := Lib.hid hok
      have HTR := Lib.hid htre
      clear hok htre hN
      rcases hcase with ⟨k1, k2, k3⟩ | ⟨⟨k1, k2, k3⟩, k4, k5, k6⟩
      all_goals
        go_wp2_with (first
          | (refine toList (by rfl) ?_; refine mk hS _ _ _ (by rfl) 48 48 _ _ (by rfl) (by rfl) (elOf (by rfl)) (by omega) (by omega) (by omega) ?_; intro b w1 hS1; clear hS; have hS := hS1; clear hS1; rw [made_lkl] at hS; have hS' := (show Sat W _ (IsT p T :: Sl 0 1 (.slice (some ⟨b, 0, none⟩) 48 48) 48 (iv (lkl (fun _ => 0))) :: [IsW q T]) from Sat.pull1 (Sat.slMk (n := 48) (sz := 1) (cap := 48) (pre := []) (vs := iv (lkl fun _ => 0)) (rest := []) (by simpa using hS) (Nat.le_refl _) (by omega) (by rw [iv_length, lkl_len]) rfl (by rw [iv_length, lkl_len]; decide))); clear hS; have hS := hS'; clear hS')
          | (go_at_call 24; refine (HWK.out _ _ hS).mono ?_; rintro e w1 ⟨rfl, hS1⟩; clear hS; have hS := hS1; clear hS1))
        have H1 := Lib.hid hS
        go_loopw [8] (fun v wz => ∃ m : Nat, v = .int .i64 m ∧ 1 ≤ m ∧ m ≤ 48 ∧ Sat W wz (IsT p T :: Sl 0 1 (.slice (some ⟨b, 0, none⟩) 48 48) 48 (iv (lkl N)) :: [IsW q T])) (fun v _ => 48 - (intOf v).toNat)
        case atStart => exact ⟨1, rfl, by omega, by omega, H1.out⟩
        case round =>
          clear hS H1
          obtain ⟨m, rfl, hm1, hm48, hS⟩ := hrel
          by_cases hm : m < 48
          · have g1 : (m : Int) < 48 := by omega
            obtain ⟨nn, hnn⟩ : ∃ nn, T.links m = nn := ⟨_, rfl⟩
            obtain ⟨kk, hkk⟩ : ∃ kk, T.kind m = kk := ⟨_, rfl⟩
            have HX := Lib.hid (show (iv (lkl N))[m]? = some (.int .i64 (nn : Int)) by rw [← hnn, ← HN.out m hm1]; exact iv_at (lkl_at N hm))
            have HK := Lib.hid (fun w Lc h => HKD.out w Lc m hm h)
            have HL := Lib.hid (fun w Lc h => HLN.out w Lc m hm h)
            rw [hkk] at HK
            rw [hnn] at HL
            have hc : kk = 1 ∨ (kk = 2 ∧ nn = 1) ∨ (kk = 0 ∧ nn = 0) := by
              rcases HOK.out.kind_of m with h | h | h
              · exact .inr (.inr ⟨by rw [← hkk]; exact h, by rw [← hnn]; exact HTR.out.no m hm1 hm h⟩)
              · exact .inl (by rw [← hkk]; exact h)
              · exact .inr (.inl ⟨by rw [← hkk]; exact h, by rw [← hnn]; exact HTR.out.one m hm1 hm h⟩)
            clear hnn hkk
            have HM := Lib.hid hm
            clear hm hm48
            rcases hc with rfl | ⟨rfl, rfl⟩ | ⟨rfl, rfl⟩
            all_goals
              go_wp2
              refine regStart2 [11] hS (fun _ h => h.one (Has.s Has.z)) (by kernel_rfl) rfl ?_
              intro w1 hS1
              clear hS; have hS := hS1; clear hS1
              (refine regP 0 hS (fun _ h => h.one (Has.s Has.z)) rfl (by kernel_rfl) (by kernel_rfl) (by kernel_rfl) (fun _ _ _ _ h => h) (by rfl) (by rfl) ?_; apply Exists.intro; apply And.intro; (intro w; go_simp; try with_reducible rfl); (simp only [Act.put, List.setIfInBounds_toArray, List.set_cons_zero, List.set_cons_succ]))
              (refine regP 1 hS (fun _ h => h.one (Has.s Has.z)) rfl (by kernel_rfl) (by kernel_rfl) (by kernel_rfl) (fun _ _ _ _ h => h) (by rfl) (by rfl) ?_; apply Exists.intro; apply And.intro; (intro w; go_simp; try with_reducible rfl); (simp only [Act.put, List.setIfInBounds_toArray, List.set_cons_zero, List.set_cons_succ]))
              (refine regP 3 hS (fun _ h => h.one (Has.s Has.z)) rfl (by kernel_rfl) (by kernel_rfl) (by kernel_rfl) (fun _ _ _ _ h => h) (by rfl) (by rfl) ?_; apply Exists.intro; apply And.intro; (intro w; go_simp; try with_reducible rfl); (simp only [Act.put, List.setIfInBounds_toArray, List.set_cons_zero, List.set_cons_succ]))
              (refine regP 4 hS (fun _ h => h.one (Has.s Has.z)) rfl (by kernel_rfl) (by kernel_rfl) (by kernel_rfl) (fun _ _ _ _ h => h) (by rfl) (by rfl) ?_; apply Exists.intro; apply And.intro; (intro w; go_simp; try with_reducible rfl); (simp only [Act.put, List.setIfInBounds_toArray, List.set_cons_zero, List.set_cons_succ]))
              (refine regP 5 hS (fun _ h => h.one (Has.s Has.z)) rfl (by kernel_rfl) (by kernel_rfl) (by kernel_rfl) (fun _ _ _ _ h => h) (by rfl) (by rfl) ?_; apply Exists.intro; apply And.intro; (intro w; go_simp; try with_reducible rfl); (simp only [Act.put, List.setIfInBounds_toArray, List.set_cons_zero, List.set_cons_succ]))
              (refine regR 6 hS (fun _ h => h.one (Has.s Has.z)) rfl (by kernel_rfl) (by kernel_rfl) (by kernel_rfl) (by kernel_rfl) (by kernel_rfl) (fun _ _ _ _ h => h) (by rfl) (by rfl) ?_; (first | refine ⟨_, yLdSl _ _ (by rfl) _ _ (by rfl) (agOf (by rfl)) Has.z m (by omega) HX.out, ?_⟩ | refine ⟨_, yLdSl _ _ (by rfl) _ _ (by rfl) (agOf (by rfl)) (Has.s Has.z) m (by omega) HX.out, ?_⟩); (simp only [Act.put, List.setIfInBounds_toArray, List.set_cons_zero, List.set_cons_succ]))
              (refine regA 2 rfl (by kernel_rfl) (by rfl) (by rfl) false (by kernel_rfl) (fun K hK => ?_); (first
                                            | (refine Go.Sep.cl 16 _ _ (by rfl) (by rfl) (by kernel_rfl) (HK.out _ _ hS) ?_; rintro e w1 ⟨rfl, rfl⟩; refine ⟨_, rfl, ?_⟩)
                                            | (refine Go.Sep.cl 15 _ _ (by rfl) (by rfl) (by kernel_rfl) (HL.out _ _ hS) ?_; rintro e w1 ⟨rfl, rfl⟩; refine ⟨_, rfl, ?_⟩)); refine hK _ _ _ (hS.upTo (fun _ h => by first | exact h.one (Has.s Has.z) | exact h)) (fun _ _ h => h) ?_; clear hK K; (simp only [Act.put, List.setIfInBounds_toArray, List.set_cons_zero, List.set_cons_succ]))
              (refine regP 7 hS (fun _ h => by first | exact h.one (Has.s Has.z) | exact h) rfl (by kernel_rfl) (by kernel_rfl) (by kernel_rfl) (fun _ _ _ _ h => h) (by rfl) (by rfl) ?_; apply Exists.intro; apply And.intro; (intro w; go_simp; try with_reducible rfl); (simp only [Act.put, List.setIfInBounds_toArray, List.set_cons_zero, List.set_cons_succ]))
              (refine regP 8 hS (fun _ h => by first | exact h.one (Has.s Has.z) | exact h) rfl (by kernel_rfl) (by kernel_rfl) (by kernel_rfl) (fun _ _ _ _ h => h) (by rfl) (by rfl) ?_; apply Exists.intro; apply And.intro; (intro w; go_simp; try with_reducible rfl); (simp only [Act.put, List.setIfInBounds_toArray, List.set_cons_zero, List.set_cons_succ]))
              (first | (refine regP 9 hS (fun _ h => by first | exact h.one (Has.s Has.z) | exact h) rfl (by kernel_rfl) (by kernel_rfl) (by kernel_rfl) (fun _ _ _ _ h => h) (by rfl) (by rfl) ?_; apply Exists.intro; apply And.intro; (intro w; go_simp; try with_reducible rfl); (simp only [Act.put, List.setIfInBounds_toArray, List.set_cons_zero, List.set_cons_succ])) | (refine regN 9 hS (fun _ h => by first | exact h.one (Has.s Has.z) | exact h) rfl (by kernel_rfl) (by kernel_rfl) (by kernel_rfl) (fun _ _ _ h => h) (by rfl) (by rfl) ?_; (simp only [Act.put, List.setIfInBounds_toArray, List.set_cons_zero, List.set_cons_succ])))
              (first | (refine regP 10 hS (fun _ h => by first | exact h.one (Has.s Has.z) | exact h) rfl (by kernel_rfl) (by kernel_rfl) (by kernel_rfl) (fun _ _ _ _ h => h) (by rfl) (by rfl) ?_; apply Exists.intro; apply And.intro; (intro w; go_simp; try with_reducible rfl); (simp only [Act.put, List.setIfInBounds_toArray, List.set_cons_zero, List.set_cons_succ])) | (refine regN 10 hS (fun _ h => by first | exact h.one (Has.s Has.z) | exact h) rfl (by kernel_rfl) (by kernel_rfl) (by kernel_rfl) (fun _ _ _ h => h) (by rfl) (by rfl) ?_; (simp only [Act.put, List.setIfInBounds_toArray, List.set_cons_zero, List.set_cons_succ])))
              (first | (refine regA 11 rfl (by kernel_rfl) (by rfl) (by rfl) true (by kernel_rfl) (fun K hK => ?_); (first
                                            | (refine Go.Sep.cl 16 _ _ (by rfl) (by rfl) (by kernel_rfl) (HK.out _ _ hS) ?_; rintro e w1 ⟨rfl, rfl⟩; refine ⟨_, rfl, ?_⟩)
                                            | (refine Go.Sep.cl 15 _ _ (by rfl) (by rfl) (by kernel_rfl) (HL.out _ _ hS) ?_; rintro e w1 ⟨rfl, rfl⟩; refine ⟨_, rfl, ?_⟩)); refine hK _ _ _ hS (by first | (intro h; cases h; done) | exact fun _ _ h => h | exact fun _ _ h => h.drop | exact fun _ _ h => h.drop.drop | exact fun _ _ h => h.drop.pull1 | exact fun _ _ h => h.take2 | exact fun _ _ h => h.one Has.z | exact fun _ _ h => h.one (Has.s Has.z) | exact fun _ _ h => h.one (Has.s (Has.s Has.z))) ?_; clear hK K; (simp only [Act.put, List.setIfInBounds_toArray, List.set_cons_zero, List.set_cons_succ])) | (refine regN 11 hS (fun _ h => by first | exact h.one (Has.s Has.z) | exact h) rfl (by kernel_rfl) (by kernel_rfl) (by kernel_rfl) (fun _ _ _ h => h) (by rfl) (by rfl) ?_; (simp only [Act.put, List.setIfInBounds_toArray, List.set_cons_zero, List.set_cons_succ])))
              (first | (refine regP 12 hS (fun _ h => h) rfl (by kernel_rfl) (by kernel_rfl) (by kernel_rfl) (fun _ _ _ _ h => h) (by rfl) (by rfl) ?_; apply Exists.intro; apply And.intro; (intro w; go_simp; try with_reducible rfl); (simp only [Act.put, List.setIfInBounds_toArray, List.set_cons_zero, List.set_cons_succ])) | (refine regN 12 hS (fun _ h => h) rfl (by kernel_rfl) (by kernel_rfl) (by kernel_rfl) (fun _ _ _ h => h) (by rfl) (by rfl) ?_; (simp only [Act.put, List.setIfInBounds_toArray, List.set_cons_zero, List.set_cons_succ])))
              (first | (refine regP 13 hS (fun _ h => h) rfl (by kernel_rfl) (by kernel_rfl) (by kernel_rfl) (fun _ _ _ _ h => h) (by rfl) (by rfl) ?_; apply Exists.intro; apply And.intro; (intro w; go_simp; try with_reducible rfl); (simp only [Act.put, List.setIfInBounds_toArray, List.set_cons_zero, List.set_cons_succ])) | (refine regN 13 hS (fun _ h => h) rfl (by kernel_rfl) (by kernel_rfl) (by kernel_rfl) (fun _ _ _ h => h) (by rfl) (by rfl) ?_; (simp only [Act.put, List.setIfInBounds_toArray, List.set_cons_zero, List.set_cons_succ])))
              (first | (refine regP 14 hS (fun _ h => h) rfl (by kernel_rfl) (by kernel_rfl) (by kernel_rfl) (fun _ _ _ _ h => h) (by rfl) (by rfl) ?_; apply Exists.intro; apply And.intro; (intro w; go_simp; try with_reducible rfl); (simp only [Act.put, List.setIfInBounds_toArray, List.set_cons_zero, List.set_cons_succ])) | (refine regN 14 hS (fun _ h => h) rfl (by kernel_rfl) (by kernel_rfl) (by kernel_rfl) (fun _ _ _ h => h) (by rfl) (by rfl) ?_; (simp only [Act.put, List.setIfInBounds_toArray, List.set_cons_zero, List.set_cons_succ])))
              (first | (refine regP 15 hS (fun _ h => h) rfl (by kernel_rfl) (by kernel_rfl) (by kernel_rfl) (fun _ _ _ _ h => h) (by rfl) (by rfl) ?_; apply Exists.intro; apply And.intro; (intro w; go_simp; try with_reducible rfl); (simp only [Act.put, List.setIfInBounds_toArray, List.set_cons_zero, List.set_cons_succ])) | (refine regN 15 hS (fun _ h => h) rfl (by kernel_rfl) (by kernel_rfl) (by kernel_rfl) (fun _ _ _ h => h) (by rfl) (by rfl) ?_; (simp only [Act.put, List.setIfInBounds_toArray, List.set_cons_zero, List.set_cons_succ])))
              (first | (refine regP 16 hS (fun _ h => h) rfl (by kernel_rfl) (by kernel_rfl) (by kernel_rfl) (fun _ _ _ _ h => h) (by rfl) (by rfl) ?_; apply Exists.intro; apply And.intro; (intro w; go_simp; try with_reducible rfl); (simp only [Act.put, List.setIfInBounds_toArray, List.set_cons_zero, List.set_cons_succ])) | (refine regN 16 hS (fun _ h => h) rfl (by kernel_rfl) (by kernel_rfl) (by kernel_rfl) (fun _ _ _ h => h) (by rfl) (by rfl) ?_; (simp only [Act.put, List.setIfInBounds_toArray, List.set_cons_zero, List.set_cons_succ])))
              (first | (refine regR 17 hS (fun _ h => h) rfl (by kernel_rfl) (by kernel_rfl) (by kernel_rfl) (by kernel_rfl) (by kernel_rfl) (fun _ _ _ _ h => h) (by rfl) (by rfl) ?_; (first | refine ⟨_, yLdSl _ _ (by rfl) _ _ (by rfl) (agOf (by rfl)) Has.z m (by omega) HX.out, ?_⟩ | refine ⟨_, yLdSl _ _ (by rfl) _ _ (by rfl) (agOf (by rfl)) (Has.s Has.z) m (by omega) HX.out, ?_⟩); (simp only [Act.put, List.setIfInBounds_toArray, List.set_cons_zero, List.set_cons_succ])) | (refine regN 17 hS (fun _ h => h) rfl (by kernel_rfl) (by kernel_rfl) (by kernel_rfl) (fun _ _ _ h => h) (by rfl) (by rfl) ?_; (simp only [Act.put, List.setIfInBounds_toArray, List.set_cons_zero, List.set_cons_succ])))
              (first | (refine regP 18 hS (fun _ h => h) rfl (by kernel_rfl) (by kernel_rfl) (by kernel_rfl) (fun _ _ _ _ h => h) (by rfl) (by rfl) ?_; apply Exists.intro; apply And.intro; (intro w; go_simp; try with_reducible rfl); (simp only [Act.put, List.setIfInBounds_toArray, List.set_cons_zero, List.set_cons_succ])) | (refine regN 18 hS (fun _ h => h) rfl (by kernel_rfl) (by kernel_rfl) (by kernel_rfl) (fun _ _ _ h => h) (by rfl) (by rfl) ?_; (simp only [Act.put, List.setIfInBounds_toArray, List.set_cons_zero, List.set_cons_succ])))
              (first | (refine regP 19 hS (fun _ h => h) rfl (by kernel_rfl) (by kernel_rfl) (by kernel_rfl) (fun _ _ _ _ h => h) (by rfl) (by rfl) ?_; apply Exists.intro; apply And.intro; (intro w; go_simp; try with_reducible rfl); (simp only [Act.put, List.setIfInBounds_toArray, List.set_cons_zero, List.set_cons_succ])) | (refine regN 19 hS (fun _ h => h) rfl (by kernel_rfl) (by kernel_rfl) (by kernel_rfl) (fun _ _ _ h => h) (by rfl) (by rfl) ?_; (simp only [Act.put, List.setIfInBounds_toArray, List.set_cons_zero, List.set_cons_succ])))
              (refine regP 20 hS (fun _ h => h) rfl (by kernel_rfl) (by kernel_rfl) (by kernel_rfl) (fun _ _ _ _ h => h) (by rfl) (by rfl) ?_; apply Exists.intro; apply And.intro; (intro w; go_simp; try with_reducible rfl); (simp only [Act.put, List.setIfInBounds_toArray, List.set_cons_zero, List.set_cons_succ]))
              (refine regP 21 hS (fun _ h => h) rfl (by kernel_rfl) (by kernel_rfl) (by kernel_rfl) (fun _ _ _ _ h => h) (by rfl) (by rfl) ?_; apply Exists.intro; apply And.intro; (intro w; go_simp; try with_reducible rfl); (simp only [Act.put, List.setIfInBounds_toArray, List.set_cons_zero, List.set_cons_succ]))
              (first | (refine regP 22 hS (fun _ h => h) rfl (by kernel_rfl) (by kernel_rfl) (by kernel_rfl) (fun _ _ _ _ h => h) (by rfl) (by rfl) ?_; apply Exists.intro; apply And.intro; (intro w; go_simp; try with_reducible rfl); (simp only [Act.put, List.setIfInBounds_toArray, List.set_cons_zero, List.set_cons_succ])) | (refine regN 22 hS (fun _ h => h) rfl (by kernel_rfl) (by kernel_rfl) (by kernel_rfl) (fun _ _ _ h => h) (by rfl) (by rfl) ?_; (simp only [Act.put, List.setIfInBounds_toArray, List.set_cons_zero, List.set_cons_succ])))
              (first | (refine regP 23 hS (fun _ h => h) rfl (by kernel_rfl) (by kernel_rfl) (by kernel_rfl) (fun _ _ _ _ h => h) (by rfl) (by rfl) ?_; apply Exists.intro; apply And.intro; (intro w; go_simp; try with_reducible rfl); (simp only [Act.put, List.setIfInBounds_toArray, List.set_cons_zero, List.set_cons_succ])) | (refine regN 23 hS (fun _ h => h) rfl (by kernel_rfl) (by kernel_rfl) (by kernel_rfl) (fun _ _ _ h => h) (by rfl) (by rfl) ?_; (simp only [Act.put, List.setIfInBounds_toArray, List.set_cons_zero, List.set_cons_succ])))
              (first | (refine regA 24 rfl (by kernel_rfl) (by rfl) (by rfl) false (by kernel_rfl) (fun K hK => ?_); (first
                                            | (refine Go.Sep.cl 16 _ _ (by rfl) (by rfl) (by kernel_rfl) (HK.out _ _ hS) ?_; rintro e w1 ⟨rfl, rfl⟩; refine ⟨_, rfl, ?_⟩)
                                            | (refine Go.Sep.cl 15 _ _ (by rfl) (by rfl) (by kernel_rfl) (HL.out _ _ hS) ?_; rintro e w1 ⟨rfl, rfl⟩; refine ⟨_, rfl, ?_⟩)); refine hK _ _ _ (hS.upTo (fun _ h => by first | exact h.one (Has.s Has.z) | exact h)) (fun _ _ h => h) ?_; clear hK K; (simp only [Act.put, List.setIfInBounds_toArray, List.set_cons_zero, List.set_cons_succ])) | (refine regN 24 hS (fun _ h => h) rfl (by kernel_rfl) (by kernel_rfl) (by kernel_rfl) (fun _ _ _ h => h) (by rfl) (by rfl) ?_; (simp only [Act.put, List.setIfInBounds_toArray, List.set_cons_zero, List.set_cons_succ])))
              (first | (refine regP 25 hS (fun _ h => by first | exact h.one (Has.s Has.z) | exact h) rfl (by kernel_rfl) (by kernel_rfl) (by kernel_rfl) (fun _ _ _ _ h => h) (by rfl) (by rfl) ?_; apply Exists.intro; apply And.intro; (intro w; go_simp; try with_reducible rfl); (simp only [Act.put, List.setIfInBounds_toArray, List.set_cons_zero, List.set_cons_succ])) | (refine regN 25 hS (fun _ h => by first | exact h.one (Has.s Has.z) | exact h) rfl (by kernel_rfl) (by kernel_rfl) (by kernel_rfl) (fun _ _ _ h => h) (by rfl) (by rfl) ?_; (simp only [Act.put, List.setIfInBounds_toArray, List.set_cons_zero, List.set_cons_succ])))
              (first | (refine regP 26 hS (fun _ h => by first | exact h.one (Has.s Has.z) | exact h) rfl (by kernel_rfl) (by kernel_rfl) (by kernel_rfl) (fun _ _ _ _ h => h) (by rfl) (by rfl) ?_; apply Exists.intro; apply And.intro; (intro w; go_simp; try with_reducible rfl); (simp only [Act.put, List.setIfInBounds_toArray, List.set_cons_zero, List.set_cons_succ])) | (refine regN 26 hS (fun _ h => by first | exact h.one (Has.s Has.z) | exact h) rfl (by kernel_rfl) (by kernel_rfl) (by kernel_rfl) (fun _ _ _ h => h) (by rfl) (by rfl) ?_; (simp only [Act.put, List.setIfInBounds_toArray, List.set_cons_zero, List.set_cons_succ])))
              (first | (refine regP 27 hS (fun _ h => by first | exact h.one (Has.s Has.z) | exact h) rfl (by kernel_rfl) (by kernel_rfl) (by kernel_rfl) (fun _ _ _ _ h => h) (by rfl) (by rfl) ?_; apply Exists.intro; apply And.intro; (intro w; go_simp; try with_reducible rfl); (simp only [Act.put, List.setIfInBounds_toArray, List.set_cons_zero, List.set_cons_succ])) | (refine regN 27 hS (fun _ h => by first | exact h.one (Has.s Has.z) | exact h) rfl (by kernel_rfl) (by kernel_rfl) (by kernel_rfl) (fun _ _ _ h => h) (by rfl) (by rfl) ?_; (simp only [Act.put, List.setIfInBounds_toArray, List.set_cons_zero, List.set_cons_succ])))
              (first | (refine regP 28 hS (fun _ h => by first | exact h.one (Has.s Has.z) | exact h) rfl (by kernel_rfl) (by kernel_rfl) (by kernel_rfl) (fun _ _ _ _ h => h) (by rfl) (by rfl) ?_; apply Exists.intro; apply And.intro; (intro w; go_simp; try with_reducible rfl); (simp only [Act.put, List.setIfInBounds_toArray, List.set_cons_zero, List.set_cons_succ])) | (refine regN 28 hS (fun _ h => by first | exact h.one (Has.s Has.z) | exact h) rfl (by kernel_rfl) (by kernel_rfl) (by kernel_rfl) (fun _ _ _ h => h) (by rfl) (by rfl) ?_; (simp only [Act.put, List.setIfInBounds_toArray, List.set_cons_zero, List.set_cons_succ])))
              (first | (refine regP 29 hS (fun _ h => by first | exact h.one (Has.s Has.z) | exact h) rfl (by kernel_rfl) (by kernel_rfl) (by kernel_rfl) (fun _ _ _ _ h => h) (by rfl) (by rfl) ?_; apply Exists.intro; apply And.intro; (intro w; go_simp; try with_reducible rfl); (simp only [Act.put, List.setIfInBounds_toArray, List.set_cons_zero, List.set_cons_succ])) | (refine regN 29 hS (fun _ h => by first | exact h.one (Has.s Has.z) | exact h) rfl (by kernel_rfl) (by kernel_rfl) (by kernel_rfl) (fun _ _ _ h => h) (by rfl) (by rfl) ?_; (simp only [Act.put, List.setIfInBounds_toArray, List.set_cons_zero, List.set_cons_succ])))
              (first | (refine regR 30 hS (fun _ h => by first | exact h.one (Has.s Has.z) | exact h) rfl (by kernel_rfl) (by kernel_rfl) (by kernel_rfl) (by kernel_rfl) (by kernel_rfl) (fun _ _ _ _ h => h) (by rfl) (by rfl) ?_; (first | refine ⟨_, yLdSl _ _ (by rfl) _ _ (by rfl) (agOf (by rfl)) Has.z m (by omega) HX.out, ?_⟩ | refine ⟨_, yLdSl _ _ (by rfl) _ _ (by rfl) (agOf (by rfl)) (Has.s Has.z) m (by omega) HX.out, ?_⟩); (simp only [Act.put, List.setIfInBounds_toArray, List.set_cons_zero, List.set_cons_succ])) | (refine regN 30 hS (fun _ h => by first | exact h.one (Has.s Has.z) | exact h) rfl (by kernel_rfl) (by kernel_rfl) (by kernel_rfl) (fun _ _ _ h => h) (by rfl) (by rfl) ?_; (simp only [Act.put, List.setIfInBounds_toArray, List.set_cons_zero, List.set_cons_succ])))
              (first | (refine regP 31 hS (fun _ h => by first | exact h.one (Has.s Has.z) | exact h) rfl (by kernel_rfl) (by kernel_rfl) (by kernel_rfl) (fun _ _ _ _ h => h) (by rfl) (by rfl) ?_; apply Exists.intro; apply And.intro; (intro w; go_simp; try with_reducible rfl); (simp only [Act.put, List.setIfInBounds_toArray, List.set_cons_zero, List.set_cons_succ])) | (refine regN 31 hS (fun _ h => by first | exact h.one (Has.s Has.z) | exact h) rfl (by kernel_rfl) (by kernel_rfl) (by kernel_rfl) (fun _ _ _ h => h) (by rfl) (by rfl) ?_; (simp only [Act.put, List.setIfInBounds_toArray, List.set_cons_zero, List.set_cons_succ])))
              (first | (refine regP 32 hS (fun _ h => by first | exact h.one (Has.s Has.z) | exact h) rfl (by kernel_rfl) (by kernel_rfl) (by kernel_rfl) (fun _ _ _ _ h => h) (by rfl) (by rfl) ?_; apply Exists.intro; apply And.intro; (intro w; go_simp; try with_reducible rfl); (simp only [Act.put, List.setIfInBounds_toArray, List.set_cons_zero, List.set_cons_succ])) | (refine regN 32 hS (fun _ h => by first | exact h.one (Has.s Has.z) | exact h) rfl (by kernel_rfl) (by kernel_rfl) (by kernel_rfl) (fun _ _ _ h => h) (by rfl) (by rfl) ?_; (simp only [Act.put, List.setIfInBounds_toArray, List.set_cons_zero, List.set_cons_succ])))
              (refine regP 33 hS (fun _ h => by first | exact h.one (Has.s Has.z) | exact h) rfl (by kernel_rfl) (by kernel_rfl) (by kernel_rfl) (fun _ _ _ _ h => h) (by rfl) (by rfl) ?_; apply Exists.intro; apply And.intro; (intro w; go_simp; try with_reducible rfl); (simp only [Act.put, List.setIfInBounds_toArray, List.set_cons_zero, List.set_cons_succ]))
              refine regDone (by kernel_rfl) ?_
              go_wp2
              exact ⟨⟨m + 1, by go_num, by omega, HM.out, hS⟩, by simp [intOf]; have := HM.out; omega⟩
          · have g1 : ¬ (m : Int) < 48 := by omega
            clear hm hm1 hm48
            go_wp2_with (go_at_call 18; refine (wake_any hS).mono ?_; rintro e w1 ⟨rfl, hS1⟩; clear hS; have hS := hS1; clear hS1)
            go_ret
            exact ⟨rfl, hS.map fun _ _ => trivial⟩

set_option maxRecDepth 100000 in
theorem Names.contract (H : Type) (enc : TypeId × Value → H) (W : World) (base : Nat) (args : Array Value) (ds gs : List (DataW H)) (before : List MemPlace)
    (hval : ∀ (j : Nat) t v, Try.f6.params[j]? = some t → args[j]? = some v → Value.okWide Try.prog W .any base t v)
    (hW : DataW.Whole enc Try.prog Try.f6.params.toList Rows.treeNamesSpec.vars false W args.toList ds gs before)
    (hreach : (DataW.weightsEach Try.prog (Try.f6.params.toList ++ Rows.treeNamesSpec.plain.varTypes Try.prog) (ds ++ gs)).all (· ≤ reachBytes) = true) :
    Calls Try.prog 6 args W fun e W' => ∃ v, e = .returned v ∧ Rows.treeNamesSpec.post enc Try.prog Try.f6 false true false false W args v W' := by
  have hW' := hW
  obtain ⟨p, q, hA, hV, rfl, hfz, hnd⟩ := hW
  rw [Try.params6] at hA hval hreach
  obtain ⟨v0, vs0, d0, ds0, p0, q0, hargs, rfl, rfl, h0, r0⟩ := trodAll_cons hA
  obtain ⟨rfl, rfl, rfl⟩ := trodAll_nil r0
  obtain rfl : args = #[v0] := by cases args; simp_all
  obtain ⟨rfl, rfl⟩ := trodVars_none hV
  obtain ⟨ao0, len0, cap0, rfl⟩ := okWide_slice Try.underlying41 (hval 0 41 v0 rfl rfl)
  obtain ⟨l, rfl, hr0, hl0⟩ := open_tops h0
  refine (Names.walk l ao0 cap0 W hr0 hl0).mono ?_
  refine fun e W' ⟨he, hS⟩ => ?_
  subst he
  exact ⟨_, rfl, law_post (tb := 4) (by kernel_rfl) (by kernel_rfl) rfl Try.underlying4 rfl hW' rfl hS⟩

theorem Names.own : ownKnob Try.prog.godebug = none := by kernel_rfl
set_option maxRecDepth 100000 in
theorem Names.lifted (os : Os) (started : os.Started) (H : Type) (enc : TypeId × Value → H) :
    ReturnsInHanded {} Try.checked os 6 .any (Rows.treeNamesSpec.pre6 enc Try.prog Try.f6 Rows.treeNamesRow.domain false) (Rows.treeNamesSpec.post enc Try.prog Try.f6 false true false false) := by
  refine returnsInHanded_of_change_shaped (C := Try.checked) Names.own started (by kernel_rfl) Try.func6
    (ChangeSpec.witness6 (enc := enc) (C := Try.checked) false ⟨#[], #[.slice none 0 0], []⟩ 8 (by kernel_rfl) (by kernel_rfl) (by kernel_rfl) (by kernel_rfl)) ?_
  intro W base args ds gs before hval hW _ hreach _ _
  exact Names.contract H enc W base args ds gs before hval hW hreach

theorem Names.holds : Rows.TreeNamesSaid :=
  OpenClaim.holds_of_wide 6 Try.f6 rfl rfl rfl rfl rfl rfl rfl ⟨rfl, rfl, rfl, rfl, rfl⟩ rfl rfl rfl rfl rfl (by kernel_rfl) Try.func6 (by kernel_rfl)
    (of_decide_eq_true (by kernel_rfl)) (by unfold Func.isWrapper; first | (rw [if_pos (by decide +kernel)]; kernel_rfl) | (rw [if_neg (by decide +kernel)]; exact ⟨rfl, rfl⟩))
    (fun os started H enc _ => Names.lifted os started H enc)
end Go.Proofs.Ytiieicdhkcikpaa
