/-
  Package wal: Check.
-/
import Derived.Test.YtefbkpggmmhgcaaWlPlain
import Derived.Test.YtefbkpggmmhgcaaSepMore
namespace Go.Proofs.Ytefbkpggmmhgcaa
open Go.RowKit Go.Sep
set_option linter.unusedSimpArgs false
set_option linter.unusedVariables false
attribute [local irreducible] Go.Oper.wp Go.wpList Go.Calls Go.Code.wp Go.Sep.Reg
structure GW where
  at_ : Int
  val : Value
  data : List UInt8
def gw (x : GW) : List Value := [.int .i64 x.at_, x.val]
theorem gw_len (l : List GW) : ∀ x ∈ l, (gw x).length = 2 := fun _ _ => rfl
def g2 (xs : List GW) : G2 := xs.map fun x => (x.at_, x.data)
theorem g2_len (xs : List GW) : (g2 xs).length = xs.length := by simp [g2]
theorem g2_at {xs : List GW} {i : Nat} {x : GW} (h : xs[i]? = some x) : (g2 xs)[i]? = some (x.at_, x.data) := by simp [g2, h]
theorem g2_take (xs : List GW) (i : Nat) : g2 (xs.take i) = (g2 xs).take i := by simp [g2, List.map_take]
def RdG (w : World) (v : Value) (xs : List GW) : Prop := Rd w v xs.length 2 (xs.flatMap gw) ∧ ∀ x ∈ xs, Rd w x.val x.data.length 1 (bv x.data)
theorem RdG.slice {w : World} {v : Value} {xs : List GW} {i : Nat} {x : GW} (h : RdG w v xs) (hx : xs[i]? = some x) : ∃ ao c, x.val = .slice ao x.data.length c := by
  obtain ⟨ao, c, he, _⟩ := h.2 x (List.mem_of_getElem? hx)
  exact ⟨ao, c, he⟩
theorem gw_one {ao : Option Addr} {n c : Nat} (a : Int) (d : List UInt8) : ∀ u ∈ gw ⟨a, .slice ao n c, d⟩, u.oneCell' = true := fun u hu => by
  simp only [gw, List.mem_cons, List.not_mem_nil, or_false] at hu
  rcases hu with rfl | rfl <;> rfl
def hasA (ys : List GW) (a : Int) : Bool := ys.any fun y => y.at_ == a
theorem hasA_twice (xs : List GW) (i : Nat) (a : Int) : hasA (xs.take i) a = twice (g2 xs) i a := by
  unfold hasA twice g2
  rw [← List.map_take, List.any_map]; rfl
theorem hasA_succ {ys : List GW} {k : Nat} {y : GW} (h : ys[k]? = some y) (a : Int) : hasA (ys.take (k + 1)) a = (hasA (ys.take k) a || (y.at_ == a)) := by
  unfold hasA
  rw [List.take_add_one, h, List.any_append]
  simp
theorem hasA_yes {ys : List GW} {k : Nat} {y : GW} (h : ys[k]? = some y) {a : Int} (e : (y.at_ == a) = true) : hasA ys a = true := List.any_eq_true.2 ⟨y, List.mem_of_getElem? h, e⟩
theorem RdG.take {w : World} {ao : Option Addr} {c : Nat} {xs : List GW} {i : Nat} (h : RdG w (.slice ao xs.length c) xs) (hi : i ≤ xs.length) : RdG w (.slice ao (xs.take i).length c) (xs.take i) := by
  refine ⟨?_, fun x hx => h.2 x (List.mem_of_mem_take hx)⟩
  obtain ⟨ao', c', he, h1, h2, h3, h5⟩ := h.1
  simp only [Value.slice.injEq, true_and] at he
  obtain ⟨rfl, rfl⟩ := he
  have hl : (xs.take i).length = i := by rw [List.length_take]; omega
  have hf : (xs.take i).flatMap gw = (xs.flatMap gw).take (i * 2) := by
    have : ∀ (ys : List GW) (j : Nat), (ys.take j).flatMap gw = (ys.flatMap gw).take (j * 2) := by
      intro ys
      induction ys with
      | nil => intro j; simp
      | cons y ys ih =>
        intro j
        cases j with
        | zero => simp
        | succ j => rw [List.take_succ_cons, List.flatMap_cons, List.flatMap_cons, ih, show (j + 1) * 2 = j * 2 + 2 by omega]; simp [gw]
    exact this xs i
  have hxl : (xs.flatMap gw).length = xs.length * 2 := by
    have : ∀ ys : List GW, (ys.flatMap gw).length = ys.length * 2 := by
      intro ys
      induction ys with
      | nil => rfl
      | cons y ys ih => rw [List.flatMap_cons, List.length_append, ih, List.length_cons]; show 2 + _ = _; omega
    exact this xs
  refine ⟨ao, c, rfl, by omega, by omega, by rw [hf, List.length_take, hxl, hl]; omega, fun hn => ?_⟩
  obtain ⟨b, off, hb, h6⟩ := h5 (by omega)
  refine ⟨b, off, hb, fun j u hj => h6 j u ?_⟩
  rw [hf, List.getElem?_take] at hj
  split at hj
  · exact hj
  · cases hj
/-- The closure that Check hands over: does it go where w goes? -/
theorem chk1_any {W w : World} {L : List Asrt} {pw : Nat} {a : Int} {av : Value} (hS : Sat W w (Cs pw 40 [.int .i64 a, av] :: L)) (x : Int) (xv : Value) :
    Calls Try.prog 42 #[.agg #[.int .i64 x, xv], .pointer (some ⟨pw, 0, none⟩)] w fun e w' => e = .returned (.bool (x == a)) ∧ Sat W w' (Cs pw 40 [.int .i64 a, av] :: L) := by
  go_enter Try.func42, Try.ntmps42
  go_wp2_with (first
    | (refine toList (by rfl) ?_; refine bx hS _ _ (by rfl) _ (by first | exact evC | exact evT (by rfl)) ?_; intro px w1 hS1; clear hS; have hS := hS1; clear hS1; rw [cells_agg] at hS)
    | (refine toList (by rfl) ?_; refine ld hS _ _ (by rfl) _ _ (by rfl) (agOf (by rfl)) Has.z (by rfl) ?_)
    | (refine toList (by rfl) ?_; refine ld hS _ _ (by rfl) _ _ (by rfl) (agOf (by rfl)) (Has.s Has.z) (by rfl) ?_))
  go_ret
  exact ⟨rfl, hS.drop⟩
set_option maxRecDepth 20000 in
theorem indexf_any {W w : World} {L : List Asrt} {pw : Nat} {a : Int} {av : Value} (hS : Sat W w (Cs pw 40 [.int .i64 a, av] :: L)) (ys : List GW) (ao : Option Addr) (c : Nat) (hr : ∀ w, Sat W w L → RdG w (.slice ao ys.length c) ys) (hb : ys.length ≤ 1000000) :
    Calls Try.prog 50 #[.slice ao ys.length c, .func (.func 42) #[] #[.pointer (some ⟨pw, 0, none⟩)]] w fun e w' => ∃ i : Int, e = .returned (.int .i64 i) ∧ decide (0 ≤ i) = hasA ys a ∧ Sat W w' (Cs pw 40 [.int .i64 a, av] :: L) := by
  have HR := Lib.hid hr
  obtain ⟨_, _, he, hc1, hc2, _, h5⟩ := (hr w hS.drop).1
  simp only [Value.slice.injEq, true_and] at he
  obtain ⟨rfl, rfl⟩ := he
  have H5 := Lib.hid h5
  clear hr h5
  have i5 : (ys.length : Int) ≤ 1000000 := by omega
  go_enter Try.func50, Try.ntmps50
  go_wp2
  have H0 := Lib.hid hS
  go_loopw [8] (fun v wz => ∃ k : Nat, v = .int .i64 k ∧ k ≤ ys.length ∧ hasA (ys.take k) a = false ∧ Sat W wz (Cs pw 40 [.int .i64 a, av] :: L)) (fun v _ => ys.length - (intOf v).toNat)
  case atStart => exact ⟨0, rfl, by omega, rfl, H0.out⟩
  case round =>
    clear hS H0
    obtain ⟨k, rfl, hk, hn, hS⟩ := hrel
    by_cases hl : k < ys.length
    · have k1 : (k : Int) < (ys.length : Int) := by omega
      obtain ⟨b, off, rfl, _⟩ := H5.out (by omega)
      obtain ⟨⟨xa, xv, xd⟩, hx⟩ : ∃ x, ys[k]? = some x := ⟨_, List.getElem?_eq_getElem hl⟩
      have HX := Lib.hid hx
      have HL := Lib.hid hl
      have HN := Lib.hid (hasA_succ hx a)
      have HY := Lib.hid (hasA_yes hx (a := a))
      rw [hn, Bool.false_or] at HN
      clear hx hl hn
      cases hq : (xa == a)
      · have HQ := Lib.hid hq
        clear hq
        go_wp2_with (first
          | (refine toList (by rfl) ?_; refine wp_of_reads (rLdRdA (HR.out _ hS.drop).1 (gw_len ys) _ _ (by rfl) _ (by rfl) (agOf (by rfl)) (szOf (by rfl)) k (by omega) HX.out (by omega)) ?_)
          | (go_at_call 42; refine (chk1_any hS xa xv).mono ?_; rintro e w1 ⟨rfl, hS1⟩; rw [HQ.out]; clear hS; have hS := hS1; clear hS1))
        exact ⟨⟨k + 1, by go_num, HL.out, by rw [HN.out]; exact HQ.out, hS⟩, by simp [intOf]; have := HL.out; omega⟩
      · have HQ := Lib.hid hq
        clear hq
        go_wp2_with (first
          | (refine toList (by rfl) ?_; refine wp_of_reads (rLdRdA (HR.out _ hS.drop).1 (gw_len ys) _ _ (by rfl) _ (by rfl) (agOf (by rfl)) (szOf (by rfl)) k (by omega) HX.out (by omega)) ?_)
          | (go_at_call 42; refine (chk1_any hS xa xv).mono ?_; rintro e w1 ⟨rfl, hS1⟩; rw [HQ.out]; clear hS; have hS := hS1; clear hS1))
        go_ret
        exact ⟨k, rfl, by rw [HY.out HQ.out]; simp, hS⟩
    · have k1 : ¬ (k : Int) < (ys.length : Int) := by omega
      have HN := Lib.hid (show hasA ys a = false by rw [← hn, List.take_of_length_le (by omega)])
      clear hl hn
      go_wp2
      go_ret
      exact ⟨-1, rfl, by rw [HN.out]; rfl, hS⟩
theorem contf_any {W w : World} {L : List Asrt} {pw : Nat} {a : Int} {av : Value} (hS : Sat W w (Cs pw 40 [.int .i64 a, av] :: L)) (ys : List GW) (ao : Option Addr) (c : Nat) (hr : ∀ w, Sat W w L → RdG w (.slice ao ys.length c) ys) (hb : ys.length ≤ 1000000) :
    Calls Try.prog 41 #[.slice ao ys.length c, .func (.func 42) #[] #[.pointer (some ⟨pw, 0, none⟩)]] w fun e w' => e = .returned (.bool (hasA ys a)) ∧ Sat W w' (Cs pw 40 [.int .i64 a, av] :: L) := by
  go_enter Try.func41, Try.ntmps41
  go_wp2_with (go_at_call 50; refine (indexf_any hS ys ao c hr hb).mono ?_; rintro e w1 ⟨i, rfl, hi, hS1⟩; clear hS; have hS := hS1; clear hS1)
  go_ret
  rw [← hi]
  exact ⟨rfl, hS⟩
theorem okAt_at {n : Int} {g : G2} {i : Nat} {x : Int × List UInt8} (h : g[i]? = some x) : okAt n g i = (okW n x && !twice g i x.1) := by unfold okAt; rw [h]
theorem okW_cases {n : Int} {a : Int} {d : List UInt8} (h : okW n (a, d) = false) : decide (a < 0) = true ∨ (decide (a < 0) = false ∧ decide (n ≤ a) = true) ∨ (decide (a < 0) = false ∧ decide (n ≤ a) = false ∧ decide (2 ≤ a) = true ∧ decide (a < 26) = true) ∨
    (decide (a < 0) = false ∧ decide (n ≤ a) = false ∧ decide (2 ≤ a) = false ∧ ((d.length : Int) != 128) = true) ∨ (decide (a < 0) = false ∧ decide (n ≤ a) = false ∧ decide (2 ≤ a) = true ∧ decide (a < 26) = false ∧ ((d.length : Int) != 128) = true) := by
  unfold okW at h
  simp only [Bool.and_eq_false_iff, decide_eq_false_iff_not, Bool.not_eq_false', Bool.and_eq_true, decide_eq_true_eq, bne_iff_ne] at h ⊢
  omega
theorem okW_yes {n : Int} {a : Int} {d : List UInt8} (h : okW n (a, d) = true) : decide (a < 0) = false ∧ decide (n ≤ a) = false ∧ (decide (2 ≤ a) = false ∨ (decide (2 ≤ a) = true ∧ decide (a < 26) = false)) ∧ ((d.length : Int) != 128) = false := by
  have h1 := okW_at h
  have h2 := okW_data h
  dsimp only at h1 h2
  simp only [decide_eq_false_iff_not, decide_eq_true_eq, bne_eq_false_iff_eq]
  omega
set_option maxRecDepth 20000 in
set_option maxHeartbeats 4000000 in
theorem wcheck_any {W w : World} {L : List Asrt} (hS : Sat W w L) (xs : List GW) (ao : Option Addr) (c : Nat) (hr : ∀ w, Sat W w L → RdG w (.slice ao xs.length c) xs) (hb : xs.length ≤ 1000000) (n : Int) :
    Calls Try.prog 19 #[.slice ao xs.length c, .int .i64 n] w fun e w' => e = .returned (.bool (okG n (g2 xs))) ∧ Sat W w' L := by
  have HR := Lib.hid hr
  obtain ⟨_, _, he, hc1, hc2, _, h5⟩ := (hr w hS).1
  simp only [Value.slice.injEq, true_and] at he
  obtain ⟨rfl, rfl⟩ := he
  have H5 := Lib.hid h5
  clear hr h5
  by_cases h1 : xs.length < 1
  · have i1 : (xs.length : Int) < 1 := by omega
    have HO := Lib.hid (show okG n (g2 xs) = false by unfold okG; rw [g2_len, decide_eq_false (by omega : ¬ 1 ≤ xs.length)]; rfl)
    clear h1
    rw [HO.out]
    go_enter Try.func19, Try.ntmps19
    go_wp2
    go_ret
    exact ⟨rfl, hS⟩
  by_cases h2 : 20 < xs.length
  · have i1 : ¬ (xs.length : Int) < 1 := by omega
    have i2 : (20 : Int) < (xs.length : Int) := by omega
    have HO := Lib.hid (show okG n (g2 xs) = false by unfold okG; rw [g2_len, decide_eq_false (by omega : ¬ xs.length ≤ 20)]; simp)
    clear h1 h2
    rw [HO.out]
    go_enter Try.func19, Try.ntmps19
    go_wp2
    go_ret
    exact ⟨rfl, hS⟩
  have i1 : ¬ (xs.length : Int) < 1 := by omega
  have i2 : ¬ (20 : Int) < (xs.length : Int) := by omega
  have HO := Lib.hid (okG_all (n := n) (g := g2 xs) (by rw [g2_len]; omega) (by rw [g2_len]; omega))
  have H12 := Lib.hid (show 1 ≤ xs.length ∧ xs.length ≤ 20 by omega)
  clear h1 h2
  go_enter Try.func19, Try.ntmps19
  go_wp2
  have H0 := Lib.hid hS
  go_loopw [18] (fun v wz => ∃ k : Nat, v = .int .i64 k ∧ k ≤ xs.length ∧ okPre n (g2 xs) k = true ∧ Sat W wz L) (fun v _ => xs.length - (intOf v).toNat)
  case atStart => exact ⟨0, rfl, by omega, rfl, H0.out⟩
  case round =>
    clear hS H0
    obtain ⟨k, rfl, hk, hp, hS⟩ := hrel
    by_cases hl : k < xs.length
    · have k1 : (k : Int) < (xs.length : Int) := by omega
      have k2 : (k : Int) ≤ (c : Int) := by omega
      obtain ⟨b, off, rfl, _⟩ := H5.out (by omega)
      obtain ⟨⟨xa, xv, xd⟩, hx⟩ : ∃ x, xs[k]? = some x := ⟨_, List.getElem?_eq_getElem hl⟩
      obtain ⟨ad, cd, rfl⟩ : ∃ ad cd, xv = .slice ad xd.length cd := (HR.out _ hS).slice hx
      have HX := Lib.hid hx
      have HL := Lib.hid hl
      have HP := Lib.hid hp
      have hat := okAt_at (n := n) (g2_at hx)
      have htk : (xs.take k).length = k := by rw [List.length_take]; omega
      have HCF := Lib.hid (fun (pw : Nat) w (h : Sat W w (Cs pw 40 [.int .i64 xa, .slice ad xd.length cd] :: L)) => by
        have := contf_any h (xs.take k) (some ⟨b, off, none⟩) c (fun w h => (HR.out w h).take (by omega)) (by rw [htk]; omega)
        rw [htk, hasA_twice] at this
        exact this)
      have HST := Lib.hid (okPre_succ n (g2 xs) k)
      have HNO := Lib.hid (okPre_no (n := n) (g := g2 xs) (i := k) (by rw [g2_len]; exact hl))
      have HAT := Lib.hid hat
      clear hx hl hp hat htk
      cases ht : twice (g2 xs) k xa
      · have HT := Lib.hid ht
        rw [ht] at HCF
        clear ht
        cases hw : okW n (xa, xd)
        · have HF := Lib.hid (HNO.out (by rw [HAT.out, hw]; rfl))
          rcases okW_cases hw with q1 | ⟨q1, q2⟩ | ⟨q1, q2, q3, q4⟩ | ⟨q1, q2, q3, q4⟩ | ⟨q1, q2, q3, q4, q5⟩
          all_goals
            clear hw
            go_wp2_with (first
              | (refine toList (by rfl) ?_; refine wp_of_reads (rLdRdA (HR.out _ hS).1 (gw_len xs) _ _ (by rfl) _ (by rfl) (agOf (by rfl)) (szOf (by rfl)) k (by omega) HX.out (by omega)) ?_)
              | (refine toList (by rfl) ?_; refine al hS _ (by rfl) (zrOf (by rfl)) ?_; intro px w1 hS1; clear hS; have hS := hS1; clear hS1; rw [cells_agg] at hS)
              | (refine toList (by rfl) ?_; refine stW hS _ _ _ (by rfl) (by rfl) (gw ⟨xa, .slice ad xd.length cd, xd⟩) (by rfl) (gw_one _ _) (szOf (by rfl)) Has.z (by rfl) ?_; intro w1 hS1; clear hS; have hS := hS1; clear hS1; dsimp only [List.set_cons_zero] at hS)
              | (go_at_call 41; refine (HCF.out _ _ hS).mono ?_; rintro e w1 ⟨rfl, hS1⟩; clear hS; have hS := hS1; clear hS1)
              | (refine toList (by rfl) ?_; refine ld hS _ _ (by rfl) _ _ (by rfl) (agOf (by rfl)) Has.z (by rfl) ?_))
            go_ret
            rw [HF.out]
            exact ⟨rfl, hS.drop⟩
        · obtain ⟨q1, q2, q3, q4⟩ := okW_yes hw
          have HQ := Lib.hid (show okPre n (g2 xs) (k + 1) = true by rw [HST.out, HP.out, HAT.out, hw, HT.out]; rfl)
          clear hw
          rcases q3 with q3 | ⟨q3, q5⟩
          all_goals
            go_wp2_with (first
              | (refine toList (by rfl) ?_; refine wp_of_reads (rLdRdA (HR.out _ hS).1 (gw_len xs) _ _ (by rfl) _ (by rfl) (agOf (by rfl)) (szOf (by rfl)) k (by omega) HX.out (by omega)) ?_)
              | (refine toList (by rfl) ?_; refine al hS _ (by rfl) (zrOf (by rfl)) ?_; intro px w1 hS1; clear hS; have hS := hS1; clear hS1; rw [cells_agg] at hS)
              | (refine toList (by rfl) ?_; refine stW hS _ _ _ (by rfl) (by rfl) (gw ⟨xa, .slice ad xd.length cd, xd⟩) (by rfl) (gw_one _ _) (szOf (by rfl)) Has.z (by rfl) ?_; intro w1 hS1; clear hS; have hS := hS1; clear hS1; dsimp only [List.set_cons_zero] at hS)
              | (go_at_call 41; refine (HCF.out _ _ hS).mono ?_; rintro e w1 ⟨rfl, hS1⟩; clear hS; have hS := hS1; clear hS1)
              | (refine toList (by rfl) ?_; refine ld hS _ _ (by rfl) _ _ (by rfl) (agOf (by rfl)) Has.z (by rfl) ?_))
            exact ⟨⟨k + 1, by go_num, HL.out, HQ.out, hS.drop⟩, by simp [intOf]; have := HL.out; omega⟩
      · have HF := Lib.hid (HNO.out (by rw [HAT.out]; dsimp only; rw [ht]; simp))
        rw [ht] at HCF
        clear ht
        go_wp2_with (first
          | (refine toList (by rfl) ?_; refine wp_of_reads (rLdRdA (HR.out _ hS).1 (gw_len xs) _ _ (by rfl) _ (by rfl) (agOf (by rfl)) (szOf (by rfl)) k (by omega) HX.out (by omega)) ?_)
          | (refine toList (by rfl) ?_; refine al hS _ (by rfl) (zrOf (by rfl)) ?_; intro px w1 hS1; clear hS; have hS := hS1; clear hS1; rw [cells_agg] at hS)
          | (refine toList (by rfl) ?_; refine stW hS _ _ _ (by rfl) (by rfl) (gw ⟨xa, .slice ad xd.length cd, xd⟩) (by rfl) (gw_one _ _) (szOf (by rfl)) Has.z (by rfl) ?_; intro w1 hS1; clear hS; have hS := hS1; clear hS1; dsimp only [List.set_cons_zero] at hS)
          | (go_at_call 41; refine (HCF.out _ _ hS).mono ?_; rintro e w1 ⟨rfl, hS1⟩; clear hS; have hS := hS1; clear hS1)
          | (refine toList (by rfl) ?_; refine ld hS _ _ (by rfl) _ _ (by rfl) (agOf (by rfl)) Has.z (by rfl) ?_))
        go_ret
        rw [HF.out]
        exact ⟨rfl, hS.drop⟩
    · have k1 : ¬ (k : Int) < (xs.length : Int) := by omega
      have HF := Lib.hid (show okG n (g2 xs) = true by rw [HO.out, g2_len, show xs.length = k by omega]; exact hp)
      clear hl hp
      go_wp2
      go_ret
      rw [HF.out]
      exact ⟨rfl, hS⟩
end Go.Proofs.Ytefbkpggmmhgcaa
