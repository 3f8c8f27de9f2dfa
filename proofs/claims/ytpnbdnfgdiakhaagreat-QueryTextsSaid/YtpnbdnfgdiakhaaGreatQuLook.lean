/-
  The document's Check of a question.
-/
import Derived.Test.YtpnbdnfgdiakhaaGreatMQub
import Derived.Test.YtpnbdnfgdiakhaaGreatMReg
namespace Go.Proofs.YtpnbdnfgdiakhaaGreat
open Go.RowKit Go.Sep
set_option linter.unusedSimpArgs false
set_option linter.unusedVariables false
attribute [local irreducible] Go.Oper.wp Go.wpList Go.Calls Go.Code.wp Go.Sep.Reg
/-- May a question be, whatever its kids are, and whether they are like it or not? -/
def StepD.alone0 (q : StepD) : Bool :=
  if q.op = 1 ∨ q.op = 2 ∨ q.op = 8 then decide (q.kids.length = 0) && decide (q.n = 0)
  else if q.op = 3 then decide (q.kids.length = 0) && decide (1 ≤ q.n) && decide (q.n ≤ 5)
  else if q.op = 4 then decide (q.kids.length = 0) && decide (0 ≤ q.n) && decide (q.n < 8)
  else if q.op = 5 then decide (q.kids.length = 1) && decide (q.n = 0)
  else if q.op = 6 ∨ q.op = 7 then decide (2 ≤ q.kids.length) && decide (q.n = 0)
  else false
def StepD.unlike (q k : StepD) : Bool := decide (k.op ≠ q.op) || decide (q.op = 5)
theorem StepD.alone_iff (q : StepD) : q.alone = true ↔ q.alone0 = true ∧ ∀ k ∈ q.kids, q.unlike k = true := by
  unfold alone alone0 unlike
  have z : q.kids.length = 0 → ∀ k ∈ q.kids, False := fun h k hk => by rw [List.length_eq_zero_iff] at h; rw [h] at hk; cases hk
  split
  · simp only [Bool.and_eq_true, decide_eq_true_eq]
    exact ⟨fun h => ⟨⟨h.2, h.1⟩, fun k hk => (z h.2 k hk).elim⟩, fun h => ⟨h.1.2, h.1.1⟩⟩
  · split
    · simp only [Bool.and_eq_true, decide_eq_true_eq]
      exact ⟨fun h => ⟨⟨⟨h.2, h.1.1⟩, h.1.2⟩, fun k hk => (z h.2 k hk).elim⟩, fun h => ⟨⟨h.1.1.2, h.1.2⟩, h.1.1.1⟩⟩
    · split
      · simp only [Bool.and_eq_true, decide_eq_true_eq]
        exact ⟨fun h => ⟨⟨⟨h.2, h.1.1⟩, h.1.2⟩, fun k hk => (z h.2 k hk).elim⟩, fun h => ⟨⟨h.1.1.2, h.1.2⟩, h.1.1.1⟩⟩
      · split
        · rename_i h5
          simp only [Bool.and_eq_true, decide_eq_true_eq, Bool.or_eq_true]
          exact ⟨fun h => ⟨⟨h.2, h.1⟩, fun k hk => .inr h5⟩, fun h => ⟨h.1.2, h.1.1⟩⟩
        · rename_i h5
          split
          · simp only [Bool.and_eq_true, decide_eq_true_eq, Bool.or_eq_true, Bool.not_eq_true', List.any_eq_false]
            refine ⟨fun h => ⟨⟨h.1.2, h.1.1⟩, fun k hk => .inl (h.2 k hk)⟩, fun h => ⟨⟨h.1.2, h.1.1⟩, fun k hk => ?_⟩⟩
            rcases h.2 k hk with h2 | h2
            · exact h2
            · exact absurd h2 h5
          · simp
theorem StepD.fits_no2 {d left : Nat} {q : StepD} (h : q.alone = false) : q.fits (d + 1) left = false := by
  cases h2 : q.fits (d + 1) left with
  | false => rfl
  | true =>
    unfold StepD.fits at h2
    rw [Bool.and_eq_true, StepD.ok_succ] at h2
    rw [h2.1.1] at h; cases h
theorem StepD.alone_no {q : StepD} (h : q.alone0 = false) : q.alone = false := by
  cases h2 : q.alone with
  | false => rfl
  | true => rw [((q.alone_iff).1 h2).1] at h; cases h
theorem StepD.alone_no2 {q k : StepD} (hk : k ∈ q.kids) (h : q.unlike k = false) : q.alone = false := by
  cases h2 : q.alone with
  | false => rfl
  | true => rw [((q.alone_iff).1 h2).2 k hk] at h; cases h
def LkPost (W : World) (L : List Asrt) (pn : Nat) (f : Bool) (m : Nat) (v : Value) (w' : World) : Prop := ∃ z : Int, v = .bool f ∧ (f = true → z = (m : Int)) ∧ Sat W w' (Cs pn 3 [.int .i64 z] :: L)
def lkJ (W : World) (L : List Asrt) (pn px : Nat) (op nn t : Int) (ao : Option Addr) (c m : Nat) (ks : List StepD) : Act → World → Prop := (fun (a' : Act) (w' : World) => ((a'.tmps.getD 7 undef) = .int .i64 (ks.length : Int) ∧ (a'.tmps.getD 8 undef) = .bool (StepD.alone0 (.mk op nn (.slice ao ks.length c) ks)) ∧ Sat W w' (Cs px 27 [.int .i64 op, .int .i64 nn, .slice ao ks.length c] :: Cs pn 3 [.int .i64 ((m : Int) + 1)] :: L)) ∧ a' = ⟨#[.agg #[.int .i64 op, .int .i64 nn, .slice ao ks.length c], .int .i64 t, .pointer (some ⟨pn, 0, none⟩), .pointer (some ⟨px, 0, none⟩), (a'.tmps.getD 4 undef), (a'.tmps.getD 5 undef), .bool false, (a'.tmps.getD 7 undef), (a'.tmps.getD 8 undef), (a'.tmps.getD 9 undef), (a'.tmps.getD 10 undef), (a'.tmps.getD 11 undef), (a'.tmps.getD 12 undef), (a'.tmps.getD 13 undef), (a'.tmps.getD 14 undef), (a'.tmps.getD 15 undef), (a'.tmps.getD 16 undef), (a'.tmps.getD 17 undef), (a'.tmps.getD 18 undef), (a'.tmps.getD 19 undef), (a'.tmps.getD 20 undef), (a'.tmps.getD 21 undef), (a'.tmps.getD 22 undef), (a'.tmps.getD 23 undef), (a'.tmps.getD 24 undef), (a'.tmps.getD 25 undef), (a'.tmps.getD 26 undef), (a'.tmps.getD 27 undef), (a'.tmps.getD 28 undef), (a'.tmps.getD 29 undef), (a'.tmps.getD 30 undef), (a'.tmps.getD 31 undef), (a'.tmps.getD 32 undef), (a'.tmps.getD 33 undef), (a'.tmps.getD 34 undef), (a'.tmps.getD 35 undef), (a'.tmps.getD 36 undef), (a'.tmps.getD 37 undef), (a'.tmps.getD 38 undef), (a'.tmps.getD 39 undef), (a'.tmps.getD 40 undef), (a'.tmps.getD 41 undef), (a'.tmps.getD 42 undef), (a'.tmps.getD 43 undef), (a'.tmps.getD 44 undef), (a'.tmps.getD 45 undef), (a'.tmps.getD 46 undef), (a'.tmps.getD 47 undef), (a'.tmps.getD 48 undef), (a'.tmps.getD 49 undef), (a'.tmps.getD 50 undef), (a'.tmps.getD 51 undef), (a'.tmps.getD 52 undef), (a'.tmps.getD 53 undef), (a'.tmps.getD 54 undef), (a'.tmps.getD 55 undef), (a'.tmps.getD 56 undef), (a'.tmps.getD 57 undef), (a'.tmps.getD 58 undef), (a'.tmps.getD 59 undef), (a'.tmps.getD 60 undef), (a'.tmps.getD 61 undef), (a'.tmps.getD 62 undef), (a'.tmps.getD 63 undef), (a'.tmps.getD 64 undef), (a'.tmps.getD 65 undef), (a'.tmps.getD 66 undef), (a'.tmps.getD 67 undef), (a'.tmps.getD 68 undef), (a'.tmps.getD 69 undef), (a'.tmps.getD 70 undef), (a'.tmps.getD 71 undef), (a'.tmps.getD 72 undef), (a'.tmps.getD 73 undef), (a'.tmps.getD 74 undef), (a'.tmps.getD 75 undef), (a'.tmps.getD 76 undef), (a'.tmps.getD 77 undef), (a'.tmps.getD 78 undef), (a'.tmps.getD 79 undef), (a'.tmps.getD 80 undef), (a'.tmps.getD 81 undef), (a'.tmps.getD 82 undef), (a'.tmps.getD 83 undef), (a'.tmps.getD 84 undef), (a'.tmps.getD 85 undef), (a'.tmps.getD 86 undef), (a'.tmps.getD 87 undef), (a'.tmps.getD 88 undef), (a'.tmps.getD 89 undef), (a'.tmps.getD 90 undef), (a'.tmps.getD 91 undef), (a'.tmps.getD 92 undef), (a'.tmps.getD 93 undef), (a'.tmps.getD 94 undef), (a'.tmps.getD 95 undef), (a'.tmps.getD 96 undef), (a'.tmps.getD 97 undef), (a'.tmps.getD 98 undef), (a'.tmps.getD 99 undef), (a'.tmps.getD 100 undef), (a'.tmps.getD 101 undef), (a'.tmps.getD 102 undef), (a'.tmps.getD 103 undef), (a'.tmps.getD 104 undef), (a'.tmps.getD 105 undef), (a'.tmps.getD 106 undef), (a'.tmps.getD 107 undef), (a'.tmps.getD 108 undef), (a'.tmps.getD 109 undef), (a'.tmps.getD 110 undef), (a'.tmps.getD 111 undef), (a'.tmps.getD 112 undef), (a'.tmps.getD 113 undef), (a'.tmps.getD 114 undef), (a'.tmps.getD 115 undef), (a'.tmps.getD 116 undef), (a'.tmps.getD 117 undef), (a'.tmps.getD 118 undef), (a'.tmps.getD 119 undef)], []⟩)
set_option maxRecDepth 20000 in
set_option maxHeartbeats 4000000 in
theorem look_any : ∀ (d : Nat) {W w : World} {L : List Asrt} {pn : Nat} (q : StepD) (m : Nat) (t : Int) (_ : Sat W w (Cs pn 3 [.int .i64 (m : Int)] :: L)) (_ : t + d = 13) (_ : d ≤ 13) (_ : m ≤ 40) (_ : ∀ w L', Sat W w (L' ++ L) → QRd w d q),
    Calls Tryz.prog 34 #[.agg (qv q).toArray, .int .i64 t, .pointer (some ⟨pn, 0, none⟩)] w fun r w' => ∃ v, r = .returned v ∧ LkPost W L pn (q.fits d (40 - m)) (m + q.cnt d) v w' := by
  intro d
  induction d with
  | zero =>
    intro W w L pn q m t hS ht _ hl hq
    have hf : q.fits 0 (40 - m) = false := rfl
    rw [hf]
    obtain ⟨ao, n, c, hu⟩ := (hq w [_] hS).shape
    obtain ⟨op, nn, u, ks⟩ := q
    replace hu : u = .slice ao n c := hu
    subst hu
    clear hq hf
    show Calls Tryz.prog 34 #[.agg #[.int .i64 op, .int .i64 nn, .slice ao n c], .int .i64 t, .pointer (some ⟨pn, 0, none⟩)] w _
    have ht2 : t = 13 := by omega
    subst ht2
    have hli : (m : Int) ≤ 40 := by omega
    have hcs : (decide (40 < (m : Int) + 1) = true) ∨ (decide (40 < (m : Int) + 1) = false) := by cases decide (40 < (m : Int) + 1) <;> simp
    clear ht
    rcases hcs with h1 | h1
    all_goals
      go_enter Tryz.func34, Tryz.ntmps34
      go_wp2_with (first
        | (refine toList (by rfl) ?_; refine bx hS _ _ (by rfl) _ (by first | exact evC | exact evT (by rfl)) ?_; intro px w1 hS1; clear hS; have hS := hS1; clear hS1; rw [cells_agg] at hS)
        | (refine toList (by rfl) ?_; refine ld hS _ _ (by rfl) _ _ (by rfl) (agOf (by rfl)) (by repeat first | exact Has.z | apply Has.s) (by rfl) ?_)
        | (refine toList (by rfl) ?_; refine st hS _ _ _ (by rfl) _ _ (by rfl) _ (by first | exact evC | exact evT (by rfl)) (by rfl) (szOf (by rfl)) (by repeat first | exact Has.z | apply Has.s) (by exact Nat.le_of_ble_eq_true rfl) ?_; intro w1 hS1; clear hS; have hS := hS1; clear hS1; dsimp only [List.set] at hS)
        | (refine toList (by rfl) ?_; refine ld hS _ _ (by rfl) _ _ (by rfl) (agOf (by rfl)) (Has.s Has.z) (by rfl) ?_)
        | (refine toList (by rfl) ?_; refine st hS _ _ _ (by rfl) _ _ (by rfl) _ (by first | exact evC | exact evT (by rfl)) (by rfl) (szOf (by rfl)) (Has.s Has.z) (by exact Nat.le_of_ble_eq_true rfl) ?_; intro w1 hS1; clear hS; have hS := hS1; clear hS1; dsimp only [List.set] at hS))
      go_ret
      exact ⟨_, rfl, _, rfl, (fun h => nomatch h), hS.drop⟩
  | succ d ih =>
    intro W w L pn q m t hS ht hd hl hq
    have hq0 := hq w [_] hS
    obtain ⟨op, nn, u, ks⟩ := q
    obtain ⟨ao, c, hu, hc1, hc2, _, h5⟩ := hq0.1
    replace hu : u = .slice ao ks.length c := hu
    replace hc1 : ks.length ≤ c := hc1
    subst hu
    have HU := Lib.hid (hq0.kid_one)
    have HQ := Lib.hid hq
    have HR := Lib.hid (fun w L' (h : Sat W w (L' ++ L)) => show Rd w (.slice ao ks.length c) ks.length 3 (ks.flatMap qv) from (hq w L' h).1)
    have H5 := Lib.hid (show 0 < ks.length → ∃ b off, ao = some ⟨b, off, none⟩ from fun h => by obtain ⟨b, off, h1, _⟩ := h5 h; exact ⟨b, off, h1⟩)
    have t1 : ¬ (12 : Int) < t := by omega
    have t2 : decide ((12 : Int) < t) = false := decide_eq_false t1
    have t3 : -1 ≤ t := by omega
    have t4 : t ≤ 12 := by omega
    have hli : (m : Int) ≤ 40 := by omega
    have hks : (ks.length : Int) ≤ 9223372036854775807 := by omega
    clear hq h5
    show Calls Tryz.prog 34 #[.agg #[.int .i64 op, .int .i64 nn, .slice ao ks.length c], .int .i64 t, .pointer (some ⟨pn, 0, none⟩)] w _
    by_cases hm : 40 ≤ m
    · have hf : StepD.fits (d + 1) (40 - m) (.mk op nn (.slice ao ks.length c) ks) = false := by
        unfold StepD.fits
        have := StepD.cnt_pos (d + 1) (.mk op nn (.slice ao ks.length c) ks)
        rw [decide_eq_false (by omega), Bool.and_false]
      rw [hf]
      have m1 : (40 : Int) < (m : Int) + 1 := by omega
      have m2 : decide ((40 : Int) < (m : Int) + 1) = true := decide_eq_true m1
      clear hf ht hq0 HU HQ HR H5 hm
      go_enter Tryz.func34, Tryz.ntmps34
      go_wp2_with (first
        | (refine toList (by rfl) ?_; refine bx hS _ _ (by rfl) _ (by first | exact evC | exact evT (by rfl)) ?_; intro px w1 hS1; clear hS; have hS := hS1; clear hS1; rw [cells_agg] at hS)
        | (refine toList (by rfl) ?_; refine ld hS _ _ (by rfl) _ _ (by rfl) (agOf (by rfl)) (Has.s Has.z) (by rfl) ?_)
        | (refine toList (by rfl) ?_; refine st hS _ _ _ (by rfl) _ _ (by rfl) _ (by first | exact evC | exact evT (by rfl)) (by rfl) (szOf (by rfl)) (Has.s Has.z) (by exact Nat.le_of_ble_eq_true rfl) ?_; intro w1 hS1; clear hS; have hS := hS1; clear hS1; dsimp only [List.set] at hS))
      go_ret
      exact ⟨_, rfl, _, rfl, (fun h => nomatch h), hS.drop⟩
    have m1 : ¬ (40 : Int) < (m : Int) + 1 := by omega
    have m2 : decide ((40 : Int) < (m : Int) + 1) = false := decide_eq_false m1
    go_enter Tryz.func34, Tryz.ntmps34
    refine sep_part (fun K HK => ?_)
    go_wp2_with (refine toList (by rfl) ?_; refine bx hS _ _ (by rfl) _ (by first | exact evC | exact evT (by rfl)) ?_; intro px w1 hS1; clear hS; have hS := hS1; clear hS1; rw [cells_agg] at hS)
    refine HK.out _ _ ?_
    clear HK K
    refine sep_part (fun K HK => ?_)
    go_wp2_with (first
      | (refine toList (by rfl) ?_; refine ld hS _ _ (by rfl) _ _ (by rfl) (agOf (by rfl)) (Has.s Has.z) (by rfl) ?_)
      | (refine toList (by rfl) ?_; refine st hS _ _ _ (by rfl) _ _ (by rfl) _ (by first | exact evC | exact evT (by rfl)) (by rfl) (szOf (by rfl)) (Has.s Has.z) (by exact Nat.le_of_ble_eq_true rfl) ?_; intro w1 hS1; clear hS; have hS := hS1; clear hS1; dsimp only [List.set] at hS))
    refine HK.out _ _ ?_
    clear HK K
    refine sep_part (fun K HK => ?_)
    go_wp2_with (first
      | (refine toList (by rfl) ?_; refine ld hS _ _ (by rfl) _ _ (by rfl) (agOf (by rfl)) (Has.s Has.z) (by rfl) ?_))
    refine HK.out _ _ ?_
    clear HK K
    refine sep_part (fun K HK => ?_)
    go_wp2_with (first | (refine toList (by rfl) ?_; refine ld hS _ _ (by rfl) _ _ (by rfl) (agOf (by rfl)) (by repeat first | exact Has.z | apply Has.s) (by rfl) ?_))
    refine HK.out _ _ ?_
    clear HK K
    refine sep_part (fun K HK => ?_)
    go_wp2
    refine HK.out _ _ ?_
    clear HK K
    refine sep_cut (lkJ W L pn px op nn t ao c m ks) (fun K HK => ?_) ?_
    · clear hq0 HU HQ HR H5 ht ih hm
      have z0 : (nn = 0 ∧ (nn == 0) = true) ∨ (nn ≠ 0 ∧ (nn == 0) = false) := by
        by_cases h : nn = 0
        · exact .inl ⟨h, beq_iff_eq.2 h⟩
        · exact .inr ⟨h, beq_eq_false_iff_ne.2 h⟩
      by_cases o1 : op = 1 ∨ op = 2 ∨ op = 8
      · have HA := Lib.hid (show StepD.alone0 (.mk op nn (.slice ao ks.length c) ks) = (decide (ks.length = 0) && decide (nn = 0)) from if_pos o1)
        have l0 : (ks.length = 0 ∧ ((ks.length : Int) == 0) = true ∧ (ks.length == 0) = true) ∨ (¬ ks.length = 0 ∧ ((ks.length : Int) == 0) = false ∧ (ks.length == 0) = false) := by
          by_cases h : ks.length = 0
          · exact .inl ⟨h, beq_iff_eq.2 (by omega), beq_iff_eq.2 h⟩
          · exact .inr ⟨h, beq_eq_false_iff_ne.2 (by omega), beq_eq_false_iff_ne.2 h⟩
        rcases o1 with rfl | rfl | rfl
        all_goals
          rcases l0 with ⟨l, l1, l2⟩ | ⟨l, l1, l2⟩
          all_goals
            rcases z0 with ⟨z, z1⟩ | ⟨z, z1⟩
            all_goals
              first | rw [decide_eq_true l] at HA | rw [decide_eq_false l] at HA
              first | rw [decide_eq_true z] at HA | rw [decide_eq_false z] at HA
              clear l z
              go_wp2_with (first
                | (refine toList (by rfl) ?_; refine ld hS _ _ (by rfl) _ _ (by rfl) (agOf (by rfl)) (by repeat first | exact Has.z | apply Has.s) (by rfl) ?_))
              refine HK.out _ _ ?_
              clear HK K
              unfold lkJ
              exact ⟨⟨rfl, by rw [HA.out]; rfl, hS⟩, rfl⟩
      by_cases o3 : op = 3
      · subst o3
        have HA := Lib.hid (show StepD.alone0 (.mk 3 nn (.slice ao ks.length c) ks) = (decide (ks.length = 0) && decide (1 ≤ nn) && decide (nn ≤ 5)) from rfl)
        clear o1 z0
        have l0 : (ks.length = 0 ∧ ((ks.length : Int) == 0) = true ∧ (ks.length == 0) = true) ∨ (¬ ks.length = 0 ∧ ((ks.length : Int) == 0) = false ∧ (ks.length == 0) = false) := by
          by_cases h : ks.length = 0
          · exact .inl ⟨h, beq_iff_eq.2 (by omega), beq_iff_eq.2 h⟩
          · exact .inr ⟨h, beq_eq_false_iff_ne.2 (by omega), beq_eq_false_iff_ne.2 h⟩
        by_cases n1 : 1 ≤ nn
        · have m1 : decide ((1 : Int) ≤ nn) = true := decide_eq_true n1
          by_cases n2 : nn ≤ 5
          · have m2 : decide (nn ≤ 5) = true := decide_eq_true n2
            rcases l0 with ⟨l, l1, l2⟩ | ⟨l, l1, l2⟩
            all_goals
              have HA := Lib.hid (HA.out.trans (by rw [m1, m2]))
              first | rw [decide_eq_true l] at HA | rw [decide_eq_false l] at HA
              clear l
              go_wp2_with (first
                | (refine toList (by rfl) ?_; refine ld hS _ _ (by rfl) _ _ (by rfl) (agOf (by rfl)) (by repeat first | exact Has.z | apply Has.s) (by rfl) ?_))
              refine HK.out _ _ ?_
              clear HK K
              unfold lkJ
              exact ⟨⟨rfl, by rw [HA.out]; rfl, hS⟩, rfl⟩
          · have m2 : decide (nn ≤ 5) = false := decide_eq_false n2
            rcases l0 with ⟨l, l1, l2⟩ | ⟨l, l1, l2⟩
            all_goals
              have HA := Lib.hid (HA.out.trans (by rw [m1, m2]))
              first | rw [decide_eq_true l] at HA | rw [decide_eq_false l] at HA
              clear l
              go_wp2_with (first
                | (refine toList (by rfl) ?_; refine ld hS _ _ (by rfl) _ _ (by rfl) (agOf (by rfl)) (by repeat first | exact Has.z | apply Has.s) (by rfl) ?_))
              refine HK.out _ _ ?_
              clear HK K
              unfold lkJ
              exact ⟨⟨rfl, by rw [HA.out]; rfl, hS⟩, rfl⟩
        · have m1 : decide ((1 : Int) ≤ nn) = false := decide_eq_false n1
          rcases l0 with ⟨l, l1, l2⟩ | ⟨l, l1, l2⟩
          all_goals
            have HA := Lib.hid (HA.out.trans (by rw [m1]))
            first | rw [decide_eq_true l] at HA | rw [decide_eq_false l] at HA
            clear l
            go_wp2_with (first
              | (refine toList (by rfl) ?_; refine ld hS _ _ (by rfl) _ _ (by rfl) (agOf (by rfl)) (by repeat first | exact Has.z | apply Has.s) (by rfl) ?_))
            refine HK.out _ _ ?_
            clear HK K
            unfold lkJ
            exact ⟨⟨rfl, by rw [HA.out]; rfl, hS⟩, rfl⟩
      by_cases o4 : op = 4
      · subst o4
        have HA := Lib.hid (show StepD.alone0 (.mk 4 nn (.slice ao ks.length c) ks) = (decide (ks.length = 0) && decide (0 ≤ nn) && decide (nn < 8)) from rfl)
        clear o1 o3 z0
        have l0 : (ks.length = 0 ∧ ((ks.length : Int) == 0) = true ∧ (ks.length == 0) = true) ∨ (¬ ks.length = 0 ∧ ((ks.length : Int) == 0) = false ∧ (ks.length == 0) = false) := by
          by_cases h : ks.length = 0
          · exact .inl ⟨h, beq_iff_eq.2 (by omega), beq_iff_eq.2 h⟩
          · exact .inr ⟨h, beq_eq_false_iff_ne.2 (by omega), beq_eq_false_iff_ne.2 h⟩
        by_cases n1 : 0 ≤ nn
        · have m1 : decide ((0 : Int) ≤ nn) = true := decide_eq_true n1
          by_cases n2 : nn < 8
          · have m2 : decide (nn < 8) = true := decide_eq_true n2
            rcases l0 with ⟨l, l1, l2⟩ | ⟨l, l1, l2⟩
            all_goals
              have HA := Lib.hid (HA.out.trans (by rw [m1, m2]))
              first | rw [decide_eq_true l] at HA | rw [decide_eq_false l] at HA
              clear l
              go_wp2_with (first
                | (refine toList (by rfl) ?_; refine ld hS _ _ (by rfl) _ _ (by rfl) (agOf (by rfl)) (by repeat first | exact Has.z | apply Has.s) (by rfl) ?_))
              refine HK.out _ _ ?_
              clear HK K
              unfold lkJ
              exact ⟨⟨rfl, by rw [HA.out]; rfl, hS⟩, rfl⟩
          · have m2 : decide (nn < 8) = false := decide_eq_false n2
            rcases l0 with ⟨l, l1, l2⟩ | ⟨l, l1, l2⟩
            all_goals
              have HA := Lib.hid (HA.out.trans (by rw [m1, m2]))
              first | rw [decide_eq_true l] at HA | rw [decide_eq_false l] at HA
              clear l
              go_wp2_with (first
                | (refine toList (by rfl) ?_; refine ld hS _ _ (by rfl) _ _ (by rfl) (agOf (by rfl)) (by repeat first | exact Has.z | apply Has.s) (by rfl) ?_))
              refine HK.out _ _ ?_
              clear HK K
              unfold lkJ
              exact ⟨⟨rfl, by rw [HA.out]; rfl, hS⟩, rfl⟩
        · have m1 : decide ((0 : Int) ≤ nn) = false := decide_eq_false n1
          rcases l0 with ⟨l, l1, l2⟩ | ⟨l, l1, l2⟩
          all_goals
            have HA := Lib.hid (HA.out.trans (by rw [m1]))
            first | rw [decide_eq_true l] at HA | rw [decide_eq_false l] at HA
            clear l
            go_wp2_with (first
              | (refine toList (by rfl) ?_; refine ld hS _ _ (by rfl) _ _ (by rfl) (agOf (by rfl)) (by repeat first | exact Has.z | apply Has.s) (by rfl) ?_))
            refine HK.out _ _ ?_
            clear HK K
            unfold lkJ
            exact ⟨⟨rfl, by rw [HA.out]; rfl, hS⟩, rfl⟩
      by_cases o5 : op = 5
      · subst o5
        have HA := Lib.hid (show StepD.alone0 (.mk 5 nn (.slice ao ks.length c) ks) = (decide (ks.length = 1) && decide (nn = 0)) from rfl)
        clear o1 o3 o4
        have l0 : (ks.length = 1 ∧ ((ks.length : Int) == 1) = true ∧ (ks.length == 1) = true) ∨ (¬ ks.length = 1 ∧ ((ks.length : Int) == 1) = false ∧ (ks.length == 1) = false) := by
          by_cases h : ks.length = 1
          · exact .inl ⟨h, beq_iff_eq.2 (by omega), beq_iff_eq.2 h⟩
          · exact .inr ⟨h, beq_eq_false_iff_ne.2 (by omega), beq_eq_false_iff_ne.2 h⟩
        rcases l0 with ⟨l, l1, l2⟩ | ⟨l, l1, l2⟩
        all_goals
          rcases z0 with ⟨z, z1⟩ | ⟨z, z1⟩
          all_goals
            first | rw [decide_eq_true l] at HA | rw [decide_eq_false l] at HA
            first | rw [decide_eq_true z] at HA | rw [decide_eq_false z] at HA
            clear l z
            go_wp2_with (first
              | (refine toList (by rfl) ?_; refine ld hS _ _ (by rfl) _ _ (by rfl) (agOf (by rfl)) (by repeat first | exact Has.z | apply Has.s) (by rfl) ?_))
            refine HK.out _ _ ?_
            clear HK K
            unfold lkJ
            exact ⟨⟨rfl, by rw [HA.out]; rfl, hS⟩, rfl⟩
      by_cases o6 : op = 6 ∨ op = 7
      · have HA := Lib.hid (show StepD.alone0 (.mk op nn (.slice ao ks.length c) ks) = (decide (2 ≤ ks.length) && decide (nn = 0)) by
          unfold StepD.alone0
          show (if op = 1 ∨ op = 2 ∨ op = 8 then _ else if op = 3 then _ else if op = 4 then _ else if op = 5 then _ else if op = 6 ∨ op = 7 then _ else _) = _
          rw [if_neg o1, if_neg o3, if_neg o4, if_neg o5, if_pos o6]; rfl)
        clear o1 o3 o4 o5
        have l0 : (2 ≤ ks.length ∧ decide ((2 : Int) ≤ (ks.length : Int)) = true ∧ (2 : Int) ≤ (ks.length : Int)) ∨ (¬ 2 ≤ ks.length ∧ decide ((2 : Int) ≤ (ks.length : Int)) = false ∧ ¬ (2 : Int) ≤ (ks.length : Int)) := by
          by_cases h : 2 ≤ ks.length
          · exact .inl ⟨h, decide_eq_true (by omega), by omega⟩
          · exact .inr ⟨h, decide_eq_false (by omega), by omega⟩
        rcases o6 with rfl | rfl
        all_goals
          rcases l0 with ⟨l, l1, l2⟩ | ⟨l, l1, l2⟩
          all_goals
            rcases z0 with ⟨z, z1⟩ | ⟨z, z1⟩
            all_goals
              first | rw [decide_eq_true l] at HA | rw [decide_eq_false l] at HA
              first | rw [decide_eq_true z] at HA | rw [decide_eq_false z] at HA
              clear l z
              go_wp2_with (first
                | (refine toList (by rfl) ?_; refine ld hS _ _ (by rfl) _ _ (by rfl) (agOf (by rfl)) (by repeat first | exact Has.z | apply Has.s) (by rfl) ?_))
              refine HK.out _ _ ?_
              clear HK K
              unfold lkJ
              exact ⟨⟨rfl, by rw [HA.out]; rfl, hS⟩, rfl⟩
      · have HA := Lib.hid (show StepD.alone0 (.mk op nn (.slice ao ks.length c) ks) = false by
          unfold StepD.alone0
          show (if op = 1 ∨ op = 2 ∨ op = 8 then _ else if op = 3 then _ else if op = 4 then _ else if op = 5 then _ else if op = 6 ∨ op = 7 then _ else _) = _
          rw [if_neg o1, if_neg o3, if_neg o4, if_neg o5, if_neg o6])
        have g1 : (op == 1) = false := beq_eq_false_iff_ne.2 (by omega)
        have g2 : (op == 2) = false := beq_eq_false_iff_ne.2 (by omega)
        have g3 : (op == 3) = false := beq_eq_false_iff_ne.2 (by omega)
        have g4 : (op == 4) = false := beq_eq_false_iff_ne.2 (by omega)
        have g5 : (op == 5) = false := beq_eq_false_iff_ne.2 (by omega)
        have g6 : (op == 6) = false := beq_eq_false_iff_ne.2 (by omega)
        have g7 : (op == 7) = false := beq_eq_false_iff_ne.2 (by omega)
        have g8 : (op == 8) = false := beq_eq_false_iff_ne.2 (by omega)
        clear o1 o3 o4 o5 o6 z0
        go_wp2_with (first
          | (refine toList (by rfl) ?_; refine ld hS _ _ (by rfl) _ _ (by rfl) (agOf (by rfl)) (by repeat first | exact Has.z | apply Has.s) (by rfl) ?_))
        refine HK.out _ _ ?_
        clear HK K
        unfold lkJ
        exact ⟨⟨rfl, by rw [HA.out]; rfl, hS⟩, rfl⟩
    · clear hS
      intro a w0 hinv
      unfold lkJ at hinv
      obtain ⟨hrel, ha⟩ := hinv
      obtain ⟨z, hz⟩ : ∃ z : Nat → Value, ∀ i, a.tmps.getD i undef = z i := ⟨_, fun _ => rfl⟩
      simp only [hz] at hrel ha
      clear hz
      subst ha
      obtain ⟨h7, h8, hS⟩ := hrel
      generalize z 7 = z7 at h7 ⊢
      generalize z 8 = z8 at h8 ⊢
      subst h7
      subst h8
      obtain ⟨Q, hQ⟩ : ∃ Q, StepD.mk op nn (.slice ao ks.length c) ks = Q := ⟨_, rfl⟩
      rw [hQ] at hq0 HU HQ ⊢
      have hQk : Q.kids = ks := by rw [← hQ]; rfl
      have hQo : Q.op = op := by rw [← hQ]; rfl
      have HK2 := Lib.hid hQk
      have HK3 := Lib.hid hQo
      have ht1 : t + 1 + (d : Int) = 13 := by omega
      have HIH := Lib.hid (fun (k : StepD) (hkm : k ∈ ks) (r : Nat) (hr : r ≤ 40) w L' (h : Sat W w (Cs pn 3 [.int .i64 (r : Int)] :: (L' ++ L))) => ih k r (t + 1) h ht1 (by omega) hr fun w L2 h => (HQ.out w (L2 ++ L') (by rw [List.append_assoc]; exact h)).2 k (by rw [hQk]; exact hkm))
      have HKU := Lib.hid (fun (k : StepD) (hkm : k ∈ ks) => HU.out k (by rw [hQk]; exact hkm))
      have hm : m < 40 := by omega
      have HM := Lib.hid hm
      clear ht hQ hQk hQo hq0 HU HQ ih ht1 hm
      cases hb : Q.alone0 with
      | false =>
        have HN := Lib.hid (show Q.fits (d + 1) (40 - m) = false from StepD.fits_no2 (StepD.alone_no hb))
        rw [HN.out]
        have hcs : (decide ((0 : Int) < (ks.length : Int)) = true ∧ decide (0 < ks.length) = true) ∨ (decide ((0 : Int) < (ks.length : Int)) = false ∧ decide (0 < ks.length) = false) := by
          by_cases h : 0 < ks.length
          · exact .inl ⟨decide_eq_true (by omega), decide_eq_true h⟩
          · exact .inr ⟨decide_eq_false (by omega), decide_eq_false h⟩
        clear hb HKU HIH
        have H0 := Lib.hid hS
        go_wp2
        go_loopw [8, 9] (fun v8 v9 wz => v9 = .int .i64 0 ∧ v8 = .bool false ∧ Sat W wz (Cs px 27 [.int .i64 op, .int .i64 nn, .slice ao ks.length c] :: Cs pn 3 [.int .i64 ((m : Int) + 1)] :: L)) (fun _ _ _ => 0)
        case atStart => exact ⟨rfl, rfl, H0.out⟩
        case round =>
          clear hS H0
          obtain ⟨rfl, rfl, hS⟩ := hrel
          rcases hcs with ⟨d1, d2⟩ | ⟨d1, d2⟩
          all_goals
            go_wp2
            go_ret
            exact ⟨_, rfl, _, rfl, (fun h => nomatch h), hS.drop⟩
      | true =>
        have HB := Lib.hid hb
        clear hb
        have H0 := Lib.hid hS
        go_wp2
        go_loopw [8, 9] (fun v8 v9 wz => ∃ (i : Nat) (o : Bool) (nz : Int), v9 = .int .i64 i ∧ v8 = .bool o ∧ i ≤ ks.length ∧ (o = true → nz = ((m + 1 + ((ks.take i).map (StepD.cnt d)).sum : Nat) : Int) ∧ m + 1 + ((ks.take i).map (StepD.cnt d)).sum ≤ 40 ∧ ∀ (j : Nat) (k : StepD), j < i → ks[j]? = some k → k.ok d = true ∧ Q.unlike k = true) ∧ (o = false → Q.fits (d + 1) (40 - m) = false) ∧ Sat W wz (Cs px 27 [.int .i64 op, .int .i64 nn, .slice ao ks.length c] :: Cs pn 3 [.int .i64 nz] :: L)) (fun _ v9 _ => ks.length - (intOf v9).toNat)
        case atStart => exact ⟨0, true, _, rfl, rfl, by omega, (fun _ => ⟨rfl, by have := HM.out; simp; omega, fun j k h => absurd h (Nat.not_lt_zero _)⟩), (fun h => nomatch h), H0.out⟩
        case round =>
          clear hS H0
          obtain ⟨i, o, nz, rfl, rfl, hi, hyes, hno, hS⟩ := hrel
          cases o with
          | false =>
            have HN := Lib.hid (hno rfl)
            have hcs : (decide ((i : Int) < (ks.length : Int)) = true ∧ decide (i < ks.length) = true) ∨ (decide ((i : Int) < (ks.length : Int)) = false ∧ decide (i < ks.length) = false) := by
              by_cases h : i < ks.length
              · exact .inl ⟨decide_eq_true (by omega), decide_eq_true h⟩
              · exact .inr ⟨decide_eq_false (by omega), decide_eq_false h⟩
            clear hyes hno hi
            rcases hcs with ⟨d1, d2⟩ | ⟨d1, d2⟩
            all_goals
              go_wp2
              go_ret
              rw [HN.out]
              exact ⟨_, rfl, _, rfl, (fun h => nomatch h), hS.drop⟩
          | true =>
            obtain ⟨rfl, hsm, hok⟩ := hyes rfl
            have HOK := Lib.hid hok
            have HSM := Lib.hid hsm
            clear hyes hno hok hsm
            by_cases hlt : i < ks.length
            · have k1 : (i : Int) < (ks.length : Int) := by omega
              have e1 : decide ((i : Int) < (ks.length : Int)) = true := decide_eq_true k1
              have e2 : decide (i < ks.length) = true := decide_eq_true hlt
              have HLT := Lib.hid hlt
              obtain ⟨bb, off, rfl⟩ := H5.out (by omega)
              obtain ⟨k, hx⟩ : ∃ k, ks[i]? = some k := ⟨_, List.getElem?_eq_getElem hlt⟩
              have hkm := List.mem_of_getElem? hx
              have HX := Lib.hid hx
              obtain ⟨r, hrs⟩ : ∃ r, m + 1 + ((ks.take i).map (StepD.cnt d)).sum = r := ⟨_, rfl⟩
              have hrl : r ≤ 40 := by have := HSM.out; omega
              have HC := Lib.hid (HIH.out k hkm r hrl)
              have HRS := Lib.hid hrs
              rw [hrs] at hS
              have hku := HKU.out k hkm
              have HSU := Lib.hid (StepD.sum_take_succ (StepD.cnt d) hx)
              have HFN := Lib.hid (fun (h : k.fits d (40 - r) = false) => show Q.fits (d + 1) (40 - m) = false from StepD.fits_no (i := i) (k := k) (by rw [HK2.out]; exact hx) (by rw [HK2.out, show 40 - m - 1 - ((ks.take i).map (StepD.cnt d)).sum = 40 - r by omega]; exact h))
              have HUN := Lib.hid (fun (h : Q.unlike k = false) => show Q.fits (d + 1) (40 - m) = false from StepD.fits_no2 (StepD.alone_no2 (by rw [HK2.out]; exact hkm) h))
              have HFY := Lib.hid (fun (h : k.fits d (40 - r) = true) => show k.ok d = true ∧ k.cnt d ≤ 40 - r from by unfold StepD.fits at h; rw [Bool.and_eq_true, decide_eq_true_eq] at h; exact h)
              obtain ⟨kc, hkc⟩ : ∃ kc, k.cnt d = kc := ⟨_, rfl⟩
              have HKC := Lib.hid hkc
              rw [hkc] at HC HFY
              have hri : (r : Int) ≤ 40 := by omega
              clear hx hlt hi hkm hrs hkc
              obtain ⟨ko, kn, ku, kk⟩ := k
              replace hku : ku.oneCell' = true := hku
              have hunl : Q.unlike (.mk ko kn ku kk) = (decide (ko ≠ op) || decide (op = 5)) := by unfold StepD.unlike; rw [HK3.out]; rfl
              replace HC := Lib.hid (fun w L' (h : Sat W w (Cs pn 3 [.int .i64 (r : Int)] :: (L' ++ L))) => show Calls Tryz.prog 34 #[.agg #[.int .i64 ko, .int .i64 kn, ku], .int .i64 (t + 1), .pointer (some ⟨pn, 0, none⟩)] w _ from HC.out w L' h)
              cases hf : StepD.fits d (40 - r) (.mk ko kn ku kk) with
              | false =>
                have HN := Lib.hid (HFN.out hf)
                rw [hf] at HC
                clear HFN HFY HUN hf hunl
                go_wp2
                refine regStart2 [8] hS (fun _ h => h.pull1.drop) (by kernel_rfl) rfl ?_
                intro w1 hS1
                clear hS; have hS := hS1; clear hS1
                (refine rgP 0 hS (fun _ h => h.pull1.drop) ?_; go_frame)
                (refine rgR 1 hS (fun _ h => h.pull1.drop) ?_; (first
                                                  | refine ⟨.slice (some ⟨bb, off, none⟩) ks.length c, yLd _ _ (by rfl) _ _ (by rfl) (agOf (by rfl)) Has.z (by rfl), ?_⟩
                                                  | refine ⟨.agg #[.int .i64 ko, .int .i64 kn, ku], fun u hu => rLdRdA (f := qv) (x := .mk ko kn ku kk) (HR.out _ [_] hu) (qv_len ks) _ _ (by rfl) _ (by rfl) (agOf (by rfl)) (szOf (by rfl)) i (by omega) HX.out (by omega), ?_⟩
                                                  | refine ⟨.int .i64 ko, fun u hu => rLdRd (f := qv) (x := .mk ko kn ku kk) (u := .int .i64 ko) (HR.out _ [_, _] hu) (qv_len ks) _ _ (by rfl) _ (by rfl) (agOf (by rfl)) i 0 (by omega) HX.out (by rfl) (by omega), ?_⟩
                                                  | refine ⟨.int .i64 op, yLd _ _ (by rfl) _ _ (by rfl) (agOf (by rfl)) Has.z (by rfl), ?_⟩); go_frame)
                (refine rgP 2 hS (fun _ h => h.pull1.drop) ?_; go_frame)
                (refine rgP 3 hS (fun _ h => h.pull1.drop) ?_; go_frame)
                (refine rgR 4 hS (fun _ h => h.pull1.drop) ?_; (first
                                                  | refine ⟨.slice (some ⟨bb, off, none⟩) ks.length c, yLd _ _ (by rfl) _ _ (by rfl) (agOf (by rfl)) Has.z (by rfl), ?_⟩
                                                  | refine ⟨.agg #[.int .i64 ko, .int .i64 kn, ku], fun u hu => rLdRdA (f := qv) (x := .mk ko kn ku kk) (HR.out _ [_] hu) (qv_len ks) _ _ (by rfl) _ (by rfl) (agOf (by rfl)) (szOf (by rfl)) i (by omega) HX.out (by omega), ?_⟩
                                                  | refine ⟨.int .i64 ko, fun u hu => rLdRd (f := qv) (x := .mk ko kn ku kk) (u := .int .i64 ko) (HR.out _ [_, _] hu) (qv_len ks) _ _ (by rfl) _ (by rfl) (agOf (by rfl)) i 0 (by omega) HX.out (by rfl) (by omega), ?_⟩
                                                  | refine ⟨.int .i64 op, yLd _ _ (by rfl) _ _ (by rfl) (agOf (by rfl)) Has.z (by rfl), ?_⟩); go_frame)
                (refine rgP 5 hS (fun _ h => h.pull1.drop) ?_; go_frame)
                (refine rgP 6 hS (fun _ h => h.pull1.drop) ?_; go_frame; try simp (disch := omega) only [IntWalk.i64_in])
                (refine rgP 7 hS (fun _ h => h.pull1.drop) ?_; go_frame)
                (refine rgA 8 true fun K hK => ?_; (refine Go.Sep.cl 34 _ _ (by rfl) (by rfl) (by kernel_rfl) (HC.out _ [_] hS.pull1) ?_; rintro r w1 ⟨v, rfl, zz, rfl, hz, hS1⟩; have HZ := Lib.hid hz; clear hz hS; have hS := (show Sat W w1 (Cs px 27 _ :: Cs pn 3 _ :: L) from hS1.pull1); clear hS1; refine ⟨_, rfl, ?_⟩); refine hK _ _ _ hS (by first | (intro h; cases h; done) | exact fun _ _ h => h | exact fun _ _ h => h.drop | exact fun _ _ h => h.drop.drop | exact fun _ _ h => h.drop.pull1 | exact fun _ _ h => h.take2 | exact fun _ _ h => h.one Has.z | exact fun _ _ h => h.one (Has.s Has.z) | exact fun _ _ h => h.one (Has.s (Has.s Has.z))) ?_; clear hK K; go_frame)
                (refine rgP 9 hS (fun _ h => h) ?_; go_frame)
                (first | (refine rgP 10 hS (fun _ h => h) ?_; go_frame) | (refine rgN 10 hS (fun _ h => h) ?_; go_frame))
                (first | (refine rgR 11 hS (fun _ h => h) ?_; (first
                                                  | refine ⟨.slice (some ⟨bb, off, none⟩) ks.length c, yLd _ _ (by rfl) _ _ (by rfl) (agOf (by rfl)) Has.z (by rfl), ?_⟩
                                                  | refine ⟨.agg #[.int .i64 ko, .int .i64 kn, ku], fun u hu => rLdRdA (f := qv) (x := .mk ko kn ku kk) (HR.out _ [_] hu) (qv_len ks) _ _ (by rfl) _ (by rfl) (agOf (by rfl)) (szOf (by rfl)) i (by omega) HX.out (by omega), ?_⟩
                                                  | refine ⟨.int .i64 ko, fun u hu => rLdRd (f := qv) (x := .mk ko kn ku kk) (u := .int .i64 ko) (HR.out _ [_, _] hu) (qv_len ks) _ _ (by rfl) _ (by rfl) (agOf (by rfl)) i 0 (by omega) HX.out (by rfl) (by omega), ?_⟩
                                                  | refine ⟨.int .i64 op, yLd _ _ (by rfl) _ _ (by rfl) (agOf (by rfl)) Has.z (by rfl), ?_⟩); go_frame) | (refine rgN 11 hS (fun _ h => h) ?_; go_frame))
                (first | (refine rgP 12 hS (fun _ h => h) ?_; go_frame) | (refine rgN 12 hS (fun _ h => h) ?_; go_frame))
                (first | (refine rgP 13 hS (fun _ h => h) ?_; go_frame) | (refine rgN 13 hS (fun _ h => h) ?_; go_frame))
                (first | (refine rgP 14 hS (fun _ h => h) ?_; go_frame) | (refine rgN 14 hS (fun _ h => h) ?_; go_frame))
                (first | (refine rgR 15 hS (fun _ h => h) ?_; (first
                                                  | refine ⟨.slice (some ⟨bb, off, none⟩) ks.length c, yLd _ _ (by rfl) _ _ (by rfl) (agOf (by rfl)) Has.z (by rfl), ?_⟩
                                                  | refine ⟨.agg #[.int .i64 ko, .int .i64 kn, ku], fun u hu => rLdRdA (f := qv) (x := .mk ko kn ku kk) (HR.out _ [_] hu) (qv_len ks) _ _ (by rfl) _ (by rfl) (agOf (by rfl)) (szOf (by rfl)) i (by omega) HX.out (by omega), ?_⟩
                                                  | refine ⟨.int .i64 ko, fun u hu => rLdRd (f := qv) (x := .mk ko kn ku kk) (u := .int .i64 ko) (HR.out _ [_, _] hu) (qv_len ks) _ _ (by rfl) _ (by rfl) (agOf (by rfl)) i 0 (by omega) HX.out (by rfl) (by omega), ?_⟩
                                                  | refine ⟨.int .i64 op, yLd _ _ (by rfl) _ _ (by rfl) (agOf (by rfl)) Has.z (by rfl), ?_⟩); go_frame) | (refine rgN 15 hS (fun _ h => h) ?_; go_frame))
                (first | (refine rgP 16 hS (fun _ h => h) ?_; go_frame) | (refine rgN 16 hS (fun _ h => h) ?_; go_frame))
                (first | (refine rgR 17 hS (fun _ h => h) ?_; (first
                                                  | refine ⟨.slice (some ⟨bb, off, none⟩) ks.length c, yLd _ _ (by rfl) _ _ (by rfl) (agOf (by rfl)) Has.z (by rfl), ?_⟩
                                                  | refine ⟨.agg #[.int .i64 ko, .int .i64 kn, ku], fun u hu => rLdRdA (f := qv) (x := .mk ko kn ku kk) (HR.out _ [_] hu) (qv_len ks) _ _ (by rfl) _ (by rfl) (agOf (by rfl)) (szOf (by rfl)) i (by omega) HX.out (by omega), ?_⟩
                                                  | refine ⟨.int .i64 ko, fun u hu => rLdRd (f := qv) (x := .mk ko kn ku kk) (u := .int .i64 ko) (HR.out _ [_, _] hu) (qv_len ks) _ _ (by rfl) _ (by rfl) (agOf (by rfl)) i 0 (by omega) HX.out (by rfl) (by omega), ?_⟩
                                                  | refine ⟨.int .i64 op, yLd _ _ (by rfl) _ _ (by rfl) (agOf (by rfl)) Has.z (by rfl), ?_⟩); go_frame) | (refine rgN 17 hS (fun _ h => h) ?_; go_frame))
                (first | (refine rgP 18 hS (fun _ h => h) ?_; go_frame) | (refine rgN 18 hS (fun _ h => h) ?_; go_frame))
                (first | (refine rgP 19 hS (fun _ h => h) ?_; go_frame) | (refine rgN 19 hS (fun _ h => h) ?_; go_frame))
                (first | (refine rgP 20 hS (fun _ h => h) ?_; go_frame) | (refine rgN 20 hS (fun _ h => h) ?_; go_frame))
                (first | (refine rgR 21 hS (fun _ h => h) ?_; (first
                                                  | refine ⟨.slice (some ⟨bb, off, none⟩) ks.length c, yLd _ _ (by rfl) _ _ (by rfl) (agOf (by rfl)) Has.z (by rfl), ?_⟩
                                                  | refine ⟨.agg #[.int .i64 ko, .int .i64 kn, ku], fun u hu => rLdRdA (f := qv) (x := .mk ko kn ku kk) (HR.out _ [_] hu) (qv_len ks) _ _ (by rfl) _ (by rfl) (agOf (by rfl)) (szOf (by rfl)) i (by omega) HX.out (by omega), ?_⟩
                                                  | refine ⟨.int .i64 ko, fun u hu => rLdRd (f := qv) (x := .mk ko kn ku kk) (u := .int .i64 ko) (HR.out _ [_, _] hu) (qv_len ks) _ _ (by rfl) _ (by rfl) (agOf (by rfl)) i 0 (by omega) HX.out (by rfl) (by omega), ?_⟩
                                                  | refine ⟨.int .i64 op, yLd _ _ (by rfl) _ _ (by rfl) (agOf (by rfl)) Has.z (by rfl), ?_⟩); go_frame) | (refine rgN 21 hS (fun _ h => h) ?_; go_frame))
                (first | (refine rgP 22 hS (fun _ h => h) ?_; go_frame) | (refine rgN 22 hS (fun _ h => h) ?_; go_frame))
                (first | (refine rgP 23 hS (fun _ h => h) ?_; go_frame) | (refine rgN 23 hS (fun _ h => h) ?_; go_frame))
                (refine rgP 24 hS (fun _ h => h) ?_; go_frame)
                (refine rgP 25 hS (fun _ h => h) ?_; go_frame)
                refine regDone (by kernel_rfl) ?_
                go_wp2
                exact ⟨⟨i + 1, false, _, by go_num, rfl, HLT.out, (fun h => nomatch h), (fun _ => HN.out), hS⟩, by simp [intOf]; have := HLT.out; omega⟩
              | true =>
                obtain ⟨y1, y2⟩ := HFY.out hf
                rw [hf] at HC
                have HY1 := Lib.hid y1
                have HY2 := Lib.hid y2
                clear HFN HFY hf y1 y2
                have hgo : (ko ≠ op ∧ (ko != op) = true) ∨ ((ko = op ∧ (ko != op) = false) ∧ ((op = 5 ∧ (op == 5) = true) ∨ (op ≠ 5 ∧ (op == 5) = false))) := by
                  by_cases h : ko = op
                  · refine .inr ⟨⟨h, by rw [h]; exact bne_self_eq_false _⟩, ?_⟩
                    by_cases h5 : op = 5
                    · exact .inl ⟨h5, beq_iff_eq.2 h5⟩
                    · exact .inr ⟨h5, beq_eq_false_iff_ne.2 h5⟩
                  · exact .inl ⟨h, bne_iff_ne.2 h⟩
                rcases hgo with ⟨g1, g2⟩ | ⟨⟨g1, g2⟩, ⟨g3, g4⟩ | ⟨g3, g4⟩⟩
                · have HUY := Lib.hid (show Q.unlike (.mk ko kn ku kk) = true by rw [hunl, decide_eq_true g1]; rfl)
                  clear hunl g1 HUN
                  go_wp2
                  refine regStart2 [8] hS (fun _ h => h.pull1.drop) (by kernel_rfl) rfl ?_
                  intro w1 hS1
                  clear hS; have hS := hS1; clear hS1
                  (refine rgP 0 hS (fun _ h => h.pull1.drop) ?_; go_frame)
                  (refine rgR 1 hS (fun _ h => h.pull1.drop) ?_; (first
                                                        | refine ⟨.slice (some ⟨bb, off, none⟩) ks.length c, yLd _ _ (by rfl) _ _ (by rfl) (agOf (by rfl)) Has.z (by rfl), ?_⟩
                                                        | refine ⟨.agg #[.int .i64 ko, .int .i64 kn, ku], fun u hu => rLdRdA (f := qv) (x := .mk ko kn ku kk) (HR.out _ [_] hu) (qv_len ks) _ _ (by rfl) _ (by rfl) (agOf (by rfl)) (szOf (by rfl)) i (by omega) HX.out (by omega), ?_⟩
                                                        | refine ⟨.int .i64 ko, fun u hu => rLdRd (f := qv) (x := .mk ko kn ku kk) (u := .int .i64 ko) (HR.out _ [_, _] hu) (qv_len ks) _ _ (by rfl) _ (by rfl) (agOf (by rfl)) i 0 (by omega) HX.out (by rfl) (by omega), ?_⟩
                                                        | refine ⟨.int .i64 op, yLd _ _ (by rfl) _ _ (by rfl) (agOf (by rfl)) Has.z (by rfl), ?_⟩); go_frame)
                  (refine rgP 2 hS (fun _ h => h.pull1.drop) ?_; go_frame)
                  (refine rgP 3 hS (fun _ h => h.pull1.drop) ?_; go_frame)
                  (refine rgR 4 hS (fun _ h => h.pull1.drop) ?_; (first
                                                        | refine ⟨.slice (some ⟨bb, off, none⟩) ks.length c, yLd _ _ (by rfl) _ _ (by rfl) (agOf (by rfl)) Has.z (by rfl), ?_⟩
                                                        | refine ⟨.agg #[.int .i64 ko, .int .i64 kn, ku], fun u hu => rLdRdA (f := qv) (x := .mk ko kn ku kk) (HR.out _ [_] hu) (qv_len ks) _ _ (by rfl) _ (by rfl) (agOf (by rfl)) (szOf (by rfl)) i (by omega) HX.out (by omega), ?_⟩
                                                        | refine ⟨.int .i64 ko, fun u hu => rLdRd (f := qv) (x := .mk ko kn ku kk) (u := .int .i64 ko) (HR.out _ [_, _] hu) (qv_len ks) _ _ (by rfl) _ (by rfl) (agOf (by rfl)) i 0 (by omega) HX.out (by rfl) (by omega), ?_⟩
                                                        | refine ⟨.int .i64 op, yLd _ _ (by rfl) _ _ (by rfl) (agOf (by rfl)) Has.z (by rfl), ?_⟩); go_frame)
                  (refine rgP 5 hS (fun _ h => h.pull1.drop) ?_; go_frame)
                  (refine rgP 6 hS (fun _ h => h.pull1.drop) ?_; go_frame; try simp (disch := omega) only [IntWalk.i64_in])
                  (refine rgP 7 hS (fun _ h => h.pull1.drop) ?_; go_frame)
                  (refine rgA 8 true fun K hK => ?_; (refine Go.Sep.cl 34 _ _ (by rfl) (by rfl) (by kernel_rfl) (HC.out _ [_] hS.pull1) ?_; rintro r w1 ⟨v, rfl, zz, rfl, hz, hS1⟩; have HZ := Lib.hid hz; clear hz hS; have hS := (show Sat W w1 (Cs px 27 _ :: Cs pn 3 _ :: L) from hS1.pull1); clear hS1; refine ⟨_, rfl, ?_⟩); refine hK _ _ _ hS (by first | (intro h; cases h; done) | exact fun _ _ h => h | exact fun _ _ h => h.drop | exact fun _ _ h => h.drop.drop | exact fun _ _ h => h.drop.pull1 | exact fun _ _ h => h.take2 | exact fun _ _ h => h.one Has.z | exact fun _ _ h => h.one (Has.s Has.z) | exact fun _ _ h => h.one (Has.s (Has.s Has.z))) ?_; clear hK K; go_frame)
                  (refine rgP 9 hS (fun _ h => h) ?_; go_frame)
                  (first | (refine rgP 10 hS (fun _ h => h) ?_; go_frame) | (refine rgN 10 hS (fun _ h => h) ?_; go_frame))
                  (first | (refine rgR 11 hS (fun _ h => h) ?_; (first
                                                        | refine ⟨.slice (some ⟨bb, off, none⟩) ks.length c, yLd _ _ (by rfl) _ _ (by rfl) (agOf (by rfl)) Has.z (by rfl), ?_⟩
                                                        | refine ⟨.agg #[.int .i64 ko, .int .i64 kn, ku], fun u hu => rLdRdA (f := qv) (x := .mk ko kn ku kk) (HR.out _ [_] hu) (qv_len ks) _ _ (by rfl) _ (by rfl) (agOf (by rfl)) (szOf (by rfl)) i (by omega) HX.out (by omega), ?_⟩
                                                        | refine ⟨.int .i64 ko, fun u hu => rLdRd (f := qv) (x := .mk ko kn ku kk) (u := .int .i64 ko) (HR.out _ [_, _] hu) (qv_len ks) _ _ (by rfl) _ (by rfl) (agOf (by rfl)) i 0 (by omega) HX.out (by rfl) (by omega), ?_⟩
                                                        | refine ⟨.int .i64 op, yLd _ _ (by rfl) _ _ (by rfl) (agOf (by rfl)) Has.z (by rfl), ?_⟩); go_frame) | (refine rgN 11 hS (fun _ h => h) ?_; go_frame))
                  (first | (refine rgP 12 hS (fun _ h => h) ?_; go_frame) | (refine rgN 12 hS (fun _ h => h) ?_; go_frame))
                  (first | (refine rgP 13 hS (fun _ h => h) ?_; go_frame) | (refine rgN 13 hS (fun _ h => h) ?_; go_frame))
                  (first | (refine rgP 14 hS (fun _ h => h) ?_; go_frame) | (refine rgN 14 hS (fun _ h => h) ?_; go_frame))
                  (first | (refine rgR 15 hS (fun _ h => h) ?_; (first
                                                        | refine ⟨.slice (some ⟨bb, off, none⟩) ks.length c, yLd _ _ (by rfl) _ _ (by rfl) (agOf (by rfl)) Has.z (by rfl), ?_⟩
                                                        | refine ⟨.agg #[.int .i64 ko, .int .i64 kn, ku], fun u hu => rLdRdA (f := qv) (x := .mk ko kn ku kk) (HR.out _ [_] hu) (qv_len ks) _ _ (by rfl) _ (by rfl) (agOf (by rfl)) (szOf (by rfl)) i (by omega) HX.out (by omega), ?_⟩
                                                        | refine ⟨.int .i64 ko, fun u hu => rLdRd (f := qv) (x := .mk ko kn ku kk) (u := .int .i64 ko) (HR.out _ [_, _] hu) (qv_len ks) _ _ (by rfl) _ (by rfl) (agOf (by rfl)) i 0 (by omega) HX.out (by rfl) (by omega), ?_⟩
                                                        | refine ⟨.int .i64 op, yLd _ _ (by rfl) _ _ (by rfl) (agOf (by rfl)) Has.z (by rfl), ?_⟩); go_frame) | (refine rgN 15 hS (fun _ h => h) ?_; go_frame))
                  (first | (refine rgP 16 hS (fun _ h => h) ?_; go_frame) | (refine rgN 16 hS (fun _ h => h) ?_; go_frame))
                  (first | (refine rgR 17 hS (fun _ h => h) ?_; (first
                                                        | refine ⟨.slice (some ⟨bb, off, none⟩) ks.length c, yLd _ _ (by rfl) _ _ (by rfl) (agOf (by rfl)) Has.z (by rfl), ?_⟩
                                                        | refine ⟨.agg #[.int .i64 ko, .int .i64 kn, ku], fun u hu => rLdRdA (f := qv) (x := .mk ko kn ku kk) (HR.out _ [_] hu) (qv_len ks) _ _ (by rfl) _ (by rfl) (agOf (by rfl)) (szOf (by rfl)) i (by omega) HX.out (by omega), ?_⟩
                                                        | refine ⟨.int .i64 ko, fun u hu => rLdRd (f := qv) (x := .mk ko kn ku kk) (u := .int .i64 ko) (HR.out _ [_, _] hu) (qv_len ks) _ _ (by rfl) _ (by rfl) (agOf (by rfl)) i 0 (by omega) HX.out (by rfl) (by omega), ?_⟩
                                                        | refine ⟨.int .i64 op, yLd _ _ (by rfl) _ _ (by rfl) (agOf (by rfl)) Has.z (by rfl), ?_⟩); go_frame) | (refine rgN 17 hS (fun _ h => h) ?_; go_frame))
                  (first | (refine rgP 18 hS (fun _ h => h) ?_; go_frame) | (refine rgN 18 hS (fun _ h => h) ?_; go_frame))
                  (first | (refine rgP 19 hS (fun _ h => h) ?_; go_frame) | (refine rgN 19 hS (fun _ h => h) ?_; go_frame))
                  (first | (refine rgP 20 hS (fun _ h => h) ?_; go_frame) | (refine rgN 20 hS (fun _ h => h) ?_; go_frame))
                  (first | (refine rgR 21 hS (fun _ h => h) ?_; (first
                                                        | refine ⟨.slice (some ⟨bb, off, none⟩) ks.length c, yLd _ _ (by rfl) _ _ (by rfl) (agOf (by rfl)) Has.z (by rfl), ?_⟩
                                                        | refine ⟨.agg #[.int .i64 ko, .int .i64 kn, ku], fun u hu => rLdRdA (f := qv) (x := .mk ko kn ku kk) (HR.out _ [_] hu) (qv_len ks) _ _ (by rfl) _ (by rfl) (agOf (by rfl)) (szOf (by rfl)) i (by omega) HX.out (by omega), ?_⟩
                                                        | refine ⟨.int .i64 ko, fun u hu => rLdRd (f := qv) (x := .mk ko kn ku kk) (u := .int .i64 ko) (HR.out _ [_, _] hu) (qv_len ks) _ _ (by rfl) _ (by rfl) (agOf (by rfl)) i 0 (by omega) HX.out (by rfl) (by omega), ?_⟩
                                                        | refine ⟨.int .i64 op, yLd _ _ (by rfl) _ _ (by rfl) (agOf (by rfl)) Has.z (by rfl), ?_⟩); go_frame) | (refine rgN 21 hS (fun _ h => h) ?_; go_frame))
                  (first | (refine rgP 22 hS (fun _ h => h) ?_; go_frame) | (refine rgN 22 hS (fun _ h => h) ?_; go_frame))
                  (first | (refine rgP 23 hS (fun _ h => h) ?_; go_frame) | (refine rgN 23 hS (fun _ h => h) ?_; go_frame))
                  (refine rgP 24 hS (fun _ h => h) ?_; go_frame)
                  (refine rgP 25 hS (fun _ h => h) ?_; go_frame)
                  refine regDone (by kernel_rfl) ?_
                  go_wp2
                  have hz2 := HZ.out (by trivial)
                  have y2 := HY2.out
                  have hkc := HKC.out
                  have hsu := HSU.out
                  have hrs := HRS.out
                  have hsm := HSM.out
                  rw [hkc] at hsu
                  refine ⟨⟨i + 1, true, _, by go_num, rfl, HLT.out, (fun _ => ⟨by rw [hz2, hsu]; congr 1; omega, by rw [hsu]; omega, fun j k' hj hk' => ?_⟩), (fun h => nomatch h), hS⟩, by simp [intOf]; have := HLT.out; omega⟩
                  rcases Nat.lt_or_ge j i with h | h
                  · exact HOK.out j k' h hk'
                  · obtain rfl : j = i := by omega
                    rw [HX.out] at hk'
                    cases hk'
                    exact ⟨HY1.out, HUY.out⟩
                · have HUY := Lib.hid (show Q.unlike (.mk ko kn ku kk) = true by rw [hunl, decide_eq_true g3, Bool.or_true])
                  clear hunl g1 g3 HUN
                  go_wp2
                  refine regStart2 [8] hS (fun _ h => h.pull1.drop) (by kernel_rfl) rfl ?_
                  intro w1 hS1
                  clear hS; have hS := hS1; clear hS1
                  (refine rgP 0 hS (fun _ h => h.pull1.drop) ?_; go_frame)
                  (refine rgR 1 hS (fun _ h => h.pull1.drop) ?_; (first
                                                        | refine ⟨.slice (some ⟨bb, off, none⟩) ks.length c, yLd _ _ (by rfl) _ _ (by rfl) (agOf (by rfl)) Has.z (by rfl), ?_⟩
                                                        | refine ⟨.agg #[.int .i64 ko, .int .i64 kn, ku], fun u hu => rLdRdA (f := qv) (x := .mk ko kn ku kk) (HR.out _ [_] hu) (qv_len ks) _ _ (by rfl) _ (by rfl) (agOf (by rfl)) (szOf (by rfl)) i (by omega) HX.out (by omega), ?_⟩
                                                        | refine ⟨.int .i64 ko, fun u hu => rLdRd (f := qv) (x := .mk ko kn ku kk) (u := .int .i64 ko) (HR.out _ [_, _] hu) (qv_len ks) _ _ (by rfl) _ (by rfl) (agOf (by rfl)) i 0 (by omega) HX.out (by rfl) (by omega), ?_⟩
                                                        | refine ⟨.int .i64 op, yLd _ _ (by rfl) _ _ (by rfl) (agOf (by rfl)) Has.z (by rfl), ?_⟩); go_frame)
                  (refine rgP 2 hS (fun _ h => h.pull1.drop) ?_; go_frame)
                  (refine rgP 3 hS (fun _ h => h.pull1.drop) ?_; go_frame)
                  (refine rgR 4 hS (fun _ h => h.pull1.drop) ?_; (first
                                                        | refine ⟨.slice (some ⟨bb, off, none⟩) ks.length c, yLd _ _ (by rfl) _ _ (by rfl) (agOf (by rfl)) Has.z (by rfl), ?_⟩
                                                        | refine ⟨.agg #[.int .i64 ko, .int .i64 kn, ku], fun u hu => rLdRdA (f := qv) (x := .mk ko kn ku kk) (HR.out _ [_] hu) (qv_len ks) _ _ (by rfl) _ (by rfl) (agOf (by rfl)) (szOf (by rfl)) i (by omega) HX.out (by omega), ?_⟩
                                                        | refine ⟨.int .i64 ko, fun u hu => rLdRd (f := qv) (x := .mk ko kn ku kk) (u := .int .i64 ko) (HR.out _ [_, _] hu) (qv_len ks) _ _ (by rfl) _ (by rfl) (agOf (by rfl)) i 0 (by omega) HX.out (by rfl) (by omega), ?_⟩
                                                        | refine ⟨.int .i64 op, yLd _ _ (by rfl) _ _ (by rfl) (agOf (by rfl)) Has.z (by rfl), ?_⟩); go_frame)
                  (refine rgP 5 hS (fun _ h => h.pull1.drop) ?_; go_frame)
                  (refine rgP 6 hS (fun _ h => h.pull1.drop) ?_; go_frame; try simp (disch := omega) only [IntWalk.i64_in])
                  (refine rgP 7 hS (fun _ h => h.pull1.drop) ?_; go_frame)
                  (refine rgA 8 true fun K hK => ?_; (refine Go.Sep.cl 34 _ _ (by rfl) (by rfl) (by kernel_rfl) (HC.out _ [_] hS.pull1) ?_; rintro r w1 ⟨v, rfl, zz, rfl, hz, hS1⟩; have HZ := Lib.hid hz; clear hz hS; have hS := (show Sat W w1 (Cs px 27 _ :: Cs pn 3 _ :: L) from hS1.pull1); clear hS1; refine ⟨_, rfl, ?_⟩); refine hK _ _ _ hS (by first | (intro h; cases h; done) | exact fun _ _ h => h | exact fun _ _ h => h.drop | exact fun _ _ h => h.drop.drop | exact fun _ _ h => h.drop.pull1 | exact fun _ _ h => h.take2 | exact fun _ _ h => h.one Has.z | exact fun _ _ h => h.one (Has.s Has.z) | exact fun _ _ h => h.one (Has.s (Has.s Has.z))) ?_; clear hK K; go_frame)
                  (refine rgP 9 hS (fun _ h => h) ?_; go_frame)
                  (first | (refine rgP 10 hS (fun _ h => h) ?_; go_frame) | (refine rgN 10 hS (fun _ h => h) ?_; go_frame))
                  (first | (refine rgR 11 hS (fun _ h => h) ?_; (first
                                                        | refine ⟨.slice (some ⟨bb, off, none⟩) ks.length c, yLd _ _ (by rfl) _ _ (by rfl) (agOf (by rfl)) Has.z (by rfl), ?_⟩
                                                        | refine ⟨.agg #[.int .i64 ko, .int .i64 kn, ku], fun u hu => rLdRdA (f := qv) (x := .mk ko kn ku kk) (HR.out _ [_] hu) (qv_len ks) _ _ (by rfl) _ (by rfl) (agOf (by rfl)) (szOf (by rfl)) i (by omega) HX.out (by omega), ?_⟩
                                                        | refine ⟨.int .i64 ko, fun u hu => rLdRd (f := qv) (x := .mk ko kn ku kk) (u := .int .i64 ko) (HR.out _ [_, _] hu) (qv_len ks) _ _ (by rfl) _ (by rfl) (agOf (by rfl)) i 0 (by omega) HX.out (by rfl) (by omega), ?_⟩
                                                        | refine ⟨.int .i64 op, yLd _ _ (by rfl) _ _ (by rfl) (agOf (by rfl)) Has.z (by rfl), ?_⟩); go_frame) | (refine rgN 11 hS (fun _ h => h) ?_; go_frame))
                  (first | (refine rgP 12 hS (fun _ h => h) ?_; go_frame) | (refine rgN 12 hS (fun _ h => h) ?_; go_frame))
                  (first | (refine rgP 13 hS (fun _ h => h) ?_; go_frame) | (refine rgN 13 hS (fun _ h => h) ?_; go_frame))
                  (first | (refine rgP 14 hS (fun _ h => h) ?_; go_frame) | (refine rgN 14 hS (fun _ h => h) ?_; go_frame))
                  (first | (refine rgR 15 hS (fun _ h => h) ?_; (first
                                                        | refine ⟨.slice (some ⟨bb, off, none⟩) ks.length c, yLd _ _ (by rfl) _ _ (by rfl) (agOf (by rfl)) Has.z (by rfl), ?_⟩
                                                        | refine ⟨.agg #[.int .i64 ko, .int .i64 kn, ku], fun u hu => rLdRdA (f := qv) (x := .mk ko kn ku kk) (HR.out _ [_] hu) (qv_len ks) _ _ (by rfl) _ (by rfl) (agOf (by rfl)) (szOf (by rfl)) i (by omega) HX.out (by omega), ?_⟩
                                                        | refine ⟨.int .i64 ko, fun u hu => rLdRd (f := qv) (x := .mk ko kn ku kk) (u := .int .i64 ko) (HR.out _ [_, _] hu) (qv_len ks) _ _ (by rfl) _ (by rfl) (agOf (by rfl)) i 0 (by omega) HX.out (by rfl) (by omega), ?_⟩
                                                        | refine ⟨.int .i64 op, yLd _ _ (by rfl) _ _ (by rfl) (agOf (by rfl)) Has.z (by rfl), ?_⟩); go_frame) | (refine rgN 15 hS (fun _ h => h) ?_; go_frame))
                  (first | (refine rgP 16 hS (fun _ h => h) ?_; go_frame) | (refine rgN 16 hS (fun _ h => h) ?_; go_frame))
                  (first | (refine rgR 17 hS (fun _ h => h) ?_; (first
                                                        | refine ⟨.slice (some ⟨bb, off, none⟩) ks.length c, yLd _ _ (by rfl) _ _ (by rfl) (agOf (by rfl)) Has.z (by rfl), ?_⟩
                                                        | refine ⟨.agg #[.int .i64 ko, .int .i64 kn, ku], fun u hu => rLdRdA (f := qv) (x := .mk ko kn ku kk) (HR.out _ [_] hu) (qv_len ks) _ _ (by rfl) _ (by rfl) (agOf (by rfl)) (szOf (by rfl)) i (by omega) HX.out (by omega), ?_⟩
                                                        | refine ⟨.int .i64 ko, fun u hu => rLdRd (f := qv) (x := .mk ko kn ku kk) (u := .int .i64 ko) (HR.out _ [_, _] hu) (qv_len ks) _ _ (by rfl) _ (by rfl) (agOf (by rfl)) i 0 (by omega) HX.out (by rfl) (by omega), ?_⟩
                                                        | refine ⟨.int .i64 op, yLd _ _ (by rfl) _ _ (by rfl) (agOf (by rfl)) Has.z (by rfl), ?_⟩); go_frame) | (refine rgN 17 hS (fun _ h => h) ?_; go_frame))
                  (first | (refine rgP 18 hS (fun _ h => h) ?_; go_frame) | (refine rgN 18 hS (fun _ h => h) ?_; go_frame))
                  (first | (refine rgP 19 hS (fun _ h => h) ?_; go_frame) | (refine rgN 19 hS (fun _ h => h) ?_; go_frame))
                  (first | (refine rgP 20 hS (fun _ h => h) ?_; go_frame) | (refine rgN 20 hS (fun _ h => h) ?_; go_frame))
                  (first | (refine rgR 21 hS (fun _ h => h) ?_; (first
                                                        | refine ⟨.slice (some ⟨bb, off, none⟩) ks.length c, yLd _ _ (by rfl) _ _ (by rfl) (agOf (by rfl)) Has.z (by rfl), ?_⟩
                                                        | refine ⟨.agg #[.int .i64 ko, .int .i64 kn, ku], fun u hu => rLdRdA (f := qv) (x := .mk ko kn ku kk) (HR.out _ [_] hu) (qv_len ks) _ _ (by rfl) _ (by rfl) (agOf (by rfl)) (szOf (by rfl)) i (by omega) HX.out (by omega), ?_⟩
                                                        | refine ⟨.int .i64 ko, fun u hu => rLdRd (f := qv) (x := .mk ko kn ku kk) (u := .int .i64 ko) (HR.out _ [_, _] hu) (qv_len ks) _ _ (by rfl) _ (by rfl) (agOf (by rfl)) i 0 (by omega) HX.out (by rfl) (by omega), ?_⟩
                                                        | refine ⟨.int .i64 op, yLd _ _ (by rfl) _ _ (by rfl) (agOf (by rfl)) Has.z (by rfl), ?_⟩); go_frame) | (refine rgN 21 hS (fun _ h => h) ?_; go_frame))
                  (first | (refine rgP 22 hS (fun _ h => h) ?_; go_frame) | (refine rgN 22 hS (fun _ h => h) ?_; go_frame))
                  (first | (refine rgP 23 hS (fun _ h => h) ?_; go_frame) | (refine rgN 23 hS (fun _ h => h) ?_; go_frame))
                  (refine rgP 24 hS (fun _ h => h) ?_; go_frame)
                  (refine rgP 25 hS (fun _ h => h) ?_; go_frame)
                  refine regDone (by kernel_rfl) ?_
                  go_wp2
                  have hz2 := HZ.out (by trivial)
                  have y2 := HY2.out
                  have hkc := HKC.out
                  have hsu := HSU.out
                  have hrs := HRS.out
                  have hsm := HSM.out
                  rw [hkc] at hsu
                  refine ⟨⟨i + 1, true, _, by go_num, rfl, HLT.out, (fun _ => ⟨by rw [hz2, hsu]; congr 1; omega, by rw [hsu]; omega, fun j k' hj hk' => ?_⟩), (fun h => nomatch h), hS⟩, by simp [intOf]; have := HLT.out; omega⟩
                  rcases Nat.lt_or_ge j i with h | h
                  · exact HOK.out j k' h hk'
                  · obtain rfl : j = i := by omega
                    rw [HX.out] at hk'
                    cases hk'
                    exact ⟨HY1.out, HUY.out⟩
                · have HN := Lib.hid (HUN.out (by rw [hunl, decide_eq_false (fun h => h g1), decide_eq_false g3]; rfl))
                  clear hunl g1 g3 HUN
                  go_wp2
                  refine regStart2 [8] hS (fun _ h => h.pull1.drop) (by kernel_rfl) rfl ?_
                  intro w1 hS1
                  clear hS; have hS := hS1; clear hS1
                  (refine rgP 0 hS (fun _ h => h.pull1.drop) ?_; go_frame)
                  (refine rgR 1 hS (fun _ h => h.pull1.drop) ?_; (first
                                                        | refine ⟨.slice (some ⟨bb, off, none⟩) ks.length c, yLd _ _ (by rfl) _ _ (by rfl) (agOf (by rfl)) Has.z (by rfl), ?_⟩
                                                        | refine ⟨.agg #[.int .i64 ko, .int .i64 kn, ku], fun u hu => rLdRdA (f := qv) (x := .mk ko kn ku kk) (HR.out _ [_] hu) (qv_len ks) _ _ (by rfl) _ (by rfl) (agOf (by rfl)) (szOf (by rfl)) i (by omega) HX.out (by omega), ?_⟩
                                                        | refine ⟨.int .i64 ko, fun u hu => rLdRd (f := qv) (x := .mk ko kn ku kk) (u := .int .i64 ko) (HR.out _ [_, _] hu) (qv_len ks) _ _ (by rfl) _ (by rfl) (agOf (by rfl)) i 0 (by omega) HX.out (by rfl) (by omega), ?_⟩
                                                        | refine ⟨.int .i64 op, yLd _ _ (by rfl) _ _ (by rfl) (agOf (by rfl)) Has.z (by rfl), ?_⟩); go_frame)
                  (refine rgP 2 hS (fun _ h => h.pull1.drop) ?_; go_frame)
                  (refine rgP 3 hS (fun _ h => h.pull1.drop) ?_; go_frame)
                  (refine rgR 4 hS (fun _ h => h.pull1.drop) ?_; (first
                                                        | refine ⟨.slice (some ⟨bb, off, none⟩) ks.length c, yLd _ _ (by rfl) _ _ (by rfl) (agOf (by rfl)) Has.z (by rfl), ?_⟩
                                                        | refine ⟨.agg #[.int .i64 ko, .int .i64 kn, ku], fun u hu => rLdRdA (f := qv) (x := .mk ko kn ku kk) (HR.out _ [_] hu) (qv_len ks) _ _ (by rfl) _ (by rfl) (agOf (by rfl)) (szOf (by rfl)) i (by omega) HX.out (by omega), ?_⟩
                                                        | refine ⟨.int .i64 ko, fun u hu => rLdRd (f := qv) (x := .mk ko kn ku kk) (u := .int .i64 ko) (HR.out _ [_, _] hu) (qv_len ks) _ _ (by rfl) _ (by rfl) (agOf (by rfl)) i 0 (by omega) HX.out (by rfl) (by omega), ?_⟩
                                                        | refine ⟨.int .i64 op, yLd _ _ (by rfl) _ _ (by rfl) (agOf (by rfl)) Has.z (by rfl), ?_⟩); go_frame)
                  (refine rgP 5 hS (fun _ h => h.pull1.drop) ?_; go_frame)
                  (refine rgP 6 hS (fun _ h => h.pull1.drop) ?_; go_frame; try simp (disch := omega) only [IntWalk.i64_in])
                  (refine rgP 7 hS (fun _ h => h.pull1.drop) ?_; go_frame)
                  (refine rgA 8 true fun K hK => ?_; (refine Go.Sep.cl 34 _ _ (by rfl) (by rfl) (by kernel_rfl) (HC.out _ [_] hS.pull1) ?_; rintro r w1 ⟨v, rfl, zz, rfl, hz, hS1⟩; have HZ := Lib.hid hz; clear hz hS; have hS := (show Sat W w1 (Cs px 27 _ :: Cs pn 3 _ :: L) from hS1.pull1); clear hS1; refine ⟨_, rfl, ?_⟩); refine hK _ _ _ hS (by first | (intro h; cases h; done) | exact fun _ _ h => h | exact fun _ _ h => h.drop | exact fun _ _ h => h.drop.drop | exact fun _ _ h => h.drop.pull1 | exact fun _ _ h => h.take2 | exact fun _ _ h => h.one Has.z | exact fun _ _ h => h.one (Has.s Has.z) | exact fun _ _ h => h.one (Has.s (Has.s Has.z))) ?_; clear hK K; go_frame)
                  (refine rgP 9 hS (fun _ h => h) ?_; go_frame)
                  (first | (refine rgP 10 hS (fun _ h => h) ?_; go_frame) | (refine rgN 10 hS (fun _ h => h) ?_; go_frame))
                  (first | (refine rgR 11 hS (fun _ h => h) ?_; (first
                                                        | refine ⟨.slice (some ⟨bb, off, none⟩) ks.length c, yLd _ _ (by rfl) _ _ (by rfl) (agOf (by rfl)) Has.z (by rfl), ?_⟩
                                                        | refine ⟨.agg #[.int .i64 ko, .int .i64 kn, ku], fun u hu => rLdRdA (f := qv) (x := .mk ko kn ku kk) (HR.out _ [_] hu) (qv_len ks) _ _ (by rfl) _ (by rfl) (agOf (by rfl)) (szOf (by rfl)) i (by omega) HX.out (by omega), ?_⟩
                                                        | refine ⟨.int .i64 ko, fun u hu => rLdRd (f := qv) (x := .mk ko kn ku kk) (u := .int .i64 ko) (HR.out _ [_, _] hu) (qv_len ks) _ _ (by rfl) _ (by rfl) (agOf (by rfl)) i 0 (by omega) HX.out (by rfl) (by omega), ?_⟩
                                                        | refine ⟨.int .i64 op, yLd _ _ (by rfl) _ _ (by rfl) (agOf (by rfl)) Has.z (by rfl), ?_⟩); go_frame) | (refine rgN 11 hS (fun _ h => h) ?_; go_frame))
                  (first | (refine rgP 12 hS (fun _ h => h) ?_; go_frame) | (refine rgN 12 hS (fun _ h => h) ?_; go_frame))
                  (first | (refine rgP 13 hS (fun _ h => h) ?_; go_frame) | (refine rgN 13 hS (fun _ h => h) ?_; go_frame))
                  (first | (refine rgP 14 hS (fun _ h => h) ?_; go_frame) | (refine rgN 14 hS (fun _ h => h) ?_; go_frame))
                  (first | (refine rgR 15 hS (fun _ h => h) ?_; (first
                                                        | refine ⟨.slice (some ⟨bb, off, none⟩) ks.length c, yLd _ _ (by rfl) _ _ (by rfl) (agOf (by rfl)) Has.z (by rfl), ?_⟩
                                                        | refine ⟨.agg #[.int .i64 ko, .int .i64 kn, ku], fun u hu => rLdRdA (f := qv) (x := .mk ko kn ku kk) (HR.out _ [_] hu) (qv_len ks) _ _ (by rfl) _ (by rfl) (agOf (by rfl)) (szOf (by rfl)) i (by omega) HX.out (by omega), ?_⟩
                                                        | refine ⟨.int .i64 ko, fun u hu => rLdRd (f := qv) (x := .mk ko kn ku kk) (u := .int .i64 ko) (HR.out _ [_, _] hu) (qv_len ks) _ _ (by rfl) _ (by rfl) (agOf (by rfl)) i 0 (by omega) HX.out (by rfl) (by omega), ?_⟩
                                                        | refine ⟨.int .i64 op, yLd _ _ (by rfl) _ _ (by rfl) (agOf (by rfl)) Has.z (by rfl), ?_⟩); go_frame) | (refine rgN 15 hS (fun _ h => h) ?_; go_frame))
                  (first | (refine rgP 16 hS (fun _ h => h) ?_; go_frame) | (refine rgN 16 hS (fun _ h => h) ?_; go_frame))
                  (first | (refine rgR 17 hS (fun _ h => h) ?_; (first
                                                        | refine ⟨.slice (some ⟨bb, off, none⟩) ks.length c, yLd _ _ (by rfl) _ _ (by rfl) (agOf (by rfl)) Has.z (by rfl), ?_⟩
                                                        | refine ⟨.agg #[.int .i64 ko, .int .i64 kn, ku], fun u hu => rLdRdA (f := qv) (x := .mk ko kn ku kk) (HR.out _ [_] hu) (qv_len ks) _ _ (by rfl) _ (by rfl) (agOf (by rfl)) (szOf (by rfl)) i (by omega) HX.out (by omega), ?_⟩
                                                        | refine ⟨.int .i64 ko, fun u hu => rLdRd (f := qv) (x := .mk ko kn ku kk) (u := .int .i64 ko) (HR.out _ [_, _] hu) (qv_len ks) _ _ (by rfl) _ (by rfl) (agOf (by rfl)) i 0 (by omega) HX.out (by rfl) (by omega), ?_⟩
                                                        | refine ⟨.int .i64 op, yLd _ _ (by rfl) _ _ (by rfl) (agOf (by rfl)) Has.z (by rfl), ?_⟩); go_frame) | (refine rgN 17 hS (fun _ h => h) ?_; go_frame))
                  (first | (refine rgP 18 hS (fun _ h => h) ?_; go_frame) | (refine rgN 18 hS (fun _ h => h) ?_; go_frame))
                  (first | (refine rgP 19 hS (fun _ h => h) ?_; go_frame) | (refine rgN 19 hS (fun _ h => h) ?_; go_frame))
                  (first | (refine rgP 20 hS (fun _ h => h) ?_; go_frame) | (refine rgN 20 hS (fun _ h => h) ?_; go_frame))
                  (first | (refine rgR 21 hS (fun _ h => h) ?_; (first
                                                        | refine ⟨.slice (some ⟨bb, off, none⟩) ks.length c, yLd _ _ (by rfl) _ _ (by rfl) (agOf (by rfl)) Has.z (by rfl), ?_⟩
                                                        | refine ⟨.agg #[.int .i64 ko, .int .i64 kn, ku], fun u hu => rLdRdA (f := qv) (x := .mk ko kn ku kk) (HR.out _ [_] hu) (qv_len ks) _ _ (by rfl) _ (by rfl) (agOf (by rfl)) (szOf (by rfl)) i (by omega) HX.out (by omega), ?_⟩
                                                        | refine ⟨.int .i64 ko, fun u hu => rLdRd (f := qv) (x := .mk ko kn ku kk) (u := .int .i64 ko) (HR.out _ [_, _] hu) (qv_len ks) _ _ (by rfl) _ (by rfl) (agOf (by rfl)) i 0 (by omega) HX.out (by rfl) (by omega), ?_⟩
                                                        | refine ⟨.int .i64 op, yLd _ _ (by rfl) _ _ (by rfl) (agOf (by rfl)) Has.z (by rfl), ?_⟩); go_frame) | (refine rgN 21 hS (fun _ h => h) ?_; go_frame))
                  (first | (refine rgP 22 hS (fun _ h => h) ?_; go_frame) | (refine rgN 22 hS (fun _ h => h) ?_; go_frame))
                  (first | (refine rgP 23 hS (fun _ h => h) ?_; go_frame) | (refine rgN 23 hS (fun _ h => h) ?_; go_frame))
                  (refine rgP 24 hS (fun _ h => h) ?_; go_frame)
                  (refine rgP 25 hS (fun _ h => h) ?_; go_frame)
                  refine regDone (by kernel_rfl) ?_
                  go_wp2
                  exact ⟨⟨i + 1, false, _, by go_num, rfl, HLT.out, (fun h => nomatch h), (fun _ => HN.out), hS⟩, by simp [intOf]; have := HLT.out; omega⟩
            · obtain rfl : i = ks.length := by omega
              have hsm := HSM.out
              rw [List.take_length] at hsm hS
              have HY := Lib.hid (show Q.fits (d + 1) (40 - m) = true from StepD.fits_yes (Q.alone_iff.2 ⟨HB.out, fun k hk => by
                rw [HK2.out] at hk
                obtain ⟨j, hj⟩ := List.getElem?_of_mem hk
                exact (HOK.out j k (List.getElem?_eq_some_iff.1 hj).1 hj).2⟩) (fun j k hk => by
                rw [HK2.out] at hk
                exact (HOK.out j k (List.getElem?_eq_some_iff.1 hk).1 hk).1) (by rw [HK2.out]; omega))
              have HCN := Lib.hid (show ((m + 1 + (ks.map (StepD.cnt d)).sum : Nat) : Int) = ((m + Q.cnt (d + 1) : Nat) : Int) by rw [StepD.cnt_succ, HK2.out]; congr 1; omega)
              have e1 : decide ((ks.length : Int) < (ks.length : Int)) = false := decide_eq_false (by omega)
              have e2 : decide (ks.length < ks.length) = false := decide_eq_false (by omega)
              have k1 : ¬ (ks.length : Int) < (ks.length : Int) := by omega
              rw [HCN.out] at hS
              clear hlt hi hsm
              go_wp2
              go_ret
              rw [HY.out]
              exact ⟨_, rfl, _, rfl, (fun _ => rfl), hS.drop⟩
end Go.Proofs.YtpnbdnfgdiakhaaGreat
