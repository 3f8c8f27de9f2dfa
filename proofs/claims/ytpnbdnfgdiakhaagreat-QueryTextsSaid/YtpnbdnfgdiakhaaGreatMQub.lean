/-
  Package ask: alone, holds, Check.
  Package ask: holds, Check.
-/
import Derived.Test.YtpnbdnfgdiakhaaGreatMQua
import Derived.Test.YtpnbdnfgdiakhaaGreatMGrc
namespace Go.Proofs.YtpnbdnfgdiakhaaGreat
open Go.RowKit Go.Sep
set_option linter.unusedSimpArgs false
set_option linter.unusedVariables false
attribute [local irreducible] Go.Oper.wp Go.wpList Go.Calls Go.Code.wp Go.Sep.Reg
theorem eqop_any {W w : World} {L : List Asrt} {b : Nat} {op n : Int} {u : Value} (hS : Sat W w (Cs b 27 [.int .i64 op, .int .i64 n, u] :: L)) (k : StepD) (hu : k.u.oneCell' = true) :
    Calls Tryz.prog 92 #[.agg (qv k).toArray, .pointer (some ⟨b, 0, none⟩)] w fun r w' => r = .returned (.bool (decide (k.op = op))) ∧ Sat W w' (Cs b 27 [.int .i64 op, .int .i64 n, u] :: L) := by
  obtain ⟨ko, kn, ku, kk⟩ := k
  replace hu : ku.oneCell' = true := hu
  have e1 : (ko == op) = decide (ko = op) := rfl
  show Calls Tryz.prog 92 #[.agg #[.int .i64 ko, .int .i64 kn, ku], .pointer (some ⟨b, 0, none⟩)] w fun r w' => r = .returned (.bool (decide (ko = op))) ∧ _
  obtain ⟨r, hr⟩ : ∃ r, decide (ko = op) = r := ⟨_, rfl⟩
  rw [hr] at e1 ⊢
  clear hr
  go_enter Tryz.func92, Tryz.ntmps92
  go_wp2_with (first
    | (refine toList (by rfl) ?_; refine bx hS _ _ (by rfl) _ (by first | exact evC | exact evT (by rfl)) ?_; intro px w1 hS1; clear hS; have hS := hS1; clear hS1; rw [cells_agg] at hS)
    | (refine toList (by rfl) ?_; refine ld hS _ _ (by rfl) _ _ (by rfl) (agOf (by rfl)) (by repeat first | exact Has.z | apply Has.s) (by rfl) ?_))
  go_ret
  exact ⟨rfl, hS.drop⟩
def eqL (b : Nat) (op n : Int) (u : Value) : Asrt := Cs b 27 [.int .i64 op, .int .i64 n, u]
set_option maxRecDepth 20000 in
theorem idx_any {W w : World} {L : List Asrt} {b : Nat} {op n : Int} {u : Value} (hS : Sat W w (Cs b 27 [.int .i64 op, .int .i64 n, u] :: L)) (ks : List StepD) (ao : Option Addr) (c : Nat) (hr : ∀ w L', Sat W w (L' ++ L) → Rd w (.slice ao ks.length c) ks.length 3 (ks.flatMap qv)) (hu : ∀ k ∈ ks, k.u.oneCell' = true) :
    Calls Tryz.prog 102 #[.slice ao ks.length c, .func (.func 92) #[] #[.pointer (some ⟨b, 0, none⟩)]] w fun r w' => ∃ i : Int, r = .returned (.int .i64 i) ∧ decide (0 ≤ i) = ks.any (fun k => decide (k.op = op)) ∧ Sat W w' (Cs b 27 [.int .i64 op, .int .i64 n, u] :: L) := by
  have HR := Lib.hid hr
  have HU := Lib.hid hu
  obtain ⟨_, _, he, hc1, hc2, _, h5⟩ := hr w [_] hS
  simp only [Value.slice.injEq, true_and] at he
  obtain ⟨rfl, rfl⟩ := he
  have H5 := Lib.hid h5
  have H0 := Lib.hid hS
  have hli : (ks.length : Int) ≤ 9223372036854775807 := by omega
  clear hr hu h5 hS
  go_enter Tryz.func102, Tryz.ntmps102
  go_wp2
  go_loopw [8] (fun v wz => ∃ i : Nat, v = .int .i64 i ∧ i ≤ ks.length ∧ (ks.take i).any (fun k => decide (k.op = op)) = false ∧ Sat W wz (Cs b 27 [.int .i64 op, .int .i64 n, u] :: L)) (fun v _ => ks.length - (intOf v).toNat)
  case atStart => exact ⟨0, rfl, by omega, rfl, H0.out⟩
  case round =>
    clear H0
    obtain ⟨i, rfl, hi, hno, hS⟩ := hrel
    have HNO := Lib.hid hno
    clear hno
    by_cases hlt : i < ks.length
    · have k1 : (i : Int) < (ks.length : Int) := by omega
      have HLT := Lib.hid hlt
      obtain ⟨bb, off, rfl, _⟩ := H5.out (by omega)
      obtain ⟨k, hx⟩ : ∃ k, ks[i]? = some k := ⟨_, List.getElem?_eq_getElem hlt⟩
      have hkm := List.mem_of_getElem? hx
      have HX := Lib.hid hx
      have HC := Lib.hid (fun w (h : Sat W w (Cs b 27 [.int .i64 op, .int .i64 n, u] :: L)) => eqop_any h k (HU.out k hkm))
      have HTA := Lib.hid (show (ks.take (i + 1)).any (fun k => decide (k.op = op)) = decide (k.op = op) by
        rw [List.take_add_one, hx, List.any_append, HNO.out]; simp)
      obtain ⟨r, hr⟩ : ∃ r, decide (k.op = op) = r := ⟨_, rfl⟩
      rw [hr] at HC HTA
      have HKR := Lib.hid (show r = true → ks.any (fun k => decide (k.op = op)) = true from fun h => List.any_eq_true.2 ⟨k, hkm, by rw [hr, h]⟩)
      clear hx hlt hi hkm hr
      cases r with
      | true =>
        replace HKR := Lib.hid (HKR.out rfl)
        go_wp2_with (first
          | (refine toList (by rfl) ?_; refine wp_of_reads (rLdRdA (f := qv) (x := k) (HR.out _ [_] hS) (qv_len ks) _ _ (by rfl) _ (by rfl) (agOf (by rfl)) (szOf (by rfl)) i (by omega) HX.out (by omega)) ?_)
          | (go_at_call 92; refine (HC.out _ hS).mono ?_; rintro r w1 ⟨rfl, hS1⟩; clear hS; have hS := hS1; clear hS1))
        go_ret
        exact ⟨i, rfl, by rw [HKR.out]; exact decide_eq_true (by omega), hS⟩
      | false =>
        clear HKR
        go_wp2_with (first
          | (refine toList (by rfl) ?_; refine wp_of_reads (rLdRdA (f := qv) (x := k) (HR.out _ [_] hS) (qv_len ks) _ _ (by rfl) _ (by rfl) (agOf (by rfl)) (szOf (by rfl)) i (by omega) HX.out (by omega)) ?_)
          | (go_at_call 92; refine (HC.out _ hS).mono ?_; rintro r w1 ⟨rfl, hS1⟩; clear hS; have hS := hS1; clear hS1))
        exact ⟨⟨i + 1, by go_num, HLT.out, HTA.out, hS⟩, by simp [intOf]; have := HLT.out; omega⟩
    · obtain rfl : i = ks.length := by omega
      have HA := Lib.hid (show ks.any (fun k => decide (k.op = op)) = false by have := HNO.out; rwa [List.take_length] at this)
      have k1 : ¬ (ks.length : Int) < (ks.length : Int) := by omega
      clear hlt hi
      go_wp2
      go_ret
      exact ⟨-1, rfl, by rw [HA.out]; decide, hS⟩
theorem containsF_any {W w : World} {L : List Asrt} {b : Nat} {op n : Int} {u : Value} (hS : Sat W w (Cs b 27 [.int .i64 op, .int .i64 n, u] :: L)) (ks : List StepD) (ao : Option Addr) (c : Nat) (hr : ∀ w L', Sat W w (L' ++ L) → Rd w (.slice ao ks.length c) ks.length 3 (ks.flatMap qv)) (hu : ∀ k ∈ ks, k.u.oneCell' = true) :
    Calls Tryz.prog 91 #[.slice ao ks.length c, .func (.func 92) #[] #[.pointer (some ⟨b, 0, none⟩)]] w fun r w' => r = .returned (.bool (ks.any fun k => decide (k.op = op))) ∧ Sat W w' (Cs b 27 [.int .i64 op, .int .i64 n, u] :: L) := by
  have HI := Lib.hid (fun w (h : Sat W w (Cs b 27 [.int .i64 op, .int .i64 n, u] :: L)) => idx_any h ks ao c hr hu)
  clear hr hu
  obtain ⟨r, hr⟩ : ∃ r, (ks.any fun k => decide (k.op = op)) = r := ⟨_, rfl⟩
  rw [hr] at HI ⊢
  clear hr
  go_enter Tryz.func91, Tryz.ntmps91
  go_wp2_with (go_at_call 102; refine (HI.out _ hS).mono ?_; rintro r w1 ⟨i, rfl, hi, hS1⟩; clear hS; have hS := hS1; clear hS1)
  go_ret
  exact ⟨by rw [← hi]; rfl, hS⟩
theorem QRd.kid_one {w : World} {d : Nat} {q : StepD} (h : QRd w (d + 1) q) : ∀ k ∈ q.kids, k.u.oneCell' = true := fun k hk => by
  obtain ⟨ao, n, c, hu⟩ := (h.2 k hk).shape
  rw [hu]; rfl
set_option maxRecDepth 20000 in
set_option maxHeartbeats 2000000 in
theorem alone_any {W w : World} {L : List Asrt} (hS : Sat W w L) (q : StepD) (hq : ∀ w L', Sat W w (L' ++ L) → QRd w 1 q) :
    Calls Tryz.prog 71 #[.agg (qv q).toArray] w fun r w' => r = .returned (.bool q.alone) ∧ Sat W w' L := by
  obtain ⟨op, n, u, ks⟩ := q
  have h0 := hq w [] hS
  obtain ⟨ao, c, hu, hc1, hc2, _, _⟩ := h0.1
  replace hu : u = .slice ao ks.length c := hu
  subst hu
  have hli : (ks.length : Int) ≤ 9223372036854775807 := by
    replace hc1 : ks.length ≤ c := hc1
    omega
  have HCF := Lib.hid (fun b w (h : Sat W w (Cs b 27 [.int .i64 op, .int .i64 n, .slice ao ks.length c] :: L)) => containsF_any h ks ao c (fun w L' h => (hq w L' h).1) h0.kid_one)
  clear h0 hq
  show Calls Tryz.prog 71 #[.agg #[.int .i64 op, .int .i64 n, .slice ao ks.length c]] w _
  have z0 : (n = 0 ∧ (n == 0) = true) ∨ (n ≠ 0 ∧ (n == 0) = false) := by
    by_cases h : n = 0
    · exact .inl ⟨h, beq_iff_eq.2 h⟩
    · exact .inr ⟨h, beq_eq_false_iff_ne.2 h⟩
  have l0 : (ks.length = 0 ∧ ((ks.length : Int) == 0) = true ∧ (ks.length == 0) = true) ∨ (ks.length ≠ 0 ∧ ((ks.length : Int) == 0) = false ∧ (ks.length == 0) = false) := by
    by_cases h : ks.length = 0
    · exact .inl ⟨h, beq_iff_eq.2 (by omega), beq_iff_eq.2 h⟩
    · exact .inr ⟨h, beq_eq_false_iff_ne.2 (by omega), beq_eq_false_iff_ne.2 h⟩
  by_cases o1 : op = 1 ∨ op = 2 ∨ op = 8
  · have HA : StepD.alone (.mk op n (.slice ao ks.length c) ks) = (decide (n = 0) && decide (ks.length = 0)) := if_pos o1
    rw [HA]
    clear HA
    rcases o1 with rfl | rfl | rfl
    all_goals
      rcases z0 with ⟨rfl, z⟩ | ⟨z, z1⟩
      · rcases l0 with ⟨l, l1, l2⟩ | ⟨l, l1, l2⟩
        · rw [decide_eq_true l, decide_eq_true rfl]
          clear l
          go_enter Tryz.func71, Tryz.ntmps71
          go_wp2_with (first
            | (refine toList (by rfl) ?_; refine bx hS _ _ (by rfl) _ (by first | exact evC | exact evT (by rfl)) ?_; intro px w1 hS1; clear hS; have hS := hS1; clear hS1; rw [cells_agg] at hS)
            | (refine toList (by rfl) ?_; refine ld hS _ _ (by rfl) _ _ (by rfl) (agOf (by rfl)) (by repeat first | exact Has.z | apply Has.s) (by rfl) ?_)
            | (go_at_call 91; refine (HCF.out _ _ hS).mono ?_; rintro r w1 ⟨rfl, hS1⟩; clear hS; have hS := hS1; clear hS1))
          go_ret
          exact ⟨rfl, hS.drop⟩
        · rw [decide_eq_false l, decide_eq_true rfl]
          clear l
          go_enter Tryz.func71, Tryz.ntmps71
          go_wp2_with (first
            | (refine toList (by rfl) ?_; refine bx hS _ _ (by rfl) _ (by first | exact evC | exact evT (by rfl)) ?_; intro px w1 hS1; clear hS; have hS := hS1; clear hS1; rw [cells_agg] at hS)
            | (refine toList (by rfl) ?_; refine ld hS _ _ (by rfl) _ _ (by rfl) (agOf (by rfl)) (by repeat first | exact Has.z | apply Has.s) (by rfl) ?_)
            | (go_at_call 91; refine (HCF.out _ _ hS).mono ?_; rintro r w1 ⟨rfl, hS1⟩; clear hS; have hS := hS1; clear hS1))
          go_ret
          exact ⟨rfl, hS.drop⟩
      · rw [decide_eq_false z, Bool.false_and]
        clear z l0
        go_enter Tryz.func71, Tryz.ntmps71
        go_wp2_with (first
          | (refine toList (by rfl) ?_; refine bx hS _ _ (by rfl) _ (by first | exact evC | exact evT (by rfl)) ?_; intro px w1 hS1; clear hS; have hS := hS1; clear hS1; rw [cells_agg] at hS)
          | (refine toList (by rfl) ?_; refine ld hS _ _ (by rfl) _ _ (by rfl) (agOf (by rfl)) (by repeat first | exact Has.z | apply Has.s) (by rfl) ?_)
          | (go_at_call 91; refine (HCF.out _ _ hS).mono ?_; rintro r w1 ⟨rfl, hS1⟩; clear hS; have hS := hS1; clear hS1))
        go_ret
        exact ⟨rfl, hS.drop⟩
  by_cases o3 : op = 3
  · subst o3
    have HA : StepD.alone (.mk 3 n (.slice ao ks.length c) ks) = (decide (1 ≤ n) && decide (n ≤ 5) && decide (ks.length = 0)) := rfl
    rw [HA]
    clear HA o1 z0
    by_cases n1 : 1 ≤ n
    · have m1 : decide ((1 : Int) ≤ n) = true := decide_eq_true n1
      by_cases n2 : n ≤ 5
      · have m2 : decide (n ≤ 5) = true := decide_eq_true n2
        rcases l0 with ⟨l, l1, l2⟩ | ⟨l, l1, l2⟩
        · rw [m1, m2, decide_eq_true l]
          clear l
          go_enter Tryz.func71, Tryz.ntmps71
          go_wp2_with (first
            | (refine toList (by rfl) ?_; refine bx hS _ _ (by rfl) _ (by first | exact evC | exact evT (by rfl)) ?_; intro px w1 hS1; clear hS; have hS := hS1; clear hS1; rw [cells_agg] at hS)
            | (refine toList (by rfl) ?_; refine ld hS _ _ (by rfl) _ _ (by rfl) (agOf (by rfl)) (by repeat first | exact Has.z | apply Has.s) (by rfl) ?_)
            | (go_at_call 91; refine (HCF.out _ _ hS).mono ?_; rintro r w1 ⟨rfl, hS1⟩; clear hS; have hS := hS1; clear hS1))
          go_ret
          exact ⟨rfl, hS.drop⟩
        · rw [m1, m2, decide_eq_false l]
          clear l
          go_enter Tryz.func71, Tryz.ntmps71
          go_wp2_with (first
            | (refine toList (by rfl) ?_; refine bx hS _ _ (by rfl) _ (by first | exact evC | exact evT (by rfl)) ?_; intro px w1 hS1; clear hS; have hS := hS1; clear hS1; rw [cells_agg] at hS)
            | (refine toList (by rfl) ?_; refine ld hS _ _ (by rfl) _ _ (by rfl) (agOf (by rfl)) (by repeat first | exact Has.z | apply Has.s) (by rfl) ?_)
            | (go_at_call 91; refine (HCF.out _ _ hS).mono ?_; rintro r w1 ⟨rfl, hS1⟩; clear hS; have hS := hS1; clear hS1))
          go_ret
          exact ⟨rfl, hS.drop⟩
      · have m2 : decide (n ≤ 5) = false := decide_eq_false n2
        rw [m1, m2]
        clear l0
        go_enter Tryz.func71, Tryz.ntmps71
        go_wp2_with (first
          | (refine toList (by rfl) ?_; refine bx hS _ _ (by rfl) _ (by first | exact evC | exact evT (by rfl)) ?_; intro px w1 hS1; clear hS; have hS := hS1; clear hS1; rw [cells_agg] at hS)
          | (refine toList (by rfl) ?_; refine ld hS _ _ (by rfl) _ _ (by rfl) (agOf (by rfl)) (by repeat first | exact Has.z | apply Has.s) (by rfl) ?_)
          | (go_at_call 91; refine (HCF.out _ _ hS).mono ?_; rintro r w1 ⟨rfl, hS1⟩; clear hS; have hS := hS1; clear hS1))
        go_ret
        exact ⟨rfl, hS.drop⟩
    · have m1 : decide ((1 : Int) ≤ n) = false := decide_eq_false n1
      rw [m1, Bool.false_and]
      clear l0
      go_enter Tryz.func71, Tryz.ntmps71
      go_wp2_with (first
        | (refine toList (by rfl) ?_; refine bx hS _ _ (by rfl) _ (by first | exact evC | exact evT (by rfl)) ?_; intro px w1 hS1; clear hS; have hS := hS1; clear hS1; rw [cells_agg] at hS)
        | (refine toList (by rfl) ?_; refine ld hS _ _ (by rfl) _ _ (by rfl) (agOf (by rfl)) (by repeat first | exact Has.z | apply Has.s) (by rfl) ?_)
        | (go_at_call 91; refine (HCF.out _ _ hS).mono ?_; rintro r w1 ⟨rfl, hS1⟩; clear hS; have hS := hS1; clear hS1))
      go_ret
      exact ⟨rfl, hS.drop⟩
  by_cases o4 : op = 4
  · subst o4
    have HA : StepD.alone (.mk 4 n (.slice ao ks.length c) ks) = (decide (0 ≤ n) && decide (n < 8) && decide (ks.length = 0)) := rfl
    rw [HA]
    clear HA o1 z0 o3
    by_cases n1 : 0 ≤ n
    · have m1 : decide ((0 : Int) ≤ n) = true := decide_eq_true n1
      by_cases n2 : n < 8
      · have m2 : decide (n < 8) = true := decide_eq_true n2
        rcases l0 with ⟨l, l1, l2⟩ | ⟨l, l1, l2⟩
        · rw [m1, m2, decide_eq_true l]
          clear l
          go_enter Tryz.func71, Tryz.ntmps71
          go_wp2_with (first
            | (refine toList (by rfl) ?_; refine bx hS _ _ (by rfl) _ (by first | exact evC | exact evT (by rfl)) ?_; intro px w1 hS1; clear hS; have hS := hS1; clear hS1; rw [cells_agg] at hS)
            | (refine toList (by rfl) ?_; refine ld hS _ _ (by rfl) _ _ (by rfl) (agOf (by rfl)) (by repeat first | exact Has.z | apply Has.s) (by rfl) ?_)
            | (go_at_call 91; refine (HCF.out _ _ hS).mono ?_; rintro r w1 ⟨rfl, hS1⟩; clear hS; have hS := hS1; clear hS1))
          go_ret
          exact ⟨rfl, hS.drop⟩
        · rw [m1, m2, decide_eq_false l]
          clear l
          go_enter Tryz.func71, Tryz.ntmps71
          go_wp2_with (first
            | (refine toList (by rfl) ?_; refine bx hS _ _ (by rfl) _ (by first | exact evC | exact evT (by rfl)) ?_; intro px w1 hS1; clear hS; have hS := hS1; clear hS1; rw [cells_agg] at hS)
            | (refine toList (by rfl) ?_; refine ld hS _ _ (by rfl) _ _ (by rfl) (agOf (by rfl)) (by repeat first | exact Has.z | apply Has.s) (by rfl) ?_)
            | (go_at_call 91; refine (HCF.out _ _ hS).mono ?_; rintro r w1 ⟨rfl, hS1⟩; clear hS; have hS := hS1; clear hS1))
          go_ret
          exact ⟨rfl, hS.drop⟩
      · have m2 : decide (n < 8) = false := decide_eq_false n2
        rw [m1, m2]
        clear l0
        go_enter Tryz.func71, Tryz.ntmps71
        go_wp2_with (first
          | (refine toList (by rfl) ?_; refine bx hS _ _ (by rfl) _ (by first | exact evC | exact evT (by rfl)) ?_; intro px w1 hS1; clear hS; have hS := hS1; clear hS1; rw [cells_agg] at hS)
          | (refine toList (by rfl) ?_; refine ld hS _ _ (by rfl) _ _ (by rfl) (agOf (by rfl)) (by repeat first | exact Has.z | apply Has.s) (by rfl) ?_)
          | (go_at_call 91; refine (HCF.out _ _ hS).mono ?_; rintro r w1 ⟨rfl, hS1⟩; clear hS; have hS := hS1; clear hS1))
        go_ret
        exact ⟨rfl, hS.drop⟩
    · have m1 : decide ((0 : Int) ≤ n) = false := decide_eq_false n1
      rw [m1, Bool.false_and]
      clear l0
      go_enter Tryz.func71, Tryz.ntmps71
      go_wp2_with (first
        | (refine toList (by rfl) ?_; refine bx hS _ _ (by rfl) _ (by first | exact evC | exact evT (by rfl)) ?_; intro px w1 hS1; clear hS; have hS := hS1; clear hS1; rw [cells_agg] at hS)
        | (refine toList (by rfl) ?_; refine ld hS _ _ (by rfl) _ _ (by rfl) (agOf (by rfl)) (by repeat first | exact Has.z | apply Has.s) (by rfl) ?_)
        | (go_at_call 91; refine (HCF.out _ _ hS).mono ?_; rintro r w1 ⟨rfl, hS1⟩; clear hS; have hS := hS1; clear hS1))
      go_ret
      exact ⟨rfl, hS.drop⟩
  by_cases o5 : op = 5
  · subst o5
    have HA : StepD.alone (.mk 5 n (.slice ao ks.length c) ks) = (decide (n = 0) && decide (ks.length = 1)) := rfl
    rw [HA]
    clear HA o1 o3 o4 l0
    rcases z0 with ⟨rfl, z⟩ | ⟨z, z1⟩
    · have l0 : (ks.length = 1 ∧ ((ks.length : Int) == 1) = true ∧ (ks.length == 1) = true) ∨ (ks.length ≠ 1 ∧ ((ks.length : Int) == 1) = false ∧ (ks.length == 1) = false) := by
        by_cases h : ks.length = 1
        · exact .inl ⟨h, beq_iff_eq.2 (by omega), beq_iff_eq.2 h⟩
        · exact .inr ⟨h, beq_eq_false_iff_ne.2 (by omega), beq_eq_false_iff_ne.2 h⟩
      rcases l0 with ⟨l, l1, l2⟩ | ⟨l, l1, l2⟩
      · rw [decide_eq_true l, decide_eq_true rfl]
        clear l
        go_enter Tryz.func71, Tryz.ntmps71
        go_wp2_with (first
          | (refine toList (by rfl) ?_; refine bx hS _ _ (by rfl) _ (by first | exact evC | exact evT (by rfl)) ?_; intro px w1 hS1; clear hS; have hS := hS1; clear hS1; rw [cells_agg] at hS)
          | (refine toList (by rfl) ?_; refine ld hS _ _ (by rfl) _ _ (by rfl) (agOf (by rfl)) (by repeat first | exact Has.z | apply Has.s) (by rfl) ?_)
          | (go_at_call 91; refine (HCF.out _ _ hS).mono ?_; rintro r w1 ⟨rfl, hS1⟩; clear hS; have hS := hS1; clear hS1))
        go_ret
        exact ⟨rfl, hS.drop⟩
      · rw [decide_eq_false l, decide_eq_true rfl]
        clear l
        go_enter Tryz.func71, Tryz.ntmps71
        go_wp2_with (first
          | (refine toList (by rfl) ?_; refine bx hS _ _ (by rfl) _ (by first | exact evC | exact evT (by rfl)) ?_; intro px w1 hS1; clear hS; have hS := hS1; clear hS1; rw [cells_agg] at hS)
          | (refine toList (by rfl) ?_; refine ld hS _ _ (by rfl) _ _ (by rfl) (agOf (by rfl)) (by repeat first | exact Has.z | apply Has.s) (by rfl) ?_)
          | (go_at_call 91; refine (HCF.out _ _ hS).mono ?_; rintro r w1 ⟨rfl, hS1⟩; clear hS; have hS := hS1; clear hS1))
        go_ret
        exact ⟨rfl, hS.drop⟩
    · rw [decide_eq_false z, Bool.false_and]
      clear z
      go_enter Tryz.func71, Tryz.ntmps71
      go_wp2_with (first
        | (refine toList (by rfl) ?_; refine bx hS _ _ (by rfl) _ (by first | exact evC | exact evT (by rfl)) ?_; intro px w1 hS1; clear hS; have hS := hS1; clear hS1; rw [cells_agg] at hS)
        | (refine toList (by rfl) ?_; refine ld hS _ _ (by rfl) _ _ (by rfl) (agOf (by rfl)) (by repeat first | exact Has.z | apply Has.s) (by rfl) ?_)
        | (go_at_call 91; refine (HCF.out _ _ hS).mono ?_; rintro r w1 ⟨rfl, hS1⟩; clear hS; have hS := hS1; clear hS1))
      go_ret
      exact ⟨rfl, hS.drop⟩
  by_cases o6 : op = 6 ∨ op = 7
  · have HA : StepD.alone (.mk op n (.slice ao ks.length c) ks) = (decide (n = 0) && decide (2 ≤ ks.length) && !(ks.any fun k => decide (k.op = op))) := by
      unfold StepD.alone
      show (if op = 1 ∨ op = 2 ∨ op = 8 then _ else if op = 3 then _ else if op = 4 then _ else if op = 5 then _ else if op = 6 ∨ op = 7 then _ else _) = _
      rw [if_neg o1, if_neg o3, if_neg o4, if_neg o5, if_pos o6]; rfl
    rw [HA]
    clear HA o1 o3 o4 o5 l0
    obtain ⟨r, hr⟩ : ∃ r, (ks.any fun k => decide (k.op = op)) = r := ⟨_, rfl⟩
    rw [hr] at HCF ⊢
    clear hr
    have l0 : (2 ≤ ks.length ∧ decide ((2 : Int) ≤ (ks.length : Int)) = true ∧ (2 : Int) ≤ (ks.length : Int)) ∨ (¬ 2 ≤ ks.length ∧ decide ((2 : Int) ≤ (ks.length : Int)) = false ∧ ¬ (2 : Int) ≤ (ks.length : Int) ∧ decide (2 ≤ ks.length) = false) := by
      by_cases h : 2 ≤ ks.length
      · exact .inl ⟨h, decide_eq_true (by omega), by omega⟩
      · exact .inr ⟨h, decide_eq_false (by omega), by omega, decide_eq_false h⟩
    rcases o6 with rfl | rfl
    all_goals
      rcases z0 with ⟨rfl, z⟩ | ⟨z, z1⟩
      · rcases l0 with ⟨l, l1, l2⟩ | ⟨l, l1, l2, l3⟩
        · rw [decide_eq_true l, decide_eq_true rfl]
          go_enter Tryz.func71, Tryz.ntmps71
          go_wp2_with (first
            | (refine toList (by rfl) ?_; refine bx hS _ _ (by rfl) _ (by first | exact evC | exact evT (by rfl)) ?_; intro px w1 hS1; clear hS; have hS := hS1; clear hS1; rw [cells_agg] at hS)
            | (refine toList (by rfl) ?_; refine ld hS _ _ (by rfl) _ _ (by rfl) (agOf (by rfl)) (by repeat first | exact Has.z | apply Has.s) (by rfl) ?_)
            | (go_at_call 91; refine (HCF.out _ _ hS).mono ?_; rintro r w1 ⟨rfl, hS1⟩; clear hS; have hS := hS1; clear hS1))
          go_ret
          exact ⟨rfl, hS.drop⟩
        · rw [decide_eq_false l, decide_eq_true rfl]
          clear l
          go_enter Tryz.func71, Tryz.ntmps71
          go_wp2_with (first
            | (refine toList (by rfl) ?_; refine bx hS _ _ (by rfl) _ (by first | exact evC | exact evT (by rfl)) ?_; intro px w1 hS1; clear hS; have hS := hS1; clear hS1; rw [cells_agg] at hS)
            | (refine toList (by rfl) ?_; refine ld hS _ _ (by rfl) _ _ (by rfl) (agOf (by rfl)) (by repeat first | exact Has.z | apply Has.s) (by rfl) ?_)
            | (go_at_call 91; refine (HCF.out _ _ hS).mono ?_; rintro r w1 ⟨rfl, hS1⟩; clear hS; have hS := hS1; clear hS1))
          go_ret
          exact ⟨rfl, hS.drop⟩
      · rw [decide_eq_false z, Bool.false_and]
        clear z l0
        go_enter Tryz.func71, Tryz.ntmps71
        go_wp2_with (first
          | (refine toList (by rfl) ?_; refine bx hS _ _ (by rfl) _ (by first | exact evC | exact evT (by rfl)) ?_; intro px w1 hS1; clear hS; have hS := hS1; clear hS1; rw [cells_agg] at hS)
          | (refine toList (by rfl) ?_; refine ld hS _ _ (by rfl) _ _ (by rfl) (agOf (by rfl)) (by repeat first | exact Has.z | apply Has.s) (by rfl) ?_)
          | (go_at_call 91; refine (HCF.out _ _ hS).mono ?_; rintro r w1 ⟨rfl, hS1⟩; clear hS; have hS := hS1; clear hS1))
        go_ret
        exact ⟨rfl, hS.drop⟩
  · have HA : StepD.alone (.mk op n (.slice ao ks.length c) ks) = false := by
      unfold StepD.alone
      show (if op = 1 ∨ op = 2 ∨ op = 8 then _ else if op = 3 then _ else if op = 4 then _ else if op = 5 then _ else if op = 6 ∨ op = 7 then _ else _) = _
      rw [if_neg o1, if_neg o3, if_neg o4, if_neg o5, if_neg o6]
    rw [HA]
    have g1 : (op == 1) = false := beq_eq_false_iff_ne.2 (by omega)
    have g2 : (op == 2) = false := beq_eq_false_iff_ne.2 (by omega)
    have g3 : (op == 3) = false := beq_eq_false_iff_ne.2 (by omega)
    have g4 : (op == 4) = false := beq_eq_false_iff_ne.2 (by omega)
    have g5 : (op == 5) = false := beq_eq_false_iff_ne.2 (by omega)
    have g6 : (op == 6) = false := beq_eq_false_iff_ne.2 (by omega)
    have g7 : (op == 7) = false := beq_eq_false_iff_ne.2 (by omega)
    have g8 : (op == 8) = false := beq_eq_false_iff_ne.2 (by omega)
    clear HA o1 o3 o4 o5 o6 z0 l0
    go_enter Tryz.func71, Tryz.ntmps71
    go_wp2_with (first
      | (refine toList (by rfl) ?_; refine bx hS _ _ (by rfl) _ (by first | exact evC | exact evT (by rfl)) ?_; intro px w1 hS1; clear hS; have hS := hS1; clear hS1; rw [cells_agg] at hS)
      | (refine toList (by rfl) ?_; refine ld hS _ _ (by rfl) _ _ (by rfl) (agOf (by rfl)) (by repeat first | exact Has.z | apply Has.s) (by rfl) ?_)
      | (go_at_call 91; refine (HCF.out _ _ hS).mono ?_; rintro r w1 ⟨rfl, hS1⟩; clear hS; have hS := hS1; clear hS1))
    go_ret
    exact ⟨rfl, hS.drop⟩
end Go.Proofs.YtpnbdnfgdiakhaaGreat
namespace Go.Proofs.YtpnbdnfgdiakhaaGreat
open Go.RowKit Go.Sep
set_option linter.unusedSimpArgs false
set_option linter.unusedVariables false
attribute [local irreducible] Go.Oper.wp Go.wpList Go.Calls Go.Code.wp Go.Sep.Reg
theorem three_one {a b : Int} {u : Value} (h : u.oneCell' = true) : ∀ v ∈ [Value.int .i64 a, .int .i64 b, u], v.oneCell' = true := fun v hv => by
  simp only [List.mem_cons, List.not_mem_nil, or_false] at hv
  rcases hv with hv | hv | hv
  · rw [hv]; rfl
  · rw [hv]; rfl
  · rw [hv]; exact h
def HoPost (W : World) (L : List Asrt) (f : Bool) (m : Nat) (v : Value) (w' : World) : Prop := ∃ z : Int, v = .tuple #[.int .i64 z, .bool f] ∧ (f = true → z = (m : Int)) ∧ Sat W w' L
theorem QRd.one {w : World} {d : Nat} {q : StepD} (h : QRd w (d + 1) q) : QRd w 1 q := ⟨h.1, fun k hk => (h.2 k hk).shape⟩
set_option maxRecDepth 20000 in
set_option maxHeartbeats 2000000 in
theorem holds_any : ∀ (d : Nat) {W w : World} {L : List Asrt} (_ : Sat W w L) (q : StepD) (left : Nat) (t : Int) (_ : t + d = 13) (_ : d ≤ 13) (_ : left ≤ 1000) (_ : ∀ w L', Sat W w (L' ++ L) → QRd w d q),
    Calls Tryz.prog 44 #[.agg (qv q).toArray, .int .i64 (left : Int), .int .i64 t] w fun r w' => ∃ v, r = .returned v ∧ HoPost W L (q.fits d left) (left - q.cnt d) v w' := by
  intro d
  induction d with
  | zero =>
    intro W w L hS q left t ht _ hl hq
    have hf : q.fits 0 left = false := rfl
    rw [hf]
    obtain ⟨ao, n, c, hu⟩ := (hq w [] hS).shape
    obtain ⟨op, nn, u, ks⟩ := q
    replace hu : u = .slice ao n c := hu
    subst hu
    clear hq hf
    show Calls Tryz.prog 44 #[.agg #[.int .i64 op, .int .i64 nn, .slice ao n c], .int .i64 (left : Int), .int .i64 t] w _
    have ht2 : t = 13 := by omega
    subst ht2
    have hli : (left : Int) ≤ 1000 := by omega
    have hcs : (decide ((left : Int) - 1 < 0) = true) ∨ (decide ((left : Int) - 1 < 0) = false) := by cases decide ((left : Int) - 1 < 0) <;> simp
    clear ht
    rcases hcs with h1 | h1
    all_goals
      go_enter Tryz.func44, Tryz.ntmps44
      go_wp2_with (first
        | (refine toList (by rfl) ?_; refine bx hS _ _ (by rfl) _ (by first | exact evC | exact evT (by rfl)) ?_; intro px w1 hS1; clear hS; have hS := hS1; clear hS1; rw [cells_agg] at hS))
      go_ret2
      exact ⟨_, rfl, _, rfl, (fun h => nomatch h), hS.drop⟩
  | succ d ih =>
    intro W w L hS q left t ht hd hl hq
    have hq0 := hq w [] hS
    obtain ⟨op, nn, u, ks⟩ := q
    obtain ⟨ao, c, hu, hc1, hc2, _, h5⟩ := hq0.1
    replace hu : u = .slice ao ks.length c := hu
    replace hc1 : ks.length ≤ c := hc1
    subst hu
    have HU := Lib.hid (hq0.kid_one)
    have HQ := Lib.hid hq
    have HR := Lib.hid (fun w L' (h : Sat W w (L' ++ L)) => show Rd w (.slice ao ks.length c) ks.length 3 (ks.flatMap qv) from (hq w L' h).1)
    have HAL := Lib.hid (fun w L' (h : Sat W w (L' ++ L)) => show Calls Tryz.prog 71 #[.agg #[.int .i64 op, .int .i64 nn, .slice ao ks.length c]] w (fun r w' => r = .returned (.bool (StepD.alone (.mk op nn (.slice ao ks.length c) ks))) ∧ Sat W w' (L' ++ L)) from alone_any h _ (fun w L2 h => (hq w (L2 ++ L') (by rw [List.append_assoc]; exact h)).one))
    have H5 := Lib.hid (show 0 < ks.length → ∃ b off, ao = some ⟨b, off, none⟩ from fun h => by obtain ⟨b, off, h1, _⟩ := h5 h; exact ⟨b, off, h1⟩)
    have t1 : ¬ (12 : Int) < t := by omega
    have t2 : decide ((12 : Int) < t) = false := decide_eq_false t1
    have t3 : -1 ≤ t := by omega
    have t4 : t ≤ 12 := by omega
    have hli : (left : Int) ≤ 1000 := by omega
    have hks : (ks.length : Int) ≤ 9223372036854775807 := by omega
    clear hq h5
    show Calls Tryz.prog 44 #[.agg #[.int .i64 op, .int .i64 nn, .slice ao ks.length c], .int .i64 (left : Int), .int .i64 t] w _
    obtain ⟨Q, hQ⟩ : ∃ Q, StepD.mk op nn (.slice ao ks.length c) ks = Q := ⟨_, rfl⟩
    rw [hQ] at HAL hq0 HU HQ ⊢
    have hQk : Q.kids = ks := by rw [← hQ]; rfl
    cases left with
    | zero =>
      have hf : Q.fits (d + 1) 0 = false := by
        unfold StepD.fits
        have := Q.cnt_pos (d + 1)
        rw [decide_eq_false (by omega), Bool.and_false]
      rw [hf]
      clear hf ht hQ hQk hq0 HU HQ HR HAL H5
      go_enter Tryz.func44, Tryz.ntmps44
      go_wp2_with (first
        | (refine toList (by rfl) ?_; refine bx hS _ _ (by rfl) _ (by first | exact evC | exact evT (by rfl)) ?_; intro px w1 hS1; clear hS; have hS := hS1; clear hS1; rw [cells_agg] at hS))
      go_ret2
      exact ⟨_, rfl, _, rfl, (fun h => nomatch h), hS.drop⟩
    | succ m =>
      have e1 : ((m + 1 : Nat) : Int) - 1 = (m : Int) := by omega
      have e2 : ((m : Int) + 1) - 1 = (m : Int) := by omega
      cases hb : Q.alone with
      | false =>
        have hf : Q.fits (d + 1) (m + 1) = false := by
          cases h : Q.fits (d + 1) (m + 1) with
          | false => rfl
          | true =>
            unfold StepD.fits at h
            rw [Bool.and_eq_true, StepD.ok_succ] at h
            rw [h.1.1] at hb; cases hb
        rw [hf]
        rw [hb] at HAL
        clear hf ht hQ hQk hq0 HU HQ HR H5 hb
        go_enter Tryz.func44, Tryz.ntmps44
        go_wp2_with (first
          | (refine toList (by rfl) ?_; refine bx hS _ _ (by rfl) _ (by first | exact evC | exact evT (by rfl)) ?_; intro px w1 hS1; clear hS; have hS := hS1; clear hS1; rw [cells_agg] at hS)
          | (refine toList (by rfl) ?_; refine ld hS _ _ (by rfl) _ _ (by rfl) (agOf (by rfl)) (by repeat first | exact Has.z | apply Has.s) (by rfl) ?_)
          | (refine toList (by rfl) ?_; refine wp_of_reads (rLdA hS _ _ (by rfl) _ _ (by rfl) (agOf (by rfl)) (szOf (by rfl)) Has.z (vs := [.int .i64 op, .int .i64 nn, .slice ao ks.length c]) (by rfl) (by rfl)) ?_)
          | (go_at_call 71; refine (HAL.out _ [_] hS).mono ?_; rintro r w1 ⟨rfl, hS1⟩; clear hS; have hS := (show Sat W w1 (Cs px 27 _ :: L) from hS1); clear hS1))
        go_ret2
        exact ⟨_, rfl, _, rfl, (fun h => nomatch h), hS.drop⟩
      | true =>
        rw [hb] at HAL
        have HB := Lib.hid hb
        have HK2 := Lib.hid hQk
        have ht1 : t + 1 + (d : Int) = 13 := by omega
        have HIH := Lib.hid (fun (k : StepD) (hkm : k ∈ ks) (rest : Nat) (hr : rest ≤ 1000) w L' (h : Sat W w (L' ++ L)) => ih h k rest (t + 1) ht1 (by omega) hr fun w L2 h => (HQ.out w (L2 ++ L') (by rw [List.append_assoc]; exact h)).2 k (by rw [hQk]; exact hkm))
        have HKU := Lib.hid (fun (k : StepD) (hkm : k ∈ ks) => HU.out k (by rw [hQk]; exact hkm))
        have hm : m ≤ 1000 := by omega
        clear ht hQ hQk hq0 HU HQ hb ih ht1
        go_enter Tryz.func44, Tryz.ntmps44
        go_wp2_with (first
          | (refine toList (by rfl) ?_; refine bx hS _ _ (by rfl) _ (by first | exact evC | exact evT (by rfl)) ?_; intro px w1 hS1; clear hS; have hS := hS1; clear hS1; rw [cells_agg] at hS)
          | (refine toList (by rfl) ?_; refine ld hS _ _ (by rfl) _ _ (by rfl) (agOf (by rfl)) (by repeat first | exact Has.z | apply Has.s) (by rfl) ?_)
          | (refine toList (by rfl) ?_; refine wp_of_reads (rLdA hS _ _ (by rfl) _ _ (by rfl) (agOf (by rfl)) (szOf (by rfl)) Has.z (vs := [.int .i64 op, .int .i64 nn, .slice ao ks.length c]) (by rfl) (by rfl)) ?_)
          | (go_at_call 71; refine (HAL.out _ [_] hS).mono ?_; rintro r w1 ⟨rfl, hS1⟩; clear hS; have hS := (show Sat W w1 (Cs px 27 _ :: L) from hS1); clear hS1))
        have H0 := Lib.hid hS
        go_loopw [1, 28] (fun v1 v28 wz => ∃ i : Nat, v28 = .int .i64 i ∧ i ≤ ks.length ∧ v1 = .int .i64 ((m - ((ks.take i).map (StepD.cnt d)).sum : Nat) : Int) ∧ ((ks.take i).map (StepD.cnt d)).sum ≤ m ∧ (∀ (j : Nat) (k : StepD), j < i → ks[j]? = some k → k.ok d = true) ∧ Sat W wz (Cs px 27 [.int .i64 op, .int .i64 nn, .slice ao ks.length c] :: L)) (fun _ v28 _ => ks.length - (intOf v28).toNat)
        case atStart => exact ⟨0, rfl, by omega, rfl, by simp, (fun j k h => absurd h (Nat.not_lt_zero _)), H0.out⟩
        case round =>
          clear hS H0
          obtain ⟨i, rfl, hi, rfl, hsm, hok, hS⟩ := hrel
          have HOK := Lib.hid hok
          have HSM := Lib.hid hsm
          clear hok hsm
          by_cases hlt : i < ks.length
          · have k1 : (i : Int) < (ks.length : Int) := by omega
            have HLT := Lib.hid hlt
            obtain ⟨bb, off, rfl⟩ := H5.out (by omega)
            obtain ⟨k, hx⟩ : ∃ k, ks[i]? = some k := ⟨_, List.getElem?_eq_getElem hlt⟩
            have hkm := List.mem_of_getElem? hx
            have HX := Lib.hid hx
            obtain ⟨rest, hrs⟩ : ∃ rest, m - ((ks.take i).map (StepD.cnt d)).sum = rest := ⟨_, rfl⟩
            have hrl : rest ≤ 1000 := by omega
            have HC := Lib.hid (HIH.out k hkm rest hrl)
            have HRS := Lib.hid hrs
            rw [hrs]
            have hku := HKU.out k hkm
            have hsu := StepD.sum_take_succ (StepD.cnt d) hx
            have HSU := Lib.hid hsu
            have HM := Lib.hid hm
            have HFN := Lib.hid (fun (h : k.fits d rest = false) => show Q.fits (d + 1) (m + 1) = false from StepD.fits_no (i := i) (k := k) (by rw [HK2.out]; exact hx) (by rw [HK2.out, Nat.add_sub_cancel, hrs]; exact h))
            have HFY := Lib.hid (fun (h : k.fits d rest = true) => show k.ok d = true ∧ k.cnt d ≤ rest from by unfold StepD.fits at h; rw [Bool.and_eq_true, decide_eq_true_eq] at h; exact h)
            obtain ⟨kc, hkc⟩ : ∃ kc, k.cnt d = kc := ⟨_, rfl⟩
            have HKC := Lib.hid hkc
            rw [hkc] at HC HFY
            have hri : (rest : Int) ≤ 1000 := by omega
            clear hx hlt hi hkm hrs hsu hkc hm
            obtain ⟨ko, kn, ku, kk⟩ := k
            replace hku : ku.oneCell' = true := hku
            replace HC := Lib.hid (fun w L' (h : Sat W w (L' ++ L)) => show Calls Tryz.prog 44 #[.agg #[.int .i64 ko, .int .i64 kn, ku], .int .i64 (rest : Int), .int .i64 (t + 1)] w _ from HC.out w L' h)
            cases hf : StepD.fits d rest (.mk ko kn ku kk) with
            | false =>
              have HN := Lib.hid (HFN.out hf)
              rw [hf] at HC
              clear HFN HFY hf
              go_wp2_with (first
                | (refine toList (by rfl) ?_; refine wp_of_reads (rLdRdA (f := qv) (x := .mk ko kn ku kk) (HR.out _ [_] hS) (qv_len ks) _ _ (by rfl) _ (by rfl) (agOf (by rfl)) (szOf (by rfl)) i (by omega) HX.out (by omega)) ?_)
                | (refine toList (by rfl) ?_; refine al hS _ (by rfl) (zrOf (by rfl)) ?_; intro pk w1 hS1; clear hS; have hS := hS1; clear hS1; rw [cells_agg] at hS)
                | (refine toList (by rfl) ?_; refine stW hS _ _ _ (by rfl) (by rfl) [.int .i64 ko, .int .i64 kn, ku] (by rfl) (by exact three_one hku) (szOf (by rfl)) Has.z (by rfl) ?_; intro w1 hS1; clear hS; have hS := hS1; clear hS1; dsimp only [List.set_cons_zero] at hS)
                | (refine toList (by rfl) ?_; refine wp_of_reads (rLdA hS _ _ (by rfl) _ _ (by rfl) (agOf (by rfl)) (szOf (by rfl)) Has.z (vs := [.int .i64 ko, .int .i64 kn, ku]) (by rfl) (by rfl)) ?_)
                | (go_at_call 44; refine (HC.out _ [_, _] hS).mono ?_; rintro r w1 ⟨v, rfl, z, rfl, hz, hS1⟩; have HZ := Lib.hid hz; clear hz hS; have hS := (show Sat W w1 (Cs pk 27 _ :: Cs px 27 _ :: L) from hS1); clear hS1))
              go_ret2
              rw [HN.out]
              exact ⟨_, rfl, _, rfl, (fun h => nomatch h), hS.drop.drop⟩
            | true =>
              obtain ⟨y1, y2⟩ := HFY.out hf
              rw [hf] at HC
              have HY1 := Lib.hid y1
              have HY2 := Lib.hid y2
              clear HFN HFY hf y1 y2
              go_wp2_with (first
                | (refine toList (by rfl) ?_; refine wp_of_reads (rLdRdA (f := qv) (x := .mk ko kn ku kk) (HR.out _ [_] hS) (qv_len ks) _ _ (by rfl) _ (by rfl) (agOf (by rfl)) (szOf (by rfl)) i (by omega) HX.out (by omega)) ?_)
                | (refine toList (by rfl) ?_; refine al hS _ (by rfl) (zrOf (by rfl)) ?_; intro pk w1 hS1; clear hS; have hS := hS1; clear hS1; rw [cells_agg] at hS)
                | (refine toList (by rfl) ?_; refine stW hS _ _ _ (by rfl) (by rfl) [.int .i64 ko, .int .i64 kn, ku] (by rfl) (by exact three_one hku) (szOf (by rfl)) Has.z (by rfl) ?_; intro w1 hS1; clear hS; have hS := hS1; clear hS1; dsimp only [List.set_cons_zero] at hS)
                | (refine toList (by rfl) ?_; refine wp_of_reads (rLdA hS _ _ (by rfl) _ _ (by rfl) (agOf (by rfl)) (szOf (by rfl)) Has.z (vs := [.int .i64 ko, .int .i64 kn, ku]) (by rfl) (by rfl)) ?_)
                | (go_at_call 44; refine (HC.out _ [_, _] hS).mono ?_; rintro r w1 ⟨v, rfl, z, rfl, hz, hS1⟩; have HZ := Lib.hid hz; clear hz hS; have hS := (show Sat W w1 (Cs pk 27 _ :: Cs px 27 _ :: L) from hS1); clear hS1))
              have hz2 := HZ.out (by trivial)
              have y2 := HY2.out
              have hkc := HKC.out
              have hsu := HSU.out
              have hrs := HRS.out
              have hsm := HSM.out
              rw [hkc] at hsu
              refine ⟨⟨i + 1, by go_num, HLT.out, by rw [hz2, hsu]; congr 1; omega, by rw [hsu]; omega, fun j k' hj hk' => ?_, hS.drop⟩, by simp [intOf]; have := HLT.out; omega⟩
              rcases Nat.lt_or_ge j i with h | h
              · exact HOK.out j k' h hk'
              · obtain rfl : j = i := by omega
                rw [HX.out] at hk'
                cases hk'
                exact HY1.out
          · obtain rfl : i = ks.length := by omega
            have hsm := HSM.out
            rw [List.take_length] at hsm ⊢
            have HY := Lib.hid (show Q.fits (d + 1) (m + 1) = true from StepD.fits_yes HB.out (fun j k hk => by
              rw [HK2.out] at hk
              exact HOK.out j k (List.getElem?_eq_some_iff.1 hk).1 hk) (by rw [HK2.out]; omega))
            have HCN := Lib.hid (show m - (ks.map (StepD.cnt d)).sum = m + 1 - Q.cnt (d + 1) by rw [StepD.cnt_succ, HK2.out]; omega)
            have k1 : ¬ (ks.length : Int) < (ks.length : Int) := by omega
            generalize (ks.map (StepD.cnt d)).sum = sm at HCN ⊢
            clear hlt hi hsm
            go_wp2
            go_ret2
            rw [HY.out]
            exact ⟨_, rfl, _, rfl, (fun _ => by rw [HCN.out]), hS.drop⟩
theorem check_any {W w : World} {L : List Asrt} (hS : Sat W w L) (q : StepD) (hq : ∀ w L', Sat W w (L' ++ L) → QRd w 12 q) :
    Calls Tryz.prog 19 #[.agg (qv q).toArray] w fun r w' => r = .returned (.bool q.chk) ∧ Sat W w' L := by
  have HC := Lib.hid (fun w L' (h : Sat W w (L' ++ L)) => holds_any 12 h q 40 1 (by decide) (by decide) (by decide) fun w L2 h => hq w (L2 ++ L') (by rw [List.append_assoc]; exact h))
  obtain ⟨ao, n, c, hu⟩ := (hq w [] hS).shape
  obtain ⟨r, hr⟩ : ∃ r, q.fits 12 40 = r := ⟨_, rfl⟩
  have hr2 : q.chk = r := hr
  rw [hr] at HC
  rw [hr2]
  clear hr hr2
  obtain ⟨op, nn, u, ks⟩ := q
  replace hu : u = .slice ao n c := hu
  subst hu
  replace HC := Lib.hid (fun w L' (h : Sat W w (L' ++ L)) => show Calls Tryz.prog 44 #[.agg #[.int .i64 op, .int .i64 nn, .slice ao n c], .int .i64 40, .int .i64 1] w _ from HC.out w L' h)
  show Calls Tryz.prog 19 #[.agg #[.int .i64 op, .int .i64 nn, .slice ao n c]] w _
  clear hq
  go_enter Tryz.func19, Tryz.ntmps19
  go_wp2_with (first
    | (refine toList (by rfl) ?_; refine bx hS _ _ (by rfl) _ (by first | exact evC | exact evT (by rfl)) ?_; intro px w1 hS1; clear hS; have hS := hS1; clear hS1; rw [cells_agg] at hS)
    | (refine toList (by rfl) ?_; refine wp_of_reads (rLdA hS _ _ (by rfl) _ _ (by rfl) (agOf (by rfl)) (szOf (by rfl)) Has.z (vs := [.int .i64 op, .int .i64 nn, .slice ao n c]) (by rfl) (by rfl)) ?_)
    | (go_at_call 44; refine (HC.out _ [_] hS).mono ?_; rintro r w1 ⟨v, rfl, z, rfl, hz, hS1⟩; clear hS; have hS := (show Sat W w1 (Cs px 27 _ :: L) from hS1); clear hS1 hz))
  go_ret
  exact ⟨rfl, hS.drop⟩
end Go.Proofs.YtpnbdnfgdiakhaaGreat
