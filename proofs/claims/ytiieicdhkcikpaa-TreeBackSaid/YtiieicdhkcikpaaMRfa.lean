/-
  The document's names, entries, paths: Name, entry, Find, Under.
  The document's entries: Add.
  The document's tree: New, Walk, Free, parent.
  The document's tree: New, Links, parent.
  The document's tree: touch, New.
-/
import Derived.Test.YtiieicdhkcikpaaMWlk
import Derived.Test.YtiieicdhkcikpaaMReg
import Derived.Test.YtiieicdhkcikpaaMUnl
namespace Go.Proofs.Ytiieicdhkcikpaa
open Go.RowKit Go.Sep
set_option linter.unusedSimpArgs false
set_option linter.unusedVariables false
attribute [local irreducible] Go.Oper.wp Go.wpList Go.Calls Go.Code.wp Go.Sep.Reg
set_option maxRecDepth 20000 in
set_option maxHeartbeats 1000000 in
theorem rname_any (l : List UInt8) (w : World) : Calls Try.prog 63 #[sv l] w fun e w' => e = .returned (.bool (nameOk l)) ∧ w = w' := by
  unfold sv
  by_cases h1 : l.length < 1
  · rw [nameOk_no (.inl h1)]
    have e1 : (l.length : Int) < 1 := by omega
    have e2 : decide ((l.length : Int) < 1) = true := decide_eq_true e1
    go_enter Try.func63, Try.ntmps63
    go_wp2
    go_ret
    exact ⟨rfl, rfl⟩
  have e1 : decide ((l.length : Int) < 1) = false := decide_eq_false (by omega)
  by_cases h2 : 20 < l.length
  · rw [nameOk_no (.inr (.inl h2))]
    have e2 : decide ((20 : Int) < (l.length : Int)) = true := decide_eq_true (by omega)
    have e3 : decide (20 < l.length) = true := decide_eq_true h2
    go_enter Try.func63, Try.ntmps63
    go_wp2
    go_ret
    exact ⟨rfl, rfl⟩
  have e2 : decide ((20 : Int) < (l.length : Int)) = false := decide_eq_false (by omega)
  have e3 : decide (20 < l.length) = false := decide_eq_false h2
  by_cases h3 : l = [46]
  · subst h3
    go_enter Try.func63, Try.ntmps63
    go_wp2
    go_ret
    exact ⟨rfl, rfl⟩
  have e4 : (l == [46]) = false := beq_eq_false_iff_ne.2 h3
  by_cases h4 : l = [46, 46]
  · subst h4
    go_enter Try.func63, Try.ntmps63
    go_wp2
    go_ret
    exact ⟨rfl, rfl⟩
  have e5 : (l == [46, 46]) = false := beq_eq_false_iff_ne.2 h4
  have HNO := Lib.hid (fun h : l.all chrOk = false => nameOk_no (.inr (.inr (.inr (.inr h)))))
  have HYES := Lib.hid (fun h : l.all chrOk = true => show nameOk l = true by
    unfold nameOk
    rw [h, decide_eq_true (by omega : 1 ≤ l.length), decide_eq_true (by omega : l.length ≤ 20), decide_eq_false h3, decide_eq_false h4]; rfl)
  have hl20 : (l.length : Int) ≤ 20 := by omega
  clear h1 h2 h3 h4
  go_enter Try.func63, Try.ntmps63
  go_wp2
  go_loopw [3] (fun v wz => ∃ i : Nat, v = .int .i64 i ∧ i ≤ l.length ∧ (l.take i).all chrOk = true ∧ wz = w) (fun v _ => l.length - (intOf v).toNat)
  case atStart => exact ⟨0, rfl, by omega, rfl, rfl⟩
  case round =>
    obtain ⟨i, rfl, hi, hall, rfl⟩ := hrel
    by_cases hlt : i < l.length
    · have k1 : (i : Int) < (l.length : Int) := by omega
      obtain ⟨x, hx⟩ : ∃ x, l[i]? = some x := ⟨_, List.getElem?_eq_getElem hlt⟩
      have hix := fun w => index_sv hx w
      have HLT := Lib.hid hlt
      have HA2 := Lib.hid (fun hc : chrOk x = true => show (l.take (i + 1)).all chrOk = true by rw [nameOk_take hx, hall, hc]; rfl)
      have HNO := Lib.hid (fun hc : chrOk x = false => HNO.out (all_no hx hc))
      have hv8 : x.toNat < 256 := x.toNat_lt
      have hcs := chr_cases x
      obtain ⟨v, hv⟩ : ∃ v, x.toNat = v := ⟨_, rfl⟩
      rw [hv] at hix hcs hv8
      clear hv hx hlt hi hall
      rcases hcs with ⟨hv1, hv2, hc⟩ | ⟨hv1, hv2, hc⟩ | ⟨hv1, hc⟩ | ⟨hv1, hc⟩ | ⟨hv1, hc⟩ | ⟨hv1, hv2, hv3, hv4, hv5, hc⟩ <;> have HCK := Lib.hid hc <;> clear hc
      · have c1 : decide ((97 : Int) ≤ (v : Int)) = true := by first | exact decide_eq_true (by omega) | exact decide_eq_false (by omega)
        have c2 : decide ((v : Int) ≤ 122) = true := by first | exact decide_eq_true (by omega) | exact decide_eq_false (by omega)
        have c3 : decide ((48 : Int) ≤ (v : Int)) = true := by first | exact decide_eq_true (by omega) | exact decide_eq_false (by omega)
        have c4 : decide ((v : Int) ≤ 57) = false := by first | exact decide_eq_true (by omega) | exact decide_eq_false (by omega)
        have c5 : ((v : Int) == 46) = false := by first | exact beq_iff_eq.2 (by omega) | exact beq_eq_false_iff_ne.2 (by omega)
        have c6 : ((v : Int) == 95) = false := by first | exact beq_iff_eq.2 (by omega) | exact beq_eq_false_iff_ne.2 (by omega)
        have c7 : ((v : Int) == 45) = false := by first | exact beq_iff_eq.2 (by omega) | exact beq_eq_false_iff_ne.2 (by omega)
        clear hv1 hv2
        go_wp2
        exact ⟨⟨i + 1, by go_num, HLT.out, HA2.out HCK.out, by first | rfl | trivial⟩, by simp [intOf]; have := HLT.out; omega⟩
      · have c1 : decide ((97 : Int) ≤ (v : Int)) = false := by first | exact decide_eq_true (by omega) | exact decide_eq_false (by omega)
        have c2 : decide ((v : Int) ≤ 122) = true := by first | exact decide_eq_true (by omega) | exact decide_eq_false (by omega)
        have c3 : decide ((48 : Int) ≤ (v : Int)) = true := by first | exact decide_eq_true (by omega) | exact decide_eq_false (by omega)
        have c4 : decide ((v : Int) ≤ 57) = true := by first | exact decide_eq_true (by omega) | exact decide_eq_false (by omega)
        have c5 : ((v : Int) == 46) = false := by first | exact beq_iff_eq.2 (by omega) | exact beq_eq_false_iff_ne.2 (by omega)
        have c6 : ((v : Int) == 95) = false := by first | exact beq_iff_eq.2 (by omega) | exact beq_eq_false_iff_ne.2 (by omega)
        have c7 : ((v : Int) == 45) = false := by first | exact beq_iff_eq.2 (by omega) | exact beq_eq_false_iff_ne.2 (by omega)
        clear hv1 hv2
        go_wp2
        exact ⟨⟨i + 1, by go_num, HLT.out, HA2.out HCK.out, by first | rfl | trivial⟩, by simp [intOf]; have := HLT.out; omega⟩
      · have hv2 := 0
        have c1 : decide ((97 : Int) ≤ (v : Int)) = false := by first | exact decide_eq_true (by omega) | exact decide_eq_false (by omega)
        have c2 : decide ((v : Int) ≤ 122) = true := by first | exact decide_eq_true (by omega) | exact decide_eq_false (by omega)
        have c3 : decide ((48 : Int) ≤ (v : Int)) = false := by first | exact decide_eq_true (by omega) | exact decide_eq_false (by omega)
        have c4 : decide ((v : Int) ≤ 57) = true := by first | exact decide_eq_true (by omega) | exact decide_eq_false (by omega)
        have c5 : ((v : Int) == 46) = true := by first | exact beq_iff_eq.2 (by omega) | exact beq_eq_false_iff_ne.2 (by omega)
        have c6 : ((v : Int) == 95) = false := by first | exact beq_iff_eq.2 (by omega) | exact beq_eq_false_iff_ne.2 (by omega)
        have c7 : ((v : Int) == 45) = false := by first | exact beq_iff_eq.2 (by omega) | exact beq_eq_false_iff_ne.2 (by omega)
        clear hv1 hv2
        go_wp2
        exact ⟨⟨i + 1, by go_num, HLT.out, HA2.out HCK.out, by first | rfl | trivial⟩, by simp [intOf]; have := HLT.out; omega⟩
      · have hv2 := 0
        have c1 : decide ((97 : Int) ≤ (v : Int)) = false := by first | exact decide_eq_true (by omega) | exact decide_eq_false (by omega)
        have c2 : decide ((v : Int) ≤ 122) = true := by first | exact decide_eq_true (by omega) | exact decide_eq_false (by omega)
        have c3 : decide ((48 : Int) ≤ (v : Int)) = true := by first | exact decide_eq_true (by omega) | exact decide_eq_false (by omega)
        have c4 : decide ((v : Int) ≤ 57) = false := by first | exact decide_eq_true (by omega) | exact decide_eq_false (by omega)
        have c5 : ((v : Int) == 46) = false := by first | exact beq_iff_eq.2 (by omega) | exact beq_eq_false_iff_ne.2 (by omega)
        have c6 : ((v : Int) == 95) = true := by first | exact beq_iff_eq.2 (by omega) | exact beq_eq_false_iff_ne.2 (by omega)
        have c7 : ((v : Int) == 45) = false := by first | exact beq_iff_eq.2 (by omega) | exact beq_eq_false_iff_ne.2 (by omega)
        clear hv1 hv2
        go_wp2
        exact ⟨⟨i + 1, by go_num, HLT.out, HA2.out HCK.out, by first | rfl | trivial⟩, by simp [intOf]; have := HLT.out; omega⟩
      · have hv2 := 0
        have c1 : decide ((97 : Int) ≤ (v : Int)) = false := by first | exact decide_eq_true (by omega) | exact decide_eq_false (by omega)
        have c2 : decide ((v : Int) ≤ 122) = true := by first | exact decide_eq_true (by omega) | exact decide_eq_false (by omega)
        have c3 : decide ((48 : Int) ≤ (v : Int)) = false := by first | exact decide_eq_true (by omega) | exact decide_eq_false (by omega)
        have c4 : decide ((v : Int) ≤ 57) = true := by first | exact decide_eq_true (by omega) | exact decide_eq_false (by omega)
        have c5 : ((v : Int) == 46) = false := by first | exact beq_iff_eq.2 (by omega) | exact beq_eq_false_iff_ne.2 (by omega)
        have c6 : ((v : Int) == 95) = false := by first | exact beq_iff_eq.2 (by omega) | exact beq_eq_false_iff_ne.2 (by omega)
        have c7 : ((v : Int) == 45) = true := by first | exact beq_iff_eq.2 (by omega) | exact beq_eq_false_iff_ne.2 (by omega)
        clear hv1 hv2
        go_wp2
        exact ⟨⟨i + 1, by go_num, HLT.out, HA2.out HCK.out, by first | rfl | trivial⟩, by simp [intOf]; have := HLT.out; omega⟩
      · have hq : v < 48 ∨ (57 < v ∧ v < 97) ∨ 122 < v := by omega
        rcases hq with hq | hq | hq
        · have c1 : decide ((97 : Int) ≤ (v : Int)) = false := by first | exact decide_eq_true (by omega) | exact decide_eq_false (by omega)
          have c2 : decide ((v : Int) ≤ 122) = true := by first | exact decide_eq_true (by omega) | exact decide_eq_false (by omega)
          have c3 : decide ((48 : Int) ≤ (v : Int)) = false := by first | exact decide_eq_true (by omega) | exact decide_eq_false (by omega)
          have c4 : decide ((v : Int) ≤ 57) = true := by first | exact decide_eq_true (by omega) | exact decide_eq_false (by omega)
          have c5 : ((v : Int) == 46) = false := by first | exact beq_iff_eq.2 (by omega) | exact beq_eq_false_iff_ne.2 (by omega)
          have c6 : ((v : Int) == 95) = false := by first | exact beq_iff_eq.2 (by omega) | exact beq_eq_false_iff_ne.2 (by omega)
          have c7 : ((v : Int) == 45) = false := by first | exact beq_iff_eq.2 (by omega) | exact beq_eq_false_iff_ne.2 (by omega)
          clear hv1 hv2
          go_wp2
          go_ret
          rw [HNO.out HCK.out]
          exact ⟨rfl, rfl⟩
        · have c1 : decide ((97 : Int) ≤ (v : Int)) = false := by first | exact decide_eq_true (by omega) | exact decide_eq_false (by omega)
          have c2 : decide ((v : Int) ≤ 122) = true := by first | exact decide_eq_true (by omega) | exact decide_eq_false (by omega)
          have c3 : decide ((48 : Int) ≤ (v : Int)) = true := by first | exact decide_eq_true (by omega) | exact decide_eq_false (by omega)
          have c4 : decide ((v : Int) ≤ 57) = false := by first | exact decide_eq_true (by omega) | exact decide_eq_false (by omega)
          have c5 : ((v : Int) == 46) = false := by first | exact beq_iff_eq.2 (by omega) | exact beq_eq_false_iff_ne.2 (by omega)
          have c6 : ((v : Int) == 95) = false := by first | exact beq_iff_eq.2 (by omega) | exact beq_eq_false_iff_ne.2 (by omega)
          have c7 : ((v : Int) == 45) = false := by first | exact beq_iff_eq.2 (by omega) | exact beq_eq_false_iff_ne.2 (by omega)
          clear hv1 hv2
          go_wp2
          go_ret
          rw [HNO.out HCK.out]
          exact ⟨rfl, rfl⟩
        · have c1 : decide ((97 : Int) ≤ (v : Int)) = true := by first | exact decide_eq_true (by omega) | exact decide_eq_false (by omega)
          have c2 : decide ((v : Int) ≤ 122) = false := by first | exact decide_eq_true (by omega) | exact decide_eq_false (by omega)
          have c3 : decide ((48 : Int) ≤ (v : Int)) = true := by first | exact decide_eq_true (by omega) | exact decide_eq_false (by omega)
          have c4 : decide ((v : Int) ≤ 57) = false := by first | exact decide_eq_true (by omega) | exact decide_eq_false (by omega)
          have c5 : ((v : Int) == 46) = false := by first | exact beq_iff_eq.2 (by omega) | exact beq_eq_false_iff_ne.2 (by omega)
          have c6 : ((v : Int) == 95) = false := by first | exact beq_iff_eq.2 (by omega) | exact beq_eq_false_iff_ne.2 (by omega)
          have c7 : ((v : Int) == 45) = false := by first | exact beq_iff_eq.2 (by omega) | exact beq_eq_false_iff_ne.2 (by omega)
          clear hv1 hv2
          go_wp2
          go_ret
          rw [HNO.out HCK.out]
          exact ⟨rfl, rfl⟩
    · have k1 : ¬ (i : Int) < (l.length : Int) := by omega
      rw [List.take_of_length_le (by omega)] at hall
      have HY := Lib.hid (HYES.out hall)
      clear hall hlt
      go_wp2
      go_ret
      rw [HY.out]
      exact ⟨rfl, rfl⟩
theorem rentry_any {W w : World} {L : List Asrt} (hS : Sat W w L) (e : EntD) : Calls Try.prog 72 #[.agg #[sv e.nm, .int .i64 e.ino]] w fun r w' => r = .returned (.bool (entOk e)) ∧ Sat W w' L := by
  obtain ⟨n, i⟩ := e
  dsimp only
  unfold entOk
  dsimp only
  have HN := Lib.hid (fun w => rname_any n w)
  obtain ⟨b, hb⟩ : ∃ b, nameOk n = b := ⟨_, rfl⟩
  rw [hb] at HN ⊢
  clear hb
  obtain ⟨sn, hsn⟩ : ∃ s, sv n = s := ⟨_, rfl⟩
  have hone : sn.oneCell' = true := by rw [← hsn]; rfl
  rw [hsn] at HN ⊢
  clear hsn
  cases b
  · go_enter Try.func72, Try.ntmps72
    go_wp2_with (first
      | (refine toList (by rfl) ?_; refine bx hS _ _ (by rfl) _ (by first | exact evC | exact evT (by rfl)) ?_; intro px w1 hS1; clear hS; have hS := hS1; clear hS1; rw [cells_agg] at hS)
      | (refine toList (by rfl) ?_; refine ld hS _ _ (by rfl) _ _ (by rfl) (agOf (by rfl)) (by first | exact Has.z | exact Has.s Has.z | exact Has.s (Has.s Has.z) | exact Has.s (Has.s (Has.s Has.z)) | exact Has.s (Has.s (Has.s (Has.s Has.z))) | exact Has.s (Has.s (Has.s (Has.s (Has.s Has.z))))) (by rfl) ?_)
      | (go_at_call 63; refine (HN.out _).mono ?_; rintro e w1 ⟨rfl, rfl⟩))
    go_ret
    exact ⟨rfl, hS.drop⟩
  · by_cases h1 : 1 ≤ i
    · have d1 : decide ((1 : Int) ≤ i) = true := decide_eq_true h1
      by_cases h2 : i < 48
      · have d2 : decide (i < (48 : Int)) = true := decide_eq_true h2
        rw [d1, d2]
        go_enter Try.func72, Try.ntmps72
        go_wp2_with (first
          | (refine toList (by rfl) ?_; refine bx hS _ _ (by rfl) _ (by first | exact evC | exact evT (by rfl)) ?_; intro px w1 hS1; clear hS; have hS := hS1; clear hS1; rw [cells_agg] at hS)
          | (refine toList (by rfl) ?_; refine ld hS _ _ (by rfl) _ _ (by rfl) (agOf (by rfl)) (by first | exact Has.z | exact Has.s Has.z | exact Has.s (Has.s Has.z) | exact Has.s (Has.s (Has.s Has.z)) | exact Has.s (Has.s (Has.s (Has.s Has.z))) | exact Has.s (Has.s (Has.s (Has.s (Has.s Has.z))))) (by rfl) ?_)
          | (go_at_call 63; refine (HN.out _).mono ?_; rintro e w1 ⟨rfl, rfl⟩))
        go_ret
        exact ⟨rfl, hS.drop⟩
      · have d2 : decide (i < (48 : Int)) = false := decide_eq_false h2
        rw [d1, d2]
        go_enter Try.func72, Try.ntmps72
        go_wp2_with (first
          | (refine toList (by rfl) ?_; refine bx hS _ _ (by rfl) _ (by first | exact evC | exact evT (by rfl)) ?_; intro px w1 hS1; clear hS; have hS := hS1; clear hS1; rw [cells_agg] at hS)
          | (refine toList (by rfl) ?_; refine ld hS _ _ (by rfl) _ _ (by rfl) (agOf (by rfl)) (by first | exact Has.z | exact Has.s Has.z | exact Has.s (Has.s Has.z) | exact Has.s (Has.s (Has.s Has.z)) | exact Has.s (Has.s (Has.s (Has.s Has.z))) | exact Has.s (Has.s (Has.s (Has.s (Has.s Has.z))))) (by rfl) ?_)
          | (go_at_call 63; refine (HN.out _).mono ?_; rintro e w1 ⟨rfl, rfl⟩))
        go_ret
        exact ⟨rfl, hS.drop⟩
    · have d1 : decide ((1 : Int) ≤ i) = false := decide_eq_false h1
      rw [d1]
      go_enter Try.func72, Try.ntmps72
      go_wp2_with (first
        | (refine toList (by rfl) ?_; refine bx hS _ _ (by rfl) _ (by first | exact evC | exact evT (by rfl)) ?_; intro px w1 hS1; clear hS; have hS := hS1; clear hS1; rw [cells_agg] at hS)
        | (refine toList (by rfl) ?_; refine ld hS _ _ (by rfl) _ _ (by rfl) (agOf (by rfl)) (by first | exact Has.z | exact Has.s Has.z | exact Has.s (Has.s Has.z) | exact Has.s (Has.s (Has.s Has.z)) | exact Has.s (Has.s (Has.s (Has.s Has.z))) | exact Has.s (Has.s (Has.s (Has.s (Has.s Has.z))))) (by rfl) ?_)
        | (go_at_call 63; refine (HN.out _).mono ?_; rintro e w1 ⟨rfl, rfl⟩))
      go_ret
      exact ⟨rfl, hS.drop⟩
set_option maxRecDepth 20000 in
set_option maxHeartbeats 1000000 in
theorem rfind_any {W w : World} {L : List Asrt} (hS : Sat W w L) (l : List EntD) (ao : Option Addr) (c : Nat) (n : List UInt8) (hr : ∀ w, Sat W w L → Rd w (.slice ao l.length c) l.length 2 (l.flatMap ev2)) (hl : l.length ≤ 1000) :
    Calls Try.prog 65 #[.slice ao l.length c, sv n] w fun r w' => r = .returned (.tuple #[.int .i64 ((findE l n).getD 0), .bool (hasE l n)]) ∧ Sat W w' L := by
  have HR := Lib.hid hr
  obtain ⟨_, _, he, hc1, hc2, _, h5⟩ := hr w hS
  simp only [Value.slice.injEq, true_and] at he
  obtain ⟨rfl, rfl⟩ := he
  have H5 := Lib.hid h5
  have hli : (l.length : Int) ≤ 1000 := by omega
  have H0 := Lib.hid hS
  clear hr h5 hS
  unfold sv
  go_enter Try.func65, Try.ntmps65
  go_wp2
  go_loopw [6] (fun v wz => ∃ i : Nat, v = .int .i64 i ∧ i ≤ l.length ∧ (l.take i).any (fun e => decide (e.nm = n)) = false ∧ Sat W wz L) (fun v _ => l.length - (intOf v).toNat)
  case atStart => exact ⟨0, rfl, by omega, rfl, H0.out⟩
  case round =>
    clear H0
    obtain ⟨i, rfl, hi, hno, hS⟩ := hrel
    have HNO := Lib.hid hno
    clear hno
    by_cases hlt : i < l.length
    · have k1 : (i : Int) < (l.length : Int) := by omega
      have HLT := Lib.hid hlt
      obtain ⟨b, off, rfl, _⟩ := H5.out (by omega)
      obtain ⟨⟨en, ei⟩, hx⟩ : ∃ e, l[i]? = some e := ⟨_, List.getElem?_eq_getElem hlt⟩
      have HX := Lib.hid hx
      clear hx hlt hi
      by_cases hq : en = n
      · have HF := Lib.hid (findE_yes HNO.out HX.out hq)
        have e1 : (en == n) = true := beq_iff_eq.2 hq
        clear hq
        go_wp2_with (first
          | (refine toList (by rfl) ?_; refine wp_of_reads (rLdRd (f := ev2) (x := ⟨en, ei⟩) (u := .string ⟨en.toArray⟩) (HR.out _ hS) (ev2_len l) _ _ (by rfl) _ (by rfl) (agOf (by rfl)) i 0 (by omega) HX.out (by rfl) (by omega)) ?_)
          | (refine toList (by rfl) ?_; refine wp_of_reads (rLdRd (f := ev2) (x := ⟨en, ei⟩) (u := .int .i64 ei) (HR.out _ hS) (ev2_len l) _ _ (by rfl) _ (by rfl) (agOf (by rfl)) i 1 (by omega) HX.out (by rfl) (by omega)) ?_))
        go_ret2
        rw [HF.out.1, HF.out.2]
        exact ⟨rfl, hS⟩
      · have HN2 := Lib.hid (show (l.take (i + 1)).any (fun e => decide (e.nm = n)) = false by
          rw [List.take_add_one, HX.out, List.any_append, HNO.out]; simp [hq])
        have e1 : (en == n) = false := beq_eq_false_iff_ne.2 hq
        clear hq
        go_wp2_with (first
          | (refine toList (by rfl) ?_; refine wp_of_reads (rLdRd (f := ev2) (x := ⟨en, ei⟩) (u := .string ⟨en.toArray⟩) (HR.out _ hS) (ev2_len l) _ _ (by rfl) _ (by rfl) (agOf (by rfl)) i 0 (by omega) HX.out (by rfl) (by omega)) ?_)
          | (refine toList (by rfl) ?_; refine wp_of_reads (rLdRd (f := ev2) (x := ⟨en, ei⟩) (u := .int .i64 ei) (HR.out _ hS) (ev2_len l) _ _ (by rfl) _ (by rfl) (agOf (by rfl)) i 1 (by omega) HX.out (by rfl) (by omega)) ?_))
        exact ⟨⟨i + 1, by go_num, HLT.out, HN2.out, hS⟩, by simp [intOf]; have := HLT.out; omega⟩
    · have k1 : ¬ (i : Int) < (l.length : Int) := by omega
      have HF := Lib.hid (findE_no (l := l) (n := n) (by rw [← HNO.out, List.take_of_length_le (by omega)]))
      clear hlt
      go_wp2
      go_ret2
      rw [HF.out.1, HF.out.2]
      exact ⟨rfl, hS⟩
set_option maxRecDepth 20000 in
set_option maxHeartbeats 1000000 in
theorem runder_any {W w : World} {L : List Asrt} (hS : Sat W w L) (l m : List (List UInt8)) (ao ao' : Option Addr) (c c' : Nat) (hr : ∀ w, Sat W w L → Rd w (.slice ao l.length c) l.length 1 (l.flatMap sv1)) (hr' : ∀ w, Sat W w L → Rd w (.slice ao' m.length c') m.length 1 (m.flatMap sv1)) (hl : l.length ≤ 1000000) (hm : m.length ≤ 1000000) :
    Calls Try.prog 69 #[.slice ao l.length c, .slice ao' m.length c'] w fun r w' => r = .returned (.bool (TrD.under l m)) ∧ Sat W w' L := by
  rw [under_take]
  by_cases h : m.length ≤ l.length
  · rw [if_pos h]
    have HR := Lib.hid hr
    have HR' := Lib.hid hr'
    obtain ⟨_, _, he, hc1, hc2, _, h5⟩ := hr w hS
    simp only [Value.slice.injEq, true_and] at he
    obtain ⟨rfl, rfl⟩ := he
    obtain ⟨_, _, he, hd1, hd2, _, h5'⟩ := hr' w hS
    simp only [Value.slice.injEq, true_and] at he
    obtain ⟨rfl, rfl⟩ := he
    have H5 := Lib.hid h5
    have H5' := Lib.hid h5'
    have HLM := Lib.hid h
    have HS := Lib.hid hS
    have e1 : ¬ (l.length : Int) < (m.length : Int) := by omega
    have e2 : decide ((l.length : Int) < (m.length : Int)) = false := decide_eq_false e1
    have e3 : decide (l.length < m.length) = false := decide_eq_false (by omega)
    have hli : (l.length : Int) ≤ 1000000 := by omega
    have hmi : (m.length : Int) ≤ 1000000 := by omega
    clear hr hr' h5 h5' h
    go_enter Try.func69, Try.ntmps69
    go_wp2
    go_loopw [5] (fun v wz => ∃ k : Nat, v = .int .i64 k ∧ k ≤ m.length ∧ l.take k = m.take k ∧ Sat W wz L) (fun v _ => m.length - (intOf v).toNat)
    case atStart => exact ⟨0, rfl, by omega, rfl, HS.out⟩
    case round =>
      clear hS
      obtain ⟨k, rfl, hk, htk, hS⟩ := hrel
      clear HS
      have HTK := Lib.hid htk
      clear htk
      by_cases hlt : k < m.length
      · have k1 : (k : Int) < (m.length : Int) := by omega
        have k2 : (k : Int) < (l.length : Int) := by have := HLM.out; omega
        have k3 : k < l.length := by have := HLM.out; omega
        have HLT := Lib.hid hlt
        obtain ⟨b, off, rfl, _⟩ := H5.out (by omega)
        obtain ⟨b', off', rfl, _⟩ := H5'.out (by omega)
        obtain ⟨x, hx⟩ : ∃ x, l[k]? = some x := ⟨_, List.getElem?_eq_getElem k3⟩
        obtain ⟨y, hy⟩ : ∃ y, m[k]? = some y := ⟨_, List.getElem?_eq_getElem hlt⟩
        have HX := Lib.hid hx
        have HY := Lib.hid hy
        clear hx hy hlt hk
        by_cases hq : x = y
        · have e4 : (x == y) = true := beq_iff_eq.2 hq
          have HN := Lib.hid (show l.take (k + 1) = m.take (k + 1) by rw [List.take_add_one, List.take_add_one, HX.out, HY.out, HTK.out, hq])
          subst hq
          go_wp2
          refine regStart [] hS (by kernel_rfl) rfl ?_
          intro w1 hS1
          clear hS; have hS := hS1; clear hS1
          (refine regP 0 hS (fun _ h => h) rfl (by kernel_rfl) (by kernel_rfl) (by kernel_rfl) (fun _ _ _ _ h => h) (by rfl) (by rfl) ?_; apply Exists.intro; apply And.intro; (intro w; go_simp; try with_reducible rfl); go_frame)
          (refine regP 1 hS (fun _ h => h) rfl (by kernel_rfl) (by kernel_rfl) (by kernel_rfl) (fun _ _ _ _ h => h) (by rfl) (by rfl) ?_; apply Exists.intro; apply And.intro; (intro w; go_simp; try with_reducible rfl); go_frame)
          (refine regP 2 hS (fun _ h => h) rfl (by kernel_rfl) (by kernel_rfl) (by kernel_rfl) (fun _ _ _ _ h => h) (by rfl) (by rfl) ?_; apply Exists.intro; apply And.intro; (intro w; go_simp; try with_reducible rfl); go_frame)
          (refine regR 3 hS (fun _ h => h) rfl (by kernel_rfl) (by kernel_rfl) (by kernel_rfl) (by kernel_rfl) (by kernel_rfl) (fun _ _ _ _ h => h) (by rfl) (by rfl) ?_; (first
                                | refine ⟨.string ⟨x.toArray⟩, fun u hu => rLdRd (f := sv1) (x := x) (HR.out _ hu) (sv1_len l) _ _ (by rfl) _ (by rfl) (agOf (by rfl)) k 0 (by omega) HX.out (by rfl) (by omega), ?_⟩
                                | refine ⟨.string ⟨x.toArray⟩, fun u hu => rLdRd (f := sv1) (x := x) (HR'.out _ hu) (sv1_len m) _ _ (by rfl) _ (by rfl) (agOf (by rfl)) k 0 (by omega) HY.out (by rfl) (by omega), ?_⟩); go_frame)
          (refine regP 4 hS (fun _ h => h) rfl (by kernel_rfl) (by kernel_rfl) (by kernel_rfl) (fun _ _ _ _ h => h) (by rfl) (by rfl) ?_; apply Exists.intro; apply And.intro; (intro w; go_simp; try with_reducible rfl); go_frame)
          (refine regP 5 hS (fun _ h => h) rfl (by kernel_rfl) (by kernel_rfl) (by kernel_rfl) (fun _ _ _ _ h => h) (by rfl) (by rfl) ?_; apply Exists.intro; apply And.intro; (intro w; go_simp; try with_reducible rfl); go_frame)
          (refine regP 6 hS (fun _ h => h) rfl (by kernel_rfl) (by kernel_rfl) (by kernel_rfl) (fun _ _ _ _ h => h) (by rfl) (by rfl) ?_; apply Exists.intro; apply And.intro; (intro w; go_simp; try with_reducible rfl); go_frame)
          (refine regR 7 hS (fun _ h => h) rfl (by kernel_rfl) (by kernel_rfl) (by kernel_rfl) (by kernel_rfl) (by kernel_rfl) (fun _ _ _ _ h => h) (by rfl) (by rfl) ?_; (first
                                | refine ⟨.string ⟨x.toArray⟩, fun u hu => rLdRd (f := sv1) (x := x) (HR.out _ hu) (sv1_len l) _ _ (by rfl) _ (by rfl) (agOf (by rfl)) k 0 (by omega) HX.out (by rfl) (by omega), ?_⟩
                                | refine ⟨.string ⟨x.toArray⟩, fun u hu => rLdRd (f := sv1) (x := x) (HR'.out _ hu) (sv1_len m) _ _ (by rfl) _ (by rfl) (agOf (by rfl)) k 0 (by omega) HY.out (by rfl) (by omega), ?_⟩); go_frame)
          (refine regP 8 hS (fun _ h => h) rfl (by kernel_rfl) (by kernel_rfl) (by kernel_rfl) (fun _ _ _ _ h => h) (by rfl) (by rfl) ?_; apply Exists.intro; apply And.intro; (intro w; go_simp; try with_reducible rfl); go_frame)
          refine regDone (by kernel_rfl) ?_
          go_wp2
          exact ⟨⟨k + 1, by go_num, HLT.out, HN.out, hS⟩, by simp [intOf]; have := HLT.out; omega⟩
        · have e4 : (!(x == y)) = true := by rw [beq_eq_false_iff_ne.2 hq]; rfl
          have e5 : (x == y) = false := beq_eq_false_iff_ne.2 hq
          have HN := Lib.hid (show decide (l.take m.length = m) = false from decide_eq_false fun e => by
            have h1 : (l.take m.length)[k]? = m[k]? := by rw [e]
            rw [List.getElem?_take_of_lt HLT.out, HX.out, HY.out] at h1
            exact hq (Option.some.inj h1))
          clear hq
          go_wp2
          refine regStart [] hS (by kernel_rfl) rfl ?_
          intro w1 hS1
          clear hS; have hS := hS1; clear hS1
          (refine regP 0 hS (fun _ h => h) rfl (by kernel_rfl) (by kernel_rfl) (by kernel_rfl) (fun _ _ _ _ h => h) (by rfl) (by rfl) ?_; apply Exists.intro; apply And.intro; (intro w; go_simp; try with_reducible rfl); go_frame)
          (refine regP 1 hS (fun _ h => h) rfl (by kernel_rfl) (by kernel_rfl) (by kernel_rfl) (fun _ _ _ _ h => h) (by rfl) (by rfl) ?_; apply Exists.intro; apply And.intro; (intro w; go_simp; try with_reducible rfl); go_frame)
          (refine regP 2 hS (fun _ h => h) rfl (by kernel_rfl) (by kernel_rfl) (by kernel_rfl) (fun _ _ _ _ h => h) (by rfl) (by rfl) ?_; apply Exists.intro; apply And.intro; (intro w; go_simp; try with_reducible rfl); go_frame)
          (refine regR 3 hS (fun _ h => h) rfl (by kernel_rfl) (by kernel_rfl) (by kernel_rfl) (by kernel_rfl) (by kernel_rfl) (fun _ _ _ _ h => h) (by rfl) (by rfl) ?_; (first
                                | refine ⟨.string ⟨x.toArray⟩, fun u hu => rLdRd (f := sv1) (x := x) (HR.out _ hu) (sv1_len l) _ _ (by rfl) _ (by rfl) (agOf (by rfl)) k 0 (by omega) HX.out (by rfl) (by omega), ?_⟩
                                | refine ⟨.string ⟨y.toArray⟩, fun u hu => rLdRd (f := sv1) (x := y) (HR'.out _ hu) (sv1_len m) _ _ (by rfl) _ (by rfl) (agOf (by rfl)) k 0 (by omega) HY.out (by rfl) (by omega), ?_⟩); go_frame)
          (refine regP 4 hS (fun _ h => h) rfl (by kernel_rfl) (by kernel_rfl) (by kernel_rfl) (fun _ _ _ _ h => h) (by rfl) (by rfl) ?_; apply Exists.intro; apply And.intro; (intro w; go_simp; try with_reducible rfl); go_frame)
          (refine regP 5 hS (fun _ h => h) rfl (by kernel_rfl) (by kernel_rfl) (by kernel_rfl) (fun _ _ _ _ h => h) (by rfl) (by rfl) ?_; apply Exists.intro; apply And.intro; (intro w; go_simp; try with_reducible rfl); go_frame)
          (refine regP 6 hS (fun _ h => h) rfl (by kernel_rfl) (by kernel_rfl) (by kernel_rfl) (fun _ _ _ _ h => h) (by rfl) (by rfl) ?_; apply Exists.intro; apply And.intro; (intro w; go_simp; try with_reducible rfl); go_frame)
          (refine regR 7 hS (fun _ h => h) rfl (by kernel_rfl) (by kernel_rfl) (by kernel_rfl) (by kernel_rfl) (by kernel_rfl) (fun _ _ _ _ h => h) (by rfl) (by rfl) ?_; (first
                                | refine ⟨.string ⟨x.toArray⟩, fun u hu => rLdRd (f := sv1) (x := x) (HR.out _ hu) (sv1_len l) _ _ (by rfl) _ (by rfl) (agOf (by rfl)) k 0 (by omega) HX.out (by rfl) (by omega), ?_⟩
                                | refine ⟨.string ⟨y.toArray⟩, fun u hu => rLdRd (f := sv1) (x := y) (HR'.out _ hu) (sv1_len m) _ _ (by rfl) _ (by rfl) (agOf (by rfl)) k 0 (by omega) HY.out (by rfl) (by omega), ?_⟩); go_frame)
          (refine regP 8 hS (fun _ h => h) rfl (by kernel_rfl) (by kernel_rfl) (by kernel_rfl) (fun _ _ _ _ h => h) (by rfl) (by rfl) ?_; apply Exists.intro; apply And.intro; (intro w; go_simp; try with_reducible rfl); go_frame)
          refine regDone (by kernel_rfl) ?_
          go_wp2
          go_ret
          rw [HN.out]
          exact ⟨rfl, hS⟩
      · have k1 : ¬ (k : Int) < (m.length : Int) := by omega
        have HN := Lib.hid (show decide (l.take m.length = m) = true from decide_eq_true (by
          have := HTK.out
          have hkm : k = m.length := by omega
          rw [hkm, List.take_of_length_le (Nat.le_refl _) (l := m)] at this
          exact this))
        clear hlt
        go_wp2
        go_ret
        rw [HN.out]
        exact ⟨rfl, hS⟩
  · rw [if_neg h]
    have e1 : (l.length : Int) < (m.length : Int) := by omega
    have e2 : decide ((l.length : Int) < (m.length : Int)) = true := decide_eq_true e1
    have e3 : decide (l.length < m.length) = true := decide_eq_true (by omega)
    obtain ⟨_, _, he, hd1, hd2, _, _⟩ := hr' w hS
    obtain ⟨_, _, he', hd1', hd2', _, _⟩ := hr w hS
    clear hr hr'
    go_enter Try.func69, Try.ntmps69
    go_wp2
    go_ret
    exact ⟨rfl, hS⟩
end Go.Proofs.Ytiieicdhkcikpaa
namespace Go.Proofs.Ytiieicdhkcikpaa
open Go.RowKit Go.Sep
set_option linter.unusedSimpArgs false
set_option linter.unusedVariables false
attribute [local irreducible] Go.Oper.wp Go.wpList Go.Calls Go.Code.wp Go.Sep.Reg
theorem atE_step {l : List EntD} (hs : SrtE l) {n : List UInt8} {k : Nat} {e : EntD} (hk : atE l n ≤ k + 1) (hx : l[k]? = some e) (hq : less n e.nm = true) : atE l n ≤ k := by
  rcases Nat.lt_or_ge k (atE l n) with h | h
  · have h1 := atE_lt hx h
    rw [less_asymm h1] at hq; cases hq
  · exact h
theorem atE_stop {l : List EntD} (hs : SrtE l) {n : List UInt8} {k : Nat} {e : EntD} (hk : atE l n ≤ k + 1) (hx : l[k]? = some e) (hno : hasE l n = false) (hq : less n e.nm = false) : atE l n = k + 1 := by
  rcases Nat.lt_or_ge k (atE l n) with h | h
  · omega
  · have h1 := hs.ge hx h
    rcases less_total n e.nm with h2 | h2 | h2
    · rw [h2] at hq; cases hq
    · have := List.any_eq_false.1 hno e (List.mem_of_getElem? hx)
      rw [decide_eq_true h2.symm] at this
      exact absurd rfl this
    · rw [h2] at h1; cases h1
set_option maxRecDepth 20000 in
set_option maxHeartbeats 2000000 in
theorem radd_any {W w : World} {L : List Asrt} (hS : Sat W w L) (l : List EntD) (ao : Option Addr) (c : Nat) (e : EntD) (hr : ∀ w, Sat W w L → Rd w (.slice ao l.length c) l.length 2 (l.flatMap ev2)) (hl : l.length ≤ 1000) (hs : SrtE l) :
    Calls Try.prog 66 #[.slice ao l.length c, .agg #[sv e.nm, .int .i64 e.ino]] w fun r w' => ∃ v, r = .returned (.tuple #[v, .int .i64 (addC l e)]) ∧ Sat W w' (Er v (addV l e) :: L) := by
  obtain ⟨n, j⟩ := e
  dsimp only
  have HR := Lib.hid hr
  obtain ⟨_, _, he, hc1, hc2, _, h5⟩ := hr w hS
  simp only [Value.slice.injEq, true_and] at he
  obtain ⟨rfl, rfl⟩ := he
  have H5 := Lib.hid h5
  have HF := Lib.hid (fun w (L' : List Asrt) (h : Sat W w L') (hr' : ∀ w, Sat W w L' → Rd w (.slice ao l.length c) l.length 2 (l.flatMap ev2)) => rfind_any h l ao c n hr' hl)
  have HM := Lib.hid (fun w (L' : List Asrt) (h : Sat W w L') => rentry_any h ⟨n, j⟩)
  have hli : (l.length : Int) ≤ 1000 := by omega
  unfold addV addC
  obtain ⟨bo, hbo⟩ : ∃ b, entOk ⟨n, j⟩ = b := ⟨_, rfl⟩
  obtain ⟨bh, hbh⟩ : ∃ b, hasE l n = b := ⟨_, rfl⟩
  obtain ⟨fz, hfz⟩ : ∃ z, (findE l n).getD 0 = z := ⟨_, rfl⟩
  rw [hbo] at HM
  rw [hbh, hfz] at HF
  rw [hbo]
  dsimp only
  rw [hbh]
  have HS := Lib.hid hs
  have HBH := Lib.hid hbh
  clear hr hs h5 hbo hbh hfz
  cases bo
  · rw [if_neg (by decide : ¬ false = true)]
    refine Calls.mono (R := fun r w' => r = .returned (.tuple #[.slice none 0 0, .int .i64 1]) ∧ Sat W w' (Er (.slice none 0 0) [] :: L)) ?_ (fun r w' ⟨h1, h2⟩ => ⟨_, h1, by rw [if_neg (by decide)]; exact h2⟩)
    go_enter Try.func66, Try.ntmps66
    go_wp2_with (first
      | (refine toList (by rfl) ?_; refine bx hS _ _ (by rfl) _ (by first | exact evC | exact evT (by rfl)) ?_; intro px w1 hS1; clear hS; have hS := hS1; clear hS1; rw [cells_agg] at hS)
      | (refine toList (by rfl) ?_; refine ld hS _ _ (by rfl) _ _ (by rfl) (agOf (by rfl)) Has.z (by rfl) ?_)
      | (refine toList (by rfl) ?_; refine wp_of_reads (rLdA hS _ _ (by rfl) _ _ (by rfl) (agOf (by rfl)) (szOf (by rfl)) Has.z (vs := [sv n, .int .i64 j]) (by rfl) (by rfl)) ?_)
      | (go_at_call 72; refine (HM.out _ _ hS).mono ?_; rintro r w1 ⟨rfl, hS1⟩; clear hS; have hS := hS1; clear hS1)
      | (go_at_call 65; refine (HF.out _ _ hS (fun w h => HR.out w h.drop)).mono ?_; rintro r w1 ⟨rfl, hS1⟩; clear hS; have hS := hS1; clear hS1))
    go_ret2
    exact ⟨rfl, hS.drop.tbNil⟩
  · rw [if_pos rfl]
    cases bh
    · rw [if_neg (by decide : ¬ false = true)]
      by_cases h64 : 64 ≤ l.length
      · rw [if_pos h64]
        have k1 : decide ((64 : Int) ≤ (l.length : Int)) = true := decide_eq_true (by omega)
        have k2 : (64 : Int) ≤ (l.length : Int) := by omega
        refine Calls.mono (R := fun r w' => r = .returned (.tuple #[.slice none 0 0, .int .i64 5]) ∧ Sat W w' (Er (.slice none 0 0) [] :: L)) ?_ (fun r w' ⟨h1, h2⟩ => ⟨_, h1, by rw [if_neg (by decide)]; exact h2⟩)
        go_enter Try.func66, Try.ntmps66
        go_wp2_with (first
          | (refine toList (by rfl) ?_; refine bx hS _ _ (by rfl) _ (by first | exact evC | exact evT (by rfl)) ?_; intro px w1 hS1; clear hS; have hS := hS1; clear hS1; rw [cells_agg] at hS)
          | (refine toList (by rfl) ?_; refine ld hS _ _ (by rfl) _ _ (by rfl) (agOf (by rfl)) Has.z (by rfl) ?_)
          | (refine toList (by rfl) ?_; refine wp_of_reads (rLdA hS _ _ (by rfl) _ _ (by rfl) (agOf (by rfl)) (szOf (by rfl)) Has.z (vs := [sv n, .int .i64 j]) (by rfl) (by rfl)) ?_)
          | (go_at_call 72; refine (HM.out _ _ hS).mono ?_; rintro r w1 ⟨rfl, hS1⟩; clear hS; have hS := hS1; clear hS1)
          | (go_at_call 65; refine (HF.out _ _ hS (fun w h => HR.out w h.drop)).mono ?_; rintro r w1 ⟨rfl, hS1⟩; clear hS; have hS := hS1; clear hS1))
        go_ret2
        exact ⟨rfl, hS.drop.tbNil⟩
      · rw [if_neg h64, if_pos rfl]
        have k1 : decide ((64 : Int) ≤ (l.length : Int)) = false := decide_eq_false (by omega)
        have k2 : ¬ (64 : Int) ≤ (l.length : Int) := by omega
        have HV := Lib.hid (fun (k : Nat) (hk : atE l n = k) => show l.take k ++ [⟨n, j⟩] ++ l.drop k = insE l ⟨n, j⟩ by unfold insE; rw [hk, List.append_assoc]; rfl)
        have HAL := Lib.hid (atE_le l n)
        go_enter Try.func66, Try.ntmps66
        go_wp2_with (first
          | (refine toList (by rfl) ?_; refine bx hS _ _ (by rfl) _ (by first | exact evC | exact evT (by rfl)) ?_; intro px w1 hS1; clear hS; have hS := hS1; clear hS1; rw [cells_agg] at hS)
          | (refine toList (by rfl) ?_; refine ld hS _ _ (by rfl) _ _ (by rfl) (agOf (by rfl)) Has.z (by rfl) ?_)
          | (refine toList (by rfl) ?_; refine wp_of_reads (rLdA hS _ _ (by rfl) _ _ (by rfl) (agOf (by rfl)) (szOf (by rfl)) Has.z (vs := [sv n, .int .i64 j]) (by rfl) (by rfl)) ?_)
          | (go_at_call 72; refine (HM.out _ _ hS).mono ?_; rintro r w1 ⟨rfl, hS1⟩; clear hS; have hS := hS1; clear hS1)
          | (go_at_call 65; refine (HF.out _ _ hS (fun w h => HR.out w h.drop)).mono ?_; rintro r w1 ⟨rfl, hS1⟩; clear hS; have hS := hS1; clear hS1))
        have H0 := Lib.hid hS
        go_loopw [8] (fun v wz => ∃ k : Nat, v = .int .i64 k ∧ k ≤ l.length ∧ atE l n ≤ k ∧ Sat W wz (Cs px 59 [sv n, .int .i64 j] :: L)) (fun v _ => (intOf v).toNat)
        case atStart => exact ⟨l.length, rfl, by omega, HAL.out, H0.out⟩
        case round =>
          clear hS H0
          obtain ⟨k, rfl, hk, hat, hS⟩ := hrel
          replace hS := (show Sat W _ (Cs px 59 [.string ⟨n.toArray⟩, .int .i64 j] :: L) from hS)
          have HTL := Lib.hid (show (l.take k).length = k by rw [List.length_take]; omega)
          have HKL := Lib.hid hk
          have HNC := Lib.hid hc1
          have q2 : (k : Int) ≤ (c : Int) := by omega
          have q4 : (k : Int) ≤ (l.length : Int) := by omega
          by_cases h0 : k = 0
          · have HAT := Lib.hid (show atE l n = k by omega)
            have g1 : decide ((0 : Int) < (k : Int)) = false := decide_eq_false (by omega)
            have g2 : decide (0 < k) = false := decide_eq_false (by omega)
            have g3 : ¬ (0 : Int) < (k : Int) := by omega
            clear h0 hat hk
            go_wp2
            refine regStart [] hS (by kernel_rfl) rfl ?_
            intro w1 hS1
            clear hS; have hS := hS1; clear hS1
            (refine regP 0 hS (fun _ h => h) rfl (by kernel_rfl) (by kernel_rfl) (by kernel_rfl) (fun _ _ _ _ h => h) (by rfl) (by rfl) ?_; apply Exists.intro; apply And.intro; (intro w; go_simp; try with_reducible rfl); go_frame)
            (refine regP 1 hS (fun _ h => h) rfl (by kernel_rfl) (by kernel_rfl) (by kernel_rfl) (fun _ _ _ _ h => h) (by rfl) (by rfl) ?_; apply Exists.intro; apply And.intro; (intro w; go_simp; try with_reducible rfl); go_frame)
            (refine regP 2 hS (fun _ h => h) rfl (by kernel_rfl) (by kernel_rfl) (by kernel_rfl) (fun _ _ _ _ h => h) (by rfl) (by rfl) ?_; apply Exists.intro; apply And.intro; (intro w; go_simp; try with_reducible rfl); go_frame)
            (first | (refine regP 3 hS (fun _ h => h) rfl (by kernel_rfl) (by kernel_rfl) (by kernel_rfl) (fun _ _ _ _ h => h) (by rfl) (by rfl) ?_; apply Exists.intro; apply And.intro; (intro w; go_simp; try with_reducible rfl); go_frame) | (refine regN 3 hS (fun _ h => h) rfl (by kernel_rfl) (by kernel_rfl) (by kernel_rfl) (fun _ _ _ h => h) (by rfl) (by rfl) ?_; go_frame))
            (first | (refine regR 4 hS (fun _ h => h) rfl (by kernel_rfl) (by kernel_rfl) (by kernel_rfl) (by kernel_rfl) (by kernel_rfl) (fun _ _ _ _ h => h) (by rfl) (by rfl) ?_; (fail); go_frame) | (refine regN 4 hS (fun _ h => h) rfl (by kernel_rfl) (by kernel_rfl) (by kernel_rfl) (fun _ _ _ h => h) (by rfl) (by rfl) ?_; go_frame))
            (first | (refine regP 5 hS (fun _ h => h) rfl (by kernel_rfl) (by kernel_rfl) (by kernel_rfl) (fun _ _ _ _ h => h) (by rfl) (by rfl) ?_; apply Exists.intro; apply And.intro; (intro w; go_simp; try with_reducible rfl); go_frame) | (refine regN 5 hS (fun _ h => h) rfl (by kernel_rfl) (by kernel_rfl) (by kernel_rfl) (fun _ _ _ h => h) (by rfl) (by rfl) ?_; go_frame))
            (first | (refine regP 6 hS (fun _ h => h) rfl (by kernel_rfl) (by kernel_rfl) (by kernel_rfl) (fun _ _ _ _ h => h) (by rfl) (by rfl) ?_; apply Exists.intro; apply And.intro; (intro w; go_simp; try with_reducible rfl); go_frame) | (refine regN 6 hS (fun _ h => h) rfl (by kernel_rfl) (by kernel_rfl) (by kernel_rfl) (fun _ _ _ h => h) (by rfl) (by rfl) ?_; go_frame))
            (first | (refine regP 7 hS (fun _ h => h) rfl (by kernel_rfl) (by kernel_rfl) (by kernel_rfl) (fun _ _ _ _ h => h) (by rfl) (by rfl) ?_; apply Exists.intro; apply And.intro; (intro w; go_simp; try with_reducible rfl); go_frame; try simp (disch := omega) only [IntWalk.i64_in]) | (refine regN 7 hS (fun _ h => h) rfl (by kernel_rfl) (by kernel_rfl) (by kernel_rfl) (fun _ _ _ h => h) (by rfl) (by rfl) ?_; go_frame))
            (first | (refine regP 8 hS (fun _ h => h) rfl (by kernel_rfl) (by kernel_rfl) (by kernel_rfl) (fun _ _ _ _ h => h) (by rfl) (by rfl) ?_; apply Exists.intro; apply And.intro; (intro w; go_simp; try with_reducible rfl); go_frame) | (refine regN 8 hS (fun _ h => h) rfl (by kernel_rfl) (by kernel_rfl) (by kernel_rfl) (fun _ _ _ h => h) (by rfl) (by rfl) ?_; go_frame))
            (first | (refine regP 9 hS (fun _ h => h) rfl (by kernel_rfl) (by kernel_rfl) (by kernel_rfl) (fun _ _ _ _ h => h) (by rfl) (by rfl) ?_; apply Exists.intro; apply And.intro; (intro w; go_simp; try with_reducible rfl); go_frame) | (refine regN 9 hS (fun _ h => h) rfl (by kernel_rfl) (by kernel_rfl) (by kernel_rfl) (fun _ _ _ h => h) (by rfl) (by rfl) ?_; go_frame))
            (first | (refine regR 10 hS (fun _ h => h) rfl (by kernel_rfl) (by kernel_rfl) (by kernel_rfl) (by kernel_rfl) (by kernel_rfl) (fun _ _ _ _ h => h) (by rfl) (by rfl) ?_; (fail); go_frame) | (refine regN 10 hS (fun _ h => h) rfl (by kernel_rfl) (by kernel_rfl) (by kernel_rfl) (fun _ _ _ h => h) (by rfl) (by rfl) ?_; go_frame))
            (first | (refine regP 11 hS (fun _ h => h) rfl (by kernel_rfl) (by kernel_rfl) (by kernel_rfl) (fun _ _ _ _ h => h) (by rfl) (by rfl) ?_; apply Exists.intro; apply And.intro; (intro w; go_simp; try with_reducible rfl); go_frame) | (refine regN 11 hS (fun _ h => h) rfl (by kernel_rfl) (by kernel_rfl) (by kernel_rfl) (fun _ _ _ h => h) (by rfl) (by rfl) ?_; go_frame))
            (refine regP 12 hS (fun _ h => h) rfl (by kernel_rfl) (by kernel_rfl) (by kernel_rfl) (fun _ _ _ _ h => h) (by rfl) (by rfl) ?_; apply Exists.intro; apply And.intro; (intro w; go_simp; try with_reducible rfl); go_frame)
            refine regDone (by kernel_rfl) ?_
            go_wp2_with (first
              | (refine toList (by rfl) ?_; refine apTb (f := ev2) (xs := []) (hS.tbNil (E := 59) (sz := 2)) _ _ _ _ (by rfl) _ _ (by rfl) (by rfl) (elOf (by rfl)) (by rfl) (by decide) (inOf (by rfl)) Has.z (l.take k) (ev2_len _) (by exact .inl (by rw [HTL.out]; exact erd_take (HR.out _ hS.drop) k HKL.out)) (ev2_one _) (by simp; omega) (by simp; omega) ?_; intro v1 w1 hS1; clear hS; have hS := hS1; clear hS1; dsimp only [List.set_cons_zero, List.nil_append] at hS)
              | (refine toList (by rfl) ?_; refine wp_of_reads (rLdA hS _ _ (by rfl) _ _ (by rfl) (agOf (by rfl)) (szOf (by rfl)) (Has.s Has.z) (vs := [sv n, .int .i64 j]) (by rfl) (by rfl)) ?_)
              | (refine toList (by rfl) ?_; refine bsF hS _ _ _ (by rfl) (elOf (by rfl)) [.agg #[sv n, .int .i64 j]] (by rfl) (by rfl) (by decide) (by decide) (by intro v hv; rw [List.mem_singleton.1 hv]; rfl) ?_; intro b1 w1 hS1; clear hS; have hS := (show Sat W w1 (Cs b1 _ (ev2 ⟨n, j⟩) :: Er v1 (l.take k) :: _) from hS1); clear hS1)
              | (refine toList (by rfl) ?_; refine apTb (f := ev2) (xs := l.take k) hS _ _ _ _ (by rfl) _ _ (by rfl) (by rfl) (elOf (by rfl)) (by rfl) (by decide) (inOf (by rfl)) (Has.s Has.z) [⟨n, j⟩] (ev2_len _) (by exact .inl (hS.csRd0 (n := 1) Has.z (by decide) rfl)) (ev2_one _) (by have := HTL.out; simp only [List.length_cons, List.length_nil]; omega) (by have := HTL.out; simp only [List.length_cons, List.length_nil]; omega) ?_; intro v2 w1 hS1; clear hS; have hS := hS1; clear hS1; dsimp only [List.set_cons_zero, List.set_cons_succ] at hS; replace hS := hS.drop)
              | (refine toList (by rfl) ?_; refine wp_of_reads (rCutL (lo := k) (by rfl) (by rfl) (by rfl) (by rfl) HKL.out HNC.out (elOf (by rfl)) _) ?_)
              | (refine toList (by rfl) ?_; refine apTb (f := ev2) (xs := l.take k ++ [⟨n, j⟩]) hS _ _ _ _ (by rfl) _ _ (by rfl) (by rfl) (elOf (by rfl)) (by rfl) (by decide) (inOf (by rfl)) Has.z (l.drop k) (ev2_len _) (by exact .inl (by rw [List.length_drop, ← fm_drop l k (ev2_len l)]; exact (HR.out _ hS.drop.drop).cutL k HKL.out)) (ev2_one _) (by have := HTL.out; simp only [List.length_append, List.length_cons, List.length_nil, List.length_drop]; omega) (by have := HTL.out; simp only [List.length_append, List.length_cons, List.length_nil, List.length_drop]; omega) ?_; intro v3 w1 hS1; clear hS; have hS := hS1; clear hS1; dsimp only [List.set_cons_zero] at hS))
            go_ret2
            rw [HV.out k HAT.out] at hS
            exact ⟨_, rfl, hS.pull1.drop⟩
          · obtain ⟨m, hm⟩ : ∃ m, k = m + 1 := ⟨k - 1, by omega⟩
            have hsub : (k : Int) - 1 = (m : Int) := by omega
            have g1 : decide ((0 : Int) < (k : Int)) = true := decide_eq_true (by omega)
            have g2 : decide (0 < k) = true := decide_eq_true (by omega)
            have g3 : (0 : Int) < (k : Int) := by omega
            have k3 : (m : Int) < (l.length : Int) := by omega
            have k4 : m < l.length := by omega
            have k5 : (k : Int) ≤ 1000 := by omega
            obtain ⟨b, off, rfl, _⟩ := H5.out (by omega)
            obtain ⟨⟨en, ei⟩, hx⟩ : ∃ e, l[m]? = some e := ⟨_, List.getElem?_eq_getElem k4⟩
            have HX := Lib.hid hx
            cases hq : less n en with
            | true =>
              have HN := Lib.hid (show atE l n ≤ m ∧ m < k from ⟨atE_step HS.out (by omega) hx hq, by omega⟩)
              clear h0 hat hk hx hm k4
              go_wp2
              refine regStart [] hS (by kernel_rfl) rfl ?_
              intro w1 hS1
              clear hS; have hS := hS1; clear hS1
              (refine regP 0 hS (fun _ h => h) rfl (by kernel_rfl) (by kernel_rfl) (by kernel_rfl) (fun _ _ _ _ h => h) (by rfl) (by rfl) ?_; apply Exists.intro; apply And.intro; (intro w; go_simp; try with_reducible rfl); go_frame)
              (refine regP 1 hS (fun _ h => h) rfl (by kernel_rfl) (by kernel_rfl) (by kernel_rfl) (fun _ _ _ _ h => h) (by rfl) (by rfl) ?_; apply Exists.intro; apply And.intro; (intro w; go_simp; try with_reducible rfl); go_frame)
              (refine regP 2 hS (fun _ h => h) rfl (by kernel_rfl) (by kernel_rfl) (by kernel_rfl) (fun _ _ _ _ h => h) (by rfl) (by rfl) ?_; apply Exists.intro; apply And.intro; (intro w; go_simp; try with_reducible rfl); go_frame)
              (first | (refine regP 3 hS (fun _ h => h) rfl (by kernel_rfl) (by kernel_rfl) (by kernel_rfl) (fun _ _ _ _ h => h) (by rfl) (by rfl) ?_; apply Exists.intro; apply And.intro; (intro w; go_simp; try with_reducible rfl); go_frame) | (refine regN 3 hS (fun _ h => h) rfl (by kernel_rfl) (by kernel_rfl) (by kernel_rfl) (fun _ _ _ h => h) (by rfl) (by rfl) ?_; go_frame))
              (first | (refine regR 4 hS (fun _ h => h) rfl (by kernel_rfl) (by kernel_rfl) (by kernel_rfl) (by kernel_rfl) (by kernel_rfl) (fun _ _ _ _ h => h) (by rfl) (by rfl) ?_; (first
                                            | refine ⟨_, yLd _ _ (by rfl) _ _ (by rfl) (agOf (by rfl)) (by first | exact Has.z | exact Has.s Has.z | exact Has.s (Has.s Has.z) | exact Has.s (Has.s (Has.s Has.z)) | exact Has.s (Has.s (Has.s (Has.s Has.z))) | exact Has.s (Has.s (Has.s (Has.s (Has.s Has.z))))) (by rfl), ?_⟩
                                            | refine ⟨.string ⟨en.toArray⟩, fun u hu => rLdRd (f := ev2) (x := ⟨en, ei⟩) (HR.out _ hu.drop) (ev2_len l) _ _ (by rfl) _ (by rfl) (agOf (by rfl)) m 0 (by omega) HX.out (by rfl) (by omega), ?_⟩); go_frame) | (refine regN 4 hS (fun _ h => h) rfl (by kernel_rfl) (by kernel_rfl) (by kernel_rfl) (fun _ _ _ h => h) (by rfl) (by rfl) ?_; go_frame))
              (first | (refine regP 5 hS (fun _ h => h) rfl (by kernel_rfl) (by kernel_rfl) (by kernel_rfl) (fun _ _ _ _ h => h) (by rfl) (by rfl) ?_; apply Exists.intro; apply And.intro; (intro w; go_simp; try with_reducible rfl); go_frame) | (refine regN 5 hS (fun _ h => h) rfl (by kernel_rfl) (by kernel_rfl) (by kernel_rfl) (fun _ _ _ h => h) (by rfl) (by rfl) ?_; go_frame))
              (first | (refine regP 6 hS (fun _ h => h) rfl (by kernel_rfl) (by kernel_rfl) (by kernel_rfl) (fun _ _ _ _ h => h) (by rfl) (by rfl) ?_; apply Exists.intro; apply And.intro; (intro w; go_simp; try with_reducible rfl); go_frame) | (refine regN 6 hS (fun _ h => h) rfl (by kernel_rfl) (by kernel_rfl) (by kernel_rfl) (fun _ _ _ h => h) (by rfl) (by rfl) ?_; go_frame))
              (first | (refine regP 7 hS (fun _ h => h) rfl (by kernel_rfl) (by kernel_rfl) (by kernel_rfl) (fun _ _ _ _ h => h) (by rfl) (by rfl) ?_; apply Exists.intro; apply And.intro; (intro w; go_simp; try with_reducible rfl); go_frame; try simp (disch := omega) only [IntWalk.i64_in]) | (refine regN 7 hS (fun _ h => h) rfl (by kernel_rfl) (by kernel_rfl) (by kernel_rfl) (fun _ _ _ h => h) (by rfl) (by rfl) ?_; go_frame))
              (first | (refine regP 8 hS (fun _ h => h) rfl (by kernel_rfl) (by kernel_rfl) (by kernel_rfl) (fun _ _ _ _ h => h) (by rfl) (by rfl) ?_; apply Exists.intro; apply And.intro; (intro w; go_simp; try with_reducible rfl); go_frame) | (refine regN 8 hS (fun _ h => h) rfl (by kernel_rfl) (by kernel_rfl) (by kernel_rfl) (fun _ _ _ h => h) (by rfl) (by rfl) ?_; go_frame))
              (first | (refine regP 9 hS (fun _ h => h) rfl (by kernel_rfl) (by kernel_rfl) (by kernel_rfl) (fun _ _ _ _ h => h) (by rfl) (by rfl) ?_; apply Exists.intro; apply And.intro; (intro w; go_simp; try with_reducible rfl); go_frame) | (refine regN 9 hS (fun _ h => h) rfl (by kernel_rfl) (by kernel_rfl) (by kernel_rfl) (fun _ _ _ h => h) (by rfl) (by rfl) ?_; go_frame))
              (first | (refine regR 10 hS (fun _ h => h) rfl (by kernel_rfl) (by kernel_rfl) (by kernel_rfl) (by kernel_rfl) (by kernel_rfl) (fun _ _ _ _ h => h) (by rfl) (by rfl) ?_; (first
                                            | refine ⟨_, yLd _ _ (by rfl) _ _ (by rfl) (agOf (by rfl)) (by first | exact Has.z | exact Has.s Has.z | exact Has.s (Has.s Has.z) | exact Has.s (Has.s (Has.s Has.z)) | exact Has.s (Has.s (Has.s (Has.s Has.z))) | exact Has.s (Has.s (Has.s (Has.s (Has.s Has.z))))) (by rfl), ?_⟩
                                            | refine ⟨.string ⟨en.toArray⟩, fun u hu => rLdRd (f := ev2) (x := ⟨en, ei⟩) (HR.out _ hu.drop) (ev2_len l) _ _ (by rfl) _ (by rfl) (agOf (by rfl)) m 0 (by omega) HX.out (by rfl) (by omega), ?_⟩); go_frame) | (refine regN 10 hS (fun _ h => h) rfl (by kernel_rfl) (by kernel_rfl) (by kernel_rfl) (fun _ _ _ h => h) (by rfl) (by rfl) ?_; go_frame))
              (first | (refine regP 11 hS (fun _ h => h) rfl (by kernel_rfl) (by kernel_rfl) (by kernel_rfl) (fun _ _ _ _ h => h) (by rfl) (by rfl) ?_; apply Exists.intro; apply And.intro; (intro w; go_simp; try with_reducible rfl); go_frame) | (refine regN 11 hS (fun _ h => h) rfl (by kernel_rfl) (by kernel_rfl) (by kernel_rfl) (fun _ _ _ h => h) (by rfl) (by rfl) ?_; go_frame))
              (refine regP 12 hS (fun _ h => h) rfl (by kernel_rfl) (by kernel_rfl) (by kernel_rfl) (fun _ _ _ _ h => h) (by rfl) (by rfl) ?_; apply Exists.intro; apply And.intro; (intro w; go_simp; try with_reducible rfl); go_frame)
              refine regDone (by kernel_rfl) ?_
              go_wp2
              exact ⟨⟨m, by simp, by have := HN.out; omega, HN.out.1, hS⟩, by simp [intOf]; have := HN.out; omega⟩
            | false =>
              have HAT := Lib.hid (show atE l n = k by rw [hm]; exact atE_stop HS.out (by omega) hx HBH.out hq)
              clear h0 hat hk hx hm k4
              go_wp2
              refine regStart [] hS (by kernel_rfl) rfl ?_
              intro w1 hS1
              clear hS; have hS := hS1; clear hS1
              (refine regP 0 hS (fun _ h => h) rfl (by kernel_rfl) (by kernel_rfl) (by kernel_rfl) (fun _ _ _ _ h => h) (by rfl) (by rfl) ?_; apply Exists.intro; apply And.intro; (intro w; go_simp; try with_reducible rfl); go_frame)
              (refine regP 1 hS (fun _ h => h) rfl (by kernel_rfl) (by kernel_rfl) (by kernel_rfl) (fun _ _ _ _ h => h) (by rfl) (by rfl) ?_; apply Exists.intro; apply And.intro; (intro w; go_simp; try with_reducible rfl); go_frame)
              (refine regP 2 hS (fun _ h => h) rfl (by kernel_rfl) (by kernel_rfl) (by kernel_rfl) (fun _ _ _ _ h => h) (by rfl) (by rfl) ?_; apply Exists.intro; apply And.intro; (intro w; go_simp; try with_reducible rfl); go_frame)
              (first | (refine regP 3 hS (fun _ h => h) rfl (by kernel_rfl) (by kernel_rfl) (by kernel_rfl) (fun _ _ _ _ h => h) (by rfl) (by rfl) ?_; apply Exists.intro; apply And.intro; (intro w; go_simp; try with_reducible rfl); go_frame) | (refine regN 3 hS (fun _ h => h) rfl (by kernel_rfl) (by kernel_rfl) (by kernel_rfl) (fun _ _ _ h => h) (by rfl) (by rfl) ?_; go_frame))
              (first | (refine regR 4 hS (fun _ h => h) rfl (by kernel_rfl) (by kernel_rfl) (by kernel_rfl) (by kernel_rfl) (by kernel_rfl) (fun _ _ _ _ h => h) (by rfl) (by rfl) ?_; (first
                                            | refine ⟨_, yLd _ _ (by rfl) _ _ (by rfl) (agOf (by rfl)) (by first | exact Has.z | exact Has.s Has.z | exact Has.s (Has.s Has.z) | exact Has.s (Has.s (Has.s Has.z)) | exact Has.s (Has.s (Has.s (Has.s Has.z))) | exact Has.s (Has.s (Has.s (Has.s (Has.s Has.z))))) (by rfl), ?_⟩
                                            | refine ⟨.string ⟨en.toArray⟩, fun u hu => rLdRd (f := ev2) (x := ⟨en, ei⟩) (HR.out _ hu.drop) (ev2_len l) _ _ (by rfl) _ (by rfl) (agOf (by rfl)) m 0 (by omega) HX.out (by rfl) (by omega), ?_⟩); go_frame) | (refine regN 4 hS (fun _ h => h) rfl (by kernel_rfl) (by kernel_rfl) (by kernel_rfl) (fun _ _ _ h => h) (by rfl) (by rfl) ?_; go_frame))
              (first | (refine regP 5 hS (fun _ h => h) rfl (by kernel_rfl) (by kernel_rfl) (by kernel_rfl) (fun _ _ _ _ h => h) (by rfl) (by rfl) ?_; apply Exists.intro; apply And.intro; (intro w; go_simp; try with_reducible rfl); go_frame) | (refine regN 5 hS (fun _ h => h) rfl (by kernel_rfl) (by kernel_rfl) (by kernel_rfl) (fun _ _ _ h => h) (by rfl) (by rfl) ?_; go_frame))
              (first | (refine regP 6 hS (fun _ h => h) rfl (by kernel_rfl) (by kernel_rfl) (by kernel_rfl) (fun _ _ _ _ h => h) (by rfl) (by rfl) ?_; apply Exists.intro; apply And.intro; (intro w; go_simp; try with_reducible rfl); go_frame) | (refine regN 6 hS (fun _ h => h) rfl (by kernel_rfl) (by kernel_rfl) (by kernel_rfl) (fun _ _ _ h => h) (by rfl) (by rfl) ?_; go_frame))
              (first | (refine regP 7 hS (fun _ h => h) rfl (by kernel_rfl) (by kernel_rfl) (by kernel_rfl) (fun _ _ _ _ h => h) (by rfl) (by rfl) ?_; apply Exists.intro; apply And.intro; (intro w; go_simp; try with_reducible rfl); go_frame; try simp (disch := omega) only [IntWalk.i64_in]) | (refine regN 7 hS (fun _ h => h) rfl (by kernel_rfl) (by kernel_rfl) (by kernel_rfl) (fun _ _ _ h => h) (by rfl) (by rfl) ?_; go_frame))
              (first | (refine regP 8 hS (fun _ h => h) rfl (by kernel_rfl) (by kernel_rfl) (by kernel_rfl) (fun _ _ _ _ h => h) (by rfl) (by rfl) ?_; apply Exists.intro; apply And.intro; (intro w; go_simp; try with_reducible rfl); go_frame) | (refine regN 8 hS (fun _ h => h) rfl (by kernel_rfl) (by kernel_rfl) (by kernel_rfl) (fun _ _ _ h => h) (by rfl) (by rfl) ?_; go_frame))
              (first | (refine regP 9 hS (fun _ h => h) rfl (by kernel_rfl) (by kernel_rfl) (by kernel_rfl) (fun _ _ _ _ h => h) (by rfl) (by rfl) ?_; apply Exists.intro; apply And.intro; (intro w; go_simp; try with_reducible rfl); go_frame) | (refine regN 9 hS (fun _ h => h) rfl (by kernel_rfl) (by kernel_rfl) (by kernel_rfl) (fun _ _ _ h => h) (by rfl) (by rfl) ?_; go_frame))
              (first | (refine regR 10 hS (fun _ h => h) rfl (by kernel_rfl) (by kernel_rfl) (by kernel_rfl) (by kernel_rfl) (by kernel_rfl) (fun _ _ _ _ h => h) (by rfl) (by rfl) ?_; (first
                                            | refine ⟨_, yLd _ _ (by rfl) _ _ (by rfl) (agOf (by rfl)) (by first | exact Has.z | exact Has.s Has.z | exact Has.s (Has.s Has.z) | exact Has.s (Has.s (Has.s Has.z)) | exact Has.s (Has.s (Has.s (Has.s Has.z))) | exact Has.s (Has.s (Has.s (Has.s (Has.s Has.z))))) (by rfl), ?_⟩
                                            | refine ⟨.string ⟨en.toArray⟩, fun u hu => rLdRd (f := ev2) (x := ⟨en, ei⟩) (HR.out _ hu.drop) (ev2_len l) _ _ (by rfl) _ (by rfl) (agOf (by rfl)) m 0 (by omega) HX.out (by rfl) (by omega), ?_⟩); go_frame) | (refine regN 10 hS (fun _ h => h) rfl (by kernel_rfl) (by kernel_rfl) (by kernel_rfl) (fun _ _ _ h => h) (by rfl) (by rfl) ?_; go_frame))
              (first | (refine regP 11 hS (fun _ h => h) rfl (by kernel_rfl) (by kernel_rfl) (by kernel_rfl) (fun _ _ _ _ h => h) (by rfl) (by rfl) ?_; apply Exists.intro; apply And.intro; (intro w; go_simp; try with_reducible rfl); go_frame) | (refine regN 11 hS (fun _ h => h) rfl (by kernel_rfl) (by kernel_rfl) (by kernel_rfl) (fun _ _ _ h => h) (by rfl) (by rfl) ?_; go_frame))
              (refine regP 12 hS (fun _ h => h) rfl (by kernel_rfl) (by kernel_rfl) (by kernel_rfl) (fun _ _ _ _ h => h) (by rfl) (by rfl) ?_; apply Exists.intro; apply And.intro; (intro w; go_simp; try with_reducible rfl); go_frame)
              refine regDone (by kernel_rfl) ?_
              go_wp2_with (first
                | (refine toList (by rfl) ?_; refine apTb (f := ev2) (xs := []) (hS.tbNil (E := 59) (sz := 2)) _ _ _ _ (by rfl) _ _ (by rfl) (by rfl) (elOf (by rfl)) (by rfl) (by decide) (inOf (by rfl)) Has.z (l.take k) (ev2_len _) (by exact .inl (by rw [HTL.out]; exact erd_take (HR.out _ hS.drop) k HKL.out)) (ev2_one _) (by simp; omega) (by simp; omega) ?_; intro v1 w1 hS1; clear hS; have hS := hS1; clear hS1; dsimp only [List.set_cons_zero, List.nil_append] at hS)
                | (refine toList (by rfl) ?_; refine wp_of_reads (rLdA hS _ _ (by rfl) _ _ (by rfl) (agOf (by rfl)) (szOf (by rfl)) (Has.s Has.z) (vs := [sv n, .int .i64 j]) (by rfl) (by rfl)) ?_)
                | (refine toList (by rfl) ?_; refine bsF hS _ _ _ (by rfl) (elOf (by rfl)) [.agg #[sv n, .int .i64 j]] (by rfl) (by rfl) (by decide) (by decide) (by intro v hv; rw [List.mem_singleton.1 hv]; rfl) ?_; intro b1 w1 hS1; clear hS; have hS := (show Sat W w1 (Cs b1 _ (ev2 ⟨n, j⟩) :: Er v1 (l.take k) :: _) from hS1); clear hS1)
                | (refine toList (by rfl) ?_; refine apTb (f := ev2) (xs := l.take k) hS _ _ _ _ (by rfl) _ _ (by rfl) (by rfl) (elOf (by rfl)) (by rfl) (by decide) (inOf (by rfl)) (Has.s Has.z) [⟨n, j⟩] (ev2_len _) (by exact .inl (hS.csRd0 (n := 1) Has.z (by decide) rfl)) (ev2_one _) (by have := HTL.out; simp only [List.length_cons, List.length_nil]; omega) (by have := HTL.out; simp only [List.length_cons, List.length_nil]; omega) ?_; intro v2 w1 hS1; clear hS; have hS := hS1; clear hS1; dsimp only [List.set_cons_zero, List.set_cons_succ] at hS; replace hS := hS.drop)
                | (refine toList (by rfl) ?_; refine wp_of_reads (rCutL (lo := k) (by rfl) (by rfl) (by rfl) (by rfl) HKL.out HNC.out (elOf (by rfl)) _) ?_)
                | (refine toList (by rfl) ?_; refine apTb (f := ev2) (xs := l.take k ++ [⟨n, j⟩]) hS _ _ _ _ (by rfl) _ _ (by rfl) (by rfl) (elOf (by rfl)) (by rfl) (by decide) (inOf (by rfl)) Has.z (l.drop k) (ev2_len _) (by exact .inl (by rw [List.length_drop, ← fm_drop l k (ev2_len l)]; exact (HR.out _ hS.drop.drop).cutL k HKL.out)) (ev2_one _) (by have := HTL.out; simp only [List.length_append, List.length_cons, List.length_nil, List.length_drop]; omega) (by have := HTL.out; simp only [List.length_append, List.length_cons, List.length_nil, List.length_drop]; omega) ?_; intro v3 w1 hS1; clear hS; have hS := hS1; clear hS1; dsimp only [List.set_cons_zero] at hS))
              go_ret2
              rw [HV.out k HAT.out] at hS
              exact ⟨_, rfl, hS.pull1.drop⟩
    · rw [if_pos rfl]
      refine Calls.mono (R := fun r w' => r = .returned (.tuple #[.slice none 0 0, .int .i64 6]) ∧ Sat W w' (Er (.slice none 0 0) [] :: L)) ?_ (fun r w' ⟨h1, h2⟩ => ⟨_, h1, by rw [if_neg (by decide)]; exact h2⟩)
      go_enter Try.func66, Try.ntmps66
      go_wp2_with (first
        | (refine toList (by rfl) ?_; refine bx hS _ _ (by rfl) _ (by first | exact evC | exact evT (by rfl)) ?_; intro px w1 hS1; clear hS; have hS := hS1; clear hS1; rw [cells_agg] at hS)
        | (refine toList (by rfl) ?_; refine ld hS _ _ (by rfl) _ _ (by rfl) (agOf (by rfl)) Has.z (by rfl) ?_)
        | (refine toList (by rfl) ?_; refine wp_of_reads (rLdA hS _ _ (by rfl) _ _ (by rfl) (agOf (by rfl)) (szOf (by rfl)) Has.z (vs := [sv n, .int .i64 j]) (by rfl) (by rfl)) ?_)
        | (go_at_call 72; refine (HM.out _ _ hS).mono ?_; rintro r w1 ⟨rfl, hS1⟩; clear hS; have hS := hS1; clear hS1)
        | (go_at_call 65; refine (HF.out _ _ hS (fun w h => HR.out w h.drop)).mono ?_; rintro r w1 ⟨rfl, hS1⟩; clear hS; have hS := hS1; clear hS1))
      go_ret2
      exact ⟨rfl, hS.drop.tbNil⟩
theorem findE_at {l : List EntD} {n : List UInt8} {i : Nat} {e : EntD} (hno : (l.take i).any (fun e => decide (e.nm = n)) = false) (hx : l[i]? = some e) (hn : e.nm = n) (hs : SrtE l) : l.take i ++ l.drop (i + 1) = remE l n := by
  rw [← hn]; exact hs.cut hx
set_option maxRecDepth 20000 in
set_option maxHeartbeats 1000000 in
theorem rremove_any {W w : World} {L : List Asrt} (hS : Sat W w L) (l : List EntD) (ao : Option Addr) (c : Nat) (n : List UInt8) (hr : ∀ w, Sat W w L → Rd w (.slice ao l.length c) l.length 2 (l.flatMap ev2)) (hl : l.length ≤ 1000) (hs : SrtE l) :
    Calls Try.prog 68 #[.slice ao l.length c, sv n] w fun r w' => ∃ v, r = .returned (.tuple #[v, .int .i64 (if hasE l n = true then 0 else 3)]) ∧ Sat W w' (Er v (remV l n) :: L) := by
  have HR := Lib.hid hr
  obtain ⟨_, _, he, hc1, hc2, _, h5⟩ := hr w hS
  simp only [Value.slice.injEq, true_and] at he
  obtain ⟨rfl, rfl⟩ := he
  have H5 := Lib.hid h5
  have HSS := Lib.hid hs
  have hli : (l.length : Int) ≤ 1000 := by omega
  have H0 := Lib.hid hS
  obtain ⟨rc, hrc⟩ : ∃ z : Int, (if hasE l n = true then 0 else 3) = z := ⟨_, rfl⟩
  obtain ⟨rl, hrl⟩ : ∃ z, remV l n = z := ⟨_, rfl⟩
  rw [hrc, hrl]
  have HRC := Lib.hid (fun b (hb : hasE l n = b) => show rc = (if b = true then 0 else 3) ∧ rl = (if b = true then remE l n else []) by rw [← hrc, ← hrl, ← hb]; exact ⟨rfl, rfl⟩)
  clear hr h5 hS hs hrc hrl
  unfold sv
  go_enter Try.func68, Try.ntmps68
  go_wp2
  go_loopw [6] (fun v wz => ∃ i : Nat, v = .int .i64 i ∧ i ≤ l.length ∧ (l.take i).any (fun e => decide (e.nm = n)) = false ∧ Sat W wz L) (fun v _ => l.length - (intOf v).toNat)
  case atStart => exact ⟨0, rfl, by omega, rfl, H0.out⟩
  case round =>
    clear H0
    obtain ⟨k, rfl, hi, hno, hS⟩ := hrel
    have HNO := Lib.hid hno
    clear hno
    by_cases hlt : k < l.length
    · have k1 : (k : Int) < (l.length : Int) := by omega
      have HLT := Lib.hid hlt
      have HNC := Lib.hid hc1
      have q2 : (k : Int) ≤ (c : Int) := by omega
      have q3 : (k : Int) + 1 ≤ (c : Int) := by omega
      have q4 : (k : Int) + 1 ≤ (l.length : Int) := by omega
      obtain ⟨b, off, rfl, _⟩ := H5.out (by omega)
      obtain ⟨⟨en, ei⟩, hx⟩ : ∃ e, l[k]? = some e := ⟨_, List.getElem?_eq_getElem hlt⟩
      have HX := Lib.hid hx
      clear hx hlt hi
      by_cases hq : en = n
      · have HF := Lib.hid (findE_yes HNO.out HX.out hq)
        have HC := Lib.hid (findE_at HNO.out HX.out hq HSS.out)
        have HTL := Lib.hid (show (l.take k).length = k by rw [List.length_take]; have := HLT.out; omega)
        have e1 : (en == n) = true := beq_iff_eq.2 hq
        clear hq
        go_wp2_with (refine toList (by rfl) ?_; refine wp_of_reads (rLdRd (f := ev2) (x := ⟨en, ei⟩) (u := .string ⟨en.toArray⟩) (HR.out _ hS) (ev2_len l) _ _ (by rfl) _ (by rfl) (agOf (by rfl)) k 0 (by omega) HX.out (by rfl) (by omega)) ?_)
        replace hS := hS.tbNil (f := ev2) (E := 59) (sz := 2)
        refine regStart [3, 8] hS (by kernel_rfl) rfl ?_
        intro w1 hS1
        clear hS; have hS := hS1; clear hS1
        (refine regP 0 hS (fun _ h => h) rfl (by kernel_rfl) (by kernel_rfl) (by kernel_rfl) (fun _ _ _ _ h => h) (by rfl) (by rfl) ?_; apply Exists.intro; apply And.intro; (intro w; go_simp; try with_reducible rfl); go_frame)
        (refine regP 1 hS (fun _ h => h) rfl (by kernel_rfl) (by kernel_rfl) (by kernel_rfl) (fun _ _ _ _ h => h) (by rfl) (by rfl) ?_; apply Exists.intro; apply And.intro; (intro w; go_simp; try with_reducible rfl); go_frame)
        (refine regP 2 hS (fun _ h => h) rfl (by kernel_rfl) (by kernel_rfl) (by kernel_rfl) (fun _ _ _ _ h => h) (by rfl) (by rfl) ?_; apply Exists.intro; apply And.intro; (intro w; first | first
                          | exact rCutH (hi := k) (by rfl) (by rfl) (by rfl) (by rfl) (by have := HLT.out; omega) (elOf (by rfl)) w
                          | exact rCutL (lo := k + 1) (by rfl) (by rfl) (by rfl) (by first | omega | (rw [IntWalk.i64_in _ (by omega)]; omega)) HLT.out HNC.out (elOf (by rfl)) w | (go_simp; try with_reducible rfl)); go_frame)
        (refine regP 4 hS (fun _ h => h) rfl (by kernel_rfl) (by kernel_rfl) (by kernel_rfl) (fun _ _ _ _ h => h) (by rfl) (by rfl) ?_; apply Exists.intro; apply And.intro; (intro w; go_simp; try with_reducible rfl); go_frame)
        (refine regP 5 hS (fun _ h => h) rfl (by kernel_rfl) (by kernel_rfl) (by kernel_rfl) (fun _ _ _ _ h => h) (by rfl) (by rfl) ?_; apply Exists.intro; apply And.intro; (intro w; go_simp; try with_reducible rfl); go_frame)
        (refine regP 6 hS (fun _ h => h) rfl (by kernel_rfl) (by kernel_rfl) (by kernel_rfl) (fun _ _ _ _ h => h) (by rfl) (by rfl) ?_; apply Exists.intro; apply And.intro; (intro w; go_simp; try with_reducible rfl); go_frame; try simp (disch := omega) only [IntWalk.i64_in])
        (refine regP 7 hS (fun _ h => h) rfl (by kernel_rfl) (by kernel_rfl) (by kernel_rfl) (fun _ _ _ _ h => h) (by rfl) (by rfl) ?_; apply Exists.intro; apply And.intro; (intro w; first | first
                          | exact rCutH (hi := k) (by rfl) (by rfl) (by rfl) (by rfl) (by have := HLT.out; omega) (elOf (by rfl)) w
                          | exact rCutL (lo := k + 1) (by rfl) (by rfl) (by rfl) (by first | omega | (rw [IntWalk.i64_in _ (by omega)]; omega)) HLT.out HNC.out (elOf (by rfl)) w | (go_simp; try with_reducible rfl)); go_frame)
        (refine regA 3 rfl (by kernel_rfl) (by rfl) (by rfl) true (by kernel_rfl) (fun K hK => ?_); (first
                          | (refine apTb (f := ev2) (xs := []) hS _ _ _ _ (by rfl) _ _ (by rfl) (by rfl) (elOf (by rfl)) (by rfl) (by decide) (inOf (by rfl)) Has.z (l.take k) (ev2_len _) (by exact .inl (by rw [HTL.out, ← fm_take l k (ev2_len l)]; exact (HR.out _ hS.drop).cutH k (Nat.le_of_lt HLT.out))) (ev2_one _) (by simp; omega) (by simp; omega) ?_; intro v1 w1 hS1; clear hS; have hS := hS1; clear hS1; dsimp only [List.set_cons_zero, List.nil_append] at hS)
                          | (refine apTb (f := ev2) (xs := l.take k) hS _ _ _ _ (by rfl) _ _ (by rfl) (by rfl) (elOf (by rfl)) (by rfl) (by decide) (inOf (by rfl)) Has.z (l.drop (k + 1)) (ev2_len _) (by exact .inl (by rw [List.length_drop, ← fm_drop l (k + 1) (ev2_len l)]; exact (HR.out _ hS.drop).cutL (k + 1) HLT.out)) (ev2_one _) (by have := HTL.out; simp only [List.length_append, List.length_cons, List.length_nil, List.length_drop]; omega) (by have := HTL.out; simp only [List.length_append, List.length_cons, List.length_nil, List.length_drop]; omega) ?_; intro v3 w1 hS1; clear hS; have hS := hS1; clear hS1; dsimp only [List.set_cons_zero] at hS)); refine hK _ _ _ hS (by first | (intro h; cases h; done) | exact fun _ _ h => h | exact fun _ _ h => h.drop | exact fun _ _ h => h.drop.drop | exact fun _ _ h => h.drop.pull1 | exact fun _ _ h => h.take2 | exact fun _ _ h => h.one Has.z | exact fun _ _ h => h.one (Has.s Has.z) | exact fun _ _ h => h.one (Has.s (Has.s Has.z))) ?_; clear hK K; go_frame)
        (refine regA 8 rfl (by kernel_rfl) (by rfl) (by rfl) true (by kernel_rfl) (fun K hK => ?_); (first
                          | (refine apTb (f := ev2) (xs := []) hS _ _ _ _ (by rfl) _ _ (by rfl) (by rfl) (elOf (by rfl)) (by rfl) (by decide) (inOf (by rfl)) Has.z (l.take k) (ev2_len _) (by exact .inl (by rw [HTL.out, ← fm_take l k (ev2_len l)]; exact (HR.out _ hS.drop).cutH k (Nat.le_of_lt HLT.out))) (ev2_one _) (by simp; omega) (by simp; omega) ?_; intro v1 w1 hS1; clear hS; have hS := hS1; clear hS1; dsimp only [List.set_cons_zero, List.nil_append] at hS)
                          | (refine apTb (f := ev2) (xs := l.take k) hS _ _ _ _ (by rfl) _ _ (by rfl) (by rfl) (elOf (by rfl)) (by rfl) (by decide) (inOf (by rfl)) Has.z (l.drop (k + 1)) (ev2_len _) (by exact .inl (by rw [List.length_drop, ← fm_drop l (k + 1) (ev2_len l)]; exact (HR.out _ hS.drop).cutL (k + 1) HLT.out)) (ev2_one _) (by have := HTL.out; simp only [List.length_append, List.length_cons, List.length_nil, List.length_drop]; omega) (by have := HTL.out; simp only [List.length_append, List.length_cons, List.length_nil, List.length_drop]; omega) ?_; intro v3 w1 hS1; clear hS; have hS := hS1; clear hS1; dsimp only [List.set_cons_zero] at hS)); refine hK _ _ _ hS (by first | (intro h; cases h; done) | exact fun _ _ h => h | exact fun _ _ h => h.drop | exact fun _ _ h => h.drop.drop | exact fun _ _ h => h.drop.pull1 | exact fun _ _ h => h.take2 | exact fun _ _ h => h.one Has.z | exact fun _ _ h => h.one (Has.s Has.z) | exact fun _ _ h => h.one (Has.s (Has.s Has.z))) ?_; clear hK K; go_frame)
        (refine regP 9 hS (fun _ h => h) rfl (by kernel_rfl) (by kernel_rfl) (by kernel_rfl) (fun _ _ _ _ h => h) (by rfl) (by rfl) ?_; apply Exists.intro; apply And.intro; (intro w; go_simp; try with_reducible rfl); go_frame)
        (refine regP 10 hS (fun _ h => h) rfl (by kernel_rfl) (by kernel_rfl) (by kernel_rfl) (fun _ _ _ _ h => h) (by rfl) (by rfl) ?_; apply Exists.intro; apply And.intro; (intro w; go_simp; try with_reducible rfl); go_frame)
        refine regDone (by kernel_rfl) ?_
        go_wp2
        go_ret2
        rw [HC.out] at hS
        obtain ⟨rfl, rfl⟩ := HRC.out _ HF.out.2
        exact ⟨_, rfl, hS⟩
      · have HN2 := Lib.hid (show (l.take (k + 1)).any (fun e => decide (e.nm = n)) = false by
          rw [List.take_add_one, HX.out, List.any_append, HNO.out]; simp [hq])
        have e1 : (en == n) = false := beq_eq_false_iff_ne.2 hq
        clear hq
        go_wp2_with (refine toList (by rfl) ?_; refine wp_of_reads (rLdRd (f := ev2) (x := ⟨en, ei⟩) (u := .string ⟨en.toArray⟩) (HR.out _ hS) (ev2_len l) _ _ (by rfl) _ (by rfl) (agOf (by rfl)) k 0 (by omega) HX.out (by rfl) (by omega)) ?_)
        exact ⟨⟨k + 1, by go_num, HLT.out, HN2.out, hS⟩, by simp [intOf]; have := HLT.out; omega⟩
    · have k1 : ¬ (k : Int) < (l.length : Int) := by omega
      have HF := Lib.hid (findE_no (l := l) (n := n) (by rw [← HNO.out, List.take_of_length_le (by omega)]))
      clear hlt
      go_wp2
      go_ret2
      obtain ⟨rfl, rfl⟩ := HRC.out _ HF.out.2
      exact ⟨_, rfl, hS.tbNil⟩
end Go.Proofs.Ytiieicdhkcikpaa
namespace Go.Proofs.Ytiieicdhkcikpaa
open Go.RowKit Go.Sep
set_option linter.unusedSimpArgs false
set_option linter.unusedVariables false
attribute [local irreducible] Go.Oper.wp Go.wpList Go.Calls Go.Code.wp Go.Sep.Reg
theorem wl_ku {k : Nat → Int} {v : Nat → Value} {vt : Value} {i a : Nat} {z : Int} (hi : i < 48) (ha : a = i) (hu : k i = z) : (wl k v vt)[a]? = some (.int .i64 z) := by rw [wl_k hi ha, hu]
theorem wl_vu {k : Nat → Int} {v : Nat → Value} {vt : Value} {i a : Nat} {u : Value} (hi : i < 48) (ha : a = 48 + i) (hu : v i = u) : (wl k v vt)[a]? = some u := by rw [wl_v hi ha, hu]
set_option maxRecDepth 20000 in
set_option maxHeartbeats 2000000 in
theorem rwalk_any {W w : World} {L : List Asrt} {p : Nat} {T : TrD} (hS : Sat W w (IsW p T :: L)) (hT : T.Ok) (l : List (List UInt8)) (ao : Option Addr) (c : Nat) (hr : ∀ w L', Sat W w (L' ++ L) → Rd w (.slice ao l.length c) l.length 1 (l.flatMap sv1)) (hl : l.length ≤ 1000000) :
    Calls Try.prog 47 #[.pointer (some ⟨p, 0, none⟩), .slice ao l.length c] w fun r w' => r = .returned (.tuple #[.int .i64 (T.walk 0 l).1, .int .i64 (T.walk 0 l).2]) ∧ Sat W w' (IsW p T :: L) := by
  have HT := Lib.hid hT
  obtain ⟨v, vt, hO⟩ := IsW.open hS
  clear hS hT
  have HR := Lib.hid (fun w (h : Sat W w (Cs p 79 (wl T.kind v vt) :: rws v T.dir :: Ir vt T.last :: L)) => hr w [_, _, _] h)
  obtain ⟨_, _, he, hc1, hc2, _, h5⟩ := HR.out _ hO
  simp only [Value.slice.injEq, true_and] at he
  obtain ⟨rfl, rfl⟩ := he
  have H5 := Lib.hid h5
  have hli : (l.length : Int) ≤ 1000000 := by omega
  have H0 := Lib.hid hO
  clear hr h5 hO
  obtain ⟨⟨wi, we⟩, hw⟩ : ∃ x, T.walk 0 l = x := ⟨_, rfl⟩
  have HW := Lib.hid hw
  rw [hw]
  clear hw
  go_enter Try.func47, Try.ntmps47
  go_wp2
  go_loopw [6, 7] (fun v6 v13 wz => ∃ i j : Nat, v6 = .int .i64 i ∧ v13 = .int .i64 j ∧ i < 48 ∧ j ≤ l.length ∧ T.walk i (l.drop j) = (wi, we) ∧ Sat W wz (Cs p 79 (wl T.kind v vt) :: rws v T.dir :: Ir vt T.last :: L)) (fun _ v13 _ => l.length - (intOf v13).toNat)
  case atStart => exact ⟨0, 0, rfl, rfl, by omega, by omega, HW.out, H0.out⟩
  case round =>
    clear H0
    obtain ⟨i, j, rfl, rfl, hi, hj, hwk, hS⟩ := hrel
    by_cases hlt : j < l.length
    · have k1 : (j : Int) < (l.length : Int) := by omega
      have k2 : (i : Int) < 48 := by omega
      have HLT := Lib.hid hlt
      obtain ⟨b, off, rfl, _⟩ := H5.out (by omega)
      obtain ⟨n, hx⟩ : ∃ n, l[j]? = some n := ⟨_, List.getElem?_eq_getElem hlt⟩
      have HX := Lib.hid hx
      have hdr : l.drop j = n :: l.drop (j + 1) := by
        obtain ⟨h1, h2⟩ := List.getElem?_eq_some_iff.1 hx
        rw [List.drop_eq_getElem_cons h1, h2]
      rw [hdr] at hwk
      clear hx hlt hdr
      by_cases hk : T.kind i = 2
      · have e1 : ((T.kind i) != 2) = false := by rw [hk]; rfl
        obtain ⟨ao1, c1, hv, _⟩ := rws_shape hS (k := 1) rfl hi
        have hlen : (T.dir i).length ≤ 1000 := by have := HT.out.len _ (HT.out.dir_mem hi); omega
        have HF := Lib.hid (fun w (h : Sat W w (Cs p 79 (wl T.kind v vt) :: rws v T.dir :: Ir vt T.last :: L)) => rfind_any h (T.dir i) ao1 c1 n (fun w h => by rw [← hv]; exact rws_rd h (k := 1) rfl hi) hlen)
        cases hf : findE (T.dir i) n with
        | none =>
          have HE := Lib.hid (show wi = 0 ∧ we = 3 by
            rw [TrD.walk, if_pos hk, hf] at hwk
            simp only [Prod.mk.injEq] at hwk
            exact ⟨hwk.1.symm, hwk.2.symm⟩)
          have hh : hasE (T.dir i) n = false := by rw [← findE_some, hf]; rfl
          rw [hf, hh] at HF
          clear hwk hf hh
          obtain ⟨kk, hkk⟩ : ∃ kk, T.kind i = kk := ⟨_, rfl⟩
          rw [hkk] at e1
          go_wp2_with (refine toList (by rfl) ?_; refine ld hS _ _ (by rfl) _ _ (by rfl) (agOf (by rfl)) Has.z (wl_ku (z := kk) hi (by omega) hkk) ?_)
          refine regStart [10] hS (by kernel_rfl) rfl ?_
          intro w1 hS1
          clear hS; have hS := hS1; clear hS1
          (refine regP 0 hS (fun _ h => h) rfl (by kernel_rfl) (by kernel_rfl) (by kernel_rfl) (fun _ _ _ _ h => h) (by rfl) (by rfl) ?_; apply Exists.intro; apply And.intro; (intro w; go_simp; try with_reducible rfl); go_frame)
          (refine regP 1 hS (fun _ h => h) rfl (by kernel_rfl) (by kernel_rfl) (by kernel_rfl) (fun _ _ _ _ h => h) (by rfl) (by rfl) ?_; apply Exists.intro; apply And.intro; (intro w; go_simp; try with_reducible rfl); go_frame)
          (refine regP 2 hS (fun _ h => h) rfl (by kernel_rfl) (by kernel_rfl) (by kernel_rfl) (fun _ _ _ _ h => h) (by rfl) (by rfl) ?_; apply Exists.intro; apply And.intro; (intro w; go_simp; try with_reducible rfl); go_frame)
          (refine regP 3 hS (fun _ h => h) rfl (by kernel_rfl) (by kernel_rfl) (by kernel_rfl) (fun _ _ _ _ h => h) (by rfl) (by rfl) ?_; apply Exists.intro; apply And.intro; (intro w; go_simp; try with_reducible rfl); go_frame)
          (refine regP 4 hS (fun _ h => h) rfl (by kernel_rfl) (by kernel_rfl) (by kernel_rfl) (fun _ _ _ _ h => h) (by rfl) (by rfl) ?_; apply Exists.intro; apply And.intro; (intro w; go_simp; try with_reducible rfl); go_frame)
          (refine regR 5 hS (fun _ h => h) rfl (by kernel_rfl) (by kernel_rfl) (by kernel_rfl) (by kernel_rfl) (by kernel_rfl) (fun _ _ _ _ h => h) (by rfl) (by rfl) ?_; (first
                                | refine ⟨.slice ao1 (T.dir i).length c1, yLd _ _ (by rfl) _ _ (by rfl) (agOf (by rfl)) Has.z (wl_vu (u := .slice ao1 (T.dir i).length c1) hi (by omega) hv), ?_⟩
                                | refine ⟨.string ⟨n.toArray⟩, fun u hu => rLdRd (f := sv1) (x := n) (HR.out _ hu) (sv1_len l) _ _ (by rfl) _ (by rfl) (agOf (by rfl)) j 0 (by omega) HX.out (by rfl) (by omega), ?_⟩); go_frame)
          (refine regP 6 hS (fun _ h => h) rfl (by kernel_rfl) (by kernel_rfl) (by kernel_rfl) (fun _ _ _ _ h => h) (by rfl) (by rfl) ?_; apply Exists.intro; apply And.intro; (intro w; go_simp; try with_reducible rfl); go_frame)
          (refine regP 7 hS (fun _ h => h) rfl (by kernel_rfl) (by kernel_rfl) (by kernel_rfl) (fun _ _ _ _ h => h) (by rfl) (by rfl) ?_; apply Exists.intro; apply And.intro; (intro w; go_simp; try with_reducible rfl); go_frame)
          (refine regP 8 hS (fun _ h => h) rfl (by kernel_rfl) (by kernel_rfl) (by kernel_rfl) (fun _ _ _ _ h => h) (by rfl) (by rfl) ?_; apply Exists.intro; apply And.intro; (intro w; go_simp; try with_reducible rfl); go_frame)
          (refine regR 9 hS (fun _ h => h) rfl (by kernel_rfl) (by kernel_rfl) (by kernel_rfl) (by kernel_rfl) (by kernel_rfl) (fun _ _ _ _ h => h) (by rfl) (by rfl) ?_; (first
                                | refine ⟨.slice ao1 (T.dir i).length c1, yLd _ _ (by rfl) _ _ (by rfl) (agOf (by rfl)) Has.z (wl_vu (u := .slice ao1 (T.dir i).length c1) hi (by omega) hv), ?_⟩
                                | refine ⟨.string ⟨n.toArray⟩, fun u hu => rLdRd (f := sv1) (x := n) (HR.out _ hu) (sv1_len l) _ _ (by rfl) _ (by rfl) (agOf (by rfl)) j 0 (by omega) HX.out (by rfl) (by omega), ?_⟩); go_frame)
          (refine regA 10 rfl (by kernel_rfl) (by rfl) (by rfl) true (by kernel_rfl) (fun K hK => ?_); ((refine Go.Sep.cl 65 _ _ (by rfl) (by rfl) (by kernel_rfl) (HF.out _ hS) ?_; rintro e w1 ⟨rfl, hS1⟩; clear hS; have hS := hS1; clear hS1; refine ⟨_, rfl, ?_⟩)); refine hK _ _ _ hS (by first | (intro h; cases h; done) | exact fun _ _ h => h | exact fun _ _ h => h.drop | exact fun _ _ h => h.drop.drop | exact fun _ _ h => h.drop.pull1 | exact fun _ _ h => h.take2 | exact fun _ _ h => h.one Has.z | exact fun _ _ h => h.one (Has.s Has.z) | exact fun _ _ h => h.one (Has.s (Has.s Has.z))) ?_; clear hK K; go_frame)
          (refine regP 11 hS (fun _ h => h) rfl (by kernel_rfl) (by kernel_rfl) (by kernel_rfl) (fun _ _ _ _ h => h) (by rfl) (by rfl) ?_; apply Exists.intro; apply And.intro; (intro w; go_simp; try with_reducible rfl); go_frame)
          (refine regP 12 hS (fun _ h => h) rfl (by kernel_rfl) (by kernel_rfl) (by kernel_rfl) (fun _ _ _ _ h => h) (by rfl) (by rfl) ?_; apply Exists.intro; apply And.intro; (intro w; go_simp; try with_reducible rfl); go_frame)
          (refine regP 13 hS (fun _ h => h) rfl (by kernel_rfl) (by kernel_rfl) (by kernel_rfl) (fun _ _ _ _ h => h) (by rfl) (by rfl) ?_; apply Exists.intro; apply And.intro; (intro w; go_simp; try with_reducible rfl); go_frame)
          (refine regP 14 hS (fun _ h => h) rfl (by kernel_rfl) (by kernel_rfl) (by kernel_rfl) (fun _ _ _ _ h => h) (by rfl) (by rfl) ?_; apply Exists.intro; apply And.intro; (intro w; go_simp; try with_reducible rfl); go_frame)
          (refine regP 15 hS (fun _ h => h) rfl (by kernel_rfl) (by kernel_rfl) (by kernel_rfl) (fun _ _ _ _ h => h) (by rfl) (by rfl) ?_; apply Exists.intro; apply And.intro; (intro w; go_simp; try with_reducible rfl); go_frame)
          refine regDone (by kernel_rfl) ?_
          go_wp2
          go_ret2
          rw [HE.out.1, HE.out.2]
          exact ⟨rfl, IsW.mk hS⟩
        | some jj =>
          obtain ⟨_, hj1, hj2⟩ := HT.out.find_ino hi hf
          obtain ⟨m, rfl⟩ := Int.eq_ofNat_of_zero_le (show 0 ≤ jj by omega)
          have HWK := Lib.hid (show T.walk m (l.drop (j + 1)) = (wi, we) by
            rw [TrD.walk, if_pos hk, hf] at hwk
            exact hwk)
          have HM := Lib.hid (show m < 48 by omega)
          have hh : hasE (T.dir i) n = true := by rw [← findE_some, hf]; rfl
          rw [hf, hh] at HF
          clear hwk hf hh hj1 hj2
          obtain ⟨kk, hkk⟩ : ∃ kk, T.kind i = kk := ⟨_, rfl⟩
          rw [hkk] at e1
          go_wp2_with (refine toList (by rfl) ?_; refine ld hS _ _ (by rfl) _ _ (by rfl) (agOf (by rfl)) Has.z (wl_ku (z := kk) hi (by omega) hkk) ?_)
          refine regStart [10] hS (by kernel_rfl) rfl ?_
          intro w1 hS1
          clear hS; have hS := hS1; clear hS1
          (refine regP 0 hS (fun _ h => h) rfl (by kernel_rfl) (by kernel_rfl) (by kernel_rfl) (fun _ _ _ _ h => h) (by rfl) (by rfl) ?_; apply Exists.intro; apply And.intro; (intro w; go_simp; try with_reducible rfl); go_frame)
          (refine regP 1 hS (fun _ h => h) rfl (by kernel_rfl) (by kernel_rfl) (by kernel_rfl) (fun _ _ _ _ h => h) (by rfl) (by rfl) ?_; apply Exists.intro; apply And.intro; (intro w; go_simp; try with_reducible rfl); go_frame)
          (refine regP 2 hS (fun _ h => h) rfl (by kernel_rfl) (by kernel_rfl) (by kernel_rfl) (fun _ _ _ _ h => h) (by rfl) (by rfl) ?_; apply Exists.intro; apply And.intro; (intro w; go_simp; try with_reducible rfl); go_frame)
          (refine regP 3 hS (fun _ h => h) rfl (by kernel_rfl) (by kernel_rfl) (by kernel_rfl) (fun _ _ _ _ h => h) (by rfl) (by rfl) ?_; apply Exists.intro; apply And.intro; (intro w; go_simp; try with_reducible rfl); go_frame)
          (refine regP 4 hS (fun _ h => h) rfl (by kernel_rfl) (by kernel_rfl) (by kernel_rfl) (fun _ _ _ _ h => h) (by rfl) (by rfl) ?_; apply Exists.intro; apply And.intro; (intro w; go_simp; try with_reducible rfl); go_frame)
          (refine regR 5 hS (fun _ h => h) rfl (by kernel_rfl) (by kernel_rfl) (by kernel_rfl) (by kernel_rfl) (by kernel_rfl) (fun _ _ _ _ h => h) (by rfl) (by rfl) ?_; (first
                                | refine ⟨.slice ao1 (T.dir i).length c1, yLd _ _ (by rfl) _ _ (by rfl) (agOf (by rfl)) Has.z (wl_vu (u := .slice ao1 (T.dir i).length c1) hi (by omega) hv), ?_⟩
                                | refine ⟨.string ⟨n.toArray⟩, fun u hu => rLdRd (f := sv1) (x := n) (HR.out _ hu) (sv1_len l) _ _ (by rfl) _ (by rfl) (agOf (by rfl)) j 0 (by omega) HX.out (by rfl) (by omega), ?_⟩); go_frame)
          (refine regP 6 hS (fun _ h => h) rfl (by kernel_rfl) (by kernel_rfl) (by kernel_rfl) (fun _ _ _ _ h => h) (by rfl) (by rfl) ?_; apply Exists.intro; apply And.intro; (intro w; go_simp; try with_reducible rfl); go_frame)
          (refine regP 7 hS (fun _ h => h) rfl (by kernel_rfl) (by kernel_rfl) (by kernel_rfl) (fun _ _ _ _ h => h) (by rfl) (by rfl) ?_; apply Exists.intro; apply And.intro; (intro w; go_simp; try with_reducible rfl); go_frame)
          (refine regP 8 hS (fun _ h => h) rfl (by kernel_rfl) (by kernel_rfl) (by kernel_rfl) (fun _ _ _ _ h => h) (by rfl) (by rfl) ?_; apply Exists.intro; apply And.intro; (intro w; go_simp; try with_reducible rfl); go_frame)
          (refine regR 9 hS (fun _ h => h) rfl (by kernel_rfl) (by kernel_rfl) (by kernel_rfl) (by kernel_rfl) (by kernel_rfl) (fun _ _ _ _ h => h) (by rfl) (by rfl) ?_; (first
                                | refine ⟨.slice ao1 (T.dir i).length c1, yLd _ _ (by rfl) _ _ (by rfl) (agOf (by rfl)) Has.z (wl_vu (u := .slice ao1 (T.dir i).length c1) hi (by omega) hv), ?_⟩
                                | refine ⟨.string ⟨n.toArray⟩, fun u hu => rLdRd (f := sv1) (x := n) (HR.out _ hu) (sv1_len l) _ _ (by rfl) _ (by rfl) (agOf (by rfl)) j 0 (by omega) HX.out (by rfl) (by omega), ?_⟩); go_frame)
          (refine regA 10 rfl (by kernel_rfl) (by rfl) (by rfl) true (by kernel_rfl) (fun K hK => ?_); ((refine Go.Sep.cl 65 _ _ (by rfl) (by rfl) (by kernel_rfl) (HF.out _ hS) ?_; rintro e w1 ⟨rfl, hS1⟩; clear hS; have hS := hS1; clear hS1; refine ⟨_, rfl, ?_⟩)); refine hK _ _ _ hS (by first | (intro h; cases h; done) | exact fun _ _ h => h | exact fun _ _ h => h.drop | exact fun _ _ h => h.drop.drop | exact fun _ _ h => h.drop.pull1 | exact fun _ _ h => h.take2 | exact fun _ _ h => h.one Has.z | exact fun _ _ h => h.one (Has.s Has.z) | exact fun _ _ h => h.one (Has.s (Has.s Has.z))) ?_; clear hK K; go_frame)
          (refine regP 11 hS (fun _ h => h) rfl (by kernel_rfl) (by kernel_rfl) (by kernel_rfl) (fun _ _ _ _ h => h) (by rfl) (by rfl) ?_; apply Exists.intro; apply And.intro; (intro w; go_simp; try with_reducible rfl); go_frame)
          (refine regP 12 hS (fun _ h => h) rfl (by kernel_rfl) (by kernel_rfl) (by kernel_rfl) (fun _ _ _ _ h => h) (by rfl) (by rfl) ?_; apply Exists.intro; apply And.intro; (intro w; go_simp; try with_reducible rfl); go_frame)
          (refine regP 13 hS (fun _ h => h) rfl (by kernel_rfl) (by kernel_rfl) (by kernel_rfl) (fun _ _ _ _ h => h) (by rfl) (by rfl) ?_; apply Exists.intro; apply And.intro; (intro w; go_simp; try with_reducible rfl); go_frame)
          (refine regP 14 hS (fun _ h => h) rfl (by kernel_rfl) (by kernel_rfl) (by kernel_rfl) (fun _ _ _ _ h => h) (by rfl) (by rfl) ?_; apply Exists.intro; apply And.intro; (intro w; go_simp; try with_reducible rfl); go_frame)
          (refine regP 15 hS (fun _ h => h) rfl (by kernel_rfl) (by kernel_rfl) (by kernel_rfl) (fun _ _ _ _ h => h) (by rfl) (by rfl) ?_; apply Exists.intro; apply And.intro; (intro w; go_simp; try with_reducible rfl); go_frame)
          refine regDone (by kernel_rfl) ?_
          go_wp2
          exact ⟨⟨m, j + 1, by simp, by go_num, HM.out, HLT.out, HWK.out, hS⟩, by simp [intOf]; have := HLT.out; omega⟩
      · have HE := Lib.hid (show wi = 0 ∧ we = 8 by
          rw [TrD.walk, if_neg hk] at hwk
          simp only [Prod.mk.injEq] at hwk
          exact ⟨hwk.1.symm, hwk.2.symm⟩)
        have e1 : ((T.kind i) != 2) = true := bne_iff_ne.2 hk
        obtain ⟨kk, hkk⟩ : ∃ kk, T.kind i = kk := ⟨_, rfl⟩
        rw [hkk] at e1
        clear hwk hk
        go_wp2_with (refine toList (by rfl) ?_; refine ld hS _ _ (by rfl) _ _ (by rfl) (agOf (by rfl)) Has.z (wl_ku (z := kk) hi (by omega) hkk) ?_)
        go_ret2
        rw [HE.out.1, HE.out.2]
        exact ⟨rfl, IsW.mk hS⟩
    · have k1 : ¬ (j : Int) < (l.length : Int) := by omega
      rw [List.drop_eq_nil_of_le (by omega), TrD.walk] at hwk
      simp only [Prod.mk.injEq] at hwk
      obtain ⟨rfl, rfl⟩ := hwk
      clear hlt
      go_wp2
      go_ret2
      exact ⟨rfl, IsW.mk hS⟩
set_option maxRecDepth 20000 in
set_option maxHeartbeats 1000000 in
theorem rfree_any {W w : World} {L : List Asrt} {p : Nat} {T : TrD} (hS : Sat W w (IsW p T :: L)) (hT : T.Ok) :
    Calls Try.prog 51 #[.pointer (some ⟨p, 0, none⟩)] w fun r w' => r = .returned (.tuple #[.int .i64 ((T.free.getD 0 : Nat) : Int), .bool T.free.isSome]) ∧ Sat W w' (IsW p T :: L) := by
  have HT := Lib.hid hT
  obtain ⟨v, vt, hO⟩ := IsW.open hS
  clear hS hT
  have H0 := Lib.hid hO
  clear hO
  have HZ0 := Lib.hid (show ∀ j, j < 1 → T.kind j ≠ 0 from fun j hj => by
    obtain rfl : j = 0 := by omega
    rw [HT.out.k0]; decide)
  go_enter Try.func51, Try.ntmps51
  go_wp2
  go_loopw [4] (fun v10 wz => ∃ i : Nat, v10 = .int .i64 i ∧ 1 ≤ i ∧ i ≤ 48 ∧ (∀ j, j < i → T.kind j ≠ 0) ∧ Sat W wz (Cs p 79 (wl T.kind v vt) :: rws v T.dir :: Ir vt T.last :: L)) (fun v10 _ => 48 - (intOf v10).toNat)
  case atStart => exact ⟨1, rfl, by omega, by omega, HZ0.out, H0.out⟩
  case round =>
    clear H0
    obtain ⟨i, rfl, hi1, hi, hno, hS⟩ := hrel
    have HNO := Lib.hid hno
    clear hno
    by_cases hlt : i < 48
    · have k1 : (i : Int) < 48 := by omega
      have HLT := Lib.hid hlt
      by_cases h0 : T.kind i = 0
      · have HF := Lib.hid (HT.out.free_of hlt h0 HNO.out)
        go_wp2_with (refine toList (by rfl) ?_; refine ld hS _ _ (by rfl) _ _ (by rfl) (agOf (by rfl)) Has.z (wl_ku (z := 0) hlt (by omega) h0) ?_)
        go_ret2
        rw [HF.out]
        exact ⟨rfl, IsW.mk hS⟩
      · have HN2 := Lib.hid (show ∀ j, j < i + 1 → T.kind j ≠ 0 from fun j hj => by
          rcases Nat.lt_or_ge j i with h | h
          · exact HNO.out j h
          · obtain rfl : j = i := by omega
            exact h0)
        obtain ⟨kk, hkk⟩ : ∃ kk, T.kind i = kk := ⟨_, rfl⟩
        rw [hkk] at h0
        have e1 : (kk == 0) = false := beq_eq_false_iff_ne.2 h0
        go_wp2_with (refine toList (by rfl) ?_; refine ld hS _ _ (by rfl) _ _ (by rfl) (agOf (by rfl)) Has.z (wl_ku (z := kk) hlt (by omega) hkk) ?_)
        exact ⟨⟨i + 1, by go_num, by omega, HLT.out, HN2.out, hS⟩, by simp [intOf]; have := HLT.out; omega⟩
    · have k1 : ¬ (i : Int) < 48 := by omega
      have HF := Lib.hid (HT.out.free_not fun j hj => HNO.out j (by omega))
      clear hlt
      go_wp2
      go_ret2
      rw [HF.out]
      exact ⟨rfl, IsW.mk hS⟩
end Go.Proofs.Ytiieicdhkcikpaa
namespace Go.Proofs.Ytiieicdhkcikpaa
open Go.RowKit Go.Sep
set_option linter.unusedSimpArgs false
set_option linter.unusedVariables false
attribute [local irreducible] Go.Oper.wp Go.wpList Go.Calls Go.Code.wp Go.Sep.Reg
theorem cnt_upto {ds : List (List EntD)} {k : Nat} {d : List EntD} (hd : ds[k]? = some d) (i : Nat) : TrD.cnt (ds.take (k + 1)) i = TrD.cnt (ds.take k) i + cnt1 d i := by
  unfold TrD.cnt cnt1
  rw [List.take_add_one, hd, List.flatten_append, List.filter_append, List.length_append]
  simp
theorem cnt1_upto {d : List EntD} {j : Nat} {e : EntD} (he : d[j]? = some e) (i : Nat) : cnt1 (d.take (j + 1)) i = cnt1 (d.take j) i + if e.ino = (i : Int) then 1 else 0 := by
  unfold cnt1
  rw [List.take_add_one, he, List.filter_append, List.length_append]
  by_cases h : e.ino = (i : Int)
  · simp [h]
  · simp [h]
theorem cnt_le {ds : List (List EntD)} (h : ∀ d ∈ ds, d.length ≤ 64) (i : Nat) : TrD.cnt ds i ≤ ds.length * 64 := by
  induction ds with
  | nil => exact Nat.le_refl _
  | cons d ds ih =>
    have h1 := ih fun x hx => h x (List.mem_cons_of_mem _ hx)
    have h2 := h d (List.mem_cons_self ..)
    have h3 : cnt1 d i ≤ d.length := List.length_filter_le _ _
    rw [TrD.cnt_cons, List.length_cons]; omega
theorem cnt1_le (d : List EntD) (i : Nat) : cnt1 d i ≤ d.length := List.length_filter_le _ _
set_option maxRecDepth 20000 in
set_option maxHeartbeats 1000000 in
theorem rlinks_any {W w : World} {L : List Asrt} {p : Nat} {T : TrD} (hS : Sat W w (IsW p T :: L)) (hT : T.Ok) (i : Nat) (hi48 : i < 48) :
    Calls Try.prog 50 #[.pointer (some ⟨p, 0, none⟩), .int .i64 (i : Int)] w fun r w' => r = .returned (.int .i64 (T.links i : Nat)) ∧ Sat W w' (IsW p T :: L) := by
  unfold TrD.links
  by_cases h0 : i = 0
  · subst h0
    rw [if_pos rfl]
    go_enter Try.func50, Try.ntmps50
    go_wp2
    go_ret
    exact ⟨rfl, hS⟩
  · rw [if_neg h0]
    have e0 : ((i : Int) == 0) = false := beq_eq_false_iff_ne.2 (by omega)
    have HT := Lib.hid hT
    obtain ⟨v, vt, hO⟩ := IsW.open hS
    clear hS hT
    have H0 := Lib.hid hO
    have HB := Lib.hid (fun k (hk : k ≤ 48) => show TrD.cnt (T.dirs.take k) i ≤ k * 64 by
      have := cnt_le (ds := T.dirs.take k) (fun d hd => HT.out.len d (List.mem_of_mem_take hd)) i
      rw [List.length_take, HT.out.dl] at this
      have e : min k 48 = k := by omega
      rw [e] at this; exact this)
    clear hO h0
    go_enter Try.func50, Try.ntmps50
    go_wp2
    go_loopw [5, 6] (fun v5 v6 wz => ∃ k : Nat, v6 = .int .i64 k ∧ v5 = .int .i64 (TrD.cnt (T.dirs.take k) i : Nat) ∧ k ≤ 48 ∧ Sat W wz (Cs p 79 (wl T.kind v vt) :: rws v T.dir :: Ir vt T.last :: L)) (fun _ v6 _ => 48 - (intOf v6).toNat)
    case atStart => exact ⟨0, rfl, rfl, by omega, H0.out⟩
    case round =>
      clear H0
      obtain ⟨k, rfl, rfl, hk, hS⟩ := hrel
      by_cases hlt : k < 48
      · have k1 : (k : Int) < 48 := by omega
        have HLT := Lib.hid hlt
        obtain ⟨ao1, c1, hv, _⟩ := rws_shape hS (k := 1) rfl hlt
        have hlen := HT.out.len _ (HT.out.dir_mem hlt)
        have HCN := Lib.hid (cnt_upto (HT.out.dir_at hlt) i)
        have hbk := HB.out k (by omega)
        obtain ⟨cc, hcc⟩ : ∃ cc, TrD.cnt (T.dirs.take k) i = cc := ⟨_, rfl⟩
        rw [hcc] at HCN hbk
        have HCC := Lib.hid hcc
        clear hcc
        have H1 := Lib.hid hS
        go_wp2
        go_loopw [5, 7] (fun v5 v7 wz => ∃ j : Nat, v7 = .int .i64 j ∧ v5 = .int .i64 ((cc + cnt1 ((T.dir k).take j) i : Nat) : Int) ∧ j ≤ (T.dir k).length ∧ Sat W wz (Cs p 79 (wl T.kind v vt) :: rws v T.dir :: Ir vt T.last :: L)) (fun _ v7 _ => (T.dir k).length - (intOf v7).toNat)
        case atStart => exact ⟨0, rfl, by rw [HCC.out]; rfl, by omega, H1.out⟩
        case round =>
          clear hS H1
          obtain ⟨j, rfl, rfl, hj, hS⟩ := hrel
          by_cases hjl : j < (T.dir k).length
          · have k2 : (j : Int) < ((T.dir k).length : Int) := by omega
            have HJL := Lib.hid hjl
            obtain ⟨e, he⟩ : ∃ e, (T.dir k)[j]? = some e := ⟨_, List.getElem?_eq_getElem hjl⟩
            have HE := Lib.hid he
            have hc1 := cnt1_le ((T.dir k).take j) i
            rw [List.length_take] at hc1
            have HC1 := Lib.hid (cnt1_upto he i)
            obtain ⟨c2, hc2⟩ : ∃ c2, cc + cnt1 ((T.dir k).take j) i = c2 := ⟨_, rfl⟩
            rw [hc2]
            have hb2 : (c2 : Int) ≤ 10000 := by omega
            obtain ⟨b, off, c3, hv3, _⟩ : ∃ b off c3, v k = .slice (some ⟨b, off, none⟩) (T.dir k).length c3 ∧ (T.dir k).length ≤ c3 := by
              obtain ⟨L', h2⟩ := rws_at hS (k := 1) rfl hlt
              exact Sat.tbAddr h2 (k := 0) rfl (by omega)
            have HRD := Lib.hid (fun w (h : Sat W w (Cs p 79 (wl T.kind v vt) :: rws v T.dir :: Ir vt T.last :: L)) => by have := rws_rd h (k := 1) rfl hlt; rw [hv3] at this; exact this)
            have HC2 := Lib.hid hc2
            clear he hjl hc2
            by_cases hq : e.ino = (i : Int)
            · have HN := Lib.hid (show cc + cnt1 ((T.dir k).take (j + 1)) i = c2 + 1 by have h1 := HC1.out; have h2 := HC2.out; rw [if_pos hq] at h1; omega)
              have e1 : (e.ino == (i : Int)) = true := beq_iff_eq.2 hq
              clear hq
              go_wp2_with (first
                | (refine toList (by rfl) ?_; refine ld hS _ _ (by rfl) _ _ (by rfl) (agOf (by rfl)) Has.z (wl_vu (u := .slice (some ⟨b, off, none⟩) (T.dir k).length c3) hlt (by omega) hv3) ?_)
                | (refine toList (by rfl) ?_; refine wp_of_reads (rLdRd (f := ev2) (x := e) (u := .int .i64 e.ino) (HRD.out _ hS) (ev2_len _) _ _ (by rfl) _ (by rfl) (agOf (by rfl)) j 1 (by omega) HE.out (by rfl) (by omega)) ?_))
              exact ⟨⟨j + 1, by go_num, by rw [HN.out]; go_num, HJL.out, hS⟩, by simp [intOf]; have := HJL.out; omega⟩
            · have HN := Lib.hid (show cc + cnt1 ((T.dir k).take (j + 1)) i = c2 by have h1 := HC1.out; have h2 := HC2.out; rw [if_neg hq] at h1; omega)
              have e1 : (e.ino == (i : Int)) = false := beq_eq_false_iff_ne.2 hq
              clear hq
              go_wp2_with (first
                | (refine toList (by rfl) ?_; refine ld hS _ _ (by rfl) _ _ (by rfl) (agOf (by rfl)) Has.z (wl_vu (u := .slice (some ⟨b, off, none⟩) (T.dir k).length c3) hlt (by omega) hv3) ?_)
                | (refine toList (by rfl) ?_; refine wp_of_reads (rLdRd (f := ev2) (x := e) (u := .int .i64 e.ino) (HRD.out _ hS) (ev2_len _) _ _ (by rfl) _ (by rfl) (agOf (by rfl)) j 1 (by omega) HE.out (by rfl) (by omega)) ?_))
              exact ⟨⟨j + 1, by go_num, by rw [HN.out], HJL.out, hS⟩, by simp [intOf]; have := HJL.out; omega⟩
          · have k2 : ¬ (j : Int) < ((T.dir k).length : Int) := by omega
            have HN := Lib.hid (show cc + cnt1 ((T.dir k).take j) i = TrD.cnt (T.dirs.take (k + 1)) i by rw [HCN.out, List.take_of_length_le (by omega)])
            have hb3 : cc + cnt1 ((T.dir k).take j) i ≤ 10000 := by have := cnt1_le ((T.dir k).take j) i; rw [List.length_take] at this; omega
            clear hjl
            go_wp2_with (refine toList (by rfl) ?_; refine ld hS _ _ (by rfl) _ _ (by rfl) (agOf (by rfl)) Has.z (wl_vu (u := .slice ao1 (T.dir k).length c1) hlt (by omega) hv) ?_)
            exact ⟨⟨k + 1, by go_num, by rw [← HN.out]; simp, HLT.out, hS⟩, by simp [intOf]; have := HLT.out; omega⟩
      · have k1 : ¬ (k : Int) < 48 := by omega
        have HE := Lib.hid (show T.dirs.take k = T.dirs from List.take_of_length_le (by rw [HT.out.dl]; omega))
        clear hlt
        go_wp2
        go_ret
        rw [HE.out]
        exact ⟨rfl, IsW.mk hS⟩
set_option maxRecDepth 20000 in
set_option maxHeartbeats 1000000 in
theorem rparent_any {W w : World} {L : List Asrt} {p : Nat} {T : TrD} (hS : Sat W w (IsW p T :: L)) (hT : T.Ok) (l : List (List UInt8)) (ao : Option Addr) (c : Nat) (hr : ∀ w L', Sat W w (L' ++ L) → Rd w (.slice ao l.length c) l.length 1 (l.flatMap sv1)) (hl : l.length ≤ 1000000) (h0 : l ≠ []) :
    Calls Try.prog 64 #[.pointer (some ⟨p, 0, none⟩), .slice ao l.length c] w fun r w' => ∃ (d : Int), r = .returned (.tuple #[.int .i64 d, .int .i64 (if (T.walk 0 l.dropLast).2 = 0 then (if T.kind (T.pD l) = 2 then 0 else 8) else (T.walk 0 l.dropLast).2)]) ∧ ((T.walk 0 l.dropLast).2 = 0 → T.kind (T.pD l) = 2 → d = T.pD l) ∧ Sat W w' (IsW p T :: L) := by
  have hpos : 0 < l.length := List.length_pos_iff.2 h0
  obtain ⟨m, hm⟩ : ∃ m, l.length = m + 1 := ⟨l.length - 1, by omega⟩
  obtain ⟨_, htk⟩ := last_at hm
  have hdl : l.dropLast.length = m := by rw [List.length_dropLast]; omega
  have hcl : l.length ≤ c := by
    obtain ⟨_, _, he, hc1, _⟩ := hr w [_] hS
    simp only [Value.slice.injEq, true_and] at he
    obtain ⟨rfl, rfl⟩ := he
    exact hc1
  have HW := Lib.hid (fun w (h : Sat W w (IsW p T :: L)) => by
    have := rwalk_any h hT l.dropLast ao c (fun w L' h => by rw [hdl, ← htk]; have := srd_take (hr w L' h) m (by omega); rw [List.length_take, Nat.min_eq_left (by omega)] at this; exact this) (by omega)
    rw [hdl] at this; exact this)
  obtain ⟨d, hd, hd48⟩ := hT.walk_lt l.dropLast 0 (by omega)
  have hpd : T.pD l = d := by unfold TrD.pD; rw [hd]; rfl
  obtain ⟨we, hwe⟩ : ∃ we, (T.walk 0 l.dropLast).2 = we := ⟨_, rfl⟩
  rw [hd, hwe] at HW
  rw [hwe, hpd]
  have hsub : (l.length : Int) - 1 = (m : Int) := by omega
  have k2 : (m : Int) ≤ (c : Int) := by omega
  have k3 : (1 : Int) ≤ (l.length : Int) := by omega
  have k4 : (l.length : Int) ≤ 1000000 := by omega
  have hmc : m ≤ c := by omega
  have k5 : (d : Int) < 48 := by omega
  obtain ⟨kk, hkk⟩ : ∃ kk, T.kind d = kk := ⟨_, rfl⟩
  clear hr h0 hm htk hd hwe hpd hpos hdl
  by_cases hz : we = 0
  · subst hz
    rw [if_pos rfl, hkk]
    by_cases h2 : kk = 2
    · rw [if_pos h2]
      have e1 : (kk != 2) = false := by rw [h2]; rfl
      clear h2
      go_enter Try.func64, Try.ntmps64
      go_wp2_with (first
        | (refine toList (by rfl) ?_; refine wp_of_reads (rCutH (hi := m) (by rfl) (by rfl) (by rfl) (by omega) hmc (elOf (by rfl)) _) ?_)
        | (go_at_call 47; refine (HW.out _ hS).mono ?_; rintro r w1 ⟨rfl, hS1⟩; clear hS; have hS := hS1; clear hS1; obtain ⟨v1, vt1, hO⟩ := IsW.open hS; clear hS; have hS := hO; clear hO)
        | (refine toList (by rfl) ?_; refine ld hS _ _ (by rfl) _ _ (by rfl) (agOf (by rfl)) Has.z (wl_ku (z := kk) hd48 (by omega) hkk) ?_))
      go_ret2
      exact ⟨d, rfl, fun _ _ => rfl, IsW.mk hS⟩
    · rw [if_neg h2]
      have e1 : (kk != 2) = true := bne_iff_ne.2 h2
      have H2 := Lib.hid h2
      clear h2
      go_enter Try.func64, Try.ntmps64
      go_wp2_with (first
        | (refine toList (by rfl) ?_; refine wp_of_reads (rCutH (hi := m) (by rfl) (by rfl) (by rfl) (by omega) hmc (elOf (by rfl)) _) ?_)
        | (go_at_call 47; refine (HW.out _ hS).mono ?_; rintro r w1 ⟨rfl, hS1⟩; clear hS; have hS := hS1; clear hS1; obtain ⟨v1, vt1, hO⟩ := IsW.open hS; clear hS; have hS := hO; clear hO)
        | (refine toList (by rfl) ?_; refine ld hS _ _ (by rfl) _ _ (by rfl) (agOf (by rfl)) Has.z (wl_ku (z := kk) hd48 (by omega) hkk) ?_))
      go_ret2
      exact ⟨0, rfl, fun _ h => absurd h H2.out, IsW.mk hS⟩
  · have e1 : (we != 0) = true := bne_iff_ne.2 hz
    rw [if_neg hz]
    have HZ := Lib.hid hz
    clear hz
    go_enter Try.func64, Try.ntmps64
    go_wp2_with (first
      | (refine toList (by rfl) ?_; refine wp_of_reads (rCutH (hi := m) (by rfl) (by rfl) (by rfl) (by omega) hmc (elOf (by rfl)) _) ?_)
      | (go_at_call 47; refine (HW.out _ hS).mono ?_; rintro r w1 ⟨rfl, hS1⟩; clear hS; have hS := hS1; clear hS1))
    go_ret2
    exact ⟨0, rfl, fun h _ => absurd h HZ.out, hS⟩
end Go.Proofs.Ytiieicdhkcikpaa
namespace Go.Proofs.Ytiieicdhkcikpaa
open Go.RowKit Go.Sep
set_option linter.unusedSimpArgs false
set_option linter.unusedVariables false
attribute [local irreducible] Go.Oper.wp Go.wpList Go.Calls Go.Code.wp Go.Sep.Reg
def tpart (l : List Nat) (i : Nat) : List Nat := (List.range i).filter fun x => decide (x ∈ l)
def tpl (l : List Nat) (i k : Nat) : List Nat := tpart l i ++ if i ∈ l.take k then [i] else []
theorem tpart_succ (l : List Nat) (i : Nat) : tpart l (i + 1) = tpl l i l.length := by
  unfold tpl tpart
  rw [List.range_succ, List.filter_append, List.take_of_length_le (Nat.le_refl _)]
  by_cases h : i ∈ l
  · simp [h]
  · simp [h]
theorem tpart_lt {l : List Nat} {i x : Nat} (h : x ∈ tpart l i) : x < i := by
  unfold tpart at h
  exact List.mem_range.1 (List.mem_filter.1 h).1
theorem tpl_no {l : List Nat} {i k x : Nat} (hx : l[k]? = some x) (hq : x ≠ i) : tpl l i (k + 1) = tpl l i k := by
  unfold tpl
  rw [List.take_add_one, hx]
  congr 1
  have : i ∈ l.take k ++ (some x).toList ↔ i ∈ l.take k := by
    rw [List.mem_append]
    simp only [Option.toList_some, List.mem_singleton]
    exact ⟨fun h => h.elim id (fun e => absurd e.symm hq), .inl⟩
  by_cases h : i ∈ l.take k
  · rw [if_pos h, if_pos (this.2 h)]
  · rw [if_neg h, if_neg (fun e => h (this.1 e))]
theorem tpl_yes {l : List Nat} {i k : Nat} (hx : l[k]? = some i) : tpl l i (k + 1) = tpart l i ++ [i] := by
  unfold tpl
  rw [List.take_add_one, hx, if_pos (by simp)]
/-- Was it told already? It stands last, then. -/
theorem tpl_last {l : List Nat} {i k m y : Nat} (hl : (tpl l i k).length = m + 1) (hy : (tpl l i k)[m]? = some y) : (y = i ∧ tpl l i k = tpart l i ++ [i]) ∨ (y ≠ i ∧ tpl l i k = tpart l i) := by
  by_cases h : i ∈ l.take k
  · left
    have e : tpl l i k = tpart l i ++ [i] := by unfold tpl; rw [if_pos h]
    refine ⟨?_, e⟩
    rw [e] at hl hy
    rw [List.length_append, List.length_singleton] at hl
    rw [List.getElem?_append_right (by omega)] at hy
    have : m - (tpart l i).length = 0 := by omega
    rw [this] at hy
    exact (Option.some.inj hy).symm
  · right
    have e : tpl l i k = tpart l i := by unfold tpl; rw [if_neg h, List.append_nil]
    refine ⟨?_, e⟩
    rw [e] at hy
    have := tpart_lt (List.mem_of_getElem? hy)
    omega
theorem tpl_nil {l : List Nat} {i k : Nat} (hl : (tpl l i k).length = 0) : tpart l i = [] := by
  unfold tpl at hl
  rw [List.length_append] at hl
  exact List.eq_nil_of_length_eq_zero (by omega)
theorem tpl_le (l : List Nat) (i k : Nat) : (tpl l i k).length ≤ i + 1 := by
  have h1 : (tpart l i).length ≤ i := by
    unfold tpart
    have := List.length_filter_le (fun x => decide (x ∈ l)) (List.range i)
    simpa using this
  unfold tpl
  rw [List.length_append]
  split <;> simp <;> omega
theorem tpl_zero (l : List Nat) (i : Nat) : tpl l i 0 = tpart l i := by
  unfold tpl
  rw [List.take_zero, if_neg (by simp), List.append_nil]
set_option maxRecDepth 20000 in
set_option maxHeartbeats 2000000 in
theorem rtouch_any {W w : World} {L : List Asrt} {p : Nat} {T : TrD} {sl : Value} {l : List Nat} (hS : Sat W w (IsW p T :: Ir sl l :: L)) (hl : l.length ≤ 1000) :
    Calls Try.prog 67 #[.pointer (some ⟨p, 0, none⟩), sl] w fun r w' => r = .returned (.tuple #[]) ∧ Sat W w' (IsW p (T.tch l) :: L) := by
  obtain ⟨v, vt, hO⟩ := IsW.open hS
  clear hS
  have hS := hO
  clear hO
  obtain ⟨ao, c, rfl, _⟩ := hS.irShape (k := 3) rfl
  have hli : (l.length : Int) ≤ 1000 := by omega
  have HTL := Lib.hid (show TrD.touch l = tpart l 48 from rfl)
  go_enter Try.func67, Try.ntmps67
  go_wp2_with (refine toList (by rfl) ?_; refine st hS _ _ _ (by rfl) _ _ (by rfl) _ (by first | exact evC | exact evT (by rfl)) (by rfl) (szOf (by rfl)) Has.z (by rw [wl_len]; decide) ?_; intro w1 hS1; clear hS; have hS := hS1; clear hS1; simp only [List.set_cons_zero] at hS; rw [wl_setT] at hS)
  replace hS := (hS.re [2]).drop.irNil.re [1, 2, 0, 3]
  have H0 := Lib.hid hS
  clear hS
  go_loopw [4] (fun v4 wz => ∃ (i : Nat) (vl : Value), v4 = .int .i64 i ∧ i ≤ 48 ∧ Sat W wz (Cs p 79 (wl T.kind v vl) :: rws v T.dir :: Ir vl (tpart l i) :: Ir (.slice ao l.length c) l :: L)) (fun v4 _ => 48 - (intOf v4).toNat)
  case atStart => exact ⟨0, _, rfl, by omega, H0.out⟩
  case round =>
    clear H0
    obtain ⟨i, vl, rfl, hi, hS⟩ := hrel
    by_cases hlt : i < 48
    · have k1 : (i : Int) < 48 := by omega
      have HLT := Lib.hid hlt
      have H1 := Lib.hid hS
      clear hS
      go_wp2
      go_loopw [5] (fun v5 wz => ∃ (k : Nat) (vl : Value), v5 = .int .i64 k ∧ k ≤ l.length ∧ Sat W wz (Cs p 79 (wl T.kind v vl) :: rws v T.dir :: Ir vl (tpl l i k) :: Ir (.slice ao l.length c) l :: L)) (fun v5 _ => l.length - (intOf v5).toNat)
      case atStart => exact ⟨0, vl, rfl, by omega, by rw [tpl_zero]; exact H1.out⟩
      case round =>
        clear H1
        obtain ⟨k, vl, rfl, hk, hS⟩ := hrel
        by_cases hkl : k < l.length
        · have k2 : (k : Int) < (l.length : Int) := by omega
          have HKL := Lib.hid hkl
          obtain ⟨x, hx⟩ : ∃ x, l[k]? = some x := ⟨_, List.getElem?_eq_getElem hkl⟩
          have HX := Lib.hid hx
          obtain ⟨b, off, rfl⟩ : ∃ b off, ao = some ⟨b, off, none⟩ := by
            obtain ⟨ao', c', he, _, _, _, h5⟩ := hS.irRd (k := 3) rfl
            simp only [Value.slice.injEq, true_and] at he
            obtain ⟨rfl, rfl⟩ := he
            obtain ⟨b, off, h6, _⟩ := h5 (by omega)
            exact ⟨b, off, h6⟩
          have hle := tpl_le l i k
          obtain ⟨ao2, c2, rfl, _⟩ := hS.irShape (k := 2) rfl
          by_cases hq : x = i
          · have e1 : ((x : Int) == (i : Int)) = true := beq_iff_eq.2 (by rw [hq])
            have HNX := Lib.hid (tpl_yes (by rw [hx, hq] : l[k]? = some i))
            have HLS := Lib.hid (fun m y => tpl_last (l := l) (i := i) (k := k) (m := m) (y := y))
            have HNL := Lib.hid (tpl_nil (l := l) (i := i) (k := k))
            obtain ⟨ls, hls⟩ : ∃ ls, tpl l i k = ls := ⟨_, rfl⟩
            rw [hls] at hS hle HLS HNL
            by_cases hz : ls.length = 0
            · have HN := Lib.hid (show tpl l i (k + 1) = ls ++ [i] by
                have h1 := HNL.out hz
                have h2 : ls = [] := List.eq_nil_of_length_eq_zero hz
                rw [HNX.out, h1, h2])
              have e2 : ((ls.length : Int) == 0) = true := beq_iff_eq.2 (by omega)
              have m := 0
              have y := 0
              have HY := HX
              clear hz hx hkl hk hls hq HNX HLS HNL
              go_wp2
              refine regStart [] hS (by kernel_rfl) rfl ?_
              intro w1 hS1
              clear hS; have hS := hS1; clear hS1
              (refine regP 0 hS (fun _ h => h) rfl (by kernel_rfl) (by kernel_rfl) (by kernel_rfl) (fun _ _ _ _ h => h) (by rfl) (by rfl) ?_; apply Exists.intro; apply And.intro; (intro w; go_simp; try with_reducible rfl); go_frame)
              (refine regP 1 hS (fun _ h => h) rfl (by kernel_rfl) (by kernel_rfl) (by kernel_rfl) (fun _ _ _ _ h => h) (by rfl) (by rfl) ?_; apply Exists.intro; apply And.intro; (intro w; go_simp; try with_reducible rfl); go_frame)
              (refine regP 2 hS (fun _ h => h) rfl (by kernel_rfl) (by kernel_rfl) (by kernel_rfl) (fun _ _ _ _ h => h) (by rfl) (by rfl) ?_; apply Exists.intro; apply And.intro; (intro w; go_simp; try with_reducible rfl); go_frame)
              (refine regR 3 hS (fun _ h => h) rfl (by kernel_rfl) (by kernel_rfl) (by kernel_rfl) (by kernel_rfl) (by kernel_rfl) (fun _ _ _ _ h => h) (by rfl) (by rfl) ?_; (first
                                            | refine ⟨.int .i64 (x : Int), fun u hu => rLdRd1 (hu.irRd (k := 3) rfl) _ _ (by rfl) _ (by rfl) (agOf (by rfl)) k (by omega) (iv_at HX.out) (by omega), ?_⟩
                                            | refine ⟨.slice ao2 ls.length c2, yLd _ _ (by rfl) _ _ (by rfl) (agOf (by rfl)) Has.z (wl_last), ?_⟩
                                            | refine ⟨.int .i64 (y : Int), fun u hu => rLdRd1 (hu.irRd (k := 2) rfl) _ _ (by rfl) _ (by rfl) (agOf (by rfl)) m (by omega) (iv_at HY.out) (by omega), ?_⟩); go_frame)
              (refine regP 4 hS (fun _ h => h) rfl (by kernel_rfl) (by kernel_rfl) (by kernel_rfl) (fun _ _ _ _ h => h) (by rfl) (by rfl) ?_; apply Exists.intro; apply And.intro; (intro w; go_simp; try with_reducible rfl); go_frame)
              (refine regP 5 hS (fun _ h => h) rfl (by kernel_rfl) (by kernel_rfl) (by kernel_rfl) (fun _ _ _ _ h => h) (by rfl) (by rfl) ?_; apply Exists.intro; apply And.intro; (intro w; go_simp; try with_reducible rfl); go_frame)
              (refine regP 6 hS (fun _ h => h) rfl (by kernel_rfl) (by kernel_rfl) (by kernel_rfl) (fun _ _ _ _ h => h) (by rfl) (by rfl) ?_; apply Exists.intro; apply And.intro; (intro w; go_simp; try with_reducible rfl); go_frame)
              (first | (refine regP 7 hS (fun _ h => h) rfl (by kernel_rfl) (by kernel_rfl) (by kernel_rfl) (fun _ _ _ _ h => h) (by rfl) (by rfl) ?_; apply Exists.intro; apply And.intro; (intro w; go_simp; try with_reducible rfl); go_frame) | (refine regN 7 hS (fun _ h => h) rfl (by kernel_rfl) (by kernel_rfl) (by kernel_rfl) (fun _ _ _ h => h) (by rfl) (by rfl) ?_; go_frame))
              (first | (refine regP 8 hS (fun _ h => h) rfl (by kernel_rfl) (by kernel_rfl) (by kernel_rfl) (fun _ _ _ _ h => h) (by rfl) (by rfl) ?_; apply Exists.intro; apply And.intro; (intro w; go_simp; try with_reducible rfl); go_frame) | (refine regN 8 hS (fun _ h => h) rfl (by kernel_rfl) (by kernel_rfl) (by kernel_rfl) (fun _ _ _ h => h) (by rfl) (by rfl) ?_; go_frame))
              (first | (refine regP 9 hS (fun _ h => h) rfl (by kernel_rfl) (by kernel_rfl) (by kernel_rfl) (fun _ _ _ _ h => h) (by rfl) (by rfl) ?_; apply Exists.intro; apply And.intro; (intro w; go_simp; try with_reducible rfl); go_frame) | (refine regN 9 hS (fun _ h => h) rfl (by kernel_rfl) (by kernel_rfl) (by kernel_rfl) (fun _ _ _ h => h) (by rfl) (by rfl) ?_; go_frame))
              (first | (refine regR 10 hS (fun _ h => h) rfl (by kernel_rfl) (by kernel_rfl) (by kernel_rfl) (by kernel_rfl) (by kernel_rfl) (fun _ _ _ _ h => h) (by rfl) (by rfl) ?_; (first
                                            | refine ⟨.int .i64 (x : Int), fun u hu => rLdRd1 (hu.irRd (k := 3) rfl) _ _ (by rfl) _ (by rfl) (agOf (by rfl)) k (by omega) (iv_at HX.out) (by omega), ?_⟩
                                            | refine ⟨.slice ao2 ls.length c2, yLd _ _ (by rfl) _ _ (by rfl) (agOf (by rfl)) Has.z (wl_last), ?_⟩
                                            | refine ⟨.int .i64 (y : Int), fun u hu => rLdRd1 (hu.irRd (k := 2) rfl) _ _ (by rfl) _ (by rfl) (agOf (by rfl)) m (by omega) (iv_at HY.out) (by omega), ?_⟩); go_frame) | (refine regN 10 hS (fun _ h => h) rfl (by kernel_rfl) (by kernel_rfl) (by kernel_rfl) (fun _ _ _ h => h) (by rfl) (by rfl) ?_; go_frame))
              (first | (refine regP 11 hS (fun _ h => h) rfl (by kernel_rfl) (by kernel_rfl) (by kernel_rfl) (fun _ _ _ _ h => h) (by rfl) (by rfl) ?_; apply Exists.intro; apply And.intro; (intro w; go_simp; try with_reducible rfl); go_frame) | (refine regN 11 hS (fun _ h => h) rfl (by kernel_rfl) (by kernel_rfl) (by kernel_rfl) (fun _ _ _ h => h) (by rfl) (by rfl) ?_; go_frame))
              (first | (refine regP 12 hS (fun _ h => h) rfl (by kernel_rfl) (by kernel_rfl) (by kernel_rfl) (fun _ _ _ _ h => h) (by rfl) (by rfl) ?_; apply Exists.intro; apply And.intro; (intro w; go_simp; try with_reducible rfl); go_frame) | (refine regN 12 hS (fun _ h => h) rfl (by kernel_rfl) (by kernel_rfl) (by kernel_rfl) (fun _ _ _ h => h) (by rfl) (by rfl) ?_; go_frame))
              (first | (refine regP 13 hS (fun _ h => h) rfl (by kernel_rfl) (by kernel_rfl) (by kernel_rfl) (fun _ _ _ _ h => h) (by rfl) (by rfl) ?_; apply Exists.intro; apply And.intro; (intro w; go_simp; try with_reducible rfl); go_frame) | (refine regN 13 hS (fun _ h => h) rfl (by kernel_rfl) (by kernel_rfl) (by kernel_rfl) (fun _ _ _ h => h) (by rfl) (by rfl) ?_; go_frame))
              (first | (refine regP 14 hS (fun _ h => h) rfl (by kernel_rfl) (by kernel_rfl) (by kernel_rfl) (fun _ _ _ _ h => h) (by rfl) (by rfl) ?_; apply Exists.intro; apply And.intro; (intro w; go_simp; try with_reducible rfl); go_frame) | (refine regN 14 hS (fun _ h => h) rfl (by kernel_rfl) (by kernel_rfl) (by kernel_rfl) (fun _ _ _ h => h) (by rfl) (by rfl) ?_; go_frame))
              (first | (refine regP 15 hS (fun _ h => h) rfl (by kernel_rfl) (by kernel_rfl) (by kernel_rfl) (fun _ _ _ _ h => h) (by rfl) (by rfl) ?_; apply Exists.intro; apply And.intro; (intro w; go_simp; try with_reducible rfl); go_frame) | (refine regN 15 hS (fun _ h => h) rfl (by kernel_rfl) (by kernel_rfl) (by kernel_rfl) (fun _ _ _ h => h) (by rfl) (by rfl) ?_; go_frame))
              (first | (refine regP 16 hS (fun _ h => h) rfl (by kernel_rfl) (by kernel_rfl) (by kernel_rfl) (fun _ _ _ _ h => h) (by rfl) (by rfl) ?_; apply Exists.intro; apply And.intro; (intro w; go_simp; try with_reducible rfl); go_frame) | (refine regN 16 hS (fun _ h => h) rfl (by kernel_rfl) (by kernel_rfl) (by kernel_rfl) (fun _ _ _ h => h) (by rfl) (by rfl) ?_; go_frame))
              (first | (refine regR 17 hS (fun _ h => h) rfl (by kernel_rfl) (by kernel_rfl) (by kernel_rfl) (by kernel_rfl) (by kernel_rfl) (fun _ _ _ _ h => h) (by rfl) (by rfl) ?_; (first
                                            | refine ⟨.int .i64 (x : Int), fun u hu => rLdRd1 (hu.irRd (k := 3) rfl) _ _ (by rfl) _ (by rfl) (agOf (by rfl)) k (by omega) (iv_at HX.out) (by omega), ?_⟩
                                            | refine ⟨.slice ao2 ls.length c2, yLd _ _ (by rfl) _ _ (by rfl) (agOf (by rfl)) Has.z (wl_last), ?_⟩
                                            | refine ⟨.int .i64 (y : Int), fun u hu => rLdRd1 (hu.irRd (k := 2) rfl) _ _ (by rfl) _ (by rfl) (agOf (by rfl)) m (by omega) (iv_at HY.out) (by omega), ?_⟩); go_frame) | (refine regN 17 hS (fun _ h => h) rfl (by kernel_rfl) (by kernel_rfl) (by kernel_rfl) (fun _ _ _ h => h) (by rfl) (by rfl) ?_; go_frame))
              (first | (refine regP 18 hS (fun _ h => h) rfl (by kernel_rfl) (by kernel_rfl) (by kernel_rfl) (fun _ _ _ _ h => h) (by rfl) (by rfl) ?_; apply Exists.intro; apply And.intro; (intro w; go_simp; try with_reducible rfl); go_frame) | (refine regN 18 hS (fun _ h => h) rfl (by kernel_rfl) (by kernel_rfl) (by kernel_rfl) (fun _ _ _ h => h) (by rfl) (by rfl) ?_; go_frame))
              (first | (refine regP 19 hS (fun _ h => h) rfl (by kernel_rfl) (by kernel_rfl) (by kernel_rfl) (fun _ _ _ _ h => h) (by rfl) (by rfl) ?_; apply Exists.intro; apply And.intro; (intro w; go_simp; try with_reducible rfl); go_frame) | (refine regN 19 hS (fun _ h => h) rfl (by kernel_rfl) (by kernel_rfl) (by kernel_rfl) (fun _ _ _ h => h) (by rfl) (by rfl) ?_; go_frame))
              (first | (refine regP 20 hS (fun _ h => h) rfl (by kernel_rfl) (by kernel_rfl) (by kernel_rfl) (fun _ _ _ _ h => h) (by rfl) (by rfl) ?_; apply Exists.intro; apply And.intro; (intro w; go_simp; try with_reducible rfl); go_frame) | (refine regN 20 hS (fun _ h => h) rfl (by kernel_rfl) (by kernel_rfl) (by kernel_rfl) (fun _ _ _ h => h) (by rfl) (by rfl) ?_; go_frame))
              (first | (refine regR 21 hS (fun _ h => h) rfl (by kernel_rfl) (by kernel_rfl) (by kernel_rfl) (by kernel_rfl) (by kernel_rfl) (fun _ _ _ _ h => h) (by rfl) (by rfl) ?_; (first
                                            | refine ⟨.int .i64 (x : Int), fun u hu => rLdRd1 (hu.irRd (k := 3) rfl) _ _ (by rfl) _ (by rfl) (agOf (by rfl)) k (by omega) (iv_at HX.out) (by omega), ?_⟩
                                            | refine ⟨.slice ao2 ls.length c2, yLd _ _ (by rfl) _ _ (by rfl) (agOf (by rfl)) Has.z (wl_last), ?_⟩
                                            | refine ⟨.int .i64 (y : Int), fun u hu => rLdRd1 (hu.irRd (k := 2) rfl) _ _ (by rfl) _ (by rfl) (agOf (by rfl)) m (by omega) (iv_at HY.out) (by omega), ?_⟩); go_frame) | (refine regN 21 hS (fun _ h => h) rfl (by kernel_rfl) (by kernel_rfl) (by kernel_rfl) (fun _ _ _ h => h) (by rfl) (by rfl) ?_; go_frame))
              (first | (refine regP 22 hS (fun _ h => h) rfl (by kernel_rfl) (by kernel_rfl) (by kernel_rfl) (fun _ _ _ _ h => h) (by rfl) (by rfl) ?_; apply Exists.intro; apply And.intro; (intro w; go_simp; try with_reducible rfl); go_frame) | (refine regN 22 hS (fun _ h => h) rfl (by kernel_rfl) (by kernel_rfl) (by kernel_rfl) (fun _ _ _ h => h) (by rfl) (by rfl) ?_; go_frame))
              (first | (refine regP 23 hS (fun _ h => h) rfl (by kernel_rfl) (by kernel_rfl) (by kernel_rfl) (fun _ _ _ _ h => h) (by rfl) (by rfl) ?_; apply Exists.intro; apply And.intro; (intro w; go_simp; try with_reducible rfl); go_frame; try simp (disch := omega) only [IntWalk.i64_in]) | (refine regN 23 hS (fun _ h => h) rfl (by kernel_rfl) (by kernel_rfl) (by kernel_rfl) (fun _ _ _ h => h) (by rfl) (by rfl) ?_; go_frame))
              (first | (refine regP 24 hS (fun _ h => h) rfl (by kernel_rfl) (by kernel_rfl) (by kernel_rfl) (fun _ _ _ _ h => h) (by rfl) (by rfl) ?_; apply Exists.intro; apply And.intro; (intro w; go_simp; try with_reducible rfl); go_frame) | (refine regN 24 hS (fun _ h => h) rfl (by kernel_rfl) (by kernel_rfl) (by kernel_rfl) (fun _ _ _ h => h) (by rfl) (by rfl) ?_; go_frame))
              (first | (refine regR 25 hS (fun _ h => h) rfl (by kernel_rfl) (by kernel_rfl) (by kernel_rfl) (by kernel_rfl) (by kernel_rfl) (fun _ _ _ _ h => h) (by rfl) (by rfl) ?_; (first
                                            | refine ⟨.int .i64 (x : Int), fun u hu => rLdRd1 (hu.irRd (k := 3) rfl) _ _ (by rfl) _ (by rfl) (agOf (by rfl)) k (by omega) (iv_at HX.out) (by omega), ?_⟩
                                            | refine ⟨.slice ao2 ls.length c2, yLd _ _ (by rfl) _ _ (by rfl) (agOf (by rfl)) Has.z (wl_last), ?_⟩
                                            | refine ⟨.int .i64 (y : Int), fun u hu => rLdRd1 (hu.irRd (k := 2) rfl) _ _ (by rfl) _ (by rfl) (agOf (by rfl)) m (by omega) (iv_at HY.out) (by omega), ?_⟩); go_frame) | (refine regN 25 hS (fun _ h => h) rfl (by kernel_rfl) (by kernel_rfl) (by kernel_rfl) (fun _ _ _ h => h) (by rfl) (by rfl) ?_; go_frame))
              (first | (refine regP 26 hS (fun _ h => h) rfl (by kernel_rfl) (by kernel_rfl) (by kernel_rfl) (fun _ _ _ _ h => h) (by rfl) (by rfl) ?_; apply Exists.intro; apply And.intro; (intro w; go_simp; try with_reducible rfl); go_frame) | (refine regN 26 hS (fun _ h => h) rfl (by kernel_rfl) (by kernel_rfl) (by kernel_rfl) (fun _ _ _ h => h) (by rfl) (by rfl) ?_; go_frame))
              (first | (refine regP 27 hS (fun _ h => h) rfl (by kernel_rfl) (by kernel_rfl) (by kernel_rfl) (fun _ _ _ _ h => h) (by rfl) (by rfl) ?_; apply Exists.intro; apply And.intro; (intro w; go_simp; try with_reducible rfl); go_frame) | (refine regN 27 hS (fun _ h => h) rfl (by kernel_rfl) (by kernel_rfl) (by kernel_rfl) (fun _ _ _ h => h) (by rfl) (by rfl) ?_; go_frame))
              (first | (refine regP 28 hS (fun _ h => h) rfl (by kernel_rfl) (by kernel_rfl) (by kernel_rfl) (fun _ _ _ _ h => h) (by rfl) (by rfl) ?_; apply Exists.intro; apply And.intro; (intro w; go_simp; try with_reducible rfl); go_frame) | (refine regN 28 hS (fun _ h => h) rfl (by kernel_rfl) (by kernel_rfl) (by kernel_rfl) (fun _ _ _ h => h) (by rfl) (by rfl) ?_; go_frame))
              (refine regP 29 hS (fun _ h => h) rfl (by kernel_rfl) (by kernel_rfl) (by kernel_rfl) (fun _ _ _ _ h => h) (by rfl) (by rfl) ?_; apply Exists.intro; apply And.intro; (intro w; go_simp; try with_reducible rfl); go_frame)
              refine regDone (by kernel_rfl) ?_
              go_wp2_with (first
                | (refine toList (by rfl) ?_; refine ld hS _ _ (by rfl) _ _ (by rfl) (agOf (by rfl)) Has.z (wl_last) ?_)
                | (refine toList (by rfl) ?_; refine bsF hS _ _ _ (by rfl) (elOf (by rfl)) [.int .i64 (i : Int)] (by rfl) (by rfl) (by decide) (by decide) (by intro v hv; rw [List.mem_singleton.1 hv]; rfl) ?_; intro b1 w1 hS1; clear hS; have hS := csIr (l := [i]) (by simp) (show Sat W w1 (Cs b1 _ (iv [i]) :: _) from hS1); clear hS1)
                | (refine toList (by rfl) ?_; refine apI (l := ls) (m := [i]) hS _ _ _ _ (by rfl) (by rfl) (by rfl) (elOf (by rfl)) rfl rfl (by rfl) (inOf (by rfl)) (Has.s (Has.s (Has.s Has.z))) (by exact hS.irRd (k := 0) rfl) (by simp only [List.length_cons, List.length_nil]; omega) ?_; intro v' w1 hS1; clear hS; have hS := hS1; clear hS1; dsimp only [List.set_cons_zero, List.set_cons_succ] at hS; replace hS := hS.drop; obtain ⟨ao3, c3, rfl, _⟩ := hS.irShape (k := 2) rfl)
                | (refine toList (by rfl) ?_; refine st hS _ _ _ (by rfl) _ _ (by rfl) _ (by first | exact evC | exact evT (by rfl)) (by rfl) (szOf (by rfl)) Has.z (by rw [wl_len]; decide) ?_; intro w1 hS1; clear hS; have hS := hS1; clear hS1; simp only [List.set_cons_zero] at hS; rw [wl_setT] at hS))
              exact ⟨⟨k + 1, .slice ao3 (ls.length + 1) c3, by go_num, HKL.out, by rw [HN.out]; simpa only [List.length_append, List.length_cons, List.length_nil, Nat.zero_add] using hS⟩, by simp [intOf]; have := HKL.out; omega⟩
            · obtain ⟨m, hm⟩ : ∃ m, ls.length = m + 1 := ⟨ls.length - 1, by omega⟩
              obtain ⟨y, hy⟩ : ∃ y, ls[m]? = some y := ⟨_, List.getElem?_eq_getElem (by omega)⟩
              have HY := Lib.hid hy
              have hsub : (ls.length : Int) - 1 = (m : Int) := by omega
              have e2 : ((ls.length : Int) == 0) = false := beq_eq_false_iff_ne.2 (by omega)
              have k3 : (m : Int) < (ls.length : Int) := by omega
              have k4 : (1 : Int) ≤ (ls.length : Int) := by omega
              have k5 : (ls.length : Int) ≤ 100 := by omega
              obtain ⟨b2, off2, rfl⟩ : ∃ b off, ao2 = some ⟨b, off, none⟩ := by
                obtain ⟨ao', c', he, _, _, _, h5⟩ := hS.irRd (k := 2) rfl
                simp only [Value.slice.injEq, true_and] at he
                obtain ⟨rfl, rfl⟩ := he
                obtain ⟨b, off, h6, _⟩ := h5 (by omega)
                exact ⟨b, off, h6⟩
              rcases HLS.out m y hm hy with ⟨hyi, he⟩ | ⟨hyi, he⟩
              · have HN := Lib.hid (show tpl l i (k + 1) = ls by rw [HNX.out, ← he])
                have e3 : ((y : Int) != (i : Int)) = false := by rw [hyi]; simp
                clear hz hx hkl hk hls hq HNX HLS HNL hy hyi he hm
                go_wp2
                refine regStart [] hS (by kernel_rfl) rfl ?_
                intro w1 hS1
                clear hS; have hS := hS1; clear hS1
                (refine regP 0 hS (fun _ h => h) rfl (by kernel_rfl) (by kernel_rfl) (by kernel_rfl) (fun _ _ _ _ h => h) (by rfl) (by rfl) ?_; apply Exists.intro; apply And.intro; (intro w; go_simp; try with_reducible rfl); go_frame)
                (refine regP 1 hS (fun _ h => h) rfl (by kernel_rfl) (by kernel_rfl) (by kernel_rfl) (fun _ _ _ _ h => h) (by rfl) (by rfl) ?_; apply Exists.intro; apply And.intro; (intro w; go_simp; try with_reducible rfl); go_frame)
                (refine regP 2 hS (fun _ h => h) rfl (by kernel_rfl) (by kernel_rfl) (by kernel_rfl) (fun _ _ _ _ h => h) (by rfl) (by rfl) ?_; apply Exists.intro; apply And.intro; (intro w; go_simp; try with_reducible rfl); go_frame)
                (refine regR 3 hS (fun _ h => h) rfl (by kernel_rfl) (by kernel_rfl) (by kernel_rfl) (by kernel_rfl) (by kernel_rfl) (fun _ _ _ _ h => h) (by rfl) (by rfl) ?_; (first
                                                  | refine ⟨.int .i64 (x : Int), fun u hu => rLdRd1 (hu.irRd (k := 3) rfl) _ _ (by rfl) _ (by rfl) (agOf (by rfl)) k (by omega) (iv_at HX.out) (by omega), ?_⟩
                                                  | refine ⟨.slice (some ⟨b2, off2, none⟩) ls.length c2, yLd _ _ (by rfl) _ _ (by rfl) (agOf (by rfl)) Has.z (wl_last), ?_⟩
                                                  | refine ⟨.int .i64 (y : Int), fun u hu => rLdRd1 (hu.irRd (k := 2) rfl) _ _ (by rfl) _ (by rfl) (agOf (by rfl)) m (by omega) (iv_at HY.out) (by omega), ?_⟩); go_frame)
                (refine regP 4 hS (fun _ h => h) rfl (by kernel_rfl) (by kernel_rfl) (by kernel_rfl) (fun _ _ _ _ h => h) (by rfl) (by rfl) ?_; apply Exists.intro; apply And.intro; (intro w; go_simp; try with_reducible rfl); go_frame)
                (refine regP 5 hS (fun _ h => h) rfl (by kernel_rfl) (by kernel_rfl) (by kernel_rfl) (fun _ _ _ _ h => h) (by rfl) (by rfl) ?_; apply Exists.intro; apply And.intro; (intro w; go_simp; try with_reducible rfl); go_frame)
                (refine regP 6 hS (fun _ h => h) rfl (by kernel_rfl) (by kernel_rfl) (by kernel_rfl) (fun _ _ _ _ h => h) (by rfl) (by rfl) ?_; apply Exists.intro; apply And.intro; (intro w; go_simp; try with_reducible rfl); go_frame)
                (first | (refine regP 7 hS (fun _ h => h) rfl (by kernel_rfl) (by kernel_rfl) (by kernel_rfl) (fun _ _ _ _ h => h) (by rfl) (by rfl) ?_; apply Exists.intro; apply And.intro; (intro w; go_simp; try with_reducible rfl); go_frame) | (refine regN 7 hS (fun _ h => h) rfl (by kernel_rfl) (by kernel_rfl) (by kernel_rfl) (fun _ _ _ h => h) (by rfl) (by rfl) ?_; go_frame))
                (first | (refine regP 8 hS (fun _ h => h) rfl (by kernel_rfl) (by kernel_rfl) (by kernel_rfl) (fun _ _ _ _ h => h) (by rfl) (by rfl) ?_; apply Exists.intro; apply And.intro; (intro w; go_simp; try with_reducible rfl); go_frame) | (refine regN 8 hS (fun _ h => h) rfl (by kernel_rfl) (by kernel_rfl) (by kernel_rfl) (fun _ _ _ h => h) (by rfl) (by rfl) ?_; go_frame))
                (first | (refine regP 9 hS (fun _ h => h) rfl (by kernel_rfl) (by kernel_rfl) (by kernel_rfl) (fun _ _ _ _ h => h) (by rfl) (by rfl) ?_; apply Exists.intro; apply And.intro; (intro w; go_simp; try with_reducible rfl); go_frame) | (refine regN 9 hS (fun _ h => h) rfl (by kernel_rfl) (by kernel_rfl) (by kernel_rfl) (fun _ _ _ h => h) (by rfl) (by rfl) ?_; go_frame))
                (first | (refine regR 10 hS (fun _ h => h) rfl (by kernel_rfl) (by kernel_rfl) (by kernel_rfl) (by kernel_rfl) (by kernel_rfl) (fun _ _ _ _ h => h) (by rfl) (by rfl) ?_; (first
                                                  | refine ⟨.int .i64 (x : Int), fun u hu => rLdRd1 (hu.irRd (k := 3) rfl) _ _ (by rfl) _ (by rfl) (agOf (by rfl)) k (by omega) (iv_at HX.out) (by omega), ?_⟩
                                                  | refine ⟨.slice (some ⟨b2, off2, none⟩) ls.length c2, yLd _ _ (by rfl) _ _ (by rfl) (agOf (by rfl)) Has.z (wl_last), ?_⟩
                                                  | refine ⟨.int .i64 (y : Int), fun u hu => rLdRd1 (hu.irRd (k := 2) rfl) _ _ (by rfl) _ (by rfl) (agOf (by rfl)) m (by omega) (iv_at HY.out) (by omega), ?_⟩); go_frame) | (refine regN 10 hS (fun _ h => h) rfl (by kernel_rfl) (by kernel_rfl) (by kernel_rfl) (fun _ _ _ h => h) (by rfl) (by rfl) ?_; go_frame))
                (first | (refine regP 11 hS (fun _ h => h) rfl (by kernel_rfl) (by kernel_rfl) (by kernel_rfl) (fun _ _ _ _ h => h) (by rfl) (by rfl) ?_; apply Exists.intro; apply And.intro; (intro w; go_simp; try with_reducible rfl); go_frame) | (refine regN 11 hS (fun _ h => h) rfl (by kernel_rfl) (by kernel_rfl) (by kernel_rfl) (fun _ _ _ h => h) (by rfl) (by rfl) ?_; go_frame))
                (first | (refine regP 12 hS (fun _ h => h) rfl (by kernel_rfl) (by kernel_rfl) (by kernel_rfl) (fun _ _ _ _ h => h) (by rfl) (by rfl) ?_; apply Exists.intro; apply And.intro; (intro w; go_simp; try with_reducible rfl); go_frame) | (refine regN 12 hS (fun _ h => h) rfl (by kernel_rfl) (by kernel_rfl) (by kernel_rfl) (fun _ _ _ h => h) (by rfl) (by rfl) ?_; go_frame))
                (first | (refine regP 13 hS (fun _ h => h) rfl (by kernel_rfl) (by kernel_rfl) (by kernel_rfl) (fun _ _ _ _ h => h) (by rfl) (by rfl) ?_; apply Exists.intro; apply And.intro; (intro w; go_simp; try with_reducible rfl); go_frame) | (refine regN 13 hS (fun _ h => h) rfl (by kernel_rfl) (by kernel_rfl) (by kernel_rfl) (fun _ _ _ h => h) (by rfl) (by rfl) ?_; go_frame))
                (first | (refine regP 14 hS (fun _ h => h) rfl (by kernel_rfl) (by kernel_rfl) (by kernel_rfl) (fun _ _ _ _ h => h) (by rfl) (by rfl) ?_; apply Exists.intro; apply And.intro; (intro w; go_simp; try with_reducible rfl); go_frame) | (refine regN 14 hS (fun _ h => h) rfl (by kernel_rfl) (by kernel_rfl) (by kernel_rfl) (fun _ _ _ h => h) (by rfl) (by rfl) ?_; go_frame))
                (first | (refine regP 15 hS (fun _ h => h) rfl (by kernel_rfl) (by kernel_rfl) (by kernel_rfl) (fun _ _ _ _ h => h) (by rfl) (by rfl) ?_; apply Exists.intro; apply And.intro; (intro w; go_simp; try with_reducible rfl); go_frame) | (refine regN 15 hS (fun _ h => h) rfl (by kernel_rfl) (by kernel_rfl) (by kernel_rfl) (fun _ _ _ h => h) (by rfl) (by rfl) ?_; go_frame))
                (first | (refine regP 16 hS (fun _ h => h) rfl (by kernel_rfl) (by kernel_rfl) (by kernel_rfl) (fun _ _ _ _ h => h) (by rfl) (by rfl) ?_; apply Exists.intro; apply And.intro; (intro w; go_simp; try with_reducible rfl); go_frame) | (refine regN 16 hS (fun _ h => h) rfl (by kernel_rfl) (by kernel_rfl) (by kernel_rfl) (fun _ _ _ h => h) (by rfl) (by rfl) ?_; go_frame))
                (first | (refine regR 17 hS (fun _ h => h) rfl (by kernel_rfl) (by kernel_rfl) (by kernel_rfl) (by kernel_rfl) (by kernel_rfl) (fun _ _ _ _ h => h) (by rfl) (by rfl) ?_; (first
                                                  | refine ⟨.int .i64 (x : Int), fun u hu => rLdRd1 (hu.irRd (k := 3) rfl) _ _ (by rfl) _ (by rfl) (agOf (by rfl)) k (by omega) (iv_at HX.out) (by omega), ?_⟩
                                                  | refine ⟨.slice (some ⟨b2, off2, none⟩) ls.length c2, yLd _ _ (by rfl) _ _ (by rfl) (agOf (by rfl)) Has.z (wl_last), ?_⟩
                                                  | refine ⟨.int .i64 (y : Int), fun u hu => rLdRd1 (hu.irRd (k := 2) rfl) _ _ (by rfl) _ (by rfl) (agOf (by rfl)) m (by omega) (iv_at HY.out) (by omega), ?_⟩); go_frame) | (refine regN 17 hS (fun _ h => h) rfl (by kernel_rfl) (by kernel_rfl) (by kernel_rfl) (fun _ _ _ h => h) (by rfl) (by rfl) ?_; go_frame))
                (first | (refine regP 18 hS (fun _ h => h) rfl (by kernel_rfl) (by kernel_rfl) (by kernel_rfl) (fun _ _ _ _ h => h) (by rfl) (by rfl) ?_; apply Exists.intro; apply And.intro; (intro w; go_simp; try with_reducible rfl); go_frame) | (refine regN 18 hS (fun _ h => h) rfl (by kernel_rfl) (by kernel_rfl) (by kernel_rfl) (fun _ _ _ h => h) (by rfl) (by rfl) ?_; go_frame))
                (first | (refine regP 19 hS (fun _ h => h) rfl (by kernel_rfl) (by kernel_rfl) (by kernel_rfl) (fun _ _ _ _ h => h) (by rfl) (by rfl) ?_; apply Exists.intro; apply And.intro; (intro w; go_simp; try with_reducible rfl); go_frame) | (refine regN 19 hS (fun _ h => h) rfl (by kernel_rfl) (by kernel_rfl) (by kernel_rfl) (fun _ _ _ h => h) (by rfl) (by rfl) ?_; go_frame))
                (first | (refine regP 20 hS (fun _ h => h) rfl (by kernel_rfl) (by kernel_rfl) (by kernel_rfl) (fun _ _ _ _ h => h) (by rfl) (by rfl) ?_; apply Exists.intro; apply And.intro; (intro w; go_simp; try with_reducible rfl); go_frame) | (refine regN 20 hS (fun _ h => h) rfl (by kernel_rfl) (by kernel_rfl) (by kernel_rfl) (fun _ _ _ h => h) (by rfl) (by rfl) ?_; go_frame))
                (first | (refine regR 21 hS (fun _ h => h) rfl (by kernel_rfl) (by kernel_rfl) (by kernel_rfl) (by kernel_rfl) (by kernel_rfl) (fun _ _ _ _ h => h) (by rfl) (by rfl) ?_; (first
                                                  | refine ⟨.int .i64 (x : Int), fun u hu => rLdRd1 (hu.irRd (k := 3) rfl) _ _ (by rfl) _ (by rfl) (agOf (by rfl)) k (by omega) (iv_at HX.out) (by omega), ?_⟩
                                                  | refine ⟨.slice (some ⟨b2, off2, none⟩) ls.length c2, yLd _ _ (by rfl) _ _ (by rfl) (agOf (by rfl)) Has.z (wl_last), ?_⟩
                                                  | refine ⟨.int .i64 (y : Int), fun u hu => rLdRd1 (hu.irRd (k := 2) rfl) _ _ (by rfl) _ (by rfl) (agOf (by rfl)) m (by omega) (iv_at HY.out) (by omega), ?_⟩); go_frame) | (refine regN 21 hS (fun _ h => h) rfl (by kernel_rfl) (by kernel_rfl) (by kernel_rfl) (fun _ _ _ h => h) (by rfl) (by rfl) ?_; go_frame))
                (first | (refine regP 22 hS (fun _ h => h) rfl (by kernel_rfl) (by kernel_rfl) (by kernel_rfl) (fun _ _ _ _ h => h) (by rfl) (by rfl) ?_; apply Exists.intro; apply And.intro; (intro w; go_simp; try with_reducible rfl); go_frame) | (refine regN 22 hS (fun _ h => h) rfl (by kernel_rfl) (by kernel_rfl) (by kernel_rfl) (fun _ _ _ h => h) (by rfl) (by rfl) ?_; go_frame))
                (first | (refine regP 23 hS (fun _ h => h) rfl (by kernel_rfl) (by kernel_rfl) (by kernel_rfl) (fun _ _ _ _ h => h) (by rfl) (by rfl) ?_; apply Exists.intro; apply And.intro; (intro w; go_simp; try with_reducible rfl); go_frame; try simp (disch := omega) only [IntWalk.i64_in]) | (refine regN 23 hS (fun _ h => h) rfl (by kernel_rfl) (by kernel_rfl) (by kernel_rfl) (fun _ _ _ h => h) (by rfl) (by rfl) ?_; go_frame))
                (first | (refine regP 24 hS (fun _ h => h) rfl (by kernel_rfl) (by kernel_rfl) (by kernel_rfl) (fun _ _ _ _ h => h) (by rfl) (by rfl) ?_; apply Exists.intro; apply And.intro; (intro w; go_simp; try with_reducible rfl); go_frame) | (refine regN 24 hS (fun _ h => h) rfl (by kernel_rfl) (by kernel_rfl) (by kernel_rfl) (fun _ _ _ h => h) (by rfl) (by rfl) ?_; go_frame))
                (first | (refine regR 25 hS (fun _ h => h) rfl (by kernel_rfl) (by kernel_rfl) (by kernel_rfl) (by kernel_rfl) (by kernel_rfl) (fun _ _ _ _ h => h) (by rfl) (by rfl) ?_; (first
                                                  | refine ⟨.int .i64 (x : Int), fun u hu => rLdRd1 (hu.irRd (k := 3) rfl) _ _ (by rfl) _ (by rfl) (agOf (by rfl)) k (by omega) (iv_at HX.out) (by omega), ?_⟩
                                                  | refine ⟨.slice (some ⟨b2, off2, none⟩) ls.length c2, yLd _ _ (by rfl) _ _ (by rfl) (agOf (by rfl)) Has.z (wl_last), ?_⟩
                                                  | refine ⟨.int .i64 (y : Int), fun u hu => rLdRd1 (hu.irRd (k := 2) rfl) _ _ (by rfl) _ (by rfl) (agOf (by rfl)) m (by omega) (iv_at HY.out) (by omega), ?_⟩); go_frame) | (refine regN 25 hS (fun _ h => h) rfl (by kernel_rfl) (by kernel_rfl) (by kernel_rfl) (fun _ _ _ h => h) (by rfl) (by rfl) ?_; go_frame))
                (first | (refine regP 26 hS (fun _ h => h) rfl (by kernel_rfl) (by kernel_rfl) (by kernel_rfl) (fun _ _ _ _ h => h) (by rfl) (by rfl) ?_; apply Exists.intro; apply And.intro; (intro w; go_simp; try with_reducible rfl); go_frame) | (refine regN 26 hS (fun _ h => h) rfl (by kernel_rfl) (by kernel_rfl) (by kernel_rfl) (fun _ _ _ h => h) (by rfl) (by rfl) ?_; go_frame))
                (first | (refine regP 27 hS (fun _ h => h) rfl (by kernel_rfl) (by kernel_rfl) (by kernel_rfl) (fun _ _ _ _ h => h) (by rfl) (by rfl) ?_; apply Exists.intro; apply And.intro; (intro w; go_simp; try with_reducible rfl); go_frame) | (refine regN 27 hS (fun _ h => h) rfl (by kernel_rfl) (by kernel_rfl) (by kernel_rfl) (fun _ _ _ h => h) (by rfl) (by rfl) ?_; go_frame))
                (first | (refine regP 28 hS (fun _ h => h) rfl (by kernel_rfl) (by kernel_rfl) (by kernel_rfl) (fun _ _ _ _ h => h) (by rfl) (by rfl) ?_; apply Exists.intro; apply And.intro; (intro w; go_simp; try with_reducible rfl); go_frame) | (refine regN 28 hS (fun _ h => h) rfl (by kernel_rfl) (by kernel_rfl) (by kernel_rfl) (fun _ _ _ h => h) (by rfl) (by rfl) ?_; go_frame))
                (refine regP 29 hS (fun _ h => h) rfl (by kernel_rfl) (by kernel_rfl) (by kernel_rfl) (fun _ _ _ _ h => h) (by rfl) (by rfl) ?_; apply Exists.intro; apply And.intro; (intro w; go_simp; try with_reducible rfl); go_frame)
                refine regDone (by kernel_rfl) ?_
                go_wp2
                exact ⟨⟨k + 1, _, by go_num, HKL.out, by rw [HN.out]; exact hS⟩, by simp [intOf]; have := HKL.out; omega⟩
              · have HN := Lib.hid (show tpl l i (k + 1) = ls ++ [i] by rw [HNX.out, he])
                have e3 : ((y : Int) != (i : Int)) = true := bne_iff_ne.2 (by omega)
                clear hz hx hkl hk hls hq HNX HLS HNL hy hyi he hm
                go_wp2
                refine regStart [] hS (by kernel_rfl) rfl ?_
                intro w1 hS1
                clear hS; have hS := hS1; clear hS1
                (refine regP 0 hS (fun _ h => h) rfl (by kernel_rfl) (by kernel_rfl) (by kernel_rfl) (fun _ _ _ _ h => h) (by rfl) (by rfl) ?_; apply Exists.intro; apply And.intro; (intro w; go_simp; try with_reducible rfl); go_frame)
                (refine regP 1 hS (fun _ h => h) rfl (by kernel_rfl) (by kernel_rfl) (by kernel_rfl) (fun _ _ _ _ h => h) (by rfl) (by rfl) ?_; apply Exists.intro; apply And.intro; (intro w; go_simp; try with_reducible rfl); go_frame)
                (refine regP 2 hS (fun _ h => h) rfl (by kernel_rfl) (by kernel_rfl) (by kernel_rfl) (fun _ _ _ _ h => h) (by rfl) (by rfl) ?_; apply Exists.intro; apply And.intro; (intro w; go_simp; try with_reducible rfl); go_frame)
                (refine regR 3 hS (fun _ h => h) rfl (by kernel_rfl) (by kernel_rfl) (by kernel_rfl) (by kernel_rfl) (by kernel_rfl) (fun _ _ _ _ h => h) (by rfl) (by rfl) ?_; (first
                                                  | refine ⟨.int .i64 (x : Int), fun u hu => rLdRd1 (hu.irRd (k := 3) rfl) _ _ (by rfl) _ (by rfl) (agOf (by rfl)) k (by omega) (iv_at HX.out) (by omega), ?_⟩
                                                  | refine ⟨.slice (some ⟨b2, off2, none⟩) ls.length c2, yLd _ _ (by rfl) _ _ (by rfl) (agOf (by rfl)) Has.z (wl_last), ?_⟩
                                                  | refine ⟨.int .i64 (y : Int), fun u hu => rLdRd1 (hu.irRd (k := 2) rfl) _ _ (by rfl) _ (by rfl) (agOf (by rfl)) m (by omega) (iv_at HY.out) (by omega), ?_⟩); go_frame)
                (refine regP 4 hS (fun _ h => h) rfl (by kernel_rfl) (by kernel_rfl) (by kernel_rfl) (fun _ _ _ _ h => h) (by rfl) (by rfl) ?_; apply Exists.intro; apply And.intro; (intro w; go_simp; try with_reducible rfl); go_frame)
                (refine regP 5 hS (fun _ h => h) rfl (by kernel_rfl) (by kernel_rfl) (by kernel_rfl) (fun _ _ _ _ h => h) (by rfl) (by rfl) ?_; apply Exists.intro; apply And.intro; (intro w; go_simp; try with_reducible rfl); go_frame)
                (refine regP 6 hS (fun _ h => h) rfl (by kernel_rfl) (by kernel_rfl) (by kernel_rfl) (fun _ _ _ _ h => h) (by rfl) (by rfl) ?_; apply Exists.intro; apply And.intro; (intro w; go_simp; try with_reducible rfl); go_frame)
                (first | (refine regP 7 hS (fun _ h => h) rfl (by kernel_rfl) (by kernel_rfl) (by kernel_rfl) (fun _ _ _ _ h => h) (by rfl) (by rfl) ?_; apply Exists.intro; apply And.intro; (intro w; go_simp; try with_reducible rfl); go_frame) | (refine regN 7 hS (fun _ h => h) rfl (by kernel_rfl) (by kernel_rfl) (by kernel_rfl) (fun _ _ _ h => h) (by rfl) (by rfl) ?_; go_frame))
                (first | (refine regP 8 hS (fun _ h => h) rfl (by kernel_rfl) (by kernel_rfl) (by kernel_rfl) (fun _ _ _ _ h => h) (by rfl) (by rfl) ?_; apply Exists.intro; apply And.intro; (intro w; go_simp; try with_reducible rfl); go_frame) | (refine regN 8 hS (fun _ h => h) rfl (by kernel_rfl) (by kernel_rfl) (by kernel_rfl) (fun _ _ _ h => h) (by rfl) (by rfl) ?_; go_frame))
                (first | (refine regP 9 hS (fun _ h => h) rfl (by kernel_rfl) (by kernel_rfl) (by kernel_rfl) (fun _ _ _ _ h => h) (by rfl) (by rfl) ?_; apply Exists.intro; apply And.intro; (intro w; go_simp; try with_reducible rfl); go_frame) | (refine regN 9 hS (fun _ h => h) rfl (by kernel_rfl) (by kernel_rfl) (by kernel_rfl) (fun _ _ _ h => h) (by rfl) (by rfl) ?_; go_frame))
                (first | (refine regR 10 hS (fun _ h => h) rfl (by kernel_rfl) (by kernel_rfl) (by kernel_rfl) (by kernel_rfl) (by kernel_rfl) (fun _ _ _ _ h => h) (by rfl) (by rfl) ?_; (first
                                                  | refine ⟨.int .i64 (x : Int), fun u hu => rLdRd1 (hu.irRd (k := 3) rfl) _ _ (by rfl) _ (by rfl) (agOf (by rfl)) k (by omega) (iv_at HX.out) (by omega), ?_⟩
                                                  | refine ⟨.slice (some ⟨b2, off2, none⟩) ls.length c2, yLd _ _ (by rfl) _ _ (by rfl) (agOf (by rfl)) Has.z (wl_last), ?_⟩
                                                  | refine ⟨.int .i64 (y : Int), fun u hu => rLdRd1 (hu.irRd (k := 2) rfl) _ _ (by rfl) _ (by rfl) (agOf (by rfl)) m (by omega) (iv_at HY.out) (by omega), ?_⟩); go_frame) | (refine regN 10 hS (fun _ h => h) rfl (by kernel_rfl) (by kernel_rfl) (by kernel_rfl) (fun _ _ _ h => h) (by rfl) (by rfl) ?_; go_frame))
                (first | (refine regP 11 hS (fun _ h => h) rfl (by kernel_rfl) (by kernel_rfl) (by kernel_rfl) (fun _ _ _ _ h => h) (by rfl) (by rfl) ?_; apply Exists.intro; apply And.intro; (intro w; go_simp; try with_reducible rfl); go_frame) | (refine regN 11 hS (fun _ h => h) rfl (by kernel_rfl) (by kernel_rfl) (by kernel_rfl) (fun _ _ _ h => h) (by rfl) (by rfl) ?_; go_frame))
                (first | (refine regP 12 hS (fun _ h => h) rfl (by kernel_rfl) (by kernel_rfl) (by kernel_rfl) (fun _ _ _ _ h => h) (by rfl) (by rfl) ?_; apply Exists.intro; apply And.intro; (intro w; go_simp; try with_reducible rfl); go_frame) | (refine regN 12 hS (fun _ h => h) rfl (by kernel_rfl) (by kernel_rfl) (by kernel_rfl) (fun _ _ _ h => h) (by rfl) (by rfl) ?_; go_frame))
                (first | (refine regP 13 hS (fun _ h => h) rfl (by kernel_rfl) (by kernel_rfl) (by kernel_rfl) (fun _ _ _ _ h => h) (by rfl) (by rfl) ?_; apply Exists.intro; apply And.intro; (intro w; go_simp; try with_reducible rfl); go_frame) | (refine regN 13 hS (fun _ h => h) rfl (by kernel_rfl) (by kernel_rfl) (by kernel_rfl) (fun _ _ _ h => h) (by rfl) (by rfl) ?_; go_frame))
                (first | (refine regP 14 hS (fun _ h => h) rfl (by kernel_rfl) (by kernel_rfl) (by kernel_rfl) (fun _ _ _ _ h => h) (by rfl) (by rfl) ?_; apply Exists.intro; apply And.intro; (intro w; go_simp; try with_reducible rfl); go_frame) | (refine regN 14 hS (fun _ h => h) rfl (by kernel_rfl) (by kernel_rfl) (by kernel_rfl) (fun _ _ _ h => h) (by rfl) (by rfl) ?_; go_frame))
                (first | (refine regP 15 hS (fun _ h => h) rfl (by kernel_rfl) (by kernel_rfl) (by kernel_rfl) (fun _ _ _ _ h => h) (by rfl) (by rfl) ?_; apply Exists.intro; apply And.intro; (intro w; go_simp; try with_reducible rfl); go_frame) | (refine regN 15 hS (fun _ h => h) rfl (by kernel_rfl) (by kernel_rfl) (by kernel_rfl) (fun _ _ _ h => h) (by rfl) (by rfl) ?_; go_frame))
                (first | (refine regP 16 hS (fun _ h => h) rfl (by kernel_rfl) (by kernel_rfl) (by kernel_rfl) (fun _ _ _ _ h => h) (by rfl) (by rfl) ?_; apply Exists.intro; apply And.intro; (intro w; go_simp; try with_reducible rfl); go_frame) | (refine regN 16 hS (fun _ h => h) rfl (by kernel_rfl) (by kernel_rfl) (by kernel_rfl) (fun _ _ _ h => h) (by rfl) (by rfl) ?_; go_frame))
                (first | (refine regR 17 hS (fun _ h => h) rfl (by kernel_rfl) (by kernel_rfl) (by kernel_rfl) (by kernel_rfl) (by kernel_rfl) (fun _ _ _ _ h => h) (by rfl) (by rfl) ?_; (first
                                                  | refine ⟨.int .i64 (x : Int), fun u hu => rLdRd1 (hu.irRd (k := 3) rfl) _ _ (by rfl) _ (by rfl) (agOf (by rfl)) k (by omega) (iv_at HX.out) (by omega), ?_⟩
                                                  | refine ⟨.slice (some ⟨b2, off2, none⟩) ls.length c2, yLd _ _ (by rfl) _ _ (by rfl) (agOf (by rfl)) Has.z (wl_last), ?_⟩
                                                  | refine ⟨.int .i64 (y : Int), fun u hu => rLdRd1 (hu.irRd (k := 2) rfl) _ _ (by rfl) _ (by rfl) (agOf (by rfl)) m (by omega) (iv_at HY.out) (by omega), ?_⟩); go_frame) | (refine regN 17 hS (fun _ h => h) rfl (by kernel_rfl) (by kernel_rfl) (by kernel_rfl) (fun _ _ _ h => h) (by rfl) (by rfl) ?_; go_frame))
                (first | (refine regP 18 hS (fun _ h => h) rfl (by kernel_rfl) (by kernel_rfl) (by kernel_rfl) (fun _ _ _ _ h => h) (by rfl) (by rfl) ?_; apply Exists.intro; apply And.intro; (intro w; go_simp; try with_reducible rfl); go_frame) | (refine regN 18 hS (fun _ h => h) rfl (by kernel_rfl) (by kernel_rfl) (by kernel_rfl) (fun _ _ _ h => h) (by rfl) (by rfl) ?_; go_frame))
                (first | (refine regP 19 hS (fun _ h => h) rfl (by kernel_rfl) (by kernel_rfl) (by kernel_rfl) (fun _ _ _ _ h => h) (by rfl) (by rfl) ?_; apply Exists.intro; apply And.intro; (intro w; go_simp; try with_reducible rfl); go_frame) | (refine regN 19 hS (fun _ h => h) rfl (by kernel_rfl) (by kernel_rfl) (by kernel_rfl) (fun _ _ _ h => h) (by rfl) (by rfl) ?_; go_frame))
                (first | (refine regP 20 hS (fun _ h => h) rfl (by kernel_rfl) (by kernel_rfl) (by kernel_rfl) (fun _ _ _ _ h => h) (by rfl) (by rfl) ?_; apply Exists.intro; apply And.intro; (intro w; go_simp; try with_reducible rfl); go_frame) | (refine regN 20 hS (fun _ h => h) rfl (by kernel_rfl) (by kernel_rfl) (by kernel_rfl) (fun _ _ _ h => h) (by rfl) (by rfl) ?_; go_frame))
                (first | (refine regR 21 hS (fun _ h => h) rfl (by kernel_rfl) (by kernel_rfl) (by kernel_rfl) (by kernel_rfl) (by kernel_rfl) (fun _ _ _ _ h => h) (by rfl) (by rfl) ?_; (first
                                                  | refine ⟨.int .i64 (x : Int), fun u hu => rLdRd1 (hu.irRd (k := 3) rfl) _ _ (by rfl) _ (by rfl) (agOf (by rfl)) k (by omega) (iv_at HX.out) (by omega), ?_⟩
                                                  | refine ⟨.slice (some ⟨b2, off2, none⟩) ls.length c2, yLd _ _ (by rfl) _ _ (by rfl) (agOf (by rfl)) Has.z (wl_last), ?_⟩
                                                  | refine ⟨.int .i64 (y : Int), fun u hu => rLdRd1 (hu.irRd (k := 2) rfl) _ _ (by rfl) _ (by rfl) (agOf (by rfl)) m (by omega) (iv_at HY.out) (by omega), ?_⟩); go_frame) | (refine regN 21 hS (fun _ h => h) rfl (by kernel_rfl) (by kernel_rfl) (by kernel_rfl) (fun _ _ _ h => h) (by rfl) (by rfl) ?_; go_frame))
                (first | (refine regP 22 hS (fun _ h => h) rfl (by kernel_rfl) (by kernel_rfl) (by kernel_rfl) (fun _ _ _ _ h => h) (by rfl) (by rfl) ?_; apply Exists.intro; apply And.intro; (intro w; go_simp; try with_reducible rfl); go_frame) | (refine regN 22 hS (fun _ h => h) rfl (by kernel_rfl) (by kernel_rfl) (by kernel_rfl) (fun _ _ _ h => h) (by rfl) (by rfl) ?_; go_frame))
                (first | (refine regP 23 hS (fun _ h => h) rfl (by kernel_rfl) (by kernel_rfl) (by kernel_rfl) (fun _ _ _ _ h => h) (by rfl) (by rfl) ?_; apply Exists.intro; apply And.intro; (intro w; go_simp; try with_reducible rfl); go_frame; try simp (disch := omega) only [IntWalk.i64_in]) | (refine regN 23 hS (fun _ h => h) rfl (by kernel_rfl) (by kernel_rfl) (by kernel_rfl) (fun _ _ _ h => h) (by rfl) (by rfl) ?_; go_frame))
                (first | (refine regP 24 hS (fun _ h => h) rfl (by kernel_rfl) (by kernel_rfl) (by kernel_rfl) (fun _ _ _ _ h => h) (by rfl) (by rfl) ?_; apply Exists.intro; apply And.intro; (intro w; go_simp; try with_reducible rfl); go_frame) | (refine regN 24 hS (fun _ h => h) rfl (by kernel_rfl) (by kernel_rfl) (by kernel_rfl) (fun _ _ _ h => h) (by rfl) (by rfl) ?_; go_frame))
                (first | (refine regR 25 hS (fun _ h => h) rfl (by kernel_rfl) (by kernel_rfl) (by kernel_rfl) (by kernel_rfl) (by kernel_rfl) (fun _ _ _ _ h => h) (by rfl) (by rfl) ?_; (first
                                                  | refine ⟨.int .i64 (x : Int), fun u hu => rLdRd1 (hu.irRd (k := 3) rfl) _ _ (by rfl) _ (by rfl) (agOf (by rfl)) k (by omega) (iv_at HX.out) (by omega), ?_⟩
                                                  | refine ⟨.slice (some ⟨b2, off2, none⟩) ls.length c2, yLd _ _ (by rfl) _ _ (by rfl) (agOf (by rfl)) Has.z (wl_last), ?_⟩
                                                  | refine ⟨.int .i64 (y : Int), fun u hu => rLdRd1 (hu.irRd (k := 2) rfl) _ _ (by rfl) _ (by rfl) (agOf (by rfl)) m (by omega) (iv_at HY.out) (by omega), ?_⟩); go_frame) | (refine regN 25 hS (fun _ h => h) rfl (by kernel_rfl) (by kernel_rfl) (by kernel_rfl) (fun _ _ _ h => h) (by rfl) (by rfl) ?_; go_frame))
                (first | (refine regP 26 hS (fun _ h => h) rfl (by kernel_rfl) (by kernel_rfl) (by kernel_rfl) (fun _ _ _ _ h => h) (by rfl) (by rfl) ?_; apply Exists.intro; apply And.intro; (intro w; go_simp; try with_reducible rfl); go_frame) | (refine regN 26 hS (fun _ h => h) rfl (by kernel_rfl) (by kernel_rfl) (by kernel_rfl) (fun _ _ _ h => h) (by rfl) (by rfl) ?_; go_frame))
                (first | (refine regP 27 hS (fun _ h => h) rfl (by kernel_rfl) (by kernel_rfl) (by kernel_rfl) (fun _ _ _ _ h => h) (by rfl) (by rfl) ?_; apply Exists.intro; apply And.intro; (intro w; go_simp; try with_reducible rfl); go_frame) | (refine regN 27 hS (fun _ h => h) rfl (by kernel_rfl) (by kernel_rfl) (by kernel_rfl) (fun _ _ _ h => h) (by rfl) (by rfl) ?_; go_frame))
                (first | (refine regP 28 hS (fun _ h => h) rfl (by kernel_rfl) (by kernel_rfl) (by kernel_rfl) (fun _ _ _ _ h => h) (by rfl) (by rfl) ?_; apply Exists.intro; apply And.intro; (intro w; go_simp; try with_reducible rfl); go_frame) | (refine regN 28 hS (fun _ h => h) rfl (by kernel_rfl) (by kernel_rfl) (by kernel_rfl) (fun _ _ _ h => h) (by rfl) (by rfl) ?_; go_frame))
                (refine regP 29 hS (fun _ h => h) rfl (by kernel_rfl) (by kernel_rfl) (by kernel_rfl) (fun _ _ _ _ h => h) (by rfl) (by rfl) ?_; apply Exists.intro; apply And.intro; (intro w; go_simp; try with_reducible rfl); go_frame)
                refine regDone (by kernel_rfl) ?_
                go_wp2_with (first
                  | (refine toList (by rfl) ?_; refine ld hS _ _ (by rfl) _ _ (by rfl) (agOf (by rfl)) Has.z (wl_last) ?_)
                  | (refine toList (by rfl) ?_; refine bsF hS _ _ _ (by rfl) (elOf (by rfl)) [.int .i64 (i : Int)] (by rfl) (by rfl) (by decide) (by decide) (by intro v hv; rw [List.mem_singleton.1 hv]; rfl) ?_; intro b1 w1 hS1; clear hS; have hS := csIr (l := [i]) (by simp) (show Sat W w1 (Cs b1 _ (iv [i]) :: _) from hS1); clear hS1)
                  | (refine toList (by rfl) ?_; refine apI (l := ls) (m := [i]) hS _ _ _ _ (by rfl) (by rfl) (by rfl) (elOf (by rfl)) rfl rfl (by rfl) (inOf (by rfl)) (Has.s (Has.s (Has.s Has.z))) (by exact hS.irRd (k := 0) rfl) (by simp only [List.length_cons, List.length_nil]; omega) ?_; intro v' w1 hS1; clear hS; have hS := hS1; clear hS1; dsimp only [List.set_cons_zero, List.set_cons_succ] at hS; replace hS := hS.drop; obtain ⟨ao3, c3, rfl, _⟩ := hS.irShape (k := 2) rfl)
                  | (refine toList (by rfl) ?_; refine st hS _ _ _ (by rfl) _ _ (by rfl) _ (by first | exact evC | exact evT (by rfl)) (by rfl) (szOf (by rfl)) Has.z (by rw [wl_len]; decide) ?_; intro w1 hS1; clear hS; have hS := hS1; clear hS1; simp only [List.set_cons_zero] at hS; rw [wl_setT] at hS))
                exact ⟨⟨k + 1, .slice ao3 (ls.length + 1) c3, by go_num, HKL.out, by rw [HN.out]; simpa only [List.length_append, List.length_cons, List.length_nil, Nat.zero_add] using hS⟩, by simp [intOf]; have := HKL.out; omega⟩
          · have e1 : ((x : Int) == (i : Int)) = false := beq_eq_false_iff_ne.2 (by omega)
            have HN := Lib.hid (tpl_no hx hq)
            obtain ⟨ls, hls⟩ : ∃ ls, tpl l i k = ls := ⟨_, rfl⟩
            rw [hls] at hS hle HN
            have m := 0
            have y := 0
            have HY := HX
            clear hx hkl hk hls hq
            go_wp2
            refine regStart [] hS (by kernel_rfl) rfl ?_
            intro w1 hS1
            clear hS; have hS := hS1; clear hS1
            (refine regP 0 hS (fun _ h => h) rfl (by kernel_rfl) (by kernel_rfl) (by kernel_rfl) (fun _ _ _ _ h => h) (by rfl) (by rfl) ?_; apply Exists.intro; apply And.intro; (intro w; go_simp; try with_reducible rfl); go_frame)
            (refine regP 1 hS (fun _ h => h) rfl (by kernel_rfl) (by kernel_rfl) (by kernel_rfl) (fun _ _ _ _ h => h) (by rfl) (by rfl) ?_; apply Exists.intro; apply And.intro; (intro w; go_simp; try with_reducible rfl); go_frame)
            (refine regP 2 hS (fun _ h => h) rfl (by kernel_rfl) (by kernel_rfl) (by kernel_rfl) (fun _ _ _ _ h => h) (by rfl) (by rfl) ?_; apply Exists.intro; apply And.intro; (intro w; go_simp; try with_reducible rfl); go_frame)
            (refine regR 3 hS (fun _ h => h) rfl (by kernel_rfl) (by kernel_rfl) (by kernel_rfl) (by kernel_rfl) (by kernel_rfl) (fun _ _ _ _ h => h) (by rfl) (by rfl) ?_; (first
                                      | refine ⟨.int .i64 (x : Int), fun u hu => rLdRd1 (hu.irRd (k := 3) rfl) _ _ (by rfl) _ (by rfl) (agOf (by rfl)) k (by omega) (iv_at HX.out) (by omega), ?_⟩
                                      | refine ⟨.slice ao2 ls.length c2, yLd _ _ (by rfl) _ _ (by rfl) (agOf (by rfl)) Has.z (wl_last), ?_⟩
                                      | refine ⟨.int .i64 (y : Int), fun u hu => rLdRd1 (hu.irRd (k := 2) rfl) _ _ (by rfl) _ (by rfl) (agOf (by rfl)) m (by omega) (iv_at HY.out) (by omega), ?_⟩); go_frame)
            (refine regP 4 hS (fun _ h => h) rfl (by kernel_rfl) (by kernel_rfl) (by kernel_rfl) (fun _ _ _ _ h => h) (by rfl) (by rfl) ?_; apply Exists.intro; apply And.intro; (intro w; go_simp; try with_reducible rfl); go_frame)
            (refine regP 5 hS (fun _ h => h) rfl (by kernel_rfl) (by kernel_rfl) (by kernel_rfl) (fun _ _ _ _ h => h) (by rfl) (by rfl) ?_; apply Exists.intro; apply And.intro; (intro w; go_simp; try with_reducible rfl); go_frame)
            (refine regP 6 hS (fun _ h => h) rfl (by kernel_rfl) (by kernel_rfl) (by kernel_rfl) (fun _ _ _ _ h => h) (by rfl) (by rfl) ?_; apply Exists.intro; apply And.intro; (intro w; go_simp; try with_reducible rfl); go_frame)
            (first | (refine regP 7 hS (fun _ h => h) rfl (by kernel_rfl) (by kernel_rfl) (by kernel_rfl) (fun _ _ _ _ h => h) (by rfl) (by rfl) ?_; apply Exists.intro; apply And.intro; (intro w; go_simp; try with_reducible rfl); go_frame) | (refine regN 7 hS (fun _ h => h) rfl (by kernel_rfl) (by kernel_rfl) (by kernel_rfl) (fun _ _ _ h => h) (by rfl) (by rfl) ?_; go_frame))
            (first | (refine regP 8 hS (fun _ h => h) rfl (by kernel_rfl) (by kernel_rfl) (by kernel_rfl) (fun _ _ _ _ h => h) (by rfl) (by rfl) ?_; apply Exists.intro; apply And.intro; (intro w; go_simp; try with_reducible rfl); go_frame) | (refine regN 8 hS (fun _ h => h) rfl (by kernel_rfl) (by kernel_rfl) (by kernel_rfl) (fun _ _ _ h => h) (by rfl) (by rfl) ?_; go_frame))
            (first | (refine regP 9 hS (fun _ h => h) rfl (by kernel_rfl) (by kernel_rfl) (by kernel_rfl) (fun _ _ _ _ h => h) (by rfl) (by rfl) ?_; apply Exists.intro; apply And.intro; (intro w; go_simp; try with_reducible rfl); go_frame) | (refine regN 9 hS (fun _ h => h) rfl (by kernel_rfl) (by kernel_rfl) (by kernel_rfl) (fun _ _ _ h => h) (by rfl) (by rfl) ?_; go_frame))
            (first | (refine regR 10 hS (fun _ h => h) rfl (by kernel_rfl) (by kernel_rfl) (by kernel_rfl) (by kernel_rfl) (by kernel_rfl) (fun _ _ _ _ h => h) (by rfl) (by rfl) ?_; (first
                                      | refine ⟨.int .i64 (x : Int), fun u hu => rLdRd1 (hu.irRd (k := 3) rfl) _ _ (by rfl) _ (by rfl) (agOf (by rfl)) k (by omega) (iv_at HX.out) (by omega), ?_⟩
                                      | refine ⟨.slice ao2 ls.length c2, yLd _ _ (by rfl) _ _ (by rfl) (agOf (by rfl)) Has.z (wl_last), ?_⟩
                                      | refine ⟨.int .i64 (y : Int), fun u hu => rLdRd1 (hu.irRd (k := 2) rfl) _ _ (by rfl) _ (by rfl) (agOf (by rfl)) m (by omega) (iv_at HY.out) (by omega), ?_⟩); go_frame) | (refine regN 10 hS (fun _ h => h) rfl (by kernel_rfl) (by kernel_rfl) (by kernel_rfl) (fun _ _ _ h => h) (by rfl) (by rfl) ?_; go_frame))
            (first | (refine regP 11 hS (fun _ h => h) rfl (by kernel_rfl) (by kernel_rfl) (by kernel_rfl) (fun _ _ _ _ h => h) (by rfl) (by rfl) ?_; apply Exists.intro; apply And.intro; (intro w; go_simp; try with_reducible rfl); go_frame) | (refine regN 11 hS (fun _ h => h) rfl (by kernel_rfl) (by kernel_rfl) (by kernel_rfl) (fun _ _ _ h => h) (by rfl) (by rfl) ?_; go_frame))
            (first | (refine regP 12 hS (fun _ h => h) rfl (by kernel_rfl) (by kernel_rfl) (by kernel_rfl) (fun _ _ _ _ h => h) (by rfl) (by rfl) ?_; apply Exists.intro; apply And.intro; (intro w; go_simp; try with_reducible rfl); go_frame) | (refine regN 12 hS (fun _ h => h) rfl (by kernel_rfl) (by kernel_rfl) (by kernel_rfl) (fun _ _ _ h => h) (by rfl) (by rfl) ?_; go_frame))
            (first | (refine regP 13 hS (fun _ h => h) rfl (by kernel_rfl) (by kernel_rfl) (by kernel_rfl) (fun _ _ _ _ h => h) (by rfl) (by rfl) ?_; apply Exists.intro; apply And.intro; (intro w; go_simp; try with_reducible rfl); go_frame) | (refine regN 13 hS (fun _ h => h) rfl (by kernel_rfl) (by kernel_rfl) (by kernel_rfl) (fun _ _ _ h => h) (by rfl) (by rfl) ?_; go_frame))
            (first | (refine regP 14 hS (fun _ h => h) rfl (by kernel_rfl) (by kernel_rfl) (by kernel_rfl) (fun _ _ _ _ h => h) (by rfl) (by rfl) ?_; apply Exists.intro; apply And.intro; (intro w; go_simp; try with_reducible rfl); go_frame) | (refine regN 14 hS (fun _ h => h) rfl (by kernel_rfl) (by kernel_rfl) (by kernel_rfl) (fun _ _ _ h => h) (by rfl) (by rfl) ?_; go_frame))
            (first | (refine regP 15 hS (fun _ h => h) rfl (by kernel_rfl) (by kernel_rfl) (by kernel_rfl) (fun _ _ _ _ h => h) (by rfl) (by rfl) ?_; apply Exists.intro; apply And.intro; (intro w; go_simp; try with_reducible rfl); go_frame) | (refine regN 15 hS (fun _ h => h) rfl (by kernel_rfl) (by kernel_rfl) (by kernel_rfl) (fun _ _ _ h => h) (by rfl) (by rfl) ?_; go_frame))
            (first | (refine regP 16 hS (fun _ h => h) rfl (by kernel_rfl) (by kernel_rfl) (by kernel_rfl) (fun _ _ _ _ h => h) (by rfl) (by rfl) ?_; apply Exists.intro; apply And.intro; (intro w; go_simp; try with_reducible rfl); go_frame) | (refine regN 16 hS (fun _ h => h) rfl (by kernel_rfl) (by kernel_rfl) (by kernel_rfl) (fun _ _ _ h => h) (by rfl) (by rfl) ?_; go_frame))
            (first | (refine regR 17 hS (fun _ h => h) rfl (by kernel_rfl) (by kernel_rfl) (by kernel_rfl) (by kernel_rfl) (by kernel_rfl) (fun _ _ _ _ h => h) (by rfl) (by rfl) ?_; (first
                                      | refine ⟨.int .i64 (x : Int), fun u hu => rLdRd1 (hu.irRd (k := 3) rfl) _ _ (by rfl) _ (by rfl) (agOf (by rfl)) k (by omega) (iv_at HX.out) (by omega), ?_⟩
                                      | refine ⟨.slice ao2 ls.length c2, yLd _ _ (by rfl) _ _ (by rfl) (agOf (by rfl)) Has.z (wl_last), ?_⟩
                                      | refine ⟨.int .i64 (y : Int), fun u hu => rLdRd1 (hu.irRd (k := 2) rfl) _ _ (by rfl) _ (by rfl) (agOf (by rfl)) m (by omega) (iv_at HY.out) (by omega), ?_⟩); go_frame) | (refine regN 17 hS (fun _ h => h) rfl (by kernel_rfl) (by kernel_rfl) (by kernel_rfl) (fun _ _ _ h => h) (by rfl) (by rfl) ?_; go_frame))
            (first | (refine regP 18 hS (fun _ h => h) rfl (by kernel_rfl) (by kernel_rfl) (by kernel_rfl) (fun _ _ _ _ h => h) (by rfl) (by rfl) ?_; apply Exists.intro; apply And.intro; (intro w; go_simp; try with_reducible rfl); go_frame) | (refine regN 18 hS (fun _ h => h) rfl (by kernel_rfl) (by kernel_rfl) (by kernel_rfl) (fun _ _ _ h => h) (by rfl) (by rfl) ?_; go_frame))
            (first | (refine regP 19 hS (fun _ h => h) rfl (by kernel_rfl) (by kernel_rfl) (by kernel_rfl) (fun _ _ _ _ h => h) (by rfl) (by rfl) ?_; apply Exists.intro; apply And.intro; (intro w; go_simp; try with_reducible rfl); go_frame) | (refine regN 19 hS (fun _ h => h) rfl (by kernel_rfl) (by kernel_rfl) (by kernel_rfl) (fun _ _ _ h => h) (by rfl) (by rfl) ?_; go_frame))
            (first | (refine regP 20 hS (fun _ h => h) rfl (by kernel_rfl) (by kernel_rfl) (by kernel_rfl) (fun _ _ _ _ h => h) (by rfl) (by rfl) ?_; apply Exists.intro; apply And.intro; (intro w; go_simp; try with_reducible rfl); go_frame) | (refine regN 20 hS (fun _ h => h) rfl (by kernel_rfl) (by kernel_rfl) (by kernel_rfl) (fun _ _ _ h => h) (by rfl) (by rfl) ?_; go_frame))
            (first | (refine regR 21 hS (fun _ h => h) rfl (by kernel_rfl) (by kernel_rfl) (by kernel_rfl) (by kernel_rfl) (by kernel_rfl) (fun _ _ _ _ h => h) (by rfl) (by rfl) ?_; (first
                                      | refine ⟨.int .i64 (x : Int), fun u hu => rLdRd1 (hu.irRd (k := 3) rfl) _ _ (by rfl) _ (by rfl) (agOf (by rfl)) k (by omega) (iv_at HX.out) (by omega), ?_⟩
                                      | refine ⟨.slice ao2 ls.length c2, yLd _ _ (by rfl) _ _ (by rfl) (agOf (by rfl)) Has.z (wl_last), ?_⟩
                                      | refine ⟨.int .i64 (y : Int), fun u hu => rLdRd1 (hu.irRd (k := 2) rfl) _ _ (by rfl) _ (by rfl) (agOf (by rfl)) m (by omega) (iv_at HY.out) (by omega), ?_⟩); go_frame) | (refine regN 21 hS (fun _ h => h) rfl (by kernel_rfl) (by kernel_rfl) (by kernel_rfl) (fun _ _ _ h => h) (by rfl) (by rfl) ?_; go_frame))
            (first | (refine regP 22 hS (fun _ h => h) rfl (by kernel_rfl) (by kernel_rfl) (by kernel_rfl) (fun _ _ _ _ h => h) (by rfl) (by rfl) ?_; apply Exists.intro; apply And.intro; (intro w; go_simp; try with_reducible rfl); go_frame) | (refine regN 22 hS (fun _ h => h) rfl (by kernel_rfl) (by kernel_rfl) (by kernel_rfl) (fun _ _ _ h => h) (by rfl) (by rfl) ?_; go_frame))
            (first | (refine regP 23 hS (fun _ h => h) rfl (by kernel_rfl) (by kernel_rfl) (by kernel_rfl) (fun _ _ _ _ h => h) (by rfl) (by rfl) ?_; apply Exists.intro; apply And.intro; (intro w; go_simp; try with_reducible rfl); go_frame; try simp (disch := omega) only [IntWalk.i64_in]) | (refine regN 23 hS (fun _ h => h) rfl (by kernel_rfl) (by kernel_rfl) (by kernel_rfl) (fun _ _ _ h => h) (by rfl) (by rfl) ?_; go_frame))
            (first | (refine regP 24 hS (fun _ h => h) rfl (by kernel_rfl) (by kernel_rfl) (by kernel_rfl) (fun _ _ _ _ h => h) (by rfl) (by rfl) ?_; apply Exists.intro; apply And.intro; (intro w; go_simp; try with_reducible rfl); go_frame) | (refine regN 24 hS (fun _ h => h) rfl (by kernel_rfl) (by kernel_rfl) (by kernel_rfl) (fun _ _ _ h => h) (by rfl) (by rfl) ?_; go_frame))
            (first | (refine regR 25 hS (fun _ h => h) rfl (by kernel_rfl) (by kernel_rfl) (by kernel_rfl) (by kernel_rfl) (by kernel_rfl) (fun _ _ _ _ h => h) (by rfl) (by rfl) ?_; (first
                                      | refine ⟨.int .i64 (x : Int), fun u hu => rLdRd1 (hu.irRd (k := 3) rfl) _ _ (by rfl) _ (by rfl) (agOf (by rfl)) k (by omega) (iv_at HX.out) (by omega), ?_⟩
                                      | refine ⟨.slice ao2 ls.length c2, yLd _ _ (by rfl) _ _ (by rfl) (agOf (by rfl)) Has.z (wl_last), ?_⟩
                                      | refine ⟨.int .i64 (y : Int), fun u hu => rLdRd1 (hu.irRd (k := 2) rfl) _ _ (by rfl) _ (by rfl) (agOf (by rfl)) m (by omega) (iv_at HY.out) (by omega), ?_⟩); go_frame) | (refine regN 25 hS (fun _ h => h) rfl (by kernel_rfl) (by kernel_rfl) (by kernel_rfl) (fun _ _ _ h => h) (by rfl) (by rfl) ?_; go_frame))
            (first | (refine regP 26 hS (fun _ h => h) rfl (by kernel_rfl) (by kernel_rfl) (by kernel_rfl) (fun _ _ _ _ h => h) (by rfl) (by rfl) ?_; apply Exists.intro; apply And.intro; (intro w; go_simp; try with_reducible rfl); go_frame) | (refine regN 26 hS (fun _ h => h) rfl (by kernel_rfl) (by kernel_rfl) (by kernel_rfl) (fun _ _ _ h => h) (by rfl) (by rfl) ?_; go_frame))
            (first | (refine regP 27 hS (fun _ h => h) rfl (by kernel_rfl) (by kernel_rfl) (by kernel_rfl) (fun _ _ _ _ h => h) (by rfl) (by rfl) ?_; apply Exists.intro; apply And.intro; (intro w; go_simp; try with_reducible rfl); go_frame) | (refine regN 27 hS (fun _ h => h) rfl (by kernel_rfl) (by kernel_rfl) (by kernel_rfl) (fun _ _ _ h => h) (by rfl) (by rfl) ?_; go_frame))
            (first | (refine regP 28 hS (fun _ h => h) rfl (by kernel_rfl) (by kernel_rfl) (by kernel_rfl) (fun _ _ _ _ h => h) (by rfl) (by rfl) ?_; apply Exists.intro; apply And.intro; (intro w; go_simp; try with_reducible rfl); go_frame) | (refine regN 28 hS (fun _ h => h) rfl (by kernel_rfl) (by kernel_rfl) (by kernel_rfl) (fun _ _ _ h => h) (by rfl) (by rfl) ?_; go_frame))
            (refine regP 29 hS (fun _ h => h) rfl (by kernel_rfl) (by kernel_rfl) (by kernel_rfl) (fun _ _ _ _ h => h) (by rfl) (by rfl) ?_; apply Exists.intro; apply And.intro; (intro w; go_simp; try with_reducible rfl); go_frame)
            refine regDone (by kernel_rfl) ?_
            go_wp2
            exact ⟨⟨k + 1, _, by go_num, HKL.out, by rw [HN.out]; exact hS⟩, by simp [intOf]; have := HKL.out; omega⟩
        · have k2 : ¬ (k : Int) < (l.length : Int) := by omega
          have HN := Lib.hid (show tpl l i k = tpart l (i + 1) by rw [tpart_succ]; congr 1; omega)
          clear hkl hk
          go_wp2
          exact ⟨⟨i + 1, _, by go_num, HLT.out, by rw [← HN.out]; exact hS⟩, by simp [intOf]; have := HLT.out; omega⟩
    · have k1 : ¬ (i : Int) < 48 := by omega
      obtain rfl : i = 48 := by omega
      clear hlt
      go_wp2
      go_end0
      refine ⟨rfl, IsW.mk (T := T.tch l) (v := v) (vt := vl) ?_⟩
      have h9 := (hS.re [3]).drop
      exact h9
end Go.Proofs.Ytiieicdhkcikpaa
