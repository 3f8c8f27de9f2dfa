/-
  Package dir: Name, may, Find.
  Package dir: place (with sort.Search), Find.
  Package dir: place, Find, Add, Remove.
  Package dir: Add, Remove.
  Package dir: Remove.
-/
import Derived.Test.YtiieicdhkcikpaaMMem
import Derived.Test.YtiieicdhkcikpaaMSep
import Derived.Lib.Hide
import Derived.Laws.Cover1
import Derived.OwnWalk
import Derived.Test.YtiieicdhkcikpaaMReg
namespace Go.Proofs.Ytiieicdhkcikpaa
open Go.RowKit Go.Sep
set_option linter.unusedSimpArgs false
set_option linter.unusedVariables false
attribute [local irreducible] Go.Oper.wp Go.wpList Go.Calls Go.Code.wp Go.Sep.Reg
theorem nameOk_take {l : List UInt8} {i : Nat} {x : UInt8} (hx : l[i]? = some x) : (l.take (i + 1)).all chrOk = ((l.take i).all chrOk && chrOk x) := by
  rw [List.take_add_one, hx, List.all_append]; simp
theorem chr_cases (x : UInt8) : (97 ≤ x.toNat ∧ x.toNat ≤ 122 ∧ chrOk x = true) ∨ (48 ≤ x.toNat ∧ x.toNat ≤ 57 ∧ chrOk x = true) ∨ (x.toNat = 46 ∧ chrOk x = true) ∨ (x.toNat = 95 ∧ chrOk x = true) ∨ (x.toNat = 45 ∧ chrOk x = true) ∨
    (¬ (97 ≤ x.toNat ∧ x.toNat ≤ 122) ∧ ¬ (48 ≤ x.toNat ∧ x.toNat ≤ 57) ∧ x.toNat ≠ 46 ∧ x.toNat ≠ 95 ∧ x.toNat ≠ 45 ∧ chrOk x = false) := by
  have h46 : x = 46 ↔ x.toNat = 46 := ⟨fun e => by subst e; rfl, fun e => UInt8.toNat_inj.1 e⟩
  have h95 : x = 95 ↔ x.toNat = 95 := ⟨fun e => by subst e; rfl, fun e => UInt8.toNat_inj.1 e⟩
  have h45 : x = 45 ↔ x.toNat = 45 := ⟨fun e => by subst e; rfl, fun e => UInt8.toNat_inj.1 e⟩
  unfold chrOk
  rw [decide_eq_decide.2 h46, decide_eq_decide.2 h95, decide_eq_decide.2 h45]
  by_cases a : 97 ≤ x.toNat ∧ x.toNat ≤ 122
  · exact .inl ⟨a.1, a.2, by simp [a.1, a.2]⟩
  · by_cases b : 48 ≤ x.toNat ∧ x.toNat ≤ 57
    · exact .inr (.inl ⟨b.1, b.2, by simp [b.1, b.2]⟩)
    · by_cases c : x.toNat = 46
      · exact .inr (.inr (.inl ⟨c, by simp [c]⟩))
      · by_cases d : x.toNat = 95
        · exact .inr (.inr (.inr (.inl ⟨d, by simp [d]⟩)))
        · by_cases e : x.toNat = 45
          · exact .inr (.inr (.inr (.inr (.inl ⟨e, by simp [e]⟩))))
          · refine .inr (.inr (.inr (.inr (.inr ⟨a, b, c, d, e, ?_⟩))))
            have h1 : (decide (97 ≤ x.toNat) && decide (x.toNat ≤ 122)) = false := by rw [← Bool.decide_and]; exact decide_eq_false a
            have h2 : (decide (48 ≤ x.toNat) && decide (x.toNat ≤ 57)) = false := by rw [← Bool.decide_and]; exact decide_eq_false b
            rw [h1, h2, decide_eq_false c, decide_eq_false d, decide_eq_false e]; rfl
theorem nameOk_no {l : List UInt8} (h : l.length < 1 ∨ 20 < l.length ∨ l = [46] ∨ l = [46, 46] ∨ l.all chrOk = false) : nameOk l = false := by
  unfold nameOk
  rcases h with h | h | h | h | h
  · rw [decide_eq_false (by omega : ¬ 1 ≤ l.length)]; rfl
  · rw [decide_eq_false (by omega : ¬ l.length ≤ 20)]; simp
  · rw [decide_eq_true h]; simp
  · rw [decide_eq_true h]; simp
  · rw [h]; simp
theorem all_no {l : List UInt8} {i : Nat} {x : UInt8} (hx : l[i]? = some x) (hc : chrOk x = false) : l.all chrOk = false := by
  rw [List.all_eq_false]
  exact ⟨x, List.mem_of_getElem? hx, by rw [hc]; decide⟩
set_option maxRecDepth 20000 in
set_option maxHeartbeats 1000000 in
theorem name_any (l : List UInt8) (w : World) : Calls Try.prog 52 #[sv l] w fun e w' => e = .returned (.bool (nameOk l)) ∧ w = w' := by
  unfold sv
  by_cases h1 : l.length < 1
  · rw [nameOk_no (.inl h1)]
    have e1 : (l.length : Int) < 1 := by omega
    have e2 : decide ((l.length : Int) < 1) = true := decide_eq_true e1
    go_enter Try.func52, Try.ntmps52
    go_wp2
    go_ret
    exact ⟨rfl, rfl⟩
  have e1 : decide ((l.length : Int) < 1) = false := decide_eq_false (by omega)
  by_cases h2 : 20 < l.length
  · rw [nameOk_no (.inr (.inl h2))]
    have e2 : decide ((20 : Int) < (l.length : Int)) = true := decide_eq_true (by omega)
    have e3 : decide (20 < l.length) = true := decide_eq_true h2
    go_enter Try.func52, Try.ntmps52
    go_wp2
    go_ret
    exact ⟨rfl, rfl⟩
  have e2 : decide ((20 : Int) < (l.length : Int)) = false := decide_eq_false (by omega)
  have e3 : decide (20 < l.length) = false := decide_eq_false h2
  by_cases h3 : l = [46]
  · subst h3
    go_enter Try.func52, Try.ntmps52
    go_wp2
    go_ret
    exact ⟨rfl, rfl⟩
  have e4 : (l == [46]) = false := beq_eq_false_iff_ne.2 h3
  by_cases h4 : l = [46, 46]
  · subst h4
    go_enter Try.func52, Try.ntmps52
    go_wp2
    go_ret
    exact ⟨rfl, rfl⟩
  have e5 : (l == [46, 46]) = false := beq_eq_false_iff_ne.2 h4
  have HNO := Lib.hid (fun h : l.all chrOk = false => nameOk_no (.inr (.inr (.inr (.inr h)))))
  have HYES := Lib.hid (fun h : l.all chrOk = true => show nameOk l = true by
    unfold nameOk
    rw [h, decide_eq_true (by omega : 1 ≤ l.length), decide_eq_true (by omega : l.length ≤ 20), decide_eq_false h3, decide_eq_false h4]; rfl)
  have hl20 : (l.length : Int) ≤ 20 := by omega
  clear h1 h2 h3 h4
  go_enter Try.func52, Try.ntmps52
  go_wp2
  go_loopw [23] (fun v wz => ∃ i : Nat, v = .int .i64 i ∧ i ≤ l.length ∧ (l.take i).all chrOk = true ∧ wz = w) (fun v _ => l.length - (intOf v).toNat)
  case atStart => exact ⟨0, rfl, by omega, rfl, rfl⟩
  case round =>
    obtain ⟨i, rfl, hi, hall, rfl⟩ := hrel
    by_cases hlt : i < l.length
    · have k1 : (i : Int) < (l.length : Int) := by omega
      obtain ⟨x, hx⟩ : ∃ x, l[i]? = some x := ⟨_, List.getElem?_eq_getElem hlt⟩
      have hix := fun w => index_sv hx w
      have HLT := Lib.hid hlt
      have HA2 := Lib.hid (fun hc : chrOk x = true => show (l.take (i + 1)).all chrOk = true by rw [nameOk_take hx, hall, hc]; rfl)
      have HNO := Lib.hid (fun hc : chrOk x = false => HNO.out (all_no hx hc))
      have hv8 : x.toNat < 256 := x.toNat_lt
      have hcs := chr_cases x
      obtain ⟨v, hv⟩ : ∃ v, x.toNat = v := ⟨_, rfl⟩
      rw [hv] at hix hcs hv8
      clear hv hx hlt hi hall
      rcases hcs with ⟨hv1, hv2, hc⟩ | ⟨hv1, hv2, hc⟩ | ⟨hv1, hc⟩ | ⟨hv1, hc⟩ | ⟨hv1, hc⟩ | ⟨hv1, hv2, hv3, hv4, hv5, hc⟩ <;> have HCK := Lib.hid hc <;> clear hc
      · have c1 : decide ((v : Int) < 97) = false := by first | exact decide_eq_true (by omega) | exact decide_eq_false (by omega)
        have c2 : decide ((122 : Int) < (v : Int)) = false := by first | exact decide_eq_true (by omega) | exact decide_eq_false (by omega)
        have c3 : decide ((v : Int) < 48) = false := by first | exact decide_eq_true (by omega) | exact decide_eq_false (by omega)
        have c4 : decide ((57 : Int) < (v : Int)) = true := by first | exact decide_eq_true (by omega) | exact decide_eq_false (by omega)
        have c5 : ((v : Int) != 46) = true := by first | exact bne_iff_ne.2 (by omega) | (rw [bne_eq_false_iff_eq]; omega)
        have c6 : ((v : Int) != 95) = true := by first | exact bne_iff_ne.2 (by omega) | (rw [bne_eq_false_iff_eq]; omega)
        have c7 : ((v : Int) != 45) = true := by first | exact bne_iff_ne.2 (by omega) | (rw [bne_eq_false_iff_eq]; omega)
        clear hv1 hv2
        go_wp2
        exact ⟨⟨i + 1, by go_num, HLT.out, HA2.out HCK.out, by first | rfl | trivial⟩, by simp [intOf]; have := HLT.out; omega⟩
      · have c1 : decide ((v : Int) < 97) = true := by first | exact decide_eq_true (by omega) | exact decide_eq_false (by omega)
        have c2 : decide ((122 : Int) < (v : Int)) = false := by first | exact decide_eq_true (by omega) | exact decide_eq_false (by omega)
        have c3 : decide ((v : Int) < 48) = false := by first | exact decide_eq_true (by omega) | exact decide_eq_false (by omega)
        have c4 : decide ((57 : Int) < (v : Int)) = false := by first | exact decide_eq_true (by omega) | exact decide_eq_false (by omega)
        have c5 : ((v : Int) != 46) = true := by first | exact bne_iff_ne.2 (by omega) | (rw [bne_eq_false_iff_eq]; omega)
        have c6 : ((v : Int) != 95) = true := by first | exact bne_iff_ne.2 (by omega) | (rw [bne_eq_false_iff_eq]; omega)
        have c7 : ((v : Int) != 45) = true := by first | exact bne_iff_ne.2 (by omega) | (rw [bne_eq_false_iff_eq]; omega)
        clear hv1 hv2
        go_wp2
        exact ⟨⟨i + 1, by go_num, HLT.out, HA2.out HCK.out, by first | rfl | trivial⟩, by simp [intOf]; have := HLT.out; omega⟩
      · have hv2 := 0
        have c1 : decide ((v : Int) < 97) = true := by first | exact decide_eq_true (by omega) | exact decide_eq_false (by omega)
        have c2 : decide ((122 : Int) < (v : Int)) = false := by first | exact decide_eq_true (by omega) | exact decide_eq_false (by omega)
        have c3 : decide ((v : Int) < 48) = true := by first | exact decide_eq_true (by omega) | exact decide_eq_false (by omega)
        have c4 : decide ((57 : Int) < (v : Int)) = false := by first | exact decide_eq_true (by omega) | exact decide_eq_false (by omega)
        have c5 : ((v : Int) != 46) = false := by first | exact bne_iff_ne.2 (by omega) | (rw [bne_eq_false_iff_eq]; omega)
        have c6 : ((v : Int) != 95) = true := by first | exact bne_iff_ne.2 (by omega) | (rw [bne_eq_false_iff_eq]; omega)
        have c7 : ((v : Int) != 45) = true := by first | exact bne_iff_ne.2 (by omega) | (rw [bne_eq_false_iff_eq]; omega)
        clear hv1 hv2
        go_wp2
        exact ⟨⟨i + 1, by go_num, HLT.out, HA2.out HCK.out, by first | rfl | trivial⟩, by simp [intOf]; have := HLT.out; omega⟩
      · have hv2 := 0
        have c1 : decide ((v : Int) < 97) = true := by first | exact decide_eq_true (by omega) | exact decide_eq_false (by omega)
        have c2 : decide ((122 : Int) < (v : Int)) = false := by first | exact decide_eq_true (by omega) | exact decide_eq_false (by omega)
        have c3 : decide ((v : Int) < 48) = false := by first | exact decide_eq_true (by omega) | exact decide_eq_false (by omega)
        have c4 : decide ((57 : Int) < (v : Int)) = true := by first | exact decide_eq_true (by omega) | exact decide_eq_false (by omega)
        have c5 : ((v : Int) != 46) = true := by first | exact bne_iff_ne.2 (by omega) | (rw [bne_eq_false_iff_eq]; omega)
        have c6 : ((v : Int) != 95) = false := by first | exact bne_iff_ne.2 (by omega) | (rw [bne_eq_false_iff_eq]; omega)
        have c7 : ((v : Int) != 45) = true := by first | exact bne_iff_ne.2 (by omega) | (rw [bne_eq_false_iff_eq]; omega)
        clear hv1 hv2
        go_wp2
        exact ⟨⟨i + 1, by go_num, HLT.out, HA2.out HCK.out, by first | rfl | trivial⟩, by simp [intOf]; have := HLT.out; omega⟩
      · have hv2 := 0
        have c1 : decide ((v : Int) < 97) = true := by first | exact decide_eq_true (by omega) | exact decide_eq_false (by omega)
        have c2 : decide ((122 : Int) < (v : Int)) = false := by first | exact decide_eq_true (by omega) | exact decide_eq_false (by omega)
        have c3 : decide ((v : Int) < 48) = true := by first | exact decide_eq_true (by omega) | exact decide_eq_false (by omega)
        have c4 : decide ((57 : Int) < (v : Int)) = false := by first | exact decide_eq_true (by omega) | exact decide_eq_false (by omega)
        have c5 : ((v : Int) != 46) = true := by first | exact bne_iff_ne.2 (by omega) | (rw [bne_eq_false_iff_eq]; omega)
        have c6 : ((v : Int) != 95) = true := by first | exact bne_iff_ne.2 (by omega) | (rw [bne_eq_false_iff_eq]; omega)
        have c7 : ((v : Int) != 45) = false := by first | exact bne_iff_ne.2 (by omega) | (rw [bne_eq_false_iff_eq]; omega)
        clear hv1 hv2
        go_wp2
        exact ⟨⟨i + 1, by go_num, HLT.out, HA2.out HCK.out, by first | rfl | trivial⟩, by simp [intOf]; have := HLT.out; omega⟩
      · have hq : v < 48 ∨ (57 < v ∧ v < 97) ∨ 122 < v := by omega
        rcases hq with hq | hq | hq
        · have c1 : decide ((v : Int) < 97) = true := by first | exact decide_eq_true (by omega) | exact decide_eq_false (by omega)
          have c2 : decide ((122 : Int) < (v : Int)) = false := by first | exact decide_eq_true (by omega) | exact decide_eq_false (by omega)
          have c3 : decide ((v : Int) < 48) = true := by first | exact decide_eq_true (by omega) | exact decide_eq_false (by omega)
          have c4 : decide ((57 : Int) < (v : Int)) = false := by first | exact decide_eq_true (by omega) | exact decide_eq_false (by omega)
          have c5 : ((v : Int) != 46) = true := by first | exact bne_iff_ne.2 (by omega) | (rw [bne_eq_false_iff_eq]; omega)
          have c6 : ((v : Int) != 95) = true := by first | exact bne_iff_ne.2 (by omega) | (rw [bne_eq_false_iff_eq]; omega)
          have c7 : ((v : Int) != 45) = true := by first | exact bne_iff_ne.2 (by omega) | (rw [bne_eq_false_iff_eq]; omega)
          clear hv1 hv2
          go_wp2
          go_ret
          rw [HNO.out HCK.out]
          exact ⟨rfl, rfl⟩
        · have c1 : decide ((v : Int) < 97) = true := by first | exact decide_eq_true (by omega) | exact decide_eq_false (by omega)
          have c2 : decide ((122 : Int) < (v : Int)) = false := by first | exact decide_eq_true (by omega) | exact decide_eq_false (by omega)
          have c3 : decide ((v : Int) < 48) = false := by first | exact decide_eq_true (by omega) | exact decide_eq_false (by omega)
          have c4 : decide ((57 : Int) < (v : Int)) = true := by first | exact decide_eq_true (by omega) | exact decide_eq_false (by omega)
          have c5 : ((v : Int) != 46) = true := by first | exact bne_iff_ne.2 (by omega) | (rw [bne_eq_false_iff_eq]; omega)
          have c6 : ((v : Int) != 95) = true := by first | exact bne_iff_ne.2 (by omega) | (rw [bne_eq_false_iff_eq]; omega)
          have c7 : ((v : Int) != 45) = true := by first | exact bne_iff_ne.2 (by omega) | (rw [bne_eq_false_iff_eq]; omega)
          clear hv1 hv2
          go_wp2
          go_ret
          rw [HNO.out HCK.out]
          exact ⟨rfl, rfl⟩
        · have c1 : decide ((v : Int) < 97) = false := by first | exact decide_eq_true (by omega) | exact decide_eq_false (by omega)
          have c2 : decide ((122 : Int) < (v : Int)) = true := by first | exact decide_eq_true (by omega) | exact decide_eq_false (by omega)
          have c3 : decide ((v : Int) < 48) = false := by first | exact decide_eq_true (by omega) | exact decide_eq_false (by omega)
          have c4 : decide ((57 : Int) < (v : Int)) = true := by first | exact decide_eq_true (by omega) | exact decide_eq_false (by omega)
          have c5 : ((v : Int) != 46) = true := by first | exact bne_iff_ne.2 (by omega) | (rw [bne_eq_false_iff_eq]; omega)
          have c6 : ((v : Int) != 95) = true := by first | exact bne_iff_ne.2 (by omega) | (rw [bne_eq_false_iff_eq]; omega)
          have c7 : ((v : Int) != 45) = true := by first | exact bne_iff_ne.2 (by omega) | (rw [bne_eq_false_iff_eq]; omega)
          clear hv1 hv2
          go_wp2
          go_ret
          rw [HNO.out HCK.out]
          exact ⟨rfl, rfl⟩
    · have k1 : ¬ (i : Int) < (l.length : Int) := by omega
      rw [List.take_of_length_le (by omega)] at hall
      have HY := Lib.hid (HYES.out hall)
      clear hall hlt
      go_wp2
      go_ret
      rw [HY.out]
      exact ⟨rfl, rfl⟩
theorem may_any {W w : World} {L : List Asrt} (hS : Sat W w L) (e : EntD) : Calls Try.prog 71 #[.agg #[sv e.nm, .int .i64 e.ino]] w fun r w' => r = .returned (.bool (entOk e)) ∧ Sat W w' L := by
  obtain ⟨n, i⟩ := e
  dsimp only
  unfold entOk
  dsimp only
  have HN := Lib.hid (fun w => name_any n w)
  obtain ⟨b, hb⟩ : ∃ b, nameOk n = b := ⟨_, rfl⟩
  rw [hb] at HN ⊢
  clear hb
  obtain ⟨sn, hsn⟩ : ∃ s, sv n = s := ⟨_, rfl⟩
  have hone : sn.oneCell' = true := by rw [← hsn]; rfl
  rw [hsn] at HN ⊢
  clear hsn
  cases b
  · go_enter Try.func71, Try.ntmps71
    go_wp2_with (first
      | (refine toList (by rfl) ?_; refine bx hS _ _ (by rfl) _ (by first | exact evC | exact evT (by rfl)) ?_; intro px w1 hS1; clear hS; have hS := hS1; clear hS1; rw [cells_agg] at hS)
      | (refine toList (by rfl) ?_; refine ld hS _ _ (by rfl) _ _ (by rfl) (agOf (by rfl)) (by first | exact Has.z | exact Has.s Has.z | exact Has.s (Has.s Has.z) | exact Has.s (Has.s (Has.s Has.z)) | exact Has.s (Has.s (Has.s (Has.s Has.z))) | exact Has.s (Has.s (Has.s (Has.s (Has.s Has.z))))) (by rfl) ?_)
      | (go_at_call 52; refine (HN.out _).mono ?_; rintro e w1 ⟨rfl, rfl⟩))
    go_ret
    exact ⟨rfl, hS.drop⟩
  · by_cases h1 : 1 ≤ i
    · have d1 : decide ((1 : Int) ≤ i) = true := decide_eq_true h1
      by_cases h2 : i < 48
      · have d2 : decide (i < (48 : Int)) = true := decide_eq_true h2
        rw [d1, d2]
        go_enter Try.func71, Try.ntmps71
        go_wp2_with (first
          | (refine toList (by rfl) ?_; refine bx hS _ _ (by rfl) _ (by first | exact evC | exact evT (by rfl)) ?_; intro px w1 hS1; clear hS; have hS := hS1; clear hS1; rw [cells_agg] at hS)
          | (refine toList (by rfl) ?_; refine ld hS _ _ (by rfl) _ _ (by rfl) (agOf (by rfl)) (by first | exact Has.z | exact Has.s Has.z | exact Has.s (Has.s Has.z) | exact Has.s (Has.s (Has.s Has.z)) | exact Has.s (Has.s (Has.s (Has.s Has.z))) | exact Has.s (Has.s (Has.s (Has.s (Has.s Has.z))))) (by rfl) ?_)
          | (go_at_call 52; refine (HN.out _).mono ?_; rintro e w1 ⟨rfl, rfl⟩))
        go_ret
        exact ⟨rfl, hS.drop⟩
      · have d2 : decide (i < (48 : Int)) = false := decide_eq_false h2
        rw [d1, d2]
        go_enter Try.func71, Try.ntmps71
        go_wp2_with (first
          | (refine toList (by rfl) ?_; refine bx hS _ _ (by rfl) _ (by first | exact evC | exact evT (by rfl)) ?_; intro px w1 hS1; clear hS; have hS := hS1; clear hS1; rw [cells_agg] at hS)
          | (refine toList (by rfl) ?_; refine ld hS _ _ (by rfl) _ _ (by rfl) (agOf (by rfl)) (by first | exact Has.z | exact Has.s Has.z | exact Has.s (Has.s Has.z) | exact Has.s (Has.s (Has.s Has.z)) | exact Has.s (Has.s (Has.s (Has.s Has.z))) | exact Has.s (Has.s (Has.s (Has.s (Has.s Has.z))))) (by rfl) ?_)
          | (go_at_call 52; refine (HN.out _).mono ?_; rintro e w1 ⟨rfl, rfl⟩))
        go_ret
        exact ⟨rfl, hS.drop⟩
    · have d1 : decide ((1 : Int) ≤ i) = false := decide_eq_false h1
      rw [d1]
      go_enter Try.func71, Try.ntmps71
      go_wp2_with (first
        | (refine toList (by rfl) ?_; refine bx hS _ _ (by rfl) _ (by first | exact evC | exact evT (by rfl)) ?_; intro px w1 hS1; clear hS; have hS := hS1; clear hS1; rw [cells_agg] at hS)
        | (refine toList (by rfl) ?_; refine ld hS _ _ (by rfl) _ _ (by rfl) (agOf (by rfl)) (by first | exact Has.z | exact Has.s Has.z | exact Has.s (Has.s Has.z) | exact Has.s (Has.s (Has.s Has.z)) | exact Has.s (Has.s (Has.s (Has.s Has.z))) | exact Has.s (Has.s (Has.s (Has.s (Has.s Has.z))))) (by rfl) ?_)
        | (go_at_call 52; refine (HN.out _).mono ?_; rintro e w1 ⟨rfl, rfl⟩))
      go_ret
      exact ⟨rfl, hS.drop⟩
end Go.Proofs.Ytiieicdhkcikpaa
namespace Go.Proofs.Ytiieicdhkcikpaa
open Go.RowKit Go.Sep
set_option linter.unusedSimpArgs false
set_option linter.unusedVariables false
attribute [local irreducible] Go.Oper.wp Go.wpList Go.Calls Go.Code.wp Go.Sep.Reg
theorem half_le (a b : Nat) : (a + b) / 2 ≤ (a + b) := Nat.div_le_self _ _
set_option maxRecDepth 20000 in
/-- The closure: does the name stand here, or behind? -/
theorem clos_any {W w : World} {L : List Asrt} {pl pn : Nat} (l : List EntD) (ao : Option Addr) (c : Nat) (n : List UInt8) (hS : Sat W w (Cs pl 51 [.slice ao l.length c] :: Cs pn 9 [sv n] :: L)) (hr : ∀ w, Sat W w L → Rd w (.slice ao l.length c) l.length 2 (l.flatMap ev2)) (hl : l.length ≤ 1000) {i : Nat} {e : EntD} (hx : l[i]? = some e) :
    Calls Try.prog 77 #[.int .i64 (i : Int), .pointer (some ⟨pl, 0, none⟩), .pointer (some ⟨pn, 0, none⟩)] w fun r w' => r = .returned (.bool (!less e.nm n)) ∧ Sat W w' (Cs pl 51 [.slice ao l.length c] :: Cs pn 9 [sv n] :: L) := by
  have HR := Lib.hid hr
  have hil := (List.getElem?_eq_some_iff.1 hx).1
  obtain ⟨_, _, he, hc1, hc2, _, h5⟩ := hr w hS.drop.drop
  simp only [Value.slice.injEq, true_and] at he
  obtain ⟨rfl, rfl⟩ := he
  obtain ⟨b, off, rfl, _⟩ := h5 (by omega)
  have HX := Lib.hid hx
  obtain ⟨⟩ : e = ⟨e.nm, e.ino⟩ := rfl
  obtain ⟨en, ei⟩ := e
  dsimp only
  have k1 : (i : Int) < (l.length : Int) := by omega
  clear hr hx h5
  replace hS := (show Sat W w (Cs pl 51 [.slice (some ⟨b, off, none⟩) l.length c] :: Cs pn 9 [.string ⟨n.toArray⟩] :: L) from hS)
  go_enter Try.func77, Try.ntmps77
  go_wp2
  refine regStart [] hS (by kernel_rfl) rfl ?_
  intro w1 hS1
  clear hS; have hS := hS1; clear hS1
  (refine regR 0 hS (fun _ h => h) rfl (by kernel_rfl) (by kernel_rfl) (by kernel_rfl) (by kernel_rfl) (by kernel_rfl) (fun _ _ _ _ h => h) (by rfl) (by rfl) ?_; (first
        | refine ⟨_, yLd _ _ (by rfl) _ _ (by rfl) (agOf (by rfl)) (by first | exact Has.z | exact Has.s Has.z | exact Has.s (Has.s Has.z) | exact Has.s (Has.s (Has.s Has.z)) | exact Has.s (Has.s (Has.s (Has.s Has.z))) | exact Has.s (Has.s (Has.s (Has.s (Has.s Has.z))))) (by rfl), ?_⟩
        | refine ⟨.string ⟨en.toArray⟩, fun u hu => rLdRd (f := ev2) (x := ⟨en, ei⟩) (HR.out _ hu.drop.drop) (ev2_len l) _ _ (by rfl) _ (by rfl) (agOf (by rfl)) i 0 (by omega) HX.out (by rfl) (by omega), ?_⟩); go_frame)
  (refine regP 1 hS (fun _ h => h) rfl (by kernel_rfl) (by kernel_rfl) (by kernel_rfl) (fun _ _ _ _ h => h) (by rfl) (by rfl) ?_; apply Exists.intro; apply And.intro; (intro w; go_simp; try with_reducible rfl); go_frame)
  (refine regP 2 hS (fun _ h => h) rfl (by kernel_rfl) (by kernel_rfl) (by kernel_rfl) (fun _ _ _ _ h => h) (by rfl) (by rfl) ?_; apply Exists.intro; apply And.intro; (intro w; go_simp; try with_reducible rfl); go_frame)
  (refine regP 3 hS (fun _ h => h) rfl (by kernel_rfl) (by kernel_rfl) (by kernel_rfl) (fun _ _ _ _ h => h) (by rfl) (by rfl) ?_; apply Exists.intro; apply And.intro; (intro w; go_simp; try with_reducible rfl); go_frame)
  (refine regR 4 hS (fun _ h => h) rfl (by kernel_rfl) (by kernel_rfl) (by kernel_rfl) (by kernel_rfl) (by kernel_rfl) (fun _ _ _ _ h => h) (by rfl) (by rfl) ?_; (first
        | refine ⟨_, yLd _ _ (by rfl) _ _ (by rfl) (agOf (by rfl)) (by first | exact Has.z | exact Has.s Has.z | exact Has.s (Has.s Has.z) | exact Has.s (Has.s (Has.s Has.z)) | exact Has.s (Has.s (Has.s (Has.s Has.z))) | exact Has.s (Has.s (Has.s (Has.s (Has.s Has.z))))) (by rfl), ?_⟩
        | refine ⟨.string ⟨en.toArray⟩, fun u hu => rLdRd (f := ev2) (x := ⟨en, ei⟩) (HR.out _ hu.drop.drop) (ev2_len l) _ _ (by rfl) _ (by rfl) (agOf (by rfl)) i 0 (by omega) HX.out (by rfl) (by omega), ?_⟩); go_frame)
  (refine regR 5 hS (fun _ h => h) rfl (by kernel_rfl) (by kernel_rfl) (by kernel_rfl) (by kernel_rfl) (by kernel_rfl) (fun _ _ _ _ h => h) (by rfl) (by rfl) ?_; (first
        | refine ⟨_, yLd _ _ (by rfl) _ _ (by rfl) (agOf (by rfl)) (by first | exact Has.z | exact Has.s Has.z | exact Has.s (Has.s Has.z) | exact Has.s (Has.s (Has.s Has.z)) | exact Has.s (Has.s (Has.s (Has.s Has.z))) | exact Has.s (Has.s (Has.s (Has.s (Has.s Has.z))))) (by rfl), ?_⟩
        | refine ⟨.string ⟨en.toArray⟩, fun u hu => rLdRd (f := ev2) (x := ⟨en, ei⟩) (HR.out _ hu.drop.drop) (ev2_len l) _ _ (by rfl) _ (by rfl) (agOf (by rfl)) i 0 (by omega) HX.out (by rfl) (by omega), ?_⟩); go_frame)
  (refine regP 6 hS (fun _ h => h) rfl (by kernel_rfl) (by kernel_rfl) (by kernel_rfl) (fun _ _ _ _ h => h) (by rfl) (by rfl) ?_; apply Exists.intro; apply And.intro; (intro w; go_simp; try with_reducible rfl); go_frame)
  (refine regP 7 hS (fun _ h => h) rfl (by kernel_rfl) (by kernel_rfl) (by kernel_rfl) (fun _ _ _ _ h => h) (by rfl) (by rfl) ?_; apply Exists.intro; apply And.intro; (intro w; go_simp; try with_reducible rfl); go_frame)
  refine regDone (by kernel_rfl) ?_
  go_wp2
  go_ret
  refine ⟨?_, hS⟩
  rfl
set_option maxRecDepth 20000 in
set_option maxHeartbeats 1000000 in
theorem search_any {W w : World} {L : List Asrt} {pl pn : Nat} (l : List EntD) (ao : Option Addr) (c : Nat) (n : List UInt8) (hS : Sat W w (Cs pl 51 [.slice ao l.length c] :: Cs pn 9 [sv n] :: L)) (hr : ∀ w, Sat W w L → Rd w (.slice ao l.length c) l.length 2 (l.flatMap ev2)) (hl : l.length ≤ 1000) (hs : SrtE l) :
    Calls Try.prog 76 #[.int .i64 (l.length : Int), .func (.func 77) #[] #[.pointer (some ⟨pl, 0, none⟩), .pointer (some ⟨pn, 0, none⟩)]] w fun r w' => r = .returned (.int .i64 (atE l n : Nat)) ∧ Sat W w' (Cs pl 51 [.slice ao l.length c] :: Cs pn 9 [sv n] :: L) := by
  have HC := Lib.hid (fun w (h : Sat W w (Cs pl 51 [.slice ao l.length c] :: Cs pn 9 [sv n] :: L)) (i : Nat) (e : EntD) (hx : l[i]? = some e) => clos_any l ao c n h hr hl hx)
  obtain ⟨k, hk⟩ : ∃ k, atE l n = k := ⟨_, rfl⟩
  have hkl : k ≤ l.length := by rw [← hk]; exact atE_le l n
  have HLO := Lib.hid (fun (i : Nat) (e : EntD) (hx : l[i]? = some e) (h : less e.nm n = true) => show i < k by
    rcases Nat.lt_or_ge i k with h2 | h2
    · exact h2
    · rw [hs.ge hx (by omega)] at h; cases h)
  have HHI := Lib.hid (fun (i : Nat) (e : EntD) (hx : l[i]? = some e) (h : less e.nm n = false) => show k ≤ i by
    rcases Nat.lt_or_ge i k with h2 | h2
    · rw [atE_lt hx (by omega)] at h; cases h
    · exact h2)
  rw [hk]
  have H0 := Lib.hid hS
  clear hr hs hk hS
  go_enter Try.func76, Try.ntmps76
  go_wp2
  go_loopw [5, 6] (fun v5 v6 wz => ∃ a b : Nat, v5 = .int .i64 a ∧ v6 = .int .i64 b ∧ a ≤ k ∧ k ≤ b ∧ b ≤ l.length ∧ Sat W wz (Cs pl 51 [.slice ao l.length c] :: Cs pn 9 [sv n] :: L)) (fun v5 v6 _ => (intOf v6 - intOf v5).toNat)
  case atStart => exact ⟨0, l.length, rfl, rfl, by omega, hkl, by omega, H0.out⟩
  case round =>
    clear H0
    obtain ⟨a, b, rfl, rfl, ha, hb, hbl, hS⟩ := hrel
    by_cases hab : a < b
    · have k1 : (a : Int) < (b : Int) := by omega
      obtain ⟨m, hm⟩ : ∃ m, (a + b) / 2 = m := ⟨_, rfl⟩
      have hm1 : a ≤ m := by omega
      have hm2 : m < b := by omega
      have hmi : ((a : Int) + (b : Int)) / 2 = (m : Int) := by omega
      obtain ⟨e, hx⟩ : ∃ e, l[m]? = some e := ⟨_, List.getElem?_eq_getElem (by omega)⟩
      have HX := Lib.hid hx
      have HM := Lib.hid (And.intro hm1 hm2)
      have HA := Lib.hid (And.intro ha (And.intro hb hbl))
      have hai : (a : Int) ≤ 1000 := by omega
      have hbi : (b : Int) ≤ 1000 := by omega
      clear hm hx hab
      cases hq : less e.nm n
      · have HQ := Lib.hid (HHI.out m e HX.out hq)
        have HCL := Lib.hid (fun w h => by have := HC.out w h m e HX.out; rw [hq] at this; exact this)
        clear hq
        go_wp2_with (go_at_call 77; refine (HCL.out _ hS).mono ?_; rintro r w1 ⟨rfl, hS1⟩; clear hS; have hS := hS1; clear hS1)
        exact ⟨⟨a, m, rfl, rfl, HA.out.1, HQ.out, by have := HA.out.2.2; have := HM.out.2; omega, hS⟩, by simp [intOf]; have := HM.out; omega⟩
      · have HQ := Lib.hid (HLO.out m e HX.out hq)
        have HCL := Lib.hid (fun w h => by have := HC.out w h m e HX.out; rw [hq] at this; exact this)
        clear hq
        go_wp2_with (go_at_call 77; refine (HCL.out _ hS).mono ?_; rintro r w1 ⟨rfl, hS1⟩; clear hS; have hS := hS1; clear hS1)
        exact ⟨⟨m + 1, b, by go_num, rfl, HQ.out, HA.out.2.1, HA.out.2.2, hS⟩, by simp [intOf]; have := HM.out; omega⟩
    · have k1 : ¬ (a : Int) < (b : Int) := by omega
      obtain rfl : a = k := by omega
      clear hab
      go_wp2
      go_ret
      exact ⟨rfl, hS⟩
end Go.Proofs.Ytiieicdhkcikpaa
namespace Go.Proofs.Ytiieicdhkcikpaa
open Go.RowKit Go.Sep
set_option linter.unusedSimpArgs false
set_option linter.unusedVariables false
attribute [local irreducible] Go.Oper.wp Go.wpList Go.Calls Go.Code.wp Go.Sep.Reg
theorem SrtE.has_no {l : List EntD} (h : SrtE l) {n : List UInt8} (hb : ∀ e, l[atE l n]? = some e → e.nm ≠ n) : hasE l n = false := by
  cases hx : hasE l n with
  | false => rfl
  | true =>
    obtain ⟨e, he, hn⟩ := (h.has_iff n).1 hx
    exact absurd hn (hb e he)
set_option maxRecDepth 20000 in
set_option maxHeartbeats 1000000 in
theorem dplace_any {W w : World} {L : List Asrt} (hS : Sat W w L) (l : List EntD) (ao : Option Addr) (c : Nat) (n : List UInt8) (hr : ∀ w, Sat W w L → Rd w (.slice ao l.length c) l.length 2 (l.flatMap ev2)) (hl : l.length ≤ 1000) (hs : SrtE l) :
    Calls Try.prog 73 #[.slice ao l.length c, sv n] w fun r w' => r = .returned (.tuple #[.int .i64 (atE l n : Nat), .bool (hasE l n)]) ∧ Sat W w' L := by
  have HR := Lib.hid hr
  obtain ⟨_, _, he, hc1, hc2, _, h5⟩ := hr w hS
  simp only [Value.slice.injEq, true_and] at he
  obtain ⟨rfl, rfl⟩ := he
  have H5 := Lib.hid h5
  have HSE := Lib.hid (fun pl pn w (h : Sat W w (Cs pl 51 [.slice ao l.length c] :: Cs pn 9 [sv n] :: L)) => search_any l ao c n h hr hl hs)
  have hli : (l.length : Int) ≤ 1000 := by omega
  have HS := Lib.hid hs
  obtain ⟨k, hk⟩ : ∃ k, atE l n = k := ⟨_, rfl⟩
  rw [hk] at HSE ⊢
  have HK := Lib.hid hk
  clear hr hs h5 hk
  by_cases hkl : k < l.length
  · obtain ⟨b, off, rfl, _⟩ := H5.out (by omega)
    obtain ⟨⟨en, ei⟩, hx⟩ : ∃ e, l[k]? = some e := ⟨_, List.getElem?_eq_getElem hkl⟩
    have HX := Lib.hid hx
    have k1 : (k : Int) < (l.length : Int) := by omega
    clear hx
    by_cases hq : en = n
    · have HB := Lib.hid (show hasE l n = true from (HS.out.has_iff n).2 ⟨_, by rw [HK.out]; exact HX.out, hq⟩)
      have e1 : (en == n) = true := beq_iff_eq.2 hq
      clear hq
      rw [HB.out]
      go_enter Try.func73, Try.ntmps73
      go_wp2_with (first
        | (refine toList (by rfl) ?_; refine bx hS _ _ (by rfl) _ (by first | exact evC | exact evT (by rfl)) ?_; intro pl w1 hS1; clear hS; have hS := (show Sat W w1 (Cs pl _ [.slice (some ⟨b, off, none⟩) l.length c] :: _) from hS1); clear hS1)
        | (refine toList (by rfl) ?_; refine bx hS _ _ (by rfl) _ (by first | exact evC | exact evT (by rfl)) ?_; intro pn w1 hS1; clear hS; have hS := (show Sat W w1 (Cs pn _ [sv n] :: _) from hS1); clear hS1)
        | (refine toList (by rfl) ?_; refine ld hS _ _ (by rfl) _ _ (by rfl) (agOf (by rfl)) (by first | exact Has.z | exact Has.s Has.z | exact Has.s (Has.s Has.z) | exact Has.s (Has.s (Has.s Has.z)) | exact Has.s (Has.s (Has.s (Has.s Has.z))) | exact Has.s (Has.s (Has.s (Has.s (Has.s Has.z))))) (by rfl) ?_)
        | (go_at_call 76; refine (HSE.out pl pn _ hS.pull1).mono ?_; rintro r w1 ⟨rfl, hS1⟩; clear hS; have hS := (show Sat W w1 (Cs pl 51 [.slice (some ⟨b, off, none⟩) l.length c] :: Cs pn 9 [.string ⟨n.toArray⟩] :: L) from hS1); clear hS1))
      refine regStart [] hS (by kernel_rfl) rfl ?_
      intro w1 hS1
      clear hS; have hS := hS1; clear hS1
      (refine regP 0 hS (fun _ h => h) rfl (by kernel_rfl) (by kernel_rfl) (by kernel_rfl) (fun _ _ _ _ h => h) (by rfl) (by rfl) ?_; apply Exists.intro; apply And.intro; (intro w; go_simp; try with_reducible rfl); go_frame)
      (refine regP 1 hS (fun _ h => h) rfl (by kernel_rfl) (by kernel_rfl) (by kernel_rfl) (fun _ _ _ _ h => h) (by rfl) (by rfl) ?_; apply Exists.intro; apply And.intro; (intro w; go_simp; try with_reducible rfl); go_frame)
      (refine regR 2 hS (fun _ h => h) rfl (by kernel_rfl) (by kernel_rfl) (by kernel_rfl) (by kernel_rfl) (by kernel_rfl) (fun _ _ _ _ h => h) (by rfl) (by rfl) ?_; (first
                    | refine ⟨_, yLd _ _ (by rfl) _ _ (by rfl) (agOf (by rfl)) (by first | exact Has.z | exact Has.s Has.z | exact Has.s (Has.s Has.z) | exact Has.s (Has.s (Has.s Has.z)) | exact Has.s (Has.s (Has.s (Has.s Has.z))) | exact Has.s (Has.s (Has.s (Has.s (Has.s Has.z))))) (by rfl), ?_⟩
                    | refine ⟨.string ⟨en.toArray⟩, fun u hu => rLdRd (f := ev2) (x := ⟨en, ei⟩) (HR.out _ hu.drop.drop) (ev2_len l) _ _ (by rfl) _ (by rfl) (agOf (by rfl)) k 0 (by omega) HX.out (by rfl) (by omega), ?_⟩); go_frame)
      (refine regP 3 hS (fun _ h => h) rfl (by kernel_rfl) (by kernel_rfl) (by kernel_rfl) (fun _ _ _ _ h => h) (by rfl) (by rfl) ?_; apply Exists.intro; apply And.intro; (intro w; go_simp; try with_reducible rfl); go_frame)
      (refine regP 4 hS (fun _ h => h) rfl (by kernel_rfl) (by kernel_rfl) (by kernel_rfl) (fun _ _ _ _ h => h) (by rfl) (by rfl) ?_; apply Exists.intro; apply And.intro; (intro w; go_simp; try with_reducible rfl); go_frame)
      (refine regP 5 hS (fun _ h => h) rfl (by kernel_rfl) (by kernel_rfl) (by kernel_rfl) (fun _ _ _ _ h => h) (by rfl) (by rfl) ?_; apply Exists.intro; apply And.intro; (intro w; go_simp; try with_reducible rfl); go_frame)
      (first | (refine regR 6 hS (fun _ h => h) rfl (by kernel_rfl) (by kernel_rfl) (by kernel_rfl) (by kernel_rfl) (by kernel_rfl) (fun _ _ _ _ h => h) (by rfl) (by rfl) ?_; (first
                    | refine ⟨_, yLd _ _ (by rfl) _ _ (by rfl) (agOf (by rfl)) (by first | exact Has.z | exact Has.s Has.z | exact Has.s (Has.s Has.z) | exact Has.s (Has.s (Has.s Has.z)) | exact Has.s (Has.s (Has.s (Has.s Has.z))) | exact Has.s (Has.s (Has.s (Has.s (Has.s Has.z))))) (by rfl), ?_⟩
                    | refine ⟨.string ⟨en.toArray⟩, fun u hu => rLdRd (f := ev2) (x := ⟨en, ei⟩) (HR.out _ hu.drop.drop) (ev2_len l) _ _ (by rfl) _ (by rfl) (agOf (by rfl)) k 0 (by omega) HX.out (by rfl) (by omega), ?_⟩); go_frame) | (refine regN 6 hS (fun _ h => h) rfl (by kernel_rfl) (by kernel_rfl) (by kernel_rfl) (fun _ _ _ h => h) (by rfl) (by rfl) ?_; go_frame))
      (first | (refine regP 7 hS (fun _ h => h) rfl (by kernel_rfl) (by kernel_rfl) (by kernel_rfl) (fun _ _ _ _ h => h) (by rfl) (by rfl) ?_; apply Exists.intro; apply And.intro; (intro w; go_simp; try with_reducible rfl); go_frame) | (refine regN 7 hS (fun _ h => h) rfl (by kernel_rfl) (by kernel_rfl) (by kernel_rfl) (fun _ _ _ h => h) (by rfl) (by rfl) ?_; go_frame))
      (first | (refine regP 8 hS (fun _ h => h) rfl (by kernel_rfl) (by kernel_rfl) (by kernel_rfl) (fun _ _ _ _ h => h) (by rfl) (by rfl) ?_; apply Exists.intro; apply And.intro; (intro w; go_simp; try with_reducible rfl); go_frame) | (refine regN 8 hS (fun _ h => h) rfl (by kernel_rfl) (by kernel_rfl) (by kernel_rfl) (fun _ _ _ h => h) (by rfl) (by rfl) ?_; go_frame))
      (first | (refine regP 9 hS (fun _ h => h) rfl (by kernel_rfl) (by kernel_rfl) (by kernel_rfl) (fun _ _ _ _ h => h) (by rfl) (by rfl) ?_; apply Exists.intro; apply And.intro; (intro w; go_simp; try with_reducible rfl); go_frame) | (refine regN 9 hS (fun _ h => h) rfl (by kernel_rfl) (by kernel_rfl) (by kernel_rfl) (fun _ _ _ h => h) (by rfl) (by rfl) ?_; go_frame))
      (first | (refine regR 10 hS (fun _ h => h) rfl (by kernel_rfl) (by kernel_rfl) (by kernel_rfl) (by kernel_rfl) (by kernel_rfl) (fun _ _ _ _ h => h) (by rfl) (by rfl) ?_; (first
                    | refine ⟨_, yLd _ _ (by rfl) _ _ (by rfl) (agOf (by rfl)) (by first | exact Has.z | exact Has.s Has.z | exact Has.s (Has.s Has.z) | exact Has.s (Has.s (Has.s Has.z)) | exact Has.s (Has.s (Has.s (Has.s Has.z))) | exact Has.s (Has.s (Has.s (Has.s (Has.s Has.z))))) (by rfl), ?_⟩
                    | refine ⟨.string ⟨en.toArray⟩, fun u hu => rLdRd (f := ev2) (x := ⟨en, ei⟩) (HR.out _ hu.drop.drop) (ev2_len l) _ _ (by rfl) _ (by rfl) (agOf (by rfl)) k 0 (by omega) HX.out (by rfl) (by omega), ?_⟩); go_frame) | (refine regN 10 hS (fun _ h => h) rfl (by kernel_rfl) (by kernel_rfl) (by kernel_rfl) (fun _ _ _ h => h) (by rfl) (by rfl) ?_; go_frame))
      (first | (refine regR 11 hS (fun _ h => h) rfl (by kernel_rfl) (by kernel_rfl) (by kernel_rfl) (by kernel_rfl) (by kernel_rfl) (fun _ _ _ _ h => h) (by rfl) (by rfl) ?_; (first
                    | refine ⟨_, yLd _ _ (by rfl) _ _ (by rfl) (agOf (by rfl)) (by first | exact Has.z | exact Has.s Has.z | exact Has.s (Has.s Has.z) | exact Has.s (Has.s (Has.s Has.z)) | exact Has.s (Has.s (Has.s (Has.s Has.z))) | exact Has.s (Has.s (Has.s (Has.s (Has.s Has.z))))) (by rfl), ?_⟩
                    | refine ⟨.string ⟨en.toArray⟩, fun u hu => rLdRd (f := ev2) (x := ⟨en, ei⟩) (HR.out _ hu.drop.drop) (ev2_len l) _ _ (by rfl) _ (by rfl) (agOf (by rfl)) k 0 (by omega) HX.out (by rfl) (by omega), ?_⟩); go_frame) | (refine regN 11 hS (fun _ h => h) rfl (by kernel_rfl) (by kernel_rfl) (by kernel_rfl) (fun _ _ _ h => h) (by rfl) (by rfl) ?_; go_frame))
      (first | (refine regP 12 hS (fun _ h => h) rfl (by kernel_rfl) (by kernel_rfl) (by kernel_rfl) (fun _ _ _ _ h => h) (by rfl) (by rfl) ?_; apply Exists.intro; apply And.intro; (intro w; go_simp; try with_reducible rfl); go_frame) | (refine regN 12 hS (fun _ h => h) rfl (by kernel_rfl) (by kernel_rfl) (by kernel_rfl) (fun _ _ _ h => h) (by rfl) (by rfl) ?_; go_frame))
      (refine regP 13 hS (fun _ h => h) rfl (by kernel_rfl) (by kernel_rfl) (by kernel_rfl) (fun _ _ _ _ h => h) (by rfl) (by rfl) ?_; apply Exists.intro; apply And.intro; (intro w; go_simp; try with_reducible rfl); go_frame)
      (refine regP 14 hS (fun _ h => h) rfl (by kernel_rfl) (by kernel_rfl) (by kernel_rfl) (fun _ _ _ _ h => h) (by rfl) (by rfl) ?_; apply Exists.intro; apply And.intro; (intro w; go_simp; try with_reducible rfl); go_frame)
      (refine regP 15 hS (fun _ h => h) rfl (by kernel_rfl) (by kernel_rfl) (by kernel_rfl) (fun _ _ _ _ h => h) (by rfl) (by rfl) ?_; apply Exists.intro; apply And.intro; (intro w; go_simp; try with_reducible rfl); go_frame)
      refine regDone (by kernel_rfl) ?_
      go_wp2
      go_ret2
      exact ⟨rfl, hS.drop.drop⟩
    · have HB := Lib.hid (show hasE l n = false from HS.out.has_no fun e he hn => by rw [HK.out, HX.out] at he; cases he; exact hq hn)
      have e1 : (en == n) = false := beq_eq_false_iff_ne.2 hq
      clear hq
      rw [HB.out]
      go_enter Try.func73, Try.ntmps73
      go_wp2_with (first
        | (refine toList (by rfl) ?_; refine bx hS _ _ (by rfl) _ (by first | exact evC | exact evT (by rfl)) ?_; intro pl w1 hS1; clear hS; have hS := (show Sat W w1 (Cs pl _ [.slice (some ⟨b, off, none⟩) l.length c] :: _) from hS1); clear hS1)
        | (refine toList (by rfl) ?_; refine bx hS _ _ (by rfl) _ (by first | exact evC | exact evT (by rfl)) ?_; intro pn w1 hS1; clear hS; have hS := (show Sat W w1 (Cs pn _ [sv n] :: _) from hS1); clear hS1)
        | (refine toList (by rfl) ?_; refine ld hS _ _ (by rfl) _ _ (by rfl) (agOf (by rfl)) (by first | exact Has.z | exact Has.s Has.z | exact Has.s (Has.s Has.z) | exact Has.s (Has.s (Has.s Has.z)) | exact Has.s (Has.s (Has.s (Has.s Has.z))) | exact Has.s (Has.s (Has.s (Has.s (Has.s Has.z))))) (by rfl) ?_)
        | (go_at_call 76; refine (HSE.out pl pn _ hS.pull1).mono ?_; rintro r w1 ⟨rfl, hS1⟩; clear hS; have hS := (show Sat W w1 (Cs pl 51 [.slice (some ⟨b, off, none⟩) l.length c] :: Cs pn 9 [.string ⟨n.toArray⟩] :: L) from hS1); clear hS1))
      refine regStart [] hS (by kernel_rfl) rfl ?_
      intro w1 hS1
      clear hS; have hS := hS1; clear hS1
      (refine regP 0 hS (fun _ h => h) rfl (by kernel_rfl) (by kernel_rfl) (by kernel_rfl) (fun _ _ _ _ h => h) (by rfl) (by rfl) ?_; apply Exists.intro; apply And.intro; (intro w; go_simp; try with_reducible rfl); go_frame)
      (refine regP 1 hS (fun _ h => h) rfl (by kernel_rfl) (by kernel_rfl) (by kernel_rfl) (fun _ _ _ _ h => h) (by rfl) (by rfl) ?_; apply Exists.intro; apply And.intro; (intro w; go_simp; try with_reducible rfl); go_frame)
      (refine regR 2 hS (fun _ h => h) rfl (by kernel_rfl) (by kernel_rfl) (by kernel_rfl) (by kernel_rfl) (by kernel_rfl) (fun _ _ _ _ h => h) (by rfl) (by rfl) ?_; (first
                    | refine ⟨_, yLd _ _ (by rfl) _ _ (by rfl) (agOf (by rfl)) (by first | exact Has.z | exact Has.s Has.z | exact Has.s (Has.s Has.z) | exact Has.s (Has.s (Has.s Has.z)) | exact Has.s (Has.s (Has.s (Has.s Has.z))) | exact Has.s (Has.s (Has.s (Has.s (Has.s Has.z))))) (by rfl), ?_⟩
                    | refine ⟨.string ⟨en.toArray⟩, fun u hu => rLdRd (f := ev2) (x := ⟨en, ei⟩) (HR.out _ hu.drop.drop) (ev2_len l) _ _ (by rfl) _ (by rfl) (agOf (by rfl)) k 0 (by omega) HX.out (by rfl) (by omega), ?_⟩); go_frame)
      (refine regP 3 hS (fun _ h => h) rfl (by kernel_rfl) (by kernel_rfl) (by kernel_rfl) (fun _ _ _ _ h => h) (by rfl) (by rfl) ?_; apply Exists.intro; apply And.intro; (intro w; go_simp; try with_reducible rfl); go_frame)
      (refine regP 4 hS (fun _ h => h) rfl (by kernel_rfl) (by kernel_rfl) (by kernel_rfl) (fun _ _ _ _ h => h) (by rfl) (by rfl) ?_; apply Exists.intro; apply And.intro; (intro w; go_simp; try with_reducible rfl); go_frame)
      (refine regP 5 hS (fun _ h => h) rfl (by kernel_rfl) (by kernel_rfl) (by kernel_rfl) (fun _ _ _ _ h => h) (by rfl) (by rfl) ?_; apply Exists.intro; apply And.intro; (intro w; go_simp; try with_reducible rfl); go_frame)
      (first | (refine regR 6 hS (fun _ h => h) rfl (by kernel_rfl) (by kernel_rfl) (by kernel_rfl) (by kernel_rfl) (by kernel_rfl) (fun _ _ _ _ h => h) (by rfl) (by rfl) ?_; (first
                    | refine ⟨_, yLd _ _ (by rfl) _ _ (by rfl) (agOf (by rfl)) (by first | exact Has.z | exact Has.s Has.z | exact Has.s (Has.s Has.z) | exact Has.s (Has.s (Has.s Has.z)) | exact Has.s (Has.s (Has.s (Has.s Has.z))) | exact Has.s (Has.s (Has.s (Has.s (Has.s Has.z))))) (by rfl), ?_⟩
                    | refine ⟨.string ⟨en.toArray⟩, fun u hu => rLdRd (f := ev2) (x := ⟨en, ei⟩) (HR.out _ hu.drop.drop) (ev2_len l) _ _ (by rfl) _ (by rfl) (agOf (by rfl)) k 0 (by omega) HX.out (by rfl) (by omega), ?_⟩); go_frame) | (refine regN 6 hS (fun _ h => h) rfl (by kernel_rfl) (by kernel_rfl) (by kernel_rfl) (fun _ _ _ h => h) (by rfl) (by rfl) ?_; go_frame))
      (first | (refine regP 7 hS (fun _ h => h) rfl (by kernel_rfl) (by kernel_rfl) (by kernel_rfl) (fun _ _ _ _ h => h) (by rfl) (by rfl) ?_; apply Exists.intro; apply And.intro; (intro w; go_simp; try with_reducible rfl); go_frame) | (refine regN 7 hS (fun _ h => h) rfl (by kernel_rfl) (by kernel_rfl) (by kernel_rfl) (fun _ _ _ h => h) (by rfl) (by rfl) ?_; go_frame))
      (first | (refine regP 8 hS (fun _ h => h) rfl (by kernel_rfl) (by kernel_rfl) (by kernel_rfl) (fun _ _ _ _ h => h) (by rfl) (by rfl) ?_; apply Exists.intro; apply And.intro; (intro w; go_simp; try with_reducible rfl); go_frame) | (refine regN 8 hS (fun _ h => h) rfl (by kernel_rfl) (by kernel_rfl) (by kernel_rfl) (fun _ _ _ h => h) (by rfl) (by rfl) ?_; go_frame))
      (first | (refine regP 9 hS (fun _ h => h) rfl (by kernel_rfl) (by kernel_rfl) (by kernel_rfl) (fun _ _ _ _ h => h) (by rfl) (by rfl) ?_; apply Exists.intro; apply And.intro; (intro w; go_simp; try with_reducible rfl); go_frame) | (refine regN 9 hS (fun _ h => h) rfl (by kernel_rfl) (by kernel_rfl) (by kernel_rfl) (fun _ _ _ h => h) (by rfl) (by rfl) ?_; go_frame))
      (first | (refine regR 10 hS (fun _ h => h) rfl (by kernel_rfl) (by kernel_rfl) (by kernel_rfl) (by kernel_rfl) (by kernel_rfl) (fun _ _ _ _ h => h) (by rfl) (by rfl) ?_; (first
                    | refine ⟨_, yLd _ _ (by rfl) _ _ (by rfl) (agOf (by rfl)) (by first | exact Has.z | exact Has.s Has.z | exact Has.s (Has.s Has.z) | exact Has.s (Has.s (Has.s Has.z)) | exact Has.s (Has.s (Has.s (Has.s Has.z))) | exact Has.s (Has.s (Has.s (Has.s (Has.s Has.z))))) (by rfl), ?_⟩
                    | refine ⟨.string ⟨en.toArray⟩, fun u hu => rLdRd (f := ev2) (x := ⟨en, ei⟩) (HR.out _ hu.drop.drop) (ev2_len l) _ _ (by rfl) _ (by rfl) (agOf (by rfl)) k 0 (by omega) HX.out (by rfl) (by omega), ?_⟩); go_frame) | (refine regN 10 hS (fun _ h => h) rfl (by kernel_rfl) (by kernel_rfl) (by kernel_rfl) (fun _ _ _ h => h) (by rfl) (by rfl) ?_; go_frame))
      (first | (refine regR 11 hS (fun _ h => h) rfl (by kernel_rfl) (by kernel_rfl) (by kernel_rfl) (by kernel_rfl) (by kernel_rfl) (fun _ _ _ _ h => h) (by rfl) (by rfl) ?_; (first
                    | refine ⟨_, yLd _ _ (by rfl) _ _ (by rfl) (agOf (by rfl)) (by first | exact Has.z | exact Has.s Has.z | exact Has.s (Has.s Has.z) | exact Has.s (Has.s (Has.s Has.z)) | exact Has.s (Has.s (Has.s (Has.s Has.z))) | exact Has.s (Has.s (Has.s (Has.s (Has.s Has.z))))) (by rfl), ?_⟩
                    | refine ⟨.string ⟨en.toArray⟩, fun u hu => rLdRd (f := ev2) (x := ⟨en, ei⟩) (HR.out _ hu.drop.drop) (ev2_len l) _ _ (by rfl) _ (by rfl) (agOf (by rfl)) k 0 (by omega) HX.out (by rfl) (by omega), ?_⟩); go_frame) | (refine regN 11 hS (fun _ h => h) rfl (by kernel_rfl) (by kernel_rfl) (by kernel_rfl) (fun _ _ _ h => h) (by rfl) (by rfl) ?_; go_frame))
      (first | (refine regP 12 hS (fun _ h => h) rfl (by kernel_rfl) (by kernel_rfl) (by kernel_rfl) (fun _ _ _ _ h => h) (by rfl) (by rfl) ?_; apply Exists.intro; apply And.intro; (intro w; go_simp; try with_reducible rfl); go_frame) | (refine regN 12 hS (fun _ h => h) rfl (by kernel_rfl) (by kernel_rfl) (by kernel_rfl) (fun _ _ _ h => h) (by rfl) (by rfl) ?_; go_frame))
      (refine regP 13 hS (fun _ h => h) rfl (by kernel_rfl) (by kernel_rfl) (by kernel_rfl) (fun _ _ _ _ h => h) (by rfl) (by rfl) ?_; apply Exists.intro; apply And.intro; (intro w; go_simp; try with_reducible rfl); go_frame)
      (refine regP 14 hS (fun _ h => h) rfl (by kernel_rfl) (by kernel_rfl) (by kernel_rfl) (fun _ _ _ _ h => h) (by rfl) (by rfl) ?_; apply Exists.intro; apply And.intro; (intro w; go_simp; try with_reducible rfl); go_frame)
      (refine regP 15 hS (fun _ h => h) rfl (by kernel_rfl) (by kernel_rfl) (by kernel_rfl) (fun _ _ _ _ h => h) (by rfl) (by rfl) ?_; apply Exists.intro; apply And.intro; (intro w; go_simp; try with_reducible rfl); go_frame)
      refine regDone (by kernel_rfl) ?_
      go_wp2
      go_ret2
      exact ⟨rfl, hS.drop.drop⟩
  · have HB := Lib.hid (show hasE l n = false from HS.out.has_no fun e he hn => by rw [HK.out, List.getElem?_eq_none (by omega)] at he; cases he)
    have k1 : ¬ (k : Int) < (l.length : Int) := by omega
    have k2 : decide ((k : Int) < (l.length : Int)) = false := decide_eq_false k1
    have k3 : decide (k < l.length) = false := decide_eq_false hkl
    rw [HB.out]
    go_enter Try.func73, Try.ntmps73
    go_wp2_with (first
      | (refine toList (by rfl) ?_; refine bx hS _ _ (by rfl) _ (by first | exact evC | exact evT (by rfl)) ?_; intro pl w1 hS1; clear hS; have hS := (show Sat W w1 (Cs pl _ [.slice ao l.length c] :: _) from hS1); clear hS1)
      | (refine toList (by rfl) ?_; refine bx hS _ _ (by rfl) _ (by first | exact evC | exact evT (by rfl)) ?_; intro pn w1 hS1; clear hS; have hS := (show Sat W w1 (Cs pn _ [sv n] :: _) from hS1); clear hS1)
      | (refine toList (by rfl) ?_; refine ld hS _ _ (by rfl) _ _ (by rfl) (agOf (by rfl)) (by first | exact Has.z | exact Has.s Has.z | exact Has.s (Has.s Has.z) | exact Has.s (Has.s (Has.s Has.z)) | exact Has.s (Has.s (Has.s (Has.s Has.z))) | exact Has.s (Has.s (Has.s (Has.s (Has.s Has.z))))) (by rfl) ?_)
      | (go_at_call 76; refine (HSE.out pl pn _ hS.pull1).mono ?_; rintro r w1 ⟨rfl, hS1⟩; clear hS; have hS := hS1; clear hS1))
    refine regStart [] hS (by kernel_rfl) rfl ?_
    intro w1 hS1
    clear hS; have hS := hS1; clear hS1
    (refine regP 0 hS (fun _ h => h) rfl (by kernel_rfl) (by kernel_rfl) (by kernel_rfl) (fun _ _ _ _ h => h) (by rfl) (by rfl) ?_; apply Exists.intro; apply And.intro; (intro w; go_simp; try with_reducible rfl); go_frame)
    (refine regP 1 hS (fun _ h => h) rfl (by kernel_rfl) (by kernel_rfl) (by kernel_rfl) (fun _ _ _ _ h => h) (by rfl) (by rfl) ?_; apply Exists.intro; apply And.intro; (intro w; go_simp; try with_reducible rfl); go_frame)
    (refine regR 2 hS (fun _ h => h) rfl (by kernel_rfl) (by kernel_rfl) (by kernel_rfl) (by kernel_rfl) (by kernel_rfl) (fun _ _ _ _ h => h) (by rfl) (by rfl) ?_; (first
              | refine ⟨_, yLd _ _ (by rfl) _ _ (by rfl) (agOf (by rfl)) (by first | exact Has.z | exact Has.s Has.z | exact Has.s (Has.s Has.z) | exact Has.s (Has.s (Has.s Has.z)) | exact Has.s (Has.s (Has.s (Has.s Has.z))) | exact Has.s (Has.s (Has.s (Has.s (Has.s Has.z))))) (by rfl), ?_⟩); go_frame)
    (refine regP 3 hS (fun _ h => h) rfl (by kernel_rfl) (by kernel_rfl) (by kernel_rfl) (fun _ _ _ _ h => h) (by rfl) (by rfl) ?_; apply Exists.intro; apply And.intro; (intro w; go_simp; try with_reducible rfl); go_frame)
    (refine regP 4 hS (fun _ h => h) rfl (by kernel_rfl) (by kernel_rfl) (by kernel_rfl) (fun _ _ _ _ h => h) (by rfl) (by rfl) ?_; apply Exists.intro; apply And.intro; (intro w; go_simp; try with_reducible rfl); go_frame)
    (refine regP 5 hS (fun _ h => h) rfl (by kernel_rfl) (by kernel_rfl) (by kernel_rfl) (fun _ _ _ _ h => h) (by rfl) (by rfl) ?_; apply Exists.intro; apply And.intro; (intro w; go_simp; try with_reducible rfl); go_frame)
    (first | (refine regR 6 hS (fun _ h => h) rfl (by kernel_rfl) (by kernel_rfl) (by kernel_rfl) (by kernel_rfl) (by kernel_rfl) (fun _ _ _ _ h => h) (by rfl) (by rfl) ?_; (first
              | refine ⟨_, yLd _ _ (by rfl) _ _ (by rfl) (agOf (by rfl)) (by first | exact Has.z | exact Has.s Has.z | exact Has.s (Has.s Has.z) | exact Has.s (Has.s (Has.s Has.z)) | exact Has.s (Has.s (Has.s (Has.s Has.z))) | exact Has.s (Has.s (Has.s (Has.s (Has.s Has.z))))) (by rfl), ?_⟩); go_frame) | (refine regN 6 hS (fun _ h => h) rfl (by kernel_rfl) (by kernel_rfl) (by kernel_rfl) (fun _ _ _ h => h) (by rfl) (by rfl) ?_; go_frame))
    (first | (refine regP 7 hS (fun _ h => h) rfl (by kernel_rfl) (by kernel_rfl) (by kernel_rfl) (fun _ _ _ _ h => h) (by rfl) (by rfl) ?_; apply Exists.intro; apply And.intro; (intro w; go_simp; try with_reducible rfl); go_frame) | (refine regN 7 hS (fun _ h => h) rfl (by kernel_rfl) (by kernel_rfl) (by kernel_rfl) (fun _ _ _ h => h) (by rfl) (by rfl) ?_; go_frame))
    (first | (refine regP 8 hS (fun _ h => h) rfl (by kernel_rfl) (by kernel_rfl) (by kernel_rfl) (fun _ _ _ _ h => h) (by rfl) (by rfl) ?_; apply Exists.intro; apply And.intro; (intro w; go_simp; try with_reducible rfl); go_frame) | (refine regN 8 hS (fun _ h => h) rfl (by kernel_rfl) (by kernel_rfl) (by kernel_rfl) (fun _ _ _ h => h) (by rfl) (by rfl) ?_; go_frame))
    (first | (refine regP 9 hS (fun _ h => h) rfl (by kernel_rfl) (by kernel_rfl) (by kernel_rfl) (fun _ _ _ _ h => h) (by rfl) (by rfl) ?_; apply Exists.intro; apply And.intro; (intro w; go_simp; try with_reducible rfl); go_frame) | (refine regN 9 hS (fun _ h => h) rfl (by kernel_rfl) (by kernel_rfl) (by kernel_rfl) (fun _ _ _ h => h) (by rfl) (by rfl) ?_; go_frame))
    (first | (refine regR 10 hS (fun _ h => h) rfl (by kernel_rfl) (by kernel_rfl) (by kernel_rfl) (by kernel_rfl) (by kernel_rfl) (fun _ _ _ _ h => h) (by rfl) (by rfl) ?_; (first
              | refine ⟨_, yLd _ _ (by rfl) _ _ (by rfl) (agOf (by rfl)) (by first | exact Has.z | exact Has.s Has.z | exact Has.s (Has.s Has.z) | exact Has.s (Has.s (Has.s Has.z)) | exact Has.s (Has.s (Has.s (Has.s Has.z))) | exact Has.s (Has.s (Has.s (Has.s (Has.s Has.z))))) (by rfl), ?_⟩); go_frame) | (refine regN 10 hS (fun _ h => h) rfl (by kernel_rfl) (by kernel_rfl) (by kernel_rfl) (fun _ _ _ h => h) (by rfl) (by rfl) ?_; go_frame))
    (first | (refine regR 11 hS (fun _ h => h) rfl (by kernel_rfl) (by kernel_rfl) (by kernel_rfl) (by kernel_rfl) (by kernel_rfl) (fun _ _ _ _ h => h) (by rfl) (by rfl) ?_; (first
              | refine ⟨_, yLd _ _ (by rfl) _ _ (by rfl) (agOf (by rfl)) (by first | exact Has.z | exact Has.s Has.z | exact Has.s (Has.s Has.z) | exact Has.s (Has.s (Has.s Has.z)) | exact Has.s (Has.s (Has.s (Has.s Has.z))) | exact Has.s (Has.s (Has.s (Has.s (Has.s Has.z))))) (by rfl), ?_⟩); go_frame) | (refine regN 11 hS (fun _ h => h) rfl (by kernel_rfl) (by kernel_rfl) (by kernel_rfl) (fun _ _ _ h => h) (by rfl) (by rfl) ?_; go_frame))
    (first | (refine regP 12 hS (fun _ h => h) rfl (by kernel_rfl) (by kernel_rfl) (by kernel_rfl) (fun _ _ _ _ h => h) (by rfl) (by rfl) ?_; apply Exists.intro; apply And.intro; (intro w; go_simp; try with_reducible rfl); go_frame) | (refine regN 12 hS (fun _ h => h) rfl (by kernel_rfl) (by kernel_rfl) (by kernel_rfl) (fun _ _ _ h => h) (by rfl) (by rfl) ?_; go_frame))
    (refine regP 13 hS (fun _ h => h) rfl (by kernel_rfl) (by kernel_rfl) (by kernel_rfl) (fun _ _ _ _ h => h) (by rfl) (by rfl) ?_; apply Exists.intro; apply And.intro; (intro w; go_simp; try with_reducible rfl); go_frame)
    (refine regP 14 hS (fun _ h => h) rfl (by kernel_rfl) (by kernel_rfl) (by kernel_rfl) (fun _ _ _ _ h => h) (by rfl) (by rfl) ?_; apply Exists.intro; apply And.intro; (intro w; go_simp; try with_reducible rfl); go_frame)
    (refine regP 15 hS (fun _ h => h) rfl (by kernel_rfl) (by kernel_rfl) (by kernel_rfl) (fun _ _ _ _ h => h) (by rfl) (by rfl) ?_; apply Exists.intro; apply And.intro; (intro w; go_simp; try with_reducible rfl); go_frame)
    refine regDone (by kernel_rfl) ?_
    go_wp2
    go_ret2
    exact ⟨rfl, hS.drop.drop⟩
theorem findE_yes {l : List EntD} {i : Nat} {e : EntD} {n : List UInt8} (hno : (l.take i).any (fun e => decide (e.nm = n)) = false) (hx : l[i]? = some e) (hn : e.nm = n) : findE l n = some e.ino ∧ hasE l n = true := by
  obtain ⟨hi, he⟩ := List.getElem?_eq_some_iff.1 hx
  have e1 : l = l.take i ++ e :: l.drop (i + 1) := by rw [← he, ← List.drop_eq_getElem_cons hi, List.take_append_drop]
  have h2 : findE l n = some e.ino := by
    unfold findE
    rw [e1, List.find?_append]
    have : (l.take i).find? (fun e => decide (e.nm = n)) = none := by
      rw [List.find?_eq_none]
      intro x hx
      exact List.any_eq_false.1 hno x hx
    rw [this, Option.none_or, List.find?_cons_of_pos (by simpa using hn)]; rfl
  exact ⟨h2, by rw [← findE_some, h2]; rfl⟩
theorem findE_no {l : List EntD} {n : List UInt8} (hno : l.any (fun e => decide (e.nm = n)) = false) : findE l n = none ∧ hasE l n = false := by
  refine ⟨?_, hno⟩
  have h2 : hasE l n = false := hno
  rw [← findE_some] at h2
  cases hx : findE l n with
  | none => rfl
  | some j => rw [hx] at h2; cases h2
set_option maxRecDepth 20000 in
set_option maxHeartbeats 1000000 in
theorem find_any {W w : World} {L : List Asrt} (hS : Sat W w L) (l : List EntD) (ao : Option Addr) (c : Nat) (n : List UInt8) (hr : ∀ w, Sat W w L → Rd w (.slice ao l.length c) l.length 2 (l.flatMap ev2)) (hl : l.length ≤ 1000) :
    Calls Try.prog 34 #[.slice ao l.length c, sv n] w fun r w' => r = .returned (.tuple #[.int .i64 ((findE l n).getD 0), .bool (hasE l n)]) ∧ Sat W w' L := by
  have HR := Lib.hid hr
  obtain ⟨_, _, he, hc1, hc2, _, h5⟩ := hr w hS
  simp only [Value.slice.injEq, true_and] at he
  obtain ⟨rfl, rfl⟩ := he
  have H5 := Lib.hid h5
  have hli : (l.length : Int) ≤ 1000 := by omega
  have H0 := Lib.hid hS
  clear hr h5 hS
  unfold sv
  go_enter Try.func34, Try.ntmps34
  go_wp2
  go_loopw [10] (fun v wz => ∃ i : Nat, v = .int .i64 i ∧ i ≤ l.length ∧ (l.take i).any (fun e => decide (e.nm = n)) = false ∧ Sat W wz L) (fun v _ => l.length - (intOf v).toNat)
  case atStart => exact ⟨0, rfl, by omega, rfl, H0.out⟩
  case round =>
    clear H0
    obtain ⟨i, rfl, hi, hno, hS⟩ := hrel
    have HNO := Lib.hid hno
    clear hno
    by_cases hlt : i < l.length
    · have k1 : (i : Int) < (l.length : Int) := by omega
      have HLT := Lib.hid hlt
      obtain ⟨b, off, rfl, _⟩ := H5.out (by omega)
      obtain ⟨⟨en, ei⟩, hx⟩ : ∃ e, l[i]? = some e := ⟨_, List.getElem?_eq_getElem hlt⟩
      have HX := Lib.hid hx
      clear hx hlt hi
      by_cases hq : en = n
      · have HF := Lib.hid (findE_yes HNO.out HX.out hq)
        have e1 : (en == n) = true := beq_iff_eq.2 hq
        clear hq
        go_wp2_with (first
          | (refine toList (by rfl) ?_; refine wp_of_reads (rLdRdA (f := ev2) (x := ⟨en, ei⟩) (HR.out _ hS) (ev2_len l) _ _ (by rfl) _ (by rfl) (agOf (by rfl)) (szOf (by rfl)) i (by omega) HX.out (by omega)) ?_)
          | (refine toList (by rfl) ?_; refine al hS _ (by rfl) (zrOf (by rfl)) ?_; intro px w1 hS1; clear hS; have hS := hS1; clear hS1; rw [cells_agg] at hS)
          | (refine toList (by rfl) ?_; refine stW hS _ _ _ (by rfl) (by rfl) [.string ⟨en.toArray⟩, .int .i64 ei] (by rfl) (by simp [Value.oneCell']) (szOf (by rfl)) Has.z (by rfl) ?_; intro w1 hS1; clear hS; have hS := hS1; clear hS1; dsimp only [List.set_cons_zero] at hS)
          | (refine toList (by rfl) ?_; refine ld hS _ _ (by rfl) _ _ (by rfl) (agOf (by rfl)) Has.z (by rfl) ?_))
        go_ret2
        rw [HF.out.1, HF.out.2]
        exact ⟨rfl, hS.drop⟩
      · have HN2 := Lib.hid (show (l.take (i + 1)).any (fun e => decide (e.nm = n)) = false by
          rw [List.take_add_one, HX.out, List.any_append, HNO.out]; simp [hq])
        have e1 : (en == n) = false := beq_eq_false_iff_ne.2 hq
        clear hq
        go_wp2_with (first
          | (refine toList (by rfl) ?_; refine wp_of_reads (rLdRdA (f := ev2) (x := ⟨en, ei⟩) (HR.out _ hS) (ev2_len l) _ _ (by rfl) _ (by rfl) (agOf (by rfl)) (szOf (by rfl)) i (by omega) HX.out (by omega)) ?_)
          | (refine toList (by rfl) ?_; refine al hS _ (by rfl) (zrOf (by rfl)) ?_; intro px w1 hS1; clear hS; have hS := hS1; clear hS1; rw [cells_agg] at hS)
          | (refine toList (by rfl) ?_; refine stW hS _ _ _ (by rfl) (by rfl) [.string ⟨en.toArray⟩, .int .i64 ei] (by rfl) (by simp [Value.oneCell']) (szOf (by rfl)) Has.z (by rfl) ?_; intro w1 hS1; clear hS; have hS := hS1; clear hS1; dsimp only [List.set_cons_zero] at hS)
          | (refine toList (by rfl) ?_; refine ld hS _ _ (by rfl) _ _ (by rfl) (agOf (by rfl)) Has.z (by rfl) ?_))
        exact ⟨⟨i + 1, by go_num, HLT.out, HN2.out, hS.drop⟩, by simp [intOf]; have := HLT.out; omega⟩
    · have k1 : ¬ (i : Int) < (l.length : Int) := by omega
      have HF := Lib.hid (findE_no (l := l) (n := n) (by rw [← HNO.out, List.take_of_length_le (by omega)]))
      clear hlt
      go_wp2
      go_ret2
      rw [HF.out.1, HF.out.2]
      exact ⟨rfl, hS⟩
end Go.Proofs.Ytiieicdhkcikpaa
namespace Go.Proofs.Ytiieicdhkcikpaa
open Go.RowKit Go.Sep
set_option linter.unusedSimpArgs false
set_option linter.unusedVariables false
attribute [local irreducible] Go.Oper.wp Go.wpList Go.Calls Go.Code.wp Go.Sep.Reg
theorem ev_len (l : List EntD) : (l.flatMap ev2).length = l.length * 2 := by
  induction l with
  | nil => rfl
  | cons x l ih => rw [List.flatMap_cons, List.length_append, ih, List.length_cons]; show 2 + _ = _; omega
theorem erd_take {w : World} {ao : Option Addr} {c : Nat} {l : List EntD} (h : Rd w (.slice ao l.length c) l.length 2 (l.flatMap ev2)) (i : Nat) (hi : i ≤ l.length) : Rd w (.slice ao i c) i 2 ((l.take i).flatMap ev2) := by
  obtain ⟨_, _, he, h1, h2, h3, h5⟩ := h
  simp only [Value.slice.injEq, true_and] at he
  obtain ⟨rfl, rfl⟩ := he
  have hl : (l.take i).length = i := by rw [List.length_take]; omega
  refine ⟨_, _, rfl, by omega, h2, by rw [ev_len, hl], fun hi0 => ?_⟩
  obtain ⟨b, off, h6, h7⟩ := h5 (by omega)
  refine ⟨b, off, h6, fun j u hu => h7 j u ?_⟩
  have e2 : l.flatMap ev2 = (l.take i).flatMap ev2 ++ (l.drop i).flatMap ev2 := by rw [← List.flatMap_append, List.take_append_drop]
  rw [e2, List.getElem?_append_left (by obtain ⟨h8, _⟩ := List.getElem?_eq_some_iff.1 hu; exact h8)]
  exact hu
theorem erd_drop {w : World} {b off c : Nat} {l : List EntD} (h : Rd w (.slice (some ⟨b, off, none⟩) l.length c) l.length 2 (l.flatMap ev2)) (k : Nat) (hk : k < l.length) : Rd w (.slice (some ⟨b, off + k * 2, none⟩) (l.length - k) (c - k)) (l.length - k) 2 ((l.drop k).flatMap ev2) := by
  obtain ⟨_, _, he, h1, h2, h3, h5⟩ := h
  simp only [Value.slice.injEq, true_and] at he
  obtain ⟨rfl, rfl⟩ := he
  have hl : (l.drop k).length = l.length - k := List.length_drop
  refine ⟨_, _, rfl, by omega, by omega, by rw [ev_len, hl], fun hi0 => ?_⟩
  obtain ⟨b', off', h6, h7⟩ := h5 (by omega)
  simp only [Option.some.injEq, Addr.mk.injEq, and_true] at h6
  obtain ⟨rfl, rfl⟩ := h6
  refine ⟨b, off + k * 2, rfl, fun j u hu => ?_⟩
  have e2 : l.flatMap ev2 = (l.take k).flatMap ev2 ++ (l.drop k).flatMap ev2 := by rw [← List.flatMap_append, List.take_append_drop]
  have hl2 : ((l.take k).flatMap ev2).length = k * 2 := by rw [ev_len, List.length_take]; omega
  have := h7 (k * 2 + j) u (by rw [e2, List.getElem?_append_right (by omega), hl2, Nat.add_sub_cancel_left]; exact hu)
  rwa [← Nat.add_assoc] at this
theorem erd_none {w : World} {ao : Option Addr} {n c : Nat} (hn : n = 0) (hc : c ≤ 9223372036854775807) : Rd w (.slice ao n c) 0 2 [] := by
  subst hn
  exact ⟨ao, c, rfl, Nat.zero_le _, hc, rfl, fun h => absurd h (by omega)⟩
/-- The cells of a list with an element more. -/
theorem add_cells {A E B Z : List Value} {a b : Nat} (hA : A.length = a) (hE : E.length = 2) (hB : B.length = b) (hZ : Z.length = a + 2 + b) :
    ((A ++ Z.drop a).take a ++ E ++ (A ++ Z.drop a).drop (a + 2)).take (a + 2) ++ B ++ ((A ++ Z.drop a).take a ++ E ++ (A ++ Z.drop a).drop (a + 2)).drop (a + 2 + b) = A ++ E ++ B := by
  have e1 : (A ++ Z.drop a).take a = A := by rw [List.take_left' hA]
  have e2 : (A ++ Z.drop a).drop (a + 2) = Z.drop (a + 2) := by
    rw [List.drop_append, List.drop_eq_nil_of_le (by omega), List.nil_append, hA, List.drop_drop]; congr 1; omega
  rw [e1, e2]
  have h3 : (A ++ E).length = a + 2 := by rw [List.length_append, hA, hE]
  rw [List.take_left' h3]
  have e4 : (A ++ E ++ Z.drop (a + 2)).drop (a + 2 + b) = [] := List.drop_eq_nil_of_le (by rw [List.length_append, h3, List.length_drop, hZ]; omega)
  rw [e4, List.append_nil]
theorem same_cells (X : List Value) (o d : Nat) : X.take o ++ ([] : List Value).take (min 0 d * 2) ++ X.drop (o + min 0 d * 2) = X := by simp
theorem add_end {A E Z : List Value} {a : Nat} (hA : A.length = a) (hE : E.length = 2) (hZ : Z.length = a + 2) :
    (A ++ Z.drop a).take a ++ E ++ (A ++ Z.drop a).drop (a + 2) = A ++ E := by
  rw [List.take_left' hA, List.drop_eq_nil_of_le (by rw [List.length_append, hA, List.length_drop, hZ]; omega), List.append_nil]
theorem rem_cells {A B Z : List Value} {a b : Nat} (hA : A.length = a) (hB : B.length = b) (hZ : Z.length = a + b) :
    (A ++ Z.drop a).take a ++ B ++ (A ++ Z.drop a).drop (a + b) = A ++ B := by
  rw [List.take_left' hA, List.drop_eq_nil_of_le (by rw [List.length_append, hA, List.length_drop, hZ]; omega), List.append_nil]
section
variable {P : Program} {a : Act} {o : Oper}
theorem rSlcE {T : TypeId} {x y : Operand} (ho : o.op = .slice T x (some y) none none) {ao : Option Addr} {n c lo e size bytes : Nat} {k : IntKind} {z : Option Value} (hx : a.eval x = .slice ao n c) {v : Int} (hy : a.eval y = .int k v) (hv : v = (lo : Nat)) (hlo : lo ≤ n) (hlc : c = lo)
    (hT : elemB P T = some (e, size, bytes, z)) (w : World) : (execOp a.eval o).run P w = .ok (.value (.slice ao (n - lo) (c - lo))) w := by
  subst hv
  obtain ⟨hu, i, hi, rfl, rfl, _⟩ := elemB_parts hT
  have he : P.elem T = e := by simp [Program.elem, hu]
  have hr := run_slice_l (P := P) (w := w) T ao n c (by rw [he]; exact hu) k lo (by omega) (by omega)
  rw [he] at hr
  refine rd_of (s := Instr.sliceAt T (.slice ao n c) (some (.int k lo)) none none) (by simp [execOp, ho, hx, hy]) ?_
  rw [run_sliceAt_slice (h := by rw [he]; exact hu), hr]
  simp [sizeOf, typeInfo, hi, sliced, hlc]
theorem rSlcM {T : TypeId} {x y : Operand} (ho : o.op = .slice T x (some y) none none) {ao : Option Addr} {n c lo e size bytes : Nat} {k : IntKind} {z : Option Value} (hx : a.eval x = .slice ao n c) {v : Int} (hy : a.eval y = .int k v) (hv : v = (lo : Nat)) (hlo : lo ≤ n) (hlc : lo < c)
    (hT : elemB P T = some (e, size, bytes, z)) (w : World) : (execOp a.eval o).run P w = .ok (.value (.slice (ao.map (·.add (lo * size))) (n - lo) (c - lo))) w := by
  subst hv
  obtain ⟨hu, i, hi, rfl, rfl, _⟩ := elemB_parts hT
  have he : P.elem T = e := by simp [Program.elem, hu]
  have h1 : ¬ c = lo := by omega
  have hr := run_slice_l (P := P) (w := w) T ao n c (by rw [he]; exact hu) k lo (by omega) (by omega)
  rw [he] at hr
  refine rd_of (s := Instr.sliceAt T (.slice ao n c) (some (.int k lo)) none none) (by simp [execOp, ho, hx, hy]) ?_
  rw [run_sliceAt_slice (h := by rw [he]; exact hu), hr]
  simp [sizeOf, typeInfo, hi, sliced, h1]
end
def addV (l : List EntD) (e : EntD) : List EntD := if addC l e = 0 then insE l e else []
set_option maxRecDepth 20000 in
set_option maxHeartbeats 2000000 in
theorem dadd_any {W w : World} {L : List Asrt} (hS : Sat W w L) (l : List EntD) (ao : Option Addr) (c : Nat) (e : EntD) (hr : ∀ w, Sat W w L → Rd w (.slice ao l.length c) l.length 2 (l.flatMap ev2)) (hl : l.length ≤ 1000) (hs : SrtE l) :
    Calls Try.prog 59 #[.slice ao l.length c, .agg #[sv e.nm, .int .i64 e.ino]] w fun r w' => ∃ v, r = .returned (.tuple #[v, .int .i64 (addC l e)]) ∧ Sat W w' (Er v (addV l e) :: L) := by
  obtain ⟨n, j⟩ := e
  dsimp only
  have HR := Lib.hid hr
  obtain ⟨_, _, he, hc1, hc2, _, h5⟩ := hr w hS
  simp only [Value.slice.injEq, true_and] at he
  obtain ⟨rfl, rfl⟩ := he
  have H5 := Lib.hid h5
  have HP := Lib.hid (fun w (L' : List Asrt) (h : Sat W w L') (hr' : ∀ w, Sat W w L' → Rd w (.slice ao l.length c) l.length 2 (l.flatMap ev2)) => dplace_any h l ao c n hr' hl hs)
  have HM := Lib.hid (fun w (L' : List Asrt) (h : Sat W w L') => may_any h ⟨n, j⟩)
  have hli : (l.length : Int) ≤ 1000 := by omega
  unfold addV addC
  obtain ⟨bo, hbo⟩ : ∃ b, entOk ⟨n, j⟩ = b := ⟨_, rfl⟩
  obtain ⟨bh, hbh⟩ : ∃ b, hasE l n = b := ⟨_, rfl⟩
  rw [hbo] at HM
  rw [hbh] at HP
  rw [hbo]
  dsimp only
  rw [hbh]
  obtain ⟨k, hk⟩ : ∃ k, atE l n = k := ⟨_, rfl⟩
  rw [hk] at HP
  have hkl : k ≤ l.length := by rw [← hk]; exact atE_le l n
  have HV := Lib.hid (show insE l ⟨n, j⟩ = l.take k ++ ⟨n, j⟩ :: l.drop k by unfold insE; rw [hk])
  clear hr hs h5 hbo hbh hk
  cases bo
  · rw [if_neg (by decide : ¬ false = true)]
    refine Calls.mono (R := fun r w' => r = .returned (.tuple #[.slice none 0 0, .int .i64 1]) ∧ Sat W w' (Er (.slice none 0 0) [] :: L)) ?_ (fun r w' ⟨h1, h2⟩ => ⟨_, h1, by rw [if_neg (by decide)]; exact h2⟩)
    cases bh
    all_goals
      go_enter Try.func59, Try.ntmps59
      go_wp2_with (first
        | (refine toList (by rfl) ?_; refine bx hS _ _ (by rfl) _ (by first | exact evC | exact evT (by rfl)) ?_; intro px w1 hS1; clear hS; have hS := hS1; clear hS1; rw [cells_agg] at hS)
        | (refine toList (by rfl) ?_; refine ld hS _ _ (by rfl) _ _ (by rfl) (agOf (by rfl)) Has.z (by rfl) ?_)
        | (refine toList (by rfl) ?_; refine wp_of_reads (rLdA hS _ _ (by rfl) _ _ (by rfl) (agOf (by rfl)) (szOf (by rfl)) Has.z (vs := [sv n, .int .i64 j]) (by rfl) (by rfl)) ?_)
        | (go_at_call 73; refine (HP.out _ _ hS (fun w h => HR.out w h.drop)).mono ?_; rintro r w1 ⟨rfl, hS1⟩; clear hS; have hS := hS1; clear hS1)
        | (go_at_call 71; refine (HM.out _ _ hS).mono ?_; rintro r w1 ⟨rfl, hS1⟩; clear hS; have hS := hS1; clear hS1))
      go_ret2
      exact ⟨rfl, hS.drop.tbNil⟩
  · rw [if_pos rfl]
    cases bh
    · rw [if_neg (by decide : ¬ false = true)]
      by_cases h64 : 64 ≤ l.length
      · rw [if_pos h64]
        have k1 : decide ((64 : Int) ≤ (l.length : Int)) = true := decide_eq_true (by omega)
        have k2 : (64 : Int) ≤ (l.length : Int) := by omega
        refine Calls.mono (R := fun r w' => r = .returned (.tuple #[.slice none 0 0, .int .i64 5]) ∧ Sat W w' (Er (.slice none 0 0) [] :: L)) ?_ (fun r w' ⟨h1, h2⟩ => ⟨_, h1, by rw [if_neg (by decide)]; exact h2⟩)
        go_enter Try.func59, Try.ntmps59
        go_wp2_with (first
          | (refine toList (by rfl) ?_; refine bx hS _ _ (by rfl) _ (by first | exact evC | exact evT (by rfl)) ?_; intro px w1 hS1; clear hS; have hS := hS1; clear hS1; rw [cells_agg] at hS)
          | (refine toList (by rfl) ?_; refine ld hS _ _ (by rfl) _ _ (by rfl) (agOf (by rfl)) Has.z (by rfl) ?_)
          | (refine toList (by rfl) ?_; refine wp_of_reads (rLdA hS _ _ (by rfl) _ _ (by rfl) (agOf (by rfl)) (szOf (by rfl)) Has.z (vs := [sv n, .int .i64 j]) (by rfl) (by rfl)) ?_)
          | (go_at_call 73; refine (HP.out _ _ hS (fun w h => HR.out w h.drop)).mono ?_; rintro r w1 ⟨rfl, hS1⟩; clear hS; have hS := hS1; clear hS1)
          | (go_at_call 71; refine (HM.out _ _ hS).mono ?_; rintro r w1 ⟨rfl, hS1⟩; clear hS; have hS := hS1; clear hS1))
        go_ret2
        exact ⟨rfl, hS.drop.tbNil⟩
      · rw [if_neg h64, if_pos rfl]
        have k1 : decide ((64 : Int) ≤ (l.length : Int)) = false := decide_eq_false (by omega)
        have k2 : ¬ (64 : Int) ≤ (l.length : Int) := by omega
        have hA : ((l.take k).flatMap ev2).length = k * 2 := by rw [ev_len, List.length_take]; omega
        have hB : ((l.drop k).flatMap ev2).length = (l.length - k) * 2 := by rw [ev_len, List.length_drop]
        have HA := Lib.hid hA
        have HB := Lib.hid hB
        have HE := Lib.hid (show (l.take k).flatMap ev2 ++ [sv n, .int .i64 j] ++ (l.drop k).flatMap ev2 = (insE l ⟨n, j⟩).flatMap ev2 by rw [HV.out, List.flatMap_append, List.flatMap_cons, List.append_assoc]; rfl)
        have HLI := Lib.hid (show (insE l ⟨n, j⟩).length = l.length + 1 by rw [HV.out, List.length_append, List.length_cons, List.length_take, List.length_drop]; omega)
        have HMIN := Lib.hid (show min k (l.length + 1) = k by omega)
        have q2 : (k : Int) ≤ (c : Int) := by omega
        have q3 : (l.length : Int) ≤ (c : Int) := by omega
        have q4 : (k : Int) ≤ (l.length : Int) := by omega
        have q5 : (k : Int) < (l.length : Int) + 1 := by omega
        have q6 : (k : Int) + 1 ≤ (l.length : Int) + 1 := by omega
        clear hA hB
        rcases Nat.lt_or_ge k l.length with hlt | hge
        · obtain ⟨b, off, rfl, _⟩ := H5.out (by omega)
          go_enter Try.func59, Try.ntmps59
          go_wp2_with (first
            | (refine toList (by rfl) ?_; refine bx hS _ _ (by rfl) _ (by first | exact evC | exact evT (by rfl)) ?_; intro px w1 hS1; clear hS; have hS := hS1; clear hS1; rw [cells_agg] at hS)
            | (refine toList (by rfl) ?_; refine ld hS _ _ (by rfl) _ _ (by rfl) (agOf (by rfl)) Has.z (by rfl) ?_)
            | (refine toList (by rfl) ?_; refine wp_of_reads (rLdA hS _ _ (by rfl) _ _ (by rfl) (agOf (by rfl)) (szOf (by rfl)) Has.z (vs := [sv n, .int .i64 j]) (by rfl) (by rfl)) ?_)
            | (go_at_call 73; refine (HP.out _ _ hS (fun w h => HR.out w h.drop)).mono ?_; rintro r w1 ⟨rfl, hS1⟩; clear hS; have hS := hS1; clear hS1)
            | (go_at_call 71; refine (HM.out _ _ hS).mono ?_; rintro r w1 ⟨rfl, hS1⟩; clear hS; have hS := hS1; clear hS1)
            | (refine toList (by rfl) ?_; refine mk hS _ _ _ (by rfl) (l.length + 1) (l.length + 1) _ _ (by rfl) (by rfl) (elOf (by rfl)) (by omega) (by omega) (by omega) ?_; intro pb w1 hS1; obtain ⟨Z, hZ, hS2⟩ : ∃ Z : List Value, Z.length = (l.length + 1) * 2 ∧ Sat W w1 (Cs pb _ Z :: Cs px 59 [sv n, .int .i64 j] :: L) := ⟨_, by rw [Array.length_toList, size_madeCells], hS1⟩; clear hS hS1; have hS := hS2; clear hS2; have HZ := Lib.hid hZ; clear hZ)
            | (refine toList (by rfl) ?_; refine cp hS _ _ _ _ (by rfl) pb 0 _ _ _ (by rfl) (by rfl) (elOf (by rfl)) (by decide) Has.z (m := k) (by exact erd_take (HR.out _ hS.drop.drop) k hkl) (ev2_one _) (by rw [HZ.out]; omega) ?_; intro w1 hS1; clear hS; have hS := hS1; clear hS1; dsimp only [List.set_cons_zero] at hS; rw [HMIN.out, List.take_zero, List.nil_append, Nat.zero_add, List.take_of_length_le (by rw [HA.out]; omega)] at hS)
            | (refine toList (by rfl) ?_; refine wp_of_reads (rLdA hS _ _ (by rfl) _ _ (by rfl) (agOf (by rfl)) (szOf (by rfl)) (Has.s Has.z) (vs := [sv n, .int .i64 j]) (by rfl) (by rfl)) ?_)
            | (refine toList (by rfl) ?_; refine stA hS _ _ _ (by rfl) pb _ (by rfl) [sv n, .int .i64 j] (by rfl) (by exact ev2_all ⟨n, j⟩) (by rw [szOf (by rfl : szTab _ = some _)]; rfl) Has.z (by simp only [List.length_append, List.length_drop, HA.out, HZ.out, List.length_cons, List.length_nil]; omega) ?_; intro w1 hS1; clear hS; have hS := hS1; clear hS1; dsimp only [List.set_cons_zero] at hS; rw [show ([sv n, .int .i64 j] : List Value).length = 2 from rfl] at hS))
          refine regStart [7] hS (by kernel_rfl) rfl ?_
          intro w1 hS1
          clear hS; have hS := hS1; clear hS1
          (refine regP 0 hS (fun _ h => h) rfl (by kernel_rfl) (by kernel_rfl) (by kernel_rfl) (fun _ _ _ _ h => h) (by rfl) (by rfl) ?_; apply Exists.intro; apply And.intro; (intro w; go_simp; try with_reducible rfl); go_frame)
          (refine regP 1 hS (fun _ h => h) rfl (by kernel_rfl) (by kernel_rfl) (by kernel_rfl) (fun _ _ _ _ h => h) (by rfl) (by rfl) ?_; apply Exists.intro; apply And.intro; (intro w; go_simp; try with_reducible rfl); go_frame)
          (refine regP 2 hS (fun _ h => h) rfl (by kernel_rfl) (by kernel_rfl) (by kernel_rfl) (fun _ _ _ _ h => h) (by rfl) (by rfl) ?_; apply Exists.intro; apply And.intro; (intro w; go_simp; try with_reducible rfl); go_frame; try simp (disch := omega) only [IntWalk.i64_in])
          (refine regP 3 hS (fun _ h => h) rfl (by kernel_rfl) (by kernel_rfl) (by kernel_rfl) (fun _ _ _ _ h => h) (by rfl) (by rfl) ?_; apply Exists.intro; apply And.intro; (intro w; first | first | exact rSlcL (lo := k + 1) (by rfl) (by rfl) (by rfl) (by first | omega | (rw [IntWalk.i64_in _ (by omega)]; omega)) (by omega) (by omega) (elOf (by rfl)) w | exact rSlcL (lo := k) (by rfl) (by rfl) (by rfl) (by first | omega | (rw [IntWalk.i64_in _ (by omega)]; omega)) (by omega) (by omega) (elOf (by rfl)) w | (go_simp; try with_reducible rfl)); go_frame)
          (refine regP 4 hS (fun _ h => h) rfl (by kernel_rfl) (by kernel_rfl) (by kernel_rfl) (fun _ _ _ _ h => h) (by rfl) (by rfl) ?_; apply Exists.intro; apply And.intro; (intro w; go_simp; try with_reducible rfl); go_frame)
          (refine regP 5 hS (fun _ h => h) rfl (by kernel_rfl) (by kernel_rfl) (by kernel_rfl) (fun _ _ _ _ h => h) (by rfl) (by rfl) ?_; apply Exists.intro; apply And.intro; (intro w; go_simp; try with_reducible rfl); go_frame)
          (refine regP 6 hS (fun _ h => h) rfl (by kernel_rfl) (by kernel_rfl) (by kernel_rfl) (fun _ _ _ _ h => h) (by rfl) (by rfl) ?_; apply Exists.intro; apply And.intro; (intro w; first | first | exact rSlcL (lo := k + 1) (by rfl) (by rfl) (by rfl) (by first | omega | (rw [IntWalk.i64_in _ (by omega)]; omega)) (by omega) (by omega) (elOf (by rfl)) w | exact rSlcL (lo := k) (by rfl) (by rfl) (by rfl) (by first | omega | (rw [IntWalk.i64_in _ (by omega)]; omega)) (by omega) (by omega) (elOf (by rfl)) w | (go_simp; try with_reducible rfl)); go_frame)
          (refine regA 7 rfl (by kernel_rfl) (by rfl) (by rfl) true (by kernel_rfl) (fun K hK => ?_); (refine cp hS _ _ _ _ (by rfl) pb _ _ _ _ (by rfl) (by rfl) (elOf (by rfl)) (by decide) Has.z (m := l.length - k) (by exact erd_drop (HR.out _ hS.drop.drop) k hlt) (ev2_one _) (by simp only [List.length_append, List.length_take, List.length_drop, HA.out, HZ.out, List.length_cons, List.length_nil]; omega) ?_; intro w1 hS1; clear hS; have hS := hS1; clear hS1; dsimp only [List.set_cons_zero] at hS); refine hK _ _ _ hS (by first | (intro h; cases h; done) | exact fun _ _ h => h | exact fun _ _ h => h.drop | exact fun _ _ h => h.drop.drop | exact fun _ _ h => h.drop.pull1 | exact fun _ _ h => h.take2 | exact fun _ _ h => h.one Has.z | exact fun _ _ h => h.one (Has.s Has.z) | exact fun _ _ h => h.one (Has.s (Has.s Has.z))) ?_; clear hK K; go_frame)
          refine regDone (by kernel_rfl) ?_
          go_wp2
          go_ret2
          have hOFF : 0 + (k + 1) * 2 = k * 2 + 2 := by omega
          have hMN : min (l.length - k) (l.length + 1 - (k + 1)) * 2 = (l.length - k) * 2 := by omega
          rw [hOFF, hMN, (show List.take ((l.length - k) * 2) ((l.drop k).flatMap ev2) = (l.drop k).flatMap ev2 from List.take_of_length_le (by rw [HB.out]; omega)), add_cells HA.out rfl HB.out (by rw [HZ.out]; omega), HE.out] at hS
          refine ⟨.slice (some ⟨pb, 0, none⟩) (l.length + 1) (l.length + 1), rfl, ?_⟩
          exact (Sat.csTb (ev2_len _) HLI.out (by omega) hS).pull1.drop
        · have HN0 := Lib.hid (show (l.drop k).flatMap ev2 = [] by rw [List.drop_eq_nil_of_le hge]; rfl)
          obtain rfl : k = l.length := by omega
          have HE0 := Lib.hid (show (l.take l.length).flatMap ev2 ++ [sv n, .int .i64 j] = (insE l ⟨n, j⟩).flatMap ev2 by have := HE.out; rw [HN0.out, List.append_nil] at this; exact this)
          by_cases hck : c = l.length
          · subst hck
            go_enter Try.func59, Try.ntmps59
            go_wp2_with (first
              | (refine toList (by rfl) ?_; refine bx hS _ _ (by rfl) _ (by first | exact evC | exact evT (by rfl)) ?_; intro px w1 hS1; clear hS; have hS := hS1; clear hS1; rw [cells_agg] at hS)
              | (refine toList (by rfl) ?_; refine ld hS _ _ (by rfl) _ _ (by rfl) (agOf (by rfl)) Has.z (by rfl) ?_)
              | (refine toList (by rfl) ?_; refine wp_of_reads (rLdA hS _ _ (by rfl) _ _ (by rfl) (agOf (by rfl)) (szOf (by rfl)) Has.z (vs := [sv n, .int .i64 j]) (by rfl) (by rfl)) ?_)
              | (go_at_call 73; refine (HP.out _ _ hS (fun w h => HR.out w h.drop)).mono ?_; rintro r w1 ⟨rfl, hS1⟩; clear hS; have hS := hS1; clear hS1)
              | (go_at_call 71; refine (HM.out _ _ hS).mono ?_; rintro r w1 ⟨rfl, hS1⟩; clear hS; have hS := hS1; clear hS1)
              | (refine toList (by rfl) ?_; refine mk hS _ _ _ (by rfl) (l.length + 1) (l.length + 1) _ _ (by rfl) (by rfl) (elOf (by rfl)) (by omega) (by omega) (by omega) ?_; intro pb w1 hS1; obtain ⟨Z, hZ, hS2⟩ : ∃ Z : List Value, Z.length = (l.length + 1) * 2 ∧ Sat W w1 (Cs pb _ Z :: Cs px 59 [sv n, .int .i64 j] :: L) := ⟨_, by rw [Array.length_toList, size_madeCells], hS1⟩; clear hS hS1; have hS := hS2; clear hS2; have HZ := Lib.hid hZ; clear hZ)
              | (refine toList (by rfl) ?_; refine cp hS _ _ _ _ (by rfl) pb 0 _ _ _ (by rfl) (by rfl) (elOf (by rfl)) (by decide) Has.z (m := l.length) (by exact erd_take (HR.out _ hS.drop.drop) l.length hkl) (ev2_one _) (by rw [HZ.out]; omega) ?_; intro w1 hS1; clear hS; have hS := hS1; clear hS1; dsimp only [List.set_cons_zero] at hS; rw [HMIN.out, List.take_zero, List.nil_append, Nat.zero_add, List.take_of_length_le (by rw [HA.out]; omega)] at hS)
              | (refine toList (by rfl) ?_; refine wp_of_reads (rLdA hS _ _ (by rfl) _ _ (by rfl) (agOf (by rfl)) (szOf (by rfl)) (Has.s Has.z) (vs := [sv n, .int .i64 j]) (by rfl) (by rfl)) ?_)
              | (refine toList (by rfl) ?_; refine stA hS _ _ _ (by rfl) pb _ (by rfl) [sv n, .int .i64 j] (by rfl) (by exact ev2_all ⟨n, j⟩) (by rw [szOf (by rfl : szTab _ = some _)]; rfl) Has.z (by simp only [List.length_append, List.length_drop, HA.out, HZ.out, List.length_cons, List.length_nil]; omega) ?_; intro w1 hS1; clear hS; have hS := hS1; clear hS1; dsimp only [List.set_cons_zero] at hS; rw [show ([sv n, .int .i64 j] : List Value).length = 2 from rfl] at hS))
            refine regStart [7] hS (by kernel_rfl) rfl ?_
            intro w1 hS1
            clear hS; have hS := hS1; clear hS1
            (refine regP 0 hS (fun _ h => h) rfl (by kernel_rfl) (by kernel_rfl) (by kernel_rfl) (fun _ _ _ _ h => h) (by rfl) (by rfl) ?_; apply Exists.intro; apply And.intro; (intro w; go_simp; try with_reducible rfl); go_frame)
            (refine regP 1 hS (fun _ h => h) rfl (by kernel_rfl) (by kernel_rfl) (by kernel_rfl) (fun _ _ _ _ h => h) (by rfl) (by rfl) ?_; apply Exists.intro; apply And.intro; (intro w; go_simp; try with_reducible rfl); go_frame)
            (refine regP 2 hS (fun _ h => h) rfl (by kernel_rfl) (by kernel_rfl) (by kernel_rfl) (fun _ _ _ _ h => h) (by rfl) (by rfl) ?_; apply Exists.intro; apply And.intro; (intro w; go_simp; try with_reducible rfl); go_frame; try simp (disch := omega) only [IntWalk.i64_in])
            (refine regP 3 hS (fun _ h => h) rfl (by kernel_rfl) (by kernel_rfl) (by kernel_rfl) (fun _ _ _ _ h => h) (by rfl) (by rfl) ?_; apply Exists.intro; apply And.intro; (intro w; first | first | exact rSlcE (lo := l.length + 1) (by rfl) (by rfl) (by rfl) (by first | omega | (rw [IntWalk.i64_in _ (by omega)]; omega)) (by omega) (by omega) (elOf (by rfl)) w | exact rSlcE (lo := l.length) (by rfl) (by rfl) (by rfl) (by first | omega | (rw [IntWalk.i64_in _ (by omega)]; omega)) (by omega) (by omega) (elOf (by rfl)) w | exact rSlcM (lo := l.length) (by rfl) (by rfl) (by rfl) (by first | omega | (rw [IntWalk.i64_in _ (by omega)]; omega)) (by omega) (by omega) (elOf (by rfl)) w | (go_simp; try with_reducible rfl)); go_frame)
            (refine regP 4 hS (fun _ h => h) rfl (by kernel_rfl) (by kernel_rfl) (by kernel_rfl) (fun _ _ _ _ h => h) (by rfl) (by rfl) ?_; apply Exists.intro; apply And.intro; (intro w; go_simp; try with_reducible rfl); go_frame)
            (refine regP 5 hS (fun _ h => h) rfl (by kernel_rfl) (by kernel_rfl) (by kernel_rfl) (fun _ _ _ _ h => h) (by rfl) (by rfl) ?_; apply Exists.intro; apply And.intro; (intro w; go_simp; try with_reducible rfl); go_frame)
            (refine regP 6 hS (fun _ h => h) rfl (by kernel_rfl) (by kernel_rfl) (by kernel_rfl) (fun _ _ _ _ h => h) (by rfl) (by rfl) ?_; apply Exists.intro; apply And.intro; (intro w; first | first | exact rSlcE (lo := l.length + 1) (by rfl) (by rfl) (by rfl) (by first | omega | (rw [IntWalk.i64_in _ (by omega)]; omega)) (by omega) (by omega) (elOf (by rfl)) w | exact rSlcE (lo := l.length) (by rfl) (by rfl) (by rfl) (by first | omega | (rw [IntWalk.i64_in _ (by omega)]; omega)) (by omega) (by omega) (elOf (by rfl)) w | exact rSlcM (lo := l.length) (by rfl) (by rfl) (by rfl) (by first | omega | (rw [IntWalk.i64_in _ (by omega)]; omega)) (by omega) (by omega) (elOf (by rfl)) w | (go_simp; try with_reducible rfl)); go_frame)
            (refine regA 7 rfl (by kernel_rfl) (by rfl) (by rfl) true (by kernel_rfl) (fun K hK => ?_); (refine cp hS _ _ _ _ (by rfl) pb _ _ _ _ (by rfl) (by rfl) (elOf (by rfl)) (by decide) Has.z (m := 0) (vs := []) (by exact erd_none (by omega) (by omega)) (fun _ h => by cases h) (by simp only [List.length_append, List.length_take, List.length_drop, HA.out, HZ.out, List.length_cons, List.length_nil]; omega) ?_; intro w1 hS1; clear hS; have hS := hS1; clear hS1; dsimp only [List.set_cons_zero] at hS); refine hK _ _ _ hS (by first | (intro h; cases h; done) | exact fun _ _ h => h | exact fun _ _ h => h.drop | exact fun _ _ h => h.drop.drop | exact fun _ _ h => h.drop.pull1 | exact fun _ _ h => h.take2 | exact fun _ _ h => h.one Has.z | exact fun _ _ h => h.one (Has.s Has.z) | exact fun _ _ h => h.one (Has.s (Has.s Has.z))) ?_; clear hK K; go_frame)
            refine regDone (by kernel_rfl) ?_
            go_wp2
            go_ret2
            rw [same_cells, add_end HA.out rfl (by rw [HZ.out]; omega), HE0.out] at hS
            refine ⟨.slice (some ⟨pb, 0, none⟩) (l.length + 1) (l.length + 1), rfl, ?_⟩
            exact (Sat.csTb (ev2_len _) HLI.out (by omega) hS).pull1.drop
          · go_enter Try.func59, Try.ntmps59
            go_wp2_with (first
              | (refine toList (by rfl) ?_; refine bx hS _ _ (by rfl) _ (by first | exact evC | exact evT (by rfl)) ?_; intro px w1 hS1; clear hS; have hS := hS1; clear hS1; rw [cells_agg] at hS)
              | (refine toList (by rfl) ?_; refine ld hS _ _ (by rfl) _ _ (by rfl) (agOf (by rfl)) Has.z (by rfl) ?_)
              | (refine toList (by rfl) ?_; refine wp_of_reads (rLdA hS _ _ (by rfl) _ _ (by rfl) (agOf (by rfl)) (szOf (by rfl)) Has.z (vs := [sv n, .int .i64 j]) (by rfl) (by rfl)) ?_)
              | (go_at_call 73; refine (HP.out _ _ hS (fun w h => HR.out w h.drop)).mono ?_; rintro r w1 ⟨rfl, hS1⟩; clear hS; have hS := hS1; clear hS1)
              | (go_at_call 71; refine (HM.out _ _ hS).mono ?_; rintro r w1 ⟨rfl, hS1⟩; clear hS; have hS := hS1; clear hS1)
              | (refine toList (by rfl) ?_; refine mk hS _ _ _ (by rfl) (l.length + 1) (l.length + 1) _ _ (by rfl) (by rfl) (elOf (by rfl)) (by omega) (by omega) (by omega) ?_; intro pb w1 hS1; obtain ⟨Z, hZ, hS2⟩ : ∃ Z : List Value, Z.length = (l.length + 1) * 2 ∧ Sat W w1 (Cs pb _ Z :: Cs px 59 [sv n, .int .i64 j] :: L) := ⟨_, by rw [Array.length_toList, size_madeCells], hS1⟩; clear hS hS1; have hS := hS2; clear hS2; have HZ := Lib.hid hZ; clear hZ)
              | (refine toList (by rfl) ?_; refine cp hS _ _ _ _ (by rfl) pb 0 _ _ _ (by rfl) (by rfl) (elOf (by rfl)) (by decide) Has.z (m := l.length) (by exact erd_take (HR.out _ hS.drop.drop) l.length hkl) (ev2_one _) (by rw [HZ.out]; omega) ?_; intro w1 hS1; clear hS; have hS := hS1; clear hS1; dsimp only [List.set_cons_zero] at hS; rw [HMIN.out, List.take_zero, List.nil_append, Nat.zero_add, List.take_of_length_le (by rw [HA.out]; omega)] at hS)
              | (refine toList (by rfl) ?_; refine wp_of_reads (rLdA hS _ _ (by rfl) _ _ (by rfl) (agOf (by rfl)) (szOf (by rfl)) (Has.s Has.z) (vs := [sv n, .int .i64 j]) (by rfl) (by rfl)) ?_)
              | (refine toList (by rfl) ?_; refine stA hS _ _ _ (by rfl) pb _ (by rfl) [sv n, .int .i64 j] (by rfl) (by exact ev2_all ⟨n, j⟩) (by rw [szOf (by rfl : szTab _ = some _)]; rfl) Has.z (by simp only [List.length_append, List.length_drop, HA.out, HZ.out, List.length_cons, List.length_nil]; omega) ?_; intro w1 hS1; clear hS; have hS := hS1; clear hS1; dsimp only [List.set_cons_zero] at hS; rw [show ([sv n, .int .i64 j] : List Value).length = 2 from rfl] at hS))
            refine regStart [7] hS (by kernel_rfl) rfl ?_
            intro w1 hS1
            clear hS; have hS := hS1; clear hS1
            (refine regP 0 hS (fun _ h => h) rfl (by kernel_rfl) (by kernel_rfl) (by kernel_rfl) (fun _ _ _ _ h => h) (by rfl) (by rfl) ?_; apply Exists.intro; apply And.intro; (intro w; go_simp; try with_reducible rfl); go_frame)
            (refine regP 1 hS (fun _ h => h) rfl (by kernel_rfl) (by kernel_rfl) (by kernel_rfl) (fun _ _ _ _ h => h) (by rfl) (by rfl) ?_; apply Exists.intro; apply And.intro; (intro w; go_simp; try with_reducible rfl); go_frame)
            (refine regP 2 hS (fun _ h => h) rfl (by kernel_rfl) (by kernel_rfl) (by kernel_rfl) (fun _ _ _ _ h => h) (by rfl) (by rfl) ?_; apply Exists.intro; apply And.intro; (intro w; go_simp; try with_reducible rfl); go_frame; try simp (disch := omega) only [IntWalk.i64_in])
            (refine regP 3 hS (fun _ h => h) rfl (by kernel_rfl) (by kernel_rfl) (by kernel_rfl) (fun _ _ _ _ h => h) (by rfl) (by rfl) ?_; apply Exists.intro; apply And.intro; (intro w; first | first | exact rSlcE (lo := l.length + 1) (by rfl) (by rfl) (by rfl) (by first | omega | (rw [IntWalk.i64_in _ (by omega)]; omega)) (by omega) (by omega) (elOf (by rfl)) w | exact rSlcE (lo := l.length) (by rfl) (by rfl) (by rfl) (by first | omega | (rw [IntWalk.i64_in _ (by omega)]; omega)) (by omega) (by omega) (elOf (by rfl)) w | exact rSlcM (lo := l.length) (by rfl) (by rfl) (by rfl) (by first | omega | (rw [IntWalk.i64_in _ (by omega)]; omega)) (by omega) (by omega) (elOf (by rfl)) w | (go_simp; try with_reducible rfl)); go_frame)
            (refine regP 4 hS (fun _ h => h) rfl (by kernel_rfl) (by kernel_rfl) (by kernel_rfl) (fun _ _ _ _ h => h) (by rfl) (by rfl) ?_; apply Exists.intro; apply And.intro; (intro w; go_simp; try with_reducible rfl); go_frame)
            (refine regP 5 hS (fun _ h => h) rfl (by kernel_rfl) (by kernel_rfl) (by kernel_rfl) (fun _ _ _ _ h => h) (by rfl) (by rfl) ?_; apply Exists.intro; apply And.intro; (intro w; go_simp; try with_reducible rfl); go_frame)
            (refine regP 6 hS (fun _ h => h) rfl (by kernel_rfl) (by kernel_rfl) (by kernel_rfl) (fun _ _ _ _ h => h) (by rfl) (by rfl) ?_; apply Exists.intro; apply And.intro; (intro w; first | first | exact rSlcE (lo := l.length + 1) (by rfl) (by rfl) (by rfl) (by first | omega | (rw [IntWalk.i64_in _ (by omega)]; omega)) (by omega) (by omega) (elOf (by rfl)) w | exact rSlcE (lo := l.length) (by rfl) (by rfl) (by rfl) (by first | omega | (rw [IntWalk.i64_in _ (by omega)]; omega)) (by omega) (by omega) (elOf (by rfl)) w | exact rSlcM (lo := l.length) (by rfl) (by rfl) (by rfl) (by first | omega | (rw [IntWalk.i64_in _ (by omega)]; omega)) (by omega) (by omega) (elOf (by rfl)) w | (go_simp; try with_reducible rfl)); go_frame)
            (refine regA 7 rfl (by kernel_rfl) (by rfl) (by rfl) true (by kernel_rfl) (fun K hK => ?_); (refine cp hS _ _ _ _ (by rfl) pb _ _ _ _ (by rfl) (by rfl) (elOf (by rfl)) (by decide) Has.z (m := 0) (vs := []) (by exact erd_none (by omega) (by omega)) (fun _ h => by cases h) (by simp only [List.length_append, List.length_take, List.length_drop, HA.out, HZ.out, List.length_cons, List.length_nil]; omega) ?_; intro w1 hS1; clear hS; have hS := hS1; clear hS1; dsimp only [List.set_cons_zero] at hS); refine hK _ _ _ hS (by first | (intro h; cases h; done) | exact fun _ _ h => h | exact fun _ _ h => h.drop | exact fun _ _ h => h.drop.drop | exact fun _ _ h => h.drop.pull1 | exact fun _ _ h => h.take2 | exact fun _ _ h => h.one Has.z | exact fun _ _ h => h.one (Has.s Has.z) | exact fun _ _ h => h.one (Has.s (Has.s Has.z))) ?_; clear hK K; go_frame)
            refine regDone (by kernel_rfl) ?_
            go_wp2
            go_ret2
            rw [same_cells, add_end HA.out rfl (by rw [HZ.out]; omega), HE0.out] at hS
            refine ⟨.slice (some ⟨pb, 0, none⟩) (l.length + 1) (l.length + 1), rfl, ?_⟩
            exact (Sat.csTb (ev2_len _) HLI.out (by omega) hS).pull1.drop
    · rw [if_pos rfl]
      refine Calls.mono (R := fun r w' => r = .returned (.tuple #[.slice none 0 0, .int .i64 6]) ∧ Sat W w' (Er (.slice none 0 0) [] :: L)) ?_ (fun r w' ⟨h1, h2⟩ => ⟨_, h1, by rw [if_neg (by decide)]; exact h2⟩)
      go_enter Try.func59, Try.ntmps59
      go_wp2_with (first
        | (refine toList (by rfl) ?_; refine bx hS _ _ (by rfl) _ (by first | exact evC | exact evT (by rfl)) ?_; intro px w1 hS1; clear hS; have hS := hS1; clear hS1; rw [cells_agg] at hS)
        | (refine toList (by rfl) ?_; refine ld hS _ _ (by rfl) _ _ (by rfl) (agOf (by rfl)) Has.z (by rfl) ?_)
        | (refine toList (by rfl) ?_; refine wp_of_reads (rLdA hS _ _ (by rfl) _ _ (by rfl) (agOf (by rfl)) (szOf (by rfl)) Has.z (vs := [sv n, .int .i64 j]) (by rfl) (by rfl)) ?_)
        | (go_at_call 73; refine (HP.out _ _ hS (fun w h => HR.out w h.drop)).mono ?_; rintro r w1 ⟨rfl, hS1⟩; clear hS; have hS := hS1; clear hS1)
        | (go_at_call 71; refine (HM.out _ _ hS).mono ?_; rintro r w1 ⟨rfl, hS1⟩; clear hS; have hS := hS1; clear hS1))
      go_ret2
      exact ⟨rfl, hS.drop.tbNil⟩
end Go.Proofs.Ytiieicdhkcikpaa
namespace Go.Proofs.Ytiieicdhkcikpaa
open Go.RowKit Go.Sep
set_option linter.unusedSimpArgs false
set_option linter.unusedVariables false
attribute [local irreducible] Go.Oper.wp Go.wpList Go.Calls Go.Code.wp Go.Sep.Reg
theorem rem_end {A Z : List Value} {a : Nat} (hZ : Z.length = a) : A ++ Z.drop a = A := by
  rw [List.drop_eq_nil_of_le (by omega), List.append_nil]
def remV (l : List EntD) (n : List UInt8) : List EntD := if hasE l n = true then remE l n else []
set_option maxRecDepth 20000 in
set_option maxHeartbeats 2000000 in
theorem dremove_any {W w : World} {L : List Asrt} (hS : Sat W w L) (l : List EntD) (ao : Option Addr) (c : Nat) (n : List UInt8) (hr : ∀ w, Sat W w L → Rd w (.slice ao l.length c) l.length 2 (l.flatMap ev2)) (hl : l.length ≤ 1000) (hs : SrtE l) :
    Calls Try.prog 62 #[.slice ao l.length c, sv n] w fun r w' => ∃ v, r = .returned (.tuple #[v, .int .i64 (if hasE l n = true then 0 else 3)]) ∧ Sat W w' (Er v (remV l n) :: L) := by
  have HR := Lib.hid hr
  obtain ⟨_, _, he, hc1, hc2, _, h5⟩ := hr w hS
  simp only [Value.slice.injEq, true_and] at he
  obtain ⟨rfl, rfl⟩ := he
  have H5 := Lib.hid h5
  have HP := Lib.hid (fun w (h : Sat W w L) => dplace_any h l ao c n hr hl hs)
  have hli : (l.length : Int) ≤ 1000 := by omega
  unfold remV
  cases hb : hasE l n with
  | false =>
    rw [hb] at HP
    rw [if_neg (by decide), if_neg (by decide)]
    clear hr hs h5 hb
    go_enter Try.func62, Try.ntmps62
    go_wp2_with (go_at_call 73; refine (HP.out _ hS).mono ?_; rintro r w1 ⟨rfl, hS1⟩; clear hS; have hS := hS1; clear hS1)
    go_ret2
    exact ⟨.slice none 0 0, rfl, hS.tbNil⟩
  | true =>
    rw [hb] at HP
    rw [if_pos rfl, if_pos rfl]
    obtain ⟨e, hx, hn⟩ := (hs.has_iff n).1 hb
    obtain ⟨k, hk⟩ : ∃ k, atE l n = k := ⟨_, rfl⟩
    rw [hk] at HP hx
    have hkl2 := (List.getElem?_eq_some_iff.1 hx).1
    have hkl : k ≤ l.length := by omega
    have HV := Lib.hid (show l.take k ++ l.drop (k + 1) = remE l n by rw [← hn]; exact hs.cut hx)
    have hA : ((l.take k).flatMap ev2).length = k * 2 := by rw [ev_len, List.length_take]; omega
    have hB : ((l.drop (k + 1)).flatMap ev2).length = (l.length - (k + 1)) * 2 := by rw [ev_len, List.length_drop]
    have HA := Lib.hid hA
    have HB := Lib.hid hB
    have HE := Lib.hid (show (l.take k).flatMap ev2 ++ (l.drop (k + 1)).flatMap ev2 = (remE l n).flatMap ev2 by rw [← HV.out, List.flatMap_append])
    have HLI := Lib.hid (show (remE l n).length = l.length - 1 by rw [← HV.out, List.length_append, List.length_take, List.length_drop]; omega)
    have HSUB := Lib.hid (show ((l.length - 1 : Nat) : Int) = (l.length : Int) - 1 by omega)
    have HMIN := Lib.hid (show min k (l.length - 1) = k by omega)
    have q2 : (k : Int) ≤ (c : Int) := by omega
    have q4 : (k : Int) ≤ (l.length : Int) := by omega
    have q5 : (1 : Int) ≤ (l.length : Int) := by omega
    have q6 : (k : Int) + 1 ≤ (l.length : Int) := by omega
    obtain ⟨b, off, rfl, _⟩ := H5.out (by omega)
    clear hr hs h5 hb hx hn hk hA hB
    rcases Nat.lt_or_ge (k + 1) l.length with hlt | hge
    · go_enter Try.func62, Try.ntmps62
      go_wp2_with (first
        | (go_at_call 73; refine (HP.out _ hS).mono ?_; rintro r w1 ⟨rfl, hS1⟩; clear hS; have hS := hS1; clear hS1)
        | (refine toList (by rfl) ?_; refine mk hS _ _ _ (by rfl) (l.length - 1) (l.length - 1) .i64 .i64 (by rw [HSUB.out]; rfl) (by rw [HSUB.out]; rfl) (elOf (by rfl)) (by omega) (by omega) (by omega) ?_; intro pb w1 hS1; obtain ⟨Z, hZ, hS2⟩ : ∃ Z : List Value, Z.length = (l.length - 1) * 2 ∧ Sat W w1 (Cs pb _ Z :: L) := ⟨_, by rw [Array.length_toList, size_madeCells], hS1⟩; clear hS hS1; have hS := hS2; clear hS2; have HZ := Lib.hid hZ; clear hZ)
        | (refine toList (by rfl) ?_; refine cp hS _ _ _ _ (by rfl) pb 0 _ _ _ (by rfl) (by rfl) (elOf (by rfl)) (by decide) Has.z (m := k) (by exact erd_take (HR.out _ hS.drop) k hkl) (ev2_one _) (by rw [HZ.out]; omega) ?_; intro w1 hS1; clear hS; have hS := hS1; clear hS1; dsimp only [List.set_cons_zero] at hS; rw [HMIN.out, List.take_zero, List.nil_append, Nat.zero_add, List.take_of_length_le (by rw [HA.out]; omega)] at hS))
      refine regStart [7] hS (by kernel_rfl) rfl ?_
      intro w1 hS1
      clear hS; have hS := hS1; clear hS1
      (refine regP 0 hS (fun _ h => h) rfl (by kernel_rfl) (by kernel_rfl) (by kernel_rfl) (fun _ _ _ _ h => h) (by rfl) (by rfl) ?_; apply Exists.intro; apply And.intro; (intro w; go_simp; try with_reducible rfl); go_frame)
      (refine regP 1 hS (fun _ h => h) rfl (by kernel_rfl) (by kernel_rfl) (by kernel_rfl) (fun _ _ _ _ h => h) (by rfl) (by rfl) ?_; apply Exists.intro; apply And.intro; (intro w; go_simp; try with_reducible rfl); go_frame)
      (refine regP 2 hS (fun _ h => h) rfl (by kernel_rfl) (by kernel_rfl) (by kernel_rfl) (fun _ _ _ _ h => h) (by rfl) (by rfl) ?_; apply Exists.intro; apply And.intro; (intro w; first | first | exact rSlcL (lo := k) (by rfl) (by rfl) (by rfl) (by first | omega | (rw [IntWalk.i64_in _ (by omega)]; omega)) (by omega) (by omega) (elOf (by rfl)) w | exact rSlcL (lo := k + 1) (by rfl) (by rfl) (by rfl) (by first | omega | (rw [IntWalk.i64_in _ (by omega)]; omega)) (by omega) (by omega) (elOf (by rfl)) w | (go_simp; try with_reducible rfl)); go_frame)
      (refine regP 3 hS (fun _ h => h) rfl (by kernel_rfl) (by kernel_rfl) (by kernel_rfl) (fun _ _ _ _ h => h) (by rfl) (by rfl) ?_; apply Exists.intro; apply And.intro; (intro w; go_simp; try with_reducible rfl); go_frame)
      (refine regP 4 hS (fun _ h => h) rfl (by kernel_rfl) (by kernel_rfl) (by kernel_rfl) (fun _ _ _ _ h => h) (by rfl) (by rfl) ?_; apply Exists.intro; apply And.intro; (intro w; go_simp; try with_reducible rfl); go_frame)
      (refine regP 5 hS (fun _ h => h) rfl (by kernel_rfl) (by kernel_rfl) (by kernel_rfl) (fun _ _ _ _ h => h) (by rfl) (by rfl) ?_; apply Exists.intro; apply And.intro; (intro w; go_simp; try with_reducible rfl); go_frame; try simp (disch := omega) only [IntWalk.i64_in])
      (refine regP 6 hS (fun _ h => h) rfl (by kernel_rfl) (by kernel_rfl) (by kernel_rfl) (fun _ _ _ _ h => h) (by rfl) (by rfl) ?_; apply Exists.intro; apply And.intro; (intro w; first | first | exact rSlcL (lo := k) (by rfl) (by rfl) (by rfl) (by first | omega | (rw [IntWalk.i64_in _ (by omega)]; omega)) (by omega) (by omega) (elOf (by rfl)) w | exact rSlcL (lo := k + 1) (by rfl) (by rfl) (by rfl) (by first | omega | (rw [IntWalk.i64_in _ (by omega)]; omega)) (by omega) (by omega) (elOf (by rfl)) w | (go_simp; try with_reducible rfl)); go_frame)
      (refine regA 7 rfl (by kernel_rfl) (by rfl) (by rfl) true (by kernel_rfl) (fun K hK => ?_); (refine cp hS _ _ _ _ (by rfl) pb _ _ _ _ (by rfl) (by rfl) (elOf (by rfl)) (by decide) Has.z (m := l.length - (k + 1)) (by exact erd_drop (HR.out _ hS.drop) (k + 1) hlt) (ev2_one _) (by simp only [List.length_append, List.length_drop, HA.out, HZ.out]; omega) ?_; intro w1 hS1; clear hS; have hS := hS1; clear hS1; dsimp only [List.set_cons_zero] at hS); refine hK _ _ _ hS (by first | (intro h; cases h; done) | exact fun _ _ h => h | exact fun _ _ h => h.drop | exact fun _ _ h => h.drop.drop | exact fun _ _ h => h.drop.pull1 | exact fun _ _ h => h.take2 | exact fun _ _ h => h.one Has.z | exact fun _ _ h => h.one (Has.s Has.z) | exact fun _ _ h => h.one (Has.s (Has.s Has.z))) ?_; clear hK K; go_frame)
      refine regDone (by kernel_rfl) ?_
      go_wp2
      go_ret2
      have hOFF : 0 + k * 2 = k * 2 := by omega
      have hMN : min (l.length - (k + 1)) (l.length - 1 - k) * 2 = (l.length - (k + 1)) * 2 := by omega
      rw [hOFF, hMN, (show List.take ((l.length - (k + 1)) * 2) ((l.drop (k + 1)).flatMap ev2) = (l.drop (k + 1)).flatMap ev2 from List.take_of_length_le (by rw [HB.out]; omega)), rem_cells HA.out HB.out (by rw [HZ.out]; omega), HE.out] at hS
      refine ⟨.slice (some ⟨pb, 0, none⟩) (l.length - 1) (l.length - 1), rfl, ?_⟩
      exact Sat.csTb (ev2_len _) HLI.out (by omega) hS
    · have HE0 := Lib.hid (show (l.take k).flatMap ev2 = (remE l n).flatMap ev2 by have := HE.out; rw [List.drop_eq_nil_of_le hge] at this; simpa using this)
      have hcc : c ≤ l.length ∨ l.length < c := by omega
      rcases hcc with hcc | hcc
      all_goals
        go_enter Try.func62, Try.ntmps62
        go_wp2_with (first
          | (go_at_call 73; refine (HP.out _ hS).mono ?_; rintro r w1 ⟨rfl, hS1⟩; clear hS; have hS := hS1; clear hS1)
          | (refine toList (by rfl) ?_; refine mk hS _ _ _ (by rfl) (l.length - 1) (l.length - 1) .i64 .i64 (by rw [HSUB.out]; rfl) (by rw [HSUB.out]; rfl) (elOf (by rfl)) (by omega) (by omega) (by omega) ?_; intro pb w1 hS1; obtain ⟨Z, hZ, hS2⟩ : ∃ Z : List Value, Z.length = (l.length - 1) * 2 ∧ Sat W w1 (Cs pb _ Z :: L) := ⟨_, by rw [Array.length_toList, size_madeCells], hS1⟩; clear hS hS1; have hS := hS2; clear hS2; have HZ := Lib.hid hZ; clear hZ)
          | (refine toList (by rfl) ?_; refine cp hS _ _ _ _ (by rfl) pb 0 _ _ _ (by rfl) (by rfl) (elOf (by rfl)) (by decide) Has.z (m := k) (by exact erd_take (HR.out _ hS.drop) k hkl) (ev2_one _) (by rw [HZ.out]; omega) ?_; intro w1 hS1; clear hS; have hS := hS1; clear hS1; dsimp only [List.set_cons_zero] at hS; rw [HMIN.out, List.take_zero, List.nil_append, Nat.zero_add, List.take_of_length_le (by rw [HA.out]; omega)] at hS))
        refine regStart [7] hS (by kernel_rfl) rfl ?_
        intro w1 hS1
        clear hS; have hS := hS1; clear hS1
        (refine regP 0 hS (fun _ h => h) rfl (by kernel_rfl) (by kernel_rfl) (by kernel_rfl) (fun _ _ _ _ h => h) (by rfl) (by rfl) ?_; apply Exists.intro; apply And.intro; (intro w; go_simp; try with_reducible rfl); go_frame)
        (refine regP 1 hS (fun _ h => h) rfl (by kernel_rfl) (by kernel_rfl) (by kernel_rfl) (fun _ _ _ _ h => h) (by rfl) (by rfl) ?_; apply Exists.intro; apply And.intro; (intro w; go_simp; try with_reducible rfl); go_frame)
        (refine regP 2 hS (fun _ h => h) rfl (by kernel_rfl) (by kernel_rfl) (by kernel_rfl) (fun _ _ _ _ h => h) (by rfl) (by rfl) ?_; apply Exists.intro; apply And.intro; (intro w; first | first | exact rSlcE (lo := k) (by rfl) (by rfl) (by rfl) (by first | omega | (rw [IntWalk.i64_in _ (by omega)]; omega)) (by omega) (by omega) (elOf (by rfl)) w | exact rSlcE (lo := k + 1) (by rfl) (by rfl) (by rfl) (by first | omega | (rw [IntWalk.i64_in _ (by omega)]; omega)) (by omega) (by omega) (elOf (by rfl)) w | exact rSlcM (lo := k + 1) (by rfl) (by rfl) (by rfl) (by first | omega | (rw [IntWalk.i64_in _ (by omega)]; omega)) (by omega) (by omega) (elOf (by rfl)) w | (go_simp; try with_reducible rfl)); go_frame)
        (refine regP 3 hS (fun _ h => h) rfl (by kernel_rfl) (by kernel_rfl) (by kernel_rfl) (fun _ _ _ _ h => h) (by rfl) (by rfl) ?_; apply Exists.intro; apply And.intro; (intro w; go_simp; try with_reducible rfl); go_frame)
        (refine regP 4 hS (fun _ h => h) rfl (by kernel_rfl) (by kernel_rfl) (by kernel_rfl) (fun _ _ _ _ h => h) (by rfl) (by rfl) ?_; apply Exists.intro; apply And.intro; (intro w; go_simp; try with_reducible rfl); go_frame)
        (refine regP 5 hS (fun _ h => h) rfl (by kernel_rfl) (by kernel_rfl) (by kernel_rfl) (fun _ _ _ _ h => h) (by rfl) (by rfl) ?_; apply Exists.intro; apply And.intro; (intro w; go_simp; try with_reducible rfl); go_frame; try simp (disch := omega) only [IntWalk.i64_in])
        (refine regP 6 hS (fun _ h => h) rfl (by kernel_rfl) (by kernel_rfl) (by kernel_rfl) (fun _ _ _ _ h => h) (by rfl) (by rfl) ?_; apply Exists.intro; apply And.intro; (intro w; first | first | exact rSlcE (lo := k) (by rfl) (by rfl) (by rfl) (by first | omega | (rw [IntWalk.i64_in _ (by omega)]; omega)) (by omega) (by omega) (elOf (by rfl)) w | exact rSlcE (lo := k + 1) (by rfl) (by rfl) (by rfl) (by first | omega | (rw [IntWalk.i64_in _ (by omega)]; omega)) (by omega) (by omega) (elOf (by rfl)) w | exact rSlcM (lo := k + 1) (by rfl) (by rfl) (by rfl) (by first | omega | (rw [IntWalk.i64_in _ (by omega)]; omega)) (by omega) (by omega) (elOf (by rfl)) w | (go_simp; try with_reducible rfl)); go_frame)
        (refine regA 7 rfl (by kernel_rfl) (by rfl) (by rfl) true (by kernel_rfl) (fun K hK => ?_); (refine cp hS _ _ _ _ (by rfl) pb _ _ _ _ (by rfl) (by rfl) (elOf (by rfl)) (by decide) Has.z (m := 0) (vs := []) (by exact erd_none (by omega) (by omega)) (fun _ h => by cases h) (by simp only [List.length_append, List.length_drop, HA.out, HZ.out]; omega) ?_; intro w1 hS1; clear hS; have hS := hS1; clear hS1; dsimp only [List.set_cons_zero] at hS); refine hK _ _ _ hS (by first | (intro h; cases h; done) | exact fun _ _ h => h | exact fun _ _ h => h.drop | exact fun _ _ h => h.drop.drop | exact fun _ _ h => h.drop.pull1 | exact fun _ _ h => h.take2 | exact fun _ _ h => h.one Has.z | exact fun _ _ h => h.one (Has.s Has.z) | exact fun _ _ h => h.one (Has.s (Has.s Has.z))) ?_; clear hK K; go_frame)
        refine regDone (by kernel_rfl) ?_
        go_wp2
        go_ret2
        rw [same_cells, rem_end (by rw [HZ.out]; omega), HE0.out] at hS
        refine ⟨.slice (some ⟨pb, 0, none⟩) (l.length - 1) (l.length - 1), rfl, ?_⟩
        exact Sat.csTb (ev2_len _) HLI.out (by omega) hS
end Go.Proofs.Ytiieicdhkcikpaa
