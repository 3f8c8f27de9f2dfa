/-
  Packages bits and span: Free, Cut.
-/
import Derived.OwnWalk
import Derived.Test.YtchohheleofncaaGreatMTak
set_option linter.unusedSimpArgs false
set_option linter.unusedVariables false
namespace Go.Proofs.YtchohheleofncaaGreat
open Go.RowKit Go.Sep
attribute [local irreducible] Go.Oper.wp Go.wpList Go.Calls Go.Code.wp Go.Sep.Reg
set_option maxRecDepth 20000 in
set_option maxHeartbeats 2000000 in
theorem free_any {W w : World} {L : List Asrt} (hS : Sat W w L) (S : Nat → Bool) (p off c b : Nat) (hb : b ≤ 1024) (h0 : 0 < b) (hr : ∀ w L', Sat W w (L' ++ L) → Rd w (.slice (some ⟨p, off, none⟩) 128 c) 128 1 (bv (mapB S))) :
    Calls Tryz.prog 43 #[.slice (some ⟨p, off, none⟩) 128 c, .int .i64 (b : Int)] w fun e w' => e = .returned (.int .i64 (((freeL S b).length : Nat) : Int)) ∧ Sat W w' L := by
  have HA := Lib.hid (spans_any hS S p off c b hb h0 hr)
  have hok := (spansOf_ok S hb).1
  have hsum := spansOf_sum S hb
  have hle := freeL_len S b
  have HB := Lib.hid (fun w (ao : Option Addr) (c : Nat) (h : Sat W w (IsSp (.slice ao (spansOf S b).length c) (spansOf S b) :: L)) => sum_any h (spansOf S b) hok (by omega) ao c (fun w h => Sat.spRd h Has.z))
  rw [hsum] at HB
  clear hr hb hok hsum hle
  go_enter Tryz.func43, Tryz.ntmps43
  go_wp2_with (first
    | (go_at_call 80; refine HA.out.mono ?_; clear hS; rintro e w1 ⟨v, rfl, hS⟩; obtain ⟨ao, cc, rfl, _⟩ := Sat.spShape hS Has.z)
    | (go_at_call 88; refine (HB.out _ _ _ hS).mono ?_; rintro e w1 ⟨rfl, rfl⟩))
  go_ret
  exact ⟨rfl, hS.drop⟩
def CutM (l : List (Nat × Nat)) (v29 : Value) : Nat := l.length - (intOf v29).toNat
def CutI (W : World) (L : List Asrt) (l : List (Nat × Nat)) (n : Nat) (v29 v1 v7 v8 : Value) (wz : World) : Prop :=
  ∃ k : Nat, v29 = .int .i64 (k : Int) ∧ k ≤ l.length ∧ v1 = .int .i64 (((cutN l n k).n : Nat) : Int) ∧ Sat W wz (IsSp v8 (cutN l n k).R :: IsSp v7 (cutN l n k).T :: L)
set_option maxRecDepth 20000 in
set_option maxHeartbeats 4000000 in
theorem spcut_any {W w : World} {L : List Asrt} (hS : Sat W w L) (l : List (Nat × Nat)) (hl : SpOk l) (hs : spSum l ≤ 1100) (n : Nat) (hn : n ≤ spSum l) (ao : Option Addr) (c : Nat) (hr : ∀ w L', Sat W w (L' ++ L) → Rd w (.slice ao l.length c) l.length 1 (l.map spv)) (hll : l.length ≤ 1100) :
    Calls Tryz.prog 79 #[.slice ao l.length c, .int .i64 (n : Int)] w fun e w' => ∃ v1 v2, e = .returned (.tuple #[v1, v2, .bool true]) ∧ Sat W w' (IsSp v1 (cutOf l n) :: L) := by
  have HO := Lib.hid (ordered_any hS l hl ao c (fun w h => hr w [] h))
  have HSU := Lib.hid (sum_any hS l hl hs ao c (fun w h => hr w [] h))
  have hni : (n : Int) ≤ 1100 := by omega
  have hnn : ¬ ((n : Int) < 0) := by omega
  have hn1 : decide ((n : Int) < 0) = false := decide_eq_false hnn
  have hn2 : decide (((spSum l : Nat) : Int) < (n : Int)) = false := decide_eq_false (by omega)
  have hn3 : decide (spSum l < n) = false := decide_eq_false (by omega)
  have hsi : ((spSum l : Nat) : Int) ≤ 1100 := by omega
  have HR := Lib.hid (fun w L' h => hr w L' h)
  have H0 := Lib.hid (spNil (spNil hS))
  have HOK := Lib.hid (fun k h => cut_ok l hl.pos n k h)
  have HP := Lib.hid (hl.pos)
  have HLL := Lib.hid hll
  obtain ⟨_, _, he, hc1, hc2, _, h5⟩ := hr w [] hS
  simp only [Value.slice.injEq, true_and] at he
  obtain ⟨rfl, rfl⟩ := he
  have H5 := Lib.hid h5
  have hli : (l.length : Int) ≤ 9223372036854775807 := by omega
  clear hr h5 hl hc1 hs hn hll hS
  go_enter Tryz.func79, Tryz.ntmps79
  go_wp2_with (first
    | (go_at_call 117; refine HO.out.mono ?_; rintro e w1 ⟨rfl, rfl⟩)
    | (go_at_call 88; refine HSU.out.mono ?_; rintro e w1 ⟨rfl, rfl⟩))
  go_loopw [29, 1, 7, 8] (fun v29 v1 v7 v8 wz => CutI W L l n v29 v1 v7 v8 wz) (fun v29 _ _ _ _ => l.length - (intOf v29).toNat)
  case atStart => exact ⟨0, rfl, Nat.zero_le _, rfl, H0.out⟩
  case round =>
    clear H0
    obtain ⟨k, rfl, hk, rfl, hS⟩ := hrel
    have ho := HOK.out k hk
    have HTL := Lib.hid (show (cutN l n k).T.length ≤ l.length by have := ho.tl; simp at this; omega)
    have HRL := Lib.hid (show (cutN l n k).R.length ≤ l.length by have := ho.rl; simp at this; omega)
    have hrn : (((cutN l n k).n : Nat) : Int) ≤ (n : Int) := by have := ho.left; omega
    clear ho
    by_cases hlt : k < l.length
    · have k1 : (k : Int) < (l.length : Int) := by omega
      have HLT := Lib.hid hlt
      obtain ⟨b, off, rfl, _⟩ := H5.out (by omega)
      obtain ⟨⟨a, m⟩, hx⟩ : ∃ x, l[k]? = some x := ⟨_, List.getElem?_eq_getElem hlt⟩
      have hp := HP.out _ (List.mem_of_getElem? hx)
      have HX := Lib.hid (spv_at hx)
      have hn' := cutN_succ (n := n) hx
      have HE := Lib.hid (fun w => ends_any (a := a) (n := m) (by exact hp.2) (by exact hp.1) w)
      dsimp only at hp
      obtain ⟨⟨r, T, R⟩, hc⟩ : ∃ x, cutN l n k = x := ⟨_, rfl⟩
      rw [hc] at hn' HTL HRL hrn hS ⊢
      dsimp only at HTL HRL hrn hS ⊢
      unfold cutStep cutT cutR at hn'
      dsimp only at hn'
      obtain ⟨u, hu⟩ : ∃ u, spv (a, m) = u := ⟨_, rfl⟩
      have hu1 : ∃ x y, u = .complex .f64 x y := ⟨_, _, hu.symm⟩
      by_cases hA : m ≤ r
      · have HS := Lib.hid (show cutN l n (k + 1) = ⟨r - m, T ++ [(a, m)], R⟩ by rw [hn', show min m r = m by omega, if_pos (by omega), if_neg (by omega)])
        have HB := Lib.hid (fun w => between_any (a := a) (b := a + m) (by omega) (by omega) w)
        rw [show a + m - a = m by omega, show mkv (a, m) = spv (a, m) from if_pos hp.1] at HB
        obtain ⟨z, hz⟩ : ∃ z : Int, ((a + m : Nat) : Int) = z := ⟨_, rfl⟩
        rw [hz] at HE HB
        have z1 : z ≤ (a : Int) + (m : Int) := by omega
        have z2 : (a : Int) + (m : Int) ≤ z := by omega
        have z3 : (m : Int) ≤ (r : Int) := by omega
        have hmin : min z ((a : Int) + (r : Int)) = z := Int.min_eq_left (by omega)
        have z4 : (1 : Int) ≤ (m : Int) := by omega
        have z5 : (a : Int) + (m : Int) ≤ 1100 := by omega
        rw [hu] at HX HE
        obtain ⟨ux, uy, rfl⟩ := hu1
        clear hx hp hlt hk hu hz hA hn' hc
        go_wp2_with (first
          | (refine toList (by rfl) ?_; refine wp_of_reads (rLdRd1 (HR.out _ [_, _] hS) _ _ (by rfl) _ (by rfl) (agOf (by rfl)) k (by omega) HX.out (by have := HLT.out; omega)) ?_)
          | (go_at_call 81; refine (HE.out _).mono ?_; rintro e w1 ⟨rfl, rfl⟩)
          | (go_at_call 118; refine (HB.out _).mono ?_; rintro e w1 ⟨rfl, rfl⟩)
          | (refine toList (by rfl) ?_; refine bsF hS _ _ _ (by rfl) (elOf (by rfl)) [spv (a, m)] (by rfl) (by rfl) (by decide) (by decide) (by simp [spv, Value.cells]) ?_; clear hS; intro b1 w1 hS; rw [sca1 rfl] at hS)
          | (at_builtin; refine toList (by rfl) ?_; refine apSp hS _ _ _ _ (by rfl) (by rfl) (by rfl) (elOf (by rfl)) (by rfl) (by rfl) (by rfl) (inOf (by rfl)) (Has.s (Has.s Has.z)) (m := [(a, m)]) (by exact hS.csRd0 (sz := 1) Has.z (by decide) rfl) (by have := HTL.out; have := HRL.out; have := HLL.out; simp; omega) ?_; clear hS; intro v2 w1 hS; dsimp only [List.set_cons_zero, List.set_cons_succ] at hS; replace hS := hS.drop))
        exact ⟨⟨k + 1, by go_num, HLT.out, by rw [HS.out]; exact congrArg (Value.int IntKind.i64) (by dsimp only; omega), by rw [HS.out]; exact hS⟩, by have := HLT.out; simp [intOf]; omega⟩
      · by_cases h0 : r = 0
        · subst h0
          have HS := Lib.hid (show cutN l n (k + 1) = ⟨0, T, R ++ [(a, m)]⟩ by rw [hn', show min m 0 = 0 by omega, if_neg (by omega), if_pos (by omega)]; rfl)
          have HB := Lib.hid (fun w => between_any (a := a) (b := a + m) (by omega) (by omega) w)
          rw [show a + m - a = m by omega, show mkv (a, m) = spv (a, m) from if_pos hp.1] at HB
          obtain ⟨z, hz⟩ : ∃ z : Int, ((a + m : Nat) : Int) = z := ⟨_, rfl⟩
          rw [hz] at HE HB
          have z1 : z ≤ (a : Int) + (m : Int) := by omega
          have z2 : (a : Int) + (m : Int) ≤ z := by omega
          have hmin : min z (a : Int) = (a : Int) := Int.min_eq_right (by omega)
          have hmin2 : min z ((a : Int) + 0) = (a : Int) := by rw [Int.add_zero]; exact hmin
          have z4 : (1 : Int) ≤ (m : Int) := by omega
          have z5 : (a : Int) + (m : Int) ≤ 1100 := by omega
          rw [hu] at HX HE
          obtain ⟨ux, uy, rfl⟩ := hu1
          clear hx hp hlt hk hu hz hA hn' hc
          go_wp2_with (first
          | (refine toList (by rfl) ?_; refine wp_of_reads (rLdRd1 (HR.out _ [_, _] hS) _ _ (by rfl) _ (by rfl) (agOf (by rfl)) k (by omega) HX.out (by have := HLT.out; omega)) ?_)
            | (go_at_call 81; refine (HE.out _).mono ?_; rintro e w1 ⟨rfl, rfl⟩)
            | (go_at_call 118; refine (HB.out _).mono ?_; rintro e w1 ⟨rfl, rfl⟩)
          | (refine toList (by rfl) ?_; refine bsF hS _ _ _ (by rfl) (elOf (by rfl)) [spv (a, m)] (by rfl) (by rfl) (by decide) (by decide) (by simp [spv, Value.cells]) ?_; clear hS; intro b1 w1 hS; rw [sca1 rfl] at hS)
          | (at_builtin; refine toList (by rfl) ?_; refine apSp hS _ _ _ _ (by rfl) (by rfl) (by rfl) (elOf (by rfl)) (by rfl) (by rfl) (by rfl) (inOf (by rfl)) (Has.s Has.z) (m := [(a, m)]) (by exact hS.csRd0 (sz := 1) Has.z (by decide) rfl) (by have := HTL.out; have := HRL.out; have := HLL.out; simp; omega) ?_; clear hS; intro v2 w1 hS; dsimp only [List.set_cons_zero, List.set_cons_succ] at hS; replace hS := hS.drop))
          exact ⟨⟨k + 1, by go_num, HLT.out, by rw [HS.out]; exact congrArg (Value.int IntKind.i64) (by dsimp only; omega), by rw [HS.out]; exact hS⟩, by have := HLT.out; simp [intOf]; omega⟩
        · have HS := Lib.hid (show cutN l n (k + 1) = ⟨0, T ++ [(a, r)], R ++ [(a + r, m - r)]⟩ by rw [hn', show min m r = r by omega, if_pos (by omega), if_pos (by omega), Nat.sub_self])
          have HB := Lib.hid (fun w => between_any (a := a) (b := a + r) (by omega) (by omega) w)
          rw [show a + r - a = r by omega, show mkv (a, r) = spv (a, r) from if_pos (by show 1 ≤ r; omega), show ((a + r : Nat) : Int) = (a : Int) + (r : Int) by omega] at HB
          have HC := Lib.hid (fun w => between_any (a := a + r) (b := a + m) (by omega) (by omega) w)
          rw [show a + m - (a + r) = m - r by omega, show mkv (a + r, m - r) = spv (a + r, m - r) from if_pos (by show 1 ≤ m - r; omega), show ((a + r : Nat) : Int) = (a : Int) + (r : Int) by omega] at HC
          obtain ⟨z, hz⟩ : ∃ z : Int, ((a + m : Nat) : Int) = z := ⟨_, rfl⟩
          rw [hz] at HE HC
          have z1 : z ≤ (a : Int) + (m : Int) := by omega
          have z2 : (a : Int) + (m : Int) ≤ z := by omega
          have z3 : (r : Int) < (m : Int) := by omega
          have hmin : min z ((a : Int) + (r : Int)) = (a : Int) + (r : Int) := Int.min_eq_right (by omega)
          have z4 : (1 : Int) ≤ (r : Int) := by omega
          have z5 : (a : Int) + (m : Int) ≤ 1100 := by omega
          rw [hu] at HX HE
          obtain ⟨ux, uy, rfl⟩ := hu1
          clear hx hp hlt hk hu hz hA hn' hc h0
          go_wp2_with (first
          | (refine toList (by rfl) ?_; refine wp_of_reads (rLdRd1 (HR.out _ [_, _] hS) _ _ (by rfl) _ (by rfl) (agOf (by rfl)) k (by omega) HX.out (by have := HLT.out; omega)) ?_)
            | (go_at_call 81; refine (HE.out _).mono ?_; rintro e w1 ⟨rfl, rfl⟩)
            | (go_at_call 118; refine (HB.out _).mono ?_; rintro e w1 ⟨rfl, rfl⟩)
            | (go_at_call 118; refine (HC.out _).mono ?_; rintro e w1 ⟨rfl, rfl⟩)
          | (refine toList (by rfl) ?_; refine bsF hS _ _ _ (by rfl) (elOf (by rfl)) [spv (a, r)] (by rfl) (by rfl) (by decide) (by decide) (by simp [spv, Value.cells]) ?_; clear hS; intro b1 w1 hS; rw [sca1 rfl] at hS)
          | (at_builtin; refine toList (by rfl) ?_; refine apSp hS _ _ _ _ (by rfl) (by rfl) (by rfl) (elOf (by rfl)) (by rfl) (by rfl) (by rfl) (inOf (by rfl)) (Has.s (Has.s Has.z)) (m := [(a, r)]) (by exact hS.csRd0 (sz := 1) Has.z (by decide) rfl) (by have := HTL.out; have := HRL.out; have := HLL.out; simp; omega) ?_; clear hS; intro v2 w1 hS; dsimp only [List.set_cons_zero, List.set_cons_succ] at hS; replace hS := hS.drop)
          | (refine toList (by rfl) ?_; refine bsF hS _ _ _ (by rfl) (elOf (by rfl)) [spv (a + r, m - r)] (by rfl) (by rfl) (by decide) (by decide) (by simp [spv, Value.cells]) ?_; clear hS; intro b1 w1 hS; rw [sca1 rfl] at hS)
          | (at_builtin; refine toList (by rfl) ?_; refine apSp hS _ _ _ _ (by rfl) (by rfl) (by rfl) (elOf (by rfl)) (by rfl) (by rfl) (by rfl) (inOf (by rfl)) (Has.s Has.z) (m := [(a + r, m - r)]) (by exact hS.csRd0 (sz := 1) Has.z (by decide) rfl) (by have := HTL.out; have := HRL.out; have := HLL.out; simp; omega) ?_; clear hS; intro v2 w1 hS; dsimp only [List.set_cons_zero, List.set_cons_succ] at hS; replace hS := hS.drop))
          exact ⟨⟨k + 1, by go_num, HLT.out, by rw [HS.out]; exact congrArg (Value.int IntKind.i64) (by dsimp only; omega), by rw [HS.out]; exact hS⟩, by have := HLT.out; simp [intOf]; omega⟩
    · obtain rfl : k = l.length := by omega
      have k1 : ¬ (l.length : Int) < (l.length : Int) := by omega
      clear hlt HTL HRL hrn hk
      go_wp2
      go_ret3
      exact ⟨_, ⟨_, rfl⟩, hS.drop⟩
set_option maxRecDepth 20000 in
set_option maxHeartbeats 2000000 in
theorem spcut_no {W w : World} {L : List Asrt} (hS : Sat W w L) (l : List (Nat × Nat)) (hl : SpOk l) (hs : spSum l ≤ 1100) (n : Nat) (hn : spSum l < n) (ao : Option Addr) (c : Nat) (hr : ∀ w, Sat W w L → Rd w (.slice ao l.length c) l.length 1 (l.map spv)) :
    Calls Tryz.prog 79 #[.slice ao l.length c, .int .i64 (n : Int)] w fun e w' => e = .returned (.tuple #[.slice none 0 0, .slice none 0 0, .bool false]) ∧ w = w' := by
  have HO := Lib.hid (ordered_any hS l hl ao c hr)
  have HSU := Lib.hid (sum_any hS l hl hs ao c hr)
  have hnn : ¬ ((n : Int) < 0) := by omega
  have hn1 : decide ((n : Int) < 0) = false := decide_eq_false hnn
  have hn2 : decide (((spSum l : Nat) : Int) < (n : Int)) = true := decide_eq_true (by omega)
  have hn3 : decide (spSum l < n) = true := decide_eq_true (by omega)
  clear hr hl hs hn
  go_enter Tryz.func79, Tryz.ntmps79
  go_wp2_with (first
    | (go_at_call 117; refine HO.out.mono ?_; rintro e w1 ⟨rfl, rfl⟩)
    | (go_at_call 88; refine HSU.out.mono ?_; rintro e w1 ⟨rfl, rfl⟩))
  go_ret3
  try exact ⟨rfl, rfl⟩
end Go.Proofs.YtchohheleofncaaGreat
