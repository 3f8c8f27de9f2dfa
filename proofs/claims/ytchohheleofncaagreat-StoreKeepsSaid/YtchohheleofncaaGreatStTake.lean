/-
 Package bits: Take.
-/
import Derived.Test.YtchohheleofncaaGreatStCut
import Derived.Test.YtchohheleofncaaGreatMReg
set_option linter.unusedSimpArgs false
set_option linter.unusedVariables false
namespace Go.Proofs.YtchohheleofncaaGreat
open Go.RowKit Go.Sep
attribute [local irreducible] Go.Oper.wp Go.wpList Go.Calls Go.Code.wp Go.Sep.Reg
theorem flat_take {T : List (Nat × Nat)} {k : Nat} {x : Nat × Nat} (h : T[k]? = some x) : flat (T.take (k + 1)) = flat (T.take k) ++ List.range' x.1 x.2 := by
 rw [List.take_add_one, h, Option.toList_some, flat_append]
 obtain ⟨a, m⟩ := x
 rw [flat_one]
theorem flat_le (T : List (Nat × Nat)) (k : Nat) : (flat (T.take k)).length ≤ (flat T).length := by
 conv => rhs; rw [← List.take_append_drop k T, flat_append, List.length_append]
 omega
theorem has_app (L' L : List Asrt) (A : Asrt) : Has (L' ++ A :: L) L'.length A := by
 induction L' with
 | nil => exact Has.z
 | cons x L' ih => exact Has.s ih
def TkM (T : List (Nat × Nat)) (v28 : Value) : Nat := T.length - (intOf v28).toNat
def TkI (W : World) (L : List Asrt) (T : List (Nat × Nat)) (vt : Value) (v28 v11 : Value) (wz : World) : Prop :=
 ∃ k : Nat, v28 = .int .i64 (k : Int) ∧ k ≤ T.length ∧ Sat W wz (Ir v11 (flat (T.take k)) :: IsSp vt T :: L)
def TjI (W : World) (L : List Asrt) (T : List (Nat × Nat)) (vt : Value) (k a m : Nat) (v16 v11 : Value) (wz : World) : Prop :=
 ∃ j : Nat, v16 = .int .i64 ((a : Int) + (j : Int)) ∧ j ≤ m ∧ Sat W wz (Ir v11 (flat (T.take k) ++ List.range' a j) :: IsSp vt T :: L)
theorem tj_fit {T : List (Nat × Nat)} {k a m j : Nat} (hx : T[k]? = some (a, m)) (hf : (flat T).length ≤ 1100) (hm : m ≤ 1100) (hj : j ≤ m) : (flat (T.take k) ++ List.range' a j).length + 1 ≤ 17592186044416 := by
 have := flat_le T k
 rw [List.length_append, List.length_range']
 omega
set_option maxRecDepth 20000 in
set_option maxHeartbeats 4000000 in
theorem take_any {W w : World} {L : List Asrt} (hS : Sat W w L) (S : Nat → Bool) (p off c b n : Nat) (hb : b ≤ 1024) (h0 : 0 < b) (hn : n ≤ (freeL S b).length) (hr : ∀ w L', Sat W w (L' ++ L) → Rd w (.slice (some ⟨p, off, none⟩) 128 c) 128 1 (bv (mapB S))) :
  Calls Tryz.prog 36 #[.slice (some ⟨p, off, none⟩) 128 c, .int .i64 (b : Int), .int .i64 (n : Int)] w fun e w' => ∃ v, e = .returned (.tuple #[v, .bool true]) ∧ Sat W w' (Ir v ((freeL S b).take n) :: L) := by
 have HA := Lib.hid (spans_any hS S p off c b hb h0 hr)
 obtain ⟨hok, hfl⟩ := spansOf_ok S hb
 have hsum := spansOf_sum S hb
 have hle := freeL_len S b
 have hsl : (spansOf S b).length ≤ 1100 := by have := spN_len S b (b + 1); unfold spansOf; omega
 have HC := Lib.hid (fun w (ao : Option Addr) (c : Nat) (h : Sat W w (IsSp (.slice ao (spansOf S b).length c) (spansOf S b) :: L)) => spcut_any h (spansOf S b) hok (by omega) n (by omega) ao c (fun w L' h => Sat.spRd (k := L'.length) h (has_app _ _ _)) hsl)
 have hT := cutOf_flat (spansOf S b) hok.pos n
 rw [hfl] at hT
 have hTp := cutOf_pos (spansOf S b) hok.pos n
 have hTl := cutOf_len (spansOf S b) hok.pos n
 obtain ⟨T, hTe⟩ : ∃ T, cutOf (spansOf S b) n = T := ⟨_, rfl⟩
 rw [hTe] at hT hTp hTl HC
 have HFL := Lib.hid (show (flat T).length ≤ 1100 by rw [hT, List.length_take]; omega)
 have HT := Lib.hid hT
 have HTP := Lib.hid hTp
 have HTL := Lib.hid (show T.length ≤ 1100 by omega)
 clear hTe hTl hTp hT hsl hle hsum hfl hok hr hb
 go_enter Tryz.func36, Tryz.ntmps36
 go_wp2_with (first
  | (go_at_call 80; refine HA.out.mono ?_; clear hS; rintro e w1 ⟨v, rfl, hS⟩; obtain ⟨ao, cc, rfl, _⟩ := Sat.spShape hS Has.z)
  | (go_at_call 79; refine (HC.out _ _ _ hS).mono ?_; clear hS; rintro e w1 ⟨vt, v2, rfl, hS⟩; obtain ⟨aot, ct, rfl, _⟩ := Sat.spShape hS Has.z))
 have H0 := Lib.hid hS.irNil
 obtain ⟨L2, hL2⟩ : ∃ L2, IsSp (.slice ao (spansOf S b).length cc) (spansOf S b) :: L = L2 := ⟨_, rfl⟩
 have HQ := Lib.hid (show ∀ w A, Sat W w (A :: L2) → Sat W w (A :: L) from fun w A h => by rw [← hL2] at h; exact h.pull1.drop)
 rw [hL2] at hS H0
 clear hL2
 have HRR := Lib.hid (fun w A (h : Sat W w (A :: IsSp (.slice aot T.length ct) T :: L2)) => Sat.spRd h (Has.s Has.z))
 obtain ⟨_, _, he, hc1, hc2, _, h5⟩ := Sat.spRd hS Has.z
 simp only [Value.slice.injEq, true_and] at he
 obtain ⟨rfl, rfl⟩ := he
 have H5 := Lib.hid h5
 have hli : (T.length : Int) ≤ 9223372036854775807 := by have := HTL.out; omega
 clear h5 hS hc1 hc2
 go_loopw [28, 11] (fun v28 v11 wz => TkI W L2 T (.slice aot T.length ct) v28 v11 wz) (fun v28 _ _ => TkM T v28)
 case atStart => exact ⟨0, rfl, Nat.zero_le _, H0.out⟩
 case round =>
  clear H0
  obtain ⟨k, rfl, hk, hS⟩ := hrel
  by_cases hlt : k < T.length
  ·have k1 : (k : Int) < (T.length : Int) := by omega
   have HLT := Lib.hid hlt
   obtain ⟨pb, po, rfl, _⟩ := H5.out (by omega)
   obtain ⟨⟨a, m⟩, hx⟩ : ∃ x, T[k]? = some x := ⟨_, List.getElem?_eq_getElem hlt⟩
   have hp := HTP.out _ (List.mem_of_getElem? hx)
   have HX := Lib.hid (spv_at hx)
   have HN := Lib.hid (flat_take hx)
   have HFIT := Lib.hid (fun j h => tj_fit (j := j) hx HFL.out (by dsimp only at hp; omega) h)
   have HE := Lib.hid (fun w => ends_any (a := a) (n := m) (by exact hp.2) (by exact hp.1) w)
   dsimp only at hp HN
   obtain ⟨z, hz⟩ : ∃ z : Int, ((a + m : Nat) : Int) = z := ⟨_, rfl⟩
   rw [hz] at HE
   have z1 : z ≤ (a : Int) + (m : Int) := by omega
   have z2 : (a : Int) + (m : Int) ≤ z := by omega
   have z5 : (a : Int) + (m : Int) ≤ 1100 := by omega
   obtain ⟨u, hu⟩ : ∃ u, spv (a, m) = u := ⟨_, rfl⟩
   have hu1 : ∃ x y, u = .complex .f64 x y := ⟨_, _, hu.symm⟩
   rw [hu] at HX HE
   obtain ⟨ux, uy, rfl⟩ := hu1
   clear hx hp hlt hk hu hz
   go_wp2_with (first
    | (refine toList (by rfl) ?_; refine wp_of_reads (rLdRd1 (HRR.out _ _ hS) _ _ (by rfl) _ (by rfl) (agOf (by rfl)) k (by omega) HX.out (by have := HLT.out; omega)) ?_)
    | (go_at_call 81; refine (HE.out _).mono ?_; rintro e w1 ⟨rfl, rfl⟩))
   have H1 := Lib.hid hS
   clear hS
   go_loopw [16, 11] (fun v16 v11 wz => TjI W L2 T (.slice (some ⟨pb, po, none⟩) T.length ct) k a m v16 v11 wz) (fun v16 _ _ => a + m - (intOf v16).toNat)
   case atStart => exact ⟨0, by simp, Nat.zero_le _, by rw [show List.range' a 0 = [] from rfl, List.append_nil]; exact H1.out⟩
   case round =>
    clear H1
    obtain ⟨j, rfl, hj, hS⟩ := hrel
    by_cases hjl : j < m
    ·have k2 : (a : Int) + (j : Int) < z := by omega
     have HJ := Lib.hid hjl
     clear hj hjl
     go_wp2_with (first
      | (refine toList (by rfl) ?_; refine bsF hS _ _ _ (by rfl) (elOf (by rfl)) [.int .i64 ((a + j : Nat) : Int)] (by rfl) (by rfl) (by decide) (by decide) (by simp [Value.cells]) ?_; clear hS; intro b1 w1 hS; rw [sca1 rfl] at hS)
      | (at_builtin; refine toList (by rfl) ?_; refine apI hS _ _ _ _ (by rfl) (by rfl) (by rfl) (elOf (by rfl)) (by rfl) (by rfl) (by rfl) (inOf (by rfl)) (Has.s Has.z) (m := [a + j]) (by exact hS.csRd0 (sz := 1) Has.z (by decide) rfl) (HFIT.out _ (Nat.le_of_lt HJ.out)) ?_; clear hS; intro v2 w1 hS; dsimp only [List.set_cons_zero, List.set_cons_succ] at hS; replace hS := hS.drop))
     rw [List.append_assoc, show List.range' a j ++ [a + j] = List.range' a (j + 1) from (range'_snoc a j).symm] at hS
     exact ⟨⟨j + 1, by congr 1, HJ.out, hS⟩, by have := HJ.out; simp only [intOf]; omega⟩
    ·obtain rfl : j = m := by omega
     have k2 : ¬ ((a : Int) + (j : Int) < z) := by omega
     rw [← HN.out] at hS
     clear hj hjl
     go_wp2
     exact ⟨⟨k + 1, by go_num, HLT.out, hS⟩, by have := HLT.out; simp only [TkM, intOf]; omega⟩
  ·obtain rfl : k = T.length := by omega
   have k1 : ¬ (T.length : Int) < (T.length : Int) := by omega
   rw [List.take_length, HT.out] at hS
   have hS2 := HQ.out _ _ hS.pull1.drop
   clear hlt hk hS
   go_wp2
   go_ret2
   exact ⟨_, rfl, hS2⟩
set_option maxRecDepth 20000 in
set_option maxHeartbeats 4000000 in
theorem take_no {W w : World} {L : List Asrt} (hS : Sat W w L) (S : Nat → Bool) (p off c b n : Nat) (hb : b ≤ 1024) (h0 : 0 < b) (hn : (freeL S b).length < n) (hr : ∀ w L', Sat W w (L' ++ L) → Rd w (.slice (some ⟨p, off, none⟩) 128 c) 128 1 (bv (mapB S))) :
  Calls Tryz.prog 36 #[.slice (some ⟨p, off, none⟩) 128 c, .int .i64 (b : Int), .int .i64 (n : Int)] w fun e w' => e = .returned (.tuple #[.slice none 0 0, .bool false]) ∧ Sat W w' L := by
 have HA := Lib.hid (spans_any hS S p off c b hb h0 hr)
 obtain ⟨hok, hfl⟩ := spansOf_ok S hb
 have hsum := spansOf_sum S hb
 have hle := freeL_len S b
 have HC := Lib.hid (fun w (ao : Option Addr) (c : Nat) (h : Sat W w (IsSp (.slice ao (spansOf S b).length c) (spansOf S b) :: L)) => spcut_no h (spansOf S b) hok (by omega) n (by omega) ao c (fun w h => Sat.spRd h Has.z))
 clear hle hsum hfl hok hr hb
 go_enter Tryz.func36, Tryz.ntmps36
 go_wp2_with (first
  | (go_at_call 80; refine HA.out.mono ?_; clear hS; rintro e w1 ⟨v, rfl, hS⟩; obtain ⟨ao, cc, rfl, _⟩ := Sat.spShape hS Has.z)
  | (go_at_call 79; refine (HC.out _ _ _ hS).mono ?_; rintro e w1 ⟨rfl, rfl⟩))
 have hS := hS.drop
 go_loopw [28, 11] (fun v28 v11 wz => v28 = .int .i64 0 ∧ v11 = .slice none 0 0 ∧ Sat W wz L) (fun _ _ _ => 0)
 case atStart => exact ⟨rfl, rfl, hS⟩
 case round =>
  clear hS
  obtain ⟨rfl, rfl, hS⟩ := hrel
  go_wp2
  go_ret2
  exact ⟨rfl, hS⟩
end Go.Proofs.YtchohheleofncaaGreat
