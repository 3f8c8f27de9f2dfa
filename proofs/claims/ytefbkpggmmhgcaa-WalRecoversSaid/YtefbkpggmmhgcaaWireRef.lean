/-
  Package pedigreeref04: contracts of Put, Get, Pad.
-/
import Derived.Test.YtefbkpggmmhgcaaWire
namespace Go.Proofs.Ytefbkpggmmhgcaa
open Go.RowKit Go.Sep
set_option linter.unusedSimpArgs false
set_option linter.unusedVariables false
attribute [local irreducible] Go.Oper.wp Go.wpList Go.Calls Go.Code.wp Go.Sep.Reg

theorem le_digit {x : Int} {U : Nat} (h : (U : Int) = x % 18446744073709551616) (k : Nat) (hk : k < 8) : Value.int .u8 (((U / 256 ^ k : Nat) : Int) % 256) = u8 (lb x k) := by
  unfold u8
  rw [lb_toNat]
  congr 1
  match k, hk with
  | 0, _ => simp; omega
  | 1, _ => simp; omega
  | 2, _ => simp; omega
  | 3, _ => simp; omega
  | 4, _ => simp; omega
  | 5, _ => simp; omega
  | 6, _ => simp; omega
  | 7, _ => simp; omega
set_option maxRecDepth 20000 in
set_option maxHeartbeats 1000000 in
theorem ref_put_any {W w : World} {L : List Asrt} (hS : Sat W w L) (x : Int) (hx1 : -9223372036854775808 ≤ x) (hx2 : x ≤ 9223372036854775807) (n : Nat) (hn : n ≤ 7) :
    Calls Try.prog 43 #[.int .i64 x, .int .i64 n] w fun e w' => ∃ v', e = .returned v' ∧ Sat W w' (Sl 5 1 v' (le x n).length (bv (le x n)) :: L) := by
  have i1 : (n : Int) ≤ 7 := by omega
  have H0 : Hid (Sat W w (Sl 5 1 (.slice none 0 0) (le x 0).length (bv (le x 0)) :: L)) := Lib.hid (hS.slNil (E := 5) (sz := 1))
  go_enter Try.func43, Try.ntmps43
  obtain ⟨U, hU2⟩ : ∃ U : Nat, (U : Int) = x % 18446744073709551616 := ⟨(x % 18446744073709551616).toNat, by omega⟩
  have hU : IntKind.u64.wrap x = (U : Int) := by rw [hU2]; simp [IntKind.wrap, IntKind.bits, IntKind.signed]
  have HU := Lib.hid hU
  have HU2 := Lib.hid hU2
  have HUL : U ≤ 18446744073709551615 := by omega
  have HUL2 := Lib.hid HUL
  clear hU hU2 HUL
  go_wp2
  rw [HU.out]
  go_loopw [7, 5, 6] (fun vi vb vu wz => ∃ k : Nat, k ≤ n ∧ vi = .int .i64 k ∧ vu = .int .u64 ((U / 256 ^ k : Nat) : Int) ∧ Sat W wz (Sl 5 1 vb (le x k).length (bv (le x k)) :: L)) (fun vi _ _ _ => n - (intOf vi).toNat)
  case atStart => exact ⟨0, by omega, rfl, by simp, H0.out⟩
  case round =>
    clear H0 hS
    obtain ⟨k, hk, rfl, rfl, hS⟩ := hrel
    by_cases hlt : k < n
    · have j1 : (k : Int) < (n : Int) := by omega
      have j2 : (k : Int) < 8 := by omega
      have hle : U / 256 ^ k ≤ U := Nat.div_le_self _ _
      have hnx : U / 256 ^ (k + 1) = U / 256 ^ k / 256 := by rw [Nat.pow_succ, Nat.div_div_eq_div_mul]
      have hby := le_digit HU2.out k (by omega)
      have hln : (le x k).length ≤ 8 := by rw [le_length]; omega
      obtain ⟨y, hy⟩ : ∃ y, U / 256 ^ k = y := ⟨_, rfl⟩
      rw [hy] at hle hnx hby ⊢
      have hy2 : (y : Int) ≤ 18446744073709551615 := by have := HUL2.out; omega
      have HNX := Lib.hid hnx
      have HBY := Lib.hid hby
      clear hy hle hnx hby
      go_wp2_with (first
        | (refine toList (by rfl) ?_; refine bsF hS _ _ _ (by rfl) (elOf (by rfl)) [.int .u8 ((y : Int) % 256)] (by rfl) (by rfl) (by decide) (by decide) (by simp [Value.cells]) ?_; intro b1 w1 hS1; clear hS; have hS := hS1; clear hS1; rw [sca1 rfl, HBY.out] at hS)
        | (at_builtin; refine toList (by rfl) ?_; refine ap hS _ _ _ _ (by rfl) _ _ (by rfl) (by rfl) (elOf (by rfl)) (by rfl) (by decide) (inOf (by rfl)) (Has.s Has.z) (m := 1) (by exact .inl (hS.csRd0 (sz := 1) Has.z (by decide) rfl)) (by simp [u8, Value.oneCell']) (by omega) (by omega) ?_; intro v2 w1 hS1; clear hS; have hS := hS1; clear hS1; rw [bv_snoc, len_snoc _ (lb x k), ← le_succ] at hS; dsimp only [List.set_cons_zero, List.set_cons_succ] at hS))
      exact ⟨⟨k + 1, by omega, by go_num, by rw [HNX.out]; simp, hS.drop⟩, by simp [intOf]; omega⟩
    · obtain rfl : k = n := by omega
      go_wp2
      go_ret
      exact ⟨_, rfl, hS⟩
set_option maxRecDepth 20000 in
theorem ref_pad_any {W w : World} {L : List Asrt} {v : Value} {l : List UInt8} (hS : Sat W w (Sl 5 1 v l.length (bv l) :: L)) (n : Nat) (hl : l.length ≤ n) (hn : n ≤ 1000000) :
    Calls Try.prog 44 #[v, .int .i64 n] w fun e w' => ∃ v', e = .returned v' ∧ Sat W w' (Sl 5 1 v' n (bv (padTo l n)) :: L) := by
  have i2 : (n : Int) ≤ 1000000 := by omega
  have HU0 := Lib.hid (show Value.int .u8 0 = u8 0 by simp [u8])
  have H0 : Hid (Sat W w (Sl 5 1 v (l ++ List.replicate 0 0).length (bv (l ++ List.replicate 0 0)) :: L)) := Lib.hid (by simpa using hS)
  go_enter Try.func44, Try.ntmps44
  go_wp2
  go_loopw [0] (fun vb wz => ∃ (k : Nat) (ao : Option Addr) (c : Nat), l.length + k ≤ n ∧ vb = .slice ao (l.length + k) c ∧ Sat W wz (Sl 5 1 vb (l ++ List.replicate k 0).length (bv (l ++ List.replicate k 0)) :: L)) (fun vb _ => match vb with | .slice _ m _ => n - m | _ => 0)
  case atStart =>
    obtain ⟨ao, c, rfl, _⟩ := hS.slShape (k := 0) rfl
    exact ⟨0, ao, c, by omega, rfl, H0.out⟩
  case round =>
    clear H0 hS
    obtain ⟨k, ao, c, hk, rfl, hS⟩ := hrel
    have HLN := Lib.hid (show (l ++ List.replicate k (0 : UInt8)).length = l.length + k by simp)
    have HRP := Lib.hid (show (l ++ List.replicate k (0 : UInt8)) ++ [0] = l ++ List.replicate (k + 1) 0 by rw [List.append_assoc, ← List.replicate_succ'])
    by_cases hlt : l.length + k < n
    · have j1 : (l.length : Int) + (k : Int) < (n : Int) := by omega
      go_wp2_with (first
        | (refine toList (by rfl) ?_; refine bsF hS _ _ _ (by rfl) (elOf (by rfl)) [.int .u8 0] (by rfl) (by rfl) (by decide) (by decide) (by simp [Value.cells]) ?_; intro b1 w1 hS1; clear hS; have hS := hS1; clear hS1; rw [sca1 rfl, HU0.out] at hS)
        | (at_builtin; refine toList (by rfl) ?_; refine ap hS _ _ _ _ (by rfl) _ _ (by rfl) (by rfl) (elOf (by rfl)) (by rfl) (by decide) (inOf (by rfl)) (Has.s Has.z) (m := 1) (by exact .inl (hS.csRd0 (sz := 1) Has.z (by decide) rfl)) (by simp [Go.Sep.u8, Value.oneCell']) (by rw [HLN.out]; omega) (by rw [HLN.out]; omega) ?_; intro v2 w1 hS1; clear hS; have hS := hS1; clear hS1; rw [bv_snoc, len_snoc _ 0, HRP.out] at hS; dsimp only [List.set_cons_zero, List.set_cons_succ] at hS))
      obtain ⟨ao2, c2, rfl, _⟩ := hS.slShape (k := 1) rfl
      have e : (l ++ List.replicate (k + 1) (0 : UInt8)).length = l.length + (k + 1) := by simp
      exact ⟨⟨k + 1, ao2, c2, by omega, by rw [e], hS.drop⟩, by simp; omega⟩
    · have hk2 : k = n - l.length := by omega
      have HE := Lib.hid (show (l ++ List.replicate k (0 : UInt8)).length = n by simp; omega)
      have HP := Lib.hid (show padTo l n = l ++ List.replicate k 0 by rw [hk2]; rfl)
      have j1 : (n : Int) ≤ (l.length : Int) + (k : Int) := by omega
      clear hk2
      go_wp2
      go_ret
      rw [HP.out]
      rw [HE.out] at hS
      exact ⟨_, rfl, hS⟩
theorem un_drop (A : List UInt8) (j : Nat) (h : j < A.length) : un (A.drop j) = (A[j]).toNat + 256 * un (A.drop (j + 1)) := by
  rw [List.drop_eq_getElem_cons h, un]
set_option maxRecDepth 20000 in
set_option maxHeartbeats 1000000 in
theorem ref_get_ok {W w : World} {L : List Asrt} (hS : Sat W w L) (ao : Option Addr) (c : Nat) (l : List UInt8) (hr : ∀ w, Sat W w L → Rd w (.slice ao l.length c) l.length 1 (bv l)) (t n : Nat) (hn : 1 ≤ n) (hn2 : n ≤ 7) (ht : t + n ≤ l.length) (hl : l.length ≤ 140737488355328) :
    Calls Try.prog 49 #[.slice ao l.length c, .int .i64 t, .int .i64 n] w fun e w' => e = .returned (.tuple #[.int .i64 (un ((l.drop t).take n) : Nat), .bool true]) ∧ w = w' := by
  have h0 := hr w hS
  obtain ⟨ao', c', he, hc1, hc2, _, h5⟩ := h0
  simp only [Value.slice.injEq, true_and] at he
  obtain ⟨rfl, rfl⟩ := he
  obtain ⟨b, off, rfl, hcell⟩ := h5 (by omega)
  have HC := Lib.hid hcell
  clear hcell h5
  have i1 : (1 : Int) ≤ (n : Int) := by omega
  have i2 : (n : Int) ≤ 7 := by omega
  have i3 : (t : Int) ≤ (l.length : Int) := by omega
  have i4 : (n : Int) ≤ (l.length : Int) - (t : Int) := by omega
  have i5 : (l.length : Int) ≤ 140737488355328 := by omega
  have i6 : (t : Int) + (n : Int) ≤ (c : Int) := by omega
  obtain ⟨A, hA⟩ : ∃ A, (l.drop t).take n = A := ⟨_, rfl⟩
  have hAl : A.length = n := by rw [← hA]; simp; omega
  have HA := Lib.hid hA
  have HAL := Lib.hid hAl
  rw [hA]
  clear hA hAl
  go_enter Try.func49, Try.ntmps49
  go_wp2
  go_loop [9, 8] (fun vi vv => ∃ (k : Nat) (i : Int), k ≤ n ∧ i = (k : Int) - 1 ∧ vi = .int .i64 i ∧ vv = .int .i64 (un (A.drop k) : Nat)) (fun vi _ => (intOf vi + 1).toNat)
  case atStart => exact ⟨n, (n : Int) - 1, by omega, rfl, rfl, by rw [List.drop_eq_nil_of_le (by rw [HAL.out]; exact Nat.le_refl _)]; rfl⟩
  case round =>
    obtain ⟨k, i, hk, hi, rfl, rfl⟩ := hrel
    by_cases hlt : 0 ≤ i
    · obtain ⟨j, rfl⟩ := Int.eq_ofNat_of_zero_le hlt
      obtain rfl : k = j + 1 := by omega
      have hjn : j < A.length := by rw [HAL.out]; omega
      have hel : A[j] = l[t + j]'(by omega) := by
        have := HA.out
        subst this
        simp
      have hx : (bv l)[t + j]? = some (u8 (l[t + j]'(by omega))) := by simp only [bv, List.getElem?_map]; rw [List.getElem?_eq_getElem (by omega)]; rfl
      have hc0 := HC.out _ _ hx
      rw [← Nat.add_assoc] at hc0
      have hc1 : w.cell? ⟨b, off + (t + j), none⟩ = some (.int .u8 ((l[t + j]'(by omega)).toNat : Int)) := by rw [← Nat.add_assoc]; exact hc0
      have hu := un_lt (A.drop (j + 1))
      have hl2 : (A.drop (j + 1)).length ≤ 6 := by simp [HAL.out]; omega
      have hp : 256 ^ (A.drop (j + 1)).length ≤ 281474976710656 := pow_le7 (by omega)
      have hd := un_drop A j hjn
      rw [hel] at hd
      obtain ⟨U, hU⟩ : ∃ U, un (A.drop (j + 1)) = U := ⟨_, rfl⟩
      rw [hU] at hu hd ⊢
      have hU2 : (U : Int) ≤ 281474976710656 := by omega
      have HD := Lib.hid hd
      have j1 : (t : Int) + (j : Int) < (l.length : Int) := by omega
      have j2 : (j : Int) < 7 := by omega
      clear hd hU hu hl2 hp hel hx hc0 hi
      have hbl := (l[t + j]'(by omega)).toNat_lt
      have HW := Lib.hid (show 256 * (U : Int) + ((l[t + j]'(by omega)).toNat : Int) = ((un (A.drop j) : Nat) : Int) by rw [HD.out]; omega)
      go_wp2
      exact ⟨⟨j, (j : Int) - 1, by omega, rfl, rfl, by rw [HW.out]⟩, by simp [intOf]⟩
    · obtain rfl : k = 0 := by omega
      have hi2 : i < 0 := by omega
      clear hi hlt
      go_wp2
      go_ret2
      exact ⟨rfl, rfl⟩
end Go.Proofs.Ytefbkpggmmhgcaa
