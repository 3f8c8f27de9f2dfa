/-
 Packages gauss, span: numbers of two small parts; stretches.
 Package span: lists of stretches in order; how many places there are.
 Package bits: none, Used, Set, New.
 Stretches of free blocks (plain).
-/
import Derived.Test.YtchohheleofncaaGreatMFlo
import Derived.Test.YtchohheleofncaaGreatMReg
import Derived.Test.YtchohheleofncaaGreatTypes
import Derived.Laws.Externs
import Derived.Laws.Cover3
import Derived.OwnWalk
import Derived.Lib.Hide
set_option linter.unusedSimpArgs false
set_option linter.unusedVariables false
namespace Go.Proofs.YtchohheleofncaaGreat
open Go.RowKit Go.Sep
attribute [local irreducible] Go.Oper.wp Go.wpList Go.Calls Go.Code.wp Go.Sep.Reg
section
attribute [local irreducible] FloatKind.decode FloatKind.encode fw
theorem toInt_num {x m : Nat} {i : Int} (nm : String) (way : Ieee.Toward) (h : FloatKind.f64.decode x = .number false m i) (w : World) :
  (Extern.MathFloor.toIntegral nm way #[.float .f64 x]).run Tryz.prog w = .ok (.float .f64 (FloatKind.f64.encode ((Ieee.Datum.number false m i).integral way))) w := by
 have e : ∀ d : Ieee.Datum, FloatKind.f64.decode x = d → (∃ m i, d = .number false m i) → Extern.MathFloor.toIntegral nm way #[.float .f64 x] = pure (.float .f64 (FloatKind.f64.encode (d.integral way))) := by
  intro d hd hn
  conv => lhs; whnf
  rw [hd]
  obtain ⟨m, i, rfl⟩ := hn
  rfl
 rw [e _ h ⟨m, i, rfl⟩]
 rfl
end
theorem trunc_any {n : Nat} (h : n ≤ 1100) (w : World) : Calls Tryz.prog 166 #[.float .f64 (fw n)] w fun e w' => e = .returned (.float .f64 (fw n)) ∧ w = w' := by
 have HT := fw_cut h
 obtain ⟨m, i, HD⟩ := fw_num h
 have HX : ∀ w : World, (callFunc 175 #[.float .f64 (fw n)]).run Tryz.prog w = .ok (.value (.float .f64 (fw n))) w := fun w => by
  rw [run_callFunc_extern (fn := Tryz.f175) (e := Extern.MathFloor.toIntegral "math.archTrunc" .zero) (by kernel_rfl) (by kernel_rfl) (by kernel_rfl) (by kernel_rfl) (by kernel_rfl)]
  rw [HD] at HT
  rw [toInt_num _ _ HD, HT]
  rfl
 clear h HD HT
 go_enter Tryz.func166, Tryz.ntmps166
 go_wp2
 go_ret
 exact ⟨rfl, rfl⟩
theorem whole_any {n : Nat} (h : n ≤ 1100) (w : World) : Calls Tryz.prog 155 #[.float .f64 (fw n)] w fun e w' => e = .returned (.bool true) ∧ w = w' := by
 have HT := Lib.hid (fun w => trunc_any h w)
 have h1 := fw_lo h
 have h2 := fw_hi h
 have h3 := fw_self h
 have HS : Hid (∀ w, Calls Tryz.prog 167 #[.float .f64 0] w fun e w' => e = .returned (.bool false) ∧ w = w') := Lib.hid fun w => by
  have HX : ∀ w : World, (callFunc 177 #[.float .f64 0]).run Tryz.prog w = .ok (.value (.int .u64 0)) w := fun w => by
   rw [run_callFunc_extern (fn := Tryz.f177) (e := Extern.MathFloatBits.float64bits) (by kernel_rfl) (by kernel_rfl) (by kernel_rfl) (by kernel_rfl) (by kernel_rfl)]
   rfl
  go_enter Tryz.func167, Tryz.ntmps167
  go_wp2
  go_ret
  exact ⟨rfl, rfl⟩
 have h0 : FloatKind.f64.format.order (fw n) 0 = some (compare n 0) := by have := fw_order h (Nat.zero_le 1100); rwa [fw_zero] at this
 by_cases hz : n = 0
 ·subst hz
  rw [fw_zero] at *
  go_enter Tryz.func155, Tryz.ntmps155
  go_wp2_with (first
   | (go_at_call 166; refine (HT.out _).mono ?_; rintro e w1 ⟨rfl, rfl⟩)
   | (go_at_call 167; refine (HS.out _).mono ?_; rintro e w1 ⟨rfl, rfl⟩))
  go_ret
  exact ⟨rfl, rfl⟩
 ·rw [Nat.compare_eq_gt.2 (by omega)] at h0
  generalize fw n = f at *
  clear h hz
  go_enter Tryz.func155, Tryz.ntmps155
  go_wp2_with (first
   | (go_at_call 166; refine (HT.out _).mono ?_; rintro e w1 ⟨rfl, rfl⟩)
   | (go_at_call 167; refine (HS.out _).mono ?_; rintro e w1 ⟨rfl, rfl⟩))
  go_ret
  exact ⟨rfl, rfl⟩
def spv (x : Nat × Nat) : Value := .complex .f64 (fw x.1) (fw x.2)
theorem gsis_any {a n : Nat} (ha : a ≤ 1100) (hn : n ≤ 1100) (w : World) : Calls Tryz.prog 141 #[spv (a, n)] w fun e w' => e = .returned (.bool true) ∧ w = w' := by
 have H1 := Lib.hid (fun w => whole_any ha w)
 have H2 := Lib.hid (fun w => whole_any hn w)
 show Calls Tryz.prog 141 #[.complex .f64 (fw a) (fw n)] w _
 generalize fw a = f at *
 generalize fw n = g at *
 clear ha hn
 go_enter Tryz.func141, Tryz.ntmps141
 go_wp2_with (first
  | (go_at_call 155; with_reducible refine (H1.out _).mono ?_; rintro e w1 ⟨rfl, rfl⟩)
  | (go_at_call 155; with_reducible refine (H2.out _).mono ?_; rintro e w1 ⟨rfl, rfl⟩))
 go_ret
 exact ⟨rfl, rfl⟩
theorem may_any {a n : Nat} (h : a + n ≤ 1100) (w : World) : Calls Tryz.prog 120 #[spv (a, n)] w fun e w' => e = .returned (.bool (decide (1 ≤ n))) ∧ w = w' := by
 have HI := Lib.hid (fun w => gsis_any (a := a) (n := n) (by omega) (by omega) w)
 have h1 := fw_ge (n := a) (m := 0) (by omega) (by omega) (Nat.zero_le _)
 have h2 : ∀ w, (binOp .add 196 (.float .f64 (fw a)) (.float .f64 (fw n))).run Tryz.prog w = .ok (.float .f64 (fw (a + n))) w := fun w => run_float_arith w .add _ _ _ _ _ (fw_add h)
 have h3 := fw_hi h
 rw [fw_zero] at h1
 unfold spv at HI
 show Calls Tryz.prog 120 #[.complex .f64 (fw a) (fw n)] w _
 by_cases hn : 1 ≤ n
 ·have h4 := fw_ge (n := n) (m := 1) (by omega) (by omega) hn
  rw [fw_one] at h4
  rw [decide_eq_true hn]
  generalize fw a = f at *
  generalize fw n = g at *
  generalize fw (a + n) = k at *
  clear h hn
  go_enter Tryz.func120, Tryz.ntmps120
  go_wp2_with (go_at_call 141; refine (HI.out _).mono ?_; rintro e w1 ⟨rfl, rfl⟩)
  go_ret
  exact ⟨rfl, rfl⟩
 ·have h4 := fw_nge (n := n) (m := 1) (by omega) (by omega) (by omega)
  rw [fw_one] at h4
  rw [decide_eq_false hn]
  generalize fw a = f at *
  generalize fw n = g at *
  generalize fw (a + n) = k at *
  clear h hn
  go_enter Tryz.func120, Tryz.ntmps120
  go_wp2_with (go_at_call 141; refine (HI.out _).mono ?_; rintro e w1 ⟨rfl, rfl⟩)
  go_ret
  exact ⟨rfl, rfl⟩
theorem gmake_any {a n : Nat} (ha : a ≤ 1100) (hn : n ≤ 1100) (w : World) : Calls Tryz.prog 140 #[.int .i64 (a : Int), .int .i64 (n : Int)] w fun e w' => e = .returned (.tuple #[spv (a, n), .bool true]) ∧ w = w' := by
 have i1 : (a : Int) ≤ 1100 := by omega
 have i2 : (n : Int) ≤ 1100 := by omega
 have j1 : decide ((a : Int) < -33554432) = false := decide_eq_false (by omega)
 have j2 : decide ((33554432 : Int) < a) = false := decide_eq_false (by omega)
 have j3 : decide ((n : Int) < -33554432) = false := decide_eq_false (by omega)
 have j4 : decide ((33554432 : Int) < n) = false := decide_eq_false (by omega)
 have H1 : ∀ w, (convert 3 196 (.int .i64 (a : Int))).run Tryz.prog w = .ok (.float .f64 (fw a)) w := fun w => by simp [convert, run_underlying Tryz.underlying3, run_underlying Tryz.underlying196, Conv.intToFloat]; rfl
 have H2 : ∀ w, (convert 3 196 (.int .i64 (n : Int))).run Tryz.prog w = .ok (.float .f64 (fw n)) w := fun w => by simp [convert, run_underlying Tryz.underlying3, run_underlying Tryz.underlying196, Conv.intToFloat]; rfl
 unfold spv
 clear ha hn
 go_enter Tryz.func140, Tryz.ntmps140
 go_wp2
 go_ret2
 exact ⟨rfl, rfl⟩
def mkv (x : Nat × Nat) : Value := if 1 ≤ x.2 then spv x else .complex .f64 0 0
theorem smake_any {a n : Nat} (h : a + n ≤ 1100) (w : World) : Calls Tryz.prog 119 #[.int .i64 (a : Int), .int .i64 (n : Int)] w fun e w' => e = .returned (.tuple #[mkv (a, n), .bool (decide (1 ≤ n))]) ∧ w = w' := by
 have HG := Lib.hid (fun w => gmake_any (a := a) (n := n) (by omega) (by omega) w)
 have HM := Lib.hid (fun w => may_any h w)
 unfold mkv
 unfold spv at *
 by_cases hn : 1 ≤ n
 ·rw [decide_eq_true hn] at HM ⊢
  rw [if_pos (by exact hn)]
  generalize fw a = f at *
  generalize fw n = g at *
  clear h hn
  go_enter Tryz.func119, Tryz.ntmps119
  go_wp2_with (first
   | (go_at_call 140; refine (HG.out _).mono ?_; rintro e w1 ⟨rfl, rfl⟩)
   | (go_at_call 120; refine (HM.out _).mono ?_; rintro e w1 ⟨rfl, rfl⟩))
  go_ret2
  exact ⟨rfl, rfl⟩
 ·rw [decide_eq_false hn] at HM ⊢
  rw [if_neg (by exact hn)]
  generalize fw a = f at *
  generalize fw n = g at *
  clear h hn
  go_enter Tryz.func119, Tryz.ntmps119
  go_wp2_with (first
   | (go_at_call 140; refine (HG.out _).mono ?_; rintro e w1 ⟨rfl, rfl⟩)
   | (go_at_call 120; refine (HM.out _).mono ?_; rintro e w1 ⟨rfl, rfl⟩))
  go_ret2
  exact ⟨rfl, rfl⟩
theorem ends_any {a n : Nat} (h : a + n ≤ 1100) (hn : 1 ≤ n) (w : World) : Calls Tryz.prog 81 #[spv (a, n)] w fun e w' => e = .returned (.tuple #[.int .i64 (a : Int), .int .i64 ((a + n : Nat) : Int)]) ∧ w = w' := by
 have HM := Lib.hid (fun w => may_any h w)
 rw [decide_eq_true hn] at HM
 have h2 : ∀ w, (binOp .add 196 (.float .f64 (fw a)) (.float .f64 (fw n))).run Tryz.prog w = .ok (.float .f64 (fw (a + n))) w := fun w => run_float_arith w .add _ _ _ _ _ (fw_add h)
 have h3 : ∀ w, (convert 196 3 (.float .f64 (fw a))).run Tryz.prog w = .ok (.int .i64 (a : Int)) w := fun w => run_convert_float_int w _ _ _ _ _ _ (by rw [Tryz.underlying196]; rfl) Tryz.underlying3 (fw_int (by omega))
 have h4 : ∀ w, (convert 196 3 (.float .f64 (fw (a + n)))).run Tryz.prog w = .ok (.int .i64 ((a + n : Nat) : Int)) w := fun w => run_convert_float_int w _ _ _ _ _ _ (by rw [Tryz.underlying196]; rfl) Tryz.underlying3 (fw_int (by omega))
 obtain ⟨z, hz⟩ : ∃ z : Int, ((a + n : Nat) : Int) = z := ⟨_, rfl⟩
 rw [hz] at h4 ⊢
 obtain ⟨y, hy⟩ : ∃ y : Int, (a : Int) = y := ⟨_, rfl⟩
 rw [hy] at h3 ⊢
 unfold spv at *
 generalize fw (a + n) = k at *
 generalize fw a = f at *
 generalize fw n = g at *
 clear h hn hz hy
 go_enter Tryz.func81, Tryz.ntmps81
 go_wp2_with (go_at_call 120; refine (HM.out _).mono ?_; rintro e w1 ⟨rfl, rfl⟩)
 go_ret2
 exact ⟨rfl, rfl⟩
theorem between_any {a b : Nat} (h : b ≤ 1100) (hab : a ≤ b) (w : World) : Calls Tryz.prog 118 #[.int .i64 (a : Int), .int .i64 (b : Int)] w fun e w' => e = .returned (mkv (a, b - a)) ∧ w = w' := by
 have HM := Lib.hid (fun w => smake_any (a := a) (n := b - a) (by omega) w)
 have i1 : (a : Int) ≤ 1100 := by omega
 have i2 : (b : Int) ≤ 1100 := by omega
 have i3 : (b : Int) - (a : Int) = ((b - a : Nat) : Int) := by omega
 obtain ⟨k, hk⟩ : ∃ k, b - a = k := ⟨_, rfl⟩
 rw [hk] at HM i3 ⊢
 generalize mkv (a, k) = v at *
 clear h hab hk
 go_enter Tryz.func118, Tryz.ntmps118
 go_wp2_with (go_at_call 119; refine (HM.out _).mono ?_; rintro e w1 ⟨rfl, rfl⟩)
 go_ret
 exact ⟨rfl, rfl⟩
end Go.Proofs.YtchohheleofncaaGreat
namespace Go.Proofs.YtchohheleofncaaGreat
open Go.RowKit Go.Sep
attribute [local irreducible] Go.Oper.wp Go.wpList Go.Calls Go.Code.wp Go.Sep.Reg
structure SpOk (l : List (Nat × Nat)) : Prop where
 pos : ∀ x ∈ l, 1 ≤ x.2 ∧ x.1 + x.2 ≤ 1100
 sep : ∀ (i : Nat) x y, l[i]? = some x → l[i + 1]? = some y → x.1 + x.2 < y.1
def spEnd (l : List (Nat × Nat)) : Nat → Int
 | 0 => -1
 | k + 1 => match l[k]? with
  | some x => ((x.1 + x.2 : Nat) : Int)
  | none => -1
theorem spEnd_succ {l : List (Nat × Nat)} {k : Nat} {x : Nat × Nat} (h : l[k]? = some x) : spEnd l (k + 1) = ((x.1 + x.2 : Nat) : Int) := by simp [spEnd, h]
theorem spEnd_lt {l : List (Nat × Nat)} (hl : SpOk l) {i : Nat} {x : Nat × Nat} (h : l[i]? = some x) : spEnd l i < (x.1 : Int) := by
 cases i with
 | zero => show (-1 : Int) < _; omega
 | succ k =>
  have hk := (List.getElem?_eq_some_iff.1 h).1
  obtain ⟨y, hy⟩ : ∃ y, l[k]? = some y := ⟨_, List.getElem?_eq_getElem (by omega)⟩
  rw [spEnd_succ hy]
  have := hl.sep k y x hy h
  omega
theorem spEnd_le {l : List (Nat × Nat)} (hl : SpOk l) (i : Nat) : -1 ≤ spEnd l i ∧ spEnd l i ≤ 1100 := by
 cases i with
 | zero => exact ⟨Int.le_refl (-1), show (-1 : Int) ≤ 1100 by decide⟩
 | succ k =>
  cases h : l[k]? with
  | none =>
   have e : spEnd l (k + 1) = -1 := by simp [spEnd, h]
   rw [e]; exact ⟨by decide, by decide⟩
  | some x =>
   have := hl.pos x (List.mem_of_getElem? h)
   rw [spEnd_succ h]
   constructor <;> omega
def spSum (l : List (Nat × Nat)) : Nat := (l.map (·.2)).sum
theorem spSum_take {l : List (Nat × Nat)} {i : Nat} {x : Nat × Nat} (h : l[i]? = some x) : spSum (l.take (i + 1)) = spSum (l.take i) + x.2 := by
 unfold spSum
 rw [List.take_add_one, h, List.map_append, List.sum_append]
 simp
theorem spv_at {l : List (Nat × Nat)} {i : Nat} {x : Nat × Nat} (h : l[i]? = some x) : (l.map spv)[i]? = some (spv x) := by simp [h]
def OrdI (l : List (Nat × Nat)) (w : World) (v10 v3 : Value) (wz : World) : Prop := ∃ i : Nat, v10 = .int .i64 (i : Int) ∧ i ≤ l.length ∧ v3 = .int .i64 (spEnd l i) ∧ w = wz
set_option maxRecDepth 20000 in
set_option maxHeartbeats 2000000 in
theorem ordered_any {W w : World} {L : List Asrt} (hS : Sat W w L) (l : List (Nat × Nat)) (hl : SpOk l) (ao : Option Addr) (c : Nat) (hr : ∀ w, Sat W w L → Rd w (.slice ao l.length c) l.length 1 (l.map spv)) :
  Calls Tryz.prog 117 #[.slice ao l.length c] w fun e w' => e = .returned (.bool true) ∧ w = w' := by
 have HR := Lib.hid (hr w hS)
 obtain ⟨_, _, he, hc1, hc2, _, h5⟩ := hr w hS
 simp only [Value.slice.injEq, true_and] at he
 obtain ⟨rfl, rfl⟩ := he
 have H5 := Lib.hid h5
 have HL := Lib.hid hl
 have hli : (l.length : Int) ≤ 9223372036854775807 := by omega
 clear hr h5 hl hc1
 go_enter Tryz.func117, Tryz.ntmps117
 go_wp2
 go_loopw [10, 3] (fun v10 v3 wz => OrdI l w v10 v3 wz) (fun v10 _ _ => l.length - (intOf v10).toNat)
 case atStart => exact ⟨0, rfl, Nat.zero_le _, rfl, rfl⟩
 case round =>
  obtain ⟨i, rfl, hi, rfl, rfl⟩ := hrel
  have HEB := Lib.hid (spEnd_le HL.out i)
  by_cases hlt : i < l.length
  ·have k1 : (i : Int) < (l.length : Int) := by omega
   have HLT := Lib.hid hlt
   obtain ⟨b, off, rfl, _⟩ := H5.out (by omega)
   obtain ⟨⟨a, n⟩, hx⟩ : ∃ x, l[i]? = some x := ⟨_, List.getElem?_eq_getElem hlt⟩
   have hp := HL.out.pos _ (List.mem_of_getElem? hx)
   have hlte := spEnd_lt HL.out hx
   have HX := Lib.hid (spv_at hx)
   have HN := Lib.hid (spEnd_succ hx)
   have HE := Lib.hid (fun w => ends_any (a := a) (n := n) (by exact hp.2) (by exact hp.1) w)
   dsimp only at hp hlte
   obtain ⟨z, hz⟩ : ∃ z : Int, ((a + n : Nat) : Int) = z := ⟨_, rfl⟩
   have e1 : (z == 0) = false := beq_eq_false_iff_ne.2 (by omega)
   have e2 : decide ((a : Int) ≤ spEnd l i) = false := decide_eq_false (by omega)
   dsimp only at HN
   rw [hz] at HE HN
   obtain ⟨q, hq⟩ : ∃ q : Int, spEnd l i = q := ⟨_, rfl⟩
   rw [hq] at e2 ⊢
   obtain ⟨u, hu⟩ : ∃ u, spv (a, n) = u := ⟨_, rfl⟩
   have hu1 : ∃ x y, u = .complex .f64 x y := ⟨_, _, hu.symm⟩
   rw [hu] at HX HE
   obtain ⟨ux, uy, rfl⟩ := hu1
   clear hx hp hlte hlt hi hu hz hq HEB
   go_wp2_with (first
    | (refine toList (by rfl) ?_; refine wp_of_reads (rLdRd1 HR.out _ _ (by rfl) _ (by rfl) (agOf (by rfl)) i (by omega) HX.out (by have := HLT.out; omega)) ?_)
    | (go_at_call 81; refine (HE.out _).mono ?_; rintro e w1 ⟨rfl, rfl⟩))
   exact ⟨⟨i + 1, by go_num, HLT.out, by rw [HN.out], rfl⟩, by simp [intOf]; have := HLT.out; omega⟩
  ·obtain rfl : i = l.length := by omega
   have k1 : ¬ (l.length : Int) < (l.length : Int) := by omega
   clear hi hlt HEB
   go_wp2
   go_ret
   exact ⟨rfl, rfl⟩
def SumI (l : List (Nat × Nat)) (w : World) (v11 v3 : Value) (wz : World) : Prop := ∃ i : Nat, v11 = .int .i64 (i : Int) ∧ i ≤ l.length ∧ v3 = .int .i64 ((spSum (l.take i) : Nat) : Int) ∧ w = wz
theorem spSum_le (l : List (Nat × Nat)) (i : Nat) : spSum (l.take i) ≤ spSum l := by
 conv => rhs; rw [← List.take_append_drop i l]
 unfold spSum
 rw [List.map_append, List.sum_append]
 omega
set_option maxRecDepth 20000 in
set_option maxHeartbeats 2000000 in
theorem sum_any {W w : World} {L : List Asrt} (hS : Sat W w L) (l : List (Nat × Nat)) (hl : SpOk l) (hs : spSum l ≤ 1100) (ao : Option Addr) (c : Nat) (hr : ∀ w, Sat W w L → Rd w (.slice ao l.length c) l.length 1 (l.map spv)) :
  Calls Tryz.prog 88 #[.slice ao l.length c] w fun e w' => e = .returned (.int .i64 ((spSum l : Nat) : Int)) ∧ w = w' := by
 have HO := Lib.hid (ordered_any hS l hl ao c hr)
 have HR := Lib.hid (hr w hS)
 obtain ⟨_, _, he, hc1, hc2, _, h5⟩ := hr w hS
 simp only [Value.slice.injEq, true_and] at he
 obtain ⟨rfl, rfl⟩ := he
 have H5 := Lib.hid h5
 have HL := Lib.hid hl
 have HSL := Lib.hid (fun i => Nat.le_trans (spSum_le l i) hs)
 have hli : (l.length : Int) ≤ 9223372036854775807 := by omega
 have HALL := Lib.hid (show ∀ i, i = l.length → spSum (l.take i) = spSum l from fun i h => by rw [h, List.take_length])
 clear hr h5 hl hc1 hs
 go_enter Tryz.func88, Tryz.ntmps88
 go_wp2_with (go_at_call 117; refine HO.out.mono ?_; rintro e w1 ⟨rfl, rfl⟩)
 go_loopw [11, 3] (fun v11 v3 wz => SumI l w v11 v3 wz) (fun v11 _ _ => l.length - (intOf v11).toNat)
 case atStart => exact ⟨0, rfl, Nat.zero_le _, rfl, rfl⟩
 case round =>
  obtain ⟨i, rfl, hi, rfl, rfl⟩ := hrel
  have hsi : ((spSum (l.take i) : Nat) : Int) ≤ 1100 := by have := HSL.out i; omega
  by_cases hlt : i < l.length
  ·have k1 : (i : Int) < (l.length : Int) := by omega
   have HLT := Lib.hid hlt
   obtain ⟨b, off, rfl, _⟩ := H5.out (by omega)
   obtain ⟨⟨a, n⟩, hx⟩ : ∃ x, l[i]? = some x := ⟨_, List.getElem?_eq_getElem hlt⟩
   have hp := HL.out.pos _ (List.mem_of_getElem? hx)
   have HX := Lib.hid (spv_at hx)
   have HN := Lib.hid (spSum_take hx)
   have h3 : ∀ w, (convert 196 3 (.float .f64 (fw n))).run Tryz.prog w = .ok (.int .i64 (n : Int)) w := fun w => run_convert_float_int w _ _ _ _ _ _ (by rw [Tryz.underlying196]; rfl) Tryz.underlying3 (fw_int (by dsimp only at hp; omega))
   have hni : (n : Int) ≤ 1100 := by dsimp only at hp; omega
   dsimp only at HN
   obtain ⟨q, hq⟩ : ∃ q : Nat, spSum (l.take i) = q := ⟨_, rfl⟩
   rw [hq] at HN hsi ⊢
   unfold spv at HX
   dsimp only at HX
   generalize fw a = f at *
   generalize fw n = g at *
   clear hx hp hlt hi hq
   go_wp2_with (first
    | (refine toList (by rfl) ?_; refine wp_of_reads (rLdRd1 HR.out _ _ (by rfl) _ (by rfl) (agOf (by rfl)) i (by omega) HX.out (by have := HLT.out; omega)) ?_))
   exact ⟨⟨i + 1, by go_num, HLT.out, by rw [HN.out]; go_num, rfl⟩, by simp [intOf]; have := HLT.out; omega⟩
  ·obtain rfl : i = l.length := by omega
   have k1 : ¬ (l.length : Int) < (l.length : Int) := by omega
   rw [HALL.out _ rfl]
   clear hi hlt hsi
   go_wp2
   go_ret
   exact ⟨rfl, rfl⟩
end Go.Proofs.YtchohheleofncaaGreat
namespace Go.Proofs.YtchohheleofncaaGreat
open Go.RowKit Go.Sep
attribute [local irreducible] Go.Oper.wp Go.wpList Go.Calls Go.Code.wp Go.Sep.Reg
theorem bnone_any (w : World) (ao : Option Addr) (c : Nat) (n : Int) {r : Bool} (h : (decide (n < 0) || decide (1024 ≤ n)) = r) :
  Calls Tryz.prog 98 #[.slice ao 128 c, .int .i64 n] w fun e w' => e = .returned (.bool r) ∧ w = w' := by
 subst h
 go_enter Tryz.func98, Tryz.ntmps98
 by_cases h1 : n < 0
 ·have k1 : decide (n < 0) = true := decide_eq_true h1
  go_wp2
  go_ret
  exact ⟨by simp [k1], rfl⟩
 ·have k1 : decide (n < 0) = false := decide_eq_false h1
  go_wp2
  go_ret
  exact ⟨by simp [k1], rfl⟩
theorem bv_at' {l : List UInt8} {i : Nat} {x : UInt8} (h : l[i]? = some x) : (bv l)[i]? = some (.int .u8 (x.toNat : Int)) := by simp [bv, u8, h]
set_option maxRecDepth 20000 in
theorem and1_all : ∀ x : Fin 256, bits .and .u8 ((x.val : Nat) : Int) 1 = ((x.val % 2 : Nat) : Int) := by decide +kernel
theorem byte_div (f : Nat → Bool) (j : Nat) : ((byteN f : Nat) : Int) % 256 / 2 ^ j = ((byteN f / 2 ^ j : Nat) : Int) := by
 have h := byteN_lt f
 rw [show ((byteN f : Nat) : Int) % 256 = ((byteN f : Nat) : Int) by omega, Int.natCast_ediv, Int.natCast_pow]
 rfl
theorem bit_val (f : Nat → Bool) {j : Nat} (h : j < 8) : (bits .and .u8 (((byteN f : Nat) : Int) % 256 / 2 ^ j) 1 == 1) = f j := by
 have hl : byteN f / 2 ^ j < 256 := Nat.lt_of_le_of_lt (Nat.div_le_self _ _) (byteN_lt f)
 rw [byte_div, and1_all ⟨byteN f / 2 ^ j, hl⟩, byteN_bit f h]
 cases f j <;> rfl
set_option maxRecDepth 20000 in
theorem used_any {W w : World} {L : List Asrt} (hS : Sat W w L) (S : Nat → Bool) (b off c n : Nat) (hn : n < 1024) (hr : ∀ w, Sat W w L → Rd w (.slice (some ⟨b, off, none⟩) 128 c) 128 1 (bv (mapB S))) :
  Calls Tryz.prog 86 #[.slice (some ⟨b, off, none⟩) 128 c, .int .i64 (n : Int)] w fun e w' => e = .returned (.bool (S n)) ∧ w = w' := by
 have HN := Lib.hid (fun w => bnone_any w (some ⟨b, off, none⟩) c (n : Int) (r := false) (by rw [decide_eq_false (by omega), decide_eq_false (by omega)]; rfl))
 have HR := Lib.hid (hr w hS)
 have HX := Lib.hid (bv_at' (mapB_at S (i := n / 8) (by omega)))
 have hq : Int.tdiv (n : Int) 8 = ((n / 8 : Nat) : Int) := rfl
 have hm : Int.tmod (n : Int) 8 = ((n % 8 : Nat) : Int) := rfl
 have q1 : ((n / 8 : Nat) : Int) < 128 := by omega
 have q2 : ((n % 8 : Nat) : Int) < 8 := by omega
 clear hr
 go_enter Tryz.func86, Tryz.ntmps86
 go_wp2_with (first
  | (go_at_call 98; refine (HN.out _).mono ?_; rintro e w1 ⟨rfl, rfl⟩)
  | (refine toList (by rfl) ?_; refine wp_of_reads (rLdRd1 HR.out _ _ (by rfl) _ (by rfl) (agOf (by rfl)) (n / 8) (by omega) HX.out (by omega)) ?_))
 go_ret
 refine ⟨?_, rfl⟩
 have e := bit_val (fun j => S (8 * (n / 8) + j)) (j := n % 8) (by omega)
 rw [show 8 * (n / 8) + n % 8 = n by omega] at e
 show Ending.returned (.bool _) = Ending.returned (.bool (S n))
 rw [← e]
def fn8 (b0 b1 b2 b3 b4 b5 b6 b7 : Bool) : Nat → Bool
 | 0 => b0 | 1 => b1 | 2 => b2 | 3 => b3 | 4 => b4 | 5 => b5 | 6 => b6 | _ => b7
set_option maxRecDepth 100000 in
theorem andnot_all : ∀ b0 b1 b2 b3 b4 b5 b6 b7 : Bool, ∀ j : Fin 8, bits .andNot .u8 ((byteN (fn8 b0 b1 b2 b3 b4 b5 b6 b7) : Nat) : Int) (IntKind.u8.wrap (2 ^ j.val)) = ((byteN (upd (fn8 b0 b1 b2 b3 b4 b5 b6 b7) j.val false) : Nat) : Int) := by decide +kernel
set_option maxRecDepth 100000 in
theorem or_all : ∀ b0 b1 b2 b3 b4 b5 b6 b7 : Bool, ∀ j : Fin 8, bits .or .u8 ((byteN (fn8 b0 b1 b2 b3 b4 b5 b6 b7) : Nat) : Int) (IntKind.u8.wrap (2 ^ j.val)) = ((byteN (upd (fn8 b0 b1 b2 b3 b4 b5 b6 b7) j.val true) : Nat) : Int) := by decide +kernel
theorem fn8_eq (f : Nat → Bool) : ∀ j, j < 8 → f j = fn8 (f 0) (f 1) (f 2) (f 3) (f 4) (f 5) (f 6) (f 7) j := by
 intro j hj
 match j, hj with
 | 0, _ => rfl
 | 1, _ => rfl
 | 2, _ => rfl
 | 3, _ => rfl
 | 4, _ => rfl
 | 5, _ => rfl
 | 6, _ => rfl
 | 7, _ => rfl
theorem byte_off (f : Nat → Bool) {j : Nat} (h : j < 8) : bits .andNot .u8 ((byteN f : Nat) : Int) (IntKind.u8.wrap (2 ^ j)) = ((byteN (upd f j false) : Nat) : Int) := by
 have h1 := andnot_all (f 0) (f 1) (f 2) (f 3) (f 4) (f 5) (f 6) (f 7) ⟨j, h⟩
 rw [byteN_congr (fn8_eq f), h1]
 congr 1
theorem byte_on (f : Nat → Bool) {j : Nat} (h : j < 8) : bits .or .u8 ((byteN f : Nat) : Int) (IntKind.u8.wrap (2 ^ j)) = ((byteN (upd f j true) : Nat) : Int) := by
 have h1 := or_all (f 0) (f 1) (f 2) (f 3) (f 4) (f 5) (f 6) (f 7) ⟨j, h⟩
 rw [byteN_congr (fn8_eq f), h1]
 congr 1
theorem upd_upd (S : Nat → Bool) (n : Nat) (u v : Bool) : upd (upd S n u) n v = upd S n v := by
 funext k
 unfold upd
 by_cases e : k = n
 ·rw [if_pos e, if_pos e]
 ·rw [if_neg e, if_neg e, if_neg e]
theorem u8_byte (f : Nat → Bool) : ((UInt8.ofNat (byteN f)).toNat : Int) = ((byteN f : Nat) : Int) := by
 rw [UInt8.toNat_ofNat_of_lt' (by have := byteN_lt f; exact this)]
theorem map_set (S : Nat → Bool) {n : Nat} (u : Bool) (hn : n < 1024) {z : Int} (hz : z = ((byteN (upd (fun j => S (8 * (n / 8) + j)) (n % 8) u) : Nat) : Int)) : (bv (mapB S)).set (n / 8) (.int .u8 z) = bv (mapB (upd S n u)) := by
 subst hz
 rw [mapB_upd S u hn]
 unfold bv
 rw [List.map_set]
 congr 1
 show _ = u8 _
 unfold u8
 rw [u8_byte]
def IsMap (v : Value) (S : Nat → Bool) : Asrt := Sl 5 1 v 128 (bv (mapB S))
set_option maxRecDepth 20000 in
set_option maxHeartbeats 2000000 in
theorem bset_any {W w : World} {L : List Asrt} {v : Value} {S : Nat → Bool} (hS : Sat W w (IsMap v S :: L)) (n : Nat) (hn : n < 1024) (u : Bool) :
  Calls Tryz.prog 56 #[v, .int .i64 (n : Int), .bool u] w fun e w' => e = .returned (.bool true) ∧ Sat W w' (IsMap v (upd S n u) :: L) := by
 unfold IsMap at *
 obtain ⟨b, off, c, rfl, _⟩ := hS.slAddr (k := 0) rfl (by decide)
 have HN := Lib.hid (fun w => bnone_any w (some ⟨b, off, none⟩) c (n : Int) (r := false) (by rw [decide_eq_false (by omega), decide_eq_false (by omega)]; rfl))
 have HX := Lib.hid (bv_at' (mapB_at S (i := n / 8) (by omega)))
 have HX2 := Lib.hid (bv_at' (mapB_at (upd S n false) (i := n / 8) (by omega)))
 have q1 : ((n / 8 : Nat) : Int) < 128 := by omega
 have q2 : ((n % 8 : Nat) : Int) < 8 := by omega
 have hm : Int.tmod (n : Int) 8 = (n : Int) % 8 := rfl
 rw [u8_byte] at HX HX2
 have hj : (((n : Int) % 8).toNat) = n % 8 := by omega
 have HM1 := Lib.hid (show (bv (mapB S)).set (n / 8) (.int .u8 (bits .andNot .u8 ((byteN fun j => S (8 * (n / 8) + j) : Nat) : Int) (IntKind.u8.wrap (2 ^ ((n : Int) % 8).toNat)))) = bv (mapB (upd S n false)) from map_set S false hn (by rw [hj]; exact byte_off _ (by omega)))
 have HM2 := Lib.hid (show (bv (mapB (upd S n false))).set (n / 8) (.int .u8 (bits .or .u8 ((byteN fun j => upd S n false (8 * (n / 8) + j) : Nat) : Int) (IntKind.u8.wrap (2 ^ ((n : Int) % 8).toNat)))) = bv (mapB (upd S n true)) from by
  have := map_set (upd S n false) true hn (z := bits .or .u8 ((byteN fun j => upd S n false (8 * (n / 8) + j) : Nat) : Int) (IntKind.u8.wrap (2 ^ ((n : Int) % 8).toNat))) (by rw [hj]; exact byte_on _ (by omega))
  rwa [upd_upd] at this)
 clear hj
 go_enter Tryz.func56, Tryz.ntmps56
 go_wp2_with (go_at_call 98; refine (HN.out _).mono ?_; rintro e w1 ⟨rfl, rfl⟩)
 refine regStart [10] hS (by kernel_rfl) rfl ?_
 intro w1 hS1
 clear hS; have hS := hS1; clear hS1
 (refine rgP 0 hS (fun _ h => h) ?_; go_frame)
 (refine rgP 1 hS (fun _ h => h) ?_; go_frame)
 (refine rgP 2 hS (fun _ h => h) ?_; go_frame; try simp (disch := omega) only [IntWalk.i64_in])
 (refine regP 3 hS (fun _ h => h) rfl (by kernel_rfl) (by kernel_rfl) (by kernel_rfl) (fun _ _ _ _ h => h) (by rfl) (by rfl) ?_; apply Exists.intro; apply And.intro; (intro w; first | go_simp; rw [if_pos (by omega)] | (go_simp; try with_reducible rfl)); go_frame)
 (refine rgR 4 hS (fun _ h => h) ?_; (refine ⟨_, yLdSl _ _ (by rfl) _ _ (by rfl) (agOf (by rfl)) Has.z (n / 8) (by omega) HX.out, ?_⟩); go_frame)
 (refine rgP 5 hS (fun _ h => h) ?_; go_frame)
 (refine rgP 6 hS (fun _ h => h) ?_; go_frame; try simp (disch := omega) only [IntWalk.i64_in])
 (refine rgP 7 hS (fun _ h => h) ?_; go_frame)
 (refine rgP 8 hS (fun _ h => h) ?_; go_frame)
 (refine regP 9 hS (fun _ h => h) rfl (by kernel_rfl) (by kernel_rfl) (by kernel_rfl) (fun _ _ _ _ h => h) (by rfl) (by rfl) ?_; apply Exists.intro; apply And.intro; (intro w; first | go_simp; rw [if_pos (by omega)] | (go_simp; try with_reducible rfl)); go_frame)
 (refine rgA 10 true fun K hK => ?_; (refine stSl hS _ _ _ (by rfl) _ _ (by rfl) _ (by first | exact evC | exact evT (by rfl)) (by rfl) (szOf (by rfl)) Has.z (n / 8) (by omega) (by simp [bv, mapB_len]; omega) ?_; clear hS; intro w1 hS; dsimp only [List.set_cons_zero] at hS); refine hK _ _ _ hS (by first | (intro h; cases h; done) | exact fun _ _ h => h | exact fun _ _ h => h.drop | exact fun _ _ h => h.drop.drop | exact fun _ _ h => h.drop.pull1 | exact fun _ _ h => h.take2 | exact fun _ _ h => h.one Has.z | exact fun _ _ h => h.one (Has.s Has.z) | exact fun _ _ h => h.one (Has.s (Has.s Has.z))) ?_; clear hK K; go_frame)
 refine regDone (by kernel_rfl) ?_
 rw [HM1.out] at hS
 replace HX := HX2
 clear HM1 HX2
 cases u with
 | false =>
  go_wp2
  go_ret
  exact ⟨rfl, hS⟩
 | true =>
  go_wp2
  refine regStart [10] hS (by kernel_rfl) rfl ?_
  intro w1 hS1
  clear hS; have hS := hS1; clear hS1
  (refine rgP 0 hS (fun _ h => h) ?_; go_frame)
  (refine rgP 1 hS (fun _ h => h) ?_; go_frame)
  (refine rgP 2 hS (fun _ h => h) ?_; go_frame; try simp (disch := omega) only [IntWalk.i64_in])
  (refine regP 3 hS (fun _ h => h) rfl (by kernel_rfl) (by kernel_rfl) (by kernel_rfl) (fun _ _ _ _ h => h) (by rfl) (by rfl) ?_; apply Exists.intro; apply And.intro; (intro w; first | go_simp; rw [if_pos (by omega)] | (go_simp; try with_reducible rfl)); go_frame)
  (refine rgR 4 hS (fun _ h => h) ?_; (refine ⟨_, yLdSl _ _ (by rfl) _ _ (by rfl) (agOf (by rfl)) Has.z (n / 8) (by omega) HX.out, ?_⟩); go_frame)
  (refine rgP 5 hS (fun _ h => h) ?_; go_frame)
  (refine rgP 6 hS (fun _ h => h) ?_; go_frame; try simp (disch := omega) only [IntWalk.i64_in])
  (refine rgP 7 hS (fun _ h => h) ?_; go_frame)
  (refine rgP 8 hS (fun _ h => h) ?_; go_frame)
  (refine regP 9 hS (fun _ h => h) rfl (by kernel_rfl) (by kernel_rfl) (by kernel_rfl) (fun _ _ _ _ h => h) (by rfl) (by rfl) ?_; apply Exists.intro; apply And.intro; (intro w; first | go_simp; rw [if_pos (by omega)] | (go_simp; try with_reducible rfl)); go_frame)
  (refine rgA 10 true fun K hK => ?_; (refine stSl hS _ _ _ (by rfl) _ _ (by rfl) _ (by first | exact evC | exact evT (by rfl)) (by rfl) (szOf (by rfl)) Has.z (n / 8) (by omega) (by simp [bv, mapB_len]; omega) ?_; clear hS; intro w1 hS; dsimp only [List.set_cons_zero] at hS); refine hK _ _ _ hS (by first | (intro h; cases h; done) | exact fun _ _ h => h | exact fun _ _ h => h.drop | exact fun _ _ h => h.drop.drop | exact fun _ _ h => h.drop.pull1 | exact fun _ _ h => h.take2 | exact fun _ _ h => h.one Has.z | exact fun _ _ h => h.one (Has.s Has.z) | exact fun _ _ h => h.one (Has.s (Has.s Has.z))) ?_; clear hK K; go_frame)
  refine regDone (by kernel_rfl) ?_
  rw [HM2.out] at hS
  go_wp2
  go_ret
  exact ⟨rfl, hS⟩
end Go.Proofs.YtchohheleofncaaGreat
namespace Go.Proofs.YtchohheleofncaaGreat
open Go.Sep
def flat (l : List (Nat × Nat)) : List Nat := l.flatMap fun x => List.range' x.1 x.2
theorem flat_append (l m : List (Nat × Nat)) : flat (l ++ m) = flat l ++ flat m := by simp [flat]
theorem flat_one (a n : Nat) : flat [(a, n)] = List.range' a n := by simp [flat]
theorem flat_len (l : List (Nat × Nat)) : (flat l).length = spSum l := by
 unfold flat spSum
 induction l with
 | nil => rfl
 | cons x l ih => rw [List.flatMap_cons, List.length_append, ih, List.length_range', List.map_cons, List.sum_cons]
def spStep (S : Nat → Bool) (b : Nat) (p : List (Nat × Nat) × Nat) (n : Nat) : List (Nat × Nat) × Nat :=
 if n < b ∧ S n = false then p else (if p.2 < n then p.1 ++ [(p.2, n - p.2)] else p.1, n + 1)
def spN (S : Nat → Bool) (b k : Nat) : List (Nat × Nat) × Nat := (List.range k).foldl (spStep S b) ([], 0)
theorem spN_succ (S : Nat → Bool) (b k : Nat) : spN S b (k + 1) = spStep S b (spN S b k) k := by
 unfold spN
 rw [List.range_succ, List.foldl_append]
 rfl
def spansOf (S : Nat → Bool) (b : Nat) : List (Nat × Nat) := (spN S b (b + 1)).1
structure SpInv (S : Nat → Bool) (b k : Nat) (l : List (Nat × Nat)) (from_ : Nat) : Prop where
 le : from_ ≤ k
 ok : SpOk l
 last : ∀ x ∈ l, x.1 + x.2 < from_
 free : flat l ++ List.range' from_ (k - from_) = freeL S k
theorem range'_snoc (a n : Nat) : List.range' a (n + 1) = List.range' a n ++ [a + n] := by
 rw [List.range'_concat]; simp
theorem SpOk.nil : SpOk [] := ⟨(fun _ h => nomatch h), (fun i x y h => by rw [List.getElem?_nil] at h; cases h)⟩
theorem SpOk.snoc {l : List (Nat × Nat)} {a n : Nat} (h : SpOk l) (h1 : 1 ≤ n) (h2 : a + n ≤ 1100) (h3 : ∀ x ∈ l, x.1 + x.2 < a) : SpOk (l ++ [(a, n)]) where
 pos x hx := by
  rcases List.mem_append.1 hx with hx | hx
  ·exact h.pos x hx
  ·rw [List.mem_singleton.1 hx]; exact ⟨h1, h2⟩
 sep i x y hx hy := by
  rw [List.getElem?_append] at hx hy
  split at hy
  ·rename_i h4
   rw [if_pos (by omega)] at hx
   exact h.sep i x y hx hy
  ·rename_i h4
   have h5 : i + 1 - l.length = 0 := by
    rcases Nat.eq_zero_or_pos (i + 1 - l.length) with h6 | h6
    ·exact h6
    ·rw [List.getElem?_eq_none (by simp; omega)] at hy; cases hy
   rw [h5] at hy
   simp at hy
   subst hy
   rw [if_pos (by omega)] at hx
   exact h3 x (List.mem_of_getElem? hx)
theorem spInv (S : Nat → Bool) (b : Nat) (hb : b ≤ 1024) : ∀ k, k ≤ b → SpInv S b k (spN S b k).1 (spN S b k).2
 | 0, _ => ⟨Nat.le_refl _, SpOk.nil, (fun _ h => nomatch h), rfl⟩
 | k + 1, hk => by
  have ih := spInv S b hb k (by omega)
  rw [spN_succ]
  unfold spStep
  by_cases h : k < b ∧ S k = false
  ·rw [if_pos h]
   refine ⟨by have := ih.le; omega, ih.ok, ih.last, ?_⟩
   rw [freeL_succ, ← ih.free, h.2, show k + 1 - (spN S b k).2 = (k - (spN S b k).2) + 1 by have := ih.le; omega, range'_snoc, show (spN S b k).2 + (k - (spN S b k).2) = k by have := ih.le; omega]
   simp
  ·rw [if_neg h]
   have hs : S k = true := by
    cases hq : S k with
    | true => rfl
    | false => exact absurd ⟨by omega, hq⟩ h
   by_cases h2 : (spN S b k).2 < k
   ·simp only [if_pos h2]
    refine ⟨Nat.le_refl _, ih.ok.snoc (by omega) (by omega) ih.last, fun x hx => ?_, ?_⟩
    ·rcases List.mem_append.1 hx with hx | hx
     ·have := ih.last x hx; have := ih.le; omega
     ·rw [List.mem_singleton.1 hx]; simp only; omega
    ·rw [freeL_succ, hs, ← ih.free, flat_append, flat_one, Nat.sub_self]
     simp
   ·simp only [if_neg h2]
    refine ⟨Nat.le_refl _, ih.ok, fun x hx => by have := ih.last x hx; have := ih.le; omega, ?_⟩
    rw [freeL_succ, hs, ← ih.free, Nat.sub_self, show k - (spN S b k).2 = 0 by omega]
    simp
theorem spansOf_ok (S : Nat → Bool) {b : Nat} (hb : b ≤ 1024) : SpOk (spansOf S b) ∧ flat (spansOf S b) = freeL S b := by
 have h := spInv S b hb b (Nat.le_refl _)
 unfold spansOf
 rw [spN_succ]
 unfold spStep
 rw [if_neg (by simp)]
 by_cases h2 : (spN S b b).2 < b
 ·simp only [if_pos h2]
  refine ⟨h.ok.snoc (by omega) (by omega) h.last, ?_⟩
  rw [flat_append, flat_one, h.free]
 ·simp only [if_neg h2]
  refine ⟨h.ok, ?_⟩
  rw [← h.free, show b - (spN S b b).2 = 0 by omega]
  simp
theorem freeL_len (S : Nat → Bool) (b : Nat) : (freeL S b).length ≤ b := by
 have := List.length_filter_le (fun k => !S k) (List.range b)
 rwa [List.length_range] at this
theorem spansOf_sum (S : Nat → Bool) {b : Nat} (hb : b ≤ 1024) : spSum (spansOf S b) = (freeL S b).length := by
 rw [← flat_len, (spansOf_ok S hb).2]
end Go.Proofs.YtchohheleofncaaGreat
