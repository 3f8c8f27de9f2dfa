/-
 Inodes as blocks (plain).
 The index of an array value.
 Package inode: Check.
 Package inode: Put.
-/
import Derived.Test.YtchohheleofncaaGreatMSpn
import Derived.Test.YtchohheleofncaaGreatMRpt
import Derived.Laws.PanicsMore
import Derived.Test.YtchohheleofncaaGreatMReg
import Derived.Test.YtchohheleofncaaGreatMRec
import Derived.Test.YtchohheleofncaaGreatMWir
set_option linter.unusedSimpArgs false
set_option linter.unusedVariables false
namespace Go.Proofs.YtchohheleofncaaGreat
open Go.RowKit Go.Sep
structure InoD where
 kind : Int
 size : Int
 links : Int
 obj : Int
 node : Int
 ptrs : List Int
def pv (l : List Int) : List Value := l.map (Value.int .i64)
def inv (x : InoD) : List Value := [.int .i64 x.kind, .int .i64 x.size, .int .i64 x.links, .int .i64 x.obj, .int .i64 x.node] ++ pv x.ptrs
def zeroI : InoD := ⟨0, 0, 0, 0, 0, List.replicate 32 0⟩
theorem pv_len (l : List Int) : (pv l).length = l.length := List.length_map ..
theorem inv_len (x : InoD) : (inv x).length = 5 + x.ptrs.length := by unfold inv; rw [List.length_append, pv_len]; rfl
theorem pv_one (l : List Int) : ∀ u ∈ pv l, u.oneCell' = true := by
 intro u hu
 obtain ⟨x, _, rfl⟩ := List.mem_map.1 hu
 rfl
theorem inv_one (x : InoD) : ∀ u ∈ inv x, u.oneCell' = true := by
 intro u hu
 rcases List.mem_append.1 hu with h | h
 ·simp only [List.mem_cons, List.not_mem_nil, or_false] at h
  rcases h with rfl | rfl | rfl | rfl | rfl <;> rfl
 ·exact pv_one _ u h
theorem inv_ptr {x : InoD} {k : Nat} {p : Int} (h : x.ptrs[k]? = some p) : (inv x)[5 + k]? = some (.int .i64 p) := by
 unfold inv
 rw [List.getElem?_append_right (by simp)]
 simp [pv, h]
structure OkI (x : InoD) : Prop where
 pl : x.ptrs.length = 32
 zero : x.kind = 0 → x = zeroI
 kd : 0 ≤ x.kind ∧ x.kind ≤ 2
 sz : 0 ≤ x.size ∧ x.size ≤ 4096
 lk : 0 ≤ x.links ∧ x.links ≤ 10000
 ob : 0 ≤ x.obj ∧ x.obj ≤ 16777215
 ob1 : x.kind ≠ 0 → 1 ≤ x.obj
 nd : 0 ≤ x.node ∧ x.node ≤ 16777215
 dir : x.kind = 2 → x.links = 1 ∧ x.size % 128 = 0 ∧ ∀ k : Nat, x.ptrs[k]? = some 0 → x.size ≤ (k : Int) * 128
 pt : ∀ (k : Nat) p, x.ptrs[k]? = some p → p ≠ 0 → (k : Int) * 128 < x.size ∧ 74 ≤ p ∧ p ≤ 1023
 nd' : ∀ (j k : Nat) p, j < k → x.ptrs[j]? = some p → x.ptrs[k]? = some p → p = 0
theorem okI_zero : OkI zeroI where
 pl := rfl
 zero _ := rfl
 kd := by decide
 sz := by decide
 lk := by decide
 ob := by decide
 ob1 h := absurd rfl h
 nd := by decide
 dir h := absurd h (by decide)
 pt k p h hp := by
  have := List.mem_of_getElem? h
  exact absurd (List.eq_of_mem_replicate this) hp
 nd' j k p _ h _ := List.eq_of_mem_replicate (List.mem_of_getElem? h)
def seenP (l : List Int) (k : Nat) (p : Nat) : Bool := decide (p ≠ 0) && (l.take k).contains (p : Int)
theorem seenP_zero (l : List Int) : seenP l 0 = fun _ => false := by
 funext p
 simp [seenP]
theorem seenP_skip {l : List Int} {k : Nat} (h : l[k]? = some 0) : seenP l (k + 1) = seenP l k := by
 funext p
 unfold seenP
 rw [List.take_add_one, h]
 by_cases hp : p = 0
 ·subst hp; rfl
 ·have : ¬ (p : Int) = 0 := by omega
  simp [hp]
theorem seenP_set {l : List Int} {k p : Nat} (h : l[k]? = some (p : Int)) (hp : p ≠ 0) : upd (seenP l k) p true = seenP l (k + 1) := by
 funext q
 unfold upd seenP
 rw [List.take_add_one, h]
 by_cases hq : q = p
 ·subst hq
  simp [hp]
 ·have : ¬ (q : Int) = (p : Int) := by omega
  simp [hq, this]
theorem seenP_new {x : InoD} (hx : OkI x) {k p : Nat} (h : x.ptrs[k]? = some (p : Int)) (hp : p ≠ 0) : seenP x.ptrs k p = false := by
 unfold seenP
 rw [Bool.and_eq_false_iff]
 right
 rw [← Bool.not_eq_true]
 intro h2
 rw [List.contains_iff_mem] at h2
 obtain ⟨j, hj⟩ := List.getElem?_of_mem h2
 have hjk : j < k := by
  have := (List.getElem?_eq_some_iff.1 hj).1
  simp at this; omega
 rw [List.getElem?_take_of_lt hjk] at hj
 have := hx.nd' j k _ hjk hj h
 omega
def mb (S : Nat → Bool) : List Value := (List.range 1024).map fun i => Value.bool (S i)
theorem mb_len (S : Nat → Bool) : (mb S).length = 1024 := by unfold mb; rw [List.length_map, List.length_range]
theorem mb_one (S : Nat → Bool) : ∀ u ∈ mb S, u.oneCell' = true := by
 intro u hu
 obtain ⟨x, _, rfl⟩ := List.mem_map.1 hu
 rfl
theorem mb_at (S : Nat → Bool) {n : Nat} (h : n < 1024) : (mb S)[n]? = some (.bool (S n)) := by
 unfold mb
 rw [List.getElem?_map, List.getElem?_range h]
 rfl
theorem mb_set (S : Nat → Bool) {n : Nat} (u : Bool) (h : n < 1024) : (mb S).set n (.bool u) = mb (upd S n u) := by
 apply List.ext_getElem?
 intro i
 rw [List.getElem?_set]
 by_cases e : n = i
 ·subst e
  rw [if_pos rfl, if_pos (by rw [mb_len]; exact h), mb_at _ h]
  simp [upd]
 ·rw [if_neg e]
  by_cases hi : i < 1024
  ·rw [mb_at _ hi, mb_at _ hi]
   simp [upd, Ne.symm e]
  ·rw [List.getElem?_eq_none (by rw [mb_len]; omega), List.getElem?_eq_none (by rw [mb_len]; omega)]
def encI (x : InoD) : List UInt8 := padTo (le x.kind 1 ++ le x.size 2 ++ le x.links 2 ++ le x.obj 3 ++ le x.node 3 ++ x.ptrs.flatMap (le · 2)) 128
end Go.Proofs.YtchohheleofncaaGreat
namespace Go.Proofs.YtchohheleofncaaGreat
open Go.RowKit Go.Sep
attribute [local irreducible] Go.Oper.wp Go.wpList Go.Calls Go.Code.wp Go.Sep.Reg
theorem idx_ptr {l : List Int} {j : Nat} {p : Int} (hj : j < 32) (h : l[j]? = some p) (w : World) : (Instr.index 31 (.agg (pv l).toArray) (.int .i64 (j : Int))).run Tryz.prog w = .ok (.int .i64 p) w := by
 have hu : Tryz.prog.underlying 31 = some (.array 32 3) := Tryz.underlying31
 have hn : (0 : Int) ≤ (j : Int) ∧ (j : Int) < ((32 : Nat) : Int) := by omega
 have hp : (pv l)[j]? = some (.int .i64 p) := by simp [pv, h]
 simp [Instr.index, run_underlying hu, asIntOf, hn, go_sem]
 rw [if_pos hj, hp]
 simp [go_sem]
end Go.Proofs.YtchohheleofncaaGreat
namespace Go.Proofs.YtchohheleofncaaGreat
open Go.RowKit Go.Sep
attribute [local irreducible] Go.Oper.wp Go.wpList Go.Calls Go.Code.wp Go.Sep.Reg
set_option maxRecDepth 4000 in
theorem iin_any (w : World) (v a b : Int) (h : a ≤ v ∧ v ≤ b) :
  Calls Tryz.prog 121 #[.int .i64 v, .int .i64 a, .int .i64 b] w fun e w' => e = .returned (.bool true) ∧ w = w' := by
 obtain ⟨h1, h2⟩ := h
 go_enter Tryz.func121, Tryz.ntmps121
 go_wp2
 go_ret
 exact ⟨rfl, rfl⟩
set_option maxRecDepth 20000 in
set_option maxHeartbeats 2000000 in
theorem icheck_zero {W w : World} {L : List Asrt} (hS : Sat W w L) : Calls Tryz.prog 82 #[.agg (inv zeroI).toArray] w fun e w' => e = .returned (.bool true) ∧ Sat W w' L := by
 have hbd : ∀ u : World, (Instr.build 33 #[]).run Tryz.prog u = .ok (.agg (inv zeroI).toArray) u := fun u => by kernel_rfl
 have heq : ∀ u : World, (binOp .eql 33 (.agg (inv zeroI).toArray) (.agg #[.int .i64 0, .int .i64 0, .int .i64 0, .int .i64 0, .int .i64 0, .int .i64 0, .int .i64 0, .int .i64 0, .int .i64 0, .int .i64 0, .int .i64 0, .int .i64 0, .int .i64 0, .int .i64 0, .int .i64 0, .int .i64 0, .int .i64 0, .int .i64 0, .int .i64 0, .int .i64 0, .int .i64 0, .int .i64 0, .int .i64 0, .int .i64 0, .int .i64 0, .int .i64 0, .int .i64 0, .int .i64 0, .int .i64 0, .int .i64 0, .int .i64 0, .int .i64 0, .int .i64 0, .int .i64 0, .int .i64 0, .int .i64 0, .int .i64 0])).run Tryz.prog u = .ok (.bool true) u := fun u => by kernel_rfl
 go_enter Tryz.func82, Tryz.ntmps82
 go_wp2_with (first
  | (refine toList (by rfl) ?_; refine bx hS _ _ (by rfl) _ (by first | exact evC | exact evT (by rfl)) ?_; clear hS; intro pb w1 hS; rw [cells_agg] at hS)
  | (refine toList (by rfl) ?_; refine ld hS _ _ (by rfl) _ _ (by rfl) (agOf (by rfl)) (by repeat first | exact Has.z | apply Has.s) (by rfl) ?_)
  | (refine toList (by rfl) ?_; refine ldA hS _ _ (by rfl) _ _ (by rfl) (agOf (by rfl)) (szOf (by rfl)) Has.z (by decide) ?_; rw [show ((inv zeroI).drop 0).take 37 = inv zeroI from rfl]))
 go_ret
 exact ⟨rfl, hS.drop⟩
def ChkI (W : World) (L : List Asrt) (x : InoD) (px pb : Nat) (v60 : Value) (wz : World) : Prop :=
 ∃ k : Nat, v60 = .int .i64 (k : Int) ∧ k ≤ 32 ∧ Sat W wz (Cs pb 161 (mb (seenP x.ptrs k)) :: Cs px 33 (inv x) :: L)
set_option maxRecDepth 20000 in
set_option maxHeartbeats 4000000 in
theorem icheck_file {W w : World} {L : List Asrt} (hS : Sat W w L) (x : InoD) (hx : OkI x) (h1 : x.kind = 1) : Calls Tryz.prog 82 #[.agg (inv x).toArray] w fun e w' => e = .returned (.bool true) ∧ Sat W w' L := by
 have HZ := Lib.hid (show zeroB Tryz.prog 161 = some (some (.agg (mb fun _ => false).toArray)) by kernel_rfl)
 have HB := Lib.hid (show ∀ u : World, (Instr.build 161 #[]).run Tryz.prog u = .ok (.agg (mb fun _ => false).toArray) u from fun u => run_build u _ _ _ (by kernel_rfl))
 have HO := Lib.hid (mb_one fun _ => false)
 have HML := Lib.hid mb_len
 have HK := Lib.hid (fun w => iin_any w x.kind 1 2 (by omega))
 have HSZ := Lib.hid (fun w => iin_any w x.size 0 4096 hx.sz)
 have HLK := Lib.hid (fun w => iin_any w x.links 0 10000 hx.lk)
 have HOB := Lib.hid (fun w => iin_any w x.obj 1 16777215 ⟨hx.ob1 (by omega), hx.ob.2⟩)
 have HND := Lib.hid (fun w => iin_any w x.node 0 16777215 hx.nd)
 obtain ⟨z, hz⟩ : ∃ z : Int, x.kind = z := ⟨_, rfl⟩
 rw [hz] at HK h1
 have HX := Lib.hid hx
 have HLE := Lib.hid (inv_len x)
 have g0 : (inv x)[0]? = some (.int .i64 1) := by rw [show (inv x)[0]? = some (.int .i64 x.kind) from rfl, hz, h1]
 have g1 : (inv x)[1]? = some (.int .i64 x.size) := rfl
 have g2 : (inv x)[2]? = some (.int .i64 x.links) := rfl
 have g3 : (inv x)[3]? = some (.int .i64 x.obj) := rfl
 have g4 : (inv x)[4]? = some (.int .i64 x.node) := rfl
 rw [h1] at HK
 have G0 := Lib.hid g0
 have G1 := Lib.hid g1
 have G2 := Lib.hid g2
 have G3 := Lib.hid g3
 have G4 := Lib.hid g4
 clear hx g0 g1 g2 g3 g4 hz h1
 obtain ⟨iv, hiv⟩ : ∃ iv, inv x = iv := ⟨_, rfl⟩
 rw [hiv] at G0 G1 G2 G3 G4 HLE ⊢
 go_enter Tryz.func82, Tryz.ntmps82
 go_wp2_with (first
  | (refine toList (by rfl) ?_; refine bx hS _ _ (by rfl) _ (by first | exact evC | exact evT (by rfl)) ?_; clear hS; intro px w1 hS; rw [cells_agg] at hS)
  | (refine toList (by rfl) ?_; refine ld hS _ _ (by rfl) _ _ (by rfl) (agOf (by rfl)) Has.z G0.out ?_)
  | (refine toList (by rfl) ?_; refine ld hS _ _ (by rfl) _ _ (by rfl) (agOf (by rfl)) Has.z G1.out ?_)
  | (refine toList (by rfl) ?_; refine ld hS _ _ (by rfl) _ _ (by rfl) (agOf (by rfl)) Has.z G2.out ?_)
  | (refine toList (by rfl) ?_; refine ld hS _ _ (by rfl) _ _ (by rfl) (agOf (by rfl)) Has.z G3.out ?_)
  | (refine toList (by rfl) ?_; refine ld hS _ _ (by rfl) _ _ (by rfl) (agOf (by rfl)) Has.z G4.out ?_)
  | (go_at_call 121; refine (HK.out _).mono ?_; rintro e w1 ⟨rfl, rfl⟩)
  | (go_at_call 121; refine (HSZ.out _).mono ?_; rintro e w1 ⟨rfl, rfl⟩)
  | (go_at_call 121; refine (HLK.out _).mono ?_; rintro e w1 ⟨rfl, rfl⟩)
  | (go_at_call 121; refine (HOB.out _).mono ?_; rintro e w1 ⟨rfl, rfl⟩)
  | (go_at_call 121; refine (HND.out _).mono ?_; rintro e w1 ⟨rfl, rfl⟩)
  | (refine toList (by rfl) ?_; refine bd _ _ (by rfl) (by simp only [List.map_toArray, List.map_cons, List.map_nil]; rfl) HB.out ?_)
  | (refine toList (by rfl) ?_; refine al hS _ (by rfl) HZ.out ?_; clear hS; intro pb w1 hS; rw [cells_agg] at hS)
  | (refine toList (by rfl) ?_; refine stA hS _ _ _ (by rfl) _ _ (by rfl) (mb fun _ => false) (by rfl) HO.out (by rw [HML.out]; exact szOf (by rfl)) Has.z (by rw [HML.out]; exact Nat.le_refl _) ?_; clear hS; intro w1 hS; rw [List.set_cons_zero, List.take_zero, List.nil_append, List.drop_eq_nil_of_le (by rw [HML.out]; exact Nat.le_refl _), List.append_nil, ← seenP_zero x.ptrs] at hS))
 have H0 := Lib.hid hS
 clear hS HZ HB HO HML HK HSZ HLK HOB HND
 go_loopw [60] (fun v60 wz => ChkI W L x px pb v60 wz) (fun v60 _ => 32 - (intOf v60).toNat)
 case atStart => exact ⟨0, rfl, by decide, by rw [hiv]; exact H0.out⟩
 case round =>
  clear H0
  obtain ⟨k, rfl, hk, hS⟩ := hrel
  rw [hiv] at hS
  by_cases hlt : k < 32
  ·have k1 : (k : Int) < 32 := by omega
   have HLT := Lib.hid hlt
   obtain ⟨p, hp⟩ : ∃ p, x.ptrs[k]? = some p := ⟨_, List.getElem?_eq_getElem (by have := HX.out.pl; omega)⟩
   have GP := Lib.hid (inv_ptr hp)
   rw [hiv] at GP
   by_cases h0 : p = 0
   ·subst h0
    have HN := Lib.hid (seenP_skip hp)
    clear hp hlt hk
    go_wp2
    refine regStart [] hS (by kernel_rfl) rfl ?_
    intro w1 hS1
    clear hS; have hS := hS1; clear hS1
    (refine rgP 0 hS (fun _ h => h) ?_; go_frame)
    (refine rgP 1 hS (fun _ h => h) ?_; go_frame)
    (refine rgP 2 hS (fun _ h => h) ?_; go_frame)
    (refine rgR 3 hS (fun _ h => h) ?_; (first | refine ⟨_, yLd _ _ (by rfl) _ _ (by rfl) (agOf (by rfl)) (Has.s Has.z) GP.out, ?_⟩ | refine ⟨_, yLd _ _ (by rfl) _ _ (by rfl) (agOf (by rfl)) (Has.s Has.z) G1.out, ?_⟩); go_frame)
    (refine rgP 4 hS (fun _ h => h) ?_; go_frame)
    (refine rgP 5 hS (fun _ h => h) ?_; go_frame; try simp (disch := omega) only [IntWalk.i64_in])
    (refine rgP 6 hS (fun _ h => h) ?_; go_frame)
    (refine rgR 7 hS (fun _ h => h) ?_; (first | refine ⟨_, yLd _ _ (by rfl) _ _ (by rfl) (agOf (by rfl)) (Has.s Has.z) GP.out, ?_⟩ | refine ⟨_, yLd _ _ (by rfl) _ _ (by rfl) (agOf (by rfl)) (Has.s Has.z) G1.out, ?_⟩); go_frame)
    (refine rgP 8 hS (fun _ h => h) ?_; go_frame)
    (refine rgP 9 hS (fun _ h => h) ?_; go_frame)
    (refine rgP 10 hS (fun _ h => h) ?_; go_frame)
    refine regDone (by kernel_rfl) ?_
    go_wp2
    rw [← HN.out] at hS
    exact ⟨⟨k + 1, by go_num, HLT.out, by rw [hiv]; exact hS⟩, by have := HLT.out; simp [intOf]; omega⟩
   ·have hpt := HX.out.pt k p hp h0
    obtain ⟨q, rfl⟩ : ∃ q : Nat, p = (q : Int) := ⟨p.toNat, by omega⟩
    have HN := Lib.hid (seenP_set hp (by omega))
    have HNW := Lib.hid (seenP_new HX.out hp (by omega))
    have HQ := Lib.hid (mb_at (seenP x.ptrs k) (show q < 1024 by omega))
    rw [HNW.out] at HQ
    have HS := Lib.hid (mb_set (seenP x.ptrs k) true (show q < 1024 by omega))
    have HI := Lib.hid (fun w => iin_any w (q : Int) 74 1023 (by omega))
    have e1 : decide (x.size ≤ (k : Int) * 128) = false := decide_eq_false (by omega)
    have e2 : ((q : Int) == 0) = false := beq_eq_false_iff_ne.2 h0
    have e3 : (q : Int) < 1024 := by omega
    have HQL := Lib.hid (show q < (mb (seenP x.ptrs k)).length by rw [mb_len]; omega)
    clear hp hlt hk hpt h0
    go_wp2
    refine regStart [] hS (by kernel_rfl) rfl ?_
    intro w1 hS1
    clear hS; have hS := hS1; clear hS1
    (refine rgP 0 hS (fun _ h => h) ?_; go_frame)
    (refine rgP 1 hS (fun _ h => h) ?_; go_frame)
    (refine rgP 2 hS (fun _ h => h) ?_; go_frame)
    (refine rgR 3 hS (fun _ h => h) ?_; (first | refine ⟨_, yLd _ _ (by rfl) _ _ (by rfl) (agOf (by rfl)) (Has.s Has.z) GP.out, ?_⟩ | refine ⟨_, yLd _ _ (by rfl) _ _ (by rfl) (agOf (by rfl)) (Has.s Has.z) G1.out, ?_⟩); go_frame)
    (refine rgP 4 hS (fun _ h => h) ?_; go_frame)
    (refine rgP 5 hS (fun _ h => h) ?_; go_frame; try simp (disch := omega) only [IntWalk.i64_in])
    (refine rgP 6 hS (fun _ h => h) ?_; go_frame)
    (refine rgR 7 hS (fun _ h => h) ?_; (first | refine ⟨_, yLd _ _ (by rfl) _ _ (by rfl) (agOf (by rfl)) (Has.s Has.z) GP.out, ?_⟩ | refine ⟨_, yLd _ _ (by rfl) _ _ (by rfl) (agOf (by rfl)) (Has.s Has.z) G1.out, ?_⟩); go_frame)
    (refine rgP 8 hS (fun _ h => h) ?_; go_frame)
    (refine rgP 9 hS (fun _ h => h) ?_; go_frame)
    (refine rgP 10 hS (fun _ h => h) ?_; go_frame)
    refine regDone (by kernel_rfl) ?_
    go_wp2_with (first
     | (go_at_call 121; refine (HI.out _).mono ?_; rintro e w1 ⟨rfl, rfl⟩)
     | (refine toList (by rfl) ?_; refine ld hS _ _ (by rfl) _ _ (by rfl) (agOf (by rfl)) Has.z HQ.out ?_)
     | (refine toList (by rfl) ?_; refine st hS _ _ _ (by rfl) _ _ (by rfl) _ (by first | exact evC | exact evT (by rfl)) (by rfl) (szOf (by rfl)) Has.z HQL.out ?_; clear hS; intro w1 hS; rw [List.set_cons_zero, HS.out, HN.out] at hS))
    exact ⟨⟨k + 1, by go_num, HLT.out, by rw [hiv]; exact hS⟩, by have := HLT.out; simp [intOf]; omega⟩
  ·obtain rfl : k = 32 := by omega
   clear hlt hk
   go_wp2
   go_ret
   exact ⟨rfl, hS.drop.drop⟩
set_option maxRecDepth 20000 in
set_option maxHeartbeats 4000000 in
theorem icheck_dir {W w : World} {L : List Asrt} (hS : Sat W w L) (x : InoD) (hx : OkI x) (h1 : x.kind = 2) : Calls Tryz.prog 82 #[.agg (inv x).toArray] w fun e w' => e = .returned (.bool true) ∧ Sat W w' L := by
 have HZ := Lib.hid (show zeroB Tryz.prog 161 = some (some (.agg (mb fun _ => false).toArray)) by kernel_rfl)
 have HB := Lib.hid (show ∀ u : World, (Instr.build 161 #[]).run Tryz.prog u = .ok (.agg (mb fun _ => false).toArray) u from fun u => run_build u _ _ _ (by kernel_rfl))
 have HO := Lib.hid (mb_one fun _ => false)
 have HML := Lib.hid mb_len
 have HK := Lib.hid (fun w => iin_any w x.kind 1 2 (by omega))
 have HSZ := Lib.hid (fun w => iin_any w x.size 0 4096 hx.sz)
 obtain ⟨hd1, hd2, hd3⟩ := hx.dir h1
 have HLK := Lib.hid (fun w => iin_any w 1 0 10000 (by omega))
 have hm : Int.tmod x.size 128 = 0 := by rw [Int.tmod_eq_emod_of_nonneg hx.sz.1]; exact hd2
 have HD3 := Lib.hid hd3
 have HOB := Lib.hid (fun w => iin_any w x.obj 1 16777215 ⟨hx.ob1 (by omega), hx.ob.2⟩)
 have HND := Lib.hid (fun w => iin_any w x.node 0 16777215 hx.nd)
 obtain ⟨z, hz⟩ : ∃ z : Int, x.kind = z := ⟨_, rfl⟩
 rw [hz] at HK h1
 have HX := Lib.hid hx
 have HLE := Lib.hid (inv_len x)
 have g0 : (inv x)[0]? = some (.int .i64 2) := by rw [show (inv x)[0]? = some (.int .i64 x.kind) from rfl, hz, h1]
 have g1 : (inv x)[1]? = some (.int .i64 x.size) := rfl
 have g2 : (inv x)[2]? = some (.int .i64 1) := by rw [show (inv x)[2]? = some (.int .i64 x.links) from rfl, hd1]
 have g3 : (inv x)[3]? = some (.int .i64 x.obj) := rfl
 have g4 : (inv x)[4]? = some (.int .i64 x.node) := rfl
 rw [h1] at HK
 have G0 := Lib.hid g0
 have G1 := Lib.hid g1
 have G2 := Lib.hid g2
 have G3 := Lib.hid g3
 have G4 := Lib.hid g4
 clear hx g0 g1 g2 g3 g4 hz h1 hd1 hd2 hd3
 obtain ⟨iv, hiv⟩ : ∃ iv, inv x = iv := ⟨_, rfl⟩
 rw [hiv] at G0 G1 G2 G3 G4 HLE ⊢
 go_enter Tryz.func82, Tryz.ntmps82
 go_wp2_with (first
  | (refine toList (by rfl) ?_; refine bx hS _ _ (by rfl) _ (by first | exact evC | exact evT (by rfl)) ?_; clear hS; intro px w1 hS; rw [cells_agg] at hS)
  | (refine toList (by rfl) ?_; refine ld hS _ _ (by rfl) _ _ (by rfl) (agOf (by rfl)) Has.z G0.out ?_)
  | (refine toList (by rfl) ?_; refine ld hS _ _ (by rfl) _ _ (by rfl) (agOf (by rfl)) Has.z G1.out ?_)
  | (refine toList (by rfl) ?_; refine ld hS _ _ (by rfl) _ _ (by rfl) (agOf (by rfl)) Has.z G2.out ?_)
  | (refine toList (by rfl) ?_; refine ld hS _ _ (by rfl) _ _ (by rfl) (agOf (by rfl)) Has.z G3.out ?_)
  | (refine toList (by rfl) ?_; refine ld hS _ _ (by rfl) _ _ (by rfl) (agOf (by rfl)) Has.z G4.out ?_)
  | (go_at_call 121; refine (HK.out _).mono ?_; rintro e w1 ⟨rfl, rfl⟩)
  | (go_at_call 121; refine (HSZ.out _).mono ?_; rintro e w1 ⟨rfl, rfl⟩)
  | (go_at_call 121; refine (HLK.out _).mono ?_; rintro e w1 ⟨rfl, rfl⟩)
  | (go_at_call 121; refine (HOB.out _).mono ?_; rintro e w1 ⟨rfl, rfl⟩)
  | (go_at_call 121; refine (HND.out _).mono ?_; rintro e w1 ⟨rfl, rfl⟩)
  | (refine toList (by rfl) ?_; refine bd _ _ (by rfl) (by simp only [List.map_toArray, List.map_cons, List.map_nil]; rfl) HB.out ?_)
  | (refine toList (by rfl) ?_; refine al hS _ (by rfl) HZ.out ?_; clear hS; intro pb w1 hS; rw [cells_agg] at hS)
  | (refine toList (by rfl) ?_; refine stA hS _ _ _ (by rfl) _ _ (by rfl) (mb fun _ => false) (by rfl) HO.out (by rw [HML.out]; exact szOf (by rfl)) Has.z (by rw [HML.out]; exact Nat.le_refl _) ?_; clear hS; intro w1 hS; rw [List.set_cons_zero, List.take_zero, List.nil_append, List.drop_eq_nil_of_le (by rw [HML.out]; exact Nat.le_refl _), List.append_nil, ← seenP_zero x.ptrs] at hS))
 have H0 := Lib.hid hS
 clear hS HZ HB HO HML HK HSZ HLK HOB HND
 go_loopw [60] (fun v60 wz => ChkI W L x px pb v60 wz) (fun v60 _ => 32 - (intOf v60).toNat)
 case atStart => exact ⟨0, rfl, by decide, by rw [hiv]; exact H0.out⟩
 case round =>
  clear H0
  obtain ⟨k, rfl, hk, hS⟩ := hrel
  rw [hiv] at hS
  by_cases hlt : k < 32
  ·have k1 : (k : Int) < 32 := by omega
   have HLT := Lib.hid hlt
   obtain ⟨p, hp⟩ : ∃ p, x.ptrs[k]? = some p := ⟨_, List.getElem?_eq_getElem (by have := HX.out.pl; omega)⟩
   have GP := Lib.hid (inv_ptr hp)
   rw [hiv] at GP
   by_cases h0 : p = 0
   ·subst h0
    have HN := Lib.hid (seenP_skip hp)
    have e1 : decide (x.size ≤ (k : Int) * 128) = true := decide_eq_true (HD3.out k hp)
    clear hp hlt hk
    go_wp2
    refine regStart [] hS (by kernel_rfl) rfl ?_
    intro w1 hS1
    clear hS; have hS := hS1; clear hS1
    (refine rgP 0 hS (fun _ h => h) ?_; go_frame)
    (refine rgP 1 hS (fun _ h => h) ?_; go_frame)
    (refine rgP 2 hS (fun _ h => h) ?_; go_frame)
    (refine rgR 3 hS (fun _ h => h) ?_; (first | refine ⟨_, yLd _ _ (by rfl) _ _ (by rfl) (agOf (by rfl)) (Has.s Has.z) GP.out, ?_⟩ | refine ⟨_, yLd _ _ (by rfl) _ _ (by rfl) (agOf (by rfl)) (Has.s Has.z) G1.out, ?_⟩); go_frame)
    (refine rgP 4 hS (fun _ h => h) ?_; go_frame)
    (refine rgP 5 hS (fun _ h => h) ?_; go_frame; try simp (disch := omega) only [IntWalk.i64_in])
    (refine rgP 6 hS (fun _ h => h) ?_; go_frame)
    (refine rgR 7 hS (fun _ h => h) ?_; (first | refine ⟨_, yLd _ _ (by rfl) _ _ (by rfl) (agOf (by rfl)) (Has.s Has.z) GP.out, ?_⟩ | refine ⟨_, yLd _ _ (by rfl) _ _ (by rfl) (agOf (by rfl)) (Has.s Has.z) G1.out, ?_⟩); go_frame)
    (refine rgP 8 hS (fun _ h => h) ?_; go_frame)
    (refine rgP 9 hS (fun _ h => h) ?_; go_frame)
    (refine rgP 10 hS (fun _ h => h) ?_; go_frame)
    refine regDone (by kernel_rfl) ?_
    go_wp2
    rw [← HN.out] at hS
    exact ⟨⟨k + 1, by go_num, HLT.out, by rw [hiv]; exact hS⟩, by have := HLT.out; simp [intOf]; omega⟩
   ·have hpt := HX.out.pt k p hp h0
    obtain ⟨q, rfl⟩ : ∃ q : Nat, p = (q : Int) := ⟨p.toNat, by omega⟩
    have HN := Lib.hid (seenP_set hp (by omega))
    have HNW := Lib.hid (seenP_new HX.out hp (by omega))
    have HQ := Lib.hid (mb_at (seenP x.ptrs k) (show q < 1024 by omega))
    rw [HNW.out] at HQ
    have HS := Lib.hid (mb_set (seenP x.ptrs k) true (show q < 1024 by omega))
    have HI := Lib.hid (fun w => iin_any w (q : Int) 74 1023 (by omega))
    have e1 : decide (x.size ≤ (k : Int) * 128) = false := decide_eq_false (by omega)
    have e2 : ((q : Int) == 0) = false := beq_eq_false_iff_ne.2 h0
    have e3 : (q : Int) < 1024 := by omega
    have HQL := Lib.hid (show q < (mb (seenP x.ptrs k)).length by rw [mb_len]; omega)
    clear hp hlt hk hpt h0
    go_wp2
    refine regStart [] hS (by kernel_rfl) rfl ?_
    intro w1 hS1
    clear hS; have hS := hS1; clear hS1
    (refine rgP 0 hS (fun _ h => h) ?_; go_frame)
    (refine rgP 1 hS (fun _ h => h) ?_; go_frame)
    (refine rgP 2 hS (fun _ h => h) ?_; go_frame)
    (refine rgR 3 hS (fun _ h => h) ?_; (first | refine ⟨_, yLd _ _ (by rfl) _ _ (by rfl) (agOf (by rfl)) (Has.s Has.z) GP.out, ?_⟩ | refine ⟨_, yLd _ _ (by rfl) _ _ (by rfl) (agOf (by rfl)) (Has.s Has.z) G1.out, ?_⟩); go_frame)
    (refine rgP 4 hS (fun _ h => h) ?_; go_frame)
    (refine rgP 5 hS (fun _ h => h) ?_; go_frame; try simp (disch := omega) only [IntWalk.i64_in])
    (refine rgP 6 hS (fun _ h => h) ?_; go_frame)
    (refine rgR 7 hS (fun _ h => h) ?_; (first | refine ⟨_, yLd _ _ (by rfl) _ _ (by rfl) (agOf (by rfl)) (Has.s Has.z) GP.out, ?_⟩ | refine ⟨_, yLd _ _ (by rfl) _ _ (by rfl) (agOf (by rfl)) (Has.s Has.z) G1.out, ?_⟩); go_frame)
    (refine rgP 8 hS (fun _ h => h) ?_; go_frame)
    (refine rgP 9 hS (fun _ h => h) ?_; go_frame)
    (refine rgP 10 hS (fun _ h => h) ?_; go_frame)
    refine regDone (by kernel_rfl) ?_
    go_wp2_with (first
     | (go_at_call 121; refine (HI.out _).mono ?_; rintro e w1 ⟨rfl, rfl⟩)
     | (refine toList (by rfl) ?_; refine ld hS _ _ (by rfl) _ _ (by rfl) (agOf (by rfl)) Has.z HQ.out ?_)
     | (refine toList (by rfl) ?_; refine st hS _ _ _ (by rfl) _ _ (by rfl) _ (by first | exact evC | exact evT (by rfl)) (by rfl) (szOf (by rfl)) Has.z HQL.out ?_; clear hS; intro w1 hS; rw [List.set_cons_zero, HS.out, HN.out] at hS))
    exact ⟨⟨k + 1, by go_num, HLT.out, by rw [hiv]; exact hS⟩, by have := HLT.out; simp [intOf]; omega⟩
  ·obtain rfl : k = 32 := by omega
   clear hlt hk
   go_wp2
   go_ret
   exact ⟨rfl, hS.drop.drop⟩
theorem icheck_any {W w : World} {L : List Asrt} (hS : Sat W w L) (x : InoD) (hx : OkI x) : Calls Tryz.prog 82 #[.agg (inv x).toArray] w fun e w' => e = .returned (.bool true) ∧ Sat W w' L := by
 by_cases h0 : x.kind = 0
 ·rw [hx.zero h0]; exact icheck_zero hS
 by_cases h1 : x.kind = 1
 ·exact icheck_file hS x hx h1
 ·exact icheck_dir hS x hx (by have := hx.kd; omega)
end Go.Proofs.YtchohheleofncaaGreat
namespace Go.Proofs.YtchohheleofncaaGreat
open Go.RowKit Go.Sep
attribute [local irreducible] Go.Oper.wp Go.wpList Go.Calls Go.Code.wp Go.Sep.Reg
def encI0 (x : InoD) (k : Nat) : List UInt8 := (le x.kind 1 ++ le x.size 2 ++ le x.links 2 ++ le x.obj 3 ++ le x.node 3) ++ (x.ptrs.take k).flatMap (le · 2)
theorem encI0_len (x : InoD) {k : Nat} (h : k ≤ x.ptrs.length) : (encI0 x k).length = 11 + 2 * k := by
 have : ∀ l : List Int, (l.flatMap (le · 2)).length = 2 * l.length := by
  intro l
  induction l with
  | nil => rfl
  | cons a l ih => rw [List.flatMap_cons, List.length_append, ih, le_length, List.length_cons]; omega
 unfold encI0
 simp only [List.length_append, le_length, this, List.length_take]
 omega
theorem encI0_succ (x : InoD) {k : Nat} {p : Int} (h : x.ptrs[k]? = some p) : encI0 x k ++ le p 2 = encI0 x (k + 1) := by
 unfold encI0
 rw [List.take_add_one, h, Option.toList_some, List.flatMap_append, List.append_assoc]
 simp
theorem encI0_zero (x : InoD) : le x.kind 1 ++ le x.size 2 ++ le x.links 2 ++ le x.obj 3 ++ le x.node 3 = encI0 x 0 := by simp [encI0]
theorem encI_eq (x : InoD) (h : x.ptrs.length = 32) : padTo (encI0 x 32) 128 = encI x := by
 unfold encI encI0
 rw [List.take_of_length_le (by omega)]
theorem encI_len (x : InoD) (h : x.ptrs.length = 32) : (encI x).length = 128 := by
 rw [← encI_eq x h, padTo_length (by rw [encI0_len x (by omega)]; omega)]
theorem okI_ptr {x : InoD} (hx : OkI x) {k : Nat} {p : Int} (h : x.ptrs[k]? = some p) : 0 ≤ p ∧ p ≤ 1023 := by
 by_cases h0 : p = 0
 ·omega
 ·have := hx.pt k p h h0; omega
def IpI (W : World) (L : List Asrt) (x : InoD) (px : Nat) (v25 v4 : Value) (wz : World) : Prop :=
 ∃ k : Nat, v25 = .int .i64 (k : Int) ∧ k ≤ 32 ∧ Sat W wz (Sl 5 1 v4 (encI0 x k).length (bv (encI0 x k)) :: Cs px 33 (inv x) :: L)
set_option maxRecDepth 20000 in
set_option maxHeartbeats 4000000 in
theorem iput_any {W w : World} {L : List Asrt} (hS : Sat W w L) (x : InoD) (hx : OkI x) : Calls Tryz.prog 39 #[.agg (inv x).toArray] w fun e w' => ∃ v, e = .returned (.tuple #[v, .bool true]) ∧ Sat W w' (Sl 5 1 v 128 (bv (encI x)) :: L) := by
 have HC := Lib.hid (fun w px (h : Sat W w (Cs px 33 (inv x) :: L)) => icheck_any h x hx)
 have HX := Lib.hid hx
 have HPL := Lib.hid hx.pl
 have HLE := Lib.hid (show (inv x).length = 37 by rw [inv_len, hx.pl])
 have g0 : (inv x)[0]? = some (.int .i64 x.kind) := rfl
 have g1 : (inv x)[1]? = some (.int .i64 x.size) := rfl
 have g2 : (inv x)[2]? = some (.int .i64 x.links) := rfl
 have g3 : (inv x)[3]? = some (.int .i64 x.obj) := rfl
 have g4 : (inv x)[4]? = some (.int .i64 x.node) := rfl
 have G0 := Lib.hid g0
 have G1 := Lib.hid g1
 have G2 := Lib.hid g2
 have G3 := Lib.hid g3
 have G4 := Lib.hid g4
 have q0 := hx.kd
 have q1 := hx.sz
 have q2 := hx.lk
 have q3 := hx.ob
 have q4 := hx.nd
 obtain ⟨q01, q02⟩ := q0
 obtain ⟨q11, q12⟩ := q1
 obtain ⟨q21, q22⟩ := q2
 obtain ⟨q31, q32⟩ := q3
 obtain ⟨q41, q42⟩ := q4
 have HPAD := Lib.hid (encI_eq x hx.pl)
 clear g0 g1 g2 g3 g4 hx
 obtain ⟨iv, hiv⟩ : ∃ iv, inv x = iv := ⟨_, rfl⟩
 rw [hiv] at HC G0 G1 G2 G3 G4 HLE ⊢
 go_enter Tryz.func39, Tryz.ntmps39
 go_wp2_with (first
  | (refine toList (by rfl) ?_; refine bx hS _ _ (by rfl) _ (by first | exact evC | exact evT (by rfl)) ?_; clear hS; intro px w1 hS; rw [cells_agg] at hS)
  | (refine toList (by rfl) ?_; refine ldA hS _ _ (by rfl) _ _ (by rfl) (agOf (by rfl)) (szOf (by rfl)) Has.z (by rw [HLE.out]; exact Nat.le_refl _) ?_; rw [List.drop_zero, List.take_of_length_le (by rw [HLE.out]; exact Nat.le_refl _)])
  | (go_at_call 82; refine (HC.out _ _ hS).mono ?_; clear hS; rintro e w1 ⟨rfl, hS⟩))
 have hS1 := hS.slNil (E := 5) (sz := 1)
 clear hS HC
 have hS : Sat W _ (Sl 5 1 (.slice none 0 0) ([] : List UInt8).length (bv []) :: _) := hS1
 clear hS1
 refine regStart2 [8] hS (fun _ h => h.one (Has.s Has.z)) (by kernel_rfl) rfl ?_
 intro w1 hS1
 clear hS; have hS := hS1; clear hS1
 (refine rgP 0 hS (fun _ h => h.one (Has.s Has.z)) ?_; go_frame)
 (refine rgR 1 hS (fun _ h => h.one (Has.s Has.z)) ?_; (first | refine ⟨_, yLd _ _ (by rfl) _ _ (by rfl) (agOf (by rfl)) Has.z G0.out, ?_⟩ | refine ⟨_, yLd _ _ (by rfl) _ _ (by rfl) (agOf (by rfl)) Has.z G1.out, ?_⟩ | refine ⟨_, yLd _ _ (by rfl) _ _ (by rfl) (agOf (by rfl)) Has.z G2.out, ?_⟩); go_frame)
 (refine rgP 3 hS (fun _ h => h.one (Has.s Has.z)) ?_; go_frame)
 (refine rgR 4 hS (fun _ h => h.one (Has.s Has.z)) ?_; (first | refine ⟨_, yLd _ _ (by rfl) _ _ (by rfl) (agOf (by rfl)) Has.z G0.out, ?_⟩ | refine ⟨_, yLd _ _ (by rfl) _ _ (by rfl) (agOf (by rfl)) Has.z G1.out, ?_⟩ | refine ⟨_, yLd _ _ (by rfl) _ _ (by rfl) (agOf (by rfl)) Has.z G2.out, ?_⟩); go_frame)
 (refine rgP 6 hS (fun _ h => h.one (Has.s Has.z)) ?_; go_frame)
 (refine rgR 7 hS (fun _ h => h.one (Has.s Has.z)) ?_; (first | refine ⟨_, yLd _ _ (by rfl) _ _ (by rfl) (agOf (by rfl)) Has.z G0.out, ?_⟩ | refine ⟨_, yLd _ _ (by rfl) _ _ (by rfl) (agOf (by rfl)) Has.z G1.out, ?_⟩ | refine ⟨_, yLd _ _ (by rfl) _ _ (by rfl) (agOf (by rfl)) Has.z G2.out, ?_⟩); go_frame)
 (refine rgA 2 false fun K hK => ?_; (first
    | (refine Go.Sep.cl 84 _ _ (by rfl) (by rfl) (by kernel_rfl) (Calls.atX hS (by repeat first | exact Has.z | apply Has.s) (fun hF => put_any hF x.kind (by omega) (by omega) 1 (by omega) (by omega) (by simp))) ?_; clear hS; rintro e w1 ⟨v2, rfl, hS⟩; dsimp only [List.set_cons_zero, List.set_cons_succ] at hS; refine ⟨_, rfl, ?_⟩)
    | (refine Go.Sep.cl 84 _ _ (by rfl) (by rfl) (by kernel_rfl) (Calls.atX hS (by repeat first | exact Has.z | apply Has.s) (fun hF => put_any hF x.size (by omega) (by omega) 2 (by omega) (by omega) (by simp [le_length]))) ?_; clear hS; rintro e w1 ⟨v2, rfl, hS⟩; dsimp only [List.set_cons_zero, List.set_cons_succ] at hS; refine ⟨_, rfl, ?_⟩)
    | (refine Go.Sep.cl 84 _ _ (by rfl) (by rfl) (by kernel_rfl) (Calls.atX hS (by repeat first | exact Has.z | apply Has.s) (fun hF => put_any hF x.links (by omega) (by omega) 2 (by omega) (by omega) (by simp [le_length]))) ?_; clear hS; rintro e w1 ⟨v2, rfl, hS⟩; dsimp only [List.set_cons_zero, List.set_cons_succ] at hS; refine ⟨_, rfl, ?_⟩)); refine hK _ _ _ (hS.upTo (fun _ h => by first | exact h.one Has.z | exact h.one (Has.s Has.z) | exact h.one (Has.s (Has.s Has.z)) | exact h.one (Has.s (Has.s (Has.s Has.z))) | exact h | exact h.drop | exact h.drop.drop | exact h.drop.drop.drop | exact h.drop.drop.drop.drop)) (fun _ _ h => h) ?_; clear hK K; go_frame)
 (refine rgA 5 false fun K hK => ?_; (first
    | (refine Go.Sep.cl 84 _ _ (by rfl) (by rfl) (by kernel_rfl) (Calls.atX hS (by repeat first | exact Has.z | apply Has.s) (fun hF => put_any hF x.kind (by omega) (by omega) 1 (by omega) (by omega) (by simp))) ?_; clear hS; rintro e w1 ⟨v2, rfl, hS⟩; dsimp only [List.set_cons_zero, List.set_cons_succ] at hS; refine ⟨_, rfl, ?_⟩)
    | (refine Go.Sep.cl 84 _ _ (by rfl) (by rfl) (by kernel_rfl) (Calls.atX hS (by repeat first | exact Has.z | apply Has.s) (fun hF => put_any hF x.size (by omega) (by omega) 2 (by omega) (by omega) (by simp [le_length]))) ?_; clear hS; rintro e w1 ⟨v2, rfl, hS⟩; dsimp only [List.set_cons_zero, List.set_cons_succ] at hS; refine ⟨_, rfl, ?_⟩)
    | (refine Go.Sep.cl 84 _ _ (by rfl) (by rfl) (by kernel_rfl) (Calls.atX hS (by repeat first | exact Has.z | apply Has.s) (fun hF => put_any hF x.links (by omega) (by omega) 2 (by omega) (by omega) (by simp [le_length]))) ?_; clear hS; rintro e w1 ⟨v2, rfl, hS⟩; dsimp only [List.set_cons_zero, List.set_cons_succ] at hS; refine ⟨_, rfl, ?_⟩)); refine hK _ _ _ (hS.upTo (fun _ h => by first | exact h.one Has.z | exact h.one (Has.s Has.z) | exact h.one (Has.s (Has.s Has.z)) | exact h.one (Has.s (Has.s (Has.s Has.z))) | exact h | exact h.drop | exact h.drop.drop | exact h.drop.drop.drop | exact h.drop.drop.drop.drop)) (fun _ _ h => h) ?_; clear hK K; go_frame)
 (refine rgA 8 true fun K hK => ?_; (first
    | (refine Go.Sep.cl 84 _ _ (by rfl) (by rfl) (by kernel_rfl) (Calls.atX hS (by repeat first | exact Has.z | apply Has.s) (fun hF => put_any hF x.kind (by omega) (by omega) 1 (by omega) (by omega) (by simp))) ?_; clear hS; rintro e w1 ⟨v2, rfl, hS⟩; dsimp only [List.set_cons_zero, List.set_cons_succ] at hS; refine ⟨_, rfl, ?_⟩)
    | (refine Go.Sep.cl 84 _ _ (by rfl) (by rfl) (by kernel_rfl) (Calls.atX hS (by repeat first | exact Has.z | apply Has.s) (fun hF => put_any hF x.size (by omega) (by omega) 2 (by omega) (by omega) (by simp [le_length]))) ?_; clear hS; rintro e w1 ⟨v2, rfl, hS⟩; dsimp only [List.set_cons_zero, List.set_cons_succ] at hS; refine ⟨_, rfl, ?_⟩)
    | (refine Go.Sep.cl 84 _ _ (by rfl) (by rfl) (by kernel_rfl) (Calls.atX hS (by repeat first | exact Has.z | apply Has.s) (fun hF => put_any hF x.links (by omega) (by omega) 2 (by omega) (by omega) (by simp [le_length]))) ?_; clear hS; rintro e w1 ⟨v2, rfl, hS⟩; dsimp only [List.set_cons_zero, List.set_cons_succ] at hS; refine ⟨_, rfl, ?_⟩)); refine hK _ _ _ hS (by first | (intro h; cases h; done) | exact fun _ _ h => h | exact fun _ _ h => h.drop | exact fun _ _ h => h.drop.drop | exact fun _ _ h => h.drop.pull1 | exact fun _ _ h => h.take2 | exact fun _ _ h => h.one Has.z | exact fun _ _ h => h.one (Has.s Has.z) | exact fun _ _ h => h.one (Has.s (Has.s Has.z))) ?_; clear hK K; go_frame)
 (refine rgP 9 hS (fun _ h => h) ?_; go_frame)
 refine regDone (by kernel_rfl) ?_
 go_wp2
 refine regStart2 [6] hS (fun _ h => h.one (Has.s Has.z)) (by kernel_rfl) rfl ?_
 intro w1 hS1
 clear hS; have hS := hS1; clear hS1
 (refine rgP 0 hS (fun _ h => h.one (Has.s Has.z)) ?_; go_frame)
 (refine rgP 1 hS (fun _ h => h.one (Has.s Has.z)) ?_; go_frame)
 (refine rgR 2 hS (fun _ h => h.one (Has.s Has.z)) ?_; (first | refine ⟨_, yLd _ _ (by rfl) _ _ (by rfl) (agOf (by rfl)) Has.z G3.out, ?_⟩ | refine ⟨_, yLd _ _ (by rfl) _ _ (by rfl) (agOf (by rfl)) Has.z G4.out, ?_⟩); go_frame)
 (refine rgP 4 hS (fun _ h => h.one (Has.s Has.z)) ?_; go_frame)
 (refine rgR 5 hS (fun _ h => h.one (Has.s Has.z)) ?_; (first | refine ⟨_, yLd _ _ (by rfl) _ _ (by rfl) (agOf (by rfl)) Has.z G3.out, ?_⟩ | refine ⟨_, yLd _ _ (by rfl) _ _ (by rfl) (agOf (by rfl)) Has.z G4.out, ?_⟩); go_frame)
 (refine rgA 3 false fun K hK => ?_; (first
    | (refine Go.Sep.cl 84 _ _ (by rfl) (by rfl) (by kernel_rfl) (Calls.atX hS (by repeat first | exact Has.z | apply Has.s) (fun hF => put_any hF x.obj (by omega) (by omega) 3 (by omega) (by omega) (by simp [le_length]))) ?_; clear hS; rintro e w1 ⟨v2, rfl, hS⟩; dsimp only [List.set_cons_zero, List.set_cons_succ] at hS; refine ⟨_, rfl, ?_⟩)
    | (refine Go.Sep.cl 84 _ _ (by rfl) (by rfl) (by kernel_rfl) (Calls.atX hS (by repeat first | exact Has.z | apply Has.s) (fun hF => put_any hF x.node (by omega) (by omega) 3 (by omega) (by omega) (by simp [le_length]))) ?_; clear hS; rintro e w1 ⟨v2, rfl, hS⟩; dsimp only [List.set_cons_zero, List.set_cons_succ] at hS; refine ⟨_, rfl, ?_⟩)); refine hK _ _ _ (hS.upTo (fun _ h => by first | exact h.one Has.z | exact h.one (Has.s Has.z) | exact h.one (Has.s (Has.s Has.z)) | exact h.one (Has.s (Has.s (Has.s Has.z))) | exact h | exact h.drop | exact h.drop.drop | exact h.drop.drop.drop | exact h.drop.drop.drop.drop)) (fun _ _ h => h) ?_; clear hK K; go_frame)
 (refine rgA 6 true fun K hK => ?_; (first
    | (refine Go.Sep.cl 84 _ _ (by rfl) (by rfl) (by kernel_rfl) (Calls.atX hS (by repeat first | exact Has.z | apply Has.s) (fun hF => put_any hF x.obj (by omega) (by omega) 3 (by omega) (by omega) (by simp [le_length]))) ?_; clear hS; rintro e w1 ⟨v2, rfl, hS⟩; dsimp only [List.set_cons_zero, List.set_cons_succ] at hS; refine ⟨_, rfl, ?_⟩)
    | (refine Go.Sep.cl 84 _ _ (by rfl) (by rfl) (by kernel_rfl) (Calls.atX hS (by repeat first | exact Has.z | apply Has.s) (fun hF => put_any hF x.node (by omega) (by omega) 3 (by omega) (by omega) (by simp [le_length]))) ?_; clear hS; rintro e w1 ⟨v2, rfl, hS⟩; dsimp only [List.set_cons_zero, List.set_cons_succ] at hS; refine ⟨_, rfl, ?_⟩)); refine hK _ _ _ hS (by first | (intro h; cases h; done) | exact fun _ _ h => h | exact fun _ _ h => h.drop | exact fun _ _ h => h.drop.drop | exact fun _ _ h => h.drop.pull1 | exact fun _ _ h => h.take2 | exact fun _ _ h => h.one Has.z | exact fun _ _ h => h.one (Has.s Has.z) | exact fun _ _ h => h.one (Has.s (Has.s Has.z))) ?_; clear hK K; go_frame)
 (refine rgP 7 hS (fun _ h => h) ?_; go_frame)
 refine regDone (by kernel_rfl) ?_
 rw [List.nil_append, encI0_zero] at hS
 have H0 := Lib.hid hS
 clear hS
 go_wp2
 go_loopw [25, 4] (fun v25 v4 wz => IpI W L x px v25 v4 wz) (fun v25 _ _ => 32 - (intOf v25).toNat)
 case atStart => exact ⟨0, rfl, by decide, by rw [hiv]; exact H0.out⟩
 case round =>
  clear H0
  obtain ⟨k, rfl, hk, hS⟩ := hrel
  rw [hiv] at hS
  by_cases hlt : k < 32
  ·have k1 : (k : Int) < 32 := by omega
   have HLT := Lib.hid hlt
   obtain ⟨p, hp⟩ : ∃ p, x.ptrs[k]? = some p := ⟨_, List.getElem?_eq_getElem (by have := HPL.out; omega)⟩
   have hpr := okI_ptr HX.out hp
   obtain ⟨hp1, hp2⟩ := hpr
   have GP := Lib.hid (inv_ptr hp)
   rw [hiv] at GP
   have HN := Lib.hid (encI0_succ x hp)
   have HLN := Lib.hid (encI0_len x (k := k) (by have := HPL.out; omega))
   clear hp hlt hk
   go_wp2_with (first
    | (refine toList (by rfl) ?_; refine ld hS _ _ (by rfl) _ _ (by rfl) (agOf (by rfl)) (Has.s Has.z) GP.out ?_)
    | (go_at_call 84; refine (put_any hS p (by omega) (by omega) 2 (by omega) (by omega) (by have := HLN.out; have := HLT.out; omega)).mono ?_; clear hS; rintro e w1 ⟨v1, rfl, hS⟩))
   rw [HN.out] at hS
   exact ⟨⟨k + 1, by go_num, HLT.out, by rw [hiv]; exact hS⟩, by have := HLT.out; simp [intOf]; omega⟩
  ·obtain rfl : k = 32 := by omega
   have HLN := Lib.hid (encI0_len x (k := 32) (by have := HPL.out; omega))
   clear hlt hk
   go_wp2_with (go_at_call 85; refine (pad_any hS 128 (by have := HLN.out; omega) (by omega)).mono ?_; clear hS; rintro e w1 ⟨v3, rfl, hS⟩)
   rw [HPAD.out] at hS
   go_ret2
   exact ⟨_, rfl, hS.pull1.drop⟩
end Go.Proofs.YtchohheleofncaaGreat
