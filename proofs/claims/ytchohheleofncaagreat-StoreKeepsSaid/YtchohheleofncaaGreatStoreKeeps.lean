/-
 For every numbers and bytes, StoreKeeps answers true: no condition.
-/
import Derived.Test.YtchohheleofncaaGreatMReg
import Derived.Test.YtchohheleofncaaGreatMSet
import Derived.Test.YtchohheleofncaaGreatMSep
import Derived.Laws.BitsAllLaws
set_option linter.unusedSimpArgs false
set_option linter.unusedVariables false
namespace Go.Proofs.YtchohheleofncaaGreat
open Go.RowKit Go.Sep Go.ChangeShapes Go.WideShapes Go.ChangeAt
attribute [local irreducible] Go.Oper.wp Go.wpList Go.Calls Go.Code.wp Go.Sep.Reg
theorem ldW {P : Program} {o : Oper} {a : Act} {W w : World} {L : List Asrt} {K : Act → World → Prop} {Q : Exit → Act → World → Prop} {k b E : Nat} {l : List Value} (hS : Sat W w L) (T : TypeId) (x : Operand) (ho : o.op = .load T x) (hx : a.eval x = .pointer (some ⟨b, 0, none⟩)) (hT : aggB P T = some true) (hn : szB P T = some l.length)
  (hk : Has L k (Cs b E l)) (h : K (a.put o.dst (.agg l.toArray)) w) : o.wp P a w K Q :=
 ldA hS T x ho b 0 hx hT hn hk (by omega) (by rw [List.drop_zero, List.take_of_length_le (Nat.le_refl _)]; exact h)
def wantL (w : Nat → UInt8) : List Value := (List.range 32).map fun j => u8 (w j)
theorem wantL_len (w : Nat → UInt8) : (wantL w).length = 32 := by unfold wantL; rw [List.length_map, List.length_range]
theorem wantL_at (w : Nat → UInt8) {j : Nat} (h : j < 32) : (wantL w)[j]? = some (u8 (w j)) := by unfold wantL; rw [List.getElem?_map, List.getElem?_range h]; rfl
theorem wantL_set (w : Nat → UInt8) {k : Nat} (v : UInt8) (h : k < 32) : (wantL w).set k (u8 v) = wantL (fun j => if j = k then v else w j) := by
 apply List.ext_getElem?
 intro j
 rw [List.getElem?_set]
 by_cases e : k = j
 ·subst e
  rw [if_pos rfl, if_pos (by rw [wantL_len]; exact h), wantL_at _ h, if_pos rfl]
 ·rw [if_neg e]
  by_cases hj : j < 32
  ·rw [wantL_at _ hj, wantL_at _ hj, if_neg (Ne.symm e)]
  ·rw [List.getElem?_eq_none (by rw [wantL_len]; omega), List.getElem?_eq_none (by rw [wantL_len]; omega)]
def cntH (there : Nat → Bool) (k : Nat) : Nat := ((List.range k).filter there).length
theorem cntH_succ (there : Nat → Bool) (k : Nat) : cntH there (k + 1) = cntH there k + (if there k then 1 else 0) := by
 unfold cntH
 rw [List.range_succ, List.filter_append, List.length_append, List.filter_cons]
 split <;> simp
theorem cntH_le (there : Nat → Bool) (k : Nat) : cntH there k ≤ k := by
 have := List.length_filter_le there (List.range k)
 rw [List.length_range] at this
 exact this
def fillB (v : UInt8) (j : Nat) : List UInt8 := List.replicate j v ++ zeros (128 - j)
theorem fillB_set (v : UInt8) {j : Nat} (h : j < 128) : (bv (fillB v j)).set j (u8 v) = bv (fillB v (j + 1)) := by
 have e : fillB v (j + 1) = (fillB v j).set j v := by
  unfold fillB
  rw [List.set_append_right _ _ (by rw [List.length_replicate]; exact Nat.le_refl _), List.length_replicate, Nat.sub_self, List.replicate_succ', List.append_assoc]
  congr 1
  unfold zeros
  rw [show 128 - j = (128 - (j + 1)) + 1 by omega, List.replicate_succ, List.set_cons_zero]
  rfl
 rw [e]
 exact bv_set _ _ _
theorem fillB_len (v : UInt8) {j : Nat} (h : j ≤ 128) : (fillB v j).length = 128 := by unfold fillB zeros; simp; omega
theorem fillB_all (v : UInt8) : fillB v 128 = List.replicate 128 v := by unfold fillB zeros; simp
def lessT (there : Nat → Bool) (n j : Nat) : Nat → Bool := fun q => there q && !(decide (n ≤ q) && decide (q < j))
theorem lessT_zero (there : Nat → Bool) (n : Nat) : lessT there n n = there := by
 funext q
 unfold lessT
 by_cases h1 : n ≤ q
 ·rw [decide_eq_true h1, decide_eq_false (show ¬ q < n by omega)]; simp
 ·rw [decide_eq_false h1]; simp
theorem lessT_succ (there : Nat → Bool) {n j : Nat} (h : n ≤ j) : upd (lessT there n j) j false = lessT there n (j + 1) := by
 funext q
 unfold upd lessT
 by_cases e : q = j
 ·subst e
  rw [if_pos rfl, decide_eq_true h, decide_eq_true (show q < q + 1 by omega)]; simp
 ·rw [if_neg e]
  have : decide (q < j) = decide (q < j + 1) := by
   by_cases h2 : q < j
   ·rw [decide_eq_true h2, decide_eq_true (by omega)]
   ·rw [decide_eq_false h2, decide_eq_false (by omega)]
  rw [this]
theorem lessT_all (there : Nat → Bool) (n k : Nat) : mbn 32 (upd (lessT there n 32) k true) = mbn 32 (keepT there n k) := by
 apply List.map_congr_left
 intro q hq
 have hq := List.mem_range.1 hq
 show Value.bool (if q = k then true else lessT there n 32 q) = Value.bool (if q = k then true else (there q && decide (q < n)))
 unfold lessT
 by_cases e : q = k
 ·rw [if_pos e, if_pos e]
 ·rw [if_neg e, if_neg e, decide_eq_true hq, Bool.and_true]
  by_cases h : n ≤ q
  ·rw [decide_eq_true h, decide_eq_false (show ¬ q < n by omega)]; rfl
  ·rw [decide_eq_false h, decide_eq_true (show q < n by omega)]; rfl
def KpI (W : World) (L : List Asrt) (ps pd p9 p10 : Nat) (v11 v12 : Value) (wz : World) : Prop :=
 ∃ (i : Nat) (want : Nat → UInt8) (there : Nat → Bool) (size : Int) (f : InoD) (D : DiskS) (B : List (List UInt8)) (S : StD), v11 = .int .i64 size ∧ v12 = .int .i64 (i : Int) ∧ KpS i want there size f D B S ∧
  Sat W wz (Cs p9 28 (wantL want) :: Cs p10 29 (mbn 32 there) :: IsSt ps pd S :: IsDisk pd D :: L)
def KpF (W : World) (L : List Asrt) (pc : Nat) (v : UInt8) (v17 : Value) (wz : World) : Prop := ∃ j : Nat, v17 = .int .i64 (j : Int) ∧ j ≤ 128 ∧ Sat W wz (Cs pc 5 (bv (fillB v j)) :: L)
def KpL (W : World) (L : List Asrt) (p10 n : Nat) (there : Nat → Bool) (v19 : Value) (wz : World) : Prop := ∃ j : Nat, v19 = .int .i64 (j : Int) ∧ n ≤ j ∧ j ≤ 32 ∧ Sat W wz (Cs p10 29 (mbn 32 (lessT there n j)) :: L)
def KpR (W : World) (L : List Asrt) (pd p9 p10 : Nat) (want : Nat → UInt8) (there : Nat → Bool) (D : DiskS) (S : StD) (v8 v20 : Value) (wz : World) : Prop :=
 ∃ (r ps : Nat), v8 = .pointer (some ⟨ps, 0, none⟩) ∧ v20 = .int .i64 (r : Int) ∧ r ≤ 2 ∧ Sat W wz (Cs p9 28 (wantL want) :: Cs p10 29 (mbn 32 there) :: IsSt ps pd S :: IsDisk pd D :: L)
def KpB (W : World) (L : List Asrt) (there : Nat → Bool) (v23 v24 : Value) (wz : World) : Prop := ∃ k : Nat, v23 = .int .i64 ((cntH there k : Nat) : Int) ∧ v24 = .int .i64 (k : Int) ∧ k ≤ 32 ∧ Sat W wz L
def KpJ (W : World) (a1 a2 a3 : Option Addr) (n1 c1 n2 c2 n3 c3 ps pd p9 p10 : Nat) : Act → World → Prop := (fun (a' : Act) (w' : World) => (KpI W [] ps pd p9 p10 (a'.tmps.getD 11 undef) (a'.tmps.getD 12 undef) w') ∧ a' = ⟨#[.slice a1 n1 c1, .slice a2 n2 c2, .slice a3 n3 c3, undef, undef, undef, (a'.tmps.getD 6 undef), .pointer (some ⟨pd, 0, none⟩), .pointer (some ⟨ps, 0, none⟩), .pointer (some ⟨p9, 0, none⟩), .pointer (some ⟨p10, 0, none⟩), (a'.tmps.getD 11 undef), (a'.tmps.getD 12 undef), (a'.tmps.getD 13 undef), (a'.tmps.getD 14 undef), (a'.tmps.getD 15 undef), (a'.tmps.getD 16 undef), (a'.tmps.getD 17 undef), (a'.tmps.getD 18 undef), (a'.tmps.getD 19 undef), undef, undef, undef, undef, undef, undef, undef, undef, undef, undef, (a'.tmps.getD 30 undef), (a'.tmps.getD 31 undef), (a'.tmps.getD 32 undef), (a'.tmps.getD 33 undef), (a'.tmps.getD 34 undef), (a'.tmps.getD 35 undef), (a'.tmps.getD 36 undef), (a'.tmps.getD 37 undef), (a'.tmps.getD 38 undef), (a'.tmps.getD 39 undef), (a'.tmps.getD 40 undef), (a'.tmps.getD 41 undef), (a'.tmps.getD 42 undef), (a'.tmps.getD 43 undef), (a'.tmps.getD 44 undef), (a'.tmps.getD 45 undef), (a'.tmps.getD 46 undef), (a'.tmps.getD 47 undef), (a'.tmps.getD 48 undef), (a'.tmps.getD 49 undef), (a'.tmps.getD 50 undef), (a'.tmps.getD 51 undef), (a'.tmps.getD 52 undef), (a'.tmps.getD 53 undef), (a'.tmps.getD 54 undef), (a'.tmps.getD 55 undef), (a'.tmps.getD 56 undef), (a'.tmps.getD 57 undef), (a'.tmps.getD 58 undef), (a'.tmps.getD 59 undef), (a'.tmps.getD 60 undef), (a'.tmps.getD 61 undef), (a'.tmps.getD 62 undef), (a'.tmps.getD 63 undef), (a'.tmps.getD 64 undef), (a'.tmps.getD 65 undef), (a'.tmps.getD 66 undef), (a'.tmps.getD 67 undef), (a'.tmps.getD 68 undef), (a'.tmps.getD 69 undef), (a'.tmps.getD 70 undef), (a'.tmps.getD 71 undef), (a'.tmps.getD 72 undef), (a'.tmps.getD 73 undef), (a'.tmps.getD 74 undef), (a'.tmps.getD 75 undef), (a'.tmps.getD 76 undef), (a'.tmps.getD 77 undef), (a'.tmps.getD 78 undef), (a'.tmps.getD 79 undef), (a'.tmps.getD 80 undef), (a'.tmps.getD 81 undef), (a'.tmps.getD 82 undef), (a'.tmps.getD 83 undef), (a'.tmps.getD 84 undef), (a'.tmps.getD 85 undef), (a'.tmps.getD 86 undef), (a'.tmps.getD 87 undef), (a'.tmps.getD 88 undef), (a'.tmps.getD 89 undef), (a'.tmps.getD 90 undef), (a'.tmps.getD 91 undef), (a'.tmps.getD 92 undef), (a'.tmps.getD 93 undef), (a'.tmps.getD 94 undef), (a'.tmps.getD 95 undef), (a'.tmps.getD 96 undef), (a'.tmps.getD 97 undef), (a'.tmps.getD 98 undef), (a'.tmps.getD 99 undef), (a'.tmps.getD 100 undef), (a'.tmps.getD 101 undef), (a'.tmps.getD 102 undef), (a'.tmps.getD 103 undef), (a'.tmps.getD 104 undef), (a'.tmps.getD 105 undef), (a'.tmps.getD 106 undef), (a'.tmps.getD 107 undef), (a'.tmps.getD 108 undef), (a'.tmps.getD 109 undef), (a'.tmps.getD 110 undef), (a'.tmps.getD 111 undef), (a'.tmps.getD 112 undef), (a'.tmps.getD 113 undef), (a'.tmps.getD 114 undef), undef, undef, undef, undef, undef, undef, undef, undef, undef, undef, undef, undef, undef, undef, undef, undef, undef, undef, undef, undef, undef, undef, undef, undef, undef, undef, undef, undef, undef, undef, undef, undef, undef, undef, undef, undef, undef, undef, undef, undef, undef, undef, undef, undef, undef, undef, undef, undef, undef, undef, undef, undef, undef, undef, undef, undef, undef, undef, undef, undef, undef, undef, undef, undef, undef, undef, undef, undef, undef, undef, undef, undef, undef, undef, undef, undef, undef, undef, undef, undef, undef, undef, undef], []⟩)
theorem kpS_zero {D : DiskS} (hl : Lv D (fmtB 400) 60) : KpS 0 (fun _ => 0) (fun _ => false) 0 zeroI D (fmtB 400) (S0 400) where
 i12 := by decide
 lv := hl
 ok := sok_fmt (by decide) (by decide)
 bl := fmtB_len 400
 inos := by
  apply List.ext_getElem?
  intro j
  rw [List.getElem?_set]
  by_cases e : 5 = j
  ·subst e; rfl
  ·rw [if_neg e]
 fk := .inl ⟨rfl, rfl⟩
 next := by decide
 ptr j hj := ⟨0, by show (List.replicate 32 (0 : Int))[j]? = _; rw [List.getElem?_replicate, if_pos hj]; rfl, .inr ⟨rfl, rfl⟩⟩
theorem mbn_false (n : Nat) : mbn n (fun _ => false) = List.replicate n (.bool false) := by
 unfold mbn
 rw [List.map_const', List.length_range]
theorem wantL_zero : wantL (fun _ => 0) = List.replicate 32 (.int .u8 0) := by
 unfold wantL
 rw [List.map_const', List.length_range]
 rfl
theorem aggCells {l : List Value} {n : Nat} (h : l.length = n) : (Value.agg l.toArray).cells.size = n := by simp [Value.cells, h]
theorem fillB_zero (v : UInt8) : zeros 128 = fillB v 0 := by unfold fillB; simp
theorem KpS.ok' {i : Nat} {want : Nat → UInt8} {there : Nat → Bool} {size : Int} {f : InoD} {D : DiskS} {B : List (List UInt8)} {S : StD} (h : KpS i want there size f D B S) : SOk D.blocks S [74] := by
 rw [h.lv.bl]
 exact h.ok
def kpM (n : Nat) (v : Value) : Nat := n - (intOf v).toNat
theorem kpM_lt {m i : Nat} (h : i < m) : kpM m (.int .i64 ((i + 1 : Nat) : Int)) < kpM m (.int .i64 (i : Int)) := by
 unfold kpM
 show m - (((i + 1 : Nat) : Int)).toNat < m - ((i : Int)).toNat
 rw [Int.toNat_natCast, Int.toNat_natCast]
 omega
def vbK (want : Nat → UInt8) (there : Nat → Bool) (k : Nat) : List UInt8 := if there k then List.replicate 128 (want k) else zeros 128
def KbE (W : World) (L : List Asrt) (ps pd : Nat) (d : List UInt8) (S : StD) (D : DiskS) (e : Ending) (w' : World) : Prop := ∃ q, e = .returned (.tuple #[.slice (some ⟨q, 0, none⟩) 128 128, .bool true]) ∧ ∃ E, Sat W w' (Cs q E (bv d) :: IsSt ps pd S :: IsDisk pd D :: L)
theorem keepB {W w : World} {L : List Asrt} {ps pd i k : Nat} {want : Nat → UInt8} {there : Nat → Bool} {size : Int} {f : InoD} {D : DiskS} {B : List (List UInt8)} {S : StD} (h : KpS i want there size f D B S) (hk : k < 32) (hS : Sat W w (IsSt ps pd S :: IsDisk pd D :: L)) :
  Calls Tryz.prog 12 #[.pointer (some ⟨ps, 0, none⟩), .int .i64 5, .int .i64 (k : Int)] w fun e w' => KbE W L ps pd (vbK want there k) S D e w' := by
 obtain ⟨p, a1, a2⟩ := h.ptr k hk
 have h9 := sblock_any hS h.ok.x (by rw [h.lv.bl, h.bl]; decide) 5 k h.at5 a1 (fun hp => by
  have hm := h.ok.rng p (List.mem_append_left _ (h.ok.inoM h.at5 ((mem_blksI' h.okf).2 ⟨by omega, List.mem_of_getElem? a1⟩)))
  rw [h.lv.bl]
  omega)
 have e : blkOf D.blocks (p : Int) = vbK want there k := by
  unfold blkOf vbK
  rcases a2 with ⟨b1, b2, b3⟩ | ⟨b1, b2⟩
  ·rw [if_neg (by omega), if_pos b1, h.lv.bl, Int.toNat_natCast, b3]; rfl
  ·rw [if_pos (by omega), if_neg (by rw [b1]; decide)]
 rw [e] at h9
 exact h9
theorem keepF {W w : World} {L : List Asrt} {ps pd i : Nat} {want : Nat → UInt8} {there : Nat → Bool} {size : Int} {f : InoD} {D : DiskS} {B : List (List UInt8)} {S : StD} (h : KpS i want there size f D B S) (hS : Sat W w (IsSt ps pd S :: L)) :
  Calls Tryz.prog 13 #[.pointer (some ⟨ps, 0, none⟩)] w fun e w' => e = .returned (.int .i64 (325 - ((cntH there 32 : Nat) : Int))) ∧ Sat W w' (IsSt ps pd S :: L) := by
 have h1 := h.free
 rw [show (325 - ((cntH there 32 : Nat) : Int)) = ((((freeL S.U 400).length : Nat)) : Int) by unfold cntH; omega]
 exact sfree_any (n := 400) hS (by rw [h.ok.blocks, h.bl]) (by decide) (by decide)
set_option maxRecDepth 20000 in
theorem keepI (a i : Nat) : ∀ u : World, (Instr.build 33 #[(0, .int .i64 1), (1, .int .i64 (1 + (a : Int))), (2, .int .i64 1), (3, .int .i64 9), (4, .int .i64 (i : Int))]).run Tryz.prog u = .ok (.agg (inv ⟨1, 1 + (a : Int), 1, 9, (i : Int), List.replicate 32 0⟩).toArray) u := fun u => run_build u _ _ _ (by kernel_rfl)
set_option maxRecDepth 20000 in
theorem keepS (a i b1 b2 : Nat) : ∀ u : World, (Instr.build 36 #[(0, .int .i64 5), (1, .agg (inv ⟨1, 1 + (a : Int), 1, 9, (i : Int), List.replicate 32 0⟩).toArray), (2, .slice (some ⟨b1, 0, none⟩) 1 1), (3, .slice (some ⟨b2, 0, none⟩) 1 1)]).run Tryz.prog u = .ok (.agg (xv 5 ⟨1, 1 + (a : Int), 1, 9, (i : Int), List.replicate 32 0⟩ (.slice (some ⟨b1, 0, none⟩) 1 1) (.slice (some ⟨b2, 0, none⟩) 1 1)).toArray) u := fun u => run_build u _ _ _ (by kernel_rfl)
theorem keepXX (a i : Nat) : ∃ (ci : Array Value) (X : Nat → Nat → List Value), (∀ u : World, (Instr.build 33 #[(0, .int .i64 1), (1, .int .i64 (1 + (a : Int))), (2, .int .i64 1), (3, .int .i64 9), (4, .int .i64 (i : Int))]).run Tryz.prog u = .ok (.agg ci) u) ∧
  (∀ (b1 b2 : Nat) (u : World), (Instr.build 36 #[(0, .int .i64 5), (1, .agg ci), (2, .slice (some ⟨b1, 0, none⟩) 1 1), (3, .slice (some ⟨b2, 0, none⟩) 1 1)]).run Tryz.prog u = .ok (.agg (X b1 b2).toArray) u) ∧ (∀ b1 b2, ∀ u ∈ X b1 b2, u.oneCell' = true) ∧ (∀ b1 b2, (X b1 b2).length = 40) ∧
  (∀ b1 b2 k v vs, X b1 b2 = setv (keepX (1 + (a : Int)) i k v (.slice (some ⟨b1, 0, none⟩) 1 1) (.slice (some ⟨b2, 0, none⟩) 1 1) vs)) :=
 ⟨_, fun b1 b2 => xv 5 ⟨1, 1 + (a : Int), 1, 9, (i : Int), List.replicate 32 0⟩ (.slice (some ⟨b1, 0, none⟩) 1 1) (.slice (some ⟨b2, 0, none⟩) 1 1), keepI a i, keepS a i, fun _ _ => xv_one rfl rfl, fun _ _ => xv_len rfl, fun _ _ _ _ _ => rfl⟩
set_option maxRecDepth 20000 in
set_option maxHeartbeats 40000000 in
theorem Keeps.walk (ns ms : List Int) (fl : List UInt8) (a1 a2 a3 : Option Addr) (c1 c2 c3 : Nat) (W : World) (hr1 : Rd W (.slice a1 ns.length c1) ns.length 1 (ns.map (Value.int .i64))) (hr2 : Rd W (.slice a2 ms.length c2) ms.length 1 (ms.map (Value.int .i64))) (hr3 : Rd W (.slice a3 fl.length c3) fl.length 1 (bv fl)) :
  Calls Tryz.prog 3 #[.slice a1 ns.length c1, .slice a2 ms.length c2, .slice a3 fl.length c3] W fun e w' => e = .returned (.bool true) ∧ Sat W w' [] := by
 have hS := Sat.start W
 have HR1 := Lib.hid hr1
 have HR2 := Lib.hid hr2
 have HR3 := Lib.hid hr3
 obtain ⟨_, _, he, hc1, hc2, _, h5⟩ := hr1
 simp only [Value.slice.injEq, true_and] at he
 obtain ⟨rfl, rfl⟩ := he
 obtain ⟨_, _, he, hd1, hd2, _, h6⟩ := hr2
 simp only [Value.slice.injEq, true_and] at he
 obtain ⟨rfl, rfl⟩ := he
 obtain ⟨_, _, he, he1, he2, _, h7⟩ := hr3
 simp only [Value.slice.injEq, true_and] at he
 obtain ⟨rfl, rfl⟩ := he
 have H5 := Lib.hid h5
 have H6 := Lib.hid h6
 have H7 := Lib.hid h7
 have HMD := Lib.hid (made_any hS (n := 400) (by decide) (by decide))
 have nl1 : (ns.length : Int) ≤ 9223372036854775807 := by omega
 have nl2 : (ms.length : Int) ≤ 9223372036854775807 := by omega
 have nl3 : (fl.length : Int) ≤ 9223372036854775807 := by omega
 clear h5 h6 h7 hc1 hc2 hd1 hd2 he1 he2
 have HZW := Lib.hid (show zeroB Tryz.prog 28 = some (some (.agg (wantL fun _ => 0).toArray)) by rw [wantL_zero]; kernel_rfl)
 have HZT := Lib.hid (show zeroB Tryz.prog 29 = some (some (.agg (mbn 32 fun _ => false).toArray)) by rw [mbn_false]; kernel_rfl)
 go_enter Tryz.func3, Tryz.ntmps3
 refine sep_part (fun KX HKX => ?_)
 go_wp2
 refine HKX.out _ _ ?_
 clear HKX KX
 refine sep_part (fun KX HKX => ?_)
 go_wp2_with (go_at_call 8; refine HMD.out.mono ?_; rintro e w1 hE; obtain ⟨pd, ps, D, rfl, hl, hS1⟩ := hE; have HL := Lib.hid hl; clear hl; clear hS; have hS := hS1; clear hS1)
 refine HKX.out _ _ ?_
 clear HKX KX HMD
 refine sep_part (fun KX HKX => ?_)
 go_wp2
 refine HKX.out _ _ ?_
 clear HKX KX
 refine sep_part (fun KX HKX => ?_)
 go_wp2_with (refine toList (by rfl) ?_; refine Go.Sep.al hS _ (by rfl) HZW.out ?_; clear hS; intro p9 w1 hS; rw [cells_agg] at hS)
 refine HKX.out _ _ ?_
 clear HKX KX
 refine sep_part (fun KX HKX => ?_)
 go_wp2_with (refine toList (by rfl) ?_; refine Go.Sep.al hS _ (by rfl) HZT.out ?_; clear hS; intro p10 w1 hS; rw [cells_agg] at hS)
 refine HKX.out _ _ ?_
 clear HKX KX
 refine sep_part (fun KX HKX => ?_)
 go_wp2
 refine HKX.out _ _ ?_
 clear HKX KX
 have H0 := Lib.hid (show KpI W [] ps pd p9 p10 (.int .i64 0) (.int .i64 0) _ from ⟨0, _, _, 0, zeroI, D, _, _, rfl, rfl, kpS_zero HL.out, hS.pull1⟩)
 clear hS HL
 refine sep_cut (KpJ W a1 a2 a3 ns.length c1 ms.length c2 fl.length c3 ps pd p9 p10) (fun KX HKX => ?_) ?_
 ·go_wp2
  go_loopw [11, 12] (fun v11 v12 wz => KpI W [] ps pd p9 p10 v11 v12 wz) (fun _ v12 _ => kpM 12 v12)
  case atStart => exact H0.out
  case round =>
   clear H0
   obtain ⟨i, want, there, size, f, D, B, S, rfl, rfl, hK, hS⟩ := hrel
   have HK := Lib.hid hK
   clear hK
   by_cases hlt : i < ns.length ∧ i < ms.length ∧ i < 12
   ·obtain ⟨hlt1, hlt2, hlt3⟩ := hlt
    have k1 : (i : Int) < (ns.length : Int) := by omega
    have k2 : (i : Int) < (ms.length : Int) := by omega
    have k3 : (i : Int) < 12 := by omega
    have HL1 := Lib.hid hlt1
    have HL2 := Lib.hid hlt2
    have HL3 := Lib.hid hlt3
    obtain ⟨ab, aof, rfl, _⟩ := H5.out (by omega)
    obtain ⟨bb, bof, rfl, _⟩ := H6.out (by omega)
    obtain ⟨x, hx⟩ : ∃ x, ns[i]? = some x := ⟨_, List.getElem?_eq_getElem hlt1⟩
    obtain ⟨y, hy⟩ : ∃ y, ms[i]? = some y := ⟨_, List.getElem?_eq_getElem hlt2⟩
    have HX := Lib.hid (show (ns.map (Value.int .i64))[i]? = some (.int .i64 x) by simp [hx])
    have HY := Lib.hid (show (ms.map (Value.int .i64))[i]? = some (.int .i64 y) by simp [hy])
    obtain ⟨a, ha⟩ : ∃ a : Nat, x % 4096 = (a : Int) := ⟨(x % 4096).toNat, by omega⟩
    have ha4 : (a : Int) ≤ 4095 := by omega
    have HP1 := Lib.hid (fun w => place_any x 4096 (by decide) (by decide) w)
    rw [ha] at HP1
    obtain ⟨n, hn⟩ : ∃ n : Nat, (n : Int) = (1 + (a : Int) + 127) / 128 := ⟨((1 + (a : Int) + 127) / 128).toNat, by omega⟩
    have hn1 : 1 ≤ n := by omega
    have hn32 : n ≤ 32 := by omega
    have hq : Int.tdiv (1 + (a : Int) + 128 - 1) 128 = (n : Int) := by rw [Int.tdiv_eq_ediv_of_nonneg (by omega)]; omega
    obtain ⟨k, hk⟩ : ∃ k : Nat, y % (n : Int) = (k : Int) := ⟨(y % (n : Int)).toNat, by have := Int.emod_nonneg y (show (n : Int) ≠ 0 by omega); omega⟩
    have hkn : k < n := by have := Int.emod_lt_of_pos y (show (0 : Int) < n by omega); omega
    have HP2 := Lib.hid (fun w => place_any y n (by omega) (by omega) w)
    rw [hk] at HP2
    have HN := Lib.hid hn
    have HKN := Lib.hid hkn
    have HN32 := Lib.hid hn32
    have n32 : (n : Int) ≤ 32 := by omega
    have k32 : (k : Int) < 32 := by omega
    have a0 : (0 : Int) ≤ (a : Int) := by omega
    clear hx hy ha hn hk hkn hn1 hn32 hlt1 hlt2 hlt3
    by_cases hf : i < fl.length
    ·have k4 : (i : Int) < (fl.length : Int) := by omega
     obtain ⟨fb, fof, rfl, _⟩ := H7.out (by omega)
     obtain ⟨v, hv⟩ : ∃ v, fl[i]? = some v := ⟨_, List.getElem?_eq_getElem hf⟩
     have HV := Lib.hid (show (bv fl)[i]? = some (u8 v) by simp [bv, hv])
     have HFI := Lib.hid hf
     clear hf hv
     go_wp2_with (first
      | (refine toList (by rfl) ?_; refine wp_of_reads (rLdRd1 (HR1.out.old hS) _ _ (by rfl) _ (by rfl) (agOf (by rfl)) i (by omega) HX.out (by have := HL1.out; omega)) ?_)
      | (refine toList (by rfl) ?_; refine wp_of_reads (rLdRd1 (HR2.out.old hS) _ _ (by rfl) _ (by rfl) (agOf (by rfl)) i (by omega) HY.out (by have := HL2.out; omega)) ?_)
      | (refine toList (by rfl) ?_; refine wp_of_reads (rLdRd1 (HR3.out.old hS) _ _ (by rfl) _ (by rfl) (agOf (by rfl)) i (by omega) HV.out (by have := HFI.out; omega)) ?_)
      | (go_at_call 9; refine (HP1.out _).mono ?_; rintro e w1 ⟨rfl, rfl⟩)
      | (go_at_call 9; refine (HP2.out _).mono ?_; rintro e w1 ⟨rfl, rfl⟩)
      | (refine toList (by rfl) ?_; refine mk hS _ _ _ (by rfl) 128 128 _ _ (by rfl) (by rfl) (elOf (by rfl)) (by omega) (by omega) (by omega) ?_; clear hS; intro pc w1 hS; rw [made_u8] at hS))
     as_aux_lemma =>
      have H1 := Lib.hid (show KpF W [Cs p9 28 (wantL want), Cs p10 29 (mbn 32 there), IsSt ps pd S, IsDisk pd D] pc v (.int .i64 0) _ from ⟨0, rfl, Nat.zero_le _, by rw [← fillB_zero]; exact hS⟩)
      clear hS
      go_loopw [17] (fun v17 wz => KpF W [Cs p9 28 (wantL want), Cs p10 29 (mbn 32 there), IsSt ps pd S, IsDisk pd D] pc v v17 wz) (fun v17 _ => kpM 128 v17)
      case atStart => exact H1.out
      case round =>
       clear H1
       obtain ⟨j, rfl, hj, hS⟩ := hrel
       by_cases hjl : j < 128
       ·have k5 : (j : Int) < 128 := by omega
        have HJ := Lib.hid hjl
        have HFS := Lib.hid (fillB_set v hjl)
        have HFL := Lib.hid (show j < (bv (fillB v j)).length by rw [bv_length, fillB_len v (by omega)]; exact hjl)
        clear hjl hj
        go_wp2_with (refine toList (by rfl) ?_; refine Go.Sep.st hS _ _ _ (by rfl) _ _ (by rfl) (u8 v) (by rfl) (by rfl) (szOf (by rfl)) Has.z HFL.out ?_; clear hS; intro w1 hS; rw [List.set_cons_zero, HFS.out] at hS)
        exact ⟨⟨j + 1, by go_num, HJ.out, hS⟩, kpM_lt HJ.out⟩
       ·obtain rfl : j = 128 := by omega
        clear hjl hj
        rw [fillB_all] at hS
        have HDL := Lib.hid (show (List.replicate 128 v).length = 128 from List.length_replicate ..)
        obtain ⟨ci, X, hbi, hbs, hx1, hxl, hxk⟩ := keepXX a i
        have HBI := Lib.hid hbi
        have HBS := Lib.hid hbs
        have HX1 := Lib.hid hx1
        have HXL := Lib.hid hxl
        have HXK := Lib.hid hxk
        clear hbi hbs hx1 hxl hxk
        go_wp2_with (first
         | (refine toList (by rfl) ?_; refine bsF hS _ _ _ (by rfl) (elOf (by rfl)) [.int .i64 (k : Int)] (by rfl) (by rfl) (by decide) (by decide) (by simp [Value.cells]) ?_; clear hS; intro b1 w1 hS; rw [sca1 rfl] at hS)
         | (refine toList (by rfl) ?_; refine bsF hS _ _ _ (by rfl) (elOf (by rfl)) [.slice (some ⟨pc, 0, none⟩) 128 128] (by rfl) (by rfl) (by decide) (by decide) (by simp [Value.cells]) ?_; clear hS; intro b2 w1 hS; rw [sca1 rfl] at hS; replace hS := Sat.rwsOne (R := Br) (csBr HDL.out (show Sat W _ (Cs pc _ _ :: Cs b2 _ _ :: Cs b1 _ _ :: _ :: _ :: _ :: _ :: []) from hS.re [2, 0])).pull1)
         | (refine toList (by rfl) ?_; refine bd _ _ (by rfl) (by simp only [List.map_toArray, List.map_cons, List.map_nil]; rfl) HBI.out ?_)
         | (refine toList (by rfl) ?_; refine bd _ _ (by rfl) (by simp only [List.map_toArray, List.map_cons, List.map_nil]; rfl) (HBS.out _ _) ?_)
         | (refine toList (by rfl) ?_; refine Go.Sep.al hS _ (by rfl) (zrOf (by rfl)) ?_; clear hS; intro p18 w1 hS; rw [cells_agg] at hS)
         | (refine toList (by rfl) ?_; refine stW hS _ _ _ (by rfl) (by rfl) (X b1 b2) (by rfl) (HX1.out _ _) (by rw [HXL.out]; exact szOf (by rfl)) Has.z (by rw [HXL.out]; rfl) ?_; clear hS; intro w1 hS; rw [List.set_cons_zero] at hS)
         | (refine toList (by rfl) ?_; refine ldW hS _ _ (by rfl) (by rfl) (agOf (by rfl)) (by rw [HXL.out]; exact szOf (by rfl)) Has.z ?_)
         | (refine toList (by rfl) ?_; refine bsF hS _ _ _ (by rfl) (elOf (by rfl)) [.agg (X b1 b2).toArray] (by rfl) (by rfl) (by decide) (by decide) (by intro u hu; rw [List.mem_singleton.1 hu]; exact aggCells (HXL.out _ _)) ?_; clear hS; intro b3 w1 hS; rw [agg1] at hS)
         | (go_at_call 10; obtain ⟨vs, hvl, hS3⟩ := (show Sat W _ (Rws _ _ _ :: _ :: _ :: _ :: _ :: _ :: _ :: _ :: []) from hS.re [2]).rwsOpen; rw [HXK.out b1 b2 k v vs] at hS3; clear hS; obtain ⟨S', D', B', f', e1, hK'⟩ := HK.out.step HL3.out (z := 1 + (a : Int)) (n := n) (k := k) ⟨by omega, by omega⟩ HN.out HKN.out v (.slice (some ⟨b1, 0, none⟩) 1 1) (.slice (some ⟨b2, 0, none⟩) 1 1) vs; have HK2 := Lib.hid hK'; have HCM := Lib.hid (fun w (h : Sat W w (Tb 0 1 one1 (.slice (some ⟨b2, 0, none⟩) 1 1) vs :: St (List.zipWith Br vs [List.replicate 128 v]) :: Cs b3 36 (setv (keepX (1 + (a : Int)) i k v (.slice (some ⟨b1, 0, none⟩) 1 1) (.slice (some ⟨b2, 0, none⟩) 1 1) vs)) :: Cs p18 36 (setv (keepX (1 + (a : Int)) i k v (.slice (some ⟨b1, 0, none⟩) 1 1) (.slice (some ⟨b2, 0, none⟩) 1 1) vs)) :: Cs b1 3 [.int .i64 (k : Int)] :: Cs p9 28 (wantL want) :: Cs p10 29 (mbn 32 there) :: IsSt ps pd S :: IsDisk pd D :: [])) => scommit_any (h.re [7, 8]) HK.out.ok' HK.out.lv.ok [keepX (1 + (a : Int)) i k v (.slice (some ⟨b1, 0, none⟩) 1 1) (.slice (some ⟨b2, 0, none⟩) 1 1) vs] (by show 60 + 43 * i + 1 ≤ 80000; have := HL3.out; omega) 10 true (some ⟨b3, 0, none⟩) 1 (fun w L' h => sets_one h rfl (show -9223372036854775808 ≤ 1 + (a : Int) ∧ 1 + (a : Int) ≤ 9223372036854775807 by omega) (has_add (Has.s (Has.s Has.z)) L') (show Rd w (.slice (some ⟨b1, 0, none⟩) 1 1) 1 1 [.int .i64 (k : Int)] from h.csRd0 (n := 1) (sz := 1) (has_add (Has.s (Has.s (Has.s (Has.s Has.z)))) L') (by decide) rfl) (has_add Has.z L') (has_add (Has.s Has.z) L') hvl)); rw [e1] at HCM; have hS := (show Sat W _ (Tb 0 1 one1 (.slice (some ⟨b2, 0, none⟩) 1 1) vs :: St (List.zipWith Br vs [List.replicate 128 v]) :: Cs b3 36 (setv (keepX (1 + (a : Int)) i k v (.slice (some ⟨b1, 0, none⟩) 1 1) (.slice (some ⟨b2, 0, none⟩) 1 1) vs)) :: Cs p18 36 (setv (keepX (1 + (a : Int)) i k v (.slice (some ⟨b1, 0, none⟩) 1 1) (.slice (some ⟨b2, 0, none⟩) 1 1) vs)) :: Cs b1 3 [.int .i64 (k : Int)] :: Cs p9 28 (wantL want) :: Cs p10 29 (mbn 32 there) :: IsSt ps pd S :: IsDisk pd D :: []) from hS3); clear hS3 e1 hK'; refine (HCM.out _ hS).mono ?_; clear hS; rintro e w1 ⟨rfl, hS⟩; dsimp only at hS ⊢; replace hS := (show Sat W _ (_ :: _ :: _ :: _ :: _ :: _ :: _ :: _ :: _ :: []) from hS.re [2, 3, 4, 5, 6, 7, 8]).drop.drop.drop.drop.drop))
        have H2 := Lib.hid (show KpL W [Cs p9 28 (wantL want), IsSt ps pd S', IsDisk pd D'] p10 n there (.int .i64 (n : Int)) _ from ⟨n, rfl, Nat.le_refl _, HN32.out, by rw [lessT_zero]; exact hS.pull1⟩)
        clear hS HCM
        go_loopw [19] (fun v19 wz => KpL W [Cs p9 28 (wantL want), IsSt ps pd S', IsDisk pd D'] p10 n there v19 wz) (fun v19 _ => kpM 32 v19)
        case atStart => exact H2.out
        case round =>
         clear H2
         obtain ⟨j, rfl, hnj, hj, hS⟩ := hrel
         by_cases hjl : j < 32
         ·have k5 : (j : Int) < 32 := by omega
          have HJ := Lib.hid hjl
          have HNJ := Lib.hid hnj
          have HFS := Lib.hid ((mbn_set (lessT there n j) false hjl).trans (by rw [lessT_succ there hnj]))
          have HFL := Lib.hid (show j < (mbn 32 (lessT there n j)).length by rw [mbn_len]; exact hjl)
          clear hjl hj hnj
          go_wp2_with (refine toList (by rfl) ?_; refine Go.Sep.st hS _ _ _ (by rfl) _ _ (by rfl) (.bool false) (by rfl) (by rfl) (szOf (by rfl)) Has.z HFL.out ?_; clear hS; intro w1 hS; rw [List.set_cons_zero, HFS.out] at hS)
          exact ⟨⟨j + 1, by go_num, Nat.le_succ_of_le HNJ.out, HJ.out, hS⟩, kpM_lt HJ.out⟩
         ·obtain rfl : j = 32 := by omega
          have hk32 : k < 32 := by have := HKN.out; have := HN32.out; omega
          have HW1 := Lib.hid (wantL_set want v hk32)
          have HW2 := Lib.hid ((mbn_set (lessT there n 32) true hk32).trans (lessT_all there n k))
          have HWL := Lib.hid (show k < (wantL want).length by rw [wantL_len]; exact hk32)
          have HTL := Lib.hid (show k < (mbn 32 (lessT there n 32)).length by rw [mbn_len]; exact hk32)
          clear hjl hj hnj hk32
          go_wp2_with (first
           | (refine toList (by rfl) ?_; refine Go.Sep.st hS _ _ _ (by rfl) _ _ (by rfl) (u8 v) (by rfl) (by rfl) (szOf (by rfl)) (Has.s Has.z) HWL.out ?_; clear hS; intro w1 hS; rw [List.set_cons_succ, List.set_cons_zero, HW1.out] at hS)
           | (refine toList (by rfl) ?_; refine Go.Sep.st hS _ _ _ (by rfl) _ _ (by rfl) (.bool true) (by rfl) (by rfl) (szOf (by rfl)) Has.z HTL.out ?_; clear hS; intro w1 hS; rw [List.set_cons_zero, HW2.out] at hS))
          exact ⟨⟨i + 1, _, _, _, f', D', B', S', rfl, by go_num, HK2.out, hS.pull1⟩, kpM_lt HL3.out⟩
    ·have k4 : ¬ (i : Int) < (fl.length : Int) := by omega
     clear hf
     go_wp2_with (first
      | (refine toList (by rfl) ?_; refine wp_of_reads (rLdRd1 (HR1.out.old hS) _ _ (by rfl) _ (by rfl) (agOf (by rfl)) i (by omega) HX.out (by have := HL1.out; omega)) ?_)
      | (refine toList (by rfl) ?_; refine wp_of_reads (rLdRd1 (HR2.out.old hS) _ _ (by rfl) _ (by rfl) (agOf (by rfl)) i (by omega) HY.out (by have := HL2.out; omega)) ?_)
      | (go_at_call 9; refine (HP1.out _).mono ?_; rintro e w1 ⟨rfl, rfl⟩)
      | (go_at_call 9; refine (HP2.out _).mono ?_; rintro e w1 ⟨rfl, rfl⟩)
      | (refine toList (by rfl) ?_; refine mk hS _ _ _ (by rfl) 128 128 _ _ (by rfl) (by rfl) (elOf (by rfl)) (by omega) (by omega) (by omega) ?_; clear hS; intro pc w1 hS; rw [made_u8] at hS))
     obtain ⟨v, hv⟩ : ∃ v : UInt8, v.toNat = i + 1 := ⟨UInt8.ofNat (i + 1), by rw [UInt8.toNat_ofNat']; have := HL3.out; omega⟩
     rw [show Value.int .u8 ((i : Int) + 1) = u8 v by unfold u8; rw [hv]; rfl]
     clear hv
     as_aux_lemma =>
      have H1 := Lib.hid (show KpF W [Cs p9 28 (wantL want), Cs p10 29 (mbn 32 there), IsSt ps pd S, IsDisk pd D] pc v (.int .i64 0) _ from ⟨0, rfl, Nat.zero_le _, by rw [← fillB_zero]; exact hS⟩)
      clear hS
      go_loopw [17] (fun v17 wz => KpF W [Cs p9 28 (wantL want), Cs p10 29 (mbn 32 there), IsSt ps pd S, IsDisk pd D] pc v v17 wz) (fun v17 _ => kpM 128 v17)
      case atStart => exact H1.out
      case round =>
       clear H1
       obtain ⟨j, rfl, hj, hS⟩ := hrel
       by_cases hjl : j < 128
       ·have k5 : (j : Int) < 128 := by omega
        have HJ := Lib.hid hjl
        have HFS := Lib.hid (fillB_set v hjl)
        have HFL := Lib.hid (show j < (bv (fillB v j)).length by rw [bv_length, fillB_len v (by omega)]; exact hjl)
        clear hjl hj
        go_wp2_with (refine toList (by rfl) ?_; refine Go.Sep.st hS _ _ _ (by rfl) _ _ (by rfl) (u8 v) (by rfl) (by rfl) (szOf (by rfl)) Has.z HFL.out ?_; clear hS; intro w1 hS; rw [List.set_cons_zero, HFS.out] at hS)
        exact ⟨⟨j + 1, by go_num, HJ.out, hS⟩, kpM_lt HJ.out⟩
       ·obtain rfl : j = 128 := by omega
        clear hjl hj
        rw [fillB_all] at hS
        have HDL := Lib.hid (show (List.replicate 128 v).length = 128 from List.length_replicate ..)
        obtain ⟨ci, X, hbi, hbs, hx1, hxl, hxk⟩ := keepXX a i
        have HBI := Lib.hid hbi
        have HBS := Lib.hid hbs
        have HX1 := Lib.hid hx1
        have HXL := Lib.hid hxl
        have HXK := Lib.hid hxk
        clear hbi hbs hx1 hxl hxk
        go_wp2_with (first
         | (refine toList (by rfl) ?_; refine bsF hS _ _ _ (by rfl) (elOf (by rfl)) [.int .i64 (k : Int)] (by rfl) (by rfl) (by decide) (by decide) (by simp [Value.cells]) ?_; clear hS; intro b1 w1 hS; rw [sca1 rfl] at hS)
         | (refine toList (by rfl) ?_; refine bsF hS _ _ _ (by rfl) (elOf (by rfl)) [.slice (some ⟨pc, 0, none⟩) 128 128] (by rfl) (by rfl) (by decide) (by decide) (by simp [Value.cells]) ?_; clear hS; intro b2 w1 hS; rw [sca1 rfl] at hS; replace hS := Sat.rwsOne (R := Br) (csBr HDL.out (show Sat W _ (Cs pc _ _ :: Cs b2 _ _ :: Cs b1 _ _ :: _ :: _ :: _ :: _ :: []) from hS.re [2, 0])).pull1)
         | (refine toList (by rfl) ?_; refine bd _ _ (by rfl) (by simp only [List.map_toArray, List.map_cons, List.map_nil]; rfl) HBI.out ?_)
         | (refine toList (by rfl) ?_; refine bd _ _ (by rfl) (by simp only [List.map_toArray, List.map_cons, List.map_nil]; rfl) (HBS.out _ _) ?_)
         | (refine toList (by rfl) ?_; refine Go.Sep.al hS _ (by rfl) (zrOf (by rfl)) ?_; clear hS; intro p18 w1 hS; rw [cells_agg] at hS)
         | (refine toList (by rfl) ?_; refine stW hS _ _ _ (by rfl) (by rfl) (X b1 b2) (by rfl) (HX1.out _ _) (by rw [HXL.out]; exact szOf (by rfl)) Has.z (by rw [HXL.out]; rfl) ?_; clear hS; intro w1 hS; rw [List.set_cons_zero] at hS)
         | (refine toList (by rfl) ?_; refine ldW hS _ _ (by rfl) (by rfl) (agOf (by rfl)) (by rw [HXL.out]; exact szOf (by rfl)) Has.z ?_)
         | (refine toList (by rfl) ?_; refine bsF hS _ _ _ (by rfl) (elOf (by rfl)) [.agg (X b1 b2).toArray] (by rfl) (by rfl) (by decide) (by decide) (by intro u hu; rw [List.mem_singleton.1 hu]; exact aggCells (HXL.out _ _)) ?_; clear hS; intro b3 w1 hS; rw [agg1] at hS)
         | (go_at_call 10; obtain ⟨vs, hvl, hS3⟩ := (show Sat W _ (Rws _ _ _ :: _ :: _ :: _ :: _ :: _ :: _ :: _ :: []) from hS.re [2]).rwsOpen; rw [HXK.out b1 b2 k v vs] at hS3; clear hS; obtain ⟨S', D', B', f', e1, hK'⟩ := HK.out.step HL3.out (z := 1 + (a : Int)) (n := n) (k := k) ⟨by omega, by omega⟩ HN.out HKN.out v (.slice (some ⟨b1, 0, none⟩) 1 1) (.slice (some ⟨b2, 0, none⟩) 1 1) vs; have HK2 := Lib.hid hK'; have HCM := Lib.hid (fun w (h : Sat W w (Tb 0 1 one1 (.slice (some ⟨b2, 0, none⟩) 1 1) vs :: St (List.zipWith Br vs [List.replicate 128 v]) :: Cs b3 36 (setv (keepX (1 + (a : Int)) i k v (.slice (some ⟨b1, 0, none⟩) 1 1) (.slice (some ⟨b2, 0, none⟩) 1 1) vs)) :: Cs p18 36 (setv (keepX (1 + (a : Int)) i k v (.slice (some ⟨b1, 0, none⟩) 1 1) (.slice (some ⟨b2, 0, none⟩) 1 1) vs)) :: Cs b1 3 [.int .i64 (k : Int)] :: Cs p9 28 (wantL want) :: Cs p10 29 (mbn 32 there) :: IsSt ps pd S :: IsDisk pd D :: [])) => scommit_any (h.re [7, 8]) HK.out.ok' HK.out.lv.ok [keepX (1 + (a : Int)) i k v (.slice (some ⟨b1, 0, none⟩) 1 1) (.slice (some ⟨b2, 0, none⟩) 1 1) vs] (by show 60 + 43 * i + 1 ≤ 80000; have := HL3.out; omega) 10 true (some ⟨b3, 0, none⟩) 1 (fun w L' h => sets_one h rfl (show -9223372036854775808 ≤ 1 + (a : Int) ∧ 1 + (a : Int) ≤ 9223372036854775807 by omega) (has_add (Has.s (Has.s Has.z)) L') (show Rd w (.slice (some ⟨b1, 0, none⟩) 1 1) 1 1 [.int .i64 (k : Int)] from h.csRd0 (n := 1) (sz := 1) (has_add (Has.s (Has.s (Has.s (Has.s Has.z)))) L') (by decide) rfl) (has_add Has.z L') (has_add (Has.s Has.z) L') hvl)); rw [e1] at HCM; have hS := (show Sat W _ (Tb 0 1 one1 (.slice (some ⟨b2, 0, none⟩) 1 1) vs :: St (List.zipWith Br vs [List.replicate 128 v]) :: Cs b3 36 (setv (keepX (1 + (a : Int)) i k v (.slice (some ⟨b1, 0, none⟩) 1 1) (.slice (some ⟨b2, 0, none⟩) 1 1) vs)) :: Cs p18 36 (setv (keepX (1 + (a : Int)) i k v (.slice (some ⟨b1, 0, none⟩) 1 1) (.slice (some ⟨b2, 0, none⟩) 1 1) vs)) :: Cs b1 3 [.int .i64 (k : Int)] :: Cs p9 28 (wantL want) :: Cs p10 29 (mbn 32 there) :: IsSt ps pd S :: IsDisk pd D :: []) from hS3); clear hS3 e1 hK'; refine (HCM.out _ hS).mono ?_; clear hS; rintro e w1 ⟨rfl, hS⟩; dsimp only at hS ⊢; replace hS := (show Sat W _ (_ :: _ :: _ :: _ :: _ :: _ :: _ :: _ :: _ :: []) from hS.re [2, 3, 4, 5, 6, 7, 8]).drop.drop.drop.drop.drop))
        have H2 := Lib.hid (show KpL W [Cs p9 28 (wantL want), IsSt ps pd S', IsDisk pd D'] p10 n there (.int .i64 (n : Int)) _ from ⟨n, rfl, Nat.le_refl _, HN32.out, by rw [lessT_zero]; exact hS.pull1⟩)
        clear hS HCM
        go_loopw [19] (fun v19 wz => KpL W [Cs p9 28 (wantL want), IsSt ps pd S', IsDisk pd D'] p10 n there v19 wz) (fun v19 _ => kpM 32 v19)
        case atStart => exact H2.out
        case round =>
         clear H2
         obtain ⟨j, rfl, hnj, hj, hS⟩ := hrel
         by_cases hjl : j < 32
         ·have k5 : (j : Int) < 32 := by omega
          have HJ := Lib.hid hjl
          have HNJ := Lib.hid hnj
          have HFS := Lib.hid ((mbn_set (lessT there n j) false hjl).trans (by rw [lessT_succ there hnj]))
          have HFL := Lib.hid (show j < (mbn 32 (lessT there n j)).length by rw [mbn_len]; exact hjl)
          clear hjl hj hnj
          go_wp2_with (refine toList (by rfl) ?_; refine Go.Sep.st hS _ _ _ (by rfl) _ _ (by rfl) (.bool false) (by rfl) (by rfl) (szOf (by rfl)) Has.z HFL.out ?_; clear hS; intro w1 hS; rw [List.set_cons_zero, HFS.out] at hS)
          exact ⟨⟨j + 1, by go_num, Nat.le_succ_of_le HNJ.out, HJ.out, hS⟩, kpM_lt HJ.out⟩
         ·obtain rfl : j = 32 := by omega
          have hk32 : k < 32 := by have := HKN.out; have := HN32.out; omega
          have HW1 := Lib.hid (wantL_set want v hk32)
          have HW2 := Lib.hid ((mbn_set (lessT there n 32) true hk32).trans (lessT_all there n k))
          have HWL := Lib.hid (show k < (wantL want).length by rw [wantL_len]; exact hk32)
          have HTL := Lib.hid (show k < (mbn 32 (lessT there n 32)).length by rw [mbn_len]; exact hk32)
          clear hjl hj hnj hk32
          go_wp2_with (first
           | (refine toList (by rfl) ?_; refine Go.Sep.st hS _ _ _ (by rfl) _ _ (by rfl) (u8 v) (by rfl) (by rfl) (szOf (by rfl)) (Has.s Has.z) HWL.out ?_; clear hS; intro w1 hS; rw [List.set_cons_succ, List.set_cons_zero, HW1.out] at hS)
           | (refine toList (by rfl) ?_; refine Go.Sep.st hS _ _ _ (by rfl) _ _ (by rfl) (.bool true) (by rfl) (by rfl) (szOf (by rfl)) Has.z HTL.out ?_; clear hS; intro w1 hS; rw [List.set_cons_zero, HW2.out] at hS))
          exact ⟨⟨i + 1, _, _, _, f', D', B', S', rfl, by go_num, HK2.out, hS.pull1⟩, kpM_lt HL3.out⟩
   ·have hex : (¬ i < ns.length) ∨ (i < ns.length ∧ ¬ i < ms.length) ∨ (i < ns.length ∧ i < ms.length ∧ ¬ i < 12) := by omega
    have H9 := Lib.hid (show KpI W [] ps pd p9 p10 (.int .i64 size) (.int .i64 (i : Int)) _ from ⟨i, want, there, size, f, D, B, S, rfl, rfl, HK.out, hS⟩)
    clear hlt hS HK
    rcases hex with k1 | ⟨k1, k2⟩ | ⟨k1, k2, k3⟩
    ·have e1 : ¬ (i : Int) < (ns.length : Int) := by omega
     clear k1
     go_wp2
     refine HKX.out _ _ ?_
     unfold KpJ
     exact ⟨H9.out, rfl⟩
    ·have e1 : (i : Int) < (ns.length : Int) := by omega
     have e2 : ¬ (i : Int) < (ms.length : Int) := by omega
     clear k1 k2
     go_wp2
     refine HKX.out _ _ ?_
     unfold KpJ
     exact ⟨H9.out, rfl⟩
    ·have e1 : (i : Int) < (ns.length : Int) := by omega
     have e2 : (i : Int) < (ms.length : Int) := by omega
     have e3 : ¬ (i : Int) < 12 := by omega
     clear k1 k2 k3
     go_wp2
     refine HKX.out _ _ ?_
     unfold KpJ
     exact ⟨H9.out, rfl⟩
 clear H0 HZW HZT H5 H6 H7
 rintro a wz hinv
 unfold KpJ at hinv
 obtain ⟨hrel, ha⟩ := hinv
 obtain ⟨z, hz⟩ : ∃ z : Nat → Value, ∀ i, a.tmps.getD i undef = z i := ⟨_, fun _ => rfl⟩
 simp only [hz] at hrel ha
 clear hz
 subst ha
 obtain ⟨i, want, there, size, f, D, B, S, h11, h12, hK, hS⟩ := hrel
 rw [h11]
 clear h11 h12
 have HK := Lib.hid hK
 clear hK
 have hi12 := HK.out.i12
 have HIN := Lib.hid (fun w L ps (h : Sat W w (IsSt ps pd S :: L)) => sinode_any h HK.out.ok.x 5 HK.out.at5)
 have HBK := Lib.hid (fun w L ps k (hk : k < 32) (h : Sat W w (IsSt ps pd S :: IsDisk pd D :: L)) => keepB HK.out hk h)
 have HFR := Lib.hid (fun w L ps (h : Sat W w (IsSt ps pd S :: L)) => keepF HK.out h)
 have HO := Lib.hid (fun w L (h : Sat W w (IsDisk pd D :: L)) => open_live HK.out.ok HK.out.lv (by omega) h)
 have HF1 := Lib.hid (inv_one f)
 have HFL := Lib.hid (show (inv f).length = 37 by rw [inv_len, HK.out.okf.pl])
 have hfk : (size = 0) ∨ (0 < size ∧ (inv f)[0]? = some (.int .i64 1) ∧ (inv f)[1]? = some (.int .i64 size)) := by
  rcases HK.out.fk with ⟨_, h⟩ | ⟨h1, _, h3, h4⟩
  ·exact .inl h
  ·exact .inr ⟨h4, by show some (Value.int .i64 f.kind) = _; rw [h1], by show some (Value.int .i64 f.size) = _; rw [h3]⟩
 obtain ⟨fi, hfi⟩ : ∃ v, inv f = v := ⟨_, rfl⟩
 rw [hfi] at HIN HF1 HFL hfk
 clear hi12 hfi
 go_wp2
 have H3 := Lib.hid (show KpR W [] pd p9 p10 want there D S (.pointer (some ⟨ps, 0, none⟩)) (.int .i64 0) _ from ⟨0, ps, rfl, rfl, by decide, hS⟩)
 clear hS
 go_loopw [8, 20] (fun v8 v20 wz => KpR W [] pd p9 p10 want there D S v8 v20 wz) (fun _ v20 _ => kpM 2 v20)
 case atStart => exact H3.out
 case round =>
  clear H3
  obtain ⟨r, ps, rfl, rfl, hr, hS⟩ := hrel
  by_cases hrl : r < 2
  ·have k6 : (r : Int) < 2 := by omega
   have HRL := Lib.hid hrl
   clear hrl hr
   rcases hfk with hs0 | ⟨hs0, hs1, hs2⟩
   ·subst hs0
    go_wp2_with (first
     | (go_at_call 11; refine (HIN.out _ _ _ (hS.re [2])).mono ?_; clear hS; rintro e w1 ⟨rfl, hS⟩; replace hS := (show Sat W _ (_ :: _ :: _ :: _ :: []) from hS.re [1, 2, 0]))
     | (refine toList (by rfl) ?_; refine Go.Sep.al hS _ (by rfl) (zrOf (by rfl)) ?_; clear hS; intro p21 w1 hS; rw [cells_agg] at hS)
     | (refine toList (by rfl) ?_; refine stW hS _ _ _ (by rfl) (by rfl) fi (by rfl) HF1.out (by rw [HFL.out]; exact szOf (by rfl)) Has.z (by rw [HFL.out]; rfl) ?_; clear hS; intro w1 hS; rw [List.set_cons_zero] at hS)
     | (refine toList (by rfl) ?_; refine ld hS _ _ (by rfl) _ _ (by rfl) (agOf (by rfl)) Has.z HS1.out ?_)
     | (refine toList (by rfl) ?_; refine ld hS _ _ (by rfl) _ _ (by rfl) (agOf (by rfl)) Has.z HS2.out ?_))
    as_aux_lemma =>
     have H4 := Lib.hid (show KpB W [Cs p21 33 fi, Cs p9 28 (wantL want), Cs p10 29 (mbn 32 there), IsSt ps pd S, IsDisk pd D] there (.int .i64 0) (.int .i64 0) _ from ⟨0, rfl, rfl, Nat.zero_le _, hS⟩)
     clear hS
     go_loopw [23, 24] (fun v23 v24 wz => KpB W [Cs p21 33 fi, Cs p9 28 (wantL want), Cs p10 29 (mbn 32 there), IsSt ps pd S, IsDisk pd D] there v23 v24 wz) (fun _ v24 _ => kpM 32 v24)
     case atStart => exact H4.out
     case round =>
      clear H4
      obtain ⟨k, rfl, rfl, hk, hS⟩ := hrel
      by_cases hkl : k < 32
      ·have k7 : (k : Int) < 32 := by omega
       have HKL := Lib.hid hkl
       have HBC := Lib.hid (fun w ps (h : Sat W w (IsSt ps pd S :: IsDisk pd D :: [Cs p21 33 fi, Cs p9 28 (wantL want), Cs p10 29 (mbn 32 there)])) => HBK.out w _ ps k hkl h)
       have HT := Lib.hid (mbn_at there hkl)
       have HWA := Lib.hid (show (wantL want)[k]? = some (.int .u8 ((want k).toNat : Int)) from wantL_at want hkl)
       have hcn := cntH_succ there k
       have hcl := cntH_le there k
       have hcl2 : ((cntH there k : Nat) : Int) ≤ 32 := by omega
       obtain ⟨d, hd⟩ : ∃ d, vbK want there k = d := ⟨_, rfl⟩
       rw [hd] at HBC
       unfold vbK at hd
       obtain ⟨t, ht⟩ : ∃ t, there k = t := ⟨_, rfl⟩
       rw [ht] at hd hcn HT
       obtain ⟨cn, hcnn⟩ : ∃ n, cntH there k = n := ⟨_, rfl⟩
       rw [hcnn] at hcn hcl2 ⊢
       clear hk hkl ht hcl hcnn
       cases t with
       | true =>
        rw [if_pos rfl] at hcn
        have HCN := Lib.hid hcn
        have HB0 := Lib.hid (show (bv d)[0]? = some (.int .u8 ((want k).toNat : Int)) by rw [← hd]; rfl)
        have HB7 := Lib.hid (show (bv d)[127]? = some (.int .u8 ((want k).toNat : Int)) by rw [← hd]; rfl)
        clear hd hcn
        go_wp2_with (first
         | (go_at_call 12; refine (HBC.out _ _ (hS.re [3, 4])).mono ?_; rintro e w1 hE; obtain ⟨q, rfl, E, hS1⟩ := hE; clear hS; have hS := hS1; clear hS1)
         | (refine toList (by rfl) ?_; refine ld hS _ _ (by rfl) _ _ (by rfl) (agOf (by rfl)) (Has.s (Has.s (Has.s (Has.s (Has.s Has.z))))) HT.out ?_)
         | (refine toList (by rfl) ?_; refine ld hS _ _ (by rfl) _ _ (by rfl) (agOf (by rfl)) (Has.s (Has.s (Has.s (Has.s Has.z)))) HWA.out ?_)
         | (refine toList (by rfl) ?_; refine ld hS _ _ (by rfl) _ _ (by rfl) (agOf (by rfl)) Has.z HB0.out ?_)
         | (refine toList (by rfl) ?_; refine ld hS _ _ (by rfl) _ _ (by rfl) (agOf (by rfl)) Has.z HB7.out ?_))
        exact ⟨⟨k + 1, by rw [HCN.out]; go_num, by go_num, HKL.out, (hS.drop.re [2, 3, 4, 0, 1])⟩, kpM_lt HKL.out⟩
       | false =>
        rw [if_neg (by decide)] at hcn
        have HCN := Lib.hid hcn
        have HB0 := Lib.hid (show (bv d)[0]? = some (.int .u8 0) by rw [← hd]; rfl)
        have HB7 := Lib.hid (show (bv d)[127]? = some (.int .u8 0) by rw [← hd]; rfl)
        clear hd hcn
        go_wp2_with (first
         | (go_at_call 12; refine (HBC.out _ _ (hS.re [3, 4])).mono ?_; rintro e w1 hE; obtain ⟨q, rfl, E, hS1⟩ := hE; clear hS; have hS := hS1; clear hS1)
         | (refine toList (by rfl) ?_; refine ld hS _ _ (by rfl) _ _ (by rfl) (agOf (by rfl)) (Has.s (Has.s (Has.s (Has.s (Has.s Has.z))))) HT.out ?_)
         | (refine toList (by rfl) ?_; refine ld hS _ _ (by rfl) _ _ (by rfl) (agOf (by rfl)) Has.z HB0.out ?_)
         | (refine toList (by rfl) ?_; refine ld hS _ _ (by rfl) _ _ (by rfl) (agOf (by rfl)) Has.z HB7.out ?_))
        exact ⟨⟨k + 1, by rw [HCN.out]; rfl, by go_num, HKL.out, (hS.drop.re [2, 3, 4, 0, 1])⟩, kpM_lt HKL.out⟩
      ·obtain rfl : k = 32 := by omega
       clear hk hkl
       obtain ⟨cn, hcnn⟩ : ∃ n, cntH there 32 = n := ⟨_, rfl⟩
       have hcl := cntH_le there 32
       rw [hcnn] at HFR hcl ⊢
       have hcl2 : (cn : Int) ≤ 32 := by omega
       clear hcnn hcl
       go_wp2_with (first
        | (go_at_call 13; refine (HFR.out _ _ _ (hS.re [3])).mono ?_; clear hS; rintro e w1 ⟨rfl, hS⟩; replace hS := (show Sat W _ (_ :: _ :: _ :: _ :: _ :: []) from hS.re [1, 2, 3, 0]))
        | (go_at_call 14; refine (HO.out _ _ (hS.re [4])).mono ?_; rintro e w1 hE; obtain ⟨ps2, rfl, hS1⟩ := hE; clear hS; have hS := hS1; clear hS1))
       exact ⟨⟨r + 1, ps2, rfl, by go_num, HRL.out, (show Sat W _ (_ :: _ :: _ :: _ :: _ :: _ :: []) from hS.re [2, 5, 3, 4, 0, 1]).drop.drop⟩, kpM_lt HRL.out⟩
   ·have HS1 := Lib.hid hs1
    have HS2 := Lib.hid hs2
    clear hs1 hs2
    go_wp2_with (first
     | (go_at_call 11; refine (HIN.out _ _ _ (hS.re [2])).mono ?_; clear hS; rintro e w1 ⟨rfl, hS⟩; replace hS := (show Sat W _ (_ :: _ :: _ :: _ :: []) from hS.re [1, 2, 0]))
     | (refine toList (by rfl) ?_; refine Go.Sep.al hS _ (by rfl) (zrOf (by rfl)) ?_; clear hS; intro p21 w1 hS; rw [cells_agg] at hS)
     | (refine toList (by rfl) ?_; refine stW hS _ _ _ (by rfl) (by rfl) fi (by rfl) HF1.out (by rw [HFL.out]; exact szOf (by rfl)) Has.z (by rw [HFL.out]; rfl) ?_; clear hS; intro w1 hS; rw [List.set_cons_zero] at hS)
     | (refine toList (by rfl) ?_; refine ld hS _ _ (by rfl) _ _ (by rfl) (agOf (by rfl)) Has.z HS1.out ?_)
     | (refine toList (by rfl) ?_; refine ld hS _ _ (by rfl) _ _ (by rfl) (agOf (by rfl)) Has.z HS2.out ?_))
    as_aux_lemma =>
     have H4 := Lib.hid (show KpB W [Cs p21 33 fi, Cs p9 28 (wantL want), Cs p10 29 (mbn 32 there), IsSt ps pd S, IsDisk pd D] there (.int .i64 0) (.int .i64 0) _ from ⟨0, rfl, rfl, Nat.zero_le _, hS⟩)
     clear hS
     go_loopw [23, 24] (fun v23 v24 wz => KpB W [Cs p21 33 fi, Cs p9 28 (wantL want), Cs p10 29 (mbn 32 there), IsSt ps pd S, IsDisk pd D] there v23 v24 wz) (fun _ v24 _ => kpM 32 v24)
     case atStart => exact H4.out
     case round =>
      clear H4
      obtain ⟨k, rfl, rfl, hk, hS⟩ := hrel
      by_cases hkl : k < 32
      ·have k7 : (k : Int) < 32 := by omega
       have HKL := Lib.hid hkl
       have HBC := Lib.hid (fun w ps (h : Sat W w (IsSt ps pd S :: IsDisk pd D :: [Cs p21 33 fi, Cs p9 28 (wantL want), Cs p10 29 (mbn 32 there)])) => HBK.out w _ ps k hkl h)
       have HT := Lib.hid (mbn_at there hkl)
       have HWA := Lib.hid (show (wantL want)[k]? = some (.int .u8 ((want k).toNat : Int)) from wantL_at want hkl)
       have hcn := cntH_succ there k
       have hcl := cntH_le there k
       have hcl2 : ((cntH there k : Nat) : Int) ≤ 32 := by omega
       obtain ⟨d, hd⟩ : ∃ d, vbK want there k = d := ⟨_, rfl⟩
       rw [hd] at HBC
       unfold vbK at hd
       obtain ⟨t, ht⟩ : ∃ t, there k = t := ⟨_, rfl⟩
       rw [ht] at hd hcn HT
       obtain ⟨cn, hcnn⟩ : ∃ n, cntH there k = n := ⟨_, rfl⟩
       rw [hcnn] at hcn hcl2 ⊢
       clear hk hkl ht hcl hcnn
       cases t with
       | true =>
        rw [if_pos rfl] at hcn
        have HCN := Lib.hid hcn
        have HB0 := Lib.hid (show (bv d)[0]? = some (.int .u8 ((want k).toNat : Int)) by rw [← hd]; rfl)
        have HB7 := Lib.hid (show (bv d)[127]? = some (.int .u8 ((want k).toNat : Int)) by rw [← hd]; rfl)
        clear hd hcn
        go_wp2_with (first
         | (go_at_call 12; refine (HBC.out _ _ (hS.re [3, 4])).mono ?_; rintro e w1 hE; obtain ⟨q, rfl, E, hS1⟩ := hE; clear hS; have hS := hS1; clear hS1)
         | (refine toList (by rfl) ?_; refine ld hS _ _ (by rfl) _ _ (by rfl) (agOf (by rfl)) (Has.s (Has.s (Has.s (Has.s (Has.s Has.z))))) HT.out ?_)
         | (refine toList (by rfl) ?_; refine ld hS _ _ (by rfl) _ _ (by rfl) (agOf (by rfl)) (Has.s (Has.s (Has.s (Has.s Has.z)))) HWA.out ?_)
         | (refine toList (by rfl) ?_; refine ld hS _ _ (by rfl) _ _ (by rfl) (agOf (by rfl)) Has.z HB0.out ?_)
         | (refine toList (by rfl) ?_; refine ld hS _ _ (by rfl) _ _ (by rfl) (agOf (by rfl)) Has.z HB7.out ?_))
        exact ⟨⟨k + 1, by rw [HCN.out]; go_num, by go_num, HKL.out, (hS.drop.re [2, 3, 4, 0, 1])⟩, kpM_lt HKL.out⟩
       | false =>
        rw [if_neg (by decide)] at hcn
        have HCN := Lib.hid hcn
        have HB0 := Lib.hid (show (bv d)[0]? = some (.int .u8 0) by rw [← hd]; rfl)
        have HB7 := Lib.hid (show (bv d)[127]? = some (.int .u8 0) by rw [← hd]; rfl)
        clear hd hcn
        go_wp2_with (first
         | (go_at_call 12; refine (HBC.out _ _ (hS.re [3, 4])).mono ?_; rintro e w1 hE; obtain ⟨q, rfl, E, hS1⟩ := hE; clear hS; have hS := hS1; clear hS1)
         | (refine toList (by rfl) ?_; refine ld hS _ _ (by rfl) _ _ (by rfl) (agOf (by rfl)) (Has.s (Has.s (Has.s (Has.s (Has.s Has.z))))) HT.out ?_)
         | (refine toList (by rfl) ?_; refine ld hS _ _ (by rfl) _ _ (by rfl) (agOf (by rfl)) Has.z HB0.out ?_)
         | (refine toList (by rfl) ?_; refine ld hS _ _ (by rfl) _ _ (by rfl) (agOf (by rfl)) Has.z HB7.out ?_))
        exact ⟨⟨k + 1, by rw [HCN.out]; rfl, by go_num, HKL.out, (hS.drop.re [2, 3, 4, 0, 1])⟩, kpM_lt HKL.out⟩
      ·obtain rfl : k = 32 := by omega
       clear hk hkl
       obtain ⟨cn, hcnn⟩ : ∃ n, cntH there 32 = n := ⟨_, rfl⟩
       have hcl := cntH_le there 32
       rw [hcnn] at HFR hcl ⊢
       have hcl2 : (cn : Int) ≤ 32 := by omega
       clear hcnn hcl
       go_wp2_with (first
        | (go_at_call 13; refine (HFR.out _ _ _ (hS.re [3])).mono ?_; clear hS; rintro e w1 ⟨rfl, hS⟩; replace hS := (show Sat W _ (_ :: _ :: _ :: _ :: _ :: []) from hS.re [1, 2, 3, 0]))
        | (go_at_call 14; refine (HO.out _ _ (hS.re [4])).mono ?_; rintro e w1 hE; obtain ⟨ps2, rfl, hS1⟩ := hE; clear hS; have hS := hS1; clear hS1))
       exact ⟨⟨r + 1, ps2, rfl, by go_num, HRL.out, (show Sat W _ (_ :: _ :: _ :: _ :: _ :: _ :: []) from hS.re [2, 5, 3, 4, 0, 1]).drop.drop⟩, kpM_lt HRL.out⟩
  ·obtain rfl : r = 2 := by omega
   clear hrl hr
   go_wp2_with (go_at_call 15; refine (awake_any hS).mono ?_; clear hS; rintro e w1 ⟨rfl, hS⟩)
   go_ret
   exact ⟨rfl, hS.map fun _ _ => trivial⟩

set_option maxRecDepth 100000 in
theorem Keeps.contract (H : Type) (enc : TypeId × Value → H) (W : World) (base : Nat) (args : Array Value) (ds gs : List (DataW H)) (before : List MemPlace)
  (hval : ∀ (j : Nat) t v, Tryz.f3.params[j]? = some t → args[j]? = some v → Value.okWide Tryz.prog W .any base t v)
  (hW : DataW.Whole enc Tryz.prog Tryz.f3.params.toList Rows.storeKeepsSpec.vars false W args.toList ds gs before)
  (hreach : (DataW.weightsEach Tryz.prog (Tryz.f3.params.toList ++ Rows.storeKeepsSpec.plain.varTypes Tryz.prog) (ds ++ gs)).all (· ≤ reachBytes) = true) :
  Calls Tryz.prog 3 args W fun e W' => ∃ v, e = .returned v ∧ Rows.storeKeepsSpec.post enc Tryz.prog Tryz.f3 false true false false W args v W' := by
 have hW' := hW
 obtain ⟨p, q, hA, hV, rfl, hfz, hnd⟩ := hW
 rw [Tryz.params3] at hA hval hreach
 obtain ⟨v0, vs0, d0, ds0, p0, q0, hargs, rfl, rfl, h0, r0⟩ := trodAll_cons hA
 obtain ⟨v1, vs1, d1, ds1, p1, q1, hargs1, rfl, rfl, h1, r1⟩ := trodAll_cons r0
 obtain ⟨v2, vs2, d2, ds2, p2, q2, hargs2, rfl, rfl, h2, r2⟩ := trodAll_cons r1
 obtain ⟨rfl, rfl, rfl⟩ := trodAll_nil r2
 obtain rfl : args = #[v0, v1, v2] := by cases args; simp_all
 obtain ⟨rfl, rfl⟩ := trodVars_none hV
 obtain ⟨ao, len, cap, rfl, _⟩ := okWide_slice Tryz.underlying22 (hval 0 22 v0 rfl rfl)
 obtain ⟨ns, h3, h4, _, _⟩ := open_nums Tryz.underlying22 Tryz.underlying3 (by kernel_rfl) h0
 obtain ⟨ao', len', cap', rfl, _⟩ := okWide_slice Tryz.underlying22 (hval 1 22 v1 rfl rfl)
 obtain ⟨ms, h5, h6, _, _⟩ := open_nums Tryz.underlying22 Tryz.underlying3 (by kernel_rfl) h1
 obtain ⟨ao2, len2, cap2, rfl, _⟩ := okWide_slice Tryz.underlying23 (hval 2 23 v2 rfl rfl)
 obtain ⟨fl, h7, h8⟩ := open_bytes Tryz.underlying23 Tryz.underlying5 (by kernel_rfl) h2
 subst h3 h5 h7
 refine (Keeps.walk ns ms fl ao ao' ao2 cap cap' cap2 W h4 h6 h8.1).mono ?_
 refine fun e W' ⟨he, hS⟩ => ?_
 subst he
 exact ⟨_, rfl, law_post (tb := 4) (by kernel_rfl) (by kernel_rfl) rfl Tryz.underlying4 rfl hW' rfl hS⟩

theorem Keeps.own : ownKnob Tryz.prog.godebug = none := by kernel_rfl
set_option maxRecDepth 100000 in
theorem Keeps.lifted (os : Os) (started : os.Started) (H : Type) (enc : TypeId × Value → H) :
  ReturnsInHanded {} Tryz.checked os 3 .any (Rows.storeKeepsSpec.pre6 enc Tryz.prog Tryz.f3 Rows.storeKeepsRow.domain false) (Rows.storeKeepsSpec.post enc Tryz.prog Tryz.f3 false true false false) := by
 refine returnsInHanded_of_change_shaped (C := Tryz.checked) Keeps.own started (by kernel_rfl) Tryz.func3
  (ChangeSpec.witness6 (enc := enc) (C := Tryz.checked) false ⟨#[], #[.slice none 0 0, .slice none 0 0, .slice none 0 0], []⟩ 8 (by kernel_rfl) (by kernel_rfl) (by kernel_rfl) (by kernel_rfl)) ?_
 intro W base args ds gs before hval hW _ hreach _ _
 exact Keeps.contract H enc W base args ds gs before hval hW hreach

theorem Keeps.holds : Rows.StoreKeepsSaid :=
 OpenClaim.holds_of_wide 3 Tryz.f3 rfl rfl rfl rfl rfl rfl rfl ⟨rfl, rfl, rfl, rfl, rfl⟩ rfl rfl rfl rfl rfl (by kernel_rfl) Tryz.func3 (by kernel_rfl)
  (of_decide_eq_true (by kernel_rfl)) (by unfold Func.isWrapper; first | (rw [if_pos (by decide +kernel)]; kernel_rfl) | (rw [if_neg (by decide +kernel)]; exact ⟨rfl, rfl⟩))
  (fun os started H enc _ => Keeps.lifted os started H enc)
end Go.Proofs.YtchohheleofncaaGreat
