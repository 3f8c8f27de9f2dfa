/-
 record.PutSuper.
 record.GetSuper.
 What is written as a block of records, or a first block, is read (plain; turned from record/XRecLaw).
 The equality of first blocks.
-/
import Derived.Test.YtchohheleofncaaGreatMRpt
set_option linter.unusedSimpArgs false
set_option linter.unusedVariables false
namespace Go.Proofs.YtchohheleofncaaGreat
open Go.RowKit Go.Sep
attribute [local irreducible] Go.Oper.wp Go.wpList Go.Calls Go.Code.wp Go.Sep.Reg
structure SupD where
 blocks : Int
 head : Int
 tail : Int
 records : Int
 shown : Int
 next : Int
 mounts : Int
instance : DecidableEq SupD := fun x y => if h : x.blocks = y.blocks ∧ x.head = y.head ∧ x.tail = y.tail ∧ x.records = y.records ∧ x.shown = y.shown ∧ x.next = y.next ∧ x.mounts = y.mounts then isTrue (by cases x; cases y; simp_all) else isFalse (fun e => by subst e; exact h ⟨rfl, rfl, rfl, rfl, rfl, rfl, rfl⟩)
def sv (s : SupD) : List Value := [.int .i64 s.blocks, .int .i64 s.head, .int .i64 s.tail, .int .i64 s.records, .int .i64 s.shown, .int .i64 s.next, .int .i64 s.mounts]
def okSup (s : SupD) : Bool := inB s.blocks 160 1024 && inB s.head 74 (s.blocks - 1) && inB s.tail 74 (s.blocks - 1) && inB s.shown 0 s.records && decide (s.records ≤ 16777215) && inB s.next 1 16777215 && inB s.mounts 0 16777215
def magicB : List UInt8 := [112, 101, 100, 105]
def encS0 (s : SupD) (k : Nat) : List UInt8 := magicB ++ ([s.blocks, s.head, s.tail].take k).flatMap (le · 2)
def encS1 (s : SupD) (k : Nat) : List UInt8 := encS0 s 3 ++ ([s.records, s.shown, s.next, s.mounts].take k).flatMap (le · 3)
def encS (s : SupD) : List UInt8 := padTo (encS1 s 4) 128
def supB (s : SupD) : List UInt8 := if okSup s then encS s else []
theorem supB_no {s : SupD} (h : okSup s = false) : supB s = [] := by simp [supB, h]
theorem supB_yes {s : SupD} (h : okSup s = true) : supB s = encS s := by simp [supB, h]
theorem encS0_len (s : SupD) {k : Nat} (h : k ≤ 3) : (encS0 s k).length ≤ 10 := by
 match k, h with
 | 0, _ => simp [encS0, magicB, le_length]
 | 1, _ => simp [encS0, magicB, le_length]
 | 2, _ => simp [encS0, magicB, le_length]
 | 3, _ => simp [encS0, magicB, le_length]
theorem encS1_len (s : SupD) {k : Nat} (h : k ≤ 4) : (encS1 s k).length ≤ 22 := by
 have := encS0_len s (Nat.le_refl 3)
 match k, h with
 | 0, _ => simp [encS1, le_length] at this ⊢; omega
 | 1, _ => simp [encS1, le_length] at this ⊢; omega
 | 2, _ => simp [encS1, le_length] at this ⊢; omega
 | 3, _ => simp [encS1, le_length] at this ⊢; omega
 | 4, _ => simp [encS1, le_length] at this ⊢; omega
theorem encS_len (s : SupD) : (encS s).length = 128 := padTo_length (by have := encS1_len s (Nat.le_refl 4); omega)
theorem encS0_0 (s : SupD) : encS0 s 0 ++ le s.blocks 2 = encS0 s 1 := by simp [encS0]
theorem encS0_1 (s : SupD) : encS0 s 1 ++ le s.head 2 = encS0 s 2 := by simp [encS0]
theorem encS0_2 (s : SupD) : encS0 s 2 ++ le s.tail 2 = encS0 s 3 := by simp [encS0]
theorem encS1_0 (s : SupD) : encS1 s 0 ++ le s.records 3 = encS1 s 1 := by simp [encS1]
theorem encS1_1 (s : SupD) : encS1 s 1 ++ le s.shown 3 = encS1 s 2 := by simp [encS1]
theorem encS1_2 (s : SupD) : encS1 s 2 ++ le s.next 3 = encS1 s 3 := by simp [encS1]
theorem encS1_3 (s : SupD) : encS1 s 3 ++ le s.mounts 3 = encS1 s 4 := by simp [encS1]
theorem sv_all (x : SupD) : ∀ u ∈ sv x, u.oneCell' = true := fun u hu => by
 simp only [sv, List.mem_cons, List.not_mem_nil, or_false] at hu
 rcases hu with rfl | rfl | rfl | rfl | rfl | rfl | rfl <;> rfl
set_option maxRecDepth 20000 in
set_option maxHeartbeats 2000000 in
theorem sput_any {W w : World} {L : List Asrt} (hS : Sat W w L) (blocks head tail records shown next mounts : Int) :
  Calls Tryz.prog 57 #[.agg (sv ⟨blocks, head, tail, records, shown, next, mounts⟩).toArray] w fun e w' => ∃ v', e = .returned (.tuple #[v', .bool (okSup ⟨blocks, head, tail, records, shown, next, mounts⟩)]) ∧ Sat W w' (Sl 5 1 v' (supB ⟨blocks, head, tail, records, shown, next, mounts⟩).length (bv (supB ⟨blocks, head, tail, records, shown, next, mounts⟩)) :: L) := by
 have HNIL := Lib.hid (hS.slNil (E := 5) (sz := 1))
 cases h0 : inB blocks 160 1024
 ·have HNO : Hid (okSup ⟨blocks, head, tail, records, shown, next, mounts⟩ = false) := Lib.hid (by unfold okSup; simp only [h0, Bool.false_and, Bool.and_false, Bool.true_and, Bool.and_true])
  go_enter Tryz.func57, Tryz.ntmps57
  go_wp2_with (first
   | (refine toList (by rfl) ?_; refine bx hS _ _ (by rfl) _ (by first | exact evC | exact evT (by rfl)) ?_; clear hS; intro ps w1 hS; rw [cells_agg] at hS)
   | (refine toList (by rfl) ?_; refine ld hS _ _ (by rfl) _ _ (by rfl) (agOf (by rfl)) (by repeat first | exact Has.z | apply Has.s) (by rfl) ?_)
   | (go_at_call 95; refine (recin_any _ blocks _ _ h0).mono ?_; rintro e w1 ⟨rfl, rfl⟩))
  go_ret2
  rw [HNO.out, supB_no HNO.out]
  exact ⟨_, rfl, hS.drop.slNil⟩
 cases h1 : inB head 74 (blocks - 1)
 ·have HNO : Hid (okSup ⟨blocks, head, tail, records, shown, next, mounts⟩ = false) := Lib.hid (by unfold okSup; simp only [h0, h1, Bool.false_and, Bool.and_false, Bool.true_and, Bool.and_true])
  have hb0 : 160 ≤ blocks ∧ blocks ≤ 1024 := by simpa [inB] using h0
  obtain ⟨hb1, hb2⟩ := hb0
  go_enter Tryz.func57, Tryz.ntmps57
  go_wp2_with (first
   | (refine toList (by rfl) ?_; refine bx hS _ _ (by rfl) _ (by first | exact evC | exact evT (by rfl)) ?_; clear hS; intro ps w1 hS; rw [cells_agg] at hS)
   | (refine toList (by rfl) ?_; refine ld hS _ _ (by rfl) _ _ (by rfl) (agOf (by rfl)) (by repeat first | exact Has.z | apply Has.s) (by rfl) ?_)
   | (go_at_call 95; refine (recin_any _ blocks _ _ h0).mono ?_; rintro e w1 ⟨rfl, rfl⟩)
   | (go_at_call 95; refine (recin_any _ head _ _ h1).mono ?_; rintro e w1 ⟨rfl, rfl⟩))
  go_ret2
  rw [HNO.out, supB_no HNO.out]
  exact ⟨_, rfl, hS.drop.slNil⟩
 cases h2 : inB tail 74 (blocks - 1)
 ·have HNO : Hid (okSup ⟨blocks, head, tail, records, shown, next, mounts⟩ = false) := Lib.hid (by unfold okSup; simp only [h0, h1, h2, Bool.false_and, Bool.and_false, Bool.true_and, Bool.and_true])
  have hb0 : 160 ≤ blocks ∧ blocks ≤ 1024 := by simpa [inB] using h0
  obtain ⟨hb1, hb2⟩ := hb0
  go_enter Tryz.func57, Tryz.ntmps57
  go_wp2_with (first
   | (refine toList (by rfl) ?_; refine bx hS _ _ (by rfl) _ (by first | exact evC | exact evT (by rfl)) ?_; clear hS; intro ps w1 hS; rw [cells_agg] at hS)
   | (refine toList (by rfl) ?_; refine ld hS _ _ (by rfl) _ _ (by rfl) (agOf (by rfl)) (by repeat first | exact Has.z | apply Has.s) (by rfl) ?_)
   | (go_at_call 95; refine (recin_any _ blocks _ _ h0).mono ?_; rintro e w1 ⟨rfl, rfl⟩)
   | (go_at_call 95; refine (recin_any _ head _ _ h1).mono ?_; rintro e w1 ⟨rfl, rfl⟩)
   | (go_at_call 95; refine (recin_any _ tail _ _ h2).mono ?_; rintro e w1 ⟨rfl, rfl⟩))
  go_ret2
  rw [HNO.out, supB_no HNO.out]
  exact ⟨_, rfl, hS.drop.slNil⟩
 cases h3 : inB shown 0 records
 ·have HNO : Hid (okSup ⟨blocks, head, tail, records, shown, next, mounts⟩ = false) := Lib.hid (by unfold okSup; simp only [h0, h1, h2, h3, Bool.false_and, Bool.and_false, Bool.true_and, Bool.and_true])
  have hb0 : 160 ≤ blocks ∧ blocks ≤ 1024 := by simpa [inB] using h0
  obtain ⟨hb1, hb2⟩ := hb0
  go_enter Tryz.func57, Tryz.ntmps57
  go_wp2_with (first
   | (refine toList (by rfl) ?_; refine bx hS _ _ (by rfl) _ (by first | exact evC | exact evT (by rfl)) ?_; clear hS; intro ps w1 hS; rw [cells_agg] at hS)
   | (refine toList (by rfl) ?_; refine ld hS _ _ (by rfl) _ _ (by rfl) (agOf (by rfl)) (by repeat first | exact Has.z | apply Has.s) (by rfl) ?_)
   | (go_at_call 95; refine (recin_any _ blocks _ _ h0).mono ?_; rintro e w1 ⟨rfl, rfl⟩)
   | (go_at_call 95; refine (recin_any _ head _ _ h1).mono ?_; rintro e w1 ⟨rfl, rfl⟩)
   | (go_at_call 95; refine (recin_any _ tail _ _ h2).mono ?_; rintro e w1 ⟨rfl, rfl⟩)
   | (go_at_call 95; refine (recin_any _ shown _ _ h3).mono ?_; rintro e w1 ⟨rfl, rfl⟩))
  go_ret2
  rw [HNO.out, supB_no HNO.out]
  exact ⟨_, rfl, hS.drop.slNil⟩
 by_cases h4 : records ≤ 16777215
 rotate_left
 ·have HNO : Hid (okSup ⟨blocks, head, tail, records, shown, next, mounts⟩ = false) := Lib.hid (by unfold okSup; simp only [inB, Bool.and_eq_true, Bool.and_eq_false_iff, decide_eq_true_eq, decide_eq_false_iff_not] at h0 h1 h2 h3 h4 ⊢; omega)
  have hb0 : 160 ≤ blocks ∧ blocks ≤ 1024 := by simpa [inB] using h0
  obtain ⟨hb1, hb2⟩ := hb0
  have h4' : 16777215 < records := by omega
  go_enter Tryz.func57, Tryz.ntmps57
  go_wp2_with (first
   | (refine toList (by rfl) ?_; refine bx hS _ _ (by rfl) _ (by first | exact evC | exact evT (by rfl)) ?_; clear hS; intro ps w1 hS; rw [cells_agg] at hS)
   | (refine toList (by rfl) ?_; refine ld hS _ _ (by rfl) _ _ (by rfl) (agOf (by rfl)) (by repeat first | exact Has.z | apply Has.s) (by rfl) ?_)
   | (go_at_call 95; refine (recin_any _ blocks _ _ h0).mono ?_; rintro e w1 ⟨rfl, rfl⟩)
   | (go_at_call 95; refine (recin_any _ head _ _ h1).mono ?_; rintro e w1 ⟨rfl, rfl⟩)
   | (go_at_call 95; refine (recin_any _ tail _ _ h2).mono ?_; rintro e w1 ⟨rfl, rfl⟩)
   | (go_at_call 95; refine (recin_any _ shown _ _ h3).mono ?_; rintro e w1 ⟨rfl, rfl⟩))
  go_ret2
  rw [HNO.out, supB_no HNO.out]
  exact ⟨_, rfl, hS.drop.slNil⟩
 cases h5 : inB next 1 16777215
 ·have HNO : Hid (okSup ⟨blocks, head, tail, records, shown, next, mounts⟩ = false) := Lib.hid (by unfold okSup; simp only [h0, h1, h2, h3, h4, h5, Bool.false_and, Bool.and_false, Bool.true_and, Bool.and_true])
  have hb0 : 160 ≤ blocks ∧ blocks ≤ 1024 := by simpa [inB] using h0
  obtain ⟨hb1, hb2⟩ := hb0
  have e4 : decide (16777215 < records) = false := by simp; omega
  go_enter Tryz.func57, Tryz.ntmps57
  go_wp2_with (first
   | (refine toList (by rfl) ?_; refine bx hS _ _ (by rfl) _ (by first | exact evC | exact evT (by rfl)) ?_; clear hS; intro ps w1 hS; rw [cells_agg] at hS)
   | (refine toList (by rfl) ?_; refine ld hS _ _ (by rfl) _ _ (by rfl) (agOf (by rfl)) (by repeat first | exact Has.z | apply Has.s) (by rfl) ?_)
   | (go_at_call 95; refine (recin_any _ blocks _ _ h0).mono ?_; rintro e w1 ⟨rfl, rfl⟩)
   | (go_at_call 95; refine (recin_any _ head _ _ h1).mono ?_; rintro e w1 ⟨rfl, rfl⟩)
   | (go_at_call 95; refine (recin_any _ tail _ _ h2).mono ?_; rintro e w1 ⟨rfl, rfl⟩)
   | (go_at_call 95; refine (recin_any _ shown _ _ h3).mono ?_; rintro e w1 ⟨rfl, rfl⟩)
   | (go_at_call 95; refine (recin_any _ next _ _ h5).mono ?_; rintro e w1 ⟨rfl, rfl⟩))
  go_ret2
  rw [HNO.out, supB_no HNO.out]
  exact ⟨_, rfl, hS.drop.slNil⟩
 cases h6 : inB mounts 0 16777215
 ·have HNO : Hid (okSup ⟨blocks, head, tail, records, shown, next, mounts⟩ = false) := Lib.hid (by unfold okSup; simp only [h0, h1, h2, h3, h4, h5, h6, Bool.false_and, Bool.and_false, Bool.true_and, Bool.and_true])
  have hb0 : 160 ≤ blocks ∧ blocks ≤ 1024 := by simpa [inB] using h0
  obtain ⟨hb1, hb2⟩ := hb0
  have e4 : decide (16777215 < records) = false := by simp; omega
  go_enter Tryz.func57, Tryz.ntmps57
  go_wp2_with (first
   | (refine toList (by rfl) ?_; refine bx hS _ _ (by rfl) _ (by first | exact evC | exact evT (by rfl)) ?_; clear hS; intro ps w1 hS; rw [cells_agg] at hS)
   | (refine toList (by rfl) ?_; refine ld hS _ _ (by rfl) _ _ (by rfl) (agOf (by rfl)) (by repeat first | exact Has.z | apply Has.s) (by rfl) ?_)
   | (go_at_call 95; refine (recin_any _ blocks _ _ h0).mono ?_; rintro e w1 ⟨rfl, rfl⟩)
   | (go_at_call 95; refine (recin_any _ head _ _ h1).mono ?_; rintro e w1 ⟨rfl, rfl⟩)
   | (go_at_call 95; refine (recin_any _ tail _ _ h2).mono ?_; rintro e w1 ⟨rfl, rfl⟩)
   | (go_at_call 95; refine (recin_any _ shown _ _ h3).mono ?_; rintro e w1 ⟨rfl, rfl⟩)
   | (go_at_call 95; refine (recin_any _ next _ _ h5).mono ?_; rintro e w1 ⟨rfl, rfl⟩)
   | (go_at_call 95; refine (recin_any _ mounts _ _ h6).mono ?_; rintro e w1 ⟨rfl, rfl⟩))
  go_ret2
  rw [HNO.out, supB_no HNO.out]
  exact ⟨_, rfl, hS.drop.slNil⟩
 have HYES : Hid (okSup ⟨blocks, head, tail, records, shown, next, mounts⟩ = true) := Lib.hid (by unfold okSup; simp only [inB, Bool.and_eq_true, decide_eq_true_eq] at h0 h1 h2 h3 h4 h5 h6 ⊢; omega)
 have hb0 : 160 ≤ blocks ∧ blocks ≤ 1024 := by simpa [inB] using h0
 obtain ⟨hb1, hb2⟩ := hb0
 have hr : (0 ≤ head ∧ head ≤ 1024) ∧ (0 ≤ tail ∧ tail ≤ 1024) ∧ (0 ≤ records ∧ records ≤ 16777215) ∧ (0 ≤ shown ∧ shown ≤ 16777215) ∧ (0 ≤ next ∧ next ≤ 16777215) ∧ (0 ≤ mounts ∧ mounts ≤ 16777215) := by
  simp only [inB, Bool.and_eq_true, decide_eq_true_eq] at h0 h1 h2 h3 h4 h5 h6; omega
 obtain ⟨⟨r1, r2⟩, ⟨r3, r4⟩, ⟨r5, r6⟩, ⟨r7, r8⟩, ⟨r9, r10⟩, r11, r12⟩ := hr
 have e4 : decide (16777215 < records) = false := by simp; omega
 have HMG := Lib.hid (show [Value.int .u8 112, Value.int .u8 101, Value.int .u8 100, Value.int .u8 105] = bv magicB by rfl)
 go_enter Tryz.func57, Tryz.ntmps57
 go_wp2_with (first
  | (refine toList (by rfl) ?_; refine bx hS _ _ (by rfl) _ (by first | exact evC | exact evT (by rfl)) ?_; clear hS; intro ps w1 hS; rw [cells_agg] at hS)
  | (refine toList (by rfl) ?_; refine ld hS _ _ (by rfl) _ _ (by rfl) (agOf (by rfl)) (by repeat first | exact Has.z | apply Has.s) (by rfl) ?_)
  | (go_at_call 95; refine (recin_any _ blocks _ _ h0).mono ?_; rintro e w1 ⟨rfl, rfl⟩)
  | (go_at_call 95; refine (recin_any _ head _ _ h1).mono ?_; rintro e w1 ⟨rfl, rfl⟩)
  | (go_at_call 95; refine (recin_any _ tail _ _ h2).mono ?_; rintro e w1 ⟨rfl, rfl⟩)
  | (go_at_call 95; refine (recin_any _ shown _ _ h3).mono ?_; rintro e w1 ⟨rfl, rfl⟩)
  | (go_at_call 95; refine (recin_any _ next _ _ h5).mono ?_; rintro e w1 ⟨rfl, rfl⟩)
  | (go_at_call 95; refine (recin_any _ mounts _ _ h6).mono ?_; rintro e w1 ⟨rfl, rfl⟩)
  | (refine toList (by rfl) ?_; refine bsF hS _ _ _ (by rfl) (elOf (by rfl)) [.int .u8 112, .int .u8 101, .int .u8 100, .int .u8 105] (by rfl) (by rfl) (by decide) (by decide) (by decide) ?_; clear hS; intro b1 w1 hS)
  | (refine toList (by rfl) ?_; refine fzS hS _ _ (by rfl) _ _ _ _ (by rfl) (by kernel_rfl) (by repeat first | exact Has.z | apply Has.s) ?_; clear hS; intro w1 hS))
 have i00 : ∀ w, (Instr.index 178 (.agg #[.int .i64 blocks, .int .i64 head, .int .i64 tail]) (.int .i64 0)).run Tryz.prog w = .ok (.int .i64 blocks) w := fun _ => by kernel_rfl
 have i01 : ∀ w, (Instr.index 178 (.agg #[.int .i64 blocks, .int .i64 head, .int .i64 tail]) (.int .i64 1)).run Tryz.prog w = .ok (.int .i64 head) w := fun _ => by kernel_rfl
 have i02 : ∀ w, (Instr.index 178 (.agg #[.int .i64 blocks, .int .i64 head, .int .i64 tail]) (.int .i64 2)).run Tryz.prog w = .ok (.int .i64 tail) w := fun _ => by kernel_rfl
 have i10 : ∀ w, (Instr.index 179 (.agg #[.int .i64 records, .int .i64 shown, .int .i64 next, .int .i64 mounts]) (.int .i64 0)).run Tryz.prog w = .ok (.int .i64 records) w := fun _ => by kernel_rfl
 have i11 : ∀ w, (Instr.index 179 (.agg #[.int .i64 records, .int .i64 shown, .int .i64 next, .int .i64 mounts]) (.int .i64 1)).run Tryz.prog w = .ok (.int .i64 shown) w := fun _ => by kernel_rfl
 have i12 : ∀ w, (Instr.index 179 (.agg #[.int .i64 records, .int .i64 shown, .int .i64 next, .int .i64 mounts]) (.int .i64 2)).run Tryz.prog w = .ok (.int .i64 next) w := fun _ => by kernel_rfl
 have i13 : ∀ w, (Instr.index 179 (.agg #[.int .i64 records, .int .i64 shown, .int .i64 next, .int .i64 mounts]) (.int .i64 3)).run Tryz.prog w = .ok (.int .i64 mounts) w := fun _ => by kernel_rfl
 have HL0 : ∀ k, k ≤ 3 → Hid ((encS0 ⟨blocks, head, tail, records, shown, next, mounts⟩ k).length ≤ 1000000) := fun k hk => Lib.hid (by have := encS0_len ⟨blocks, head, tail, records, shown, next, mounts⟩ hk; omega)
 have HL1 : ∀ k, k ≤ 4 → Hid ((encS1 ⟨blocks, head, tail, records, shown, next, mounts⟩ k).length ≤ 1000000) := fun k hk => Lib.hid (by have := encS1_len ⟨blocks, head, tail, records, shown, next, mounts⟩ hk; omega)
 have hS1 : Sat W _ (Sl 5 1 (.slice (some ⟨b1, 0, none⟩) 4 4) (encS0 ⟨blocks, head, tail, records, shown, next, mounts⟩ 0).length (bv (encS0 ⟨blocks, head, tail, records, shown, next, mounts⟩ 0)) :: _) := Sat.slMk (n := 4) (sz := 1) (cap := 4) (pre := []) (vs := bv magicB) (rest := []) (by exact hS) (Nat.le_refl _) (by decide) (by rfl) rfl (by decide)
 have H0 := Lib.hid hS1
 clear hS1 hS
 go_loopw [65, 4] (fun vi vb wz => ∃ k : Nat, k ≤ 3 ∧ vi = .int .i64 k ∧ Sat W wz (Sl 5 1 vb (encS0 ⟨blocks, head, tail, records, shown, next, mounts⟩ k).length (bv (encS0 ⟨blocks, head, tail, records, shown, next, mounts⟩ k)) :: Cs ps 77 (sv ⟨blocks, head, tail, records, shown, next, mounts⟩) :: L)) (fun vi _ _ => 3 - (intOf vi).toNat)
 case atStart => exact ⟨0, by omega, rfl, H0.out⟩
 case round =>
  clear H0
  obtain ⟨k, hk, rfl, hS⟩ := hrel
  rcases (show k = 0 ∨ k = 1 ∨ k = 2 ∨ k = 3 by omega) with rfl | rfl | rfl | rfl
  ·go_wp2_with (go_at_call 84; refine (put_any hS blocks (by omega) (by omega) 2 (by omega) (by omega) (HL0 0 (by omega)).out).mono ?_; clear hS; rintro e w1 ⟨v1, rfl, hS⟩)
   rw [encS0_0] at hS
   exact ⟨⟨1, by omega, rfl, hS⟩, by simp [intOf]⟩
  ·go_wp2_with (go_at_call 84; refine (put_any hS head (by omega) (by omega) 2 (by omega) (by omega) (HL0 1 (by omega)).out).mono ?_; clear hS; rintro e w1 ⟨v1, rfl, hS⟩)
   rw [encS0_1] at hS
   exact ⟨⟨2, by omega, rfl, hS⟩, by simp [intOf]⟩
  ·go_wp2_with (go_at_call 84; refine (put_any hS tail (by omega) (by omega) 2 (by omega) (by omega) (HL0 2 (by omega)).out).mono ?_; clear hS; rintro e w1 ⟨v1, rfl, hS⟩)
   rw [encS0_2] at hS
   exact ⟨⟨3, by omega, rfl, hS⟩, by simp [intOf]⟩
  have H1 : Hid (Sat W wr (Sl 5 1 _ (encS1 ⟨blocks, head, tail, records, shown, next, mounts⟩ 0).length (bv (encS1 ⟨blocks, head, tail, records, shown, next, mounts⟩ 0)) :: Cs ps 77 (sv ⟨blocks, head, tail, records, shown, next, mounts⟩) :: L)) := Lib.hid (by simpa [encS1] using hS)
  go_wp2_with (refine toList (by rfl) ?_; refine ld hS _ _ (by rfl) _ _ (by rfl) (agOf (by rfl)) (by repeat first | exact Has.z | apply Has.s) (by rfl) ?_)
  clear hS
  go_loopw [81, 4] (fun vi vb wz => ∃ k : Nat, k ≤ 4 ∧ vi = .int .i64 k ∧ Sat W wz (Sl 5 1 vb (encS1 ⟨blocks, head, tail, records, shown, next, mounts⟩ k).length (bv (encS1 ⟨blocks, head, tail, records, shown, next, mounts⟩ k)) :: Cs ps 77 (sv ⟨blocks, head, tail, records, shown, next, mounts⟩) :: L)) (fun vi _ _ => 4 - (intOf vi).toNat)
  case atStart => exact ⟨0, by omega, rfl, H1.out⟩
  case round =>
   clear H1
   obtain ⟨k, hk, rfl, hS⟩ := hrel
   rcases (show k = 0 ∨ k = 1 ∨ k = 2 ∨ k = 3 ∨ k = 4 by omega) with rfl | rfl | rfl | rfl | rfl
   ·go_wp2_with (go_at_call 84; refine (put_any hS records (by omega) (by omega) 3 (by omega) (by omega) (HL1 0 (by omega)).out).mono ?_; clear hS; rintro e w1 ⟨v1, rfl, hS⟩)
    rw [encS1_0] at hS
    exact ⟨⟨1, by omega, rfl, hS⟩, by simp [intOf]⟩
   ·go_wp2_with (go_at_call 84; refine (put_any hS shown (by omega) (by omega) 3 (by omega) (by omega) (HL1 1 (by omega)).out).mono ?_; clear hS; rintro e w1 ⟨v1, rfl, hS⟩)
    rw [encS1_1] at hS
    exact ⟨⟨2, by omega, rfl, hS⟩, by simp [intOf]⟩
   ·go_wp2_with (go_at_call 84; refine (put_any hS next (by omega) (by omega) 3 (by omega) (by omega) (HL1 2 (by omega)).out).mono ?_; clear hS; rintro e w1 ⟨v1, rfl, hS⟩)
    rw [encS1_2] at hS
    exact ⟨⟨3, by omega, rfl, hS⟩, by simp [intOf]⟩
   ·go_wp2_with (go_at_call 84; refine (put_any hS mounts (by omega) (by omega) 3 (by omega) (by omega) (HL1 3 (by omega)).out).mono ?_; clear hS; rintro e w1 ⟨v1, rfl, hS⟩)
    rw [encS1_3] at hS
    exact ⟨⟨4, by omega, rfl, hS⟩, by simp [intOf]⟩
   have HLE := Lib.hid (encS1_len ⟨blocks, head, tail, records, shown, next, mounts⟩ (Nat.le_refl 4))
   have HEL := Lib.hid (encS_len ⟨blocks, head, tail, records, shown, next, mounts⟩)
   go_wp2_with (go_at_call 85; refine (pad_any hS 128 (by have := HLE.out; omega) (by omega)).mono ?_; clear hS; rintro e w1 ⟨v3, rfl, hS⟩)
   go_ret2
   rw [HYES.out, supB_yes HYES.out, HEL.out]
   exact ⟨_, rfl, hS.pull1.drop⟩

end Go.Proofs.YtchohheleofncaaGreat
namespace Go.Proofs.YtchohheleofncaaGreat
open Go.RowKit Go.Sep
attribute [local irreducible] Go.Oper.wp Go.wpList Go.Calls Go.Code.wp Go.Sep.Reg
def parseS (b : List UInt8) : SupD := ⟨(getN b 4 2 : Nat), (getN b 6 2 : Nat), (getN b 8 2 : Nat), (getN b 10 3 : Nat), (getN b 13 3 : Nat), (getN b 16 3 : Nat), (getN b 19 3 : Nat)⟩
def zeroS : SupD := ⟨0, 0, 0, 0, 0, 0, 0⟩
def getSOk (b : List UInt8) : Bool := okSup (parseS b) && decide (encS (parseS b) = b)
def getS (b : List UInt8) : SupD := if getSOk b then parseS b else zeroS
theorem getS_no {b : List UInt8} (h : getSOk b = false) : getS b = zeroS := by simp [getS, h]
theorem getS_yes {b : List UInt8} (h : getSOk b = true) : getS b = parseS b := by simp [getS, h]
def svp (b : List UInt8) (k : Nat) : List Value := (sv (parseS b)).take k ++ (sv zeroS).drop k
theorem sput_s {W w : World} {L : List Asrt} (hS : Sat W w L) (s : SupD) :
  Calls Tryz.prog 57 #[.agg (sv s).toArray] w fun e w' => ∃ v', e = .returned (.tuple #[v', .bool (okSup s)]) ∧ Sat W w' (Sl 5 1 v' (supB s).length (bv (supB s)) :: L) := by
 cases s; exact sput_any hS _ _ _ _ _ _ _
set_option maxRecDepth 20000 in
set_option maxHeartbeats 2000000 in
theorem sget_any {W w : World} {L : List Asrt} (hS : Sat W w L) (b : List UInt8) (ao : Option Addr) (c : Nat) (hr : ∀ w, Sat W w L → Rd w (.slice ao b.length c) b.length 1 (bv b)) (hb : b.length ≤ 140737488355328) :
  Calls Tryz.prog 45 #[.slice ao b.length c] w fun e w' => e = .returned (.tuple #[.agg (sv (getS b)).toArray, .bool (getSOk b)]) ∧ Sat W w' L := by
 have HR : Hid (∀ w (A B : Asrt), Sat W w (A :: B :: L) → Rd w (.slice ao b.length c) b.length 1 (bv b)) := Lib.hid (fun w A B h => hr w h.drop.drop)
 clear hr
 go_enter Tryz.func45, Tryz.ntmps45
 go_wp2_with (first | (refine toList (by rfl) ?_; refine al (show Sat W _ L from hS) _ (by rfl) (zrOf (by rfl)) ?_; clear hS; intro p2 w1 hS; rw [cells_agg] at hS) | (refine toList (by rfl) ?_; refine al hS _ (by rfl) (zrOf (by rfl)) ?_; clear hS; intro p4 w1 hS; rw [cells_agg] at hS))
 have i00 : ∀ w, (Instr.index 172 (.agg #[.pointer (some ⟨p4, 0, none⟩), .pointer (some ⟨p4, 1, none⟩), .pointer (some ⟨p4, 2, none⟩)]) (.int .i64 0)).run Tryz.prog w = .ok (.pointer (some ⟨p4, 0, none⟩)) w := fun _ => by kernel_rfl
 have i01 : ∀ w, (Instr.index 172 (.agg #[.pointer (some ⟨p4, 0, none⟩), .pointer (some ⟨p4, 1, none⟩), .pointer (some ⟨p4, 2, none⟩)]) (.int .i64 1)).run Tryz.prog w = .ok (.pointer (some ⟨p4, 1, none⟩)) w := fun _ => by kernel_rfl
 have i02 : ∀ w, (Instr.index 172 (.agg #[.pointer (some ⟨p4, 0, none⟩), .pointer (some ⟨p4, 1, none⟩), .pointer (some ⟨p4, 2, none⟩)]) (.int .i64 2)).run Tryz.prog w = .ok (.pointer (some ⟨p4, 2, none⟩)) w := fun _ => by kernel_rfl
 have i10 : ∀ w, (Instr.index 173 (.agg #[.pointer (some ⟨p4, 3, none⟩), .pointer (some ⟨p4, 4, none⟩), .pointer (some ⟨p4, 5, none⟩), .pointer (some ⟨p4, 6, none⟩)]) (.int .i64 0)).run Tryz.prog w = .ok (.pointer (some ⟨p4, 3, none⟩)) w := fun _ => by kernel_rfl
 have i11 : ∀ w, (Instr.index 173 (.agg #[.pointer (some ⟨p4, 3, none⟩), .pointer (some ⟨p4, 4, none⟩), .pointer (some ⟨p4, 5, none⟩), .pointer (some ⟨p4, 6, none⟩)]) (.int .i64 1)).run Tryz.prog w = .ok (.pointer (some ⟨p4, 4, none⟩)) w := fun _ => by kernel_rfl
 have i12 : ∀ w, (Instr.index 173 (.agg #[.pointer (some ⟨p4, 3, none⟩), .pointer (some ⟨p4, 4, none⟩), .pointer (some ⟨p4, 5, none⟩), .pointer (some ⟨p4, 6, none⟩)]) (.int .i64 2)).run Tryz.prog w = .ok (.pointer (some ⟨p4, 5, none⟩)) w := fun _ => by kernel_rfl
 have i13 : ∀ w, (Instr.index 173 (.agg #[.pointer (some ⟨p4, 3, none⟩), .pointer (some ⟨p4, 4, none⟩), .pointer (some ⟨p4, 5, none⟩), .pointer (some ⟨p4, 6, none⟩)]) (.int .i64 3)).run Tryz.prog w = .ok (.pointer (some ⟨p4, 6, none⟩)) w := fun _ => by kernel_rfl
 have H0 : Hid (Sat W _ (Cs p4 77 (svp b 0) :: Cs p2 77 (sv zeroS) :: L)) := Lib.hid hS
 clear hS
 go_loopw [15] (fun vi wz => ∃ k : Nat, k ≤ 3 ∧ vi = .int .i64 k ∧ Sat W wz (Cs p4 77 (svp b k) :: Cs p2 77 (sv zeroS) :: L)) (fun vi _ => 3 - (intOf vi).toNat)
 case atStart => exact ⟨0, by omega, rfl, H0.out⟩
 case round =>
  clear H0
  obtain ⟨k, hk, rfl, hS⟩ := hrel
  rcases (show k = 0 ∨ k = 1 ∨ k = 2 ∨ k = 3 by omega) with rfl | rfl | rfl | rfl
  ·go_wp2_with (first
    | (go_at_call 89; refine (getN_any hS _ _ b (HR.out · _ _) _ 4 2 (by rfl) (by omega) (by omega) hb).mono ?_; rintro e w1 ⟨ok1, rfl, rfl⟩)
    | (refine toList (by rfl) ?_; refine st hS _ _ _ (by rfl) _ _ (by rfl) _ (by first | exact evC | exact evT (by rfl)) (by rfl) (szOf (by rfl)) (by repeat first | exact Has.z | apply Has.s) (by exact Nat.le_of_ble_eq_true rfl) ?_; clear hS; intro w1 hS; dsimp only [List.set] at hS))
   exact ⟨⟨1, by omega, rfl, hS⟩, by simp [intOf]⟩
  ·go_wp2_with (first
    | (go_at_call 89; refine (getN_any hS _ _ b (HR.out · _ _) _ 6 2 (by rfl) (by omega) (by omega) hb).mono ?_; rintro e w1 ⟨ok1, rfl, rfl⟩)
    | (refine toList (by rfl) ?_; refine st hS _ _ _ (by rfl) _ _ (by rfl) _ (by first | exact evC | exact evT (by rfl)) (by rfl) (szOf (by rfl)) (by repeat first | exact Has.z | apply Has.s) (by exact Nat.le_of_ble_eq_true rfl) ?_; clear hS; intro w1 hS; dsimp only [List.set] at hS))
   exact ⟨⟨2, by omega, rfl, hS⟩, by simp [intOf]⟩
  ·go_wp2_with (first
    | (go_at_call 89; refine (getN_any hS _ _ b (HR.out · _ _) _ 8 2 (by rfl) (by omega) (by omega) hb).mono ?_; rintro e w1 ⟨ok1, rfl, rfl⟩)
    | (refine toList (by rfl) ?_; refine st hS _ _ _ (by rfl) _ _ (by rfl) _ (by first | exact evC | exact evT (by rfl)) (by rfl) (szOf (by rfl)) (by repeat first | exact Has.z | apply Has.s) (by exact Nat.le_of_ble_eq_true rfl) ?_; clear hS; intro w1 hS; dsimp only [List.set] at hS))
   exact ⟨⟨3, by omega, rfl, hS⟩, by simp [intOf]⟩
  go_wp2
  have H1 := Lib.hid hS
  clear hS
  go_loopw [35] (fun vi wz => ∃ k : Nat, k ≤ 4 ∧ vi = .int .i64 k ∧ Sat W wz (Cs p4 77 (svp b (3 + k)) :: Cs p2 77 (sv zeroS) :: L)) (fun vi _ => 4 - (intOf vi).toNat)
  case atStart => exact ⟨0, by omega, rfl, H1.out⟩
  case round =>
   clear H1
   obtain ⟨k, hk, rfl, hS⟩ := hrel
   rcases (show k = 0 ∨ k = 1 ∨ k = 2 ∨ k = 3 ∨ k = 4 by omega) with rfl | rfl | rfl | rfl | rfl
   ·go_wp2_with (first
     | (go_at_call 89; refine (getN_any hS _ _ b (HR.out · _ _) _ 10 3 (by rfl) (by omega) (by omega) hb).mono ?_; rintro e w1 ⟨ok1, rfl, rfl⟩)
     | (refine toList (by rfl) ?_; refine st hS _ _ _ (by rfl) _ _ (by rfl) _ (by first | exact evC | exact evT (by rfl)) (by rfl) (szOf (by rfl)) (by repeat first | exact Has.z | apply Has.s) (by exact Nat.le_of_ble_eq_true rfl) ?_; clear hS; intro w1 hS; dsimp only [List.set] at hS))
    exact ⟨⟨_, _, _, _, _, _, _, _, _, _, _, _, _, _, _, _, _, ⟨1, by omega, rfl, hS⟩, rfl⟩, by simp [intOf]⟩
   ·go_wp2_with (first
     | (go_at_call 89; refine (getN_any hS _ _ b (HR.out · _ _) _ 13 3 (by rfl) (by omega) (by omega) hb).mono ?_; rintro e w1 ⟨ok1, rfl, rfl⟩)
     | (refine toList (by rfl) ?_; refine st hS _ _ _ (by rfl) _ _ (by rfl) _ (by first | exact evC | exact evT (by rfl)) (by rfl) (szOf (by rfl)) (by repeat first | exact Has.z | apply Has.s) (by exact Nat.le_of_ble_eq_true rfl) ?_; clear hS; intro w1 hS; dsimp only [List.set] at hS))
    exact ⟨⟨_, _, _, _, _, _, _, _, _, _, _, _, _, _, _, _, _, ⟨2, by omega, rfl, hS⟩, rfl⟩, by simp [intOf]⟩
   ·go_wp2_with (first
     | (go_at_call 89; refine (getN_any hS _ _ b (HR.out · _ _) _ 16 3 (by rfl) (by omega) (by omega) hb).mono ?_; rintro e w1 ⟨ok1, rfl, rfl⟩)
     | (refine toList (by rfl) ?_; refine st hS _ _ _ (by rfl) _ _ (by rfl) _ (by first | exact evC | exact evT (by rfl)) (by rfl) (szOf (by rfl)) (by repeat first | exact Has.z | apply Has.s) (by exact Nat.le_of_ble_eq_true rfl) ?_; clear hS; intro w1 hS; dsimp only [List.set] at hS))
    exact ⟨⟨_, _, _, _, _, _, _, _, _, _, _, _, _, _, _, _, _, ⟨3, by omega, rfl, hS⟩, rfl⟩, by simp [intOf]⟩
   ·go_wp2_with (first
     | (go_at_call 89; refine (getN_any hS _ _ b (HR.out · _ _) _ 19 3 (by rfl) (by omega) (by omega) hb).mono ?_; rintro e w1 ⟨ok1, rfl, rfl⟩)
     | (refine toList (by rfl) ?_; refine st hS _ _ _ (by rfl) _ _ (by rfl) _ (by first | exact evC | exact evT (by rfl)) (by rfl) (szOf (by rfl)) (by repeat first | exact Has.z | apply Has.s) (by exact Nat.le_of_ble_eq_true rfl) ?_; clear hS; intro w1 hS; dsimp only [List.set] at hS))
    exact ⟨⟨_, _, _, _, _, _, _, _, _, _, _, _, _, _, _, _, _, ⟨4, by omega, rfl, hS⟩, rfl⟩, by simp [intOf]⟩
   have h2 : Sat W wr (Cs p4 77 (sv (parseS b)) :: Cs p2 77 (sv zeroS) :: L) := hS
   clear hS
   have hS := h2
   clear h2
   have HR2 : Hid (∀ w (A B C : Asrt), Sat W w (A :: B :: C :: L) → Rd w (.slice ao b.length c) b.length 1 (bv b)) := Lib.hid (fun w A B C h => HR.out w B C h.drop)
   cases hok : okSup (parseS b)
   ·have HGO := Lib.hid (show getSOk b = false by unfold getSOk; rw [hok]; rfl)
    have HOK := Lib.hid hok
    clear hok
    go_wp2_with (first
     | (refine toList (by rfl) ?_; refine wp_of_reads (rLdA hS _ _ (by rfl) _ _ (by rfl) (agOf (by rfl)) (szOf (by rfl)) Has.z (vs := sv (parseS b)) (by rfl) (by rfl)) ?_)
     | (go_at_call 57; refine (sput_s hS (parseS b)).mono ?_; rintro e w1 ⟨v2, rfl, hS1⟩; rw [HOK.out]; clear hS; have hS := hS1; clear hS1)
     | (refine toList (by rfl) ?_; refine stW hS _ _ _ (by rfl) (by rfl) (sv zeroS) (by rfl) (sv_all _) (szOf (by rfl)) (Has.s (Has.s Has.z)) (by rfl) ?_; clear hS; intro w1 hS; dsimp only [List.set_cons_zero, List.set_cons_succ] at hS))
    refine bodyPost_cell_tmp hS rfl (by rfl) (agOf (by rfl)) (szOf (by rfl)) (Has.s (Has.s Has.z)) (by rfl) rfl ?_
    rw [getS_no HGO.out, HGO.out]
    exact ⟨rfl, hS.drop.drop.drop⟩
   ·have HOK := Lib.hid hok
    by_cases he : encS (parseS b) = b
    ·have HE := Lib.hid he
     have HGO := Lib.hid (show getSOk b = true by unfold getSOk; rw [hok, he]; simp)
     clear hok he
     go_wp2_with (first
      | (refine toList (by rfl) ?_; refine wp_of_reads (rLdA hS _ _ (by rfl) _ _ (by rfl) (agOf (by rfl)) (szOf (by rfl)) Has.z (vs := sv (parseS b)) (by rfl) (by rfl)) ?_)
      | (refine toList (by rfl) ?_; refine wp_of_reads (rLdA hS _ _ (by rfl) _ _ (by rfl) (agOf (by rfl)) (szOf (by rfl)) (Has.s Has.z) (vs := sv (parseS b)) (by rfl) (by rfl)) ?_)
      | (go_at_call 57; refine (sput_s hS (parseS b)).mono ?_; rintro e w1 ⟨v2, rfl, hS1⟩; rw [HOK.out]; rw [supB_yes HOK.out, HE.out] at hS1; clear hS; have hS := hS1; clear hS1)
      | (refine toList (by rfl) ?_; refine cvS _ _ _ (by rfl) _ (by rfl) strBytes (l := b) (by first | exact HR2.out _ _ _ _ hS | exact hS.slRd Has.z) ?_)
      | (refine toList (by rfl) ?_; refine stW hS _ _ _ (by rfl) (by rfl) (sv (parseS b)) (by rfl) (sv_all _) (szOf (by rfl)) (Has.s (Has.s Has.z)) (by rfl) ?_; clear hS; intro w1 hS; dsimp only [List.set_cons_zero, List.set_cons_succ] at hS))
     refine bodyPost_cell_tmp hS rfl (by rfl) (agOf (by rfl)) (szOf (by rfl)) (Has.s (Has.s Has.z)) (by rfl) rfl ?_
     rw [getS_yes HGO.out, HGO.out]
     exact ⟨rfl, hS.drop.drop.drop⟩
    ·have HGO := Lib.hid (show getSOk b = false by unfold getSOk; simp [he])
     have HPB := Lib.hid (show supB (parseS b) = encS (parseS b) from supB_yes hok)
     obtain ⟨d, hd⟩ : ∃ d, encS (parseS b) = d := ⟨_, rfl⟩
     rw [hd] at he HPB
     have e9 : (!d == b) = true := by simp [he]
     clear hok hd he
     go_wp2_with (first
      | (refine toList (by rfl) ?_; refine wp_of_reads (rLdA hS _ _ (by rfl) _ _ (by rfl) (agOf (by rfl)) (szOf (by rfl)) Has.z (vs := sv (parseS b)) (by rfl) (by rfl)) ?_)
      | (refine toList (by rfl) ?_; refine wp_of_reads (rLdA hS _ _ (by rfl) _ _ (by rfl) (agOf (by rfl)) (szOf (by rfl)) (Has.s Has.z) (vs := sv (parseS b)) (by rfl) (by rfl)) ?_)
      | (go_at_call 57; refine (sput_s hS (parseS b)).mono ?_; rintro e w1 ⟨v2, rfl, hS1⟩; rw [HOK.out]; rw [HPB.out] at hS1; clear hS; have hS := hS1; clear hS1)
      | (refine toList (by rfl) ?_; refine cvS _ _ _ (by rfl) _ (by rfl) strBytes (l := b) (by exact HR2.out _ _ _ _ hS) ?_)
      | (refine toList (by rfl) ?_; refine cvS _ _ _ (by rfl) _ (by rfl) strBytes (l := d) (by exact hS.slRd Has.z) ?_)
      | (refine toList (by rfl) ?_; refine stW hS _ _ _ (by rfl) (by rfl) (sv zeroS) (by rfl) (sv_all _) (szOf (by rfl)) (Has.s (Has.s Has.z)) (by rfl) ?_; clear hS; intro w1 hS; dsimp only [List.set_cons_zero, List.set_cons_succ] at hS))
     refine bodyPost_cell_tmp hS rfl (by rfl) (agOf (by rfl)) (szOf (by rfl)) (Has.s (Has.s Has.z)) (by rfl) rfl ?_
     rw [getS_no HGO.out, HGO.out]
     exact ⟨rfl, hS.drop.drop.drop⟩

end Go.Proofs.YtchohheleofncaaGreat
namespace Go.Proofs.YtchohheleofncaaGreat
open Go.RowKit Go.Sep
theorem rgetN_mid (A C : List UInt8) (v : Int) (n t : Nat) (h0 : 0 ≤ v) (h : v < (256 ^ n : Nat)) (ht : A.length = t) : ((getN (A ++ le v n ++ C) t n : Nat) : Int) = v := by
 subst ht
 obtain ⟨k, rfl⟩ := Int.eq_ofNat_of_zero_le h0
 unfold getN
 rw [if_pos (by simp [le_length])]
 rw [List.append_assoc, List.drop_left', List.take_left' (le_length _ _), un_le n k (by omega)]
 rfl
theorem encB_split {l : List RecD} {next : Int} {i : Nat} {x : RecD} (hx : l[i]? = some x) :
  ∃ A C, encB l next = A ++ encR x ++ C ∧ A.length = 3 + 7 * i := by
 have hi := (List.getElem?_eq_some_iff.1 hx).1
 refine ⟨encH l.length next ++ (l.take i).flatMap encR, (l.drop (i + 1)).flatMap encR ++ List.replicate (128 - (encH l.length next ++ l.flatMap encR).length) 0, ?_, ?_⟩
 ·have hs : l.flatMap encR = (l.take i).flatMap encR ++ encR x ++ (l.drop (i + 1)).flatMap encR := by
   have he : l[i] = x := (List.getElem?_eq_some_iff.1 hx).2
   conv => lhs; rw [← List.take_append_drop i l, List.drop_eq_getElem_cons hi, he]
   rw [List.flatMap_append, List.flatMap_cons, List.append_assoc]
  unfold encB padTo
  conv => lhs; arg 1; rw [hs]
  simp only [List.append_assoc]
 ·rw [List.length_append, encH_len, encRs_len, List.length_take]; omega
theorem recAt_enc {l : List RecD} {next : Int} {i : Nat} {x : RecD} (hx : l[i]? = some x) (hok : recOk x = true) : recAt (encB l next) i = x := by
 obtain ⟨A, C, h1, h2⟩ := encB_split (next := next) hx
 obtain ⟨r1, r2, r3, r4, r5, r6⟩ := recOk_range hok
 obtain ⟨k, a, b⟩ := x
 dsimp only at r1 r2 r3 r4 r5 r6
 unfold recAt
 rw [h1]
 unfold encR
 congr 1
 ·have := rgetN_mid A (le a 3 ++ le b 3 ++ C) k 1 (3 + 7 * i) r1 (by simp; omega) h2
  simpa only [List.append_assoc] using this
 ·have := rgetN_mid (A ++ le k 1) (le b 3 ++ C) a 3 (4 + 7 * i) r3 (by simp; omega) (by rw [List.length_append, h2, le_length]; omega)
  simpa only [List.append_assoc] using this
 ·have := rgetN_mid (A ++ le k 1 ++ le a 3) C b 3 (7 + 7 * i) r5 (by simp; omega) (by rw [List.length_append, List.length_append, h2, le_length, le_length]; omega)
  simpa only [List.append_assoc] using this
theorem okPut_parts {l : List RecD} {next : Int} (h : okPut l next = true) : l.length ≤ 15 ∧ okNext next = true ∧ ∀ x ∈ l, recOk x = true := by
 unfold okPut at h
 simp only [Bool.and_eq_true, decide_eq_true_eq, List.all_eq_true] at h
 exact ⟨h.1.1, h.1.2, h.2⟩
theorem cnt_enc {l : List RecD} {next : Int} (h : okPut l next = true) : cntOf (encB l next) = l.length := by
 obtain ⟨h1, _, _⟩ := okPut_parts h
 have := rgetN_mid [] (le next 2 ++ (l.flatMap encR ++ List.replicate (128 - (encH l.length next ++ l.flatMap encR).length) 0)) (l.length : Nat) 1 0 (by omega) (by simp; omega) rfl
 have h2 : getN (encB l next) 0 1 = l.length := by
  unfold encB padTo encH
  simp only [List.nil_append, List.append_assoc] at this ⊢
  unfold encH at this
  simp only [List.append_assoc] at this
  exact_mod_cast this
 rw [cntOf, h2]; omega
theorem next_enc {l : List RecD} {next : Int} (h : okPut l next = true) : nextOf (encB l next) = next := by
 obtain ⟨_, h1, _⟩ := okPut_parts h
 have hr := okNext_range h1
 have := rgetN_mid (le l.length 1) (l.flatMap encR ++ List.replicate (128 - (encH l.length next ++ l.flatMap encR).length) 0) next 2 1 hr.1 (by simp; omega) (le_length _ _)
 unfold nextOf encB padTo
 conv => lhs; arg 1; arg 1; arg 1; arg 1; unfold encH
 simpa only [List.append_assoc] using this
theorem parse_enc {l : List RecD} {next : Int} (h : okPut l next = true) : parse (encB l next) = l := by
 obtain ⟨_, _, h3⟩ := okPut_parts h
 unfold parse recsAt
 rw [cnt_enc h]
 apply List.ext_getElem?
 intro i
 rw [List.getElem?_map]
 rcases Nat.lt_or_ge i l.length with hi | hi
 ·rw [List.getElem?_range hi, List.getElem?_eq_getElem hi]
  exact congrArg some (recAt_enc (List.getElem?_eq_getElem hi) (h3 _ (List.getElem_mem hi)))
 ·rw [List.getElem?_eq_none (by simpa using hi), List.getElem?_eq_none hi]; rfl
theorem getOk_enc {l : List RecD} {next : Int} (h : okPut l next = true) : getOk (encB l next) = true ∧ getL (encB l next) = l ∧ getX (encB l next) = next := by
 have h1 : getOk (encB l next) = true := by unfold getOk; rw [parse_enc h, next_enc h, h]; simp
 exact ⟨h1, by rw [getL_yes h1, parse_enc h], by rw [getX_yes h1, next_enc h]⟩
theorem parseS_enc {s : SupD} (h : okSup s = true) : parseS (encS s) = s := by
 obtain ⟨b1, b2, b3, b4, b5, b6, b7⟩ := s
 have hr : (160 ≤ b1 ∧ b1 ≤ 1024) ∧ (0 ≤ b2 ∧ b2 ≤ 1024) ∧ (0 ≤ b3 ∧ b3 ≤ 1024) ∧ (0 ≤ b4 ∧ b4 ≤ 16777215) ∧ (0 ≤ b5 ∧ b5 ≤ 16777215) ∧ (0 ≤ b6 ∧ b6 ≤ 16777215) ∧ (0 ≤ b7 ∧ b7 ≤ 16777215) := by
  unfold okSup inB at h
  simp only [Bool.and_eq_true, decide_eq_true_eq] at h; omega
 obtain ⟨⟨g1, g2⟩, ⟨g3, g4⟩, ⟨g5, g6⟩, ⟨g7, g8⟩, ⟨g9, g10⟩, ⟨g11, g12⟩, g13, g14⟩ := hr
 obtain ⟨Z, hZ⟩ : ∃ Z, encS ⟨b1, b2, b3, b4, b5, b6, b7⟩ = magicB ++ le b1 2 ++ le b2 2 ++ le b3 2 ++ le b4 3 ++ le b5 3 ++ le b6 3 ++ le b7 3 ++ Z := ⟨_, by
  unfold encS padTo
  conv => lhs; arg 1; simp [encS1, encS0]
  simp only [List.append_assoc]; rfl⟩
 rw [hZ]
 unfold parseS
 have hm : magicB.length = 4 := rfl
 congr 1
 ·have := rgetN_mid magicB (le b2 2 ++ le b3 2 ++ le b4 3 ++ le b5 3 ++ le b6 3 ++ le b7 3 ++ Z) b1 2 4 (by omega) (by simp; omega) rfl
  simpa only [List.append_assoc] using this
 ·have := rgetN_mid (magicB ++ le b1 2) (le b3 2 ++ le b4 3 ++ le b5 3 ++ le b6 3 ++ le b7 3 ++ Z) b2 2 6 (by omega) (by simp; omega) (by simp [le_length, hm])
  simpa only [List.append_assoc] using this
 ·have := rgetN_mid (magicB ++ le b1 2 ++ le b2 2) (le b4 3 ++ le b5 3 ++ le b6 3 ++ le b7 3 ++ Z) b3 2 8 (by omega) (by simp; omega) (by simp [le_length, hm])
  simpa only [List.append_assoc] using this
 ·have := rgetN_mid (magicB ++ le b1 2 ++ le b2 2 ++ le b3 2) (le b5 3 ++ le b6 3 ++ le b7 3 ++ Z) b4 3 10 (by omega) (by simp; omega) (by simp [le_length, hm])
  simpa only [List.append_assoc] using this
 ·have := rgetN_mid (magicB ++ le b1 2 ++ le b2 2 ++ le b3 2 ++ le b4 3) (le b6 3 ++ le b7 3 ++ Z) b5 3 13 (by omega) (by simp; omega) (by simp [le_length, hm])
  simpa only [List.append_assoc] using this
 ·have := rgetN_mid (magicB ++ le b1 2 ++ le b2 2 ++ le b3 2 ++ le b4 3 ++ le b5 3) (le b7 3 ++ Z) b6 3 16 (by omega) (by simp; omega) (by simp [le_length, hm])
  simpa only [List.append_assoc] using this
 ·have := rgetN_mid (magicB ++ le b1 2 ++ le b2 2 ++ le b3 2 ++ le b4 3 ++ le b5 3 ++ le b6 3) Z b7 3 19 (by omega) (by simp; omega) (by simp [le_length, hm])
  simpa only [List.append_assoc] using this
theorem getSOk_enc {s : SupD} (h : okSup s = true) : getSOk (encS s) = true ∧ getS (encS s) = s := by
 have h1 : getSOk (encS s) = true := by unfold getSOk; rw [parseS_enc h, h]; simp
 exact ⟨h1, by rw [getS_yes h1, parseS_enc h]⟩
end Go.Proofs.YtchohheleofncaaGreat
namespace Go.Proofs.YtchohheleofncaaGreat
open Go.RowKit Go.Sep
attribute [local irreducible] Go.Oper.wp Go.wpList Go.Calls Go.Code.wp Go.Sep.Reg
theorem eq_sup (w : World) (x y : SupD) : (Op.equalIn 10000 77 (.agg (sv x).toArray) (.agg (sv y).toArray)).run Tryz.prog w = .ok (decide (x = y)) w := by
 obtain ⟨a1, a2, a3, a4, a5, a6, a7⟩ := x
 obtain ⟨b1, b2, b3, b4, b5, b6, b7⟩ := y
 simp only [SupD.mk.injEq]
 unfold sv
 by_cases h1 : a1 = b1
 rotate_left
 ·have e3 : (a1 == b1) = false := beq_eq_false_iff_ne.2 h1
  go_simp
 by_cases h2 : a2 = b2
 rotate_left
 ·have e3 : (a2 == b2) = false := beq_eq_false_iff_ne.2 h2
  go_simp
 by_cases h3 : a3 = b3
 rotate_left
 ·have e3 : (a3 == b3) = false := beq_eq_false_iff_ne.2 h3
  go_simp
 by_cases h4 : a4 = b4
 rotate_left
 ·have e3 : (a4 == b4) = false := beq_eq_false_iff_ne.2 h4
  go_simp
 by_cases h5 : a5 = b5
 rotate_left
 ·have e3 : (a5 == b5) = false := beq_eq_false_iff_ne.2 h5
  go_simp
 by_cases h6 : a6 = b6
 rotate_left
 ·have e3 : (a6 == b6) = false := beq_eq_false_iff_ne.2 h6
  go_simp
 by_cases h7 : a7 = b7
 rotate_left
 ·have e3 : (a7 == b7) = false := beq_eq_false_iff_ne.2 h7
  go_simp
 subst h1; subst h2; subst h3; subst h4; subst h5; subst h6; subst h7
 go_simp
end Go.Proofs.YtchohheleofncaaGreat
