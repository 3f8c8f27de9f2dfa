/-
  record.PutSuper.
-/
import Derived.Test.YtcabgeljdgcdlaaRecRefGet
namespace Go.Proofs.Ytcabgeljdgcdlaa
open Go.RowKit Go.Sep
set_option linter.unusedSimpArgs false
set_option linter.unusedVariables false
attribute [local irreducible] Go.Oper.wp Go.wpList Go.Calls Go.Code.wp Go.Sep.Reg
structure SupD where
  blocks : Int
  head : Int
  tail : Int
  records : Int
  shown : Int
  next : Int
  mounts : Int
instance : DecidableEq SupD := fun x y => if h : x.blocks = y.blocks ∧ x.head = y.head ∧ x.tail = y.tail ∧ x.records = y.records ∧ x.shown = y.shown ∧ x.next = y.next ∧ x.mounts = y.mounts then isTrue (by cases x; cases y; simp_all) else isFalse (fun e => by subst e; exact h ⟨rfl, rfl, rfl, rfl, rfl, rfl, rfl⟩)
def sv (s : SupD) : List Value := [.int .i64 s.blocks, .int .i64 s.head, .int .i64 s.tail, .int .i64 s.records, .int .i64 s.shown, .int .i64 s.next, .int .i64 s.mounts]
def okSup (s : SupD) : Bool := inB s.blocks 160 1024 && inB s.head 74 (s.blocks - 1) && inB s.tail 74 (s.blocks - 1) && inB s.shown 0 s.records && decide (s.records ≤ 16777215) && inB s.next 1 16777215 && inB s.mounts 0 16777215
def magicB : List UInt8 := [112, 101, 100, 105]
def encS0 (s : SupD) (k : Nat) : List UInt8 := magicB ++ ([s.blocks, s.head, s.tail].take k).flatMap (le · 2)
def encS1 (s : SupD) (k : Nat) : List UInt8 := encS0 s 3 ++ ([s.records, s.shown, s.next, s.mounts].take k).flatMap (le · 3)
def encS (s : SupD) : List UInt8 := padTo (encS1 s 4) 128
def supB (s : SupD) : List UInt8 := if okSup s then encS s else []
theorem supB_no {s : SupD} (h : okSup s = false) : supB s = [] := by simp [supB, h]
theorem supB_yes {s : SupD} (h : okSup s = true) : supB s = encS s := by simp [supB, h]
theorem encS0_len (s : SupD) {k : Nat} (h : k ≤ 3) : (encS0 s k).length ≤ 10 := by
  match k, h with
  | 0, _ => simp [encS0, magicB, le_length]
  | 1, _ => simp [encS0, magicB, le_length]
  | 2, _ => simp [encS0, magicB, le_length]
  | 3, _ => simp [encS0, magicB, le_length]
theorem encS1_len (s : SupD) {k : Nat} (h : k ≤ 4) : (encS1 s k).length ≤ 22 := by
  have := encS0_len s (Nat.le_refl 3)
  match k, h with
  | 0, _ => simp [encS1, le_length] at this ⊢; omega
  | 1, _ => simp [encS1, le_length] at this ⊢; omega
  | 2, _ => simp [encS1, le_length] at this ⊢; omega
  | 3, _ => simp [encS1, le_length] at this ⊢; omega
  | 4, _ => simp [encS1, le_length] at this ⊢; omega
theorem encS_len (s : SupD) : (encS s).length = 128 := padTo_length (by have := encS1_len s (Nat.le_refl 4); omega)
theorem encS0_0 (s : SupD) : encS0 s 0 ++ le s.blocks 2 = encS0 s 1 := by simp [encS0]
theorem encS0_1 (s : SupD) : encS0 s 1 ++ le s.head 2 = encS0 s 2 := by simp [encS0]
theorem encS0_2 (s : SupD) : encS0 s 2 ++ le s.tail 2 = encS0 s 3 := by simp [encS0]
theorem encS1_0 (s : SupD) : encS1 s 0 ++ le s.records 3 = encS1 s 1 := by simp [encS1]
theorem encS1_1 (s : SupD) : encS1 s 1 ++ le s.shown 3 = encS1 s 2 := by simp [encS1]
theorem encS1_2 (s : SupD) : encS1 s 2 ++ le s.next 3 = encS1 s 3 := by simp [encS1]
theorem encS1_3 (s : SupD) : encS1 s 3 ++ le s.mounts 3 = encS1 s 4 := by simp [encS1]
theorem encS01 (s : SupD) : encS0 s 3 = encS1 s 0 := by simp [encS1]
theorem sv_all (x : SupD) : ∀ u ∈ sv x, u.oneCell' = true := fun u hu => by
  simp only [sv, List.mem_cons, List.not_mem_nil, or_false] at hu
  rcases hu with rfl | rfl | rfl | rfl | rfl | rfl | rfl <;> rfl
set_option maxRecDepth 20000 in
set_option maxHeartbeats 2000000 in
theorem sput_any {W w : World} {L : List Asrt} (hS : Sat W w L) (blocks head tail records shown next mounts : Int) :
    Calls Try.prog 50 #[.agg (sv ⟨blocks, head, tail, records, shown, next, mounts⟩).toArray] w fun e w' => ∃ v', e = .returned (.tuple #[v', .bool (okSup ⟨blocks, head, tail, records, shown, next, mounts⟩)]) ∧ Sat W w' (Sl 5 1 v' (supB ⟨blocks, head, tail, records, shown, next, mounts⟩).length (bv (supB ⟨blocks, head, tail, records, shown, next, mounts⟩)) :: L) := by
  have HNIL := Lib.hid (hS.slNil (E := 5) (sz := 1))
  cases h0 : inB blocks 160 1024
  · have HNO : Hid (okSup ⟨blocks, head, tail, records, shown, next, mounts⟩ = false) := Lib.hid (by unfold okSup; simp only [h0, Bool.false_and, Bool.and_false, Bool.true_and, Bool.and_true])
    go_enter Try.func50, Try.ntmps50
    go_wp2_with (first
      | (refine toList (by rfl) ?_; refine bx hS _ _ (by rfl) _ (by first | exact evC | exact evT (by rfl)) ?_; intro ps w1 hS1; clear hS; have hS := hS1; clear hS1; rw [cells_agg] at hS)
      | (refine toList (by rfl) ?_; refine ld hS _ _ (by rfl) _ _ (by rfl) (agOf (by rfl)) (by first | exact Has.z | exact Has.s Has.z | exact Has.s (Has.s Has.z) | exact Has.s (Has.s (Has.s Has.z)) | exact Has.s (Has.s (Has.s (Has.s Has.z))) | exact Has.s (Has.s (Has.s (Has.s (Has.s Has.z))))) (by rfl) ?_)
      | (go_at_call 69; refine (in_any _ blocks _ _ h0).mono ?_; rintro e w1 ⟨rfl, rfl⟩))
    go_ret2
    rw [HNO.out, supB_no HNO.out]
    exact ⟨_, rfl, hS.drop.slNil⟩
  cases h1 : inB head 74 (blocks - 1)
  · have HNO : Hid (okSup ⟨blocks, head, tail, records, shown, next, mounts⟩ = false) := Lib.hid (by unfold okSup; simp only [h0, h1, Bool.false_and, Bool.and_false, Bool.true_and, Bool.and_true])
    have hb0 : 160 ≤ blocks ∧ blocks ≤ 1024 := by simpa [inB] using h0
    obtain ⟨hb1, hb2⟩ := hb0
    go_enter Try.func50, Try.ntmps50
    go_wp2_with (first
      | (refine toList (by rfl) ?_; refine bx hS _ _ (by rfl) _ (by first | exact evC | exact evT (by rfl)) ?_; intro ps w1 hS1; clear hS; have hS := hS1; clear hS1; rw [cells_agg] at hS)
      | (refine toList (by rfl) ?_; refine ld hS _ _ (by rfl) _ _ (by rfl) (agOf (by rfl)) (by first | exact Has.z | exact Has.s Has.z | exact Has.s (Has.s Has.z) | exact Has.s (Has.s (Has.s Has.z)) | exact Has.s (Has.s (Has.s (Has.s Has.z))) | exact Has.s (Has.s (Has.s (Has.s (Has.s Has.z))))) (by rfl) ?_)
      | (go_at_call 69; refine (in_any _ blocks _ _ h0).mono ?_; rintro e w1 ⟨rfl, rfl⟩)
      | (go_at_call 69; refine (in_any _ head _ _ h1).mono ?_; rintro e w1 ⟨rfl, rfl⟩))
    go_ret2
    rw [HNO.out, supB_no HNO.out]
    exact ⟨_, rfl, hS.drop.slNil⟩
  cases h2 : inB tail 74 (blocks - 1)
  · have HNO : Hid (okSup ⟨blocks, head, tail, records, shown, next, mounts⟩ = false) := Lib.hid (by unfold okSup; simp only [h0, h1, h2, Bool.false_and, Bool.and_false, Bool.true_and, Bool.and_true])
    have hb0 : 160 ≤ blocks ∧ blocks ≤ 1024 := by simpa [inB] using h0
    obtain ⟨hb1, hb2⟩ := hb0
    go_enter Try.func50, Try.ntmps50
    go_wp2_with (first
      | (refine toList (by rfl) ?_; refine bx hS _ _ (by rfl) _ (by first | exact evC | exact evT (by rfl)) ?_; intro ps w1 hS1; clear hS; have hS := hS1; clear hS1; rw [cells_agg] at hS)
      | (refine toList (by rfl) ?_; refine ld hS _ _ (by rfl) _ _ (by rfl) (agOf (by rfl)) (by first | exact Has.z | exact Has.s Has.z | exact Has.s (Has.s Has.z) | exact Has.s (Has.s (Has.s Has.z)) | exact Has.s (Has.s (Has.s (Has.s Has.z))) | exact Has.s (Has.s (Has.s (Has.s (Has.s Has.z))))) (by rfl) ?_)
      | (go_at_call 69; refine (in_any _ blocks _ _ h0).mono ?_; rintro e w1 ⟨rfl, rfl⟩)
      | (go_at_call 69; refine (in_any _ head _ _ h1).mono ?_; rintro e w1 ⟨rfl, rfl⟩)
      | (go_at_call 69; refine (in_any _ tail _ _ h2).mono ?_; rintro e w1 ⟨rfl, rfl⟩))
    go_ret2
    rw [HNO.out, supB_no HNO.out]
    exact ⟨_, rfl, hS.drop.slNil⟩
  cases h3 : inB shown 0 records
  · have HNO : Hid (okSup ⟨blocks, head, tail, records, shown, next, mounts⟩ = false) := Lib.hid (by unfold okSup; simp only [h0, h1, h2, h3, Bool.false_and, Bool.and_false, Bool.true_and, Bool.and_true])
    have hb0 : 160 ≤ blocks ∧ blocks ≤ 1024 := by simpa [inB] using h0
    obtain ⟨hb1, hb2⟩ := hb0
    go_enter Try.func50, Try.ntmps50
    go_wp2_with (first
      | (refine toList (by rfl) ?_; refine bx hS _ _ (by rfl) _ (by first | exact evC | exact evT (by rfl)) ?_; intro ps w1 hS1; clear hS; have hS := hS1; clear hS1; rw [cells_agg] at hS)
      | (refine toList (by rfl) ?_; refine ld hS _ _ (by rfl) _ _ (by rfl) (agOf (by rfl)) (by first | exact Has.z | exact Has.s Has.z | exact Has.s (Has.s Has.z) | exact Has.s (Has.s (Has.s Has.z)) | exact Has.s (Has.s (Has.s (Has.s Has.z))) | exact Has.s (Has.s (Has.s (Has.s (Has.s Has.z))))) (by rfl) ?_)
      | (go_at_call 69; refine (in_any _ blocks _ _ h0).mono ?_; rintro e w1 ⟨rfl, rfl⟩)
      | (go_at_call 69; refine (in_any _ head _ _ h1).mono ?_; rintro e w1 ⟨rfl, rfl⟩)
      | (go_at_call 69; refine (in_any _ tail _ _ h2).mono ?_; rintro e w1 ⟨rfl, rfl⟩)
      | (go_at_call 69; refine (in_any _ shown _ _ h3).mono ?_; rintro e w1 ⟨rfl, rfl⟩))
    go_ret2
    rw [HNO.out, supB_no HNO.out]
    exact ⟨_, rfl, hS.drop.slNil⟩
  by_cases h4 : records ≤ 16777215
  rotate_left
  · have HNO : Hid (okSup ⟨blocks, head, tail, records, shown, next, mounts⟩ = false) := Lib.hid (by unfold okSup; simp only [inB, Bool.and_eq_true, Bool.and_eq_false_iff, decide_eq_true_eq, decide_eq_false_iff_not] at h0 h1 h2 h3 h4 ⊢; omega)
    have hb0 : 160 ≤ blocks ∧ blocks ≤ 1024 := by simpa [inB] using h0
    obtain ⟨hb1, hb2⟩ := hb0
    have h4' : 16777215 < records := by omega
    go_enter Try.func50, Try.ntmps50
    go_wp2_with (first
      | (refine toList (by rfl) ?_; refine bx hS _ _ (by rfl) _ (by first | exact evC | exact evT (by rfl)) ?_; intro ps w1 hS1; clear hS; have hS := hS1; clear hS1; rw [cells_agg] at hS)
      | (refine toList (by rfl) ?_; refine ld hS _ _ (by rfl) _ _ (by rfl) (agOf (by rfl)) (by first | exact Has.z | exact Has.s Has.z | exact Has.s (Has.s Has.z) | exact Has.s (Has.s (Has.s Has.z)) | exact Has.s (Has.s (Has.s (Has.s Has.z))) | exact Has.s (Has.s (Has.s (Has.s (Has.s Has.z))))) (by rfl) ?_)
      | (go_at_call 69; refine (in_any _ blocks _ _ h0).mono ?_; rintro e w1 ⟨rfl, rfl⟩)
      | (go_at_call 69; refine (in_any _ head _ _ h1).mono ?_; rintro e w1 ⟨rfl, rfl⟩)
      | (go_at_call 69; refine (in_any _ tail _ _ h2).mono ?_; rintro e w1 ⟨rfl, rfl⟩)
      | (go_at_call 69; refine (in_any _ shown _ _ h3).mono ?_; rintro e w1 ⟨rfl, rfl⟩))
    go_ret2
    rw [HNO.out, supB_no HNO.out]
    exact ⟨_, rfl, hS.drop.slNil⟩
  cases h5 : inB next 1 16777215
  · have HNO : Hid (okSup ⟨blocks, head, tail, records, shown, next, mounts⟩ = false) := Lib.hid (by unfold okSup; simp only [h0, h1, h2, h3, h4, h5, Bool.false_and, Bool.and_false, Bool.true_and, Bool.and_true])
    have hb0 : 160 ≤ blocks ∧ blocks ≤ 1024 := by simpa [inB] using h0
    obtain ⟨hb1, hb2⟩ := hb0
    have e4 : decide (16777215 < records) = false := by simp; omega
    go_enter Try.func50, Try.ntmps50
    go_wp2_with (first
      | (refine toList (by rfl) ?_; refine bx hS _ _ (by rfl) _ (by first | exact evC | exact evT (by rfl)) ?_; intro ps w1 hS1; clear hS; have hS := hS1; clear hS1; rw [cells_agg] at hS)
      | (refine toList (by rfl) ?_; refine ld hS _ _ (by rfl) _ _ (by rfl) (agOf (by rfl)) (by first | exact Has.z | exact Has.s Has.z | exact Has.s (Has.s Has.z) | exact Has.s (Has.s (Has.s Has.z)) | exact Has.s (Has.s (Has.s (Has.s Has.z))) | exact Has.s (Has.s (Has.s (Has.s (Has.s Has.z))))) (by rfl) ?_)
      | (go_at_call 69; refine (in_any _ blocks _ _ h0).mono ?_; rintro e w1 ⟨rfl, rfl⟩)
      | (go_at_call 69; refine (in_any _ head _ _ h1).mono ?_; rintro e w1 ⟨rfl, rfl⟩)
      | (go_at_call 69; refine (in_any _ tail _ _ h2).mono ?_; rintro e w1 ⟨rfl, rfl⟩)
      | (go_at_call 69; refine (in_any _ shown _ _ h3).mono ?_; rintro e w1 ⟨rfl, rfl⟩)
      | (go_at_call 69; refine (in_any _ next _ _ h5).mono ?_; rintro e w1 ⟨rfl, rfl⟩))
    go_ret2
    rw [HNO.out, supB_no HNO.out]
    exact ⟨_, rfl, hS.drop.slNil⟩
  cases h6 : inB mounts 0 16777215
  · have HNO : Hid (okSup ⟨blocks, head, tail, records, shown, next, mounts⟩ = false) := Lib.hid (by unfold okSup; simp only [h0, h1, h2, h3, h4, h5, h6, Bool.false_and, Bool.and_false, Bool.true_and, Bool.and_true])
    have hb0 : 160 ≤ blocks ∧ blocks ≤ 1024 := by simpa [inB] using h0
    obtain ⟨hb1, hb2⟩ := hb0
    have e4 : decide (16777215 < records) = false := by simp; omega
    go_enter Try.func50, Try.ntmps50
    go_wp2_with (first
      | (refine toList (by rfl) ?_; refine bx hS _ _ (by rfl) _ (by first | exact evC | exact evT (by rfl)) ?_; intro ps w1 hS1; clear hS; have hS := hS1; clear hS1; rw [cells_agg] at hS)
      | (refine toList (by rfl) ?_; refine ld hS _ _ (by rfl) _ _ (by rfl) (agOf (by rfl)) (by first | exact Has.z | exact Has.s Has.z | exact Has.s (Has.s Has.z) | exact Has.s (Has.s (Has.s Has.z)) | exact Has.s (Has.s (Has.s (Has.s Has.z))) | exact Has.s (Has.s (Has.s (Has.s (Has.s Has.z))))) (by rfl) ?_)
      | (go_at_call 69; refine (in_any _ blocks _ _ h0).mono ?_; rintro e w1 ⟨rfl, rfl⟩)
      | (go_at_call 69; refine (in_any _ head _ _ h1).mono ?_; rintro e w1 ⟨rfl, rfl⟩)
      | (go_at_call 69; refine (in_any _ tail _ _ h2).mono ?_; rintro e w1 ⟨rfl, rfl⟩)
      | (go_at_call 69; refine (in_any _ shown _ _ h3).mono ?_; rintro e w1 ⟨rfl, rfl⟩)
      | (go_at_call 69; refine (in_any _ next _ _ h5).mono ?_; rintro e w1 ⟨rfl, rfl⟩)
      | (go_at_call 69; refine (in_any _ mounts _ _ h6).mono ?_; rintro e w1 ⟨rfl, rfl⟩))
    go_ret2
    rw [HNO.out, supB_no HNO.out]
    exact ⟨_, rfl, hS.drop.slNil⟩
  have HYES : Hid (okSup ⟨blocks, head, tail, records, shown, next, mounts⟩ = true) := Lib.hid (by unfold okSup; simp only [inB, Bool.and_eq_true, decide_eq_true_eq] at h0 h1 h2 h3 h4 h5 h6 ⊢; omega)
  have hb0 : 160 ≤ blocks ∧ blocks ≤ 1024 := by simpa [inB] using h0
  obtain ⟨hb1, hb2⟩ := hb0
  have hr : (0 ≤ head ∧ head ≤ 1024) ∧ (0 ≤ tail ∧ tail ≤ 1024) ∧ (0 ≤ records ∧ records ≤ 16777215) ∧ (0 ≤ shown ∧ shown ≤ 16777215) ∧ (0 ≤ next ∧ next ≤ 16777215) ∧ (0 ≤ mounts ∧ mounts ≤ 16777215) := by
    simp only [inB, Bool.and_eq_true, decide_eq_true_eq] at h0 h1 h2 h3 h4 h5 h6; omega
  obtain ⟨⟨r1, r2⟩, ⟨r3, r4⟩, ⟨r5, r6⟩, ⟨r7, r8⟩, ⟨r9, r10⟩, r11, r12⟩ := hr
  have e4 : decide (16777215 < records) = false := by simp; omega
  have HMG := Lib.hid (show [Value.int .u8 112, Value.int .u8 101, Value.int .u8 100, Value.int .u8 105] = bv magicB by rfl)
  go_enter Try.func50, Try.ntmps50
  go_wp2_with (first
    | (refine toList (by rfl) ?_; refine bx hS _ _ (by rfl) _ (by first | exact evC | exact evT (by rfl)) ?_; intro ps w1 hS1; clear hS; have hS := hS1; clear hS1; rw [cells_agg] at hS)
    | (refine toList (by rfl) ?_; refine ld hS _ _ (by rfl) _ _ (by rfl) (agOf (by rfl)) (by first | exact Has.z | exact Has.s Has.z | exact Has.s (Has.s Has.z) | exact Has.s (Has.s (Has.s Has.z)) | exact Has.s (Has.s (Has.s (Has.s Has.z))) | exact Has.s (Has.s (Has.s (Has.s (Has.s Has.z))))) (by rfl) ?_)
    | (go_at_call 69; refine (in_any _ blocks _ _ h0).mono ?_; rintro e w1 ⟨rfl, rfl⟩)
    | (go_at_call 69; refine (in_any _ head _ _ h1).mono ?_; rintro e w1 ⟨rfl, rfl⟩)
    | (go_at_call 69; refine (in_any _ tail _ _ h2).mono ?_; rintro e w1 ⟨rfl, rfl⟩)
    | (go_at_call 69; refine (in_any _ shown _ _ h3).mono ?_; rintro e w1 ⟨rfl, rfl⟩)
    | (go_at_call 69; refine (in_any _ next _ _ h5).mono ?_; rintro e w1 ⟨rfl, rfl⟩)
    | (go_at_call 69; refine (in_any _ mounts _ _ h6).mono ?_; rintro e w1 ⟨rfl, rfl⟩)
    | (refine toList (by rfl) ?_; refine bsF hS _ _ _ (by rfl) (elOf (by rfl)) [.int .u8 112, .int .u8 101, .int .u8 100, .int .u8 105] (by rfl) (by rfl) (by decide) (by decide) (by decide) ?_; intro b1 w1 hS1; clear hS; have hS := hS1; clear hS1)
    | (refine toList (by rfl) ?_; refine fzS hS _ _ (by rfl) _ _ _ _ (by rfl) (by kernel_rfl) (by first | exact Has.z | exact Has.s Has.z | exact Has.s (Has.s Has.z) | exact Has.s (Has.s (Has.s Has.z)) | exact Has.s (Has.s (Has.s (Has.s Has.z))) | exact Has.s (Has.s (Has.s (Has.s (Has.s Has.z))))) ?_; intro w1 hS1; clear hS; have hS := hS1; clear hS1))
  have i00 : ∀ w, (Instr.index 115 (.agg #[.int .i64 blocks, .int .i64 head, .int .i64 tail]) (.int .i64 0)).run Try.prog w = .ok (.int .i64 blocks) w := fun _ => by kernel_rfl
  have i01 : ∀ w, (Instr.index 115 (.agg #[.int .i64 blocks, .int .i64 head, .int .i64 tail]) (.int .i64 1)).run Try.prog w = .ok (.int .i64 head) w := fun _ => by kernel_rfl
  have i02 : ∀ w, (Instr.index 115 (.agg #[.int .i64 blocks, .int .i64 head, .int .i64 tail]) (.int .i64 2)).run Try.prog w = .ok (.int .i64 tail) w := fun _ => by kernel_rfl
  have i10 : ∀ w, (Instr.index 116 (.agg #[.int .i64 records, .int .i64 shown, .int .i64 next, .int .i64 mounts]) (.int .i64 0)).run Try.prog w = .ok (.int .i64 records) w := fun _ => by kernel_rfl
  have i11 : ∀ w, (Instr.index 116 (.agg #[.int .i64 records, .int .i64 shown, .int .i64 next, .int .i64 mounts]) (.int .i64 1)).run Try.prog w = .ok (.int .i64 shown) w := fun _ => by kernel_rfl
  have i12 : ∀ w, (Instr.index 116 (.agg #[.int .i64 records, .int .i64 shown, .int .i64 next, .int .i64 mounts]) (.int .i64 2)).run Try.prog w = .ok (.int .i64 next) w := fun _ => by kernel_rfl
  have i13 : ∀ w, (Instr.index 116 (.agg #[.int .i64 records, .int .i64 shown, .int .i64 next, .int .i64 mounts]) (.int .i64 3)).run Try.prog w = .ok (.int .i64 mounts) w := fun _ => by kernel_rfl
  have HL0 : ∀ k, k ≤ 3 → Hid ((encS0 ⟨blocks, head, tail, records, shown, next, mounts⟩ k).length ≤ 1000000) := fun k hk => Lib.hid (by have := encS0_len ⟨blocks, head, tail, records, shown, next, mounts⟩ hk; omega)
  have HL1 : ∀ k, k ≤ 4 → Hid ((encS1 ⟨blocks, head, tail, records, shown, next, mounts⟩ k).length ≤ 1000000) := fun k hk => Lib.hid (by have := encS1_len ⟨blocks, head, tail, records, shown, next, mounts⟩ hk; omega)
  have hS1 : Sat W _ (Sl 5 1 (.slice (some ⟨b1, 0, none⟩) 4 4) (encS0 ⟨blocks, head, tail, records, shown, next, mounts⟩ 0).length (bv (encS0 ⟨blocks, head, tail, records, shown, next, mounts⟩ 0)) :: _) := Sat.slMk (n := 4) (sz := 1) (cap := 4) (pre := []) (vs := bv magicB) (rest := []) (by exact hS) (Nat.le_refl _) (by decide) (by rfl) rfl (by decide)
  have H0 := Lib.hid hS1
  clear hS1 hS
  go_loopw [65, 4] (fun vi vb wz => ∃ k : Nat, k ≤ 3 ∧ vi = .int .i64 k ∧ Sat W wz (Sl 5 1 vb (encS0 ⟨blocks, head, tail, records, shown, next, mounts⟩ k).length (bv (encS0 ⟨blocks, head, tail, records, shown, next, mounts⟩ k)) :: Cs ps 80 (sv ⟨blocks, head, tail, records, shown, next, mounts⟩) :: L)) (fun vi _ _ => 3 - (intOf vi).toNat)
  case atStart => exact ⟨0, by omega, rfl, H0.out⟩
  case round =>
    clear H0
    obtain ⟨k, hk, rfl, hS⟩ := hrel
    rcases (show k = 0 ∨ k = 1 ∨ k = 2 ∨ k = 3 by omega) with rfl | rfl | rfl | rfl
    · go_wp2_with (go_at_call 56; refine (put_any hS blocks (by omega) (by omega) 2 (by omega) (by omega) (HL0 0 (by omega)).out).mono ?_; rintro e w1 ⟨v1, rfl, hS1⟩; clear hS; have hS := hS1; clear hS1)
      rw [encS0_0] at hS
      exact ⟨⟨1, by omega, rfl, hS⟩, by simp [intOf]⟩
    · go_wp2_with (go_at_call 56; refine (put_any hS head (by omega) (by omega) 2 (by omega) (by omega) (HL0 1 (by omega)).out).mono ?_; rintro e w1 ⟨v1, rfl, hS1⟩; clear hS; have hS := hS1; clear hS1)
      rw [encS0_1] at hS
      exact ⟨⟨2, by omega, rfl, hS⟩, by simp [intOf]⟩
    · go_wp2_with (go_at_call 56; refine (put_any hS tail (by omega) (by omega) 2 (by omega) (by omega) (HL0 2 (by omega)).out).mono ?_; rintro e w1 ⟨v1, rfl, hS1⟩; clear hS; have hS := hS1; clear hS1)
      rw [encS0_2] at hS
      exact ⟨⟨3, by omega, rfl, hS⟩, by simp [intOf]⟩
    have H1 : Hid (Sat W wr (Sl 5 1 _ (encS1 ⟨blocks, head, tail, records, shown, next, mounts⟩ 0).length (bv (encS1 ⟨blocks, head, tail, records, shown, next, mounts⟩ 0)) :: Cs ps 80 (sv ⟨blocks, head, tail, records, shown, next, mounts⟩) :: L)) := Lib.hid (by simpa [encS1] using hS)
    go_wp2_with (refine toList (by rfl) ?_; refine ld hS _ _ (by rfl) _ _ (by rfl) (agOf (by rfl)) (by first | exact Has.z | exact Has.s Has.z | exact Has.s (Has.s Has.z) | exact Has.s (Has.s (Has.s Has.z)) | exact Has.s (Has.s (Has.s (Has.s Has.z))) | exact Has.s (Has.s (Has.s (Has.s (Has.s Has.z))))) (by rfl) ?_)
    clear hS
    go_loopw [81, 4] (fun vi vb wz => ∃ k : Nat, k ≤ 4 ∧ vi = .int .i64 k ∧ Sat W wz (Sl 5 1 vb (encS1 ⟨blocks, head, tail, records, shown, next, mounts⟩ k).length (bv (encS1 ⟨blocks, head, tail, records, shown, next, mounts⟩ k)) :: Cs ps 80 (sv ⟨blocks, head, tail, records, shown, next, mounts⟩) :: L)) (fun vi _ _ => 4 - (intOf vi).toNat)
    case atStart => exact ⟨0, by omega, rfl, H1.out⟩
    case round =>
      clear H1
      obtain ⟨k, hk, rfl, hS⟩ := hrel
      rcases (show k = 0 ∨ k = 1 ∨ k = 2 ∨ k = 3 ∨ k = 4 by omega) with rfl | rfl | rfl | rfl | rfl
      · go_wp2_with (go_at_call 56; refine (put_any hS records (by omega) (by omega) 3 (by omega) (by omega) (HL1 0 (by omega)).out).mono ?_; rintro e w1 ⟨v1, rfl, hS1⟩; clear hS; have hS := hS1; clear hS1)
        rw [encS1_0] at hS
        exact ⟨⟨1, by omega, rfl, hS⟩, by simp [intOf]⟩
      · go_wp2_with (go_at_call 56; refine (put_any hS shown (by omega) (by omega) 3 (by omega) (by omega) (HL1 1 (by omega)).out).mono ?_; rintro e w1 ⟨v1, rfl, hS1⟩; clear hS; have hS := hS1; clear hS1)
        rw [encS1_1] at hS
        exact ⟨⟨2, by omega, rfl, hS⟩, by simp [intOf]⟩
      · go_wp2_with (go_at_call 56; refine (put_any hS next (by omega) (by omega) 3 (by omega) (by omega) (HL1 2 (by omega)).out).mono ?_; rintro e w1 ⟨v1, rfl, hS1⟩; clear hS; have hS := hS1; clear hS1)
        rw [encS1_2] at hS
        exact ⟨⟨3, by omega, rfl, hS⟩, by simp [intOf]⟩
      · go_wp2_with (go_at_call 56; refine (put_any hS mounts (by omega) (by omega) 3 (by omega) (by omega) (HL1 3 (by omega)).out).mono ?_; rintro e w1 ⟨v1, rfl, hS1⟩; clear hS; have hS := hS1; clear hS1)
        rw [encS1_3] at hS
        exact ⟨⟨4, by omega, rfl, hS⟩, by simp [intOf]⟩
      have HLE := Lib.hid (encS1_len ⟨blocks, head, tail, records, shown, next, mounts⟩ (Nat.le_refl 4))
      have HEL := Lib.hid (encS_len ⟨blocks, head, tail, records, shown, next, mounts⟩)
      go_wp2_with (go_at_call 57; refine (pad_any hS 128 (by have := HLE.out; omega) (by omega)).mono ?_; rintro e w1 ⟨v3, rfl, hS1⟩; clear hS; have hS := hS1; clear hS1)
      go_ret2
      rw [HYES.out, supB_yes HYES.out, HEL.out]
      exact ⟨_, rfl, hS.pull1.drop⟩
end Go.Proofs.Ytcabgeljdgcdlaa
