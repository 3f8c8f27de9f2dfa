/-
  The disk and the document's disk, side by side; Bytes.
-/
import Derived.Test.YtefbkpggmmhgcaaWlRef
import Derived.Test.YtefbkpggmmhgcaaWlDisk
namespace Go.Proofs.Ytefbkpggmmhgcaa
open Go.RowKit Go.Sep
set_option linter.unusedSimpArgs false
set_option linter.unusedVariables false
attribute [local irreducible] Go.Oper.wp Go.wpList Go.Calls Go.Code.wp Go.Sep.Reg
theorem bytes_any {W w : World} {L : List Asrt} (hS : Sat W w L) (l : List UInt8) (v : Value) (h : Rd w v l.length 1 (bv l)) (hb : l.length ≤ 140737488351232) :
    Calls Try.prog 32 #[v] w fun e w' => ∃ v', e = .returned v' ∧ Sat W w' (Sl 5 1 v' l.length (bv l) :: L) := by
  go_enter Try.func32, Try.ntmps32
  go_wp2_with (refine toList (by rfl) ?_; refine ap (hS.slNil (E := 5) (sz := 1)) _ _ _ _ (by rfl) _ _ (by rfl) (by rfl) (elOf (by rfl)) (by rfl) (by omega) (inOf (by rfl)) Has.z (by exact .inl h) (bv_one l) (by omega) (by omega) ?_; intro v' w' hS')
  go_ret
  exact ⟨v', rfl, by simpa using hS'⟩
/-- They say the same. -/
structure Rel (D : DiskS) (R : RefS) : Prop where
  blocks : D.blocks = R.L
  writes : D.writes = R.Log
  dead : D.dead = R.dead
  left : D.left = if R.armed then R.left else -1
  lo : 0 ≤ R.left
  hi : R.left ≤ 9223372036854775807
  ok : D.Ok
def bad (len : Nat) (n : Int) (m : Nat) : Prop := n < 0 ∨ (len : Int) ≤ n ∨ m ≠ 128
instance (len : Nat) (n : Int) (m : Nat) : Decidable (bad len n m) := by unfold bad; infer_instance
def wcode (D : DiskS) (n : Int) (m : Nat) : Int := if D.dead then 22 else if bad D.blocks.length n m then 1 else if D.left = 0 then 22 else 0
def wnext (D : DiskS) (n : Int) (b : List UInt8) : DiskS := if D.dead then D else if bad D.blocks.length n b.length then D else if D.left = 0 then { D with dead := true } else D.wrote n.toNat b
def rnext (D : DiskS) (R : RefS) (n : Int) (b : List UInt8) : RefS := if D.dead then R else if bad D.blocks.length n b.length then R else if D.left = 0 then { R with dead := true } else R.wrote n.toNat b
theorem Rel.next {D : DiskS} {R : RefS} (h : Rel D R) (n : Int) (b : List UInt8) : Rel (wnext D n b) (rnext D R n b) := by
  unfold wnext rnext
  by_cases h1 : D.dead = true
  · rw [if_pos h1, if_pos h1]; exact h
  rw [if_neg h1, if_neg h1]
  by_cases h2 : bad D.blocks.length n b.length
  · rw [if_pos h2, if_pos h2]; exact h
  rw [if_neg h2, if_neg h2]
  by_cases h3 : D.left = 0
  · rw [if_pos h3, if_pos h3]; exact ⟨h.blocks, h.writes, rfl, h.left, h.lo, h.hi, ⟨h.ok.len, h.ok.base, h.ok.at_⟩⟩
  rw [if_neg h3, if_neg h3]
  have hl := h.left
  have h4 := h.lo
  have h5 := h.hi
  unfold bad at h2
  refine ⟨by simp only [DiskS.wrote, RefS.wrote, h.blocks], by simp only [DiskS.wrote, RefS.wrote, h.writes], h.dead, ?_, ?_, ?_, ⟨by rw [wrote_len]; exact h.ok.len, by rw [wrote_len]; exact h.ok.base, fun x hx => ?_⟩⟩
  · cases ha : R.armed <;> simp only [ha, Bool.false_eq_true, if_false, if_true] at hl <;> simp only [DiskS.wrote, RefS.wrote, ha, hl] <;> simp <;> omega
  · cases ha : R.armed <;> simp only [ha, Bool.false_eq_true, if_false, if_true] at hl <;> simp only [RefS.wrote, ha] <;> simp <;> omega
  · cases ha : R.armed <;> simp only [ha, Bool.false_eq_true, if_false, if_true] at hl <;> simp only [RefS.wrote, ha] <;> simp <;> omega
  · rw [wrote_len]
    rcases List.mem_append.1 hx with hx | hx
    · exact h.ok.at_ x hx
    · rw [List.mem_singleton.1 hx]; show n.toNat < _; omega
theorem wnext_writes (D : DiskS) (n : Int) (b : List UInt8) : (wnext D n b).writes.length ≤ D.writes.length + 1 := by
  unfold wnext
  split
  · omega
  split
  · omega
  split
  · show D.writes.length ≤ _; omega
  · simp [DiskS.wrote]
theorem write_any {W w : World} {L : List Asrt} {p : Nat} {D : DiskS} {R : RefS} (hS : Sat W w (IsDisk p D :: L)) (hR : Rel D R) (n : Int) (ao : Option Addr) (c : Nat) (b : List UInt8) (hb : ∀ w, Sat W w L → Rd w (.slice ao b.length c) b.length 1 (bv b)) (hw : D.writes.length ≤ 1000) :
    Calls Try.prog 18 #[.pointer (some ⟨p, 0, none⟩), .int .i64 n, .slice ao b.length c] w fun e w' => e = .returned (.int .i64 (wcode D n b.length)) ∧ Sat W w' (IsDisk p (wnext D n b) :: L) := by
  unfold wcode wnext
  by_cases h1 : D.dead = true
  · simp only [if_pos h1]; exact (write_dead hS n _ h1).mono fun e w' ⟨he, hw⟩ => ⟨he, hw ▸ hS⟩
  have h1' : D.dead = false := by simpa using h1
  simp only [if_neg h1]
  by_cases h2 : bad D.blocks.length n b.length
  · simp only [if_pos h2]; exact (write_arg hS n _ _ _ h1' h2).mono fun e w' ⟨he, hw⟩ => ⟨he, hw ▸ hS⟩
  simp only [if_neg h2]
  unfold bad at h2
  obtain ⟨k, rfl⟩ := Int.eq_ofNat_of_zero_le (show 0 ≤ n by omega)
  have hbl : b.length = 128 := by omega
  rw [hbl] at hb ⊢
  have hll := hR.left
  have hlo := hR.lo
  have hhi := hR.hi
  by_cases h3 : D.left = 0
  · simp only [if_pos h3]; exact write_cut hS k _ _ h1' (by omega) h3
  · simp only [if_neg h3]
    exact write_ok hS k _ b hb h1' (by omega) h3 (by cases ha : R.armed <;> simp [ha] at hll <;> omega) (by cases ha : R.armed <;> simp [ha] at hll <;> omega) (by omega) hR.ok.len
theorem ref_write_any {W w : World} {L : List Asrt} {p : Nat} {D : DiskS} {R : RefS} (hS : Sat W w (IsRef p R :: L)) (hR : Rel D R) (n : Int) (ao : Option Addr) (c : Nat) (b : List UInt8) (hb : ∀ w, Sat W w L → Rd w (.slice ao b.length c) b.length 1 (bv b)) (hw : D.writes.length ≤ 1000) :
    Calls Try.prog 27 #[.pointer (some ⟨p, 0, none⟩), .int .i64 n, .slice ao b.length c] w fun e w' => e = .returned (.int .i64 (wcode D n b.length)) ∧ Sat W w' (IsRef p (rnext D R n b) :: L) := by
  unfold wcode rnext
  by_cases h1 : D.dead = true
  · simp only [if_pos h1]; exact (ref_write_dead hS n _ (hR.dead ▸ h1)).mono fun e w' ⟨he, hw⟩ => ⟨he, hw ▸ hS⟩
  have h1' : R.dead = false := by rw [← hR.dead]; simpa using h1
  simp only [if_neg h1]
  have hlen := hR.blocks
  by_cases h2 : bad D.blocks.length n b.length
  · simp only [if_pos h2]; exact (ref_write_arg hS n _ _ _ h1' (hlen ▸ h2)).mono fun e w' ⟨he, hw⟩ => ⟨he, hw ▸ hS⟩
  simp only [if_neg h2]
  unfold bad at h2
  rw [hlen] at h2
  obtain ⟨k, rfl⟩ := Int.eq_ofNat_of_zero_le (show 0 ≤ n by omega)
  have hbl : b.length = 128 := by omega
  rw [hbl] at hb ⊢
  have hll := hR.left
  have hlo := hR.lo
  by_cases h3 : D.left = 0
  · simp only [if_pos h3]
    have ha : R.armed = true := by cases ha : R.armed <;> simp [ha] at hll <;> first | omega | rfl
    exact ref_write_cut hS k _ _ h1' (by omega) ha (by simp [ha] at hll; omega)
  · simp only [if_neg h3]
    exact ref_write_ok hS k _ _ b hb h1' (by omega) (fun ha h0 => h3 (by rw [hll, ha, if_pos rfl, h0])) hlo hR.hi (by rw [← hR.writes]; omega) (by rw [← hlen]; exact hR.ok.len)
theorem rd_nil (w : World) : Rd w (.slice none 0 0) 0 1 (bv []) := ⟨none, 0, rfl, Nat.le_refl _, by omega, rfl, fun h => by omega⟩
end Go.Proofs.Ytefbkpggmmhgcaa
