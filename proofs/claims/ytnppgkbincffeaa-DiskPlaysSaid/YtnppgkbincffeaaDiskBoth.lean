/-
  The disk and the reference disk, side by side; Bytes, block, same.
-/
import Derived.Test.YtnppgkbincffeaaDiskRef
import Derived.Test.YtnppgkbincffeaaDiskOps
namespace Go.Proofs.Ytnppgkbincffeaa
open Go.RowKit Go.Sep
set_option linter.unusedSimpArgs false
set_option linter.unusedVariables false
attribute [local irreducible] Go.Oper.wp Go.wpList Go.Calls Go.Code.wp Go.Sep.Reg

theorem bytes_any {W w : World} {L : List Asrt} (hS : Sat W w L) (l : List UInt8) (v : Value) (h : Rd w v l.length 1 (bv l)) (hb : l.length ≤ 140737488351232) :
    Calls Try.prog 24 #[v] w fun e w' => ∃ v', e = .returned v' ∧ Sat W w' (Sl 5 1 v' l.length (bv l) :: L) := by
  go_enter Try.func24, Try.ntmps24
  go_wp2_with (refine toList (by rfl) ?_; refine ap (hS.slNil (E := 5) (sz := 1)) _ _ _ _ (by rfl) _ _ (by rfl) (by rfl) (elOf (by rfl)) (by rfl) (by omega) (inOf (by rfl)) Has.z (by exact .inl h) (bv_one l) (by omega) (by omega) ?_; intro v' w' hS')
  go_ret
  exact ⟨v', rfl, by simpa using hS'⟩
def blockOf (x : OpD) : List UInt8 := if x.wrong then x.b else pad x.b
set_option maxRecDepth 20000 in
theorem block_any {W w : World} {L : List Asrt} (hS : Sat W w L) (kd n : Int) (vb : Value) (lb : List UInt8) (wg : Bool) (hb : Rd W vb lb.length 1 (bv lb)) (h3 : lb.length ≤ 300) :
    Calls Try.prog 16 #[.agg (opv ⟨kd, n, vb, lb, wg⟩).toArray] w fun e w' => ∃ v', e = .returned v' ∧ Sat W w' (Sl 5 1 v' (blockOf ⟨kd, n, vb, lb, wg⟩).length (bv (blockOf ⟨kd, n, vb, lb, wg⟩)) :: L) := by
  have HB := Lib.hid hb
  have HP := Lib.hid (pad_copy lb)
  clear hb
  cases wg with
  | true =>
    go_enter Try.func16, Try.ntmps16
    go_wp2_with (first
      | (refine toList (by rfl) ?_; refine bx hS _ _ (by rfl) _ (by first | exact evC | exact evT (by rfl)) ?_; intro px w1 hS1; clear hS; have hS := hS1; clear hS1; rw [cells_agg] at hS)
      | (refine toList (by rfl) ?_; refine ld hS _ _ (by rfl) _ _ (by rfl) (agOf (by rfl)) (by first | exact Has.z | exact Has.s Has.z | exact Has.s (Has.s Has.z) | exact Has.s (Has.s (Has.s Has.z)) | exact Has.s (Has.s (Has.s (Has.s Has.z))) | exact Has.s (Has.s (Has.s (Has.s (Has.s Has.z))))) (by rfl) ?_)
      | (go_at_call 24; refine (bytes_any hS lb _ (HB.out.old hS) (by omega)).mono ?_; rintro e w1 ⟨v', rfl, hS1⟩; clear hS; have hS := hS1; clear hS1))
    go_ret
    exact ⟨v', rfl, hS.pull1.drop⟩
  | false =>
    go_enter Try.func16, Try.ntmps16
    go_wp2_with (first
      | (refine toList (by rfl) ?_; refine bx hS _ _ (by rfl) _ (by first | exact evC | exact evT (by rfl)) ?_; intro px w1 hS1; clear hS; have hS := hS1; clear hS1; rw [cells_agg] at hS)
      | (refine toList (by rfl) ?_; refine ld hS _ _ (by rfl) _ _ (by rfl) (agOf (by rfl)) (by first | exact Has.z | exact Has.s Has.z | exact Has.s (Has.s Has.z) | exact Has.s (Has.s (Has.s Has.z)) | exact Has.s (Has.s (Has.s (Has.s Has.z))) | exact Has.s (Has.s (Has.s (Has.s (Has.s Has.z))))) (by rfl) ?_)
      | (refine toList (by rfl) ?_; refine mk hS _ _ _ (by rfl) 128 128 _ _ (by rfl) (by rfl) (elOf (by rfl)) (by omega) (by omega) (by omega) ?_; intro pb w1 hS1; clear hS; have hS := hS1; clear hS1; rw [made_u8] at hS)
      | (refine toList (by rfl) ?_; refine cp hS _ _ _ _ (by rfl) _ _ _ _ _ (by rfl) (by rfl) (elOf (by rfl)) (by omega) Has.z (by exact HB.out.old hS) (bv_one _) (by simp [bv, zeros]) ?_; intro w1 hS1; clear hS; have hS := hS1; clear hS1; rw [HP.out] at hS; dsimp only [List.set_cons_zero] at hS))
    go_ret
    have h2 := Sat.slMk (E := 5) (n := 128) (sz := 1) (cap := 128) (pre := []) (vs := bv (pad lb)) (rest := []) (by simpa using hS) (Nat.le_refl _) (by omega) (by simp [bv_length, pad_length]) rfl (by simp [bv_length, pad_length])
    have e1 : (blockOf ⟨kd, n, vb, lb, false⟩).length = 128 := pad_length lb
    rw [e1]
    exact ⟨_, rfl, h2.pull1.drop⟩

/-- They say the same. -/
structure Rel (D : DiskS) (R : RefS) : Prop where
  blocks : D.blocks = R.L
  writes : D.writes = R.Log
  dead : D.dead = R.dead
  left : D.left = if R.armed then R.left else -1
  lo : 0 ≤ R.left
  hi : R.left ≤ 9223372036854775807
  ok : D.Ok
def bad (len : Nat) (n : Int) (m : Nat) : Prop := n < 0 ∨ (len : Int) ≤ n ∨ m ≠ 128
instance (len : Nat) (n : Int) (m : Nat) : Decidable (bad len n m) := by unfold bad; infer_instance
def wcode (D : DiskS) (n : Int) (m : Nat) : Int := if D.dead then 22 else if bad D.blocks.length n m then 1 else if D.left = 0 then 22 else 0
def wnext (D : DiskS) (n : Int) (b : List UInt8) : DiskS := if D.dead then D else if bad D.blocks.length n b.length then D else if D.left = 0 then { D with dead := true } else D.wrote n.toNat b
def rnext (D : DiskS) (R : RefS) (n : Int) (b : List UInt8) : RefS := if D.dead then R else if bad D.blocks.length n b.length then R else if D.left = 0 then { R with dead := true } else R.wrote n.toNat b
theorem Rel.next {D : DiskS} {R : RefS} (h : Rel D R) (n : Int) (b : List UInt8) : Rel (wnext D n b) (rnext D R n b) := by
  unfold wnext rnext
  by_cases h1 : D.dead = true
  · rw [if_pos h1, if_pos h1]; exact h
  rw [if_neg h1, if_neg h1]
  by_cases h2 : bad D.blocks.length n b.length
  · rw [if_pos h2, if_pos h2]; exact h
  rw [if_neg h2, if_neg h2]
  by_cases h3 : D.left = 0
  · rw [if_pos h3, if_pos h3]; exact ⟨h.blocks, h.writes, rfl, h.left, h.lo, h.hi, ⟨h.ok.len, h.ok.base, h.ok.at_⟩⟩
  rw [if_neg h3, if_neg h3]
  have hl := h.left
  have h4 := h.lo
  have h5 := h.hi
  unfold bad at h2
  refine ⟨by simp only [DiskS.wrote, RefS.wrote, h.blocks], by simp only [DiskS.wrote, RefS.wrote, h.writes], h.dead, ?_, ?_, ?_, ⟨by rw [wrote_len]; exact h.ok.len, by rw [wrote_len]; exact h.ok.base, fun x hx => ?_⟩⟩
  · cases ha : R.armed <;> simp only [ha, Bool.false_eq_true, if_false, if_true] at hl <;> simp only [DiskS.wrote, RefS.wrote, ha, hl] <;> simp <;> omega
  · cases ha : R.armed <;> simp only [ha, Bool.false_eq_true, if_false, if_true] at hl <;> simp only [RefS.wrote, ha] <;> simp <;> omega
  · cases ha : R.armed <;> simp only [ha, Bool.false_eq_true, if_false, if_true] at hl <;> simp only [RefS.wrote, ha] <;> simp <;> omega
  · rw [wrote_len]
    rcases List.mem_append.1 hx with hx | hx
    · exact h.ok.at_ x hx
    · rw [List.mem_singleton.1 hx]; show n.toNat < _; omega
theorem wnext_writes (D : DiskS) (n : Int) (b : List UInt8) : (wnext D n b).writes.length ≤ D.writes.length + 1 := by
  unfold wnext
  split
  · omega
  split
  · omega
  split
  · show D.writes.length ≤ _; omega
  · simp [DiskS.wrote]
theorem write_any {W w : World} {L : List Asrt} {p : Nat} {D : DiskS} {R : RefS} (hS : Sat W w (IsDisk p D :: L)) (hR : Rel D R) (n : Int) (ao : Option Addr) (c : Nat) (b : List UInt8) (hb : ∀ w, Sat W w L → Rd w (.slice ao b.length c) b.length 1 (bv b)) (hw : D.writes.length ≤ 1000) :
    Calls Try.prog 17 #[.pointer (some ⟨p, 0, none⟩), .int .i64 n, .slice ao b.length c] w fun e w' => e = .returned (.int .i64 (wcode D n b.length)) ∧ Sat W w' (IsDisk p (wnext D n b) :: L) := by
  unfold wcode wnext
  by_cases h1 : D.dead = true
  · simp only [if_pos h1]; exact (write_dead hS n _ h1).mono fun e w' ⟨he, hw⟩ => ⟨he, hw ▸ hS⟩
  have h1' : D.dead = false := by simpa using h1
  simp only [if_neg h1]
  by_cases h2 : bad D.blocks.length n b.length
  · simp only [if_pos h2]; exact (write_arg hS n _ _ _ h1' h2).mono fun e w' ⟨he, hw⟩ => ⟨he, hw ▸ hS⟩
  simp only [if_neg h2]
  unfold bad at h2
  obtain ⟨k, rfl⟩ := Int.eq_ofNat_of_zero_le (show 0 ≤ n by omega)
  have hbl : b.length = 128 := by omega
  rw [hbl] at hb ⊢
  have hll := hR.left
  have hlo := hR.lo
  have hhi := hR.hi
  by_cases h3 : D.left = 0
  · simp only [if_pos h3]; exact write_cut hS k _ _ h1' (by omega) h3
  · simp only [if_neg h3]
    exact write_ok hS k _ b hb h1' (by omega) h3 (by cases ha : R.armed <;> simp [ha] at hll <;> omega) (by cases ha : R.armed <;> simp [ha] at hll <;> omega) (by omega) hR.ok.len
theorem ref_write_any {W w : World} {L : List Asrt} {p : Nat} {D : DiskS} {R : RefS} (hS : Sat W w (IsRef p R :: L)) (hR : Rel D R) (n : Int) (ao : Option Addr) (c : Nat) (b : List UInt8) (hb : ∀ w, Sat W w L → Rd w (.slice ao b.length c) b.length 1 (bv b)) (hw : D.writes.length ≤ 1000) :
    Calls Try.prog 18 #[.pointer (some ⟨p, 0, none⟩), .int .i64 n, .slice ao b.length c] w fun e w' => e = .returned (.int .i64 (wcode D n b.length)) ∧ Sat W w' (IsRef p (rnext D R n b) :: L) := by
  unfold wcode rnext
  by_cases h1 : D.dead = true
  · simp only [if_pos h1]; exact (ref_write_dead hS n _ (hR.dead ▸ h1)).mono fun e w' ⟨he, hw⟩ => ⟨he, hw ▸ hS⟩
  have h1' : R.dead = false := by rw [← hR.dead]; simpa using h1
  simp only [if_neg h1]
  have hlen := hR.blocks
  by_cases h2 : bad D.blocks.length n b.length
  · simp only [if_pos h2]; exact (ref_write_arg hS n _ _ _ h1' (hlen ▸ h2)).mono fun e w' ⟨he, hw⟩ => ⟨he, hw ▸ hS⟩
  simp only [if_neg h2]
  unfold bad at h2
  rw [hlen] at h2
  obtain ⟨k, rfl⟩ := Int.eq_ofNat_of_zero_le (show 0 ≤ n by omega)
  have hbl : b.length = 128 := by omega
  rw [hbl] at hb ⊢
  have hll := hR.left
  have hlo := hR.lo
  by_cases h3 : D.left = 0
  · simp only [if_pos h3]
    have ha : R.armed = true := by cases ha : R.armed <;> simp [ha] at hll <;> first | omega | rfl
    exact ref_write_cut hS k _ _ h1' (by omega) ha (by simp [ha] at hll; omega)
  · simp only [if_neg h3]
    exact ref_write_ok hS k _ _ b hb h1' (by omega) (fun ha h0 => h3 (by rw [hll, ha, if_pos rfl, h0])) hlo hR.hi (by rw [← hR.writes]; omega) (by rw [← hlen]; exact hR.ok.len)

theorem rd_nil (w : World) : Rd w (.slice none 0 0) 0 1 (bv []) := ⟨none, 0, rfl, Nat.le_refl _, by omega, rfl, fun h => by omega⟩
set_option maxRecDepth 20000 in
set_option maxHeartbeats 4000000 in
theorem same_any {W w : World} {L : List Asrt} {p q : Nat} {D : DiskS} {R : RefS} (hS : Sat W w (IsDisk p D :: IsRef q R :: L)) (hR : Rel D R) :
    Calls Try.prog 19 #[.pointer (some ⟨p, 0, none⟩), .pointer (some ⟨q, 0, none⟩)] w fun e w' => e = .returned (.bool true) ∧ Sat W w' (IsDisk p D :: IsRef q R :: L) := by
  have HR := Lib.hid hR
  have HW := Lib.hid (show (D.writes.length : Int) = (R.Log.length : Int) by rw [hR.writes])
  have HN := Lib.hid (show (D.blocks.length : Int) = (R.L.length : Int) by rw [hR.blocks])
  have HD := Lib.hid hR.dead
  have hlen : (R.L.length : Int) ≤ 1024 := by have := hR.ok.len; rw [hR.blocks] at this; omega
  clear hR
  have HS0 := Lib.hid hS
  obtain ⟨v1, v2, hS⟩ := IsRef.open hS.pull1
  obtain ⟨ao1, c1, rfl, _⟩ := hS.tbShape (k := 1) rfl
  obtain ⟨ao2, c2, rfl, _⟩ := hS.tbShape (k := 2) rfl
  go_enter Try.func19, Try.ntmps19
  go_wp2
  refine regStart [] hS (by kernel_rfl) rfl ?_
  intro w1 hS1
  clear hS; have hS := hS1; clear hS1
  (refine regP 0 hS (fun _ h => h) rfl (by kernel_rfl) (by kernel_rfl) (by kernel_rfl) (fun _ _ _ _ h => h) (by rfl) (by rfl) ?_; apply Exists.intro; apply And.intro; (intro w; go_simp; try with_reducible rfl); (simp only [Act.put, List.setIfInBounds_toArray, List.set_cons_zero, List.set_cons_succ]))
  (refine regP 2 hS (fun _ h => h) rfl (by kernel_rfl) (by kernel_rfl) (by kernel_rfl) (fun _ _ _ _ h => h) (by rfl) (by rfl) ?_; apply Exists.intro; apply And.intro; (intro w; go_simp; try with_reducible rfl); (simp only [Act.put, List.setIfInBounds_toArray, List.set_cons_zero, List.set_cons_succ]))
  (refine regP 3 hS (fun _ h => h) rfl (by kernel_rfl) (by kernel_rfl) (by kernel_rfl) (fun _ _ _ _ h => h) (by rfl) (by rfl) ?_; apply Exists.intro; apply And.intro; (intro w; go_simp; try with_reducible rfl); (simp only [Act.put, List.setIfInBounds_toArray, List.set_cons_zero, List.set_cons_succ]))
  (refine regP 4 hS (fun _ h => h) rfl (by kernel_rfl) (by kernel_rfl) (by kernel_rfl) (fun _ _ _ _ h => h) (by rfl) (by rfl) ?_; apply Exists.intro; apply And.intro; (intro w; go_simp; try with_reducible rfl); (simp only [Act.put, List.setIfInBounds_toArray, List.set_cons_zero, List.set_cons_succ]))
  (refine regR 5 hS (fun _ h => h) rfl (by kernel_rfl) (by kernel_rfl) (by kernel_rfl) (by kernel_rfl) (by kernel_rfl) (fun _ _ _ _ h => h) (by rfl) (by rfl) ?_; (first
        | refine ⟨_, yLd _ _ (by rfl) _ _ (by rfl) (agOf (by rfl)) (by first | exact Has.z | exact Has.s Has.z | exact Has.s (Has.s Has.z) | exact Has.s (Has.s (Has.s Has.z)) | exact Has.s (Has.s (Has.s (Has.s Has.z))) | exact Has.s (Has.s (Has.s (Has.s (Has.s Has.z))))) (by rfl), ?_⟩); (simp only [Act.put, List.setIfInBounds_toArray, List.set_cons_zero, List.set_cons_succ]))
  (refine regP 6 hS (fun _ h => h) rfl (by kernel_rfl) (by kernel_rfl) (by kernel_rfl) (fun _ _ _ _ h => h) (by rfl) (by rfl) ?_; apply Exists.intro; apply And.intro; (intro w; go_simp; try with_reducible rfl); (simp only [Act.put, List.setIfInBounds_toArray, List.set_cons_zero, List.set_cons_succ]))
  (refine regA 1 rfl (by kernel_rfl) (by rfl) (by rfl) false (by kernel_rfl) (fun K hK => ?_); (first
        | (refine Go.Sep.cl 20 _ _ (by rfl) (by rfl) (by kernel_rfl) (writes_any (hS.front 3 rfl) HW.out) ?_; rintro e w1 ⟨rfl, rfl⟩; refine ⟨_, rfl, ?_⟩)
        | (refine Go.Sep.cl 23 _ _ (by rfl) (by rfl) (by kernel_rfl) (dead_any (hS.front 3 rfl) HD.out) ?_; rintro e w1 ⟨rfl, rfl⟩; refine ⟨_, rfl, ?_⟩)
        | (refine Go.Sep.cl 21 _ _ (by rfl) (by rfl) (by kernel_rfl) (blocks_any (hS.front 3 rfl) HN.out) ?_; rintro e w1 ⟨rfl, rfl⟩; refine ⟨_, rfl, ?_⟩)); refine hK _ _ _ hS (by first | (intro h; cases h; done) | exact fun _ _ h => h | exact fun _ _ h => h.drop | exact fun _ _ h => h.drop.drop | exact fun _ _ h => h.one Has.z | exact fun _ _ h => h.one (Has.s Has.z) | exact fun _ _ h => h.one (Has.s (Has.s Has.z))) ?_; clear hK K; (simp only [Act.put, List.setIfInBounds_toArray, List.set_cons_zero, List.set_cons_succ]))
  (refine regP 7 hS (fun _ h => h) rfl (by kernel_rfl) (by kernel_rfl) (by kernel_rfl) (fun _ _ _ _ h => h) (by rfl) (by rfl) ?_; apply Exists.intro; apply And.intro; (intro w; go_simp; try with_reducible rfl); (simp only [Act.put, List.setIfInBounds_toArray, List.set_cons_zero, List.set_cons_succ]))
  (refine regP 8 hS (fun _ h => h) rfl (by kernel_rfl) (by kernel_rfl) (by kernel_rfl) (fun _ _ _ _ h => h) (by rfl) (by rfl) ?_; apply Exists.intro; apply And.intro; (intro w; go_simp; try with_reducible rfl); (simp only [Act.put, List.setIfInBounds_toArray, List.set_cons_zero, List.set_cons_succ]))
  (first | (refine regP 9 hS (fun _ h => h) rfl (by kernel_rfl) (by kernel_rfl) (by kernel_rfl) (fun _ _ _ _ h => h) (by rfl) (by rfl) ?_; apply Exists.intro; apply And.intro; (intro w; go_simp; try with_reducible rfl); (simp only [Act.put, List.setIfInBounds_toArray, List.set_cons_zero, List.set_cons_succ])) | (refine regN 9 hS (fun _ h => h) rfl (by kernel_rfl) (by kernel_rfl) (by kernel_rfl) (fun _ _ _ h => h) (by rfl) (by rfl) ?_; (simp only [Act.put, List.setIfInBounds_toArray, List.set_cons_zero, List.set_cons_succ])))
  (first | (refine regP 11 hS (fun _ h => h) rfl (by kernel_rfl) (by kernel_rfl) (by kernel_rfl) (fun _ _ _ _ h => h) (by rfl) (by rfl) ?_; apply Exists.intro; apply And.intro; (intro w; go_simp; try with_reducible rfl); (simp only [Act.put, List.setIfInBounds_toArray, List.set_cons_zero, List.set_cons_succ])) | (refine regN 11 hS (fun _ h => h) rfl (by kernel_rfl) (by kernel_rfl) (by kernel_rfl) (fun _ _ _ h => h) (by rfl) (by rfl) ?_; (simp only [Act.put, List.setIfInBounds_toArray, List.set_cons_zero, List.set_cons_succ])))
  (first | (refine regP 12 hS (fun _ h => h) rfl (by kernel_rfl) (by kernel_rfl) (by kernel_rfl) (fun _ _ _ _ h => h) (by rfl) (by rfl) ?_; apply Exists.intro; apply And.intro; (intro w; go_simp; try with_reducible rfl); (simp only [Act.put, List.setIfInBounds_toArray, List.set_cons_zero, List.set_cons_succ])) | (refine regN 12 hS (fun _ h => h) rfl (by kernel_rfl) (by kernel_rfl) (by kernel_rfl) (fun _ _ _ h => h) (by rfl) (by rfl) ?_; (simp only [Act.put, List.setIfInBounds_toArray, List.set_cons_zero, List.set_cons_succ])))
  (first | (refine regP 13 hS (fun _ h => h) rfl (by kernel_rfl) (by kernel_rfl) (by kernel_rfl) (fun _ _ _ _ h => h) (by rfl) (by rfl) ?_; apply Exists.intro; apply And.intro; (intro w; go_simp; try with_reducible rfl); (simp only [Act.put, List.setIfInBounds_toArray, List.set_cons_zero, List.set_cons_succ])) | (refine regN 13 hS (fun _ h => h) rfl (by kernel_rfl) (by kernel_rfl) (by kernel_rfl) (fun _ _ _ h => h) (by rfl) (by rfl) ?_; (simp only [Act.put, List.setIfInBounds_toArray, List.set_cons_zero, List.set_cons_succ])))
  (first | (refine regR 14 hS (fun _ h => h) rfl (by kernel_rfl) (by kernel_rfl) (by kernel_rfl) (by kernel_rfl) (by kernel_rfl) (fun _ _ _ _ h => h) (by rfl) (by rfl) ?_; (first
        | refine ⟨_, yLd _ _ (by rfl) _ _ (by rfl) (agOf (by rfl)) (by first | exact Has.z | exact Has.s Has.z | exact Has.s (Has.s Has.z) | exact Has.s (Has.s (Has.s Has.z)) | exact Has.s (Has.s (Has.s (Has.s Has.z))) | exact Has.s (Has.s (Has.s (Has.s (Has.s Has.z))))) (by rfl), ?_⟩); (simp only [Act.put, List.setIfInBounds_toArray, List.set_cons_zero, List.set_cons_succ])) | (refine regN 14 hS (fun _ h => h) rfl (by kernel_rfl) (by kernel_rfl) (by kernel_rfl) (fun _ _ _ h => h) (by rfl) (by rfl) ?_; (simp only [Act.put, List.setIfInBounds_toArray, List.set_cons_zero, List.set_cons_succ])))
  (first | (refine regA 10 rfl (by kernel_rfl) (by rfl) (by rfl) false (by kernel_rfl) (fun K hK => ?_); (first
        | (refine Go.Sep.cl 20 _ _ (by rfl) (by rfl) (by kernel_rfl) (writes_any (hS.front 3 rfl) HW.out) ?_; rintro e w1 ⟨rfl, rfl⟩; refine ⟨_, rfl, ?_⟩)
        | (refine Go.Sep.cl 23 _ _ (by rfl) (by rfl) (by kernel_rfl) (dead_any (hS.front 3 rfl) HD.out) ?_; rintro e w1 ⟨rfl, rfl⟩; refine ⟨_, rfl, ?_⟩)
        | (refine Go.Sep.cl 21 _ _ (by rfl) (by rfl) (by kernel_rfl) (blocks_any (hS.front 3 rfl) HN.out) ?_; rintro e w1 ⟨rfl, rfl⟩; refine ⟨_, rfl, ?_⟩)); refine hK _ _ _ hS (by first | (intro h; cases h; done) | exact fun _ _ h => h | exact fun _ _ h => h.drop | exact fun _ _ h => h.drop.drop | exact fun _ _ h => h.one Has.z | exact fun _ _ h => h.one (Has.s Has.z) | exact fun _ _ h => h.one (Has.s (Has.s Has.z))) ?_; clear hK K; (simp only [Act.put, List.setIfInBounds_toArray, List.set_cons_zero, List.set_cons_succ])) | (refine regN 10 hS (fun _ h => h) rfl (by kernel_rfl) (by kernel_rfl) (by kernel_rfl) (fun _ _ _ h => h) (by rfl) (by rfl) ?_; (simp only [Act.put, List.setIfInBounds_toArray, List.set_cons_zero, List.set_cons_succ])))
  (first | (refine regP 15 hS (fun _ h => h) rfl (by kernel_rfl) (by kernel_rfl) (by kernel_rfl) (fun _ _ _ _ h => h) (by rfl) (by rfl) ?_; apply Exists.intro; apply And.intro; (intro w; go_simp; try with_reducible rfl); (simp only [Act.put, List.setIfInBounds_toArray, List.set_cons_zero, List.set_cons_succ])) | (refine regN 15 hS (fun _ h => h) rfl (by kernel_rfl) (by kernel_rfl) (by kernel_rfl) (fun _ _ _ h => h) (by rfl) (by rfl) ?_; (simp only [Act.put, List.setIfInBounds_toArray, List.set_cons_zero, List.set_cons_succ])))
  (refine regP 16 hS (fun _ h => h) rfl (by kernel_rfl) (by kernel_rfl) (by kernel_rfl) (fun _ _ _ _ h => h) (by rfl) (by rfl) ?_; apply Exists.intro; apply And.intro; (intro w; go_simp; try with_reducible rfl); (simp only [Act.put, List.setIfInBounds_toArray, List.set_cons_zero, List.set_cons_succ]))
  (refine regP 17 hS (fun _ h => h) rfl (by kernel_rfl) (by kernel_rfl) (by kernel_rfl) (fun _ _ _ _ h => h) (by rfl) (by rfl) ?_; apply Exists.intro; apply And.intro; (intro w; go_simp; try with_reducible rfl); (simp only [Act.put, List.setIfInBounds_toArray, List.set_cons_zero, List.set_cons_succ]))
  (first | (refine regP 18 hS (fun _ h => h) rfl (by kernel_rfl) (by kernel_rfl) (by kernel_rfl) (fun _ _ _ _ h => h) (by rfl) (by rfl) ?_; apply Exists.intro; apply And.intro; (intro w; go_simp; try with_reducible rfl); (simp only [Act.put, List.setIfInBounds_toArray, List.set_cons_zero, List.set_cons_succ])) | (refine regN 18 hS (fun _ h => h) rfl (by kernel_rfl) (by kernel_rfl) (by kernel_rfl) (fun _ _ _ h => h) (by rfl) (by rfl) ?_; (simp only [Act.put, List.setIfInBounds_toArray, List.set_cons_zero, List.set_cons_succ])))
  (first | (refine regP 20 hS (fun _ h => h) rfl (by kernel_rfl) (by kernel_rfl) (by kernel_rfl) (fun _ _ _ _ h => h) (by rfl) (by rfl) ?_; apply Exists.intro; apply And.intro; (intro w; go_simp; try with_reducible rfl); (simp only [Act.put, List.setIfInBounds_toArray, List.set_cons_zero, List.set_cons_succ])) | (refine regN 20 hS (fun _ h => h) rfl (by kernel_rfl) (by kernel_rfl) (by kernel_rfl) (fun _ _ _ h => h) (by rfl) (by rfl) ?_; (simp only [Act.put, List.setIfInBounds_toArray, List.set_cons_zero, List.set_cons_succ])))
  (first | (refine regP 21 hS (fun _ h => h) rfl (by kernel_rfl) (by kernel_rfl) (by kernel_rfl) (fun _ _ _ _ h => h) (by rfl) (by rfl) ?_; apply Exists.intro; apply And.intro; (intro w; go_simp; try with_reducible rfl); (simp only [Act.put, List.setIfInBounds_toArray, List.set_cons_zero, List.set_cons_succ])) | (refine regN 21 hS (fun _ h => h) rfl (by kernel_rfl) (by kernel_rfl) (by kernel_rfl) (fun _ _ _ h => h) (by rfl) (by rfl) ?_; (simp only [Act.put, List.setIfInBounds_toArray, List.set_cons_zero, List.set_cons_succ])))
  (first | (refine regP 22 hS (fun _ h => h) rfl (by kernel_rfl) (by kernel_rfl) (by kernel_rfl) (fun _ _ _ _ h => h) (by rfl) (by rfl) ?_; apply Exists.intro; apply And.intro; (intro w; go_simp; try with_reducible rfl); (simp only [Act.put, List.setIfInBounds_toArray, List.set_cons_zero, List.set_cons_succ])) | (refine regN 22 hS (fun _ h => h) rfl (by kernel_rfl) (by kernel_rfl) (by kernel_rfl) (fun _ _ _ h => h) (by rfl) (by rfl) ?_; (simp only [Act.put, List.setIfInBounds_toArray, List.set_cons_zero, List.set_cons_succ])))
  (first | (refine regR 23 hS (fun _ h => h) rfl (by kernel_rfl) (by kernel_rfl) (by kernel_rfl) (by kernel_rfl) (by kernel_rfl) (fun _ _ _ _ h => h) (by rfl) (by rfl) ?_; (first
        | refine ⟨_, yLd _ _ (by rfl) _ _ (by rfl) (agOf (by rfl)) (by first | exact Has.z | exact Has.s Has.z | exact Has.s (Has.s Has.z) | exact Has.s (Has.s (Has.s Has.z)) | exact Has.s (Has.s (Has.s (Has.s Has.z))) | exact Has.s (Has.s (Has.s (Has.s (Has.s Has.z))))) (by rfl), ?_⟩); (simp only [Act.put, List.setIfInBounds_toArray, List.set_cons_zero, List.set_cons_succ])) | (refine regN 23 hS (fun _ h => h) rfl (by kernel_rfl) (by kernel_rfl) (by kernel_rfl) (fun _ _ _ h => h) (by rfl) (by rfl) ?_; (simp only [Act.put, List.setIfInBounds_toArray, List.set_cons_zero, List.set_cons_succ])))
  (first | (refine regP 24 hS (fun _ h => h) rfl (by kernel_rfl) (by kernel_rfl) (by kernel_rfl) (fun _ _ _ _ h => h) (by rfl) (by rfl) ?_; apply Exists.intro; apply And.intro; (intro w; go_simp; try with_reducible rfl); (simp only [Act.put, List.setIfInBounds_toArray, List.set_cons_zero, List.set_cons_succ])) | (refine regN 24 hS (fun _ h => h) rfl (by kernel_rfl) (by kernel_rfl) (by kernel_rfl) (fun _ _ _ h => h) (by rfl) (by rfl) ?_; (simp only [Act.put, List.setIfInBounds_toArray, List.set_cons_zero, List.set_cons_succ])))
  (first | (refine regA 19 rfl (by kernel_rfl) (by rfl) (by rfl) false (by kernel_rfl) (fun K hK => ?_); (first
        | (refine Go.Sep.cl 20 _ _ (by rfl) (by rfl) (by kernel_rfl) (writes_any (hS.front 3 rfl) HW.out) ?_; rintro e w1 ⟨rfl, rfl⟩; refine ⟨_, rfl, ?_⟩)
        | (refine Go.Sep.cl 23 _ _ (by rfl) (by rfl) (by kernel_rfl) (dead_any (hS.front 3 rfl) HD.out) ?_; rintro e w1 ⟨rfl, rfl⟩; refine ⟨_, rfl, ?_⟩)
        | (refine Go.Sep.cl 21 _ _ (by rfl) (by rfl) (by kernel_rfl) (blocks_any (hS.front 3 rfl) HN.out) ?_; rintro e w1 ⟨rfl, rfl⟩; refine ⟨_, rfl, ?_⟩)); refine hK _ _ _ hS (by first | (intro h; cases h; done) | exact fun _ _ h => h | exact fun _ _ h => h.drop | exact fun _ _ h => h.drop.drop | exact fun _ _ h => h.one Has.z | exact fun _ _ h => h.one (Has.s Has.z) | exact fun _ _ h => h.one (Has.s (Has.s Has.z))) ?_; clear hK K; (simp only [Act.put, List.setIfInBounds_toArray, List.set_cons_zero, List.set_cons_succ])) | (refine regN 19 hS (fun _ h => h) rfl (by kernel_rfl) (by kernel_rfl) (by kernel_rfl) (fun _ _ _ h => h) (by rfl) (by rfl) ?_; (simp only [Act.put, List.setIfInBounds_toArray, List.set_cons_zero, List.set_cons_succ])))
  (first | (refine regP 25 hS (fun _ h => h) rfl (by kernel_rfl) (by kernel_rfl) (by kernel_rfl) (fun _ _ _ _ h => h) (by rfl) (by rfl) ?_; apply Exists.intro; apply And.intro; (intro w; go_simp; try with_reducible rfl); (simp only [Act.put, List.setIfInBounds_toArray, List.set_cons_zero, List.set_cons_succ])) | (refine regN 25 hS (fun _ h => h) rfl (by kernel_rfl) (by kernel_rfl) (by kernel_rfl) (fun _ _ _ h => h) (by rfl) (by rfl) ?_; (simp only [Act.put, List.setIfInBounds_toArray, List.set_cons_zero, List.set_cons_succ])))
  (refine regP 26 hS (fun _ h => h) rfl (by kernel_rfl) (by kernel_rfl) (by kernel_rfl) (fun _ _ _ _ h => h) (by rfl) (by rfl) ?_; apply Exists.intro; apply And.intro; (intro w; go_simp; try with_reducible rfl); (simp only [Act.put, List.setIfInBounds_toArray, List.set_cons_zero, List.set_cons_succ]))
  refine regDone (by kernel_rfl) ?_
  have hI := (IsRef.mk hS).pull1
  have HI := Lib.hid hI
  clear hI
  go_wp2
  go_loopw [5] (fun vi wz => ∃ n : Int, -1 ≤ n ∧ n ≤ (R.L.length : Int) + 1 ∧ vi = .int .i64 n ∧ Sat W wz (IsDisk p D :: IsRef q R :: L)) (fun vi _ => ((R.L.length : Int) + 1 - intOf vi).toNat)
  case atStart => exact ⟨-1, by omega, by omega, rfl, HI.out⟩
  case round =>
    clear HI hS
    obtain ⟨n, hn1, hn2, rfl, hS⟩ := hrel
    obtain ⟨v1, v2, hS⟩ := IsRef.open hS.pull1
    obtain ⟨ao1, c1, rfl, _⟩ := hS.tbShape (k := 1) rfl
    by_cases hin : 0 ≤ n ∧ n < (R.L.length : Int)
    · obtain ⟨j, rfl⟩ := Int.eq_ofNat_of_zero_le hin.1
      obtain ⟨b, hb⟩ : ∃ b, R.L[j]? = some b := ⟨_, List.getElem?_eq_getElem (by omega)⟩
      have hbl : b.length = 128 := by
        obtain ⟨u1, u2, u3, hq⟩ := IsDisk.open (hS.front 3 rfl)
        simpa [bv_length] using hq.tbLen (k := 1) rfl b (by rw [HR.out.blocks]; exact List.mem_of_getElem? hb)
      have HB := Lib.hid hb
      have HB1 := Lib.hid (show D.blocks[j]? = some b by rw [HR.out.blocks]; exact hb)
      have HBL := Lib.hid hbl
      clear hb hbl
      have hj : (j : Int) ≤ (R.L.length : Int) := by omega
      clear hin
      go_wp2_with (first
        | (refine toList (by rfl) ?_; refine ld hS _ _ (by rfl) _ _ (by rfl) (agOf (by rfl)) (by first | exact Has.z | exact Has.s Has.z | exact Has.s (Has.s Has.z) | exact Has.s (Has.s (Has.s Has.z)) | exact Has.s (Has.s (Has.s (Has.s Has.z))) | exact Has.s (Has.s (Has.s (Has.s (Has.s Has.z))))) (by rfl) ?_)
        | (go_at_call 12; refine (read_ok (hS.front 3 rfl) j _ HB1.out HR.out.ok.len).mono ?_; rintro e w1 ⟨q1, rfl, _, hS1⟩; clear hS; have hS := hS1; clear hS1)
        | (go_at_call 13; refine (ref_read_ok (IsRef.mk (hS.re [2, 3, 4, 0, 1])) j _ HB.out (by rw [← HR.out.blocks]; exact HR.out.ok.len) HBL.out).mono ?_; rintro e w1 ⟨q2, c2, rfl, hS1⟩; clear hS; have hS := hS1; clear hS1)
        | (refine toList (by rfl) ?_; refine cvS _ _ _ (by rfl) _ (by rfl) strBytes (by first | exact hS.csRd0 (n := 128) (Has.s (Has.s Has.z)) (by decide) (by rw [bv_length]; exact HBL.out) | exact hS.slRd Has.z) ?_))
      exact ⟨⟨(j : Int) + 1, by omega, by omega, rfl, (hS.re [0, 2, 3, 1]).drop.drop⟩, by simp [intOf]; omega⟩
    · by_cases hle : n ≤ (R.L.length : Int)
      · have HIN := Lib.hid (show n < 0 ∨ (R.L.length : Int) ≤ n by omega)
        clear hin
        go_wp2_with (first
          | (refine toList (by rfl) ?_; refine ld hS _ _ (by rfl) _ _ (by rfl) (agOf (by rfl)) (by first | exact Has.z | exact Has.s Has.z | exact Has.s (Has.s Has.z) | exact Has.s (Has.s (Has.s Has.z)) | exact Has.s (Has.s (Has.s (Has.s Has.z))) | exact Has.s (Has.s (Has.s (Has.s (Has.s Has.z))))) (by rfl) ?_)
          | (go_at_call 12; refine (read_no (hS.front 3 rfl) n (by rw [HN.out]; exact HIN.out)).mono ?_; rintro e w1 ⟨rfl, rfl⟩)
          | (go_at_call 13; refine (ref_read_no (IsRef.mk hS) n HIN.out).mono ?_; rintro e w1 ⟨rfl, rfl⟩)
          | (refine toList (by rfl) ?_; refine cvS _ _ _ (by rfl) _ (by rfl) strBytes (by exact rd_nil _) ?_))
        exact ⟨⟨n + 1, by omega, by omega, rfl, (IsRef.mk hS).pull1⟩, by simp [intOf]; omega⟩
      · go_wp2_with (refine toList (by rfl) ?_; refine ld hS _ _ (by rfl) _ _ (by rfl) (agOf (by rfl)) (by first | exact Has.z | exact Has.s Has.z | exact Has.s (Has.s Has.z) | exact Has.s (Has.s (Has.s Has.z)) | exact Has.s (Has.s (Has.s (Has.s Has.z))) | exact Has.s (Has.s (Has.s (Has.s (Has.s Has.z))))) (by rfl) ?_)
        go_ret
        exact ⟨rfl, (IsRef.mk hS).pull1⟩
end Go.Proofs.Ytnppgkbincffeaa
