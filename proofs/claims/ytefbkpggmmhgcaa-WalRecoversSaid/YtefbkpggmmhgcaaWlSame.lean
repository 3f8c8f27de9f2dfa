/-
  Package pedigreelaw07: same; the disk and the document's disk at first.
-/
import Derived.Test.YtefbkpggmmhgcaaWlRefRec2
import Derived.Test.YtefbkpggmmhgcaaWlCut
namespace Go.Proofs.Ytefbkpggmmhgcaa
open Go.RowKit Go.Sep
set_option linter.unusedSimpArgs false
set_option linter.unusedVariables false
attribute [local irreducible] Go.Oper.wp Go.wpList Go.Calls Go.Code.wp Go.Sep.Reg
theorem rel0 : Rel disk0 (.new 160) := ⟨by simp [disk0, RefS.new], rfl, rfl, by simp [disk0, RefS.new], by simp [RefS.new], by simp [RefS.new], free0.inv.ok⟩
set_option maxRecDepth 20000 in
set_option maxHeartbeats 4000000 in
theorem wsame_any {W w : World} {L : List Asrt} {p q : Nat} {D : DiskS} {R : RefS} (hS : Sat W w (IsDisk p D :: IsRef q R :: L)) (hR : Rel D R) :
    Calls Try.prog 25 #[.pointer (some ⟨p, 0, none⟩), .pointer (some ⟨q, 0, none⟩)] w fun e w' => e = .returned (.bool true) ∧ Sat W w' (IsDisk p D :: IsRef q R :: L) := by
  have HR := Lib.hid hR
  have HW := Lib.hid (show (D.writes.length : Int) = (R.Log.length : Int) by rw [hR.writes])
  have HD := Lib.hid hR.dead
  have hlen : (R.L.length : Int) ≤ 1024 := by have := hR.ok.len; rw [hR.blocks] at this; omega
  have hb8 := IsDisk.b128 hS
  rw [hR.blocks] at hb8
  have HB8 := Lib.hid hb8
  clear hR hb8
  obtain ⟨v1, v2, hS⟩ := IsRef.open hS.pull1
  obtain ⟨al, cl, rfl, _⟩ := hS.tbShape (k := 1) rfl
  obtain ⟨ag, cg, rfl, _⟩ := hS.tbShape (k := 2) rfl
  go_enter Try.func25, Try.ntmps25
  go_wp2
  refine regStart [] hS (by kernel_rfl) rfl ?_
  intro w1 hS1
  clear hS; have hS := hS1; clear hS1
  (refine regP 0 hS (fun _ h => h) rfl (by kernel_rfl) (by kernel_rfl) (by kernel_rfl) (fun _ _ _ _ h => h) (by rfl) (by rfl) ?_; apply Exists.intro; apply And.intro; (intro w; go_simp; try with_reducible rfl); (simp only [Act.put, List.setIfInBounds_toArray, List.set_cons_zero, List.set_cons_succ]))
  (refine regP 2 hS (fun _ h => h) rfl (by kernel_rfl) (by kernel_rfl) (by kernel_rfl) (fun _ _ _ _ h => h) (by rfl) (by rfl) ?_; apply Exists.intro; apply And.intro; (intro w; go_simp; try with_reducible rfl); (simp only [Act.put, List.setIfInBounds_toArray, List.set_cons_zero, List.set_cons_succ]))
  (refine regP 3 hS (fun _ h => h) rfl (by kernel_rfl) (by kernel_rfl) (by kernel_rfl) (fun _ _ _ _ h => h) (by rfl) (by rfl) ?_; apply Exists.intro; apply And.intro; (intro w; go_simp; try with_reducible rfl); (simp only [Act.put, List.setIfInBounds_toArray, List.set_cons_zero, List.set_cons_succ]))
  (refine regP 4 hS (fun _ h => h) rfl (by kernel_rfl) (by kernel_rfl) (by kernel_rfl) (fun _ _ _ _ h => h) (by rfl) (by rfl) ?_; apply Exists.intro; apply And.intro; (intro w; go_simp; try with_reducible rfl); (simp only [Act.put, List.setIfInBounds_toArray, List.set_cons_zero, List.set_cons_succ]))
  (refine regR 5 hS (fun _ h => h) rfl (by kernel_rfl) (by kernel_rfl) (by kernel_rfl) (by kernel_rfl) (by kernel_rfl) (fun _ _ _ _ h => h) (by rfl) (by rfl) ?_; (first
        | refine ⟨_, yLd _ _ (by rfl) _ _ (by rfl) (agOf (by rfl)) (by first | exact Has.z | exact Has.s Has.z | exact Has.s (Has.s Has.z) | exact Has.s (Has.s (Has.s Has.z)) | exact Has.s (Has.s (Has.s (Has.s Has.z))) | exact Has.s (Has.s (Has.s (Has.s (Has.s Has.z))))) (by rfl), ?_⟩); (simp only [Act.put, List.setIfInBounds_toArray, List.set_cons_zero, List.set_cons_succ]))
  (refine regP 6 hS (fun _ h => h) rfl (by kernel_rfl) (by kernel_rfl) (by kernel_rfl) (fun _ _ _ _ h => h) (by rfl) (by rfl) ?_; apply Exists.intro; apply And.intro; (intro w; go_simp; try with_reducible rfl); (simp only [Act.put, List.setIfInBounds_toArray, List.set_cons_zero, List.set_cons_succ]))
  (refine regA 1 rfl (by kernel_rfl) (by rfl) (by rfl) false (by kernel_rfl) (fun K hK => ?_); (first
        | (refine Go.Sep.cl 14 _ _ (by rfl) (by rfl) (by kernel_rfl) (writes_any (hS.front 3 rfl) HW.out) ?_; rintro e w1 ⟨rfl, rfl⟩; refine ⟨_, rfl, ?_⟩)
        | (refine Go.Sep.cl 48 _ _ (by rfl) (by rfl) (by kernel_rfl) (dead_any (hS.front 3 rfl) HD.out) ?_; rintro e w1 ⟨rfl, rfl⟩; refine ⟨_, rfl, ?_⟩)); refine hK _ _ _ hS (by first | (intro h; cases h; done) | exact fun _ _ h => h | exact fun _ _ h => h.drop | exact fun _ _ h => h.drop.drop | exact fun _ _ h => h.drop.pull1 | exact fun _ _ h => h.take2 | exact fun _ _ h => h.one Has.z | exact fun _ _ h => h.one (Has.s Has.z) | exact fun _ _ h => h.one (Has.s (Has.s Has.z))) ?_; clear hK K; (simp only [Act.put, List.setIfInBounds_toArray, List.set_cons_zero, List.set_cons_succ]))
  (refine regP 7 hS (fun _ h => h) rfl (by kernel_rfl) (by kernel_rfl) (by kernel_rfl) (fun _ _ _ _ h => h) (by rfl) (by rfl) ?_; apply Exists.intro; apply And.intro; (intro w; go_simp; try with_reducible rfl); (simp only [Act.put, List.setIfInBounds_toArray, List.set_cons_zero, List.set_cons_succ]))
  (refine regP 8 hS (fun _ h => h) rfl (by kernel_rfl) (by kernel_rfl) (by kernel_rfl) (fun _ _ _ _ h => h) (by rfl) (by rfl) ?_; apply Exists.intro; apply And.intro; (intro w; go_simp; try with_reducible rfl); (simp only [Act.put, List.setIfInBounds_toArray, List.set_cons_zero, List.set_cons_succ]))
  (first | (refine regP 9 hS (fun _ h => h) rfl (by kernel_rfl) (by kernel_rfl) (by kernel_rfl) (fun _ _ _ _ h => h) (by rfl) (by rfl) ?_; apply Exists.intro; apply And.intro; (intro w; go_simp; try with_reducible rfl); (simp only [Act.put, List.setIfInBounds_toArray, List.set_cons_zero, List.set_cons_succ])) | (refine regN 9 hS (fun _ h => h) rfl (by kernel_rfl) (by kernel_rfl) (by kernel_rfl) (fun _ _ _ h => h) (by rfl) (by rfl) ?_; (simp only [Act.put, List.setIfInBounds_toArray, List.set_cons_zero, List.set_cons_succ])))
  (first | (refine regP 11 hS (fun _ h => h) rfl (by kernel_rfl) (by kernel_rfl) (by kernel_rfl) (fun _ _ _ _ h => h) (by rfl) (by rfl) ?_; apply Exists.intro; apply And.intro; (intro w; go_simp; try with_reducible rfl); (simp only [Act.put, List.setIfInBounds_toArray, List.set_cons_zero, List.set_cons_succ])) | (refine regN 11 hS (fun _ h => h) rfl (by kernel_rfl) (by kernel_rfl) (by kernel_rfl) (fun _ _ _ h => h) (by rfl) (by rfl) ?_; (simp only [Act.put, List.setIfInBounds_toArray, List.set_cons_zero, List.set_cons_succ])))
  (first | (refine regP 12 hS (fun _ h => h) rfl (by kernel_rfl) (by kernel_rfl) (by kernel_rfl) (fun _ _ _ _ h => h) (by rfl) (by rfl) ?_; apply Exists.intro; apply And.intro; (intro w; go_simp; try with_reducible rfl); (simp only [Act.put, List.setIfInBounds_toArray, List.set_cons_zero, List.set_cons_succ])) | (refine regN 12 hS (fun _ h => h) rfl (by kernel_rfl) (by kernel_rfl) (by kernel_rfl) (fun _ _ _ h => h) (by rfl) (by rfl) ?_; (simp only [Act.put, List.setIfInBounds_toArray, List.set_cons_zero, List.set_cons_succ])))
  (first | (refine regP 13 hS (fun _ h => h) rfl (by kernel_rfl) (by kernel_rfl) (by kernel_rfl) (fun _ _ _ _ h => h) (by rfl) (by rfl) ?_; apply Exists.intro; apply And.intro; (intro w; go_simp; try with_reducible rfl); (simp only [Act.put, List.setIfInBounds_toArray, List.set_cons_zero, List.set_cons_succ])) | (refine regN 13 hS (fun _ h => h) rfl (by kernel_rfl) (by kernel_rfl) (by kernel_rfl) (fun _ _ _ h => h) (by rfl) (by rfl) ?_; (simp only [Act.put, List.setIfInBounds_toArray, List.set_cons_zero, List.set_cons_succ])))
  (first | (refine regR 14 hS (fun _ h => h) rfl (by kernel_rfl) (by kernel_rfl) (by kernel_rfl) (by kernel_rfl) (by kernel_rfl) (fun _ _ _ _ h => h) (by rfl) (by rfl) ?_; (first
        | refine ⟨_, yLd _ _ (by rfl) _ _ (by rfl) (agOf (by rfl)) (by first | exact Has.z | exact Has.s Has.z | exact Has.s (Has.s Has.z) | exact Has.s (Has.s (Has.s Has.z)) | exact Has.s (Has.s (Has.s (Has.s Has.z))) | exact Has.s (Has.s (Has.s (Has.s (Has.s Has.z))))) (by rfl), ?_⟩); (simp only [Act.put, List.setIfInBounds_toArray, List.set_cons_zero, List.set_cons_succ])) | (refine regN 14 hS (fun _ h => h) rfl (by kernel_rfl) (by kernel_rfl) (by kernel_rfl) (fun _ _ _ h => h) (by rfl) (by rfl) ?_; (simp only [Act.put, List.setIfInBounds_toArray, List.set_cons_zero, List.set_cons_succ])))
  (first | (refine regA 10 rfl (by kernel_rfl) (by rfl) (by rfl) false (by kernel_rfl) (fun K hK => ?_); (first
        | (refine Go.Sep.cl 14 _ _ (by rfl) (by rfl) (by kernel_rfl) (writes_any (hS.front 3 rfl) HW.out) ?_; rintro e w1 ⟨rfl, rfl⟩; refine ⟨_, rfl, ?_⟩)
        | (refine Go.Sep.cl 48 _ _ (by rfl) (by rfl) (by kernel_rfl) (dead_any (hS.front 3 rfl) HD.out) ?_; rintro e w1 ⟨rfl, rfl⟩; refine ⟨_, rfl, ?_⟩)); refine hK _ _ _ hS (by first | (intro h; cases h; done) | exact fun _ _ h => h | exact fun _ _ h => h.drop | exact fun _ _ h => h.drop.drop | exact fun _ _ h => h.drop.pull1 | exact fun _ _ h => h.take2 | exact fun _ _ h => h.one Has.z | exact fun _ _ h => h.one (Has.s Has.z) | exact fun _ _ h => h.one (Has.s (Has.s Has.z))) ?_; clear hK K; (simp only [Act.put, List.setIfInBounds_toArray, List.set_cons_zero, List.set_cons_succ])) | (refine regN 10 hS (fun _ h => h) rfl (by kernel_rfl) (by kernel_rfl) (by kernel_rfl) (fun _ _ _ h => h) (by rfl) (by rfl) ?_; (simp only [Act.put, List.setIfInBounds_toArray, List.set_cons_zero, List.set_cons_succ])))
  (first | (refine regP 15 hS (fun _ h => h) rfl (by kernel_rfl) (by kernel_rfl) (by kernel_rfl) (fun _ _ _ _ h => h) (by rfl) (by rfl) ?_; apply Exists.intro; apply And.intro; (intro w; go_simp; try with_reducible rfl); (simp only [Act.put, List.setIfInBounds_toArray, List.set_cons_zero, List.set_cons_succ])) | (refine regN 15 hS (fun _ h => h) rfl (by kernel_rfl) (by kernel_rfl) (by kernel_rfl) (fun _ _ _ h => h) (by rfl) (by rfl) ?_; (simp only [Act.put, List.setIfInBounds_toArray, List.set_cons_zero, List.set_cons_succ])))
  (refine regP 16 hS (fun _ h => h) rfl (by kernel_rfl) (by kernel_rfl) (by kernel_rfl) (fun _ _ _ _ h => h) (by rfl) (by rfl) ?_; apply Exists.intro; apply And.intro; (intro w; go_simp; try with_reducible rfl); (simp only [Act.put, List.setIfInBounds_toArray, List.set_cons_zero, List.set_cons_succ]))
  refine regDone (by kernel_rfl) ?_
  have H0 : Hid (Sat W _ (Cs q 87 [.slice al R.L.length cl, .slice ag R.Log.length cg, .bool R.armed, .int .i64 R.left, .bool R.dead] :: Tb 9 1 sv (.slice al R.L.length cl) R.L :: Tb 56 2 wv (.slice ag R.Log.length cg) R.Log :: IsDisk p D :: L)) := Lib.hid hS
  go_wp2
  go_loopw [5] (fun vi wz => ∃ k : Nat, vi = .int .i64 k ∧ k ≤ R.L.length ∧ Sat W wz (Cs q 87 [.slice al R.L.length cl, .slice ag R.Log.length cg, .bool R.armed, .int .i64 R.left, .bool R.dead] :: Tb 9 1 sv (.slice al R.L.length cl) R.L :: Tb 56 2 wv (.slice ag R.Log.length cg) R.Log :: IsDisk p D :: L)) (fun vi _ => R.L.length - (intOf vi).toNat)
  case atStart => exact ⟨0, rfl, by omega, H0.out⟩
  case round =>
    clear H0 hS
    obtain ⟨k, rfl, hk, hS⟩ := hrel
    by_cases hl : k < R.L.length
    · have k1 : (k : Int) < (R.L.length : Int) := by omega
      obtain ⟨b, hb⟩ : ∃ b, R.L[k]? = some b := ⟨_, List.getElem?_eq_getElem hl⟩
      have HB := Lib.hid hb
      have HB1 := Lib.hid (show D.blocks[k]? = some b by rw [HR.out.blocks]; exact hb)
      have HBL := Lib.hid (HB8.out b (List.mem_of_getElem? hb))
      have HL := Lib.hid hl
      obtain ⟨ba, oa, cl', hv, _⟩ := hS.tbAddr (k := 1) rfl (by omega)
      simp only [Value.slice.injEq, true_and] at hv
      obtain ⟨rfl, rfl⟩ := hv
      clear hb hl
      go_wp2_with (first
        | (refine toList (by rfl) ?_; refine ld hS _ _ (by rfl) _ _ (by rfl) (agOf (by rfl)) Has.z (by rfl) ?_)
        | (go_at_call 15; refine (read_ok (hS.front 3 rfl) k _ HB1.out HR.out.ok.len).mono ?_; rintro e w1 ⟨q1, rfl, _, hS1⟩; clear hS; have hS := hS1; clear hS1))
      refine regStart [] hS (by kernel_rfl) rfl ?_
      intro w1 hS1
      clear hS; have hS := hS1; clear hS1
      (refine regP 0 hS (fun _ h => h) rfl (by kernel_rfl) (by kernel_rfl) (by kernel_rfl) (fun _ _ _ _ h => h) (by rfl) (by rfl) ?_; apply Exists.intro; apply And.intro; (intro w; go_simp; try with_reducible rfl); (simp only [Act.put, List.setIfInBounds_toArray, List.set_cons_zero, List.set_cons_succ]))
      (refine regR 1 hS (fun _ h => h) rfl (by kernel_rfl) (by kernel_rfl) (by kernel_rfl) (by kernel_rfl) (by kernel_rfl) (fun _ _ _ _ h => h) (by rfl) (by rfl) ?_; (first
                    | refine ⟨_, yCv (n := 128) (l := b) _ _ _ (by rfl) _ (by rfl) strBytes (fun u hu => hu.csRd0 (n := 128) Has.z (by decide) (by rw [bv_length, HBL.out])), ?_⟩
                    | refine ⟨_, yLd _ _ (by rfl) _ _ (by rfl) (agOf (by rfl)) (Has.s (Has.s Has.z)) (by rfl), ?_⟩
                    | refine ⟨_, yLdTb (f := sv) (x := b) _ _ (by rfl) _ _ (by rfl) (agOf (by rfl)) (Has.s (Has.s (Has.s Has.z))) k 0 (by omega) HB.out (show (sv b)[0]? = some (.string ⟨b.toArray⟩) from rfl), ?_⟩); (simp only [Act.put, List.setIfInBounds_toArray, List.set_cons_zero, List.set_cons_succ]))
      (refine regP 2 hS (fun _ h => h) rfl (by kernel_rfl) (by kernel_rfl) (by kernel_rfl) (fun _ _ _ _ h => h) (by rfl) (by rfl) ?_; apply Exists.intro; apply And.intro; (intro w; go_simp; try with_reducible rfl); (simp only [Act.put, List.setIfInBounds_toArray, List.set_cons_zero, List.set_cons_succ]))
      (refine regP 3 hS (fun _ h => h) rfl (by kernel_rfl) (by kernel_rfl) (by kernel_rfl) (fun _ _ _ _ h => h) (by rfl) (by rfl) ?_; apply Exists.intro; apply And.intro; (intro w; go_simp; try with_reducible rfl); (simp only [Act.put, List.setIfInBounds_toArray, List.set_cons_zero, List.set_cons_succ]))
      (refine regP 4 hS (fun _ h => h) rfl (by kernel_rfl) (by kernel_rfl) (by kernel_rfl) (fun _ _ _ _ h => h) (by rfl) (by rfl) ?_; apply Exists.intro; apply And.intro; (intro w; go_simp; try with_reducible rfl); (simp only [Act.put, List.setIfInBounds_toArray, List.set_cons_zero, List.set_cons_succ]))
      (refine regR 5 hS (fun _ h => h) rfl (by kernel_rfl) (by kernel_rfl) (by kernel_rfl) (by kernel_rfl) (by kernel_rfl) (fun _ _ _ _ h => h) (by rfl) (by rfl) ?_; (first
                    | refine ⟨_, yCv (n := 128) (l := b) _ _ _ (by rfl) _ (by rfl) strBytes (fun u hu => hu.csRd0 (n := 128) Has.z (by decide) (by rw [bv_length, HBL.out])), ?_⟩
                    | refine ⟨_, yLd _ _ (by rfl) _ _ (by rfl) (agOf (by rfl)) (Has.s (Has.s Has.z)) (by rfl), ?_⟩
                    | refine ⟨_, yLdTb (f := sv) (x := b) _ _ (by rfl) _ _ (by rfl) (agOf (by rfl)) (Has.s (Has.s (Has.s Has.z))) k 0 (by omega) HB.out (show (sv b)[0]? = some (.string ⟨b.toArray⟩) from rfl), ?_⟩); (simp only [Act.put, List.setIfInBounds_toArray, List.set_cons_zero, List.set_cons_succ]))
      (refine regP 6 hS (fun _ h => h) rfl (by kernel_rfl) (by kernel_rfl) (by kernel_rfl) (fun _ _ _ _ h => h) (by rfl) (by rfl) ?_; apply Exists.intro; apply And.intro; (intro w; go_simp; try with_reducible rfl); (simp only [Act.put, List.setIfInBounds_toArray, List.set_cons_zero, List.set_cons_succ]))
      (refine regP 7 hS (fun _ h => h) rfl (by kernel_rfl) (by kernel_rfl) (by kernel_rfl) (fun _ _ _ _ h => h) (by rfl) (by rfl) ?_; apply Exists.intro; apply And.intro; (intro w; go_simp; try with_reducible rfl); (simp only [Act.put, List.setIfInBounds_toArray, List.set_cons_zero, List.set_cons_succ]))
      (refine regR 8 hS (fun _ h => h) rfl (by kernel_rfl) (by kernel_rfl) (by kernel_rfl) (by kernel_rfl) (by kernel_rfl) (fun _ _ _ _ h => h) (by rfl) (by rfl) ?_; (first
                    | refine ⟨_, yCv (n := 128) (l := b) _ _ _ (by rfl) _ (by rfl) strBytes (fun u hu => hu.csRd0 (n := 128) Has.z (by decide) (by rw [bv_length, HBL.out])), ?_⟩
                    | refine ⟨_, yLd _ _ (by rfl) _ _ (by rfl) (agOf (by rfl)) (Has.s (Has.s Has.z)) (by rfl), ?_⟩
                    | refine ⟨_, yLdTb (f := sv) (x := b) _ _ (by rfl) _ _ (by rfl) (agOf (by rfl)) (Has.s (Has.s (Has.s Has.z))) k 0 (by omega) HB.out (show (sv b)[0]? = some (.string ⟨b.toArray⟩) from rfl), ?_⟩); (simp only [Act.put, List.setIfInBounds_toArray, List.set_cons_zero, List.set_cons_succ]))
      (refine regP 9 hS (fun _ h => h) rfl (by kernel_rfl) (by kernel_rfl) (by kernel_rfl) (fun _ _ _ _ h => h) (by rfl) (by rfl) ?_; apply Exists.intro; apply And.intro; (intro w; go_simp; try with_reducible rfl); (simp only [Act.put, List.setIfInBounds_toArray, List.set_cons_zero, List.set_cons_succ]))
      refine regDone (by kernel_rfl) ?_
      go_wp2
      exact ⟨⟨k + 1, by go_num, HL.out, hS.drop.re [1, 2, 3]⟩, by simp [intOf]; have := HL.out; omega⟩
    · have k1 : ¬ (k : Int) < (R.L.length : Int) := by omega
      clear hl
      go_wp2_with (first
        | (refine toList (by rfl) ?_; refine ld hS _ _ (by rfl) _ _ (by rfl) (agOf (by rfl)) Has.z (by rfl) ?_))
      go_ret
      exact ⟨rfl, (IsRef.mk hS).pull1⟩
/-- Cut, side by side. -/
structure Cut2 (n : Int) (D : DiskS) (R : RefS) (cb : Bool) (D0 : DiskS) (R0 : RefS) : Prop where
  rel : Rel D R
  len : D.blocks.length = D0.blocks.length
  wr : D.writes = D0.writes
  dead : D.dead = D0.dead
  c1 : ∀ (W w : World) (L : List Asrt) (p : Nat), Sat W w (IsDisk p D0 :: L) → Calls Try.prog 21 #[.pointer (some ⟨p, 0, none⟩), .int .i64 n] w fun e w' => e = .returned (.bool cb) ∧ Sat W w' (IsDisk p D :: L)
  c2 : ∀ (W w : World) (L : List Asrt) (p : Nat), Sat W w (IsRef p R0 :: L) → Calls Try.prog 22 #[.pointer (some ⟨p, 0, none⟩), .int .i64 n] w fun e w' => e = .returned (.bool cb) ∧ Sat W w' (IsRef p R :: L)
theorem cut2 {D : DiskS} {R : RefS} (h : Rel D R) (n : Int) (hn : n ≤ 9223372036854775807) : ∃ D' R' cb, Cut2 n D' R' cb D R := by
  by_cases h0 : 0 ≤ n
  · exact ⟨{ D with left := n }, { R with armed := true, left := n }, true, h.cut n h0 hn, rfl, rfl, rfl, fun W w L p hS => cut_yes hS n h0, fun W w L p hS => ref_cut_yes hS n h0⟩
  · exact ⟨D, R, false, h, rfl, rfl, rfl, fun W w L p hS => (cut_no hS n (by omega)).mono fun e w' ⟨h1, h2⟩ => ⟨h1, h2 ▸ hS⟩, fun W w L p hS => (ref_cut_no hS n (by omega)).mono fun e w' ⟨h1, h2⟩ => ⟨h1, h2 ▸ hS⟩⟩
theorem Rel.dg {D : DiskS} {R : RefS} (h : Rel D R) {k : Nat} (hk : D.writes.length ≤ k) : DG D k := by
  have h1 := h.left
  have h2 := h.lo
  have h3 := h.hi
  cases ha : R.armed with
  | true => rw [ha, if_pos rfl] at h1; exact ⟨h.ok, by omega, by omega, hk⟩
  | false => rw [ha, if_neg (by decide)] at h1; exact ⟨h.ok, by omega, by omega, hk⟩
def comRf (D : DiskS) (R : RefS) (g : G2) : RefS := if okG D.blocks.length g then runRf D R (commitL g) else R
theorem Rel.commit {D : DiskS} {R : RefS} (h : Rel D R) (g : G2) : Rel (commitR D g).2 (comRf D R g) := by
  unfold commitR comRf
  cases okG D.blocks.length g with
  | true => exact h.run _
  | false => exact h
theorem Rel.recover {D : DiskS} {R : RefS} (h : Rel D R) : Rel (recR D).2 (recRf D R) := by
  unfold recR recRf
  cases recOk D with
  | true => exact h.run _
  | false => exact h
end Go.Proofs.Ytefbkpggmmhgcaa
