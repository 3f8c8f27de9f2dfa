/-
 Package inode: Check, of any inode.
 What alloc.Next answers (plain); chunk.Blocks.
-/
import Derived.Test.YtchohheleofncaaGreatMIno
import Derived.Test.YtchohheleofncaaGreatMIng
set_option linter.unusedSimpArgs false
set_option linter.unusedVariables false
namespace Go.Proofs.YtchohheleofncaaGreat
open Go.RowKit Go.Sep
attribute [local irreducible] Go.Oper.wp Go.wpList Go.Calls Go.Code.wp Go.Sep.Reg
set_option maxRecDepth 4000 in
theorem iin_gen (w : World) (v a b : Int) {r : Bool} (h : inB v a b = r) :
  Calls Tryz.prog 121 #[.int .i64 v, .int .i64 a, .int .i64 b] w fun e w' => e = .returned (.bool r) ∧ w = w' := by
 subst h
 unfold inB
 by_cases h1 : a ≤ v
 ·by_cases h2 : v ≤ b
  ·go_enter Tryz.func121, Tryz.ntmps121
   go_wp2
   go_ret
   exact ⟨by simp [h1, h2], rfl⟩
  ·go_enter Tryz.func121, Tryz.ntmps121
   go_wp2
   go_ret
   exact ⟨by simp [h2], rfl⟩
 ·go_enter Tryz.func121, Tryz.ntmps121
  go_wp2
  go_ret
  exact ⟨by rw [decide_eq_false (Int.not_le.2 h1)]; rfl, rfl⟩
def okH5 (x : InoD) : Bool := inB x.kind 1 2 && (inB x.size 0 4096 && (inB x.links 0 10000 && (inB x.obj 1 16777215 && inB x.node 0 16777215)))
def okH (x : InoD) : Bool := okH5 x && (x.kind != 2 || (x.links == 1 && x.size % 128 == 0))
def okPt (x : InoD) (k : Nat) : Bool :=
 match x.ptrs[k]? with
 | none => true
 | some p => if p = 0 then !(x.kind == 2 && !decide (x.size ≤ (k : Int) * 128)) else !decide (x.size ≤ (k : Int) * 128) && (inB p 74 1023 && !seenP x.ptrs k p.toNat)
def okPs (x : InoD) : Bool := (List.range 32).all (okPt x)
def okIb (x : InoD) : Bool := x.kind == 0 || (okH x && okPs x)
theorem okPs_no {x : InoD} {k : Nat} (hk : k < 32) (h : okPt x k = false) : okPs x = false := by
 unfold okPs
 rw [List.all_eq_false]
 exact ⟨k, List.mem_range.2 hk, by rw [h]; decide⟩
theorem okPs_yes {x : InoD} (h : ∀ k, k < 32 → okPt x k = true) : okPs x = true := by
 unfold okPs
 rw [List.all_eq_true]
 exact fun k hk => h k (List.mem_range.1 hk)
theorem okPt_zero {x : InoD} {k : Nat} (hp : x.ptrs[k]? = some 0) : okPt x k = !(x.kind == 2 && !decide (x.size ≤ (k : Int) * 128)) := by
 unfold okPt; rw [hp]; rfl
theorem okPt_some {x : InoD} {k : Nat} {p : Int} (hp : x.ptrs[k]? = some p) (h : p ≠ 0) : okPt x k = (!decide (x.size ≤ (k : Int) * 128) && (inB p 74 1023 && !seenP x.ptrs k p.toNat)) := by
 unfold okPt; rw [hp]; exact if_neg h
theorem okIb_ok {x : InoD} (hl : x.ptrs.length = 32) (hz : x.kind = 0 → x = zeroI) (h : okIb x = true) : OkI x := by
 by_cases h0 : x.kind = 0
 ·rw [hz h0]; exact okI_zero
 have hk0 : (x.kind == 0) = false := beq_eq_false_iff_ne.2 h0
 unfold okIb at h
 rw [hk0, Bool.false_or, Bool.and_eq_true] at h
 obtain ⟨h1, h2⟩ := h
 have hps : ∀ k, k < 32 → okPt x k = true := fun k hk => by
  unfold okPs at h2
  exact List.all_eq_true.1 h2 k (List.mem_range.2 hk)
 unfold okH okH5 inB at h1
 simp only [Bool.and_eq_true, decide_eq_true_eq] at h1
 obtain ⟨⟨⟨k1, k2⟩, ⟨s1, s2⟩, ⟨l1, l2⟩, ⟨o1, o2⟩, n1, n2⟩, hd⟩ := h1
 have hpt : ∀ (k : Nat) p, x.ptrs[k]? = some p → p ≠ 0 → (¬ x.size ≤ (k : Int) * 128) ∧ (74 ≤ p ∧ p ≤ 1023) ∧ seenP x.ptrs k p.toNat = false := fun k p hp hne => by
  have hk : k < 32 := by have := (List.getElem?_eq_some_iff.1 hp).1; omega
  have := hps k hk
  rw [okPt_some hp hne] at this
  unfold inB at this
  simpa using this
 exact
  {pl := hl
   zero := fun h => absurd h h0
   kd := ⟨by omega, k2⟩
   sz := ⟨s1, s2⟩
   lk := ⟨l1, l2⟩
   ob := ⟨by omega, o2⟩
   ob1 := fun _ => o1
   nd := ⟨n1, n2⟩
   dir := fun hk2 => by
    rw [hk2] at hd
    simp at hd
    refine ⟨hd.1, hd.2, fun k hp => ?_⟩
    have hk : k < 32 := by have := (List.getElem?_eq_some_iff.1 hp).1; omega
    have := hps k hk
    rw [okPt_zero hp, hk2] at this
    simpa using this
   pt := fun k p hp hne => by
    obtain ⟨a, b, _⟩ := hpt k p hp hne
    exact ⟨by omega, b⟩
   nd' := fun j k p hjk hj hk => by
    by_cases hne : p = 0
    ·exact hne
    obtain ⟨_, b, c⟩ := hpt k p hk hne
    obtain ⟨q, rfl⟩ : ∃ q : Nat, p = (q : Int) := ⟨p.toNat, by omega⟩
    rw [Int.toNat_natCast] at c
    unfold seenP at c
    have hm : (q : Int) ∈ x.ptrs.take k := List.mem_of_getElem? (i := j) (by rw [List.getElem?_take_of_lt hjk]; exact hj)
    rw [decide_eq_true (show q ≠ 0 by omega), Bool.true_and, List.contains_iff_mem.2 hm] at c
    exact absurd c (by decide) }
theorem okI_okIb {x : InoD} (h : OkI x) : okIb x = true := by
 unfold okIb
 by_cases h0 : x.kind = 0
 ·rw [h0]; rfl
 rw [Bool.or_eq_true, Bool.and_eq_true]
 right
 have hk := h.kd
 have hs := h.sz
 have hlk := h.lk
 have hob := h.ob
 have hob1 := h.ob1 h0
 have hn := h.nd
 refine ⟨?_, okPs_yes fun k hk => ?_⟩
 ·unfold okH okH5 inB
  simp only [Bool.and_eq_true, decide_eq_true_eq]
  refine ⟨⟨⟨by omega, by omega⟩, ⟨by omega, by omega⟩, ⟨by omega, by omega⟩, ⟨by omega, by omega⟩, by omega, by omega⟩, ?_⟩
  by_cases h2 : x.kind = 2
  ·obtain ⟨a, b, _⟩ := h.dir h2
   simp [a, b]
  ·simp [h2]
 ·obtain ⟨p, hp⟩ : ∃ p, x.ptrs[k]? = some p := ⟨_, List.getElem?_eq_getElem (by rw [h.pl]; exact hk)⟩
  by_cases hne : p = 0
  ·subst hne
   rw [okPt_zero hp]
   by_cases h2 : x.kind = 2
   ·rw [decide_eq_true ((h.dir h2).2.2 k hp)]; simp
   ·simp [h2]
  ·obtain ⟨a, b, c⟩ := h.pt k p hp hne
   obtain ⟨q, rfl⟩ : ∃ q : Nat, p = (q : Int) := ⟨p.toNat, by omega⟩
   rw [okPt_some hp hne, decide_eq_false (by omega), Int.toNat_natCast, seenP_new h hp (by omega)]
   unfold inB
   rw [decide_eq_true b, decide_eq_true c]; rfl
set_option maxRecDepth 20000 in
set_option maxHeartbeats 4000000 in
theorem icheck_bad {W w : World} {L : List Asrt} (hS : Sat W w L) (x : InoD) (h0 : x.kind ≠ 0) (hb : okH x = false) : Calls Tryz.prog 82 #[.agg (inv x).toArray] w fun e w' => e = .returned (.bool false) ∧ Sat W w' L := by
 unfold okH okH5 at hb
 obtain ⟨k, sz, lk, ob, nd, ps⟩ := x
 dsimp only at h0 hb
 obtain ⟨iv, hiv⟩ : ∃ iv, inv ⟨k, sz, lk, ob, nd, ps⟩ = iv := ⟨_, rfl⟩
 have G0 := Lib.hid (show iv[0]? = some (.int .i64 k) by rw [← hiv]; rfl)
 have G1 := Lib.hid (show iv[1]? = some (.int .i64 sz) by rw [← hiv]; rfl)
 have G2 := Lib.hid (show iv[2]? = some (.int .i64 lk) by rw [← hiv]; rfl)
 have G3 := Lib.hid (show iv[3]? = some (.int .i64 ob) by rw [← hiv]; rfl)
 have G4 := Lib.hid (show iv[4]? = some (.int .i64 nd) by rw [← hiv]; rfl)
 rw [hiv]
 clear hiv
 have e0 : (k == 0) = false := beq_eq_false_iff_ne.2 h0
 obtain ⟨d, hd⟩ : ∃ d, (k == 2) = d := ⟨_, rfl⟩
 obtain ⟨r1, h1⟩ : ∃ r, inB k 1 2 = r := ⟨_, rfl⟩
 obtain ⟨r2, h2⟩ : ∃ r, inB sz 0 4096 = r := ⟨_, rfl⟩
 obtain ⟨r3, h3⟩ : ∃ r, inB lk 0 10000 = r := ⟨_, rfl⟩
 obtain ⟨r4, h4⟩ : ∃ r, inB ob 1 16777215 = r := ⟨_, rfl⟩
 obtain ⟨r5, h5⟩ : ∃ r, inB nd 0 16777215 = r := ⟨_, rfl⟩
 have HK := Lib.hid (fun w => iin_gen w k 1 2 h1)
 have HSZ := Lib.hid (fun w => iin_gen w sz 0 4096 h2)
 have HLK := Lib.hid (fun w => iin_gen w lk 0 10000 h3)
 have HOB := Lib.hid (fun w => iin_gen w ob 1 16777215 h4)
 have HND := Lib.hid (fun w => iin_gen w nd 0 16777215 h5)
 rw [h1, h2, h3, h4, h5, show (k != 2) = !d by rw [← hd]; rfl] at hb
 cases r1 with
 | false => clear hb h1 h2 h3 h4 h5 h0; cases d <;> (go_enter Tryz.func82, Tryz.ntmps82; go_wp2_with (first | (refine toList (by rfl) ?_; refine bx hS _ _ (by rfl) _ (by first | exact evC | exact evT (by rfl)) ?_; clear hS; intro px w1 hS; rw [cells_agg] at hS) | (refine toList (by rfl) ?_; refine ld hS _ _ (by rfl) _ _ (by rfl) (agOf (by rfl)) Has.z G0.out ?_) | (refine toList (by rfl) ?_; refine ld hS _ _ (by rfl) _ _ (by rfl) (agOf (by rfl)) Has.z G1.out ?_) | (refine toList (by rfl) ?_; refine ld hS _ _ (by rfl) _ _ (by rfl) (agOf (by rfl)) Has.z G2.out ?_) | (refine toList (by rfl) ?_; refine ld hS _ _ (by rfl) _ _ (by rfl) (agOf (by rfl)) Has.z G3.out ?_) | (refine toList (by rfl) ?_; refine ld hS _ _ (by rfl) _ _ (by rfl) (agOf (by rfl)) Has.z G4.out ?_) | (go_at_call 121; refine (HK.out _).mono ?_; rintro e w1 ⟨rfl, rfl⟩) | (go_at_call 121; refine (HSZ.out _).mono ?_; rintro e w1 ⟨rfl, rfl⟩) | (go_at_call 121; refine (HLK.out _).mono ?_; rintro e w1 ⟨rfl, rfl⟩) | (go_at_call 121; refine (HOB.out _).mono ?_; rintro e w1 ⟨rfl, rfl⟩) | (go_at_call 121; refine (HND.out _).mono ?_; rintro e w1 ⟨rfl, rfl⟩)); go_ret; exact ⟨rfl, hS.drop⟩)
 | true =>
  cases r2 with
  | false => clear hb h1 h2 h3 h4 h5 h0; cases d <;> (go_enter Tryz.func82, Tryz.ntmps82; go_wp2_with (first | (refine toList (by rfl) ?_; refine bx hS _ _ (by rfl) _ (by first | exact evC | exact evT (by rfl)) ?_; clear hS; intro px w1 hS; rw [cells_agg] at hS) | (refine toList (by rfl) ?_; refine ld hS _ _ (by rfl) _ _ (by rfl) (agOf (by rfl)) Has.z G0.out ?_) | (refine toList (by rfl) ?_; refine ld hS _ _ (by rfl) _ _ (by rfl) (agOf (by rfl)) Has.z G1.out ?_) | (refine toList (by rfl) ?_; refine ld hS _ _ (by rfl) _ _ (by rfl) (agOf (by rfl)) Has.z G2.out ?_) | (refine toList (by rfl) ?_; refine ld hS _ _ (by rfl) _ _ (by rfl) (agOf (by rfl)) Has.z G3.out ?_) | (refine toList (by rfl) ?_; refine ld hS _ _ (by rfl) _ _ (by rfl) (agOf (by rfl)) Has.z G4.out ?_) | (go_at_call 121; refine (HK.out _).mono ?_; rintro e w1 ⟨rfl, rfl⟩) | (go_at_call 121; refine (HSZ.out _).mono ?_; rintro e w1 ⟨rfl, rfl⟩) | (go_at_call 121; refine (HLK.out _).mono ?_; rintro e w1 ⟨rfl, rfl⟩) | (go_at_call 121; refine (HOB.out _).mono ?_; rintro e w1 ⟨rfl, rfl⟩) | (go_at_call 121; refine (HND.out _).mono ?_; rintro e w1 ⟨rfl, rfl⟩)); go_ret; exact ⟨rfl, hS.drop⟩)
  | true =>
   cases r3 with
   | false => clear hb h1 h2 h3 h4 h5 h0; cases d <;> (go_enter Tryz.func82, Tryz.ntmps82; go_wp2_with (first | (refine toList (by rfl) ?_; refine bx hS _ _ (by rfl) _ (by first | exact evC | exact evT (by rfl)) ?_; clear hS; intro px w1 hS; rw [cells_agg] at hS) | (refine toList (by rfl) ?_; refine ld hS _ _ (by rfl) _ _ (by rfl) (agOf (by rfl)) Has.z G0.out ?_) | (refine toList (by rfl) ?_; refine ld hS _ _ (by rfl) _ _ (by rfl) (agOf (by rfl)) Has.z G1.out ?_) | (refine toList (by rfl) ?_; refine ld hS _ _ (by rfl) _ _ (by rfl) (agOf (by rfl)) Has.z G2.out ?_) | (refine toList (by rfl) ?_; refine ld hS _ _ (by rfl) _ _ (by rfl) (agOf (by rfl)) Has.z G3.out ?_) | (refine toList (by rfl) ?_; refine ld hS _ _ (by rfl) _ _ (by rfl) (agOf (by rfl)) Has.z G4.out ?_) | (go_at_call 121; refine (HK.out _).mono ?_; rintro e w1 ⟨rfl, rfl⟩) | (go_at_call 121; refine (HSZ.out _).mono ?_; rintro e w1 ⟨rfl, rfl⟩) | (go_at_call 121; refine (HLK.out _).mono ?_; rintro e w1 ⟨rfl, rfl⟩) | (go_at_call 121; refine (HOB.out _).mono ?_; rintro e w1 ⟨rfl, rfl⟩) | (go_at_call 121; refine (HND.out _).mono ?_; rintro e w1 ⟨rfl, rfl⟩)); go_ret; exact ⟨rfl, hS.drop⟩)
   | true =>
    cases r4 with
    | false => clear hb h1 h2 h3 h4 h5 h0; cases d <;> (go_enter Tryz.func82, Tryz.ntmps82; go_wp2_with (first | (refine toList (by rfl) ?_; refine bx hS _ _ (by rfl) _ (by first | exact evC | exact evT (by rfl)) ?_; clear hS; intro px w1 hS; rw [cells_agg] at hS) | (refine toList (by rfl) ?_; refine ld hS _ _ (by rfl) _ _ (by rfl) (agOf (by rfl)) Has.z G0.out ?_) | (refine toList (by rfl) ?_; refine ld hS _ _ (by rfl) _ _ (by rfl) (agOf (by rfl)) Has.z G1.out ?_) | (refine toList (by rfl) ?_; refine ld hS _ _ (by rfl) _ _ (by rfl) (agOf (by rfl)) Has.z G2.out ?_) | (refine toList (by rfl) ?_; refine ld hS _ _ (by rfl) _ _ (by rfl) (agOf (by rfl)) Has.z G3.out ?_) | (refine toList (by rfl) ?_; refine ld hS _ _ (by rfl) _ _ (by rfl) (agOf (by rfl)) Has.z G4.out ?_) | (go_at_call 121; refine (HK.out _).mono ?_; rintro e w1 ⟨rfl, rfl⟩) | (go_at_call 121; refine (HSZ.out _).mono ?_; rintro e w1 ⟨rfl, rfl⟩) | (go_at_call 121; refine (HLK.out _).mono ?_; rintro e w1 ⟨rfl, rfl⟩) | (go_at_call 121; refine (HOB.out _).mono ?_; rintro e w1 ⟨rfl, rfl⟩) | (go_at_call 121; refine (HND.out _).mono ?_; rintro e w1 ⟨rfl, rfl⟩)); go_ret; exact ⟨rfl, hS.drop⟩)
    | true =>
     cases r5 with
     | false => clear hb h1 h2 h3 h4 h5 h0; cases d <;> (go_enter Tryz.func82, Tryz.ntmps82; go_wp2_with (first | (refine toList (by rfl) ?_; refine bx hS _ _ (by rfl) _ (by first | exact evC | exact evT (by rfl)) ?_; clear hS; intro px w1 hS; rw [cells_agg] at hS) | (refine toList (by rfl) ?_; refine ld hS _ _ (by rfl) _ _ (by rfl) (agOf (by rfl)) Has.z G0.out ?_) | (refine toList (by rfl) ?_; refine ld hS _ _ (by rfl) _ _ (by rfl) (agOf (by rfl)) Has.z G1.out ?_) | (refine toList (by rfl) ?_; refine ld hS _ _ (by rfl) _ _ (by rfl) (agOf (by rfl)) Has.z G2.out ?_) | (refine toList (by rfl) ?_; refine ld hS _ _ (by rfl) _ _ (by rfl) (agOf (by rfl)) Has.z G3.out ?_) | (refine toList (by rfl) ?_; refine ld hS _ _ (by rfl) _ _ (by rfl) (agOf (by rfl)) Has.z G4.out ?_) | (go_at_call 121; refine (HK.out _).mono ?_; rintro e w1 ⟨rfl, rfl⟩) | (go_at_call 121; refine (HSZ.out _).mono ?_; rintro e w1 ⟨rfl, rfl⟩) | (go_at_call 121; refine (HLK.out _).mono ?_; rintro e w1 ⟨rfl, rfl⟩) | (go_at_call 121; refine (HOB.out _).mono ?_; rintro e w1 ⟨rfl, rfl⟩) | (go_at_call 121; refine (HND.out _).mono ?_; rintro e w1 ⟨rfl, rfl⟩)); go_ret; exact ⟨rfl, hS.drop⟩)
     | true =>
      cases d with
      | false => simp at hb
      | true =>
       have hs0 : 0 ≤ sz := by unfold inB at h2; simp at h2; omega
       have hm : Int.tmod sz 128 = sz % 128 := Int.tmod_eq_emod_of_nonneg hs0
       obtain ⟨m, hm2⟩ : ∃ m, sz % 128 = m := ⟨_, rfl⟩
       rw [hm2] at hm hb
       by_cases hl1 : lk = 1
       ·subst hl1
        have hm0 : (m == 0) = false := by simpa using hb
        have hm1 : (m != 0) = true := by rw [bne, hm0]; rfl
        clear hb h1 h2 h3 h4 h5 h0 hm2 hs0
        (go_enter Tryz.func82, Tryz.ntmps82; go_wp2_with (first | (refine toList (by rfl) ?_; refine bx hS _ _ (by rfl) _ (by first | exact evC | exact evT (by rfl)) ?_; clear hS; intro px w1 hS; rw [cells_agg] at hS) | (refine toList (by rfl) ?_; refine ld hS _ _ (by rfl) _ _ (by rfl) (agOf (by rfl)) Has.z G0.out ?_) | (refine toList (by rfl) ?_; refine ld hS _ _ (by rfl) _ _ (by rfl) (agOf (by rfl)) Has.z G1.out ?_) | (refine toList (by rfl) ?_; refine ld hS _ _ (by rfl) _ _ (by rfl) (agOf (by rfl)) Has.z G2.out ?_) | (refine toList (by rfl) ?_; refine ld hS _ _ (by rfl) _ _ (by rfl) (agOf (by rfl)) Has.z G3.out ?_) | (refine toList (by rfl) ?_; refine ld hS _ _ (by rfl) _ _ (by rfl) (agOf (by rfl)) Has.z G4.out ?_) | (go_at_call 121; refine (HK.out _).mono ?_; rintro e w1 ⟨rfl, rfl⟩) | (go_at_call 121; refine (HSZ.out _).mono ?_; rintro e w1 ⟨rfl, rfl⟩) | (go_at_call 121; refine (HLK.out _).mono ?_; rintro e w1 ⟨rfl, rfl⟩) | (go_at_call 121; refine (HOB.out _).mono ?_; rintro e w1 ⟨rfl, rfl⟩) | (go_at_call 121; refine (HND.out _).mono ?_; rintro e w1 ⟨rfl, rfl⟩)); go_ret; exact ⟨rfl, hS.drop⟩)
       ·have hl2 : (lk != 1) = true := bne_iff_ne.2 hl1
        clear hb h1 h2 h3 h4 h5 h0 hm2 hs0 hl1
        (go_enter Tryz.func82, Tryz.ntmps82; go_wp2_with (first | (refine toList (by rfl) ?_; refine bx hS _ _ (by rfl) _ (by first | exact evC | exact evT (by rfl)) ?_; clear hS; intro px w1 hS; rw [cells_agg] at hS) | (refine toList (by rfl) ?_; refine ld hS _ _ (by rfl) _ _ (by rfl) (agOf (by rfl)) Has.z G0.out ?_) | (refine toList (by rfl) ?_; refine ld hS _ _ (by rfl) _ _ (by rfl) (agOf (by rfl)) Has.z G1.out ?_) | (refine toList (by rfl) ?_; refine ld hS _ _ (by rfl) _ _ (by rfl) (agOf (by rfl)) Has.z G2.out ?_) | (refine toList (by rfl) ?_; refine ld hS _ _ (by rfl) _ _ (by rfl) (agOf (by rfl)) Has.z G3.out ?_) | (refine toList (by rfl) ?_; refine ld hS _ _ (by rfl) _ _ (by rfl) (agOf (by rfl)) Has.z G4.out ?_) | (go_at_call 121; refine (HK.out _).mono ?_; rintro e w1 ⟨rfl, rfl⟩) | (go_at_call 121; refine (HSZ.out _).mono ?_; rintro e w1 ⟨rfl, rfl⟩) | (go_at_call 121; refine (HLK.out _).mono ?_; rintro e w1 ⟨rfl, rfl⟩) | (go_at_call 121; refine (HOB.out _).mono ?_; rintro e w1 ⟨rfl, rfl⟩) | (go_at_call 121; refine (HND.out _).mono ?_; rintro e w1 ⟨rfl, rfl⟩)); go_ret; exact ⟨rfl, hS.drop⟩)
def ChkG (W : World) (L : List Asrt) (x : InoD) (iv : List Value) (px pb : Nat) (v60 : Value) (wz : World) : Prop :=
 ∃ k : Nat, v60 = .int .i64 (k : Int) ∧ k ≤ 32 ∧ (∀ j, j < k → okPt x j = true) ∧ Sat W wz (Cs pb 161 (mb (seenP x.ptrs k)) :: Cs px 33 iv :: L)
def ckM (v : Value) : Nat := 32 - (intOf v).toNat
theorem ckM_lt {i : Nat} (h : i < 32) : ckM (.int .i64 ((i + 1 : Nat) : Int)) < ckM (.int .i64 (i : Int)) := by
 unfold ckM
 show 32 - (((i + 1 : Nat) : Int)).toNat < 32 - ((i : Int)).toNat
 rw [Int.toNat_natCast, Int.toNat_natCast]
 omega
theorem ckUp {x : InoD} {k : Nat} (h : ∀ j, j < k → okPt x j = true) (h2 : okPt x k = true) : ∀ j, j < k + 1 → okPt x j = true := fun j hj => by
 by_cases e : j = k
 ·rw [e]; exact h2
 ·exact h j (by omega)
set_option maxRecDepth 20000 in
set_option maxHeartbeats 4000000 in
theorem icheck_file' {W w : World} {L : List Asrt} (hS : Sat W w L) (x : InoD) (hl : x.ptrs.length = 32) (h1 : x.kind = 1) (hb : okH x = true) : Calls Tryz.prog 82 #[.agg (inv x).toArray] w fun e w' => e = .returned (.bool (okPs x)) ∧ Sat W w' L := by
 have HZ := Lib.hid (show zeroB Tryz.prog 161 = some (some (.agg (mb fun _ => false).toArray)) by kernel_rfl)
 have HB := Lib.hid (show ∀ u : World, (Instr.build 161 #[]).run Tryz.prog u = .ok (.agg (mb fun _ => false).toArray) u from fun u => run_build u _ _ _ (by kernel_rfl))
 have HO := Lib.hid (mb_one fun _ => false)
 have HML := Lib.hid mb_len
 obtain ⟨iv, hiv⟩ : ∃ iv, inv x = iv := ⟨_, rfl⟩
 have HLE := Lib.hid (show iv.length = 37 by rw [← hiv, inv_len, hl])
 have HGP := Lib.hid (show ∀ (k : Nat) p, x.ptrs[k]? = some p → iv[5 + k]? = some (.int .i64 p) from fun k p h => by rw [← hiv]; exact inv_ptr h)
 have HPL := Lib.hid hl
 have HKD := Lib.hid h1
 have G0 := Lib.hid (show iv[0]? = some (.int .i64 1) by rw [← hiv, show (inv x)[0]? = some (.int .i64 x.kind) from rfl, h1])
 have G1 := Lib.hid (show iv[1]? = some (.int .i64 x.size) by rw [← hiv]; rfl)
 have G2 := Lib.hid (show iv[2]? = some (.int .i64 x.links) by rw [← hiv]; rfl)
 have G3 := Lib.hid (show iv[3]? = some (.int .i64 x.obj) by rw [← hiv]; rfl)
 have G4 := Lib.hid (show iv[4]? = some (.int .i64 x.node) by rw [← hiv]; rfl)
 rw [hiv]
 unfold okH okH5 at hb
 rw [h1] at hb
 simp only [Bool.and_eq_true] at hb
 have HK := Lib.hid (fun w => iin_gen w 1 1 2 hb.1.1)
 have HSZ := Lib.hid (fun w => iin_gen w x.size 0 4096 hb.1.2.1)
 have HLK := Lib.hid (fun w => iin_gen w x.links 0 10000 hb.1.2.2.1)
 have HOB := Lib.hid (fun w => iin_gen w x.obj 1 16777215 hb.1.2.2.2.1)
 have HND := Lib.hid (fun w => iin_gen w x.node 0 16777215 hb.1.2.2.2.2)
 skip
 clear hiv hb h1 hl
 go_enter Tryz.func82, Tryz.ntmps82
 go_wp2_with (first
  | (first | (refine toList (by rfl) ?_; refine bx hS _ _ (by rfl) _ (by first | exact evC | exact evT (by rfl)) ?_; clear hS; intro px w1 hS; rw [cells_agg] at hS) | (refine toList (by rfl) ?_; refine ld hS _ _ (by rfl) _ _ (by rfl) (agOf (by rfl)) Has.z G0.out ?_) | (refine toList (by rfl) ?_; refine ld hS _ _ (by rfl) _ _ (by rfl) (agOf (by rfl)) Has.z G1.out ?_) | (refine toList (by rfl) ?_; refine ld hS _ _ (by rfl) _ _ (by rfl) (agOf (by rfl)) Has.z G2.out ?_) | (refine toList (by rfl) ?_; refine ld hS _ _ (by rfl) _ _ (by rfl) (agOf (by rfl)) Has.z G3.out ?_) | (refine toList (by rfl) ?_; refine ld hS _ _ (by rfl) _ _ (by rfl) (agOf (by rfl)) Has.z G4.out ?_) | (go_at_call 121; refine (HK.out _).mono ?_; rintro e w1 ⟨rfl, rfl⟩) | (go_at_call 121; refine (HSZ.out _).mono ?_; rintro e w1 ⟨rfl, rfl⟩) | (go_at_call 121; refine (HLK.out _).mono ?_; rintro e w1 ⟨rfl, rfl⟩) | (go_at_call 121; refine (HOB.out _).mono ?_; rintro e w1 ⟨rfl, rfl⟩) | (go_at_call 121; refine (HND.out _).mono ?_; rintro e w1 ⟨rfl, rfl⟩))
  | (refine toList (by rfl) ?_; refine bd _ _ (by rfl) (by simp only [List.map_toArray, List.map_cons, List.map_nil]; rfl) HB.out ?_)
  | (refine toList (by rfl) ?_; refine al hS _ (by rfl) HZ.out ?_; clear hS; intro pb w1 hS; rw [cells_agg] at hS)
  | (refine toList (by rfl) ?_; refine stA hS _ _ _ (by rfl) _ _ (by rfl) (mb fun _ => false) (by rfl) HO.out (by rw [HML.out]; exact szOf (by rfl)) Has.z (by rw [HML.out]; exact Nat.le_refl _) ?_; clear hS; intro w1 hS; rw [List.set_cons_zero, List.take_zero, List.nil_append, List.drop_eq_nil_of_le (by rw [HML.out]; exact Nat.le_refl _), List.append_nil, ← seenP_zero x.ptrs] at hS))
 have H0 := Lib.hid hS
 clear hS HZ HB HO HML HK HSZ HLK HOB HND
 go_loopw [60] (fun v60 wz => ChkG W L x iv px pb v60 wz) (fun v60 _ => ckM v60)
 case atStart => exact ⟨0, rfl, by decide, fun j hj => absurd hj (Nat.not_lt_zero _), H0.out⟩
 case round =>
  clear H0
  obtain ⟨k, rfl, hk, hall, hS⟩ := hrel
  have HALL := Lib.hid hall
  clear hall
  by_cases hlt : k < 32
  ·have k1 : (k : Int) < 32 := by omega
   have HLT := Lib.hid hlt
   obtain ⟨p, hp⟩ : ∃ p, x.ptrs[k]? = some p := ⟨_, List.getElem?_eq_getElem (by rw [HPL.out]; exact hlt)⟩
   have GP := Lib.hid (HGP.out k p hp)
   obtain ⟨c, hc⟩ : ∃ c, decide (x.size ≤ (k : Int) * 128) = c := ⟨_, rfl⟩
   by_cases h0 : p = 0
   ·subst h0
    have HN := Lib.hid (seenP_skip hp)
    have HPT := Lib.hid (okPt_zero hp)
    rw [HKD.out, hc] at HPT
    clear hp hlt hk
    go_wp2
    refine regStart [] hS (by kernel_rfl) rfl ?_
    intro w1 hS1
    clear hS; have hS := hS1; clear hS1
    (refine rgP 0 hS (fun _ h => h) ?_; go_frame)
    (refine rgP 1 hS (fun _ h => h) ?_; go_frame)
    (refine rgP 2 hS (fun _ h => h) ?_; go_frame)
    (refine rgR 3 hS (fun _ h => h) ?_; (first | refine ⟨_, yLd _ _ (by rfl) _ _ (by rfl) (agOf (by rfl)) (Has.s Has.z) GP.out, ?_⟩ | refine ⟨_, yLd _ _ (by rfl) _ _ (by rfl) (agOf (by rfl)) (Has.s Has.z) G1.out, ?_⟩); go_frame)
    (refine rgP 4 hS (fun _ h => h) ?_; go_frame)
    (refine rgP 5 hS (fun _ h => h) ?_; go_frame; try simp (disch := omega) only [IntWalk.i64_in])
    (refine rgP 6 hS (fun _ h => h) ?_; go_frame)
    (refine rgR 7 hS (fun _ h => h) ?_; (first | refine ⟨_, yLd _ _ (by rfl) _ _ (by rfl) (agOf (by rfl)) (Has.s Has.z) GP.out, ?_⟩ | refine ⟨_, yLd _ _ (by rfl) _ _ (by rfl) (agOf (by rfl)) (Has.s Has.z) G1.out, ?_⟩); go_frame)
    (refine rgP 8 hS (fun _ h => h) ?_; go_frame)
    (refine rgP 9 hS (fun _ h => h) ?_; go_frame)
    (refine rgP 10 hS (fun _ h => h) ?_; go_frame)
    refine regDone (by kernel_rfl) ?_
    cases c
    all_goals
     go_wp2
     rw [← HN.out] at hS
     exact ⟨⟨k + 1, by go_num, HLT.out, ckUp HALL.out (HPT.out.trans rfl), hS⟩, ckM_lt HLT.out⟩
   ·have HPT := Lib.hid (okPt_some hp h0)
    rw [hc] at HPT
    have e2 : (p == 0) = false := beq_eq_false_iff_ne.2 h0
    cases c with
    | true =>
     clear hp hlt hk h0
     go_wp2
     refine regStart [] hS (by kernel_rfl) rfl ?_
     intro w1 hS1
     clear hS; have hS := hS1; clear hS1
     (refine rgP 0 hS (fun _ h => h) ?_; go_frame)
     (refine rgP 1 hS (fun _ h => h) ?_; go_frame)
     (refine rgP 2 hS (fun _ h => h) ?_; go_frame)
     (refine rgR 3 hS (fun _ h => h) ?_; (first | refine ⟨_, yLd _ _ (by rfl) _ _ (by rfl) (agOf (by rfl)) (Has.s Has.z) GP.out, ?_⟩ | refine ⟨_, yLd _ _ (by rfl) _ _ (by rfl) (agOf (by rfl)) (Has.s Has.z) G1.out, ?_⟩); go_frame)
     (refine rgP 4 hS (fun _ h => h) ?_; go_frame)
     (refine rgP 5 hS (fun _ h => h) ?_; go_frame; try simp (disch := omega) only [IntWalk.i64_in])
     (refine rgP 6 hS (fun _ h => h) ?_; go_frame)
     (refine rgR 7 hS (fun _ h => h) ?_; (first | refine ⟨_, yLd _ _ (by rfl) _ _ (by rfl) (agOf (by rfl)) (Has.s Has.z) GP.out, ?_⟩ | refine ⟨_, yLd _ _ (by rfl) _ _ (by rfl) (agOf (by rfl)) (Has.s Has.z) G1.out, ?_⟩); go_frame)
     (refine rgP 8 hS (fun _ h => h) ?_; go_frame)
     (refine rgP 9 hS (fun _ h => h) ?_; go_frame)
     (refine rgP 10 hS (fun _ h => h) ?_; go_frame)
     refine regDone (by kernel_rfl) ?_
     go_wp2
     go_ret
     rw [okPs_no HLT.out (HPT.out.trans rfl)]
     exact ⟨rfl, hS.drop.drop⟩
    | false =>
     obtain ⟨r, hr⟩ : ∃ r, inB p 74 1023 = r := ⟨_, rfl⟩
     have HI := Lib.hid (fun w => iin_gen w p 74 1023 hr)
     rw [hr] at HPT
     cases r with
     | false =>
      clear hp hlt hk h0 hr
      go_wp2
      refine regStart [] hS (by kernel_rfl) rfl ?_
      intro w1 hS1
      clear hS; have hS := hS1; clear hS1
      (refine rgP 0 hS (fun _ h => h) ?_; go_frame)
      (refine rgP 1 hS (fun _ h => h) ?_; go_frame)
      (refine rgP 2 hS (fun _ h => h) ?_; go_frame)
      (refine rgR 3 hS (fun _ h => h) ?_; (first | refine ⟨_, yLd _ _ (by rfl) _ _ (by rfl) (agOf (by rfl)) (Has.s Has.z) GP.out, ?_⟩ | refine ⟨_, yLd _ _ (by rfl) _ _ (by rfl) (agOf (by rfl)) (Has.s Has.z) G1.out, ?_⟩); go_frame)
      (refine rgP 4 hS (fun _ h => h) ?_; go_frame)
      (refine rgP 5 hS (fun _ h => h) ?_; go_frame; try simp (disch := omega) only [IntWalk.i64_in])
      (refine rgP 6 hS (fun _ h => h) ?_; go_frame)
      (refine rgR 7 hS (fun _ h => h) ?_; (first | refine ⟨_, yLd _ _ (by rfl) _ _ (by rfl) (agOf (by rfl)) (Has.s Has.z) GP.out, ?_⟩ | refine ⟨_, yLd _ _ (by rfl) _ _ (by rfl) (agOf (by rfl)) (Has.s Has.z) G1.out, ?_⟩); go_frame)
      (refine rgP 8 hS (fun _ h => h) ?_; go_frame)
      (refine rgP 9 hS (fun _ h => h) ?_; go_frame)
      (refine rgP 10 hS (fun _ h => h) ?_; go_frame)
      refine regDone (by kernel_rfl) ?_
      go_wp2_with (go_at_call 121; refine (HI.out _).mono ?_; rintro e w1 ⟨rfl, rfl⟩)
      go_ret
      rw [okPs_no HLT.out (HPT.out.trans rfl)]
      exact ⟨rfl, hS.drop.drop⟩
     | true =>
      have hr2 : 74 ≤ p ∧ p ≤ 1023 := by unfold inB at hr; simpa using hr
      obtain ⟨q, rfl⟩ : ∃ q : Nat, p = (q : Int) := ⟨p.toNat, by omega⟩
      have HN := Lib.hid (seenP_set hp (by omega))
      have HQ := Lib.hid (mb_at (seenP x.ptrs k) (show q < 1024 by omega))
      have HS := Lib.hid (mb_set (seenP x.ptrs k) true (show q < 1024 by omega))
      have e3 : (q : Int) < 1024 := by omega
      have HQL := Lib.hid (show q < (mb (seenP x.ptrs k)).length by rw [mb_len]; omega)
      rw [Int.toNat_natCast] at HPT
      obtain ⟨s, hs⟩ : ∃ s, seenP x.ptrs k q = s := ⟨_, rfl⟩
      rw [hs] at HQ HPT
      clear hp hlt hk h0 hr hr2 hs
      cases s with
      | true =>
       go_wp2
       refine regStart [] hS (by kernel_rfl) rfl ?_
       intro w1 hS1
       clear hS; have hS := hS1; clear hS1
       (refine rgP 0 hS (fun _ h => h) ?_; go_frame)
       (refine rgP 1 hS (fun _ h => h) ?_; go_frame)
       (refine rgP 2 hS (fun _ h => h) ?_; go_frame)
       (refine rgR 3 hS (fun _ h => h) ?_; (first | refine ⟨_, yLd _ _ (by rfl) _ _ (by rfl) (agOf (by rfl)) (Has.s Has.z) GP.out, ?_⟩ | refine ⟨_, yLd _ _ (by rfl) _ _ (by rfl) (agOf (by rfl)) (Has.s Has.z) G1.out, ?_⟩); go_frame)
       (refine rgP 4 hS (fun _ h => h) ?_; go_frame)
       (refine rgP 5 hS (fun _ h => h) ?_; go_frame; try simp (disch := omega) only [IntWalk.i64_in])
       (refine rgP 6 hS (fun _ h => h) ?_; go_frame)
       (refine rgR 7 hS (fun _ h => h) ?_; (first | refine ⟨_, yLd _ _ (by rfl) _ _ (by rfl) (agOf (by rfl)) (Has.s Has.z) GP.out, ?_⟩ | refine ⟨_, yLd _ _ (by rfl) _ _ (by rfl) (agOf (by rfl)) (Has.s Has.z) G1.out, ?_⟩); go_frame)
       (refine rgP 8 hS (fun _ h => h) ?_; go_frame)
       (refine rgP 9 hS (fun _ h => h) ?_; go_frame)
       (refine rgP 10 hS (fun _ h => h) ?_; go_frame)
       refine regDone (by kernel_rfl) ?_
       go_wp2_with (first
        | (go_at_call 121; refine (HI.out _).mono ?_; rintro e w1 ⟨rfl, rfl⟩)
        | (refine toList (by rfl) ?_; refine ld hS _ _ (by rfl) _ _ (by rfl) (agOf (by rfl)) Has.z HQ.out ?_))
       go_ret
       rw [okPs_no HLT.out (HPT.out.trans rfl)]
       exact ⟨rfl, hS.drop.drop⟩
      | false =>
       go_wp2
       refine regStart [] hS (by kernel_rfl) rfl ?_
       intro w1 hS1
       clear hS; have hS := hS1; clear hS1
       (refine rgP 0 hS (fun _ h => h) ?_; go_frame)
       (refine rgP 1 hS (fun _ h => h) ?_; go_frame)
       (refine rgP 2 hS (fun _ h => h) ?_; go_frame)
       (refine rgR 3 hS (fun _ h => h) ?_; (first | refine ⟨_, yLd _ _ (by rfl) _ _ (by rfl) (agOf (by rfl)) (Has.s Has.z) GP.out, ?_⟩ | refine ⟨_, yLd _ _ (by rfl) _ _ (by rfl) (agOf (by rfl)) (Has.s Has.z) G1.out, ?_⟩); go_frame)
       (refine rgP 4 hS (fun _ h => h) ?_; go_frame)
       (refine rgP 5 hS (fun _ h => h) ?_; go_frame; try simp (disch := omega) only [IntWalk.i64_in])
       (refine rgP 6 hS (fun _ h => h) ?_; go_frame)
       (refine rgR 7 hS (fun _ h => h) ?_; (first | refine ⟨_, yLd _ _ (by rfl) _ _ (by rfl) (agOf (by rfl)) (Has.s Has.z) GP.out, ?_⟩ | refine ⟨_, yLd _ _ (by rfl) _ _ (by rfl) (agOf (by rfl)) (Has.s Has.z) G1.out, ?_⟩); go_frame)
       (refine rgP 8 hS (fun _ h => h) ?_; go_frame)
       (refine rgP 9 hS (fun _ h => h) ?_; go_frame)
       (refine rgP 10 hS (fun _ h => h) ?_; go_frame)
       refine regDone (by kernel_rfl) ?_
       go_wp2_with (first
        | (go_at_call 121; refine (HI.out _).mono ?_; rintro e w1 ⟨rfl, rfl⟩)
        | (refine toList (by rfl) ?_; refine ld hS _ _ (by rfl) _ _ (by rfl) (agOf (by rfl)) Has.z HQ.out ?_)
        | (refine toList (by rfl) ?_; refine st hS _ _ _ (by rfl) _ _ (by rfl) _ (by first | exact evC | exact evT (by rfl)) (by rfl) (szOf (by rfl)) Has.z HQL.out ?_; clear hS; intro w1 hS; rw [List.set_cons_zero, HS.out, HN.out] at hS))
       exact ⟨⟨k + 1, by go_num, HLT.out, ckUp HALL.out (HPT.out.trans rfl), hS⟩, ckM_lt HLT.out⟩
  ·obtain rfl : k = 32 := by omega
   clear hlt hk
   go_wp2
   go_ret
   rw [okPs_yes HALL.out]
   exact ⟨rfl, hS.drop.drop⟩
set_option maxRecDepth 20000 in
set_option maxHeartbeats 4000000 in
theorem icheck_dir' {W w : World} {L : List Asrt} (hS : Sat W w L) (x : InoD) (hl : x.ptrs.length = 32) (h1 : x.kind = 2) (hb : okH x = true) : Calls Tryz.prog 82 #[.agg (inv x).toArray] w fun e w' => e = .returned (.bool (okPs x)) ∧ Sat W w' L := by
 have HZ := Lib.hid (show zeroB Tryz.prog 161 = some (some (.agg (mb fun _ => false).toArray)) by kernel_rfl)
 have HB := Lib.hid (show ∀ u : World, (Instr.build 161 #[]).run Tryz.prog u = .ok (.agg (mb fun _ => false).toArray) u from fun u => run_build u _ _ _ (by kernel_rfl))
 have HO := Lib.hid (mb_one fun _ => false)
 have HML := Lib.hid mb_len
 obtain ⟨iv, hiv⟩ : ∃ iv, inv x = iv := ⟨_, rfl⟩
 have HLE := Lib.hid (show iv.length = 37 by rw [← hiv, inv_len, hl])
 have HGP := Lib.hid (show ∀ (k : Nat) p, x.ptrs[k]? = some p → iv[5 + k]? = some (.int .i64 p) from fun k p h => by rw [← hiv]; exact inv_ptr h)
 have HPL := Lib.hid hl
 have HKD := Lib.hid h1
 have G0 := Lib.hid (show iv[0]? = some (.int .i64 2) by rw [← hiv, show (inv x)[0]? = some (.int .i64 x.kind) from rfl, h1])
 have G1 := Lib.hid (show iv[1]? = some (.int .i64 x.size) by rw [← hiv]; rfl)
 have G2 := Lib.hid (show iv[2]? = some (.int .i64 x.links) by rw [← hiv]; rfl)
 have G3 := Lib.hid (show iv[3]? = some (.int .i64 x.obj) by rw [← hiv]; rfl)
 have G4 := Lib.hid (show iv[4]? = some (.int .i64 x.node) by rw [← hiv]; rfl)
 rw [hiv]
 unfold okH okH5 at hb
 rw [h1] at hb
 simp only [Bool.and_eq_true] at hb
 have HK := Lib.hid (fun w => iin_gen w 2 1 2 hb.1.1)
 have HSZ := Lib.hid (fun w => iin_gen w x.size 0 4096 hb.1.2.1)
 have HLK := Lib.hid (fun w => iin_gen w x.links 0 10000 hb.1.2.2.1)
 have HOB := Lib.hid (fun w => iin_gen w x.obj 1 16777215 hb.1.2.2.2.1)
 have HND := Lib.hid (fun w => iin_gen w x.node 0 16777215 hb.1.2.2.2.2)
 have hd := hb.2
 simp at hd
 have hm : Int.tmod x.size 128 = 0 := by
  have h2 := hb.1.2.1
  unfold inB at h2
  simp at h2
  rw [Int.tmod_eq_emod_of_nonneg (by omega)]; exact hd.2
 rw [hd.1] at G2 HLK
 clear hd
 clear hiv hb h1 hl
 go_enter Tryz.func82, Tryz.ntmps82
 go_wp2_with (first
  | (first | (refine toList (by rfl) ?_; refine bx hS _ _ (by rfl) _ (by first | exact evC | exact evT (by rfl)) ?_; clear hS; intro px w1 hS; rw [cells_agg] at hS) | (refine toList (by rfl) ?_; refine ld hS _ _ (by rfl) _ _ (by rfl) (agOf (by rfl)) Has.z G0.out ?_) | (refine toList (by rfl) ?_; refine ld hS _ _ (by rfl) _ _ (by rfl) (agOf (by rfl)) Has.z G1.out ?_) | (refine toList (by rfl) ?_; refine ld hS _ _ (by rfl) _ _ (by rfl) (agOf (by rfl)) Has.z G2.out ?_) | (refine toList (by rfl) ?_; refine ld hS _ _ (by rfl) _ _ (by rfl) (agOf (by rfl)) Has.z G3.out ?_) | (refine toList (by rfl) ?_; refine ld hS _ _ (by rfl) _ _ (by rfl) (agOf (by rfl)) Has.z G4.out ?_) | (go_at_call 121; refine (HK.out _).mono ?_; rintro e w1 ⟨rfl, rfl⟩) | (go_at_call 121; refine (HSZ.out _).mono ?_; rintro e w1 ⟨rfl, rfl⟩) | (go_at_call 121; refine (HLK.out _).mono ?_; rintro e w1 ⟨rfl, rfl⟩) | (go_at_call 121; refine (HOB.out _).mono ?_; rintro e w1 ⟨rfl, rfl⟩) | (go_at_call 121; refine (HND.out _).mono ?_; rintro e w1 ⟨rfl, rfl⟩))
  | (refine toList (by rfl) ?_; refine bd _ _ (by rfl) (by simp only [List.map_toArray, List.map_cons, List.map_nil]; rfl) HB.out ?_)
  | (refine toList (by rfl) ?_; refine al hS _ (by rfl) HZ.out ?_; clear hS; intro pb w1 hS; rw [cells_agg] at hS)
  | (refine toList (by rfl) ?_; refine stA hS _ _ _ (by rfl) _ _ (by rfl) (mb fun _ => false) (by rfl) HO.out (by rw [HML.out]; exact szOf (by rfl)) Has.z (by rw [HML.out]; exact Nat.le_refl _) ?_; clear hS; intro w1 hS; rw [List.set_cons_zero, List.take_zero, List.nil_append, List.drop_eq_nil_of_le (by rw [HML.out]; exact Nat.le_refl _), List.append_nil, ← seenP_zero x.ptrs] at hS))
 have H0 := Lib.hid hS
 clear hS HZ HB HO HML HK HSZ HLK HOB HND
 go_loopw [60] (fun v60 wz => ChkG W L x iv px pb v60 wz) (fun v60 _ => ckM v60)
 case atStart => exact ⟨0, rfl, by decide, fun j hj => absurd hj (Nat.not_lt_zero _), H0.out⟩
 case round =>
  clear H0
  obtain ⟨k, rfl, hk, hall, hS⟩ := hrel
  have HALL := Lib.hid hall
  clear hall
  by_cases hlt : k < 32
  ·have k1 : (k : Int) < 32 := by omega
   have HLT := Lib.hid hlt
   obtain ⟨p, hp⟩ : ∃ p, x.ptrs[k]? = some p := ⟨_, List.getElem?_eq_getElem (by rw [HPL.out]; exact hlt)⟩
   have GP := Lib.hid (HGP.out k p hp)
   obtain ⟨c, hc⟩ : ∃ c, decide (x.size ≤ (k : Int) * 128) = c := ⟨_, rfl⟩
   by_cases h0 : p = 0
   ·subst h0
    have HN := Lib.hid (seenP_skip hp)
    have HPT := Lib.hid (okPt_zero hp)
    rw [HKD.out, hc] at HPT
    clear hp hlt hk
    cases c with
    | false =>
     go_wp2
     refine regStart [] hS (by kernel_rfl) rfl ?_
     intro w1 hS1
     clear hS; have hS := hS1; clear hS1
     (refine rgP 0 hS (fun _ h => h) ?_; go_frame)
     (refine rgP 1 hS (fun _ h => h) ?_; go_frame)
     (refine rgP 2 hS (fun _ h => h) ?_; go_frame)
     (refine rgR 3 hS (fun _ h => h) ?_; (first | refine ⟨_, yLd _ _ (by rfl) _ _ (by rfl) (agOf (by rfl)) (Has.s Has.z) GP.out, ?_⟩ | refine ⟨_, yLd _ _ (by rfl) _ _ (by rfl) (agOf (by rfl)) (Has.s Has.z) G1.out, ?_⟩); go_frame)
     (refine rgP 4 hS (fun _ h => h) ?_; go_frame)
     (refine rgP 5 hS (fun _ h => h) ?_; go_frame; try simp (disch := omega) only [IntWalk.i64_in])
     (refine rgP 6 hS (fun _ h => h) ?_; go_frame)
     (refine rgR 7 hS (fun _ h => h) ?_; (first | refine ⟨_, yLd _ _ (by rfl) _ _ (by rfl) (agOf (by rfl)) (Has.s Has.z) GP.out, ?_⟩ | refine ⟨_, yLd _ _ (by rfl) _ _ (by rfl) (agOf (by rfl)) (Has.s Has.z) G1.out, ?_⟩); go_frame)
     (refine rgP 8 hS (fun _ h => h) ?_; go_frame)
     (refine rgP 9 hS (fun _ h => h) ?_; go_frame)
     (refine rgP 10 hS (fun _ h => h) ?_; go_frame)
     refine regDone (by kernel_rfl) ?_
     go_wp2
     go_ret
     rw [okPs_no HLT.out (HPT.out.trans rfl)]
     exact ⟨rfl, hS.drop.drop⟩
    | true =>
     go_wp2
     refine regStart [] hS (by kernel_rfl) rfl ?_
     intro w1 hS1
     clear hS; have hS := hS1; clear hS1
     (refine rgP 0 hS (fun _ h => h) ?_; go_frame)
     (refine rgP 1 hS (fun _ h => h) ?_; go_frame)
     (refine rgP 2 hS (fun _ h => h) ?_; go_frame)
     (refine rgR 3 hS (fun _ h => h) ?_; (first | refine ⟨_, yLd _ _ (by rfl) _ _ (by rfl) (agOf (by rfl)) (Has.s Has.z) GP.out, ?_⟩ | refine ⟨_, yLd _ _ (by rfl) _ _ (by rfl) (agOf (by rfl)) (Has.s Has.z) G1.out, ?_⟩); go_frame)
     (refine rgP 4 hS (fun _ h => h) ?_; go_frame)
     (refine rgP 5 hS (fun _ h => h) ?_; go_frame; try simp (disch := omega) only [IntWalk.i64_in])
     (refine rgP 6 hS (fun _ h => h) ?_; go_frame)
     (refine rgR 7 hS (fun _ h => h) ?_; (first | refine ⟨_, yLd _ _ (by rfl) _ _ (by rfl) (agOf (by rfl)) (Has.s Has.z) GP.out, ?_⟩ | refine ⟨_, yLd _ _ (by rfl) _ _ (by rfl) (agOf (by rfl)) (Has.s Has.z) G1.out, ?_⟩); go_frame)
     (refine rgP 8 hS (fun _ h => h) ?_; go_frame)
     (refine rgP 9 hS (fun _ h => h) ?_; go_frame)
     (refine rgP 10 hS (fun _ h => h) ?_; go_frame)
     refine regDone (by kernel_rfl) ?_
     go_wp2
     rw [← HN.out] at hS
     exact ⟨⟨k + 1, by go_num, HLT.out, ckUp HALL.out (HPT.out.trans rfl), hS⟩, ckM_lt HLT.out⟩
   ·have HPT := Lib.hid (okPt_some hp h0)
    rw [hc] at HPT
    have e2 : (p == 0) = false := beq_eq_false_iff_ne.2 h0
    cases c with
    | true =>
     clear hp hlt hk h0
     go_wp2
     refine regStart [] hS (by kernel_rfl) rfl ?_
     intro w1 hS1
     clear hS; have hS := hS1; clear hS1
     (refine rgP 0 hS (fun _ h => h) ?_; go_frame)
     (refine rgP 1 hS (fun _ h => h) ?_; go_frame)
     (refine rgP 2 hS (fun _ h => h) ?_; go_frame)
     (refine rgR 3 hS (fun _ h => h) ?_; (first | refine ⟨_, yLd _ _ (by rfl) _ _ (by rfl) (agOf (by rfl)) (Has.s Has.z) GP.out, ?_⟩ | refine ⟨_, yLd _ _ (by rfl) _ _ (by rfl) (agOf (by rfl)) (Has.s Has.z) G1.out, ?_⟩); go_frame)
     (refine rgP 4 hS (fun _ h => h) ?_; go_frame)
     (refine rgP 5 hS (fun _ h => h) ?_; go_frame; try simp (disch := omega) only [IntWalk.i64_in])
     (refine rgP 6 hS (fun _ h => h) ?_; go_frame)
     (refine rgR 7 hS (fun _ h => h) ?_; (first | refine ⟨_, yLd _ _ (by rfl) _ _ (by rfl) (agOf (by rfl)) (Has.s Has.z) GP.out, ?_⟩ | refine ⟨_, yLd _ _ (by rfl) _ _ (by rfl) (agOf (by rfl)) (Has.s Has.z) G1.out, ?_⟩); go_frame)
     (refine rgP 8 hS (fun _ h => h) ?_; go_frame)
     (refine rgP 9 hS (fun _ h => h) ?_; go_frame)
     (refine rgP 10 hS (fun _ h => h) ?_; go_frame)
     refine regDone (by kernel_rfl) ?_
     go_wp2
     go_ret
     rw [okPs_no HLT.out (HPT.out.trans rfl)]
     exact ⟨rfl, hS.drop.drop⟩
    | false =>
     obtain ⟨r, hr⟩ : ∃ r, inB p 74 1023 = r := ⟨_, rfl⟩
     have HI := Lib.hid (fun w => iin_gen w p 74 1023 hr)
     rw [hr] at HPT
     cases r with
     | false =>
      clear hp hlt hk h0 hr
      go_wp2
      refine regStart [] hS (by kernel_rfl) rfl ?_
      intro w1 hS1
      clear hS; have hS := hS1; clear hS1
      (refine rgP 0 hS (fun _ h => h) ?_; go_frame)
      (refine rgP 1 hS (fun _ h => h) ?_; go_frame)
      (refine rgP 2 hS (fun _ h => h) ?_; go_frame)
      (refine rgR 3 hS (fun _ h => h) ?_; (first | refine ⟨_, yLd _ _ (by rfl) _ _ (by rfl) (agOf (by rfl)) (Has.s Has.z) GP.out, ?_⟩ | refine ⟨_, yLd _ _ (by rfl) _ _ (by rfl) (agOf (by rfl)) (Has.s Has.z) G1.out, ?_⟩); go_frame)
      (refine rgP 4 hS (fun _ h => h) ?_; go_frame)
      (refine rgP 5 hS (fun _ h => h) ?_; go_frame; try simp (disch := omega) only [IntWalk.i64_in])
      (refine rgP 6 hS (fun _ h => h) ?_; go_frame)
      (refine rgR 7 hS (fun _ h => h) ?_; (first | refine ⟨_, yLd _ _ (by rfl) _ _ (by rfl) (agOf (by rfl)) (Has.s Has.z) GP.out, ?_⟩ | refine ⟨_, yLd _ _ (by rfl) _ _ (by rfl) (agOf (by rfl)) (Has.s Has.z) G1.out, ?_⟩); go_frame)
      (refine rgP 8 hS (fun _ h => h) ?_; go_frame)
      (refine rgP 9 hS (fun _ h => h) ?_; go_frame)
      (refine rgP 10 hS (fun _ h => h) ?_; go_frame)
      refine regDone (by kernel_rfl) ?_
      go_wp2_with (go_at_call 121; refine (HI.out _).mono ?_; rintro e w1 ⟨rfl, rfl⟩)
      go_ret
      rw [okPs_no HLT.out (HPT.out.trans rfl)]
      exact ⟨rfl, hS.drop.drop⟩
     | true =>
      have hr2 : 74 ≤ p ∧ p ≤ 1023 := by unfold inB at hr; simpa using hr
      obtain ⟨q, rfl⟩ : ∃ q : Nat, p = (q : Int) := ⟨p.toNat, by omega⟩
      have HN := Lib.hid (seenP_set hp (by omega))
      have HQ := Lib.hid (mb_at (seenP x.ptrs k) (show q < 1024 by omega))
      have HS := Lib.hid (mb_set (seenP x.ptrs k) true (show q < 1024 by omega))
      have e3 : (q : Int) < 1024 := by omega
      have HQL := Lib.hid (show q < (mb (seenP x.ptrs k)).length by rw [mb_len]; omega)
      rw [Int.toNat_natCast] at HPT
      obtain ⟨s, hs⟩ : ∃ s, seenP x.ptrs k q = s := ⟨_, rfl⟩
      rw [hs] at HQ HPT
      clear hp hlt hk h0 hr hr2 hs
      cases s with
      | true =>
       go_wp2
       refine regStart [] hS (by kernel_rfl) rfl ?_
       intro w1 hS1
       clear hS; have hS := hS1; clear hS1
       (refine rgP 0 hS (fun _ h => h) ?_; go_frame)
       (refine rgP 1 hS (fun _ h => h) ?_; go_frame)
       (refine rgP 2 hS (fun _ h => h) ?_; go_frame)
       (refine rgR 3 hS (fun _ h => h) ?_; (first | refine ⟨_, yLd _ _ (by rfl) _ _ (by rfl) (agOf (by rfl)) (Has.s Has.z) GP.out, ?_⟩ | refine ⟨_, yLd _ _ (by rfl) _ _ (by rfl) (agOf (by rfl)) (Has.s Has.z) G1.out, ?_⟩); go_frame)
       (refine rgP 4 hS (fun _ h => h) ?_; go_frame)
       (refine rgP 5 hS (fun _ h => h) ?_; go_frame; try simp (disch := omega) only [IntWalk.i64_in])
       (refine rgP 6 hS (fun _ h => h) ?_; go_frame)
       (refine rgR 7 hS (fun _ h => h) ?_; (first | refine ⟨_, yLd _ _ (by rfl) _ _ (by rfl) (agOf (by rfl)) (Has.s Has.z) GP.out, ?_⟩ | refine ⟨_, yLd _ _ (by rfl) _ _ (by rfl) (agOf (by rfl)) (Has.s Has.z) G1.out, ?_⟩); go_frame)
       (refine rgP 8 hS (fun _ h => h) ?_; go_frame)
       (refine rgP 9 hS (fun _ h => h) ?_; go_frame)
       (refine rgP 10 hS (fun _ h => h) ?_; go_frame)
       refine regDone (by kernel_rfl) ?_
       go_wp2_with (first
        | (go_at_call 121; refine (HI.out _).mono ?_; rintro e w1 ⟨rfl, rfl⟩)
        | (refine toList (by rfl) ?_; refine ld hS _ _ (by rfl) _ _ (by rfl) (agOf (by rfl)) Has.z HQ.out ?_))
       go_ret
       rw [okPs_no HLT.out (HPT.out.trans rfl)]
       exact ⟨rfl, hS.drop.drop⟩
      | false =>
       go_wp2
       refine regStart [] hS (by kernel_rfl) rfl ?_
       intro w1 hS1
       clear hS; have hS := hS1; clear hS1
       (refine rgP 0 hS (fun _ h => h) ?_; go_frame)
       (refine rgP 1 hS (fun _ h => h) ?_; go_frame)
       (refine rgP 2 hS (fun _ h => h) ?_; go_frame)
       (refine rgR 3 hS (fun _ h => h) ?_; (first | refine ⟨_, yLd _ _ (by rfl) _ _ (by rfl) (agOf (by rfl)) (Has.s Has.z) GP.out, ?_⟩ | refine ⟨_, yLd _ _ (by rfl) _ _ (by rfl) (agOf (by rfl)) (Has.s Has.z) G1.out, ?_⟩); go_frame)
       (refine rgP 4 hS (fun _ h => h) ?_; go_frame)
       (refine rgP 5 hS (fun _ h => h) ?_; go_frame; try simp (disch := omega) only [IntWalk.i64_in])
       (refine rgP 6 hS (fun _ h => h) ?_; go_frame)
       (refine rgR 7 hS (fun _ h => h) ?_; (first | refine ⟨_, yLd _ _ (by rfl) _ _ (by rfl) (agOf (by rfl)) (Has.s Has.z) GP.out, ?_⟩ | refine ⟨_, yLd _ _ (by rfl) _ _ (by rfl) (agOf (by rfl)) (Has.s Has.z) G1.out, ?_⟩); go_frame)
       (refine rgP 8 hS (fun _ h => h) ?_; go_frame)
       (refine rgP 9 hS (fun _ h => h) ?_; go_frame)
       (refine rgP 10 hS (fun _ h => h) ?_; go_frame)
       refine regDone (by kernel_rfl) ?_
       go_wp2_with (first
        | (go_at_call 121; refine (HI.out _).mono ?_; rintro e w1 ⟨rfl, rfl⟩)
        | (refine toList (by rfl) ?_; refine ld hS _ _ (by rfl) _ _ (by rfl) (agOf (by rfl)) Has.z HQ.out ?_)
        | (refine toList (by rfl) ?_; refine st hS _ _ _ (by rfl) _ _ (by rfl) _ (by first | exact evC | exact evT (by rfl)) (by rfl) (szOf (by rfl)) Has.z HQL.out ?_; clear hS; intro w1 hS; rw [List.set_cons_zero, HS.out, HN.out] at hS))
       exact ⟨⟨k + 1, by go_num, HLT.out, ckUp HALL.out (HPT.out.trans rfl), hS⟩, ckM_lt HLT.out⟩
  ·obtain rfl : k = 32 := by omega
   clear hlt hk
   go_wp2
   go_ret
   rw [okPs_yes HALL.out]
   exact ⟨rfl, hS.drop.drop⟩
theorem icheck_gen {W w : World} {L : List Asrt} (hS : Sat W w L) (x : InoD) (hl : x.ptrs.length = 32) (hz : x.kind = 0 → x = zeroI) : Calls Tryz.prog 82 #[.agg (inv x).toArray] w fun e w' => e = .returned (.bool (okIb x)) ∧ Sat W w' L := by
 by_cases h0 : x.kind = 0
 ·rw [hz h0]; exact icheck_zero hS
 have hk0 : (x.kind == 0) = false := beq_eq_false_iff_ne.2 h0
 unfold okIb
 rw [hk0, Bool.false_or]
 cases hb : okH x with
 | false => exact icheck_bad hS x h0 hb
 | true =>
  rw [Bool.true_and]
  by_cases h1 : x.kind = 1
  ·exact icheck_file' hS x hl h1 hb
  ·refine icheck_dir' hS x hl ?_ hb
   unfold okH okH5 inB at hb
   simp only [Bool.and_eq_true, decide_eq_true_eq] at hb
   omega
end Go.Proofs.YtchohheleofncaaGreat
namespace Go.Proofs.YtchohheleofncaaGreat
open Go.RowKit Go.Sep
attribute [local irreducible] Go.Oper.wp Go.wpList Go.Calls Go.Code.wp Go.Sep.Reg
def chunkB (z : Int) : Int := if z ≤ 0 then 0 else (z - 1).tdiv 128 + 1
set_option maxRecDepth 4000 in
theorem chunk_any (w : World) (z : Int) (h1 : -9223372036854775808 ≤ z) (h2 : z ≤ 9223372036854775807) :
  Calls Tryz.prog 83 #[.int .i64 z] w fun e w' => e = .returned (.int .i64 (chunkB z)) ∧ w = w' := by
 unfold chunkB
 by_cases h : z ≤ 0
 ·rw [if_pos h]
  go_enter Tryz.func83, Tryz.ntmps83
  go_wp2
  go_ret
  exact ⟨rfl, rfl⟩
 ·rw [if_neg h]
  have h3 : 0 ≤ (z - 1).tdiv 128 := Int.tdiv_nonneg (by omega) (by decide)
  have h4 : (z - 1).tdiv 128 ≤ z - 1 := by
   rw [Int.tdiv_eq_ediv_of_nonneg (by omega)]
   omega
  go_enter Tryz.func83, Tryz.ntmps83
  go_wp2
  go_ret
  exact ⟨rfl, rfl⟩
def nxB (now : InoD) : Int := if now.kind = 0 then 0 else chunkB now.size
def nx0 (now : InoD) : InoD := if now.kind = 0 then zeroI else now
def nxKeep (old now : InoD) (k : Nat) : Bool := decide ((k : Int) < nxB now) && (old.kind != 0 && old.obj == (nx0 now).obj)
def nxK (old now : InoD) (k : Nat) : Int := if nxKeep old now k then old.ptrs[k]?.getD 0 else 0
def nxKs (old now : InoD) (n : Nat) : List Int := (List.range n).map (nxK old now) ++ List.replicate (32 - n) 0
def withP (x : InoD) (l : List Int) : InoD := { x with ptrs := l }
def pcLast (l : List Int) : Nat → Int
 | 0 => -1
 | i + 1 => l[i]?.getD 0
def pcOk (b : Int) (l : List Int) (i : Nat) : Bool := !decide (l[i]?.getD 0 ≤ pcLast l i) && (!decide (b ≤ l[i]?.getD 0) && !decide (32 ≤ l[i]?.getD 0))
def pcAll (b : Int) (l : List Int) : Bool := (List.range l.length).all (pcOk b l)
def putP (K : List Int) (l : List Int) (t : List Nat) : Nat → List Int
 | 0 => K
 | i + 1 => (putP K l t i).set (l[i]?.getD 0).toNat ((t[i]?.getD 0 : Nat) : Int)
def nxI (old now : InoD) (pieces : List Int) (taken : List Nat) : InoD := withP (nx0 now) (putP (nxKs old now 32) pieces taken pieces.length)
def goneP (old x : InoD) (n : Nat) : List Nat := ((old.ptrs.take n).filter (fun p => decide (p ≠ 0) && !x.ptrs.contains p)).map Int.toNat
def nextOk (old now : InoD) (pieces : List Int) (taken : List Nat) : Bool := decide (pieces.length = taken.length) && (pcAll (nxB now) pieces && okIb (nxI old now pieces taken))
theorem nxKs_len (old now : InoD) {n : Nat} (h : n ≤ 32) : (nxKs old now n).length = 32 := by
 unfold nxKs
 rw [List.length_append, List.length_map, List.length_range, List.length_replicate]; omega
theorem nxKs_set (old now : InoD) {k : Nat} (h : k < 32) : (nxKs old now k).set k (nxK old now k) = nxKs old now (k + 1) := by
 unfold nxKs
 rw [List.set_append_right _ _ (by simp), List.length_map, List.length_range, Nat.sub_self, show 32 - k = (32 - (k + 1)) + 1 by omega, List.replicate_succ, List.set_cons_zero, List.range_succ, List.map_append, List.append_assoc]
 rfl
theorem nxKs_skip (old now : InoD) {k : Nat} (h : k < 32) (h2 : nxK old now k = 0) : nxKs old now k = nxKs old now (k + 1) := by
 unfold nxKs
 rw [show 32 - k = (32 - (k + 1)) + 1 by omega, List.replicate_succ, List.range_succ, List.map_append, List.append_assoc, List.map_cons, List.map_nil, h2]
 rfl
theorem nxKs_zero (old now : InoD) : nxKs old now 0 = List.replicate 32 0 := rfl
theorem putP_len (K : List Int) (l : List Int) (t : List Nat) : ∀ i, (putP K l t i).length = K.length
 | 0 => rfl
 | i + 1 => by rw [putP, List.length_set, putP_len K l t i]
theorem inv_withP (x : InoD) (l : List Int) : inv (withP x l) = [.int .i64 x.kind, .int .i64 x.size, .int .i64 x.links, .int .i64 x.obj, .int .i64 x.node] ++ pv l := rfl
theorem inv_setP (x : InoD) (l : List Int) (k : Nat) (p : Int) : (inv (withP x l)).set (5 + k) (.int .i64 p) = inv (withP x (l.set k p)) := by
 rw [inv_withP, inv_withP, List.set_append_right _ _ (by simp)]
 rw [show 5 + k - [Value.int .i64 x.kind, .int .i64 x.size, .int .i64 x.links, .int .i64 x.obj, .int .i64 x.node].length = k by simp]
 unfold pv
 rw [List.map_set]
theorem inv_setPs (x : InoD) (l : List Int) (h : x.ptrs.length = 32) (hl : l.length = 32) : (inv x).take 5 ++ pv l ++ (inv x).drop (5 + (pv l).length) = inv (withP x l) := by
 rw [inv_withP, List.drop_eq_nil_of_le (by rw [inv_len, pv_len, h, hl]; exact Nat.le_refl _), List.append_nil]
 rfl
theorem pcLast_lo {b : Int} {l : List Int} : ∀ {i : Nat}, (∀ j, j < i → pcOk b l j = true) → -1 ≤ pcLast l i
 | 0, _ => Int.le_refl _
 | i + 1, h => by
  have h1 := pcLast_lo (i := i) (fun j hj => h j (by omega))
  have h2 := h i (by omega)
  unfold pcOk at h2
  simp at h2
  show -1 ≤ l[i]?.getD 0
  omega
theorem pcUp {b : Int} {l : List Int} {k : Nat} (h : ∀ j, j < k → pcOk b l j = true) (h2 : pcOk b l k = true) : ∀ j, j < k + 1 → pcOk b l j = true := fun j hj => by
 by_cases e : j = k
 ·rw [e]; exact h2
 ·exact h j (by omega)
theorem pcAll_no {b : Int} {l : List Int} {k : Nat} (hk : k < l.length) (h : pcOk b l k = false) : pcAll b l = false := by
 unfold pcAll
 rw [List.all_eq_false]
 exact ⟨k, List.mem_range.2 hk, by rw [h]; decide⟩
theorem pcAll_yes {b : Int} {l : List Int} (h : ∀ k, k < l.length → pcOk b l k = true) : pcAll b l = true := by
 unfold pcAll
 rw [List.all_eq_true]
 exact fun k hk => h k (List.mem_range.1 hk)
def seenA (l : List Int) (k : Nat) (p : Nat) : Bool := (l.take k).contains (p : Int)
theorem seenA_zero (l : List Int) : seenA l 0 = fun _ => false := by funext p; simp [seenA]
theorem seenA_set {l : List Int} {k p : Nat} (h : l[k]? = some (p : Int)) : upd (seenA l k) p true = seenA l (k + 1) := by
 funext q
 unfold upd seenA
 rw [List.take_add_one, h]
 by_cases hq : q = p
 ·subst hq; simp
 ·have : ¬ (q : Int) = (p : Int) := by omega
  simp [hq, this]
theorem seenA_all {l : List Int} {n : Nat} (h : l.length = n) (p : Nat) : seenA l n p = l.contains (p : Int) := by
 unfold seenA
 rw [List.take_of_length_le (by omega)]
theorem goneP_zero (old x : InoD) : goneP old x 0 = [] := by simp [goneP]
theorem goneP_skip0 {old x : InoD} {k : Nat} (h : old.ptrs[k]? = some 0) : goneP old x k = goneP old x (k + 1) := by
 unfold goneP
 rw [List.take_add_one, h]
 simp
theorem goneP_skip {old x : InoD} {k : Nat} {p : Int} (h : old.ptrs[k]? = some p) (h2 : x.ptrs.contains p = true) : goneP old x k = goneP old x (k + 1) := by
 unfold goneP
 rw [List.take_add_one, h]
 rw [Option.toList_some, List.filter_append, List.filter_cons, h2]
 simp
theorem goneP_snoc {old x : InoD} {k p : Nat} (h : old.ptrs[k]? = some (p : Int)) (h0 : p ≠ 0) (h2 : x.ptrs.contains (p : Int) = false) : goneP old x k ++ [p] = goneP old x (k + 1) := by
 unfold goneP
 rw [List.take_add_one, h]
 rw [Option.toList_some, List.filter_append, List.filter_cons, h2, if_pos (by simp; omega)]
 simp
theorem nxI_len {old now : InoD} {pieces : List Int} {taken : List Nat} : (nxI old now pieces taken).ptrs.length = 32 := by
 show (putP _ _ _ _).length = 32
 rw [putP_len, nxKs_len _ _ (Nat.le_refl _)]
theorem nxI_zero {old now : InoD} {pieces : List Int} {taken : List Nat} (hp : pcAll (nxB now) pieces = true) (h : (nxI old now pieces taken).kind = 0) : nxI old now pieces taken = zeroI := by
 have hk : now.kind = 0 := by
  by_cases hk : now.kind = 0
  ·exact hk
  ·unfold nxI nx0 at h
   rw [if_neg hk] at h
   exact absurd h hk
 have hb : nxB now = 0 := if_pos hk
 have hl : pieces = [] := by
  cases pieces with
  | nil => rfl
  | cons p l =>
   unfold pcAll at hp
   have := List.all_eq_true.1 hp 0 (List.mem_range.2 (by simp))
   unfold pcOk pcLast at this
   rw [hb] at this
   simp at this
   omega
 subst hl
 unfold nxI nx0
 rw [if_pos hk]
 show withP zeroI (nxKs old now 32) = zeroI
 have : nxKs old now 32 = List.replicate 32 0 := by
  have h1 : ∀ k, nxK old now k = 0 := fun k => by
   unfold nxK nxKeep
   rw [hb, decide_eq_false (by omega)]
   rfl
  apply List.ext_getElem?
  intro i
  unfold nxKs
  rw [Nat.sub_self, List.replicate_zero, List.append_nil, List.getElem?_map, List.getElem?_replicate]
  by_cases hi : i < 32
  ·rw [List.getElem?_range hi, if_pos hi, Option.map_some, h1]
  ·rw [List.getElem?_eq_none (by rw [List.length_range]; omega), if_neg hi]; rfl
 rw [this]
 rfl
end Go.Proofs.YtchohheleofncaaGreat
