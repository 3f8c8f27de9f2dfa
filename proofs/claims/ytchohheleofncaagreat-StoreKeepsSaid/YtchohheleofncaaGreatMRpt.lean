/-
 Package record: Put.
 Package record: Get.
-/
import Derived.Test.YtchohheleofncaaGreatMRec
import Derived.Test.YtchohheleofncaaGreatMWir
import Derived.OwnWalk
set_option linter.unusedSimpArgs false
set_option linter.unusedVariables false
namespace Go.Proofs.YtchohheleofncaaGreat
open Go.RowKit Go.Sep
attribute [local irreducible] Go.Oper.wp Go.wpList Go.Calls Go.Code.wp Go.Sep.Reg
def recOk (x : RecD) : Bool := okRec x.k x.a x.b
def encR (x : RecD) : List UInt8 := le x.k 1 ++ le x.a 3 ++ le x.b 3
def encH (n : Nat) (next : Int) : List UInt8 := le n 1 ++ le next 2
def okNext (next : Int) : Bool := decide (next = 0) || inB next 74 1023
def okPut (l : List RecD) (next : Int) : Bool := decide (l.length ≤ 15) && okNext next && l.all recOk
def encB (l : List RecD) (next : Int) : List UInt8 := padTo (encH l.length next ++ l.flatMap encR) 128
def putB (l : List RecD) (next : Int) : List UInt8 := if okPut l next then encB l next else []
theorem encR_len (x : RecD) : (encR x).length = 7 := by simp [encR, le_length]
theorem encH_len (n : Nat) (next : Int) : (encH n next).length = 3 := by simp [encH, le_length]
theorem encRs_len (l : List RecD) : (l.flatMap encR).length = 7 * l.length := by
 induction l with
 | nil => rfl
 | cons x l ih => rw [List.flatMap_cons, List.length_append, encR_len, ih, List.length_cons]; omega
theorem encB_len {l : List RecD} (next : Int) (h : l.length ≤ 15) : (encB l next).length = 128 := padTo_length (by rw [List.length_append, encH_len, encRs_len]; omega)
theorem recOk_range {x : RecD} (h : recOk x = true) : 0 ≤ x.k ∧ x.k ≤ 5 ∧ 0 ≤ x.a ∧ x.a ≤ 16777215 ∧ 0 ≤ x.b ∧ x.b ≤ 16777215 := by
 unfold recOk okRec inB at h
 split at h
 ·simp only [Bool.and_eq_true, decide_eq_true_eq] at h; omega
 split at h
 ·simp only [Bool.and_eq_true, decide_eq_true_eq] at h; omega
 split at h
 ·simp only [Bool.and_eq_true, decide_eq_true_eq] at h; omega
 ·cases h
theorem okNext_range {n : Int} (h : okNext n = true) : 0 ≤ n ∧ n ≤ 1023 := by
 unfold okNext inB at h
 simp only [Bool.or_eq_true, Bool.and_eq_true, decide_eq_true_eq] at h; omega
theorem take_enc {l : List RecD} {k : Nat} {x : RecD} (hd : List UInt8) (h : l[k]? = some x) : ((hd ++ (l.take k).flatMap encR) ++ le x.k 1) ++ le x.a 3 ++ le x.b 3 = hd ++ (l.take (k + 1)).flatMap encR := by
 rw [List.take_add_one, h, List.flatMap_append]
 simp [encR]
theorem putB_no {l : List RecD} {next : Int} (h : okPut l next = false) : putB l next = [] := by simp [putB, h]
theorem putB_yes {l : List RecD} {next : Int} (h : okPut l next = true) : putB l next = encB l next := by simp [putB, h]
theorem okPut_len {l : List RecD} {next : Int} (h : 15 < l.length) : okPut l next = false := by
 unfold okPut; rw [show decide (l.length ≤ 15) = false by simp; omega]; rfl
theorem okPut_next {l : List RecD} {next : Int} (h : okNext next = false) : okPut l next = false := by unfold okPut; rw [h]; simp
theorem okPut_at {l : List RecD} {next : Int} {x : RecD} {k : Nat} (hx : l[k]? = some x) (h : recOk x = false) : okPut l next = false := by
 unfold okPut
 have : l.all recOk = false := List.all_eq_false.2 ⟨x, List.mem_of_getElem? hx, by simp [h]⟩
 rw [this]; simp
set_option maxRecDepth 20000 in
set_option maxHeartbeats 2000000 in
theorem rput_any {W w : World} {L : List Asrt} (hS : Sat W w L) (l : List RecD) (ao : Option Addr) (c : Nat) (hr : ∀ w, Sat W w L → Rd w (.slice ao l.length c) l.length 3 (l.flatMap rv)) (hb : l.length ≤ 1000000) (next : Int) :
  Calls Tryz.prog 55 #[.slice ao l.length c, .int .i64 next] w fun e w' => ∃ v', e = .returned (.tuple #[v', .bool (okPut l next)]) ∧ Sat W w' (Sl 5 1 v' (putB l next).length (bv (putB l next)) :: L) := by
 have HR : Hid (∀ w, Sat W w L → Rd w (.slice ao l.length c) l.length 3 (l.flatMap rv)) := Lib.hid hr
 obtain ⟨_, _, he, hc1, hc2, _, h5⟩ := hr w hS
 simp only [Value.slice.injEq, true_and] at he
 obtain ⟨rfl, rfl⟩ := he
 clear hr
 by_cases hlen : 15 < l.length
 ·have j1 : (15 : Int) < (l.length : Int) := by omega
  rw [okPut_len hlen, putB_no (okPut_len hlen)]
  go_enter Tryz.func55, Tryz.ntmps55
  go_wp2
  go_ret2
  exact ⟨_, rfl, hS.slNil⟩
 by_cases hnx : okNext next = false
 ·have hne : next ≠ 0 := fun e => by subst e; exact absurd hnx (by decide)
  have hin : inB next 74 1023 = false := by unfold okNext at hnx; simpa [hne] using hnx
  rw [okPut_next hnx, putB_no (okPut_next hnx)]
  have j1 : (l.length : Int) ≤ 15 := by omega
  have e1 : (next != 0) = true := bne_iff_ne.2 hne
  clear hlen hnx
  go_enter Tryz.func55, Tryz.ntmps55
  go_wp2_with (go_at_call 95; refine (recin_any _ next _ _ hin).mono ?_; rintro e w1 ⟨rfl, rfl⟩)
  go_ret2
  exact ⟨_, rfl, hS.slNil⟩
 have HNX := Lib.hid (show okNext next = true by simpa using hnx)
 have hrg := okNext_range HNX.out
 have hcase : (next != 0) = false ∨ ((next != 0) = true ∧ inB next 74 1023 = true) := by
  by_cases h0 : next = 0
  ·exact .inl (by subst h0; rfl)
  ·refine .inr ⟨bne_iff_ne.2 h0, ?_⟩
   have := HNX.out
   unfold okNext at this; simpa [h0] using this
 have i5 : (l.length : Int) ≤ 15 := by omega
 have hlt15 : l.length ≤ 15 := by omega
 have HNIL := Lib.hid (hS.slNil (E := 5) (sz := 1))
 clear hnx hlen
 rcases hcase with e1 | ⟨e1, hin⟩
 all_goals
  go_enter Tryz.func55, Tryz.ntmps55
  go_wp2_with (first
   | (go_at_call 95; refine (recin_any _ next _ _ hin).mono ?_; rintro e w1 ⟨rfl, rfl⟩)
   | (go_at_call 84; refine (put_any (l := []) HNIL.out (l.length : Nat) (by omega) (by omega) 1 (by omega) (by omega) (by simp)).mono ?_; clear hS; rintro e w1 ⟨v1, rfl, hS⟩)
   | (go_at_call 84; refine (put_any hS _ (by omega) (by omega) 2 (by omega) (by omega) (by simp [le_length])).mono ?_; clear hS; rintro e w1 ⟨v1, rfl, hS⟩))
  have H0 : Hid (Sat W _ (Sl 5 1 v1 (encH l.length next ++ (l.take 0).flatMap encR).length (bv (encH l.length next ++ (l.take 0).flatMap encR)) :: L)) := Lib.hid (by simpa [encH] using hS)
  go_loopw [28, 6] (fun vi vb wz => ∃ k : Nat, k ≤ l.length ∧ vi = .int .i64 k ∧ (l.take k).all recOk = true ∧ Sat W wz (Sl 5 1 vb (encH l.length next ++ (l.take k).flatMap encR).length (bv (encH l.length next ++ (l.take k).flatMap encR)) :: L)) (fun vi _ _ => l.length - (intOf vi).toNat)
  case atStart => exact ⟨0, by omega, rfl, rfl, H0.out⟩
  case round =>
   clear H0 hS
   obtain ⟨k, hk, rfl, hall, hS⟩ := hrel
   by_cases hlt : k < l.length
   ·obtain ⟨b, off, rfl, _⟩ := h5 (by omega)
    obtain ⟨⟨xk, xa, xb⟩, hx⟩ : ∃ x, l[k]? = some x := ⟨_, List.getElem?_eq_getElem hlt⟩
    have j1 : (k : Int) < (l.length : Int) := by omega
    have HX := Lib.hid hx
    by_cases hok : recOk ⟨xk, xa, xb⟩ = true
    ·have hrx := recOk_range hok
     obtain ⟨r1, r2, r3, r4, r5, r6⟩ := hrx
     dsimp only at r1 r2 r3 r4 r5 r6
     have HOK : Hid (okRec xk xa xb = true) := Lib.hid hok
     have HLN := Lib.hid (show (encH l.length next ++ (l.take k).flatMap encR).length ≤ 200 by rw [List.length_append, encH_len, encRs_len, List.length_take]; omega)
     have HTE := Lib.hid (take_enc (encH l.length next) hx)
     have HAL := Lib.hid (show (l.take (k + 1)).all recOk = true by rw [List.take_add_one, hx]; simp [hall, hok])
     clear hx hall hok
     go_wp2_with (first
      | (refine toList (by rfl) ?_; refine wp_of_reads (rLdRdA (HR.out _ hS.drop) (rv_len l) _ _ (by rfl) _ (by rfl) (agOf (by rfl)) (szOf (by rfl)) k (by omega) HX.out (by omega)) ?_)
      | (refine toList (by rfl) ?_; refine al hS _ (by rfl) (zrOf (by rfl)) ?_; clear hS; intro px w1 hS; rw [cells_agg] at hS)
      | (refine toList (by rfl) ?_; refine stW hS _ _ _ (by rfl) (by rfl) (rv ⟨xk, xa, xb⟩) (by rfl) (rv_all _) (szOf (by rfl)) Has.z (by rfl) ?_; clear hS; intro w1 hS; dsimp only [List.set_cons_zero] at hS)
      | (refine toList (by rfl) ?_; refine wp_of_reads (rLdA hS _ _ (by rfl) _ _ (by rfl) (agOf (by rfl)) (szOf (by rfl)) Has.z (vs := rv ⟨xk, xa, xb⟩) (by rfl) (by rfl)) ?_)
      | (go_at_call 53; refine (check_any _ W _ hS xk xa xb).mono ?_; rintro e w1 ⟨rfl, hS1⟩; rw [HOK.out]; clear hS; have hS := hS1; clear hS1))
     refine regStart2 [9] hS (fun _ h => h.one Has.z) (by kernel_rfl) rfl ?_
     intro w1 hS1
     clear hS; have hS := hS1; clear hS1
     (refine rgP 0 hS (fun _ h => h.one Has.z) ?_; go_frame)
     (refine rgP 1 hS (fun _ h => h.one Has.z) ?_; go_frame)
     (refine rgR 2 hS (fun _ h => h.one Has.z) ?_; (first
                | refine ⟨_, yLd _ _ (by rfl) _ _ (by rfl) (agOf (by rfl)) (by repeat first | exact Has.z | apply Has.s) (by rfl), ?_⟩); go_frame)
     (refine rgP 4 hS (fun _ h => h.one Has.z) ?_; go_frame)
     (refine rgR 5 hS (fun _ h => h.one Has.z) ?_; (first
                | refine ⟨_, yLd _ _ (by rfl) _ _ (by rfl) (agOf (by rfl)) (by repeat first | exact Has.z | apply Has.s) (by rfl), ?_⟩); go_frame)
     (refine rgP 7 hS (fun _ h => h.one Has.z) ?_; go_frame)
     (refine rgR 8 hS (fun _ h => h.one Has.z) ?_; (first
                | refine ⟨_, yLd _ _ (by rfl) _ _ (by rfl) (agOf (by rfl)) (by repeat first | exact Has.z | apply Has.s) (by rfl), ?_⟩); go_frame)
     (refine rgA 3 false fun K hK => ?_; (first
                | (refine Go.Sep.cl 84 _ _ (by rfl) (by rfl) (by kernel_rfl) (Calls.atX hS (by repeat first | exact Has.z | apply Has.s) (fun hF => put_any hF xk (by omega) (by omega) 1 (by omega) (by omega) (by have := HLN.out; omega))) ?_; clear hS; rintro e w1 ⟨v2, rfl, hS⟩; dsimp only [List.set_cons_zero, List.set_cons_succ] at hS; refine ⟨_, rfl, ?_⟩)
                | (refine Go.Sep.cl 84 _ _ (by rfl) (by rfl) (by kernel_rfl) (Calls.atX hS (by repeat first | exact Has.z | apply Has.s) (fun hF => put_any hF xa (by omega) (by omega) 3 (by omega) (by omega) (by have := HLN.out; simp only [List.length_append, le_length] at this ⊢; omega))) ?_; clear hS; rintro e w1 ⟨v2, rfl, hS⟩; dsimp only [List.set_cons_zero, List.set_cons_succ] at hS; refine ⟨_, rfl, ?_⟩)
                | (refine Go.Sep.cl 84 _ _ (by rfl) (by rfl) (by kernel_rfl) (Calls.atX hS (by repeat first | exact Has.z | apply Has.s) (fun hF => put_any hF xb (by omega) (by omega) 3 (by omega) (by omega) (by have := HLN.out; simp only [List.length_append, le_length] at this ⊢; omega))) ?_; clear hS; rintro e w1 ⟨v2, rfl, hS⟩; dsimp only [List.set_cons_zero, List.set_cons_succ] at hS; refine ⟨_, rfl, ?_⟩)); refine hK _ _ _ (hS.upTo (fun _ h => by first | exact h.one Has.z | exact h.one (Has.s Has.z) | exact h.one (Has.s (Has.s Has.z)) | exact h.one (Has.s (Has.s (Has.s Has.z))) | exact h | exact h.drop | exact h.drop.drop | exact h.drop.drop.drop | exact h.drop.drop.drop.drop)) (fun _ _ h => h) ?_; clear hK K; go_frame)
     (refine rgA 6 false fun K hK => ?_; (first
                | (refine Go.Sep.cl 84 _ _ (by rfl) (by rfl) (by kernel_rfl) (Calls.atX hS (by repeat first | exact Has.z | apply Has.s) (fun hF => put_any hF xk (by omega) (by omega) 1 (by omega) (by omega) (by have := HLN.out; omega))) ?_; clear hS; rintro e w1 ⟨v2, rfl, hS⟩; dsimp only [List.set_cons_zero, List.set_cons_succ] at hS; refine ⟨_, rfl, ?_⟩)
                | (refine Go.Sep.cl 84 _ _ (by rfl) (by rfl) (by kernel_rfl) (Calls.atX hS (by repeat first | exact Has.z | apply Has.s) (fun hF => put_any hF xa (by omega) (by omega) 3 (by omega) (by omega) (by have := HLN.out; simp only [List.length_append, le_length] at this ⊢; omega))) ?_; clear hS; rintro e w1 ⟨v2, rfl, hS⟩; dsimp only [List.set_cons_zero, List.set_cons_succ] at hS; refine ⟨_, rfl, ?_⟩)
                | (refine Go.Sep.cl 84 _ _ (by rfl) (by rfl) (by kernel_rfl) (Calls.atX hS (by repeat first | exact Has.z | apply Has.s) (fun hF => put_any hF xb (by omega) (by omega) 3 (by omega) (by omega) (by have := HLN.out; simp only [List.length_append, le_length] at this ⊢; omega))) ?_; clear hS; rintro e w1 ⟨v2, rfl, hS⟩; dsimp only [List.set_cons_zero, List.set_cons_succ] at hS; refine ⟨_, rfl, ?_⟩)); refine hK _ _ _ (hS.upTo (fun _ h => by first | exact h.one Has.z | exact h.one (Has.s Has.z) | exact h.one (Has.s (Has.s Has.z)) | exact h.one (Has.s (Has.s (Has.s Has.z))) | exact h | exact h.drop | exact h.drop.drop | exact h.drop.drop.drop | exact h.drop.drop.drop.drop)) (fun _ _ h => h) ?_; clear hK K; go_frame)
     (refine rgA 9 true fun K hK => ?_; (first
                | (refine Go.Sep.cl 84 _ _ (by rfl) (by rfl) (by kernel_rfl) (Calls.atX hS (by repeat first | exact Has.z | apply Has.s) (fun hF => put_any hF xk (by omega) (by omega) 1 (by omega) (by omega) (by have := HLN.out; omega))) ?_; clear hS; rintro e w1 ⟨v2, rfl, hS⟩; dsimp only [List.set_cons_zero, List.set_cons_succ] at hS; refine ⟨_, rfl, ?_⟩)
                | (refine Go.Sep.cl 84 _ _ (by rfl) (by rfl) (by kernel_rfl) (Calls.atX hS (by repeat first | exact Has.z | apply Has.s) (fun hF => put_any hF xa (by omega) (by omega) 3 (by omega) (by omega) (by have := HLN.out; simp only [List.length_append, le_length] at this ⊢; omega))) ?_; clear hS; rintro e w1 ⟨v2, rfl, hS⟩; dsimp only [List.set_cons_zero, List.set_cons_succ] at hS; refine ⟨_, rfl, ?_⟩)
                | (refine Go.Sep.cl 84 _ _ (by rfl) (by rfl) (by kernel_rfl) (Calls.atX hS (by repeat first | exact Has.z | apply Has.s) (fun hF => put_any hF xb (by omega) (by omega) 3 (by omega) (by omega) (by have := HLN.out; simp only [List.length_append, le_length] at this ⊢; omega))) ?_; clear hS; rintro e w1 ⟨v2, rfl, hS⟩; dsimp only [List.set_cons_zero, List.set_cons_succ] at hS; refine ⟨_, rfl, ?_⟩)); refine hK _ _ _ hS (by first | (intro h; cases h; done) | exact fun _ _ h => h | exact fun _ _ h => h.drop | exact fun _ _ h => h.drop.drop | exact fun _ _ h => h.drop.pull1 | exact fun _ _ h => h.take2 | exact fun _ _ h => h.one Has.z | exact fun _ _ h => h.one (Has.s Has.z) | exact fun _ _ h => h.one (Has.s (Has.s Has.z))) ?_; clear hK K; go_frame)
     (refine rgP 10 hS (fun _ h => h) ?_; go_frame)
     refine regDone (by kernel_rfl) ?_
     go_wp2
     have h2 := hS.drop
     rw [HTE.out] at h2
     exact ⟨⟨k + 1, by omega, by go_num, HAL.out, h2⟩, by simp [intOf]; omega⟩
    ·have hok : recOk ⟨xk, xa, xb⟩ = false := by simpa using hok
     have HNO := Lib.hid (okPut_at (next := next) hx hok)
     have HOK : Hid (okRec xk xa xb = false) := Lib.hid hok
     clear hx hall hok
     go_wp2_with (first
      | (refine toList (by rfl) ?_; refine wp_of_reads (rLdRdA (HR.out _ hS.drop) (rv_len l) _ _ (by rfl) _ (by rfl) (agOf (by rfl)) (szOf (by rfl)) k (by omega) HX.out (by omega)) ?_)
      | (refine toList (by rfl) ?_; refine al hS _ (by rfl) (zrOf (by rfl)) ?_; clear hS; intro px w1 hS; rw [cells_agg] at hS)
      | (refine toList (by rfl) ?_; refine stW hS _ _ _ (by rfl) (by rfl) (rv ⟨xk, xa, xb⟩) (by rfl) (rv_all _) (szOf (by rfl)) Has.z (by rfl) ?_; clear hS; intro w1 hS; dsimp only [List.set_cons_zero] at hS)
      | (refine toList (by rfl) ?_; refine wp_of_reads (rLdA hS _ _ (by rfl) _ _ (by rfl) (agOf (by rfl)) (szOf (by rfl)) Has.z (vs := rv ⟨xk, xa, xb⟩) (by rfl) (by rfl)) ?_)
      | (go_at_call 53; refine (check_any _ W _ hS xk xa xb).mono ?_; rintro e w1 ⟨rfl, hS1⟩; rw [HOK.out]; clear hS; have hS := hS1; clear hS1))
     go_ret2
     rw [HNO.out, putB_no HNO.out]
     exact ⟨_, rfl, hS.drop.drop.slNil⟩
   ·obtain rfl : k = l.length := by omega
    rw [List.take_length] at hall hS
    have HLN := Lib.hid (show (encH l.length next ++ l.flatMap encR).length ≤ 128 by rw [List.length_append, encH_len, encRs_len]; omega)
    have HYES := Lib.hid (show okPut l next = true by unfold okPut; rw [HNX.out, hall]; simp; omega)
    have HB := Lib.hid (encB_len next hlt15)
    clear hall
    go_wp2_with (go_at_call 85; refine (pad_any hS 128 HLN.out (by omega)).mono ?_; clear hS; rintro e w1 ⟨v3, rfl, hS⟩)
    go_ret2
    rw [HYES.out, putB_yes HYES.out, HB.out]
    exact ⟨_, rfl, hS⟩

end Go.Proofs.YtchohheleofncaaGreat
namespace Go.Proofs.YtchohheleofncaaGreat
open Go.RowKit Go.Sep
attribute [local irreducible] Go.Oper.wp Go.wpList Go.Calls Go.Code.wp Go.Sep.Reg
def getN (b : List UInt8) (t n : Nat) : Nat := if t + n ≤ b.length then un ((b.drop t).take n) else 0
theorem getN_any {W w : World} {L : List Asrt} (hS : Sat W w L) (ao : Option Addr) (c : Nat) (l : List UInt8) (hr : ∀ w, Sat W w L → Rd w (.slice ao l.length c) l.length 1 (bv l)) (a : Int) (t n : Nat) (ha : a = (t : Nat)) (hn : 1 ≤ n) (hn2 : n ≤ 7) (hl : l.length ≤ 140737488355328) :
  Calls Tryz.prog 89 #[.slice ao l.length c, .int .i64 a, .int .i64 n] w fun e w' => ∃ ok, e = .returned (.tuple #[.int .i64 (getN l t n : Nat), .bool ok]) ∧ w = w' := by
 subst ha
 unfold getN
 by_cases h : t + n ≤ l.length
 ·rw [if_pos h]
  exact (get_ok hS ao c l hr t n hn hn2 h hl).mono fun e w' ⟨h1, h2⟩ => ⟨_, h1, h2⟩
 ·rw [if_neg h]
  exact (get_no w ao l.length c t n (by omega) (by omega)).mono fun e w' ⟨h1, h2⟩ => ⟨_, h1, h2⟩
def recAt (b : List UInt8) (i : Nat) : RecD := ⟨getN b (3 + 7 * i) 1, getN b (4 + 7 * i) 3, getN b (7 + 7 * i) 3⟩
def recsAt (b : List UInt8) (n : Nat) : List RecD := (List.range n).map (recAt b)
def cntOf (b : List UInt8) : Nat := min (getN b 0 1) 16
def parse (b : List UInt8) : List RecD := recsAt b (cntOf b)
def nextOf (b : List UInt8) : Int := (getN b 1 2 : Nat)
def getOk (b : List UInt8) : Bool := okPut (parse b) (nextOf b) && decide (encB (parse b) (nextOf b) = b)
def getL (b : List UInt8) : List RecD := if getOk b then parse b else []
def getX (b : List UInt8) : Int := if getOk b then nextOf b else 0
theorem getL_no {b : List UInt8} (h : getOk b = false) : getL b = [] := by simp [getL, h]
theorem getX_no {b : List UInt8} (h : getOk b = false) : getX b = 0 := by simp [getX, h]
theorem getL_yes {b : List UInt8} (h : getOk b = true) : getL b = parse b := by simp [getL, h]
theorem getX_yes {b : List UInt8} (h : getOk b = true) : getX b = nextOf b := by simp [getX, h]
theorem recsAt_succ (b : List UInt8) (n : Nat) : recsAt b (n + 1) = recsAt b n ++ [recAt b n] := by simp [recsAt, List.range_succ]
theorem recsAt_len (b : List UInt8) (n : Nat) : (recsAt b n).length = n := by simp [recsAt]
theorem parse_len (b : List UInt8) : (parse b).length ≤ 16 := by rw [parse, recsAt_len]; exact Nat.min_le_right _ _
theorem un_lt_pow (l : List UInt8) {n : Nat} (h : l.length ≤ n) : un l < 256 ^ n := Nat.lt_of_lt_of_le (un_lt l) (Nat.pow_le_pow_right (by decide) h)
theorem getN_lt (b : List UInt8) (t n : Nat) : getN b t n < 256 ^ n := by
 unfold getN
 split
 ·exact un_lt_pow _ (List.length_take_le _ _)
 ·exact Nat.pow_pos (by decide)
set_option maxRecDepth 20000 in
set_option maxHeartbeats 2000000 in
theorem rget_any {W w : World} {L : List Asrt} (hS : Sat W w L) (b : List UInt8) (ao : Option Addr) (c : Nat) (hr : ∀ w, Sat W w L → Rd w (.slice ao b.length c) b.length 1 (bv b)) (hb : b.length ≤ 140737488355328) :
  Calls Tryz.prog 94 #[.slice ao b.length c] w fun e w' => ∃ v', e = .returned (.tuple #[v', .int .i64 (getX b), .bool (getOk b)]) ∧ Sat W w' (Tb 53 3 rv v' (getL b) :: L) := by
 have HR : Hid (∀ w, Sat W w L → Rd w (.slice ao b.length c) b.length 1 (bv b)) := Lib.hid hr
 have hg0 := getN_lt b 0 1
 have hcd : cntOf b = min (getN b 0 1) 16 := rfl
 obtain ⟨m, hm⟩ : ∃ m, cntOf b = m := ⟨_, rfl⟩
 obtain ⟨g, hg⟩ : ∃ g, getN b 0 1 = g := ⟨_, rfl⟩
 have HPM := Lib.hid (show parse b = recsAt b m by rw [parse, hm])
 have hcase : ((g : Int) ≤ 16 ∧ (m : Int) = g) ∨ ((16 : Int) < g ∧ (m : Int) = 16) := by rw [hm, hg] at hcd; omega
 have hm16 : m ≤ 16 := by rw [hm, hg] at hcd; omega
 have HG := Lib.hid hg
 have HNIL := Lib.hid (hS.tbNil (α := RecD) (f := rv) (E := 53) (sz := 3))
 clear hg0 hcd hm hg hr
 rcases hcase with ⟨c1, c2⟩ | ⟨c1, c2⟩
 all_goals
  go_enter Tryz.func94, Tryz.ntmps94
  go_wp2_with (first
   | (go_at_call 89; refine (getN_any hS _ _ b HR.out _ 0 1 (by rfl) (by omega) (by omega) hb).mono ?_; rintro e w1 ⟨ok1, rfl, rfl⟩; rw [HG.out])
   | (go_at_call 89; refine (getN_any hS _ _ b HR.out _ 1 2 (by rfl) (by omega) (by omega) hb).mono ?_; rintro e w1 ⟨ok2, rfl, rfl⟩))
  have H0 : Hid (Sat W _ (Tb 53 3 rv (.slice none 0 0) (recsAt b 0) :: L)) := Lib.hid HNIL.out
  go_loopw [32, 9] (fun vi vl wz => ∃ k : Nat, k ≤ m ∧ vi = .int .i64 k ∧ Sat W wz (Tb 53 3 rv vl (recsAt b k) :: L)) (fun vi _ _ => m - (intOf vi).toNat)
  case atStart => exact ⟨0, by omega, rfl, H0.out⟩
  case round =>
   clear H0 hS
   obtain ⟨k, hk, rfl, hS⟩ := hrel
   by_cases hlt : k < m
   ·have j1 : (k : Int) < (m : Int) := by omega
    have j2 : (k : Int) < 16 := by omega
    have HSU := Lib.hid (recsAt_succ b k)
    have HLN := Lib.hid (recsAt_len b k)
    have HRW : Hid (∀ w (A : Asrt), Sat W w (A :: L) → Rd w (.slice ao b.length c) b.length 1 (bv b)) := Lib.hid (fun w A h => HR.out w h.drop)
    go_wp2_with (first
     | (go_at_call 89; refine (getN_any hS _ _ b (HRW.out · _) _ (3 + 7 * k) 1 (by omega) (by omega) (by omega) hb).mono ?_; rintro e w1 ⟨ok1, rfl, rfl⟩)
     | (go_at_call 89; refine (getN_any hS _ _ b (HRW.out · _) _ (4 + 7 * k) 3 (by omega) (by omega) (by omega) hb).mono ?_; rintro e w1 ⟨ok1, rfl, rfl⟩)
     | (go_at_call 89; refine (getN_any hS _ _ b (HRW.out · _) _ (7 + 7 * k) 3 (by omega) (by omega) (by omega) hb).mono ?_; rintro e w1 ⟨ok1, rfl, rfl⟩)
     | (refine toList (by rfl) ?_; refine bsF hS _ _ _ (by rfl) (elOf (by rfl)) [.agg (rv (recAt b k)).toArray] (by rfl) (by rfl) (by decide) (by decide) (by intro v hv; rw [List.mem_singleton.1 hv]; rfl) ?_; clear hS; intro b1 w1 hS; rw [agg1] at hS)
     | (refine toList (by rfl) ?_; refine apTbS (f := rv) hS _ _ _ _ (by rfl) _ _ (by rfl) (by rfl) (elOf (by rfl)) (by rfl) (by decide) (inOf (by rfl)) (by repeat first | exact Has.z | apply Has.s) [(recAt b k)] (by exact rv_len _) (by exact hS.src1 (f := rv) Has.z rfl) (by exact rv_one _) (by rw [HLN.out]; simp; omega) (by rw [HLN.out]; simp; omega) ?_; clear hS; intro ao5 c5 w1 hcap5 hS; dsimp only [List.set_cons_zero, List.set_cons_succ] at hS))
    exact ⟨⟨k + 1, by omega, by go_num, by rw [HSU.out]; simpa only [List.length_append, List.length_cons, List.length_nil] using hS.drop⟩, by simp [intOf]; omega⟩
   ·obtain rfl : k = m := by omega
    clear hlt
    obtain ⟨ao9, c9, rfl, _⟩ := hS.tbShape (k := 0) rfl
    rw [← HPM.out] at hS ⊢
    have HPL := Lib.hid (parse_len b)
    have HRW : Hid (∀ w (A : Asrt), Sat W w (A :: L) → Rd w (.slice ao b.length c) b.length 1 (bv b)) := Lib.hid (fun w A h => HR.out w h.drop)
    cases hok : okPut (parse b) (nextOf b)
    ·have HOK := Lib.hid hok
     have HGO := Lib.hid (show getOk b = false by unfold getOk; rw [hok]; rfl)
     clear hok
     go_wp2_with (first
      | (go_at_call 55; refine (rput_any hS (parse b) _ _ (fun w h => h.tbRd Has.z) (by have := HPL.out; omega) (nextOf b)).mono ?_; rintro e w1 ⟨v2, rfl, hS1⟩; rw [HOK.out]; clear hS; have hS := hS1; clear hS1))
     go_ret3
     rw [getL_no HGO.out, getX_no HGO.out, HGO.out]
     exact ⟨_, rfl, hS.drop.drop.tbNil⟩
    ·have HOK := Lib.hid hok
     by_cases he : encB (parse b) (nextOf b) = b
     ·have HE := Lib.hid he
      have HGO := Lib.hid (show getOk b = true by unfold getOk; rw [hok, he]; simp)
      clear hok he
      go_wp2_with (first
       | (go_at_call 55; refine (rput_any hS (parse b) _ _ (fun w h => h.tbRd Has.z) (by have := HPL.out; omega) (nextOf b)).mono ?_; rintro e w1 ⟨v2, rfl, hS1⟩; rw [HOK.out]; rw [putB_yes HOK.out, HE.out] at hS1; clear hS; have hS := hS1; clear hS1)
       | (refine toList (by rfl) ?_; refine cvS _ _ _ (by rfl) _ (by rfl) strBytes (l := b) (by first | exact HR.out _ hS.drop.drop | exact hS.slRd Has.z) ?_))
      go_ret3
      rw [getL_yes HGO.out, getX_yes HGO.out, HGO.out]
      exact ⟨_, rfl, hS.drop⟩
     ·have HGO := Lib.hid (show getOk b = false by unfold getOk; simp [he])
      have HPB := Lib.hid (show putB (parse b) (nextOf b) = encB (parse b) (nextOf b) from putB_yes hok)
      obtain ⟨d, hd⟩ : ∃ d, encB (parse b) (nextOf b) = d := ⟨_, rfl⟩
      rw [hd] at he HPB
      have e9 : (!d == b) = true := by simp [he]
      clear hok hd he
      go_wp2_with (first
       | (go_at_call 55; refine (rput_any hS (parse b) _ _ (fun w h => h.tbRd Has.z) (by have := HPL.out; omega) (nextOf b)).mono ?_; rintro e w1 ⟨v2, rfl, hS1⟩; rw [HOK.out]; rw [HPB.out] at hS1; clear hS; have hS := hS1; clear hS1)
       | (refine toList (by rfl) ?_; refine cvS _ _ _ (by rfl) _ (by rfl) strBytes (l := b) (by exact HR.out _ hS.drop.drop) ?_)
       | (refine toList (by rfl) ?_; refine cvS _ _ _ (by rfl) _ (by rfl) strBytes (l := d) (by exact hS.slRd Has.z) ?_))
      go_ret3
      rw [getL_no HGO.out, getX_no HGO.out, HGO.out]
      exact ⟨_, rfl, hS.drop.drop.tbNil⟩

end Go.Proofs.YtchohheleofncaaGreat
