/-
  Package record: Put.
-/
import Derived.Test.YtapodjhkpahdnaaRecBase
import Derived.Test.YtapodjhkpahdnaaWire
namespace Go.Proofs.Ytapodjhkpahdnaa
open Go.RowKit Go.Sep
set_option linter.unusedSimpArgs false
set_option linter.unusedVariables false
attribute [local irreducible] Go.Oper.wp Go.wpList Go.Calls Go.Code.wp Go.Sep.Reg
def recOk (x : RecD) : Bool := okRec x.k x.a x.b
def encR (x : RecD) : List UInt8 := le x.k 1 ++ le x.a 3 ++ le x.b 3
def encH (n : Nat) (next : Int) : List UInt8 := le n 1 ++ le next 2
def okNext (next : Int) : Bool := decide (next = 0) || inB next 74 1023
def okPut (l : List RecD) (next : Int) : Bool := decide (l.length ≤ 15) && okNext next && l.all recOk
def encB (l : List RecD) (next : Int) : List UInt8 := padTo (encH l.length next ++ l.flatMap encR) 128
def putB (l : List RecD) (next : Int) : List UInt8 := if okPut l next then encB l next else []
theorem encR_len (x : RecD) : (encR x).length = 7 := by simp [encR, le_length]
theorem encH_len (n : Nat) (next : Int) : (encH n next).length = 3 := by simp [encH, le_length]
theorem encRs_len (l : List RecD) : (l.flatMap encR).length = 7 * l.length := by
  induction l with
  | nil => rfl
  | cons x l ih => rw [List.flatMap_cons, List.length_append, encR_len, ih, List.length_cons]; omega
theorem encB_len {l : List RecD} (next : Int) (h : l.length ≤ 15) : (encB l next).length = 128 := padTo_length (by rw [List.length_append, encH_len, encRs_len]; omega)
theorem recOk_range {x : RecD} (h : recOk x = true) : 0 ≤ x.k ∧ x.k ≤ 5 ∧ 0 ≤ x.a ∧ x.a ≤ 16777215 ∧ 0 ≤ x.b ∧ x.b ≤ 16777215 := by
  unfold recOk okRec inB at h
  split at h
  · simp only [Bool.and_eq_true, decide_eq_true_eq] at h; omega
  split at h
  · simp only [Bool.and_eq_true, decide_eq_true_eq] at h; omega
  split at h
  · simp only [Bool.and_eq_true, decide_eq_true_eq] at h; omega
  · cases h
theorem okNext_range {n : Int} (h : okNext n = true) : 0 ≤ n ∧ n ≤ 1023 := by
  unfold okNext inB at h
  simp only [Bool.or_eq_true, Bool.and_eq_true, decide_eq_true_eq] at h; omega
theorem take_enc {l : List RecD} {k : Nat} {x : RecD} (hd : List UInt8) (h : l[k]? = some x) : ((hd ++ (l.take k).flatMap encR) ++ le x.k 1) ++ le x.a 3 ++ le x.b 3 = hd ++ (l.take (k + 1)).flatMap encR := by
  rw [List.take_add_one, h, List.flatMap_append]
  simp [encR]
theorem putB_no {l : List RecD} {next : Int} (h : okPut l next = false) : putB l next = [] := by simp [putB, h]
theorem putB_yes {l : List RecD} {next : Int} (h : okPut l next = true) : putB l next = encB l next := by simp [putB, h]
theorem okPut_len {l : List RecD} {next : Int} (h : 15 < l.length) : okPut l next = false := by
  unfold okPut; rw [show decide (l.length ≤ 15) = false by simp; omega]; rfl
theorem okPut_next {l : List RecD} {next : Int} (h : okNext next = false) : okPut l next = false := by unfold okPut; rw [h]; simp
theorem okPut_at {l : List RecD} {next : Int} {x : RecD} {k : Nat} (hx : l[k]? = some x) (h : recOk x = false) : okPut l next = false := by
  unfold okPut
  have : l.all recOk = false := List.all_eq_false.2 ⟨x, List.mem_of_getElem? hx, by simp [h]⟩
  rw [this]; simp
set_option maxRecDepth 20000 in
set_option maxHeartbeats 2000000 in
theorem rput_any {W w : World} {L : List Asrt} (hS : Sat W w L) (l : List RecD) (ao : Option Addr) (c : Nat) (hr : ∀ w, Sat W w L → Rd w (.slice ao l.length c) l.length 3 (l.flatMap rv)) (hb : l.length ≤ 1000000) (next : Int) :
    Calls Try.prog 57 #[.slice ao l.length c, .int .i64 next] w fun e w' => ∃ v', e = .returned (.tuple #[v', .bool (okPut l next)]) ∧ Sat W w' (Sl 5 1 v' (putB l next).length (bv (putB l next)) :: L) := by
  have HR : Hid (∀ w, Sat W w L → Rd w (.slice ao l.length c) l.length 3 (l.flatMap rv)) := Lib.hid hr
  obtain ⟨_, _, he, hc1, hc2, _, h5⟩ := hr w hS
  simp only [Value.slice.injEq, true_and] at he
  obtain ⟨rfl, rfl⟩ := he
  clear hr
  by_cases hlen : 15 < l.length
  · have j1 : (15 : Int) < (l.length : Int) := by omega
    rw [okPut_len hlen, putB_no (okPut_len hlen)]
    go_enter Try.func57, Try.ntmps57
    go_wp2
    go_ret2
    exact ⟨_, rfl, hS.slNil⟩
  by_cases hnx : okNext next = false
  · have hne : next ≠ 0 := fun e => by subst e; exact absurd hnx (by decide)
    have hin : inB next 74 1023 = false := by unfold okNext at hnx; simpa [hne] using hnx
    rw [okPut_next hnx, putB_no (okPut_next hnx)]
    have j1 : (l.length : Int) ≤ 15 := by omega
    have e1 : (next != 0) = true := bne_iff_ne.2 hne
    clear hlen hnx
    go_enter Try.func57, Try.ntmps57
    go_wp2_with (go_at_call 77; refine (recin_any _ next _ _ hin).mono ?_; rintro e w1 ⟨rfl, rfl⟩)
    go_ret2
    exact ⟨_, rfl, hS.slNil⟩
  have HNX := Lib.hid (show okNext next = true by simpa using hnx)
  have hrg := okNext_range HNX.out
  have hcase : (next != 0) = false ∨ ((next != 0) = true ∧ inB next 74 1023 = true) := by
    by_cases h0 : next = 0
    · exact .inl (by subst h0; rfl)
    · refine .inr ⟨bne_iff_ne.2 h0, ?_⟩
      have := HNX.out
      unfold okNext at this; simpa [h0] using this
  have i5 : (l.length : Int) ≤ 15 := by omega
  have hlt15 : l.length ≤ 15 := by omega
  have HNIL := Lib.hid (hS.slNil (E := 5) (sz := 1))
  clear hnx hlen
  rcases hcase with e1 | ⟨e1, hin⟩
  all_goals
    go_enter Try.func57, Try.ntmps57
    go_wp2_with (first
      | (go_at_call 77; refine (recin_any _ next _ _ hin).mono ?_; rintro e w1 ⟨rfl, rfl⟩)
      | (go_at_call 84; refine (put_any (l := []) HNIL.out (l.length : Nat) (by omega) (by omega) 1 (by omega) (by omega) (by simp)).mono ?_; rintro e w1 ⟨v1, rfl, hS1⟩; clear hS; have hS := hS1; clear hS1)
      | (go_at_call 84; refine (put_any hS _ (by omega) (by omega) 2 (by omega) (by omega) (by simp [le_length])).mono ?_; rintro e w1 ⟨v1, rfl, hS1⟩; clear hS; have hS := hS1; clear hS1))
    have H0 : Hid (Sat W _ (Sl 5 1 v1 (encH l.length next ++ (l.take 0).flatMap encR).length (bv (encH l.length next ++ (l.take 0).flatMap encR)) :: L)) := Lib.hid (by simpa [encH] using hS)
    go_loopw [28, 6] (fun vi vb wz => ∃ k : Nat, k ≤ l.length ∧ vi = .int .i64 k ∧ (l.take k).all recOk = true ∧ Sat W wz (Sl 5 1 vb (encH l.length next ++ (l.take k).flatMap encR).length (bv (encH l.length next ++ (l.take k).flatMap encR)) :: L)) (fun vi _ _ => l.length - (intOf vi).toNat)
    case atStart => exact ⟨0, by omega, rfl, rfl, H0.out⟩
    case round =>
      clear H0 hS
      obtain ⟨k, hk, rfl, hall, hS⟩ := hrel
      by_cases hlt : k < l.length
      · obtain ⟨b, off, rfl, _⟩ := h5 (by omega)
        obtain ⟨⟨xk, xa, xb⟩, hx⟩ : ∃ x, l[k]? = some x := ⟨_, List.getElem?_eq_getElem hlt⟩
        have j1 : (k : Int) < (l.length : Int) := by omega
        have HX := Lib.hid hx
        by_cases hok : recOk ⟨xk, xa, xb⟩ = true
        · have hrx := recOk_range hok
          obtain ⟨r1, r2, r3, r4, r5, r6⟩ := hrx
          dsimp only at r1 r2 r3 r4 r5 r6
          have HOK : Hid (okRec xk xa xb = true) := Lib.hid hok
          have HLN := Lib.hid (show (encH l.length next ++ (l.take k).flatMap encR).length ≤ 200 by rw [List.length_append, encH_len, encRs_len, List.length_take]; omega)
          have HTE := Lib.hid (take_enc (encH l.length next) hx)
          have HAL := Lib.hid (show (l.take (k + 1)).all recOk = true by rw [List.take_add_one, hx]; simp [hall, hok])
          clear hx hall hok
          go_wp2_with (first
            | (refine toList (by rfl) ?_; refine wp_of_reads (rLdRdA (HR.out _ hS.drop) (rv_len l) _ _ (by rfl) _ (by rfl) (agOf (by rfl)) (szOf (by rfl)) k (by omega) HX.out (by omega)) ?_)
            | (refine toList (by rfl) ?_; refine al hS _ (by rfl) (zrOf (by rfl)) ?_; intro px w1 hS1; clear hS; have hS := hS1; clear hS1; rw [cells_agg] at hS)
            | (refine toList (by rfl) ?_; refine stW hS _ _ _ (by rfl) (by rfl) (rv ⟨xk, xa, xb⟩) (by rfl) (rv_all _) (szOf (by rfl)) Has.z (by rfl) ?_; intro w1 hS1; clear hS; have hS := hS1; clear hS1; dsimp only [List.set_cons_zero] at hS)
            | (refine toList (by rfl) ?_; refine wp_of_reads (rLdA hS _ _ (by rfl) _ _ (by rfl) (agOf (by rfl)) (szOf (by rfl)) Has.z (vs := rv ⟨xk, xa, xb⟩) (by rfl) (by rfl)) ?_)
            | (go_at_call 45; refine (check_any _ W _ hS xk xa xb).mono ?_; rintro e w1 ⟨rfl, hS1⟩; rw [HOK.out]; clear hS; have hS := hS1; clear hS1))
          refine regStart2 [9] hS (fun _ h => h.one Has.z) (by kernel_rfl) rfl ?_
          intro w1 hS1
          clear hS; have hS := hS1; clear hS1
          (refine regP 0 hS (fun _ h => h.one Has.z) rfl (by kernel_rfl) (by kernel_rfl) (by kernel_rfl) (fun _ _ _ _ h => h) (by rfl) (by rfl) ?_; apply Exists.intro; apply And.intro; (intro w; go_simp; try with_reducible rfl); (simp only [Act.put, List.setIfInBounds_toArray, List.set_cons_zero, List.set_cons_succ]))
          (refine regP 1 hS (fun _ h => h.one Has.z) rfl (by kernel_rfl) (by kernel_rfl) (by kernel_rfl) (fun _ _ _ _ h => h) (by rfl) (by rfl) ?_; apply Exists.intro; apply And.intro; (intro w; go_simp; try with_reducible rfl); (simp only [Act.put, List.setIfInBounds_toArray, List.set_cons_zero, List.set_cons_succ]))
          (refine regR 2 hS (fun _ h => h.one Has.z) rfl (by kernel_rfl) (by kernel_rfl) (by kernel_rfl) (by kernel_rfl) (by kernel_rfl) (fun _ _ _ _ h => h) (by rfl) (by rfl) ?_; (first
                                | refine ⟨_, yLd _ _ (by rfl) _ _ (by rfl) (agOf (by rfl)) (by first | exact Has.z | exact Has.s Has.z | exact Has.s (Has.s Has.z) | exact Has.s (Has.s (Has.s Has.z)) | exact Has.s (Has.s (Has.s (Has.s Has.z))) | exact Has.s (Has.s (Has.s (Has.s (Has.s Has.z))))) (by rfl), ?_⟩); (simp only [Act.put, List.setIfInBounds_toArray, List.set_cons_zero, List.set_cons_succ]))
          (refine regP 4 hS (fun _ h => h.one Has.z) rfl (by kernel_rfl) (by kernel_rfl) (by kernel_rfl) (fun _ _ _ _ h => h) (by rfl) (by rfl) ?_; apply Exists.intro; apply And.intro; (intro w; go_simp; try with_reducible rfl); (simp only [Act.put, List.setIfInBounds_toArray, List.set_cons_zero, List.set_cons_succ]))
          (refine regR 5 hS (fun _ h => h.one Has.z) rfl (by kernel_rfl) (by kernel_rfl) (by kernel_rfl) (by kernel_rfl) (by kernel_rfl) (fun _ _ _ _ h => h) (by rfl) (by rfl) ?_; (first
                                | refine ⟨_, yLd _ _ (by rfl) _ _ (by rfl) (agOf (by rfl)) (by first | exact Has.z | exact Has.s Has.z | exact Has.s (Has.s Has.z) | exact Has.s (Has.s (Has.s Has.z)) | exact Has.s (Has.s (Has.s (Has.s Has.z))) | exact Has.s (Has.s (Has.s (Has.s (Has.s Has.z))))) (by rfl), ?_⟩); (simp only [Act.put, List.setIfInBounds_toArray, List.set_cons_zero, List.set_cons_succ]))
          (refine regP 7 hS (fun _ h => h.one Has.z) rfl (by kernel_rfl) (by kernel_rfl) (by kernel_rfl) (fun _ _ _ _ h => h) (by rfl) (by rfl) ?_; apply Exists.intro; apply And.intro; (intro w; go_simp; try with_reducible rfl); (simp only [Act.put, List.setIfInBounds_toArray, List.set_cons_zero, List.set_cons_succ]))
          (refine regR 8 hS (fun _ h => h.one Has.z) rfl (by kernel_rfl) (by kernel_rfl) (by kernel_rfl) (by kernel_rfl) (by kernel_rfl) (fun _ _ _ _ h => h) (by rfl) (by rfl) ?_; (first
                                | refine ⟨_, yLd _ _ (by rfl) _ _ (by rfl) (agOf (by rfl)) (by first | exact Has.z | exact Has.s Has.z | exact Has.s (Has.s Has.z) | exact Has.s (Has.s (Has.s Has.z)) | exact Has.s (Has.s (Has.s (Has.s Has.z))) | exact Has.s (Has.s (Has.s (Has.s (Has.s Has.z))))) (by rfl), ?_⟩); (simp only [Act.put, List.setIfInBounds_toArray, List.set_cons_zero, List.set_cons_succ]))
          (refine regA 3 rfl (by kernel_rfl) (by rfl) (by rfl) false (by kernel_rfl) (fun K hK => ?_); (first
                                | (refine Go.Sep.cl 84 _ _ (by rfl) (by rfl) (by kernel_rfl) (Calls.atX hS (by first | exact Has.z | exact Has.s Has.z | exact Has.s (Has.s Has.z) | exact Has.s (Has.s (Has.s Has.z)) | exact Has.s (Has.s (Has.s (Has.s Has.z))) | exact Has.s (Has.s (Has.s (Has.s (Has.s Has.z))))) (fun hF => put_any hF xk (by omega) (by omega) 1 (by omega) (by omega) (by have := HLN.out; omega))) ?_; rintro e w1 ⟨v2, rfl, hS1⟩; clear hS; have hS := hS1; clear hS1; dsimp only [List.set_cons_zero, List.set_cons_succ] at hS; refine ⟨_, rfl, ?_⟩)
                                | (refine Go.Sep.cl 84 _ _ (by rfl) (by rfl) (by kernel_rfl) (Calls.atX hS (by first | exact Has.z | exact Has.s Has.z | exact Has.s (Has.s Has.z) | exact Has.s (Has.s (Has.s Has.z)) | exact Has.s (Has.s (Has.s (Has.s Has.z))) | exact Has.s (Has.s (Has.s (Has.s (Has.s Has.z))))) (fun hF => put_any hF xa (by omega) (by omega) 3 (by omega) (by omega) (by have := HLN.out; simp only [List.length_append, le_length] at this ⊢; omega))) ?_; rintro e w1 ⟨v2, rfl, hS1⟩; clear hS; have hS := hS1; clear hS1; dsimp only [List.set_cons_zero, List.set_cons_succ] at hS; refine ⟨_, rfl, ?_⟩)
                                | (refine Go.Sep.cl 84 _ _ (by rfl) (by rfl) (by kernel_rfl) (Calls.atX hS (by first | exact Has.z | exact Has.s Has.z | exact Has.s (Has.s Has.z) | exact Has.s (Has.s (Has.s Has.z)) | exact Has.s (Has.s (Has.s (Has.s Has.z))) | exact Has.s (Has.s (Has.s (Has.s (Has.s Has.z))))) (fun hF => put_any hF xb (by omega) (by omega) 3 (by omega) (by omega) (by have := HLN.out; simp only [List.length_append, le_length] at this ⊢; omega))) ?_; rintro e w1 ⟨v2, rfl, hS1⟩; clear hS; have hS := hS1; clear hS1; dsimp only [List.set_cons_zero, List.set_cons_succ] at hS; refine ⟨_, rfl, ?_⟩)); refine hK _ _ _ (hS.upTo (fun _ h => by first | exact h.one Has.z | exact h.one (Has.s Has.z) | exact h.one (Has.s (Has.s Has.z)) | exact h.one (Has.s (Has.s (Has.s Has.z))) | exact h | exact h.drop | exact h.drop.drop | exact h.drop.drop.drop | exact h.drop.drop.drop.drop)) (fun _ _ h => h) ?_; clear hK K; (simp only [Act.put, List.setIfInBounds_toArray, List.set_cons_zero, List.set_cons_succ]))
          (refine regA 6 rfl (by kernel_rfl) (by rfl) (by rfl) false (by kernel_rfl) (fun K hK => ?_); (first
                                | (refine Go.Sep.cl 84 _ _ (by rfl) (by rfl) (by kernel_rfl) (Calls.atX hS (by first | exact Has.z | exact Has.s Has.z | exact Has.s (Has.s Has.z) | exact Has.s (Has.s (Has.s Has.z)) | exact Has.s (Has.s (Has.s (Has.s Has.z))) | exact Has.s (Has.s (Has.s (Has.s (Has.s Has.z))))) (fun hF => put_any hF xk (by omega) (by omega) 1 (by omega) (by omega) (by have := HLN.out; omega))) ?_; rintro e w1 ⟨v2, rfl, hS1⟩; clear hS; have hS := hS1; clear hS1; dsimp only [List.set_cons_zero, List.set_cons_succ] at hS; refine ⟨_, rfl, ?_⟩)
                                | (refine Go.Sep.cl 84 _ _ (by rfl) (by rfl) (by kernel_rfl) (Calls.atX hS (by first | exact Has.z | exact Has.s Has.z | exact Has.s (Has.s Has.z) | exact Has.s (Has.s (Has.s Has.z)) | exact Has.s (Has.s (Has.s (Has.s Has.z))) | exact Has.s (Has.s (Has.s (Has.s (Has.s Has.z))))) (fun hF => put_any hF xa (by omega) (by omega) 3 (by omega) (by omega) (by have := HLN.out; simp only [List.length_append, le_length] at this ⊢; omega))) ?_; rintro e w1 ⟨v2, rfl, hS1⟩; clear hS; have hS := hS1; clear hS1; dsimp only [List.set_cons_zero, List.set_cons_succ] at hS; refine ⟨_, rfl, ?_⟩)
                                | (refine Go.Sep.cl 84 _ _ (by rfl) (by rfl) (by kernel_rfl) (Calls.atX hS (by first | exact Has.z | exact Has.s Has.z | exact Has.s (Has.s Has.z) | exact Has.s (Has.s (Has.s Has.z)) | exact Has.s (Has.s (Has.s (Has.s Has.z))) | exact Has.s (Has.s (Has.s (Has.s (Has.s Has.z))))) (fun hF => put_any hF xb (by omega) (by omega) 3 (by omega) (by omega) (by have := HLN.out; simp only [List.length_append, le_length] at this ⊢; omega))) ?_; rintro e w1 ⟨v2, rfl, hS1⟩; clear hS; have hS := hS1; clear hS1; dsimp only [List.set_cons_zero, List.set_cons_succ] at hS; refine ⟨_, rfl, ?_⟩)); refine hK _ _ _ (hS.upTo (fun _ h => by first | exact h.one Has.z | exact h.one (Has.s Has.z) | exact h.one (Has.s (Has.s Has.z)) | exact h.one (Has.s (Has.s (Has.s Has.z))) | exact h | exact h.drop | exact h.drop.drop | exact h.drop.drop.drop | exact h.drop.drop.drop.drop)) (fun _ _ h => h) ?_; clear hK K; (simp only [Act.put, List.setIfInBounds_toArray, List.set_cons_zero, List.set_cons_succ]))
          (refine regA 9 rfl (by kernel_rfl) (by rfl) (by rfl) true (by kernel_rfl) (fun K hK => ?_); (first
                                | (refine Go.Sep.cl 84 _ _ (by rfl) (by rfl) (by kernel_rfl) (Calls.atX hS (by first | exact Has.z | exact Has.s Has.z | exact Has.s (Has.s Has.z) | exact Has.s (Has.s (Has.s Has.z)) | exact Has.s (Has.s (Has.s (Has.s Has.z))) | exact Has.s (Has.s (Has.s (Has.s (Has.s Has.z))))) (fun hF => put_any hF xk (by omega) (by omega) 1 (by omega) (by omega) (by have := HLN.out; omega))) ?_; rintro e w1 ⟨v2, rfl, hS1⟩; clear hS; have hS := hS1; clear hS1; dsimp only [List.set_cons_zero, List.set_cons_succ] at hS; refine ⟨_, rfl, ?_⟩)
                                | (refine Go.Sep.cl 84 _ _ (by rfl) (by rfl) (by kernel_rfl) (Calls.atX hS (by first | exact Has.z | exact Has.s Has.z | exact Has.s (Has.s Has.z) | exact Has.s (Has.s (Has.s Has.z)) | exact Has.s (Has.s (Has.s (Has.s Has.z))) | exact Has.s (Has.s (Has.s (Has.s (Has.s Has.z))))) (fun hF => put_any hF xa (by omega) (by omega) 3 (by omega) (by omega) (by have := HLN.out; simp only [List.length_append, le_length] at this ⊢; omega))) ?_; rintro e w1 ⟨v2, rfl, hS1⟩; clear hS; have hS := hS1; clear hS1; dsimp only [List.set_cons_zero, List.set_cons_succ] at hS; refine ⟨_, rfl, ?_⟩)
                                | (refine Go.Sep.cl 84 _ _ (by rfl) (by rfl) (by kernel_rfl) (Calls.atX hS (by first | exact Has.z | exact Has.s Has.z | exact Has.s (Has.s Has.z) | exact Has.s (Has.s (Has.s Has.z)) | exact Has.s (Has.s (Has.s (Has.s Has.z))) | exact Has.s (Has.s (Has.s (Has.s (Has.s Has.z))))) (fun hF => put_any hF xb (by omega) (by omega) 3 (by omega) (by omega) (by have := HLN.out; simp only [List.length_append, le_length] at this ⊢; omega))) ?_; rintro e w1 ⟨v2, rfl, hS1⟩; clear hS; have hS := hS1; clear hS1; dsimp only [List.set_cons_zero, List.set_cons_succ] at hS; refine ⟨_, rfl, ?_⟩)); refine hK _ _ _ hS (by first | (intro h; cases h; done) | exact fun _ _ h => h | exact fun _ _ h => h.drop | exact fun _ _ h => h.drop.drop | exact fun _ _ h => h.drop.pull1 | exact fun _ _ h => h.take2 | exact fun _ _ h => h.one Has.z | exact fun _ _ h => h.one (Has.s Has.z) | exact fun _ _ h => h.one (Has.s (Has.s Has.z))) ?_; clear hK K; (simp only [Act.put, List.setIfInBounds_toArray, List.set_cons_zero, List.set_cons_succ]))
          (refine regP 10 hS (fun _ h => h) rfl (by kernel_rfl) (by kernel_rfl) (by kernel_rfl) (fun _ _ _ _ h => h) (by rfl) (by rfl) ?_; apply Exists.intro; apply And.intro; (intro w; go_simp; try with_reducible rfl); (simp only [Act.put, List.setIfInBounds_toArray, List.set_cons_zero, List.set_cons_succ]))
          refine regDone (by kernel_rfl) ?_
          go_wp2
          have h2 := hS.drop
          rw [HTE.out] at h2
          exact ⟨⟨k + 1, by omega, by go_num, HAL.out, h2⟩, by simp [intOf]; omega⟩
        · have hok : recOk ⟨xk, xa, xb⟩ = false := by simpa using hok
          have HNO := Lib.hid (okPut_at (next := next) hx hok)
          have HOK : Hid (okRec xk xa xb = false) := Lib.hid hok
          clear hx hall hok
          go_wp2_with (first
            | (refine toList (by rfl) ?_; refine wp_of_reads (rLdRdA (HR.out _ hS.drop) (rv_len l) _ _ (by rfl) _ (by rfl) (agOf (by rfl)) (szOf (by rfl)) k (by omega) HX.out (by omega)) ?_)
            | (refine toList (by rfl) ?_; refine al hS _ (by rfl) (zrOf (by rfl)) ?_; intro px w1 hS1; clear hS; have hS := hS1; clear hS1; rw [cells_agg] at hS)
            | (refine toList (by rfl) ?_; refine stW hS _ _ _ (by rfl) (by rfl) (rv ⟨xk, xa, xb⟩) (by rfl) (rv_all _) (szOf (by rfl)) Has.z (by rfl) ?_; intro w1 hS1; clear hS; have hS := hS1; clear hS1; dsimp only [List.set_cons_zero] at hS)
            | (refine toList (by rfl) ?_; refine wp_of_reads (rLdA hS _ _ (by rfl) _ _ (by rfl) (agOf (by rfl)) (szOf (by rfl)) Has.z (vs := rv ⟨xk, xa, xb⟩) (by rfl) (by rfl)) ?_)
            | (go_at_call 45; refine (check_any _ W _ hS xk xa xb).mono ?_; rintro e w1 ⟨rfl, hS1⟩; rw [HOK.out]; clear hS; have hS := hS1; clear hS1))
          go_ret2
          rw [HNO.out, putB_no HNO.out]
          exact ⟨_, rfl, hS.drop.drop.slNil⟩
      · obtain rfl : k = l.length := by omega
        rw [List.take_length] at hall hS
        have HLN := Lib.hid (show (encH l.length next ++ l.flatMap encR).length ≤ 128 by rw [List.length_append, encH_len, encRs_len]; omega)
        have HYES := Lib.hid (show okPut l next = true by unfold okPut; rw [HNX.out, hall]; simp; omega)
        have HB := Lib.hid (encB_len next hlt15)
        clear hall
        go_wp2_with (go_at_call 85; refine (pad_any hS 128 HLN.out (by omega)).mono ?_; rintro e w1 ⟨v3, rfl, hS1⟩; clear hS; have hS := hS1; clear hS1)
        go_ret2
        rw [HYES.out, putB_yes HYES.out, HB.out]
        exact ⟨_, rfl, hS⟩
end Go.Proofs.Ytapodjhkpahdnaa
