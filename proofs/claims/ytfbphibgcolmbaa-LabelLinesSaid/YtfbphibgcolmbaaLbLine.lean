/-
  LabelLines: a line of versions (plain).
-/
import Derived.Test.YtfbphibgcolmbaaLbLaw
namespace Go.Proofs.Ytfbphibgcolmbaa
open Go.RowKit Go.Sep
set_option linter.unusedSimpArgs false
set_option linter.unusedVariables false
attribute [local irreducible] Go.Oper.wp Go.wpList Go.Calls Go.Code.wp Go.Sep.Reg
def lnN (M C : Nat → Nat) (j : Nat) : NodeD := ⟨2, 1, j + 1, M j, C j, false⟩
def lnE (e : Nat) : List (Nat × Nat) := (List.range e).map fun j => (j + 1, j)
/-- So many versions, one behind the other; so many edges. -/
def LN (i e : Nat) (M C : Nat → Nat) : Gr := ⟨(List.range i).map (lnN M C), lnE e⟩
theorem LN_len (i e : Nat) (M C : Nat → Nat) : (LN i e M C).N.length = i := by simp [LN]
theorem LN_at {i e j : Nat} {M C : Nat → Nat} (h : j < i) : (LN i e M C).N[j]? = some (lnN M C j) := by simp [LN, h]
theorem lnE_mem {e a b : Nat} : (a, b) ∈ lnE e ↔ a = b + 1 ∧ b < e := by
  unfold lnE
  rw [List.mem_map]
  constructor
  · rintro ⟨j, hj, he⟩
    simp only [Prod.mk.injEq] at he
    have := List.mem_range.1 hj
    omega
  · rintro ⟨rfl, h⟩
    exact ⟨b, List.mem_range.2 h, rfl⟩
theorem lnE_next (e : Nat) : lnE e ++ [(e + 1, e)] = lnE (e + 1) := by simp [lnE, List.range_succ]
theorem LN_down {i e : Nat} {M C : Nat → Nat} {a b : Nat} (h : (LN i e M C).Reach a b) : b ≤ a := h (fun x => x ≤ a) (Nat.le_refl _) fun x y hx he => by
  have := (lnE_mem.1 he).1; omega
theorem LN_acyc (i e : Nat) (M C : Nat → Nat) : (LN i e M C).Acyc := fun a b he hr => by
  have h1 := (lnE_mem.1 he).1
  have := LN_down hr
  omega
theorem LN_new : LN 0 0 (fun _ => 0) (fun _ => 0) = Gr.new := rfl
theorem LN_count (i e : Nat) (M C : Nat → Nat) : (LN i e M C).count 2 1 = i := by
  unfold Gr.count
  rw [List.filter_eq_self.2 fun x hx => by
    obtain ⟨j, _, rfl⟩ := List.mem_map.1 hx
    rfl]
  exact LN_len i e M C
theorem LN_plus (i e : Nat) (C : Nat → Nat) : (LN i e (fun _ => 0) (fun _ => 0)).plus 2 1 = LN (i + 1) e (fun _ => 0) (fun _ => 0) := by
  unfold Gr.plus Gr.newN
  rw [LN_count]
  simp only [LN, List.range_succ, List.map_append, List.map_cons, List.map_nil]
  rfl
theorem LN_link (i e : Nat) (M C : Nat → Nat) : (LN i e M C).link (e + 1) e = LN i (e + 1) M C := by
  unfold Gr.link LN
  rw [← lnE_next]
theorem LN_edge {i : Nat} (hi : 0 < i) (M C : Nat → Nat) : (LN (i + 1) (i - 1) M C).edgeE (i : Int) ((i : Int) - 1) = 0 ∧ (LN (i + 1) (i - 1) M C).edgeG (i : Int) ((i : Int) - 1) = LN (i + 1) i M C := by
  obtain ⟨j, rfl⟩ : ∃ j, i = j + 1 := ⟨i - 1, by omega⟩
  have e1 : ((j + 1 : Nat) : Int) - 1 = (j : Int) := by omega
  rw [e1]
  have h0 : (LN (j + 1 + 1) (j + 1 - 1) M C).edgeE ((j + 1 : Nat) : Int) (j : Int) = 0 := by
    unfold Gr.edgeE
    rw [Gr.is_mk (by rw [LN_len]; omega), Gr.is_mk (by rw [LN_len]; omega), if_neg (by simp; omega), if_neg (by
      intro h
      have h2 := lnE_mem.1 (Gr.has_nat.1 h)
      omega), if_neg (by
      rw [Gr.reaches_false (fun h => by have := LN_down h; omega)]; decide)]
  refine ⟨h0, ?_⟩
  unfold Gr.edgeG
  rw [if_pos h0, Int.toNat_natCast, Int.toNat_natCast]
  exact LN_link (j + 1 + 1) j M C
theorem LN_mark {i e j s : Nat} {M C : Nat → Nat} (hj : j < i) (hs : s < 8) : (LN i e M C).markG (j : Int) (s : Int) = LN i e (setF M j (M j ||| 2 ^ s)) C := by
  unfold Gr.markG
  rw [bitOk_yes (by rw [LN_len]; exact hj) hs, if_pos rfl, Gr.nodeI_at (LN_at hj), Int.toNat_natCast, Int.toNat_natCast]
  unfold Gr.withN LN
  congr 1
  apply List.ext_getElem?
  intro t
  rw [List.getElem?_set]
  simp only [List.length_map, List.length_range, List.getElem?_map]
  by_cases ht : j = t
  · subst ht
    rw [if_pos rfl, if_pos hj, List.getElem?_range hj]
    simp [lnN, setF]
  · rw [if_neg ht]
    by_cases h2 : t < i
    · rw [List.getElem?_range h2]; simp [lnN, setF, Ne.symm ht]
    · rw [List.getElem?_eq_none (by simpa using h2)]; rfl
theorem LN_clear {i e j s : Nat} {M C : Nat → Nat} (hj : j < i) (hs : s < 8) : (LN i e M C).clearG (j : Int) (s : Int) = LN i e M (setF C j (C j ||| 2 ^ s)) := by
  unfold Gr.clearG
  rw [bitOk_yes (by rw [LN_len]; exact hj) hs, if_pos rfl, Gr.nodeI_at (LN_at hj), Int.toNat_natCast, Int.toNat_natCast]
  unfold Gr.withN LN
  congr 1
  apply List.ext_getElem?
  intro t
  rw [List.getElem?_set]
  simp only [List.length_map, List.length_range, List.getElem?_map]
  by_cases ht : j = t
  · subst ht
    rw [if_pos rfl, if_pos hj, List.getElem?_range hj]
    simp [lnN, setF]
  · rw [if_neg ht]
    by_cases h2 : t < i
    · rw [List.getElem?_range h2]; simp [lnN, setF, Ne.symm ht]
    · rw [List.getElem?_eq_none (by simpa using h2)]; rfl
theorem LN_ups_zero {i e : Nat} {M C : Nat → Nat} : (LN i e M C).ups 0 = [] := by
  refine List.filter_eq_nil_iff.2 fun x _ h => ?_
  have := (lnE_mem.1 (of_decide_eq_true h)).1
  omega
theorem LN_ups {i e j : Nat} {M C : Nat → Nat} (hj : j < e) (he : e ≤ i) : (LN i e M C).ups (j + 1) = [j] := by
  refine sorted_eq (Gr.ups_lt _ _) (by simp) fun x => ?_
  rw [Gr.mem_ups, LN_len, List.mem_singleton]
  constructor
  · rintro ⟨_, h⟩
    have := (lnE_mem.1 h).1
    omega
  · rintro rfl
    exact ⟨by omega, lnE_mem.2 ⟨rfl, hj⟩⟩
theorem LN_lab0 {i e : Nat} {M C : Nat → Nat} (hO : (LN i e M C).Ok) (hi : 0 < i) : andn (0 ||| M 0) (C 0) = (LN i e M C).lab 0 := by
  rw [← Gr.lab_eq hO (LN_at hi), LN_ups_zero]
  show andn (0 ||| M 0) (C 0) = andn (M 0) (C 0)
  rw [Nat.zero_or]
theorem LN_labS {i e j : Nat} {M C : Nat → Nat} (hO : (LN i e M C).Ok) (hj : j < e) (he : e < i) : andn ((LN i e M C).lab j ||| M (j + 1)) (C (j + 1)) = (LN i e M C).lab (j + 1) := by
  rw [← Gr.lab_eq hO (LN_at (show j + 1 < i by omega)), LN_ups hj (by omega)]
  show _ = andn (M (j + 1) ||| (LN i e M C).lab j) (C (j + 1))
  rw [Nat.or_comm]
/-- What the law has in hand: the label of the one ahead. -/
noncomputable def hasL (G : Gr) : Nat → Nat
  | 0 => 0
  | j + 1 => G.lab j
theorem LN_has {i e j : Nat} {M C : Nat → Nat} (hO : (LN i e M C).Ok) (hj : j < i) (he : e + 1 = i) : andn (hasL (LN i e M C) j ||| M j) (C j) = (LN i e M C).lab j := by
  cases j with
  | zero => exact LN_lab0 hO hj
  | succ j => exact LN_labS hO (by omega) (by omega)
theorem hasL_lt (G : Gr) (j : Nat) : hasL G j < 256 := by
  cases j with
  | zero => show 0 < 256; decide
  | succ j => exact G.lab_lt j
theorem place3_any (v : Int) (w : World) :
    Calls Try.prog 15 #[.int .i64 v, .int .i64 3] w fun e w' => ∃ s : Nat, e = .returned (.int .i64 (s : Int)) ∧ s < 3 ∧ w = w' := by
  refine (place_any v 3 (by decide) (by decide) w).mono fun e w' ⟨h1, h2⟩ => ⟨(v % 3).toNat, ?_, by omega, h2⟩
  rw [h1]
  congr 2
  omega
end Go.Proofs.Ytfbphibgcolmbaa
