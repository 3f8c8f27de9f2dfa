/-
  Ways up, told in order (plain).
-/
import Derived.Test.YtpnbdnfgdiakhaaMQuf
namespace Go.Proofs.Ytpnbdnfgdiakhaa
open Go.Sep
open Go
set_option linter.unusedSimpArgs false
set_option linter.unusedVariables false
/-- The order of words. -/
def lx : List Nat → List Nat → Bool
  | [], y => decide (0 < y.length)
  | _ :: _, [] => false
  | a :: x, b :: y => if a = b then lx x y else decide (a < b)
theorem lx_end {x y : List Nat} {i : Nat} (h : ¬ (i < x.length ∧ i < y.length)) (hi : i ≤ x.length) (hj : i ≤ y.length) : lx (x.drop i) (y.drop i) = decide (x.length < y.length) := by
  by_cases h1 : i < x.length
  · have h2 : y.length = i := by omega
    rw [show y.drop i = [] from List.drop_eq_nil_of_le (by omega), ← List.getElem_cons_drop h1]
    show false = _
    exact (decide_eq_false (by omega)).symm
  · rw [show x.drop i = [] from List.drop_eq_nil_of_le (by omega)]
    show decide (0 < (y.drop i).length) = _
    rw [List.length_drop]
    congr 1
    exact propext ⟨fun h => by omega, fun h => by omega⟩
theorem lx_step {x y : List Nat} {i a b : Nat} (hx : x[i]? = some a) (hy : y[i]? = some b) : lx (x.drop i) (y.drop i) = if a = b then lx (x.drop (i + 1)) (y.drop (i + 1)) else decide (a < b) := by
  obtain ⟨h1, rfl⟩ := List.getElem?_eq_some_iff.1 hx
  obtain ⟨h2, rfl⟩ := List.getElem?_eq_some_iff.1 hy
  rw [← List.getElem_cons_drop h1, ← List.getElem_cons_drop h2]
  rfl
theorem lx_cons (a : Nat) (x y : List Nat) : lx (a :: x) (a :: y) = lx x y := by
  show (if a = a then _ else _) = _
  rw [if_pos rfl]
theorem pth_head {G : Gr} (b : Nat) : ∀ (d a : Nat) (p : List Nat), p ∈ Gr.pth G b d a → ∃ q, p = a :: q
  | 0, _, _, h => nomatch h
  | d + 1, a, p, h => by
    unfold Gr.pth at h
    split at h
    · exact ⟨[], List.mem_singleton.1 h⟩
    · obtain ⟨u, _, h2⟩ := List.mem_flatMap.1 h
      obtain ⟨q, _, rfl⟩ := List.mem_map.1 h2
      exact ⟨q, rfl⟩
theorem pth_lx {G : Gr} (b : Nat) : ∀ (d a : Nat), (Gr.pth G b d a).Pairwise fun x y => lx x y = true
  | 0, _ => List.Pairwise.nil
  | d + 1, a => by
    unfold Gr.pth
    split
    · exact List.pairwise_singleton _ _
    · rw [List.pairwise_flatMap]
      refine ⟨fun u _ => ?_, ?_⟩
      · rw [List.pairwise_map]
        refine (pth_lx b d u).imp fun {x y} h => ?_
        rw [lx_cons]; exact h
      · refine (Gr.ups_lt G a).imp fun {u v} huv x hx y hy => ?_
        obtain ⟨q, hq, rfl⟩ := List.mem_map.1 hx
        obtain ⟨r, hr, rfl⟩ := List.mem_map.1 hy
        obtain ⟨q2, rfl⟩ := pth_head b d u q hq
        obtain ⟨r2, rfl⟩ := pth_head b d v r hr
        rw [lx_cons]
        show (if u = v then _ else _) = _
        rw [if_neg (by omega)]
        exact decide_eq_true huv
theorem pth_last {G : Gr} (b : Nat) : ∀ (d a : Nat) (p : List Nat), p ∈ Gr.pth G b d a → p[p.length - 1]? = some b
  | 0, _, _, h => nomatch h
  | d + 1, a, p, h => by
    unfold Gr.pth at h
    split at h
    · rename_i e
      rw [List.mem_singleton.1 h, e]; rfl
    · obtain ⟨u, _, h2⟩ := List.mem_flatMap.1 h
      obtain ⟨q, hq, rfl⟩ := List.mem_map.1 h2
      obtain ⟨r, rfl⟩ := pth_head b d u q hq
      have := pth_last b d u _ hq
      simpa using this
theorem pth_step {G : Gr} (b : Nat) : ∀ (d a : Nat) (p : List Nat), a < G.N.length → p ∈ Gr.pth G b d a → ∀ (j x y : Nat), p[j]? = some x → p[j + 1]? = some y → x < G.N.length ∧ y ∈ G.ups x
  | 0, _, _, _, h => nomatch h
  | d + 1, a, p, ha, h => by
    unfold Gr.pth at h
    split at h
    · intro j x y _ hy
      rw [List.mem_singleton.1 h] at hy
      simp at hy
    · obtain ⟨u, hu, h2⟩ := List.mem_flatMap.1 h
      obtain ⟨q, hq, rfl⟩ := List.mem_map.1 h2
      obtain ⟨r, rfl⟩ := pth_head b d u q hq
      intro j x y hx hy
      cases j with
      | zero =>
        simp only [List.getElem?_cons_zero, Option.some.injEq] at hx
        simp only [List.getElem?_cons_succ, List.getElem?_cons_zero, Option.some.injEq] at hy
        subst hx; subst hy
        exact ⟨ha, hu⟩
      | succ j =>
        rw [List.getElem?_cons_succ] at hx hy
        exact pth_step b d u _ (Gr.mem_ups.1 hu).1 hq j x y hx hy
/-- What one may know of the ways told from a to b. -/
structure GoOk (G : Gr) (a b : Nat) (T : List (List Nat)) : Prop where
  len : T.length ≤ 1000
  lt : T.Pairwise fun x y => lx x y = true
  row : ∀ x ∈ T, 0 < x.length ∧ x.length ≤ G.N.length ∧ x[0]? = some a ∧ x[x.length - 1]? = some b ∧ ∀ (j u v : Nat), x[j]? = some u → x[j + 1]? = some v → u < G.N.length ∧ v ∈ G.ups u
theorem pth_len2 {G : Gr} (b : Nat) : ∀ (d a : Nat) (p : List Nat), p ∈ Gr.pth G b d a → p.length ≤ d
  | 0, _, _, h => nomatch h
  | d + 1, a, p, h => by
    unfold Gr.pth at h
    split at h
    · rw [List.mem_singleton.1 h]; simp
    · obtain ⟨u, hu, h2⟩ := List.mem_flatMap.1 h
      obtain ⟨q, hq, rfl⟩ := List.mem_map.1 h2
      have := pth_len2 b d u q hq
      rw [List.length_cons]; omega
theorem told_ok {G : Gr} {a b : Nat} (ha : a < G.N.length) (hb : b < G.N.length) : GoOk G a b (told G (a : Int) (b : Int) 1000) := by
  have e : told G (a : Int) (b : Int) 1000 = (Gr.pth G b (G.rk a) a).take 1000 := by
    unfold told
    rw [if_pos ⟨Gr.is_mk ha, Gr.is_mk hb⟩]; rfl
  rw [e]
  refine ⟨by rw [List.length_take]; omega, (pth_lx b _ a).sublist (List.take_sublist _ _), fun x hx => ?_⟩
  have h := List.mem_of_mem_take hx
  obtain ⟨q, rfl⟩ := pth_head b _ _ _ h
  have h1 := pth_len2 b _ _ _ h
  have h2 := G.above_len a
  unfold Gr.rk at h1
  exact ⟨by simp, by omega, rfl, pth_last b _ _ _ h, pth_step b _ _ _ ha h⟩
theorem told_reaches {G : Gr} (hG : G.Ok) (hA : G.Acyc) {a b : Nat} (ha : a < G.N.length) (hb : b < G.N.length) : G.reaches (a : Int) (b : Int) = decide (0 < (told G (a : Int) (b : Int) 1000).length) := by
  have e : told G (a : Int) (b : Int) 1000 = (G.wy b a).take 1000 := by
    unfold told
    rw [if_pos ⟨Gr.is_mk ha, Gr.is_mk hb⟩]; rfl
  rw [e, List.length_take]
  by_cases h : G.Reach a b
  · rw [Gr.reaches_true ha hb h]
    have := List.length_pos_iff.2 (Gr.wy_some hG hA b _ a (Nat.le_refl _) ha h)
    exact (decide_eq_true (by omega)).symm
  · rw [Gr.reaches_false h, Gr.wy_none h]; rfl
theorem GoOk.next {G : Gr} {a b : Nat} {T : List (List Nat)} (h : GoOk G a b T) {i : Nat} {x y : List Nat} (hx : T[i]? = some x) (hy : T[i + 1]? = some y) : lx x y = true := by
  obtain ⟨h1, rfl⟩ := List.getElem?_eq_some_iff.1 hx
  obtain ⟨h2, rfl⟩ := List.getElem?_eq_some_iff.1 hy
  exact List.pairwise_iff_getElem.1 h.lt i (i + 1) h1 h2 (by omega)
end Go.Proofs.Ytpnbdnfgdiakhaa
