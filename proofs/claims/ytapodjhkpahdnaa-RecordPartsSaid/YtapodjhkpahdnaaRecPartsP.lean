/-
  Records in two parts (plain).
-/
import Derived.Test.YtapodjhkpahdnaaRecGraph
namespace Go.Proofs.Ytapodjhkpahdnaa
open Go.RowKit Go.Sep
set_option linter.unusedSimpArgs false
set_option linter.unusedVariables false
theorem Gr.appL_append : ∀ (a b : List RecD) (G : Gr), G.appL (a ++ b) = if (G.appL a).2 = a.length then ((((G.appL a).1).appL b).1, (((G.appL a).1).appL b).2 + a.length) else G.appL a
  | [], b, G => by
    show G.appL b = if (0 : Nat) = 0 then ((G.appL b).1, (G.appL b).2 + 0) else _
    rw [if_pos rfl]; rfl
  | x :: a, b, G => by
    by_cases h : G.appE x.k x.a x.b = 0
    · have e1 : G.appL (x :: a) = (((G.appG x.k x.a x.b).appL a).1, ((G.appG x.k x.a x.b).appL a).2 + 1) := by rw [Gr.appL, if_pos h]
      have e2 : G.appL (x :: a ++ b) = (((G.appG x.k x.a x.b).appL (a ++ b)).1, ((G.appG x.k x.a x.b).appL (a ++ b)).2 + 1) := by rw [List.cons_append, Gr.appL, if_pos h]
      rw [e1, e2, Gr.appL_append a b]
      by_cases h2 : ((G.appG x.k x.a x.b).appL a).2 = a.length
      · rw [if_pos h2, if_pos (by simp [h2])]
        simp only [List.length_cons, Prod.mk.injEq, true_and]; omega
      · rw [if_neg h2, if_neg (by simp [h2])]
    · have e1 : G.appL (x :: a) = (G.appG x.k x.a x.b, 0) := by rw [Gr.appL, if_neg h]
      have e2 : G.appL (x :: a ++ b) = (G.appG x.k x.a x.b, 0) := by rw [List.cons_append, Gr.appL, if_neg h]
      rw [e1, e2, if_neg (by simp)]
/-- The whole by its first part. -/
theorem Gr.appL_parts (m : List RecD) (k : Nat) (hk : k ≤ m.length) (G : Gr) : ((G.appL (m.take k)).2 = k ∧ k ≤ (G.appL m).2 ∧ ((G.appL (m.take k)).1).appL (m.drop k) = ((G.appL m).1, (G.appL m).2 - k)) ∨ ((G.appL (m.take k)).2 ≠ k ∧ (G.appL m).2 = (G.appL (m.take k)).2 ∧ (G.appL m).2 < k) := by
  have hl : (m.take k).length = k := by rw [List.length_take]; omega
  have h := Gr.appL_append (m.take k) (m.drop k) G
  rw [List.take_append_drop, hl] at h
  by_cases h2 : (G.appL (m.take k)).2 = k
  · rw [if_pos h2] at h
    refine .inl ⟨h2, by rw [h]; exact Nat.le_add_left _ _, ?_⟩
    rw [h]; simp
  · rw [if_neg h2] at h
    have := Gr.appL_le (m.take k) G
    exact .inr ⟨h2, by rw [h], by rw [h]; omega⟩
theorem nodes_append (a b : List RecD) : nodes (a ++ b) = nodes a + nodes b := by
  unfold nodes
  simp
theorem appL_step {G : Gr} {l : List RecD} {i n : Nat} {H : Gr} {x : RecD} (h : G.appL (l.drop i) = (H, n - i)) (hi : i < n) (hx : l[i]? = some x) : G.appE x.k x.a x.b = 0 ∧ (G.appG x.k x.a x.b).appL (l.drop (i + 1)) = (H, n - (i + 1)) := by
  by_cases h0 : G.appE x.k x.a x.b = 0
  · refine ⟨h0, ?_⟩
    rw [Gr.appL_yes hx h0] at h
    simp only [Prod.mk.injEq] at h
    obtain ⟨h1, h2⟩ := h
    rw [← h1]
    have : ((G.appG x.k x.a x.b).appL (l.drop (i + 1))).2 = n - (i + 1) := by omega
    rw [← this]
  · rw [Gr.appL_no hx h0] at h
    simp only [Prod.mk.injEq] at h
    omega
theorem rd_drop {w : World} {b off c : Nat} {l : List RecD} (h : Rd w (.slice (some ⟨b, off, none⟩) l.length c) l.length 3 (l.flatMap rv)) (k : Nat) (hk : k < l.length) : Rd w (.slice (some ⟨b, off + k * 3, none⟩) (l.drop k).length (c - k)) (l.drop k).length 3 ((l.drop k).flatMap rv) := by
  obtain ⟨_, _, he, h1, h2, h3, h5⟩ := h
  simp only [Value.slice.injEq, true_and] at he
  obtain ⟨rfl, rfl⟩ := he
  have hl : (l.drop k).length = l.length - k := List.length_drop
  have e : ∀ m : List RecD, (m.flatMap rv).length = m.length * 3 := fun m => by
    induction m with
    | nil => rfl
    | cons x m ih => rw [List.flatMap_cons, List.length_append, ih, List.length_cons]; simp [rv]; omega
  refine ⟨_, _, rfl, by rw [hl]; omega, by omega, e _, fun hi0 => ?_⟩
  obtain ⟨b', off', h6, h7⟩ := h5 (by omega)
  simp only [Option.some.injEq, Addr.mk.injEq, and_true] at h6
  obtain ⟨rfl, rfl⟩ := h6
  refine ⟨b, off + k * 3, rfl, fun j u hu => ?_⟩
  have e2 : l.flatMap rv = (l.take k).flatMap rv ++ (l.drop k).flatMap rv := by rw [← List.flatMap_append, List.take_append_drop]
  have hl2 : ((l.take k).flatMap rv).length = k * 3 := by rw [e, List.length_take]; omega
  have := h7 (k * 3 + j) u (by rw [e2, List.getElem?_append_right (by omega), hl2, Nat.add_sub_cancel_left]; exact hu)
  rwa [← Nat.add_assoc] at this
end Go.Proofs.Ytapodjhkpahdnaa
