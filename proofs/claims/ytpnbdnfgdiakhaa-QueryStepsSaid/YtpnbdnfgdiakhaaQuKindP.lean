/-
  The kinds of a graph's nodes; counts (plain).
-/
import Derived.Test.YtpnbdnfgdiakhaaMQuf
namespace Go.Proofs.Ytpnbdnfgdiakhaa
open Go.Sep
open Go
set_option linter.unusedSimpArgs false
set_option linter.unusedVariables false
def KindI (G : Gr) : Prop := ∀ x ∈ G.N, 1 ≤ x.kind ∧ x.kind ≤ 5
theorem KindI.new : KindI Gr.new := fun x hx => nomatch hx
theorem KindI.set {G : Gr} (h : KindI G) {i : Nat} {y : NodeD} (hy : 1 ≤ y.kind ∧ y.kind ≤ 5) : KindI (G.withN (G.N.set i y)) := fun x hx => by
  rcases List.mem_or_eq_of_mem_set hx with hx | rfl
  · exact h x hx
  · exact hy
theorem bitOk_isK {G : Gr} {n s : Int} (h : bitOk G n s = true) : G.is n = true := (bitOk_is h).1
theorem KindI.step {G : Gr} (h : KindI G) (x : GOpD) : KindI (G.step x) := by
  unfold Gr.step
  split
  · unfold Gr.addG
    split
    · rename_i hk
      intro y hy
      rcases List.mem_append.1 hy with hy | hy
      · exact h y hy
      · rw [List.mem_singleton.1 hy]
        unfold Gr.addOk newOk at hk
        simp only [Bool.and_eq_true, decide_eq_true_eq] at hk
        exact ⟨hk.1.1.1.1, hk.1.1.1.2⟩
    · exact h
  · split
    · unfold Gr.markG
      split
      · rename_i hk
        exact h.set (show 1 ≤ (G.nodeI x.a).kind ∧ (G.nodeI x.a).kind ≤ 5 from h _ (Gr.nodeI_mem (bitOk_isK hk)))
      · exact h
    · split
      · unfold Gr.clearG
        split
        · rename_i hk
          exact h.set (show 1 ≤ (G.nodeI x.a).kind ∧ (G.nodeI x.a).kind ≤ 5 from h _ (Gr.nodeI_mem (bitOk_isK hk)))
        · exact h
      · split
        · unfold Gr.lostG
          split
          · intro y hy
            obtain ⟨i, hi⟩ := List.getElem?_of_mem hy
            have h2 : (orphN G.N x.a.toNat x.b.toNat)[i]? = some y := hi
            rw [orphN_at] at h2
            obtain ⟨z, hz, rfl⟩ := Option.map_eq_some_iff.1 h2
            have := h z (List.mem_of_getElem? hz)
            split <;> exact this
          · exact h
        · intro y hy
          rw [Gr.edgeG_N] at hy
          exact h y hy
/-- Those of a kind, those that live. -/
theorem kind_list {G : Gr} (k : Nat) (h1 : 1 ≤ k) (h5 : k ≤ 5) : qlist G (leafQ 3 (k : Int)) ((List.range G.N.length).map fun (n : Nat) => (n : Int)) = fltN G.N.length fun n => (G.nodeI (n : Int)).kind = (k : Int) := by
  rw [qlist_yes _ (by
    have hc : k = 1 ∨ k = 2 ∨ k = 3 ∨ k = 4 ∨ k = 5 := by omega
    rcases hc with rfl | rfl | rfl | rfl | rfl <;> decide), rel_kind G 11 (q := leafQ 3 (k : Int)) rfl]
  refine fltN_congr fun n hn => ?_
  obtain ⟨x, hx⟩ : ∃ x, G.N[n]? = some x := ⟨_, List.getElem?_eq_getElem hn⟩
  rw [Gr.nodeI_at hx]
  constructor
  · rintro ⟨m, _, rfl, y, hy, h⟩
    rw [hx] at hy; cases hy
    exact h
  · intro h
    exact ⟨n, ⟨hn, List.mem_map.2 ⟨n, List.mem_range.2 hn, rfl⟩⟩, rfl, x, hx, h⟩
theorem live_list {G : Gr} : qlist G (leafQ 8 0) ((List.range G.N.length).map fun (n : Nat) => (n : Int)) = fltN G.N.length fun n => (G.nodeI (n : Int)).orph = false := by
  rw [qlist_yes _ (by decide), rel_live G 11 (q := leafQ 8 0) rfl]
  refine fltN_congr fun n hn => ?_
  obtain ⟨x, hx⟩ : ∃ x, G.N[n]? = some x := ⟨_, List.getElem?_eq_getElem hn⟩
  rw [Gr.nodeI_at hx]
  constructor
  · rintro ⟨m, _, rfl, y, hy, h⟩
    rw [hx] at hy; cases hy
    exact h
  · intro h
    exact ⟨n, ⟨hn, List.mem_map.2 ⟨n, List.mem_range.2 hn, rfl⟩⟩, rfl, x, hx, h⟩
theorem none_list {G : Gr} : qlist G (leafQ 1 0) [] = [] := by
  rw [qlist_yes _ (by decide)]
  refine List.eq_nil_iff_forall_not_mem.2 fun x hx => ?_
  obtain ⟨_, m, ⟨_, h⟩, _⟩ := mem_fltN.1 hx
  cases h
/-- How often a node has been told, behind k kinds, and i of the next one's list. -/
noncomputable def cntK (G : Gr) (k : Nat) (m : List Nat) (i : Nat) (n : Nat) : Nat := (if (G.nodeI (n : Int)).kind < (k : Int) then 1 else 0) + (if n ∈ m.take i then 1 else 0)
theorem cntK_put {G : Gr} {k i x : Nat} {m : List Nat} (hx : m[i]? = some x) (hn : m.Nodup) : setF (cntK G k m i) x (cntK G k m i x + 1) = cntK G k m (i + 1) := by
  have hno : x ∉ m.take i := fun h => by
    obtain ⟨j, hj⟩ := List.getElem?_of_mem h
    have hji : j < i := by
      have := (List.getElem?_eq_some_iff.1 hj).1
      rw [List.length_take] at this; omega
    rw [List.getElem?_take_of_lt hji] at hj
    have hjl := (List.getElem?_eq_some_iff.1 hj).1
    have := (List.getElem?_inj hjl hn).1 (hj.trans hx.symm)
    omega
  funext n
  unfold setF cntK
  rw [List.take_add_one, hx]
  simp only [Option.toList_some, List.mem_append, List.mem_singleton]
  by_cases e : n = x
  · subst e
    simp [hno]
  · simp [e]
theorem cntK_next {G : Gr} {k : Nat} {m : List Nat} {n : Nat} (hn : n < G.N.length) (hm : m = fltN G.N.length fun n => (G.nodeI (n : Int)).kind = (k : Int)) : cntK G k m m.length n = cntK G (k + 1) [] 0 n := by
  unfold cntK
  rw [List.take_length, hm]
  simp only [mem_fltN, List.take_nil, List.not_mem_nil, if_false, Nat.add_zero]
  by_cases h : (G.nodeI (n : Int)).kind = (k : Int)
  · rw [if_neg (by omega), if_pos ⟨hn, h⟩, if_pos (by omega)]
  · rw [if_neg (c := n < G.N.length ∧ _) (fun h2 => h h2.2)]
    by_cases h2 : (G.nodeI (n : Int)).kind < (k : Int)
    · rw [if_pos h2, if_pos (by omega)]
    · rw [if_neg h2, if_neg (by omega)]
theorem cntK_zero {G : Gr} (h : KindI G) {n : Nat} (hn : n < G.N.length) : cntK G 1 [] 0 n = 0 := by
  obtain ⟨x, hx⟩ : ∃ x, G.N[n]? = some x := ⟨_, List.getElem?_eq_getElem hn⟩
  have := h x (List.mem_of_getElem? hx)
  unfold cntK
  rw [Gr.nodeI_at hx, if_neg (by omega)]; simp
theorem cntK_end {G : Gr} (h : KindI G) {n : Nat} (hn : n < G.N.length) : cntK G 6 [] 0 n = 1 := by
  obtain ⟨x, hx⟩ : ∃ x, G.N[n]? = some x := ⟨_, List.getElem?_eq_getElem hn⟩
  have := h x (List.mem_of_getElem? hx)
  unfold cntK
  rw [Gr.nodeI_at hx, if_pos (by omega)]; simp
theorem cntK_le (G : Gr) (k : Nat) (m : List Nat) (i n : Nat) : cntK G k m i n ≤ 2 := by
  unfold cntK
  split <;> split <;> omega
/-- Those that live, told in order: the first so many of the nodes. -/
noncomputable def liveN (G : Gr) (i : Nat) : List Nat := fltN i fun n => (G.nodeI (n : Int)).orph = false
theorem liveN_yes {G : Gr} {i : Nat} (h : (G.nodeI (i : Int)).orph = false) : liveN G (i + 1) = liveN G i ++ [i] := by
  refine (fltN_eq ?_ fun n => ?_).symm
  · rw [List.pairwise_append]
    refine ⟨fltN_lt _ _, by simp, fun x hx y hy => ?_⟩
    rw [List.mem_singleton.1 hy]
    exact (mem_fltN.1 hx).1
  · rw [List.mem_append, List.mem_singleton, show n ∈ liveN G i ↔ _ from mem_fltN]
    constructor
    · rintro (⟨h1, h2⟩ | rfl)
      · exact ⟨by omega, h2⟩
      · exact ⟨by omega, h⟩
    · rintro ⟨h1, h2⟩
      by_cases e : n = i
      · exact .inr e
      · exact .inl ⟨by omega, h2⟩
theorem liveN_no {G : Gr} {i : Nat} (h : (G.nodeI (i : Int)).orph = true) : liveN G (i + 1) = liveN G i := by
  refine (fltN_eq (l := liveN G i) (fltN_lt _ _) fun n => ?_).symm
  rw [show n ∈ liveN G i ↔ _ from mem_fltN]
  constructor
  · rintro ⟨h1, h2⟩; exact ⟨by omega, h2⟩
  · rintro ⟨h1, h2⟩
    refine ⟨?_, h2⟩
    rcases Nat.lt_or_ge n i with h3 | h3
    · exact h3
    · obtain rfl : n = i := by omega
      rw [h] at h2; cases h2
theorem liveN_pre {G : Gr} {i N : Nat} (h : i ≤ N) : ∃ r, liveN G N = liveN G i ++ r := by
  induction N with
  | zero =>
    obtain rfl : i = 0 := by omega
    exact ⟨[], by simp⟩
  | succ N ih =>
    by_cases e : i = N + 1
    · subst e; exact ⟨[], by simp⟩
    · obtain ⟨r, hr⟩ := ih (by omega)
      cases ho : (G.nodeI (N : Int)).orph with
      | false => exact ⟨r ++ [N], by rw [liveN_yes ho, hr, List.append_assoc]⟩
      | true => exact ⟨r, by rw [liveN_no ho, hr]⟩
theorem liveN_at {G : Gr} {i N : Nat} (hi : i < N) (h : (G.nodeI (i : Int)).orph = false) : (liveN G i).length < (liveN G N).length ∧ (liveN G N)[(liveN G i).length]? = some i := by
  obtain ⟨r, hr⟩ := liveN_pre (G := G) (show i + 1 ≤ N by omega)
  rw [liveN_yes h] at hr
  rw [hr]
  constructor
  · simp
  · rw [List.append_assoc, List.getElem?_append_right (Nat.le_refl _), Nat.sub_self]; rfl
end Go.Proofs.Ytpnbdnfgdiakhaa
