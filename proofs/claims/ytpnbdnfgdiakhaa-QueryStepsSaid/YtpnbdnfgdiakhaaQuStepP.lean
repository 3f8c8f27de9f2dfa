/-
  Lists of some questions (plain).
-/
import Derived.Test.YtpnbdnfgdiakhaaQuKindP
namespace Go.Proofs.Ytpnbdnfgdiakhaa
open Go.Sep
open Go
set_option linter.unusedSimpArgs false
set_option linter.unusedVariables false
/-- A list, asked of nodes. -/
noncomputable def ql (G : Gr) (q : StepD) (l : List Nat) : List Nat := qlist G q (l.map fun (n : Nat) => (n : Int))
theorem mem_ql {G : Gr} {q : StepD} {l : List Nat} (hc : q.chk = true) (hl : ∀ m ∈ l, m < G.N.length) {x : Nat} : x ∈ ql G q l ↔ x < G.N.length ∧ ∃ m ∈ l, Rel G 12 q m x := by
  unfold ql
  rw [qlist_yes _ hc, mem_fltN]
  refine and_congr_right fun _ => ⟨?_, ?_⟩
  · rintro ⟨m, ⟨_, h⟩, hr⟩
    obtain ⟨m', h1, h2⟩ := List.mem_map.1 h
    obtain rfl : m' = m := by omega
    exact ⟨m', h1, hr⟩
  · rintro ⟨m, h, hr⟩
    exact ⟨m, ⟨hl m h, List.mem_map.2 ⟨m, h, rfl⟩⟩, hr⟩
theorem ql_lt (G : Gr) (q : StepD) (l : List Nat) : (ql G q l).Pairwise (· < ·) := by
  unfold ql qlist
  split
  · exact fltN_lt _ _
  · exact List.Pairwise.nil
theorem ql_low {G : Gr} {q : StepD} {l : List Nat} : ∀ m ∈ ql G q l, m < G.N.length := fun m h => by
  unfold ql qlist at h
  split at h
  · exact (mem_fltN.1 h).1
  · cases h
def starQ (u : Value) : StepD := .mk 5 0 u [leafQ 1 0]
def orQ (u : Value) : StepD := .mk 6 0 u [leafQ 1 0, leafQ 2 0]
def thenQ (u : Value) : StepD := .mk 7 0 u [leafQ 1 0, leafQ 2 0]
theorem rel_starQ (G : Gr) (u : Value) (m n : Nat) : Rel G 12 (starQ u) m n ↔ G.Reach m n := by
  rw [rel_star G 11 (q := starQ u) rfl (k := leafQ 1 0) rfl, rel_up G 10 (q := leafQ 1 0) rfl]
  exact Iff.rfl
theorem rel_orQ (G : Gr) (u : Value) (m n : Nat) : Rel G 12 (orQ u) m n ↔ (m, n) ∈ G.E ∨ (n, m) ∈ G.E := by
  rw [rel_or G 11 (q := orQ u) rfl]
  constructor
  · rintro ⟨k, hk, h⟩
    rcases List.mem_cons.1 hk with rfl | hk
    · rw [rel_up G 10 (q := leafQ 1 0) rfl] at h; exact .inl h
    · rw [List.mem_singleton.1 hk, rel_down G 10 (q := leafQ 2 0) rfl] at h; exact .inr h
  · rintro (h | h)
    · exact ⟨leafQ 1 0, List.mem_cons_self .., by rw [rel_up G 10 (q := leafQ 1 0) rfl]; exact h⟩
    · exact ⟨leafQ 2 0, List.mem_cons_of_mem _ (List.mem_cons_self ..), by rw [rel_down G 10 (q := leafQ 2 0) rfl]; exact h⟩
theorem rel_thenQ (G : Gr) (u : Value) (m n : Nat) : Rel G 12 (thenQ u) m n ↔ ∃ x, (m, x) ∈ G.E ∧ (n, x) ∈ G.E := by
  rw [rel_then G 11 (q := thenQ u) rfl]
  show (∃ x, Rel G 11 (leafQ 1 0) m x ∧ ∃ y, Rel G 11 (leafQ 2 0) x y ∧ y = n) ↔ _
  rw [rel_up G 10 (q := leafQ 1 0) rfl, rel_down G 10 (q := leafQ 2 0) rfl]
  constructor
  · rintro ⟨x, h1, y, h2, rfl⟩; exact ⟨x, h1, h2⟩
  · rintro ⟨x, h1, h2⟩; exact ⟨x, h1, n, h2, rfl⟩
theorem starQ_chk (u : Value) : (starQ u).chk = true := rfl
theorem orQ_chk (u : Value) : (orQ u).chk = true := rfl
theorem thenQ_chk (u : Value) : (thenQ u).chk = true := rfl
theorem upQ_chk : (leafQ 1 0).chk = true := rfl
theorem downQ_chk : (leafQ 2 0).chk = true := rfl
section
variable {G : Gr} {fr : List Nat} (hfr : ∀ m ∈ fr, m < G.N.length) (u u2 : Value)
include hfr
theorem mem_star {x : Nat} : x ∈ ql G (starQ u) fr ↔ x < G.N.length ∧ ∃ m ∈ fr, G.Reach m x := by
  rw [mem_ql (starQ_chk u) hfr]
  simp only [rel_starQ]
theorem star_star : ql G (starQ u2) (ql G (starQ u) fr) = ql G (starQ u) fr := by
  refine sorted_eq (ql_lt ..) (ql_lt ..) fun x => ?_
  rw [mem_star (fr := ql G (starQ u) fr) ql_low u2]
  constructor
  · rintro ⟨h1, m, h2, h3⟩
    obtain ⟨h4, f, h5, h6⟩ := (mem_star hfr u).1 h2
    exact (mem_star hfr u).2 ⟨h1, f, h5, h6.trans h3⟩
  · intro h
    exact ⟨((mem_star hfr u).1 h).1, x, h, Gr.Reach.refl G x⟩
theorem mem_up {x : Nat} : x ∈ ql G (leafQ 1 0) fr ↔ x < G.N.length ∧ ∃ m ∈ fr, (m, x) ∈ G.E := by
  rw [mem_ql upQ_chk hfr, rel_up G 11 (q := leafQ 1 0) rfl]
theorem mem_down {x : Nat} : x ∈ ql G (leafQ 2 0) fr ↔ x < G.N.length ∧ ∃ m ∈ fr, (x, m) ∈ G.E := by
  rw [mem_ql downQ_chk hfr, rel_down G 11 (q := leafQ 2 0) rfl]
theorem then_list (hG : G.Ok) : ql G (thenQ u) fr = ql G (leafQ 2 0) (ql G (leafQ 1 0) fr) := by
  refine sorted_eq (ql_lt ..) (ql_lt ..) fun x => ?_
  rw [mem_ql (thenQ_chk u) hfr, mem_down (fr := ql G (leafQ 1 0) fr) ql_low]
  refine and_congr_right fun _ => ?_
  simp only [rel_thenQ]
  constructor
  · rintro ⟨m, h1, y, h2, h3⟩
    exact ⟨y, (mem_up hfr).2 ⟨(hG.low _ h2).2, m, h1, h2⟩, h3⟩
  · rintro ⟨y, h1, h2⟩
    obtain ⟨_, m, h3, h4⟩ := (mem_up hfr).1 h1
    exact ⟨m, h3, y, h4, h2⟩
theorem mem_or {x : Nat} : x ∈ ql G (orQ u) fr ↔ x ∈ ql G (leafQ 1 0) fr ∨ x ∈ ql G (leafQ 2 0) fr := by
  rw [mem_ql (orQ_chk u) hfr, mem_up hfr, mem_down hfr]
  simp only [rel_orQ]
  constructor
  · rintro ⟨h1, m, h2, h3 | h3⟩
    · exact .inl ⟨h1, m, h2, h3⟩
    · exact .inr ⟨h1, m, h2, h3⟩
  · rintro (⟨h1, m, h2, h3⟩ | ⟨h1, m, h2, h3⟩)
    · exact ⟨h1, m, h2, .inl h3⟩
    · exact ⟨h1, m, h2, .inr h3⟩
end
theorem filter_len_or {p q r : Nat → Bool} (h : ∀ x, r x = true → p x = true ∨ q x = true) : ∀ l : List Nat, (l.filter r).length ≤ (l.filter p).length + (l.filter q).length
  | [] => Nat.le_refl _
  | a :: l => by
    have ih := filter_len_or h l
    rw [List.filter_cons, List.filter_cons, List.filter_cons]
    have := h a
    cases hr : r a <;> cases hp : p a <;> cases hq : q a <;> simp_all <;> omega
theorem sorted_flt {N : Nat} {l : List Nat} (hl : l.Pairwise (· < ·)) (h : ∀ m ∈ l, m < N) : l = (List.range N).filter fun x => decide (x ∈ l) :=
  sorted_eq hl (List.Pairwise.filter _ List.pairwise_lt_range) fun x => by simp; exact fun hx => h x hx
theorem or_len {G : Gr} {fr : List Nat} (hfr : ∀ m ∈ fr, m < G.N.length) (u : Value) : (ql G (orQ u) fr).length ≤ (ql G (leafQ 1 0) fr).length + (ql G (leafQ 2 0) fr).length := by
  have h := filter_len_or (p := fun x => decide (x ∈ ql G (leafQ 1 0) fr)) (q := fun x => decide (x ∈ ql G (leafQ 2 0) fr)) (r := fun x => decide (x ∈ ql G (orQ u) fr)) (fun x hx => by
    simp only [decide_eq_true_eq] at hx ⊢
    exact (mem_or hfr u).1 hx) (List.range G.N.length)
  rw [← sorted_flt (ql_lt ..) ql_low, ← sorted_flt (ql_lt ..) ql_low, ← sorted_flt (ql_lt ..) ql_low] at h
  exact h
theorem kind_mem {G : Gr} {l : List Nat} (hl : ∀ m ∈ l, m < G.N.length) {k : Nat} (h1 : 1 ≤ k) (h5 : k ≤ 5) {x : Nat} (hx : x ∈ ql G (leafQ 3 (k : Int)) l) : x < G.N.length ∧ (G.nodeI (x : Int)).kind = (k : Int) := by
  rw [mem_ql (by
    have hc : k = 1 ∨ k = 2 ∨ k = 3 ∨ k = 4 ∨ k = 5 := by omega
    rcases hc with rfl | rfl | rfl | rfl | rfl <;> decide) hl, rel_kind G 11 (q := leafQ 3 (k : Int)) rfl] at hx
  obtain ⟨h, m, _, rfl, y, hy, hk⟩ := hx
  rw [Gr.nodeI_at hy]
  exact ⟨h, hk⟩
/-- Those above one of the first so many, and so many of a further list. -/
noncomputable def SA (G : Gr) (fr : List Nat) (i : Nat) (z : List Nat) (j t : Nat) : Bool := (fr.take i).any (fun f => decide (t ∈ G.above f)) || decide (t ∈ z.take j)
theorem SA_zero (G : Gr) (fr : List Nat) : (fun _ => false) = SA G fr 0 [] 0 := by funext t; simp [SA]
theorem SA_in (G : Gr) (fr z : List Nat) (i : Nat) : SA G fr i [] 0 = SA G fr i z 0 := by funext t; simp [SA]
theorem SA_put {G : Gr} {fr z : List Nat} {i j y : Nat} (h : z[j]? = some y) : (fun t => SA G fr i z j t || decide (t = y)) = SA G fr i z (j + 1) := by
  funext t
  unfold SA
  rw [List.take_add_one, h, Bool.or_assoc, ← Bool.decide_or]
  congr 1
  simp
theorem SA_next {G : Gr} {fr : List Nat} {i x : Nat} (h : fr[i]? = some x) : SA G fr i (G.above x) (G.above x).length = SA G fr (i + 1) [] 0 := by
  funext t
  unfold SA
  rw [List.take_length, List.take_add_one, h]
  simp
theorem SA_all {G : Gr} {fr : List Nat} (hfr : ∀ m ∈ fr, m < G.N.length) (u : Value) (t : Nat) : SA G fr fr.length [] 0 t = decide (t ∈ ql G (starQ u) fr) := by
  rw [Bool.eq_iff_iff, decide_eq_true_iff, mem_star hfr u]
  unfold SA
  simp [Gr.mem_above]
  constructor
  · rintro ⟨x, h1, h2, h3⟩; exact ⟨h2, x, h1, h3⟩
  · rintro ⟨h2, x, h1, h3⟩; exact ⟨x, h1, h2, h3⟩
/-- How many of the first so many are in a list. -/
def inN (l : List Nat) (i : Nat) : Nat := ((List.range i).filter fun x => decide (x ∈ l)).length
theorem inN_zero (l : List Nat) : inN l 0 = 0 := rfl
theorem inN_yes {l : List Nat} {i : Nat} (h : decide (i ∈ l) = true) : inN l (i + 1) = inN l i + 1 := by
  unfold inN
  rw [List.range_succ, List.filter_append, List.length_append]
  simp at h
  simp [h]
theorem inN_no {l : List Nat} {i : Nat} (h : decide (i ∈ l) = false) : inN l (i + 1) = inN l i := by
  unfold inN
  rw [List.range_succ, List.filter_append, List.length_append]
  simp at h
  simp [h]
theorem inN_le (l : List Nat) (i : Nat) : inN l i ≤ i := by
  unfold inN
  have := List.length_filter_le (fun x => decide (x ∈ l)) (List.range i)
  rwa [List.length_range] at this
theorem inN_all {N : Nat} {l : List Nat} (hl : l.Pairwise (· < ·)) (h : ∀ m ∈ l, m < N) : inN l N = l.length := by
  unfold inN
  rw [← sorted_flt hl h]
end Go.Proofs.Ytpnbdnfgdiakhaa
