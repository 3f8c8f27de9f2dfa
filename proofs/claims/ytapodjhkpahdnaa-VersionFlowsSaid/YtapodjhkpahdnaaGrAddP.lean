/-
  Graphs of versions: a node more (plain).
-/
import Derived.Test.YtapodjhkpahdnaaGrSet
namespace Go.Proofs.Ytapodjhkpahdnaa
open Go.Sep
set_option linter.unusedSimpArgs false
set_option linter.unusedVariables false
def newOk (k o : Int) : Bool := decide (1 ≤ k) && decide (k ≤ 5) && decide (1 ≤ o) && decide (o ≤ 16777215)
theorem newOk_no {k o : Int} (h : k < 1 ∨ 5 < k ∨ o < 1 ∨ 16777215 < o) : newOk k o = false := by
  unfold newOk
  cases h1 : decide (1 ≤ k) <;> cases h2 : decide (k ≤ 5) <;> cases h3 : decide (1 ≤ o) <;> cases h4 : decide (o ≤ 16777215) <;> try rfl
  simp only [decide_eq_true_eq] at h1 h2 h3 h4
  omega
theorem newOk_yes {k o : Int} (h1 : 1 ≤ k) (h2 : k ≤ 5) (h3 : 1 ≤ o) (h4 : o ≤ 16777215) : newOk k o = true := by
  unfold newOk
  rw [decide_eq_true h1, decide_eq_true h2, decide_eq_true h3, decide_eq_true h4]; rfl
/-- How many versions an object has. -/
def Gr.count (G : Gr) (k o : Int) : Nat := (G.N.filter (Gr.same k o)).length
def Gr.newN (G : Gr) (k o : Int) : NodeD := ⟨k, o, G.count k o + 1, 0, 0, false⟩
def Gr.plus (G : Gr) (k o : Int) : Gr := ⟨G.N ++ [G.newN k o], G.E⟩
def Gr.addOk (G : Gr) (k o : Int) : Bool := newOk k o && decide (G.N.length < 4096)
def Gr.addG (G : Gr) (k o : Int) : Gr := if G.addOk k o then G.plus k o else G
def Gr.addI (G : Gr) (k o : Int) : Int := if G.addOk k o then (G.N.length : Int) else 0
def Gr.addE (G : Gr) (k o : Int) : Int := if newOk k o then (if G.N.length < 4096 then 0 else 5) else 1
theorem lastOf_some {k o : Int} : ∀ {l : List NodeD} {j i : Nat}, Gr.lastOf k o l j = some i → ∃ n x, i = j + n ∧ l[n]? = some x ∧ Gr.same k o x = true ∧ (l.drop (n + 1)).filter (Gr.same k o) = []
  | [], _, _, h => by cases h
  | x :: l, j, i, h => by
    unfold Gr.lastOf at h
    cases h2 : Gr.lastOf k o l (j + 1) with
    | some m =>
      rw [h2] at h
      obtain rfl : m = i := by simpa using h
      obtain ⟨n, y, h3, h4, h5, h6⟩ := lastOf_some h2
      exact ⟨n + 1, y, by omega, h4, h5, h6⟩
    | none =>
      rw [h2] at h
      cases h3 : Gr.same k o x with
      | false => simp [h3] at h
      | true =>
        simp only [h3, if_true, Option.some.injEq] at h
        refine ⟨0, x, by omega, rfl, h3, ?_⟩
        exact lastOf_none h2
where
  lastOf_none {k o : Int} : ∀ {l : List NodeD} {j : Nat}, Gr.lastOf k o l j = none → l.filter (Gr.same k o) = []
  | [], _, _ => rfl
  | x :: l, j, h => by
    unfold Gr.lastOf at h
    cases h2 : Gr.lastOf k o l (j + 1) with
    | some m => rw [h2] at h; cases h
    | none =>
      rw [h2] at h
      cases h3 : Gr.same k o x with
      | true => simp [h3] at h
      | false => rw [List.filter_cons_of_neg (by simp [h3])]; exact lastOf_none h2
theorem Gr.latest_none {G : Gr} {k o : Int} (h : G.latest k o = none) : G.count k o = 0 := by
  unfold Gr.count; rw [lastOf_some.lastOf_none h]; rfl
theorem Gr.latest_some {G : Gr} (hG : G.Ok) {k o : Int} {i : Nat} (h : G.latest k o = some i) : ∃ x, G.N[i]? = some x ∧ x.ver = G.count k o ∧ i < G.N.length := by
  obtain ⟨n, x, h1, h2, h3, h4⟩ := lastOf_some h
  rw [Nat.zero_add] at h1; subst h1
  refine ⟨x, h2, ?_, (List.getElem?_eq_some_iff.1 h2).1⟩
  rw [hG.vers i x h2]
  have hs : x.kind = k ∧ x.obj = o := by simpa [Gr.same] using h3
  rw [hs.1, hs.2]
  unfold Gr.count
  conv => rhs; rw [← List.take_append_drop (i + 1) G.N, List.filter_append, h4, List.append_nil]
theorem Gr.count_le (G : Gr) (k o : Int) : G.count k o ≤ G.N.length := List.length_filter_le _ _
theorem lastOf_snoc (k o : Int) (y : NodeD) : ∀ (l : List NodeD) (j : Nat), Gr.lastOf k o (l ++ [y]) j = if Gr.same k o y then some (j + l.length) else Gr.lastOf k o l j
  | [], j => by simp [Gr.lastOf]
  | x :: l, j => by
    rw [List.cons_append]
    unfold Gr.lastOf
    rw [lastOf_snoc k o y l (j + 1)]
    cases Gr.same k o y with
    | true => simp; omega
    | false => rfl
theorem Gr.plus_lat (G : Gr) (k o : Int) : (G.plus k o).latF = fun q => if q = (k, o) then some (G.N.length + 1) else G.latF q := by
  funext q
  obtain ⟨a, b⟩ := q
  unfold Gr.latF Gr.latest Gr.plus
  rw [lastOf_snoc]
  have e : Gr.same a b (G.newN k o) = decide (k = a ∧ o = b) := by rw [Bool.decide_and]; rfl
  rw [e]
  simp only [Nat.zero_add, Prod.mk.injEq]
  by_cases h : k = a ∧ o = b
  · rw [if_pos (by simpa using h), if_pos ⟨h.1.symm, h.2.symm⟩]; rfl
  · rw [if_neg (by simpa using h), if_neg (fun h2 => h ⟨h2.1.symm, h2.2.symm⟩)]
theorem Gr.plus_ups {G : Gr} (hG : G.Ok) (k o : Int) : (G.plus k o).upsL = G.upsL ++ [[]] := by
  have e : ∀ n, (G.plus k o).ups n = G.ups n := fun n => by
    have hl : (n, G.N.length) ∉ G.E := fun h => by have := (hG.low _ h).2; simp at this
    show (List.range (G.N ++ [G.newN k o]).length).filter (fun j => decide ((n, j) ∈ G.E)) = (List.range G.N.length).filter fun j => decide ((n, j) ∈ G.E)
    rw [List.length_append, List.length_singleton, List.range_succ, List.filter_append, List.filter_cons_of_neg (by simpa using hl), List.filter_nil, List.append_nil]
  unfold Gr.upsL
  rw [show (G.plus k o).ups = G.ups from funext e]
  rw [show (G.plus k o).N.length = G.N.length + 1 by simp [Gr.plus], List.range_succ, List.map_append]
  congr 1
  simp only [List.map_cons, List.map_nil, Gr.ups]
  congr 1
  apply List.filter_eq_nil_iff.2
  intro m _ h
  have := (hG.low _ (of_decide_eq_true h)).1
  simp at this
theorem Gr.plus_downs {G : Gr} (hG : G.Ok) (k o : Int) : (G.plus k o).downsL = G.downsL ++ [[]] := by
  have e : ∀ n, (G.plus k o).downs n = G.downs n := fun n => by
    have hl : (G.N.length, n) ∉ G.E := fun h => by have := (hG.low _ h).1; simp at this
    show (List.range (G.N ++ [G.newN k o]).length).filter (fun j => decide ((j, n) ∈ G.E)) = (List.range G.N.length).filter fun j => decide ((j, n) ∈ G.E)
    rw [List.length_append, List.length_singleton, List.range_succ, List.filter_append, List.filter_cons_of_neg (by simpa using hl), List.filter_nil, List.append_nil]
  unfold Gr.downsL
  rw [show (G.plus k o).downs = G.downs from funext e]
  rw [show (G.plus k o).N.length = G.N.length + 1 by simp [Gr.plus], List.range_succ, List.map_append]
  congr 1
  simp only [List.map_cons, List.map_nil, Gr.downs]
  congr 1
  apply List.filter_eq_nil_iff.2
  intro m _ h
  have := (hG.low _ (of_decide_eq_true h)).2
  simp at this
theorem Gr.plus_ok {G : Gr} (hG : G.Ok) {k o : Int} (h : G.N.length < 4096) : (G.plus k o).Ok where
  len := by simp [Gr.plus]; omega
  low := fun e he => by have := hG.low e he; simp [Gr.plus]; omega
  edges := hG.edges
  one := hG.one
  marks := fun x hx => by
    simp only [Gr.plus, List.mem_append, List.mem_singleton] at hx
    rcases hx with hx | rfl
    · exact hG.marks x hx
    · exact ⟨show 0 < 256 by decide, show 0 < 256 by decide⟩
  vers := fun i x hx => by
    simp only [Gr.plus] at hx ⊢
    rcases Nat.lt_trichotomy i G.N.length with hi | hi | hi
    · rw [List.getElem?_append_left hi] at hx
      rw [List.take_append_of_le_length (by omega)]
      exact hG.vers i x hx
    · subst hi
      rw [List.getElem?_append_right (Nat.le_refl _), Nat.sub_self] at hx
      obtain rfl : G.newN k o = x := by simpa using hx
      rw [List.take_of_length_le (by simp), List.filter_append]
      simp [Gr.newN, Gr.same, Gr.count]
    · rw [List.getElem?_eq_none (by simp; omega)] at hx; cases hx
theorem Gr.addG_ok {G : Gr} (hG : G.Ok) (k o : Int) : (G.addG k o).Ok := by
  unfold Gr.addG
  split
  · rename_i h
    simp only [Gr.addOk, Bool.and_eq_true, decide_eq_true_eq] at h
    exact plus_ok hG h.2
  · exact hG
theorem Gr.new_ok : Gr.new.Ok where
  len := by simp [Gr.new]
  low := by simp [Gr.new]
  edges := by simp [Gr.new]
  one := by simp [Gr.new]
  marks := by simp [Gr.new]
  vers := by simp [Gr.new]
theorem Gr.withN_ok {G : Gr} (hG : G.Ok) {N : List NodeD} (hN : N.map (fun x => (x.kind, x.obj)) = G.N.map (fun x => (x.kind, x.obj))) (hv : N.map NodeD.ver = G.N.map NodeD.ver) (hm : ∀ x ∈ N, x.mark < 256 ∧ x.clear < 256) : (G.withN N).Ok where
  len := by have := congrArg List.length hN; simp at this; simp only [Gr.withN]; rw [this]; exact hG.len
  low := by have := congrArg List.length hN; simp at this; simp only [Gr.withN]; rw [this]; exact hG.low
  edges := hG.edges
  one := hG.one
  marks := hm
  vers := fun i x hx => by
    simp only [Gr.withN] at hx ⊢
    have h1 : (N.map (fun x => (x.kind, x.obj)))[i]? = some (x.kind, x.obj) := by simp [hx]
    have h2 : (N.map NodeD.ver)[i]? = some x.ver := by simp [hx]
    rw [hN] at h1; rw [hv] at h2
    simp only [List.getElem?_map, Option.map_eq_some_iff] at h1 h2
    obtain ⟨y, hy, hy2⟩ := h1
    obtain ⟨y', hy', hy3⟩ := h2
    rw [hy] at hy'; cases hy'
    simp only [Prod.mk.injEq] at hy2
    have := hG.vers i y hy
    rw [hy3, hy2.1, hy2.2] at this
    rw [this]
    have hf : ∀ l : List NodeD, (l.filter (Gr.same x.kind x.obj)).length = ((l.map (fun x => (x.kind, x.obj))).filter (fun p => decide (p.1 = x.kind) && decide (p.2 = x.obj))).length := fun l => by
      rw [List.filter_map, List.length_map]; rfl
    rw [hf, hf, List.map_take, List.map_take, hN]
theorem Gr.nodeI_mem {G : Gr} {n : Int} (h : G.is n = true) : G.nodeI n ∈ G.N := by
  obtain ⟨k, rfl, hk⟩ := Gr.is_nat h
  rw [Gr.nodeI_at (List.getElem?_eq_getElem hk)]
  exact List.getElem_mem _
theorem or_256 {a t : Nat} (ha : a < 256) (ht : t < 8) : a ||| 2 ^ t < 256 := by
  have h2 : 2 ^ t < 2 ^ 8 := Nat.pow_lt_pow_right (by decide) ht
  exact Nat.or_lt_two_pow (n := 8) ha h2
theorem map_set_ver {N : List NodeD} {i : Nat} {x y : NodeD} (hx : N[i]? = some x) (hk : y.ver = x.ver) : (N.set i y).map NodeD.ver = N.map NodeD.ver := by
  apply List.ext_getElem?
  intro j
  simp only [List.getElem?_map, List.getElem?_set]
  by_cases h : i = j
  · subst h
    have := (List.getElem?_eq_some_iff.1 hx).1
    rw [if_pos rfl, if_pos this, hx]
    simp [hk]
  · simp [h]
theorem bitOk_is {G : Gr} {n s : Int} (h : bitOk G n s = true) : G.is n = true ∧ s.toNat < 8 := by
  simp only [bitOk, Bool.and_eq_true, decide_eq_true_eq] at h
  exact ⟨h.1.1, by omega⟩
theorem Gr.markG_ok {G : Gr} (hG : G.Ok) (n s : Int) : (G.markG n s).Ok := by
  unfold Gr.markG
  split
  · rename_i h
    obtain ⟨h1, h2⟩ := bitOk_is h
    obtain ⟨k, rfl, hk⟩ := Gr.is_nat h1
    have hx := List.getElem?_eq_getElem hk
    rw [Gr.nodeI_at hx, Int.toNat_natCast]
    refine withN_ok hG (map_set_same hx rfl rfl) (map_set_ver hx rfl) fun y hy => ?_
    rcases List.mem_or_eq_of_mem_set hy with hy | rfl
    · exact hG.marks y hy
    · have := hG.marks _ (List.mem_of_getElem? hx)
      exact ⟨or_256 this.1 h2, this.2⟩
  · exact hG
theorem Gr.clearG_ok {G : Gr} (hG : G.Ok) (n s : Int) : (G.clearG n s).Ok := by
  unfold Gr.clearG
  split
  · rename_i h
    obtain ⟨h1, h2⟩ := bitOk_is h
    obtain ⟨k, rfl, hk⟩ := Gr.is_nat h1
    have hx := List.getElem?_eq_getElem hk
    rw [Gr.nodeI_at hx, Int.toNat_natCast]
    refine withN_ok hG (map_set_same hx rfl rfl) (map_set_ver hx rfl) fun y hy => ?_
    rcases List.mem_or_eq_of_mem_set hy with hy | rfl
    · exact hG.marks y hy
    · have := hG.marks _ (List.mem_of_getElem? hx)
      exact ⟨this.1, or_256 this.2 h2⟩
  · exact hG
theorem Gr.lostG_ok {G : Gr} (hG : G.Ok) (a b : Int) : (G.lostG a b).Ok := by
  unfold Gr.lostG
  split
  · refine withN_ok hG (orphN_same _ _ _) ?_ fun y hy => ?_
    · apply List.ext_getElem?
      intro i
      rw [List.getElem?_map, orphN_at, List.getElem?_map]
      cases G.N[i]? with
      | none => rfl
      | some y => simp only [Option.map_some]; split <;> rfl
    · obtain ⟨i, hi⟩ := List.mem_iff_getElem?.1 hy
      rw [orphN_at] at hi
      obtain ⟨x, hx, rfl⟩ := Option.map_eq_some_iff.1 hi
      have := hG.marks x (List.mem_of_getElem? hx)
      split <;> exact this
  · exact hG
end Go.Proofs.Ytapodjhkpahdnaa
