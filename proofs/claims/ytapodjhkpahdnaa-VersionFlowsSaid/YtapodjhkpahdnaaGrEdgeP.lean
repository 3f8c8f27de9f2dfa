/-
  Graphs of versions: an edge more (plain).
-/
import Derived.Test.YtapodjhkpahdnaaGrAboveP
namespace Go.Proofs.Ytapodjhkpahdnaa
open Go.Sep
set_option linter.unusedSimpArgs false
set_option linter.unusedVariables false
theorem ins_cons {y : Nat} {l : List Nat} (hs : (y :: l).Pairwise (· < ·)) (x : Nat) : ins (y :: l) x = if y < x then y :: ins l x else x :: y :: l := by
  unfold ins insAt
  rw [List.pairwise_cons] at hs
  by_cases h : y < x
  · rw [if_pos h, List.countP_cons_of_pos (by simpa using h)]; rfl
  · rw [if_neg h, List.countP_cons_of_neg (by simpa using h)]
    have h0 : l.countP (fun z => decide (z < x)) = 0 := List.countP_eq_zero.2 fun z hz => by have := hs.1 z hz; simp; omega
    rw [h0]; rfl
theorem ins_mem {x z : Nat} {l : List Nat} : z ∈ ins l x ↔ z = x ∨ z ∈ l := by
  unfold ins insAt
  rw [List.mem_append, List.mem_cons]
  conv => rhs; rw [← List.take_append_drop (l.countP (· < x)) l, List.mem_append]
  constructor
  · rintro (h | rfl | h)
    · exact .inr (.inl h)
    · exact .inl rfl
    · exact .inr (.inr h)
  · rintro (rfl | h | h)
    · exact .inr (.inl rfl)
    · exact .inl h
    · exact .inr (.inr h)
theorem ins_lt : ∀ {l : List Nat} {x : Nat}, l.Pairwise (· < ·) → x ∉ l → (ins l x).Pairwise (· < ·)
  | [], x, _, _ => by simp [ins, insAt]
  | y :: l, x, hs, hx => by
    rw [ins_cons hs]
    have hs' := List.pairwise_cons.1 hs
    have hne : y ≠ x := fun e => hx (e ▸ List.mem_cons_self ..)
    split
    · rename_i h
      rw [List.pairwise_cons]
      refine ⟨fun z hz => ?_, ins_lt hs'.2 fun h2 => hx (List.mem_cons_of_mem _ h2)⟩
      rcases ins_mem.1 hz with rfl | hz
      · exact h
      · exact hs'.1 z hz
    · rename_i h
      rw [List.pairwise_cons]
      refine ⟨fun z hz => ?_, hs⟩
      rcases List.mem_cons.1 hz with rfl | hz
      · omega
      · have := hs'.1 z hz; omega
theorem ins_ne (l : List Nat) (x : Nat) : ins l x ≠ [] := by unfold ins insAt; simp
theorem ins_len (l : List Nat) (x : Nat) : (ins l x).length = l.length + 1 := by
  have := List.countP_le_length (p := (· < x)) (l := l)
  unfold ins insAt
  rw [List.length_append, List.length_cons, List.length_take, List.length_drop]
  omega
namespace Gr
def link (G : Gr) (a b : Nat) : Gr := ⟨G.N, G.E ++ [(a, b)]⟩
theorem ups_lt (G : Gr) (n : Nat) : (G.ups n).Pairwise (· < ·) := List.Pairwise.filter _ List.pairwise_lt_range
theorem downs_lt (G : Gr) (n : Nat) : (G.downs n).Pairwise (· < ·) := List.Pairwise.filter _ List.pairwise_lt_range
theorem link_ups {G : Gr} {a b : Nat} (hb : b < G.N.length) (hn : (a, b) ∉ G.E) (n : Nat) : (G.link a b).ups n = if n = a then ins (G.ups a) b else G.ups n := by
  split
  · rename_i h
    subst h
    refine sorted_eq (ups_lt _ _) (ins_lt (ups_lt _ _) fun h => hn (mem_ups.1 h).2) fun z => ?_
    rw [ins_mem, mem_ups, mem_ups]
    simp only [link, List.mem_append, List.mem_singleton, Prod.mk.injEq, true_and]
    constructor
    · rintro ⟨h1, h2 | h2⟩
      · exact .inr ⟨h1, h2⟩
      · exact .inl h2
    · rintro (rfl | ⟨h1, h2⟩)
      · exact ⟨hb, .inr rfl⟩
      · exact ⟨h1, .inl h2⟩
  · rename_i h
    refine sorted_eq (ups_lt _ _) (ups_lt _ _) fun z => ?_
    rw [mem_ups, mem_ups]
    simp only [link, List.mem_append, List.mem_singleton, Prod.mk.injEq]
    constructor
    · rintro ⟨h1, h2 | h2⟩
      · exact ⟨h1, h2⟩
      · exact absurd h2.1 h
    · exact fun ⟨h1, h2⟩ => ⟨h1, .inl h2⟩
theorem link_downs {G : Gr} {a b : Nat} (ha : a < G.N.length) (hn : (a, b) ∉ G.E) (n : Nat) : (G.link a b).downs n = if n = b then ins (G.downs b) a else G.downs n := by
  split
  · rename_i h
    subst h
    refine sorted_eq (downs_lt _ _) (ins_lt (downs_lt _ _) fun h => hn (mem_downs.1 h).2) fun z => ?_
    rw [ins_mem, mem_downs, mem_downs]
    simp only [link, List.mem_append, List.mem_singleton, Prod.mk.injEq, and_true]
    constructor
    · rintro ⟨h1, h2 | h2⟩
      · exact .inr ⟨h1, h2⟩
      · exact .inl h2
    · rintro (rfl | ⟨h1, h2⟩)
      · exact ⟨ha, .inr rfl⟩
      · exact ⟨h1, .inl h2⟩
  · rename_i h
    refine sorted_eq (downs_lt _ _) (downs_lt _ _) fun z => ?_
    rw [mem_downs, mem_downs]
    simp only [link, List.mem_append, List.mem_singleton, Prod.mk.injEq]
    constructor
    · rintro ⟨h1, h2 | h2⟩
      · exact ⟨h1, h2⟩
      · exact absurd h2.2 h
    · exact fun ⟨h1, h2⟩ => ⟨h1, .inl h2⟩
theorem map_range_set {f g : Nat → List Nat} {n i : Nat} {v : List Nat} (hi : i < n) (h : ∀ k, g k = if k = i then v else f k) : (List.range n).map g = ((List.range n).map f).set i v := by
  apply List.ext_getElem?
  intro k
  simp only [List.getElem?_map, List.getElem?_set, List.length_map, List.length_range]
  by_cases hk : k < n
  · rw [List.getElem?_range hk, Option.map_some, h k]
    by_cases hik : i = k
    · subst hik; rw [if_pos rfl, if_pos rfl, if_pos hi]
    · rw [if_neg (fun e => hik e.symm), if_neg hik]; rfl
  · rw [List.getElem?_eq_none (by simpa using hk), if_neg (by omega)]; rfl
theorem link_upsL {G : Gr} {a b : Nat} (ha : a < G.N.length) (hb : b < G.N.length) (hn : (a, b) ∉ G.E) : (G.link a b).upsL = G.upsL.set a (ins (G.ups a) b) :=
  map_range_set (f := G.ups) (g := (G.link a b).ups) (n := G.N.length) ha (link_ups hb hn)
theorem link_downsL {G : Gr} {a b : Nat} (ha : a < G.N.length) (hb : b < G.N.length) (hn : (a, b) ∉ G.E) : (G.link a b).downsL = G.downsL.set b (ins (G.downs b) a) :=
  map_range_set (f := G.downs) (g := (G.link a b).downs) (n := G.N.length) hb (link_downs ha hn)
theorem has_nat {G : Gr} {a b : Nat} : G.has ((a : Int), (b : Int)) = true ↔ (a, b) ∈ G.E := by
  unfold has
  rw [List.any_eq_true]
  constructor
  · rintro ⟨⟨x, y⟩, hx, he⟩
    simp only [Bool.and_eq_true, decide_eq_true_eq] at he
    obtain ⟨h1, h2⟩ := he
    obtain rfl : x = a := by omega
    obtain rfl : y = b := by omega
    exact hx
  · exact fun h => ⟨_, h, by simp⟩
theorem link_edges (G : Gr) (a b : Nat) : (fun q : Int × Int => if q = ((a : Int), (b : Int)) then some true else G.edgesF q) = (G.link a b).edgesF := by
  funext q
  unfold edgesF has link
  rw [List.any_append]
  simp only [List.any_cons, List.any_nil, Bool.or_false]
  by_cases h : q = ((a : Int), (b : Int))
  · subst h; simp
  · rw [if_neg h]
    have h2 : (decide ((a : Int) = q.1) && decide ((b : Int) = q.2)) = false := by
      cases h3 : (decide ((a : Int) = q.1) && decide ((b : Int) = q.2)) with
      | false => rfl
      | true =>
        simp only [Bool.and_eq_true, decide_eq_true_eq] at h3
        exact absurd (Prod.ext h3.1.symm h3.2.symm) h
    rw [h2, Bool.or_false]
theorem link_ok {G : Gr} (hG : G.Ok) {a b : Nat} (ha : a < G.N.length) (hb : b < G.N.length) (hn : (a, b) ∉ G.E) (hl : G.E.length < 1000000) : (G.link a b).Ok where
  len := hG.len
  low := fun e he => by
    simp only [link, List.mem_append, List.mem_singleton] at he
    rcases he with he | rfl
    · exact hG.low e he
    · exact ⟨ha, hb⟩
  edges := by simp [link]; omega
  one := by
    simp only [link]
    rw [List.nodup_append]
    exact ⟨hG.one, by simp, fun x hx y hy => by rw [List.mem_singleton.1 hy]; rintro rfl; exact hn hx⟩
  marks := hG.marks
  vers := hG.vers
end Gr
noncomputable def Gr.edgeE (G : Gr) (a b : Int) : Int := if !G.is a || !G.is b || decide (a = b) then 1 else if G.has (a, b) then 23 else if G.reaches b a then 11 else 0
noncomputable def Gr.edgeG (G : Gr) (a b : Int) : Gr := if G.edgeE a b = 0 then G.link a.toNat b.toNat else G
theorem Gr.edge_yes {G : Gr} {a b : Int} (h : G.edgeE a b = 0) : ∃ x y : Nat, a = x ∧ b = y ∧ x < G.N.length ∧ y < G.N.length ∧ x ≠ y ∧ (x, y) ∉ G.E ∧ ¬ G.Reach y x := by
  unfold Gr.edgeE at h
  split at h
  · cases h
  · rename_i h1
    simp only [Bool.or_eq_true, Bool.not_eq_true', decide_eq_true_eq, not_or, Bool.not_eq_false] at h1
    obtain ⟨⟨h1, h2⟩, h3⟩ := h1
    obtain ⟨x, rfl, hx⟩ := Gr.is_nat h1
    obtain ⟨y, rfl, hy⟩ := Gr.is_nat h2
    split at h
    · cases h
    · rename_i h4
      split at h
      · cases h
      · rename_i h5
        refine ⟨x, y, rfl, rfl, hx, hy, by omega, fun he => h4 (Gr.has_nat.2 he), fun hr => h5 ?_⟩
        unfold Gr.reaches Gr.aboveI
        rw [if_pos h2]
        exact List.any_eq_true.2 ⟨x, Gr.mem_above.2 ⟨hx, hr⟩, by simp⟩
theorem Gr.edgeG_ok {G : Gr} (hG : G.Ok) (a b : Int) (hl : G.E.length < 1000000) : (G.edgeG a b).Ok := by
  unfold Gr.edgeG
  split
  · rename_i h
    obtain ⟨x, y, rfl, rfl, hx, hy, _, hn, _⟩ := Gr.edge_yes h
    exact Gr.link_ok hG hx hy hn hl
  · exact hG
end Go.Proofs.Ytapodjhkpahdnaa
