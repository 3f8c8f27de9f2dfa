/-
  LabelKeeps: what the cache knows of a graph (plain).
-/
import Derived.Test.YtapodjhkpahdnaaLbOps
namespace Go.Proofs.Ytapodjhkpahdnaa
open Go.Sep
set_option linter.unusedSimpArgs false
set_option linter.unusedVariables false
/-- The cache knows the graph. -/
def Knows (f : Int → Option (Nat × Nat)) (G : Gr) : Prop := ∀ (n : Nat) (x : NodeD), G.N[n]? = some x → cv f (n : Int) = (orL G.lab (G.ups n) x.mark, x.clear)
theorem Knows.lab {f : Int → Option (Nat × Nat)} {G : Gr} (h : Knows f G) (hG : G.Ok) {n : Nat} (hn : n < G.N.length) : clab f (n : Int) = G.lab n := by
  obtain ⟨x, hx⟩ : ∃ x, G.N[n]? = some x := ⟨_, List.getElem?_eq_getElem hn⟩
  unfold clab
  rw [h n x hx]
  exact Gr.lab_eq hG hx
theorem Knows.small {f : Int → Option (Nat × Nat)} {G : Gr} (h : Knows f G) (hG : G.Ok) {n : Nat} (hn : n < G.N.length) : (cv f (n : Int)).1 < 256 ∧ (cv f (n : Int)).2 < 256 := by
  obtain ⟨x, hx⟩ : ∃ x, G.N[n]? = some x := ⟨_, List.getElem?_eq_getElem hn⟩
  have hm := hG.marks x (List.mem_of_getElem? hx)
  rw [h n x hx]
  exact ⟨orL_lt G.lab_lt _ hm.1, hm.2⟩
theorem cv_upd (f : Int → Option (Nat × Nat)) (k : Int) (x : Nat × Nat) (n : Int) : cv (updC f k x) n = if n = k then x else cv f n := by
  unfold cv updC
  split <;> rfl
/-- Alike but in one node, from which nothing comes. -/
structure Alike (a : Nat) (G H : Gr) : Prop where
  node : ∀ m : Nat, m ≠ a → G.N[m]? = H.N[m]?
  edge : ∀ m u : Nat, m ≠ a → ((m, u) ∈ G.E ↔ (m, u) ∈ H.E)
  open' : ∀ m : Nat, m ≠ a → (m, a) ∉ G.E
theorem Alike.symm {a : Nat} {G H : Gr} (h : Alike a G H) : Alike a H G := ⟨fun m hm => (h.node m hm).symm, fun m u hm => (h.edge m u hm).symm, fun m hm he => h.open' m hm ((h.edge m a hm).2 he)⟩
theorem Alike.src {a : Nat} {G H : Gr} (h : Alike a G H) {s n : Nat} (hn : n ≠ a) (hs : G.Src s n) : H.Src s n :=
  hs (fun m => m ≠ a → H.Src s m) (fun m x hx h1 h2 hm => Gr.Src.base (by rw [← h.node m hm]; exact hx) h1 h2)
    (fun m u x he hx h2 hu hm => Gr.Src.step ((h.edge m u hm).1 he) (by rw [← h.node m hm]; exact hx) h2 (hu fun e => h.open' m hm (e ▸ he))) hn
theorem lab_ext {G H : Gr} {n k : Nat} (h : ∀ s, G.Src s n ↔ H.Src s k) : G.lab n = H.lab k := by
  apply Nat.eq_of_testBit_eq
  intro s
  rw [Gr.lab_test, Gr.lab_test]
  congr 1
  rw [Bool.eq_iff_iff, Gr.srcB_iff, Gr.srcB_iff]
  exact h s
theorem Alike.lab {a : Nat} {G H : Gr} (h : Alike a G H) {n : Nat} (hn : n ≠ a) : G.lab n = H.lab n := lab_ext fun _ => ⟨h.src hn, h.symm.src hn⟩
theorem orL_mem {f g : Nat → Nat} {l k : List Nat} {m : Nat} (h : ∀ u, u ∈ l ↔ u ∈ k) (hf : ∀ u ∈ l, f u = g u) : orL f l m = orL g k m := by
  apply Nat.eq_of_testBit_eq
  intro s
  rw [orL_test, orL_test]
  congr 1
  rw [Bool.eq_iff_iff, List.any_eq_true, List.any_eq_true]
  constructor
  · rintro ⟨u, hu, hs⟩
    exact ⟨u, (h u).1 hu, by rw [← hf u hu]; exact hs⟩
  · rintro ⟨u, hu, hs⟩
    exact ⟨u, (h u).2 hu, by rw [hf u ((h u).2 hu)]; exact hs⟩
theorem orL_more {f : Nat → Nat} {l : List Nat} {m x : Nat} : orL f l (m ||| x) = orL f l m ||| x := by
  apply Nat.eq_of_testBit_eq
  intro s
  rw [orL_test, Nat.testBit_or, Nat.testBit_or, orL_test]
  cases m.testBit s <;> cases x.testBit s <;> simp
/-- Another node's row stays. -/
theorem Alike.row {a : Nat} {G H : Gr} (h : Alike a G H) (hG : G.Ok) (hH : H.Ok) {n : Nat} (hn : n ≠ a) (m : Nat) : orL G.lab (G.ups n) m = orL H.lab (H.ups n) m := by
  refine orL_mem (fun u => ?_) fun u hu => ?_
  · rw [Gr.mem_ups, Gr.mem_ups]
    constructor
    · exact fun ⟨_, h2⟩ => ⟨(hH.low _ ((h.edge n u hn).1 h2)).2, (h.edge n u hn).1 h2⟩
    · exact fun ⟨_, h2⟩ => ⟨(hG.low _ ((h.edge n u hn).2 h2)).2, (h.edge n u hn).2 h2⟩
  · exact h.lab fun e => h.open' n hn (e ▸ (Gr.mem_ups.1 hu).2)
theorem Knows.turn {f : Int → Option (Nat × Nat)} {a : Nat} {G H : Gr} {y : Nat × Nat} (h : Knows f G) (hl : Alike a G H) (hG : G.Ok) (hH : H.Ok) (hy : ∀ x, H.N[a]? = some x → y = (orL H.lab (H.ups a) x.mark, x.clear)) : Knows (updC f (a : Int) y) H := fun n x hx => by
  rw [cv_upd]
  by_cases hn : n = a
  · subst hn
    rw [if_pos rfl]
    exact hy x hx
  · rw [if_neg (by omega)]
    rw [h n x (by rw [hl.node n hn]; exact hx), hl.row hG hH hn]
theorem Knows.none : Knows (fun _ => Option.none) Gr.new := fun n x hx => by cases hx
theorem Knows.plus {f : Int → Option (Nat × Nat)} {G : Gr} (h : Knows f G) (hG : G.Ok) {k o : Int} (hl : G.N.length < 4096) : Knows (updC f (G.N.length : Int) (0, 0)) (G.plus k o) := by
  have hP := Gr.plus_ok (k := k) (o := o) hG hl
  have hno : ∀ m, (m, G.N.length) ∉ G.E := fun m he => by have := (hG.low _ he).2; simp at this
  have hno2 : ∀ m, (G.N.length, m) ∉ G.E := fun m he => by have := (hG.low _ he).1; simp at this
  refine h.turn (a := G.N.length) ⟨fun m hm => ?_, fun m u _ => Iff.rfl, fun m _ => hno m⟩ hG hP fun x hx => ?_
  · show G.N[m]? = (G.N ++ [G.newN k o])[m]?
    by_cases h2 : m < G.N.length
    · rw [List.getElem?_append_left h2]
    · rw [List.getElem?_eq_none (by omega), List.getElem?_eq_none (by simp; omega)]
  · have hx2 : (G.N ++ [G.newN k o])[G.N.length]? = some x := hx
    rw [List.getElem?_append_right (Nat.le_refl _), Nat.sub_self] at hx2
    cases hx2
    have hu : (G.plus k o).ups G.N.length = [] := List.filter_eq_nil_iff.2 fun u _ he => hno2 u (of_decide_eq_true he)
    rw [hu]; rfl
theorem open_of {G : Gr} {a : Nat} (hG : G.Ok) (h : G.downs a = []) : ∀ m, (m, a) ∉ G.E := fun m he => by
  have := Gr.mem_downs.2 ⟨(hG.low _ he).1, he⟩
  rw [h] at this; cases this
theorem Knows.link {f : Int → Option (Nat × Nat)} {G : Gr} (h : Knows f G) (hG : G.Ok) {a b : Nat} (ha : a < G.N.length) (hb : b < G.N.length) (hab : a ≠ b) (hn : (a, b) ∉ G.E) (hl : G.E.length < 1000000) (ho : G.downs a = []) (hA : G.Acyc) :
    Knows (updC f (a : Int) ((cv f (a : Int)).1 ||| clab f (b : Int), (cv f (a : Int)).2)) (G.link a b) := by
  have hop := open_of hG ho
  have hH := Gr.link_ok hG ha hb hn hl
  have hal : Alike a G (G.link a b) := ⟨fun m _ => rfl, fun m u hm => by rw [Gr.mem_link]; exact ⟨.inl, fun h => h.resolve_right fun e => hm e.1⟩, fun m _ => hop m⟩
  refine h.turn hal hG hH fun x hx => ?_
  have hx : G.N[a]? = some x := hx
  rw [h a x hx, h.lab hG hb]
  simp only [Prod.mk.injEq, and_true]
  rw [Gr.link_ups hb hn, if_pos rfl]
  have e1 : orL (G.link a b).lab (ins (G.ups a) b) x.mark = orL G.lab (G.ups a ++ [b]) x.mark := orL_mem (fun u => by rw [ins_mem, List.mem_append, List.mem_singleton]; exact or_comm) fun u hu => by
    rcases ins_mem.1 hu with rfl | hu
    · exact (hal.lab (fun e => hab e.symm)).symm
    · exact (hal.lab (fun e => hop a (by have h2 := (Gr.mem_ups.1 hu).2; rw [e] at h2; exact h2))).symm
  rw [e1, orL_snoc]
theorem Knows.mark {f : Int → Option (Nat × Nat)} {G : Gr} (h : Knows f G) (hG : G.Ok) {a s : Nat} (ha : a < G.N.length) (hs : s < 8) (ho : G.downs a = []) : Knows (updC f (a : Int) ((cv f (a : Int)).1 ||| 2 ^ s, (cv f (a : Int)).2)) (G.markG (a : Int) (s : Int)) := by
  have hop := open_of hG ho
  have hH := Gr.markG_ok hG (a : Int) (s : Int)
  have hb := bitOk_yes (G := G) ha hs
  obtain ⟨x, hx⟩ : ∃ x, G.N[a]? = some x := ⟨_, List.getElem?_eq_getElem ha⟩
  have e : G.markG (a : Int) (s : Int) = G.withN (G.N.set a { x with mark := x.mark ||| 2 ^ s }) := by
    unfold Gr.markG
    rw [hb, if_pos rfl, Gr.nodeI_at hx, Int.toNat_natCast, Int.toNat_natCast]
  rw [e] at hH ⊢
  have hal : Alike a G (G.withN (G.N.set a { x with mark := x.mark ||| 2 ^ s })) := ⟨fun m hm => by show _ = (G.N.set a _)[m]?; rw [List.getElem?_set, if_neg (fun e => hm e.symm)], fun m u _ => Iff.rfl, fun m _ => hop m⟩
  refine h.turn hal hG hH fun y hy => ?_
  have hy : (G.N.set a { x with mark := x.mark ||| 2 ^ s })[a]? = some y := hy
  rw [List.getElem?_set, if_pos rfl, if_pos ha] at hy
  cases hy
  rw [h a x hx]
  simp only [Prod.mk.injEq, and_true]
  rw [← orL_more]
  refine orL_mem (fun u => ?_) fun u hu => ?_
  · rw [Gr.mem_ups, Gr.mem_ups]
    show u < G.N.length ∧ _ ↔ u < (G.N.set a _).length ∧ _
    rw [List.length_set]; exact Iff.rfl
  · exact hal.lab fun e => hop a (e ▸ (Gr.mem_ups.1 hu).2)
theorem Knows.clear {f : Int → Option (Nat × Nat)} {G : Gr} (h : Knows f G) (hG : G.Ok) {a s : Nat} (ha : a < G.N.length) (hs : s < 8) (ho : G.downs a = []) : Knows (updC f (a : Int) ((cv f (a : Int)).1, (cv f (a : Int)).2 ||| 2 ^ s)) (G.clearG (a : Int) (s : Int)) := by
  have hop := open_of hG ho
  have hH := Gr.clearG_ok hG (a : Int) (s : Int)
  have hb := bitOk_yes (G := G) ha hs
  obtain ⟨x, hx⟩ : ∃ x, G.N[a]? = some x := ⟨_, List.getElem?_eq_getElem ha⟩
  have e : G.clearG (a : Int) (s : Int) = G.withN (G.N.set a { x with clear := x.clear ||| 2 ^ s }) := by
    unfold Gr.clearG
    rw [hb, if_pos rfl, Gr.nodeI_at hx, Int.toNat_natCast, Int.toNat_natCast]
  rw [e] at hH ⊢
  have hal : Alike a G (G.withN (G.N.set a { x with clear := x.clear ||| 2 ^ s })) := ⟨fun m hm => by show _ = (G.N.set a _)[m]?; rw [List.getElem?_set, if_neg (fun e => hm e.symm)], fun m u _ => Iff.rfl, fun m _ => hop m⟩
  refine h.turn hal hG hH fun y hy => ?_
  have hy : (G.N.set a { x with clear := x.clear ||| 2 ^ s })[a]? = some y := hy
  rw [List.getElem?_set, if_pos rfl, if_pos ha] at hy
  cases hy
  rw [h a x hx]
  simp only [Prod.mk.injEq, and_true]
  refine orL_mem (fun u => ?_) fun u hu => ?_
  · rw [Gr.mem_ups, Gr.mem_ups]
    show u < G.N.length ∧ _ ↔ u < (G.N.set a _).length ∧ _
    rw [List.length_set]; exact Iff.rfl
  · exact hal.lab fun e => hop a (e ▸ (Gr.mem_ups.1 hu).2)
end Go.Proofs.Ytapodjhkpahdnaa
