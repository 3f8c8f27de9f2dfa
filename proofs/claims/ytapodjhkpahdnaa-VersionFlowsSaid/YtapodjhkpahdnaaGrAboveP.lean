/-
  Graphs of versions: what is above a node (plain).
-/
import Derived.Test.YtapodjhkpahdnaaGrSl
import Derived.Test.YtapodjhkpahdnaaGrAddP
import Derived.ScopeJumps
namespace Go
theorem wp_scope_jumps2 {P : Program} {a : Act} {w : World} {Q : Exit → Act → World → Prop} {c rest : Code} (l : Nat) (J : Act → World → Prop) (μ : Act → World → Nat) (hf : findLabel c l = some rest)
    (pass : ∀ a w, J a w → rest.wp P (Exit.jump l (fun a' w' => J a' w' ∧ μ a' w' < μ a w) Q) a w) (first : (∀ a w, J a w → rest.wp P (Exit.jump l J Q) a w) → c.wp P (Exit.jump l J Q) a w) : (Code.scope c).wp P Q a w :=
  wp_scope_jumps l J μ hf (first fun a w h => Code.wp_mono (fun e a' w' h2 => by
    cases e with
    | goto l' => exact ⟨h2.1, h2.2.1⟩
    | _ => exact h2) (pass a w h)) pass
/-- The same; the label is passed over. -/
theorem wp_scope_jumps3 {P : Program} {a : Act} {w : World} {Q : Exit → Act → World → Prop} {c r : Code} (l : Nat) (J : Act → World → Prop) (μ : Act → World → Nat) (hf : findLabel c l = some (Code.skip.seq r))
    (pass : ∀ a w, J a w → r.wp P (Exit.jump l (fun a' w' => J a' w' ∧ μ a' w' < μ a w) Q) a w) (first : (∀ a w, J a w → r.wp P (Exit.jump l J Q) a w) → c.wp P (Exit.jump l J Q) a w) : (Code.scope c).wp P Q a w :=
  wp_scope_jumps l J μ hf (first fun a w h => Code.wp_mono (fun e a' w' h2 => by
    cases e with
    | goto l' => exact ⟨h2.1, h2.2.1⟩
    | _ => exact h2) (pass a w h)) fun a w h => wp_seq (wp_skip (pass a w h))
end Go
namespace Go.Proofs.Ytapodjhkpahdnaa
open Go.Sep
set_option linter.unusedSimpArgs false
set_option linter.unusedVariables false
theorem sorted_eq : ∀ {l m : List Nat}, l.Pairwise (· < ·) → m.Pairwise (· < ·) → (∀ x, x ∈ l ↔ x ∈ m) → l = m
  | [], [], _, _, _ => rfl
  | [], y :: m, _, _, h => absurd ((h y).2 (List.mem_cons_self ..)) (by simp)
  | x :: l, [], _, _, h => absurd ((h x).1 (List.mem_cons_self ..)) (by simp)
  | x :: l, y :: m, hl, hm, h => by
    rw [List.pairwise_cons] at hl hm
    have hxy : x = y := by
      have h1 := (h x).1 (List.mem_cons_self ..)
      have h2 := (h y).2 (List.mem_cons_self ..)
      rw [List.mem_cons] at h1 h2
      rcases h1 with h1 | h1
      · exact h1
      · rcases h2 with h2 | h2
        · exact h2.symm
        · have := hm.1 x h1; have := hl.1 y h2; omega
    subst hxy
    congr 1
    refine sorted_eq hl.2 hm.2 fun z => ?_
    have hz := h z
    rw [List.mem_cons, List.mem_cons] at hz
    constructor
    · intro h1
      rcases hz.1 (.inr h1) with rfl | h2
      · have := hl.1 z h1; omega
      · exact h2
    · intro h1
      rcases hz.2 (.inr h1) with rfl | h2
      · have := hm.1 z h1; omega
      · exact h2
theorem srt_mem {l : List Nat} {x : Nat} : x ∈ srt l ↔ x ∈ l := by unfold srt; exact List.mem_mergeSort
theorem srt_lt {l : List Nat} (h : l.Nodup) : (srt l).Pairwise (· < ·) := by
  have h1 : (srt l).Pairwise fun x y => decide (x ≤ y) = true := List.pairwise_mergeSort (fun a b c h1 h2 => by simp only [decide_eq_true_eq] at *; omega) (fun a b => by simp; omega) l
  have h2 : (srt l).Nodup := (List.mergeSort_perm l _).nodup_iff.2 h
  refine (List.Pairwise.and h1 h2).imp fun {a b} h => ?_
  have := of_decide_eq_true h.1
  have := h.2
  omega
theorem nodup_len : ∀ {n : Nat} {l : List Nat}, l.Nodup → (∀ x ∈ l, x < n) → l.length ≤ n
  | 0, [], _, _ => Nat.le_refl _
  | 0, x :: _, _, h => absurd (h x (List.mem_cons_self ..)) (by omega)
  | n + 1, l, hd, h => by
    have h2 := nodup_len (n := n) (l := l.erase n) (hd.erase n) fun x hx => by
      have h3 := (List.Nodup.mem_erase_iff hd).1 hx
      have := h x h3.2
      have := h3.1
      omega
    rw [List.length_erase] at h2
    split at h2 <;> omega
namespace Gr
open Classical in
noncomputable def above (G : Gr) (n : Nat) : List Nat := (List.range G.N.length).filter fun k => decide (G.Reach n k)
noncomputable def aboveI (G : Gr) (n : Int) : List Nat := if G.is n then G.above n.toNat else []
end Gr
theorem Gr.mem_above {G : Gr} {n k : Nat} : k ∈ G.above n ↔ k < G.N.length ∧ G.Reach n k := by simp [Gr.above]
theorem Gr.above_lt (G : Gr) (n : Nat) : (G.above n).Pairwise (· < ·) := List.Pairwise.filter _ List.pairwise_lt_range
theorem Gr.above_len (G : Gr) (n : Nat) : (G.above n).length ≤ G.N.length := by
  have := List.length_filter_le (fun k => @decide (G.Reach n k) (Classical.propDecidable _)) (List.range G.N.length)
  simpa [Gr.above] using this
/-- Does one come from the other? -/
noncomputable def Gr.reaches (G : Gr) (a b : Int) : Bool := (G.aboveI a).any fun y => decide ((y : Int) = b)
/-- A list of what was found, of which so many have been looked at. -/
structure Wk (G : Gr) (n : Nat) (l : List Nat) (i : Nat) : Prop where
  nd : l.Nodup
  src : n ∈ l
  low : ∀ x ∈ l, x < G.N.length
  reach : ∀ x ∈ l, G.Reach n x
  done : ∀ j x, j < i → l[j]? = some x → ∀ y, (x, y) ∈ G.E → y ∈ l
  le : i ≤ l.length
def addS (l : List Nat) (y : Nat) : List Nat := if y ∈ l then l else l ++ [y]
theorem mem_addS {l : List Nat} {y z : Nat} : z ∈ addS l y ↔ z ∈ l ∨ z = y := by
  unfold addS
  split
  · rename_i h
    exact ⟨.inl, fun h2 => h2.elim id fun e => e ▸ h⟩
  · simp
theorem addS_at {l : List Nat} {y i x : Nat} (h : l[i]? = some x) : (addS l y)[i]? = some x := by
  unfold addS
  split
  · exact h
  · rw [List.getElem?_append_left (List.getElem?_eq_some_iff.1 h).1]; exact h
theorem Wk.start {G : Gr} {n : Nat} (h : n < G.N.length) : Wk G n [n] 0 where
  nd := by simp
  src := by simp
  low := by simpa using h
  reach := fun x hx => by rw [List.mem_singleton.1 hx]; exact Gr.Reach.refl G n
  done := by intro j x hj; omega
  le := by simp
theorem Wk.add {G : Gr} (hG : G.Ok) {n i x y : Nat} {l : List Nat} (h : Wk G n l i) (hx : l[i]? = some x) (hy : y ∈ G.ups x) : Wk G n (addS l y) i where
  nd := by
    unfold addS
    split
    · exact h.nd
    · rename_i hn
      rw [List.nodup_append]
      exact ⟨h.nd, by simp, fun a ha b hb => by rw [List.mem_singleton.1 hb]; rintro rfl; exact hn ha⟩
  src := mem_addS.2 (.inl h.src)
  low := fun z hz => by
    rcases mem_addS.1 hz with hz | rfl
    · exact h.low z hz
    · exact (Gr.mem_ups.1 hy).1
  reach := fun z hz => by
    rcases mem_addS.1 hz with hz | rfl
    · exact h.reach z hz
    · exact (h.reach x (List.mem_of_getElem? hx)).snoc (Gr.mem_ups.1 hy).2
  done := fun j z hj hz u hu => by
    have hlt : j < l.length := by have := h.le; omega
    obtain ⟨z', hz'⟩ : ∃ z', l[j]? = some z' := ⟨_, List.getElem?_eq_getElem hlt⟩
    have := addS_at (y := y) hz'
    rw [this] at hz; cases hz
    exact mem_addS.2 (.inl (h.done j _ hj hz' u hu))
  le := by
    have := h.le
    unfold addS
    split
    · exact this
    · simp; omega
theorem Wk.next {G : Gr} (hG : G.Ok) {n i x : Nat} {l : List Nat} (h : Wk G n l i) (hx : l[i]? = some x) (hy : ∀ y ∈ G.ups x, y ∈ l) : Wk G n l (i + 1) where
  nd := h.nd
  src := h.src
  low := h.low
  reach := h.reach
  done := fun j z hj hz u hu => by
    by_cases hji : j = i
    · subst hji
      rw [hx] at hz; cases hz
      exact hy u (Gr.mem_ups.2 ⟨(hG.low _ hu).2, hu⟩)
    · exact h.done j z (by omega) hz u hu
  le := (List.getElem?_eq_some_iff.1 hx).1
theorem Wk.len {G : Gr} {n i : Nat} {l : List Nat} (h : Wk G n l i) : l.length ≤ G.N.length := nodup_len h.nd h.low
theorem Wk.done_eq {G : Gr} {n i : Nat} {l : List Nat} (h : Wk G n l i) (hi : i = l.length) : srt l = G.above n := by
  refine sorted_eq (srt_lt h.nd) (G.above_lt n) fun x => ?_
  rw [srt_mem, Gr.mem_above]
  constructor
  · exact fun hx => ⟨h.low x hx, h.reach x hx⟩
  · rintro ⟨_, hx⟩
    refine hx (fun z => z ∈ l) h.src fun a b ha hab => ?_
    obtain ⟨j, hj⟩ := List.mem_iff_getElem?.1 ha
    exact h.done j a (by have := (List.getElem?_eq_some_iff.1 hj).1; omega) hj b hab
/-- What has been seen. -/
def seenF (l : List Nat) (k : Int) : Option Bool := if l.any (fun x => decide ((x : Int) = k)) then some true else none
theorem seen_one (n : Nat) : (fun k' : Int => if k' = (n : Int) then some true else (none : Option Bool)) = seenF [n] := by
  funext k
  unfold seenF
  simp only [List.any_cons, List.any_nil, Bool.or_false, decide_eq_true_eq]
  by_cases h : k = (n : Int)
  · rw [if_pos h, if_pos h.symm]
  · rw [if_neg h, if_neg (fun e => h e.symm)]
theorem seen_snoc (l : List Nat) (y : Nat) : (fun k' : Int => if k' = (y : Int) then some true else seenF l k') = seenF (l ++ [y]) := by
  funext k
  unfold seenF
  simp only [List.any_append, List.any_cons, List.any_nil, Bool.or_false, Bool.or_eq_true, decide_eq_true_eq]
  by_cases h : k = (y : Int)
  · rw [if_pos h, if_pos (.inr h.symm)]
  · rw [if_neg h]
    by_cases h2 : l.any (fun x => decide ((x : Int) = k)) = true
    · rw [if_pos h2, if_pos (.inl h2)]
    · rw [if_neg h2, if_neg (fun e => e.elim h2 fun e => h e.symm)]
theorem seen_yes {l : List Nat} {y : Nat} (h : y ∈ l) : mpVal bw (.bool false) (seenF l (y : Int)) = .bool true := by
  unfold seenF
  rw [if_pos (List.any_eq_true.2 ⟨y, h, by simp⟩)]; rfl
theorem seen_no {l : List Nat} {y : Nat} (h : y ∉ l) : mpVal bw (.bool false) (seenF l (y : Int)) = .bool false := by
  unfold seenF
  rw [if_neg (by
    intro h2
    obtain ⟨x, hx, he⟩ := List.any_eq_true.1 h2
    have : x = y := by have := of_decide_eq_true he; omega
    exact h (this ▸ hx))]; rfl
end Go.Proofs.Ytapodjhkpahdnaa
