/-
  Going up to a mark, with a row of who was seen (plain).
-/
import Derived.Test.YtfbphibgcolmbaaLbLaw
namespace Go.Proofs.Ytfbphibgcolmbaa
open Go.Sep
set_option linter.unusedSimpArgs false
set_option linter.unusedVariables false
def Gr.blk (G : Gr) (s n : Nat) : Bool := match G.N[n]? with | none => true | some x => x.clear.testBit s
def Gr.mrk (G : Gr) (s n : Nat) : Bool := match G.N[n]? with | none => false | some x => x.mark.testBit s
theorem Gr.blk_at {G : Gr} {s n : Nat} {x : NodeD} (h : G.N[n]? = some x) : G.blk s n = x.clear.testBit s := by unfold Gr.blk; rw [h]
theorem Gr.mrk_at {G : Gr} {s n : Nat} {x : NodeD} (h : G.N[n]? = some x) : G.mrk s n = x.mark.testBit s := by unfold Gr.mrk; rw [h]
structure UpR (G : Gr) (s : Nat) (S : Nat → Bool) (n : Nat) (r : Bool) (S' : Nat → Bool) : Prop where
  more : ∀ m, S m = true → S' m = true
  yes : r = true → G.Src s n
  no : r = false → G.blk s n = true ∨ S' n = true
  clo : r = false → ∀ m, S' m = true → S m = false → G.mrk s m = false ∧ ∀ u ∈ G.ups m, G.blk s u = true ∨ S' u = true
theorem UpR.seen {G : Gr} {s n : Nat} {S : Nat → Bool} (h : S n = true) : UpR G s S n false S := ⟨fun _ h => h, (fun h => by cases h), fun _ => .inr h, fun _ m h1 h2 => by rw [h1] at h2; cases h2⟩
theorem UpR.blocked {G : Gr} {s n : Nat} {S : Nat → Bool} (h : G.blk s n = true) : UpR G s S n false S := ⟨fun _ h => h, (fun h => by cases h), fun _ => .inl h, fun _ m h1 h2 => by rw [h1] at h2; cases h2⟩
def putS (S : Nat → Bool) (n : Nat) : Nat → Bool := fun t => S t || decide (t = n)
theorem putS_more {S : Nat → Bool} {n m : Nat} (h : S m = true) : putS S n m = true := by simp [putS, h]
theorem putS_self (S : Nat → Bool) (n : Nat) : putS S n n = true := by simp [putS]
theorem UpR.marked {G : Gr} {s n : Nat} {S : Nat → Bool} {x : NodeD} (hx : G.N[n]? = some x) (h1 : x.mark.testBit s = true) (h2 : x.clear.testBit s = false) : UpR G s S n true (putS S n) :=
  ⟨fun _ h => putS_more h, fun _ => Gr.Src.base hx h1 h2, (fun h => by cases h), (fun h => by cases h)⟩
structure UpJ (G : Gr) (s : Nat) (S : Nat → Bool) (n i : Nat) (S' : Nat → Bool) : Prop where
  more : ∀ m, putS S n m = true → S' m = true
  done : ∀ j u, j < i → (G.ups n)[j]? = some u → G.blk s u = true ∨ S' u = true
  clo : ∀ m, S' m = true → S m = false → m ≠ n → G.mrk s m = false ∧ ∀ u ∈ G.ups m, G.blk s u = true ∨ S' u = true
theorem UpJ.start (G : Gr) (s : Nat) (S : Nat → Bool) (n : Nat) : UpJ G s S n 0 (putS S n) :=
  ⟨fun _ h => h, fun j u h => absurd h (Nat.not_lt_zero j), fun m h1 h2 h3 => by simp [putS, h2, h3] at h1⟩
theorem UpJ.next {G : Gr} {s n i u : Nat} {S S' S'' : Nat → Bool} (h : UpJ G s S n i S') (hu : (G.ups n)[i]? = some u) (k : UpR G s S' u false S'') : UpJ G s S n (i + 1) S'' where
  more := fun m hm => k.more m (h.more m hm)
  done := fun j v hj hv => by
    by_cases e : j = i
    · subst e
      rw [hu] at hv; cases hv
      exact k.no rfl
    · exact (h.done j v (by omega) hv).imp id (k.more v)
  clo := fun m h1 h2 h3 => by
    cases hm : S' m with
    | true => exact ⟨(h.clo m hm h2 h3).1, fun v hv => ((h.clo m hm h2 h3).2 v hv).imp id (k.more v)⟩
    | false => exact k.clo rfl m h1 hm
theorem UpJ.found {G : Gr} {s n i u : Nat} {S S' S'' : Nat → Bool} {x : NodeD} (h : UpJ G s S n i S') (hx : G.N[n]? = some x) (h2 : x.clear.testBit s = false) (hu : (G.ups n)[i]? = some u) (k : UpR G s S' u true S'') : UpR G s S n true S'' :=
  ⟨fun m hm => k.more m (h.more m (putS_more hm)), fun _ => Gr.Src.step (Gr.mem_ups.1 (List.mem_of_getElem? hu)).2 hx h2 (k.yes rfl), (fun h => by cases h), (fun h => by cases h)⟩
theorem UpJ.none {G : Gr} {s n i : Nat} {S S' : Nat → Bool} {x : NodeD} (h : UpJ G s S n i S') (hi : (G.ups n).length ≤ i) (hx : G.N[n]? = some x) (h1 : x.mark.testBit s = false) : UpR G s S n false S' where
  more := fun m hm => h.more m (putS_more hm)
  yes := fun h => by cases h
  no := fun _ => .inr (h.more n (putS_self S n))
  clo := fun _ m hm hs => by
    by_cases e : m = n
    · subst e
      refine ⟨by rw [Gr.mrk_at hx]; exact h1, fun u hu => ?_⟩
      obtain ⟨j, hj⟩ := List.mem_iff_getElem?.1 hu
      exact h.done j u (by have := (List.getElem?_eq_some_iff.1 hj).1; omega) hj
    · exact h.clo m hm hs e
theorem UpR.all {G : Gr} (hG : G.Ok) {s n : Nat} {r : Bool} {S' : Nat → Bool} (h : UpR G s (fun _ => false) n r S') : G.srcB n s = r := by
  cases r with
  | true => exact Gr.srcB_iff.2 (h.yes rfl)
  | false =>
    cases hb : G.srcB n s with
    | false => rfl
    | true =>
      have hs := Gr.srcB_iff.1 hb
      have := hs (fun m => G.blk s m = false ∧ S' m = false) (fun m x hx h1 h2 => ⟨by rw [Gr.blk_at hx]; exact h2, by
        cases hm : S' m with
        | false => rfl
        | true =>
          have := (h.clo rfl m hm rfl).1
          rw [Gr.mrk_at hx, h1] at this; cases this⟩) (fun m u x he hx h2 hu => ⟨by rw [Gr.blk_at hx]; exact h2, by
        cases hm : S' m with
        | false => rfl
        | true =>
          have h4 := (h.clo rfl m hm rfl).2 u (Gr.mem_ups.2 ⟨(hG.low _ he).2, he⟩)
          rw [hu.1, hu.2] at h4
          simp at h4⟩)
      have h5 := h.no rfl
      rw [this.1, this.2] at h5
      simp at h5
def UpQ (W w' : World) (p b : Nat) (G : Gr) (s : Nat) (S : Nat → Bool) (n : Nat) (L : List Asrt) (v : Value) : Prop := ∃ r S', v = .bool r ∧ UpR G s S n r S' ∧ Sat W w' (IsG p G :: Cs b 70 (bl S' 200) :: L)
theorem fls_mono {S S' : Nat → Bool} (h : ∀ m, S m = true → S' m = true) (n : Nat) : fls S' n ≤ fls S n := by
  refine List.countP_mono_left fun k _ hk => ?_
  cases hs : S k with
  | false => rfl
  | true => rw [h k hs] at hk; exact hk
theorem fls_putS {S : Nat → Bool} {n k : Nat} (h : k < n) (hk : S k = false) : fls (putS S k) n < fls S n := fls_put h hk
theorem bl_putS {S : Nat → Bool} {n k : Nat} (h : k < n) : (bl S n).set k (.bool true) = bl (putS S k) n := bl_set h
end Go.Proofs.Ytfbphibgcolmbaa
