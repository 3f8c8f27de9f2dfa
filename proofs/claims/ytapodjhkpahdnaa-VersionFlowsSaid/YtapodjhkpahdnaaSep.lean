/-
  A small logic of separate pieces of memory, over any program: assertions on parts of a heap, their separate union, what each memory operation turns.
  'Sat W w L': world w has the old blocks of W as they were, and, apart from them and from each other, what each assertion of L says.
-/
import Derived.WalkKit
import Derived.Deep.Draws
namespace Go.Sep
open Go

/-- A part of memory. -/
def Hp := Nat → Option Obj
def Hp.sub (h k : Hp) : Prop := ∀ b o, h b = some o → k b = some o
def Hp.apart (h k : Hp) : Prop := ∀ b, h b = none ∨ k b = none
def Asrt := Hp → Prop

theorem Hp.sub_refl (h : Hp) : h.sub h := fun _ _ e => e
theorem Hp.sub_trans {h k l : Hp} (a : h.sub k) (b : k.sub l) : h.sub l := fun _ _ e => b _ _ (a _ _ e)
theorem Hp.apart_symm {h k : Hp} (a : h.apart k) : k.apart h := fun b => (a b).symm
theorem Hp.apart_sub {h k h' k' : Hp} (a : h.apart k) (s : h'.sub h) (t : k'.sub k) : h'.apart k' := fun b => by
  rcases a b with e | e
  · left
    cases x : h' b with
    | none => rfl
    | some o => rw [s _ _ x] at e; cases e
  · right
    cases x : k' b with
    | none => rfl
    | some o => rw [t _ _ x] at e; cases e

/-- Each assertion on a part of its own. -/
def Stars : List Asrt → Hp → Prop
  | [], _ => True
  | A :: L, h => ∃ h1 h2 : Hp, h1.sub h ∧ h2.sub h ∧ h1.apart h2 ∧ A h1 ∧ Stars L h2

theorem Stars.mono {L : List Asrt} {h k : Hp} (s : h.sub k) (hs : Stars L h) : Stars L k := by
  cases L with
  | nil => trivial
  | cons A L =>
    obtain ⟨h1, h2, s1, s2, d, a, r⟩ := hs
    exact ⟨h1, h2, Hp.sub_trans s1 s, Hp.sub_trans s2 s, d, a, r⟩

/-- The union of two parts that are apart. -/
def Hp.or (h k : Hp) : Hp := fun b => (h b).or (k b)
theorem Hp.sub_or_left (h k : Hp) : h.sub (h.or k) := fun b o e => by simp [Hp.or, e]
theorem Hp.sub_or_right {h k : Hp} (d : h.apart k) : k.sub (h.or k) := fun b o e => by
  rcases d b with x | x
  · simp [Hp.or, x, e]
  · rw [x] at e; cases e
theorem Hp.or_sub {h k l : Hp} (s : h.sub l) (t : k.sub l) : (h.or k).sub l := fun b o e => by
  unfold Hp.or at e
  cases x : h b with
  | none => rw [x] at e; simp at e; exact t _ _ e
  | some y => rw [x] at e; simp at e; rw [← e]; exact s _ _ x
theorem Hp.or_apart {h k l : Hp} (s : h.apart l) (t : k.apart l) : (h.or k).apart l := fun b => by
  rcases s b with x | x
  · rcases t b with y | y
    · left; simp [Hp.or, x, y]
    · right; exact y
  · right; exact x

theorem Stars.swap {A B : Asrt} {L : List Asrt} {h : Hp} (hs : Stars (A :: B :: L) h) : Stars (B :: A :: L) h := by
  obtain ⟨h1, h2, s1, s2, d, a, g1, g2, t1, t2, e, b, r⟩ := hs
  refine ⟨g1, h1.or g2, Hp.sub_trans t1 s2, Hp.or_sub s1 (Hp.sub_trans t2 s2), ?_, b, h1, g2, Hp.sub_or_left _ _, ?_, ?_, a, r⟩
  · exact Hp.apart_symm (Hp.or_apart (Hp.apart_sub d (Hp.sub_refl _) t1) (Hp.apart_symm e))
  · exact Hp.sub_or_right (Hp.apart_sub d (Hp.sub_refl _) t2)
  · exact Hp.apart_sub d (Hp.sub_refl _) t2

theorem Stars.cons_mono {A : Asrt} {L M : List Asrt} {h : Hp} (f : ∀ k, Stars L k → Stars M k) (hs : Stars (A :: L) h) : Stars (A :: M) h := by
  obtain ⟨h1, h2, s1, s2, d, a, r⟩ := hs
  exact ⟨h1, h2, s1, s2, d, a, f _ r⟩

theorem Stars.perm {L M : List Asrt} (p : L.Perm M) : ∀ h, Stars L h → Stars M h := by
  induction p with
  | nil => exact fun _ h => h
  | cons A _ ih => exact fun h hs => hs.cons_mono ih
  | swap A B L => exact fun h hs => hs.swap
  | trans _ _ i j => exact fun h hs => j h (i h hs)

/-- A list of assertions as one. -/
def St (L : List Asrt) : Asrt := Stars L
def Ex {α : Type} (f : α → Asrt) : Asrt := fun h => ∃ x, f x h
def Pu (p : Prop) : Asrt := fun _ => p
/-- Block b is this. -/
def Blk (b : Nat) (o : Obj) : Asrt := fun h => h b = some o
/-- All that lay in W lies there as it did. -/
def Old (W : World) : Asrt := fun h => ∀ b o, W.heap[b]? = some o → h b = some o

theorem Stars.append {L M : List Asrt} : ∀ {h : Hp}, Stars (St L :: M) h ↔ Stars (L ++ M) h := by
  induction L with
  | nil =>
    intro h
    constructor
    · rintro ⟨h1, h2, s1, s2, d, _, r⟩; exact r.mono s2
    · intro r; exact ⟨fun _ => none, h, (fun _ _ e => by cases e), Hp.sub_refl _, fun _ => .inl rfl, trivial, r⟩
  | cons A L ih =>
    intro h
    constructor
    · rintro ⟨h1, h2, s1, s2, d, ⟨g1, g2, t1, t2, e, a, r⟩, m⟩
      refine ⟨g1, g2.or h2, Hp.sub_trans t1 s1, Hp.or_sub (Hp.sub_trans t2 s1) s2, ?_, a, ih.1 ⟨g2, h2, Hp.sub_or_left _ _, ?_, ?_, r, m⟩⟩
      · exact Hp.apart_symm (Hp.or_apart (Hp.apart_symm e) (Hp.apart_symm (Hp.apart_sub d t1 (Hp.sub_refl _))))
      · exact Hp.sub_or_right (Hp.apart_sub d t2 (Hp.sub_refl _))
      · exact Hp.apart_sub d t2 (Hp.sub_refl _)
    · rintro ⟨g1, h2, s1, s2, d, a, m⟩
      obtain ⟨k1, k2, t1, t2, e, r, m⟩ := ih.2 m
      refine ⟨g1.or k1, k2, Hp.or_sub s1 (Hp.sub_trans t1 s2), Hp.sub_trans t2 s2, ?_, ⟨g1, k1, Hp.sub_or_left _ _, Hp.sub_or_right ?_, ?_, a, r⟩, m⟩
      · exact Hp.or_apart (Hp.apart_sub d (Hp.sub_refl _) t2) e
      · exact Hp.apart_sub d (Hp.sub_refl _) t1
      · exact Hp.apart_sub d (Hp.sub_refl _) t1

theorem Stars.ex {α : Type} {f : α → Asrt} {L : List Asrt} {h : Hp} : Stars (Ex f :: L) h ↔ ∃ x, Stars (f x :: L) h :=
  ⟨fun ⟨h1, h2, s1, s2, d, ⟨x, a⟩, r⟩ => ⟨x, h1, h2, s1, s2, d, a, r⟩, fun ⟨x, h1, h2, s1, s2, d, a, r⟩ => ⟨h1, h2, s1, s2, d, ⟨x, a⟩, r⟩⟩
theorem Stars.pu {p : Prop} {L : List Asrt} {h : Hp} : Stars (Pu p :: L) h ↔ p ∧ Stars L h :=
  ⟨fun ⟨_, _, _, s2, _, a, r⟩ => ⟨a, r.mono s2⟩, fun ⟨a, r⟩ => ⟨fun _ => none, h, (fun _ _ e => by cases e), Hp.sub_refl _, fun _ => .inl rfl, a, r⟩⟩

/-- What lies in a world. -/
def hp (w : World) : Hp := fun b => w.heap[b]?

structure Sat (W w : World) (L : List Asrt) : Prop where
  os : w.os = W.os
  output : w.output = W.output
  stars : Stars (Old W :: L) (hp w)

section
variable {W w : World} {L M R : List Asrt} {A B C D E F G : Asrt}

theorem Sat.start (W : World) : Sat W W [] :=
  ⟨rfl, rfl, hp W, fun _ => none, Hp.sub_refl _, (fun _ _ e => by cases e), fun _ => .inr rfl, fun _ _ e => e, trivial⟩

theorem Sat.map (h : Sat W w L) (f : ∀ k, Stars L k → Stars M k) : Sat W w M := ⟨h.os, h.output, h.stars.cons_mono f⟩
theorem Sat.perm (h : Sat W w L) (p : L.Perm M) : Sat W w M := h.map (Stars.perm p)
theorem Sat.drop (h : Sat W w (A :: L)) : Sat W w L := h.map fun _ ⟨_, _, _, s2, _, _, r⟩ => r.mono s2
theorem Sat.pull1 (h : Sat W w (A :: B :: L)) : Sat W w (B :: A :: L) := h.map fun _ => Stars.swap
theorem Sat.pull2 (h : Sat W w (A :: B :: C :: L)) : Sat W w (C :: A :: B :: L) := (h.map fun _ => Stars.cons_mono fun _ => Stars.swap).pull1
theorem Sat.pull3 (h : Sat W w (A :: B :: C :: D :: L)) : Sat W w (D :: A :: B :: C :: L) := h.perm (by
  exact List.perm_middle (l₁ := [A, B, C]) |>.trans (List.Perm.refl _))
theorem Sat.pull4 (h : Sat W w (A :: B :: C :: D :: E :: L)) : Sat W w (E :: A :: B :: C :: D :: L) := h.perm (List.perm_middle (l₁ := [A, B, C, D]))
theorem Sat.pull5 (h : Sat W w (A :: B :: C :: D :: E :: F :: L)) : Sat W w (F :: A :: B :: C :: D :: E :: L) := h.perm (List.perm_middle (l₁ := [A, B, C, D, E]))
theorem Sat.pull6 (h : Sat W w (A :: B :: C :: D :: E :: F :: G :: L)) : Sat W w (G :: A :: B :: C :: D :: E :: F :: L) := h.perm (List.perm_middle (l₁ := [A, B, C, D, E, F]))
theorem Sat.push1 (h : Sat W w (A :: B :: L)) : Sat W w (B :: A :: L) := h.pull1
theorem Sat.push2 (h : Sat W w (A :: B :: C :: L)) : Sat W w (B :: C :: A :: L) := h.perm (List.perm_middle (l₁ := [B, C])).symm
theorem Sat.push3 (h : Sat W w (A :: B :: C :: D :: L)) : Sat W w (B :: C :: D :: A :: L) := h.perm (List.perm_middle (l₁ := [B, C, D])).symm
theorem Sat.push4 (h : Sat W w (A :: B :: C :: D :: E :: L)) : Sat W w (B :: C :: D :: E :: A :: L) := h.perm (List.perm_middle (l₁ := [B, C, D, E])).symm
/-- Any list's k-th in front. -/
theorem Sat.front (h : Sat W w L) (k : Nat) (hk : L[k]? = some A) : Sat W w (A :: L.eraseIdx k) := h.perm (by
  induction L generalizing k with
  | nil => simp at hk
  | cons B L ih =>
    cases k with
    | zero => simp at hk; subst hk; exact List.Perm.refl _
    | succ k =>
      simp only [List.getElem?_cons_succ] at hk
      rw [List.eraseIdx_cons_succ]
      refine ((ih (h := ⟨h.os, h.output, h.drop.stars⟩) k hk).cons B).trans (List.Perm.swap _ _ _))
/-- These in front, in this order; the others behind them. -/
def reorder : Nat → List Asrt → List Nat → List Asrt
  | n + 1, L, k :: ks => match L[k]? with
    | some A => A :: reorder n (L.eraseIdx k) (ks.map fun j => if k < j then j - 1 else j)
    | none => L
  | _, L, _ => L
theorem Stars.reorder : ∀ (n : Nat) (ks : List Nat) (L : List Asrt) (h : Hp), Stars L h → Stars (reorder n L ks) h
  | 0, _, _, _, hs => hs
  | n + 1, [], _, _, hs => hs
  | n + 1, k :: ks, L, h, hs => by
    unfold Sep.reorder
    split
    · rename_i A hk
      have hp : L.Perm (A :: L.eraseIdx k) := by
        clear hs
        induction L generalizing k with
        | nil => simp at hk
        | cons B L ih =>
          cases k with
          | zero => simp at hk; subst hk; exact List.Perm.refl _
          | succ k =>
            simp only [List.getElem?_cons_succ] at hk
            rw [List.eraseIdx_cons_succ]
            exact ((ih k hk).cons B).trans (List.Perm.swap _ _ _)
      exact (Stars.perm hp h hs).cons_mono fun k' => Stars.reorder n _ _ k'
    · exact hs
theorem Sat.re (h : Sat W w L) (ks : List Nat) : Sat W w (reorder ks.length L ks) := h.map fun k hs => Stars.reorder _ ks L k hs
theorem Sat.ex {α : Type} {f : α → Asrt} (h : Sat W w (Ex f :: L)) : ∃ x, Sat W w (f x :: L) := by
  obtain ⟨x, hx⟩ := Stars.ex.1 h.stars.swap
  exact ⟨x, h.os, h.output, hx.swap⟩
theorem Sat.mkEx {α : Type} {f : α → Asrt} (x : α) (h : Sat W w (f x :: L)) : Sat W w (Ex f :: L) := h.map fun _ hs => Stars.ex.2 ⟨x, hs⟩
theorem Sat.pu {p : Prop} (h : Sat W w (Pu p :: L)) : p ∧ Sat W w L := by
  obtain ⟨x, hx⟩ := Stars.pu.1 h.stars.swap
  exact ⟨x, h.os, h.output, hx⟩
theorem Sat.mkPu {p : Prop} (x : p) (h : Sat W w L) : Sat W w (Pu p :: L) := h.map fun _ hs => Stars.pu.2 ⟨x, hs⟩
theorem Sat.open (h : Sat W w (St M :: L)) : Sat W w (M ++ L) := h.map fun _ => Stars.append.1
theorem Sat.mkSt (h : Sat W w (M ++ L)) : Sat W w (St M :: L) := h.map fun _ => Stars.append.2

/-- What block b is. -/
theorem Sat.blk {b : Nat} {o : Obj} (h : Sat W w (Blk b o :: L)) : w.heap[b]? = some o := by
  obtain ⟨h1, h2, _, s2, _, _, g1, g2, t1, _, _, e, _⟩ := h.stars
  exact s2 _ _ (t1 _ _ e)
theorem Sat.old (h : Sat W w L) {b : Nat} (hb : b < W.heap.size) : w.heap[b]? = W.heap[b]? := by
  obtain ⟨h1, h2, s1, _, _, e, _⟩ := h.stars
  have := e b W.heap[b] (by simp [hb])
  have := s1 _ _ this
  unfold hp at this
  rw [this]; simp [hb]
theorem Sat.size (h : Sat W w L) : W.heap.size ≤ w.heap.size := by
  rcases Nat.lt_or_ge w.heap.size W.heap.size with g | g
  · have := h.old g
    simp [g] at this
  · exact g
theorem Sat.lt {b : Nat} {o : Obj} (h : Sat W w (Blk b o :: L)) : b < w.heap.size := (Array.getElem?_eq_some_iff.1 h.blk).1
theorem Sat.ge {b : Nat} {o : Obj} (h : Sat W w (Blk b o :: L)) : W.heap.size ≤ b := by
  obtain ⟨h1, h2, s1, s2, d, e, g1, g2, t1, _, _, e2, _⟩ := h.stars
  rcases Nat.lt_or_ge b W.heap.size with g | g
  · have x := e b W.heap[b] (by simp [g])
    have y := t1 _ _ e2
    rcases d b with z | z
    · rw [z] at x; cases x
    · rw [z] at y; cases y
  · exact g
theorem Sat.ne {b c : Nat} {o p : Obj} (h : Sat W w (Blk b o :: Blk c p :: L)) : b ≠ c := by
  intro e
  subst e
  obtain ⟨_, _, _, _, _, _, g1, g2, _, _, d, e2, k1, k2, t1, _, _, e3, _⟩ := h.stars
  have y := t1 _ _ e3
  have x : g1 b = some o := e2
  rcases d b with z | z
  · rw [z] at x; cases x
  · rw [z] at y; cases y

/-- Block b, and no other one, is turned. -/
theorem Sat.turn {w' : World} {b : Nat} {o o' : Obj} (h : Sat W w (Blk b o :: L)) (hos : w'.os = w.os) (hout : w'.output = w.output)
    (hb : w'.heap[b]? = some o') (hr : ∀ c p, c ≠ b → w.heap[c]? = some p → w'.heap[c]? = some p) : Sat W w' (Blk b o' :: L) := by
  refine ⟨hos.trans h.os, hout.trans h.output, ?_⟩
  obtain ⟨h1, h2, s1, s2, d, e, g1, g2, t1, t2, f, e2, r⟩ := h.stars
  have e2' : g1 b = some o := e2
  have n1 : h1 b = none := (d b).resolve_right (by rw [t1 _ _ e2']; simp)
  have n2 : g2 b = none := (f b).resolve_left (by rw [e2']; simp)
  let one : Hp := fun c => if c = b then some o' else none
  have a1 : one.apart g2 := fun c => by
    by_cases hc : c = b
    · subst hc; exact .inr n2
    · left; simp [one, hc]
  refine ⟨h1, one.or g2, ?_, ?_, ?_, e, one, g2, Hp.sub_or_left _ _, Hp.sub_or_right a1, a1, by simp [Blk, one], r⟩
  · intro c p hc
    by_cases hcb : c = b
    · subst hcb; rw [n1] at hc; cases hc
    · exact hr c p hcb (s1 _ _ hc)
  · refine Hp.or_sub ?_ ?_
    · intro c p hc
      by_cases hcb : c = b
      · subst hcb; simp [one] at hc; subst hc; exact hb
      · simp [one, hcb] at hc
    · intro c p hc
      by_cases hcb : c = b
      · subst hcb; rw [n2] at hc; cases hc
      · exact hr c p hcb (s2 _ _ (t2 _ _ hc))
  · refine Hp.apart_symm (Hp.or_apart ?_ ?_)
    · intro c
      by_cases hc : c = b
      · subst hc; exact .inr n1
      · left; simp [one, hc]
    · exact Hp.apart_symm (Hp.apart_sub d (Hp.sub_refl _) t2)

/-- A new block. -/
theorem Sat.alloc (h : Sat W w L) (o : Obj) : Sat W (w.alloc o) (Blk w.heap.size o :: L) := by
  refine ⟨h.os, h.output, ?_⟩
  obtain ⟨h1, h2, s1, s2, d, e, r⟩ := h.stars
  let one : Hp := fun c => if c = w.heap.size then some o else none
  have none_of : ∀ {g : Hp}, g.sub (hp w) → g w.heap.size = none := fun {g} s => by
    cases x : g w.heap.size with
    | none => rfl
    | some p => have := s _ _ x; simp [hp] at this
  have n1 := none_of s1
  have n2 := none_of s2
  have a1 : ∀ {g : Hp}, g w.heap.size = none → one.apart g := fun {g} n c => by
    by_cases hc : c = w.heap.size
    · subst hc; exact .inr n
    · left; simp [one, hc]
  have up : (hp w).sub (hp (w.alloc o)) := fun c p hc => by
    have hlt : c < w.heap.size := (Array.getElem?_eq_some_iff.1 hc).1
    simp only [hp] at hc ⊢
    rw [show (w.alloc o).heap = w.heap.push o from rfl, Array.getElem?_push]
    rw [if_neg (by omega)]; exact hc
  have on : one.sub (hp (w.alloc o)) := fun c p hc => by
    by_cases hcb : c = w.heap.size
    · subst hcb; simp [one] at hc; subst hc; simp only [hp]; rw [show (w.alloc o).heap = w.heap.push o from rfl]; simp
    · simp [one, hcb] at hc
  exact ⟨h1, one.or h2, Hp.sub_trans s1 up, Hp.or_sub on (Hp.sub_trans s2 up), Hp.apart_symm (Hp.or_apart (a1 n1) (Hp.apart_symm d)), e, one, h2,
    Hp.sub_or_left _ _, Hp.sub_or_right (a1 n2), a1 n2, by simp [Blk, one], r⟩
theorem Sat.of_heap {w' : World} (h : Sat W w L) (hh : w'.heap = w.heap) (hos : w'.os = w.os) (hout : w'.output = w.output) : Sat W w' L :=
  ⟨hos.trans h.os, hout.trans h.output, by have := h.stars; unfold hp at *; rw [hh]; exact this⟩
theorem Sat.drew (h : Sat W w L) : Sat W w.drew L := h.of_heap rfl rfl rfl
theorem Sat.drewN (h : Sat W w L) (n : Nat) : Sat W (w.drewN n) L := h.of_heap rfl rfl rfl

/-- A law's end: nothing that lay there is turned. -/
theorem Sat.kept (h : Sat W w L) : W.keptBut w (fun _ => False) := by
  refine ⟨h.os, h.output, fun i hi => ?_⟩
  rw [h.old hi]
  have : W.heap[i]? = some W.heap[i] := by simp [hi]
  rw [this]
  cases W.heap[i] <;> simp
end
end Go.Sep
