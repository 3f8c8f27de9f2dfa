/-
  A world of which a block is turned that nobody owns (a loop's record, what is deferred).
  More of what lies in a world is held than the rows that are named; a list literal whose row is a new one.
-/
import Derived.Test.YtpnbdnfgdiakhaaMReg
import Derived.RangeFuncFrom
namespace Go.Sep
set_option linter.unusedSimpArgs false
set_option linter.unusedVariables false
open Go
open Classical in
/-- A part of memory, but for some of its blocks. -/
noncomputable def Hp.cut (p : Nat → Obj → Prop) (h : Hp) : Hp := fun b => (h b).bind fun o => if p b o then some o else none
theorem Hp.cut_some {p : Nat → Obj → Prop} {h : Hp} {b : Nat} {o : Obj} : h.cut p b = some o ↔ h b = some o ∧ p b o := by
  unfold Hp.cut
  cases hb : h b with
  | none => simp
  | some x =>
    simp only [Option.bind_some, Option.some.injEq]
    by_cases hp : p b x
    · rw [if_pos hp]
      constructor
      · intro e; cases e; exact ⟨rfl, hp⟩
      · rintro ⟨rfl, _⟩; rfl
    · rw [if_neg hp]
      constructor
      · intro e; cases e
      · rintro ⟨rfl, h2⟩; exact absurd h2 hp
theorem Hp.cut_sub (p : Nat → Obj → Prop) (h : Hp) : (h.cut p).sub h := fun _ _ e => (Hp.cut_some.1 e).1
theorem Hp.cut_mono {p : Nat → Obj → Prop} {h k : Hp} (s : h.sub k) : (h.cut p).sub (k.cut p) := fun _ _ e => Hp.cut_some.2 ⟨s _ _ (Hp.cut_some.1 e).1, (Hp.cut_some.1 e).2⟩
theorem Hp.cut_apart {p : Nat → Obj → Prop} {h k : Hp} (d : h.apart k) : (h.cut p).apart (k.cut p) := Hp.apart_sub d (Hp.cut_sub p h) (Hp.cut_sub p k)
/-- What is said of a part is said of what is left of it. -/
def Loc (p : Nat → Obj → Prop) (A : Asrt) : Prop := ∀ h, A h → A (h.cut p)
theorem Stars.cut {p : Nat → Obj → Prop} : ∀ {L : List Asrt} {h : Hp}, (∀ A ∈ L, Loc p A) → Stars L h → Stars L (h.cut p)
  | [], _, _, _ => trivial
  | A :: L, h, hL, ⟨h1, h2, s1, s2, d, a, r⟩ => ⟨h1.cut p, h2.cut p, Hp.cut_mono s1, Hp.cut_mono s2, Hp.cut_apart d, hL A (List.mem_cons_self ..) h1 a, Stars.cut (fun B hB => hL B (List.mem_cons_of_mem _ hB)) r⟩
theorem Loc.blk {p : Nat → Obj → Prop} {b : Nat} {o : Obj} (h : p b o) : Loc p (Blk b o) := fun _ hb => Hp.cut_some.2 ⟨hb, h⟩
theorem Loc.ex {p : Nat → Obj → Prop} {α : Type} {f : α → Asrt} (h : ∀ x, Loc p (f x)) : Loc p (Ex f) := fun g ⟨x, hx⟩ => ⟨x, h x g hx⟩
theorem Loc.pu {p : Nat → Obj → Prop} {q : Prop} : Loc p (Pu q) := fun _ h => h
theorem Loc.st {p : Nat → Obj → Prop} {L : List Asrt} (h : ∀ A ∈ L, Loc p A) : Loc p (St L) := fun _ hs => Stars.cut h hs
theorem Loc.old {p : Nat → Obj → Prop} {W : World} (h : ∀ b o, W.heap[b]? = some o → p b o) : Loc p (Old W) := fun _ hs b o e => Hp.cut_some.2 ⟨hs b o e, h b o e⟩
/-- The rows that stay, as they are. -/
def KeepH (k : Hp) : Asrt := fun h => k.sub h
theorem Loc.keep {p : Nat → Obj → Prop} {k : Hp} (h : ∀ b o, k b = some o → p b o) : Loc p (KeepH k) := fun _ hs b o e => Hp.cut_some.2 ⟨hs b o e, h b o e⟩
/-- Below B, or a block of cells. -/
def pB (B : Nat) (b : Nat) (o : Obj) : Prop := b < B ∨ o.isCells = true
theorem Loc.two {p : Nat → Obj → Prop} {A C : Asrt} (h1 : Loc p A) (h2 : Loc p C) : Loc p (St [A, C]) := Loc.st fun D hD => by
  rcases List.mem_cons.1 hD with rfl | hD
  · exact h1
  · rw [List.mem_singleton.1 hD]; exact h2
theorem Loc.cs {B b : Nat} {E : TypeId} {l : List Value} : Loc (pB B) (Cs b E l) := by
  unfold Cs
  exact Loc.ex fun fz => Loc.two Loc.pu (Loc.blk (.inr rfl))
theorem Loc.sl {B E sz n : Nat} {v : Value} {vs : List Value} : Loc (pB B) (Sl E sz v n vs) := by
  unfold Sl
  refine Loc.ex fun x => ?_
  obtain ⟨x1, x2⟩ := x
  cases x1 with
  | none => exact Loc.pu
  | some y =>
    obtain ⟨b, off, cap⟩ := y
    exact Loc.two Loc.pu (by unfold CsA; exact Loc.ex fun E => Loc.cs)
theorem Loc.ir {B : Nat} {v : Value} {l : List Nat} : Loc (pB B) (Ir v l) := Loc.sl
theorem Sat.turned {W w w' : World} {L : List Asrt} {B : Nat} {row : Option Nat} (h : Sat W w L) (hL : ∀ A ∈ L, Loc (pB B) A) (hW : W.heap.size ≤ B) (hg : w.grownBy w' row) (hr : ∀ r, row = some r → B ≤ r ∧ ∃ o : Obj, w.heap[r]? = some o ∧ o.isCells = false) : Sat W w' L := by
  refine ⟨hg.os.trans h.os, hg.output.trans h.output, ?_⟩
  have h2 := Stars.cut (p := pB B) (L := Old W :: L) (fun A hA => by
    rcases List.mem_cons.1 hA with rfl | hA
    · exact Loc.old fun b o e => .inl (by have := (Array.getElem?_eq_some_iff.1 e).1; omega)
    · exact hL A hA) h.stars
  refine h2.mono fun b o e => ?_
  obtain ⟨e1, e2⟩ := Hp.cut_some.1 e
  unfold hp at e1 ⊢
  have hlt := (Array.getElem?_eq_some_iff.1 e1).1
  rw [hg.block b hlt (fun e3 => ?_)]
  · exact e1
  · obtain ⟨h3, o2, h4, h5⟩ := hr b e3.symm
    rw [h4] at e1
    cases e1
    rcases e2 with e2 | e2
    · omega
    · rw [h5] at e2; cases e2
/-- The rows behind, held as they are. -/
theorem Sat.hold {W w : World} {L M : List Asrt} (h : Sat W w (L ++ M)) : ∃ k : Hp, (∀ b o, k b = some o → b < w.heap.size) ∧ Sat W w (L ++ [KeepH k]) ∧ ∀ w', Sat W w' (L ++ [KeepH k]) → Sat W w' (L ++ M) := by
  obtain ⟨g1, g2, t1, t2, d, ho, r⟩ := (h.perm List.perm_append_comm).stars
  obtain ⟨h1, h2, s1, s2, dd, a, r2⟩ := Stars.append.2 r
  refine ⟨h1, fun b o e => ?_, ?_, fun w' h' => ?_⟩
  · have := t2 _ _ (s1 _ _ e)
    exact (Array.getElem?_eq_some_iff.1 this).1
  · have h3 : Sat W w (KeepH h1 :: L) := ⟨h.os, h.output, g1, g2, t1, t2, d, ho, h1, h2, s1, s2, dd, Hp.sub_refl h1, r2⟩
    exact h3.perm (List.perm_append_comm (l₁ := [KeepH h1]) (l₂ := L))
  · have h3 : Sat W w' (KeepH h1 :: L) := h'.perm (List.perm_append_comm (l₁ := L) (l₂ := [KeepH h1]))
    have h4 : Sat W w' (M ++ L) := h3.map fun k ⟨x1, x2, s1, s2, d, hk, r⟩ => Stars.append.1 ⟨x1, x2, s1, s2, d, Stars.mono hk a, r⟩
    exact h4.perm List.perm_append_comm
end Go.Sep
namespace Go.Sep
set_option linter.unusedSimpArgs false
set_option linter.unusedVariables false
open Go
theorem Loc.cs' {p : Nat → Obj → Prop} {b : Nat} {E : TypeId} {l : List Value} (h : ∀ o : Obj, o.isCells = true → p b o) : Loc p (Cs b E l) := by
  unfold Cs
  exact Loc.ex fun fz => Loc.two Loc.pu (Loc.blk (h _ rfl))
theorem Loc.ir' {p : Nat → Obj → Prop} {v : Value} {l : List Nat} (h : ∀ b off n c (o : Obj), v = .slice (some ⟨b, off, none⟩) n c → o.isCells = true → p b o) : Loc p (Ir v l) := by
  unfold Ir Sl
  rintro g ⟨x, hx⟩
  refine ⟨x, ?_⟩
  obtain ⟨x1, x2⟩ := x
  cases x1 with
  | none => exact hx
  | some y =>
    obtain ⟨b, off, cap⟩ := y
    have hv := (Stars.pu.1 hx).1.1
    exact Loc.two Loc.pu (by unfold CsA; exact Loc.ex fun E => Loc.cs' fun o ho => h _ _ _ _ o hv ho) _ hx
theorem Cs.blk {b : Nat} {T : TypeId} {l : List Value} {g : Hp} (h : Cs b T l g) : ∃ fz, g b = some (.cells l.toArray T fz) := by
  unfold Cs at h
  obtain ⟨fz, h1⟩ := h
  obtain ⟨_, h2⟩ := Stars.pu.1 h1
  obtain ⟨g1, _, s1, _, _, e, _⟩ := h2
  exact ⟨fz, s1 _ _ e⟩
theorem Ir.blk {v : Value} {l : List Nat} {g : Hp} (h : Ir v l g) (hl : 0 < l.length) : ∃ b off n c o, v = .slice (some ⟨b, off, none⟩) n c ∧ g b = some o := by
  unfold Ir Sl at h
  obtain ⟨⟨x1, x2⟩, h⟩ := h
  cases x1 with
  | none =>
    have h1 : _ = _ ∧ l.length = 0 ∧ _ := h
    omega
  | some y =>
    obtain ⟨b, off, cap⟩ := y
    obtain ⟨h1, h2⟩ := Stars.pu.1 h
    obtain ⟨g1, _, s1, _, _, ⟨E, e⟩, _⟩ := h2
    obtain ⟨fz, e2⟩ := Cs.blk e
    exact ⟨b, off, _, _, _, h1.1, s1 _ _ e2⟩
theorem Stars.mem : ∀ {L : List Asrt} {h : Hp}, Stars L h → ∀ A ∈ L, ∃ g : Hp, g.sub h ∧ A g
  | A :: L, h, ⟨h1, h2, s1, s2, d, a, r⟩, B, hB => by
    rcases List.mem_cons.1 hB with rfl | hB
    · exact ⟨h1, s1, a⟩
    · obtain ⟨g, sg, bg⟩ := Stars.mem r B hB
      exact ⟨g, Hp.sub_trans sg s2, bg⟩
/-- The rows behind, held as they are; each lies in what is held. -/
theorem Sat.hold2 {W w : World} {L M : List Asrt} (h : Sat W w (L ++ M)) : ∃ k : Hp, (∀ b o, k b = some o → w.heap[b]? = some o) ∧ (∀ A ∈ M, ∃ g : Hp, g.sub k ∧ A g) ∧ Sat W w (L ++ [KeepH k]) ∧ ∀ w' L', Sat W w' (L' ++ [KeepH k]) → Sat W w' (L' ++ M) := by
  obtain ⟨g1, g2, t1, t2, d, ho, r⟩ := (h.perm List.perm_append_comm).stars
  obtain ⟨h1, h2, s1, s2, dd, a, r2⟩ := Stars.append.2 r
  refine ⟨h1, fun b o e => t2 _ _ (s1 _ _ e), fun A hA => Stars.mem a A hA, ?_, fun w' L' h' => ?_⟩
  · have h3 : Sat W w (KeepH h1 :: L) := ⟨h.os, h.output, g1, g2, t1, t2, d, ho, h1, h2, s1, s2, dd, Hp.sub_refl h1, r2⟩
    exact h3.perm (List.perm_append_comm (l₁ := [KeepH h1]) (l₂ := L))
  · have h3 : Sat W w' (KeepH h1 :: L') := h'.perm (List.perm_append_comm (l₁ := L') (l₂ := [KeepH h1]))
    have h4 : Sat W w' (M ++ L') := h3.map fun k ⟨x1, x2, s1, s2, d, hk, r⟩ => Stars.append.1 ⟨x1, x2, s1, s2, d, Stars.mono hk a, r⟩
    exact h4.perm List.perm_append_comm
/-- What is held lies there. -/
theorem Sat.held {W w : World} {L : List Asrt} {k : Hp} (h : Sat W w (L ++ [KeepH k])) {b : Nat} {o : Obj} (e : k b = some o) : w.heap[b]? = some o := by
  obtain ⟨g, sg, bg⟩ := Stars.mem h.stars (KeepH k) (by simp)
  exact sg _ _ (bg _ _ e)
/-- All that p does not name is held besides. -/
theorem Sat.more {W w : World} {L : List Asrt} {k : Hp} (p : Nat → Obj → Prop) (h : Sat W w (L ++ [KeepH k])) (hW : ∀ b o, b < W.heap.size → p b o) (hL : ∀ A ∈ L, Loc p A) :
    ∃ k' : Hp, k.sub k' ∧ (∀ b o, w.heap[b]? = some o → ¬ p b o → k' b = some o) ∧ Sat W w (L ++ [KeepH k']) := by
  have h0 : Stars (Old W :: (L ++ [KeepH k])) (hp w) := h.stars
  have h1 : Stars (KeepH k :: Old W :: L) (hp w) := h0.perm (by
    rw [← List.cons_append]; exact List.perm_append_comm (l₂ := [KeepH k])) _
  obtain ⟨g1, g2, t1, t2, d, hk, r⟩ := h1
  have hsub : k.sub ((hp w).cut fun b o => k b = some o ∨ ¬ p b o) := fun b o e => Hp.cut_some.2 ⟨t1 _ _ (hk _ _ e), .inl e⟩
  refine ⟨(hp w).cut fun b o => k b = some o ∨ ¬ p b o, hsub, fun b o e hn => Hp.cut_some.2 ⟨e, .inr hn⟩, ⟨h.os, h.output, ?_⟩⟩
  · have h2 : Stars (KeepH ((hp w).cut fun b o => k b = some o ∨ ¬ p b o) :: Old W :: L) (hp w) := by
      refine ⟨_, g2.cut p, Hp.cut_sub _ _, Hp.sub_trans (Hp.cut_sub _ _) t2, fun b => ?_, Hp.sub_refl _, Stars.cut (fun A hA => ?_) r⟩
      · cases e2 : (g2.cut p) b with
        | none => exact .inr rfl
        | some o2 =>
          obtain ⟨e3, e4⟩ := Hp.cut_some.1 e2
          left
          cases e5 : ((hp w).cut fun b o => k b = some o ∨ ¬ p b o) b with
          | none => rfl
          | some o =>
            obtain ⟨e6, e7⟩ := Hp.cut_some.1 e5
            rcases e7 with e7 | e7
            · rcases d b with e8 | e8
              · rw [hk _ _ e7] at e8; cases e8
              · rw [e3] at e8; cases e8
            · have e9 := t2 _ _ e3
              rw [e6] at e9; cases e9
              exact absurd e4 e7
      · rcases List.mem_cons.1 hA with rfl | hA
        · exact Loc.old fun b o e => hW b o (Array.getElem?_eq_some_iff.1 e).1
        · exact hL A hA
    exact h2.perm (by rw [← List.cons_append]; exact List.perm_append_comm (l₁ := [_])) _
/-- Less is held. -/
theorem Sat.keepLess {W w : World} {L : List Asrt} {k k' : Hp} (h : Sat W w (L ++ [KeepH k'])) (hk : k.sub k') : Sat W w (L ++ [KeepH k]) := by
  have h3 : Sat W w (KeepH k' :: L) := h.perm (List.perm_append_comm (l₁ := L) (l₂ := [_]))
  have h4 : Sat W w (KeepH k :: L) := h3.map fun g ⟨x1, x2, s1, s2, d, hk', r⟩ => ⟨x1, x2, s1, s2, d, Hp.sub_trans hk hk', r⟩
  exact h4.perm (List.perm_append_comm (l₁ := [KeepH k]) (l₂ := L))
section
variable {P : Program} {W w : World} {L : List Asrt} {a : Act} {o : Oper} {K : Act → World → Prop} {Q : Exit → Act → World → Prop}
/-- A slice literal: its row is a new one. -/
theorem bsZ (hS : Sat W w L) (T : TypeId) (x : Operand) (ho : o.op = .buildSlice T 1 #[(0, x)])
    {e size bytes : Nat} {z : Value} (hT : elemB P T = some (e, size, bytes, some z)) (v : Value) (hv : a.eval x = v) (hsz : size = 1) (hc : v.cells = #[v])
    (h : ∀ b w', w.heap.size ≤ b → Sat W w' (Cs b e [v] :: L) → K (a.put o.dst (.slice (some ⟨b, 0, none⟩) 1 1)) w') : o.wp P a w K Q := by
  subst hsz
  subst hv
  obtain ⟨hu, i, hi, hs, rfl, hz⟩ := elemB_parts hT
  have hr := run_buildSlice (P := P) w T e 1 (#[(0, x)].map fun (i, x) => (i, a.eval x)) #[a.eval x] i z hu hi hz (by rw [hs]; decide) (by rw [hs]; decide) (by
    simp only [hs]
    simp [Instr.fill, hc]
    apply Array.ext
    · simp
    · intro i h1 h2
      simp at h2
      subst h2
      simp)
  have h3 := h _ _ (Nat.le_refl _) (hS.newCs [a.eval x] e)
  have h4 : execOp a.eval o = (do let x ← Instr.buildSlice T 1 (#[(0, x)].map fun (i, x) => (i, a.eval x)); pure (.value x)) := by simp only [execOp, ho]
  exact wp_of_val h4 hr h3
end
end Go.Sep
