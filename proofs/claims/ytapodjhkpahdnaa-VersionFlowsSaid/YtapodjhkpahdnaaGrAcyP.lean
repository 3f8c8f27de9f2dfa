/-
  Nothing comes from itself (plain).
-/
import Derived.Test.YtapodjhkpahdnaaGrAwake
import Derived.Test.YtapodjhkpahdnaaSepLaw
import Derived.Test.YtapodjhkpahdnaaSepArg
namespace Go.Proofs.Ytapodjhkpahdnaa
open Go.RowKit Go.Sep
set_option linter.unusedSimpArgs false
set_option linter.unusedVariables false
attribute [local irreducible] Go.Oper.wp Go.wpList Go.Calls Go.Code.wp Go.Sep.Reg
namespace Gr
def Acyc (G : Gr) : Prop := ∀ a b, (a, b) ∈ G.E → ¬ G.Reach b a
theorem acyc_new : Gr.new.Acyc := fun a b h => by cases h
theorem acyc_plus {G : Gr} (h : G.Acyc) (k o : Int) : (G.plus k o).Acyc := h
theorem mem_link {G : Gr} {a b x y : Nat} : (x, y) ∈ (G.link a b).E ↔ (x, y) ∈ G.E ∨ (x = a ∧ y = b) := by
  simp only [link, List.mem_append, List.mem_singleton, Prod.mk.injEq]
theorem link_mono {G : Gr} {a b x y : Nat} (h : G.Reach x y) : (G.link a b).Reach x y := h (fun z => (G.link a b).Reach x z) (Reach.refl _ _) fun _ _ h1 h2 => h1.snoc (mem_link.2 (.inl h2))
theorem link_reach {G : Gr} {a b x y : Nat} (h : (G.link a b).Reach x y) : G.Reach x y ∨ (G.Reach x a ∧ G.Reach b y) :=
  h (fun z => G.Reach x z ∨ (G.Reach x a ∧ G.Reach b z)) (.inl (Reach.refl _ _)) fun u v h1 h2 => by
    rcases mem_link.1 h2 with h2 | ⟨rfl, rfl⟩
    · rcases h1 with h1 | ⟨h1, h3⟩
      · exact .inl (h1.snoc h2)
      · exact .inr ⟨h1, h3.snoc h2⟩
    · rcases h1 with h1 | ⟨h1, _⟩
      · exact .inr ⟨h1, Reach.refl _ _⟩
      · exact .inr ⟨h1, Reach.refl _ _⟩
theorem acyc_link {G : Gr} {a b : Nat} (h : G.Acyc) (hn : ¬ G.Reach b a) : (G.link a b).Acyc := fun x y hx hr => by
  rcases mem_link.1 hx with hx | ⟨rfl, rfl⟩
  · rcases link_reach hr with hr | ⟨h1, h2⟩
    · exact h x y hx hr
    · exact hn (h2.trans ((Reach.edge hx).trans h1))
  · rcases link_reach hr with hr | ⟨h1, h2⟩
    · exact hn hr
    · exact hn h1
theorem acyc_add {G : Gr} (h : G.Acyc) (k o : Int) : (G.addG k o).Acyc := by
  unfold addG
  split
  · exact h
  · exact h
theorem acyc_edge {G : Gr} (h : G.Acyc) (a b : Int) : (G.edgeG a b).Acyc := by
  unfold edgeG
  split
  · rename_i h2
    obtain ⟨x, y, rfl, rfl, _, _, _, _, hn⟩ := edge_yes h2
    exact acyc_link h hn
  · exact h
theorem edgeG_len (G : Gr) (a b : Int) : (G.edgeG a b).E.length ≤ G.E.length + 1 := by
  unfold edgeG
  split
  · simp [link]
  · omega
theorem edgeG_N (G : Gr) (a b : Int) : (G.edgeG a b).N = G.N := by
  unfold edgeG
  split <;> rfl
theorem edgeE_cases (G : Gr) {a b : Nat} (ha : a < G.N.length) (hb : b < G.N.length) : (a = b ∧ G.edgeE a b = 1) ∨ (a ≠ b ∧ (G.edgeE a b = 23 ∨ G.edgeE a b = 11)) ∨ (a ≠ b ∧ G.edgeE a b = 0) := by
  unfold edgeE
  rw [is_mk ha, is_mk hb]
  by_cases h : a = b
  · left; subst h; simp
  · right
    rw [if_neg (by simp; omega)]
    split
    · exact .inl ⟨h, .inl rfl⟩
    · split
      · exact .inl ⟨h, .inr rfl⟩
      · exact .inr ⟨h, rfl⟩
theorem edge_reaches {G : Gr} {a b : Nat} (h : G.edgeE a b = 0) : G.reaches (b : Int) (a : Int) = false ∧ (G.edgeG a b).reaches (a : Int) (b : Int) = true := by
  obtain ⟨x, y, h1, h2, hx, hy, _, _, hn⟩ := edge_yes h
  have e1 : a = x := by omega
  have e2 : b = y := by omega
  subst e1; subst e2
  refine ⟨reaches_false hn, ?_⟩
  unfold edgeG
  rw [if_pos h]
  exact reaches_true (G := G.link _ _) hx hy (Reach.edge (mem_link.2 (.inr ⟨by simp, by simp⟩)))
theorem edgeG_no {G : Gr} {a b : Int} (h : G.edgeE a b ≠ 0) : G.edgeG a b = G := by unfold edgeG; rw [if_neg h]
end Gr
end Go.Proofs.Ytapodjhkpahdnaa
