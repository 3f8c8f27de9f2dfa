/-
  GraphAcyclic: nothing comes from itself (plain); calls that come in.
-/
import Derived.Test.YtfbphibgcolmbaaGrLostP
namespace Go.Proofs.Ytfbphibgcolmbaa
open Go.RowKit Go.Sep Go.ChangeShapes Go.WideShapes Go.ChangeAt
set_option linter.unusedSimpArgs false
set_option linter.unusedVariables false
attribute [local irreducible] Go.Oper.wp Go.wpList Go.Calls Go.Code.wp Go.Sep.Reg
structure GOpD where
  kind : Int
  a : Int
  b : Int
def gov (x : GOpD) : List Value := [.int .i64 x.kind, .int .i64 x.a, .int .i64 x.b]
theorem gov_len (l : List GOpD) : ∀ x ∈ l, (gov x).length = 3 := fun _ _ => rfl
theorem gov_all (x : GOpD) : ∀ u ∈ gov x, u.oneCell' = true := fun u hu => by
  simp only [gov, List.mem_cons, List.not_mem_nil, or_false] at hu
  rcases hu with rfl | rfl | rfl <;> rfl
def GOpD.Ok (x : GOpD) : Prop := (-9223372036854775808 ≤ x.kind ∧ x.kind ≤ 9223372036854775807) ∧ (-9223372036854775808 ≤ x.a ∧ x.a ≤ 9223372036854775807) ∧ (-9223372036854775808 ≤ x.b ∧ x.b ≤ 9223372036854775807)
theorem open_gops {H : Type} {enc : TypeId × Value → H} {W : World} {ao : Option Addr} {len cap : Nat} {d : DataW H} {ps : List MemPlace}
    (h : DataW.Trod enc Try.prog W 0 (fun _ => true) true 22 (.slice ao len cap) d ps) :
    ∃ l : List GOpD, l.length = len ∧ Rd W (.slice ao len cap) len 3 (l.flatMap gov) ∧ ∀ x ∈ l, x.Ok := by
  have c3 : Try.prog.cellsOf 3 = 1 := by kernel_rfl
  obtain ⟨l, h1, h2, h3, _⟩ := open_enc (f := gov) (Q := GOpD.Ok) Try.underlying22 (sz := 3) (by kernel_rfl) (by decide) h (fun r n x hl h => by
    obtain ⟨xs, m, _, _, _, hlen, hf⟩ := DataW.trod_struct Try.underlying26 h
    have hlen : xs.length = 3 := hlen
    have f0 : DataW.trod enc Try.prog W 0 (fun _ => true) true m 3 ((r.drop 0).take (Try.prog.cellsOf 3)) = xs[0]? := hf 0 _ rfl
    have f1 : DataW.trod enc Try.prog W 0 (fun _ => true) true m 3 ((r.drop 1).take (Try.prog.cellsOf 3)) = xs[1]? := hf 1 _ rfl
    have f2 : DataW.trod enc Try.prog W 0 (fun _ => true) true m 3 ((r.drop 2).take (Try.prog.cellsOf 3)) = xs[2]? := hf 2 _ rfl
    rw [c3, List.getElem?_eq_getElem (by omega)] at f0 f1 f2
    obtain ⟨k0, e0, _, w0⟩ := DataW.trod_int Try.underlying3 f0
    obtain ⟨k1, e1, _, w1⟩ := DataW.trod_int Try.underlying3 f1
    obtain ⟨k2, e2, _, w2⟩ := DataW.trod_int Try.underlying3 f2
    exact ⟨⟨k0, k1, k2⟩, cells3 hl e0 e1 e2, i64_of w0, i64_of w1, i64_of w2⟩)
  exact ⟨l, h1, h2, h3⟩
namespace Gr
def Acyc (G : Gr) : Prop := ∀ a b, (a, b) ∈ G.E → ¬ G.Reach b a
theorem acyc_new : Gr.new.Acyc := fun a b h => by cases h
theorem acyc_plus {G : Gr} (h : G.Acyc) (k o : Int) : (G.plus k o).Acyc := h
theorem mem_link {G : Gr} {a b x y : Nat} : (x, y) ∈ (G.link a b).E ↔ (x, y) ∈ G.E ∨ (x = a ∧ y = b) := by
  simp only [link, List.mem_append, List.mem_singleton, Prod.mk.injEq]
theorem link_mono {G : Gr} {a b x y : Nat} (h : G.Reach x y) : (G.link a b).Reach x y := h (fun z => (G.link a b).Reach x z) (Reach.refl _ _) fun _ _ h1 h2 => h1.snoc (mem_link.2 (.inl h2))
theorem link_reach {G : Gr} {a b x y : Nat} (h : (G.link a b).Reach x y) : G.Reach x y ∨ (G.Reach x a ∧ G.Reach b y) :=
  h (fun z => G.Reach x z ∨ (G.Reach x a ∧ G.Reach b z)) (.inl (Reach.refl _ _)) fun u v h1 h2 => by
    rcases mem_link.1 h2 with h2 | ⟨rfl, rfl⟩
    · rcases h1 with h1 | ⟨h1, h3⟩
      · exact .inl (h1.snoc h2)
      · exact .inr ⟨h1, h3.snoc h2⟩
    · rcases h1 with h1 | ⟨h1, _⟩
      · exact .inr ⟨h1, Reach.refl _ _⟩
      · exact .inr ⟨h1, Reach.refl _ _⟩
theorem acyc_link {G : Gr} {a b : Nat} (h : G.Acyc) (hn : ¬ G.Reach b a) : (G.link a b).Acyc := fun x y hx hr => by
  rcases mem_link.1 hx with hx | ⟨rfl, rfl⟩
  · rcases link_reach hr with hr | ⟨h1, h2⟩
    · exact h x y hx hr
    · exact hn (h2.trans ((Reach.edge hx).trans h1))
  · rcases link_reach hr with hr | ⟨h1, h2⟩
    · exact hn hr
    · exact hn h1
theorem acyc_add {G : Gr} (h : G.Acyc) (k o : Int) : (G.addG k o).Acyc := by
  unfold addG
  split
  · exact h
  · exact h
theorem acyc_edge {G : Gr} (h : G.Acyc) (a b : Int) : (G.edgeG a b).Acyc := by
  unfold edgeG
  split
  · rename_i h2
    obtain ⟨x, y, rfl, rfl, _, _, _, _, hn⟩ := edge_yes h2
    exact acyc_link h hn
  · exact h
theorem edgeG_len (G : Gr) (a b : Int) : (G.edgeG a b).E.length ≤ G.E.length + 1 := by
  unfold edgeG
  split
  · simp [link]
  · omega
theorem edgeG_N (G : Gr) (a b : Int) : (G.edgeG a b).N = G.N := by
  unfold edgeG
  split <;> rfl
theorem edgeE_cases (G : Gr) {a b : Nat} (ha : a < G.N.length) (hb : b < G.N.length) : (a = b ∧ G.edgeE a b = 1) ∨ (a ≠ b ∧ (G.edgeE a b = 23 ∨ G.edgeE a b = 11)) ∨ (a ≠ b ∧ G.edgeE a b = 0) := by
  unfold edgeE
  rw [is_mk ha, is_mk hb]
  by_cases h : a = b
  · left; subst h; simp
  · right
    rw [if_neg (by simp; omega)]
    split
    · exact .inl ⟨h, .inl rfl⟩
    · split
      · exact .inl ⟨h, .inr rfl⟩
      · exact .inr ⟨h, rfl⟩
theorem edge_reaches {G : Gr} {a b : Nat} (h : G.edgeE a b = 0) : G.reaches (b : Int) (a : Int) = false ∧ (G.edgeG a b).reaches (a : Int) (b : Int) = true := by
  obtain ⟨x, y, h1, h2, hx, hy, _, _, hn⟩ := edge_yes h
  have e1 : a = x := by omega
  have e2 : b = y := by omega
  subst e1; subst e2
  refine ⟨reaches_false hn, ?_⟩
  unfold edgeG
  rw [if_pos h]
  exact reaches_true (G := G.link _ _) hx hy (Reach.edge (mem_link.2 (.inr ⟨by simp, by simp⟩)))
theorem edgeG_no {G : Gr} {a b : Int} (h : G.edgeE a b ≠ 0) : G.edgeG a b = G := by unfold edgeG; rw [if_neg h]
end Gr
end Go.Proofs.Ytfbphibgcolmbaa
