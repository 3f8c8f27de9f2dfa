/-
  Package version: a keeper; node, edge, next, Born, Flow, Source, Declass, Lost.
-/
import Derived.Test.YtapodjhkpahdnaaVsPlain
import Derived.Test.YtapodjhkpahdnaaLbOps
import Derived.Test.YtapodjhkpahdnaaGrEdge
namespace Go.Proofs.Ytapodjhkpahdnaa
open Go.RowKit Go.Sep
set_option linter.unusedSimpArgs false
set_option linter.unusedVariables false
attribute [local irreducible] Go.Oper.wp Go.wpList Go.Calls Go.Code.wp Go.Sep.Reg
attribute [local irreducible] IsG
/-- A keeper without its graph: where that is, its cache (which knows the graph's labels), its records. -/
def IsK (p g : Nat) (K : KD) : Asrt := Ex fun x : Nat × (Int → Option (Nat × Nat)) × Value => St [Pu (KW x.2.1 K.G), Cs p 74 [.pointer (some ⟨g, 0, none⟩), .pointer (some ⟨x.1, 0, none⟩), x.2.2], IsC x.1 x.2.1, Tb 53 3 rv x.2.2 K.R]
theorem IsK.open {W w : World} {L : List Asrt} {p g : Nat} {K : KD} (h : Sat W w (IsK p g K :: IsG g K.G :: L)) : ∃ c f v, KW f K.G ∧ Sat W w (Cs p 74 [.pointer (some ⟨g, 0, none⟩), .pointer (some ⟨c, 0, none⟩), v] :: IsG g K.G :: IsC c f :: Tb 53 3 rv v K.R :: L) := by
  obtain ⟨⟨c, f, v⟩, h⟩ := h.ex
  have h2 : Sat W w (Pu (KW f K.G) :: Cs p 74 [.pointer (some ⟨g, 0, none⟩), .pointer (some ⟨c, 0, none⟩), v] :: IsC c f :: Tb 53 3 rv v K.R :: IsG g K.G :: L) := h.open
  exact ⟨c, f, v, h2.pu.1, h2.pu.2.re [0, 3, 1, 2]⟩
theorem IsK.mk {W w : World} {L : List Asrt} {p g c : Nat} {K : KD} {f : Int → Option (Nat × Nat)} {v : Value} (hk : KW f K.G) (h : Sat W w (Cs p 74 [.pointer (some ⟨g, 0, none⟩), .pointer (some ⟨c, 0, none⟩), v] :: IsG g K.G :: IsC c f :: Tb 53 3 rv v K.R :: L)) : Sat W w (IsK p g K :: IsG g K.G :: L) :=
  Sat.mkEx (c, f, v) (Sat.mkSt (Sat.mkPu hk (h.re [0, 2, 3, 1])))
set_option maxRecDepth 20000 in
/-- What was done is written down. -/
theorem says_any {W w : World} {L : List Asrt} {p g c : Nat} {v : Value} {R : List RecD} (hS : Sat W w (Cs p 74 [.pointer (some ⟨g, 0, none⟩), .pointer (some ⟨c, 0, none⟩), v] :: Tb 53 3 rv v R :: L)) (hR : R.length ≤ 1000000) (k a b : Int) :
    Calls Try.prog 73 #[.pointer (some ⟨p, 0, none⟩), .int .i64 k, .int .i64 a, .int .i64 b] w fun e w' => e = .returned (.tuple #[]) ∧ ∃ v', Sat W w' (Cs p 74 [.pointer (some ⟨g, 0, none⟩), .pointer (some ⟨c, 0, none⟩), v'] :: Tb 53 3 rv v' (R ++ [⟨k, a, b⟩]) :: L) := by
  go_enter Try.func73, Try.ntmps73
  go_wp2_with (first
    | (refine toList (by rfl) ?_; refine ld hS _ _ (by rfl) _ _ (by rfl) (agOf (by rfl)) (by first | exact Has.z | exact Has.s Has.z | exact Has.s (Has.s Has.z) | exact Has.s (Has.s (Has.s Has.z)) | exact Has.s (Has.s (Has.s (Has.s Has.z))) | exact Has.s (Has.s (Has.s (Has.s (Has.s Has.z))))) (by rfl) ?_)
    | (refine toList (by rfl) ?_; refine bsF hS _ _ _ (by rfl) (elOf (by rfl)) [.agg (rv (⟨k, a, b⟩ : RecD)).toArray] (by rfl) (by rfl) (by decide) (by decide) (by intro v hv; rw [List.mem_singleton.1 hv]; rfl) ?_; intro b1 w1 hS1; clear hS; have hS := hS1; clear hS1; rw [agg1] at hS)
    | (refine toList (by rfl) ?_; refine apTbS (f := rv) hS _ _ _ _ (by rfl) _ _ (by rfl) (by rfl) (elOf (by rfl)) (by rfl) (by decide) (inOf (by rfl)) (by first | exact Has.z | exact Has.s Has.z | exact Has.s (Has.s Has.z) | exact Has.s (Has.s (Has.s Has.z)) | exact Has.s (Has.s (Has.s (Has.s Has.z))) | exact Has.s (Has.s (Has.s (Has.s (Has.s Has.z))))) [(⟨k, a, b⟩ : RecD)] (by exact rv_len _) (by exact hS.src1 (f := rv) Has.z rfl) (by exact rv_one _) (by simp; omega) (by simp; omega) ?_; intro ao5 c5 w1 hcap5 hS1; clear hS; have hS := hS1; clear hS1; dsimp only [List.set_cons_zero, List.set_cons_succ] at hS)
    | (refine toList (by rfl) ?_; refine st hS _ _ _ (by rfl) _ _ (by rfl) _ (by first | exact evC | exact evT (by rfl)) (by rfl) (szOf (by rfl)) (by first | exact Has.z | exact Has.s Has.z | exact Has.s (Has.s Has.z) | exact Has.s (Has.s (Has.s Has.z)) | exact Has.s (Has.s (Has.s (Has.s Has.z))) | exact Has.s (Has.s (Has.s (Has.s (Has.s Has.z))))) (by exact Nat.le_of_ble_eq_true rfl) ?_; intro w1 hS1; clear hS; have hS := hS1; clear hS1; dsimp only [List.set] at hS))
  go_end0
  have h9 := hS.drop
  rw [List.length_append] at h9
  exact ⟨rfl, _, h9⟩
set_option maxRecDepth 20000 in
set_option maxHeartbeats 1000000 in
/-- A node more. -/
theorem knode_any {W w : World} {L : List Asrt} {p g n : Nat} {K : KD} (hS : Sat W w (IsK p g K :: IsG g K.G :: L)) (hK : K.Ok n) (hn : n ≤ 900000) (k o : Int) :
    Calls Try.prog 36 #[.pointer (some ⟨p, 0, none⟩), .int .i64 k, .int .i64 o] w fun e w' => e = .returned (.tuple #[.int .i64 (K.G.addI k o), .int .i64 (K.G.addE k o)]) ∧ Sat W w' (IsK p g (K.born k o) :: IsG g (K.born k o).G :: L) := by
  have HK := Lib.hid hK
  have hr := hK.r
  clear hK
  obtain ⟨c, f, v, hkn, hS⟩ := IsK.open hS
  have HKN := Lib.hid hkn
  have HADD := Lib.hid (fun w (L : List Asrt) (h : Sat W w (IsG g K.G :: L)) => add_any h HK.out.g k o)
  obtain ⟨E, hE⟩ : ∃ E, K.G.addE k o = E := ⟨_, rfl⟩
  obtain ⟨I, hI⟩ : ∃ I, K.G.addI k o = I := ⟨_, rfl⟩
  obtain ⟨G2, hG2⟩ : ∃ G2, K.G.addG k o = G2 := ⟨_, rfl⟩
  rw [hE, hI, hG2] at HADD
  rw [hE, hI]
  clear hkn
  by_cases h0 : E = 0
  · subst h0
    have HB := Lib.hid (show K.born k o = ⟨G2, K.R ++ [⟨1, k, o⟩]⟩ by unfold KD.born; rw [if_pos hE]; simp [KD.says, hG2])
    have HKB := Lib.hid (show KW (updC f I (0, 0)) G2 by have := HKN.out.born HK.out.g hE; rw [KD.born_G, hG2, hI] at this; exact this)
    rw [HB.out]
    clear hE hI hG2
    go_enter Try.func36, Try.ntmps36
    go_wp2_with (first
      | (refine toList (by rfl) ?_; refine ld hS _ _ (by rfl) _ _ (by rfl) (agOf (by rfl)) (by first | exact Has.z | exact Has.s Has.z | exact Has.s (Has.s Has.z) | exact Has.s (Has.s (Has.s Has.z)) | exact Has.s (Has.s (Has.s (Has.s Has.z))) | exact Has.s (Has.s (Has.s (Has.s (Has.s Has.z))))) (by rfl) ?_)
      | (go_at_call 46; refine (HADD.out _ _ (hS.re [1])).mono ?_; rintro e w1 ⟨rfl, hS1⟩; clear hS; have hS := hS1; clear hS1; replace hS := hS.pull1)
      | (go_at_call 72; refine (cnode_any (hS.re [2]) I).mono ?_; rintro e w1 ⟨rfl, hS1⟩; clear hS; have hS := hS1; clear hS1; replace hS := hS.re [1, 3, 2, 0])
      | (go_at_call 73; refine (says_any hS (by omega) 1 k o).mono ?_; rintro e w1 ⟨rfl, v', hS1⟩; clear hS; have hS := hS1; clear hS1))
    go_ret2
    exact ⟨rfl, IsK.mk (K := ⟨G2, K.R ++ [⟨1, k, o⟩]⟩) HKB.out (hS.re [0, 2, 3, 1])⟩
  · have HB := Lib.hid (show K.born k o = K by unfold KD.born; rw [if_neg (by rw [hE]; exact h0)])
    have HG := Lib.hid (show G2 = K.G by rw [← hG2]; exact addG_no (by rw [hE]; exact h0))
    have e0 : (E == 0) = false := beq_eq_false_iff_ne.2 h0
    rw [HG.out] at HADD
    rw [HB.out]
    clear hE hI hG2 h0
    go_enter Try.func36, Try.ntmps36
    go_wp2_with (first
      | (refine toList (by rfl) ?_; refine ld hS _ _ (by rfl) _ _ (by rfl) (agOf (by rfl)) (by first | exact Has.z | exact Has.s Has.z | exact Has.s (Has.s Has.z) | exact Has.s (Has.s (Has.s Has.z)) | exact Has.s (Has.s (Has.s (Has.s Has.z))) | exact Has.s (Has.s (Has.s (Has.s (Has.s Has.z))))) (by rfl) ?_)
      | (go_at_call 46; refine (HADD.out _ _ (hS.re [1])).mono ?_; rintro e w1 ⟨rfl, hS1⟩; clear hS; have hS := hS1; clear hS1; replace hS := hS.pull1))
    go_ret2
    exact ⟨rfl, IsK.mk HKN.out hS⟩
set_option maxRecDepth 20000 in
set_option maxHeartbeats 1000000 in
/-- An edge more, out of a node that is open. -/
theorem kedge_any {W w : World} {L : List Asrt} {p g n : Nat} {K : KD} (hS : Sat W w (IsK p g K :: IsG g K.G :: L)) (hK : K.Ok n) (hn : n ≤ 900000) (a b : Int) (ho : K.G.edgeE a b = 0 → K.G.downsI a = []) :
    Calls Try.prog 40 #[.pointer (some ⟨p, 0, none⟩), .int .i64 a, .int .i64 b] w fun e w' => e = .returned (.tuple #[]) ∧ Sat W w' (IsK p g (K.edge a b) :: IsG g (K.edge a b).G :: L) := by
  have HK := Lib.hid hK
  have hr := hK.r
  have he := hK.e
  clear hK
  obtain ⟨c, f, v, hkn, hS⟩ := IsK.open hS
  have HKN := Lib.hid hkn
  have HED := Lib.hid (fun w (L : List Asrt) (h : Sat W w (IsG g K.G :: L)) => edge_any h HK.out.g a b)
  obtain ⟨E, hE⟩ : ∃ E, K.G.edgeE a b = E := ⟨_, rfl⟩
  obtain ⟨G2, hG2⟩ : ∃ G2, K.G.edgeG a b = G2 := ⟨_, rfl⟩
  rw [hE, hG2] at HED
  clear hkn
  by_cases h0 : E = 0
  · subst h0
    have HB := Lib.hid (show K.edge a b = ⟨G2, K.R ++ [⟨2, a, b⟩]⟩ by unfold KD.edge; rw [if_pos hE]; simp [KD.says, hG2])
    have HKB := Lib.hid (show KW (updC f a ((cv f a).1 ||| clab f b, (cv f a).2)) G2 by rw [← hG2]; exact HKN.out.edge HK.out.g (by omega) hE (ho hE))
    have HSA := Lib.hid (show (cv f a).1 < 256 ∧ (cv f a).2 < 256 from HKN.out.small HK.out.g a)
    have HSB := Lib.hid (show (cv f b).1 < 256 ∧ (cv f b).2 < 256 from HKN.out.small HK.out.g b)
    rw [HB.out]
    clear hE hG2 ho
    go_enter Try.func40, Try.ntmps40
    go_wp2_with (first
      | (refine toList (by rfl) ?_; refine ld hS _ _ (by rfl) _ _ (by rfl) (agOf (by rfl)) (by first | exact Has.z | exact Has.s Has.z | exact Has.s (Has.s Has.z) | exact Has.s (Has.s (Has.s Has.z)) | exact Has.s (Has.s (Has.s (Has.s Has.z))) | exact Has.s (Has.s (Has.s (Has.s (Has.s Has.z))))) (by rfl) ?_)
      | (go_at_call 47; refine (HED.out _ _ (hS.re [1])).mono ?_; rintro e w1 ⟨rfl, hS1⟩; clear hS; have hS := hS1; clear hS1; replace hS := hS.pull1)
      | (go_at_call 74; refine (cedge_any (hS.re [2]) a b HSA.out.1 HSB.out.1 HSB.out.2).mono ?_; rintro e w1 ⟨rfl, hS1⟩; clear hS; have hS := hS1; clear hS1; replace hS := hS.re [1, 3, 2, 0])
      | (go_at_call 73; refine (says_any hS (by omega) 2 a b).mono ?_; rintro e w1 ⟨rfl, v', hS1⟩; clear hS; have hS := hS1; clear hS1))
    go_end0
    exact ⟨rfl, IsK.mk (K := ⟨G2, K.R ++ [⟨2, a, b⟩]⟩) HKB.out (hS.re [0, 2, 3, 1])⟩
  · have HB := Lib.hid (show K.edge a b = K by unfold KD.edge; rw [if_neg (by rw [hE]; exact h0)])
    have HG := Lib.hid (show G2 = K.G by rw [← hG2]; unfold Gr.edgeG; rw [if_neg (by rw [hE]; exact h0)])
    have e0 : (E == 0) = false := beq_eq_false_iff_ne.2 h0
    rw [HG.out] at HED
    rw [HB.out]
    clear hE hG2 h0 ho
    go_enter Try.func40, Try.ntmps40
    go_wp2_with (first
      | (refine toList (by rfl) ?_; refine ld hS _ _ (by rfl) _ _ (by rfl) (agOf (by rfl)) (by first | exact Has.z | exact Has.s Has.z | exact Has.s (Has.s Has.z) | exact Has.s (Has.s (Has.s Has.z)) | exact Has.s (Has.s (Has.s (Has.s Has.z))) | exact Has.s (Has.s (Has.s (Has.s (Has.s Has.z))))) (by rfl) ?_)
      | (go_at_call 47; refine (HED.out _ _ (hS.re [1])).mono ?_; rintro e w1 ⟨rfl, hS1⟩; clear hS; have hS := hS1; clear hS1; replace hS := hS.pull1))
    go_end0
    exact ⟨rfl, IsK.mk HKN.out hS⟩
end Go.Proofs.Ytapodjhkpahdnaa
