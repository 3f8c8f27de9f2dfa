/-
  Versions: a process that writes a file, and reads it, in turn (plain).
-/
import Derived.Test.YtapodjhkpahdnaaVsPlain
namespace Go.Proofs.Ytapodjhkpahdnaa
open Go.Sep
set_option linter.unusedSimpArgs false
set_option linter.unusedVariables false
def lnode (k : Nat) : NodeD := if k % 2 = 0 then ⟨1, 1, k / 2 + 1, 0, 0, false⟩ else ⟨2, 2, k / 2 + 1, 0, 0, false⟩
def lineE : Nat → List (Nat × Nat)
  | 0 => []
  | 1 => [(1, 0)]
  | c + 2 => lineE (c + 1) ++ [(c + 2, c), (c + 2, c + 1)]
def lineG (c : Nat) : Gr := ⟨(List.range (c + 1)).map lnode, lineE c⟩
theorem lineG_len (c : Nat) : (lineG c).N.length = c + 1 := by simp [lineG]
theorem lineG_at {c k : Nat} (h : k ≤ c) : (lineG c).N[k]? = some (lnode k) := by
  unfold lineG
  rw [List.getElem?_map, List.getElem?_range (by omega)]; rfl
theorem lineE_next (c : Nat) : (c + 1, c) ∈ lineE (c + 1) := by
  cases c with
  | zero => simp [lineE]
  | succ c => simp [lineE]
theorem lineE_mono {c : Nat} {e : Nat × Nat} (h : e ∈ lineE c) : e ∈ lineE (c + 1) := by
  cases c with
  | zero => cases h
  | succ c => exact List.mem_append_left _ h
theorem lineE_le {c k : Nat} (h : k < c) : (k + 1, k) ∈ lineE c := by
  induction c with
  | zero => omega
  | succ c ih =>
    by_cases hk : k = c
    · subst hk; exact lineE_next k
    · exact lineE_mono (ih (by omega))
theorem line_count (c : Nat) (p : Nat) (hp : p < 2) (k : Int) (hk : k = (p : Int) + 1) : ((List.range c).map lnode).filter (Gr.same k k) = (((List.range c).filter fun j => decide (j % 2 = p))).map lnode := by
  subst hk
  rw [List.filter_map]
  congr 1
  apply List.filter_congr
  intro j _
  have h2 : j % 2 < 2 := Nat.mod_lt _ (by decide)
  unfold Function.comp Gr.same lnode
  by_cases h : j % 2 = 0
  · rw [if_pos h]
    have : p = 0 ∨ p = 1 := by omega
    rcases this with rfl | rfl
    · simp [h]
    · simp [h]
  · rw [if_neg h]
    have h1 : j % 2 = 1 := by omega
    have : p = 0 ∨ p = 1 := by omega
    rcases this with rfl | rfl
    · simp [h1]
    · simp [h1]
theorem par_count (p : Nat) (hp : p < 2) : ∀ c, ((List.range c).filter fun j => decide (j % 2 = p)).length = (c + 1 - p) / 2
  | 0 => by simp; omega
  | c + 1 => by
    rw [List.range_succ, List.filter_append, List.length_append, par_count p hp c]
    by_cases h : c % 2 = p
    · rw [List.filter_cons_of_pos (by simpa using h)]
      simp; omega
    · rw [List.filter_cons_of_neg (by simpa using h)]
      simp; omega
theorem line_plus (c : Nat) (hc : 1 ≤ c) : (lineG c).plus (lnode (c - 1)).kind (lnode (c - 1)).obj = ⟨(lineG (c + 1)).N, lineE c⟩ := by
  have hk : (lnode (c - 1)).kind = (((c - 1) % 2 : Nat) : Int) + 1 ∧ (lnode (c - 1)).obj = (((c - 1) % 2 : Nat) : Int) + 1 := by
    unfold lnode
    by_cases h : (c - 1) % 2 = 0
    · rw [if_pos h, h]; exact ⟨rfl, rfl⟩
    · rw [if_neg h]
      have h1 : (c - 1) % 2 = 1 := by omega
      rw [h1]; exact ⟨rfl, rfl⟩
  have hn : (lineG c).newN (lnode (c - 1)).kind (lnode (c - 1)).obj = lnode (c + 1) := by
    unfold Gr.newN Gr.count
    rw [hk.1, hk.2]
    show NodeD.mk _ _ ((((List.range (c + 1)).map lnode).filter _).length + 1) 0 0 false = _
    rw [line_count (c + 1) ((c - 1) % 2) (by omega) _ rfl, List.length_map, par_count _ (by omega)]
    unfold lnode
    by_cases h : (c + 1) % 2 = 0
    · rw [if_pos h]
      have h1 : (c - 1) % 2 = 0 := by omega
      rw [h1]
      simp only [Int.natCast_zero, Int.zero_add, NodeD.mk.injEq, and_true, true_and]
      omega
    · rw [if_neg h]
      have h1 : (c - 1) % 2 = 1 := by omega
      rw [h1]
      simp only [NodeD.mk.injEq, and_true]
      refine ⟨by omega, by omega, by omega⟩
  unfold Gr.plus
  rw [hn]
  show (⟨(List.range (c + 1)).map lnode ++ [lnode (c + 1)], lineE c⟩ : Gr) = _
  unfold lineG
  rw [List.range_succ (n := c + 1), List.map_append]; rfl
noncomputable def KD.line : Nat → KD
  | 0 => (KD.new.born 1 1).born 2 2
  | 1 => (KD.line 0).flow 0 1
  | c + 2 => (KD.line (c + 1)).flow ((c + 1 : Nat) : Int) (c : Nat)
theorem line0 : KD.line 0 = ⟨⟨[lnode 0, lnode 1], []⟩, [⟨1, 1, 1⟩, ⟨1, 2, 2⟩]⟩ := rfl
theorem line_ok0 : (KD.line 0).Ok 2 := (KD.new_ok.born 1 1).born 2 2
theorem line_step0 : (KD.line 0).flowE 0 1 = 0 ∧ (KD.line 0).flowI 0 1 = 1 ∧ KD.line 1 = ⟨lineG 1, [⟨1, 1, 1⟩, ⟨1, 2, 2⟩, ⟨2, 1, 0⟩]⟩ := by
  have he : (KD.line 0).ends ((1 : Nat) : Int) = false := rfl
  obtain ⟨h1, h2, h3⟩ := KD.flow_open line_ok0 (a := 0) (b := 1) (by decide) (by decide) (by decide) he
  refine ⟨h1, h2, ?_⟩
  show (KD.line 0).flow 0 1 = _
  have h4 : (KD.line 0).flow 0 1 = _ := h3
  rw [h4, if_neg (by rw [line0]; simp)]
  rw [line0]; rfl
theorem line_ok1 : (KD.line 1).Ok 5 := line_ok0.flow (by decide) 0 1
structure LineOk (c : Nat) : Prop where
  g : (KD.line c).G = lineG c
  ok : (KD.line c).Ok (3 * c + 2)
  r : (KD.line c).R.length = 3 * c
theorem line_ends {c : Nat} (hc : 1 ≤ c) (hG : (KD.line c).G = lineG c) : (KD.line c).ends ((c - 1 : Nat) : Int) = true := by
  unfold KD.ends
  rw [hG, Gr.downsI_nat (by rw [lineG_len]; omega)]
  have hm : c ∈ (lineG c).downs (c - 1) := Gr.mem_downs.2 ⟨by rw [lineG_len]; omega, by
    obtain ⟨d, rfl⟩ : ∃ d, c = d + 1 := ⟨c - 1, by omega⟩
    exact lineE_next d⟩
  have := List.length_pos_of_mem hm
  rw [decide_eq_true this]; rfl
theorem line_step {c : Nat} (hc : 1 ≤ c) (hb : c ≤ 100) (h : LineOk c) : (KD.line c).flowE (c : Int) ((c - 1 : Nat) : Int) = 0 ∧ (KD.line c).flowI (c : Int) ((c - 1 : Nat) : Int) = ((c + 1 : Nat) : Int) ∧ LineOk (c + 1) := by
  have hl : (KD.line c).G.N.length = c + 1 := by rw [h.g, lineG_len]
  obtain ⟨h1, h2, _, h3⟩ := KD.flow_ends h.ok (a := c) (b := c - 1) (by omega) (by omega) (by omega) (by omega) (line_ends hc h.g)
  have hstep : KD.line (c + 1) = (KD.line c).flow (c : Int) ((c - 1 : Nat) : Int) := by
    obtain ⟨d, rfl⟩ : ∃ d, c = d + 1 := ⟨c - 1, by omega⟩
    rfl
  rw [hl] at h2 h3
  refine ⟨h1, h2, ?_, ?_, ?_⟩
  · rw [hstep, h3]
    show Gr.link (Gr.link _ _ _) _ _ = _
    rw [h.g, Gr.nodeI_at (lineG_at (by omega : c - 1 ≤ c)), line_plus c hc]
    obtain ⟨d, rfl⟩ : ∃ d, c = d + 1 := ⟨c - 1, by omega⟩
    show (⟨_, (lineE (d + 1) ++ [(d + 1 + 1, d + 1 - 1)]) ++ [(d + 1 + 1, d + 1)]⟩ : Gr) = ⟨_, lineE (d + 1) ++ [(d + 2, d), (d + 2, d + 1)]⟩
    rw [List.append_assoc]; rfl
  · rw [hstep]
    have := h.ok.flow (by omega) (c : Int) ((c - 1 : Nat) : Int)
    exact this.mono (by omega)
  · rw [hstep, h3, List.length_append, h.r]; simp; omega
theorem line_one : LineOk 1 := ⟨by rw [line_step0.2.2], line_ok1, by rw [line_step0.2.2]; rfl⟩
theorem line_all : ∀ c, 1 ≤ c → c ≤ 101 → LineOk c
  | 0, h, _ => by omega
  | 1, _, _ => line_one
  | c + 2, _, h => (line_step (by omega) (by omega) (line_all (c + 1) (by omega) (by omega))).2.2
theorem line_reach {c : Nat} : ∀ d k, k + d = c → (lineG c).Reach c k
  | 0, k, h => by obtain rfl : k = c := by omega
                  exact Gr.Reach.refl _ _
  | d + 1, k, h => (line_reach d (k + 1) (by omega)).snoc (lineE_le (by omega))
theorem line_above (c : Nat) : ((lineG c).aboveI (c : Int)).length = c + 1 := by
  unfold Gr.aboveI
  rw [Gr.is_mk (by rw [lineG_len]; omega), if_pos rfl, Int.toNat_natCast]
  unfold Gr.above
  rw [List.filter_eq_self.2, List.length_range, lineG_len]
  intro k hk
  rw [List.mem_range, lineG_len] at hk
  exact @decide_eq_true _ (Classical.propDecidable _) (line_reach (c - k) k (by omega))
theorem lnode_ver (k : Nat) : (lnode k).ver = k / 2 + 1 := by unfold lnode; split <;> rfl
end Go.Proofs.Ytapodjhkpahdnaa
