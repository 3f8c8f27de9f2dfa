/-
  A ladder of so many steps, and its ways (plain).
-/
import Derived.Test.YtpnbdnfgdiakhaaMQue
import Derived.Test.YtpnbdnfgdiakhaaMGrd
namespace Go.Proofs.Ytpnbdnfgdiakhaa
open Go.Sep
open Go
set_option linter.unusedSimpArgs false
set_option linter.unusedVariables false
def ldN (i : Nat) : List NodeD := (List.range i).map fun (j : Nat) => ⟨2, 1 + (j : Int), 1, 0, 0, false⟩
def ldE4 (j : Nat) : List (Nat × Nat) := [(3 * j, 3 * j + 1), (3 * j, 3 * j + 2), (3 * j + 1, 3 * j + 3), (3 * j + 2, 3 * j + 3)]
def ldE (i : Nat) : List (Nat × Nat) := (List.range i).flatMap ldE4
theorem ldN_len (i : Nat) : (ldN i).length = i := by simp [ldN]
theorem ldE_next (i : Nat) : ldE (i + 1) = ldE i ++ ldE4 i := by simp [ldE, List.range_succ]
theorem ldE_len (i : Nat) : (ldE i).length = 4 * i := by
  induction i with
  | zero => rfl
  | succ i ih => rw [ldE_next, List.length_append, ih]; simp [ldE4]; omega
theorem mem_ldE {i x y : Nat} : (x, y) ∈ ldE i ↔ ∃ j, j < i ∧ ((x = 3 * j ∧ (y = 3 * j + 1 ∨ y = 3 * j + 2)) ∨ ((x = 3 * j + 1 ∨ x = 3 * j + 2) ∧ y = 3 * j + 3)) := by
  unfold ldE
  rw [List.mem_flatMap]
  constructor
  · rintro ⟨j, hj, h⟩
    refine ⟨j, List.mem_range.1 hj, ?_⟩
    simp only [ldE4, List.mem_cons, List.not_mem_nil, or_false, Prod.mk.injEq] at h
    omega
  · rintro ⟨j, hj, h⟩
    refine ⟨j, List.mem_range.2 hj, ?_⟩
    simp only [ldE4, List.mem_cons, List.not_mem_nil, or_false, Prod.mk.injEq]
    omega
theorem ld_add {i : Nat} (h : i < 4096) : (⟨ldN i, []⟩ : Gr).addG 2 (1 + (i : Int)) = ⟨ldN (i + 1), []⟩ := by
  have hc : (⟨ldN i, []⟩ : Gr).count 2 (1 + (i : Int)) = 0 := by
    unfold Gr.count
    rw [List.length_eq_zero_iff, List.filter_eq_nil_iff]
    intro x hx
    obtain ⟨j, hj, rfl⟩ := List.mem_map.1 hx
    have hj2 := List.mem_range.1 hj
    unfold Gr.same
    rw [Bool.and_eq_true, decide_eq_true_eq, decide_eq_true_eq]
    dsimp only
    omega
  unfold Gr.addG
  rw [if_pos (by
    unfold Gr.addOk
    rw [newOk_yes (by decide) (by decide) (by omega) (by omega), decide_eq_true (by show (ldN i).length < 4096; rw [ldN_len]; exact h)]; rfl)]
  unfold Gr.plus Gr.newN
  rw [hc]
  show (⟨ldN i ++ [_], []⟩ : Gr) = _
  rw [show ldN (i + 1) = ldN i ++ [⟨2, 1 + (i : Int), 1, 0, 0, false⟩] by simp [ldN, List.range_succ]]
/-- Edges that all go on. -/
def Rise (G : Gr) : Prop := ∀ x y, (x, y) ∈ G.E → x < y
theorem Rise.reach {G : Gr} (h : Rise G) {a b : Nat} (hr : G.Reach a b) : a ≤ b := hr (fun x => a ≤ x) (Nat.le_refl _) fun x y hx hxy => Nat.le_of_lt (Nat.lt_of_le_of_lt hx (h x y hxy))
theorem Rise.edge {G : Gr} (h : Rise G) {a b : Nat} (ha : a < G.N.length) (hb : b < G.N.length) (hab : a < b) (hn : (a, b) ∉ G.E) : G.edgeE a b = 0 ∧ G.edgeG a b = G.link a b := by
  have h0 : G.edgeE a b = 0 := by
    unfold Gr.edgeE
    rw [if_neg (by
      rw [Gr.is_mk ha, Gr.is_mk hb]
      simp; omega), if_neg (by
      have : G.has ((a : Int), (b : Int)) = false := by
        cases hh : G.has ((a : Int), (b : Int)) with
        | false => rfl
        | true =>
          unfold Gr.has at hh
          obtain ⟨⟨x, y⟩, h1, h2⟩ := List.any_eq_true.1 hh
          simp only [Bool.and_eq_true, decide_eq_true_eq] at h2
          exact absurd ((show (x, y) = (a, b) by rw [show x = a by omega, show y = b by omega]) ▸ h1) hn
      rw [this]; simp), if_neg (by
      rw [Gr.reaches_false (fun hr => absurd (h.reach hr) (by omega))]; simp)]
  exact ⟨h0, by unfold Gr.edgeG; rw [if_pos h0]; simp⟩
theorem Rise.link {G : Gr} (h : Rise G) {a b : Nat} (hab : a < b) : Rise (G.link a b) := fun x y hxy => by
  rcases Gr.mem_link.1 hxy with h1 | ⟨rfl, rfl⟩
  · exact h x y h1
  · exact hab
def ldG (n i : Nat) : Gr := ⟨ldN n, ldE i⟩
theorem ld_rise (n i : Nat) : Rise (ldG n i) := fun x y h => by
  obtain ⟨j, _, h⟩ := mem_ldE.1 (show (x, y) ∈ ldE i from h)
  omega
def ld1 (n i : Nat) : Gr := (ldG n i).link (3 * i) (3 * i + 1)
def ld2 (n i : Nat) : Gr := (ld1 n i).link (3 * i) (3 * i + 2)
def ld3 (n i : Nat) : Gr := (ld2 n i).link (3 * i + 1) (3 * i + 3)
theorem ld4 (n i : Nat) : (ld3 n i).link (3 * i + 2) (3 * i + 3) = ldG n (i + 1) := by
  unfold ld3 ld2 ld1 ldG Gr.link
  rw [ldE_next]
  simp [ldE4]
theorem ld_no {n i x y : Nat} (h : 3 * i ≤ x) : (x, y) ∉ (ldG n i).E := fun hm => by
  obtain ⟨j, hj, h2⟩ := mem_ldE.1 (show (x, y) ∈ ldE i from hm)
  omega
theorem Rise.acyc {G : Gr} (h : Rise G) : G.Acyc := fun a b he hr => absurd (h.reach hr) (by have := h a b he; omega)
section
variable {k : Nat}
theorem ld_ups0 {j : Nat} (h : j < k) : (ldG (3 * k + 1) k).ups (3 * j) = [3 * j + 1, 3 * j + 2] := by
  refine sorted_eq (Gr.ups_lt _ _) (by simp) fun x => ?_
  rw [Gr.mem_ups, show ((ldG (3 * k + 1) k).N.length) = 3 * k + 1 from ldN_len _, show (ldG (3 * k + 1) k).E = ldE k from rfl, mem_ldE]
  simp only [List.mem_cons, List.not_mem_nil, or_false]
  constructor
  · rintro ⟨_, j', _, h2⟩; omega
  · intro hx
    exact ⟨by omega, j, h, by omega⟩
theorem ld_ups1 {j : Nat} (h : j < k) : (ldG (3 * k + 1) k).ups (3 * j + 1) = [3 * j + 3] := by
  refine sorted_eq (Gr.ups_lt _ _) (by simp) fun x => ?_
  rw [Gr.mem_ups, show ((ldG (3 * k + 1) k).N.length) = 3 * k + 1 from ldN_len _, show (ldG (3 * k + 1) k).E = ldE k from rfl, mem_ldE, List.mem_singleton]
  constructor
  · rintro ⟨_, j', _, h2⟩; omega
  · intro hx
    exact ⟨by omega, j, h, by omega⟩
theorem ld_ups2 {j : Nat} (h : j < k) : (ldG (3 * k + 1) k).ups (3 * j + 2) = [3 * j + 3] := by
  refine sorted_eq (Gr.ups_lt _ _) (by simp) fun x => ?_
  rw [Gr.mem_ups, show ((ldG (3 * k + 1) k).N.length) = 3 * k + 1 from ldN_len _, show (ldG (3 * k + 1) k).E = ldE k from rfl, mem_ldE, List.mem_singleton]
  constructor
  · rintro ⟨_, j', _, h2⟩; omega
  · intro hx
    exact ⟨by omega, j, h, by omega⟩
theorem ld_wy (hG : (ldG (3 * k + 1) k).Ok) : ∀ i, i ≤ k → ((ldG (3 * k + 1) k).wy (3 * k) (3 * (k - i))).length = 2 ^ i ∧ ∀ p ∈ (ldG (3 * k + 1) k).wy (3 * k) (3 * (k - i)), p.length = 2 * i + 1 ∧ p[0]? = some (3 * (k - i)) ∧ p[2 * i]? = some (3 * k)
  | 0, _ => by
    have hA := (ld_rise (3 * k + 1) k).acyc
    rw [Nat.sub_zero, Gr.wy_self hG hA (by show 3 * k < (ldN (3 * k + 1)).length; rw [ldN_len]; omega)]
    refine ⟨rfl, fun p hp => ?_⟩
    rw [List.mem_singleton.1 hp]
    exact ⟨rfl, rfl, rfl⟩
  | i + 1, hi => by
    have hA := (ld_rise (3 * k + 1) k).acyc
    obtain ⟨h1, h2⟩ := ld_wy hG i (by omega)
    obtain ⟨j, hj⟩ : ∃ j, k - (i + 1) = j := ⟨_, rfl⟩
    have hj2 : k - i = j + 1 := by omega
    have hjk : j < k := by omega
    have hN : (ldG (3 * k + 1) k).N.length = 3 * k + 1 := ldN_len _
    rw [hj]
    rw [hj2] at h1 h2
    have w1 : (ldG (3 * k + 1) k).wy (3 * k) (3 * j + 1) = ((ldG (3 * k + 1) k).wy (3 * k) (3 * (j + 1))).map ((3 * j + 1) :: ·) := by
      rw [Gr.wy_ne hG hA (by rw [hN]; omega) (by omega), ld_ups1 hjk]
      simp [Nat.mul_add]
    have w2 : (ldG (3 * k + 1) k).wy (3 * k) (3 * j + 2) = ((ldG (3 * k + 1) k).wy (3 * k) (3 * (j + 1))).map ((3 * j + 2) :: ·) := by
      rw [Gr.wy_ne hG hA (by rw [hN]; omega) (by omega), ld_ups2 hjk]
      simp [Nat.mul_add]
    have w0 : (ldG (3 * k + 1) k).wy (3 * k) (3 * j) = (((ldG (3 * k + 1) k).wy (3 * k) (3 * (j + 1))).map ((3 * j + 1) :: ·)).map ((3 * j) :: ·) ++ (((ldG (3 * k + 1) k).wy (3 * k) (3 * (j + 1))).map ((3 * j + 2) :: ·)).map ((3 * j) :: ·) := by
      rw [Gr.wy_ne hG hA (by rw [hN]; omega) (by omega), ld_ups0 hjk]
      simp only [List.flatMap_cons, List.flatMap_nil, List.append_nil]
      rw [w1, w2]
    rw [w0]
    constructor
    · rw [List.length_append, List.length_map, List.length_map, List.length_map, List.length_map, h1, Nat.pow_succ]; omega
    · intro p hp
      have hq : ∃ q, q ∈ (ldG (3 * k + 1) k).wy (3 * k) (3 * (j + 1)) ∧ ∃ y, p = 3 * j :: y :: q := by
        rcases List.mem_append.1 hp with h | h
        · obtain ⟨p1, h3, rfl⟩ := List.mem_map.1 h
          obtain ⟨q, h4, rfl⟩ := List.mem_map.1 h3
          exact ⟨q, h4, _, rfl⟩
        · obtain ⟨p1, h3, rfl⟩ := List.mem_map.1 h
          obtain ⟨q, h4, rfl⟩ := List.mem_map.1 h3
          exact ⟨q, h4, _, rfl⟩
      obtain ⟨q, hq, y, rfl⟩ := hq
      obtain ⟨g1, _, g3⟩ := h2 q hq
      refine ⟨by rw [List.length_cons, List.length_cons, g1]; omega, rfl, ?_⟩
      rw [show 2 * (i + 1) = 2 * i + 1 + 1 by omega, List.getElem?_cons_succ, List.getElem?_cons_succ]
      exact g3
end
end Go.Proofs.Ytpnbdnfgdiakhaa
