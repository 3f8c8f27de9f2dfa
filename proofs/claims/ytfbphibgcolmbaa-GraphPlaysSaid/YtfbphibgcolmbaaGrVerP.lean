/-
  GraphVersions: counts and last versions (plain); one node is like itself.
-/
import Derived.Test.YtfbphibgcolmbaaGrLostP
namespace Go.Proofs.Ytfbphibgcolmbaa
open Go.RowKit Go.Sep
set_option linter.unusedSimpArgs false
set_option linter.unusedVariables false
theorem eq_node (x : NodeD) (w : World) : (Op.equalIn 10000 40 (.agg (nv x).toArray) (.agg (nv x).toArray)).run Try.prog w = .ok true w := by
  unfold nv
  go_simp
theorem Gr.plus_count (G : Gr) (k o a b : Int) : (G.plus k o).count a b = G.count a b + if k = a ∧ o = b then 1 else 0 := by
  unfold Gr.count Gr.plus
  rw [List.filter_append, List.length_append]
  congr 1
  have e : Gr.same a b (G.newN k o) = decide (k = a ∧ o = b) := by rw [Bool.decide_and]; rfl
  by_cases h : k = a ∧ o = b
  · rw [if_pos h, List.filter_cons_of_pos (by rw [e]; simpa using h)]; rfl
  · rw [if_neg h, List.filter_cons_of_neg (by rw [e]; simpa using h)]; rfl
theorem Gr.plus_latest (G : Gr) (k o a b : Int) : (G.plus k o).latest a b = if k = a ∧ o = b then some G.N.length else G.latest a b := by
  unfold Gr.latest Gr.plus
  rw [lastOf_snoc]
  have e : Gr.same a b (G.newN k o) = decide (k = a ∧ o = b) := by rw [Bool.decide_and]; rfl
  simp only [Nat.zero_add, e]
  by_cases h : k = a ∧ o = b
  · rw [if_pos (by simpa using h), if_pos h]
  · rw [if_neg (by simpa using h), if_neg h]
def cntC (G : Gr) : List Value := (List.range 20).map fun j => .int .i64 (G.count (1 + (j / 4 : Nat)) (1 + (j % 4 : Nat)) : Nat)
def lstC (G : Gr) : List Value := (List.range 20).map fun j => .int .i64 ((G.latest (1 + (j / 4 : Nat)) (1 + (j % 4 : Nat))).getD 0 : Nat)
theorem cntC_len (G : Gr) : (cntC G).length = 20 := by simp [cntC]
theorem lstC_len (G : Gr) : (lstC G).length = 20 := by simp [lstC]
theorem cntC_at (G : Gr) {a b : Nat} (ha : a < 5) (hb : b < 4) : (cntC G)[4 * a + b]? = some (.int .i64 (G.count (1 + (a : Int)) (1 + (b : Int)) : Nat)) := by
  have h1 : (4 * a + b) / 4 = a := by omega
  have h2 : (4 * a + b) % 4 = b := by omega
  have h3 : 4 * a + b < 20 := by omega
  unfold cntC
  rw [List.getElem?_map, List.getElem?_range h3, Option.map_some, h1, h2]
theorem lstC_at (G : Gr) {a b : Nat} (ha : a < 5) (hb : b < 4) : (lstC G)[4 * a + b]? = some (.int .i64 ((G.latest (1 + (a : Int)) (1 + (b : Int))).getD 0 : Nat)) := by
  have h1 : (4 * a + b) / 4 = a := by omega
  have h2 : (4 * a + b) % 4 = b := by omega
  have h3 : 4 * a + b < 20 := by omega
  unfold lstC
  rw [List.getElem?_map, List.getElem?_range h3, Option.map_some, h1, h2]
theorem cell_same {a b j : Nat} (hb : b < 4) : ((1 + (a : Int)) = 1 + (j / 4 : Nat) ∧ (1 + (b : Int)) = 1 + (j % 4 : Nat)) ↔ 4 * a + b = j := by omega
theorem cntC_set (G : Gr) {a b : Nat} (ha : a < 5) (hb : b < 4) : (cntC G).set (4 * a + b) (.int .i64 ((G.count (1 + (a : Int)) (1 + (b : Int)) : Nat) + 1)) = cntC (G.plus (1 + a) (1 + b)) := by
  apply List.ext_getElem?
  intro j
  rw [List.getElem?_set, cntC_len]
  by_cases hj : 4 * a + b = j
  · subst hj
    rw [if_pos rfl, if_pos (by omega), cntC_at _ ha hb, Gr.plus_count, if_pos ⟨rfl, rfl⟩]; rfl
  · rw [if_neg hj]
    by_cases hl : j < 20
    · unfold cntC
      rw [List.getElem?_map, List.getElem?_map, List.getElem?_range hl, Option.map_some, Option.map_some, Gr.plus_count, if_neg (fun h => hj ((cell_same hb).1 h)), Nat.add_zero]
    · rw [List.getElem?_eq_none (by rw [cntC_len]; omega), List.getElem?_eq_none (by rw [cntC_len]; omega)]
theorem lstC_set (G : Gr) {a b : Nat} (ha : a < 5) (hb : b < 4) : (lstC G).set (4 * a + b) (.int .i64 (G.N.length : Nat)) = lstC (G.plus (1 + a) (1 + b)) := by
  apply List.ext_getElem?
  intro j
  rw [List.getElem?_set, lstC_len]
  by_cases hj : 4 * a + b = j
  · subst hj
    rw [if_pos rfl, if_pos (by omega), lstC_at _ ha hb, Gr.plus_latest, if_pos ⟨rfl, rfl⟩]; rfl
  · rw [if_neg hj]
    by_cases hl : j < 20
    · unfold lstC
      rw [List.getElem?_map, List.getElem?_map, List.getElem?_range hl, Option.map_some, Option.map_some, Gr.plus_latest, if_neg (fun h => hj ((cell_same hb).1 h))]
    · rw [List.getElem?_eq_none (by rw [lstC_len]; omega), List.getElem?_eq_none (by rw [lstC_len]; omega)]
theorem cntC_new : List.replicate 20 (Value.int .i64 0) = cntC Gr.new := rfl
theorem lstC_new : List.replicate 20 (Value.int .i64 0) = lstC Gr.new := rfl
theorem Gr.plus_len (G : Gr) (k o : Int) : (G.plus k o).N.length = G.N.length + 1 := by simp [Gr.plus]
theorem Gr.plus_node (G : Gr) (k o : Int) : (G.plus k o).nodeI (G.N.length : Int) = G.newN k o := Gr.nodeI_at (by simp [Gr.plus])
theorem Gr.latest_count {G : Gr} {k o : Int} {i : Nat} (h : G.latest k o = some i) : 0 < G.count k o ∧ i < G.N.length := by
  obtain ⟨n, x, h1, h2, h3, _⟩ := lastOf_some h
  have hi := (List.getElem?_eq_some_iff.1 h2).1
  exact ⟨List.length_pos_of_mem (List.mem_filter.2 ⟨List.mem_of_getElem? h2, h3⟩), by omega⟩
end Go.Proofs.Ytfbphibgcolmbaa
