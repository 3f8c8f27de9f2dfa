/-
  Packages record: Records, Nodes.
-/
import Derived.Test.YtapodjhkpahdnaaRecCheck
import Derived.Test.YtapodjhkpahdnaaSepMore
import Derived.Test.YtapodjhkpahdnaaRecD
namespace Go.Proofs.Ytapodjhkpahdnaa
open Go.RowKit Go.Sep
set_option linter.unusedSimpArgs false
set_option linter.unusedVariables false
attribute [local irreducible] Go.Oper.wp Go.wpList Go.Calls Go.Code.wp Go.Sep.Reg
def nodes (l : List RecD) : Nat := (l.filter fun x => x.k == 1).length
theorem nodes_succ {l : List RecD} {i : Nat} {x : RecD} (h : l[i]? = some x) : nodes (l.take (i + 1)) = nodes (l.take i) + (if x.k = 1 then 1 else 0) := by
  unfold nodes
  rw [List.take_add_one, h, List.filter_append, List.length_append]
  by_cases hk : x.k = 1 <;> simp [hk]
theorem nodes_le (l : List RecD) : nodes l ≤ l.length := List.length_filter_le _ _
set_option maxRecDepth 20000 in
theorem records_any {W w : World} {L : List Asrt} (hS : Sat W w L) (l : List RecD) (v : Value) (h : Rd w v l.length 3 (l.flatMap rv)) (hb : l.length ≤ 1000000) :
    Calls Try.prog 18 #[v] w fun e w' => ∃ v', e = .returned v' ∧ Sat W w' (Tb 53 3 rv v' l :: L) := by
  go_enter Try.func18, Try.ntmps18
  go_wp2_with (refine toList (by rfl) ?_; refine apTb (f := rv) (xs := []) (hS.tbNil (E := 53) (sz := 3)) _ _ _ _ (by rfl) _ _ (by rfl) (by rfl) (elOf (by rfl)) (by rfl) (by decide) (inOf (by rfl)) Has.z l (rv_len l) (by exact .inl h) (rv_one l) (by simp; omega) (by simp; omega) ?_; intro v' w1 hS1; clear hS; have hS := hS1; clear hS1; dsimp only [List.set_cons_zero, List.nil_append] at hS)
  go_ret
  exact ⟨_, rfl, hS⟩
set_option maxRecDepth 20000 in
set_option maxHeartbeats 1000000 in
theorem nodes_any {W w : World} {L : List Asrt} (hS : Sat W w L) (l : List RecD) (ao : Option Addr) (c : Nat) (hr : ∀ w, Sat W w L → Rd w (.slice ao l.length c) l.length 3 (l.flatMap rv)) (hb : l.length ≤ 1000000) :
    Calls Try.prog 25 #[.slice ao l.length c] w fun e w' => e = .returned (.int .i64 (nodes l : Nat)) ∧ Sat W w' L := by
  have HR : Hid (∀ w, Sat W w L → Rd w (.slice ao l.length c) l.length 3 (l.flatMap rv)) := Lib.hid hr
  obtain ⟨_, _, he, hc1, hc2, _, h5⟩ := hr w hS
  simp only [Value.slice.injEq, true_and] at he
  obtain ⟨rfl, rfl⟩ := he
  clear hr
  have i5 : (l.length : Int) ≤ 1000000 := by omega
  have HS := Lib.hid hS
  go_enter Try.func25, Try.ntmps25
  go_wp2
  go_loopw [8, 3] (fun vi vn wz => ∃ k : Nat, k ≤ l.length ∧ vi = .int .i64 k ∧ vn = .int .i64 (nodes (l.take k) : Nat) ∧ Sat W wz L) (fun vi _ _ => l.length - (intOf vi).toNat)
  case atStart => exact ⟨0, by omega, rfl, rfl, HS.out⟩
  case round =>
    clear hS HS
    obtain ⟨k, hk, rfl, rfl, hS⟩ := hrel
    by_cases hlt : k < l.length
    · obtain ⟨b, off, rfl, _⟩ := h5 (by omega)
      obtain ⟨⟨xk, xa, xb⟩, hx⟩ : ∃ x, l[k]? = some x := ⟨_, List.getElem?_eq_getElem hlt⟩
      have hn := nodes_succ hx
      have hle := nodes_le (l.take k)
      have hl2 : (l.take k).length ≤ k := List.length_take_le _ _
      obtain ⟨m, hm⟩ : ∃ m, nodes (l.take k) = m := ⟨_, rfl⟩
      rw [hm] at hle hn ⊢
      have j1 : (k : Int) < (l.length : Int) := by omega
      have j2 : (m : Int) ≤ 1000000 := by omega
      have HX := Lib.hid hx
      have HN := Lib.hid hn
      clear hx hn hm hl2 hle h5
      by_cases h1 : xk = 1
      · subst h1
        go_wp2_with (first
          | (refine toList (by rfl) ?_; refine wp_of_reads (rLdRdA (HR.out _ hS) (rv_len l) _ _ (by rfl) _ (by rfl) (agOf (by rfl)) (szOf (by rfl)) k (by omega) HX.out (by omega)) ?_)
          | (refine toList (by rfl) ?_; refine al hS _ (by rfl) (zrOf (by rfl)) ?_; intro px w1 hS1; clear hS; have hS := hS1; clear hS1; rw [cells_agg] at hS)
          | (refine toList (by rfl) ?_; refine stW hS _ _ _ (by rfl) (by rfl) (rv ⟨1, xa, xb⟩) (by rfl) (rv_all _) (szOf (by rfl)) Has.z (by rfl) ?_; intro w1 hS1; clear hS; have hS := hS1; clear hS1; dsimp only [List.set_cons_zero] at hS)
          | (refine toList (by rfl) ?_; refine ld hS _ _ (by rfl) _ _ (by rfl) (agOf (by rfl)) (by first | exact Has.z | exact Has.s Has.z | exact Has.s (Has.s Has.z) | exact Has.s (Has.s (Has.s Has.z)) | exact Has.s (Has.s (Has.s (Has.s Has.z))) | exact Has.s (Has.s (Has.s (Has.s (Has.s Has.z))))) (by rfl) ?_))
        exact ⟨⟨k + 1, by omega, by go_num, by rw [HN.out, if_pos rfl]; go_num, hS.drop⟩, by simp [intOf]; omega⟩
      · have e1 : (xk == 1) = false := beq_eq_false_iff_ne.2 h1
        go_wp2_with (first
          | (refine toList (by rfl) ?_; refine wp_of_reads (rLdRdA (HR.out _ hS) (rv_len l) _ _ (by rfl) _ (by rfl) (agOf (by rfl)) (szOf (by rfl)) k (by omega) HX.out (by omega)) ?_)
          | (refine toList (by rfl) ?_; refine al hS _ (by rfl) (zrOf (by rfl)) ?_; intro px w1 hS1; clear hS; have hS := hS1; clear hS1; rw [cells_agg] at hS)
          | (refine toList (by rfl) ?_; refine stW hS _ _ _ (by rfl) (by rfl) (rv ⟨xk, xa, xb⟩) (by rfl) (rv_all _) (szOf (by rfl)) Has.z (by rfl) ?_; intro w1 hS1; clear hS; have hS := hS1; clear hS1; dsimp only [List.set_cons_zero] at hS)
          | (refine toList (by rfl) ?_; refine ld hS _ _ (by rfl) _ _ (by rfl) (agOf (by rfl)) (by first | exact Has.z | exact Has.s Has.z | exact Has.s (Has.s Has.z) | exact Has.s (Has.s (Has.s Has.z)) | exact Has.s (Has.s (Has.s (Has.s Has.z))) | exact Has.s (Has.s (Has.s (Has.s (Has.s Has.z))))) (by rfl) ?_))
        exact ⟨⟨k + 1, by omega, by go_num, by rw [HN.out, if_neg h1]; rfl, hS.drop⟩, by simp [intOf]; omega⟩
    · obtain rfl : k = l.length := by omega
      go_wp2
      go_ret
      exact ⟨by rw [List.take_length]; rfl, hS⟩
end Go.Proofs.Ytapodjhkpahdnaa
