/-
  A file of many names, and those that are taken (plain).
-/
import Derived.Test.YtiieicdhkcikpaaTrFullP
namespace Go.Proofs.Ytiieicdhkcikpaa
open Go.Sep
set_option linter.unusedSimpArgs false
set_option linter.unusedVariables false
def lnm (i : Nat) : List UInt8 := [108, UInt8.ofNat (97 + i)]
def lD (k : Nat) (g : Nat → Bool) : List EntD := ((List.range k).filter fun c => !g c).map fun c => ⟨lnm c, 1⟩
namespace TrD
/-- One file, its names. -/
def LT (k : Nat) (g : Nat → Bool) : TrD := ⟨((List.replicate 48 0).set 0 2).set 1 1, (List.replicate 48 []).set 0 (lD k g), [0, 1]⟩
def lT : Nat → TrD
  | 0 => new.mk' [lnm 0] 1
  | i + 1 => (lT i).lk [lnm 0] [lnm (i + 1)]
theorem lT_ok : ∀ i, (lT i).Ok
  | 0 => new_ok.mk' _ _
  | i + 1 => (lT_ok i).lk _ _
theorem lT_0 : new.mkE [lnm 0] 1 = 0 ∧ new.mkI [lnm 0] 1 = 1 := by decide +kernel
theorem lT_lk : ∀ i, i < 19 → (lT i).lkE [lnm 0] [lnm (i + 1)] = 0 ∧ (lT i).lkI [lnm 0] [lnm (i + 1)] = 1 ∧ (lT (i + 1)).linksI 1 = i + 2 := by decide +kernel
theorem lT_at : ∀ i, i < 20 → (lT i).kinds = (LT (i + 1) fun _ => false).kinds ∧ (lT i).dirs = (LT (i + 1) fun _ => false).dirs ∧ (lT i).last = [0, 1] := by decide +kernel
theorem lT_LT {i : Nat} (hi : i < 20) : lT i = LT (i + 1) fun _ => false := by
  obtain ⟨h1, h2, h3⟩ := lT_at i hi
  cases h : lT i
  rw [h] at h1 h2 h3
  dsimp only at h1 h2 h3
  rw [h1, h2, h3]; rfl
theorem lnm_inj : ∀ c, c < 20 → ∀ d, d < 20 → lnm c = lnm d → c = d := by decide +kernel
theorem lnm_ok : ∀ c, c < 20 → nameOk (lnm c) = true := by decide +kernel
theorem LT_dir (k : Nat) (g : Nat → Bool) : (LT k g).dir 0 = lD k g := rfl
theorem lD_mem {k : Nat} {g : Nat → Bool} {e : EntD} : e ∈ lD k g ↔ ∃ c, c < k ∧ g c = false ∧ e = ⟨lnm c, 1⟩ := by
  unfold lD
  simp only [List.mem_map, List.mem_filter, List.mem_range, Bool.not_eq_true']
  constructor
  · rintro ⟨c, ⟨h1, h2⟩, rfl⟩; exact ⟨c, h1, h2, rfl⟩
  · rintro ⟨c, h1, h2, rfl⟩; exact ⟨c, ⟨h1, h2⟩, rfl⟩
theorem lD_find {k : Nat} (hk : k ≤ 20) {g : Nat → Bool} {c : Nat} (hc : c < k) : findE (lD k g) (lnm c) = if g c = true then none else some 1 := by
  by_cases h : g c = true
  · rw [if_pos h]
    unfold findE
    rw [Option.map_eq_none_iff, List.find?_eq_none]
    intro e he
    obtain ⟨d, h1, h2, rfl⟩ := lD_mem.1 he
    simp only [decide_eq_true_eq]
    intro e2
    have := lnm_inj d (by omega) c (by omega) e2
    subst this
    rw [h] at h2; cases h2
  · rw [if_neg h]
    have hm : (⟨lnm c, 1⟩ : EntD) ∈ lD k g := lD_mem.2 ⟨c, hc, by simpa using h, rfl⟩
    have hs : (findE (lD k g) (lnm c)).isSome = true := by
      rw [findE_some]; unfold hasE
      rw [List.any_eq_true]; exact ⟨_, hm, by simp⟩
    obtain ⟨z, hz⟩ := Option.isSome_iff_exists.1 hs
    obtain ⟨e, he, _, h3⟩ := findE_mem hz
    obtain ⟨d, _, _, rfl⟩ := lD_mem.1 he
    rw [hz, ← h3]
theorem lD_rem {k : Nat} (hk : k ≤ 20) {g : Nat → Bool} {c : Nat} (hc : c < k) : remE (lD k g) (lnm c) = lD k (upd g c true) := by
  unfold remE lD
  rw [List.filter_map, List.filter_filter]
  congr 1
  apply List.filter_congr
  intro d hd
  have hd2 := List.mem_range.1 hd
  simp only [Function.comp]
  by_cases e : d = c
  · subst e; rw [upd_at]; simp
  · rw [upd_no _ _ e]
    have : lnm d ≠ lnm c := fun h => e (lnm_inj d (by omega) c (by omega) h)
    simp [this]
theorem lD_len {k : Nat} {g : Nat → Bool} {c : Nat} (hc : c < k) (hg : g c = false) : (lD k (upd g c true)).length + 1 = (lD k g).length := by
  unfold lD
  simp only [List.length_map]
  induction k with
  | zero => omega
  | succ k ih =>
    rw [List.range_succ, List.filter_append, List.filter_append, List.length_append, List.length_append]
    by_cases e : c = k
    · subst e
      have h1 : (List.range c).filter (fun x => !upd g c true x) = (List.range c).filter fun x => !g x := by
        apply List.filter_congr
        intro x hx
        rw [upd_no _ _ (by have := List.mem_range.1 hx; omega)]
      rw [h1]
      simp [upd_at, hg]
    · have := ih (by omega)
      have h2 : [k].filter (fun x => !upd g c true x) = [k].filter fun x => !g x := by
        apply List.filter_congr
        intro x hx
        rw [List.mem_singleton.1 hx, upd_no _ _ (fun h => e h.symm)]
      rw [h2]; omega
theorem upd_same {g : Nat → Bool} {c : Nat} (h : g c = true) : upd g c true = g := by
  funext x
  by_cases e : x = c
  · subst e; rw [upd_at, h]
  · rw [upd_no _ _ e]
theorem LT_links (k : Nat) (g : Nat → Bool) : (LT k g).links 1 = (lD k g).length := by
  have h : (LT k g).links 1 = ((lD k g).filter fun e => decide (e.ino = ((1 : Nat) : Int))).length := by
    unfold links cnt LT
    rw [if_neg (by omega)]
    have : ((List.replicate 48 ([] : List EntD)).set 0 (lD k g)).flatten = lD k g := by
      simp [List.replicate]
    rw [this]
  rw [h, List.filter_eq_self.2]
  intro e he
  obtain ⟨c, _, _, rfl⟩ := lD_mem.1 he
  rfl
theorem LT_walk {k : Nat} (hk : k ≤ 20) {g : Nat → Bool} {c : Nat} (hc : c < k) : (LT k g).walk 0 [lnm c] = if g c = true then (0, 3) else (1, 0) := by
  rw [walk, if_pos (by rfl), LT_dir, lD_find hk hc]
  by_cases h : g c = true
  · rw [if_pos h, if_pos h]
  · rw [if_neg h, if_neg h]; rfl
theorem LT_ul {k : Nat} (hk : k ≤ 20) {g : Nat → Bool} {c : Nat} (hc : c < k) : (LT k g).ulE [lnm c] = (if g c = true then 3 else 0) ∧ (LT k g).ulI [lnm c] = (if g c = true then 0 else 1) ∧ (LT k g).ul [lnm c] = LT k (upd g c true) := by
  have hw := LT_walk hk (g := g) hc
  by_cases h : g c = true
  · rw [if_pos h] at hw
    have h0 : (LT k g).ulE [lnm c] = 3 := by unfold ulE; rw [if_neg (by simp), hw]; rfl
    refine ⟨by rw [if_pos h, h0], by unfold ulI; rw [h0, if_pos h]; rfl, ?_⟩
    unfold ul
    rw [h0, upd_same h]; rfl
  · rw [if_neg h] at hw
    have h0 : (LT k g).ulE [lnm c] = 0 := by unfold ulE; rw [if_neg (by simp), hw]; rfl
    have h1 : (LT k g).ulI [lnm c] = 1 := by unfold ulI; rw [h0, hw]; rfl
    refine ⟨by rw [if_neg h, h0], by rw [if_neg h, h1], ?_⟩
    unfold ul
    rw [h0, if_pos rfl, h1]
    have : (LT k g).pD [lnm c] = 0 := rfl
    rw [this]
    unfold del tch LT
    have e1 : lastN [lnm c] = lnm c := rfl
    rw [e1]
    have e2 := LT_dir k g
    unfold LT at e2
    rw [e2, lD_rem hk hc, List.set_set]
    rfl
end TrD
end Go.Proofs.Ytiieicdhkcikpaa
