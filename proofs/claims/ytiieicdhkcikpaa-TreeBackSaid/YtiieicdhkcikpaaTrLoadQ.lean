/-
  Trees that are loaded: who is reached, by a list of what is to do, and by rounds (plain).
-/
import Derived.Test.YtiieicdhkcikpaaTrLoadP
namespace Go.Proofs.Ytiieicdhkcikpaa
open Go.Sep
set_option linter.unusedSimpArgs false
set_option linter.unusedVariables false
def EntB (d : Nat → List EntD) : Prop := ∀ k, ∀ e ∈ d k, k < 48 ∧ e.ino.toNat < 48 ∧ 0 ≤ e.ino
theorem pad_entB {ks : List Int} {ds : List (List EntD)} (d48 : ds.length ≤ 48) (chk : ∀ d ∈ ds, ChkD d) : EntB (TrD.padT ks ds).dir := by
  intro k e he
  rw [TrD.pad_dir] at he
  cases h : ds[k]? with
  | none => rw [h] at he; simp at he
  | some d =>
    rw [h] at he
    have hk := (List.getElem?_eq_some_iff.1 h).1
    have hent := (chk d (List.mem_of_getElem? h)).ent e he
    unfold entOk at hent
    simp only [Bool.and_eq_true, decide_eq_true_eq] at hent
    omega
theorem TrD.Ok.entB {T : TrD} (h : T.Ok) : EntB T.dir := by
  intro k e he
  by_cases hk : k < 48
  · have hent := h.ent _ (h.dir_mem hk) e he
    unfold entOk at hent
    simp only [Bool.and_eq_true, decide_eq_true_eq] at hent
    omega
  · unfold TrD.dir at he
    rw [List.getElem?_eq_none (by rw [h.dl]; omega)] at he
    simp at he
def cntS (S : Nat → Bool) : Nat := (List.range 48).countP S
theorem cntS_le (S : Nat → Bool) : cntS S ≤ 48 := by
  unfold cntS
  have := List.countP_le_length (p := S) (l := List.range 48)
  simpa using this
theorem countP_upd {S : Nat → Bool} {i : Nat} (hs : S i = false) : ∀ n, (List.range n).countP (upd S i true) = (List.range n).countP S + if i < n then 1 else 0
  | 0 => by simp
  | n + 1 => by
    rw [List.range_succ, List.countP_append, List.countP_append, countP_upd hs n]
    by_cases h : i = n
    · subst h
      rw [if_neg (by omega), if_pos (by omega)]
      simp [upd_at, hs]
    · rw [List.countP_singleton, List.countP_singleton, upd_no _ _ (fun e => h e.symm)]
      have e1 : (if i < n + 1 then 1 else 0) = (if i < n then 1 else (0 : Nat)) := by split <;> split <;> omega
      omega
theorem cntS_upd {S : Nat → Bool} {i : Nat} (hs : S i = false) (hi : i < 48) : cntS (upd S i true) = cntS S + 1 := by
  unfold cntS; rw [countP_upd hs, if_pos hi]
theorem countP_mono {S S' : Nat → Bool} (h : ∀ i, S i = true → S' i = true) (l : List Nat) : l.countP S ≤ l.countP S' := List.countP_mono_left fun i _ => h i
theorem countP_same {S S' : Nat → Bool} (h : ∀ i, S i = true → S' i = true) : ∀ n, (List.range n).countP S' ≤ (List.range n).countP S → ∀ i, i < n → S' i = true → S i = true
  | 0, _, i, hi, _ => absurd hi (Nat.not_lt_zero _)
  | n + 1, hc, i, hi, hs => by
    rw [List.range_succ, List.countP_append, List.countP_append, List.countP_singleton, List.countP_singleton] at hc
    have hm := countP_mono h (List.range n)
    by_cases hn : i = n
    · subst hn
      cases h2 : S i with
      | true => rfl
      | false => rw [if_pos hs, h2] at hc; simp at hc; omega
    · refine countP_same h n ?_ i (by omega) hs
      have : (if S n = true then 1 else 0) ≤ (if S' n = true then 1 else 0) := by
        by_cases e : S n = true
        · rw [if_pos e, if_pos (h n e)]; exact Nat.le_refl _
        · rw [if_neg e]; exact Nat.zero_le _
      omega
/-! ### by a list of what is to do -/
structure WI (d : Nat → List EntD) (seen : Nat → Bool) (todo : List Nat) : Prop where
  sub : ∀ i, seen i = true → TrD.Rc d i
  tod : ∀ i ∈ todo, TrD.Rc d i ∧ i < 48
  zero : seen 0 = true ∨ 0 ∈ todo
  cl : ∀ i, seen i = true → ∀ e ∈ d i, seen e.ino.toNat = true ∨ e.ino.toNat ∈ todo
theorem WI.start (d : Nat → List EntD) : WI d (fun _ => false) [0] :=
  ⟨(fun _ h => nomatch h), (fun i hi => by rw [List.mem_singleton.1 hi]; exact ⟨TrD.Rc.zero, by omega⟩), .inr (by simp), (fun _ h => nomatch h)⟩
theorem WI.old {d : Nat → List EntD} {seen : Nat → Bool} {i : Nat} {r : List Nat} (h : WI d seen (i :: r)) (hi : seen i = true) : WI d seen r := by
  have g : ∀ j, seen j = true ∨ j ∈ i :: r → seen j = true ∨ j ∈ r := fun j hj => by
    rcases hj with hj | hj
    · exact .inl hj
    · rcases List.mem_cons.1 hj with rfl | hj
      · exact .inl hi
      · exact .inr hj
  exact ⟨h.sub, fun j hj => h.tod j (List.mem_cons_of_mem _ hj), g _ h.zero, fun j hj e he => g _ (h.cl j hj e he)⟩
theorem WI.next {d : Nat → List EntD} (hd : EntB d) {seen : Nat → Bool} {i : Nat} {r : List Nat} (h : WI d seen (i :: r)) : WI d (upd seen i true) (r ++ (d i).map fun e => e.ino.toNat) := by
  obtain ⟨hr, hi⟩ := h.tod i (by simp)
  have g : ∀ j, seen j = true ∨ j ∈ i :: r → upd seen i true j = true ∨ j ∈ r ++ (d i).map fun e => e.ino.toNat := fun j hj => by
    by_cases e : j = i
    · subst e; exact .inl (upd_at ..)
    · rw [upd_no _ _ e]
      rcases hj with hj | hj
      · exact .inl hj
      · rcases List.mem_cons.1 hj with hj | hj
        · exact absurd hj e
        · exact .inr (List.mem_append_left _ hj)
  refine ⟨fun j hj => ?_, fun j hj => ?_, g _ h.zero, fun j hj e he => ?_⟩
  · by_cases e : j = i
    · subst e; exact hr
    · rw [upd_no _ _ e] at hj; exact h.sub j hj
  · rcases List.mem_append.1 hj with hj | hj
    · exact h.tod j (List.mem_cons_of_mem _ hj)
    · obtain ⟨e, he, rfl⟩ := List.mem_map.1 hj
      exact ⟨hr.step he, (hd _ _ he).2.1⟩
  · by_cases e2 : j = i
    · subst e2
      exact .inr (List.mem_append_right _ (List.mem_map.2 ⟨e, he, rfl⟩))
    · rw [upd_no _ _ e2] at hj
      exact g _ (h.cl j hj e he)
theorem WI.done {d : Nat → List EntD} {seen : Nat → Bool} (h : WI d seen []) (i : Nat) : seen i = true ↔ TrD.Rc d i := by
  have g : ∀ j, seen j = true ∨ j ∈ ([] : List Nat) → seen j = true := fun j hj => by
    rcases hj with hj | hj
    · exact hj
    · exact (List.not_mem_nil hj).elim
  exact ⟨h.sub i, fun hr => hr (fun j => seen j = true) (g _ h.zero) fun k hk e he => g _ (h.cl k hk e he)⟩
/-! ### by rounds -/
structure RI (d : Nat → List EntD) (r : Nat) (S : Nat → Bool) : Prop where
  sub : ∀ i, S i = true → TrD.Rc d i
  zero : S 0 = true
  big : r + 1 ≤ cntS S ∨ ∀ i, TrD.Rc d i → S i = true
structure RM (d : Nat → List EntD) (S0 S : Nat → Bool) (i : Nat) (l : List EntD) : Prop where
  le : ∀ k, S0 k = true → S k = true
  sub : ∀ k, S k = true → TrD.Rc d k
  done : ∀ k, k < i → S0 k = true → ∀ e ∈ d k, S e.ino.toNat = true
  part : ∀ e ∈ l, S e.ino.toNat = true
theorem RI.start (d : Nat → List EntD) : RI d 0 (upd (fun _ => false) 0 true) := by
  refine ⟨fun i hi => ?_, upd_at .., .inl (by decide)⟩
  by_cases e : i = 0
  · subst e; exact TrD.Rc.zero
  · rw [upd_no _ _ e] at hi; cases hi
theorem RI.mid {d : Nat → List EntD} {r : Nat} {S : Nat → Bool} (h : RI d r S) : RM d S S 0 [] := ⟨fun _ h => h, h.sub, fun _ h => absurd h (Nat.not_lt_zero _), fun _ h => (List.not_mem_nil h).elim⟩
theorem RM.ent {d : Nat → List EntD} {S0 S : Nat → Bool} {i : Nat} {l : List EntD} {e : EntD} (h : RM d S0 S i l) (hi : S i = true) (he : e ∈ d i) : RM d S0 (upd S e.ino.toNat true) i (l ++ [e]) := by
  have g : ∀ k, S k = true → upd S e.ino.toNat true k = true := fun k hk => by
    by_cases e2 : k = e.ino.toNat
    · subst e2; exact upd_at ..
    · rw [upd_no _ _ e2]; exact hk
  refine ⟨fun k hk => g _ (h.le k hk), fun k hk => ?_, fun k hk h0 x hx => g _ (h.done k hk h0 x hx), fun x hx => ?_⟩
  · by_cases e2 : k = e.ino.toNat
    · subst e2; exact (h.sub i hi).step he
    · rw [upd_no _ _ e2] at hk; exact h.sub k hk
  · rcases List.mem_append.1 hx with hx | hx
    · exact g _ (h.part x hx)
    · rw [List.mem_singleton.1 hx]; exact upd_at ..
theorem RM.all {d : Nat → List EntD} {S0 S : Nat → Bool} {i : Nat} (h : RM d S0 S i (d i)) : RM d S0 S (i + 1) [] :=
  ⟨h.le, h.sub, (fun k hk h0 e he => by
    rcases Nat.lt_or_ge k i with h1 | h1
    · exact h.done k h1 h0 e he
    · obtain rfl : k = i := by omega
      exact h.part e he), (fun _ h => (List.not_mem_nil h).elim)⟩
theorem RM.pass {d : Nat → List EntD} {S0 S : Nat → Bool} {i : Nat} (h : RM d S0 S i []) (hi : S i = false) : RM d S0 S (i + 1) [] :=
  ⟨h.le, h.sub, (fun k hk h0 e he => by
    rcases Nat.lt_or_ge k i with h1 | h1
    · exact h.done k h1 h0 e he
    · obtain rfl : k = i := by omega
      rw [h.le k h0] at hi; cases hi), (fun _ h => (List.not_mem_nil h).elim)⟩
theorem RI.next {d : Nat → List EntD} (hd : EntB d) {r : Nat} {S0 S : Nat → Bool} (h0 : RI d r S0) (h : RM d S0 S 48 []) : RI d (r + 1) S := by
  refine ⟨h.sub, h.le 0 h0.zero, ?_⟩
  rcases h0.big with hb | hb
  · by_cases hc : cntS S0 < cntS S
    · exact .inl (by omega)
    · right
      intro i hi
      have hcl : ∀ k, k < 48 → S k = true → S0 k = true := countP_same h.le 48 (by unfold cntS at hc; omega)
      refine (hi (fun k => k < 48 ∧ S k = true) ⟨by omega, h.le 0 h0.zero⟩ fun k hk e he => ?_).2
      exact ⟨(hd k e he).2.1, h.done k hk.1 (hcl k hk.1 hk.2) e he⟩
  · exact .inr fun i hi => h.le i (hb i hi)
theorem RI.done {d : Nat → List EntD} {S : Nat → Bool} (h : RI d 48 S) (i : Nat) : S i = true ↔ TrD.Rc d i := by
  rcases h.big with hb | hb
  · have := cntS_le S; omega
  · exact ⟨h.sub i, hb i⟩
end Go.Proofs.Ytiieicdhkcikpaa
