/-
  Trees: all below a directory, counted (plain).
-/
import Derived.Test.YtiieicdhkcikpaaTrMovP
namespace Go.Proofs.Ytiieicdhkcikpaa
open Go.Sep
set_option linter.unusedSimpArgs false
set_option linter.unusedVariables false
theorem nodup_len : ∀ {n : Nat} {l : List Nat}, l.Nodup → (∀ x ∈ l, x < n) → l.length ≤ n
  | 0, [], _, _ => Nat.le_refl _
  | 0, x :: _, _, h => absurd (h x (List.mem_cons_self ..)) (by omega)
  | n + 1, l, hd, h => by
    have h2 := nodup_len (n := n) (l := l.erase n) (hd.erase n) fun x hx => by
      have h3 := (List.Nodup.mem_erase_iff hd).1 hx
      have := h x h3.2
      have := h3.1
      omega
    rw [List.length_erase] at h2
    split at h2 <;> omega
def sumN (l : List Nat) : Nat := l.foldr (· + ·) 0
theorem sumN_cons (x : Nat) (l : List Nat) : sumN (x :: l) = x + sumN l := rfl
theorem sumN_app : ∀ l m : List Nat, sumN (l ++ m) = sumN l + sumN m
  | [], m => by simp [sumN]
  | x :: l, m => by rw [List.cons_append, sumN_cons, sumN_cons, sumN_app l m]; omega
theorem sumN_perm {l m : List Nat} (h : l.Perm m) : sumN l = sumN m := by
  induction h with
  | nil => rfl
  | cons x _ ih => rw [sumN_cons, sumN_cons, ih]
  | swap x y l => rw [sumN_cons, sumN_cons, sumN_cons, sumN_cons]; omega
  | trans _ _ a b => rw [a, b]
theorem sumN_zero {α : Type} {f : α → Nat} {p : α → Bool} (h : ∀ x, p x = false → f x = 0) : ∀ l : List α, sumN ((l.filter p).map f) = sumN (l.map f)
  | [] => rfl
  | x :: l => by
    rw [List.filter_cons]
    cases hp : p x with
    | true => rw [if_pos rfl, List.map_cons, List.map_cons, sumN_cons, sumN_cons, sumN_zero h l]
    | false => rw [if_neg (by decide), List.map_cons, sumN_cons, h x hp, sumN_zero h l]; omega
theorem sumN_flat {α : Type} {g : α → List Nat} : ∀ l : List α, sumN (l.flatMap g) = sumN (l.map fun x => sumN (g x))
  | [] => rfl
  | x :: l => by rw [List.flatMap_cons, sumN_app, List.map_cons, sumN_cons, sumN_flat l]
theorem sumN_add {α : Type} {f g : α → Nat} : ∀ l : List α, sumN (l.map fun x => f x + g x) = sumN (l.map f) + sumN (l.map g)
  | [] => rfl
  | x :: l => by rw [List.map_cons, List.map_cons, List.map_cons, sumN_cons, sumN_cons, sumN_cons, sumN_add l]; omega
theorem cnt1_sum (n : Nat) : ∀ l : List EntD, cnt1 l n = sumN (l.map fun e => if e.ino = (n : Int) then 1 else 0)
  | [] => rfl
  | e :: l => by
    rw [List.map_cons, sumN_cons, ← cnt1_sum n l]
    unfold cnt1
    rw [List.filter_cons]
    by_cases h : e.ino = (n : Int)
    · rw [if_pos (decide_eq_true h), if_pos h, List.length_cons]; omega
    · rw [if_neg (by rw [decide_eq_false h]; decide), if_neg h]; omega
namespace TrD
theorem cnt_sum (n : Nat) : ∀ ds : List (List EntD), cnt ds n = sumN (ds.map fun d => cnt1 d n)
  | [] => rfl
  | d :: ds => by rw [cnt_cons, List.map_cons, sumN_cons, cnt_sum n ds]
/-- The directories at one and below it. -/
def belowL (T : TrD) : Nat → Nat → List Nat
  | 0, _ => []
  | f + 1, i => i :: (T.dir i).flatMap fun e => if T.kind e.ino.toNat = 2 then T.belowL f e.ino.toNat else []
/-- How often an inode is told below one. -/
def told (T : TrD) : Nat → Nat → Nat → Nat
  | 0, _, _ => 0
  | f + 1, i, n => sumN ((T.dir i).map fun e => (if e.ino = (n : Int) then 1 else 0) + if T.kind e.ino.toNat = 2 then T.told f e.ino.toNat n else 0)
theorem told_below (T : TrD) (n : Nat) : ∀ f i, T.told f i n = sumN ((T.belowL f i).map fun k => cnt1 (T.dir k) n)
  | 0, _ => rfl
  | f + 1, i => by
    rw [told, belowL, List.map_cons, sumN_cons, sumN_add, ← cnt1_sum, List.map_flatMap, sumN_flat]
    congr 2
    apply List.map_congr_left
    intro e _
    split
    · exact told_below T n f e.ino.toNat
    · rfl
theorem Ok.ent_at {T : TrD} (h : T.Ok) {i : Nat} (hi : i < 48) {e : EntD} (he : e ∈ T.dir i) : nameOk e.nm = true ∧ 1 ≤ e.ino ∧ e.ino < 48 := by
  have := h.ent _ (h.dir_mem hi) e he
  unfold entOk at this
  simp only [Bool.and_eq_true, decide_eq_true_eq] at this
  exact ⟨this.1.1, this.1.2, this.2⟩
theorem findE_mem' {l : List EntD} (h : SrtE l) {e : EntD} (he : e ∈ l) : findE l e.nm = some e.ino := by
  have hh : hasE l e.nm = true := List.any_eq_true.2 ⟨e, he, by simp⟩
  rw [← findE_some] at hh
  obtain ⟨z, hz⟩ := Option.isSome_iff_exists.1 hh
  rw [hz]
  have hm := findE_of hz
  obtain ⟨i, hi⟩ := List.getElem?_of_mem hm
  obtain ⟨j, hj⟩ := List.getElem?_of_mem he
  have a1 := h.has hi rfl
  have a2 := h.has hj rfl
  dsimp only at a1
  rw [a1] at hi
  rw [a2] at hj
  rw [hi] at hj
  rw [← Option.some.inj hj]
theorem Tre.deep {T : TrD} (hR : T.Tre) (h : T.Ok) {q : List (List UInt8)} {i : Nat} (hq : T.Pth 0 q i) (hk : T.kind i = 2) : q.length < 48 := by
  have key : ∀ j, j ≤ q.length → ∃ k, T.Pth 0 (q.take j) k ∧ T.kind k = 2 ∧ k < 48 := fun j hj => by
    have h1 := hq
    rw [← List.take_append_drop j q] at h1
    obtain ⟨k, g1, g2⟩ := pth_append.1 h1
    refine ⟨k, g1, ?_, h.pth_lt (by omega) g1⟩
    cases hd : q.drop j with
    | nil => rw [hd, pth_nil] at g2; subst g2; exact hk
    | cons n b => rw [hd] at g2; exact (pth_cons.1 g2).1
  have hn : ((List.range (q.length + 1)).map fun j => (T.walk 0 (q.take j)).1.toNat).Nodup := by
    unfold List.Nodup
    rw [List.pairwise_map]
    refine List.Pairwise.imp_of_mem ?_ List.pairwise_lt_range
    intro a b ha hb hab e
    have ha := List.mem_range.1 ha
    have hb := List.mem_range.1 hb
    obtain ⟨k, g1, g2, _⟩ := key a (by omega)
    obtain ⟨k', g1', g2', _⟩ := key b (by omega)
    have e1 : T.walk 0 (q.take a) = ((k : Int), 0) := g1
    have e2 : T.walk 0 (q.take b) = ((k' : Int), 0) := g1'
    rw [e1, e2] at e
    simp only [Int.toNat_natCast] at e
    subst e
    have := congrArg List.length (hR.uniq' h g1 g1' g2)
    simp only [List.length_take] at this
    omega
  have := nodup_len (n := 48) hn fun x hx => by
    obtain ⟨j, hj, rfl⟩ := List.mem_map.1 hx
    obtain ⟨k, g1, _, g3⟩ := key j (by have := List.mem_range.1 hj; omega)
    have e1 : T.walk 0 (q.take j) = ((k : Int), 0) := g1
    rw [e1]
    simpa using g3
  simp only [List.length_map, List.length_range] at this
  omega
theorem Ok.below_mem {T : TrD} (h : T.Ok) : ∀ (f : Nat) {i k : Nat}, i < 48 → T.kind i = 2 → k ∈ T.belowL f i → ∃ s, T.Pth i s k ∧ T.kind k = 2
  | 0, _, _, _, _, hk => by cases hk
  | f + 1, i, k, hi, hki, hk => by
    rw [belowL] at hk
    rcases List.mem_cons.1 hk with e | hk
    · subst e; exact ⟨[], pth_nil.2 rfl, hki⟩
    · obtain ⟨e, he, hk⟩ := List.mem_flatMap.1 hk
      split at hk
      · rename_i hke
        obtain ⟨_, e1, e2⟩ := h.ent_at hi he
        obtain ⟨s, h1, h2⟩ := h.below_mem f (by omega) hke hk
        exact ⟨e.nm :: s, pth_cons.2 ⟨hki, e.ino, findE_mem' (h.srt _ (h.dir_mem hi)) he, h1⟩, h2⟩
      · cases hk
theorem Ok.mem_below {T : TrD} (h : T.Ok) : ∀ (f : Nat) {i k : Nat} {s : List (List UInt8)}, i < 48 → T.Pth i s k → T.kind k = 2 → s.length < f → k ∈ T.belowL f i
  | 0, _, _, _, _, _, _, hs => absurd hs (Nat.not_lt_zero _)
  | f + 1, i, k, [], hi, hp, hk, _ => by
    rw [pth_nil] at hp
    subst hp
    rw [belowL]; exact List.mem_cons_self ..
  | f + 1, i, k, n :: s, hi, hp, hk, hs => by
    obtain ⟨hki, z, hf, h1⟩ := pth_cons.1 hp
    obtain ⟨_, z1, z2⟩ := h.find_ino hi hf
    have hkz : T.kind z.toNat = 2 := by
      cases s with
      | nil => rw [pth_nil] at h1; rw [h1]; exact hk
      | cons m s => exact (pth_cons.1 h1).1
    rw [belowL]
    refine List.mem_cons_of_mem _ (List.mem_flatMap.2 ⟨⟨n, z⟩, findE_of hf, ?_⟩)
    dsimp only
    rw [if_pos hkz]
    exact h.mem_below f (by omega) h1 hk (by simp only [List.length_cons] at hs; omega)
theorem Tre.below_nodup {T : TrD} (hR : T.Tre) (h : T.Ok) : ∀ (f : Nat) {i : Nat} {q : List (List UInt8)}, T.Pth 0 q i → T.kind i = 2 → (T.belowL f i).Nodup
  | 0, _, _, _, _ => List.Pairwise.nil
  | f + 1, i, q, hq, hk => by
    have hi := h.pth_lt (by omega) hq
    rw [belowL, List.nodup_cons]
    have hsub : ∀ e ∈ T.dir i, T.Pth 0 (q ++ [e.nm]) e.ino.toNat := fun e he => by
      obtain ⟨_, e1, e2⟩ := h.ent_at hi he
      refine (h.pth_snoc (by omega)).2 ⟨i, hq, hk, ?_⟩
      rw [findE_mem' (h.srt _ (h.dir_mem hi)) he]; congr 1; omega
    have hall : ∀ e ∈ T.dir i, ∀ k, k ∈ (if T.kind e.ino.toNat = 2 then T.belowL f e.ino.toNat else []) → ∃ s, T.Pth 0 (q ++ e.nm :: s) k ∧ T.kind k = 2 := fun e he k hk' => by
      split at hk'
      · rename_i hke
        obtain ⟨_, e1, e2⟩ := h.ent_at hi he
        obtain ⟨s, h1, h2⟩ := h.below_mem f (by omega) hke hk'
        refine ⟨s, ?_, h2⟩
        have := pth_append.2 ⟨_, hsub e he, h1⟩
        rw [List.append_assoc] at this
        exact this
      · cases hk'
    constructor
    · intro hm
      obtain ⟨e, he, hm⟩ := List.mem_flatMap.1 hm
      obtain ⟨s, h1, _⟩ := hall e he i hm
      have := congrArg List.length (hR.uniq' h hq h1 hk)
      simp at this
    · unfold List.Nodup
      rw [List.pairwise_flatMap]
      constructor
      · intro e he
        split
        · rename_i hke
          exact hR.below_nodup h f (hsub e he) hke
        · exact List.Pairwise.nil
      · refine List.Pairwise.imp_of_mem ?_ (h.srt _ (h.dir_mem hi))
        intro a b ha hb hab x hx y hy e
        subst e
        obtain ⟨s, h1, h2⟩ := hall a ha x hx
        obtain ⟨s', h1', _⟩ := hall b hb x hy
        have e := hR.uniq' h h1 h1' h2
        have := List.append_cancel_left e
        have := (List.cons.inj this).1
        exact less_ne hab this
/-- All that is told is what is there. -/
theorem Tre.told_all {T : TrD} (hR : T.Tre) (h : T.Ok) {n : Nat} (hn : 1 ≤ n) : T.told 48 0 n = T.links n := by
  rw [told_below]
  have hnd : (T.belowL 48 0).Nodup := hR.below_nodup h 48 (q := []) (pth_nil.2 rfl) h.k0
  have hp : (T.belowL 48 0).Perm ((List.range 48).filter fun k => decide (T.kind k = 2)) := by
    refine (List.perm_ext_iff_of_nodup hnd (List.Pairwise.filter _ List.nodup_range)).2 fun k => ?_
    rw [List.mem_filter, List.mem_range, decide_eq_true_eq]
    constructor
    · intro hk
      obtain ⟨s, h1, h2⟩ := h.below_mem 48 (by omega) h.k0 hk
      exact ⟨h.pth_lt (by omega) h1, h2⟩
    · rintro ⟨hk, hk2⟩
      obtain ⟨q, hq⟩ := hR.up k hk hk2
      exact h.mem_below 48 (by omega) hq hk2 (hR.deep h hq hk2)
  have hz : ∀ k, decide (T.kind k = 2) = false → cnt1 (T.dir k) n = 0 := fun k hk => by
    have hk := of_decide_eq_false hk
    by_cases h48 : k < 48
    · rw [hR.nd k h48 hk]; rfl
    · have : T.dir k = [] := by unfold dir; rw [List.getElem?_eq_none (by rw [h.dl]; omega)]; rfl
      rw [this]; rfl
  rw [sumN_perm (hp.map _), sumN_zero (f := fun k => cnt1 (T.dir k) n) hz]
  unfold links
  rw [if_neg (by omega), cnt_sum]
  congr 1
  apply List.ext_getElem?
  intro k
  rw [List.getElem?_map, List.getElem?_map]
  by_cases hk : k < 48
  · rw [List.getElem?_range hk, h.dir_at hk]; rfl
  · rw [List.getElem?_eq_none (by simp; omega), List.getElem?_eq_none (by rw [h.dl]; omega)]; rfl
end TrD
end Go.Proofs.Ytiieicdhkcikpaa
