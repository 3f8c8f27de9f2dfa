/-
  Trees: Rename (plain).
  Trees: paths; a tree is one, and stays one (plain).
  Trees: what is done keeps a tree one; what was renamed, and back (plain).
-/
import Derived.Test.YtiieicdhkcikpaaMWlk
import Derived.Test.YtiieicdhkcikpaaMUnl
namespace Go.Proofs.Ytiieicdhkcikpaa
open Go.Sep
set_option linter.unusedSimpArgs false
set_option linter.unusedVariables false
theorem hasE_rem_no {l : List EntD} {n : List UInt8} (m : List UInt8) (h : hasE l n = false) : hasE (remE l m) n = false := by
  unfold hasE at h ⊢
  rw [List.any_eq_false] at h ⊢
  exact fun e he => h e (List.mem_filter.1 he).1
theorem hasE_rem_self (l : List EntD) (n : List UInt8) : hasE (remE l n) n = false := by
  unfold hasE
  rw [List.any_eq_false]
  intro e he
  have := (List.mem_filter.1 he).2
  simpa using this
theorem findE_rem {l : List EntD} {n m : List UInt8} (h : m ≠ n) : findE (remE l n) m = findE l m := by
  unfold findE remE
  rw [List.find?_filter]
  congr 1
  have : (fun a : EntD => (!decide (a.nm = n)) && decide (a.nm = m)) = fun a : EntD => decide (a.nm = m) := by
    funext a
    by_cases e : a.nm = m
    · have : ¬ a.nm = n := fun e2 => h (e.symm.trans e2)
      simp [e, h]
    · simp [e]
  simp only [decide_eq_true_eq, Bool.decide_and, Bool.decide_eq_true] at this ⊢
  first | rw [this] | simp only [this]
theorem remE_lt {l : List EntD} {n : List UInt8} {j : Int} (h : findE l n = some j) : (remE l n).length < l.length := by
  obtain ⟨e, he, hn, _⟩ := TrD.findE_mem h
  rcases Nat.lt_or_ge (remE l n).length l.length with h1 | h1
  · exact h1
  · have h2 : (l.filter fun e => !decide (e.nm = n)).length = l.length := Nat.le_antisymm (List.length_filter_le _ _) h1
    rw [List.length_filter_eq_length_iff] at h2
    have := h2 e he
    simp [hn] at this
theorem remE_le (l : List EntD) (n : List UInt8) : (remE l n).length ≤ l.length := List.length_filter_le _ _
theorem hasE_find {l : List EntD} {n : List UInt8} : hasE l n = false ↔ findE l n = none := by
  rw [← findE_some]
  cases findE l n <;> simp
theorem addC_yes {l : List EntD} {n : List UInt8} {x : Nat} (hn : nameOk n = true) (h1 : 1 ≤ x) (h2 : x < 48) (hno : hasE l n = false) (hl : l.length < 64) : addC l ⟨n, (x : Int)⟩ = 0 := by
  have hok : entOk ⟨n, (x : Int)⟩ = true := by unfold entOk; rw [hn]; simp; omega
  unfold addC
  rw [hok, if_pos rfl]
  dsimp only
  rw [hno, if_neg (by decide), if_neg (by omega)]
theorem addC_zero' {l : List EntD} {e : EntD} (h : addC l e = 0) : hasE l e.nm = false ∧ l.length < 64 := (addC_zero h).2
namespace TrD
theorem Ok.ren_none {T : TrD} (h : T.Ok) {f d x : Nat} {o n : List UInt8} (hf : f < 48) (hd : d < 48) (hfo : findE (T.dir f) o = some (x : Int)) (hn : nameOk n = true) (hno : findE (T.dir d) n = none) (hl : d ≠ f → (T.dir d).length < 64) : addC ((T.del f o).dir d) ⟨n, (x : Int)⟩ = 0 := by
  obtain ⟨_, h1, h2⟩ := h.find_ino hf hfo
  have hlen := h.len _ (h.dir_mem hd)
  rw [dir_del]
  split
  · rename_i e
    subst e
    have := remE_lt hfo
    exact addC_yes hn (by omega) (by omega) (hasE_rem_no _ (hasE_find.2 hno)) (by omega)
  · rename_i e
    exact addC_yes hn (by omega) (by omega) (hasE_find.2 hno) (hl e)
theorem Ok.ren_some {T : TrD} (h : T.Ok) {f d x y : Nat} {o n : List UInt8} (hf : f < 48) (hd : d < 48) (hfo : findE (T.dir f) o = some (x : Int)) (hdn : findE (T.dir d) n = some (y : Int)) (hxy : x ≠ y) :
    findE ((T.del d n).dir f) o = some (x : Int) ∧ addC (((T.del d n).del f o).dir d) ⟨n, (x : Int)⟩ = 0 := by
  obtain ⟨_, h1, h2⟩ := h.find_ino hf hfo
  obtain ⟨hn, _, _⟩ := h.find_ino hd hdn
  have hlen := h.len _ (h.dir_mem hd)
  have hlt := remE_lt hdn
  constructor
  · rw [dir_del]
    split
    · rename_i e
      subst e
      rw [findE_rem]
      · exact hfo
      · intro e; subst e; rw [hfo] at hdn; simp only [Option.some.injEq] at hdn; omega
    · exact hfo
  · rw [dir_del]
    have e1 : (T.del d n).dir d = remE (T.dir d) n := by rw [dir_del, if_pos rfl]
    split
    · rename_i e
      subst e
      rw [e1]
      have := remE_le (remE (T.dir d) n) o
      exact addC_yes hn (by omega) (by omega) (hasE_rem_no _ (hasE_rem_self _ _)) (by omega)
    · rw [e1]
      exact addC_yes hn (by omega) (by omega) (hasE_rem_self _ _) (by omega)
/-- What Rename finds where it can be done. -/
theorem rnE_zero {T : TrD} {l to : List (List UInt8)} (h0 : T.rnE l to = 0) (h : T.Ok) : l ≠ [] ∧ to ≠ [] ∧ (T.walk 0 l).2 = 0 ∧ T.pE to = 0 ∧ ∃ x : Nat, (T.walk 0 l).1 = x ∧ x < 48 ∧
    ((findE (T.dir (T.pD to)) (lastN to) = none ∧ (T.pD to ≠ T.pD l → (T.dir (T.pD to)).length < 64)) ∨
    ∃ y : Nat, findE (T.dir (T.pD to)) (lastN to) = some (y : Int) ∧ (x = y ∨ (x ≠ y ∧ (T.kind y = 2 ↔ T.kind x = 2) ∧ T.dir y = []))) := by
  unfold rnE at h0
  split at h0
  · cases h0
  · rename_i hne
    split at h0
    · cases h0
    · split at h0
      · exact absurd h0 (by assumption)
      · rename_i hw
        split at h0
        · cases h0
        · split at h0
          · exact absurd h0 (by assumption)
          · rename_i hp
            obtain ⟨x, hx, hx48⟩ := h.walk_lt l 0 (by omega)
            have hp : T.pE to = 0 := by simpa using hp
            refine ⟨fun e => hne (.inl e), fun e => hne (.inr e), by simpa using hw, hp, x, hx, hx48, ?_⟩
            obtain ⟨_, _, hd, _, _⟩ := h.pE_zero hp
            cases hf : findE (T.dir (T.pD to)) (lastN to) with
            | none =>
              rw [hf] at h0
              dsimp only at h0
              split at h0
              · cases h0
              · rename_i h5
                exact .inl ⟨rfl, fun e => by
                  rcases Nat.lt_or_ge (T.dir (T.pD to)).length 64 with h6 | h6
                  · exact h6
                  · exact absurd ⟨e, h6⟩ h5⟩
            | some y =>
              rw [hf] at h0
              dsimp only at h0
              obtain ⟨_, j1, j2⟩ := h.find_ino hd hf
              obtain ⟨m, rfl⟩ := Int.eq_ofNat_of_zero_le (show 0 ≤ y by omega)
              refine .inr ⟨m, rfl, ?_⟩
              rw [hx] at h0
              split at h0
              · rename_i e; exact .inl (by omega)
              · rename_i e
                split at h0
                · cases h0
                · rename_i h7
                  split at h0
                  · cases h0
                  · rename_i h8
                    split at h0
                    · cases h0
                    · rename_i h9
                      simp only [Int.toNat_natCast] at h7 h8 h9
                      refine .inr ⟨by omega, ?_, List.eq_nil_of_length_eq_zero (by omega)⟩
                      constructor
                      · intro e1
                        by_cases e2 : T.kind x = 2
                        · exact e2
                        · exact absurd ⟨e1, e2⟩ h7
                      · intro e1
                        by_cases e2 : T.kind m = 2
                        · exact e2
                        · exact absurd ⟨e1, e2⟩ h8
theorem rn_none {T : TrD} {l to : List (List UInt8)} {x : Nat} (h0 : T.rnE l to = 0) (hx : (T.walk 0 l).1 = x) (hf : findE (T.dir (T.pD to)) (lastN to) = none) :
    T.rnX l to = x ∧ T.rnY l to = 0 ∧ T.rn l to = ((T.del (T.pD l) (lastN l)).put (T.pD to) x (lastN to)).tch [T.pD l, T.pD to] := by
  have h1 : T.rnX l to = x := by unfold rnX; rw [if_pos h0, hx]; rfl
  refine ⟨h1, ?_, ?_⟩
  · unfold rnY; rw [if_pos h0, hf]
  · unfold rn; rw [if_pos h0, hf, h1]
theorem rn_same {T : TrD} {l to : List (List UInt8)} {x : Nat} (h0 : T.rnE l to = 0) (hx : (T.walk 0 l).1 = x) (hf : findE (T.dir (T.pD to)) (lastN to) = some (x : Int)) :
    T.rnX l to = x ∧ T.rnY l to = 0 ∧ T.rn l to = T.tch [] := by
  have h1 : T.rnX l to = x := by unfold rnX; rw [if_pos h0, hx]; rfl
  refine ⟨h1, ?_, ?_⟩
  · unfold rnY; rw [if_pos h0, hf, hx]; exact if_pos rfl
  · unfold rn; rw [if_pos h0, hf, hx]; exact if_pos rfl
theorem rn_over {T : TrD} {l to : List (List UInt8)} {x y : Nat} (h0 : T.rnE l to = 0) (hx : (T.walk 0 l).1 = x) (hf : findE (T.dir (T.pD to)) (lastN to) = some (y : Int)) (hxy : x ≠ y) :
    T.rnX l to = x ∧ T.rnY l to = y ∧ T.rn l to = (if T.kind y = 2 then (((T.del (T.pD to) (lastN to)).del (T.pD l) (lastN l)).put (T.pD to) x (lastN to)).setK y 0
        else ((T.del (T.pD to) (lastN to)).del (T.pD l) (lastN l)).put (T.pD to) x (lastN to)).tch [T.pD l, T.pD to, y] := by
  have h1 : T.rnX l to = x := by unfold rnX; rw [if_pos h0, hx]; rfl
  have h2 : ¬ ((x : Int) = (y : Int)) := by omega
  refine ⟨h1, ?_, ?_⟩
  · unfold rnY; rw [if_pos h0, hf, hx]; dsimp only; rw [if_neg h2]; rfl
  · unfold rn; rw [if_pos h0, hf, hx, h1]; dsimp only; rw [if_neg h2, Int.toNat_natCast, del_comm T (T.pD l) (T.pD to)]
theorem Ok.put_over {T : TrD} (h : T.Ok) {f d x y : Nat} {o n : List UInt8} (hf : f < 48) (hd : d < 48) (hfo : findE (T.dir f) o = some (x : Int)) (hdn : findE (T.dir d) n = some (y : Int)) (hxy : x ≠ y) :
    (((T.del d n).del f o).put d x n).Ok := by
  obtain ⟨_, h1, h2⟩ := h.find_ino hf hfo
  obtain ⟨hn, _, _⟩ := h.find_ino hd hdn
  have := addC_zero' ((h.ren_some hf hd hfo hdn hxy).2)
  exact ((h.del hd n).del hf o).put hd hn (by omega) (by omega) this.1 this.2
theorem Ok.rn {T : TrD} (h : T.Ok) (l to : List (List UInt8)) : (T.rn l to).Ok := by
  by_cases h0 : T.rnE l to = 0
  · obtain ⟨hl, hto, hw, hp, x, hx, hx48, hc⟩ := rnE_zero h0 h
    obtain ⟨_, p2, _, _, p5, _⟩ := h.parent hl hw
    obtain ⟨_, hn, hd, _, _⟩ := h.pE_zero hp
    rw [hx] at p5
    obtain ⟨_, j1, j2⟩ := h.find_ino p2 p5
    rcases hc with ⟨hf, h64⟩ | ⟨y, hf, hxy | ⟨hxy, _, _⟩⟩
    · rw [(rn_none h0 hx hf).2.2]
      have := addC_zero' (h.ren_none p2 hd p5 hn hf h64)
      exact ((h.del p2 _).put hd hn (by omega) (by omega) this.1 this.2).tch _
    · subst hxy
      rw [(rn_same h0 hx hf).2.2]
      exact h.tch _
    · rw [(rn_over h0 hx hf hxy).2.2]
      have h3 := h.put_over p2 hd p5 hf hxy
      obtain ⟨_, k1, k2⟩ := h.find_ino hd hf
      split
      · exact (h3.setK (by omega) (.inl rfl)).tch _
      · exact h3.tch _
  · unfold TrD.rn
    rw [if_neg h0]; exact h
end TrD
end Go.Proofs.Ytiieicdhkcikpaa
namespace Go.Proofs.Ytiieicdhkcikpaa
open Go.Sep
set_option linter.unusedSimpArgs false
set_option linter.unusedVariables false
theorem findE_ins {l : List EntD} {e : EntD} (hno : hasE l e.nm = false) (n : List UInt8) : findE (insE l e) n = if e.nm = n then some e.ino else findE l n := by
  unfold insE findE
  have h1 : l.find? (fun e => decide (e.nm = n)) = ((l.take (atE l e.nm)).find? fun e => decide (e.nm = n)).or ((l.drop (atE l e.nm)).find? fun e => decide (e.nm = n)) := by
    rw [← List.find?_append, List.take_append_drop]
  rw [List.find?_append]
  by_cases h : e.nm = n
  · have h2 : (l.take (atE l e.nm)).find? (fun e => decide (e.nm = n)) = none := by
      rw [List.find?_eq_none]
      intro a ha
      have := List.any_eq_false.1 hno a (List.mem_of_mem_take ha)
      rw [h] at this
      exact this
    rw [h2, Option.none_or, List.find?_cons_of_pos (by simpa using h), if_pos h]; rfl
  · rw [List.find?_cons_of_neg (by simpa using h), ← h1, if_neg h]
namespace TrD
/-- Names lead from i to j. -/
def Pth (T : TrD) (i : Nat) (l : List (List UInt8)) (j : Nat) : Prop := T.walk i l = ((j : Int), 0)
theorem pth_cons {T : TrD} {i j : Nat} {n : List UInt8} {l : List (List UInt8)} : T.Pth i (n :: l) j ↔ T.kind i = 2 ∧ ∃ z : Int, findE (T.dir i) n = some z ∧ T.Pth z.toNat l j := by
  unfold Pth
  rw [walk]
  constructor
  · intro h
    split at h
    · rename_i hk
      refine ⟨hk, ?_⟩
      cases hf : findE (T.dir i) n with
      | none => rw [hf] at h; simp at h
      | some z => rw [hf] at h; exact ⟨z, rfl, h⟩
    · simp at h
  · rintro ⟨hk, z, hf, h⟩
    rw [if_pos hk, hf]; exact h
theorem pth_append {T : TrD} {j : Nat} {b : List (List UInt8)} : ∀ {a : List (List UInt8)} {i : Nat}, T.Pth i (a ++ b) j ↔ ∃ k, T.Pth i a k ∧ T.Pth k b j
  | [], i => by
    constructor
    · intro h; exact ⟨i, rfl, h⟩
    · rintro ⟨k, h1, h2⟩
      unfold Pth at h1
      simp only [walk, Prod.mk.injEq, and_true] at h1
      obtain rfl : i = k := by omega
      exact h2
  | n :: a, i => by
    rw [List.cons_append, pth_cons]
    constructor
    · rintro ⟨hk, z, hf, h⟩
      obtain ⟨k, h1, h2⟩ := pth_append.1 h
      exact ⟨k, pth_cons.2 ⟨hk, z, hf, h1⟩, h2⟩
    · rintro ⟨k, h1, h2⟩
      obtain ⟨hk, z, hf, h3⟩ := pth_cons.1 h1
      exact ⟨hk, z, hf, pth_append.2 ⟨k, h3, h2⟩⟩
theorem walk_congr {T T' : TrD} (hk : T.kind = T'.kind) (hd : T.dir = T'.dir) : ∀ (l : List (List UInt8)) (i : Nat), T.walk i l = T'.walk i l
  | [], i => rfl
  | n :: l, i => by
    rw [walk, walk, hk, hd]
    split
    · split
      · rfl
      · exact walk_congr hk hd l _
    · rfl
theorem pth_nil {T : TrD} {i j : Nat} : T.Pth i [] j ↔ i = j := by
  unfold Pth
  simp only [walk, Prod.mk.injEq, and_true]
  omega
theorem Ok.pth_lt {T : TrD} (h : T.Ok) {i j : Nat} {l : List (List UInt8)} (hi : i < 48) (hp : T.Pth i l j) : j < 48 := by
  obtain ⟨k, h1, h2⟩ := h.walk_lt l i hi
  unfold Pth at hp
  rw [hp] at h1
  simp only at h1
  omega
theorem Ok.pth_one {T : TrD} (h : T.Ok) {i j : Nat} {n : List UInt8} (hi : i < 48) : T.Pth i [n] j ↔ T.kind i = 2 ∧ findE (T.dir i) n = some (j : Int) := by
  rw [pth_cons]
  constructor
  · rintro ⟨hk, z, hf, h2⟩
    obtain ⟨_, h3, _⟩ := h.find_ino hi hf
    rw [pth_nil] at h2
    exact ⟨hk, by rw [hf]; congr 1; omega⟩
  · rintro ⟨hk, hf⟩
    exact ⟨hk, j, hf, pth_nil.2 (by omega)⟩
theorem Ok.pth_snoc {T : TrD} (h : T.Ok) {i j : Nat} {l : List (List UInt8)} {n : List UInt8} (hi : i < 48) : T.Pth i (l ++ [n]) j ↔ ∃ d, T.Pth i l d ∧ T.kind d = 2 ∧ findE (T.dir d) n = some (j : Int) := by
  rw [pth_append]
  constructor
  · rintro ⟨k, h1, h2⟩
    exact ⟨k, h1, (h.pth_one (h.pth_lt hi h1)).1 h2⟩
  · rintro ⟨k, h1, h2⟩
    exact ⟨k, h1, (h.pth_one (h.pth_lt hi h1)).2 h2⟩
theorem pth_of {T : TrD} (h : T.Ok) {l : List (List UInt8)} (h0 : (T.walk 0 l).2 = 0) : T.Pth 0 l (T.walk 0 l).1.toNat := by
  obtain ⟨j, h1, _⟩ := h.walk_lt l 0 (by omega)
  unfold Pth
  rw [h1, Int.toNat_natCast, ← h1, ← h0]
/-- A tree is one. -/
structure Tre (T : TrD) : Prop where
  nd : ∀ i, i < 48 → T.kind i ≠ 2 → T.dir i = []
  one : ∀ i, 1 ≤ i → i < 48 → T.kind i = 2 → T.links i = 1
  up : ∀ i, i < 48 → T.kind i = 2 → ∃ l, T.Pth 0 l i
  no : ∀ i, 1 ≤ i → i < 48 → T.kind i = 0 → T.links i = 0
theorem findE_ino {l : List EntD} {n : List UInt8} {i : Nat} (h : findE l n = some (i : Int)) : 1 ≤ cnt1 l i := by
  obtain ⟨e, he, _, hino⟩ := findE_mem h
  unfold cnt1
  exact List.length_pos_of_mem (List.mem_filter.2 ⟨he, decide_eq_true hino⟩)
theorem Ok.ent1 {T : TrD} (h : T.Ok) {i d d' : Nat} {n n' : List UInt8} (h1 : T.links i = 1) (hd : d < 48) (hd' : d' < 48) (hf : findE (T.dir d) n = some (i : Int)) (hf' : findE (T.dir d') n' = some (i : Int)) : d = d' ∧ n = n' := by
  obtain ⟨_, hi, _⟩ := h.find_ino hd hf
  unfold links at h1
  rw [if_neg (by omega)] at h1
  have c1 := cnt_set (x := []) (h.dir_at hd) i
  have hdd : d = d' := by
    by_cases e : d = d'
    · exact e
    · exfalso
      have c2 := cnt_set (ds := T.dirs.set d []) (k := d') (d := T.dir d') (x := []) (by rw [List.getElem?_set, if_neg e]; exact h.dir_at hd') i
      have g1 := findE_ino hf
      have g2 := findE_ino hf'
      have g3 : cnt1 [] i = 0 := rfl
      omega
  subst hdd
  refine ⟨rfl, ?_⟩
  have g1 := findE_ino hf
  have g3 : cnt1 [] i = 0 := rfl
  have g4 : cnt1 (T.dir d) i = 1 := by omega
  unfold cnt1 at g4
  obtain ⟨x, hx⟩ := List.length_eq_one_iff.1 g4
  obtain ⟨e, he, rfl, hino⟩ := findE_mem hf
  obtain ⟨e', he', rfl, hino'⟩ := findE_mem hf'
  have m1 : e ∈ [x] := by rw [← hx]; exact List.mem_filter.2 ⟨he, decide_eq_true hino⟩
  have m2 : e' ∈ [x] := by rw [← hx]; exact List.mem_filter.2 ⟨he', decide_eq_true hino'⟩
  rw [List.mem_singleton.1 m1, List.mem_singleton.1 m2]
/-- One path leads to a directory. -/
theorem Tre.uniq {T : TrD} (hR : T.Tre) (h : T.Ok) : ∀ (n : Nat) {l l' : List (List UInt8)} {i : Nat}, l.length ≤ n → T.Pth 0 l i → T.Pth 0 l' i → T.kind i = 2 → l = l' := by
  have key0 : ∀ {l : List (List UInt8)}, T.Pth 0 l 0 → l = [] := by
    intro l hp
    by_cases e : l = []
    · exact e
    · exfalso
      rw [split_last e, h.pth_snoc (by omega)] at hp
      obtain ⟨d, h1, h2, h3⟩ := hp
      obtain ⟨_, h4, _⟩ := h.find_ino (h.pth_lt (by omega) h1) h3
      omega
  intro n
  induction n with
  | zero =>
    intro l l' i hl hp hp' _
    obtain rfl : l = [] := List.eq_nil_of_length_eq_zero (by omega)
    obtain rfl := pth_nil.1 hp
    exact (key0 hp').symm
  | succ n ih =>
    intro l l' i hl hp hp' hk
    by_cases e : l = []
    · subst e
      obtain rfl := pth_nil.1 hp
      exact (key0 hp').symm
    · by_cases e' : l' = []
      · subst e'
        obtain rfl := pth_nil.1 hp'
        exact key0 hp
      · have s1 := split_last e
        have s2 := split_last e'
        rw [s1, h.pth_snoc (by omega)] at hp
        rw [s2, h.pth_snoc (by omega)] at hp'
        obtain ⟨d, h1, h2, h3⟩ := hp
        obtain ⟨d', h1', h2', h3'⟩ := hp'
        have hd := h.pth_lt (by omega) h1
        have hd' := h.pth_lt (by omega) h1'
        obtain ⟨_, g1, g2⟩ := h.find_ino hd h3
        obtain ⟨rfl, hn⟩ := h.ent1 (hR.one i (by omega) (by omega) hk) hd hd' h3 h3'
        have := ih (l := l.dropLast) (l' := l'.dropLast) (by rw [List.length_dropLast]; omega) h1 h1' h2
        rw [s1, s2, this, hn]
theorem Tre.uniq' {T : TrD} (hR : T.Tre) (h : T.Ok) {l l' : List (List UInt8)} {i : Nat} (hp : T.Pth 0 l i) (hp' : T.Pth 0 l' i) (hk : T.kind i = 2) : l = l' := hR.uniq h _ (Nat.le_refl _) hp hp' hk
/-- A path that meets nothing that was turned stays. -/
theorem Pth.keep {T T' : TrD} (bad : Nat → List UInt8 → Prop) (h : ∀ k n z, ¬ bad k n → T.kind k = 2 → findE (T.dir k) n = some z → T'.kind k = 2 ∧ findE (T'.dir k) n = some z) :
    ∀ {s : List (List UInt8)} {i j : Nat}, T.Pth i s j → (∀ a n b k, s = a ++ n :: b → T.Pth i a k → ¬ bad k n) → T'.Pth i s j
  | [], i, j, hp, _ => pth_nil.2 (pth_nil.1 hp)
  | n :: s, i, j, hp, hb => by
    obtain ⟨hk, z, hf, hp⟩ := pth_cons.1 hp
    obtain ⟨h1, h2⟩ := h i n z (hb [] n s i rfl (pth_nil.2 rfl)) hk hf
    exact pth_cons.2 ⟨h1, z, h2, Pth.keep bad h hp (fun a m b k e hpa => hb (n :: a) m b k (by rw [e]; rfl) (pth_cons.2 ⟨hk, z, hf, hpa⟩))⟩
theorem Pth.mono {T T' : TrD} (h : ∀ k n z, T.kind k = 2 → findE (T.dir k) n = some z → T'.kind k = 2 ∧ findE (T'.dir k) n = some z) {s : List (List UInt8)} {i j : Nat} (hp : T.Pth i s j) : T'.Pth i s j :=
  hp.keep (fun _ _ => False) (fun k n z _ => h k n z) (fun _ _ _ _ _ _ h => h)
/-- A step in the midst of a path to a directory leads to a directory. -/
theorem Ok.step {T : TrD} (h : T.Ok) {a b : List (List UInt8)} {n : List UInt8} {i j d z : Nat} (hp : T.Pth i (a ++ n :: b) j) (hi : i < 48) (hd : T.Pth i a d) (hf : findE (T.dir d) n = some (z : Int)) (hk : T.kind j = 2) :
    T.kind z = 2 ∧ T.Pth z b j := by
  rw [pth_append] at hp
  obtain ⟨k, h1, h2⟩ := hp
  unfold Pth at h1 hd
  rw [hd] at h1
  simp only [Prod.mk.injEq, and_true] at h1
  obtain rfl : d = k := by omega
  obtain ⟨_, z', hf', h3⟩ := pth_cons.1 h2
  rw [hf] at hf'
  cases hf'
  rw [Int.toNat_natCast] at h3
  refine ⟨?_, h3⟩
  cases b with
  | nil => rw [pth_nil] at h3; subst h3; exact hk
  | cons m b => exact (pth_cons.1 h3).1
theorem new_tre : new.Tre where
  nd := fun i hi _ => by
    unfold new dir
    dsimp only
    rw [List.getElem?_replicate]; split <;> rfl
  one := fun i h1 _ hk => by
    exfalso
    unfold new kind at hk
    dsimp only at hk
    rw [List.getElem?_set, if_neg (by omega), List.getElem?_replicate] at hk
    split at hk <;> simp at hk
  up := fun i _ hk => by
    unfold new kind at hk
    dsimp only at hk
    by_cases h : i = 0
    · subst h; exact ⟨[], rfl⟩
    · exfalso
      rw [List.getElem?_set, if_neg (by omega), List.getElem?_replicate] at hk
      split at hk <;> simp at hk
  no := fun i h1 _ _ => by
    unfold links
    rw [if_neg (by omega)]
    rfl
theorem setK_kind' {T : TrD} (h : T.Ok) {i : Nat} (hi : i < 48) (k : Int) (j : Nat) : (T.setK i k).kind j = if j = i then k else T.kind j := by
  rw [setK_kind h hi]; rfl
theorem put_dir' {T : TrD} (h : T.Ok) {d : Nat} (hd : d < 48) (i : Nat) (n : List UInt8) (j : Nat) : (T.put d i n).dir j = if j = d then insE (T.dir d) ⟨n, i⟩ else T.dir j := by
  rw [put_dir h hd]; rfl
/-- A file more. -/
theorem Tre.put {T : TrD} (hR : T.Tre) (h : T.Ok) {d i : Nat} {n : List UInt8} (hd : d < 48) (hkd : T.kind d = 2) (h1 : 1 ≤ i) (hk : T.kind i = 1) (hno : hasE (T.dir d) n = false) : (T.put d i n).Tre := by
  refine ⟨fun k k48 hk2 => ?_, fun k k1 k48 hk2 => ?_, fun k k48 hk2 => ?_, fun k k1 k48 hk0 => ?_⟩
  · have hk3 : T.kind k ≠ 2 := hk2
    rw [put_dir' h hd]
    split
    · rename_i e; subst e; exact absurd hkd hk3
    · exact hR.nd k k48 hk3
  · have hk3 : T.kind k = 2 := hk2
    have hki : k ≠ i := fun e => by rw [e, hk] at hk3; cases hk3
    rw [h.links_put hd h1, if_neg hki]
    exact hR.one k k1 k48 hk3
  · have hk3 : T.kind k = 2 := hk2
    obtain ⟨l, hl⟩ := hR.up k k48 hk3
    refine ⟨l, Pth.mono (T := T) (T' := T.put d i n) (fun j m z hj hf => ⟨hj, ?_⟩) hl⟩
    rw [put_dir' h hd]
    split
    · rename_i e
      subst e
      rw [findE_ins hno, if_neg]
      · exact hf
      · intro e; dsimp only at e; subst e; rw [hasE_find.1 hno] at hf; cases hf
    · exact hf
  · have hk3 : T.kind k = 0 := hk0
    have hki : k ≠ i := fun e => by rw [e, hk] at hk3; cases hk3
    rw [h.links_put hd h1, if_neg hki]
    exact hR.no k k1 k48 hk3
/-- A new inode. -/
theorem Tre.mkI {T : TrD} (hR : T.Tre) (h : T.Ok) {d i : Nat} {n : List UInt8} {c : Int} (hd : d < 48) (hkd : T.kind d = 2) (h1 : 1 ≤ i) (hi : i < 48) (hk : T.kind i = 0) (hc : c = 1 ∨ c = 2) (hno : hasE (T.dir d) n = false) (hn : nameOk n = true) (h64 : (T.dir d).length < 64) : ((T.put d i n).setK i c).Tre := by
  have hok := h.put hd hn h1 hi hno h64
  have hdi : d ≠ i := fun e => by subst e; rw [hkd] at hk; cases hk
  have hkk : ∀ j, ((T.put d i n).setK i c).kind j = if j = i then c else T.kind j := fun j => setK_kind' hok hi c j
  have hdr : ∀ j, ((T.put d i n).setK i c).dir j = if j = d then insE (T.dir d) ⟨n, i⟩ else T.dir j := fun j => put_dir' h hd i n j
  have hln : ∀ j, ((T.put d i n).setK i c).links j = T.links j + if j = i then 1 else 0 := fun j => h.links_put hd h1 j
  have hkeep : ∀ {s : List (List UInt8)} {a b : Nat}, T.Pth a s b → ((T.put d i n).setK i c).Pth a s b := fun hp => hp.mono fun j m z hj hf => by
    refine ⟨by rw [hkk, if_neg (fun e => by subst e; rw [hk] at hj; cases hj)]; exact hj, ?_⟩
    rw [hdr]
    split
    · rename_i e
      subst e
      rw [findE_ins hno, if_neg]
      · exact hf
      · intro e; dsimp only at e; subst e; rw [hasE_find.1 hno] at hf; cases hf
    · exact hf
  refine ⟨fun k k48 hk2 => ?_, fun k k1 k48 hk2 => ?_, fun k k48 hk2 => ?_, fun k k1 k48 hk0 => ?_⟩
  · rw [hdr]
    rw [hkk] at hk2
    split
    · rename_i e; subst e; rw [if_neg hdi] at hk2; exact absurd hkd hk2
    · by_cases e : k = i
      · subst e; exact hR.nd k k48 (by rw [hk]; decide)
      · rw [if_neg e] at hk2; exact hR.nd k k48 hk2
  · rw [hln]
    rw [hkk] at hk2
    by_cases e : k = i
    · subst e; rw [if_pos rfl, hR.no k k1 k48 hk]
    · rw [if_neg e] at hk2 ⊢; exact hR.one k k1 k48 hk2
  · rw [hkk] at hk2
    by_cases e : k = i
    · subst e
      obtain ⟨l, hl⟩ := hR.up d hd hkd
      refine ⟨l ++ [n], pth_append.2 ⟨d, hkeep hl, pth_cons.2 ⟨by rw [hkk, if_neg hdi]; exact hkd, k, ?_, pth_nil.2 (by omega)⟩⟩⟩
      rw [hdr, if_pos rfl, findE_ins hno, if_pos rfl]
    · rw [if_neg e] at hk2
      obtain ⟨l, hl⟩ := hR.up k k48 hk2
      exact ⟨l, hkeep hl⟩
  · rw [hln]
    rw [hkk] at hk0
    by_cases e : k = i
    · subst e; rw [if_pos rfl] at hk0; omega
    · rw [if_neg e] at hk0 ⊢; exact hR.no k k1 k48 hk0
theorem findE_del {T : TrD} {d k : Nat} {n m : List UInt8} (hb : ¬ (k = d ∧ m = n)) : findE ((T.del d n).dir k) m = findE (T.dir k) m := by
  rw [dir_del]
  split
  · rename_i e; subst e; exact findE_rem (fun e => hb ⟨rfl, e⟩)
  · rfl
/-- A file's name is gone. -/
theorem Tre.del {T : TrD} (hR : T.Tre) (h : T.Ok) {d i : Nat} {n : List UInt8} (hd : d < 48) (hkd : T.kind d = 2) (hf : findE (T.dir d) n = some (i : Int)) (hk : T.kind i ≠ 2) : (T.del d n).Tre := by
  refine ⟨fun k k48 hk2 => ?_, fun k k1 k48 hk2 => ?_, fun k k48 hk2 => ?_, fun k k1 k48 hk0 => ?_⟩
  · have hk3 : T.kind k ≠ 2 := hk2
    rw [dir_del]
    split
    · rename_i e; subst e; exact absurd hkd hk3
    · exact hR.nd k k48 hk3
  · have hk3 : T.kind k = 2 := hk2
    have := h.links_del hd hf k
    have hki : k ≠ i := fun e => by rw [e] at hk3; exact hk hk3
    rw [if_neg hki] at this
    rw [← hR.one k k1 k48 hk3]; omega
  · have hk3 : T.kind k = 2 := hk2
    obtain ⟨l, hl⟩ := hR.up k k48 hk3
    refine ⟨l, Pth.keep (T := T) (T' := T.del d n) (fun k m => k = d ∧ m = n) (fun j m z hb hj hf => ⟨hj, by rw [findE_del hb]; exact hf⟩) hl ?_⟩
    rintro a m b j e hp ⟨rfl, rfl⟩
    rw [e] at hl
    exact hk (h.step hl (by omega) hp hf hk3).1
  · have hk3 : T.kind k = 0 := hk0
    have h1 := h.links_del hd hf k
    have h2 := hR.no k k1 k48 hk3
    omega
/-- An empty directory is gone. -/
theorem Tre.rmd {T : TrD} (hR : T.Tre) (h : T.Ok) {d i : Nat} {n : List UInt8} (hd : d < 48) (hkd : T.kind d = 2) (hf : findE (T.dir d) n = some (i : Int)) (hk : T.kind i = 2) (he : T.dir i = []) : ((T.del d n).setK i 0).Tre := by
  obtain ⟨_, i1, i2⟩ := h.find_ino hd hf
  have hi : i < 48 := by omega
  have hdi : d ≠ i := fun e => by subst e; rw [he] at hf; cases hf
  have hkk : ∀ j, ((T.del d n).setK i 0).kind j = if j = i then 0 else T.kind j := fun j => setK_kind' (h.del hd n) hi 0 j
  have hdr : ∀ j, ((T.del d n).setK i 0).dir j = if j = d then remE (T.dir d) n else T.dir j := fun j => dir_del T d j n
  have hln : ∀ j, ((T.del d n).setK i 0).links j + (if j = i then 1 else 0) = T.links j := fun j => h.links_del hd hf j
  refine ⟨fun k k48 hk2 => ?_, fun k k1 k48 hk2 => ?_, fun k k48 hk2 => ?_, fun k k1 k48 hk0 => ?_⟩
  · rw [hdr]
    rw [hkk] at hk2
    split
    · rename_i e; subst e; rw [if_neg hdi] at hk2; exact absurd hkd hk2
    · by_cases e : k = i
      · subst e; exact he
      · rw [if_neg e] at hk2; exact hR.nd k k48 hk2
  · have := hln k
    rw [hkk] at hk2
    by_cases e : k = i
    · rw [if_pos e] at hk2; cases hk2
    · rw [if_neg e] at hk2 this; rw [← hR.one k k1 k48 hk2]; omega
  · rw [hkk] at hk2
    by_cases e : k = i
    · rw [if_pos e] at hk2; cases hk2
    · rw [if_neg e] at hk2
      obtain ⟨l, hl⟩ := hR.up k k48 hk2
      refine ⟨l, Pth.keep (T := T) (T' := (T.del d n).setK i 0) (fun k m => k = d ∧ m = n) (fun j m z hb hj hf => ⟨?_, ?_⟩) hl ?_⟩
      · rw [hkk, if_neg (fun e => by rw [e, he] at hf; cases hf)]; exact hj
      · have := findE_del (T := T) hb
        show findE ((T.del d n).dir j) m = some z
        rw [this]; exact hf
      · rintro a m b j e2 hp ⟨rfl, rfl⟩
        rw [e2] at hl
        obtain ⟨_, h3⟩ := h.step hl (by omega) hp hf hk2
        cases b with
        | nil => rw [pth_nil] at h3; exact e h3.symm
        | cons x b =>
          obtain ⟨_, z, h4, _⟩ := pth_cons.1 h3
          rw [he] at h4; cases h4
  · have := hln k
    rw [hkk] at hk0
    by_cases e : k = i
    · rw [if_pos e] at this
      subst e
      rw [hR.one k k1 k48 hk] at this; omega
    · rw [if_neg e] at hk0 this; rw [← hR.no k k1 k48 hk0]; omega
/-- A file without names is gone. -/
theorem Tre.drop {T : TrD} (hR : T.Tre) (h : T.Ok) {i : Nat} (hi : i < 48) (hk : T.kind i = 1) (hl : T.links i = 0) : (T.setK i 0).Tre := by
  have hkk : ∀ j, (T.setK i 0).kind j = if j = i then 0 else T.kind j := fun j => setK_kind' h hi 0 j
  refine ⟨fun k k48 hk2 => ?_, fun k k1 k48 hk2 => ?_, fun k k48 hk2 => ?_, fun k k1 k48 hk0 => ?_⟩
  · show T.dir k = []
    rw [hkk] at hk2
    by_cases e : k = i
    · subst e; exact hR.nd k k48 (by rw [hk]; decide)
    · rw [if_neg e] at hk2; exact hR.nd k k48 hk2
  · show T.links k = 1
    rw [hkk] at hk2
    by_cases e : k = i
    · rw [if_pos e] at hk2; cases hk2
    · rw [if_neg e] at hk2; exact hR.one k k1 k48 hk2
  · rw [hkk] at hk2
    by_cases e : k = i
    · rw [if_pos e] at hk2; cases hk2
    · rw [if_neg e] at hk2
      obtain ⟨l, hl⟩ := hR.up k k48 hk2
      exact ⟨l, Pth.mono (T := T) (T' := T.setK i 0) (fun j m z hj hf => ⟨by rw [hkk, if_neg (fun e => by rw [e, hk] at hj; cases hj)]; exact hj, hf⟩) hl⟩
  · show T.links k = 0
    rw [hkk] at hk0
    by_cases e : k = i
    · subst e; exact hl
    · rw [if_neg e] at hk0; exact hR.no k k1 k48 hk0
theorem pth_tch {T : TrD} {l : List Nat} {s : List (List UInt8)} {i j : Nat} : (T.tch l).Pth i s j ↔ T.Pth i s j := by
  unfold Pth
  rw [walk_congr (T := T.tch l) (T' := T) rfl rfl s i]
theorem Tre.tch {T : TrD} (hR : T.Tre) (l : List Nat) : (T.tch l).Tre := ⟨hR.nd, hR.one, fun i h1 h2 => by
  obtain ⟨s, hs⟩ := hR.up i h1 h2
  exact ⟨s, pth_tch.2 hs⟩, hR.no⟩
/-- What is moved takes all below it along. -/
theorem Tre.mov {T : TrD} (hR : T.Tre) (h : T.Ok) {f d x : Nat} {o n : List UInt8} (hf48 : f < 48) (hkf : T.kind f = 2) (hfo : findE (T.dir f) o = some (x : Int)) (hd : d < 48) (hkd : T.kind d = 2) (hno : hasE (T.dir d) n = false)
    (hlp : T.kind x = 2 → ∀ s, ¬ T.Pth x s d) : ((T.del f o).put d x n).Tre ∧ (∀ {s : List (List UInt8)} {i j : Nat}, T.Pth i s j → (∀ a b, s = a ++ o :: b → ¬ T.Pth i a f) → ((T.del f o).put d x n).Pth i s j) ∧ (∀ {q : List (List UInt8)}, T.Pth 0 q d → ((T.del f o).put d x n).Pth 0 (q ++ [n]) x) := by
  obtain ⟨_, x1, x2⟩ := h.find_ino hf48 hfo
  have hok := h.del hf48 o
  have hx1 : 1 ≤ x := by omega
  have hno' : hasE ((T.del f o).dir d) n = false := by
    rw [dir_del]
    split
    · rename_i e; subst e; exact hasE_rem_no _ hno
    · exact hno
  have hdr : ∀ j, ((T.del f o).put d x n).dir j = if j = d then insE ((T.del f o).dir d) ⟨n, x⟩ else (T.del f o).dir j := fun j => put_dir' hok hd x n j
  have hln : ∀ j, ((T.del f o).put d x n).links j = T.links j := fun j => by
    have h1 := hok.links_put (n := n) hd hx1 j
    have h2 := h.links_del hf48 hfo j
    omega
  have hfind : ∀ k m z, ¬ (k = f ∧ m = o) → findE (T.dir k) m = some z → findE (((T.del f o).put d x n).dir k) m = some z := fun k m z hb hf => by
    rw [hdr]
    split
    · rename_i e
      subst e
      rw [findE_ins hno', if_neg]
      · rw [findE_del hb]; exact hf
      · intro e; dsimp only at e; subst e; rw [hasE_find.1 hno] at hf; cases hf
    · rw [findE_del hb]; exact hf
  have hkeep : ∀ {s : List (List UInt8)} {i j : Nat}, T.Pth i s j → (∀ a b, s = a ++ o :: b → ¬ T.Pth i a f) → ((T.del f o).put d x n).Pth i s j := fun hp hb =>
    Pth.keep (T := T) (T' := (T.del f o).put d x n) (fun k m => k = f ∧ m = o) (fun j m z hb hj hf => ⟨hj, hfind j m z hb hf⟩) hp (fun a m b k e hpa ⟨e1, e2⟩ => hb a b (by rw [e, e2]) (by rw [← e1]; exact hpa))
  have hto : ∀ {q : List (List UInt8)}, T.Pth 0 q d → ((T.del f o).put d x n).Pth 0 (q ++ [n]) x := fun {q} hq => by
    refine pth_append.2 ⟨d, hkeep hq ?_, pth_cons.2 ⟨hkd, x, ?_, pth_nil.2 (by omega)⟩⟩
    · intro a b e hpa
      rw [e] at hq
      obtain ⟨h3, h4⟩ := h.step hq (by omega) hpa hfo hkd
      exact hlp h3 b h4
    · rw [hdr, if_pos rfl, findE_ins hno', if_pos rfl]
  refine ⟨⟨fun k k48 hk2 => ?_, fun k k1 k48 hk2 => ?_, fun k k48 hk2 => ?_, fun k k1 k48 hk0 => ?_⟩, hkeep, hto⟩
  · have hk2 : ¬ T.kind k = 2 := hk2
    rw [hdr, if_neg (fun e => by subst e; exact hk2 hkd), dir_del, if_neg (fun e => by subst e; exact hk2 hkf)]
    exact hR.nd k k48 hk2
  · rw [hln]; exact hR.one k k1 k48 hk2
  · have hk2 : T.kind k = 2 := hk2
    obtain ⟨q, hq⟩ := hR.up k k48 hk2
    by_cases hu : ∃ a b, q = a ++ o :: b ∧ T.Pth 0 a f
    · obtain ⟨a, b, e, hpa⟩ := hu
      subst e
      obtain ⟨h3, h4⟩ := h.step hq (by omega) hpa hfo hk2
      obtain ⟨qd, hqd⟩ := hR.up d hd hkd
      refine ⟨qd ++ [n] ++ b, pth_append.2 ⟨x, hto hqd, hkeep h4 ?_⟩⟩
      intro a' b' e2 hp2
      have h5 : T.Pth 0 (a ++ (o :: a')) f := pth_append.2 ⟨f, hpa, pth_cons.2 ⟨hkf, x, hfo, by rw [Int.toNat_natCast]; exact hp2⟩⟩
      have := hR.uniq' h hpa h5 hkf
      have := congrArg List.length this
      simp at this
    · exact ⟨q, hkeep hq fun a b e hpa => hu ⟨a, b, e, hpa⟩⟩
  · rw [hln]; exact hR.no k k1 k48 hk0
end TrD
end Go.Proofs.Ytiieicdhkcikpaa
namespace Go.Proofs.Ytiieicdhkcikpaa
open Go.Sep
set_option linter.unusedSimpArgs false
set_option linter.unusedVariables false
namespace TrD
theorem Tre.ne0 {T : TrD} (hR : T.Tre) (h : T.Ok) {d i : Nat} {n : List UInt8} (hd : d < 48) (hf : findE (T.dir d) n = some (i : Int)) : T.kind i ≠ 0 := fun e => by
  obtain ⟨_, i1, i2⟩ := h.find_ino hd hf
  have h1 := hR.no i (by omega) (by omega) e
  have h2 := h.links_del hd hf i
  rw [if_pos rfl] at h2; omega
theorem Tre.mk'' {T : TrD} (hR : T.Tre) (h : T.Ok) (l : List (List UInt8)) (k : Int) : (T.mk' l k).Tre := by
  unfold TrD.mk'
  split
  · rename_i h0
    obtain ⟨hk, hp, hh, hf, hl⟩ := mkE_zero h0 h
    obtain ⟨_, hn, hd, hkd, _⟩ := h.pE_zero hp
    obtain ⟨f1, f2, f3, _⟩ := h.free_some hf
    exact (hR.mkI h hd hkd f3 f1 f2 hk hh hn hl).tch _
  · exact hR
theorem Tre.lk {T : TrD} (hR : T.Tre) (h : T.Ok) (l to : List (List UInt8)) : (T.lk l to).Tre := by
  unfold TrD.lk
  split
  · rename_i h0
    obtain ⟨hw, hk, hp, hh, hl, hi, h1, h2⟩ := lkE_zero h0 h
    obtain ⟨_, hn, hd, hkd, _⟩ := h.pE_zero hp
    obtain ⟨j, hj, hj48⟩ := h.walk_lt l 0 (by omega)
    have hlne : l ≠ [] := fun e => by subst e; exact hk h.k0
    obtain ⟨_, p2, _, _, p5, _⟩ := h.parent hlne hw
    rw [hj] at p5
    have hk0 := hR.ne0 h p2 p5
    rw [hj, Int.toNat_natCast] at hi hk
    have hk1 : T.kind (T.lkI l to) = 1 := by
      rw [hi]
      rcases h.kind_of j with e | e | e
      · exact absurd e hk0
      · exact e
      · exact absurd e hk
    exact (hR.put h hd hkd h1 hk1 hh).tch _
  · exact hR
theorem Tre.ul {T : TrD} (hR : T.Tre) (h : T.Ok) (l : List (List UInt8)) : (T.ul l).Tre := by
  unfold TrD.ul
  split
  · rename_i h0
    unfold ulE at h0
    split at h0
    · cases h0
    · rename_i hl
      split at h0
      · rename_i hw
        split at h0
        · cases h0
        · rename_i hk
          obtain ⟨j, hj, hj48⟩ := h.walk_lt l 0 (by omega)
          obtain ⟨_, p2, _, p4, p5, _⟩ := h.parent hl hw
          rw [hj] at p5
          rw [hj, Int.toNat_natCast] at hk
          exact (hR.del h p2 p4 p5 hk).tch _
      · exact absurd h0 (by assumption)
  · exact hR
theorem Tre.rd {T : TrD} (hR : T.Tre) (h : T.Ok) (l : List (List UInt8)) : (T.rd l).Tre := by
  unfold TrD.rd
  split
  · rename_i h0
    obtain ⟨hl, hw, hk, hd, hi⟩ := rdE_zero h0 h
    obtain ⟨j, hj, hj48⟩ := h.walk_lt l 0 (by omega)
    obtain ⟨_, p2, _, p4, p5, _⟩ := h.parent hl hw
    rw [hj] at p5
    rw [hj, Int.toNat_natCast] at hk hd hi
    rw [hi]
    exact (hR.rmd h p2 p4 p5 hk hd).tch _
  · exact hR
theorem Tre.dr {T : TrD} (hR : T.Tre) (h : T.Ok) (i : Int) : (T.dr i).Tre := by
  unfold TrD.dr
  split
  · rename_i h0
    unfold drOk at h0
    simp only [Bool.and_eq_true, decide_eq_true_eq] at h0
    exact (hR.drop h (by omega) h0.1.2 h0.2).tch _
  · exact hR
theorem rnE_loop {T : TrD} {l to : List (List UInt8)} (h0 : T.rnE l to = 0) : ¬ (T.kind (T.walk 0 l).1.toNat = 2 ∧ under to l = true ∧ l.length < to.length) := fun hc => by
  unfold rnE at h0
  split at h0
  · cases h0
  · split at h0
    · cases h0
    · split at h0
      · exact absurd h0 (by assumption)
      · cases h0
/-- A directory is not moved below itself. -/
theorem Tre.below {T : TrD} (hR : T.Tre) (h : T.Ok) {l to : List (List UInt8)} {x : Nat} (h0 : T.rnE l to = 0) (hx : T.Pth 0 l x) : T.kind x = 2 → ∀ s, ¬ T.Pth x s (T.pD to) := fun hk s hs => by
  have hlp := rnE_loop h0
  obtain ⟨_, hto, _, hp, _⟩ := rnE_zero h0 h
  obtain ⟨_, _, hd, hkd, hw⟩ := h.pE_zero hp
  have hq : T.Pth 0 (l ++ s) (T.pD to) := pth_append.2 ⟨x, hx, hs⟩
  have hq2 : T.Pth 0 to.dropLast (T.pD to) := hw
  have e := hR.uniq' h hq2 hq hkd
  have hx2 : (T.walk 0 l).1.toNat = x := by
    have : T.walk 0 l = ((x : Int), 0) := hx
    rw [this, Int.toNat_natCast]
  refine hlp ⟨by rw [hx2]; exact hk, ?_, ?_⟩
  · have h2 := split_last hto
    unfold under
    have h3 : to.length = l.length + s.length + 1 := by rw [h2, e]; simp; omega
    rw [decide_eq_true (by omega : l.length ≤ to.length), Bool.true_and, decide_eq_true_eq, h2, e, List.append_assoc, List.take_left' rfl]
  · have h2 := split_last hto
    have h3 : to.length = l.length + s.length + 1 := by rw [h2, e]; simp; omega
    omega
theorem Tre.rn {T : TrD} (hR : T.Tre) (h : T.Ok) (l to : List (List UInt8)) : (T.rn l to).Tre := by
  by_cases h0 : T.rnE l to = 0
  · obtain ⟨hl, hto, hw, hp, x, hx, hx48, hc⟩ := rnE_zero h0 h
    obtain ⟨_, p2, _, p4, p5, _⟩ := h.parent hl hw
    obtain ⟨_, hn, hd, hkd, _⟩ := h.pE_zero hp
    have hpx : T.Pth 0 l x := by have := pth_of h hw; rw [hx, Int.toNat_natCast] at this; exact this
    have hbl := hR.below h h0 hpx
    rw [hx] at p5
    rcases hc with ⟨hf, h64⟩ | ⟨y, hf, hxy | ⟨hxy, hk2, hdy⟩⟩
    · rw [(rn_none h0 hx hf).2.2]
      exact (hR.mov h p2 p4 p5 hd hkd (hasE_find.2 hf) hbl).1.tch _
    · subst hxy
      rw [(rn_same h0 hx hf).2.2]
      exact hR.tch _
    · rw [(rn_over h0 hx hf hxy).2.2]
      obtain ⟨hfx, _⟩ := h.ren_some p2 hd p5 hf hxy
      obtain ⟨_, y1, y2⟩ := h.find_ino hd hf
      have hfy : T.pD l ≠ y := fun e => by rw [e, hdy] at p5; cases p5
      have hdy' : T.pD to ≠ y := fun e => by rw [e, hdy] at hf; cases hf
      have hno : hasE ((T.del (T.pD to) (lastN to)).dir (T.pD to)) (lastN to) = false := by rw [dir_del, if_pos rfl]; exact hasE_rem_self _ _
      split
      · rename_i hky
        have hR0 := hR.rmd h hd hkd hf hky hdy
        have hok0 : ((T.del (T.pD to) (lastN to)).setK y 0).Ok := (h.del hd _).setK (by omega) (.inl rfl)
        have hkk : ∀ j, ((T.del (T.pD to) (lastN to)).setK y 0).kind j = if j = y then 0 else T.kind j := fun j => setK_kind' (h.del hd _) (by omega) 0 j
        have hm : ∀ {s : List (List UInt8)} {i j : Nat}, ((T.del (T.pD to) (lastN to)).setK y 0).Pth i s j → T.Pth i s j := fun hp => hp.mono fun k n z hk hf => by
          rw [hkk] at hk
          split at hk
          · cases hk
          · refine ⟨hk, ?_⟩
            have hf3 : findE ((T.del (T.pD to) (lastN to)).dir k) n = some z := hf
            rw [dir_del] at hf3
            split at hf3
            · rename_i e
              subst e
              by_cases e2 : n = lastN to
              · subst e2; rw [hasE_find.1 (hasE_rem_self _ _)] at hf3; cases hf3
              · rw [findE_rem e2] at hf3; exact hf3
            · exact hf3
        have := (hR0.mov hok0 (o := lastN l) (x := x) (n := lastN to) p2 (by rw [hkk, if_neg hfy]; exact p4) hfx hd (by rw [hkk, if_neg hdy']; exact hkd) hno (fun hk s hs => hbl (by rw [hkk, if_neg hxy] at hk; exact hk) s (hm hs))).1
        exact this.tch _
      · rename_i hky
        have hR0 := hR.del h hd hkd hf hky
        have hok0 : (T.del (T.pD to) (lastN to)).Ok := h.del hd _
        have hm : ∀ {s : List (List UInt8)} {i j : Nat}, (T.del (T.pD to) (lastN to)).Pth i s j → T.Pth i s j := fun hp => hp.mono fun k n z hk hf => by
          refine ⟨hk, ?_⟩
          rw [dir_del] at hf
          split at hf
          · rename_i e
            subst e
            by_cases e2 : n = lastN to
            · subst e2; rw [hasE_find.1 (hasE_rem_self _ _)] at hf; cases hf
            · rw [findE_rem e2] at hf; exact hf
          · exact hf
        exact (hR0.mov hok0 (o := lastN l) (x := x) (n := lastN to) p2 p4 hfx hd hkd hno (fun hk s hs => hbl hk s (hm hs))).1.tch _
  · unfold TrD.rn
    rw [if_neg h0]; exact hR
end TrD
/-! ### lists: what is put in and taken out -/
theorem srt_ext : ∀ {l m : List EntD}, SrtE l → SrtE m → (∀ e, e ∈ l ↔ e ∈ m) → l = m
  | [], [], _, _, _ => rfl
  | [], b :: m, _, _, h => by have := (h b).2 (List.mem_cons_self ..); cases this
  | a :: l, [], _, _, h => by have := (h a).1 (List.mem_cons_self ..); cases this
  | a :: l, b :: m, h1, h2, h => by
    unfold SrtE at h1 h2
    rw [List.pairwise_cons] at h1 h2
    have hab : a = b := by
      rcases List.mem_cons.1 ((h a).1 (List.mem_cons_self ..)) with e | e
      · exact e
      · rcases List.mem_cons.1 ((h b).2 (List.mem_cons_self ..)) with e2 | e2
        · exact e2.symm
        · have g1 := h1.1 b e2
          have g2 := h2.1 a e
          rw [less_asymm g1] at g2; cases g2
    subst hab
    rw [srt_ext h1.2 h2.2 fun x => ?_]
    constructor
    · intro hx
      rcases List.mem_cons.1 ((h x).1 (List.mem_cons_of_mem _ hx)) with e | e
      · subst e; have := h1.1 x hx; rw [less_irrefl] at this; cases this
      · exact e
    · intro hx
      rcases List.mem_cons.1 ((h x).2 (List.mem_cons_of_mem _ hx)) with e | e
      · subst e; have := h2.1 x hx; rw [less_irrefl] at this; cases this
      · exact e
theorem mem_ins {l : List EntD} {e x : EntD} : x ∈ insE l e ↔ x = e ∨ x ∈ l := by
  unfold insE
  rw [List.mem_append, List.mem_cons]
  constructor
  · rintro (h | h | h)
    · exact .inr (List.mem_of_mem_take h)
    · exact .inl h
    · exact .inr (List.mem_of_mem_drop h)
  · rintro (h | h)
    · exact .inr (.inl h)
    · rw [← List.take_append_drop (atE l e.nm) l] at h
      rcases List.mem_append.1 h with h | h
      · exact .inl h
      · exact .inr (.inr h)
theorem mem_rem {l : List EntD} {n : List UInt8} {x : EntD} : x ∈ remE l n ↔ x ∈ l ∧ x.nm ≠ n := by
  unfold remE
  rw [List.mem_filter]
  simp
theorem rem_ins {l : List EntD} (h : SrtE l) {e : EntD} (hno : hasE l e.nm = false) : remE (insE l e) e.nm = l := by
  refine srt_ext ((h.ins hno).rem _) h fun x => ?_
  rw [mem_rem, mem_ins]
  constructor
  · rintro ⟨h1 | h1, h2⟩
    · subst h1; exact absurd rfl h2
    · exact h1
  · intro h1
    refine ⟨.inr h1, fun e2 => ?_⟩
    have := List.any_eq_false.1 hno x h1
    rw [decide_eq_true e2] at this
    exact this rfl
theorem ins_rem {l : List EntD} (h : SrtE l) {e : EntD} (he : e ∈ l) : insE (remE l e.nm) e = l := by
  have hno : hasE (remE l e.nm) e.nm = false := hasE_rem_self _ _
  refine srt_ext ((h.rem _).ins hno) h fun x => ?_
  rw [mem_ins, mem_rem]
  constructor
  · rintro (h1 | ⟨h1, _⟩)
    · subst h1; exact he
    · exact h1
  · intro h1
    by_cases e2 : x.nm = e.nm
    · left
      obtain ⟨i, hi⟩ := List.getElem?_of_mem h1
      obtain ⟨j, hj⟩ := List.getElem?_of_mem he
      have a1 := h.has hi rfl
      have a2 := h.has hj rfl
      rw [e2, ← a2] at a1
      subst a1
      rw [hi] at hj; exact Option.some.inj hj
    · exact .inr ⟨h1, e2⟩
theorem findE_of {l : List EntD} {n : List UInt8} {z : Int} (h : findE l n = some z) : (⟨n, z⟩ : EntD) ∈ l := by
  obtain ⟨⟨a, b⟩, he, h1, h2⟩ := TrD.findE_mem h
  dsimp only at h1 h2
  subst h1; subst h2; exact he
end Go.Proofs.Ytiieicdhkcikpaa
