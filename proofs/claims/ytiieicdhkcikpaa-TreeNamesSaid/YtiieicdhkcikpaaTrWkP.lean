/-
  Package pedigreelaw11: walk, which calls itself.
-/
import Derived.Test.YtiieicdhkcikpaaMLaw
import Derived.Test.YtiieicdhkcikpaaTrCntP
namespace Go.Proofs.Ytiieicdhkcikpaa
open Go.RowKit Go.Sep
set_option linter.unusedSimpArgs false
set_option linter.unusedVariables false
attribute [local irreducible] Go.Oper.wp Go.wpList Go.Calls Go.Code.wp Go.Sep.Reg
attribute [local irreducible] IsT IsW
namespace TrD
theorem Ok.told_zero {T : TrD} (h : T.Ok) : ∀ (f : Nat) {i : Nat}, i < 48 → T.told f i 0 = 0
  | 0, _, _ => rfl
  | f + 1, i, hi => by
    rw [told]
    have key : ∀ D : List EntD, (∀ e ∈ D, 1 ≤ e.ino ∧ e.ino < 48) → sumN (D.map fun e => (if e.ino = ((0 : Nat) : Int) then 1 else 0) + if T.kind e.ino.toNat = 2 then T.told f e.ino.toNat 0 else 0) = 0 := by
      intro D
      induction D with
      | nil => intro _; rfl
      | cons e D ih =>
        intro hD
        have h1 := hD e (List.mem_cons_self ..)
        rw [List.map_cons, sumN_cons, ih fun x hx => hD x (List.mem_cons_of_mem _ hx), if_neg (by omega)]
        split
        · rw [h.told_zero f (by omega)]
        · rfl
    exact key _ fun e he => (h.ent_at hi he).2
/-- What has been told behind so many entries. -/
def toldK (T : TrD) (f i k n : Nat) : Nat := sumN (((T.dir i).take k).map fun e => (if e.ino = (n : Int) then 1 else 0) + if T.kind e.ino.toNat = 2 then T.told f e.ino.toNat n else 0)
theorem toldK_zero (T : TrD) (f i n : Nat) : T.toldK f i 0 n = 0 := by unfold toldK; rw [List.take_zero]; rfl
theorem toldK_succ {T : TrD} {f i k : Nat} {e : EntD} (he : (T.dir i)[k]? = some e) (n : Nat) : T.toldK f i (k + 1) n = T.toldK f i k n + ((if e.ino = (n : Int) then 1 else 0) + if T.kind e.ino.toNat = 2 then T.told f e.ino.toNat n else 0) := by
  unfold toldK
  rw [List.take_add_one, he, List.map_append, sumN_app]
  rfl
theorem toldK_all {T : TrD} {f i k : Nat} (hk : (T.dir i).length ≤ k) (n : Nat) : T.toldK f i k n = T.told (f + 1) i n := by
  unfold toldK
  rw [List.take_of_length_le hk]; rfl
theorem toldK_le {T : TrD} {f i k : Nat} (n : Nat) : T.toldK f i k n ≤ T.told (f + 1) i n := by
  rw [← toldK_all (T := T) (f := f) (i := i) (Nat.le_refl _) n]
  unfold toldK
  rw [List.take_of_length_le (Nat.le_refl _)]
  conv => rhs; rw [← List.take_append_drop k (T.dir i), List.map_append, sumN_app]
  exact Nat.le_add_right _ _
end TrD
def lkl (N : Nat → Nat) : List Nat := (List.range 48).map N
theorem lkl_len (N : Nat → Nat) : (lkl N).length = 48 := by simp [lkl]
theorem lkl_at (N : Nat → Nat) {j : Nat} (hj : j < 48) : (lkl N)[j]? = some (N j) := by unfold lkl; rw [List.getElem?_map, List.getElem?_range hj]; rfl
theorem lkl_set (N : Nat → Nat) {j : Nat} (hj : j < 48) (x : Nat) : (lkl N).set j x = lkl (upd N j x) := by
  unfold lkl
  apply List.ext_getElem?
  intro k
  rw [List.getElem?_set]
  by_cases h : j = k
  · subst h
    rw [if_pos rfl, if_pos (by simp [hj]), List.getElem?_map, List.getElem?_range hj]
    simp only [Option.map_some, upd_at]
  · rw [if_neg h, List.getElem?_map, List.getElem?_map]
    by_cases hk : k < 48
    · rw [List.getElem?_range hk, Option.map_some, Option.map_some, upd_no _ _ (fun e => h e.symm)]
    · rw [List.getElem?_eq_none (by simp; omega)]; rfl
theorem lkl_congr {N M : Nat → Nat} (h : ∀ n, n < 48 → N n = M n) : lkl N = lkl M := by
  unfold lkl
  exact List.map_congr_left fun n hn => h n (List.mem_range.1 hn)
theorem iv_set (l : List Nat) (j x : Nat) : (iv l).set j (.int .i64 (x : Int)) = iv (l.set j x) := by simp [iv, List.map_set]
end Go.Proofs.Ytiieicdhkcikpaa
