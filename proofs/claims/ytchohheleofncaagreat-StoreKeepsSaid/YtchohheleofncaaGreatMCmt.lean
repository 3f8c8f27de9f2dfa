/-
 What alloc.Next answers: blocks that stay, come, go (plain).
 What Commit does to a store (plain): its parts.
 Behind a Commit: a good store (plain).
 Behind a Commit: a good store, further (plain).
 Behind a Commit: a good store, at last (plain).
 A Commit to a store that is not cut (plain).
 What the walk of Commit steps over (plain).
-/
import Derived.Test.YtchohheleofncaaGreatMRig
import Derived.Test.YtchohheleofncaaGreatMGrw
set_option linter.unusedSimpArgs false
set_option linter.unusedVariables false
namespace Go.Proofs.YtchohheleofncaaGreat
open Go.RowKit Go.Sep
theorem pcAll_at {b : Int} {l : List Int} (h : pcAll b l = true) {i : Nat} {p : Int} (hp : l[i]? = some p) : pcLast l i < p ∧ p < b ∧ p < 32 := by
 unfold pcAll at h
 have := List.all_eq_true.1 h i (List.mem_range.2 (List.getElem?_eq_some_iff.1 hp).1)
 unfold pcOk at this
 rw [hp] at this
 simp at this
 omega
theorem pcAll_lo {b : Int} {l : List Int} (h : pcAll b l = true) {i : Nat} {p : Int} (hp : l[i]? = some p) : 0 ≤ p := by
 have h1 := pcAll_at h hp
 have h2 : -1 ≤ pcLast l i := pcLast_lo (b := b) (fun j hj => by
  unfold pcAll at h
  exact List.all_eq_true.1 h j (List.mem_range.2 (by have := (List.getElem?_eq_some_iff.1 hp).1; omega)))
 omega
theorem pcAll_lt {b : Int} {l : List Int} (h : pcAll b l = true) : ∀ (d i : Nat) {p q : Int}, l[i]? = some p → l[i + d + 1]? = some q → p < q
 | 0, i, p, q, hp, hq => by
  have := (pcAll_at h hq).1
  rw [show i + 0 + 1 = i + 1 from rfl] at this
  have h3 : l[i]?.getD 0 < q := this
  rw [hp] at h3
  exact h3
 | d + 1, i, p, q, hp, hq => by
  have hl := (List.getElem?_eq_some_iff.1 hq).1
  obtain ⟨r, hr⟩ : ∃ r, l[i + d + 1]? = some r := ⟨_, List.getElem?_eq_getElem (by omega)⟩
  have h1 := pcAll_lt h d i hp hr
  have h2 := (pcAll_at h hq).1
  rw [show i + (d + 1) + 1 = (i + d + 1) + 1 by omega] at h2
  have h4 : l[i + d + 1]?.getD 0 < q := h2
  rw [hr] at h4
  have h3 : r < q := h4
  omega
theorem pcAll_inj {b : Int} {l : List Int} (h : pcAll b l = true) {i j : Nat} {p : Int} (hi : l[i]? = some p) (hj : l[j]? = some p) : i = j := by
 rcases Nat.lt_trichotomy i j with hl | rfl | hl
 ·have := pcAll_lt h (j - i - 1) i hi (by rw [show i + (j - i - 1) + 1 = j by omega]; exact hj)
  omega
 ·rfl
 ·have := pcAll_lt h (i - j - 1) j hj (by rw [show j + (i - j - 1) + 1 = i by omega]; exact hi)
  omega
theorem putP_at {b : Int} {K l : List Int} {t : List Nat} (h : pcAll b l = true) (hK : K.length = 32) (ht : l.length = t.length) : ∀ n : Nat, n ≤ l.length → ∀ k : Nat, k < 32 →
  (∃ (i p : Nat), i < n ∧ l[i]? = some (k : Int) ∧ t[i]? = some p ∧ (putP K l t n)[k]? = some (p : Int)) ∨ ((∀ i : Nat, i < n → l[i]? ≠ some (k : Int)) ∧ (putP K l t n)[k]? = K[k]?)
 | 0, _, k, _ => .inr ⟨fun i hi => absurd hi (Nat.not_lt_zero _), rfl⟩
 | n + 1, hn, k, hk => by
  obtain ⟨q, hq⟩ : ∃ q, l[n]? = some q := ⟨_, List.getElem?_eq_getElem (by omega)⟩
  obtain ⟨p, hp⟩ : ∃ p, t[n]? = some p := ⟨_, List.getElem?_eq_getElem (by omega)⟩
  have h0 := pcAll_lo h hq
  have h1 := pcAll_at h hq
  obtain ⟨m, rfl⟩ : ∃ m : Nat, q = (m : Int) := ⟨q.toNat, by omega⟩
  have hlen : (putP K l t n).length = 32 := by rw [putP_len, hK]
  have e : putP K l t (n + 1) = (putP K l t n).set m ((p : Nat) : Int) := by rw [putP, hq, hp]; rfl
  rw [e, List.getElem?_set]
  by_cases hm : m = k
  ·subst hm
   left
   refine ⟨n, p, by omega, hq, hp, ?_⟩
   rw [if_pos rfl, if_pos (by rw [hlen]; omega)]
  ·rw [if_neg hm]
   rcases putP_at h hK ht n (by omega) k hk with ⟨i, p', h2, h3, h4, h5⟩ | ⟨h2, h3⟩
   ·exact .inl ⟨i, p', by omega, h3, h4, h5⟩
   ·refine .inr ⟨fun i hi => ?_, h3⟩
    by_cases hin : i = n
    ·subst hin
     rw [hq]
     intro e2
     have := Option.some.inj e2
     omega
    ·exact h2 i (by omega)
theorem nxKs_at (old now : InoD) {k : Nat} (h : k < 32) : (nxKs old now 32)[k]? = some (nxK old now k) := by
 unfold nxKs
 rw [Nat.sub_self, List.replicate_zero, List.append_nil, List.getElem?_map, List.getElem?_range h]
 rfl
theorem nxK_or {old now : InoD} (hl : old.ptrs.length = 32) {k : Nat} (h : k < 32) : nxK old now k = 0 ∨ old.ptrs[k]? = some (nxK old now k) := by
 unfold nxK
 split
 ·right
  rw [List.getElem?_eq_getElem (by omega)]
  rfl
 ·exact .inl rfl
structure Fresh (old : InoD) (t : List Nat) : Prop where
 nd : t.Nodup
 rng : ∀ p ∈ t, 74 ≤ p ∧ p ≤ 1023
 new : ∀ p ∈ t, (p : Int) ∉ old.ptrs
theorem nxI_ptr {old now : InoD} {pieces : List Int} {t : List Nat} (hl : old.ptrs.length = 32) (hp : pcAll (nxB now) pieces = true) (ht : pieces.length = t.length) {k : Nat} (hk : k < 32) :
  (∃ (i p : Nat), pieces[i]? = some (k : Int) ∧ t[i]? = some p ∧ (nxI old now pieces t).ptrs[k]? = some (p : Int)) ∨ ((∀ i : Nat, pieces[i]? ≠ some (k : Int)) ∧ (nxI old now pieces t).ptrs[k]? = some (nxK old now k)) := by
 rcases putP_at (K := nxKs old now 32) hp (nxKs_len _ _ (Nat.le_refl _)) ht pieces.length (Nat.le_refl _) k hk with ⟨i, p, _, h2, h3, h4⟩ | ⟨h1, h2⟩
 ·exact .inl ⟨i, p, h2, h3, h4⟩
 ·refine .inr ⟨fun i e => ?_, h2.trans (nxKs_at old now hk)⟩
  exact h1 i (List.getElem?_eq_some_iff.1 e).1 e
theorem nextOk_fresh {old now : InoD} {pieces : List Int} {t1 t2 : List Nat} (ho : OkI old) (h : nextOk old now pieces t1 = true) (f1 : Fresh old t1) (f2 : Fresh old t2) (hlen : pieces.length = t2.length) : nextOk old now pieces t2 = true := by
 unfold nextOk at h ⊢
 simp only [Bool.and_eq_true, decide_eq_true_eq] at h ⊢
 obtain ⟨h1, h2, h3⟩ := h
 refine ⟨hlen, h2, ?_⟩
 by_cases h0 : (nxI old now pieces t2).kind = 0
 ·rw [nxI_zero h2 h0]; exact okI_okIb okI_zero
 have hx1 : OkI (nxI old now pieces t1) := okIb_ok nxI_len (nxI_zero h2) h3
 have hA := fun k hk => nxI_ptr (t := t1) ho.pl h2 h1 (k := k) hk
 have hB := fun k hk => nxI_ptr (t := t2) ho.pl h2 hlen (k := k) hk
 have h32 : ∀ {k : Nat} {p : Int}, (nxI old now pieces t2).ptrs[k]? = some p → k < 32 := fun {k p} hp => by
  have := (List.getElem?_eq_some_iff.1 hp).1
  rw [nxI_len] at this
  exact this
 -- what stands at a place that no piece names is the same
 have hsame : ∀ k : Nat, k < 32 → (∀ i : Nat, pieces[i]? ≠ some (k : Int)) → (nxI old now pieces t1).ptrs[k]? = some (nxK old now k) := fun k hk hn => by
  rcases hA k hk with ⟨i, p, e, _⟩ | ⟨_, e⟩
  ·exact absurd e (hn i)
  ·exact e
 have hpc : ∀ (k i : Nat), k < 32 → pieces[i]? = some (k : Int) → ∃ p : Nat, (nxI old now pieces t1).ptrs[k]? = some (p : Int) ∧ p ≠ 0 := fun k i hk hi => by
  rcases hA k hk with ⟨j, p, _, e2, e3⟩ | ⟨hn, _⟩
  ·have := (f1.rng p (List.mem_of_getElem? e2)).1
   exact ⟨p, e3, by omega⟩
  ·exact absurd hi (hn i)
 refine okI_okIb ?_
 exact
  {pl := nxI_len
   zero := fun e => absurd e h0
   kd := hx1.kd
   sz := hx1.sz
   lk := hx1.lk
   ob := hx1.ob
   ob1 := hx1.ob1
   nd := hx1.nd
   dir := fun hk2 => by
    obtain ⟨a, b, c⟩ := hx1.dir hk2
    refine ⟨a, b, fun k hk => ?_⟩
    have hk32 := h32 hk
    rcases hB k hk32 with ⟨i, p, e1, e2, e3⟩ | ⟨hn, e⟩
    ·have := (f2.rng p (List.mem_of_getElem? e2)).1
     rw [hk] at e3
     have := Option.some.inj e3
     omega
    ·rw [hk] at e
     exact c k (by rw [hsame k hk32 hn, ← Option.some.inj e])
   pt := fun k p hk hp0 => by
    have hk32 := h32 hk
    rcases hB k hk32 with ⟨i, q, e1, e2, e3⟩ | ⟨hn, e⟩
    ·obtain ⟨r, hr, hr0⟩ := hpc k i hk32 e1
     have h4 := hx1.pt k r hr (by omega)
     have h5 := f2.rng q (List.mem_of_getElem? e2)
     rw [hk] at e3
     have := Option.some.inj e3
     exact ⟨h4.1, by omega, by omega⟩
    ·rw [hk] at e
     exact hx1.pt k p (by rw [hsame k hk32 hn, ← Option.some.inj e]) hp0
   nd' := fun j k p hjk hj hk => by
    by_cases hp0 : p = 0
    ·exact hp0
    have hj32 := h32 hj
    have hk32 := h32 hk
    have hold : ∀ m, m < 32 → nxK old now m = p → p ∈ old.ptrs := fun m hm e => by
     rcases nxK_or (now := now) ho.pl hm with h6 | h6
     ·exact absurd (e.symm.trans h6) hp0
     ·rw [e] at h6
      exact List.mem_of_getElem? h6
    rcases hB j hj32 with ⟨i1, q1, a1, a2, a3⟩ | ⟨a1, a2⟩
    ·rcases hB k hk32 with ⟨i2, q2, b1, b2, b3⟩ | ⟨b1, b2⟩
     ·rw [hj] at a3
      rw [hk] at b3
      have e1 := Option.some.inj a3
      have e2 := Option.some.inj b3
      have e3 : q1 = q2 := by omega
      subst e3
      have e4 := (List.getElem?_inj (List.getElem?_eq_some_iff.1 a2).1 f2.nd).1 (a2.trans b2.symm)
      subst e4
      have := Option.some.inj (a1.symm.trans b1)
      omega
     ·rw [hj] at a3
      rw [hk] at b2
      have := hold k hk32 (Option.some.inj b2).symm
      rw [Option.some.inj a3] at this
      exact absurd this (f2.new q1 (List.mem_of_getElem? a2))
    ·rcases hB k hk32 with ⟨i2, q2, b1, b2, b3⟩ | ⟨b1, b2⟩
     ·rw [hj] at a2
      rw [hk] at b3
      have := hold j hj32 (Option.some.inj a2).symm
      rw [Option.some.inj b3] at this
      exact absurd this (f2.new q2 (List.mem_of_getElem? b2))
     ·rw [hj] at a2
      rw [hk] at b2
      exact hx1.nd' j k p hjk (by rw [hsame j hj32 a1, ← Option.some.inj a2]) (by rw [hsame k hk32 b1, ← Option.some.inj b2]) }
end Go.Proofs.YtchohheleofncaaGreat
namespace Go.Proofs.YtchohheleofncaaGreat
open Go.RowKit Go.Sep
def totS : List SetD → Nat
 | [] => 0
 | x :: l => x.pieces.length + totS l
theorem totS_append (a b : List SetD) : totS (a ++ b) = totS a + totS b := by
 induction a with
 | nil => simp [totS]
 | cons x a ih => simp only [List.cons_append, totS, ih]; omega
def offS (l : List SetD) (i : Nat) : Nat := totS (l.take i)
theorem offS_zero (l : List SetD) : offS l 0 = 0 := rfl
theorem offS_succ {l : List SetD} {i : Nat} {x : SetD} (h : l[i]? = some x) : offS l (i + 1) = offS l i + x.pieces.length := by
 unfold offS
 rw [List.take_add_one, h, totS_append]
 simp [totS]
theorem offS_le {l : List SetD} {i : Nat} {x : SetD} (h : l[i]? = some x) : offS l i + x.pieces.length ≤ totS l := by
 rw [← offS_succ h]
 unfold offS
 conv => rhs; rw [← List.take_append_drop (i + 1) l, totS_append]
 omega
theorem offS_all (l : List SetD) : offS l l.length = totS l := by unfold offS; rw [List.take_length]
def takS (S : StD) (l : List SetD) : List Nat := (freeL S.U S.sup.blocks.toNat).take (totS l)
def mineS (S : StD) (l : List SetD) (i : Nat) (x : SetD) : List Nat := ((takS S l).drop (offS l i)).take x.pieces.length
def newI (S : StD) (l : List SetD) (i : Nat) (x : SetD) : InoD := nxI (inoS S x) x.ino x.pieces (mineS S l i x)
def goneS (S : StD) (l : List SetD) (i : Nat) (x : SetD) : List Nat := goneP (inoS S x) (newI S l i x) 32
def inosS (S : StD) (l : List SetD) : Nat → List InoD
 | 0 => S.inos
 | i + 1 => match l[i]? with
  | none => inosS S l i
  | some x => (inosS S l i).set x.at_.toNat (newI S l i x)
def goneL (S : StD) (l : List SetD) : Nat → List Nat
 | 0 => []
 | i + 1 => match l[i]? with
  | none => goneL S l i
  | some x => goneL S l i ++ goneS S l i x
def wrI (S : StD) (l : List SetD) : Nat → G2
 | 0 => []
 | i + 1 => match l[i]? with
  | none => wrI S l i
  | some x => wrI S l i ++ [(26 + x.at_, encI (newI S l i x))]
def datW (S : StD) (l : List SetD) (i : Nat) (x : SetD) (n : Nat) : G2 := (List.range n).map fun k => ((((mineS S l i x)[k]?.getD 0 : Nat) : Int), x.data[k]?.getD [])
def datL (S : StD) (l : List SetD) : Nat → G2
 | 0 => []
 | i + 1 => match l[i]? with
  | none => datL S l i
  | some x => datL S l i ++ datW S l i x x.data.length
theorem inosS_succ {S : StD} {l : List SetD} {i : Nat} {x : SetD} (h : l[i]? = some x) : inosS S l (i + 1) = (inosS S l i).set x.at_.toNat (newI S l i x) := by rw [inosS, h]
theorem goneL_succ {S : StD} {l : List SetD} {i : Nat} {x : SetD} (h : l[i]? = some x) : goneL S l (i + 1) = goneL S l i ++ goneS S l i x := by rw [goneL, h]
theorem wrI_succ {S : StD} {l : List SetD} {i : Nat} {x : SetD} (h : l[i]? = some x) : wrI S l (i + 1) = wrI S l i ++ [(26 + x.at_, encI (newI S l i x))] := by rw [wrI, h]
theorem datL_succ {S : StD} {l : List SetD} {i : Nat} {x : SetD} (h : l[i]? = some x) : datL S l (i + 1) = datL S l i ++ datW S l i x x.data.length := by rw [datL, h]
theorem datW_succ (S : StD) (l : List SetD) (i : Nat) (x : SetD) (n : Nat) : datW S l i x (n + 1) = datW S l i x n ++ [((((mineS S l i x)[n]?.getD 0 : Nat) : Int), x.data[n]?.getD [])] := by simp [datW, List.range_succ]
def supC (S : StD) (next : Int) (shown : Bool) : SupD := { S.sup with next := next, shown := if shown then S.sup.records else S.sup.shown }
def mapC (S : StD) (l : List SetD) : Nat → Bool := if l = [] then S.U else moreU (lessU S.U (goneL S l l.length)) (takS S l)
def wrC (S : StD) (l : List SetD) (next : Int) (shown : Bool) : G2 := wrI S l l.length ++ (if l = [] then [] else [(1, mapB (mapC S l))]) ++ [(0, encS (supC S next shown))]
def StD.committed (S : StD) (l : List SetD) (next : Int) (shown : Bool) : StD := { S with sup := supC S next shown, U := mapC S l, inos := inosS S l l.length }
def cmtBad (S : StD) (l : List SetD) (next : Int) : Bool := decide (next < S.sup.next) || (decide (16777215 < next) || !rightB S l)
def commitS (S : StD) (D : DiskS) (l : List SetD) (next : Int) (shown : Bool) : Int × StD × DiskS :=
 if cmtBad S l next = true then (1, S, D)
 else if (freeL S.U S.sup.blocks.toNat).length < totS l then (2, S, D)
 else if l = [] ∧ supC S next shown = S.sup then (0, S, D)
 else if (runW D (datL S l l.length)).1 ≠ 0 then ((runW D (datL S l l.length)).1, S, (runW D (datL S l l.length)).2)
 else ((commitR (runW D (datL S l l.length)).2 (wrC S l next shown)).1, (if (commitR (runW D (datL S l l.length)).2 (wrC S l next shown)).1 = 0 then S.committed l next shown else S), (commitR (runW D (datL S l l.length)).2 (wrC S l next shown)).2)
section
variable {B : List (List UInt8)} {S : StD} {gs : List Nat} {l : List SetD}
theorem takS_len (hf : totS l ≤ (freeL S.U S.sup.blocks.toNat).length) : (takS S l).length = totS l := by
 unfold takS; rw [List.length_take]; omega
theorem mineS_len (hf : totS l ≤ (freeL S.U S.sup.blocks.toNat).length) {i : Nat} {x : SetD} (hx : l[i]? = some x) : (mineS S l i x).length = x.pieces.length := by
 unfold mineS
 rw [List.length_take, List.length_drop, takS_len hf]
 have := offS_le hx
 omega
theorem SOk.takSm (h : SOk B S gs) {p : Nat} (hp : p ∈ takS S l) : 74 ≤ p ∧ p < B.length ∧ p ∉ blksX S.inos ++ gs := by
 have h1 := List.mem_of_mem_take hp
 rw [h.bl] at h1
 obtain ⟨h2, h3⟩ := freeL_mem.1 h1
 rw [h.u] at h3
 unfold usedBy usedU at h3
 simp at h3
 refine ⟨by omega, h2, ?_⟩
 rw [List.mem_append]
 intro hm
 rcases hm with hm | hm
 ·exact h3.2.1 hm
 ·exact h3.2.2 hm
theorem takS_nd : (takS S l).Nodup := (List.take_sublist _ _).nodup (freeL_nd _ _)
theorem mineS_mem {i : Nat} {x : SetD} {p : Nat} (hp : p ∈ mineS S l i x) : p ∈ takS S l := List.mem_of_mem_drop (List.mem_of_mem_take hp)
theorem mineS_nd {i : Nat} {x : SetD} : (mineS S l i x).Nodup := (List.take_sublist _ _).nodup ((List.drop_sublist _ _).nodup takS_nd)
theorem mineS_at {i : Nat} {x : SetD} {k p : Nat} (hp : (mineS S l i x)[k]? = some p) : (takS S l)[offS l i + k]? = some p ∧ k < x.pieces.length := by
 unfold mineS at hp
 have hk : k < x.pieces.length := by
  have := (List.getElem?_eq_some_iff.1 hp).1
  rw [List.length_take] at this
  omega
 rw [List.getElem?_take_of_lt hk, List.getElem?_drop] at hp
 exact ⟨hp, hk⟩
theorem mem_blksI {x : InoD} {p : Nat} : p ∈ blksI x ↔ ∃ q ∈ x.ptrs, q ≠ 0 ∧ q.toNat = p := by
 unfold blksI
 rw [List.mem_map]
 constructor
 ·rintro ⟨q, hq, e⟩
  rw [List.mem_filter, decide_eq_true_eq] at hq
  exact ⟨q, hq.1, hq.2, e⟩
 ·rintro ⟨q, hq, h0, e⟩
  exact ⟨q, List.mem_filter.2 ⟨hq, decide_eq_true h0⟩, e⟩
theorem mem_blksI' {x : InoD} (hx : OkI x) {p : Nat} : p ∈ blksI x ↔ p ≠ 0 ∧ (p : Int) ∈ x.ptrs := by
 rw [mem_blksI]
 constructor
 ·rintro ⟨q, hq, h0, e⟩
  obtain ⟨k, hk⟩ := List.getElem?_of_mem hq
  have := (hx.pt k q hk h0).2.1
  refine ⟨by omega, ?_⟩
  rw [← e, Int.toNat_of_nonneg (by omega)]
  exact hq
 ·rintro ⟨h0, hq⟩
  exact ⟨(p : Int), hq, by omega, Int.toNat_natCast p⟩
theorem blksI_nd {x : InoD} (hx : OkI x) : (blksI x).Nodup := by
 unfold blksI
 have hp : x.ptrs.Pairwise fun a b => a = b → a = 0 := by
  rw [List.pairwise_iff_getElem]
  intro i j hi hj hij e
  exact hx.nd' i j x.ptrs[i] hij (List.getElem?_eq_getElem hi) (by rw [List.getElem?_eq_getElem hj, e])
 rw [List.nodup_iff_pairwise_ne, List.pairwise_map]
 refine (hp.filter _).imp_of_mem ?_
 intro a b ha hb hab e
 rw [List.mem_filter, decide_eq_true_eq] at ha hb
 obtain ⟨k, hk⟩ := List.getElem?_of_mem ha.1
 obtain ⟨m, hm⟩ := List.getElem?_of_mem hb.1
 have h1 := (hx.pt k a hk ha.2).2.1
 have h2 := (hx.pt m b hm hb.2).2.1
 exact ha.2 (hab (by omega))
theorem SOk.inoM (h : SOk B S gs) {i : Nat} {y : InoD} (hy : S.inos[i]? = some y) {p : Nat} (hp : p ∈ blksI y) : p ∈ blksX S.inos := by
 unfold blksX
 exact List.mem_flatMap.2 ⟨y, List.mem_of_getElem? hy, hp⟩
theorem SOk.fresh (h : SOk B S gs) {i j : Nat} {x : SetD} {y : InoD} (hy : S.inos[j]? = some y) : Fresh y (mineS S l i x) where
 nd := mineS_nd
 rng p hp := by
  have := h.takSm (mineS_mem hp)
  have := h.n2
  omega
 new p hp hm := by
  have h1 := h.takSm (mineS_mem hp)
  refine h1.2.2 (List.mem_append_left _ (h.inoM hy ((mem_blksI' (h.x.ok y (List.mem_of_getElem? hy))).2 ⟨by omega, hm⟩)))
theorem othersL_fresh {y : InoD} {n : Nat} : Fresh y (othersL y.ptrs n) where
 nd := (List.take_sublist _ _).nodup (List.filter_sublist.nodup (List.nodup_range' (step := 1)))
 rng p hp := by
  have h1 := List.mem_of_mem_take hp
  unfold othF at h1
  have h2 := (List.mem_filter.1 h1).1
  rw [List.mem_range'_1] at h2
  omega
 new p hp hm := by
  have h1 := List.mem_of_mem_take hp
  unfold othF at h1
  have h2 := (List.mem_filter.1 h1).2
  rw [List.contains_eq_mem, decide_eq_true hm] at h2
  exact absurd h2 (by decide)
end
end Go.Proofs.YtchohheleofncaaGreat
namespace Go.Proofs.YtchohheleofncaaGreat
open Go.RowKit Go.Sep
section
variable {B : List (List UInt8)} {S : StD} {gs : List Nat} {l : List SetD}
structure SetIn (S : StD) (l : List SetD) (i : Nat) (x : SetD) (n : Nat) (y : InoD) : Prop where
 at_ : x.at_ = (n : Int)
 n48 : n < 48
 ino : S.inos[n]? = some y
 inoS : inoS S x = y
 oky : OkI y
 dl : x.data.length = x.pieces.length
 d128 : ∀ d ∈ x.data, d.length = 128
 next : nextOk y x.ino x.pieces (mineS S l i x) = true
theorem SOk.setIn (h : SOk B S gs) (hr : rightB S l = true) (hf : totS l ≤ (freeL S.U S.sup.blocks.toNat).length) {i : Nat} {x : SetD} (hx : l[i]? = some x) : ∃ n y, SetIn S l i x n y := by
 have h1 := (rightB_at hr).2 i x hx
 unfold setOk at h1
 simp only [Bool.and_eq_true, Bool.not_eq_true', decide_eq_false_iff_not, beq_iff_eq, List.all_eq_true] at h1
 obtain ⟨⟨a1, a2⟩, a3, a4, a5, a6⟩ := h1
 obtain ⟨n, hn⟩ : ∃ n : Nat, x.at_ = (n : Int) := ⟨x.at_.toNat, by omega⟩
 obtain ⟨y, hy⟩ : ∃ y, S.inos[n]? = some y := ⟨_, List.getElem?_eq_getElem (by rw [h.x.len]; omega)⟩
 have hyo := h.x.ok y (List.mem_of_getElem? hy)
 have hi : inoS S x = y := by unfold inoS; rw [hn, Int.toNat_natCast, hy]; rfl
 rw [hi] at a6
 exact ⟨n, y, { at_ := hn, n48 := by omega, ino := hy, inoS := hi, oky := hyo, dl := a4, d128 := a5, next := nextOk_fresh hyo a6 othersL_fresh (h.fresh hy) (mineS_len hf hx).symm }⟩
theorem right_inj (hr : rightB S l = true) : ∀ {i j : Nat} {x z : SetD}, l[i]? = some x → l[j]? = some z → x.at_ = z.at_ → i = j := by
 have key : ∀ {i j : Nat} {x z : SetD}, i < j → l[i]? = some x → l[j]? = some z → x.at_ ≠ z.at_ := fun {i j x z} hij hx hz e => by
  have h1 := (rightB_at hr).2 j z hz
  unfold setOk seenS at h1
  simp only [Bool.and_eq_true, Bool.not_eq_true', decide_eq_false_iff_not] at h1
  obtain ⟨⟨a1, a2⟩, a3, _⟩ := h1
  rw [List.any_eq_false] at a3
  refine a3 x (List.mem_of_getElem? (i := i) (by rw [List.getElem?_take_of_lt hij]; exact hx)) ?_
  rw [beq_iff_eq, e, Int.toNat_of_nonneg (by omega)]
 intro i j x z hx hz e
 rcases Nat.lt_trichotomy i j with hl | rfl | hl
 ·exact absurd e (key hl hx hz)
 ·rfl
 ·exact absurd e.symm (key hl hz hx)
theorem SetIn.pc {i : Nat} {x : SetD} {n : Nat} {y : InoD} (h : SetIn S l i x n y) : pcAll (nxB x.ino) x.pieces = true := by
 have := h.next
 unfold nextOk at this
 simp only [Bool.and_eq_true] at this
 exact this.2.1
theorem SetIn.len {i : Nat} {x : SetD} {n : Nat} {y : InoD} (h : SetIn S l i x n y) : x.pieces.length = (mineS S l i x).length := by
 have := h.next
 unfold nextOk at this
 simp only [Bool.and_eq_true, decide_eq_true_eq] at this
 exact this.1
theorem SetIn.newE {i : Nat} {x : SetD} {n : Nat} {y : InoD} (h : SetIn S l i x n y) : newI S l i x = nxI y x.ino x.pieces (mineS S l i x) := by unfold newI; rw [h.inoS]
theorem SetIn.ok {i : Nat} {x : SetD} {n : Nat} {y : InoD} (h : SetIn S l i x n y) : OkI (newI S l i x) := by
 have h2 := h.next
 unfold nextOk at h2
 simp only [Bool.and_eq_true, decide_eq_true_eq] at h2
 rw [h.newE]
 exact okIb_ok nxI_len (nxI_zero h2.2.1) h2.2.2
theorem SetIn.ptr {i : Nat} {x : SetD} {n : Nat} {y : InoD} (h : SetIn S l i x n y) {k : Nat} (hk : k < 32) :
  (∃ (j p : Nat), x.pieces[j]? = some (k : Int) ∧ (mineS S l i x)[j]? = some p ∧ (newI S l i x).ptrs[k]? = some (p : Int)) ∨ ((∀ j : Nat, x.pieces[j]? ≠ some (k : Int)) ∧ (newI S l i x).ptrs[k]? = some (nxK y x.ino k)) := by
 rw [h.newE]
 exact nxI_ptr h.oky.pl h.pc h.len hk
theorem SetIn.gone {i : Nat} {x : SetD} {n : Nat} {y : InoD} (h : SetIn S l i x n y) {p : Nat} : p ∈ goneS S l i x ↔ p ∈ blksI y ∧ (p : Int) ∉ (newI S l i x).ptrs := by
 unfold goneS goneP
 rw [h.inoS, List.take_of_length_le (by rw [h.oky.pl]; exact Nat.le_refl _), List.mem_map]
 constructor
 ·rintro ⟨q, hq, e⟩
  rw [List.mem_filter, Bool.and_eq_true, decide_eq_true_eq, Bool.not_eq_true', List.contains_eq_mem, decide_eq_false_iff_not] at hq
  obtain ⟨h1, h2, h3⟩ := hq
  have hm : p ∈ blksI y := mem_blksI.2 ⟨q, h1, h2, e⟩
  refine ⟨hm, ?_⟩
  obtain ⟨k, hk⟩ := List.getElem?_of_mem h1
  have := (h.oky.pt k q hk h2).2.1
  rw [← e, Int.toNat_of_nonneg (by omega)]
  exact h3
 ·rintro ⟨h1, h2⟩
  obtain ⟨h3, h4⟩ := (mem_blksI' h.oky).1 h1
  refine ⟨(p : Int), ?_, Int.toNat_natCast p⟩
  rw [List.mem_filter, Bool.and_eq_true, decide_eq_true_eq, Bool.not_eq_true', List.contains_eq_mem, decide_eq_false_iff_not]
  exact ⟨h4, by omega, h2⟩
theorem SetIn.blks {i : Nat} {x : SetD} {n : Nat} {y : InoD} (hok : SOk B S gs) (h : SetIn S l i x n y) {p : Nat} : p ∈ blksI (newI S l i x) ↔ p ∈ mineS S l i x ∨ (p ∈ blksI y ∧ p ∉ goneS S l i x) := by
 rw [mem_blksI' h.ok, h.gone, mem_blksI' h.oky]
 constructor
 ·rintro ⟨h0, hm⟩
  obtain ⟨k, hk⟩ := List.getElem?_of_mem hm
  have hk32 : k < 32 := by have := (List.getElem?_eq_some_iff.1 hk).1; rw [h.ok.pl] at this; exact this
  rcases h.ptr hk32 with ⟨j, q, _, e2, e3⟩ | ⟨_, e⟩
  ·rw [hk] at e3
   have := Option.some.inj e3
   have e4 : p = q := by omega
   subst e4
   exact .inl (List.mem_of_getElem? e2)
  ·rw [hk] at e
   have e2 := Option.some.inj e
   rcases nxK_or (now := x.ino) h.oky.pl hk32 with h3 | h3
   ·omega
   ·rw [← e2] at h3
    exact .inr ⟨⟨h0, List.mem_of_getElem? h3⟩, fun hg => hg.2 hm⟩
 ·rintro (hm | ⟨⟨h0, _⟩, hn⟩)
  ·have hr := hok.takSm (mineS_mem hm)
   refine ⟨by omega, ?_⟩
   obtain ⟨j, hj⟩ := List.getElem?_of_mem hm
   obtain ⟨q, hq⟩ : ∃ q, x.pieces[j]? = some q := ⟨_, List.getElem?_eq_getElem (by rw [h.len]; exact (List.getElem?_eq_some_iff.1 hj).1)⟩
   have h1 := pcAll_lo h.pc hq
   have h2 := pcAll_at h.pc hq
   obtain ⟨k, rfl⟩ : ∃ k : Nat, q = (k : Int) := ⟨q.toNat, by omega⟩
   rcases h.ptr (k := k) (by omega) with ⟨j2, p2, e1, e2, e3⟩ | ⟨e1, _⟩
   ·have := pcAll_inj h.pc e1 hq
    subst this
    rw [hj] at e2
    rw [Option.some.inj e2]
    exact List.mem_of_getElem? e3
   ·exact absurd hq (e1 j)
  ·refine ⟨h0, Classical.byContradiction fun hc => hn ⟨⟨h0, ‹_›⟩, hc⟩⟩
end
end Go.Proofs.YtchohheleofncaaGreat
namespace Go.Proofs.YtchohheleofncaaGreat
open Go.RowKit Go.Sep
theorem nodup_fm {α : Type} (f : α → List Nat) : ∀ (X : List α), (∀ x ∈ X, (f x).Nodup) → (∀ (i j : Nat) x y, i < j → X[i]? = some x → X[j]? = some y → ∀ p, p ∈ f x → p ∉ f y) → (X.flatMap f).Nodup
 | [], _, _ => List.nodup_nil
 | x :: X, h1, h2 => by
  rw [List.flatMap_cons, List.nodup_append]
  refine ⟨h1 x (List.mem_cons_self ..), nodup_fm f X (fun y hy => h1 y (List.mem_cons_of_mem _ hy)) (fun i j a b hij ha hb => h2 (i + 1) (j + 1) a b (by omega) (by simpa using ha) (by simpa using hb)), ?_⟩
  intro p hp q hq e
  subst e
  obtain ⟨y, hy, hpy⟩ := List.mem_flatMap.1 hq
  obtain ⟨j, hj⟩ := List.getElem?_of_mem hy
  exact h2 0 (j + 1) x y (by omega) rfl (by simpa using hj) p hp hpy
theorem fm_disj {α : Type} (f : α → List Nat) : ∀ (X : List α), (X.flatMap f).Nodup → ∀ (i j : Nat) x y, i < j → X[i]? = some x → X[j]? = some y → ∀ p, p ∈ f x → p ∉ f y
 | [], _, i, j, x, y, _, hx, _, _, _ => by simp at hx
 | a :: X, h, i, j, x, y, hij, hx, hy, p, hp => by
  rw [List.flatMap_cons, List.nodup_append] at h
  obtain ⟨j', rfl⟩ : ∃ j', j = j' + 1 := ⟨j - 1, by omega⟩
  rw [List.getElem?_cons_succ] at hy
  cases i with
  | zero =>
   simp at hx
   subst hx
   exact fun hq => h.2.2 p hp p (List.mem_flatMap.2 ⟨y, List.mem_of_getElem? hy, hq⟩) rfl
  | succ i =>
   rw [List.getElem?_cons_succ] at hx
   exact fm_disj f X h.2.1 i j' x y (by omega) hx hy p hp
section
variable {B : List (List UInt8)} {S : StD} {gs : List Nat} {l : List SetD}
theorem inosS_len (S : StD) (l : List SetD) : ∀ n, (inosS S l n).length = S.inos.length
 | 0 => rfl
 | n + 1 => by
  rw [inosS]
  split
  ·exact inosS_len S l n
  ·rw [List.length_set, inosS_len S l n]
theorem inosS_at (h : SOk B S gs) (hr : rightB S l = true) (hf : totS l ≤ (freeL S.U S.sup.blocks.toNat).length) : ∀ n : Nat, n ≤ l.length → ∀ m : Nat,
  (∃ (i : Nat) (x : SetD), i < n ∧ l[i]? = some x ∧ x.at_ = (m : Int) ∧ (inosS S l n)[m]? = some (newI S l i x)) ∨ ((∀ (i : Nat) x, i < n → l[i]? = some x → x.at_ ≠ (m : Int)) ∧ (inosS S l n)[m]? = S.inos[m]?)
 | 0, _, m => .inr ⟨fun i x hi => absurd hi (Nat.not_lt_zero _), rfl⟩
 | n + 1, hn, m => by
  obtain ⟨x, hx⟩ : ∃ x, l[n]? = some x := ⟨_, List.getElem?_eq_getElem (by omega)⟩
  obtain ⟨q, y, hq⟩ := h.setIn hr hf hx
  rw [inosS_succ hx, hq.at_, Int.toNat_natCast, List.getElem?_set]
  by_cases hm : q = m
  ·subst hm
   rw [if_pos rfl, if_pos (by rw [inosS_len, h.x.len]; exact hq.n48)]
   exact .inl ⟨n, x, by omega, hx, hq.at_, rfl⟩
  ·rw [if_neg hm]
   rcases inosS_at h hr hf n (by omega) m with ⟨i, z, h1, h2, h3, h4⟩ | ⟨h1, h2⟩
   ·exact .inl ⟨i, z, by omega, h2, h3, h4⟩
   ·refine .inr ⟨fun i z hi hz => ?_, h2⟩
    by_cases hin : i = n
    ·subst hin
     rw [hx] at hz
     rw [← Option.some.inj hz, hq.at_]
     omega
    ·exact h1 i z (by omega) hz
theorem goneL_mem : ∀ n : Nat, n ≤ l.length → ∀ {p : Nat}, p ∈ goneL S l n ↔ ∃ (i : Nat) (x : SetD), i < n ∧ l[i]? = some x ∧ p ∈ goneS S l i x
 | 0, _, p => by
  constructor
  ·intro h; exact absurd h List.not_mem_nil
  ·rintro ⟨i, x, hi, _⟩; exact absurd hi (Nat.not_lt_zero _)
 | n + 1, hn, p => by
  obtain ⟨x, hx⟩ : ∃ x, l[n]? = some x := ⟨_, List.getElem?_eq_getElem (by omega)⟩
  rw [goneL_succ hx, List.mem_append, goneL_mem n (by omega)]
  constructor
  ·rintro (⟨i, z, h1, h2, h3⟩ | h)
   ·exact ⟨i, z, by omega, h2, h3⟩
   ·exact ⟨n, x, by omega, hx, h⟩
  ·rintro ⟨i, z, h1, h2, h3⟩
   by_cases hin : i = n
   ·subst hin
    rw [hx] at h2
    rw [← Option.some.inj h2] at h3
    exact .inr h3
   ·exact .inl ⟨i, z, by omega, h2, h3⟩
theorem wrI_mem : ∀ n : Nat, n ≤ l.length → ∀ {w : Int × List UInt8}, w ∈ wrI S l n ↔ ∃ (i : Nat) (x : SetD), i < n ∧ l[i]? = some x ∧ w = (26 + x.at_, encI (newI S l i x))
 | 0, _, w => by
  constructor
  ·intro h; exact absurd h List.not_mem_nil
  ·rintro ⟨i, x, hi, _⟩; exact absurd hi (Nat.not_lt_zero _)
 | n + 1, hn, w => by
  obtain ⟨x, hx⟩ : ∃ x, l[n]? = some x := ⟨_, List.getElem?_eq_getElem (by omega)⟩
  rw [wrI_succ hx, List.mem_append, wrI_mem n (by omega), List.mem_singleton]
  constructor
  ·rintro (⟨i, z, h1, h2, h3⟩ | h)
   ·exact ⟨i, z, by omega, h2, h3⟩
   ·exact ⟨n, x, by omega, hx, h⟩
  ·rintro ⟨i, z, h1, h2, h3⟩
   by_cases hin : i = n
   ·subst hin
    rw [hx] at h2
    rw [← Option.some.inj h2] at h3
    exact .inr h3
   ·exact .inl ⟨i, z, by omega, h2, h3⟩
theorem wrI_len : ∀ n : Nat, n ≤ l.length → (wrI S l n).length = n
 | 0, _ => rfl
 | n + 1, hn => by
  obtain ⟨x, hx⟩ : ∃ x, l[n]? = some x := ⟨_, List.getElem?_eq_getElem (by omega)⟩
  rw [wrI_succ hx, List.length_append, wrI_len n (by omega)]
  rfl
theorem offS_cover : ∀ n : Nat, n ≤ l.length → ∀ m, m < offS l n → ∃ (i : Nat) (x : SetD), i < n ∧ l[i]? = some x ∧ offS l i ≤ m ∧ m < offS l i + x.pieces.length
 | 0, _, m, h => absurd h (Nat.not_lt_zero _)
 | n + 1, hn, m, h => by
  obtain ⟨x, hx⟩ : ∃ x, l[n]? = some x := ⟨_, List.getElem?_eq_getElem (by omega)⟩
  rw [offS_succ hx] at h
  by_cases hm : m < offS l n
  ·obtain ⟨i, z, h1, h2, h3, h4⟩ := offS_cover n (by omega) m hm
   exact ⟨i, z, by omega, h2, h3, h4⟩
  ·exact ⟨n, x, by omega, hx, by omega, h⟩
theorem offS_mono {i : Nat} : ∀ d, i + d ≤ l.length → offS l i ≤ offS l (i + d)
 | 0, _ => Nat.le_refl _
 | d + 1, h => by
  obtain ⟨x, hx⟩ : ∃ x, l[i + d]? = some x := ⟨_, List.getElem?_eq_getElem (by omega)⟩
  have := offS_mono (i := i) d (by omega)
  rw [show i + (d + 1) = i + d + 1 by omega, offS_succ hx]
  omega
theorem takS_mine (hf : totS l ≤ (freeL S.U S.sup.blocks.toNat).length) {p : Nat} (hp : p ∈ takS S l) : ∃ (i : Nat) (x : SetD), l[i]? = some x ∧ p ∈ mineS S l i x := by
 obtain ⟨m, hm⟩ := List.getElem?_of_mem hp
 have hml := (List.getElem?_eq_some_iff.1 hm).1
 rw [takS_len hf, ← offS_all l] at hml
 obtain ⟨i, x, h1, h2, h3, h4⟩ := offS_cover l.length (Nat.le_refl _) m hml
 refine ⟨i, x, h2, List.mem_of_getElem? (i := m - offS l i) ?_⟩
 unfold mineS
 rw [List.getElem?_take_of_lt (by omega), List.getElem?_drop, show offS l i + (m - offS l i) = m by omega]
 exact hm
theorem mineS_disj {i j : Nat} {x z : SetD} (hx : l[i]? = some x) (hz : l[j]? = some z) {p : Nat} (h1 : p ∈ mineS S l i x) (h2 : p ∈ mineS S l j z) : i = j := by
 obtain ⟨a, ha⟩ := List.getElem?_of_mem h1
 obtain ⟨b, hb⟩ := List.getElem?_of_mem h2
 obtain ⟨ha1, ha2⟩ := mineS_at ha
 obtain ⟨hb1, hb2⟩ := mineS_at hb
 have e := (List.getElem?_inj (List.getElem?_eq_some_iff.1 ha1).1 takS_nd).1 (ha1.trans hb1.symm)
 have hil := (List.getElem?_eq_some_iff.1 hx).1
 have hjl := (List.getElem?_eq_some_iff.1 hz).1
 rcases Nat.lt_trichotomy i j with hl | rfl | hl
 ·have := offS_mono (l := l) (i := i + 1) (j - i - 1) (by omega)
  rw [show i + 1 + (j - i - 1) = j by omega, offS_succ hx] at this
  omega
 ·rfl
 ·have := offS_mono (l := l) (i := j + 1) (i - j - 1) (by omega)
  rw [show j + 1 + (i - j - 1) = i by omega, offS_succ hz] at this
  omega
theorem SOk.newB (h : SOk B S gs) (hr : rightB S l = true) (hf : totS l ≤ (freeL S.U S.sup.blocks.toNat).length) {m : Nat} {z : InoD} (hz : (inosS S l l.length)[m]? = some z) {p : Nat} :
  p ∈ blksI z ↔ (∃ (i : Nat) (x : SetD), l[i]? = some x ∧ x.at_ = (m : Int) ∧ p ∈ mineS S l i x) ∨ (∃ y, S.inos[m]? = some y ∧ p ∈ blksI y ∧ p ∉ goneL S l l.length) := by
 have hdis := fm_disj blksI S.inos (List.nodup_append.1 h.nd).1
 have hgone : ∀ {y : InoD}, S.inos[m]? = some y → p ∈ blksI y → ∀ {j : Nat} {x2 : SetD}, l[j]? = some x2 → p ∈ goneS S l j x2 → x2.at_ = (m : Int) := fun {y} hy hp {j x2} hx2 hg => by
  obtain ⟨q2, y2, hq2⟩ := h.setIn hr hf hx2
  have hp2 := (hq2.gone.1 hg).1
  rcases Nat.lt_trichotomy q2 m with e | e | e
  ·exact absurd hp (hdis q2 m y2 y e hq2.ino hy p hp2)
  ·rw [hq2.at_, e]
  ·exact absurd hp2 (hdis m q2 y y2 e hy hq2.ino p hp)
 rcases inosS_at h hr hf l.length (Nat.le_refl _) m with ⟨i, x, _, h2, h3, h4⟩ | ⟨h1, h2⟩
 ·rw [hz] at h4
  rw [Option.some.inj h4]
  obtain ⟨q, y, hq⟩ := h.setIn hr hf h2
  have hqm : q = m := by have := hq.at_; omega
  subst hqm
  rw [hq.blks h]
  constructor
  ·rintro (hp | ⟨hp, hn⟩)
   ·exact .inl ⟨i, x, h2, h3, hp⟩
   ·refine .inr ⟨y, hq.ino, hp, fun hg => ?_⟩
    obtain ⟨j, x2, _, e2, e3⟩ := (goneL_mem l.length (Nat.le_refl _)).1 hg
    have e4 := hgone hq.ino hp e2 e3
    have := right_inj hr e2 h2 (e4.trans h3.symm)
    subst this
    rw [h2] at e2
    rw [← Option.some.inj e2] at e3
    exact hn e3
  ·rintro (⟨j, x2, e1, e2, e3⟩ | ⟨y2, e1, e2, e3⟩)
   ·have := right_inj hr e1 h2 (e2.trans h3.symm)
    subst this
    rw [h2] at e1
    rw [← Option.some.inj e1] at e3
    exact .inl e3
   ·rw [hq.ino] at e1
    rw [← Option.some.inj e1] at e2
    refine .inr ⟨e2, fun hg => e3 ((goneL_mem l.length (Nat.le_refl _)).2 ⟨i, x, (List.getElem?_eq_some_iff.1 h2).1, h2, hg⟩)⟩
 ·rw [hz] at h2
  constructor
  ·intro hp
   refine .inr ⟨z, h2.symm, hp, fun hg => ?_⟩
   obtain ⟨j, x2, e1, e2, e3⟩ := (goneL_mem l.length (Nat.le_refl _)).1 hg
   exact h1 j x2 e1 e2 (hgone h2.symm hp e2 e3)
  ·rintro (⟨j, x2, e1, e2, _⟩ | ⟨y2, e1, e2, _⟩)
   ·exact absurd e2 (h1 j x2 (List.getElem?_eq_some_iff.1 e1).1 e1)
   ·rw [← h2] at e1
    rw [Option.some.inj e1]
    exact e2
end
end Go.Proofs.YtchohheleofncaaGreat
namespace Go.Proofs.YtchohheleofncaaGreat
open Go.RowKit Go.Sep
section
variable {B : List (List UInt8)} {S : StD} {gs : List Nat} {l : List SetD}
theorem SOk.newX (h : SOk B S gs) (hr : rightB S l = true) (hf : totS l ≤ (freeL S.U S.sup.blocks.toNat).length) : XOk (inosS S l l.length) where
 len := by rw [inosS_len]; exact h.x.len
 ok z hz := by
  obtain ⟨m, hm⟩ := List.getElem?_of_mem hz
  rcases inosS_at h hr hf l.length (Nat.le_refl _) m with ⟨i, x, _, h2, _, h4⟩ | ⟨_, h2⟩
  ·rw [hm] at h4
   obtain ⟨q, y, hq⟩ := h.setIn hr hf h2
   rw [Option.some.inj h4]
   exact hq.ok
  ·rw [hm] at h2
   exact h.x.ok z (List.mem_of_getElem? h2.symm)
theorem datL_mem (h : SOk B S gs) (hr : rightB S l = true) (hf : totS l ≤ (freeL S.U S.sup.blocks.toNat).length) : ∀ n : Nat, n ≤ l.length → ∀ {w : Int × List UInt8}, w ∈ datL S l n → ∃ (p : Nat), p ∈ takS S l ∧ w.1 = (p : Int) ∧ w.2.length = 128
 | 0, _, w, hw => absurd hw List.not_mem_nil
 | n + 1, hn, w, hw => by
  obtain ⟨x, hx⟩ : ∃ x, l[n]? = some x := ⟨_, List.getElem?_eq_getElem (by omega)⟩
  rw [datL_succ hx] at hw
  rcases List.mem_append.1 hw with hw | hw
  ·exact datL_mem h hr hf n (by omega) hw
  ·obtain ⟨q, y, hq⟩ := h.setIn hr hf hx
   unfold datW at hw
   obtain ⟨k, hk, rfl⟩ := List.mem_map.1 hw
   have hk := List.mem_range.1 hk
   have hml : k < (mineS S l n x).length := by rw [mineS_len hf hx]; rw [hq.dl] at hk; exact hk
   obtain ⟨p, hp⟩ : ∃ p, (mineS S l n x)[k]? = some p := ⟨_, List.getElem?_eq_getElem hml⟩
   obtain ⟨d, hd⟩ : ∃ d, x.data[k]? = some d := ⟨_, List.getElem?_eq_getElem hk⟩
   refine ⟨p, mineS_mem (List.mem_of_getElem? hp), ?_, ?_⟩
   ·dsimp only
    rw [hp]
    rfl
   ·dsimp only
    rw [hd]
    exact hq.d128 d (List.mem_of_getElem? hd)
theorem SOk.csup (h : SOk B S gs) {next : Int} (h1 : S.sup.next ≤ next) (h2 : next ≤ 16777215) (shown : Bool) : okSup (supC S next shown) = true := by
 have hs := h.sup
 unfold okSup supC inB at *
 simp only [Bool.and_eq_true, decide_eq_true_eq] at hs ⊢
 obtain ⟨⟨⟨⟨⟨⟨⟨a1, a2⟩, a3, a4⟩, a5, a6⟩, a7, a8⟩, a9⟩, a10, a11⟩, a12, a13⟩ := hs
 refine ⟨⟨⟨⟨⟨⟨⟨a1, a2⟩, a3, a4⟩, a5, a6⟩, ?_⟩, a9⟩, by omega, h2⟩, a12, a13⟩
 cases shown
 ·exact ⟨a7, a8⟩
 ·simp; omega
theorem wrC_mem {next : Int} {shown : Bool} {w : Int × List UInt8} (hw : w ∈ wrC S l next shown) : (∃ (i : Nat) (x : SetD), l[i]? = some x ∧ w = (26 + x.at_, encI (newI S l i x))) ∨ (l ≠ [] ∧ w = (1, mapB (mapC S l))) ∨ w = (0, encS (supC S next shown)) := by
 unfold wrC at hw
 rcases List.mem_append.1 hw with hw | hw
 ·rcases List.mem_append.1 hw with hw | hw
  ·obtain ⟨i, x, _, h2, h3⟩ := (wrI_mem l.length (Nat.le_refl _)).1 hw
   exact .inl ⟨i, x, h2, h3⟩
  ·split at hw
   ·exact absurd hw List.not_mem_nil
   ·rename_i hl
    exact .inr (.inl ⟨hl, List.mem_singleton.1 hw⟩)
 ·exact .inr (.inr (List.mem_singleton.1 hw))
theorem SOk.cgr (h : SOk B S gs) (hr : rightB S l = true) (hf : totS l ≤ (freeL S.U S.sup.blocks.toNat).length) (next : Int) (shown : Bool) : OkGr B.length (wrC S l next shown) := by
 have hn1 := h.n1
 have h8 := (rightB_at hr).1
 refine okG_mk ?_ ?_ ?_ ?_
 ·unfold wrC; rw [List.length_append]; simp
 ·unfold wrC
  rw [List.length_append, List.length_append, wrI_len l.length (Nat.le_refl _), List.length_singleton]
  split <;> simp <;> omega
 ·intro w hw
  rcases wrC_mem hw with ⟨i, x, h2, rfl⟩ | ⟨_, rfl⟩ | rfl
  ·obtain ⟨q, y, hq⟩ := h.setIn hr hf h2
   have e1 := hq.at_
   have e2 := hq.n48
   exact ⟨⟨by dsimp only; omega, by dsimp only; omega, encI_len _ hq.ok.pl⟩, .inr (by dsimp only; omega)⟩
  ·exact ⟨⟨(show (0 : Int) ≤ 1 by decide), (show (1 : Int) < _ by omega), mapB_len _⟩, .inl (show (1 : Int) < 2 by decide)⟩
  ·exact ⟨⟨Int.le_refl _, (show (0 : Int) < _ by omega), encS_len _⟩, .inl (show (0 : Int) < 2 by decide)⟩
 ·have hnd : ∀ n : Nat, n ≤ l.length → ((wrI S l n).map (·.1)).Nodup := by
   intro n
   induction n with
   | zero => intro _; exact List.nodup_nil
   | succ n ih =>
    intro hn
    obtain ⟨x, hx⟩ : ∃ x, l[n]? = some x := ⟨_, List.getElem?_eq_getElem (by omega)⟩
    rw [wrI_succ hx, List.map_append, List.nodup_append]
    refine ⟨ih (by omega), by simp, ?_⟩
    intro a ha b hb e
    subst e
    rw [List.map_singleton, List.mem_singleton] at hb
    obtain ⟨w, hw, rfl⟩ := List.mem_map.1 ha
    obtain ⟨i, z, h1, h2, h3⟩ := (wrI_mem n (by omega)).1 hw
    rw [h3] at hb
    dsimp only at hb
    have := right_inj hr h2 hx (by omega)
    omega
  have hlow : ∀ a ∈ (wrI S l l.length).map (·.1), 26 ≤ a := fun a ha => by
   obtain ⟨w, hw, rfl⟩ := List.mem_map.1 ha
   obtain ⟨i, z, h1, h2, h3⟩ := (wrI_mem l.length (Nat.le_refl _)).1 hw
   obtain ⟨q, y, hq⟩ := h.setIn hr hf h2
   have := hq.at_
   rw [h3]
   dsimp only
   omega
  unfold wrC
  rw [List.map_append, List.map_append, List.nodup_append, List.nodup_append]
  refine ⟨⟨hnd _ (Nat.le_refl _), by split <;> simp, ?_⟩, by simp, ?_⟩
  ·intro a ha b hb e
   subst e
   have := hlow a ha
   split at hb
   ·exact absurd hb List.not_mem_nil
   ·rw [List.map_singleton, List.mem_singleton] at hb
    dsimp only at hb
    omega
  ·intro a ha b hb e
   subst e
   rw [List.map_singleton, List.mem_singleton] at hb
   dsimp only at hb
   rcases List.mem_append.1 ha with ha | ha
   ·have := hlow a ha
    omega
   ·split at ha
    ·exact absurd ha List.not_mem_nil
    ·rw [List.map_singleton, List.mem_singleton] at ha
     dsimp only at ha
     omega
theorem SOk.cmap (h : SOk B S gs) (hr : rightB S l = true) (hf : totS l ≤ (freeL S.U S.sup.blocks.toNat).length) : mapC S l = usedBy B.length (blksX (inosS S l l.length) ++ gs) := by
 by_cases hl0 : l = []
 ·subst hl0
  show S.U = usedBy B.length (blksX S.inos ++ gs)
  exact h.u
 ·funext p
  unfold mapC
  rw [if_neg hl0, moreU_at, lessU_at, h.u]
  rw [Bool.eq_iff_iff]
  unfold usedBy
  simp only [Bool.or_eq_true, Bool.and_eq_true, Bool.not_eq_true', List.contains_eq_mem, decide_eq_true_eq, decide_eq_false_iff_not, List.mem_append]
  have hgx : ∀ {p : Nat}, p ∈ goneL S l l.length → p ∈ blksX S.inos := fun {p} hg => by
   obtain ⟨i, x, _, h2, h3⟩ := (goneL_mem l.length (Nat.le_refl _)).1 hg
   obtain ⟨q, y, hq⟩ := h.setIn hr hf h2
   exact h.inoM hq.ino (hq.gone.1 h3).1
  have hnew : ∀ {p : Nat}, p ∈ blksX (inosS S l l.length) ↔ p ∈ takS S l ∨ (p ∈ blksX S.inos ∧ p ∉ goneL S l l.length) := fun {p} => by
   constructor
   ·intro hp
    obtain ⟨z, hz, hpz⟩ := List.mem_flatMap.1 hp
    obtain ⟨m, hm⟩ := List.getElem?_of_mem hz
    rcases (h.newB hr hf hm).1 hpz with ⟨i, x, _, _, e⟩ | ⟨y, e1, e2, e3⟩
    ·exact .inl (mineS_mem e)
    ·exact .inr ⟨h.inoM e1 e2, e3⟩
   ·rintro (hp | ⟨hp, hn⟩)
    ·obtain ⟨i, x, h2, h3⟩ := takS_mine hf hp
     obtain ⟨q, y, hq⟩ := h.setIn hr hf h2
     obtain ⟨z, hz⟩ : ∃ z, (inosS S l l.length)[q]? = some z := ⟨_, List.getElem?_eq_getElem (by rw [inosS_len, h.x.len]; exact hq.n48)⟩
     exact List.mem_flatMap.2 ⟨z, List.mem_of_getElem? hz, (h.newB hr hf hz).2 (.inl ⟨i, x, h2, hq.at_, h3⟩)⟩
    ·obtain ⟨y, hy, hpy⟩ := List.mem_flatMap.1 hp
     obtain ⟨m, hm⟩ := List.getElem?_of_mem hy
     obtain ⟨z, hz⟩ : ∃ z, (inosS S l l.length)[m]? = some z := ⟨_, List.getElem?_eq_getElem (by rw [inosS_len]; exact (List.getElem?_eq_some_iff.1 hm).1)⟩
     exact List.mem_flatMap.2 ⟨z, List.mem_of_getElem? hz, (h.newB hr hf hz).2 (.inr ⟨y, hm, hpy, hn⟩)⟩
  rw [hnew]
  constructor
  ·rintro (⟨h1 | h1 | h1, h2⟩ | h1)
   ·exact .inl h1
   ·exact .inr (.inl (.inr ⟨h1, h2⟩))
   ·exact .inr (.inr h1)
   ·exact .inr (.inl (.inl h1))
  ·rintro (h1 | (h1 | h1) | h1)
   ·refine .inl ⟨.inl h1, fun hg => ?_⟩
    have := h.rng p (List.mem_append_left _ (hgx hg))
    unfold usedU at h1
    simp at h1
    omega
   ·exact .inr h1
   ·exact .inl ⟨.inr (.inl h1.1), h1.2⟩
   ·exact .inl ⟨.inr (.inr h1), fun hg => (List.nodup_append.1 h.nd).2.2 p (hgx hg) p h1 rfl⟩
theorem SOk.cnd (h : SOk B S gs) (hr : rightB S l = true) (hf : totS l ≤ (freeL S.U S.sup.blocks.toNat).length) : (blksX (inosS S l l.length) ++ gs).Nodup := by
 have hdis := fm_disj blksI S.inos (List.nodup_append.1 h.nd).1
 rw [List.nodup_append]
 refine ⟨nodup_fm blksI _ (fun z hz => blksI_nd ((h.newX hr hf).ok z hz)) ?_, (List.nodup_append.1 h.nd).2.1, ?_⟩
 ·intro i j z1 z2 hij hz1 hz2 p hp hp2
  rcases (h.newB hr hf hz1).1 hp with ⟨a, x, a1, a2, a3⟩ | ⟨y, a1, a2, _⟩
  ·rcases (h.newB hr hf hz2).1 hp2 with ⟨b, x2, b1, b2, b3⟩ | ⟨y2, b1, b2, _⟩
   ·have := mineS_disj a1 b1 a3 b3
    subst this
    rw [a1] at b1
    rw [← Option.some.inj b1] at b2
    omega
   ·exact (h.takSm (mineS_mem a3)).2.2 (List.mem_append_left _ (h.inoM b1 b2))
  ·rcases (h.newB hr hf hz2).1 hp2 with ⟨b, x2, b1, b2, b3⟩ | ⟨y2, b1, b2, _⟩
   ·exact (h.takSm (mineS_mem b3)).2.2 (List.mem_append_left _ (h.inoM a1 a2))
   ·exact hdis i j y y2 hij a1 b1 p a2 b2
 ·intro p hp q hq e
  subst e
  obtain ⟨z, hz, hpz⟩ := List.mem_flatMap.1 hp
  obtain ⟨m, hm⟩ := List.getElem?_of_mem hz
  rcases (h.newB hr hf hm).1 hpz with ⟨i, x, _, _, e⟩ | ⟨y, e1, e2, _⟩
  ·exact (h.takSm (mineS_mem e)).2.2 (List.mem_append_right _ hq)
  ·exact (List.nodup_append.1 h.nd).2.2 p (h.inoM e1 e2) p hq rfl
theorem SOk.commit (h : SOk B S gs) (hr : rightB S l = true) (hf : totS l ≤ (freeL S.U S.sup.blocks.toNat).length) {next : Int} (h1 : S.sup.next ≤ next) (h2 : next ≤ 16777215) (shown : Bool) :
  SOk (cmtB (putAll B (datL S l l.length)) (wrC S l next shown)) (S.committed l next shown) gs := by
 have hlen : (putAll B (datL S l l.length)).length = B.length := putAll_len _ _
 have hgr := h.cgr hr hf next shown
 rw [← hlen] at hgr
 have hn1 := h.n1
 have hdat : ∀ {j : Nat}, (∀ p ∈ takS S l, p ≠ j) → (putAll B (datL S l l.length))[j]? = B[j]? := fun {j} hj => putAll_other _ (fun w hw => by
  obtain ⟨p, e1, e2, _⟩ := datL_mem h hr hf l.length (Nat.le_refl _) hw
  rw [e2, Int.toNat_natCast]
  exact hj p e1) B
 have hlow : ∀ {j : Nat}, j < 74 → (putAll B (datL S l l.length))[j]? = B[j]? := fun {j} hj => hdat (fun p hp => by have := (h.takSm hp).1; omega)
 exact
  {n1 := by rw [cmtB_len, hlen]; exact h.n1
   n2 := by rw [cmtB_len, hlen]; exact h.n2
   x := h.newX hr hf
   sup := h.csup h1 h2 shown
   blocks := by rw [cmtB_len, hlen]; exact h.blocks
   ne := h.ne
   head := h.head
   tail := h.tail
   recs := h.recs
   low := h.low
   high := h.high
   last := h.last
   rok := h.rok
   gr := h.gr
   rng := fun p hp => by
    rw [cmtB_len, hlen]
    rcases List.mem_append.1 hp with hp | hp
    ·obtain ⟨z, hz, hpz⟩ := List.mem_flatMap.1 hp
     obtain ⟨m, hm⟩ := List.getElem?_of_mem hz
     rcases (h.newB hr hf hm).1 hpz with ⟨i, x, _, _, e⟩ | ⟨y, e1, e2, _⟩
     ·have := h.takSm (mineS_mem e)
      exact ⟨this.1, this.2.1⟩
     ·exact h.rng p (List.mem_append_left _ (h.inoM e1 e2))
    ·exact h.rng p (List.mem_append_right _ hp)
   nd := h.cnd hr hf
   u := by
    rw [cmtB_len, hlen]
    exact h.cmap hr hf
   b0 := cmt_at hgr (j := 0) (by unfold wrC; exact List.mem_append_right _ (List.mem_singleton.2 rfl))
   b1 := by
    show _ = some (mapB (mapC S l))
    by_cases hl0 : l = []
    ·rw [cmt_other hgr (by omega) (fun w hw => by
      rcases wrC_mem hw with ⟨i, x, e, _⟩ | ⟨e, _⟩ | rfl
      ·rw [hl0] at e; simp at e
      ·exact absurd hl0 e
      ·exact (by decide : (0 : Int).toNat ≠ 1)), hlow (by omega), h.b1]
     unfold mapC
     rw [if_pos hl0]
    ·exact cmt_at hgr (j := 1) (by unfold wrC; rw [if_neg hl0]; exact List.mem_append_left _ (List.mem_append_right _ (List.mem_singleton.2 rfl)))
   b2 := cmtB_2 (by rw [hlen]; omega)
   bi := fun m z hz => by
    have hm48 : m < 48 := by
     have h3 : m < (inosS S l l.length).length := (List.getElem?_eq_some_iff.1 hz).1
     rw [(h.newX hr hf).len] at h3
     exact h3
    rcases inosS_at h hr hf l.length (Nat.le_refl _) m with ⟨i, x, e1, e2, e3, e4⟩ | ⟨e1, e2⟩
    ·have e5 : some z = some (newI S l i x) := hz.symm.trans e4
     rw [Option.some.inj e5]
     refine cmt_at hgr (j := 26 + m) ?_
     unfold wrC
     refine List.mem_append_left _ (List.mem_append_left _ ((wrI_mem l.length (Nat.le_refl _)).2 ⟨i, x, e1, e2, ?_⟩))
     rw [e3]
     congr 1
    ·rw [cmt_other hgr (by omega) (fun w hw => by
      rcases wrC_mem hw with ⟨i, x, e3, rfl⟩ | ⟨_, rfl⟩ | rfl
      ·obtain ⟨q, y, hq⟩ := h.setIn hr hf e3
       have := hq.at_
       have := e1 i x (List.getElem?_eq_some_iff.1 e3).1 e3
       dsimp only
       omega
      ·have : (1 : Int).toNat = 1 := rfl
       dsimp only
       omega
      ·have : (0 : Int).toNat = 0 := rfl
       dsimp only
       omega), hlow (by omega)]
     exact h.bi m z (e2.symm.trans hz)
   bg := fun i g hg => by
    have hrg := h.rng g (List.mem_append_right _ (List.mem_of_getElem? hg))
    show _ = some (encB (chunk S.recs i) (nextG gs i))
    rw [cmt_other hgr (by omega) (fun w hw => by
     rcases wrC_mem hw with ⟨i, x, e3, rfl⟩ | ⟨_, rfl⟩ | rfl
     ·obtain ⟨q, y, hq⟩ := h.setIn hr hf e3
      have := hq.at_
      have := hq.n48
      dsimp only
      omega
     ·have : (1 : Int).toNat = 1 := rfl
      dsimp only
      omega
     ·have : (0 : Int).toNat = 0 := rfl
      dsimp only
      omega), hdat (fun p hp e => (h.takSm hp).2.2 (List.mem_append_right _ (e ▸ List.mem_of_getElem? hg)))]
    exact h.bg i g hg }
end
end Go.Proofs.YtchohheleofncaaGreat
namespace Go.Proofs.YtchohheleofncaaGreat
open Go.RowKit Go.Sep
section
variable {B : List (List UInt8)} {S : StD} {gs : List Nat} {l : List SetD}
theorem goneS_sub {i : Nat} {x : SetD} {n : Nat} {y : InoD} (h : SetIn S l i x n y) : (goneS S l i x).Nodup ∧ (goneS S l i x).length ≤ 32 := by
 have hp : y.ptrs.Pairwise fun a b => a = b → a = 0 := by
  rw [List.pairwise_iff_getElem]
  intro i j hi hj hij e
  exact h.oky.nd' i j y.ptrs[i] hij (List.getElem?_eq_getElem hi) (by rw [List.getElem?_eq_getElem hj, e])
 unfold goneS goneP
 rw [h.inoS, List.take_of_length_le (by rw [h.oky.pl]; exact Nat.le_refl _)]
 refine ⟨?_, ?_⟩
 ·rw [List.nodup_iff_pairwise_ne, List.pairwise_map]
  refine (hp.filter _).imp_of_mem ?_
  intro a b ha hb hab e
  rw [List.mem_filter, Bool.and_eq_true, decide_eq_true_eq] at ha hb
  obtain ⟨k, hk⟩ := List.getElem?_of_mem ha.1
  obtain ⟨m, hm⟩ := List.getElem?_of_mem hb.1
  have h1 := (h.oky.pt k a hk ha.2.1).2.1
  have h2 := (h.oky.pt m b hm hb.2.1).2.1
  exact ha.2.1 (hab (by omega))
 ·rw [List.length_map]
  exact Nat.le_trans (List.length_filter_le _ _) (by rw [h.oky.pl]; exact Nat.le_refl _)
theorem goneL_nd (h : SOk B S gs) (hr : rightB S l = true) (hf : totS l ≤ (freeL S.U S.sup.blocks.toNat).length) : ∀ n : Nat, n ≤ l.length → (goneL S l n).Nodup ∧ (goneL S l n).length ≤ 32 * n
 | 0, _ => ⟨List.nodup_nil, Nat.le_refl _⟩
 | n + 1, hn => by
  obtain ⟨x, hx⟩ : ∃ x, l[n]? = some x := ⟨_, List.getElem?_eq_getElem (by omega)⟩
  obtain ⟨q, y, hq⟩ := h.setIn hr hf hx
  obtain ⟨h1, h2⟩ := goneL_nd h hr hf n (by omega)
  obtain ⟨h3, h4⟩ := goneS_sub hq
  rw [goneL_succ hx, List.length_append]
  refine ⟨?_, by omega⟩
  rw [List.nodup_append]
  refine ⟨h1, h3, fun p hp p2 hp2 e => ?_⟩
  subst e
  obtain ⟨i, z, e1, e2, e3⟩ := (goneL_mem n (by omega)).1 hp
  obtain ⟨q2, y2, hq2⟩ := h.setIn hr hf e2
  have hdis := fm_disj blksI S.inos (List.nodup_append.1 h.nd).1
  have hm1 := (hq2.gone.1 e3).1
  have hm2 := (hq.gone.1 hp2).1
  rcases Nat.lt_trichotomy q2 q with hl | hl | hl
  ·exact hdis q2 q y2 y hl hq2.ino hq.ino p hm1 hm2
  ·subst hl
   have := right_inj hr e2 hx (hq2.at_.trans hq.at_.symm)
   omega
  ·exact hdis q q2 y y2 hl hq.ino hq2.ino p hm2 hm1
theorem SOk.goneOk (h : SOk B S gs) (hr : rightB S l = true) (hf : totS l ≤ (freeL S.U S.sup.blocks.toNat).length) : GoneOk S.U B.length (goneL S l l.length) where
 rng p hp := by
  obtain ⟨i, x, _, h2, h3⟩ := (goneL_mem l.length (Nat.le_refl _)).1 hp
  obtain ⟨q, y, hq⟩ := h.setIn hr hf h2
  have hm := h.inoM hq.ino (hq.gone.1 h3).1
  have hrg := h.rng p (List.mem_append_left _ hm)
  refine ⟨hrg.1, hrg.2, ?_⟩
  rw [h.u]
  unfold usedBy
  rw [Bool.or_eq_true, List.contains_eq_mem, decide_eq_true_eq]
  exact .inr (List.mem_append_left _ hm)
 nd := (goneL_nd h hr hf l.length (Nat.le_refl _)).1
theorem datL_len (h : SOk B S gs) (hr : rightB S l = true) (hf : totS l ≤ (freeL S.U S.sup.blocks.toNat).length) : ∀ n : Nat, n ≤ l.length → (datL S l n).length = offS l n
 | 0, _ => rfl
 | n + 1, hn => by
  obtain ⟨x, hx⟩ : ∃ x, l[n]? = some x := ⟨_, List.getElem?_eq_getElem (by omega)⟩
  obtain ⟨q, y, hq⟩ := h.setIn hr hf hx
  rw [datL_succ hx, List.length_append, datL_len h hr hf n (by omega), offS_succ hx, ← hq.dl]
  simp [datW]
theorem commit_live' {D : DiskS} {k : Nat} {next : Int} {shown : Bool} (hok : SOk B S gs) (hl : Lv D B k) (hr : rightB S l = true) (hf : totS l ≤ (freeL S.U S.sup.blocks.toNat).length) (h1 : S.sup.next ≤ next) (h2 : next ≤ 16777215) (hne : ¬ (l = [] ∧ supC S next shown = S.sup)) :
  ∃ D', commitS S D l next shown = (0, S.committed l next shown, D') ∧ Lv D' (cmtB (putAll B (datL S l l.length)) (wrC S l next shown)) (k + totS l + 42) := by
 obtain ⟨D1, e1, hl1⟩ := run_live (datL S l l.length) hl (fun w hw => by
  obtain ⟨p, a1, a2, a3⟩ := datL_mem hok hr hf l.length (Nat.le_refl _) hw
  have := hok.takSm a1
  exact ⟨by omega, by omega, a3⟩)
 rw [datL_len hok hr hf l.length (Nat.le_refl _), offS_all] at hl1
 have hgr := hok.cgr hr hf next shown
 rw [← putAll_len (datL S l l.length) B] at hgr
 obtain ⟨D2, e2, hl2⟩ := commit_live hl1 (by rw [putAll_len]; have := hok.n1; omega) hgr
 refine ⟨D2, ?_, hl2⟩
 unfold commitS
 rw [if_neg (by unfold cmtBad; rw [hr, decide_eq_false (by omega), decide_eq_false (by omega)]; decide), if_neg (by omega), if_neg hne, e1, if_neg (by simp)]
 dsimp only
 rw [e2]
 rfl
theorem datL_places (h : SOk B S gs) (hr : rightB S l = true) (hf : totS l ≤ (freeL S.U S.sup.blocks.toNat).length) : ∀ n : Nat, n ≤ l.length → (datL S l n).map (·.1) = ((takS S l).take (offS l n)).map fun p : Nat => (p : Int)
 | 0, _ => by rw [offS_zero]; rfl
 | n + 1, hn => by
  obtain ⟨x, hx⟩ : ∃ x, l[n]? = some x := ⟨_, List.getElem?_eq_getElem (by omega)⟩
  obtain ⟨q, y, hq⟩ := h.setIn hr hf hx
  rw [datL_succ hx, List.map_append, datL_places h hr hf n (by omega), offS_succ hx, List.take_add, List.map_append]
  congr 1
  show (datW S l n x x.data.length).map (·.1) = (mineS S l n x).map _
  rw [hq.dl, ← mineS_len hf hx]
  apply List.ext_getElem?
  intro k
  unfold datW
  rw [List.map_map, List.getElem?_map, List.getElem?_map]
  rcases Nat.lt_or_ge k (mineS S l n x).length with hk | hk
  ·rw [List.getElem?_range hk, List.getElem?_eq_getElem hk]
   simp [List.getElem?_eq_getElem hk]
  ·rw [List.getElem?_eq_none (by rw [List.length_range]; exact hk), List.getElem?_eq_none hk]
   rfl
theorem SOk.data (h : SOk B S gs) (hr : rightB S l = true) (hf : totS l ≤ (freeL S.U S.sup.blocks.toNat).length) {next : Int} {shown : Bool} {i : Nat} {x : SetD} (hx : l[i]? = some x) {k p : Nat} (hp : (mineS S l i x)[k]? = some p) {d : List UInt8} (hd : x.data[k]? = some d) :
  (cmtB (putAll B (datL S l l.length)) (wrC S l next shown))[p]? = some d := by
 have hgr := h.cgr hr hf next shown
 rw [← putAll_len (datL S l l.length) B] at hgr
 have hpt := h.takSm (mineS_mem (List.mem_of_getElem? hp))
 rw [cmt_other hgr (by omega) (fun w hw => by
  rcases wrC_mem hw with ⟨i2, x2, e3, rfl⟩ | ⟨_, rfl⟩ | rfl
  ·obtain ⟨q, y, hq⟩ := h.setIn hr hf e3
   have := hq.at_
   have := hq.n48
   dsimp only
   omega
  ·have : (1 : Int).toNat = 1 := rfl
   dsimp only
   omega
  ·have : (0 : Int).toNat = 0 := rfl
   dsimp only
   omega)]
 refine putAll_at _ ?_ (fun w hw => by
  obtain ⟨p2, _, e, _⟩ := datL_mem h hr hf l.length (Nat.le_refl _) hw
  omega) ?_ hpt.2.1
 ·rw [datL_places h hr hf l.length (Nat.le_refl _)]
  rw [List.nodup_iff_pairwise_ne, List.pairwise_map]
  refine List.Pairwise.imp ?_ (List.nodup_iff_pairwise_ne.1 ((List.take_sublist _ _).nodup takS_nd))
  intro a b hab e
  exact hab (by omega)
 ·have hmem : ∀ n : Nat, i < n → n ≤ l.length → ((p : Int), d) ∈ datL S l n := by
   intro n
   induction n with
   | zero => intro h; exact absurd h (Nat.not_lt_zero _)
   | succ n ih =>
    intro hin hn
    obtain ⟨z, hz⟩ : ∃ z, l[n]? = some z := ⟨_, List.getElem?_eq_getElem (by omega)⟩
    rw [datL_succ hz]
    by_cases e : i = n
    ·subst e
     rw [hx] at hz
     rw [← Option.some.inj hz]
     refine List.mem_append_right _ (List.mem_map.2 ⟨k, List.mem_range.2 (List.getElem?_eq_some_iff.1 hd).1, ?_⟩)
     rw [hp, hd]
     rfl
    ·exact List.mem_append_left _ (ih (by omega) (by omega))
  exact hmem l.length (List.getElem?_eq_some_iff.1 hx).1 (Nat.le_refl _)
theorem SOk.stays (h : SOk B S gs) (hr : rightB S l = true) (hf : totS l ≤ (freeL S.U S.sup.blocks.toNat).length) {next : Int} {shown : Bool} {p : Nat} (hp : 74 ≤ p) (hn : p ∉ takS S l) :
  (cmtB (putAll B (datL S l l.length)) (wrC S l next shown))[p]? = B[p]? := by
 have hgr := h.cgr hr hf next shown
 rw [← putAll_len (datL S l l.length) B] at hgr
 rw [cmt_other hgr (by omega) (fun w hw => by
  rcases wrC_mem hw with ⟨i2, x2, e3, rfl⟩ | ⟨_, rfl⟩ | rfl
  ·obtain ⟨q, y, hq⟩ := h.setIn hr hf e3
   have := hq.at_
   have := hq.n48
   dsimp only
   omega
  ·have : (1 : Int).toNat = 1 := rfl
   dsimp only
   omega
  ·have : (0 : Int).toNat = 0 := rfl
   dsimp only
   omega)]
 exact putAll_other _ (fun w hw => by
  obtain ⟨p2, e1, e, _⟩ := datL_mem h hr hf l.length (Nat.le_refl _) hw
  rw [e, Int.toNat_natCast]
  intro e2
  exact hn (e2 ▸ e1)) B
end
end Go.Proofs.YtchohheleofncaaGreat
namespace Go.Proofs.YtchohheleofncaaGreat
open Go.RowKit Go.Sep
section
variable {S : StD} {l : List SetD}
theorem datL_pre {i : Nat} : ∀ d : Nat, ∃ r, datL S l (i + d) = datL S l i ++ r
 | 0 => ⟨[], (List.append_nil _).symm⟩
 | d + 1 => by
  obtain ⟨r, hr⟩ := datL_pre (i := i) d
  rw [← Nat.add_assoc, datL]
  split
  ·exact ⟨r, hr⟩
  ·exact ⟨_, by rw [hr, List.append_assoc]⟩
theorem datW_pre (S : StD) (l : List SetD) (i : Nat) (x : SetD) {k : Nat} : ∀ d : Nat, ∃ r, datW S l i x (k + d) = datW S l i x k ++ r
 | 0 => ⟨[], (List.append_nil _).symm⟩
 | d + 1 => by
  obtain ⟨r, hr⟩ := datW_pre S l i x (k := k) d
  rw [← Nat.add_assoc, datW_succ, hr, List.append_assoc]
  exact ⟨_, rfl⟩
theorem runW_pre {D : DiskS} {a r : G2} (h : (runW D a).1 ≠ 0) : runW D (a ++ r) = runW D a := by rw [runW_append, if_neg h]
theorem datW_len (S : StD) (l : List SetD) (i : Nat) (x : SetD) (k : Nat) : (datW S l i x k).length = k := by simp [datW]
theorem datW_run {D1 D2 : DiskS} {i k p : Nat} {x : SetD} {d : List UInt8} (hp : (mineS S l i x)[k]? = some p) (hd : x.data[k]? = some d) (h : runW D1 (datW S l i x k) = (0, D2)) :
  runW D1 (datW S l i x (k + 1)) = (wcode D2 (p : Int) d.length, wnext D2 (p : Int) d) := by
 rw [datW_succ, hp, hd, runW_append, h, if_pos rfl]
 exact runW_one D2 _
theorem dat_stop {D D1 D3 : DiskS} {i k : Nat} {x : SetD} {c : Int} (hx : l[i]? = some x) (hk : k < x.data.length) (h1 : runW D (datL S l i) = (0, D1)) (h3 : runW D1 (datW S l i x (k + 1)) = (c, D3)) (hc : c ≠ 0) :
  runW D (datL S l l.length) = (c, D3) := by
 have hil := (List.getElem?_eq_some_iff.1 hx).1
 obtain ⟨r1, e1⟩ := datL_pre (S := S) (l := l) (i := i + 1) (l.length - (i + 1))
 obtain ⟨r2, e2⟩ := datW_pre S l i x (k := k + 1) (x.data.length - (k + 1))
 rw [show i + 1 + (l.length - (i + 1)) = l.length by omega, datL_succ hx] at e1
 rw [show k + 1 + (x.data.length - (k + 1)) = x.data.length by omega] at e2
 rw [e1, e2, List.append_assoc, List.append_assoc, runW_append, h1, if_pos rfl]
 show runW D1 _ = _
 rw [runW_pre (by rw [h3]; exact hc), h3]
theorem dat_step {D D1 D2 : DiskS} {i : Nat} {x : SetD} (hx : l[i]? = some x) (h1 : runW D (datL S l i) = (0, D1)) (h2 : runW D1 (datW S l i x x.data.length) = (0, D2)) : runW D (datL S l (i + 1)) = (0, D2) := by
 rw [datL_succ hx, runW_append, h1, if_pos rfl]
 exact h2
theorem commitS_stop {D D3 : DiskS} {next : Int} {shown : Bool} {c : Int} (hb : cmtBad S l next = false) (hf : totS l ≤ (freeL S.U S.sup.blocks.toNat).length) (hne : ¬ (l = [] ∧ supC S next shown = S.sup))
  (h : runW D (datL S l l.length) = (c, D3)) (hc : c ≠ 0) : commitS S D l next shown = (c, S, D3) := by
 unfold commitS
 rw [if_neg (by rw [hb]; decide), if_neg (by omega), if_neg hne, h, if_pos hc]
theorem commitS_done {D D1 D2 : DiskS} {next : Int} {shown : Bool} {c : Int} (hb : cmtBad S l next = false) (hf : totS l ≤ (freeL S.U S.sup.blocks.toNat).length) (hne : ¬ (l = [] ∧ supC S next shown = S.sup))
  (h : runW D (datL S l l.length) = (0, D1)) (h2 : commitR D1 (wrC S l next shown) = (c, D2)) : commitS S D l next shown = (c, if c = 0 then S.committed l next shown else S, D2) := by
 unfold commitS
 rw [if_neg (by rw [hb]; decide), if_neg (by omega), if_neg hne, h, if_neg (by simp)]
 dsimp only
 rw [h2]
end
theorem inosS_ok {B : List (List UInt8)} {S : StD} {gs : List Nat} {l : List SetD} (h : SOk B S gs) (hr : rightB S l = true) (hf : totS l ≤ (freeL S.U S.sup.blocks.toNat).length) (n : Nat) (hn : n ≤ l.length) : XOk (inosS S l n) where
 len := by rw [inosS_len]; exact h.x.len
 ok z hz := by
  obtain ⟨m, hm⟩ := List.getElem?_of_mem hz
  rcases inosS_at h hr hf n hn m with ⟨i, x, _, h2, _, h4⟩ | ⟨_, h2⟩
  ·rw [hm] at h4
   obtain ⟨q, y, hq⟩ := h.setIn hr hf h2
   rw [Option.some.inj h4]
   exact hq.ok
  ·rw [hm] at h2
   exact h.x.ok z (List.mem_of_getElem? h2.symm)
theorem fm_inv_set {X : List InoD} (h : XOk X) {n : Nat} (hn : n < 48) (y : InoD) (hy : y.ptrs.length = 32) : (X.flatMap inv).take (n * 37) ++ inv y ++ (X.flatMap inv).drop (n * 37 + 37) = (X.set n y).flatMap inv := by
 have := fm_set (f := inv) y h.fl (i := n) (by rw [h.len]; exact hn)
 rw [this]
end Go.Proofs.YtchohheleofncaaGreat
