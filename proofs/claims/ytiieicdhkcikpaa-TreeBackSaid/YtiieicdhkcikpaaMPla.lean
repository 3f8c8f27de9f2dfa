/-
  Trees: names in order, entries, directories (plain).
  Trees: what the calls do (plain).
  Trees: paths, counts, Rename (plain).
  What is sorted and made compact is what was touched (plain).
-/
import Derived.Test.YtiieicdhkcikpaaMReg
import Derived.Lib.SlicesCompact
namespace Go.Proofs.Ytiieicdhkcikpaa
open Go.Sep
set_option linter.unusedSimpArgs false
set_option linter.unusedVariables false
/-! ### the order of names -/
abbrev less := Go.Op.bytesLess
theorem less_nil_right (x : List UInt8) : less x [] = false := by cases x <;> rfl
theorem less_nil_cons (b : UInt8) (y : List UInt8) : less [] (b :: y) = true := rfl
theorem less_cons (a b : UInt8) (x y : List UInt8) : less (a :: x) (b :: y) = (decide (a < b) || (a == b && less x y)) := rfl
theorem less_irrefl : ∀ x : List UInt8, less x x = false
  | [] => rfl
  | a :: x => by
    rw [less_cons, less_irrefl x]
    have : ¬ a < a := UInt8.lt_irrefl a
    simp [this]
theorem less_trans : ∀ {x y z : List UInt8}, less x y = true → less y z = true → less x z = true
  | [], _, [], _, h => by rw [less_nil_right] at h; cases h
  | [], _, c :: z, _, _ => rfl
  | a :: x, [], z, h, _ => by rw [less_nil_right] at h; cases h
  | a :: x, b :: y, [], _, h => by rw [less_nil_right] at h; cases h
  | a :: x, b :: y, c :: z, h, k => by
    rw [less_cons] at h k ⊢
    simp only [Bool.or_eq_true, decide_eq_true_eq, Bool.and_eq_true, beq_iff_eq] at h k ⊢
    rcases h with h | ⟨rfl, h⟩ <;> rcases k with k | ⟨rfl, k⟩
    · exact .inl (UInt8.lt_trans h k)
    · exact .inl h
    · exact .inl k
    · exact .inr ⟨rfl, less_trans h k⟩
theorem u8_cases (a b : UInt8) : a < b ∨ a = b ∨ b < a := by
  by_cases h : a < b
  · exact .inl h
  · by_cases k : b < a
    · exact .inr (.inr k)
    · exact .inr (.inl (UInt8.toNat_inj.1 (by rw [UInt8.lt_iff_toNat_lt] at h k; omega)))
theorem less_total : ∀ x y : List UInt8, less x y = true ∨ x = y ∨ less y x = true
  | [], [] => .inr (.inl rfl)
  | [], b :: y => .inl rfl
  | a :: x, [] => .inr (.inr rfl)
  | a :: x, b :: y => by
    rw [less_cons, less_cons]
    simp only [Bool.or_eq_true, decide_eq_true_eq, Bool.and_eq_true, beq_iff_eq]
    rcases u8_cases a b with h | rfl | h
    · exact .inl (.inl h)
    · rcases less_total x y with h | rfl | h
      · exact .inl (.inr ⟨rfl, h⟩)
      · exact .inr (.inl rfl)
      · exact .inr (.inr (.inr ⟨rfl, h⟩))
    · exact .inr (.inr (.inl h))
theorem less_asymm {x y : List UInt8} (h : less x y = true) : less y x = false := by
  cases k : less y x with
  | false => rfl
  | true => have := less_trans h k; rw [less_irrefl] at this; cases this
theorem less_ne {x y : List UInt8} (h : less x y = true) : x ≠ y := fun e => by subst e; rw [less_irrefl] at h; cases h
/-! ### names, entries -/
def chrOk (x : UInt8) : Bool := (decide (97 ≤ x.toNat) && decide (x.toNat ≤ 122)) || (decide (48 ≤ x.toNat) && decide (x.toNat ≤ 57)) || decide (x = 46) || decide (x = 95) || decide (x = 45)
def nameOk (l : List UInt8) : Bool := decide (1 ≤ l.length) && decide (l.length ≤ 20) && !decide (l = [46]) && !decide (l = [46, 46]) && l.all chrOk
structure EntD where
  nm : List UInt8
  ino : Int
instance : DecidableEq EntD := fun x y => if h : x.nm = y.nm ∧ x.ino = y.ino then isTrue (by cases x; cases y; simp_all) else isFalse (fun e => by subst e; exact h ⟨rfl, rfl⟩)
def sv (l : List UInt8) : Value := .string ⟨l.toArray⟩
def ev2 (e : EntD) : List Value := [sv e.nm, .int .i64 e.ino]
theorem ev2_len (l : List EntD) : ∀ x ∈ l, (ev2 x).length = 2 := fun _ _ => rfl
theorem ev2_all (x : EntD) : ∀ u ∈ ev2 x, u.oneCell' = true := fun u hu => by
  simp only [ev2, List.mem_cons, List.not_mem_nil, or_false] at hu
  rcases hu with rfl | rfl <;> rfl
theorem ev2_one (l : List EntD) : ∀ u ∈ l.flatMap ev2, u.oneCell' = true := fun u hu => by
  obtain ⟨x, _, hu⟩ := List.mem_flatMap.1 hu
  exact ev2_all x u hu
def entOk (e : EntD) : Bool := nameOk e.nm && decide (1 ≤ e.ino) && decide (e.ino < 48)
def SrtE (l : List EntD) : Prop := l.Pairwise fun a b => less a.nm b.nm = true
def findE (l : List EntD) (n : List UInt8) : Option Int := (l.find? fun e => decide (e.nm = n)).map EntD.ino
def hasE (l : List EntD) (n : List UInt8) : Bool := l.any fun e => decide (e.nm = n)
def atE (l : List EntD) (n : List UInt8) : Nat := (l.takeWhile fun e => less e.nm n).length
def insE (l : List EntD) (e : EntD) : List EntD := l.take (atE l e.nm) ++ e :: l.drop (atE l e.nm)
def remE (l : List EntD) (n : List UInt8) : List EntD := l.filter fun e => !decide (e.nm = n)
def addC (l : List EntD) (e : EntD) : Int := if entOk e = true then (if hasE l e.nm = true then 6 else if 64 ≤ l.length then 5 else 0) else 1
theorem atE_le (l : List EntD) (n : List UInt8) : atE l n ≤ l.length := (List.takeWhile_sublist _).length_le
theorem findE_some {l : List EntD} {n : List UInt8} : (findE l n).isSome = hasE l n := by
  unfold findE hasE
  rw [Option.isSome_map, Bool.eq_iff_iff, List.find?_isSome, List.any_eq_true]
theorem takeWhile_at {l : List EntD} {p : EntD → Bool} {e : EntD} (hx : l[(l.takeWhile p).length]? = some e) : p e = false := by
  induction l with
  | nil => cases hx
  | cons x l ih =>
    by_cases h : p x = true
    · rw [List.takeWhile_cons_of_pos h, List.length_cons, List.getElem?_cons_succ] at hx
      exact ih hx
    · rw [List.takeWhile_cons_of_neg h, List.length_nil] at hx
      cases hx
      simpa using h
theorem takeWhile_mem {l : List EntD} {p : EntD → Bool} {e : EntD} (hx : e ∈ l.takeWhile p) : p e = true := by
  induction l with
  | nil => cases hx
  | cons x l ih =>
    by_cases h : p x = true
    · rw [List.takeWhile_cons_of_pos h] at hx
      rcases List.mem_cons.1 hx with rfl | hx
      · exact h
      · exact ih hx
    · rw [List.takeWhile_cons_of_neg h] at hx; cases hx
/-- Ahead of the place are the lesser ones, behind it none. -/
theorem atE_lt {l : List EntD} {n : List UInt8} {i : Nat} {e : EntD} (hx : l[i]? = some e) (hi : i < atE l n) : less e.nm n = true := by
  have : (l.takeWhile fun e => less e.nm n)[i]? = some e := by
    obtain ⟨t, ht⟩ := List.takeWhile_prefix (p := fun e : EntD => less e.nm n) (l := l)
    have h2 : l[i]? = (l.takeWhile fun e => less e.nm n)[i]? := by
      conv => lhs; rw [← ht]
      rw [List.getElem?_append_left hi]
    rw [← h2, hx]
  have hm := List.mem_of_getElem? this
  exact takeWhile_mem (p := fun e : EntD => less e.nm n) hm
theorem atE_at {l : List EntD} {n : List UInt8} {e : EntD} (hx : l[atE l n]? = some e) : less e.nm n = false := by
  exact takeWhile_at (p := fun e : EntD => less e.nm n) hx
theorem SrtE.lt {l : List EntD} (h : SrtE l) {i j : Nat} {a b : EntD} (ha : l[i]? = some a) (hb : l[j]? = some b) (hij : i < j) : less a.nm b.nm = true := by
  obtain ⟨hi, rfl⟩ := List.getElem?_eq_some_iff.1 ha
  obtain ⟨hj, rfl⟩ := List.getElem?_eq_some_iff.1 hb
  exact List.pairwise_iff_getElem.1 h i j hi hj hij
theorem SrtE.ge {l : List EntD} (h : SrtE l) {n : List UInt8} {i : Nat} {e : EntD} (hx : l[i]? = some e) (hi : atE l n ≤ i) : less e.nm n = false := by
  obtain ⟨hil, _⟩ := List.getElem?_eq_some_iff.1 hx
  obtain ⟨a, ha⟩ : ∃ a, l[atE l n]? = some a := ⟨_, List.getElem?_eq_getElem (by omega)⟩
  have h1 := atE_at ha
  rcases Nat.lt_or_ge (atE l n) i with hlt | hge
  · have h2 := h.lt ha hx hlt
    cases k : less e.nm n with
    | false => rfl
    | true => rw [less_trans h2 k] at h1; cases h1
  · obtain rfl : i = atE l n := by omega
    rw [ha] at hx; cases hx; exact h1
/-- The place is the one where the name stands, if it stands. -/
theorem SrtE.has {l : List EntD} (h : SrtE l) {n : List UInt8} {i : Nat} {e : EntD} (hx : l[i]? = some e) (hn : e.nm = n) : i = atE l n := by
  subst hn
  rcases Nat.lt_trichotomy i (atE l e.nm) with hlt | rfl | hgt
  · have := atE_lt hx hlt
    rw [less_irrefl] at this; cases this
  · rfl
  · obtain ⟨hil, _⟩ := List.getElem?_eq_some_iff.1 hx
    obtain ⟨a, ha⟩ : ∃ a, l[atE l e.nm]? = some a := ⟨_, List.getElem?_eq_getElem (by omega)⟩
    have h1 := atE_at ha
    rw [h.lt ha hx hgt] at h1; cases h1
theorem SrtE.has_iff {l : List EntD} (h : SrtE l) (n : List UInt8) : hasE l n = true ↔ ∃ e, l[atE l n]? = some e ∧ e.nm = n := by
  unfold hasE
  rw [List.any_eq_true]
  constructor
  · rintro ⟨e, he, hn⟩
    obtain ⟨i, hi⟩ := List.getElem?_of_mem he
    have hn := of_decide_eq_true hn
    have := h.has hi hn
    subst this
    exact ⟨e, hi, hn⟩
  · rintro ⟨e, he, hn⟩
    exact ⟨e, List.mem_of_getElem? he, decide_eq_true hn⟩
theorem SrtE.ins {l : List EntD} (h : SrtE l) {e : EntD} (hno : hasE l e.nm = false) : SrtE (insE l e) := by
  unfold insE SrtE
  rw [List.pairwise_append, List.pairwise_cons]
  refine ⟨h.take, ⟨fun b hb => ?_, h.drop⟩, fun a ha b hb => ?_⟩
  · obtain ⟨i, hi⟩ := List.getElem?_of_mem hb
    rw [List.getElem?_drop] at hi
    have h1 := h.ge hi (Nat.le_add_right _ _)
    rcases less_total e.nm b.nm with h2 | h2 | h2
    · exact h2
    · have : hasE l e.nm = true := List.any_eq_true.2 ⟨b, List.mem_of_mem_drop hb, decide_eq_true h2.symm⟩
      rw [this] at hno; cases hno
    · rw [h2] at h1; cases h1
  · obtain ⟨i, hi⟩ := List.getElem?_of_mem ha
    have hil : i < atE l e.nm := by
      have := (List.getElem?_eq_some_iff.1 hi).1
      rw [List.length_take] at this; omega
    rw [List.getElem?_take_of_lt hil] at hi
    have h1 := atE_lt hi hil
    rcases List.mem_cons.1 hb with rfl | hb
    · exact h1
    · obtain ⟨j, hj⟩ := List.getElem?_of_mem hb
      rw [List.getElem?_drop] at hj
      exact h.lt hi hj (by omega)
theorem SrtE.rem {l : List EntD} (h : SrtE l) (n : List UInt8) : SrtE (remE l n) := List.Pairwise.filter _ h
theorem SrtE.nil : SrtE [] := List.Pairwise.nil
/-- The one that goes. -/
theorem SrtE.cut {l : List EntD} (h : SrtE l) {i : Nat} {e : EntD} (hx : l[i]? = some e) : l.take i ++ l.drop (i + 1) = remE l e.nm := by
  obtain ⟨hi, he⟩ := List.getElem?_eq_some_iff.1 hx
  have e1 : l = l.take i ++ e :: l.drop (i + 1) := by rw [← he, ← List.drop_eq_getElem_cons hi, List.take_append_drop]
  unfold remE
  conv => rhs; rw [e1]
  rw [List.filter_append, List.filter_cons, if_neg (by simp)]
  have f1 : (l.take i).filter (fun x => !decide (x.nm = e.nm)) = l.take i := by
    refine List.filter_eq_self.2 fun a ha => ?_
    obtain ⟨j, hj⟩ := List.getElem?_of_mem ha
    have hjl := (List.getElem?_eq_some_iff.1 hj).1
    rw [List.length_take] at hjl
    rw [List.getElem?_take_of_lt (by omega)] at hj
    have := less_ne (h.lt hj hx (by omega))
    simp [this]
  have f2 : (l.drop (i + 1)).filter (fun x => !decide (x.nm = e.nm)) = l.drop (i + 1) := by
    refine List.filter_eq_self.2 fun a ha => ?_
    obtain ⟨j, hj⟩ := List.getElem?_of_mem ha
    rw [List.getElem?_drop] at hj
    have := less_ne (h.lt hx hj (by omega))
    have h3 : ¬ a.nm = e.nm := fun e2 => this e2.symm
    simp [h3]
  rw [f1, f2]
theorem remE_no {l : List EntD} {n : List UInt8} (h : hasE l n = false) : remE l n = l := by
  unfold remE
  refine List.filter_eq_self.2 fun a ha => ?_
  have := List.any_eq_false.1 h a ha
  simpa using this
theorem remE_comm (l : List EntD) (n m : List UInt8) : remE (remE l n) m = remE (remE l m) n := by
  unfold remE
  rw [List.filter_filter, List.filter_filter]
  exact List.filter_congr fun e _ => Bool.and_comm _ _
/-- How many entries lead to an inode. -/
def cnt1 (l : List EntD) (i : Nat) : Nat := (l.filter fun e => decide (e.ino = (i : Int))).length
theorem cnt1_ins (l : List EntD) (e : EntD) (i : Nat) : cnt1 (insE l e) i = cnt1 l i + if e.ino = (i : Int) then 1 else 0 := by
  unfold insE cnt1
  have h : (l.filter fun e => decide (e.ino = (i : Int))).length = ((l.take (atE l e.nm)).filter fun e => decide (e.ino = (i : Int))).length + ((l.drop (atE l e.nm)).filter fun e => decide (e.ino = (i : Int))).length := by
    rw [← List.length_append, ← List.filter_append, List.take_append_drop]
  rw [h, List.filter_append, List.length_append, List.filter_cons]
  split <;> rename_i h2
  · rw [if_pos (of_decide_eq_true h2), List.length_cons]; omega
  · rw [if_neg (fun e2 => h2 (decide_eq_true e2))]; omega
theorem SrtE.cnt1_rem {l : List EntD} (h : SrtE l) {k : Nat} {e : EntD} (hx : l[k]? = some e) (i : Nat) : cnt1 (remE l e.nm) i + (if e.ino = (i : Int) then 1 else 0) = cnt1 l i := by
  rw [← h.cut hx]
  obtain ⟨hi, he⟩ := List.getElem?_eq_some_iff.1 hx
  have e1 : l = l.take k ++ e :: l.drop (k + 1) := by rw [← he, ← List.drop_eq_getElem_cons hi, List.take_append_drop]
  unfold cnt1
  conv => rhs; rw [e1]
  rw [List.filter_append, List.filter_append, List.length_append, List.length_append, List.filter_cons]
  split <;> rename_i h2
  · rw [if_pos (of_decide_eq_true (by simpa using h2)), List.length_cons]; omega
  · rw [if_neg (fun e2 => h2 (by simpa using e2))]; omega
end Go.Proofs.Ytiieicdhkcikpaa
namespace Go.Proofs.Ytiieicdhkcikpaa
open Go.Sep
set_option linter.unusedSimpArgs false
set_option linter.unusedVariables false
/-- A tree: of each inode its kind, its entries; which were turned last. -/
structure TrD where
  kinds : List Int
  dirs : List (List EntD)
  last : List Nat
namespace TrD
def kind (T : TrD) (i : Nat) : Int := T.kinds[i]?.getD 0
def dir (T : TrD) (i : Nat) : List EntD := T.dirs[i]?.getD []
def cnt (ds : List (List EntD)) (i : Nat) : Nat := (ds.flatten.filter fun e => decide (e.ino = (i : Int))).length
def links (T : TrD) (i : Nat) : Nat := if i = 0 then 1 else cnt T.dirs i
def new : TrD := ⟨(List.replicate 48 0).set 0 2, List.replicate 48 [], []⟩
structure Ok (T : TrD) : Prop where
  kl : T.kinds.length = 48
  dl : T.dirs.length = 48
  srt : ∀ d ∈ T.dirs, SrtE d
  ent : ∀ d ∈ T.dirs, ∀ e ∈ d, entOk e = true
  len : ∀ d ∈ T.dirs, d.length ≤ 64
  k0 : T.kind 0 = 2
  kk : ∀ k ∈ T.kinds, k = 0 ∨ k = 1 ∨ k = 2
  lst : T.last.length ≤ 48
theorem new_ok : new.Ok where
  kl := rfl
  dl := rfl
  srt := fun d hd => by
    obtain rfl := List.eq_of_mem_replicate hd
    exact List.Pairwise.nil
  ent := fun d hd e he => by
    obtain rfl := List.eq_of_mem_replicate hd
    cases he
  len := fun d hd => by
    obtain rfl := List.eq_of_mem_replicate hd
    exact Nat.zero_le _
  k0 := rfl
  kk := fun k hk => by
    rcases List.mem_or_eq_of_mem_set hk with hk | rfl
    · exact .inl (List.eq_of_mem_replicate hk)
    · exact .inr (.inr rfl)
  lst := Nat.zero_le _
theorem Ok.dir_mem {T : TrD} (h : T.Ok) {i : Nat} (hi : i < 48) : T.dir i ∈ T.dirs := by
  unfold dir
  rw [List.getElem?_eq_getElem (by rw [h.dl]; exact hi)]
  exact List.getElem_mem _
theorem Ok.dir_at {T : TrD} (h : T.Ok) {i : Nat} (hi : i < 48) : T.dirs[i]? = some (T.dir i) := by
  unfold dir
  rw [List.getElem?_eq_getElem (by rw [h.dl]; exact hi)]; rfl
theorem Ok.kind_at {T : TrD} (h : T.Ok) {i : Nat} (hi : i < 48) : T.kinds[i]? = some (T.kind i) := by
  unfold kind
  rw [List.getElem?_eq_getElem (by rw [h.kl]; exact hi)]; rfl
theorem Ok.kind_of {T : TrD} (h : T.Ok) (i : Nat) : T.kind i = 0 ∨ T.kind i = 1 ∨ T.kind i = 2 := by
  by_cases hi : i < 48
  · exact h.kk _ (List.mem_of_getElem? (h.kind_at hi))
  · unfold kind
    rw [List.getElem?_eq_none (by rw [h.kl]; omega)]; exact .inl rfl
/-- The inode to which names lead. -/
def walk (T : TrD) : Nat → List (List UInt8) → Int × Int
  | i, [] => (i, 0)
  | i, n :: l => if T.kind i = 2 then (match findE (T.dir i) n with | none => (0, 3) | some j => T.walk j.toNat l) else (0, 8)
theorem findE_mem {l : List EntD} {n : List UInt8} {j : Int} (h : findE l n = some j) : ∃ e ∈ l, e.nm = n ∧ e.ino = j := by
  unfold findE at h
  obtain ⟨e, he, rfl⟩ := Option.map_eq_some_iff.1 h
  have h2 := List.find?_some (p := fun e : EntD => decide (e.nm = n)) he
  exact ⟨e, List.mem_of_find?_eq_some he, of_decide_eq_true h2, rfl⟩
theorem Ok.find_ino {T : TrD} (h : T.Ok) {i : Nat} (hi : i < 48) {n : List UInt8} {j : Int} (hf : findE (T.dir i) n = some j) : nameOk n = true ∧ 1 ≤ j ∧ j < 48 := by
  obtain ⟨e, he, rfl, rfl⟩ := findE_mem hf
  have := h.ent _ (h.dir_mem hi) e he
  unfold entOk at this
  simp only [Bool.and_eq_true, decide_eq_true_eq] at this
  exact ⟨this.1.1, this.1.2, this.2⟩
theorem Ok.walk_lt {T : TrD} (h : T.Ok) : ∀ (l : List (List UInt8)) (i : Nat), i < 48 → ∃ j : Nat, (T.walk i l).1 = j ∧ j < 48
  | [], i, hi => ⟨i, rfl, hi⟩
  | n :: l, i, hi => by
    unfold walk
    split
    · cases hf : findE (T.dir i) n with
      | none => exact ⟨0, rfl, by omega⟩
      | some j =>
        obtain ⟨_, h1, h2⟩ := h.find_ino hi hf
        exact h.walk_lt l j.toNat (by omega)
    · exact ⟨0, rfl, by omega⟩
theorem walk_snoc (T : TrD) (n : List UInt8) : ∀ (l : List (List UInt8)) (i : Nat), (T.walk i (l ++ [n])) = if (T.walk i l).2 = 0 then T.walk (T.walk i l).1.toNat [n] else T.walk i l
  | [], i => by
    show T.walk i [n] = if (0 : Int) = 0 then T.walk ((i : Int)).toNat [n] else _
    rw [if_pos rfl, Int.toNat_natCast]
  | m :: l, i => by
    rw [List.cons_append]
    by_cases hk : T.kind i = 2
    · cases hf : findE (T.dir i) m with
      | none =>
        have e : ∀ x, T.walk i (m :: x) = (0, 3) := fun x => by rw [walk, if_pos hk, hf]
        rw [e, e, if_neg (by decide)]
      | some j =>
        have e : ∀ x, T.walk i (m :: x) = T.walk j.toNat x := fun x => by rw [walk, if_pos hk, hf]
        rw [e, e, walk_snoc T n l j.toNat]
    · have e : ∀ x, T.walk i (m :: x) = (0, 8) := fun x => by rw [walk, if_neg hk]
      rw [e, e, if_neg (by decide)]
/-- The least inode that is none. -/
def free (T : TrD) : Option Nat := T.kinds.findIdx? fun k => decide (k = 0)
def lastN (l : List (List UInt8)) : List UInt8 := l.getLastD []
/-- A path's directory. -/
def pE (T : TrD) (l : List (List UInt8)) : Int := if l = [] then 1 else if nameOk (lastN l) = true then (if (T.walk 0 l.dropLast).2 = 0 then (if T.kind (T.walk 0 l.dropLast).1.toNat = 2 then 0 else 8) else (T.walk 0 l.dropLast).2) else 1
def pD (T : TrD) (l : List (List UInt8)) : Nat := (T.walk 0 l.dropLast).1.toNat
def touch (l : List Nat) : List Nat := (List.range 48).filter fun i => decide (i ∈ l)
theorem touch_len (l : List Nat) : (touch l).length ≤ 48 := by
  unfold touch
  have := List.length_filter_le (fun i => decide (i ∈ l)) (List.range 48)
  simpa using this
/-- Make. -/
def mkE (T : TrD) (l : List (List UInt8)) (k : Int) : Int :=
  if k = 1 ∨ k = 2 then (if T.pE l = 0 then (if hasE (T.dir (T.pD l)) (lastN l) = true then 6 else if T.free = none then 5 else if 64 ≤ (T.dir (T.pD l)).length then 5 else 0) else T.pE l) else 1
def mkI (T : TrD) (l : List (List UInt8)) (k : Int) : Nat := if T.mkE l k = 0 then T.free.getD 0 else 0
def put (T : TrD) (d i : Nat) (n : List UInt8) : TrD := ⟨T.kinds, T.dirs.set d (insE (T.dir d) ⟨n, i⟩), T.last⟩
def del (T : TrD) (d : Nat) (n : List UInt8) : TrD := ⟨T.kinds, T.dirs.set d (remE (T.dir d) n), T.last⟩
def setK (T : TrD) (i : Nat) (k : Int) : TrD := ⟨T.kinds.set i k, T.dirs, T.last⟩
def tch (T : TrD) (l : List Nat) : TrD := ⟨T.kinds, T.dirs, touch l⟩
def mk' (T : TrD) (l : List (List UInt8)) (k : Int) : TrD :=
  if T.mkE l k = 0 then ((T.put (T.pD l) (T.mkI l k) (lastN l)).setK (T.mkI l k) k).tch [T.pD l, T.mkI l k] else T
/-- Link. -/
def lkE (T : TrD) (l to : List (List UInt8)) : Int :=
  if (T.walk 0 l).2 = 0 then (if T.kind (T.walk 0 l).1.toNat = 2 then 7 else if T.pE to = 0 then (if hasE (T.dir (T.pD to)) (lastN to) = true then 6 else if 64 ≤ (T.dir (T.pD to)).length then 5 else 0) else T.pE to) else (T.walk 0 l).2
def lkI (T : TrD) (l to : List (List UInt8)) : Nat := if T.lkE l to = 0 then (T.walk 0 l).1.toNat else 0
def lk (T : TrD) (l to : List (List UInt8)) : TrD := if T.lkE l to = 0 then (T.put (T.pD to) (T.lkI l to) (lastN to)).tch [T.pD to, T.lkI l to] else T
/-- Unlink. -/
def ulE (T : TrD) (l : List (List UInt8)) : Int := if l = [] then 1 else if (T.walk 0 l).2 = 0 then (if T.kind (T.walk 0 l).1.toNat = 2 then 7 else 0) else (T.walk 0 l).2
def ulI (T : TrD) (l : List (List UInt8)) : Nat := if T.ulE l = 0 then (T.walk 0 l).1.toNat else 0
def ul (T : TrD) (l : List (List UInt8)) : TrD := if T.ulE l = 0 then (T.del (T.pD l) (lastN l)).tch [T.pD l, T.ulI l] else T
/-- Rmdir. -/
def rdE (T : TrD) (l : List (List UInt8)) : Int := if l = [] then 10 else if (T.walk 0 l).2 = 0 then (if T.kind (T.walk 0 l).1.toNat = 2 then (if 0 < (T.dir (T.walk 0 l).1.toNat).length then 9 else 0) else 8) else (T.walk 0 l).2
def rdI (T : TrD) (l : List (List UInt8)) : Nat := if T.rdE l = 0 then (T.walk 0 l).1.toNat else 0
def rd (T : TrD) (l : List (List UInt8)) : TrD := if T.rdE l = 0 then ((T.del (T.pD l) (lastN l)).setK (T.rdI l) 0).tch [T.pD l, T.rdI l] else T
/-- Drop. -/
def drOk (T : TrD) (i : Int) : Bool := decide (0 ≤ i) && decide (i < 48) && decide (T.kind i.toNat = 1) && decide (T.links i.toNat = 0)
def dr (T : TrD) (i : Int) : TrD := if T.drOk i = true then (T.setK i.toNat 0).tch [i.toNat] else T
/-! ### what holds on -/
theorem set_mem {T : TrD} {d : Nat} {x y : List EntD} (h : y ∈ T.dirs.set d x) : y ∈ T.dirs ∨ y = x := List.mem_or_eq_of_mem_set h
theorem Ok.kind0_set {T : TrD} (h : T.Ok) {i : Nat} (hi : i ≠ 0) (k : Int) : (T.setK i k).kind 0 = 2 := by
  have := h.k0
  unfold kind at this ⊢
  show ((T.kinds.set i k)[0]?).getD 0 = 2
  rw [List.getElem?_set, if_neg hi]; exact this
theorem Ok.put {T : TrD} (h : T.Ok) {d i : Nat} {n : List UInt8} (hd : d < 48) (hn : nameOk n = true) (h1 : 1 ≤ i) (h2 : i < 48) (hno : hasE (T.dir d) n = false) (hl : (T.dir d).length < 64) : (T.put d i n).Ok where
  kl := h.kl
  dl := by show (T.dirs.set d _).length = 48; rw [List.length_set]; exact h.dl
  srt := fun y hy => by
    rcases set_mem hy with hy | rfl
    · exact h.srt y hy
    · exact (h.srt _ (h.dir_mem hd)).ins hno
  ent := fun y hy e he => by
    rcases set_mem hy with hy | rfl
    · exact h.ent y hy e he
    · unfold insE at he
      rcases List.mem_append.1 he with he | he
      · exact h.ent _ (h.dir_mem hd) e (List.mem_of_mem_take he)
      · rcases List.mem_cons.1 he with rfl | he
        · unfold entOk; rw [hn]; simp; omega
        · exact h.ent _ (h.dir_mem hd) e (List.mem_of_mem_drop he)
  len := fun y hy => by
    rcases set_mem hy with hy | rfl
    · exact h.len y hy
    · unfold insE
      have := atE_le (T.dir d) n
      simp only [List.length_append, List.length_take, List.length_cons, List.length_drop]
      omega
  k0 := h.k0
  kk := h.kk
  lst := h.lst
theorem Ok.del {T : TrD} (h : T.Ok) {d : Nat} (hd : d < 48) (n : List UInt8) : (T.del d n).Ok where
  kl := h.kl
  dl := by show (T.dirs.set d _).length = 48; rw [List.length_set]; exact h.dl
  srt := fun y hy => by
    rcases set_mem hy with hy | rfl
    · exact h.srt y hy
    · exact (h.srt _ (h.dir_mem hd)).rem n
  ent := fun y hy e he => by
    rcases set_mem hy with hy | rfl
    · exact h.ent y hy e he
    · exact h.ent _ (h.dir_mem hd) e (List.mem_filter.1 he).1
  len := fun y hy => by
    rcases set_mem hy with hy | rfl
    · exact h.len y hy
    · exact Nat.le_trans (List.length_filter_le _ _) (h.len _ (h.dir_mem hd))
  k0 := h.k0
  kk := h.kk
  lst := h.lst
theorem Ok.setK {T : TrD} (h : T.Ok) {i : Nat} (hi : i ≠ 0) {k : Int} (hk : k = 0 ∨ k = 1 ∨ k = 2) : (T.setK i k).Ok where
  kl := by show (T.kinds.set i k).length = 48; rw [List.length_set]; exact h.kl
  dl := h.dl
  srt := h.srt
  ent := h.ent
  len := h.len
  k0 := h.kind0_set hi k
  kk := fun x hx => by
    rcases List.mem_or_eq_of_mem_set hx with hx | rfl
    · exact h.kk x hx
    · exact hk
  lst := h.lst
theorem Ok.tch {T : TrD} (h : T.Ok) (l : List Nat) : (T.tch l).Ok := ⟨h.kl, h.dl, h.srt, h.ent, h.len, h.k0, h.kk, touch_len l⟩
end TrD
end Go.Proofs.Ytiieicdhkcikpaa
namespace Go.Proofs.Ytiieicdhkcikpaa
open Go.Sep
set_option linter.unusedSimpArgs false
set_option linter.unusedVariables false
namespace TrD
theorem lastN_snoc (l : List (List UInt8)) (n : List UInt8) : lastN (l ++ [n]) = n := by simp [lastN]
theorem split_last {l : List (List UInt8)} (h : l ≠ []) : l = l.dropLast ++ [lastN l] := by
  have : lastN l = l.getLast h := by
    unfold lastN
    rw [List.getLastD_eq_getLast?, List.getLast?_eq_some_getLast h]; rfl
  rw [this, List.dropLast_concat_getLast]
/-- What is reached stands in its path's directory. -/
theorem Ok.parent {T : TrD} (h : T.Ok) {l : List (List UInt8)} (hl : l ≠ []) (hw : (T.walk 0 l).2 = 0) :
    T.pE l = 0 ∧ T.pD l < 48 ∧ (T.walk 0 l.dropLast).2 = 0 ∧ T.kind (T.pD l) = 2 ∧ findE (T.dir (T.pD l)) (lastN l) = some (T.walk 0 l).1 ∧ nameOk (lastN l) = true := by
  obtain ⟨d, hd, hd48⟩ := h.walk_lt l.dropLast 0 (by omega)
  have hpd : T.pD l = d := by unfold pD; rw [hd]; rfl
  have e1 := walk_snoc T (lastN l) l.dropLast 0
  rw [← split_last hl] at e1
  by_cases h0 : (T.walk 0 l.dropLast).2 = 0
  · rw [if_pos h0, hd, Int.toNat_natCast] at e1
    rw [e1] at hw ⊢
    by_cases hk : T.kind d = 2
    · cases hf : findE (T.dir d) (lastN l) with
      | none => rw [walk, if_pos hk, hf] at hw; cases hw
      | some j =>
        obtain ⟨h1, h2, h3⟩ := h.find_ino hd48 hf
        have e2 : T.walk d [lastN l] = (j, 0) := by
          rw [walk, if_pos hk, hf]
          show ((j.toNat : Int), (0 : Int)) = (j, 0)
          rw [Int.toNat_of_nonneg (by omega)]
        rw [e2, hpd]
        refine ⟨?_, hd48, h0, hk, hf, h1⟩
        unfold pE
        rw [if_neg hl, if_pos h1, if_pos h0, hd, Int.toNat_natCast, if_pos hk]
    · rw [walk, if_neg hk] at hw; cases hw
  · rw [if_neg h0] at e1
    rw [e1] at hw; exact absurd hw h0
theorem Ok.pE_zero {T : TrD} (h : T.Ok) {l : List (List UInt8)} (h0 : T.pE l = 0) : l ≠ [] ∧ nameOk (lastN l) = true ∧ T.pD l < 48 ∧ T.kind (T.pD l) = 2 ∧ (T.walk 0 l.dropLast) = ((T.pD l : Int), 0) := by
  unfold pE at h0
  split at h0
  · cases h0
  · rename_i hl
    split at h0
    · rename_i hn
      split at h0
      · rename_i hw
        split at h0
        · rename_i hk
          obtain ⟨d, hd, hd48⟩ := h.walk_lt l.dropLast 0 (by omega)
          have hpd : T.pD l = d := by unfold pD; rw [hd]; rfl
          refine ⟨hl, hn, by omega, hk, ?_⟩
          rw [hpd, ← hd, ← hw]
        · cases h0
      · exact absurd h0 (by assumption)
    · cases h0
/-! ### counts -/
theorem cnt_nil (i : Nat) : cnt [] i = 0 := rfl
theorem cnt_cons (d : List EntD) (ds : List (List EntD)) (i : Nat) : cnt (d :: ds) i = cnt1 d i + cnt ds i := by
  unfold cnt cnt1
  rw [List.flatten_cons, List.filter_append, List.length_append]
theorem cnt_set : ∀ {ds : List (List EntD)} {k : Nat} {d x : List EntD}, ds[k]? = some d → ∀ i, cnt (ds.set k x) i + cnt1 d i = cnt ds i + cnt1 x i
  | [], _, _, _, h, _ => by cases h
  | a :: ds, 0, d, x, h, i => by
    rw [List.getElem?_cons_zero] at h; cases h
    rw [List.set_cons_zero, cnt_cons, cnt_cons]; omega
  | a :: ds, k + 1, d, x, h, i => by
    rw [List.getElem?_cons_succ] at h
    rw [List.set_cons_succ, cnt_cons, cnt_cons]
    have := cnt_set (x := x) h i
    omega
theorem Ok.links_put {T : TrD} (h : T.Ok) {d i : Nat} {n : List UInt8} (hd : d < 48) (h1 : 1 ≤ i) (j : Nat) : (T.put d i n).links j = T.links j + if j = i then 1 else 0 := by
  unfold links
  by_cases h0 : j = 0
  · subst h0; rw [if_pos rfl, if_pos rfl, if_neg (by omega)]
  · rw [if_neg h0, if_neg h0]
    have := cnt_set (x := insE (T.dir d) ⟨n, i⟩) (h.dir_at hd) j
    rw [cnt1_ins] at this
    show cnt (T.dirs.set d _) j = _
    by_cases e : j = i
    · subst e; rw [if_pos rfl] at this ⊢; omega
    · have h9 : ¬ ((⟨n, (i : Int)⟩ : EntD).ino = (j : Int)) := by show ¬ (i : Int) = (j : Int); omega
      rw [if_neg h9] at this; rw [if_neg e]; omega
theorem Ok.links_del {T : TrD} (h : T.Ok) {d i : Nat} {n : List UInt8} (hd : d < 48) (hf : findE (T.dir d) n = some (i : Int)) (j : Nat) : (T.del d n).links j + (if j = i then 1 else 0) = T.links j := by
  obtain ⟨_, h1, h2⟩ := h.find_ino hd hf
  obtain ⟨e, he, rfl, hino⟩ := findE_mem hf
  obtain ⟨k, hk⟩ := List.getElem?_of_mem he
  unfold links
  by_cases h0 : j = 0
  · subst h0; rw [if_pos rfl, if_pos rfl, if_neg (by omega)]
  · rw [if_neg h0, if_neg h0]
    have := cnt_set (x := remE (T.dir d) e.nm) (h.dir_at hd) j
    have h3 := (h.srt _ (h.dir_mem hd)).cnt1_rem hk j
    show cnt (T.dirs.set d _) j + _ = _
    by_cases e2 : j = i
    · subst e2; rw [if_pos hino] at h3; rw [if_pos rfl]; omega
    · rw [if_neg (by rw [hino]; omega)] at h3; rw [if_neg e2]; omega
theorem findE_pos {T : TrD} {d i : Nat} {n : List UInt8} (hf : findE (T.dir d) n = some (i : Int)) : 1 ≤ cnt1 (T.dir d) i := by
  obtain ⟨e, he, _, hino⟩ := findE_mem hf
  unfold cnt1
  exact List.length_pos_of_mem (List.mem_filter.2 ⟨he, decide_eq_true hino⟩)
theorem links_le {T : TrD} (h : T.Ok) (i : Nat) : T.links i ≤ 3072 := by
  unfold links
  split
  · omega
  · have hb : ∀ ds : List (List EntD), (∀ d ∈ ds, d.length ≤ 64) → cnt ds i ≤ ds.length * 64 := by
      intro ds
      induction ds with
      | nil => intro _; exact Nat.le_refl _
      | cons d ds ih =>
        intro hd
        have h1 := ih fun x hx => hd x (List.mem_cons_of_mem _ hx)
        have h2 := hd d (List.mem_cons_self ..)
        have h3 : cnt1 d i ≤ d.length := List.length_filter_le _ _
        rw [cnt_cons, List.length_cons]; omega
    have := hb T.dirs h.len
    rw [h.dl] at this; omega
/-! ### Rename -/
def under (l top : List (List UInt8)) : Bool := decide (top.length ≤ l.length) && decide (l.take top.length = top)
def rnE (T : TrD) (l to : List (List UInt8)) : Int :=
  if l = [] ∨ to = [] then 10 else if nameOk (lastN to) = false then 1 else if (T.walk 0 l).2 ≠ 0 then (T.walk 0 l).2
  else if T.kind (T.walk 0 l).1.toNat = 2 ∧ under to l = true ∧ l.length < to.length then 11
  else if T.pE to ≠ 0 then T.pE to
  else match findE (T.dir (T.pD to)) (lastN to) with
    | none => if T.pD to ≠ T.pD l ∧ 64 ≤ (T.dir (T.pD to)).length then 5 else 0
    | some y => if (T.walk 0 l).1 = y then 0 else if T.kind y.toNat = 2 ∧ T.kind (T.walk 0 l).1.toNat ≠ 2 then 7
      else if T.kind (T.walk 0 l).1.toNat = 2 ∧ T.kind y.toNat ≠ 2 then 8 else if 0 < (T.dir y.toNat).length then 9 else 0
def rnX (T : TrD) (l to : List (List UInt8)) : Nat := if T.rnE l to = 0 then (T.walk 0 l).1.toNat else 0
def rnY (T : TrD) (l to : List (List UInt8)) : Nat := if T.rnE l to = 0 then (match findE (T.dir (T.pD to)) (lastN to) with | none => 0 | some y => if (T.walk 0 l).1 = y then 0 else y.toNat) else 0
def rn (T : TrD) (l to : List (List UInt8)) : TrD :=
  if T.rnE l to = 0 then
    (match findE (T.dir (T.pD to)) (lastN to) with
    | none => (((T.del (T.pD l) (lastN l)).put (T.pD to) (T.rnX l to) (lastN to))).tch [T.pD l, T.pD to]
    | some y => if (T.walk 0 l).1 = y then T.tch []
      else (if T.kind y.toNat = 2 then (((T.del (T.pD l) (lastN l)).del (T.pD to) (lastN to)).put (T.pD to) (T.rnX l to) (lastN to)).setK y.toNat 0
        else ((T.del (T.pD l) (lastN l)).del (T.pD to) (lastN to)).put (T.pD to) (T.rnX l to) (lastN to)).tch [T.pD l, T.pD to, y.toNat])
  else T
theorem dir_del (T : TrD) (d k : Nat) (n : List UInt8) : (T.del d n).dir k = if k = d then remE (T.dir d) n else T.dir k := by
  unfold dir del
  rw [List.getElem?_set]
  by_cases h : d = k
  · subst h
    rw [if_pos rfl, if_pos rfl]
    split
    · rfl
    · rename_i h2
      rw [List.getElem?_eq_none (by omega)]; rfl
  · rw [if_neg h, if_neg (fun e => h e.symm)]
theorem del_comm (T : TrD) (d k : Nat) (n m : List UInt8) : (T.del d n).del k m = (T.del k m).del d n := by
  have e : ∀ d k (n m : List UInt8), ((T.del d n).del k m).dirs = (T.dirs.set d (remE (T.dir d) n)).set k (if k = d then remE (remE (T.dir d) n) m else remE (T.dir k) m) := fun d k n m => by
    show ((T.del d n).dirs).set k (remE ((T.del d n).dir k) m) = _
    rw [dir_del]
    split <;> rfl
  have e2 : ((T.del d n).del k m).dirs = ((T.del k m).del d n).dirs := by
    rw [e, e]
    by_cases h : k = d
    · subst h
      rw [if_pos rfl, if_pos rfl, List.set_set, List.set_set, remE_comm]
    · rw [if_neg h, if_neg (fun e => h e.symm), List.set_comm _ _ (fun e => h e.symm)]
  show (⟨T.kinds, ((T.del d n).del k m).dirs, T.last⟩ : TrD) = ⟨T.kinds, ((T.del k m).del d n).dirs, T.last⟩
  rw [e2]
end TrD
end Go.Proofs.Ytiieicdhkcikpaa
namespace Go.Proofs.Ytiieicdhkcikpaa
open Go.Sep
set_option linter.unusedSimpArgs false
set_option linter.unusedVariables false
theorem strict_ext : ∀ {l m : List Nat}, l.Pairwise (· < ·) → m.Pairwise (· < ·) → (∀ x, x ∈ l ↔ x ∈ m) → l = m
  | [], [], _, _, _ => rfl
  | [], b :: m, _, _, h => by have := (h b).2 (List.mem_cons_self ..); cases this
  | a :: l, [], _, _, h => by have := (h a).1 (List.mem_cons_self ..); cases this
  | a :: l, b :: m, h1, h2, h => by
    rw [List.pairwise_cons] at h1 h2
    have hab : a = b := by
      rcases List.mem_cons.1 ((h a).1 (List.mem_cons_self ..)) with e | e
      · exact e
      · rcases List.mem_cons.1 ((h b).2 (List.mem_cons_self ..)) with e2 | e2
        · exact e2.symm
        · have := h1.1 b e2; have := h2.1 a e; omega
    subst hab
    rw [strict_ext h1.2 h2.2 fun x => ?_]
    constructor
    · intro hx
      rcases List.mem_cons.1 ((h x).1 (List.mem_cons_of_mem _ hx)) with e | e
      · subst e; have := h1.1 x hx; omega
      · exact e
    · intro hx
      rcases List.mem_cons.1 ((h x).2 (List.mem_cons_of_mem _ hx)) with e | e
      · subst e; have := h2.1 x hx; omega
      · exact e
def keepN (s : List Nat) (j : Nat) : Bool := decide (j = 0 ∨ s[j]? ≠ s[j - 1]?)
def compN (s : List Nat) : List Nat := ((List.range s.length).filter (keepN s)).map fun j : Nat => (s[j]?).getD 0
theorem compN_mem {s : List Nat} {y : Nat} : y ∈ compN s ↔ y ∈ s := by
  unfold compN
  simp only [List.mem_map, List.mem_filter, List.mem_range]
  constructor
  · rintro ⟨j, ⟨hj, _⟩, rfl⟩
    rw [List.getElem?_eq_getElem hj]
    exact List.getElem_mem _
  · intro hy
    obtain ⟨j, hj⟩ := List.getElem?_of_mem hy
    have key : ∀ j : Nat, s[j]? = some y → ∃ a, (a < s.length ∧ keepN s a = true) ∧ (s[a]?).getD 0 = y := by
      intro j
      induction j with
      | zero =>
        intro h
        exact ⟨0, ⟨(List.getElem?_eq_some_iff.1 h).1, by simp [keepN]⟩, by rw [h]; rfl⟩
      | succ j ih =>
        intro h
        by_cases hp : s[j]? = some y
        · exact ih hp
        · refine ⟨j + 1, ⟨(List.getElem?_eq_some_iff.1 h).1, ?_⟩, by rw [h]; rfl⟩
          unfold keepN
          rw [decide_eq_true_eq]
          right
          rw [h, Nat.add_sub_cancel]
          exact fun e => hp e.symm
    exact key j hj
theorem compN_lt {s : List Nat} (hs : s.Pairwise (· ≤ ·)) : (compN s).Pairwise (· < ·) := by
  unfold compN
  rw [List.pairwise_map, List.pairwise_filter]
  refine List.Pairwise.imp_of_mem ?_ List.pairwise_lt_range
  intro a b ha hb hab _ kb
  have hb := List.mem_range.1 hb
  unfold keepN at kb
  rw [decide_eq_true_eq] at kb
  have le : ∀ {i j : Nat} (hi : i < s.length) (hj : j < s.length), i ≤ j → s[i] ≤ s[j] := fun {i j} hi hj hij => by
    rcases Nat.lt_or_ge i j with h | h
    · exact List.pairwise_iff_getElem.1 hs i j hi hj h
    · obtain rfl : i = j := by omega
      exact Nat.le_refl _
  rcases kb with kb | kb
  · omega
  · rw [List.getElem?_eq_getElem hb, List.getElem?_eq_getElem (by omega)] at kb
    rw [List.getElem?_eq_getElem (by omega), List.getElem?_eq_getElem hb]
    have h1 := le (i := a) (j := b - 1) (by omega) (by omega) (by omega)
    have h2 := le (i := b - 1) (j := b) (by omega) hb (by omega)
    have h3 : s[b] ≠ s[b - 1] := fun e => kb (by rw [e])
    show s[a] < s[b]
    omega
theorem touch_lt (l : List Nat) : (TrD.touch l).Pairwise (· < ·) := List.Pairwise.filter _ List.pairwise_lt_range
theorem touch_mem {l : List Nat} {x : Nat} : x ∈ TrD.touch l ↔ x < 48 ∧ x ∈ l := by
  unfold TrD.touch
  simp
/-- Sorted, then compact. -/
theorem compN_touch {l s : List Nat} (hs : s.Pairwise (· ≤ ·)) (hm : ∀ x, x ∈ s ↔ x ∈ l) (hl : ∀ x ∈ l, x < 48) : compN s = TrD.touch l :=
  strict_ext (compN_lt hs) (touch_lt l) fun x => by
    rw [compN_mem, touch_mem, hm]
    exact ⟨fun h => ⟨hl x h, h⟩, fun h => h.2⟩
theorem comp_ints (s : List Nat) : Go.Lib.compactUpTo (s.map fun x : Nat => (x : Int)).toArray s.length = (compN s).map fun x : Nat => (x : Int) := by
  have hg : ∀ j, j < s.length → (s.map fun x : Nat => (x : Int)).toArray[j]! = (((s[j]?).getD 0 : Nat) : Int) := fun j hj => by
    rw [getElem!_pos _ j (by simpa using hj)]
    simp [hj]
  unfold Go.Lib.compactUpTo compN
  rw [List.map_map]
  have e1 : (List.range s.length).filter (Go.Lib.keeps (s.map fun x : Nat => (x : Int)).toArray) = (List.range s.length).filter (keepN s) := by
    refine List.filter_congr fun j hj => ?_
    have hj := List.mem_range.1 hj
    unfold Go.Lib.keeps keepN
    rw [decide_eq_decide]
    by_cases h0 : j = 0
    · simp [h0]
    · rw [hg j hj, hg (j - 1) (by omega), List.getElem?_eq_getElem hj, List.getElem?_eq_getElem (by omega)]
      simp [h0]
      omega
  rw [e1]
  refine List.map_congr_left fun j hj => ?_
  exact hg j (List.mem_range.1 (List.mem_filter.1 hj).1)
end Go.Proofs.Ytiieicdhkcikpaa
