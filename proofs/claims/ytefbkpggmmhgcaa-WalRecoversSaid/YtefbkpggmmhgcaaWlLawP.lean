/-
  Groups of block writes: what the laws ask (plain).
-/
import Derived.Test.YtefbkpggmmhgcaaWlPlain
namespace Go.Proofs.Ytefbkpggmmhgcaa
open Go.Sep
set_option linter.unusedSimpArgs false
set_option linter.unusedVariables false
theorem drop_app {α : Type} : ∀ (A B : List α) (i : Nat), (A ++ B).drop (A.length + i) = B.drop i
  | [], B, i => by simp
  | x :: A, B, i => by
    have := drop_app A B i
    rw [List.cons_append, List.length_cons, show A.length + 1 + i = (A.length + i) + 1 by omega, List.drop_succ_cons]; exact this
theorem take_app {α : Type} (A B : List α) : (A ++ B).take A.length = A := List.take_left' rfl
theorem drop_flat {α : Type} (f : α → List UInt8) (n : Nat) (t : List UInt8) : ∀ (l : List α) (i : Nat) (x : α), (∀ y, (f y).length = n) → l[i]? = some x → ((l.flatMap f ++ t).drop (i * n)).take n = f x
  | [], i, x, _, h => by simp at h
  | y :: l, 0, x, hf, h => by
    simp at h; subst h
    rw [Nat.zero_mul, List.drop_zero, List.flatMap_cons, List.append_assoc, ← hf y]; exact take_app _ _
  | y :: l, i + 1, x, hf, h => by
    have := drop_flat f n t l i x hf (by simpa using h)
    rw [List.flatMap_cons, List.append_assoc, show (i + 1) * n = (f y).length + i * n by rw [hf y, Nat.succ_mul]; omega, drop_app]; exact this
theorem hdr_split (g : G2) : ∃ T, hdr g = le g.length 1 ++ (g.flatMap (fun x => le x.1 2) ++ T) := by
  exact ⟨List.replicate (60 - (hdr0 g).length) 0 ++ (le (hdrS g) 4 ++ List.replicate (128 - (hdr1 g).length) 0), by simp only [hdr, hdr1, hdrB, hdr0, padTo, List.append_assoc]⟩
theorem hdr_n {g : G2} (h : g.length ≤ 20) : getN (hdr g) 0 1 = g.length := by
  obtain ⟨T, hT⟩ := hdr_split g
  unfold getN
  rw [if_pos (by rw [hdr_len h]; omega), hT, List.drop_zero]
  have := take_app (le g.length 1) (g.flatMap (fun x => le x.1 2) ++ T)
  rw [le_length] at this
  rw [this, un_le 1 g.length (by omega)]
theorem hdr_at {g : G2} (h : g.length ≤ 20) {i : Nat} {x : Int × List UInt8} (hx : g[i]? = some x) (h0 : 0 ≤ x.1) (h1 : x.1 < 65536) : ((getN (hdr g) (1 + 2 * i) 2 : Nat) : Int) = x.1 := by
  obtain ⟨T, hT⟩ := hdr_split g
  have hl := (List.getElem?_eq_some_iff.1 hx).1
  unfold getN
  rw [if_pos (by rw [hdr_len h]; omega), hT]
  have h2 := drop_app (le g.length 1) (g.flatMap (fun x => le x.1 2) ++ T) (2 * i)
  rw [le_length] at h2
  have h3 := drop_flat (fun x : Int × List UInt8 => le x.1 2) 2 T g i x (fun y => le_length _ _) hx
  rw [h2, Nat.mul_comm 2 i, h3]
  obtain ⟨k, hk⟩ := Int.eq_ofNat_of_zero_le h0
  rw [hk, un_le 2 k (by omega)]
/-! ### writes to blocks -/
def Good (n : Nat) (l : G2) : Prop := ∀ x ∈ l, 0 ≤ x.1 ∧ x.1 < n ∧ x.2.length = 128
def putL (bs : List (List UInt8)) (l : G2) : List (List UInt8) := l.foldl (fun bs x => bs.set x.1.toNat x.2) bs
theorem putL_len (l : G2) : ∀ bs, (putL bs l).length = bs.length := by
  induction l with
  | nil => intro bs; rfl
  | cons x l ih => intro bs; show (putL (bs.set x.1.toNat x.2) l).length = _; rw [ih, List.length_set]
theorem putL_append (bs : List (List UInt8)) (l m : G2) : putL bs (l ++ m) = putL (putL bs l) m := by unfold putL; rw [List.foldl_append]
theorem putL_not (l : G2) : ∀ (bs : List (List UInt8)) (m : Nat), (∀ x ∈ l, x.1.toNat ≠ m) → (putL bs l)[m]? = bs[m]? := by
  induction l with
  | nil => intro bs m _; rfl
  | cons x l ih =>
    intro bs m h
    show (putL (bs.set x.1.toNat x.2) l)[m]? = _
    rw [ih _ m (fun y hy => h y (List.mem_cons_of_mem _ hy)), List.getElem?_set_ne (h x (List.mem_cons_self ..))]
theorem okG_ne {n : Int} {g : G2} (h : okG n g = true) {i j : Nat} {x y : Int × List UInt8} (hij : i < j) (hx : g[i]? = some x) (hy : g[j]? = some y) : x.1 ≠ y.1 := by
  intro e
  have := (okG_at h hy).2
  unfold twice at this
  rw [List.any_eq_false] at this
  have h2 : x ∈ g.take j := List.mem_of_getElem? (i := i) (by rw [List.getElem?_take, if_pos hij, hx])
  exact this x h2 (by simp [e])
theorem putL_at {n : Int} {g : G2} (h : okG n g = true) (bs : List (List UInt8)) (hn : (bs.length : Int) = n) {i : Nat} {x : Int × List UInt8} (hx : g[i]? = some x) : (putL bs g)[x.1.toNat]? = some x.2 := by
  have hw := okW_at (okG_at h hx).1
  have e : g = g.take i ++ [x] ++ g.drop (i + 1) := by
    conv => lhs; rw [← List.take_append_drop (i + 1) g]
    rw [List.take_add_one, hx]; rfl
  conv => lhs; rw [e]
  rw [putL_append, putL_not, putL_append]
  · show ((putL bs (g.take i)).set x.1.toNat x.2)[x.1.toNat]? = _
    rw [List.getElem?_set_self (by rw [putL_len]; omega)]
  · intro y hy hxy
    obtain ⟨j, hj⟩ := List.mem_iff_getElem?.1 hy
    rw [List.getElem?_drop] at hj
    have hwy := okW_at (okG_at h hj).1
    exact okG_ne h (show i < i + 1 + j by omega) hx hj (by omega)
theorem run_any (l : G2) : ∀ D : DiskS, D.dead = false → Good D.blocks.length l → ∃ j, j ≤ l.length ∧ (runW D l).2.blocks = putL D.blocks (l.take j) ∧ (runW D l).2.writes.length = D.writes.length + j ∧ ((runW D l).1 = 0 ↔ j = l.length) ∧ (D.left = -1 → j = l.length ∧ (runW D l).2.dead = false ∧ (runW D l).2.left = -1) := by
  induction l with
  | nil => exact fun D hd _ => ⟨0, Nat.le_refl _, rfl, rfl, by simp [runW], fun h => ⟨rfl, hd, h⟩⟩
  | cons x l ih =>
    intro D hd hG
    obtain ⟨g1, g2, g3⟩ := hG x (List.mem_cons_self ..)
    have hb : ¬ bad D.blocks.length x.1 x.2.length := by unfold bad; omega
    by_cases hl : D.left = 0
    · have hc : wcode D x.1 x.2.length = 22 := by unfold wcode; rw [hd, if_neg (by simp), if_neg hb, if_pos hl]
      have hn : wnext D x.1 x.2 = { D with dead := true } := by unfold wnext; rw [if_neg (by simp [hd]), if_neg hb, if_pos hl]
      have e : runW D (x :: l) = (22, { D with dead := true }) := by show (if _ then _ else _) = _; rw [hc, if_neg (by decide), hn]
      rw [e]
      refine ⟨0, Nat.zero_le _, rfl, rfl, by simp, fun h => ?_⟩
      rw [hl] at h; cases h
    · have hc : wcode D x.1 x.2.length = 0 := by unfold wcode; rw [hd, if_neg (by simp), if_neg hb, if_neg hl]
      have hn : wnext D x.1 x.2 = D.wrote x.1.toNat x.2 := by unfold wnext; rw [if_neg (by simp [hd]), if_neg hb, if_neg hl]
      have e : runW D (x :: l) = runW (D.wrote x.1.toNat x.2) l := by show (if _ then _ else _) = _; rw [hc, if_pos rfl, hn]
      rw [e]
      obtain ⟨j, h1, h2, h3, h4, h5⟩ := ih (D.wrote x.1.toNat x.2) hd (fun y hy => by rw [wrote_len]; exact hG y (List.mem_cons_of_mem _ hy))
      refine ⟨j + 1, by simp only [List.length_cons]; omega, by rw [h2]; rfl, ?_, by rw [h4, List.length_cons]; omega, fun h => ?_⟩
      · rw [h3]; simp [DiskS.wrote]; omega
      · obtain ⟨q1, q2, q3⟩ := h5 (by simp [DiskS.wrote, h])
        exact ⟨by rw [q1, List.length_cons], q2, q3⟩
/-- Blocks of a disk are what was written on what it began with. -/
structure Inv (D : DiskS) : Prop where
  ok : D.Ok
  blk : D.blocks = applyW D.start D.writes
theorem Inv.next {D : DiskS} (h : Inv D) (n : Int) (b : List UInt8) : Inv (wnext D n b) := by
  unfold wnext
  split
  · exact h
  · split
    · exact h
    · rename_i h2
      unfold bad at h2
      split
      · exact ⟨⟨h.ok.len, h.ok.base, h.ok.at_⟩, h.blk⟩
      · refine ⟨⟨by simp only [DiskS.wrote, List.length_set]; exact h.ok.len, by simp only [DiskS.wrote, List.length_set]; exact h.ok.base, ?_⟩, ?_⟩
        · intro x hx
          simp only [DiskS.wrote, List.mem_append, List.mem_singleton, List.length_set] at hx ⊢
          rcases hx with hx | rfl
          · exact h.ok.at_ x hx
          · show n.toNat < _; omega
        · have hs : (D.wrote n.toNat b).start = D.start := by simp [DiskS.start, DiskS.wrote]
          rw [hs]
          show D.blocks.set n.toNat b = applyW D.start (D.writes ++ [(n.toNat, b)])
          rw [applyW_snoc, ← h.blk]
theorem Inv.run (l : G2) : ∀ {D : DiskS}, Inv D → Inv (runW D l).2 := by
  induction l with
  | nil => exact fun h => h
  | cons x l ih =>
    intro D h
    show Inv (if wcode D x.1 x.2.length = 0 then runW (wnext D x.1 x.2) l else (wcode D x.1 x.2.length, wnext D x.1 x.2)).2
    split
    · exact ih (h.next _ _)
    · exact h.next _ _
theorem run_len (l : G2) : ∀ D : DiskS, (runW D l).2.blocks.length = D.blocks.length := by
  induction l with
  | nil => exact fun D => rfl
  | cons x l ih =>
    intro D
    show (if wcode D x.1 x.2.length = 0 then runW (wnext D x.1 x.2) l else (wcode D x.1 x.2.length, wnext D x.1 x.2)).2.blocks.length = _
    split
    · rw [ih, wnext_len]
    · exact wnext_len _ _ _
theorem Inv.image {D : DiskS} (h : Inv D) : (D.image D.writes.length).blocks = D.blocks ∧ Inv (D.image D.writes.length) := by
  have e : (D.image D.writes.length).blocks = D.blocks := by
    show applyW D.start (D.writes.take D.writes.length) = _
    rw [List.take_length, ← h.blk]
  refine ⟨e, ⟨⟨by rw [e]; exact h.ok.len, Nat.le_refl _, fun x hx => by cases hx⟩, ?_⟩⟩
  show (D.image D.writes.length).blocks = (D.image D.writes.length).start
  unfold DiskS.start
  show _ = (D.image D.writes.length).blocks ++ _
  rw [show (D.image D.writes.length).blocks.length - (D.image D.writes.length).base.length = 0 from Nat.sub_self _]
  simp
theorem Inv.new (n : Nat) (h : n ≤ 1024) : Inv { blocks := List.replicate n (zeros 128), base := [], writes := [], left := -1, dead := false } :=
  ⟨⟨by simp; exact h, Nat.zero_le _, fun x hx => by cases hx⟩, by simp [DiskS.start, applyW]⟩
/-! ### what the log says -/
theorem atB_of {D : DiskS} {n : Nat} {b : List UInt8} (h : D.blocks[n]? = some b) : atB D n = b := by unfold atB; rw [h]; rfl
theorem log_of {D : DiskS} {g : G2} {n : Int} (hg : okG n g = true) (hn : n ≤ 65536) (h2 : D.blocks[2]? = some (hdr g)) (hd : ∀ i x, g[i]? = some x → D.blocks[3 + i]? = some x.2) : logN D = g.length ∧ logG D g.length = g := by
  have hl := okG_len hg
  refine ⟨by unfold logN; rw [atB_of h2, hdr_n hl.2], ?_⟩
  apply List.ext_getElem?
  intro i
  by_cases hi : i < g.length
  · obtain ⟨x, hx⟩ : ∃ x, g[i]? = some x := ⟨_, List.getElem?_eq_getElem hi⟩
    have hw := okW_at (okG_at hg hx).1
    rw [hx, logG, List.getElem?_map, List.getElem?_range hi, atB_of h2]
    show some (((getN (hdr g) (1 + 2 * i) 2 : Nat) : Int), atB D (3 + i)) = some x
    rw [hdr_at hl.2 hx hw.1 (by omega), atB_of (hd i x hx)]
  · rw [List.getElem?_eq_none (by rw [logG_len]; omega), List.getElem?_eq_none (by omega)]
theorem rec_of {D : DiskS} {g : G2} (hg : okG D.blocks.length g = true) (hn : D.blocks.length ≤ 1024) (h2 : D.blocks[2]? = some (hdr g)) (hd : ∀ i x, g[i]? = some x → D.blocks[3 + i]? = some x.2) : recOk D = true ∧ recR D = runW D (doneL g) := by
  obtain ⟨e1, e2⟩ := log_of hg (by omega) h2 hd
  have h : recOk D = true := by
    unfold recOk
    rw [e1, e2, hg, atB_of h2, decide_eq_true (okG_len hg).2]; simp
  refine ⟨h, ?_⟩
  unfold recR
  rw [h, if_pos rfl, e1, e2]
theorem getN_zeros : getN (zeros 128) 0 1 = 0 := by decide +kernel
theorem rec_zero {D : DiskS} (h2 : D.blocks[2]? = some (zeros 128)) : recOk D = false ∧ recR D = (0, D) := by
  have e : logN D = 0 := by unfold logN; rw [atB_of h2]; exact getN_zeros
  have h : recOk D = false := by unfold recOk; rw [e]; rfl
  refine ⟨h, ?_⟩
  unfold recR
  rw [h]; rfl
/-! ### cut anywhere -/
def outL (m : Nat) : Prop := ¬ (2 ≤ m ∧ m < 26)
def SameOut (B C : List (List UInt8)) : Prop := ∀ m, outL m → B[m]? = C[m]?
theorem good_doneL {n : Nat} {g : G2} (h : okG n g = true) (hn : 26 ≤ n) : Good n (doneL g) := by
  intro x hx
  rcases List.mem_append.1 hx with hx | hx
  · obtain ⟨i, hi⟩ := List.mem_iff_getElem?.1 hx
    have h1 := okG_at h hi
    have h2 := okW_at h1.1
    exact ⟨h2.1, h2.2.1, okW_data h1.1⟩
  · rw [List.mem_singleton.1 hx]
    exact ⟨by show (0 : Int) ≤ 2; decide, by show (2 : Int) < n; omega, by simp [zeros]⟩
theorem good_commitL {n : Nat} {g : G2} (h : okG n g = true) (hn : 26 ≤ n) : Good n (commitL g) := by
  have hl := okG_len h
  intro x hx
  rcases List.mem_append.1 hx with hx | hx
  · obtain ⟨i, hi⟩ := List.mem_iff_getElem?.1 hx
    have hil := (List.getElem?_eq_some_iff.1 hi).1
    rw [logL_len] at hil
    obtain ⟨y, hy⟩ : ∃ y, g[i]? = some y := ⟨_, List.getElem?_eq_getElem hil⟩
    rw [logL_at hy] at hi; cases hi
    exact ⟨by show (0 : Int) ≤ ((3 + i : Nat) : Int); omega, by show ((3 + i : Nat) : Int) < n; omega, (okW_data (okG_at h hy).1 : y.2.length = 128)⟩
  · rcases List.mem_cons.1 hx with rfl | hx
    · exact ⟨by show (0 : Int) ≤ 2; decide, by show (2 : Int) < n; omega, hdr_len hl.2⟩
    · exact good_doneL h hn x hx
theorem okG_out {n : Int} {g : G2} (h : okG n g = true) {x : Int × List UInt8} (hx : x ∈ g) : outL x.1.toNat := by
  obtain ⟨i, hi⟩ := List.mem_iff_getElem?.1 hx
  have h2 := okW_at (okG_at h hi).1
  unfold outL; omega
/-- The disk's blocks while a group is being done that was told OK (f) or not. -/
def StW (B0 : List (List UInt8)) (g : G2) (f : Int) (B : List (List UInt8)) : Prop :=
  (B[2]? = some (zeros 128) ∧ (SameOut B (putL B0 g) ∨ (f ≠ 0 ∧ SameOut B B0))) ∨
  (f ≠ 0 ∧ B[2]? = some (hdr g) ∧ (∀ i x, g[i]? = some x → B[3 + i]? = some x.2) ∧ ∀ m, outL m → (∀ x ∈ g, x.1.toNat ≠ m) → B[m]? = B0[m]?)
theorem putL_out {n : Int} {g : G2} (h : okG n g = true) {B B0 : List (List UInt8)} (hB : (B.length : Int) = n) (hB0 : (B0.length : Int) = n) (hm : ∀ m, outL m → (∀ x ∈ g, x.1.toNat ≠ m) → B[m]? = B0[m]?) : SameOut (putL B g) (putL B0 g) := by
  intro m ho
  by_cases hx : ∃ x ∈ g, x.1.toNat = m
  · obtain ⟨x, hx, rfl⟩ := hx
    obtain ⟨i, hi⟩ := List.mem_iff_getElem?.1 hx
    rw [putL_at h B hB hi, putL_at h B0 hB0 hi]
  · have hx : ∀ x ∈ g, x.1.toNat ≠ m := fun x hy e => hx ⟨x, hy, e⟩
    rw [putL_not g B m hx, putL_not g B0 m hx]; exact hm m ho hx
theorem done_take {g : G2} {j : Nat} (h : j ≤ g.length) : (doneL g).take j = g.take j := by unfold doneL; rw [List.take_append_of_le_length h]
theorem take_out {n : Int} {g : G2} (h : okG n g = true) (j m : Nat) (hm : 2 ≤ m ∧ m < 26) : ∀ x ∈ g.take j, x.1.toNat ≠ m := fun x hx e => okG_out h (List.mem_of_mem_take hx) (e ▸ hm)
theorem putL_done {n : Int} {g : G2} (h : okG n g = true) {B B0 : List (List UInt8)} (hB : (B.length : Int) = n) (hB0 : (B0.length : Int) = n) (hn : 26 ≤ n) (hm : ∀ m, outL m → (∀ x ∈ g, x.1.toNat ≠ m) → B[m]? = B0[m]?) :
    (putL B (doneL g))[2]? = some (zeros 128) ∧ SameOut (putL B (doneL g)) (putL B0 g) := by
  unfold doneL
  rw [putL_append]
  show ((putL B g).set 2 (zeros 128))[2]? = _ ∧ SameOut ((putL B g).set 2 (zeros 128)) _
  refine ⟨by rw [List.getElem?_set_self (by rw [putL_len]; omega)], fun m ho => ?_⟩
  rw [List.getElem?_set_ne (by unfold outL at ho; omega)]
  exact putL_out h hB hB0 hm m ho
theorem StW.commit {D : DiskS} {g : G2} (hd : D.dead = false) (hg : okG D.blocks.length g = true) (hn : 26 ≤ D.blocks.length) (h2 : D.blocks[2]? = some (zeros 128)) :
    StW D.blocks g (runW D (commitL g)).1 (runW D (commitL g)).2.blocks := by
  obtain ⟨j, hj, hb, _, hc, _⟩ := run_any (commitL g) D hd (good_commitL hg hn)
  have hl := okG_len hg
  have hcl : (commitL g).length = g.length + (1 + (g.length + 1)) := by unfold commitL doneL; simp [logL_len]; omega
  rw [hb]
  by_cases h1 : j ≤ g.length
  · have hf : (runW D (commitL g)).1 ≠ 0 := fun e => by have := hc.1 e; omega
    have ht : (commitL g).take j = (logL g).take j := by unfold commitL; rw [List.take_append_of_le_length (by rw [logL_len]; exact h1)]
    have hlog : ∀ x ∈ (logL g).take j, 3 ≤ x.1.toNat ∧ x.1.toNat < 26 := fun x hx => by
      obtain ⟨i, hi⟩ := List.mem_iff_getElem?.1 (List.mem_of_mem_take hx)
      have hil := (List.getElem?_eq_some_iff.1 hi).1
      rw [logL_len] at hil
      obtain ⟨y, hy⟩ : ∃ y, g[i]? = some y := ⟨_, List.getElem?_eq_getElem hil⟩
      rw [logL_at hy] at hi; cases hi
      show 3 ≤ (((3 + i : Nat) : Int)).toNat ∧ (((3 + i : Nat) : Int)).toNat < 26
      omega
    rw [ht]
    refine .inl ⟨by rw [putL_not _ _ 2 (fun x hx => by have := hlog x hx; omega)]; exact h2, .inr ⟨hf, fun m ho => ?_⟩⟩
    exact putL_not _ _ m (fun x hx => by have := hlog x hx; unfold outL at ho; omega)
  · -- the header is there
    have hsplit : (commitL g).take j = logL g ++ ((2, hdr g) :: (doneL g).take (j - g.length - 1)) := by
      unfold commitL
      rw [List.take_append, logL_len, List.take_of_length_le (by rw [logL_len]; omega)]
      rw [show j - g.length = (j - g.length - 1) + 1 by omega, List.take_succ_cons]
      rfl
    have hB1 : ∀ B1, B1 = putL D.blocks (logL g ++ [(2, hdr g)]) → (B1.length = D.blocks.length ∧ B1[2]? = some (hdr g) ∧ (∀ i x, g[i]? = some x → B1[3 + i]? = some x.2) ∧ ∀ m, outL m → B1[m]? = D.blocks[m]?) := by
      intro B1 hB
      subst hB
      rw [putL_append]
      show (((putL D.blocks (logL g)).set 2 (hdr g)).length = _ ∧ ((putL D.blocks (logL g)).set 2 (hdr g))[2]? = _ ∧ _)
      refine ⟨by rw [List.length_set, putL_len], by rw [List.getElem?_set_self (by rw [putL_len]; omega)], fun i x hx => ?_, fun m ho => ?_⟩
      · show ((putL D.blocks (logL g)).set 2 (hdr g))[3 + i]? = _
        have hil := (List.getElem?_eq_some_iff.1 hx).1
        rw [List.getElem?_set_ne (by omega)]
        have e : logL g = (logL g).take i ++ [(((3 + i : Nat) : Int), x.2)] ++ (logL g).drop (i + 1) := by
          conv => lhs; rw [← List.take_append_drop (i + 1) (logL g)]
          rw [List.take_add_one, logL_at hx]; rfl
        rw [e, putL_append, putL_not, putL_append]
        · show ((putL D.blocks ((logL g).take i)).set (((3 + i : Nat) : Int)).toNat x.2)[3 + i]? = _
          rw [Int.toNat_natCast, List.getElem?_set_self (by rw [putL_len]; omega)]
        · intro y hy hyi
          obtain ⟨k, hk⟩ := List.mem_iff_getElem?.1 hy
          rw [List.getElem?_drop] at hk
          have hkl := (List.getElem?_eq_some_iff.1 hk).1
          rw [logL_len] at hkl
          obtain ⟨z, hz⟩ : ∃ z, g[i + 1 + k]? = some z := ⟨_, List.getElem?_eq_getElem hkl⟩
          rw [logL_at hz] at hk; cases hk
          have : (((3 + (i + 1 + k) : Nat) : Int)).toNat = 3 + i := hyi
          omega
      · show ((putL D.blocks (logL g)).set 2 (hdr g))[m]? = _
        unfold outL at ho
        rw [List.getElem?_set_ne (by omega)]
        refine putL_not _ _ m (fun x hx => ?_)
        obtain ⟨i, hi⟩ := List.mem_iff_getElem?.1 hx
        have hil := (List.getElem?_eq_some_iff.1 hi).1
        rw [logL_len] at hil
        obtain ⟨y, hy⟩ : ∃ y, g[i]? = some y := ⟨_, List.getElem?_eq_getElem hil⟩
        rw [logL_at hy] at hi; cases hi
        show (((3 + i : Nat) : Int)).toNat ≠ m
        omega
    obtain ⟨b1, b2, b3, b4⟩ := hB1 _ rfl
    have hput : putL D.blocks ((commitL g).take j) = putL (putL D.blocks (logL g ++ [(2, hdr g)])) ((doneL g).take (j - g.length - 1)) := by
      rw [hsplit, ← putL_append]; simp
    rw [hput]
    generalize putL D.blocks (logL g ++ [(2, hdr g)]) = B1 at b1 b2 b3 b4 ⊢
    by_cases h3 : j - g.length - 1 ≤ g.length
    · have hf : (runW D (commitL g)).1 ≠ 0 := fun e => by have := hc.1 e; omega
      rw [done_take h3]
      refine .inr ⟨hf, by rw [putL_not _ _ 2 (take_out hg _ 2 (by omega))]; exact b2, fun i x hx => ?_, fun m ho hx => ?_⟩
      · have hil := (List.getElem?_eq_some_iff.1 hx).1
        rw [putL_not _ _ (3 + i) (take_out hg _ (3 + i) (by omega))]; exact b3 i x hx
      · rw [putL_not _ _ m (fun x hxm => hx x (List.mem_of_mem_take hxm))]; exact b4 m ho
    · have e : (doneL g).take (j - g.length - 1) = doneL g := List.take_of_length_le (by unfold doneL; simp; omega)
      rw [e]
      have := putL_done hg (B := B1) (B0 := D.blocks) (by rw [b1]) rfl (by omega) (fun m ho _ => b4 m ho)
      exact .inl ⟨this.1, .inl this.2⟩
theorem StW.recover {D : DiskS} {g : G2} {B0 : List (List UInt8)} {f : Int} (hd : D.dead = false) (hg : okG D.blocks.length g = true) (hn : 26 ≤ D.blocks.length) (hn2 : D.blocks.length ≤ 1024) (hB0 : B0.length = D.blocks.length) (h : StW B0 g f D.blocks) :
    StW B0 g f (recR D).2.blocks ∧ (D.left = -1 → (recR D).1 = 0 ∧ (SameOut (recR D).2.blocks (putL B0 g) ∨ (f ≠ 0 ∧ SameOut (recR D).2.blocks B0))) := by
  rcases h with ⟨h2, h3⟩ | ⟨hf, h2, h3, h4⟩
  · rw [(rec_zero h2).2]
    exact ⟨.inl ⟨h2, h3⟩, fun _ => ⟨rfl, h3⟩⟩
  · rw [(rec_of hg hn2 h2 h3).2]
    obtain ⟨j, hj, hb, _, hc, hfree⟩ := run_any (doneL g) D hd (good_doneL hg hn)
    have hdl : (doneL g).length = g.length + 1 := by simp [doneL]
    rw [hb]
    have hl := okG_len hg
    have hall := putL_done hg (B := D.blocks) (B0 := B0) rfl (by rw [hB0]) (by omega) h4
    constructor
    · by_cases h5 : j ≤ g.length
      · rw [done_take h5]
        refine .inr ⟨hf, by rw [putL_not _ _ 2 (take_out hg _ 2 (by omega))]; exact h2, fun i x hx => ?_, fun m ho hx => ?_⟩
        · have hil := (List.getElem?_eq_some_iff.1 hx).1
          rw [putL_not _ _ (3 + i) (take_out hg _ (3 + i) (by omega))]; exact h3 i x hx
        · rw [putL_not _ _ m (fun x hxm => hx x (List.mem_of_mem_take hxm))]; exact h4 m ho hx
      · rw [List.take_of_length_le (by omega)]
        exact .inl ⟨hall.1, .inl hall.2⟩
    · intro hleft
      obtain ⟨q1, _, _⟩ := hfree hleft
      rw [List.take_of_length_le (by omega)]
      exact ⟨hc.2 q1, .inl hall.2⟩
/-- All blocks but the log's. -/
def outS (B : List (List UInt8)) : List UInt8 := (List.range B.length).flatMap fun i => if decide (i < 2) || decide (26 ≤ i) then B[i]?.getD [] else []
theorem outS_same {B C : List (List UInt8)} (hl : B.length = C.length) (h : SameOut B C) : outS B = outS C := by
  unfold outS
  rw [hl]
  refine congrArg (fun f => (List.range C.length).flatMap f) (funext fun i => ?_)
  by_cases ho : outL i
  · rw [h i ho]
  · unfold outL at ho
    have h1 : decide (i < 2) = false := decide_eq_false (by omega)
    have h2 : decide (26 ≤ i) = false := decide_eq_false (by omega)
    rw [h1, h2]; rfl
end Go.Proofs.Ytefbkpggmmhgcaa
