/-
  Groups of block writes: whether they may be, their header, what is done of them (plain).
-/
import Derived.Test.YtefbkpggmmhgcaaWlBoth
import Derived.Test.YtefbkpggmmhgcaaWlAdler
import Derived.Test.YtefbkpggmmhgcaaWlGet
namespace Go.Proofs.Ytefbkpggmmhgcaa
open Go.Sep
set_option linter.unusedSimpArgs false
set_option linter.unusedVariables false
abbrev G2 := List (Int × List UInt8)
def okW (n : Int) (x : Int × List UInt8) : Bool := decide (x.2.length = 128) && decide (0 ≤ x.1) && decide (x.1 < n) && !(decide (2 ≤ x.1) && decide (x.1 < 26))
def twice (g : G2) (i : Nat) (a : Int) : Bool := (g.take i).any fun y => y.1 == a
def okAt (n : Int) (g : G2) (i : Nat) : Bool := match g[i]? with
  | none => false
  | some x => okW n x && !twice g i x.1
def okPre (n : Int) (g : G2) (i : Nat) : Bool := (List.range i).all (okAt n g)
def okG (n : Int) (g : G2) : Bool := decide (1 ≤ g.length) && decide (g.length ≤ 20) && okPre n g g.length
theorem okPre_zero (n : Int) (g : G2) : okPre n g 0 = true := rfl
theorem okPre_succ (n : Int) (g : G2) (i : Nat) : okPre n g (i + 1) = (okPre n g i && okAt n g i) := by simp [okPre, List.range_succ]
theorem okPre_le {n : Int} {g : G2} {i j : Nat} (h : j ≤ i) (k : okPre n g i = true) : okPre n g j = true := by
  unfold okPre at k ⊢
  rw [List.all_eq_true] at k ⊢
  exact fun x hx => k x (List.mem_range.2 (Nat.lt_of_lt_of_le (List.mem_range.1 hx) h))
theorem okPre_no {n : Int} {g : G2} {i : Nat} (hi : i < g.length) (h : okAt n g i = false) : okG n g = false := by
  cases hk : okPre n g g.length with
  | false => unfold okG; rw [hk, Bool.and_false]
  | true =>
    have := okPre_le (j := i + 1) hi hk
    rw [okPre_succ, h, Bool.and_false] at this; cases this
theorem okG_all {n : Int} {g : G2} (h1 : 1 ≤ g.length) (h2 : g.length ≤ 20) : okG n g = okPre n g g.length := by unfold okG; rw [decide_eq_true h1, decide_eq_true h2]; rfl
theorem okG_len {n : Int} {g : G2} (h : okG n g = true) : 1 ≤ g.length ∧ g.length ≤ 20 := by
  unfold okG at h
  simp only [Bool.and_eq_true, decide_eq_true_eq] at h
  exact h.1
theorem okG_at {n : Int} {g : G2} (h : okG n g = true) {i : Nat} {x : Int × List UInt8} (hx : g[i]? = some x) : okW n x = true ∧ twice g i x.1 = false := by
  have hl := (List.getElem?_eq_some_iff.1 hx).1
  unfold okG at h
  simp only [Bool.and_eq_true, decide_eq_true_eq] at h
  have := okPre_le (j := i + 1) hl h.2
  rw [okPre_succ] at this
  simp only [Bool.and_eq_true] at this
  have h2 := this.2
  unfold okAt at h2
  rw [hx] at h2
  simpa using h2
theorem okW_data {n : Int} {x : Int × List UInt8} (h : okW n x = true) : x.2.length = 128 := by
  unfold okW at h
  simp only [Bool.and_eq_true, decide_eq_true_eq] at h
  exact h.1.1.1
theorem okW_at {n : Int} {x : Int × List UInt8} (h : okW n x = true) : 0 ≤ x.1 ∧ x.1 < n ∧ ¬ (2 ≤ x.1 ∧ x.1 < 26) := by
  unfold okW at h
  simp only [Bool.and_eq_true, decide_eq_true_eq, Bool.not_eq_true', Bool.and_eq_false_iff, decide_eq_false_iff_not] at h
  omega
theorem twice_succ {g : G2} {k : Nat} {y : Int × List UInt8} (h : g[k]? = some y) (a : Int) : twice g (k + 1) a = (twice g k a || (y.1 == a)) := by
  unfold twice
  rw [List.take_add_one, h, List.any_append]
  simp
/-! ### the header -/
def hdr0 (g : G2) : List UInt8 := le g.length 1 ++ g.flatMap fun x => le x.1 2
def hdrB (g : G2) : List UInt8 := padTo (hdr0 g) 60
def datas (g : G2) : List UInt8 := g.flatMap (·.2)
def hdrS (g : G2) : Nat := adMore 1 (hdrB g ++ datas g)
def hdr1 (g : G2) : List UInt8 := hdrB g ++ le (hdrS g) 4
def hdr (g : G2) : List UInt8 := padTo (hdr1 g) 128
theorem flat_len {α : Type} (f : α → List UInt8) (n : Nat) : ∀ l : List α, (∀ x ∈ l, (f x).length = n) → (l.flatMap f).length = l.length * n
  | [], _ => by simp
  | x :: l, h => by
    rw [List.flatMap_cons, List.length_append, flat_len f n l (fun y hy => h y (List.mem_cons_of_mem _ hy)), h x (List.mem_cons_self ..), List.length_cons]
    rw [Nat.succ_mul]; omega
theorem hdr0_len (g : G2) : (hdr0 g).length = 1 + 2 * g.length := by
  unfold hdr0
  rw [List.length_append, le_length, flat_len _ 2 g (fun x _ => le_length _ _)]; omega
theorem hdrB_len {g : G2} (h : g.length ≤ 20) : (hdrB g).length = 60 := padTo_length (by rw [hdr0_len]; omega)
theorem hdr1_len {g : G2} (h : g.length ≤ 20) : (hdr1 g).length = 64 := by unfold hdr1; rw [List.length_append, hdrB_len h, le_length]
theorem hdr_len {g : G2} (h : g.length ≤ 20) : (hdr g).length = 128 := padTo_length (by rw [hdr1_len h]; omega)
theorem hdrS_lt (g : G2) : hdrS g < 4294967296 := (adMore_lt 1 _).2.2
/-- What is summed behind the first i writes' bytes. -/
def hsum (g : G2) (i : Nat) : Nat := adMore 1 (hdrB g ++ datas (g.take i))
theorem hsum_zero (g : G2) : hsum g 0 = adMore 1 (hdrB g) := by unfold hsum datas; simp
theorem hsum_succ {g : G2} {i : Nat} {x : Int × List UInt8} (h : g[i]? = some x) : hsum g (i + 1) = adMore (hsum g i) x.2 := by
  unfold hsum datas
  rw [List.take_add_one, h, List.flatMap_append, adMore_append, ← List.append_assoc]
  simp
theorem hsum_all (g : G2) : hsum g g.length = hdrS g := by unfold hsum hdrS; rw [List.take_length]
theorem hsum_lt (g : G2) (i : Nat) : hsum g i < 4294967296 := (adMore_lt 1 _).2.2
/-! ### several writes, one by one -/
def runW : DiskS → G2 → Int × DiskS
  | D, [] => (0, D)
  | D, x :: l => if wcode D x.1 x.2.length = 0 then runW (wnext D x.1 x.2) l else (wcode D x.1 x.2.length, wnext D x.1 x.2)
theorem runW_append (l m : G2) : ∀ D, runW D (l ++ m) = if (runW D l).1 = 0 then runW (runW D l).2 m else runW D l := by
  induction l with
  | nil => intro D; rfl
  | cons x l ih =>
    intro D
    show (if wcode D x.1 x.2.length = 0 then runW (wnext D x.1 x.2) (l ++ m) else _) = _
    by_cases h : wcode D x.1 x.2.length = 0
    · have e : runW D (x :: l) = runW (wnext D x.1 x.2) l := by show (if _ then _ else _) = _; rw [if_pos h]
      rw [if_pos h, e]; exact ih _
    · have e : runW D (x :: l) = (wcode D x.1 x.2.length, wnext D x.1 x.2) := by show (if _ then _ else _) = _; rw [if_neg h]
      rw [if_neg h, e, if_neg h]
theorem runW_one (D : DiskS) (x : Int × List UInt8) : runW D [x] = (wcode D x.1 x.2.length, wnext D x.1 x.2) := by
  show (if wcode D x.1 x.2.length = 0 then runW (wnext D x.1 x.2) [] else _) = _
  by_cases h : wcode D x.1 x.2.length = 0
  · rw [if_pos h, h]; rfl
  · rw [if_neg h]
theorem runW_next {D D' : DiskS} {l : G2} {i : Nat} {x : Int × List UInt8} (h : runW D (l.take i) = (0, D')) (hx : l[i]? = some x) : runW D (l.take (i + 1)) = (wcode D' x.1 x.2.length, wnext D' x.1 x.2) := by
  rw [List.take_add_one, hx, runW_append, h, if_pos rfl]
  exact runW_one D' x
theorem runW_stop {D : DiskS} {l : G2} {i : Nat} (h : (runW D (l.take i)).1 ≠ 0) : runW D l = runW D (l.take i) := by
  conv => lhs; rw [← List.take_append_drop i l]
  rw [runW_append, if_neg h]
theorem wnext_len (D : DiskS) (n : Int) (b : List UInt8) : (wnext D n b).blocks.length = D.blocks.length := by
  unfold wnext
  split
  · rfl
  · split
    · rfl
    · split
      · rfl
      · simp [DiskS.wrote]
/-- What a disk keeps: so many blocks, so many writes at the most. -/
structure DG (D : DiskS) (k : Nat) : Prop where
  ok : D.Ok
  lo : -1 ≤ D.left
  hi : D.left ≤ 9223372036854775807
  wr : D.writes.length ≤ k
theorem DG.next {D : DiskS} {k : Nat} (h : DG D k) (n : Int) (b : List UInt8) : DG (wnext D n b) (k + 1) := by
  have h4 := h.wr
  unfold wnext
  split
  · exact ⟨h.ok, h.lo, h.hi, by omega⟩
  · split
    · exact ⟨h.ok, h.lo, h.hi, by omega⟩
    · rename_i h2
      split
      · exact ⟨⟨h.ok.len, h.ok.base, h.ok.at_⟩, h.lo, h.hi, by show D.writes.length ≤ _; omega⟩
      · unfold bad at h2
        refine ⟨⟨by simp only [DiskS.wrote, List.length_set]; exact h.ok.len, by simp only [DiskS.wrote, List.length_set]; exact h.ok.base, ?_⟩, ?_, ?_, by simp [DiskS.wrote]; omega⟩
        · intro x hx
          simp only [DiskS.wrote, List.mem_append, List.mem_singleton, List.length_set] at hx ⊢
          rcases hx with hx | rfl
          · exact h.ok.at_ x hx
          · show n.toNat < _; omega
        · have := h.lo; have := h.hi; simp only [DiskS.wrote]; split <;> omega
        · have := h.lo; have := h.hi; simp only [DiskS.wrote]; split <;> omega
theorem DG.run {D : DiskS} {k : Nat} (l : G2) : DG D k → DG (runW D l).2 (k + l.length) := by
  induction l generalizing D k with
  | nil => exact fun h => h
  | cons x l ih =>
    intro h
    show DG (if wcode D x.1 x.2.length = 0 then runW (wnext D x.1 x.2) l else (wcode D x.1 x.2.length, wnext D x.1 x.2)).2 _
    have h2 := h.next x.1 x.2
    split
    · have := ih h2
      simp only [List.length_cons]
      rwa [show k + (l.length + 1) = k + 1 + l.length by omega]
    · exact ⟨h2.ok, h2.lo, h2.hi, by have := h2.wr; simp only [List.length_cons]; omega⟩
theorem DG.mono {D : DiskS} {k m : Nat} (h : DG D k) (hk : k ≤ m) : DG D m := ⟨h.ok, h.lo, h.hi, by have := h.wr; omega⟩
/-! ### a group: into the log, its header, to its places -/
def logL (g : G2) : G2 := (List.range g.length).map fun i => ((3 + i : Nat), (g.map (·.2))[i]?.getD [])
def doneL (g : G2) : G2 := g ++ [(2, zeros 128)]
def commitL (g : G2) : G2 := logL g ++ (2, hdr g) :: doneL g
theorem logL_len (g : G2) : (logL g).length = g.length := by simp [logL]
theorem logL_at {g : G2} {i : Nat} {x : Int × List UInt8} (h : g[i]? = some x) : (logL g)[i]? = some (((3 + i : Nat) : Int), x.2) := by
  obtain ⟨hl, hx⟩ := List.getElem?_eq_some_iff.1 h
  simp [logL, hl, hx]
def commitR (D : DiskS) (g : G2) : Int × DiskS := if okG D.blocks.length g then runW D (commitL g) else (1, D)
def atB (D : DiskS) (n : Nat) : List UInt8 := D.blocks[n]?.getD []
/-- What the log says. -/
def logN (D : DiskS) : Nat := getN (atB D 2) 0 1
def logG (D : DiskS) (n : Nat) : G2 := (List.range n).map fun i => ((getN (atB D 2) (1 + 2 * i) 2 : Nat), atB D (3 + i))
theorem logG_len (D : DiskS) (n : Nat) : (logG D n).length = n := by simp [logG]
theorem logG_succ (D : DiskS) (n : Nat) : logG D (n + 1) = logG D n ++ [(((getN (atB D 2) (1 + 2 * n) 2 : Nat) : Int), atB D (3 + n))] := by simp [logG, List.range_succ]
def recOk (D : DiskS) : Bool := decide (logN D ≤ 20) && okG D.blocks.length (logG D (logN D)) && decide (hdr (logG D (logN D)) = atB D 2)
def recR (D : DiskS) : Int × DiskS := if recOk D then runW D (doneL (logG D (logN D))) else (0, D)
def recB (D : DiskS) : Bool := recOk D && decide ((recR D).1 = 0)
end Go.Proofs.Ytefbkpggmmhgcaa
