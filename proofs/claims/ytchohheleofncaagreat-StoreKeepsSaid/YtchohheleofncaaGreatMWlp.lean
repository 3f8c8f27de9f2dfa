/-
 Adler for wal: contracts of adler.More, adler.Of, the document's More and Of, Place.
 Groups of block writes: whether they may be, their header, what is done of them (plain).
 Groups of block writes: what the laws ask (plain).
 Package wal: Check.
-/
import Derived.Test.YtchohheleofncaaGreatRows
import Derived.Test.YtchohheleofncaaGreatMSep
import Derived.Test.YtchohheleofncaaGreatMReg
import Derived.Lib.Hide
import Derived.Test.YtchohheleofncaaGreatTypes
import Derived.Test.YtchohheleofncaaGreatMDsk
import Derived.Test.YtchohheleofncaaGreatMRpt
set_option linter.unusedSimpArgs false
set_option linter.unusedVariables false
namespace Go.Proofs.YtchohheleofncaaGreat
open Go.RowKit Go.Sep
attribute [local irreducible] Go.Oper.wp Go.wpList Go.Calls Go.Code.wp Go.Sep.Reg
def adStep (p : Nat × Nat) (x : UInt8) : Nat × Nat := ((p.1 + x.toNat) % 65521, (p.2 + (p.1 + x.toNat) % 65521) % 65521)
def adFold (p : Nat × Nat) (l : List UInt8) : Nat × Nat := l.foldl adStep p
def adOut (p : Nat × Nat) : Nat := p.2 * 65536 + p.1
def adIn (s : Nat) : Nat × Nat := (s % 65536 % 65521, s / 65536 % 65521)
def adMore (s : Nat) (l : List UInt8) : Nat := adOut (adFold (adIn s) l)
theorem wret_int {k : IntKind} {a b : Int} (h : a = b) : Ending.returned (.int k a) = .returned (.int k b) := by rw [h]
theorem adFold_lt {p : Nat × Nat} (h : p.1 < 65521 ∧ p.2 < 65521) : ∀ l, (adFold p l).1 < 65521 ∧ (adFold p l).2 < 65521 := by
 intro l
 induction l generalizing p with
 | nil => exact h
 | cons x l ih => exact ih ⟨Nat.mod_lt _ (by omega), Nat.mod_lt _ (by omega)⟩
theorem adIn_lt (s : Nat) : (adIn s).1 < 65521 ∧ (adIn s).2 < 65521 := ⟨Nat.mod_lt _ (by omega), Nat.mod_lt _ (by omega)⟩
theorem adFold_snoc (p : Nat × Nat) (l : List UInt8) (k : Nat) (h : k < l.length) : adFold p (l.take (k + 1)) = adStep (adFold p (l.take k)) l[k] := by
 rw [List.take_succ_eq_append_getElem h]; unfold adFold; rw [List.foldl_append]; rfl
theorem bv_at {l : List UInt8} {k : Nat} (h : k < l.length) : (bv l)[k]? = some (.int .u8 ((l[k]).toNat : Int)) := by simp [bv, h, u8]
theorem and_low (s : Nat) (h : s < 4294967296) : bits .and .u32 (s : Int) 65535 = ((s % 65536 : Nat) : Int) := by
 have := u32_and_nat s 65535 h (by omega)
 rw [show (65535 : Int) = ((65535 : Nat) : Int) from rfl, this, show 65535 = 2 ^ 16 - 1 from rfl, Nat.and_two_pow_sub_one_eq_mod]
theorem or_join (c a : Nat) (hc : c < 65536) (ha : a < 65536) : bits .or .u32 ((c : Int) * 65536) (a : Int) = ((c * 65536 + a : Nat) : Int) := by
 have h := u32_or_nat (c * 65536) a (by omega) (by omega)
 rw [nat_join 16 (c * 65536) a (by rw [show (2 : Nat) ^ 16 = 65536 from rfl]; omega) (by rw [show (2 : Nat) ^ 16 = 65536 from rfl]; omega)] at h
 rw [← h]; simp
set_option maxHeartbeats 400000 in
theorem more_any (s : Nat) (hs : s < 4294967296) (l : List UInt8) (v : Value) (w : World) (h : Rd w v l.length 1 (bv l)) :
  Calls Tryz.prog 125 #[.int .u32 s, v] w fun e w' => e = .returned (.int .u32 (adMore s l)) ∧ w = w' := by
 obtain ⟨ao, cap, rfl, h1, h2, h3, h4⟩ := h
 have hl := and_low s hs
 have hlm : l.length ≤ 9223372036854775807 := by omega
 go_enter Tryz.func125, Tryz.ntmps125
 go_wp2
 go_loop [5, 6, 16] (fun a c i => ∃ k : Nat, k ≤ l.length ∧ i = .int .i64 k ∧ a = .int .u32 ((adFold (adIn s) (l.take k)).1 : Nat) ∧ c = .int .u32 ((adFold (adIn s) (l.take k)).2 : Nat)) (fun _ _ i => l.length - (intOf i).toNat)
 case atStart => exact ⟨0, Nat.zero_le _, rfl, by simp [adFold, adIn], by simp [adFold, adIn]⟩
 case round =>
  obtain ⟨k, hk, rfl, rfl, rfl⟩ := hrel
  have hlt := adFold_lt (adIn_lt s) (l.take k)
  have hst := adFold_snoc (adIn s) l k
  generalize hp : adFold (adIn s) (l.take k) = p at *
  have Hp := Lib.hid hp
  clear hp
  obtain ⟨a, c⟩ := p
  obtain ⟨ha, hc⟩ := hlt
  simp only at ha hc
  by_cases hkl : k < l.length
  ·obtain ⟨b, off, rfl, hcell⟩ := h4 (by omega)
   have hc0 := hcell k _ (bv_at hkl)
   have hx : (l[k]).toNat < 256 := UInt8.toNat_lt _
   have hst := hst hkl
   have Hst := Lib.hid hst
   clear hst h4 hcell
   go_wp2
   go_round
   case rel => exact ⟨k + 1, by omega, by go_num, by rw [Hst.out]; simp [adStep], by rw [Hst.out]; simp [adStep]⟩
   case measure => simp [intOf]; omega
  ·obtain rfl : k = l.length := by omega
   go_wp2
   go_ret
   refine ⟨wret_int ?_, rfl⟩
   have hp := Hp.out
   rw [List.take_length] at hp
   rw [or_join c a (by omega) (by omega), adMore, hp]; rfl
theorem of_any (l : List UInt8) (v : Value) (w : World) (h : Rd w v l.length 1 (bv l)) :
  Calls Tryz.prog 124 #[v] w fun e w' => e = .returned (.int .u32 (adMore 1 l)) ∧ w = w' := by
 go_enter Tryz.func124, Tryz.ntmps124
 go_wp2_with (go_at_call 125; refine (more_any 1 (by omega) l _ _ h).mono ?_; rintro e w' ⟨rfl, rfl⟩)
 go_ret
 exact ⟨rfl, rfl⟩
theorem adIn_out (p : Nat × Nat) (h1 : p.1 < 65521) (h2 : p.2 < 65521) : adIn (adOut p) = p := by
 obtain ⟨a, c⟩ := p
 simp only [adIn, adOut] at *
 rw [Prod.mk.injEq]; omega
theorem adMore_append (s : Nat) (l m : List UInt8) : adMore (adMore s l) m = adMore s (l ++ m) := by
 have h := adFold_lt (adIn_lt s) l
 unfold adMore
 rw [adIn_out _ h.1 h.2]
 unfold adFold; rw [List.foldl_append]
theorem adMore_lt (s : Nat) (l : List UInt8) : adMore s l % 65536 < 65521 ∧ adMore s l / 65536 < 65521 ∧ adMore s l < 4294967296 := by
 have h := adFold_lt (adIn_lt s) l
 unfold adMore adOut
 omega
def sumB (l : List UInt8) : Nat := (l.map UInt8.toNat).sum
end Go.Proofs.YtchohheleofncaaGreat
namespace Go.Proofs.YtchohheleofncaaGreat
open Go.Sep
abbrev G2 := List (Int × List UInt8)
def okW (n : Int) (x : Int × List UInt8) : Bool := decide (x.2.length = 128) && decide (0 ≤ x.1) && decide (x.1 < n) && !(decide (2 ≤ x.1) && decide (x.1 < 26))
def twice (g : G2) (i : Nat) (a : Int) : Bool := (g.take i).any fun y => y.1 == a
def okAt (n : Int) (g : G2) (i : Nat) : Bool := match g[i]? with
 | none => false
 | some x => okW n x && !twice g i x.1
def okPre (n : Int) (g : G2) (i : Nat) : Bool := (List.range i).all (okAt n g)
def okG (n : Int) (g : G2) : Bool := decide (1 ≤ g.length) && decide (g.length ≤ 20) && okPre n g g.length
theorem okPre_succ (n : Int) (g : G2) (i : Nat) : okPre n g (i + 1) = (okPre n g i && okAt n g i) := by simp [okPre, List.range_succ]
theorem okPre_le {n : Int} {g : G2} {i j : Nat} (h : j ≤ i) (k : okPre n g i = true) : okPre n g j = true := by
 unfold okPre at k ⊢
 rw [List.all_eq_true] at k ⊢
 exact fun x hx => k x (List.mem_range.2 (Nat.lt_of_lt_of_le (List.mem_range.1 hx) h))
theorem okPre_no {n : Int} {g : G2} {i : Nat} (hi : i < g.length) (h : okAt n g i = false) : okG n g = false := by
 cases hk : okPre n g g.length with
 | false => unfold okG; rw [hk, Bool.and_false]
 | true =>
  have := okPre_le (j := i + 1) hi hk
  rw [okPre_succ, h, Bool.and_false] at this; cases this
theorem okG_all {n : Int} {g : G2} (h1 : 1 ≤ g.length) (h2 : g.length ≤ 20) : okG n g = okPre n g g.length := by unfold okG; rw [decide_eq_true h1, decide_eq_true h2]; rfl
theorem okG_len {n : Int} {g : G2} (h : okG n g = true) : 1 ≤ g.length ∧ g.length ≤ 20 := by
 unfold okG at h
 simp only [Bool.and_eq_true, decide_eq_true_eq] at h
 exact h.1
theorem okG_at {n : Int} {g : G2} (h : okG n g = true) {i : Nat} {x : Int × List UInt8} (hx : g[i]? = some x) : okW n x = true ∧ twice g i x.1 = false := by
 have hl := (List.getElem?_eq_some_iff.1 hx).1
 unfold okG at h
 simp only [Bool.and_eq_true, decide_eq_true_eq] at h
 have := okPre_le (j := i + 1) hl h.2
 rw [okPre_succ] at this
 simp only [Bool.and_eq_true] at this
 have h2 := this.2
 unfold okAt at h2
 rw [hx] at h2
 simpa using h2
theorem okW_data {n : Int} {x : Int × List UInt8} (h : okW n x = true) : x.2.length = 128 := by
 unfold okW at h
 simp only [Bool.and_eq_true, decide_eq_true_eq] at h
 exact h.1.1.1
theorem okW_at {n : Int} {x : Int × List UInt8} (h : okW n x = true) : 0 ≤ x.1 ∧ x.1 < n ∧ ¬ (2 ≤ x.1 ∧ x.1 < 26) := by
 unfold okW at h
 simp only [Bool.and_eq_true, decide_eq_true_eq, Bool.not_eq_true', Bool.and_eq_false_iff, decide_eq_false_iff_not] at h
 omega
/-! ### the header -/
def hdr0 (g : G2) : List UInt8 := le g.length 1 ++ g.flatMap fun x => le x.1 2
def hdrB (g : G2) : List UInt8 := padTo (hdr0 g) 60
def datas (g : G2) : List UInt8 := g.flatMap (·.2)
def hdrS (g : G2) : Nat := adMore 1 (hdrB g ++ datas g)
def hdr1 (g : G2) : List UInt8 := hdrB g ++ le (hdrS g) 4
def hdr (g : G2) : List UInt8 := padTo (hdr1 g) 128
theorem wflat_len {α : Type} (f : α → List UInt8) (n : Nat) : ∀ l : List α, (∀ x ∈ l, (f x).length = n) → (l.flatMap f).length = l.length * n
 | [], _ => by simp
 | x :: l, h => by
  rw [List.flatMap_cons, List.length_append, wflat_len f n l (fun y hy => h y (List.mem_cons_of_mem _ hy)), h x (List.mem_cons_self ..), List.length_cons]
  rw [Nat.succ_mul]; omega
theorem hdr0_len (g : G2) : (hdr0 g).length = 1 + 2 * g.length := by
 unfold hdr0
 rw [List.length_append, le_length, wflat_len _ 2 g (fun x _ => le_length _ _)]; omega
theorem hdrB_len {g : G2} (h : g.length ≤ 20) : (hdrB g).length = 60 := padTo_length (by rw [hdr0_len]; omega)
theorem hdr1_len {g : G2} (h : g.length ≤ 20) : (hdr1 g).length = 64 := by unfold hdr1; rw [List.length_append, hdrB_len h, le_length]
theorem hdr_len {g : G2} (h : g.length ≤ 20) : (hdr g).length = 128 := padTo_length (by rw [hdr1_len h]; omega)
theorem hdrS_lt (g : G2) : hdrS g < 4294967296 := (adMore_lt 1 _).2.2
def hsum (g : G2) (i : Nat) : Nat := adMore 1 (hdrB g ++ datas (g.take i))
theorem hsum_zero (g : G2) : hsum g 0 = adMore 1 (hdrB g) := by unfold hsum datas; simp
theorem hsum_succ {g : G2} {i : Nat} {x : Int × List UInt8} (h : g[i]? = some x) : hsum g (i + 1) = adMore (hsum g i) x.2 := by
 unfold hsum datas
 rw [List.take_add_one, h, List.flatMap_append, adMore_append, ← List.append_assoc]
 simp
theorem hsum_all (g : G2) : hsum g g.length = hdrS g := by unfold hsum hdrS; rw [List.take_length]
theorem hsum_lt (g : G2) (i : Nat) : hsum g i < 4294967296 := (adMore_lt 1 _).2.2
/-! ### several writes, one by one -/
def runW : DiskS → G2 → Int × DiskS
 | D, [] => (0, D)
 | D, x :: l => if wcode D x.1 x.2.length = 0 then runW (wnext D x.1 x.2) l else (wcode D x.1 x.2.length, wnext D x.1 x.2)
theorem runW_append (l m : G2) : ∀ D, runW D (l ++ m) = if (runW D l).1 = 0 then runW (runW D l).2 m else runW D l := by
 induction l with
 | nil => intro D; rfl
 | cons x l ih =>
  intro D
  show (if wcode D x.1 x.2.length = 0 then runW (wnext D x.1 x.2) (l ++ m) else _) = _
  by_cases h : wcode D x.1 x.2.length = 0
  ·have e : runW D (x :: l) = runW (wnext D x.1 x.2) l := by show (if _ then _ else _) = _; rw [if_pos h]
   rw [if_pos h, e]; exact ih _
  ·have e : runW D (x :: l) = (wcode D x.1 x.2.length, wnext D x.1 x.2) := by show (if _ then _ else _) = _; rw [if_neg h]
   rw [if_neg h, e, if_neg h]
theorem runW_one (D : DiskS) (x : Int × List UInt8) : runW D [x] = (wcode D x.1 x.2.length, wnext D x.1 x.2) := by
 show (if wcode D x.1 x.2.length = 0 then runW (wnext D x.1 x.2) [] else _) = _
 by_cases h : wcode D x.1 x.2.length = 0
 ·rw [if_pos h, h]; rfl
 ·rw [if_neg h]
theorem runW_next {D D' : DiskS} {l : G2} {i : Nat} {x : Int × List UInt8} (h : runW D (l.take i) = (0, D')) (hx : l[i]? = some x) : runW D (l.take (i + 1)) = (wcode D' x.1 x.2.length, wnext D' x.1 x.2) := by
 rw [List.take_add_one, hx, runW_append, h, if_pos rfl]
 exact runW_one D' x
theorem runW_stop {D : DiskS} {l : G2} {i : Nat} (h : (runW D (l.take i)).1 ≠ 0) : runW D l = runW D (l.take i) := by
 conv => lhs; rw [← List.take_append_drop i l]
 rw [runW_append, if_neg h]
structure DG (D : DiskS) (k : Nat) : Prop where
 ok : D.Ok
 lo : -1 ≤ D.left
 hi : D.left ≤ 9223372036854775807
 wr : D.writes.length ≤ k
theorem DG.next {D : DiskS} {k : Nat} (h : DG D k) (n : Int) (b : List UInt8) : DG (wnext D n b) (k + 1) := by
 have h4 := h.wr
 unfold wnext
 split
 ·exact ⟨h.ok, h.lo, h.hi, by omega⟩
 ·split
  ·exact ⟨h.ok, h.lo, h.hi, by omega⟩
  ·rename_i h2
   split
   ·exact ⟨⟨h.ok.len, h.ok.base, h.ok.at_⟩, h.lo, h.hi, by show D.writes.length ≤ _; omega⟩
   ·unfold bad at h2
    refine ⟨⟨by simp only [DiskS.wrote, List.length_set]; exact h.ok.len, by simp only [DiskS.wrote, List.length_set]; exact h.ok.base, ?_⟩, ?_, ?_, by simp [DiskS.wrote]; omega⟩
    ·intro x hx
     simp only [DiskS.wrote, List.mem_append, List.mem_singleton, List.length_set] at hx ⊢
     rcases hx with hx | rfl
     ·exact h.ok.at_ x hx
     ·show n.toNat < _; omega
    ·have := h.lo; have := h.hi; simp only [DiskS.wrote]; split <;> omega
    ·have := h.lo; have := h.hi; simp only [DiskS.wrote]; split <;> omega
theorem DG.run {D : DiskS} {k : Nat} (l : G2) : DG D k → DG (runW D l).2 (k + l.length) := by
 induction l generalizing D k with
 | nil => exact fun h => h
 | cons x l ih =>
  intro h
  show DG (if wcode D x.1 x.2.length = 0 then runW (wnext D x.1 x.2) l else (wcode D x.1 x.2.length, wnext D x.1 x.2)).2 _
  have h2 := h.next x.1 x.2
  split
  ·have := ih h2
   simp only [List.length_cons]
   rwa [show k + (l.length + 1) = k + 1 + l.length by omega]
  ·exact ⟨h2.ok, h2.lo, h2.hi, by have := h2.wr; simp only [List.length_cons]; omega⟩
theorem DG.mono {D : DiskS} {k m : Nat} (h : DG D k) (hk : k ≤ m) : DG D m := ⟨h.ok, h.lo, h.hi, by have := h.wr; omega⟩
/-! ### a group: into the log, its header, to its places -/
def logL (g : G2) : G2 := (List.range g.length).map fun i => ((3 + i : Nat), (g.map (·.2))[i]?.getD [])
def doneL (g : G2) : G2 := g ++ [(2, zeros 128)]
def commitL (g : G2) : G2 := logL g ++ (2, hdr g) :: doneL g
theorem logL_len (g : G2) : (logL g).length = g.length := by simp [logL]
theorem logL_at {g : G2} {i : Nat} {x : Int × List UInt8} (h : g[i]? = some x) : (logL g)[i]? = some (((3 + i : Nat) : Int), x.2) := by
 obtain ⟨hl, hx⟩ := List.getElem?_eq_some_iff.1 h
 simp [logL, hl, hx]
def commitR (D : DiskS) (g : G2) : Int × DiskS := if okG D.blocks.length g then runW D (commitL g) else (1, D)
def atB (D : DiskS) (n : Nat) : List UInt8 := D.blocks[n]?.getD []
def logN (D : DiskS) : Nat := getN (atB D 2) 0 1
def logG (D : DiskS) (n : Nat) : G2 := (List.range n).map fun i => ((getN (atB D 2) (1 + 2 * i) 2 : Nat), atB D (3 + i))
theorem logG_len (D : DiskS) (n : Nat) : (logG D n).length = n := by simp [logG]
theorem logG_succ (D : DiskS) (n : Nat) : logG D (n + 1) = logG D n ++ [(((getN (atB D 2) (1 + 2 * n) 2 : Nat) : Int), atB D (3 + n))] := by simp [logG, List.range_succ]
def wrecOk (D : DiskS) : Bool := decide (logN D ≤ 20) && okG D.blocks.length (logG D (logN D)) && decide (hdr (logG D (logN D)) = atB D 2)
def recR (D : DiskS) : Int × DiskS := if wrecOk D then runW D (doneL (logG D (logN D))) else (0, D)
def recB (D : DiskS) : Bool := wrecOk D && decide ((recR D).1 = 0)

end Go.Proofs.YtchohheleofncaaGreat
namespace Go.Proofs.YtchohheleofncaaGreat
open Go.Sep
/-! ### writes to blocks -/
def Good (n : Nat) (l : G2) : Prop := ∀ x ∈ l, 0 ≤ x.1 ∧ x.1 < n ∧ x.2.length = 128
def putL (bs : List (List UInt8)) (l : G2) : List (List UInt8) := l.foldl (fun bs x => bs.set x.1.toNat x.2) bs
theorem putL_len (l : G2) : ∀ bs, (putL bs l).length = bs.length := by
 induction l with
 | nil => intro bs; rfl
 | cons x l ih => intro bs; show (putL (bs.set x.1.toNat x.2) l).length = _; rw [ih, List.length_set]
theorem putL_append (bs : List (List UInt8)) (l m : G2) : putL bs (l ++ m) = putL (putL bs l) m := by unfold putL; rw [List.foldl_append]
theorem putL_not (l : G2) : ∀ (bs : List (List UInt8)) (m : Nat), (∀ x ∈ l, x.1.toNat ≠ m) → (putL bs l)[m]? = bs[m]? := by
 induction l with
 | nil => intro bs m _; rfl
 | cons x l ih =>
  intro bs m h
  show (putL (bs.set x.1.toNat x.2) l)[m]? = _
  rw [ih _ m (fun y hy => h y (List.mem_cons_of_mem _ hy)), List.getElem?_set_ne (h x (List.mem_cons_self ..))]
theorem okG_ne {n : Int} {g : G2} (h : okG n g = true) {i j : Nat} {x y : Int × List UInt8} (hij : i < j) (hx : g[i]? = some x) (hy : g[j]? = some y) : x.1 ≠ y.1 := by
 intro e
 have := (okG_at h hy).2
 unfold twice at this
 rw [List.any_eq_false] at this
 have h2 : x ∈ g.take j := List.mem_of_getElem? (i := i) (by rw [List.getElem?_take, if_pos hij, hx])
 exact this x h2 (by simp [e])
theorem putL_at {n : Int} {g : G2} (h : okG n g = true) (bs : List (List UInt8)) (hn : (bs.length : Int) = n) {i : Nat} {x : Int × List UInt8} (hx : g[i]? = some x) : (putL bs g)[x.1.toNat]? = some x.2 := by
 have hw := okW_at (okG_at h hx).1
 have e : g = g.take i ++ [x] ++ g.drop (i + 1) := by
  conv => lhs; rw [← List.take_append_drop (i + 1) g]
  rw [List.take_add_one, hx]; rfl
 conv => lhs; rw [e]
 rw [putL_append, putL_not, putL_append]
 ·show ((putL bs (g.take i)).set x.1.toNat x.2)[x.1.toNat]? = _
  rw [List.getElem?_set_self (by rw [putL_len]; omega)]
 ·intro y hy hxy
  obtain ⟨j, hj⟩ := List.mem_iff_getElem?.1 hy
  rw [List.getElem?_drop] at hj
  have hwy := okW_at (okG_at h hj).1
  exact okG_ne h (show i < i + 1 + j by omega) hx hj (by omega)
theorem run_any (l : G2) : ∀ D : DiskS, D.dead = false → Good D.blocks.length l → ∃ j, j ≤ l.length ∧ (runW D l).2.blocks = putL D.blocks (l.take j) ∧ (runW D l).2.writes.length = D.writes.length + j ∧ ((runW D l).1 = 0 ↔ j = l.length) ∧ (D.left = -1 → j = l.length ∧ (runW D l).2.dead = false ∧ (runW D l).2.left = -1) := by
 induction l with
 | nil => exact fun D hd _ => ⟨0, Nat.le_refl _, rfl, rfl, by simp [runW], fun h => ⟨rfl, hd, h⟩⟩
 | cons x l ih =>
  intro D hd hG
  obtain ⟨g1, g2, g3⟩ := hG x (List.mem_cons_self ..)
  have hb : ¬ bad D.blocks.length x.1 x.2.length := by unfold bad; omega
  by_cases hl : D.left = 0
  ·have hc : wcode D x.1 x.2.length = 22 := by unfold wcode; rw [hd, if_neg (by simp), if_neg hb, if_pos hl]
   have hn : wnext D x.1 x.2 = { D with dead := true } := by unfold wnext; rw [if_neg (by simp [hd]), if_neg hb, if_pos hl]
   have e : runW D (x :: l) = (22, { D with dead := true }) := by show (if _ then _ else _) = _; rw [hc, if_neg (by decide), hn]
   rw [e]
   refine ⟨0, Nat.zero_le _, rfl, rfl, by simp, fun h => ?_⟩
   rw [hl] at h; cases h
  ·have hc : wcode D x.1 x.2.length = 0 := by unfold wcode; rw [hd, if_neg (by simp), if_neg hb, if_neg hl]
   have hn : wnext D x.1 x.2 = D.wrote x.1.toNat x.2 := by unfold wnext; rw [if_neg (by simp [hd]), if_neg hb, if_neg hl]
   have e : runW D (x :: l) = runW (D.wrote x.1.toNat x.2) l := by show (if _ then _ else _) = _; rw [hc, if_pos rfl, hn]
   rw [e]
   obtain ⟨j, h1, h2, h3, h4, h5⟩ := ih (D.wrote x.1.toNat x.2) hd (fun y hy => by rw [wrote_len]; exact hG y (List.mem_cons_of_mem _ hy))
   refine ⟨j + 1, by simp only [List.length_cons]; omega, by rw [h2]; rfl, ?_, by rw [h4, List.length_cons]; omega, fun h => ?_⟩
   ·rw [h3]; simp [DiskS.wrote]; omega
   ·obtain ⟨q1, q2, q3⟩ := h5 (by simp [DiskS.wrote, h])
    exact ⟨by rw [q1, List.length_cons], q2, q3⟩
structure Inv (D : DiskS) : Prop where
 ok : D.Ok
 blk : D.blocks = applyW D.start D.writes
theorem Inv.next {D : DiskS} (h : Inv D) (n : Int) (b : List UInt8) : Inv (wnext D n b) := by
 unfold wnext
 split
 ·exact h
 ·split
  ·exact h
  ·rename_i h2
   unfold bad at h2
   split
   ·exact ⟨⟨h.ok.len, h.ok.base, h.ok.at_⟩, h.blk⟩
   ·refine ⟨⟨by simp only [DiskS.wrote, List.length_set]; exact h.ok.len, by simp only [DiskS.wrote, List.length_set]; exact h.ok.base, ?_⟩, ?_⟩
    ·intro x hx
     simp only [DiskS.wrote, List.mem_append, List.mem_singleton, List.length_set] at hx ⊢
     rcases hx with hx | rfl
     ·exact h.ok.at_ x hx
     ·show n.toNat < _; omega
    ·have hs : (D.wrote n.toNat b).start = D.start := by simp [DiskS.start, DiskS.wrote]
     rw [hs]
     show D.blocks.set n.toNat b = applyW D.start (D.writes ++ [(n.toNat, b)])
     rw [applyW_snoc, ← h.blk]
theorem Inv.run (l : G2) : ∀ {D : DiskS}, Inv D → Inv (runW D l).2 := by
 induction l with
 | nil => exact fun h => h
 | cons x l ih =>
  intro D h
  show Inv (if wcode D x.1 x.2.length = 0 then runW (wnext D x.1 x.2) l else (wcode D x.1 x.2.length, wnext D x.1 x.2)).2
  split
  ·exact ih (h.next _ _)
  ·exact h.next _ _
theorem Inv.image {D : DiskS} (h : Inv D) : (D.image D.writes.length).blocks = D.blocks ∧ Inv (D.image D.writes.length) := by
 have e : (D.image D.writes.length).blocks = D.blocks := by
  show applyW D.start (D.writes.take D.writes.length) = _
  rw [List.take_length, ← h.blk]
 refine ⟨e, ⟨⟨by rw [e]; exact h.ok.len, Nat.le_refl _, fun x hx => by cases hx⟩, ?_⟩⟩
 show (D.image D.writes.length).blocks = (D.image D.writes.length).start
 unfold DiskS.start
 show _ = (D.image D.writes.length).blocks ++ _
 rw [show (D.image D.writes.length).blocks.length - (D.image D.writes.length).base.length = 0 from Nat.sub_self _]
 simp
theorem Inv.new (n : Nat) (h : n ≤ 1024) : Inv { blocks := List.replicate n (zeros 128), base := [], writes := [], left := -1, dead := false } :=
 ⟨⟨by simp; exact h, Nat.zero_le _, fun x hx => by cases hx⟩, by simp [DiskS.start, applyW]⟩
/-! ### what the log says -/
theorem atB_of {D : DiskS} {n : Nat} {b : List UInt8} (h : D.blocks[n]? = some b) : atB D n = b := by unfold atB; rw [h]; rfl
theorem getN_zeros : getN (zeros 128) 0 1 = 0 := by decide +kernel
theorem rec_zero {D : DiskS} (h2 : D.blocks[2]? = some (zeros 128)) : wrecOk D = false ∧ recR D = (0, D) := by
 have e : logN D = 0 := by unfold logN; rw [atB_of h2]; exact getN_zeros
 have h : wrecOk D = false := by unfold wrecOk; rw [e]; rfl
 refine ⟨h, ?_⟩
 unfold recR
 rw [h]; rfl
/-! ### cut anywhere -/
def outL (m : Nat) : Prop := ¬ (2 ≤ m ∧ m < 26)
def SameOut (B C : List (List UInt8)) : Prop := ∀ m, outL m → B[m]? = C[m]?
theorem good_doneL {n : Nat} {g : G2} (h : okG n g = true) (hn : 26 ≤ n) : Good n (doneL g) := by
 intro x hx
 rcases List.mem_append.1 hx with hx | hx
 ·obtain ⟨i, hi⟩ := List.mem_iff_getElem?.1 hx
  have h1 := okG_at h hi
  have h2 := okW_at h1.1
  exact ⟨h2.1, h2.2.1, okW_data h1.1⟩
 ·rw [List.mem_singleton.1 hx]
  exact ⟨by show (0 : Int) ≤ 2; decide, by show (2 : Int) < n; omega, by simp [zeros]⟩
theorem good_commitL {n : Nat} {g : G2} (h : okG n g = true) (hn : 26 ≤ n) : Good n (commitL g) := by
 have hl := okG_len h
 intro x hx
 rcases List.mem_append.1 hx with hx | hx
 ·obtain ⟨i, hi⟩ := List.mem_iff_getElem?.1 hx
  have hil := (List.getElem?_eq_some_iff.1 hi).1
  rw [logL_len] at hil
  obtain ⟨y, hy⟩ : ∃ y, g[i]? = some y := ⟨_, List.getElem?_eq_getElem hil⟩
  rw [logL_at hy] at hi; cases hi
  exact ⟨by show (0 : Int) ≤ ((3 + i : Nat) : Int); omega, by show ((3 + i : Nat) : Int) < n; omega, (okW_data (okG_at h hy).1 : y.2.length = 128)⟩
 ·rcases List.mem_cons.1 hx with rfl | hx
  ·exact ⟨by show (0 : Int) ≤ 2; decide, by show (2 : Int) < n; omega, hdr_len hl.2⟩
  ·exact good_doneL h hn x hx
theorem okG_out {n : Int} {g : G2} (h : okG n g = true) {x : Int × List UInt8} (hx : x ∈ g) : outL x.1.toNat := by
 obtain ⟨i, hi⟩ := List.mem_iff_getElem?.1 hx
 have h2 := okW_at (okG_at h hi).1
 unfold outL; omega
def StW (B0 : List (List UInt8)) (g : G2) (f : Int) (B : List (List UInt8)) : Prop :=
 (B[2]? = some (zeros 128) ∧ (SameOut B (putL B0 g) ∨ (f ≠ 0 ∧ SameOut B B0))) ∨
 (f ≠ 0 ∧ B[2]? = some (hdr g) ∧ (∀ i x, g[i]? = some x → B[3 + i]? = some x.2) ∧ ∀ m, outL m → (∀ x ∈ g, x.1.toNat ≠ m) → B[m]? = B0[m]?)
theorem putL_out {n : Int} {g : G2} (h : okG n g = true) {B B0 : List (List UInt8)} (hB : (B.length : Int) = n) (hB0 : (B0.length : Int) = n) (hm : ∀ m, outL m → (∀ x ∈ g, x.1.toNat ≠ m) → B[m]? = B0[m]?) : SameOut (putL B g) (putL B0 g) := by
 intro m ho
 by_cases hx : ∃ x ∈ g, x.1.toNat = m
 ·obtain ⟨x, hx, rfl⟩ := hx
  obtain ⟨i, hi⟩ := List.mem_iff_getElem?.1 hx
  rw [putL_at h B hB hi, putL_at h B0 hB0 hi]
 ·have hx : ∀ x ∈ g, x.1.toNat ≠ m := fun x hy e => hx ⟨x, hy, e⟩
  rw [putL_not g B m hx, putL_not g B0 m hx]; exact hm m ho hx
theorem done_take {g : G2} {j : Nat} (h : j ≤ g.length) : (doneL g).take j = g.take j := by unfold doneL; rw [List.take_append_of_le_length h]
theorem take_out {n : Int} {g : G2} (h : okG n g = true) (j m : Nat) (hm : 2 ≤ m ∧ m < 26) : ∀ x ∈ g.take j, x.1.toNat ≠ m := fun x hx e => okG_out h (List.mem_of_mem_take hx) (e ▸ hm)
theorem putL_done {n : Int} {g : G2} (h : okG n g = true) {B B0 : List (List UInt8)} (hB : (B.length : Int) = n) (hB0 : (B0.length : Int) = n) (hn : 26 ≤ n) (hm : ∀ m, outL m → (∀ x ∈ g, x.1.toNat ≠ m) → B[m]? = B0[m]?) :
  (putL B (doneL g))[2]? = some (zeros 128) ∧ SameOut (putL B (doneL g)) (putL B0 g) := by
 unfold doneL
 rw [putL_append]
 show ((putL B g).set 2 (zeros 128))[2]? = _ ∧ SameOut ((putL B g).set 2 (zeros 128)) _
 refine ⟨by rw [List.getElem?_set_self (by rw [putL_len]; omega)], fun m ho => ?_⟩
 rw [List.getElem?_set_ne (by unfold outL at ho; omega)]
 exact putL_out h hB hB0 hm m ho
theorem StW.commit {D : DiskS} {g : G2} (hd : D.dead = false) (hg : okG D.blocks.length g = true) (hn : 26 ≤ D.blocks.length) (h2 : D.blocks[2]? = some (zeros 128)) :
  StW D.blocks g (runW D (commitL g)).1 (runW D (commitL g)).2.blocks := by
 obtain ⟨j, hj, hb, _, hc, _⟩ := run_any (commitL g) D hd (good_commitL hg hn)
 have hl := okG_len hg
 have hcl : (commitL g).length = g.length + (1 + (g.length + 1)) := by unfold commitL doneL; simp [logL_len]; omega
 rw [hb]
 by_cases h1 : j ≤ g.length
 ·have hf : (runW D (commitL g)).1 ≠ 0 := fun e => by have := hc.1 e; omega
  have ht : (commitL g).take j = (logL g).take j := by unfold commitL; rw [List.take_append_of_le_length (by rw [logL_len]; exact h1)]
  have hlog : ∀ x ∈ (logL g).take j, 3 ≤ x.1.toNat ∧ x.1.toNat < 26 := fun x hx => by
   obtain ⟨i, hi⟩ := List.mem_iff_getElem?.1 (List.mem_of_mem_take hx)
   have hil := (List.getElem?_eq_some_iff.1 hi).1
   rw [logL_len] at hil
   obtain ⟨y, hy⟩ : ∃ y, g[i]? = some y := ⟨_, List.getElem?_eq_getElem hil⟩
   rw [logL_at hy] at hi; cases hi
   show 3 ≤ (((3 + i : Nat) : Int)).toNat ∧ (((3 + i : Nat) : Int)).toNat < 26
   omega
  rw [ht]
  refine .inl ⟨by rw [putL_not _ _ 2 (fun x hx => by have := hlog x hx; omega)]; exact h2, .inr ⟨hf, fun m ho => ?_⟩⟩
  exact putL_not _ _ m (fun x hx => by have := hlog x hx; unfold outL at ho; omega)
 ·-- the header is there
  have hsplit : (commitL g).take j = logL g ++ ((2, hdr g) :: (doneL g).take (j - g.length - 1)) := by
   unfold commitL
   rw [List.take_append, logL_len, List.take_of_length_le (by rw [logL_len]; omega)]
   rw [show j - g.length = (j - g.length - 1) + 1 by omega, List.take_succ_cons]
   rfl
  have hB1 : ∀ B1, B1 = putL D.blocks (logL g ++ [(2, hdr g)]) → (B1.length = D.blocks.length ∧ B1[2]? = some (hdr g) ∧ (∀ i x, g[i]? = some x → B1[3 + i]? = some x.2) ∧ ∀ m, outL m → B1[m]? = D.blocks[m]?) := by
   intro B1 hB
   subst hB
   rw [putL_append]
   show (((putL D.blocks (logL g)).set 2 (hdr g)).length = _ ∧ ((putL D.blocks (logL g)).set 2 (hdr g))[2]? = _ ∧ _)
   refine ⟨by rw [List.length_set, putL_len], by rw [List.getElem?_set_self (by rw [putL_len]; omega)], fun i x hx => ?_, fun m ho => ?_⟩
   ·show ((putL D.blocks (logL g)).set 2 (hdr g))[3 + i]? = _
    have hil := (List.getElem?_eq_some_iff.1 hx).1
    rw [List.getElem?_set_ne (by omega)]
    have e : logL g = (logL g).take i ++ [(((3 + i : Nat) : Int), x.2)] ++ (logL g).drop (i + 1) := by
     conv => lhs; rw [← List.take_append_drop (i + 1) (logL g)]
     rw [List.take_add_one, logL_at hx]; rfl
    rw [e, putL_append, putL_not, putL_append]
    ·show ((putL D.blocks ((logL g).take i)).set (((3 + i : Nat) : Int)).toNat x.2)[3 + i]? = _
     rw [Int.toNat_natCast, List.getElem?_set_self (by rw [putL_len]; omega)]
    ·intro y hy hyi
     obtain ⟨k, hk⟩ := List.mem_iff_getElem?.1 hy
     rw [List.getElem?_drop] at hk
     have hkl := (List.getElem?_eq_some_iff.1 hk).1
     rw [logL_len] at hkl
     obtain ⟨z, hz⟩ : ∃ z, g[i + 1 + k]? = some z := ⟨_, List.getElem?_eq_getElem hkl⟩
     rw [logL_at hz] at hk; cases hk
     have : (((3 + (i + 1 + k) : Nat) : Int)).toNat = 3 + i := hyi
     omega
   ·show ((putL D.blocks (logL g)).set 2 (hdr g))[m]? = _
    unfold outL at ho
    rw [List.getElem?_set_ne (by omega)]
    refine putL_not _ _ m (fun x hx => ?_)
    obtain ⟨i, hi⟩ := List.mem_iff_getElem?.1 hx
    have hil := (List.getElem?_eq_some_iff.1 hi).1
    rw [logL_len] at hil
    obtain ⟨y, hy⟩ : ∃ y, g[i]? = some y := ⟨_, List.getElem?_eq_getElem hil⟩
    rw [logL_at hy] at hi; cases hi
    show (((3 + i : Nat) : Int)).toNat ≠ m
    omega
  obtain ⟨b1, b2, b3, b4⟩ := hB1 _ rfl
  have hput : putL D.blocks ((commitL g).take j) = putL (putL D.blocks (logL g ++ [(2, hdr g)])) ((doneL g).take (j - g.length - 1)) := by
   rw [hsplit, ← putL_append]; simp
  rw [hput]
  generalize putL D.blocks (logL g ++ [(2, hdr g)]) = B1 at b1 b2 b3 b4 ⊢
  by_cases h3 : j - g.length - 1 ≤ g.length
  ·have hf : (runW D (commitL g)).1 ≠ 0 := fun e => by have := hc.1 e; omega
   rw [done_take h3]
   refine .inr ⟨hf, by rw [putL_not _ _ 2 (take_out hg _ 2 (by omega))]; exact b2, fun i x hx => ?_, fun m ho hx => ?_⟩
   ·have hil := (List.getElem?_eq_some_iff.1 hx).1
    rw [putL_not _ _ (3 + i) (take_out hg _ (3 + i) (by omega))]; exact b3 i x hx
   ·rw [putL_not _ _ m (fun x hxm => hx x (List.mem_of_mem_take hxm))]; exact b4 m ho
  ·have e : (doneL g).take (j - g.length - 1) = doneL g := List.take_of_length_le (by unfold doneL; simp; omega)
   rw [e]
   have := putL_done hg (B := B1) (B0 := D.blocks) (by rw [b1]) rfl (by omega) (fun m ho _ => b4 m ho)
   exact .inl ⟨this.1, .inl this.2⟩
def outS (B : List (List UInt8)) : List UInt8 := (List.range B.length).flatMap fun i => if decide (i < 2) || decide (26 ≤ i) then B[i]?.getD [] else []
end Go.Proofs.YtchohheleofncaaGreat
namespace Go.Proofs.YtchohheleofncaaGreat
open Go.RowKit Go.Sep
attribute [local irreducible] Go.Oper.wp Go.wpList Go.Calls Go.Code.wp Go.Sep.Reg
structure GW where
 at_ : Int
 val : Value
 data : List UInt8
def gw (x : GW) : List Value := [.int .i64 x.at_, x.val]
theorem gw_len (l : List GW) : ∀ x ∈ l, (gw x).length = 2 := fun _ _ => rfl
def g2 (xs : List GW) : G2 := xs.map fun x => (x.at_, x.data)
theorem g2_len (xs : List GW) : (g2 xs).length = xs.length := by simp [g2]
theorem g2_at {xs : List GW} {i : Nat} {x : GW} (h : xs[i]? = some x) : (g2 xs)[i]? = some (x.at_, x.data) := by simp [g2, h]
def RdG (w : World) (v : Value) (xs : List GW) : Prop := Rd w v xs.length 2 (xs.flatMap gw) ∧ ∀ x ∈ xs, Rd w x.val x.data.length 1 (bv x.data)
theorem RdG.slice {w : World} {v : Value} {xs : List GW} {i : Nat} {x : GW} (h : RdG w v xs) (hx : xs[i]? = some x) : ∃ ao c, x.val = .slice ao x.data.length c := by
 obtain ⟨ao, c, he, _⟩ := h.2 x (List.mem_of_getElem? hx)
 exact ⟨ao, c, he⟩
theorem gw_one {ao : Option Addr} {n c : Nat} (a : Int) (d : List UInt8) : ∀ u ∈ gw ⟨a, .slice ao n c, d⟩, u.oneCell' = true := fun u hu => by
 simp only [gw, List.mem_cons, List.not_mem_nil, or_false] at hu
 rcases hu with rfl | rfl <;> rfl
def hasA (ys : List GW) (a : Int) : Bool := ys.any fun y => y.at_ == a
theorem hasA_twice (xs : List GW) (i : Nat) (a : Int) : hasA (xs.take i) a = twice (g2 xs) i a := by
 unfold hasA twice g2
 rw [← List.map_take, List.any_map]; rfl
theorem hasA_succ {ys : List GW} {k : Nat} {y : GW} (h : ys[k]? = some y) (a : Int) : hasA (ys.take (k + 1)) a = (hasA (ys.take k) a || (y.at_ == a)) := by
 unfold hasA
 rw [List.take_add_one, h, List.any_append]
 simp
theorem hasA_yes {ys : List GW} {k : Nat} {y : GW} (h : ys[k]? = some y) {a : Int} (e : (y.at_ == a) = true) : hasA ys a = true := List.any_eq_true.2 ⟨y, List.mem_of_getElem? h, e⟩
theorem RdG.take {w : World} {ao : Option Addr} {c : Nat} {xs : List GW} {i : Nat} (h : RdG w (.slice ao xs.length c) xs) (hi : i ≤ xs.length) : RdG w (.slice ao (xs.take i).length c) (xs.take i) := by
 refine ⟨?_, fun x hx => h.2 x (List.mem_of_mem_take hx)⟩
 obtain ⟨ao', c', he, h1, h2, h3, h5⟩ := h.1
 simp only [Value.slice.injEq, true_and] at he
 obtain ⟨rfl, rfl⟩ := he
 have hl : (xs.take i).length = i := by rw [List.length_take]; omega
 have hf : (xs.take i).flatMap gw = (xs.flatMap gw).take (i * 2) := by
  have : ∀ (ys : List GW) (j : Nat), (ys.take j).flatMap gw = (ys.flatMap gw).take (j * 2) := by
   intro ys
   induction ys with
   | nil => intro j; simp
   | cons y ys ih =>
    intro j
    cases j with
    | zero => simp
    | succ j => rw [List.take_succ_cons, List.flatMap_cons, List.flatMap_cons, ih, show (j + 1) * 2 = j * 2 + 2 by omega]; simp [gw]
  exact this xs i
 have hxl : (xs.flatMap gw).length = xs.length * 2 := by
  have : ∀ ys : List GW, (ys.flatMap gw).length = ys.length * 2 := by
   intro ys
   induction ys with
   | nil => rfl
   | cons y ys ih => rw [List.flatMap_cons, List.length_append, ih, List.length_cons]; show 2 + _ = _; omega
  exact this xs
 refine ⟨ao, c, rfl, by omega, by omega, by rw [hf, List.length_take, hxl, hl]; omega, fun hn => ?_⟩
 obtain ⟨b, off, hb, h6⟩ := h5 (by omega)
 refine ⟨b, off, hb, fun j u hj => h6 j u ?_⟩
 rw [hf, List.getElem?_take] at hj
 split at hj
 ·exact hj
 ·cases hj
theorem chk1_any {W w : World} {L : List Asrt} {pw : Nat} {a : Int} {av : Value} (hS : Sat W w (Cs pw 95 [.int .i64 a, av] :: L)) (x : Int) (xv : Value) :
  Calls Tryz.prog 123 #[.agg #[.int .i64 x, xv], .pointer (some ⟨pw, 0, none⟩)] w fun e w' => e = .returned (.bool (x == a)) ∧ Sat W w' (Cs pw 95 [.int .i64 a, av] :: L) := by
 go_enter Tryz.func123, Tryz.ntmps123
 go_wp2_with (first
  | (refine toList (by rfl) ?_; refine bx hS _ _ (by rfl) _ (by first | exact evC | exact evT (by rfl)) ?_; clear hS; intro px w1 hS; rw [cells_agg] at hS)
  | (refine toList (by rfl) ?_; refine ld hS _ _ (by rfl) _ _ (by rfl) (agOf (by rfl)) Has.z (by rfl) ?_)
  | (refine toList (by rfl) ?_; refine ld hS _ _ (by rfl) _ _ (by rfl) (agOf (by rfl)) (Has.s Has.z) (by rfl) ?_))
 go_ret
 exact ⟨rfl, hS.drop⟩
set_option maxRecDepth 20000 in
theorem indexf_any {W w : World} {L : List Asrt} {pw : Nat} {a : Int} {av : Value} (hS : Sat W w (Cs pw 95 [.int .i64 a, av] :: L)) (ys : List GW) (ao : Option Addr) (c : Nat) (hr : ∀ w, Sat W w L → RdG w (.slice ao ys.length c) ys) (hb : ys.length ≤ 1000000) :
  Calls Tryz.prog 142 #[.slice ao ys.length c, .func (.func 123) #[] #[.pointer (some ⟨pw, 0, none⟩)]] w fun e w' => ∃ i : Int, e = .returned (.int .i64 i) ∧ decide (0 ≤ i) = hasA ys a ∧ Sat W w' (Cs pw 95 [.int .i64 a, av] :: L) := by
 have HR := Lib.hid hr
 obtain ⟨_, _, he, hc1, hc2, _, h5⟩ := (hr w hS.drop).1
 simp only [Value.slice.injEq, true_and] at he
 obtain ⟨rfl, rfl⟩ := he
 have H5 := Lib.hid h5
 clear hr h5
 have i5 : (ys.length : Int) ≤ 1000000 := by omega
 go_enter Tryz.func142, Tryz.ntmps142
 go_wp2
 have H0 := Lib.hid hS
 go_loopw [8] (fun v wz => ∃ k : Nat, v = .int .i64 k ∧ k ≤ ys.length ∧ hasA (ys.take k) a = false ∧ Sat W wz (Cs pw 95 [.int .i64 a, av] :: L)) (fun v _ => ys.length - (intOf v).toNat)
 case atStart => exact ⟨0, rfl, by omega, rfl, H0.out⟩
 case round =>
  clear hS H0
  obtain ⟨k, rfl, hk, hn, hS⟩ := hrel
  by_cases hl : k < ys.length
  ·have k1 : (k : Int) < (ys.length : Int) := by omega
   obtain ⟨b, off, rfl, _⟩ := H5.out (by omega)
   obtain ⟨⟨xa, xv, xd⟩, hx⟩ : ∃ x, ys[k]? = some x := ⟨_, List.getElem?_eq_getElem hl⟩
   have HX := Lib.hid hx
   have HL := Lib.hid hl
   have HN := Lib.hid (hasA_succ hx a)
   have HY := Lib.hid (hasA_yes hx (a := a))
   rw [hn, Bool.false_or] at HN
   clear hx hl hn
   cases hq : (xa == a)
   ·have HQ := Lib.hid hq
    clear hq
    go_wp2_with (first
     | (refine toList (by rfl) ?_; refine wp_of_reads (rLdRdA (HR.out _ hS.drop).1 (gw_len ys) _ _ (by rfl) _ (by rfl) (agOf (by rfl)) (szOf (by rfl)) k (by omega) HX.out (by omega)) ?_)
     | (go_at_call 123; refine (chk1_any hS xa xv).mono ?_; rintro e w1 ⟨rfl, hS1⟩; rw [HQ.out]; clear hS; have hS := hS1; clear hS1))
    exact ⟨⟨k + 1, by go_num, HL.out, by rw [HN.out]; exact HQ.out, hS⟩, by simp [intOf]; have := HL.out; omega⟩
   ·have HQ := Lib.hid hq
    clear hq
    go_wp2_with (first
     | (refine toList (by rfl) ?_; refine wp_of_reads (rLdRdA (HR.out _ hS.drop).1 (gw_len ys) _ _ (by rfl) _ (by rfl) (agOf (by rfl)) (szOf (by rfl)) k (by omega) HX.out (by omega)) ?_)
     | (go_at_call 123; refine (chk1_any hS xa xv).mono ?_; rintro e w1 ⟨rfl, hS1⟩; rw [HQ.out]; clear hS; have hS := hS1; clear hS1))
    go_ret
    exact ⟨k, rfl, by rw [HY.out HQ.out]; simp, hS⟩
  ·have k1 : ¬ (k : Int) < (ys.length : Int) := by omega
   have HN := Lib.hid (show hasA ys a = false by rw [← hn, List.take_of_length_le (by omega)])
   clear hl hn
   go_wp2
   go_ret
   exact ⟨-1, rfl, by rw [HN.out]; rfl, hS⟩
theorem contf_any {W w : World} {L : List Asrt} {pw : Nat} {a : Int} {av : Value} (hS : Sat W w (Cs pw 95 [.int .i64 a, av] :: L)) (ys : List GW) (ao : Option Addr) (c : Nat) (hr : ∀ w, Sat W w L → RdG w (.slice ao ys.length c) ys) (hb : ys.length ≤ 1000000) :
  Calls Tryz.prog 122 #[.slice ao ys.length c, .func (.func 123) #[] #[.pointer (some ⟨pw, 0, none⟩)]] w fun e w' => e = .returned (.bool (hasA ys a)) ∧ Sat W w' (Cs pw 95 [.int .i64 a, av] :: L) := by
 go_enter Tryz.func122, Tryz.ntmps122
 go_wp2_with (go_at_call 142; refine (indexf_any hS ys ao c hr hb).mono ?_; clear hS; rintro e w1 ⟨i, rfl, hi, hS⟩)
 go_ret
 rw [← hi]
 exact ⟨rfl, hS⟩
theorem okAt_at {n : Int} {g : G2} {i : Nat} {x : Int × List UInt8} (h : g[i]? = some x) : okAt n g i = (okW n x && !twice g i x.1) := by unfold okAt; rw [h]
theorem okW_cases {n : Int} {a : Int} {d : List UInt8} (h : okW n (a, d) = false) : decide (a < 0) = true ∨ (decide (a < 0) = false ∧ decide (n ≤ a) = true) ∨ (decide (a < 0) = false ∧ decide (n ≤ a) = false ∧ decide (2 ≤ a) = true ∧ decide (a < 26) = true) ∨
  (decide (a < 0) = false ∧ decide (n ≤ a) = false ∧ decide (2 ≤ a) = false ∧ ((d.length : Int) != 128) = true) ∨ (decide (a < 0) = false ∧ decide (n ≤ a) = false ∧ decide (2 ≤ a) = true ∧ decide (a < 26) = false ∧ ((d.length : Int) != 128) = true) := by
 unfold okW at h
 simp only [Bool.and_eq_false_iff, decide_eq_false_iff_not, Bool.not_eq_false', Bool.and_eq_true, decide_eq_true_eq, bne_iff_ne] at h ⊢
 omega
theorem okW_yes {n : Int} {a : Int} {d : List UInt8} (h : okW n (a, d) = true) : decide (a < 0) = false ∧ decide (n ≤ a) = false ∧ (decide (2 ≤ a) = false ∨ (decide (2 ≤ a) = true ∧ decide (a < 26) = false)) ∧ ((d.length : Int) != 128) = false := by
 have h1 := okW_at h
 have h2 := okW_data h
 dsimp only at h1 h2
 simp only [decide_eq_false_iff_not, decide_eq_true_eq, bne_eq_false_iff_eq]
 omega
set_option maxRecDepth 20000 in
set_option maxHeartbeats 4000000 in
theorem wcheck_any {W w : World} {L : List Asrt} (hS : Sat W w L) (xs : List GW) (ao : Option Addr) (c : Nat) (hr : ∀ w, Sat W w L → RdG w (.slice ao xs.length c) xs) (hb : xs.length ≤ 1000000) (n : Int) :
  Calls Tryz.prog 90 #[.slice ao xs.length c, .int .i64 n] w fun e w' => e = .returned (.bool (okG n (g2 xs))) ∧ Sat W w' L := by
 have HR := Lib.hid hr
 obtain ⟨_, _, he, hc1, hc2, _, h5⟩ := (hr w hS).1
 simp only [Value.slice.injEq, true_and] at he
 obtain ⟨rfl, rfl⟩ := he
 have H5 := Lib.hid h5
 clear hr h5
 by_cases h1 : xs.length < 1
 ·have i1 : (xs.length : Int) < 1 := by omega
  have HO := Lib.hid (show okG n (g2 xs) = false by unfold okG; rw [g2_len, decide_eq_false (by omega : ¬ 1 ≤ xs.length)]; rfl)
  clear h1
  rw [HO.out]
  go_enter Tryz.func90, Tryz.ntmps90
  go_wp2
  go_ret
  exact ⟨rfl, hS⟩
 by_cases h2 : 20 < xs.length
 ·have i1 : ¬ (xs.length : Int) < 1 := by omega
  have i2 : (20 : Int) < (xs.length : Int) := by omega
  have HO := Lib.hid (show okG n (g2 xs) = false by unfold okG; rw [g2_len, decide_eq_false (by omega : ¬ xs.length ≤ 20)]; simp)
  clear h1 h2
  rw [HO.out]
  go_enter Tryz.func90, Tryz.ntmps90
  go_wp2
  go_ret
  exact ⟨rfl, hS⟩
 have i1 : ¬ (xs.length : Int) < 1 := by omega
 have i2 : ¬ (20 : Int) < (xs.length : Int) := by omega
 have HO := Lib.hid (okG_all (n := n) (g := g2 xs) (by rw [g2_len]; omega) (by rw [g2_len]; omega))
 have H12 := Lib.hid (show 1 ≤ xs.length ∧ xs.length ≤ 20 by omega)
 clear h1 h2
 go_enter Tryz.func90, Tryz.ntmps90
 go_wp2
 have H0 := Lib.hid hS
 go_loopw [18] (fun v wz => ∃ k : Nat, v = .int .i64 k ∧ k ≤ xs.length ∧ okPre n (g2 xs) k = true ∧ Sat W wz L) (fun v _ => xs.length - (intOf v).toNat)
 case atStart => exact ⟨0, rfl, by omega, rfl, H0.out⟩
 case round =>
  clear hS H0
  obtain ⟨k, rfl, hk, hp, hS⟩ := hrel
  by_cases hl : k < xs.length
  ·have k1 : (k : Int) < (xs.length : Int) := by omega
   have k2 : (k : Int) ≤ (c : Int) := by omega
   obtain ⟨b, off, rfl, _⟩ := H5.out (by omega)
   obtain ⟨⟨xa, xv, xd⟩, hx⟩ : ∃ x, xs[k]? = some x := ⟨_, List.getElem?_eq_getElem hl⟩
   obtain ⟨ad, cd, rfl⟩ : ∃ ad cd, xv = .slice ad xd.length cd := (HR.out _ hS).slice hx
   have HX := Lib.hid hx
   have HL := Lib.hid hl
   have HP := Lib.hid hp
   have hat := okAt_at (n := n) (g2_at hx)
   have htk : (xs.take k).length = k := by rw [List.length_take]; omega
   have HCF := Lib.hid (fun (pw : Nat) w (h : Sat W w (Cs pw 95 [.int .i64 xa, .slice ad xd.length cd] :: L)) => by
    have := contf_any h (xs.take k) (some ⟨b, off, none⟩) c (fun w h => (HR.out w h).take (by omega)) (by rw [htk]; omega)
    rw [htk, hasA_twice] at this
    exact this)
   have HST := Lib.hid (okPre_succ n (g2 xs) k)
   have HNO := Lib.hid (okPre_no (n := n) (g := g2 xs) (i := k) (by rw [g2_len]; exact hl))
   have HAT := Lib.hid hat
   clear hx hl hp hat htk
   cases ht : twice (g2 xs) k xa
   ·have HT := Lib.hid ht
    rw [ht] at HCF
    clear ht
    cases hw : okW n (xa, xd)
    ·have HF := Lib.hid (HNO.out (by rw [HAT.out, hw]; rfl))
     rcases okW_cases hw with q1 | ⟨q1, q2⟩ | ⟨q1, q2, q3, q4⟩ | ⟨q1, q2, q3, q4⟩ | ⟨q1, q2, q3, q4, q5⟩
     all_goals
      clear hw
      go_wp2_with (first
       | (refine toList (by rfl) ?_; refine wp_of_reads (rLdRdA (HR.out _ hS).1 (gw_len xs) _ _ (by rfl) _ (by rfl) (agOf (by rfl)) (szOf (by rfl)) k (by omega) HX.out (by omega)) ?_)
       | (refine toList (by rfl) ?_; refine al hS _ (by rfl) (zrOf (by rfl)) ?_; clear hS; intro px w1 hS; rw [cells_agg] at hS)
       | (refine toList (by rfl) ?_; refine stW hS _ _ _ (by rfl) (by rfl) (gw ⟨xa, .slice ad xd.length cd, xd⟩) (by rfl) (gw_one _ _) (szOf (by rfl)) Has.z (by rfl) ?_; clear hS; intro w1 hS; dsimp only [List.set_cons_zero] at hS)
       | (go_at_call 122; refine (HCF.out _ _ hS).mono ?_; clear hS; rintro e w1 ⟨rfl, hS⟩)
       | (refine toList (by rfl) ?_; refine ld hS _ _ (by rfl) _ _ (by rfl) (agOf (by rfl)) Has.z (by rfl) ?_))
      go_ret
      rw [HF.out]
      exact ⟨rfl, hS.drop⟩
    ·obtain ⟨q1, q2, q3, q4⟩ := okW_yes hw
     have HQ := Lib.hid (show okPre n (g2 xs) (k + 1) = true by rw [HST.out, HP.out, HAT.out, hw, HT.out]; rfl)
     clear hw
     rcases q3 with q3 | ⟨q3, q5⟩
     all_goals
      go_wp2_with (first
       | (refine toList (by rfl) ?_; refine wp_of_reads (rLdRdA (HR.out _ hS).1 (gw_len xs) _ _ (by rfl) _ (by rfl) (agOf (by rfl)) (szOf (by rfl)) k (by omega) HX.out (by omega)) ?_)
       | (refine toList (by rfl) ?_; refine al hS _ (by rfl) (zrOf (by rfl)) ?_; clear hS; intro px w1 hS; rw [cells_agg] at hS)
       | (refine toList (by rfl) ?_; refine stW hS _ _ _ (by rfl) (by rfl) (gw ⟨xa, .slice ad xd.length cd, xd⟩) (by rfl) (gw_one _ _) (szOf (by rfl)) Has.z (by rfl) ?_; clear hS; intro w1 hS; dsimp only [List.set_cons_zero] at hS)
       | (go_at_call 122; refine (HCF.out _ _ hS).mono ?_; clear hS; rintro e w1 ⟨rfl, hS⟩)
       | (refine toList (by rfl) ?_; refine ld hS _ _ (by rfl) _ _ (by rfl) (agOf (by rfl)) Has.z (by rfl) ?_))
      exact ⟨⟨k + 1, by go_num, HL.out, HQ.out, hS.drop⟩, by simp [intOf]; have := HL.out; omega⟩
   ·have HF := Lib.hid (HNO.out (by rw [HAT.out]; dsimp only; rw [ht]; simp))
    rw [ht] at HCF
    clear ht
    go_wp2_with (first
     | (refine toList (by rfl) ?_; refine wp_of_reads (rLdRdA (HR.out _ hS).1 (gw_len xs) _ _ (by rfl) _ (by rfl) (agOf (by rfl)) (szOf (by rfl)) k (by omega) HX.out (by omega)) ?_)
     | (refine toList (by rfl) ?_; refine al hS _ (by rfl) (zrOf (by rfl)) ?_; clear hS; intro px w1 hS; rw [cells_agg] at hS)
     | (refine toList (by rfl) ?_; refine stW hS _ _ _ (by rfl) (by rfl) (gw ⟨xa, .slice ad xd.length cd, xd⟩) (by rfl) (gw_one _ _) (szOf (by rfl)) Has.z (by rfl) ?_; clear hS; intro w1 hS; dsimp only [List.set_cons_zero] at hS)
     | (go_at_call 122; refine (HCF.out _ _ hS).mono ?_; clear hS; rintro e w1 ⟨rfl, hS⟩)
     | (refine toList (by rfl) ?_; refine ld hS _ _ (by rfl) _ _ (by rfl) (agOf (by rfl)) Has.z (by rfl) ?_))
    go_ret
    rw [HF.out]
    exact ⟨rfl, hS.drop⟩
  ·have k1 : ¬ (k : Int) < (xs.length : Int) := by omega
   have HF := Lib.hid (show okG n (g2 xs) = true by rw [HO.out, g2_len, show xs.length = k by omega]; exact hp)
   clear hl hp
   go_wp2
   go_ret
   rw [HF.out]
   exact ⟨rfl, hS⟩

end Go.Proofs.YtchohheleofncaaGreat
