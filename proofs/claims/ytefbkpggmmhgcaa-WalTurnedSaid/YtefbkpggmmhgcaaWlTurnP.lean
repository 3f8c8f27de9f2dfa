/-
  A header or content in which a byte is turned (plain).
-/
import Derived.Test.YtefbkpggmmhgcaaWlLawP
import Derived.Test.YtefbkpggmmhgcaaWlFlip
namespace Go.Proofs.Ytefbkpggmmhgcaa
open Go.Sep
set_option linter.unusedSimpArgs false
set_option linter.unusedVariables false
theorem run_zero {D : DiskS} {l : G2} (hd : D.dead = false) (hl : D.left = -1) (hG : Good D.blocks.length l) : (runW D l).1 = 0 := by
  obtain ⟨j, _, _, _, h4, h5⟩ := run_any l D hd hG
  exact h4.2 (h5 hl).1
theorem Good.take {n : Nat} {l : G2} (h : Good n l) (i : Nat) : Good n (l.take i) := fun x hx => h x (List.mem_of_mem_take hx)
/-- What is written into the log. -/
def logH (g : G2) (h : List UInt8) : G2 := logL g ++ [(2, h)]
theorem logH_len (g : G2) (h : List UInt8) : (logH g h).length = g.length + 1 := by simp [logH, logL_len]
theorem logH_at {g : G2} (h : List UInt8) {i : Nat} {x : Int × List UInt8} (hx : g[i]? = some x) : (logH g h)[i]? = some (((3 + i : Nat) : Int), x.2) := by
  unfold logH
  rw [List.getElem?_append_left (by rw [logL_len]; exact (List.getElem?_eq_some_iff.1 hx).1), logL_at hx]
theorem logH_last (g : G2) (h : List UInt8) : (logH g h)[g.length]? = some (2, h) := by
  unfold logH
  rw [List.getElem?_append_right (by rw [logL_len]; exact Nat.le_refl _), logL_len, Nat.sub_self]; rfl
theorem logL_mem {g : G2} {x : Int × List UInt8} (hx : x ∈ logL g) : ∃ (i : Nat) (y : Int × List UInt8), g[i]? = some y ∧ x = (((3 + i : Nat) : Int), y.2) := by
  obtain ⟨i, hi⟩ := List.mem_iff_getElem?.1 hx
  have hil := (List.getElem?_eq_some_iff.1 hi).1
  rw [logL_len] at hil
  obtain ⟨y, hy⟩ : ∃ y, g[i]? = some y := ⟨_, List.getElem?_eq_getElem hil⟩
  rw [logL_at hy] at hi; cases hi
  exact ⟨i, y, hy, rfl⟩
theorem logH_good {n : Nat} {g : G2} {h : List UInt8} (hn : 26 ≤ n) (hg : g.length ≤ 20) (hd : ∀ x ∈ g, x.2.length = 128) (hh : h.length = 128) : Good n (logH g h) := by
  intro x hx
  rcases List.mem_append.1 hx with hx | hx
  · obtain ⟨i, y, hy, rfl⟩ := logL_mem hx
    have hil := (List.getElem?_eq_some_iff.1 hy).1
    exact ⟨by show (0 : Int) ≤ ((3 + i : Nat) : Int); omega, by show ((3 + i : Nat) : Int) < n; omega, (hd y (List.mem_of_getElem? hy) : y.2.length = 128)⟩
  · rw [List.mem_singleton.1 hx]
    exact ⟨by show (0 : Int) ≤ 2; decide, by show (2 : Int) < n; omega, hh⟩
theorem logH_blocks {B : List (List UInt8)} {g : G2} {h : List UInt8} (hB : 26 ≤ B.length) (hg : g.length ≤ 20) : (putL B (logH g h))[2]? = some h ∧ ∀ (i : Nat) (x : Int × List UInt8), g[i]? = some x → (putL B (logH g h))[3 + i]? = some x.2 := by
  unfold logH
  rw [putL_append]
  show ((putL B (logL g)).set 2 h)[2]? = _ ∧ ∀ (i : Nat) (x : Int × List UInt8), g[i]? = some x → ((putL B (logL g)).set 2 h)[3 + i]? = _
  refine ⟨by rw [List.getElem?_set_self (by rw [putL_len]; omega)], fun i x hx => ?_⟩
  have hil := (List.getElem?_eq_some_iff.1 hx).1
  rw [List.getElem?_set_ne (by omega)]
  have e : logL g = (logL g).take i ++ [(((3 + i : Nat) : Int), x.2)] ++ (logL g).drop (i + 1) := by
    conv => lhs; rw [← List.take_append_drop (i + 1) (logL g)]
    rw [List.take_add_one, logL_at hx]; rfl
  rw [e, putL_append, putL_not, putL_append]
  · show ((putL B ((logL g).take i)).set (((3 + i : Nat) : Int)).toNat x.2)[3 + i]? = _
    rw [Int.toNat_natCast, List.getElem?_set_self (by rw [putL_len]; omega)]
  · intro y hy hyi
    obtain ⟨k, hk⟩ := List.mem_iff_getElem?.1 hy
    rw [List.getElem?_drop] at hk
    have hkl := (List.getElem?_eq_some_iff.1 hk).1
    rw [logL_len] at hkl
    obtain ⟨z, hz⟩ : ∃ z, g[i + 1 + k]? = some z := ⟨_, List.getElem?_eq_getElem hkl⟩
    rw [logL_at hz] at hk; cases hk
    have : (((3 + (i + 1 + k) : Nat) : Int)).toNat = 3 + i := hyi
    omega
/-! ### parts of a header -/
theorem hdr_take {g : G2} (h : g.length ≤ 20) : (hdr g).take 60 = hdrB g := by
  have := take_app (hdrB g) (le (hdrS g) 4 ++ List.replicate (128 - (hdr1 g).length) 0)
  rw [hdrB_len h] at this
  unfold hdr padTo
  unfold hdr1 at this ⊢
  rw [List.append_assoc]; exact this
theorem hdr_sum {g : G2} (h : g.length ≤ 20) : ((hdr g).drop 60).take 4 = le (hdrS g) 4 := by
  have h1 := drop_app (hdrB g) (le (hdrS g) 4 ++ List.replicate (128 - (hdr1 g).length) 0) 0
  rw [hdrB_len h, Nat.add_zero, List.drop_zero] at h1
  have h2 := take_app (le (hdrS g) 4) (List.replicate (128 - (hdr1 g).length) 0)
  rw [le_length] at h2
  have e : hdr g = hdrB g ++ (le (hdrS g) 4 ++ List.replicate (128 - (hdr1 g).length) 0) := by
    unfold hdr padTo hdr1; rw [List.append_assoc]
  rw [e, h1, h2]
theorem le4_inj {a b : Nat} (ha : a < 4294967296) (hb : b < 4294967296) (h : le (a : Int) 4 = le (b : Int) 4) : a = b := by
  have h1 := un_le 4 a (by omega)
  have h2 := un_le 4 b (by omega)
  rw [← h1, ← h2, h]
theorem datas_same {g g' : G2} (hl : g.length = g'.length) (h : ∀ (i : Nat) (x : Int × List UInt8), g[i]? = some x → ∃ y, g'[i]? = some y ∧ y.2 = x.2) : datas g = datas g' := by
  have e : g.map (·.2) = g'.map (·.2) := by
    apply List.ext_getElem?
    intro i
    rw [List.getElem?_map, List.getElem?_map]
    by_cases hi : i < g.length
    · obtain ⟨x, hx⟩ : ∃ x, g[i]? = some x := ⟨_, List.getElem?_eq_getElem hi⟩
      obtain ⟨y, hy, e⟩ := h i x hx
      rw [hx, hy]
      simp [e]
    · rw [List.getElem?_eq_none (by omega), List.getElem?_eq_none (by omega)]
  unfold datas
  rw [List.flatMap_def, List.flatMap_def, e]
theorem flip_take {l : List UInt8} {k n : Nat} (y : UInt8) (h : n ≤ k) : (flip l k y).take n = l.take n := by
  unfold flip
  rw [List.take_set]
  exact List.set_eq_of_length_le (by rw [List.length_take]; omega)
theorem flip_getN0 {l : List UInt8} {k : Nat} (y : UInt8) (h : 1 ≤ k) : getN (flip l k y) 0 1 = getN l 0 1 := by
  unfold getN
  rw [flip_len, List.drop_zero, List.drop_zero, flip_take y h]
theorem flip_app {l m : List UInt8} {k : Nat} (y : UInt8) (h : k < l.length) : flip (l ++ m) k y = flip l k y ++ m := by
  unfold flip
  rw [List.getElem?_append_left h, List.set_append_left _ _ h]
theorem flip_app2 {l m : List UInt8} (k : Nat) (y : UInt8) : flip (l ++ m) (l.length + k) y = l ++ flip m k y := by
  unfold flip
  rw [List.getElem?_append_right (by omega), show l.length + k - l.length = k by omega, List.set_append_right _ _ (by omega), show l.length + k - l.length = k by omega]
theorem flip_sum {l : List UInt8} {k : Nat} {y : UInt8} (h : k < l.length) (hy : y ≠ 0) : adMore 1 (flip l k y) ≠ adMore 1 l := by
  intro e
  have h1 := flip_ne h hy
  unfold flip at e h1
  rw [List.getElem?_eq_getElem h, Option.getD_some] at e h1
  have h2 := (one_law l k h _).1 e
  rw [h2, List.set_getElem_self] at h1
  exact h1 rfl
/-- What is read out of the log, of which all content is as it was. -/
theorem log_same {D : DiskS} {g : G2} (hd : ∀ (i : Nat) (x : Int × List UInt8), g[i]? = some x → D.blocks[3 + i]? = some x.2) : datas (logG D g.length) = datas g := by
  refine datas_same (by rw [logG_len]) fun i x hx => ?_
  have hl := (List.getElem?_eq_some_iff.1 hx).1
  rw [logG_len] at hl
  obtain ⟨y, hy⟩ : ∃ y, g[i]? = some y := ⟨_, List.getElem?_eq_getElem hl⟩
  refine ⟨y, hy, ?_⟩
  have h2 : (logG D g.length)[i]? = some (((getN (atB D 2) (1 + 2 * i) 2 : Nat) : Int), atB D (3 + i)) := by simp [logG, hl]
  rw [hx] at h2
  rw [Option.some.inj h2]
  exact (atB_of (hd i y hy)).symm
theorem recOk_parts {D : DiskS} (h : recOk D = true) : logN D ≤ 20 ∧ hdr (logG D (logN D)) = atB D 2 := by
  unfold recOk at h
  simp only [Bool.and_eq_true, decide_eq_true_eq] at h
  exact ⟨h.1.1, h.2⟩
theorem turned_header {D : DiskS} {g : G2} {k : Nat} {y : UInt8} (hg : g.length ≤ 20) (hk : 1 ≤ k) (hk2 : k < 64) (hy : y ≠ 0) (h2 : D.blocks[2]? = some (flip (hdr g) k y)) (hd : ∀ (i : Nat) (x : Int × List UInt8), g[i]? = some x → D.blocks[3 + i]? = some x.2) : recOk D = false := by
  cases hr : recOk D with
  | false => rfl
  | true =>
    obtain ⟨_, he⟩ := recOk_parts hr
    have hn : logN D = g.length := by unfold logN; rw [atB_of h2, flip_getN0 y hk, hdr_n hg]
    rw [hn, atB_of h2] at he
    have hdat := log_same hd
    have hlg : (logG D g.length).length ≤ 20 := by rw [logG_len]; exact hg
    generalize logG D g.length = g' at he hdat hlg
    have hl128 := hdr_len hg
    have t1 := hdr_take hlg
    have t2 := hdr_sum hlg
    rw [he] at t1 t2
    by_cases h60 : k < 60
    · -- the sum stands as it stood
      have e1 : hdrB g' = flip (hdrB g) k y := by
        rw [← t1]
        unfold flip
        rw [List.take_set, hdr_take hg]
        congr 2
        rw [← hdr_take hg, List.getElem?_take, if_pos h60]
      have e2 : ((flip (hdr g) k y).drop 60).take 4 = le (hdrS g) 4 := by
        have : (flip (hdr g) k y).drop 60 = (hdr g).drop 60 := by
          unfold flip
          rw [List.drop_set_of_lt (by omega)]
        rw [this, hdr_sum hg]
      rw [e2] at t2
      have e3 := le4_inj (hdrS_lt g) (hdrS_lt g') t2
      unfold hdrS at e3
      rw [e1, hdat, ← flip_app y (by rw [hdrB_len hg]; exact h60)] at e3
      exact absurd e3.symm (flip_sum (by rw [List.length_append, hdrB_len hg]; omega) hy)
    · have e1 : hdrB g' = hdrB g := by rw [← t1, flip_take y (by omega), hdr_take hg]
      have e2 : hdrS g' = hdrS g := by unfold hdrS; rw [e1, hdat]
      have e3 : hdr g' = hdr g := by unfold hdr hdr1; rw [e1, e2]
      rw [e3] at he
      exact absurd he.symm (flip_ne (by rw [hl128]; omega) hy)
theorem turned_content {D : DiskS} {g : G2} {a : Int} {d : List UInt8} {r : G2} {k : Nat} {y : UInt8} (hgr : g = (a, d) :: r) (hg : g.length ≤ 20) (hk : k < d.length) (hy : y ≠ 0) (h2 : D.blocks[2]? = some (hdr g)) (hd : ∀ (i : Nat) (x : Int × List UInt8), ((a, flip d k y) :: r)[i]? = some x → D.blocks[3 + i]? = some x.2) : recOk D = false := by
  cases hr : recOk D with
  | false => rfl
  | true =>
    obtain ⟨_, he⟩ := recOk_parts hr
    have hn : logN D = g.length := by unfold logN; rw [atB_of h2, hdr_n hg]
    rw [hn, atB_of h2] at he
    have hlen : ((a, flip d k y) :: r).length = g.length := by rw [hgr]; simp
    have hdat := log_same hd
    rw [hlen] at hdat
    have hlg : (logG D g.length).length ≤ 20 := by rw [logG_len]; exact hg
    generalize logG D g.length = g' at he hdat hlg
    have t1 := hdr_take hlg
    have t2 := hdr_sum hlg
    rw [he, hdr_take hg] at t1
    rw [he, hdr_sum hg] at t2
    have e3 := le4_inj (hdrS_lt g) (hdrS_lt g') t2
    unfold hdrS at e3
    rw [← t1, hdat] at e3
    have e4 : hdrB g ++ datas ((a, flip d k y) :: r) = flip (hdrB g ++ datas g) (60 + k) y := by
      have e5 : datas g = d ++ datas r := by rw [hgr]; rfl
      rw [e5, show (60 + k) = (hdrB g).length + k by rw [hdrB_len hg], flip_app2, flip_app y hk]; rfl
    rw [e4] at e3
    exact absurd e3.symm (flip_sum (by rw [List.length_append, hdrB_len hg, hgr]; show 60 + k < 60 + ((d ++ datas r) : List UInt8).length; rw [List.length_append]; omega) hy)
end Go.Proofs.Ytefbkpggmmhgcaa
