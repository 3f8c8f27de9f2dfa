/-
  Trees: how they lie in memory; entries' rows.
  Trees: the calls keep a tree a tree; what they write (plain).
  Trees: the program's tree and the document's, as assertions.
  Strings: a letter, by the walk.
-/
import Derived.Test.YtiieicdhkcikpaaMPla
import Derived.Test.YtiieicdhkcikpaaMReg
import Derived.Test.YtiieicdhkcikpaaTypes
namespace Go.Proofs.Ytiieicdhkcikpaa
open Go.RowKit Go.Sep
set_option linter.unusedSimpArgs false
set_option linter.unusedVariables false
attribute [local irreducible] Go.Oper.wp Go.wpList Go.Calls Go.Code.wp Go.Sep.Reg
def upd {α : Type} (f : Nat → α) (i : Nat) (x : α) : Nat → α := fun j => if j = i then x else f j
theorem upd_at {α : Type} (f : Nat → α) (i : Nat) (x : α) : upd f i x i = x := if_pos rfl
theorem upd_no {α : Type} (f : Nat → α) {i j : Nat} (x : α) (h : j ≠ i) : upd f i x j = f j := if_neg h
theorem flat_len {f : Nat → List Value} {sz : Nat} (hf : ∀ i, (f i).length = sz) : ∀ n, ((List.range n).flatMap f).length = n * sz
  | 0 => by simp
  | n + 1 => by rw [List.range_succ, List.flatMap_append, List.length_append, flat_len hf n]; simp [hf, Nat.succ_mul]
theorem flat_at {f : Nat → List Value} {sz : Nat} (hf : ∀ i, (f i).length = sz) {n i j : Nat} {u : Value} (hi : i < n) (hu : (f i)[j]? = some u) : ((List.range n).flatMap f)[i * sz + j]? = some u :=
  fm_cell (fun x _ => hf x) (show (List.range n)[i]? = some i by simp [hi]) hu
theorem flat_set {f g : Nat → List Value} {sz : Nat} (hf : ∀ i, (f i).length = sz) {i j : Nat} {u : Value} (hj : j < sz) (hg : g i = (f i).set j u) (hne : ∀ k, k ≠ i → g k = f k) :
    ∀ n, i < n → ((List.range n).flatMap f).set (i * sz + j) u = (List.range n).flatMap g
  | 0, h => absurd h (Nat.not_lt_zero _)
  | n + 1, h => by
    rw [List.range_succ, List.flatMap_append, List.flatMap_append]
    by_cases hin : i = n
    · subst hin
      rw [List.set_append_right _ _ (by rw [flat_len hf]; omega), flat_len hf, Nat.add_sub_cancel_left]
      congr 1
      · exact congrArg List.flatten (List.map_congr_left fun k hk => (hne k (by have := List.mem_range.1 hk; omega)).symm)
      · simp [hg]
    · have hlt : i * sz + j < n * sz := by
        have : (i + 1) * sz ≤ n * sz := Nat.mul_le_mul_right _ (by omega)
        rw [Nat.add_mul, Nat.one_mul] at this; omega
      rw [List.set_append_left _ _ (by rw [flat_len hf]; exact hlt), flat_set hf hj hg hne n (by omega)]
      congr 1
      simp [hne n (fun e => hin e.symm)]
/-! ### the program's tree -/
def tr3 (k n : Nat → Int) (v : Nat → Value) (i : Nat) : List Value := [.int .i64 (k i), .int .i64 (n i), v i]
def tl (k n : Nat → Int) (v : Nat → Value) (vt : Value) : List Value := (List.range 48).flatMap (tr3 k n v) ++ [vt]
theorem tr3_len (k n : Nat → Int) (v : Nat → Value) (i : Nat) : (tr3 k n v i).length = 3 := rfl
theorem tl_len (k n : Nat → Int) (v : Nat → Value) (vt : Value) : (tl k n v vt).length = 145 := by
  unfold tl; rw [List.length_append, flat_len (tr3_len k n v)]; rfl
theorem tl_at {k n : Nat → Int} {v : Nat → Value} {vt : Value} {i j a : Nat} {u : Value} (hi : i < 48) (ha : a = i * 3 + j) (hu : (tr3 k n v i)[j]? = some u) : (tl k n v vt)[a]? = some u := by
  subst ha
  have h := flat_at (tr3_len k n v) hi hu
  unfold tl
  rw [List.getElem?_append_left (List.getElem?_eq_some_iff.1 h).1]; exact h
theorem tl_last {k n : Nat → Int} {v : Nat → Value} {vt : Value} : (tl k n v vt)[144]? = some vt := by
  unfold tl
  rw [List.getElem?_append_right (by rw [flat_len (tr3_len k n v)]; decide), flat_len (tr3_len k n v)]; rfl
theorem tl_setK {k n : Nat → Int} {v : Nat → Value} {vt : Value} {i a : Nat} (x : Int) (hi : i < 48) (ha : a = i * 3) : (tl k n v vt).set a (.int .i64 x) = tl (upd k i x) n v vt := by
  subst ha
  unfold tl
  rw [List.set_append_left _ _ (by rw [flat_len (tr3_len k n v)]; omega)]
  congr 1
  exact flat_set (j := 0) (tr3_len k n v) (by decide) (by unfold tr3; rw [upd_at]; rfl) (fun k' h => by unfold tr3; rw [upd_no _ _ h]) 48 hi
theorem tl_setN {k n : Nat → Int} {v : Nat → Value} {vt : Value} {i a : Nat} (x : Int) (hi : i < 48) (ha : a = i * 3 + 1) : (tl k n v vt).set a (.int .i64 x) = tl k (upd n i x) v vt := by
  subst ha
  unfold tl
  rw [List.set_append_left _ _ (by rw [flat_len (tr3_len k n v)]; omega)]
  congr 1
  exact flat_set (j := 1) (tr3_len k n v) (by decide) (by unfold tr3; rw [upd_at]; rfl) (fun k' h => by unfold tr3; rw [upd_no _ _ h]) 48 hi
theorem tl_setV {k n : Nat → Int} {v : Nat → Value} {vt : Value} {i a : Nat} (x : Value) (hi : i < 48) (ha : a = i * 3 + 2) : (tl k n v vt).set a x = tl k n (upd v i x) vt := by
  subst ha
  unfold tl
  rw [List.set_append_left _ _ (by rw [flat_len (tr3_len k n v)]; omega)]
  congr 1
  exact flat_set (j := 2) (tr3_len k n v) (by decide) (by unfold tr3; rw [upd_at]; rfl) (fun k' h => by unfold tr3; rw [upd_no _ _ h]) 48 hi
theorem tl_setT {k n : Nat → Int} {v : Nat → Value} {vt : Value} (x : Value) : (tl k n v vt).set 144 x = tl k n v x := by
  unfold tl
  rw [List.set_append_right _ _ (by rw [flat_len (tr3_len k n v)]; decide), flat_len (tr3_len k n v)]; rfl
/-! ### the rows of entries -/
def Er (v : Value) (l : List EntD) : Asrt := Tb 59 2 ev2 v l
def rws (v : Nat → Value) (d : Nat → List EntD) : Asrt := St ((List.range 48).map fun i => Er (v i) (d i))
theorem rws_at {W w : World} {L : List Asrt} {k i : Nat} {v : Nat → Value} {d : Nat → List EntD} (h : Sat W w L) (hk : Has L k (rws v d)) (hi : i < 48) : ∃ L', Sat W w (Er (v i) (d i) :: L') :=
  h.stAt hk (j := i) (A := Er (v i) (d i)) (by unfold Has; rw [List.getElem?_map, List.getElem?_range hi]; rfl)
theorem rws_rd {W w : World} {L : List Asrt} {k i : Nat} {v : Nat → Value} {d : Nat → List EntD} (h : Sat W w L) (hk : Has L k (rws v d)) (hi : i < 48) : Rd w (v i) (d i).length 2 ((d i).flatMap ev2) := by
  obtain ⟨L', h2⟩ := rws_at h hk hi
  exact Sat.tbRd h2 (k := 0) rfl
theorem rws_shape {W w : World} {L : List Asrt} {k i : Nat} {v : Nat → Value} {d : Nat → List EntD} (h : Sat W w L) (hk : Has L k (rws v d)) (hi : i < 48) : ∃ ao c, v i = .slice ao (d i).length c ∧ (d i).length ≤ c := by
  obtain ⟨L', h2⟩ := rws_at h hk hi
  obtain ⟨ao, c, h3, h4⟩ := Sat.tbShape h2 (k := 0) rfl
  exact ⟨ao, c, h3, h4⟩
theorem rws_put {W w : World} {L : List Asrt} {i : Nat} {v : Nat → Value} {d : Nat → List EntD} {u : Value} {x : List EntD} (h : Sat W w (Er u x :: rws v d :: L)) (hi : i < 48) : Sat W w (rws (upd v i u) (upd d i x) :: L) := by
  have h2 := Sat.stPut (i := i) (A := Er u x) h (by simp [hi])
  have e : ((List.range 48).map fun i => Er (v i) (d i)).set i (Er u x) = (List.range 48).map fun j => Er (upd v i u j) (upd d i x j) := by
    apply List.ext_getElem?
    intro j
    rw [List.getElem?_set]
    by_cases hj : i = j
    · subst hj
      rw [if_pos rfl, if_pos (by simp [hi]), List.getElem?_map, List.getElem?_range hi]
      simp only [Option.map_some, upd_at]
    · rw [if_neg hj, List.getElem?_map, List.getElem?_map]
      by_cases hj2 : j < 48
      · rw [List.getElem?_range hj2]
        simp only [Option.map_some, upd_no _ _ (fun e => hj e.symm : j ≠ i)]
      · rw [List.getElem?_eq_none (by simp; omega)]
        simp
  unfold rws
  rw [← e]; exact h2
/-! ### the document's tree -/
def wl (k : Nat → Int) (v : Nat → Value) (vt : Value) : List Value := (List.range 48).map (fun i => Value.int .i64 (k i)) ++ ((List.range 48).map v ++ [vt])
theorem map_set {f g : Nat → Value} {i : Nat} {u : Value} (hg : g i = u) (hne : ∀ k, k ≠ i → g k = f k) (n : Nat) (hi : i < n) : ((List.range n).map f).set i u = (List.range n).map g := by
  apply List.ext_getElem?
  intro j
  rw [List.getElem?_set]
  by_cases hj : i = j
  · subst hj
    rw [if_pos rfl, if_pos (by simp [hi]), List.getElem?_map, List.getElem?_range hi, Option.map_some, hg]
  · rw [if_neg hj, List.getElem?_map, List.getElem?_map]
    by_cases hj2 : j < n
    · rw [List.getElem?_range hj2, Option.map_some, Option.map_some, hne j (fun e => hj e.symm)]
    · rw [List.getElem?_eq_none (by simp; omega)]; rfl
theorem wl_len (k : Nat → Int) (v : Nat → Value) (vt : Value) : (wl k v vt).length = 97 := by simp [wl]
theorem wl_k {k : Nat → Int} {v : Nat → Value} {vt : Value} {i a : Nat} (hi : i < 48) (ha : a = i) : (wl k v vt)[a]? = some (.int .i64 (k i)) := by
  subst ha
  unfold wl
  rw [List.getElem?_append_left (by simp [hi]), List.getElem?_map, List.getElem?_range hi]; rfl
theorem wl_v {k : Nat → Int} {v : Nat → Value} {vt : Value} {i a : Nat} (hi : i < 48) (ha : a = 48 + i) : (wl k v vt)[a]? = some (v i) := by
  subst ha
  unfold wl
  rw [List.getElem?_append_right (by simp), List.getElem?_append_left (by simp; omega), List.getElem?_map]
  simp [hi]
theorem wl_last {k : Nat → Int} {v : Nat → Value} {vt : Value} : (wl k v vt)[96]? = some vt := by
  unfold wl
  rw [List.getElem?_append_right (by simp), List.getElem?_append_right (by simp)]
  simp
theorem wl_setK {k : Nat → Int} {v : Nat → Value} {vt : Value} {i a : Nat} (x : Int) (hi : i < 48) (ha : a = i) : (wl k v vt).set a (.int .i64 x) = wl (upd k i x) v vt := by
  subst ha
  unfold wl
  rw [List.set_append_left _ _ (by simp [hi]), map_set (g := fun j => Value.int .i64 (upd k a x j)) (by rw [upd_at]) (fun j h => by rw [upd_no _ _ h]) 48 hi]
theorem wl_setV {k : Nat → Int} {v : Nat → Value} {vt : Value} {i a : Nat} (x : Value) (hi : i < 48) (ha : a = 48 + i) : (wl k v vt).set a x = wl k (upd v i x) vt := by
  subst ha
  unfold wl
  rw [List.set_append_right _ _ (by simp), List.length_map, List.length_range, Nat.add_sub_cancel_left, List.set_append_left _ _ (by simp [hi]), map_set (g := upd v i x) (upd_at ..) (fun j h => upd_no _ _ h) 48 hi]
theorem wl_setT {k : Nat → Int} {v : Nat → Value} {vt : Value} (x : Value) : (wl k v vt).set 96 x = wl k v x := by
  unfold wl
  rw [List.set_append_right _ _ (by simp), List.length_map, List.length_range, List.set_append_right _ _ (by simp)]
  simp
end Go.Proofs.Ytiieicdhkcikpaa
namespace Go.Proofs.Ytiieicdhkcikpaa
open Go.Sep
set_option linter.unusedSimpArgs false
set_option linter.unusedVariables false
namespace TrD
theorem setK_kind {T : TrD} (h : T.Ok) {i : Nat} (hi : i < 48) (k : Int) : (T.setK i k).kind = upd T.kind i k := by
  funext j
  unfold kind setK
  by_cases hj : j = i
  · subst hj
    rw [upd_at, List.getElem?_set, if_pos rfl, if_pos (by rw [h.kl]; exact hi)]; rfl
  · rw [upd_no _ _ hj, List.getElem?_set, if_neg (fun e => hj e.symm)]
theorem put_dir {T : TrD} (h : T.Ok) {d : Nat} (hd : d < 48) (i : Nat) (n : List UInt8) : (T.put d i n).dir = upd T.dir d (insE (T.dir d) ⟨n, i⟩) := by
  funext j
  by_cases hj : j = d
  · subst hj
    rw [upd_at]
    show ((T.dirs.set j _)[j]?).getD [] = _
    rw [List.getElem?_set, if_pos rfl, if_pos (by rw [h.dl]; exact hd)]; rfl
  · rw [upd_no _ _ hj]
    show ((T.dirs.set d _)[j]?).getD [] = _
    rw [List.getElem?_set, if_neg (fun e => hj e.symm)]; rfl
theorem del_dir' {T : TrD} (h : T.Ok) {d : Nat} (hd : d < 48) (n : List UInt8) : (T.del d n).dir = upd T.dir d (remE (T.dir d) n) := by
  funext j
  rw [dir_del]
  by_cases hj : j = d
  · subst hj; rw [if_pos rfl, upd_at]
  · rw [if_neg hj, upd_no _ _ hj]
def lnk (T : TrD) (j : Nat) : Int := (T.links j : Int)
theorem put_lnk {T : TrD} (h : T.Ok) {d i : Nat} {n : List UInt8} (hd : d < 48) (h1 : 1 ≤ i) : (T.put d i n).lnk = upd T.lnk i (T.lnk i + 1) := by
  funext j
  have := h.links_put (n := n) hd h1 j
  by_cases hj : j = i
  · subst hj; rw [upd_at]; unfold lnk; rw [this, if_pos rfl]; omega
  · rw [upd_no _ _ hj]; unfold lnk; rw [this, if_neg hj]; rfl
theorem del_lnk {T : TrD} (h : T.Ok) {d i : Nat} {n : List UInt8} (hd : d < 48) (hf : findE (T.dir d) n = some (i : Int)) : (T.del d n).lnk = upd T.lnk i (T.lnk i - 1) := by
  funext j
  have := h.links_del hd hf j
  by_cases hj : j = i
  · subst hj; rw [upd_at]; unfold lnk; rw [if_pos rfl] at this; omega
  · rw [upd_no _ _ hj]; unfold lnk; rw [if_neg hj] at this; omega
theorem Ok.free_some {T : TrD} (h : T.Ok) {i : Nat} (hf : T.free = some i) : i < 48 ∧ T.kind i = 0 ∧ 1 ≤ i ∧ ∀ j, j < i → T.kind j ≠ 0 := by
  unfold free at hf
  rw [List.findIdx?_eq_some_iff_getElem] at hf
  obtain ⟨hi, h1, h2⟩ := hf
  have hi48 : i < 48 := by rw [← h.kl]; exact hi
  have hk : T.kind i = 0 := by unfold kind; rw [List.getElem?_eq_getElem hi]; exact of_decide_eq_true h1
  refine ⟨hi48, hk, ?_, fun j hj => ?_⟩
  · rcases Nat.eq_zero_or_pos i with rfl | hp
    · rw [h.k0] at hk; cases hk
    · exact hp
  · have := h2 j hj
    unfold kind
    rw [List.getElem?_eq_getElem (by omega)]
    simpa using this
theorem Ok.free_none {T : TrD} (h : T.Ok) (hf : T.free = none) : ∀ j, j < 48 → T.kind j ≠ 0 := fun j hj => by
  unfold free at hf
  rw [List.findIdx?_eq_none_iff] at hf
  have := hf (T.kind j) (List.mem_of_getElem? (h.kind_at hj))
  simpa using this
theorem mkE_zero {T : TrD} {l : List (List UInt8)} {k : Int} (h0 : T.mkE l k = 0) (h : T.Ok) : (k = 1 ∨ k = 2) ∧ T.pE l = 0 ∧ hasE (T.dir (T.pD l)) (lastN l) = false ∧ T.free = some (T.mkI l k) ∧ (T.dir (T.pD l)).length < 64 := by
  have h00 := h0
  unfold mkE at h0
  split at h0
  · rename_i hk
    split at h0
    · rename_i hp
      split at h0
      · cases h0
      · rename_i hh
        split at h0
        · cases h0
        · rename_i hf
          split at h0
          · cases h0
          · rename_i hl
            refine ⟨hk, hp, by simpa using hh, ?_, by omega⟩
            unfold mkI
            rw [if_pos h00]
            cases hx : T.free with
            | none => exact absurd hx hf
            | some i => rfl
    · exact absurd h0 (by assumption)
  · cases h0
theorem Ok.mk' {T : TrD} (h : T.Ok) (l : List (List UInt8)) (k : Int) : (T.mk' l k).Ok := by
  unfold TrD.mk'
  split
  · rename_i h0
    obtain ⟨hk, hp, hh, hf, hl⟩ := mkE_zero h0 h
    obtain ⟨_, hn, hd, _, _⟩ := h.pE_zero hp
    obtain ⟨f1, _, f3, _⟩ := h.free_some hf
    exact ((h.put hd hn f3 f1 hh hl).setK (by omega) (by omega)).tch _
  · exact h
theorem lkE_zero {T : TrD} {l to : List (List UInt8)} (h0 : T.lkE l to = 0) (h : T.Ok) : (T.walk 0 l).2 = 0 ∧ T.kind (T.walk 0 l).1.toNat ≠ 2 ∧ T.pE to = 0 ∧ hasE (T.dir (T.pD to)) (lastN to) = false ∧ (T.dir (T.pD to)).length < 64 ∧ T.lkI l to = (T.walk 0 l).1.toNat ∧ 1 ≤ T.lkI l to ∧ T.lkI l to < 48 := by
  have h00 := h0
  unfold lkE at h0
  split at h0
  · rename_i hw
    split at h0
    · cases h0
    · rename_i hk
      split at h0
      · rename_i hp
        split at h0
        · cases h0
        · rename_i hh
          split at h0
          · cases h0
          · rename_i hl
            have hi : T.lkI l to = (T.walk 0 l).1.toNat := by unfold lkI; rw [if_pos h00]
            obtain ⟨j, hj, hj48⟩ := h.walk_lt l 0 (by omega)
            refine ⟨hw, hk, hp, by simpa using hh, by omega, hi, ?_, by rw [hi, hj]; simpa using hj48⟩
            rw [hi]
            rcases Nat.eq_zero_or_pos (T.walk 0 l).1.toNat with e | e
            · rw [e, h.k0] at hk; exact absurd rfl hk
            · exact e
      · exact absurd h0 (by assumption)
  · exact absurd h0 (by assumption)
theorem Ok.lk {T : TrD} (h : T.Ok) (l to : List (List UInt8)) : (T.lk l to).Ok := by
  unfold TrD.lk
  split
  · rename_i h0
    obtain ⟨_, _, hp, hh, hl, _, h1, h2⟩ := lkE_zero h0 h
    obtain ⟨_, hn, hd, _, _⟩ := h.pE_zero hp
    exact (h.put hd hn h1 h2 hh hl).tch _
  · exact h
theorem Ok.ul {T : TrD} (h : T.Ok) (l : List (List UInt8)) : (T.ul l).Ok := by
  unfold TrD.ul
  split
  · rename_i h0
    unfold ulE at h0
    split at h0
    · cases h0
    · rename_i hl
      split at h0
      · rename_i hw
        exact (h.del (h.parent hl hw).2.1 _).tch _
      · exact absurd h0 (by assumption)
  · exact h
theorem rdE_zero {T : TrD} {l : List (List UInt8)} (h0 : T.rdE l = 0) (h : T.Ok) : l ≠ [] ∧ (T.walk 0 l).2 = 0 ∧ T.kind (T.walk 0 l).1.toNat = 2 ∧ T.dir (T.walk 0 l).1.toNat = [] ∧ T.rdI l = (T.walk 0 l).1.toNat := by
  have h00 := h0
  unfold rdE at h0
  split at h0
  · cases h0
  · rename_i hl
    split at h0
    · rename_i hw
      split at h0
      · rename_i hk
        split at h0
        · cases h0
        · rename_i hd
          exact ⟨hl, hw, hk, List.eq_nil_of_length_eq_zero (by omega), by unfold rdI; rw [if_pos h00]⟩
      · cases h0
    · exact absurd h0 (by assumption)
theorem Ok.rd {T : TrD} (h : T.Ok) (l : List (List UInt8)) : (T.rd l).Ok := by
  unfold TrD.rd
  split
  · rename_i h0
    obtain ⟨hl, hw, hk, hd, hi⟩ := rdE_zero h0 h
    obtain ⟨_, p2, _, _, p5, _⟩ := h.parent hl hw
    obtain ⟨_, j1, j2⟩ := h.find_ino p2 p5
    exact ((h.del p2 _).setK (by rw [hi]; omega) (.inl rfl)).tch _
  · exact h
theorem Ok.dr {T : TrD} (h : T.Ok) (i : Int) : (T.dr i).Ok := by
  unfold TrD.dr
  split
  · rename_i h0
    unfold drOk at h0
    simp only [Bool.and_eq_true, decide_eq_true_eq] at h0
    refine (h.setK (fun e => ?_) (.inl rfl)).tch _
    have := h0.1.2
    rw [e, h.k0] at this; cases this
  · exact h
end TrD
end Go.Proofs.Ytiieicdhkcikpaa
namespace Go.Proofs.Ytiieicdhkcikpaa
open Go.RowKit Go.Sep
set_option linter.unusedSimpArgs false
set_option linter.unusedVariables false
attribute [local irreducible] Go.Oper.wp Go.wpList Go.Calls Go.Code.wp Go.Sep.Reg
def IsT (p : Nat) (T : TrD) : Asrt := Ex fun x : (Nat → Value) × Value => St [Cs p 69 (tl T.kind T.lnk x.1 x.2), rws x.1 T.dir, Ir x.2 T.last]
def IsW (p : Nat) (T : TrD) : Asrt := Ex fun x : (Nat → Value) × Value => St [Cs p 79 (wl T.kind x.1 x.2), rws x.1 T.dir, Ir x.2 T.last]
section
variable {W w : World} {L : List Asrt} {p : Nat} {T : TrD} {v : Nat → Value} {vt : Value}
theorem IsT.open (h : Sat W w (IsT p T :: L)) : ∃ v vt, Sat W w (Cs p 69 (tl T.kind T.lnk v vt) :: rws v T.dir :: Ir vt T.last :: L) := by
  obtain ⟨⟨v, vt⟩, h⟩ := h.ex
  exact ⟨v, vt, h.open⟩
theorem IsT.mk (h : Sat W w (Cs p 69 (tl T.kind T.lnk v vt) :: rws v T.dir :: Ir vt T.last :: L)) : Sat W w (IsT p T :: L) := Sat.mkEx (v, vt) (Sat.mkSt h)
theorem IsW.open (h : Sat W w (IsW p T :: L)) : ∃ v vt, Sat W w (Cs p 79 (wl T.kind v vt) :: rws v T.dir :: Ir vt T.last :: L) := by
  obtain ⟨⟨v, vt⟩, h⟩ := h.ex
  exact ⟨v, vt, h.open⟩
theorem IsW.mk (h : Sat W w (Cs p 79 (wl T.kind v vt) :: rws v T.dir :: Ir vt T.last :: L)) : Sat W w (IsW p T :: L) := Sat.mkEx (v, vt) (Sat.mkSt h)
end
end Go.Proofs.Ytiieicdhkcikpaa
namespace Go.Proofs.Ytiieicdhkcikpaa
open Go.RowKit Go.Sep
set_option linter.unusedSimpArgs false
set_option linter.unusedVariables false
attribute [local irreducible] Go.Oper.wp Go.wpList Go.Calls Go.Code.wp Go.Sep.Reg
theorem index_sv {l : List UInt8} {i : Nat} {x : UInt8} (hx : l[i]? = some x) (w : World) : (Instr.index 9 (.string ⟨l.toArray⟩) (.int .i64 (i : Int))).run Try.prog w = .ok (.int .u8 (x.toNat : Int)) w := by
  obtain ⟨hi, rfl⟩ := List.getElem?_eq_some_iff.1 hx
  rw [run_index_string _ _ _ _ _ Try.underlying9]
  have hs : (ByteArray.mk l.toArray).size = l.length := by simp [ByteArray.size]
  rw [dif_pos ⟨by omega, by rw [hs]; omega⟩]
  congr 3
end Go.Proofs.Ytiieicdhkcikpaa
