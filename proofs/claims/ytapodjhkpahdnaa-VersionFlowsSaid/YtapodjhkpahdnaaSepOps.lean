/-
  What each operation on memory turns, in the logic of Sep: a law for each, on 'Oper.wp'.
-/
import Derived.Test.YtapodjhkpahdnaaSep
import Derived.Laws.BytesArg
import Derived.Lib.FrozenHead
import Derived.Great.BuildSlice
namespace Go.Sep
open Go

/-- No place below n is frozen. -/
def Thaw (fz : Nat × Nat) (n : Nat) : Prop := fz.1 = fz.2 ∨ n ≤ fz.1
/-- Block b is a row of cells, all of which may be written. -/
def Cs (b : Nat) (T : TypeId) (l : List Value) : Asrt := Ex fun fz : Nat × Nat => St [Pu (Thaw fz l.length), Blk b (.cells l.toArray T fz)]
def Has (L : List Asrt) (k : Nat) (A : Asrt) : Prop := L[k]? = some A
theorem Has.z {L : List Asrt} {A : Asrt} : Has (A :: L) 0 A := rfl
theorem Has.s {L : List Asrt} {k : Nat} {A B : Asrt} (h : Has L k A) : Has (B :: L) (k + 1) A := h

section
variable {P : Program} {W w : World} {L : List Asrt} {k b off : Nat} {T : TypeId} {l : List Value}

theorem Sat.openCs (h : Sat W w (Cs b T l :: L)) : ∃ fz, Thaw fz l.length ∧ Sat W w (Blk b (.cells l.toArray T fz) :: L) := by
  obtain ⟨fz, h⟩ := h.ex
  have h2 : Sat W w (Pu (Thaw fz l.length) :: Blk b (.cells l.toArray T fz) :: L) := h.open
  exact ⟨fz, h2.pu⟩
theorem Sat.mkCs {fz : Nat × Nat} (ht : Thaw fz l.length) (h : Sat W w (Blk b (.cells l.toArray T fz) :: L)) : Sat W w (Cs b T l :: L) :=
  Sat.mkEx fz (Sat.mkSt (Sat.mkPu ht h))
theorem Sat.cells (h : Sat W w L) (hk : Has L k (Cs b T l)) : ∃ fz, Thaw fz l.length ∧ w.heap[b]? = some (.cells l.toArray T fz) := by
  obtain ⟨fz, ht, h⟩ := (h.front k hk).openCs
  exact ⟨fz, ht, h.blk⟩
theorem Sat.cell (h : Sat W w L) (hk : Has L k (Cs b T l)) {v : Value} (hv : l[off]? = some v) : w.cell? ⟨b, off, none⟩ = some v := by
  obtain ⟨fz, _, hb⟩ := h.cells hk
  simp [World.cell?, hb, hv]
theorem Sat.csLt (h : Sat W w L) (hk : Has L k (Cs b T l)) : b < w.heap.size := by
  obtain ⟨fz, _, hb⟩ := h.cells hk
  exact (Array.getElem?_eq_some_iff.1 hb).1
theorem Sat.back {A B : Asrt} (h : Sat W w (B :: L.eraseIdx k)) (hk : Has L k A) : Sat W w (L.set k B) := h.perm (by
  clear h
  induction L generalizing k with
  | nil => simp [Has] at hk
  | cons C L ih =>
    cases k with
    | zero => exact List.Perm.refl _
    | succ k =>
      simp only [Has, List.getElem?_cons_succ] at hk
      rw [List.eraseIdx_cons_succ, List.set_cons_succ]
      exact (List.Perm.swap _ _ _).trans ((ih hk).cons C))
/-- A row's cells are others now. -/
theorem Sat.setRow (h : Sat W w L) (hk : Has L k (Cs b T l)) (l' : List Value) (hl : l'.length = l.length) : Sat W (w.setRow b l'.toArray) (L.set k (Cs b T l')) := by
  obtain ⟨fz, ht, h⟩ := (h.front k hk).openCs
  have h2 : Sat W (w.setRow b l'.toArray) (Blk b (.cells l'.toArray T fz) :: L.eraseIdx k) :=
    h.turn rfl rfl (setRow_heap w b _ _ T fz h.blk) fun c p hc hp => by rw [setRow_other w b c _ hc]; exact hp
  exact (h2.mkCs (by rw [hl]; exact ht)).back hk
theorem Sat.newCs (h : Sat W w L) (l : List Value) (T : TypeId) : Sat W (w.alloc (.cells l.toArray T)) (Cs w.heap.size T l :: L) :=
  (h.alloc (.cells l.toArray T)).mkCs (.inl rfl)

/-! ### closed facts on types -/
def aggB (P : Program) (T : TypeId) : Option Bool := (P.underlying T).map fun d => match d with | .struct _ | .array _ _ => true | _ => false
def szB (P : Program) (T : TypeId) : Option Nat := (P.info? T).map (·.size)
def zeroB (P : Program) (T : TypeId) : Option (Option Value) := (P.info? T).map (·.zero)
def elemB (P : Program) (T : TypeId) : Option (TypeId × Nat × Nat × Option Value) :=
  match P.underlying T with | some (.slice e) => (P.info? e).map fun i => (e, i.size, i.bytes, i.zero) | _ => none

theorem run_isAgg {T : TypeId} {x : Bool} (h : aggB P T = some x) (w : World) : (isAgg T).run P w = .ok x w := by
  unfold aggB at h
  cases hu : P.underlying T with
  | none => simp [hu] at h
  | some d =>
    simp only [hu, Option.map_some, Option.some.injEq] at h
    subst h
    unfold isAgg
    rw [Sem.run_bind, run_underlying hu w]
    cases d <;> simp
theorem run_sizeB {T n : Nat} (h : szB P T = some n) (w : World) : (sizeOf T).run P w = .ok n w := by
  unfold szB at h
  cases hu : P.info? T with
  | none => simp [hu] at h
  | some d =>
    simp only [hu, Option.map_some, Option.some.injEq] at h
    subst h
    simp [sizeOf, typeInfo, hu]
theorem run_zeroB {T : TypeId} {z : Value} (h : zeroB P T = some (some z)) (w : World) : (zeroValue T).run P w = .ok z w := by
  unfold zeroB at h
  cases hu : P.info? T with
  | none => simp [hu] at h
  | some d =>
    simp only [hu, Option.map_some, Option.some.injEq] at h
    simp [zeroValue, typeInfo, hu, h]
theorem elemB_parts {T e size bytes : Nat} {z : Option Value} (h : elemB P T = some (e, size, bytes, z)) :
    P.underlying T = some (.slice e) ∧ ∃ i, P.info? e = some i ∧ i.size = size ∧ i.bytes = bytes ∧ i.zero = z := by
  unfold elemB at h
  split at h
  · rename_i e' hu
    cases hi : P.info? e' with
    | none => simp [hi] at h
    | some i =>
      simp only [hi, Option.map_some, Option.some.injEq, Prod.mk.injEq] at h
      obtain ⟨rfl, rfl, rfl, rfl⟩ := h
      exact ⟨hu, i, hi, rfl, rfl, rfl⟩
  · cases h

theorem cells_agg (x : Array Value) : Value.cells (.agg x) = x := rfl
/-- What an operand is in a frame that is written out. -/
theorem evC {a : Act} {v : Value} : a.eval (.const v) = v := rfl
theorem evT {l : List Value} {ds : List Deferred} {n : Nat} {v : Value} (h : l[n]? = some v) : Act.eval { tmps := l.toArray, defers := ds } (.tmp n) = v := by
  simp [Act.eval, h]

/-! ### an operation that yields a value; one that yields none -/
variable {o : Oper} {a : Act} {K : Act → World → Prop} {Q : Exit → Act → World → Prop}
theorem wp_of_val {s : Sem Value} (hs : execOp a.eval o = (do let x ← s; pure (.value x))) {v : Value} {w' : World} (hr : s.run P w = .ok v w')
    (h : K (a.put o.dst v) w') : o.wp P a w K Q := by
  unfold Oper.wp
  rw [hs]
  simp [hr, Oper.upon, h]
theorem wp_of_unit {s : Sem Unit} (hs : execOp a.eval o = (do s; pure .skip)) {w' : World} (hr : s.run P w = .ok () w')
    (h : K (a.put o.dst undef) w') : o.wp P a w K Q := by
  unfold Oper.wp
  rw [hs]
  simp [hr, Oper.upon, h]

/-- In a region's list: the operation's own law, where its guard wants it. -/
theorem toList {ops : Array Oper} {rest : List Oper} (hw : Region.wanted o (yielded ops a.tmps) = true) (h : o.wp P a w (wpList P ops Q rest) Q) : wpList P ops Q (o :: rest) a w := by
  unfold wpList
  rw [if_pos hw]
  exact .inl h

/-! ### loads -/
theorem run_loadScalar {v : Value} (hT : aggB P T = some false) (hc : w.cell? ⟨b, off, none⟩ = some v) : (loadVar T ⟨b, off, none⟩).run P w = .ok v w := by
  simp [loadVar, run_isAgg hT, hc]
theorem run_loadAgg {n : Nat} {vs : List Value} (hT : aggB P T = some true) (hn : szB P T = some n) (hl : vs.length = n) (hc : ∀ j v, vs[j]? = some v → w.cell? ⟨b, off + j, none⟩ = some v) :
    (loadVar T ⟨b, off, none⟩).run P w = .ok (.agg vs.toArray) w := by
  subst hl
  have := run_loadCells_list (P := P) w ⟨b, off, none⟩ vs (fun j v hv => by rw [Addr.add_lit]; exact hc j v hv)
  simp [loadVar, run_isAgg hT, run_sizeB hn, this]
/-- A cell is read. -/
theorem ld (hS : Sat W w L) (T : TypeId) (x : Operand) (ho : o.op = .load T x) (b off : Nat) (hx : a.eval x = .pointer (some ⟨b, off, none⟩)) (hT : aggB P T = some false)
    {k E l v} (hk : Has L k (Cs b E l)) (hv : l[off]? = some v) (h : K (a.put o.dst v) w) : o.wp P a w K Q :=
  wp_of_val (s := loadVar T ⟨b, off, none⟩) (by simp [execOp, ho, hx, Instr.loadAt, Instr.sureAddr]) (run_loadScalar hT (hS.cell hk hv)) h
/-- Some cells are read at once. -/
theorem ldA (hS : Sat W w L) (T : TypeId) (x : Operand) (ho : o.op = .load T x) (b off : Nat) (hx : a.eval x = .pointer (some ⟨b, off, none⟩)) (hT : aggB P T = some true)
    {n} (hn : szB P T = some n) {k E l} (hk : Has L k (Cs b E l)) (hb : off + n ≤ l.length) (h : K (a.put o.dst (.agg ((l.drop off).take n).toArray)) w) : o.wp P a w K Q :=
  wp_of_val (s := loadVar T ⟨b, off, none⟩) (by simp [execOp, ho, hx, Instr.loadAt, Instr.sureAddr])
    (run_loadAgg hT hn (by simp; omega) fun j v hv => hS.cell hk (by
      rw [List.getElem?_take] at hv
      split at hv
      · rwa [List.getElem?_drop] at hv
      · cases hv)) h
/-- What lay in memory when the law began: a cell, some cells. -/
theorem ldOld (hS : Sat W w L) (T : TypeId) (x : Operand) (ho : o.op = .load T x) (b off : Nat) (hx : a.eval x = .pointer (some ⟨b, off, none⟩)) (hT : aggB P T = some false)
    {v} (hv : W.cell? ⟨b, off, none⟩ = some v) (h : K (a.put o.dst v) w) : o.wp P a w K Q :=
  wp_of_val (s := loadVar T ⟨b, off, none⟩) (by simp [execOp, ho, hx, Instr.loadAt, Instr.sureAddr])
    (run_loadScalar hT (by rw [World.cell?_of_block (hS.old (World.block_lt_of_cell? W _ hv))]; exact hv)) h

/-! ### stores -/
theorem run_storeCells_thaw (g o : Nat) (t : TypeId) (fz : Nat × Nat) : ∀ (vs : List Value) (i : Nat) (cur : List Value) (w : World), w.heap[g]? = some (.cells cur.toArray t fz) → Thaw fz cur.length → o + i + vs.length ≤ cur.length → (∀ v ∈ vs, v.oneCell' = true) →
    (storeCells ⟨g, o, none⟩ vs i).run P w = .ok () (w.setRow g (cur.take (o + i) ++ vs ++ cur.drop (o + i + vs.length)).toArray)
  | [], i, cur, w, hg, _, _, _ => by
    simp only [storeCells, List.append_nil, List.length_nil, Nat.add_zero, List.take_append_drop]
    rw [setRow_self w g cur.toArray t fz hg]
    rfl
  | v :: rest, i, cur, w, hg, ht, hl, h1 => by
    have hi : o + i < cur.length := by simp at hl; omega
    have hadd : (⟨g, o, none⟩ : Addr).add i = ⟨g, o + i, none⟩ := Addr.add_lit _ _ _
    have hcell : w.cell? ⟨g, o + i, none⟩ = some cur[o + i] := by simp [World.cell?, hg, hi]
    have hfro : w.frozen? ⟨g, o + i, none⟩ = false := by
      simp only [World.frozen?, hg]
      rcases Nat.lt_or_ge (o + i) fz.1 with h | h
      · simp; omega
      · rcases ht with h2 | h2
        · simp; omega
        · omega
    have hst : (store ((⟨g, o, none⟩ : Addr).add i) v).run P w = .ok () (w.setRow g (cur.set (o + i) v).toArray) := by
      rw [hadd, run_store P w _ v _ (h1 v (by simp)), hcell]
      simp [hfro, setCell_eq_setRow w g (o + i) cur.toArray t fz v hg]
    have ih := run_storeCells_thaw g o t fz rest (i + 1) (cur.set (o + i) v) (w.setRow g (cur.set (o + i) v).toArray) (setRow_heap w g cur.toArray _ t _ hg) (by simpa using ht) (by simp at hl ⊢; omega) (fun x hx => h1 x (by simp [hx]))
    simp only [storeCells, Sem.run_bind, hst, Result.andThen_ok, ih, setRow_setRow]
    congr 3
    have e := list_seg_step cur (o + i) v rest (by simp at hl ⊢; omega)
    simpa [Nat.add_assoc] using e
theorem Sat.storeCells (hS : Sat W w L) (hk : Has L k (Cs b T l)) (vs : List Value) (hb : off + vs.length ≤ l.length) (h1 : ∀ v ∈ vs, v.oneCell' = true) :
    ∃ w', (storeCells ⟨b, off, none⟩ vs).run P w = .ok () w' ∧ Sat W w' (L.set k (Cs b T (l.take off ++ vs ++ l.drop (off + vs.length)))) := by
  obtain ⟨fz, ht, hh⟩ := hS.cells hk
  have := run_storeCells_thaw (P := P) b off T fz vs 0 l w hh ht (by simpa using hb) h1
  exact ⟨_, this, hS.setRow hk _ (by simp; omega)⟩
theorem splice_one {l : List Value} {v : Value} (h : off < l.length) : l.take off ++ [v] ++ l.drop (off + 1) = l.set off v := by
  rw [List.set_eq_take_append_cons_drop]; simp [h]
/-- A cell is written. -/
theorem st (hS : Sat W w L) (T : TypeId) (x y : Operand) (ho : o.op = .store T x y) (b off : Nat) (hx : a.eval x = .pointer (some ⟨b, off, none⟩)) (v : Value) (hy : a.eval y = v) (hv : v.oneCell' = true) (hn : szB P T = some 1)
    {k E l} (hk : Has L k (Cs b E l)) (hb : off < l.length) (h : ∀ w', Sat W w' (L.set k (Cs b E (l.set off v))) → K (a.put o.dst undef) w') : o.wp P a w K Q := by
  obtain ⟨w', hr, hS'⟩ := hS.storeCells (P := P) (off := off) hk [v] (by simp; omega) (by simp [hv])
  have hc : v.cells = #[v] := by cases v <;> simp_all [Value.oneCell', Value.cells]
  refine wp_of_unit (s := storeVar T ⟨b, off, none⟩ v) (w' := w') (by simp [execOp, ho, hx, hy, Instr.storeAt, Instr.sureAddr]) ?_ (h w' ?_)
  · simp [storeVar, run_sizeB hn, hc, hr]
  · have e := splice_one (v := v) hb; simp only [List.length_cons, List.length_nil, Nat.zero_add] at hS'; rw [e] at hS'; exact hS'
/-- Some cells are written at once. -/
theorem stA (hS : Sat W w L) (T : TypeId) (x y : Operand) (ho : o.op = .store T x y) (b off : Nat) (hx : a.eval x = .pointer (some ⟨b, off, none⟩)) (vs : List Value) (hy : a.eval y = .agg vs.toArray) (hv : ∀ v ∈ vs, v.oneCell' = true) (hn : szB P T = some vs.length)
    {k E l} (hk : Has L k (Cs b E l)) (hb : off + vs.length ≤ l.length) (h : ∀ w', Sat W w' (L.set k (Cs b E (l.take off ++ vs ++ l.drop (off + vs.length)))) → K (a.put o.dst undef) w') : o.wp P a w K Q := by
  obtain ⟨w', hr, hS'⟩ := hS.storeCells (P := P) (off := off) hk vs hb hv
  refine wp_of_unit (s := storeVar T ⟨b, off, none⟩ (.agg vs.toArray)) (w' := w') (by simp [execOp, ho, hx, hy, Instr.storeAt, Instr.sureAddr]) ?_ (h w' hS')
  simp [storeVar, run_sizeB hn, Value.cells, hr]

/-! ### new memory -/
/-- A new variable. -/
theorem al (hS : Sat W w L) (T : TypeId) (ho : o.op = .alloc T) {z : Value} (hz : zeroB P T = some (some z))
    (h : ∀ b w', Sat W w' (Cs b T z.cells.toList :: L) → K (a.put o.dst (.pointer (some ⟨b, 0, none⟩))) w') : o.wp P a w K Q := by
  refine wp_of_val (s := Instr.alloc T true (.tuple #[])) (v := .pointer (some ⟨w.heap.size, 0, none⟩)) (w' := w.alloc (.cells z.cells T)) (by simp [execOp, ho]) ?_ (h _ _ ?_)
  · simp [Instr.alloc, run_zeroB hz, newVar, newRow]
  · have := hS.newCs z.cells.toList T; simpa using this
theorem bx (hS : Sat W w L) (T : TypeId) (x : Operand) (ho : o.op = .box T x) (v : Value) (hx : a.eval x = v)
    (h : ∀ b w', Sat W w' (Cs b T v.cells.toList :: L) → K (a.put o.dst (.pointer (some ⟨b, 0, none⟩))) w') : o.wp P a w K Q := by
  refine wp_of_val (s := Instr.box T v) (v := .pointer (some ⟨w.heap.size, 0, none⟩)) (w' := w.alloc (.cells v.cells T)) (by simp [execOp, ho, hx]) ?_ (h _ _ ?_)
  · simp [Instr.box, newVar, newRow]
  · have := hS.newCs v.cells.toList T; simpa using this
/-- make([]T, n, c) -/
theorem mk (hS : Sat W w L) (T : TypeId) (x y : Operand) (ho : o.op = .makeSlice T x y) (n c : Nat) (kx ky : IntKind) (hx : a.eval x = .int kx n) (hy : a.eval y = .int ky c)
    {e size bytes : Nat} {z : Value} (hT : elemB P T = some (e, size, bytes, some z)) (hnc : n ≤ c) (hb : c * bytes ≤ 281474976710656) (hm : c ≤ 9223372036854775807)
    (h : ∀ b w', Sat W w' (Cs b e (madeCells z.cells (c * size)).toList :: L) → K (a.put o.dst (.slice (some ⟨b, 0, none⟩) n c)) w') : o.wp P a w K Q := by
  obtain ⟨hu, i, hi, rfl, rfl, hz⟩ := elemB_parts hT
  have hb2 : (i.bytes : Int) * (c : Int) ≤ 281474976710656 := by
    have h : ((c * i.bytes : Nat) : Int) ≤ 281474976710656 := Int.ofNat_le.2 hb
    rwa [Int.natCast_mul, Int.mul_comm] at h
  have hr := run_make (P := P) w T e i z hu hi hz kx ky n c (Int.natCast_nonneg _) (Int.ofNat_le.2 hnc) hb2 (Int.ofNat_le.2 hm)
  simp only [Int.toNat_natCast] at hr
  refine wp_of_val (s := Instr.makeSlice T (.int kx n) (.int ky c)) (by simp [execOp, ho, hx, hy]) hr (h _ _ ?_)
  have := hS.newCs (madeCells z.cells (c * i.size)).toList e
  simpa using this
/-- []T{..} -/
theorem bs (hS : Sat W w L) (T : TypeId) (n : Nat) (ps : Array (Nat × Operand)) (ho : o.op = .buildSlice T n ps)
    {e size bytes : Nat} {z : Value} (hT : elemB P T = some (e, size, bytes, some z)) (hn : 0 < n * size) (hm : n * size ≤ 2 ^ 24) (cs : List Value)
    (hf : Instr.fill (fun i => some (i * size, size)) ((Array.range (n * size)).map (z.cells[· % z.cells.size]!)) (ps.map fun (i, x) => (i, a.eval x)).toList = some cs.toArray)
    (h : ∀ b w', Sat W w' (Cs b e cs :: L) → K (a.put o.dst (.slice (some ⟨b, 0, none⟩) n n)) w') : o.wp P a w K Q := by
  obtain ⟨hu, i, hi, rfl, rfl, hz⟩ := elemB_parts hT
  have h1 : ¬ n * i.size > 2 ^ 24 := Nat.not_lt.2 hm
  have h2 : ¬ n * i.size = 0 := Nat.ne_of_gt hn
  have hr := run_buildSlice (P := P) w T e n (ps.map fun (i, x) => (i, a.eval x)) cs.toArray i z hu hi hz h1 h2 hf
  have h3 := h _ _ (hS.newCs cs e)
  have h4 : execOp a.eval o = (do let x ← Instr.buildSlice T n (ps.map fun (i, x) => (i, a.eval x)); pure (.value x)) := by simp only [execOp, ho]
  exact wp_of_val h4 hr h3
/-- []byte("..") of a literal: its row is marked; it may be written as before. -/
def bytesB (P : Program) (T : TypeId) : Bool := match P.underlying T with | some (.slice e) => (match P.underlying e with | some (.int .u8) => true | _ => false) | _ => false
theorem fzS (hS : Sat W w L) (T : TypeId) (x : Operand) (ho : o.op = .convert T T x) (b off n c : Nat) (hx : a.eval x = .slice (some ⟨b, off, none⟩) n c) (hT : bytesB P T = true)
    {k E l} (hk : Has L k (Cs b E l)) (h : ∀ w', Sat W w' L → K (a.put o.dst (.slice (some ⟨b, off, none⟩) n c)) w') : o.wp P a w K Q := by
  unfold bytesB at hT
  split at hT
  · rename_i e hu
    split at hT
    · rename_i he
      obtain ⟨fz, ht, hS2⟩ := (hS.front k hk).openCs
      have hb := hS2.blk
      have hsh : w.shape? b = some (E, l.length) := by simp [World.shape?, hb]
      have hfr : w.freeze ⟨b, l.length, none⟩ 1 = { w with heap := w.heap.modify b fun | .cells c elem (lo, hi) => .cells c elem (if lo == hi then (l.length, l.length + 1) else (min lo l.length, max hi (l.length + 1))) | o => o } := by
        unfold World.freeze; rw [if_neg (by omega)]; rfl
      refine wp_of_val (s := convert T T (.slice (some ⟨b, off, none⟩) n c)) (v := .slice (some ⟨b, off, none⟩) n c) (w' := w.freeze ⟨b, l.length, none⟩ 1) (by simp [execOp, ho, hx]) ?_ (h _ ?_)
      · simp [convert, run_underlying hu, run_underlying he, markStringish, hsh]
      · have hS3 : Sat W (w.freeze ⟨b, l.length, none⟩ 1) (Blk b (.cells l.toArray E (if fz.1 == fz.2 then (l.length, l.length + 1) else (min fz.1 l.length, max fz.2 (l.length + 1)))) :: L.eraseIdx k) := by
          rw [hfr]
          refine hS2.turn rfl rfl ?_ fun c p hc hp => ?_
          · simp [Array.getElem?_modify, hb]
          · simp [Array.getElem?_modify, Ne.symm hc, hp]
        refine Eq.mp ?_ ((hS3.mkCs (l := l) ?_).back hk)
        · rw [show L.set k (Cs b E l) = L from by
            unfold Has at hk
            obtain ⟨hlt, he⟩ := List.getElem?_eq_some_iff.1 hk
            rw [← he, List.set_getElem_self]]
        · unfold Thaw
          rcases ht with h1 | h1
          · simp [h1]
          · by_cases h2 : fz.1 = fz.2
            · simp [h2]
            · right; simp [h2]; omega
    · cases hT
  · cases hT
/-! a slice literal, all its places written one after the other -/
theorem set_seq (off : Nat) : ∀ (cs : List Value) (j : Nat) (A : List Value), off + j + cs.length ≤ A.length →
    (cs.zipIdx j).foldl (fun (B : Array Value) (x : Value × Nat) => B.setIfInBounds (off + x.2) x.1) A.toArray = (A.take (off + j) ++ cs ++ A.drop (off + j + cs.length)).toArray
  | [], j, A, _ => by simp
  | c :: cs, j, A, h => by
    simp only [List.length_cons] at h
    rw [List.zipIdx_cons, List.foldl_cons, List.setIfInBounds_toArray, set_seq off cs (j + 1) (A.set (off + j) c) (by simp; omega)]
    congr 1
    have := list_seg_step A (off + j) c cs (by omega)
    simpa [Nat.add_assoc] using this
theorem fill_seq (size : Nat) : ∀ (vs : List Value) (i : Nat) (pre rest : List Value), (∀ v ∈ vs, v.cells.size = size) → pre.length = i * size → rest.length = vs.length * size →
    Instr.fill (fun i => some (i * size, size)) (pre ++ rest).toArray ((vs.zipIdx i).map fun x => (x.2, x.1)) = some (pre ++ vs.flatMap fun v => v.cells.toList).toArray
  | [], i, pre, rest, _, _, hr => by
    have : rest = [] := List.eq_nil_of_length_eq_zero (by simpa using hr)
    subst this; simp [Instr.fill]
  | v :: vs, i, pre, rest, hv, hp, hr => by
    have hc := hv v (by simp)
    simp only [List.length_cons, Nat.add_mul] at hr
    have h1 : ¬ ((v.cells.size ≠ size || i * size + v.cells.size > (pre ++ rest).toArray.size) = true) := by simp [hc]; omega
    simp only [List.zipIdx_cons, List.map_cons, Instr.fill]
    rw [if_neg h1]
    have h2 : v.cells.zipIdx.foldl (fun cs x => cs.setIfInBounds (i * size + x.2) x.1) (pre ++ rest).toArray = (pre ++ v.cells.toList ++ rest.drop size).toArray := by
      have := set_seq (i * size) v.cells.toList 0 (pre ++ rest) (by simp [hc]; omega)
      rw [← Array.foldl_toList, Array.toList_zipIdx, this]
      congr 1
      simp only [Nat.add_zero, Array.length_toList, hc, ← hp, List.take_left', List.drop_append, Nat.add_sub_cancel_left]
      simp
    rw [h2]
    have ih := fill_seq size vs (i + 1) (pre ++ v.cells.toList) (rest.drop size) (fun x hx => hv x (by simp [hx])) (by simp [hp, hc, Nat.add_mul]) (by simp; omega)
    rw [ih]; simp
theorem bsF (hS : Sat W w L) (T : TypeId) (n : Nat) (ps : Array (Nat × Operand)) (ho : o.op = .buildSlice T n ps)
    {e size bytes : Nat} {z : Value} (hT : elemB P T = some (e, size, bytes, some z)) (vs : List Value) (hvs : ps.toList.map (fun p => a.eval p.2) = vs) (hix : ps.toList.map (·.1) = List.range n) (hn : 0 < n * size) (hm : n * size ≤ 2 ^ 24) (hc : ∀ v ∈ vs, v.cells.size = size)
    (h : ∀ b w', Sat W w' (Cs b e (vs.flatMap fun v => v.cells.toList) :: L) → K (a.put o.dst (.slice (some ⟨b, 0, none⟩) n n)) w') : o.wp P a w K Q := by
  refine bs hS T n ps ho hT hn hm _ ?_ h
  have hlen : vs.length = n := by
    have := congrArg List.length hix
    rw [← hvs]; simpa using this
  have hl : (ps.map fun (i, x) => (i, a.eval x)).toList = (vs.zipIdx 0).map fun x => (x.2, x.1) := by
    apply List.ext_getElem?
    intro j
    have e1 := congrArg (·[j]?) hix
    have e2 := congrArg (·[j]?) hvs
    simp only [List.getElem?_map] at e1 e2
    simp only [Array.toList_map, List.getElem?_map, List.getElem?_zipIdx]
    cases hj : ps.toList[j]? with
    | none => rw [hj] at e2; simp at e2; simp [e2]
    | some p =>
      rw [hj] at e1 e2
      have hjn : j < n := by
        have := (List.getElem?_eq_some_iff.1 hj).1
        have h3 := congrArg List.length hvs
        simp at h3 this; omega
      simp [hjn] at e1 e2
      simp [← e2, e1]
  rw [hl]
  have := fill_seq size vs 0 [] ((Array.range (n * size)).map (z.cells[· % z.cells.size]!)).toList hc (by simp) (by simp [hlen])
  simp only [List.nil_append, Array.toArray_toList] at this
  exact this
end
attribute [irreducible] Cs
end Go.Sep
