/-
  A row that the library's sort has turned; a slice that is grown by noughts into new memory; an empty slice literal.
-/
import Derived.Test.YtapodjhkpahdnaaSepRows
import Derived.Sort.Grow
namespace Go.Sep
open Go
theorem zero_cells1 {z : Value} (hz : z.cells = #[z]) (m : Nat) : Builtin.zeroCells z.cells m = (List.replicate m z).toArray := by
  rw [hz]
  apply Array.ext'
  simp [Builtin.zeroCells, Nat.mod_one, List.map_const']
section
variable {P : Program} {W w : World} {L : List Asrt} {Q : Exit → Act → World → Prop} {a : Act} {o : Oper} {K : Act → World → Prop}
theorem Sat.run_append_growZ (hS : Sat W w L) (T T2 ty : TypeId) {e bytes : Nat} {z : Value} (hT : elemB P T = some (e, 1, bytes, some z)) (hz : z.cells = #[z]) (hT2 : intB P T2 = some true) {ao : Option Addr} {n c m : Nat} {vs : List Value} (hr : Rd w (.slice ao n c) n 1 vs)
    (hgr : c < n + m) (hb : (n + m) * bytes ≤ 140737488355328) (hm : n + m ≤ 9223372036854775807) :
    ∃ v' w', (Builtin.append_ #[T, T2] ty #[.slice ao n c, .int .i64 m]).run P w = .ok v' w' ∧ Sat W w' (Sl e 1 v' (n + m) (vs ++ List.replicate m z) :: L) := by
  obtain ⟨hu, i, hi, hs1, rfl, hiz⟩ := elemB_parts hT
  have hu2 : ∃ k, P.underlying T2 = some (.int k) := by
    unfold intB at hT2
    cases h : P.underlying T2 with
    | none => simp [h] at hT2
    | some d => cases d <;> simp [h, isIntD] at hT2 ⊢
  obtain ⟨k2, hu2⟩ := hu2
  have hnc : n ≤ c := by obtain ⟨_, _, he, h1, _⟩ := hr; cases he; exact h1
  have hvl : vs.length = n := by obtain ⟨_, _, _, _, _, h3, _⟩ := hr; omega
  have hm0 : ¬ m = 0 := by omega
  have hw : IntKind.i64.wrap (m : Int) = (m : Int) := IntWalk.i64_in _ (by omega)
  have h0 : ¬ ((m : Int) < 0) := by omega
  have hmb : m * i.bytes ≤ (n + m) * i.bytes := Nat.mul_le_mul_right _ (by omega)
  have h1 : ¬ (281474976710656 < (m : Int) * (i.bytes : Int)) := by
    have h : ((m * i.bytes : Nat) : Int) ≤ 140737488355328 := by omega
    rw [Int.natCast_mul] at h
    omega
  have hn : ¬ (n + m ≤ c) := by omega
  have h63 : ¬ (9223372036854775807 < (n : Int) + (m : Int)) := by omega
  have h48 : ¬ (281474976710656 < Builtin.nextslicecap (n + m) c * i.bytes) := by
    have := growslice_any (bytes := i.bytes) hgr hb; omega
  have hco : (Builtin.firstCells 1 n (.slice ao n c)).run P w.drew = .ok vs.toArray w.drew := by
    have h := hr.drew.firstCells (P := P) n (Nat.le_refl _)
    rw [Nat.mul_one, List.take_of_length_le (by omega)] at h
    exact h
  refine ⟨.slice (some ⟨w.heap.size, 0, none⟩) (n + m) (grownCap w (n + m) c e), w.drew.alloc (.cells (vs.toArray ++ Builtin.zeroCells z.cells m ++ Builtin.zeroCells z.cells (grownCap w (n + m) c e - (n + m))) e), ?_, ?_⟩
  · simp [Builtin.append_, run_underlying hu, run_underlying hu2, sizeOf, typeInfo, zeroValue, hi, hs1, hiz, asInt, asIntOf, hw, h0, h1, hco, hn, hm0, h63, h48, Question.forced, newRow, grownCap]
  · have hge := grownCap_ge w (n + m) c e
    have hle := grownCap_le_maxLen w (n + m) c e (by unfold maxLen; omega)
    unfold maxLen at hle
    have hnw := hS.drew.newCs (vs ++ List.replicate m z ++ List.replicate (grownCap w (n + m) c e - (n + m)) z) e
    rw [zero_cells1 hz, zero_cells1 hz]
    rw [show (vs ++ List.replicate m z ++ List.replicate (grownCap w (n + m) c e - (n + m)) z).toArray = vs.toArray ++ (List.replicate m z).toArray ++ (List.replicate (grownCap w (n + m) c e - (n + m)) z).toArray from by simp] at hnw
    exact Sat.slMk (pre := []) (vs := vs ++ List.replicate m z) (rest := List.replicate (grownCap w (n + m) c e - (n + m)) z) (by simpa using hnw) hge hle (by simp [hvl]) rfl (by simp [hvl]; omega)
/-- append(s, make([]T, m)...) that does not fit: new memory; s stays. -/
theorem apGZ (hS : Sat W w L) (T T2 : TypeId) (x y : Operand) (ho : o.op = .call { callee := .builtin .append, args := #[x, y], argTypes := #[T, T2] }) {ao : Option Addr} {n c : Nat} (hx : a.eval x = .slice ao n c) (m : Nat) (hy : a.eval y = .int .i64 m)
    {e size bytes : Nat} {z : Value} (hT : elemB P T = some (e, size, bytes, some z)) (hsz : size = 1) (hz : z.cells = #[z]) (hT2 : intB P T2 = some true) {vs : List Value} (hr : Rd w (.slice ao n c) n 1 vs)
    (hgr : c < n + m) (hb : (n + m) * bytes ≤ 140737488355328) (hm : n + m ≤ 9223372036854775807)
    (h : ∀ v' w', Sat W w' (Sl e 1 v' (n + m) (vs ++ List.replicate m z) :: L) → K (a.put o.dst v') w') : o.wp P a w K Q := by
  subst hsz
  obtain ⟨v', w', hrun, hS'⟩ := hS.run_append_growZ (P := P) T T2 o.type hT hz hT2 hr hgr hb hm
  have h3 := h v' w' hS'
  unfold Oper.wp
  simp [execOp, ho, resolve, invoke, builtin, hx, hy, hrun, Oper.upon, h3]
/-- []T{} -/
theorem bs0 (hS : Sat W w L) (T : TypeId) (ho : o.op = .buildSlice T 0 #[]) {e size bytes : Nat} {z : Option Value} (hT : elemB P T = some (e, size, bytes, z)) (h : ∀ b w', Sat W w' (Cs b e [] :: L) → K (a.put o.dst (.slice (some ⟨b, 0, none⟩) 0 0)) w') : o.wp P a w K Q := by
  obtain ⟨hu, i, hi, rfl, rfl, hiz⟩ := elemB_parts hT
  refine wp_of_val (s := Instr.buildSlice T 0 #[]) (v := .slice (some ⟨w.heap.size, 0, none⟩) 0 0) (w' := w.alloc (.cells #[] e)) (by simp [execOp, ho]) ?_ (h _ _ ?_)
  · simp [Instr.buildSlice, run_underlying hu, sizeOf, typeInfo, hi, Instr.fill, newRow]
    rw [show Array.map (fun _ => (default : Value)) (Array.range 0) = #[] from by apply Array.ext'; simp]
  · have := hS.newCs [] e; simpa using this
theorem Sat.ahead (h : Sat W w L) (n : Nat) : Sat W (Sort.ahead w n) L := h.of_heap rfl rfl rfl
theorem Sat.grow (h : Sat W w L) (os : Array Obj) : Sat W (Sort.grow w os) L := by
  refine ⟨h.os, h.output, ?_⟩
  obtain ⟨h1, h2, s1, s2, d, e, r⟩ := h.stars
  have up : (hp w).sub (hp (Sort.grow w os)) := fun c p hc => by
    have hlt := (Array.getElem?_eq_some_iff.1 hc).1
    simp only [hp, Sort.grow] at hc ⊢
    rw [Array.getElem?_append_left hlt]; exact hc
  exact ⟨h1, h2, Hp.sub_trans s1 up, Hp.sub_trans s2 up, d, e, r⟩
theorem putCells_mid {α : Type} [Inhabited α] (enc : α → Value) (ds : List α) {pre vs rest : List Value} (hl : ds.length = vs.length) : Sort.putCells enc pre.length ds.toArray (pre ++ vs ++ rest).toArray = (pre ++ ds.map enc ++ rest).toArray := by
  apply Array.ext'
  apply List.ext_getElem?
  intro k
  simp only [Sort.putCells, Array.toList_mapIdx, List.getElem?_mapIdx, List.size_toArray]
  by_cases h1 : k < pre.length
  · rw [List.append_assoc, List.append_assoc, List.getElem?_append_left h1, List.getElem?_append_left h1]
    cases pre[k]? with
    | none => rfl
    | some y => simp only [Option.map_some]; rw [if_neg (by omega)]
  · by_cases h2 : k < pre.length + ds.length
    · rw [List.append_assoc, List.append_assoc, List.getElem?_append_right (by omega), List.getElem?_append_left (by omega), List.getElem?_append_right (by omega), List.getElem?_append_left (by simp; omega)]
      rw [List.getElem?_eq_getElem (by omega), List.getElem?_map, List.getElem?_eq_getElem (by omega)]
      simp only [Option.map_some]
      rw [if_pos (by omega)]
      congr 2
      rw [getElem!_pos _ _ (by simp; omega)]
      simp
    · rw [List.append_assoc, List.append_assoc, List.getElem?_append_right (by omega), List.getElem?_append_right (by omega), List.getElem?_append_right (by omega), List.getElem?_append_right (by simp; omega)]
      simp only [List.length_map, hl]
      cases rest[k - pre.length - vs.length]? with
      | none => rfl
      | some y => simp only [Option.map_some]; rw [if_neg (by omega)]
theorem Sat.putRow {α : Type} [Inhabited α] (enc : α → Value) {b E off : Nat} {pre vs rest : List Value} (h : Sat W w (Cs b E (pre ++ vs ++ rest) :: L)) (ds : List α) (hl : ds.length = vs.length) (ho : pre.length = off) : Sat W (Sort.putRow enc w b off ds.toArray) (Cs b E (pre ++ ds.map enc ++ rest) :: L) := by
  subst ho
  obtain ⟨fz, ht, h2⟩ := h.openCs
  have hb := h2.blk
  refine Sat.mkCs (fz := fz) (by simpa [hl] using ht) (h2.turn rfl rfl ?_ fun c p hc hp => ?_)
  · simp only [Sort.putRow, Sort.mapBlock, Array.getElem?_modify, if_pos, hb, Option.map_some, Sort.onCells]
    rw [putCells_mid enc ds hl]
  · simp only [Sort.putRow, Sort.mapBlock, Array.getElem?_modify, Ne.symm hc, if_false]
    exact hp
/-- copy into a part of a slice. -/
theorem cpSl (hS : Sat W w L) (T T2 : TypeId) (x y : Operand) (ho : o.op = .call { callee := .builtin .copy, args := #[x, y], argTypes := #[T, T2] }) (b ad dn dc : Nat) (xv : Value) (hx : a.eval x = .slice (some ⟨b, ad, none⟩) dn dc) (hy : a.eval y = xv)
    {e size bytes : Nat} {z : Option Value} (hT : elemB P T = some (e, size, bytes, z)) (hsz : size = 1) {k E off n c m : Nat} {vs us : List Value} (hk : Has L k (Sl E 1 (.slice (some ⟨b, off, none⟩) n c) n vs)) (j : Nat) (hj : ad = off + j) (hdn : j + dn ≤ vs.length)
    (hsrc : Rd w xv m 1 us) (h1 : ∀ u ∈ us, u.oneCell' = true) (hm : m ≤ dn)
    (h : ∀ w', Sat W w' (L.set k (Sl E 1 (.slice (some ⟨b, off, none⟩) n c) n (vs.take j ++ us ++ vs.drop (j + m)))) → K (a.put o.dst (.int .i64 m)) w') : o.wp P a w K Q := by
  subst hsz; subst hj
  rcases (hS.front k hk).slOpen with ⟨h2, _⟩ | ⟨E', b', off', cap, pre, rest, h2, g1, g2, g3, h4, g5, h5⟩
  · cases h2
  · simp only [Value.slice.injEq, Option.some.injEq, Addr.mk.injEq, true_and, and_true] at h2
    obtain ⟨⟨rfl, rfl⟩, rfl⟩ := h2
    have hul : us.length = m := by have := Src.length (.inl hsrc); omega
    refine cp h5 T T2 x y ho b (off + j) dn dc xv hx hy hT (by decide) (k := 0) rfl hsrc h1 (by simp; omega) fun w' hS' => ?_
    rw [Nat.min_eq_left hm] at hS' ⊢
    refine h w' ?_
    simp only [List.set_cons_zero, Nat.mul_one] at hS'
    rw [← h4, mid_take (by omega), Nat.add_assoc, mid_drop (by omega), List.take_of_length_le (l := us) (by omega)] at hS'
    refine Sat.back (Sat.slMk (pre := pre) (vs := vs.take j ++ us ++ vs.drop (j + m)) (rest := rest) (by simpa [List.append_assoc] using hS') g1 g2 ?_ h4 ?_) hk
    · simp only [List.length_append, List.length_take, List.length_drop]; omega
    · simp only [List.length_append, List.length_take, List.length_drop]; omega
/-- s[lo:] -/
theorem rSlcL {T : TypeId} {x y : Operand} (ho : o.op = .slice T x (some y) none none) {b off n c lo e size bytes : Nat} {k : IntKind} {z : Option Value} (hx : a.eval x = .slice (some ⟨b, off, none⟩) n c) {v : Int} (hy : a.eval y = .int k v) (hv : v = (lo : Nat)) (hlo : lo ≤ n) (hlc : lo < c)
    (hT : elemB P T = some (e, size, bytes, z)) (w : World) : (execOp a.eval o).run P w = .ok (.value (.slice (some ⟨b, off + lo * size, none⟩) (n - lo) (c - lo))) w := by
  subst hv
  obtain ⟨hu, i, hi, rfl, rfl, _⟩ := elemB_parts hT
  have he : P.elem T = e := by simp [Program.elem, hu]
  have h1 : ¬ c = lo := by omega
  have hr := run_slice_l (P := P) (w := w) T (some ⟨b, off, none⟩) n c (by rw [he]; exact hu) k lo (by omega) (by omega)
  rw [he] at hr
  refine rd_of (s := Instr.sliceAt T (.slice (some ⟨b, off, none⟩) n c) (some (.int k lo)) none none) (by simp [execOp, ho, hx, hy]) ?_
  rw [run_sliceAt_slice (h := by rw [he]; exact hu), hr]
  simp [sizeOf, typeInfo, hi, sliced, h1, Addr.add_lit]
end
end Go.Sep
