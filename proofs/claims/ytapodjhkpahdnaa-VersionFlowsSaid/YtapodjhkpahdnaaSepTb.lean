/-
  Slices of things that take several cells each: 'Tb E sz f v xs': v owns a row that holds, one after the other, the cells f x of each x of xs.
-/
import Derived.Test.YtapodjhkpahdnaaSepSl
namespace Go.Sep
open Go

section
variable {α : Type} {sz : Nat} {f : α → List Value}
theorem fm_len {xs : List α} (h : ∀ x ∈ xs, (f x).length = sz) : (xs.flatMap f).length = xs.length * sz := by
  induction xs with
  | nil => simp
  | cons x r ih =>
    rw [List.flatMap_cons, List.length_append, h x (by simp), ih (fun y hy => h y (by simp [hy])), List.length_cons, Nat.add_mul]; omega
theorem fm_split {xs : List α} {i : Nat} {x : α} (hx : xs[i]? = some x) : xs.flatMap f = (xs.take i).flatMap f ++ f x ++ (xs.drop (i + 1)).flatMap f := by
  have hi := (List.getElem?_eq_some_iff.1 hx).1
  have he : xs[i] = x := (List.getElem?_eq_some_iff.1 hx).2
  conv => lhs; rw [← List.take_append_drop i xs, List.drop_eq_getElem_cons hi, he]
  rw [List.flatMap_append, List.flatMap_cons, List.append_assoc]
theorem fm_take_len {xs : List α} {i : Nat} (h : ∀ x ∈ xs, (f x).length = sz) (hi : i ≤ xs.length) : ((xs.take i).flatMap f).length = i * sz := by
  rw [fm_len (sz := sz) (fun x hx => h x (List.mem_of_mem_take hx))]; simp [Nat.min_eq_left hi]
theorem fm_row {xs : List α} {i : Nat} {x : α} (h : ∀ x ∈ xs, (f x).length = sz) (hx : xs[i]? = some x) : ((xs.flatMap f).drop (i * sz)).take sz = f x := by
  have hi := (List.getElem?_eq_some_iff.1 hx).1
  have hl := fm_take_len h (Nat.le_of_lt hi)
  have hfx := h x (List.mem_of_getElem? hx)
  rw [fm_split hx, List.append_assoc, ← hl, List.drop_left', ← hfx, List.take_left']
  · rfl
  · rfl
theorem fm_cell {xs : List α} {i j : Nat} {x : α} {v : Value} (h : ∀ x ∈ xs, (f x).length = sz) (hx : xs[i]? = some x) (hv : (f x)[j]? = some v) : (xs.flatMap f)[i * sz + j]? = some v := by
  have hj := (List.getElem?_eq_some_iff.1 hv).1
  have hfx := h x (List.mem_of_getElem? hx)
  rw [← fm_row h hx, List.getElem?_take, if_pos (by omega), List.getElem?_drop] at hv
  exact hv
theorem fm_set {xs : List α} {i : Nat} (y : α) (h : ∀ x ∈ xs, (f x).length = sz) (hi : i < xs.length) :
    (xs.set i y).flatMap f = (xs.flatMap f).take (i * sz) ++ f y ++ (xs.flatMap f).drop (i * sz + sz) := by
  have hx : xs[i]? = some xs[i] := List.getElem?_eq_getElem hi
  have hl := fm_take_len h (Nat.le_of_lt hi)
  have hfx := h xs[i] (List.getElem_mem hi)
  have h2 : (xs.set i y)[i]? = some y := by simp [hi]
  rw [fm_split h2, fm_split hx, List.take_set_of_le (Nat.le_refl i), List.drop_set_of_lt (by omega)]
  rw [← hl]
  congr 1
  · congr 1
    rw [List.append_assoc, List.take_left']; rfl
  · conv => rhs; rw [← List.drop_drop, List.append_assoc, List.drop_left' rfl, ← hfx, List.drop_left' rfl]
end

theorem mid_take {pre m rest : List Value} {t : Nat} (h : t ≤ m.length) : (pre ++ m ++ rest).take (pre.length + t) = pre ++ m.take t := by
  rw [List.append_assoc, List.take_length_add_append, List.take_append_of_le_length h]
theorem mid_drop {pre m rest : List Value} {t : Nat} (h : t ≤ m.length) : (pre ++ m ++ rest).drop (pre.length + t) = m.drop t ++ rest := by
  rw [List.append_assoc, List.drop_length_add_append, List.drop_append_of_le_length h]

def Tb {α : Type} (E sz : Nat) (f : α → List Value) (v : Value) (xs : List α) : Asrt := St [Pu (∀ x ∈ xs, (f x).length = sz), Sl E sz v xs.length (xs.flatMap f)]

section
variable {α : Type} {P : Program} {W w : World} {L : List Asrt} {k b off E sz c i j : Nat} {f : α → List Value} {v : Value} {xs : List α} {x : α}
theorem Sat.tbOpen (h : Sat W w (Tb E sz f v xs :: L)) : (∀ x ∈ xs, (f x).length = sz) ∧ Sat W w (Sl E sz v xs.length (xs.flatMap f) :: L) := by
  have h2 : Sat W w (Pu (∀ x ∈ xs, (f x).length = sz) :: Sl E sz v xs.length (xs.flatMap f) :: L) := h.open
  exact h2.pu
theorem Sat.tbMk (hf : ∀ x ∈ xs, (f x).length = sz) (h : Sat W w (Sl E sz v xs.length (xs.flatMap f) :: L)) : Sat W w (Tb E sz f v xs :: L) := Sat.mkSt (Sat.mkPu hf h)
theorem Sat.tbLen (h : Sat W w L) (hk : Has L k (Tb E sz f v xs)) : ∀ x ∈ xs, (f x).length = sz := (h.front k hk).tbOpen.1
theorem Sat.tbShape (h : Sat W w L) (hk : Has L k (Tb E sz f v xs)) : ∃ ao c, v = .slice ao xs.length c ∧ xs.length ≤ c := by
  obtain ⟨ao, c, h1, h2, _⟩ := (h.front k hk).tbOpen.2.slShape (k := 0) rfl
  exact ⟨ao, c, h1, h2⟩
theorem Sat.tbAddr (h : Sat W w L) (hk : Has L k (Tb E sz f v xs)) (hn : 0 < xs.length) : ∃ b off c, v = .slice (some ⟨b, off, none⟩) xs.length c ∧ xs.length ≤ c :=
  (h.front k hk).tbOpen.2.slAddr (k := 0) rfl hn
theorem Sat.tbNil : Sat W w L → Sat W w (Tb E sz f (.slice none 0 0) [] :: L) := fun h => Sat.tbMk (by simp) (by simpa using h.slNil)
/-- A row that is just made is one slice's own. -/
theorem Sat.csTb {n : Nat} (hf : ∀ x ∈ xs, (f x).length = sz) (hn : xs.length = n) (hm : n ≤ 9223372036854775807) (h : Sat W w (Cs b E (xs.flatMap f) :: L)) : Sat W w (Tb E sz f (.slice (some ⟨b, 0, none⟩) n n) xs :: L) := by
  subst hn
  exact Sat.tbMk hf (Sat.slMk (pre := []) (rest := []) (by simpa using h) (Nat.le_refl _) hm (fm_len hf) rfl (by rw [fm_len hf]; omega))
theorem Sat.tbRd (h : Sat W w L) (hk : Has L k (Tb E sz f v xs)) : Rd w v xs.length sz (xs.flatMap f) := (h.front k hk).tbOpen.2.slRd (k := 0) rfl
theorem Sat.tbCell (h : Sat W w L) (hk : Has L k (Tb E sz f (.slice (some ⟨b, off, none⟩) xs.length c) xs)) (hx : xs[i]? = some x) {u : Value} (hu : (f x)[j]? = some u) :
    w.cell? ⟨b, off + (i * sz + j), none⟩ = some u ∧ w.frozen? ⟨b, off + (i * sz + j), none⟩ = false := by
  obtain ⟨hf, h2⟩ := (h.front k hk).tbOpen
  exact h2.slCell (k := 0) rfl (fm_cell hf hx hu)

variable {o : Oper} {a : Act} {K : Act → World → Prop} {Q : Exit → Act → World → Prop}
/-- One of the cells of an element is read. -/
theorem ldTb (hS : Sat W w L) (T : TypeId) (y : Operand) (ho : o.op = .load T y) (b ad : Nat) (hy : a.eval y = .pointer (some ⟨b, ad, none⟩)) (hT : aggB P T = some false)
    (hk : Has L k (Tb E sz f (.slice (some ⟨b, off, none⟩) xs.length c) xs)) (i j : Nat) (hj : ad = off + (i * sz + j)) (hx : xs[i]? = some x) {u : Value} (hu : (f x)[j]? = some u) (h : K (a.put o.dst u) w) : o.wp P a w K Q := by
  subst hj
  exact wp_of_val (s := loadVar T ⟨b, off + (i * sz + j), none⟩) (by simp [execOp, ho, hy, Instr.loadAt, Instr.sureAddr]) (run_loadScalar hT (hS.tbCell hk hx hu).1) h
/-- A whole element is read. -/
theorem ldTbA (hS : Sat W w L) (T : TypeId) (y : Operand) (ho : o.op = .load T y) (b ad : Nat) (hy : a.eval y = .pointer (some ⟨b, ad, none⟩)) (hT : aggB P T = some true) (hn : szB P T = some sz)
    (hk : Has L k (Tb E sz f (.slice (some ⟨b, off, none⟩) xs.length c) xs)) (i : Nat) (hj : ad = off + i * sz) (hx : xs[i]? = some x) (h : K (a.put o.dst (.agg (f x).toArray)) w) : o.wp P a w K Q := by
  subst hj
  have hl := hS.tbLen hk x (List.mem_of_getElem? hx)
  exact wp_of_val (s := loadVar T ⟨b, off + i * sz, none⟩) (by simp [execOp, ho, hy, Instr.loadAt, Instr.sureAddr])
    (run_loadAgg hT hn hl fun j u hu => by rw [Nat.add_assoc]; exact (hS.tbCell hk hx hu).1) h
theorem Sat.tbStore (hS : Sat W w L) (hk : Has L k (Tb E sz f (.slice (some ⟨b, off, none⟩) xs.length c) xs)) (y : α) (hi : i < xs.length) (hy : (f y).length = sz) (h1 : ∀ u ∈ f y, u.oneCell' = true) :
    ∃ w', (Go.storeCells ⟨b, off + i * sz, none⟩ (f y)).run P w = .ok () w' ∧ Sat W w' (L.set k (Tb E sz f (.slice (some ⟨b, off, none⟩) xs.length c) (xs.set i y))) := by
  obtain ⟨hf, h2⟩ := (hS.front k hk).tbOpen
  rcases h2.slOpen with ⟨e, _⟩ | ⟨E', b', off', cap, pre, rest, e, g1, g2, g3, g4, g5, h5⟩
  · cases e
  · simp only [Value.slice.injEq, Option.some.injEq, Addr.mk.injEq, true_and, and_true] at e
    obtain ⟨⟨rfl, rfl⟩, rfl⟩ := e
    have hle : (i + 1) * sz ≤ xs.length * sz := Nat.mul_le_mul_right _ hi
    rw [Nat.add_mul, Nat.one_mul] at hle
    obtain ⟨w', hr, h6⟩ := h5.storeCells (P := P) (k := 0) (off := off + i * sz) rfl (f y) (by simp [g3]; omega) h1
    refine ⟨w', hr, ?_⟩
    simp only [List.set_cons_zero] at h6
    have hs := fm_set y hf hi
    have hfl := fm_len hf
    have e1 : (pre ++ xs.flatMap f ++ rest).take (off + i * sz) = pre ++ (xs.flatMap f).take (i * sz) := by rw [← g4]; exact mid_take (by omega)
    have e2 : (pre ++ xs.flatMap f ++ rest).drop (off + i * sz + (f y).length) = (xs.flatMap f).drop (i * sz + sz) ++ rest := by rw [← g4, hy, Nat.add_assoc]; exact mid_drop (by omega)
    rw [e1, e2] at h6
    have hset : ∀ z ∈ xs.set i y, (f z).length = sz := fun z hz => by
      rcases List.mem_or_eq_of_mem_set hz with hz | rfl
      · exact hf z hz
      · exact hy
    have h7 : Sat W w' (Cs b E' (pre ++ (xs.set i y).flatMap f ++ rest) :: L.eraseIdx k) := by rw [hs]; simpa [List.append_assoc] using h6
    have h8 := Sat.slMk (E := E) (n := (xs.set i y).length) (sz := sz) (cap := c) (pre := pre) (vs := (xs.set i y).flatMap f) (rest := rest) h7 (by simpa using g1) g2 (fm_len hset) g4 (by rw [fm_len hset]; simp; omega)
    have h9 := (Sat.tbMk hset h8).back hk
    rwa [List.length_set] at h9
/-- A whole element is written. -/
theorem stTbA (hS : Sat W w L) (T : TypeId) (z y : Operand) (ho : o.op = .store T z y) (b ad : Nat) (hz : a.eval z = .pointer (some ⟨b, ad, none⟩)) (x' : α) (hy : a.eval y = .agg (f x').toArray) (h1 : ∀ u ∈ f x', u.oneCell' = true) (hlen : (f x').length = sz) (hn : szB P T = some sz)
    (hk : Has L k (Tb E sz f (.slice (some ⟨b, off, none⟩) xs.length c) xs)) (i : Nat) (hj : ad = off + i * sz) (hi : i < xs.length)
    (h : ∀ w', Sat W w' (L.set k (Tb E sz f (.slice (some ⟨b, off, none⟩) xs.length c) (xs.set i x'))) → K (a.put o.dst undef) w') : o.wp P a w K Q := by
  subst hj
  obtain ⟨w', hr, hS'⟩ := hS.tbStore (P := P) hk x' hi hlen h1
  refine wp_of_unit (s := storeVar T ⟨b, off + i * sz, none⟩ (.agg (f x').toArray)) (w' := w') (by simp [execOp, ho, hz, hy, Instr.storeAt, Instr.sureAddr]) ?_ (h w' hS')
  simp [storeVar, run_sizeB hn, Value.cells, hr, hlen]
/-- A struct's value out of parts. -/
theorem bd (T : TypeId) (ps : Array (Nat × Operand)) (ho : o.op = .build T ps) {cs : Array Value} {parts : Array (Nat × Value)} (hp : (ps.map fun (i, x) => (i, a.eval x)) = parts) (hr : ∀ u, (Instr.build T parts).run P u = .ok (.agg cs) u)
    (h : K (a.put o.dst (.agg cs)) w) : o.wp P a w K Q := by
  subst hp
  exact wp_of_val (s := Instr.build T (ps.map fun (i, x) => (i, a.eval x))) (by simp only [execOp, ho]) (hr w) h
/-- An element more. -/
theorem apTb (hS : Sat W w L) (T T2 : TypeId) (y z : Operand) (ho : o.op = .call { callee := .builtin .append, args := #[y, z], argTypes := #[T, T2] }) (v xv : Value) (hy : a.eval y = v) (hz : a.eval z = xv)
    {e size bytes : Nat} {zv : Value} (hT : elemB P T = some (e, size, bytes, some zv)) (hzs : zv.cells.size = size) (hpos : 0 < size) (hT2 : intB P T2 = some false)
    (hk : Has L k (Tb e size f v xs)) (ys : List α) (hlen : ∀ x ∈ ys, (f x).length = size) (hsrc : Src w xv ys.length size (ys.flatMap f)) (h1 : ∀ u ∈ ys.flatMap f, u.oneCell' = true) (hb : (xs.length + ys.length) * bytes ≤ 140737488355328) (hm : xs.length + ys.length ≤ 9223372036854775807)
    (h : ∀ v' w', Sat W w' (L.set k (Tb e size f v' (xs ++ ys))) → K (a.put o.dst v') w') : o.wp P a w K Q := by
  obtain ⟨hf, h2⟩ := (hS.front k hk).tbOpen
  refine ap h2 T T2 y z ho v xv hy hz hT hzs hpos hT2 (k := 0) rfl hsrc h1 hb hm fun v' w' hS' => h v' w' ?_
  simp only [List.set_cons_zero] at hS'
  refine Sat.back (Sat.tbMk (fun x hx => ?_) (by simpa [List.flatMap_append] using hS')) hk
  rcases List.mem_append.1 hx with hx | hx
  · exact hf x hx
  · exact hlen x hx
end
attribute [irreducible] Tb
end Go.Sep
