/-
  Lists of numbers; a slice of slices whose rows are each its own: 'Rws R v xs'.
-/
import Derived.Test.YtapodjhkpahdnaaSepMore
namespace Go.Sep
open Go
def iv (l : List Nat) : List Value := l.map fun x : Nat => Value.int .i64 (x : Int)
theorem iv_length (l : List Nat) : (iv l).length = l.length := by simp [iv]
theorem iv_append (l m : List Nat) : iv (l ++ m) = iv l ++ iv m := by simp [iv]
theorem iv_one (l : List Nat) : ∀ u ∈ iv l, u.oneCell' = true := by
  intro u hu
  obtain ⟨_, _, rfl⟩ := List.mem_map.1 hu
  rfl
theorem iv_at {l : List Nat} {k x : Nat} (h : l[k]? = some x) : (iv l)[k]? = some (.int .i64 (x : Int)) := by simp [iv, h]
theorem iv_take (l : List Nat) (n : Nat) : (iv l).take n = iv (l.take n) := by simp [iv, List.map_take]
theorem iv_drop (l : List Nat) (n : Nat) : (iv l).drop n = iv (l.drop n) := by simp [iv, List.map_drop]
/-- A slice of numbers that owns its row. -/
def Ir (v : Value) (l : List Nat) : Asrt := Sl 0 1 v l.length (iv l)
theorem sl_E (E E' sz : Nat) (v : Value) (n : Nat) (vs : List Value) : Sl E sz v n vs = Sl E' sz v n vs := by unfold Sl; rfl
def one1 (x : Value) : List Value := [x]
theorem one1_len (l : List Value) : ∀ x ∈ l, (one1 x).length = 1 := fun _ _ => rfl
theorem one1_fm (l : List Value) : l.flatMap one1 = l := by
  induction l with
  | nil => rfl
  | cons x l ih => rw [List.flatMap_cons, ih]; rfl
def Rws {β : Type} (R : Value → β → Asrt) (v : Value) (xs : List β) : Asrt :=
  Ex fun vs : List Value => St [Pu (vs.length = xs.length), Tb 0 1 one1 v vs, St (List.zipWith R vs xs)]
section
variable {β : Type} {R : Value → β → Asrt} {P : Program} {W w : World} {L : List Asrt} {k i : Nat} {v u : Value} {xs : List β} {vs : List Value} {x : β}
theorem Sat.rwsOpen (h : Sat W w (Rws R v xs :: L)) : ∃ vs, vs.length = xs.length ∧ Sat W w (Tb 0 1 one1 v vs :: St (List.zipWith R vs xs) :: L) := by
  obtain ⟨vs, h⟩ := h.ex
  have h2 : Sat W w (Pu (vs.length = xs.length) :: Tb 0 1 one1 v vs :: St (List.zipWith R vs xs) :: L) := h.open
  obtain ⟨h3, h4⟩ := h2.pu
  exact ⟨vs, h3, h4⟩
theorem Sat.rwsMk (hl : vs.length = xs.length) (h : Sat W w (Tb 0 1 one1 v vs :: St (List.zipWith R vs xs) :: L)) : Sat W w (Rws R v xs :: L) := Sat.mkEx vs (Sat.mkSt (Sat.mkPu hl h))
theorem Sat.rwsShape (h : Sat W w L) (hk : Has L k (Rws R v xs)) : ∃ ao c, v = .slice ao xs.length c ∧ xs.length ≤ c := by
  obtain ⟨vs, hl, h2⟩ := (h.front k hk).rwsOpen
  obtain ⟨ao, c, h3, h4⟩ := h2.tbShape (k := 0) rfl
  exact ⟨ao, c, by rw [h3, hl], by omega⟩
theorem Sat.rwsNil (h : Sat W w L) : Sat W w (Rws R (.slice none 0 0) [] :: L) := Sat.rwsMk (vs := []) rfl ((Sat.stNil h).tbNil)
/-- The row of number i in front. -/
theorem Sat.stRow (h : Sat W w L) (hk : Has L k (St (List.zipWith R vs xs))) (hu : vs[i]? = some u) (hx : xs[i]? = some x) : ∃ L', Sat W w (R u x :: L') := by
  refine h.stAt hk (j := i) (A := R u x) ?_
  unfold Has
  rw [List.getElem?_zipWith, hu, hx]
/-- Another row in the place of number i. -/
theorem Sat.stPut {A : Asrt} {M : List Asrt} (h : Sat W w (A :: St M :: L)) (hi : i < M.length) : Sat W w (St (M.set i A) :: L) := by
  have h2 : Sat W w (A :: (M ++ L)) := by
    have h3 := h.pull1.open
    exact h3.perm (List.perm_middle (l₁ := M))
  refine Sat.mkSt ?_
  obtain ⟨B, hB⟩ : ∃ B, M[i]? = some B := ⟨_, List.getElem?_eq_getElem hi⟩
  have h3 : Sat W w (A :: (M.eraseIdx i ++ L)) := by
    have h4 : (M ++ L)[i]? = some B := by rw [List.getElem?_append_left hi]; exact hB
    have h5 := h2.front (i + 1) (A := B) (by simpa using h4)
    rw [List.eraseIdx_cons_succ, List.eraseIdx_append_of_lt_length hi] at h5
    exact h5.drop
  refine h3.perm ?_
  have e : M.set i A = M.take i ++ A :: M.drop (i + 1) := by rw [List.set_eq_take_append_cons_drop, if_pos hi]
  rw [e, List.eraseIdx_eq_take_drop_succ]
  simp only [List.append_assoc, List.cons_append]
  exact List.perm_middle.symm
theorem zipWith_set (R : Value → β → Asrt) (vs : List Value) (xs : List β) (i : Nat) (u : Value) (x : β) : List.zipWith R (vs.set i u) (xs.set i x) = (List.zipWith R vs xs).set i (R u x) := by
  induction vs generalizing xs i with
  | nil => simp
  | cons v vs ih =>
    cases xs with
    | nil => simp
    | cons y ys =>
      cases i with
      | zero => simp
      | succ i => simp [ih]
theorem zipWith_snoc (R : Value → β → Asrt) {vs : List Value} {xs : List β} (h : vs.length = xs.length) (u : Value) (x : β) : List.zipWith R (vs ++ [u]) (xs ++ [x]) = List.zipWith R vs xs ++ [R u x] := by
  rw [List.zipWith_append h]; rfl
/-- What a row says; where it is nil. -/
theorem Sat.irShape (h : Sat W w L) {l : List Nat} (hk : Has L k (Ir v l)) : ∃ ao c, v = .slice ao l.length c ∧ l.length ≤ c := by
  obtain ⟨ao, c, h1, h2, _⟩ := h.slShape (k := k) hk
  exact ⟨ao, c, h1, h2⟩
theorem Sat.irRd (h : Sat W w L) {l : List Nat} (hk : Has L k (Ir v l)) : Rd w v l.length 1 (iv l) := h.slRd (k := k) hk
theorem Sat.irNil (h : Sat W w L) : Sat W w (Ir (.slice none 0 0) [] :: L) := by
  have := h.slNil (E := 0) (sz := 1)
  exact this
theorem Sat.take2 {A B : Asrt} (h : Sat W w (A :: B :: L)) : Sat W w [A, B] := h.map fun _ ⟨h1, h2, s1, s2, d, a, k1, k2, t1, t2, e, b, _⟩ => ⟨h1, h2, s1, s2, d, a, k1, k2, t1, t2, e, b, trivial⟩
variable {Q : Exit → Act → World → Prop} {a : Act} {o : Oper} {K : Act → World → Prop}
/-- append(s, t...) of numbers. -/
theorem apI {l m : List Nat} {xv : Value} (hS : Sat W w L) (T T2 : TypeId) (x y : Operand) (ho : o.op = .call { callee := .builtin .append, args := #[x, y], argTypes := #[T, T2] }) (hx : a.eval x = v) (hy : a.eval y = xv)
    {e size bytes : Nat} {z : Value} (hT : elemB P T = some (e, size, bytes, some z)) (hsz : size = 1) (hbs : bytes = 8) (hz : z.cells.size = size) (hT2 : intB P T2 = some false)
    (hk : Has L k (Ir v l)) (hr : Rd w xv m.length 1 (iv m)) (hb : l.length + m.length ≤ 17592186044416)
    (h : ∀ v' w', Sat W w' (L.set k (Ir v' (l ++ m))) → K (a.put o.dst v') w') : o.wp P a w K Q := by
  subst hsz; subst hbs
  unfold Ir at hk
  rw [sl_E 0 e] at hk
  refine ap hS T T2 x y ho _ _ hx hy hT hz (by decide) hT2 hk (m := m.length) (.inl hr) (iv_one _) (by omega) (by omega) fun v' w' hS' => h v' w' ?_
  unfold Ir
  rw [iv_append, List.length_append, sl_E 0 e]; exact hS'
theorem fm_setCell {α : Type} {f : α → List Value} {sz i j : Nat} {xs : List α} {x y : α} {u : Value} (h : ∀ x ∈ xs, (f x).length = sz) (hx : xs[i]? = some x) (hj : j < sz) (hy : f y = (f x).set j u) : (xs.flatMap f).set (i * sz + j) u = (xs.set i y).flatMap f := by
  have hi := (List.getElem?_eq_some_iff.1 hx).1
  have hfx := h x (List.mem_of_getElem? hx)
  have hl := fm_take_len h (Nat.le_of_lt hi)
  have h2 : (xs.set i y)[i]? = some y := by simp [hi]
  rw [fm_split h2, fm_split hx, List.take_set_of_le (Nat.le_refl i), List.drop_set_of_lt (by omega), hy, ← hl]
  exact mid_set u (by omega)
/-- One cell of an element is written. -/
theorem stTbF {α : Type} {f : α → List Value} {ys : List α} {y : α} {off sz c E n : Nat} (hS : Sat W w L) (T : TypeId) (z t : Operand) (ho : o.op = .store T z t) (b ad : Nat) (hz : a.eval z = .pointer (some ⟨b, ad, none⟩)) (u : Value) (ht : a.eval t = u) (hu : u.oneCell' = true) (hn : szB P T = some 1)
    (hk : Has L k (Tb E sz f (.slice (some ⟨b, off, none⟩) n c) ys)) (hyn : ys.length = n) (i j : Nat) (hj : ad = off + (i * sz + j)) (hy : ys[i]? = some y) (y'' : α) (hf : f y'' = (f y).set j u) (hjs : j < sz)
    (h : ∀ w', Sat W w' (L.set k (Tb E sz f (.slice (some ⟨b, off, none⟩) n c) (ys.set i y''))) → K (a.put o.dst undef) w') : o.wp P a w K Q := by
  subst hyn
  obtain ⟨hfl, h2⟩ := (hS.front k hk).tbOpen
  have hi := (List.getElem?_eq_some_iff.1 hy).1
  have hle : (i + 1) * sz ≤ ys.length * sz := Nat.mul_le_mul_right _ hi
  rw [Nat.add_mul, Nat.one_mul] at hle
  refine stSl h2 T z t ho b ad hz u ht hu hn (k := 0) rfl (i * sz + j) hj (by rw [fm_len hfl]; omega) fun w' hS' => h w' ?_
  simp only [List.set_cons_zero] at hS'
  rw [fm_setCell hfl hy hjs hf] at hS'
  refine Sat.back (Sat.tbMk (fun x hx => ?_) (by rw [List.length_set]; exact hS')) hk
  rcases List.mem_or_eq_of_mem_set hx with hx | rfl
  · exact hfl x hx
  · rw [hf, List.length_set]; exact hfl y (List.mem_of_getElem? hy)
end
end Go.Sep
