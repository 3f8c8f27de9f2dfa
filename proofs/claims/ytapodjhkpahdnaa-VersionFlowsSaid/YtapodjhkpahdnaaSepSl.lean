/-
  Slices that own their row, slices that are only read, append, copy, strings and bytes, in the logic of Sep.
-/
import Derived.Test.YtapodjhkpahdnaaSepOps
namespace Go.Sep
open Go

/-- v has n elements of sz cells each, vs all of them, and owns the row in which they stand. -/
def CsA (b : Nat) (l : List Value) : Asrt := Ex fun E : Nat => Cs b E l
def Sl (_E sz : Nat) (v : Value) (n : Nat) (vs : List Value) : Asrt :=
  Ex fun x : Option (Nat × Nat × Nat) × List Value × List Value => match x.1 with
    | none => Pu (v = .slice none 0 0 ∧ n = 0 ∧ vs = [])
    | some (b, off, cap) => St [Pu (v = .slice (some ⟨b, off, none⟩) n cap ∧ n ≤ cap ∧ cap ≤ 9223372036854775807 ∧ vs.length = n * sz ∧ x.2.1.length = off ∧ cap * sz ≤ vs.length + x.2.2.length), CsA b (x.2.1 ++ vs ++ x.2.2)]
/-- In w, v reads as n elements of sz cells each, vs all of them. -/
def Rd (w : World) (v : Value) (n sz : Nat) (vs : List Value) : Prop :=
  ∃ ao c, v = .slice ao n c ∧ n ≤ c ∧ c ≤ 9223372036854775807 ∧ vs.length = n * sz ∧ (0 < n → ∃ b off, ao = some ⟨b, off, none⟩ ∧ ∀ j u, vs[j]? = some u → w.cell? ⟨b, off + j, none⟩ = some u)
def u8 (b : UInt8) : Value := .int .u8 (b.toNat : Int)
def bv (l : List UInt8) : List Value := l.map u8
theorem bv_length (l : List UInt8) : (bv l).length = l.length := by simp [bv]
theorem bv_append (l m : List UInt8) : bv (l ++ m) = bv l ++ bv m := by simp [bv]
theorem bv_one (l : List UInt8) : ∀ u ∈ bv l, u.oneCell' = true := by
  intro u hu
  obtain ⟨_, _, rfl⟩ := List.mem_map.1 hu
  rfl

section
variable {P : Program} {W w : World} {L : List Asrt} {k b off E sz n m : Nat} {T : TypeId} {v xv : Value} {vs l pre rest : List Value}

theorem Sat.slNil (h : Sat W w L) : Sat W w (Sl E sz (.slice none 0 0) 0 [] :: L) := Sat.mkEx (none, [], []) (Sat.mkPu ⟨rfl, rfl, rfl⟩ h)
theorem Sat.slMk {cap E' : Nat} (h : Sat W w (Cs b E' (pre ++ vs ++ rest) :: L)) (h1 : n ≤ cap) (h2 : cap ≤ 9223372036854775807) (h3 : vs.length = n * sz) (h4 : pre.length = off) (h5 : cap * sz ≤ vs.length + rest.length) :
    Sat W w (Sl E sz (.slice (some ⟨b, off, none⟩) n cap) n vs :: L) :=
  Sat.mkEx (some (b, off, cap), pre, rest) (Sat.mkSt (Sat.mkPu ⟨rfl, h1, h2, h3, h4, h5⟩ (Sat.mkEx E' h)))
theorem Sat.slOpen (h : Sat W w (Sl E sz v n vs :: L)) : (v = .slice none 0 0 ∧ n = 0 ∧ vs = [] ∧ Sat W w L) ∨
    ∃ E' b off cap pre rest, v = .slice (some ⟨b, off, none⟩) n cap ∧ n ≤ cap ∧ cap ≤ 9223372036854775807 ∧ vs.length = n * sz ∧ pre.length = off ∧ cap * sz ≤ vs.length + rest.length ∧ Sat W w (Cs b E' (pre ++ vs ++ rest) :: L) := by
  obtain ⟨⟨x, pre, rest⟩, h⟩ := h.ex
  cases x with
  | none =>
    obtain ⟨⟨h1, h2, h3⟩, h⟩ := h.pu
    exact .inl ⟨h1, h2, h3, h⟩
  | some x =>
    obtain ⟨b, off, cap⟩ := x
    have h2 : Sat W w (Pu _ :: CsA b (pre ++ vs ++ rest) :: L) := h.open
    obtain ⟨⟨h1, h3, h4, h5, h6, h7⟩, h⟩ := h2.pu
    obtain ⟨E', h⟩ := h.ex
    exact .inr ⟨E', b, off, cap, pre, rest, h1, h3, h4, h5, h6, h7, h⟩
theorem Sat.slShape (h : Sat W w L) (hk : Has L k (Sl E sz v n vs)) : ∃ ao c, v = .slice ao n c ∧ n ≤ c ∧ vs.length = n * sz := by
  rcases (h.front k hk).slOpen with ⟨rfl, rfl, rfl, _⟩ | ⟨E', b, off, cap, pre, rest, rfl, h1, _, h3, _⟩
  · exact ⟨none, 0, rfl, Nat.le_refl _, by simp⟩
  · exact ⟨_, _, rfl, h1, h3⟩
theorem Sat.csRd {cap : Nat} (h : Sat W w L) (hk : Has L k (Cs b E (pre ++ vs ++ rest))) (h1 : n ≤ cap) (h2 : cap ≤ 9223372036854775807) (h3 : vs.length = n * sz) (h4 : pre.length = off) : Rd w (.slice (some ⟨b, off, none⟩) n cap) n sz vs :=
  ⟨_, _, rfl, h1, h2, h3, fun _ => ⟨b, off, rfl, fun j u hu => h.cell hk (by
    have hj := (List.getElem?_eq_some_iff.1 hu).1
    rw [List.append_assoc, List.getElem?_append_right (by omega), List.getElem?_append_left (by omega), ← h4]
    simpa using hu)⟩⟩
theorem Sat.slRd (h : Sat W w L) (hk : Has L k (Sl E sz v n vs)) : Rd w v n sz vs := by
  have h := h.front k hk
  rcases h.slOpen with ⟨rfl, rfl, rfl, _⟩ | ⟨E', b, off, cap, pre, rest, rfl, h1, h2, h3, h4, _, h⟩
  · exact ⟨_, _, rfl, Nat.le_refl _, by omega, by simp, fun h => by omega⟩
  · exact h.csRd (k := 0) rfl h1 h2 h3 h4
/-- A row that is just one slice's own. -/
theorem Sat.csRd0 (h : Sat W w L) (hk : Has L k (Cs b E vs)) (h2 : n ≤ 9223372036854775807) (h3 : vs.length = n * sz) : Rd w (.slice (some ⟨b, 0, none⟩) n n) n sz vs :=
  h.csRd (pre := []) (rest := []) (by simpa using hk) (Nat.le_refl _) h2 h3 rfl
theorem Rd.old (h : Rd W v n sz vs) (hS : Sat W w L) : Rd w v n sz vs := by
  obtain ⟨ao, c, h1, h2, h3, h4, h5⟩ := h
  exact ⟨ao, c, h1, h2, h3, h4, fun hn => by
    obtain ⟨b, off, hb, hc⟩ := h5 hn
    exact ⟨b, off, hb, fun j u hu => by rw [World.cell?_of_block (hS.old (World.block_lt_of_cell? W _ (hc j u hu)))]; exact hc j u hu⟩⟩
theorem Rd.drew (h : Rd w v n sz vs) : Rd w.drew v n sz vs := h
theorem Rd.firstCells (h : Rd w v n sz vs) (m : Nat) (hm : m ≤ n) : (Builtin.firstCells sz m v).run P w = .ok (vs.take (m * sz)).toArray w := by
  obtain ⟨ao, c, rfl, _, _, h4, h5⟩ := h
  have hl : (vs.take (m * sz)).length = m * sz := by
    have := Nat.mul_le_mul_right sz hm
    simp; omega
  rcases Nat.eq_zero_or_pos m with h0 | h0
  · subst h0
    cases ao with
    | none => simp [Builtin.firstCells]
    | some ad => exact run_firstCells_some w sz 0 ad n c _ hl (by simp)
  · obtain ⟨b, off, rfl, hc⟩ := h5 (by omega)
    refine run_firstCells_some w sz m _ n c _ hl (fun j u hu => ?_)
    rw [Addr.add_lit]
    rw [List.getElem?_take] at hu
    split at hu
    · exact hc j u hu
    · cases hu

/-- What may be appended: a slice that is read, or a string. -/
def Src (w : World) (x : Value) (m sz : Nat) (news : List Value) : Prop :=
  Rd w x m sz news ∨ ∃ s : ByteArray, x = .string s ∧ m = s.size ∧ sz = 1 ∧ news = bv s.data.toList
theorem Src.length {x : Value} {news : List Value} (h : Src w x m sz news) : news.length = m * sz := by
  rcases h with ⟨_, _, _, _, _, h, _⟩ | ⟨s, _, rfl, rfl, rfl⟩
  · exact h
  · simp [bv]
theorem Src.lenOf {x : Value} {news : List Value} (h : Src w x m sz news) (w' : World) : (Builtin.lenOf x).run P w' = .ok m w' := by
  rcases h with ⟨_, _, rfl, _⟩ | ⟨s, rfl, rfl, _⟩ <;> simp [Builtin.lenOf]
theorem Src.cells {x : Value} {news : List Value} (h : Src w x m sz news) : (Builtin.firstCells sz m x).run P w = .ok news.toArray w := by
  rcases h with h | ⟨s, rfl, rfl, rfl, rfl⟩
  · have hl : news.length = m * sz := Src.length (.inl h)
    have := h.firstCells (P := P) m (Nat.le_refl _)
    rwa [← hl, List.take_length] at this
  · simp [Builtin.firstCells, bv]
    apply Array.ext'
    simp [u8]

def isIntD : TypeDesc → Bool
  | .int _ => true
  | _ => false
def intB (P : Program) (T : TypeId) : Option Bool := (P.underlying T).map isIntD
theorem growslice_any {need old bytes : Nat} (h : old < need) (hb : need * bytes ≤ 140737488355328) : Builtin.nextslicecap need old * bytes ≤ 281474976710656 := growslice_fits h hb

theorem take_mul_zero (z : Array Value) (j : Nat) : (Builtin.zeroCells z j).size = j * z.size := by simp [Builtin.zeroCells]

theorem run_append_types (T T2 ty : TypeId) {e : TypeId} {d2 : TypeDesc} (hu : P.underlying T = some (.slice e)) (hu2 : P.underlying T2 = some d2) (hd2 : isIntD d2 = false) {i : TypeInfo} (hi : P.info? e = some i) (ao : Option Addr) (n c : Nat) (x : Value) (w : World) :
    (Builtin.append_ #[T, T2] ty #[.slice ao n c, x]).run P w = (Builtin.append_ #[T, T] ty #[.slice ao n c, x]).run P w := by
  have hsz : ∀ w, (sizeOf e).run P w = .ok i.size w := fun w => by simp [sizeOf, typeInfo, hi]
  cases d2 <;> first
    | (simp [isIntD] at hd2; done)
    | (simp only [Builtin.append_, List.getElem?_toArray, List.getElem?_cons_zero, List.getElem?_cons_succ, Sem.run_bind, run_underlying hu, run_underlying hu2, Result.andThen_ok, Sem.run_pure, hsz]; done)
    | (simp only [Builtin.append_, List.getElem?_toArray, List.getElem?_cons_zero, List.getElem?_cons_succ, Sem.run_bind, run_underlying hu, run_underlying hu2, Result.andThen_ok, Sem.run_pure, hsz]; rfl)

/-- append, as it runs. -/
theorem Sat.run_append (hS : Sat W w L) (T T2 ty : TypeId) {e size bytes : Nat} {z : Value} (hT : elemB P T = some (e, size, bytes, some z)) (hz : z.cells.size = size) (hpos : 0 < size) (hT2 : intB P T2 = some false)
    (hk : Has L k (Sl e size v n vs)) {news : List Value} (hsrc : Src w xv m size news) (h1 : ∀ u ∈ news, u.oneCell' = true) (hb : (n + m) * bytes ≤ 140737488355328) (hm : n + m ≤ 9223372036854775807) :
    ∃ v' w', (Builtin.append_ #[T, T2] ty #[v, xv]).run P w = .ok v' w' ∧ Sat W w' (L.set k (Sl e size v' (n + m) (vs ++ news))) := by
  obtain ⟨hu, i, hi, rfl, rfl, hiz⟩ := elemB_parts hT
  have hu2 : ∃ d, P.underlying T2 = some d ∧ isIntD d = false := by
    unfold intB at hT2
    cases h : P.underlying T2 with
    | none => simp [h] at hT2
    | some d => simp only [h, Option.map_some, Option.some.injEq] at hT2; exact ⟨d, rfl, hT2⟩
  obtain ⟨d2, hu2, hd2⟩ := hu2
  rw [show (∃ v' w', (Builtin.append_ #[T, T2] ty #[v, xv]).run P w = .ok v' w' ∧ Sat W w' (L.set k (Sl e i.size v' (n + m) (vs ++ news)))) = (∃ v' w', (Builtin.append_ #[T, T] ty #[v, xv]).run P w = .ok v' w' ∧ Sat W w' (L.set k (Sl e i.size v' (n + m) (vs ++ news)))) from by
    obtain ⟨ao, c, rfl, _⟩ := hS.slShape hk
    rw [run_append_types T T2 ty hu hu2 hd2 hi]]
  clear hu2 hd2
  have hnl := hsrc.length
  have hrd := hS.slRd hk
  have h63' : ¬ (9223372036854775807 < ((n : Int) + (m : Int))) := by omega
  rcases (hS.front k hk).slOpen with ⟨rfl, rfl, rfl, h⟩ | ⟨E', b, off, cap, pre, rest, rfl, g1, g2, g3, g4, g5, h⟩
  · rcases Nat.eq_zero_or_pos m with hm0 | hm0
    · subst hm0
      have hnews : news = [] := List.eq_nil_of_length_eq_zero (by simpa using hnl)
      subst hnews
      refine ⟨.slice none 0 0, w, ?_, ?_⟩
      · have hl := hsrc.lenOf (P := P) w
        have hc := hsrc.cells (P := P)
        simp [Builtin.append_, run_underlying hu, sizeOf, typeInfo, hi, hl, hc]
      · exact (Sat.slNil h).back hk
    · have hl := hsrc.lenOf (P := P) w
      have hc : (Builtin.firstCells i.size m xv).run P w.drew = .ok news.toArray w.drew := by
        rcases hsrc with hr | hr
        · exact Src.cells (.inl hr.drew)
        · exact Src.cells (.inr hr)
      have hm0' : ¬ m = 0 := by omega
      have h48 : ¬ (281474976710656 < Builtin.nextslicecap m 0 * i.bytes) := by
        have := growslice_any (old := 0) (bytes := i.bytes) hm0 (by simpa using hb); omega
      have h63 : ¬ (9223372036854775807 < (m : Int)) := by omega
      refine ⟨.slice (some ⟨w.heap.size, 0, none⟩) m (grownCap w m 0 e), w.drew.alloc (.cells (news.toArray ++ Builtin.zeroCells z.cells (grownCap w m 0 e - m)) e), ?_, ?_⟩
      · simp [Builtin.append_, run_underlying hu, sizeOf, typeInfo, zeroValue, hi, hiz, hl, hc, hm0', h63, h48, Question.forced, run_firstCells_none, newRow, grownCap]
      · have hge := grownCap_ge w m 0 e
        have hle := grownCap_le_maxLen w m 0 e (by unfold maxLen; omega)
        unfold maxLen at hle
        have hn := h.drew.newCs (news ++ (Builtin.zeroCells z.cells (grownCap w m 0 e - m)).toList) e
        rw [show (news ++ (Builtin.zeroCells z.cells (grownCap w m 0 e - m)).toList).toArray = news.toArray ++ Builtin.zeroCells z.cells (grownCap w m 0 e - m) from by simp] at hn
        simp only [Nat.zero_add, List.nil_append]
        have hzl : (Builtin.zeroCells z.cells (grownCap w m 0 e - m)).toList.length = (grownCap w m 0 e - m) * i.size := by rw [Array.length_toList, take_mul_zero, hz]
        refine Sat.back (Sat.slMk (n := m) (sz := i.size) (cap := grownCap w m 0 e) (pre := []) (rest := (Builtin.zeroCells z.cells (grownCap w m 0 e - m)).toList) (by simpa using hn) (by omega) (by omega) hnl rfl ?_) hk
        rw [hzl, hnl, ← Nat.add_mul]
        exact Nat.mul_le_mul_right _ (by omega)
  · have hl := hsrc.lenOf (P := P) w
    rcases Nat.lt_or_ge cap (n + m) with hgr | hroom
    · have hc : (Builtin.firstCells i.size m xv).run P w.drew = .ok news.toArray w.drew := by
        rcases hsrc with hr | hr
        · exact Src.cells (.inl hr.drew)
        · exact Src.cells (.inr hr)
      have hco : (Builtin.firstCells i.size n (.slice (some ⟨b, off, none⟩) n cap)).run P w.drew = .ok vs.toArray w.drew := by
        have := hrd.drew.firstCells (P := P) n (Nat.le_refl _)
        rwa [← g3, List.take_length] at this
      have hn : ¬ (n + m ≤ cap) := by omega
      have h48 : ¬ (281474976710656 < Builtin.nextslicecap (n + m) cap * i.bytes) := by
        have := growslice_any (bytes := i.bytes) hgr hb; omega
      refine ⟨.slice (some ⟨w.heap.size, 0, none⟩) (n + m) (grownCap w (n + m) cap e), w.drew.alloc (.cells (vs.toArray ++ news.toArray ++ Builtin.zeroCells z.cells (grownCap w (n + m) cap e - (n + m))) e), ?_, ?_⟩
      · simp [Builtin.append_, run_underlying hu, sizeOf, typeInfo, zeroValue, hi, hiz, hl, hc, hco, hn, h63', h48, Question.forced, newRow, grownCap]
        congr 2
        apply Array.ext'
        simp [List.append_assoc]
      · have hge := grownCap_ge w (n + m) cap e
        have hle := grownCap_le_maxLen w (n + m) cap e (by unfold maxLen; omega)
        unfold maxLen at hle
        have hn := h.drop.drew.newCs (vs ++ news ++ (Builtin.zeroCells z.cells (grownCap w (n + m) cap e - (n + m))).toList) e
        rw [show (vs ++ news ++ (Builtin.zeroCells z.cells (grownCap w (n + m) cap e - (n + m))).toList).toArray = vs.toArray ++ news.toArray ++ Builtin.zeroCells z.cells (grownCap w (n + m) cap e - (n + m)) from by simp] at hn
        have hzl : (Builtin.zeroCells z.cells (grownCap w (n + m) cap e - (n + m))).toList.length = (grownCap w (n + m) cap e - (n + m)) * i.size := by rw [Array.length_toList, take_mul_zero, hz]
        refine Sat.back (Sat.slMk (n := n + m) (sz := i.size) (cap := grownCap w (n + m) cap e) (pre := []) (rest := (Builtin.zeroCells z.cells (grownCap w (n + m) cap e - (n + m))).toList) (by simpa using hn) (by omega) (by omega) (by simp [g3, hnl, Nat.add_mul]) rfl ?_) hk
        rw [hzl, List.length_append, g3, hnl, ← Nat.add_mul, ← Nat.add_mul]
        exact Nat.mul_le_mul_right _ (by omega)
    · have hc := hsrc.cells (P := P)
      have hmul : (n + m) * i.size ≤ cap * i.size := Nat.mul_le_mul_right _ hroom
      rw [Nat.add_mul] at hmul
      obtain ⟨w', hr, hS'⟩ := h.storeCells (P := P) (k := 0) (off := off + n * i.size) rfl news (by simp; omega) h1
      refine ⟨.slice (some ⟨b, off, none⟩) (n + m) cap, w', ?_, ?_⟩
      · simp [Builtin.append_, run_underlying hu, sizeOf, typeInfo, hi, hl, hc, hroom, Addr.add_lit, hr]
      · have e1 : (pre ++ vs ++ rest).take (off + n * i.size) = pre ++ vs := by
          rw [← g4, ← g3, ← List.length_append, List.take_left']; rfl
        have e2 : (pre ++ vs ++ rest).drop (off + n * i.size + news.length) = rest.drop news.length := by
          rw [← g4, ← g3, ← List.length_append, ← List.drop_drop, List.drop_left']; rfl
        simp only [List.set_cons_zero] at hS'
        rw [e1, e2] at hS'
        refine Sat.back (Sat.slMk (pre := pre) (vs := vs ++ news) (rest := rest.drop news.length) (by simpa [List.append_assoc] using hS') hroom g2 (by simp [g3, hnl, Nat.add_mul]) g4 ?_) hk
        simp; omega

variable {o : Oper} {a : Act} {K : Act → World → Prop} {Q : Exit → Act → World → Prop}
theorem ap (hS : Sat W w L) (T T2 : TypeId) (x y : Operand) (ho : o.op = .call { callee := .builtin .append, args := #[x, y], argTypes := #[T, T2] }) (v xv : Value) (hx : a.eval x = v) (hy : a.eval y = xv)
    {e size bytes : Nat} {z : Value} (hT : elemB P T = some (e, size, bytes, some z)) (hz : z.cells.size = size) (hpos : 0 < size) (hT2 : intB P T2 = some false)
    {n m vs news} (hk : Has L k (Sl e size v n vs)) (hsrc : Src w xv m size news) (h1 : ∀ u ∈ news, u.oneCell' = true) (hb : (n + m) * bytes ≤ 140737488355328) (hm : n + m ≤ 9223372036854775807)
    (h : ∀ v' w', Sat W w' (L.set k (Sl e size v' (n + m) (vs ++ news))) → K (a.put o.dst v') w') : o.wp P a w K Q := by
  obtain ⟨v', w', hr, hS'⟩ := hS.run_append (P := P) T T2 o.type hT hz hpos hT2 hk hsrc h1 hb hm
  have h3 := h v' w' hS'
  unfold Oper.wp
  simp [execOp, ho, resolve, invoke, builtin, hx, hy, hr, Oper.upon, h3]

/-- copy into a row -/
theorem cp (hS : Sat W w L) (T T2 : TypeId) (x y : Operand) (ho : o.op = .call { callee := .builtin .copy, args := #[x, y], argTypes := #[T, T2] }) (b off dn dc : Nat) (xv : Value) (hx : a.eval x = .slice (some ⟨b, off, none⟩) dn dc) (hy : a.eval y = xv)
    {e size bytes : Nat} {z : Option Value} (hT : elemB P T = some (e, size, bytes, z)) (hpos : 0 < size)
    {E l m vs} (hk : Has L k (Cs b E l)) (hsrc : Rd w xv m size vs) (h1 : ∀ u ∈ vs, u.oneCell' = true) (hb : off + dn * size ≤ l.length)
    (h : ∀ w', Sat W w' (L.set k (Cs b E (l.take off ++ vs.take (min m dn * size) ++ l.drop (off + min m dn * size)))) → K (a.put o.dst (.int .i64 (min m dn : Nat))) w') : o.wp P a w K Q := by
  obtain ⟨hu, i, hi, rfl, rfl, hiz⟩ := elemB_parts hT
  have hl := Src.lenOf (P := P) (.inl hsrc) w
  have hc := hsrc.firstCells (P := P) (min m dn) (Nat.min_le_left _ _)
  have hlen : (vs.take (min m dn * i.size)).length = min m dn * i.size := by
    have h1 : vs.length = m * i.size := Src.length (.inl hsrc)
    have h2 := Nat.mul_le_mul_right i.size (Nat.min_le_left m dn)
    simp; omega
  have hle := Nat.mul_le_mul_right i.size (Nat.min_le_right m dn)
  obtain ⟨w', hr, hS'⟩ := hS.storeCells (P := P) (off := off) hk (vs.take (min m dn * i.size)) (by omega) (fun u hu => h1 u (List.mem_of_mem_take hu))
  rw [hlen] at hS'
  have h3 := h w' hS'
  have hmin : Nat.min m dn = min m dn := rfl
  unfold Oper.wp
  simp [execOp, ho, resolve, invoke, builtin, hx, hy, Builtin.copy_, run_underlying hu, sizeOf, typeInfo, hi, hl, hmin, hc, hr, Oper.upon, goInt, h3]

/-! ### strings and bytes -/
def strB (P : Program) (S T : TypeId) : Option TypeId :=
  match P.underlying S, P.underlying T with
  | some (.slice e), some .string => (match P.underlying e with | some (.int .u8) => some e | _ => none)
  | _, _ => none
theorem Rd.bytes {x : Value} {l : List UInt8} (h : Rd w x n 1 (bv l)) : (Conv.bytesToString x).run P w = .ok (.string ⟨l.toArray⟩) w := by
  obtain ⟨ao, c, rfl, _, _, h4, h5⟩ := h
  have hl : l.length = n := by simpa [bv] using h4
  subst hl
  have hs : ∀ s : List Int, (s.foldl (fun r n => r.push (UInt8.ofNat n.toNat)) ByteArray.empty) = ⟨(s.map fun n => UInt8.ofNat n.toNat).toArray⟩ := fun s => by
    rw [foldl_push_bytes]; simp [ByteArray.empty, ByteArray.emptyWithCapacity]; rfl
  have hm : (l.map fun b : UInt8 => (b.toNat : Int)).map (fun n => UInt8.ofNat n.toNat) = l := by
    rw [List.map_map]; conv => rhs; rw [← List.map_id l]
    apply List.map_congr_left; intro b _; simp
  cases l with
  | nil =>
    cases ao with
    | none => simp [Conv.bytesToString]; rfl
    | some ad => simp [Conv.bytesToString, loadCells, loadCellsFrom]; rfl
  | cons x r =>
    obtain ⟨b, off, rfl, hc⟩ := h5 (by simp)
    have hl := run_loadCells_list (P := P) w ⟨b, off, none⟩ (bv (x :: r)) (fun j v hv => by rw [Addr.add_lit]; exact hc j v hv)
    rw [bv_length] at hl
    have e : bv (x :: r) = ((x :: r).map fun b : UInt8 => (b.toNat : Int)).map (Value.int .u8) := by rw [List.map_map]; rfl
    rw [e] at hl
    have := run_bytesToString (P := P) w ⟨b, off, none⟩ (x :: r).length c _ hl
    rw [this, hs, hm]
theorem cvS (S T : TypeId) (x : Operand) (ho : o.op = .convert S T x) (xv : Value) (hx : a.eval x = xv) {e : TypeId} (hST : strB P S T = some e)
    {n : Nat} {l : List UInt8} (hr : Rd w xv n 1 (bv l)) (h : K (a.put o.dst (.string ⟨l.toArray⟩)) w) : o.wp P a w K Q := by
  unfold strB at hST
  split at hST
  · rename_i e' hS hT
    split at hST
    · rename_i he
      have hrun := hr.bytes (P := P)
      obtain ⟨ao, c, rfl, _⟩ := hr
      refine wp_of_val (s := convert S T (.slice ao n c)) (by simp [execOp, ho, hx]) (v := .string ⟨l.toArray⟩) (w' := w) ?_ h
      cases ao <;> simp [convert, run_underlying hS, run_underlying hT, run_underlying he, hrun]
    · cases hST
  · cases hST
/-! ### elements of a slice that owns its row -/
theorem Sat.slAddr (hS : Sat W w L) {k E sz n v vs} (hk : Has L k (Sl E sz v n vs)) (hn : 0 < n) : ∃ b off c, v = .slice (some ⟨b, off, none⟩) n c ∧ n ≤ c := by
  rcases (hS.front k hk).slOpen with ⟨_, rfl, _⟩ | ⟨E', b, off, cap, pre, rest, rfl, h1, _⟩
  · omega
  · exact ⟨b, off, cap, rfl, h1⟩
theorem mid_at {pre vs rest : List Value} {j : Nat} {v : Value} (hv : vs[j]? = some v) : (pre ++ vs ++ rest)[pre.length + j]? = some v := by
  have hj := (List.getElem?_eq_some_iff.1 hv).1
  rw [List.append_assoc, List.getElem?_append_right (by omega), List.getElem?_append_left (by omega), Nat.add_sub_cancel_left, hv]
theorem mid_set {pre vs rest : List Value} {j : Nat} (v : Value) (hj : j < vs.length) : (pre ++ vs ++ rest).set (pre.length + j) v = pre ++ vs.set j v ++ rest := by
  rw [List.append_assoc, List.set_append_right _ _ (by omega), List.set_append_left _ _ (by omega), Nat.add_sub_cancel_left, List.append_assoc]
theorem ldSl (hS : Sat W w L) (T : TypeId) (x : Operand) (ho : o.op = .load T x) (b ad : Nat) (hx : a.eval x = .pointer (some ⟨b, ad, none⟩)) (hT : aggB P T = some false)
    {k E sz off c n vs} (hk : Has L k (Sl E sz (.slice (some ⟨b, off, none⟩) n c) n vs)) (j : Nat) (hj : ad = off + j) {v : Value} (hv : vs[j]? = some v) (h : K (a.put o.dst v) w) : o.wp P a w K Q := by
  subst hj
  refine wp_of_val (s := loadVar T ⟨b, off + j, none⟩) (by simp [execOp, ho, hx, Instr.loadAt, Instr.sureAddr]) (run_loadScalar hT ?_) h
  rcases (hS.front k hk).slOpen with ⟨h1, _⟩ | ⟨E', b', off', cap, pre, rest, h1, _, _, _, h4, _, h5⟩
  · cases h1
  · simp only [Value.slice.injEq, Option.some.injEq, Addr.mk.injEq, true_and, and_true] at h1
    obtain ⟨⟨rfl, rfl⟩, rfl⟩ := h1
    exact h5.cell (k := 0) rfl (by rw [← h4]; exact mid_at hv)
theorem stSl (hS : Sat W w L) (T : TypeId) (x y : Operand) (ho : o.op = .store T x y) (b ad : Nat) (hx : a.eval x = .pointer (some ⟨b, ad, none⟩)) (v : Value) (hy : a.eval y = v) (hv : v.oneCell' = true) (hn : szB P T = some 1)
    {k E sz off c n vs} (hk : Has L k (Sl E sz (.slice (some ⟨b, off, none⟩) n c) n vs)) (j : Nat) (hj : ad = off + j) (hlt : j < vs.length)
    (h : ∀ w', Sat W w' (L.set k (Sl E sz (.slice (some ⟨b, off, none⟩) n c) n (vs.set j v))) → K (a.put o.dst undef) w') : o.wp P a w K Q := by
  subst hj
  rcases (hS.front k hk).slOpen with ⟨h1, _⟩ | ⟨E', b', off', cap, pre, rest, h1, g1, g2, g3, h4, g5, h5⟩
  · cases h1
  · simp only [Value.slice.injEq, Option.some.injEq, Addr.mk.injEq, true_and, and_true] at h1
    obtain ⟨⟨rfl, rfl⟩, rfl⟩ := h1
    refine st h5 T x y ho b (off + j) hx v hy hv hn (k := 0) rfl (by simp; omega) fun w' hS' => h w' ?_
    simp only [List.set_cons_zero] at hS'
    rw [← h4, mid_set v hlt] at hS'
    exact (Sat.slMk hS' g1 g2 (by simp [g3]) h4 (by simp; omega)).back hk
theorem Sat.slCell (hS : Sat W w L) {k E sz b off c n vs} (hk : Has L k (Sl E sz (.slice (some ⟨b, off, none⟩) n c) n vs)) {j : Nat} {v : Value} (hv : vs[j]? = some v) :
    w.cell? ⟨b, off + j, none⟩ = some v ∧ w.frozen? ⟨b, off + j, none⟩ = false := by
  rcases (hS.front k hk).slOpen with ⟨h1, _⟩ | ⟨E', b', off', cap, pre, rest, h1, _, _, _, h4, _, h5⟩
  · cases h1
  · simp only [Value.slice.injEq, Option.some.injEq, Addr.mk.injEq, true_and, and_true] at h1
    obtain ⟨⟨rfl, rfl⟩, rfl⟩ := h1
    have hc := h5.cell (k := 0) rfl (show (pre ++ vs ++ rest)[off + j]? = some v by rw [← h4]; exact mid_at hv)
    refine ⟨hc, ?_⟩
    obtain ⟨fz, ht, hh⟩ := h5.cells (k := 0) rfl
    have hj := (List.getElem?_eq_some_iff.1 hv).1
    simp only [World.frozen?, hh]
    rcases ht with h2 | h2
    · simp; omega
    · simp at h2 ⊢; omega
theorem Sat.slSet (hS : Sat W w L) {k E sz b off c n vs} (hk : Has L k (Sl E sz (.slice (some ⟨b, off, none⟩) n c) n vs)) {j : Nat} (v : Value) (hlt : j < vs.length) :
    Sat W (w.setCell ⟨b, off + j, none⟩ v) (L.set k (Sl E sz (.slice (some ⟨b, off, none⟩) n c) n (vs.set j v))) := by
  rcases (hS.front k hk).slOpen with ⟨h1, _⟩ | ⟨E', b', off', cap, pre, rest, h1, g1, g2, g3, h4, g5, h5⟩
  · cases h1
  · simp only [Value.slice.injEq, Option.some.injEq, Addr.mk.injEq, true_and, and_true] at h1
    obtain ⟨⟨rfl, rfl⟩, rfl⟩ := h1
    obtain ⟨fz, ht, hh⟩ := h5.cells (k := 0) rfl
    have h6 := h5.setRow (k := 0) rfl ((pre ++ vs ++ rest).set (off + j) v) (by simp)
    rw [show w.setRow b ((pre ++ vs ++ rest).set (off + j) v).toArray = w.setCell ⟨b, off + j, none⟩ v from by
      rw [setCell_eq_setRow w b (off + j) _ _ fz v hh]; simp] at h6
    simp only [List.set_cons_zero] at h6
    rw [← h4, mid_set v hlt] at h6
    subst h4
    exact (Sat.slMk h6 g1 g2 (by simp [g3]) rfl (by simp; omega)).back hk
theorem bv_set (l : List UInt8) (j : Nat) (b : UInt8) : (bv l).set j (u8 b) = bv (l.set j b) := by simp [bv, List.map_set]
theorem Sat.slE {E' : Nat} (h : Sat W w (Sl E sz v n vs :: L)) : Sat W w (Sl E' sz v n vs :: L) := h
end
attribute [irreducible] Sl
end Go.Sep
