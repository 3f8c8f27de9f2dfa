/-
  Maps that a call owns, in the logic of separate memory: 'Mp ke ve b f': block b is a map that holds 've x' at 'ke k' just if 'f k = some x'.
-/
import Derived.Test.YtapodjhkpahdnaaSepMore
import Derived.MapKept
import Derived.Laws.StructEq
namespace Go.Sep
open Go

section
variable {κ α : Type} [DecidableEq κ]
/-- Where a key stands, and what stands there. -/
def pos (k : κ) : List (κ × Value × Nat) → Nat → Option (Nat × Value)
  | [], _ => none
  | x :: l, i => if k = x.1 then some (i, x.2.1) else pos k l (i + 1)
def ent (ke : κ → Value) (x : κ × Value × Nat) : MapEntry := ⟨ke x.1, x.2.1, x.2.2⟩
theorem pos_shift (k : κ) : ∀ (l : List (κ × Value × Nat)) (i : Nat), (pos k l i).map (·.2) = (pos k l 0).map (·.2)
  | [], _ => rfl
  | x :: l, i => by
    unfold pos
    by_cases h : k = x.1
    · simp [h]
    · simp only [if_neg h]; rw [pos_shift k l (i + 1), pos_shift k l (0 + 1)]
theorem pos_add (k : κ) : ∀ (l : List (κ × Value × Nat)) (i j : Nat), pos k l (i + j) = (pos k l i).map fun y => (y.1 + j, y.2)
  | [], _, _ => rfl
  | x :: l, i, j => by
    unfold pos
    by_cases h : k = x.1
    · simp [h]
    · simp only [if_neg h]
      rw [show i + j + 1 = (i + 1) + j by omega, pos_add k l (i + 1) j]
theorem pos_none_snoc {k : κ} {v : Value} {n : Nat} : ∀ {l : List (κ × Value × Nat)} {i : Nat}, pos k l i = none → ∀ k', pos k' (l ++ [(k, v, n)]) i = if k' = k then some (i + l.length, v) else pos k' l i
  | [], i, _, k' => by
    by_cases h : k' = k <;> simp [pos, h]
  | x :: l, i, h, k' => by
    unfold pos at h
    by_cases h1 : k = x.1
    · simp [h1] at h
    · simp only [if_neg h1] at h
      rw [List.cons_append]
      unfold pos
      rw [pos_none_snoc h k']
      by_cases h2 : k' = x.1
      · have : k' ≠ k := fun e => h1 (e ▸ h2)
        simp [h2, Ne.symm h1]
      · simp only [if_neg h2, List.length_cons]
        by_cases h3 : k' = k
        · simp [h3]; omega
        · simp [h3]
theorem pos_modify {k : κ} {v u : Value} : ∀ {l : List (κ × Value × Nat)} {i j : Nat}, pos k l i = some (j, u) → i ≤ j ∧ j < i + l.length ∧ (∃ n, l[j - i]? = some (k, u, n)) ∧
      ∀ k', pos k' (l.modify (j - i) fun x => (k, v, x.2.2)) i = if k' = k then some (j, v) else pos k' l i
  | [], i, j, h => by simp [pos] at h
  | x :: l, i, j, h => by
    unfold pos at h
    by_cases h1 : k = x.1
    · simp only [if_pos h1, Option.some.injEq, Prod.mk.injEq] at h
      obtain ⟨rfl, rfl⟩ := h
      refine ⟨Nat.le_refl _, by simp, ⟨x.2.2, by simp [h1]⟩, fun k' => ?_⟩
      rw [Nat.sub_self, List.modify_zero_cons]
      unfold pos
      by_cases h2 : k' = k
      · simp [h2]
      · have : k' ≠ x.1 := fun e => h2 (e.trans h1.symm)
        simp [h2, this]
    · simp only [if_neg h1] at h
      obtain ⟨a1, a2, ⟨n, a3⟩, a4⟩ := pos_modify (v := v) h
      have e : j - i = (j - (i + 1)) + 1 := by omega
      refine ⟨by omega, by simp only [List.length_cons]; omega, ⟨n, by rw [e]; simpa using a3⟩, fun k' => ?_⟩
      rw [e, List.modify_succ_cons]
      unfold pos
      rw [a4 k']
      by_cases h2 : k' = x.1
      · have : k' ≠ k := fun e => h1 (e ▸ h2)
        simp [h2, Ne.symm h1]
      · simp [h2]

/-- What the model does with a key. -/
structure KeyOk (P : Program) (kt : TypeId) (ke : κ → Value) : Prop where
  check : ∀ (e : Bool) (k : κ) (w : World), (Instr.checkKey e 10000 kt (ke k)).run P w = .ok () w
  find : ∀ (k : κ) (l : List (κ × Value × Nat)) (w : World), (Instr.findKey kt (ke k) (l.map (ent ke))).run P w = .ok (pos k l 0) w
  bits : ∀ k, Instr.sameBits 10000 (ke k) (ke k) = true
theorem findNow_int (q : IntKind) (a : Int) : ∀ (l : List (Int × Value × Nat)) (i : Nat), Instr.findNow (.int q) (.int q a) (l.map (ent (.int q))) i = some (pos a l i)
  | [], _ => rfl
  | x :: l, i => by
    simp only [List.map_cons, Instr.findNow, ent, Instr.sameNow, if_true, pos]
    by_cases h : a = x.1
    · simp [h]
    · have : (a == x.1) = false := beq_eq_false_iff_ne.2 h
      simp only [this, if_neg h]
      exact findNow_int q a l (i + 1)
theorem key_int {P : Program} {kt : TypeId} {q : IntKind} (h : P.underlying kt = some (.int q)) : KeyOk P kt (Value.int q) where
  check e k w := MapKept.run_checkKey h (by simp [MapKept.IsKey]) e 9999
  find k l w := by simp [Instr.findKey, run_underlying h, findNow_int q k l 0]
  bits k := by simp [Instr.sameBits]
theorem findAsking_eq {P : Program} {kt : TypeId} {ke : κ → Value} (he : ∀ k k' w, (Op.equalIn 10000 kt (ke k) (ke k')).run P w = .ok (decide (k = k')) w) (k : κ) (w : World) : ∀ (l : List (κ × Value × Nat)) (i : Nat),
    (Instr.findAsking kt (ke k) (l.map (ent ke)) i).run P w = .ok (pos k l i) w
  | [], i => by simp [Instr.findAsking, pos]
  | x :: l, i => by
    have h1 := he k x.1 w
    simp only [List.map_cons, Instr.findAsking, ent, Sem.run_bind, Op.equal, Op.maxDepth, h1, Result.andThen_ok, pos]
    by_cases h : k = x.1
    · simp [h]
    · simp only [h, decide_false, Bool.false_eq_true, if_false]
      exact findAsking_eq he k w l (i + 1)
/-- Keys that are structs of plain fields. -/
theorem key_struct {P : Program} {kt : TypeId} {ke : κ → Value} {fs : Array Field} (h : P.underlying kt = some (.struct fs)) (hag : ∀ k, ∃ cs, ke k = .agg cs) (he : ∀ k k' w, (Op.equalIn 10000 kt (ke k) (ke k')).run P w = .ok (decide (k = k')) w)
    (hc : ∀ (e : Bool) (k : κ) (w : World), (Instr.checkKey e 10000 kt (ke k)).run P w = .ok () w) (hb : ∀ k, Instr.sameBits 10000 (ke k) (ke k) = true) : KeyOk P kt ke where
  check := hc
  find k l w := by
    cases l with
    | nil => simp [Instr.findKey, run_underlying h, Instr.findNow, pos]
    | cons x l =>
      have hn : Instr.findNow (.struct fs) (ke k) ((x :: l).map (ent ke)) 0 = none := by
        obtain ⟨cs, hcs⟩ := hag k
        simp [Instr.findNow, hcs, Instr.sameNow]
      have := findAsking_eq he k w (x :: l) 0
      simp only [Instr.findKey, Sem.run_bind, run_underlying h, Result.andThen_ok, hn]
      exact this
  bits := hb

def Mp (ke : κ → Value) (ve : α → Value) (b : Nat) (f : κ → Option α) : Asrt :=
  Ex fun x : List (κ × Value × Nat) × Nat => St [Pu (∀ k, (f k).map ve = (pos k x.1 0).map (·.2)), Blk b (.map (x.1.map (ent ke)).toArray x.2)]
def mapB (P : Program) (T : TypeId) : Option (TypeId × TypeId) := match P.underlying T with | some (.map k e) => some (k, e) | _ => none
theorem mapB_un {P : Program} {T kt et : TypeId} (h : mapB P T = some (kt, et)) : P.underlying T = some (.map kt et) := by
  unfold mapB at h
  split at h
  · rename_i h1; simp only [Option.some.injEq, Prod.mk.injEq] at h; obtain ⟨rfl, rfl⟩ := h; exact h1
  · cases h
variable {P : Program} {Q : Exit → Act → World → Prop} {W w : World} {L : List Asrt} {a : Act} {o : Oper} {K : Act → World → Prop} {ke : κ → Value} {ve : α → Value} {b j : Nat} {f : κ → Option α}
theorem Sat.mpOpen (h : Sat W w (Mp ke ve b f :: L)) : ∃ l c, (∀ k, (f k).map ve = (pos k l 0).map (·.2)) ∧ Sat W w (Blk b (.map (l.map (ent ke)).toArray c) :: L) := by
  obtain ⟨⟨l, c⟩, h⟩ := h.ex
  have h2 : Sat W w (Pu _ :: Blk b (.map (l.map (ent ke)).toArray c) :: L) := h.open
  obtain ⟨h3, h4⟩ := h2.pu
  exact ⟨l, c, h3, h4⟩
theorem Sat.mpMk {l : List (κ × Value × Nat)} {c : Nat} (hf : ∀ k, (f k).map ve = (pos k l 0).map (·.2)) (h : Sat W w (Blk b (.map (l.map (ent ke)).toArray c) :: L)) : Sat W w (Mp ke ve b f :: L) := Sat.mkEx (l, c) (Sat.mkSt (Sat.mkPu hf h))
/-- What a map says at a key. -/
def mpVal (ve : α → Value) (zv : Value) : Option α → Value
  | none => zv
  | some x => ve x
theorem rLkp (hS : Sat W w L) (T : TypeId) (x ix : Operand) (ok : Bool) (ho : o.op = .lookup T x ix ok) (hx : a.eval x = .map (some b)) (k : κ) (hk : a.eval ix = ke k) {kt et : TypeId} (hT : mapB P T = some (kt, et)) (hK : KeyOk P kt ke)
    {zv : Value} (hz : zeroB P et = some (some zv)) (hh : Has L j (Mp ke ve b f)) : (execOp a.eval o).run P w = .ok (.value (if ok then .tuple #[mpVal ve zv (f k), .bool (f k).isSome] else mpVal ve zv (f k))) w := by
  obtain ⟨l, c, hf, h2⟩ := (hS.front j hh).mpOpen
  have hg := MapKept.run_getObj_map (P := P) h2.blk
  have hfk := hK.find k l w
  have hck := fun e => hK.check e k w
  have hp := hf k
  have hrun : (Instr.lookup T (.map (some b)) (ke k) ok).run P w = .ok (if ok then .tuple #[mpVal ve zv (f k), .bool (f k).isSome] else mpVal ve zv (f k)) w := by
    simp only [Instr.lookup, Sem.run_bind, run_underlying (mapB_un hT), Result.andThen_ok, hg, Sem.run_pure, hck, hfk]
    cases hpos : pos k l 0 with
    | none =>
      rw [hpos] at hp
      cases hfk' : f k with
      | none => simp [run_zeroB hz, mpVal]
      | some y => rw [hfk'] at hp; simp at hp
    | some y =>
      rw [hpos] at hp
      cases hfk' : f k with
      | none => rw [hfk'] at hp; simp at hp
      | some z => rw [hfk'] at hp; simp at hp; simp [mpVal, hp]
  exact rd_of (s := Instr.lookup T (.map (some b)) (ke k) ok) (by simp [execOp, ho, hx, hk]) hrun
/-- m[k] = v -/
theorem mpSt (hS : Sat W w L) (T : TypeId) (m ix y : Operand) (ho : o.op = .mapUpdate T m ix y ∨ o.op = .insert T m ix y) (hm : a.eval m = .map (some b)) (k : κ) (hk : a.eval ix = ke k) (x : α) (hy : a.eval y = ve x) {kt et : TypeId} (hT : mapB P T = some (kt, et)) (hK : KeyOk P kt ke)
    (hh : Has L j (Mp ke ve b f)) (h : ∀ w', Sat W w' (L.set j (Mp ke ve b fun k' => if k' = k then some x else f k')) → K (a.put o.dst undef) w') : o.wp P a w K Q := by
  obtain ⟨l, c, hf, h2⟩ := (hS.front j hh).mpOpen
  have hg := MapKept.run_getObj_map (P := P) h2.blk
  have hfk := hK.find k l w
  have hck := hK.check false k w
  have hex : execOp a.eval o = (do Instr.mapUpdate T (.map (some b)) (ke k) (ve x); pure .skip) := by
    rcases ho with ho | ho <;> simp [execOp, ho, hm, hk, hy]
  have key : ∀ {l' : List (κ × Value × Nat)} {c' : Nat}, (∀ k', (if k' = k then some x else f k').map ve = (pos k' l' 0).map (·.2)) →
      Sat W { w with heap := w.heap.setIfInBounds b (.map (l'.map (ent ke)).toArray c') } (L.set j (Mp ke ve b fun k' => if k' = k then some x else f k')) := fun {l' c'} hf' => by
    have hlt := h2.lt
    refine Sat.back (Sat.mpMk (l := l') (c := c') hf' (h2.turn rfl rfl ?_ fun c p hc hp => ?_)) hh
    · simp [hlt]
    · rw [Array.getElem?_setIfInBounds_ne (Ne.symm hc)]; exact hp
  cases hpos : pos k l 0 with
  | none =>
    rw [hpos] at hfk
    have hr : (Instr.mapUpdate T (.map (some b)) (ke k) (ve x)).run P w = .ok () { w with heap := w.heap.setIfInBounds b (.map ((l ++ [(k, ve x, c)]).map (ent ke)).toArray (c + 1)) } := by
      simp only [Instr.mapUpdate, Sem.run_bind, run_underlying (mapB_un hT), Result.andThen_ok, hg, hck, hfk, MapKept.run_setObj_map _ h2.blk]
      simp [ent]
    refine wp_of_unit hex hr (h _ (key fun k' => ?_))
    rw [pos_none_snoc hpos k']
    by_cases hkk : k' = k
    · simp [hkk]
    · simp only [if_neg hkk]; exact hf k'
  | some y =>
    obtain ⟨i, u⟩ := y
    obtain ⟨h3, h4, ⟨n, h5⟩, h6⟩ := pos_modify (v := ve x) hpos
    rw [hpos] at hfk
    have hstay : ∀ w', (Instr.keyThatStays (ke k) (ke k)).run P w' = .ok (ke k) w' := fun w' => by simp [Instr.keyThatStays, hK.bits]
    have hgi : ((l.map (ent ke)).toArray[i]?.map (·.key)).getD (ke k) = ke k := by
      simp only [Nat.sub_zero] at h5
      simp [h5, ent]
    have hr : (Instr.mapUpdate T (.map (some b)) (ke k) (ve x)).run P w = .ok () { w with heap := w.heap.setIfInBounds b (.map ((l.modify i fun x' => (k, ve x, x'.2.2)).map (ent ke)).toArray c) } := by
      simp only [Instr.mapUpdate, Sem.run_bind, run_underlying (mapB_un hT), Result.andThen_ok, hg, hck, hfk, hgi, hstay, MapKept.run_setObj_map _ h2.blk]
      congr 3
      congr 1
      apply Array.ext'
      apply List.ext_getElem?
      intro t
      simp only [Array.toList_modify, List.getElem?_modify, List.getElem?_map]
      by_cases ht : i = t
      · subst ht
        simp only [if_true]
        cases l[i]? with
        | none => rfl
        | some y => rfl
      · simp [ht]
    refine wp_of_unit hex hr (h _ (key fun k' => ?_))
    have := h6 k'
    rw [Nat.sub_zero] at this
    rw [this]
    by_cases hkk : k' = k
    · simp [hkk]
    · simp only [if_neg hkk]; exact hf k'
/-- A new map. -/
theorem mpMake (ke : κ → Value) (ve : α → Value) (hS : Sat W w L) (T : TypeId) (ho : o.op = .makeMap T none) (h : ∀ b w', Sat W w' (Mp ke ve b (fun _ => none) :: L) → K (a.put o.dst (.map (some b))) w') : o.wp P a w K Q := by
  exact wp_of_val (s := Instr.makeMap T none) (v := .map (some w.heap.size)) (w' := w.alloc (.map #[] 0)) (by simp [execOp, ho]) rfl (h _ _ (Sat.mpMk (l := []) (c := 0) (by simp [pos]) (hS.alloc _)))
end
attribute [irreducible] Mp
end Go.Sep
