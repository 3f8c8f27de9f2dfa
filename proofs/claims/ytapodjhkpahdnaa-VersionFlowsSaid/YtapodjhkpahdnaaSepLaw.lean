/-
  How a law's statement is closed out of a walk in the logic of Sep: the arguments opened, the post.
-/
import Derived.Test.YtapodjhkpahdnaaSepSl
import Derived.ProofKit
import Derived.OpenShut
import Derived.Deep.Slices
import Derived.HandedShaped
namespace Go.Sep
open Go Go.ChangeShapes Go.WideShapes Go.ChangeAt Go.RowKit

section
variable {H : Type} {enc : TypeId × Value → H} {P : Program} {W w : World} {L : List Asrt}

theorem Sat.sameAt (h : Sat W w L) {p : MemPlace} (hp : p.block < W.heap.size) : W.sameAt w p := by
  cases p with
  | cell b off => exact World.cell?_of_block (a := ⟨b, off, none⟩) (h.old hp)
  | map b => exact h.old hp

theorem trodAll_stays (hl : laidOutB P = true) {W' : World} {sp' : Nat → Bool} : ∀ {ts : List TypeId} {vs : List Value} {ds : List (DataW H)} {ps : List MemPlace},
    (ts.all fun t => P.readableRec t && decide (t < P.types.size)) = true →
    DataW.TrodAll enc P W 0 (fun _ => true) true ts vs ds ps → (∀ p ∈ ps, W.sameAt W' p) → (∀ p ∈ ps, sp' p.block = true) → DataW.TrodAll enc P W' 0 sp' true ts vs ds ps
  | [], vs, ds, ps, _, h, _, _ => by
    obtain ⟨rfl, rfl, rfl⟩ := trodAll_nil h
    exact h
  | t :: ts, vs, ds, ps, hr, h, hs, hsp => by
    simp only [List.all_cons, Bool.and_eq_true, decide_eq_true_eq] at hr
    obtain ⟨v, vs1, d, ds1, a, b, rfl, rfl, rfl, h1, h2⟩ := trodAll_cons h
    refine trodAll_cons_mk (WideElems.Trod_stays hl hr.1.1 hr.1.2 h1 (fun p hp => hs p (List.mem_append_left _ hp)) (fun p hp => hsp p (List.mem_append_left _ hp))) ?_
    exact trodAll_stays hl (by simpa using hr.2) h2 (fun p hp => hs p (List.mem_append_right _ hp)) (fun p hp => hsp p (List.mem_append_right _ hp))

/-- THE POST OF A LAW: it has answered true; nothing that lay there is turned. -/
theorem law_post (hl : laidOutB P = true) {f : Func} {s : ChangeSpec} {tb : TypeId} (hro : (f.params.toList.all fun t => P.readableRec t && decide (t < P.types.size)) = true)
    (hret : f.resultTypes = #[tb]) (htb : P.underlying tb = some .bool) (hvars : s.vars = []) {args : Array Value} {ds gs : List (DataW H)} {before : List MemPlace}
    (hW : DataW.Whole enc P f.params.toList s.vars false W args.toList ds gs before) (hfn : s.fn H (ds ++ gs) = { results := [.lit (.bool true)], args := ds }) (h : Sat W w L) :
    s.post enc P f false true false false W args (.bool true) w := by
  have hW' := hW
  obtain ⟨p, q, hA, hV, rfl, _, _⟩ := hW
  rw [hvars] at hV
  obtain ⟨rfl, rfl⟩ := trodVars_none hV
  have hlt : ∀ x ∈ p ++ [], x.block < W.heap.size := hW'.lt
  refine ⟨ds, [], p ++ [], [], p, [], hW', ?_, ?_, ?_, World.keptBut_mono (fun _ h => h.elim) h.kept, fun h => by cases h⟩
  · rw [hfn, hret]
    exact trodAll_cons_mk (shut_bool htb _) trodAll_mk0
  · rw [hfn]
    exact trodAll_stays hl hro hA (fun x hx => h.sameAt (hlt x (by simpa using hx))) (fun x hx => by simpa using hlt x (by simpa using hx))
  · rw [hvars, hfn]
    exact rfl

/-! ### the arguments -/
theorem mapM_at {α β : Type} {f : α → Option β} : ∀ {l : List α} {r : List β}, l.mapM f = some r → ∀ (i : Nat) (x : α), l[i]? = some x → ∃ y, f x = some y ∧ r[i]? = some y := by
  intro l
  induction l with
  | nil => intro r _ i x h; simp at h
  | cons a l ih =>
    intro r h i x hx
    rw [List.mapM_cons] at h
    cases ha : f a with
    | none => simp [ha] at h
    | some b =>
      cases hl : l.mapM f with
      | none => simp [ha, hl] at h
      | some bs =>
        simp [ha, hl] at h
        subst h
        cases i with
        | zero => simp at hx; subst hx; exact ⟨b, ha, rfl⟩
        | succ i => simp at hx; simpa using ih hl i x hx
theorem cells?_zero {a : Addr} {n : Nat} {r : List Value} (h : W.cells? 0 a n = some r) : r.length = n ∧ ∀ j u, r[j]? = some u → W.cell? (a.add j) = some u := by
  unfold World.cells? at h
  simp only [Nat.zero_le, ↓reduceIte] at h
  have hl := mapM_some_length h
  simp at hl
  refine ⟨hl, fun j u hu => ?_⟩
  have hj : j < n := by have := (List.getElem?_eq_some_iff.1 hu).1; omega
  obtain ⟨y, hy, hy2⟩ := mapM_at h j j (by simp [hj])
  rw [hy2] at hu
  rw [hy]; exact hu
theorem flatten_at {α : Type} {sz : Nat} (hs : 0 < sz) : ∀ {rows : List (List α)}, (∀ r ∈ rows, r.length = sz) → ∀ j, rows.flatten[j]? = (rows[j / sz]?).bind fun r => r[j % sz]?
  | [], _, j => by simp
  | r :: rows, h, j => by
    have hr := h r (by simp)
    rw [List.flatten_cons]
    rcases Nat.lt_or_ge j sz with hj | hj
    · rw [List.getElem?_append_left (by omega), Nat.div_eq_of_lt hj, Nat.mod_eq_of_lt hj]; simp
    · rw [List.getElem?_append_right (by omega), hr, flatten_at hs (fun x hx => h x (by simp [hx]))]
      have e1 : j / sz = (j - sz) / sz + 1 := by rw [Nat.div_eq_sub_div hs hj]
      have e2 : j % sz = (j - sz) % sz := by rw [Nat.mod_eq_sub_mod hj]
      rw [e1, e2]; simp
theorem flatten_len {α : Type} {sz : Nat} : ∀ {rows : List (List α)}, (∀ r ∈ rows, r.length = sz) → rows.flatten.length = rows.length * sz
  | [], _ => by simp
  | r :: rows, h => by
    rw [List.flatten_cons, List.length_append, h r (by simp), flatten_len (fun x hx => h x (by simp [hx])), List.length_cons, Nat.add_mul]; omega

/-- A slice that came in: its rows. -/
theorem open_sl {t e sz : Nat} (ht : P.underlying t = some (.slice e)) (hc : P.cellsOf e = sz) (hs : 0 < sz) {ao : Option Addr} {len cap : Nat} {d : DataW H} {ps : List MemPlace}
    (h : DataW.Trod enc P W 0 (fun _ => true) true t (.slice ao len cap) d ps) :
    ∃ rows : List (List Value), rows.length = len ∧ Rd W (.slice ao len cap) len sz rows.flatten ∧ (d = .nil ∧ rows = [] ∨ ∃ es sp, d = .slice es sp ∧ es.length = len) ∧
      ∀ (i : Nat) (r : List Value), rows[i]? = some r → r.length = sz ∧ ∃ (n : Nat) (x : DataW H × List MemPlace), DataW.trod enc P W 0 (fun _ => true) true n e r = some x ∧ ∀ (es sp : List (DataW H)), d = .slice es sp → es[i]? = some x.1 := by
  subst hc
  obtain ⟨fuel, h⟩ := h
  rcases DataW.trod_slice ht h with ⟨h1, h2⟩ | ⟨a, len', cap', elems, rest, n, _, h1, h2, _, hl, hm, hlen, hel, _, _⟩
  · simp [Value.cells] at h1
    obtain ⟨rfl, rfl, rfl⟩ := h1
    simp only [Prod.mk.injEq] at h2
    exact ⟨[], rfl, ⟨none, 0, rfl, Nat.le_refl _, by omega, by simp, fun h => by omega⟩, .inl ⟨h2.1, rfl⟩, fun i r hr => by simp at hr⟩
  · simp [Value.cells] at h1
    obtain ⟨rfl, rfl, rfl⟩ := h1
    simp only [Prod.mk.injEq] at h2
    have hex : ∀ i, i < len → ∃ r x, W.cells? 0 (a.add (i * P.cellsOf e)) (P.cellsOf e) = some r ∧ DataW.trod enc P W 0 (fun _ => true) true n e r = some x ∧ elems[i]? = some x := fun i hi => by
      have h3 := hel i hi
      rw [List.getElem?_eq_getElem (by omega)] at h3
      obtain ⟨r, hr, hx⟩ := Option.bind_eq_some_iff.1 h3
      exact ⟨r, _, hr, hx, by rw [List.getElem?_eq_getElem (by omega)]⟩
    let rows := (List.range len).map fun i => (W.cells? 0 (a.add (i * P.cellsOf e)) (P.cellsOf e)).getD []
    have hrow : ∀ i r, rows[i]? = some r → i < len ∧ W.cells? 0 (a.add (i * P.cellsOf e)) (P.cellsOf e) = some r := fun i r hr => by
      have hi : i < len := by have := (List.getElem?_eq_some_iff.1 hr).1; simpa [rows] using this
      refine ⟨hi, ?_⟩
      obtain ⟨r', x, h1, _⟩ := hex i hi
      simp [rows, hi, h1] at hr
      rw [h1, hr]
    have hlens : ∀ r ∈ rows, r.length = P.cellsOf e := fun r hr => by
      obtain ⟨i, hi⟩ := List.getElem?_of_mem hr
      exact (cells?_zero (hrow i r hi).2).1
    refine ⟨rows, by simp [rows], ⟨some a, cap, rfl, hl, by unfold maxLen at hm; omega, by rw [flatten_len hlens]; simp [rows], fun hn => ?_⟩, .inr ⟨_, _, h2.1, by simpa using hlen⟩, fun i r hr => ?_⟩
    · obtain ⟨r0, x0, h0, _⟩ := hex 0 hn
      have hc0 := cells?_zero h0
      have hsp : a.spot = none := by
        have := hc0.2 0 (r0[0]'(by omega)) (by simp)
        simp only [Nat.zero_mul] at this
        rw [show (a.add 0).add 0 = a from by simp [Addr.add]] at this
        cases hsp : a.spot with
        | none => rfl
        | some y =>
          unfold World.cell? at this
          split at this
          · simp [hsp] at this
          · cases this
      obtain ⟨b, off, spot⟩ := a
      simp at hsp; subst hsp
      refine ⟨b, off, rfl, fun j u hu => ?_⟩
      rw [flatten_at hs hlens] at hu
      obtain ⟨r, hr, hu⟩ := Option.bind_eq_some_iff.1 hu
      have := (cells?_zero (hrow _ _ hr).2).2 _ _ hu
      rw [Addr.add_lit, Addr.add_lit] at this
      rw [show off + j = off + j / P.cellsOf e * P.cellsOf e + j % P.cellsOf e from by rw [Nat.add_assoc, Nat.div_add_mod']]
      exact this
    · obtain ⟨hi, hr2⟩ := hrow i r hr
      obtain ⟨r', x, h3, h4, h5⟩ := hex i hi
      rw [h3] at hr2; cases hr2
      refine ⟨(cells?_zero h3).1, n, x, h4, fun es sp hd => ?_⟩
      rw [h2.1] at hd
      simp only [DataW.slice.injEq] at hd
      rw [← hd.1, List.getElem?_map, h5]; rfl

theorem rows_one {α β : Type} (f : α → β) : ∀ {rows : List (List β)}, (∀ r ∈ rows, ∃ x, r = [f x]) → ∃ l : List α, rows.flatten = l.map f ∧ l.length = rows.length
  | [], _ => ⟨[], rfl, rfl⟩
  | r :: rows, h => by
    obtain ⟨x, hx⟩ := h r (by simp)
    obtain ⟨l, h1, h2⟩ := rows_one f (rows := rows) (fun r hr => h r (List.mem_cons_of_mem _ hr))
    exact ⟨x :: l, by rw [hx, List.flatten_cons, h1]; rfl, by simp [h2]⟩

/-- A []byte that came in. -/
theorem open_bytes {t e : Nat} (ht : P.underlying t = some (.slice e)) (he : P.underlying e = some (.int .u8)) (hc : P.cellsOf e = 1) {ao : Option Addr} {len cap : Nat} {d : DataW H} {ps : List MemPlace}
    (h : DataW.Trod enc P W 0 (fun _ => true) true t (.slice ao len cap) d ps) : ∃ l : List UInt8, l.length = len ∧ Rd W (.slice ao len cap) len 1 (bv l) ∧ (d = .nil ∧ l = [] ∨ ∃ es sp, d = .slice es sp ∧ es.length = len) := by
  obtain ⟨rows, h1, h2, h3, h4⟩ := open_sl ht hc (by omega) h
  obtain ⟨l, h5, h6⟩ := rows_one u8 (rows := rows) (fun r hr => by
    obtain ⟨i, hi⟩ := List.getElem?_of_mem hr
    obtain ⟨h5, n, x, hx, _⟩ := h4 i r hi
    obtain ⟨k, hk, _, hwf⟩ := DataW.trod_int he hx
    refine ⟨UInt8.ofNat k.toNat, ?_⟩
    have hb : 0 ≤ k ∧ k ≤ 255 := by simpa [Lit.wf, IntKind.min, IntKind.max, IntKind.signed, IntKind.bits] using hwf
    rw [hk]; unfold u8
    rw [UInt8.toNat_ofNat_of_lt' (by show k.toNat < 256; omega)]
    simp; omega)
  refine ⟨l, by omega, by rw [show bv l = rows.flatten from h5.symm]; exact h2, ?_⟩
  rcases h3 with ⟨h3, rfl⟩ | h3
  · exact .inl ⟨h3, List.eq_nil_of_length_eq_zero (by simpa using h6)⟩
  · exact .inr h3
/-- A slice of integers that came in. -/
theorem open_nums {t e : Nat} {k : IntKind} (ht : P.underlying t = some (.slice e)) (he : P.underlying e = some (.int k)) (hc : P.cellsOf e = 1) {ao : Option Addr} {len cap : Nat} {d : DataW H} {ps : List MemPlace}
    (h : DataW.Trod enc P W 0 (fun _ => true) true t (.slice ao len cap) d ps) : ∃ l : List Int, l.length = len ∧ Rd W (.slice ao len cap) len 1 (l.map (Value.int k)) ∧ (∀ x ∈ l, (Lit.int k x).wf = true) ∧ (d = .nil ∧ l = [] ∨ ∃ es sp, d = .slice es sp ∧ es.length = len) := by
  obtain ⟨rows, h1, h2, h3, h4⟩ := open_sl ht hc (by omega) h
  have hf : ∀ r ∈ rows, ∃ x : Int, r = [Value.int k x] ∧ (Lit.int k x).wf = true := fun r hr => by
    obtain ⟨i, hi⟩ := List.getElem?_of_mem hr
    obtain ⟨h5, n, x, hx, _⟩ := h4 i r hi
    obtain ⟨k', hk, _, hwf⟩ := DataW.trod_int he hx
    exact ⟨k', hk, hwf⟩
  obtain ⟨l, h5, h6⟩ := rows_one (Value.int k) (rows := rows) (fun r hr => (hf r hr).imp fun _ h => h.1)
  refine ⟨l, by omega, by rw [← h5]; exact h2, fun x hx => ?_, ?_⟩
  · have hm : Value.int k x ∈ rows.flatten := by rw [h5]; exact List.mem_map_of_mem hx
    obtain ⟨r, hr, hxr⟩ := List.mem_flatten.1 hm
    obtain ⟨y, rfl, hy⟩ := hf r hr
    simp at hxr; subst hxr; exact hy
  · rcases h3 with ⟨h3, rfl⟩ | h3
    · exact .inl ⟨h3, List.eq_nil_of_length_eq_zero (by simpa using h6)⟩
    · exact .inr h3
/-! ### the form's own reach -/
theorem mem_weights {ts : List TypeId} {ds : List (DataW H)} (h : (DataW.weightsEach P ts ds).all (· ≤ reachBytes) = true) (i : Nat) {t : TypeId} {d : DataW H} (ht : ts[i]? = some t) (hd : ds[i]? = some d) : ∀ n ∈ d.weights P t, n ≤ reachBytes := by
  induction ts generalizing ds i with
  | nil => simp at ht
  | cons t0 ts ih =>
    cases ds with
    | nil => simp at hd
    | cons d0 ds =>
      simp only [DataW.weightsEach, List.all_append, Bool.and_eq_true] at h
      cases i with
      | zero =>
        simp at ht hd; subst ht; subst hd
        intro n hn
        have := List.all_eq_true.1 h.1 n hn
        simpa using this
      | succ i => exact ih h.2 i (by simpa using ht) (by simpa using hd)
theorem reach_slice {t e sz : Nat} {ao : Option Addr} {len cap : Nat} {d : DataW H} {ps : List MemPlace} (h : DataW.Trod enc P W 0 (fun _ => true) true t (.slice ao len cap) d ps) (ht : P.underlying t = some (.slice e)) (hs : P.bytesOf e = sz)
    (hw : ∀ n ∈ d.weights P t, n ≤ reachBytes) : len * sz ≤ 140737488351232 := by
  obtain ⟨fuel, h⟩ := h
  rcases DataW.trod_slice ht h with ⟨h1, _⟩ | ⟨a, len', cap', elems, rest, n, _, h1, h2, _, _, _, hlen, _⟩
  · simp [Value.cells] at h1
    obtain ⟨rfl, rfl, rfl⟩ := h1
    omega
  · simp [Value.cells] at h1
    obtain ⟨rfl, rfl, rfl⟩ := h1
    simp only [Prod.mk.injEq] at h2
    rw [h2.1] at hw
    have := hw ((elems.length + rest.length) * P.bytesOf e) (by simp [DataW.weights, ht])
    rw [hs, hlen] at this
    have h3 : len * sz ≤ (len + rest.length) * sz := Nat.mul_le_mul_right _ (by omega)
    have h4 : reachBytes = 140737488351232 := rfl
    omega
theorem u8_of {n : Int} (h : (Lit.int .u8 n).wf = true) : ∃ y : UInt8, n = (y.toNat : Int) := by
  have hb : 0 ≤ n ∧ n ≤ 255 := by simpa [Lit.wf, IntKind.min, IntKind.max, IntKind.signed, IntKind.bits] using h
  refine ⟨UInt8.ofNat n.toNat, ?_⟩
  rw [UInt8.toNat_ofNat_of_lt' (by show n.toNat < 256; omega)]
  omega
theorem i64_of {n : Int} (h : (Lit.int .i64 n).wf = true) : -9223372036854775808 ≤ n ∧ n ≤ 9223372036854775807 := by
  simpa [Lit.wf, IntKind.min, IntKind.max, IntKind.signed, IntKind.bits] using h
end
end Go.Sep
