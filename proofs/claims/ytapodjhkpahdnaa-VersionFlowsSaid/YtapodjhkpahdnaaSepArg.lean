/-
  Arguments that are slices of structs: their rows by an encoder.
-/
import Derived.Test.YtapodjhkpahdnaaSepLaw
import Derived.Test.YtapodjhkpahdnaaSepReg
namespace Go.Sep
open Go Go.ChangeShapes Go.WideShapes Go.ChangeAt Go.RowKit

theorem rows_enc {α : Type} {f : α → List Value} {Q : α → Prop} : ∀ {rows : List (List Value)}, (∀ r ∈ rows, ∃ x, r = f x ∧ Q x) → ∃ l : List α, rows.flatten = l.flatMap f ∧ l.length = rows.length ∧ ∀ x ∈ l, Q x
  | [], _ => ⟨[], rfl, rfl, by simp⟩
  | r :: rows, h => by
    obtain ⟨x, hx, hq⟩ := h r (by simp)
    obtain ⟨l, h1, h2, h3⟩ := rows_enc (rows := rows) (fun r hr => h r (List.mem_cons_of_mem _ hr))
    refine ⟨x :: l, by rw [hx, List.flatten_cons, h1]; rfl, by simp [h2], fun y hy => ?_⟩
    rcases List.mem_cons.1 hy with rfl | hy
    · exact hq
    · exact h3 y hy
section
variable {H : Type} {enc : TypeId × Value → H} {P : Program} {W w : World}
/-- A slice of structs that came in, by what each row is. -/
theorem open_enc {α : Type} {f : α → List Value} {Q : α → Prop} {t e sz : Nat} (ht : P.underlying t = some (.slice e)) (hc : P.cellsOf e = sz) (hs : 0 < sz) {ao : Option Addr} {len cap : Nat} {d : DataW H} {ps : List MemPlace}
    (h : DataW.Trod enc P W 0 (fun _ => true) true t (.slice ao len cap) d ps)
    (hrow : ∀ (r : List Value) (n : Nat) (x : DataW H × List MemPlace), r.length = sz → DataW.trod enc P W 0 (fun _ => true) true n e r = some x → ∃ y, r = f y ∧ Q y) :
    ∃ l : List α, l.length = len ∧ Rd W (.slice ao len cap) len sz (l.flatMap f) ∧ (∀ x ∈ l, Q x) ∧ (∀ x ∈ l, (f x).length = sz) := by
  obtain ⟨rows, h1, h2, h3, h4⟩ := open_sl ht hc hs h
  have hr : ∀ r ∈ rows, ∃ y, r = f y ∧ (Q y ∧ (f y).length = sz) := fun r hr => by
    obtain ⟨i, hi⟩ := List.getElem?_of_mem hr
    obtain ⟨h5, n, x, hx, _⟩ := h4 i r hi
    obtain ⟨y, rfl, hq⟩ := hrow r n x h5 hx
    exact ⟨y, rfl, hq, h5⟩
  obtain ⟨l, h5, h6, h7⟩ := rows_enc hr
  exact ⟨l, by omega, by rw [← h5]; exact h2, fun x hx => (h7 x hx).1, fun x hx => (h7 x hx).2⟩
/-- A []byte among the cells of a struct. -/
theorem open_bytes1 {t e n : Nat} (ht : P.underlying t = some (.slice e)) (he : P.underlying e = some (.int .u8)) (hc : P.cellsOf e = 1) {cs : List Value} {x : DataW H × List MemPlace}
    (h : DataW.trod enc P W 0 (fun _ => true) true n t cs = some x) : ∃ (v : Value) (l : List UInt8), cs = [v] ∧ Rd W v l.length 1 (bv l) := by
  rcases DataW.trod_slice ht h with ⟨h1, _⟩ | ⟨a, len, cap, elems, rest, m, _, h1, _⟩
  · exact ⟨_, [], h1, none, 0, rfl, Nat.le_refl _, by omega, rfl, fun h => by simp at h⟩
  · subst h1
    obtain ⟨l, rfl, hr, _⟩ := open_bytes (d := x.1) (ps := x.2) ht he hc ⟨n, h⟩
    exact ⟨_, l, rfl, hr⟩
theorem cells4 {r : List Value} {a b c d : Value} (h : r.length = 4) (h0 : (r.drop 0).take 1 = [a]) (h1 : (r.drop 1).take 1 = [b]) (h2 : (r.drop 2).take 1 = [c]) (h3 : (r.drop 3).take 1 = [d]) : r = [a, b, c, d] := by
  match r, h with
  | [x0, x1, x2, x3], _ => simp at h0 h1 h2 h3; subst h0; subst h1; subst h2; subst h3; rfl
theorem cells3 {r : List Value} {a b c : Value} (h : r.length = 3) (h0 : (r.drop 0).take 1 = [a]) (h1 : (r.drop 1).take 1 = [b]) (h2 : (r.drop 2).take 1 = [c]) : r = [a, b, c] := by
  match r, h with
  | [x0, x1, x2], _ => simp at h0 h1 h2; subst h0; subst h1; subst h2; rfl
/-- What lies in memory of an element of a slice that came in. -/
theorem Rd.elem {α : Type} {f : α → List Value} {b off n sz c : Nat} {l : List α} {i j : Nat} {x : α} {v : Value} (h : Rd W (.slice (some ⟨b, off, none⟩) n c) n sz (l.flatMap f)) (hf : ∀ x ∈ l, (f x).length = sz) (hx : l[i]? = some x) (hv : (f x)[j]? = some v) (hn : 0 < n) :
    W.cell? ⟨b, off + i * sz + j, none⟩ = some v := by
  obtain ⟨ao, c', h1, _, _, _, h5⟩ := h
  simp only [Value.slice.injEq, true_and] at h1
  obtain ⟨rfl, rfl⟩ := h1
  obtain ⟨b', off', h6, h7⟩ := h5 hn
  simp only [Option.some.injEq, Addr.mk.injEq, and_true] at h6
  obtain ⟨rfl, rfl⟩ := h6
  rw [Nat.add_assoc]
  exact h7 _ _ (fm_cell hf hx hv)
end
theorem Sat.upTo {W w : World} {L L' : List Asrt} (h : Sat W w L) (f : ∀ u, Sat W u L → Sat W u L') : Sat W w L' := f _ h
/-- A contract at the k-th assertion, with things that are there. -/
theorem _root_.Go.Calls.atX {P : Program} {W w : World} {L : List Asrt} {k : Nat} {f : FuncId} {args : Array Value} {α : Type} {V : α → Value} {A : Asrt} {A' : α → Asrt} (hS : Sat W w L) (hk : Has L k A)
    (hc : Sat W w (A :: L.eraseIdx k) → Calls P f args w fun e w' => ∃ x, e = .returned (V x) ∧ Sat W w' (A' x :: L.eraseIdx k)) : Calls P f args w fun e w' => ∃ x, e = .returned (V x) ∧ Sat W w' (L.set k (A' x)) :=
  (hc (hS.front k hk)).mono fun _ _ ⟨x, h1, h2⟩ => ⟨x, h1, h2.back hk⟩
end Go.Sep
