/-
  A region that draws its order and only reads, or calls what keeps an assertion: one walk in the order of the text, in the class of the worlds that meet the assertion.
-/
import Derived.Test.YtapodjhkpahdnaaSepSl
import Derived.BigQuiet
import Derived.StillTailTactics
import Derived.Test.YtapodjhkpahdnaaSepTb
namespace Go.Sep
open Go

/-- The worlds that meet L. -/
def Ix (W : World) (L : List Asrt) : Type := { w : World // Sat W w L }

section
variable {P : Program} {W w : World} {L : List Asrt}
theorem Ix.some (h : Sat W w L) : Nonempty (Ix W L) := ⟨⟨w, h⟩⟩
theorem Ix.sat (n : Ix W L) : Sat W n.val L := n.property
theorem wp_region_quiet_sat {id : Nat} {Q : Exit → Act → World → Prop} {a : Act} {l : List Oper} (hS : Sat W w L) (hm : P.follows .mixedOrders = true) (hB : Region.lexB .any l.toArray = true)
    (h : wpQuiet P l.toArray (fun w' => ∃ n : Ix W L, w' = n.val) (fun a' => ∀ w', (∃ n : Ix W L, w' = n.val) → Q .normal a' w') l a) : (Code.region id l.toArray true).wp P Q a w :=
  wp_region_quiet (C := fun w' => ∃ n : Ix W L, w' = n.val) hm hB ⟨(⟨{ w with drawn := w.drawn + 1 }, hS.of_heap rfl rfl rfl⟩ : Ix W L), rfl⟩ (by simpa using h)
theorem Calls.qs {f : FuncId} {args : Array Value} {v : Value} {n : Ix W L} (h : Calls P f args n.val fun e w' => e = .returned v ∧ n.val = w') :
    Calls P f args n.val fun e w'' => e = .returned v ∧ ∃ m : Ix W L, w'' = m.val := h.mono fun _ _ ⟨he, hw⟩ => ⟨he, n, hw.symm⟩
theorem Calls.qa {f : FuncId} {args : Array Value} {v : Value} {n : Ix W L} (h : Calls P f args n.val fun e w' => e = .returned v ∧ Sat W w' L) :
    Calls P f args n.val fun e w'' => e = .returned v ∧ ∃ m : Ix W L, w'' = m.val := h.mono fun _ w' ⟨he, hw⟩ => ⟨he, ⟨w', hw⟩, rfl⟩
/-! ### a region whose first operations only read, and whose last ones stand in one order -/
theorem wp_region_tail_sat {id : Nat} {Q : Exit → Act → World → Prop} {a : Act} {l : List Oper} (n : Nat) (hS : Sat W w L) (hm : P.follows .mixedOrders = true) (hB : Region.lexTailB .any l.toArray n = true)
    (h : ∀ w', Sat W w' L → wpStill P l.toArray w' (fun a' => wpList P l.toArray Q (l.drop n) a' w') (l.take n) a) : (Code.region id l.toArray true).wp P Q a w :=
  wp_region_still_tail n hm hB (h _ (hS.of_heap rfl rfl rfl))
variable {ops : Array Oper} {o : Oper} {rest : List Oper} {a : Act} {K : Act → Prop} {Q : Act → Prop}
theorem stillList (hw : Region.wanted o (yielded ops a.tmps) = true) (h : o.still P a w (wpStill P ops w Q rest)) : wpStill P ops w Q (o :: rest) a := by
  unfold wpStill
  rw [if_pos hw]; exact h
theorem still_val {s : Sem Value} (hs : execOp a.eval o = (do let x ← s; pure (.value x))) {v : Value} (hr : s.run P w = .ok v w) (h : K (a.put o.dst v)) : o.still P a w K := by
  unfold Oper.still
  rw [hs]
  simp [hr, Oper.stillUpon, h]
theorem ldS (hS : Sat W w L) (T : TypeId) (x : Operand) (ho : o.op = .load T x) (b off : Nat) (hx : a.eval x = .pointer (some ⟨b, off, none⟩)) (hT : aggB P T = some false)
    {k E l v} (hk : Has L k (Cs b E l)) (hv : l[off]? = some v) (h : K (a.put o.dst v)) : o.still P a w K :=
  still_val (s := loadVar T ⟨b, off, none⟩) (by simp [execOp, ho, hx, Instr.loadAt, Instr.sureAddr]) (run_loadScalar hT (hS.cell hk hv)) h
theorem ldAS (hS : Sat W w L) (T : TypeId) (x : Operand) (ho : o.op = .load T x) (b off : Nat) (hx : a.eval x = .pointer (some ⟨b, off, none⟩)) (hT : aggB P T = some true)
    {n} (hn : szB P T = some n) {k E l} (hk : Has L k (Cs b E l)) {vs : List Value} (hvs : (l.drop off).take n = vs) (hb : vs.length = n) (h : K (a.put o.dst (.agg vs.toArray))) : o.still P a w K := by
  subst hvs
  exact still_val (s := loadVar T ⟨b, off, none⟩) (by simp [execOp, ho, hx, Instr.loadAt, Instr.sureAddr])
    (run_loadAgg hT hn hb fun j v hv => hS.cell hk (by
      rw [List.getElem?_take] at hv
      split at hv
      · rwa [List.getElem?_drop] at hv
      · cases hv)) h
theorem ldTbS {α : Type} {f : α → List Value} {xs : List α} {x : α} {off sz c E k : Nat} (hS : Sat W w L) (T : TypeId) (y : Operand) (ho : o.op = .load T y) (b ad : Nat) (hy : a.eval y = .pointer (some ⟨b, ad, none⟩)) (hT : aggB P T = some false)
    (hk : Has L k (Tb E sz f (.slice (some ⟨b, off, none⟩) xs.length c) xs)) (i j : Nat) (hj : ad = off + (i * sz + j)) (hx : xs[i]? = some x) {u : Value} (hu : (f x)[j]? = some u) (h : K (a.put o.dst u)) : o.still P a w K := by
  subst hj
  exact still_val (s := loadVar T ⟨b, off + (i * sz + j), none⟩) (by simp [execOp, ho, hy, Instr.loadAt, Instr.sureAddr]) (run_loadScalar hT (hS.tbCell hk hx hu).1) h
theorem cvSS (S T : TypeId) (x : Operand) (ho : o.op = .convert S T x) (xv : Value) (hx : a.eval x = xv) {e : TypeId} (hST : strB P S T = some e)
    {n : Nat} {l : List UInt8} (hr : Rd w xv n 1 (bv l)) (h : K (a.put o.dst (.string ⟨l.toArray⟩))) : o.still P a w K := by
  unfold strB at hST
  split at hST
  · rename_i e' hS hT
    split at hST
    · rename_i he
      have hrun := hr.bytes (P := P)
      obtain ⟨ao, c, rfl, _⟩ := hr
      refine still_val (s := convert S T (.slice ao n c)) (by simp [execOp, ho, hx]) (v := .string ⟨l.toArray⟩) ?_ h
      cases ao <;> simp [convert, run_underlying hS, run_underlying hT, run_underlying he, hrun]
    · cases hST
  · cases hST
end
end Go.Sep
