/-
  More laws: bytes appended to bytes; the bytes of a slice at any world.
-/
import Derived.Test.YtapodjhkpahdnaaSepStr
import Derived.Test.YtapodjhkpahdnaaSepArg
import Derived.Laws.ResultCell
import Derived.OwnWalk
import Derived.Laws.StructEq
namespace Go.Sep
open Go
section
variable {P : Program} {Q : Exit → Act → World → Prop} {W w : World} {L : List Asrt} {a : Act} {o : Oper} {K : Act → World → Prop}
/-- append(s, t...) of bytes. -/
theorem apB {l m : List UInt8} {v xv : Value} {k j : Nat} (hS : Sat W w L) (T T2 : TypeId) (x y : Operand) (ho : o.op = .call { callee := .builtin .append, args := #[x, y], argTypes := #[T, T2] }) (hx : a.eval x = v) (hy : a.eval y = xv)
    {e size bytes : Nat} {z : Value} (hT : elemB P T = some (e, size, bytes, some z)) (hsz : size = 1) (hbs : bytes = 1) (hz : z.cells.size = size) (hT2 : intB P T2 = some false)
    (hk : Has L k (Sl e 1 v l.length (bv l))) (hj : Has L j (Sl e 1 xv m.length (bv m))) (hb : l.length + m.length ≤ 140737488355328)
    (h : ∀ v' w', Sat W w' (L.set k (Sl e 1 v' (l ++ m).length (bv (l ++ m)))) → K (a.put o.dst v') w') : o.wp P a w K Q := by
  subst hsz; subst hbs
  refine ap hS T T2 x y ho _ _ hx hy hT hz (by decide) hT2 hk (m := m.length) (.inl (hS.slRd hj)) (bv_one _) (by omega) (by omega) fun v' w' hS' => h v' w' ?_
  rw [bv_append, List.length_append]; exact hS'
/-- A cell out of a slice that is only read. -/
theorem rLdRd1 {b off n sz c : Nat} {vs : List Value} (h : Rd w (.slice (some ⟨b, off, none⟩) n c) n sz vs) (T : TypeId) (y : Operand) (ho : o.op = .load T y) (ad : Nat) (hy : a.eval y = .pointer (some ⟨b, ad, none⟩)) (hT : aggB P T = some false)
    (j : Nat) (hj : ad = off + j) {u : Value} (hu : vs[j]? = some u) (hn : 0 < n) : (execOp a.eval o).run P w = .ok (.value u) w := by
  subst hj
  exact rd_of (s := loadVar T ⟨b, off + j, none⟩) (by simp [execOp, ho, hy, Instr.loadAt, Instr.sureAddr]) (run_loadScalar hT (h.at hn hu))
/-! ### == of structs -/
theorem rEqS {t : TypeId} {x y : Operand} {r : TypeId} {xs ys : Array Value} {c : Bool} (ho : o.op = .binOp .eql t x y r) (hx : a.eval x = .agg xs) (hy : a.eval y = .agg ys) (hm : P.eqGuardType P.depth t = false)
    (he : ∀ w, (Op.equalIn 10000 t (.agg xs) (.agg ys)).run P w = .ok c w) : (execOp a.eval o).run P w = .ok (.value (.bool c)) w := by
  simp [execOp, ho, hx, hy, run_eqGuard_agg w .eql t x y xs ys hm, run_eql_struct, he, Result.andThen]
theorem rNeqS {t : TypeId} {x y : Operand} {r : TypeId} {xs ys : Array Value} {c : Bool} (ho : o.op = .binOp .neq t x y r) (hx : a.eval x = .agg xs) (hy : a.eval y = .agg ys) (hm : P.eqGuardType P.depth t = false)
    (he : ∀ w, (Op.equalIn 10000 t (.agg xs) (.agg ys)).run P w = .ok c w) : (execOp a.eval o).run P w = .ok (.value (.bool (!c))) w := by
  simp [execOp, ho, hx, hy, run_eqGuard_agg w .neq t x y xs ys hm, run_neq_struct, he, Result.andThen]
/-! ### a return whose first result is a variable of several cells -/
theorem bodyPost_cell_tmp {fn : Func} {R : Ending → World → Prop} {p u : Tmp} {ty : TypeId} {k b E n : Nat} {vs : List Value} (hS : Sat W w L) (h : fn.results = #[.cell p ty, .tmp u]) (ha : a.tmps.getD p undef = .pointer (some ⟨b, 0, none⟩))
    (hT : aggB P ty = some true) (hn : szB P ty = some n) (hk : Has L k (Cs b E vs)) (hl : vs.length = n) (hd : a.defers = []) (hR : R (.returned (.tuple #[.agg vs.toArray, a.tmps.getD u undef])) w) : bodyPost P fn R .ret a w := by
  refine bodyPost_ret ?_ hd hR
  rw [results_cell_tmp h, ha]
  have := run_loadAgg (P := P) (w := w) (b := b) (off := 0) hT hn hl (fun j v hv => by rw [Nat.zero_add]; exact hS.cell hk hv)
  simp [asAddr, this, Result.andThen]
theorem bodyPost_cell {fn : Func} {R : Ending → World → Prop} {p : Tmp} {ty : TypeId} {k b E n : Nat} {vs : List Value} (hS : Sat W w L) (h : fn.results = #[.cell p ty]) (ha : a.tmps.getD p undef = .pointer (some ⟨b, 0, none⟩))
    (hT : aggB P ty = some true) (hn : szB P ty = some n) (hk : Has L k (Cs b E vs)) (hl : vs.length = n) (hd : a.defers = []) (hR : R (.returned (.agg vs.toArray)) w) : bodyPost P fn R .ret a w := by
  refine bodyPost_ret ?_ hd hR
  have := run_loadAgg (P := P) (w := w) (b := b) (off := 0) hT hn hl (fun j v hv => by rw [Nat.zero_add]; exact hS.cell hk hv)
  have ha' : a.tmps[p]?.getD undef = .pointer (some ⟨b, 0, none⟩) := by rw [← ha]; simp
  simp [results, h, ha', asAddr, this]
end
end Go.Sep
