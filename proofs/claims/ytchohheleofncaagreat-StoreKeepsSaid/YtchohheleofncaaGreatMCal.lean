/-
 Slices of rows that each are their own: one is put behind another.
 A call of a function value, whichever it is.
-/
import Derived.Test.YtchohheleofncaaGreatMReg
import Derived.Lib.Hide
set_option linter.unusedSimpArgs false
set_option linter.unusedVariables false
namespace Go.Sep
open Go
variable {β : Type} {R : Value → β → Asrt} {P : Program} {Q : Exit → Act → World → Prop} {W w : World} {L : List Asrt} {a : Act} {o : Oper} {K : Act → World → Prop} {k b E : Nat} {v u v2 : Value} {x : β} {xs ys : List β}
theorem Sat.rwsOne (h : Sat W w (Cs b E [u] :: R u x :: L)) : Sat W w (Rws R (.slice (some ⟨b, 0, none⟩) 1 1) [x] :: L) := by
 refine Sat.rwsMk (vs := [u]) rfl ?_
 have h2 : Sat W w (Cs b E ([u].flatMap one1) :: St (List.zipWith R [u] [x]) :: L) := by
  rw [one1_fm]
  exact Sat.pull1 (Sat.mkSt (M := [R u x]) h.pull1)
 have h3 := Sat.csTb (f := one1) (sz := 1) (xs := [u]) (one1_len _) rfl (by simp) h2
 rw [tb_E E 0] at h3
 exact h3
theorem Sat.stBoth {M N : List Asrt} (h : Sat W w (St M :: St N :: L)) : Sat W w (St (M ++ N) :: L) := by
 refine Sat.mkSt ?_
 have h2 : Sat W w (M ++ (St N :: L)) := h.open
 have h3 : Sat W w (St N :: (M ++ L)) := h2.perm List.perm_middle
 have h4 : Sat W w (N ++ (M ++ L)) := h3.open
 refine h4.perm ?_
 rw [← List.append_assoc]
 exact List.Perm.append_right L List.perm_append_comm
theorem apRws (hS : Sat W w (Rws R v2 ys :: L)) (T T2 : TypeId) (y z : Operand) (ho : o.op = .call { callee := .builtin .append, args := #[y, z], argTypes := #[T, T2] }) (hy : a.eval y = v) (hz : a.eval z = v2)
  {e size bytes : Nat} {zv : Value} (hT : elemB P T = some (e, size, bytes, some zv)) (hsz : size = 1) (hbs : bytes ≤ 24) (hzs : zv.cells.size = size) (hT2 : intB P T2 = some false)
  (hk : Has L k (Rws R v xs)) (hone : ∀ (w : World) (L : List Asrt) (u : Value) (x : β), Sat W w (R u x :: L) → u.oneCell' = true) (hb : xs.length + ys.length ≤ 1000000000000)
  (h : ∀ v' w', Sat W w' (L.set k (Rws R v' (xs ++ ys))) → K (a.put o.dst v') w') : o.wp P a w K Q := by
 subst hsz
 obtain ⟨vs2, hl2, h2⟩ := hS.rwsOpen
 have h3 : Sat W w (Rws R v xs :: Tb 0 1 one1 v2 vs2 :: St (List.zipWith R vs2 ys) :: L.eraseIdx k) := h2.front (k + 2) hk
 obtain ⟨vs, hl, h4⟩ := h3.rwsOpen
 have hrd := h4.tbRd (k := 2) rfl
 rw [tb_E 0 e] at h4
 have hall : ∀ u ∈ vs2, u.oneCell' = true := fun u hu => by
  obtain ⟨i, hi⟩ := List.getElem?_of_mem hu
  have hil := (List.getElem?_eq_some_iff.1 hi).1
  obtain ⟨L', h5⟩ := h4.stRow (k := 3) (i := i) rfl hi (List.getElem?_eq_getElem (by omega))
  exact hone _ _ _ _ h5
 refine apTb (f := one1) h4 T T2 y z ho v v2 hy hz hT hzs (by decide) hT2 (k := 0) rfl vs2 (one1_len _) (.inl hrd) (by rw [one1_fm]; exact hall) ?_ (by omega) fun v' w' hS' => h v' w' ?_
 ·have := Nat.mul_le_mul_left (vs.length + vs2.length) hbs
  omega
 ·simp only [List.set_cons_zero] at hS'
  rw [tb_E e 0] at hS'
  have h6 := (hS'.re [2]).drop
  have h7 : Sat W w' (St (List.zipWith R (vs ++ vs2) (xs ++ ys)) :: Tb 0 1 one1 v' (vs ++ vs2) :: L.eraseIdx k) := by
   rw [List.zipWith_append hl]
   exact Sat.stBoth (h6.re [1, 2])
  exact Sat.back (Sat.rwsMk (by rw [List.length_append, List.length_append, hl, hl2]) h7.pull1) hk
end Go.Sep
namespace Go.Sep
open Go
variable {P : Program} {Q : Exit → Act → World → Prop} {w : World} {a : Act} {o : Oper} {K : Act → World → Prop}
theorem clV (F : FuncId) (x : Operand) (xs : List Operand) (ts : Array TypeId) (ho : o.op = .call { callee := .value x, args := xs.toArray, argTypes := ts }) {rc cp : Array Value} (hv : a.eval x = .func (.func F) rc cp) {args : List Value} (hx : xs.map a.eval = args)
  (hf : callB P F = true) {R : Ending → World → Prop} (hc : Calls P F (rc ++ args.toArray ++ cp) w R) (h : ∀ e w', R e w' → ∃ v, e = .returned v ∧ K (a.put o.dst v) w') : o.wp P a w K Q := by
 subst hx
 unfold Oper.wp
 have hr : (execOp a.eval o).run P w = .ok (.enter F (rc ++ (xs.map a.eval).toArray ++ cp)) w := by
  rw [show execOp a.eval o = callFunc F (rc ++ xs.toArray.map a.eval ++ cp) from by unfold execOp; rw [ho]; simp only [resolve, hv, Deferred.ofValue]; rfl, run_callB hf]
  simp
 rw [hr, Oper.upon_enter]
 refine hc.mono fun e w' he => ?_
 obtain ⟨v, rfl, hK⟩ := h e w' he
 exact hK
end Go.Sep
