/-
  A string as bytes in new memory; an element of one cell written into a slice.
-/
import Derived.Lib.ConvBytes
import Derived.Test.YtapodjhkpahdnaaSepReg
namespace Go.Sep
open Go

def bstrB (P : Program) (S T : TypeId) : Option TypeId :=
  match P.underlying S, P.underlying T with
  | some .string, some (.slice e) => (match P.underlying e with | some (.int .u8) => some e | _ => none)
  | _, _ => none
section
variable {P : Program} {Q : Exit → Act → World → Prop} {W w : World} {L : List Asrt} {a : Act} {o : Oper} {K : Act → World → Prop}
theorem Sat.bytesNew (hS : Sat W w L) (e : TypeId) (s : ByteArray) : Sat W (Lib.bytesWorld w e s) (Blk w.heap.size (.cells (Lib.bytesCells w e s) e ((Lib.bytesCells w e s).size, (Lib.bytesCells w e s).size + 1)) :: L) := by
  refine (hS.drew.alloc (.cells (Lib.bytesCells w e s) e)).turn rfl rfl (Lib.bytesWorld_at_new w e s) fun c p hc hp => ?_
  have hc' : c ≠ w.heap.size := hc
  have hlt : c < w.heap.size + 1 := by
    have := (Array.getElem?_eq_some_iff.1 hp).1
    have e1 : (w.drew.alloc (.cells (Lib.bytesCells w e s) e)).heap.size = w.heap.size + 1 := by
      rw [show (w.drew.alloc (.cells (Lib.bytesCells w e s) e)).heap = w.heap.push (.cells (Lib.bytesCells w e s) e) from rfl, Array.size_push]
    rw [e1] at this; exact this
  rw [Lib.bytesWorld_at_old w e s c (by omega)]
  have h2 : (w.drew.alloc (.cells (Lib.bytesCells w e s) e)).heap = w.heap.push (.cells (Lib.bytesCells w e s) e) := rfl
  rw [h2, Array.getElem?_push, if_neg (by omega)] at hp
  exact hp
/-- []byte(s) -/
theorem cvB (hS : Sat W w L) (S T : TypeId) (x : Operand) (ho : o.op = .convert S T x) (l : List UInt8) (hx : a.eval x = .string ⟨l.toArray⟩) {e : TypeId} (hST : bstrB P S T = some e) (hm : l.length ≤ 9223372036854775807)
    (h : ∀ b c w', Sat W w' (Sl e 1 (.slice (some ⟨b, 0, none⟩) l.length c) l.length (bv l) :: L) → K (a.put o.dst (.slice (some ⟨b, 0, none⟩) l.length c)) w') : o.wp P a w K Q := by
  unfold bstrB at hST
  split at hST
  · rename_i e' hs ht
    split at hST
    · rename_i he
      cases hST
      have hr := Lib.run_convert_string_bytes (P := P) w S T e ⟨l.toArray⟩ hs ht he
      have hsz : (⟨l.toArray⟩ : ByteArray).size = l.length := by simp [ByteArray.size]
      rw [hsz] at hr
      refine wp_of_val (s := convert S T (.string ⟨l.toArray⟩)) (by simp [execOp, ho, hx]) hr (h _ _ _ ?_)
      have hge := grownCap_ge w l.length 0 e
      have hle := grownCap_le_maxLen w l.length 0 e (by unfold maxLen; exact hm)
      unfold maxLen at hle
      have hc : Lib.bytesCells w e ⟨l.toArray⟩ = (bv l ++ List.replicate (grownCap w l.length 0 e - l.length) (Value.int .u8 0)).toArray := by
        unfold Lib.bytesCells
        rw [hsz]
        simp [bv, u8]
      have h2 := hS.bytesNew e ⟨l.toArray⟩
      rw [hc] at h2
      refine Sat.slMk (pre := []) (vs := bv l) (rest := List.replicate (grownCap w l.length 0 e - l.length) (Value.int .u8 0)) (E' := e) ?_ hge hle (by simp [bv_length]) rfl (by simp [bv_length]; omega)
      rw [List.nil_append]
      exact Sat.mkCs (.inr (Nat.le_of_eq (by simp))) h2
    · cases hST
  · cases hST
/-- What a slice that owns its row is: nil, or a place. -/
theorem Sat.slCases {E sz n k : Nat} {v : Value} {vs : List Value} (h : Sat W w L) (hk : Has L k (Sl E sz v n vs)) :
    (v = .slice none 0 0 ∧ n = 0 ∧ vs = []) ∨ ∃ b off c, v = .slice (some ⟨b, off, none⟩) n c ∧ n ≤ c ∧ c ≤ 9223372036854775807 := by
  rcases (h.front k hk).slOpen with ⟨h1, h2, h3, _⟩ | ⟨E', b, off, cap, pre, rest, h1, h2, h3, _⟩
  · exact .inl ⟨h1, h2, h3⟩
  · exact .inr ⟨b, off, cap, h1, h2, h3⟩
/-- Its capacity may be forgotten. -/
theorem Sat.slClip {E sz n b off c : Nat} {vs : List Value} (h : Sat W w (Sl E sz (.slice (some ⟨b, off, none⟩) n c) n vs :: L)) : Sat W w (Sl E sz (.slice (some ⟨b, off, none⟩) n n) n vs :: L) := by
  rcases h.slOpen with ⟨h1, _⟩ | ⟨E', b', off', cap, pre, rest, h1, g1, g2, g3, g4, g5, h5⟩
  · cases h1
  · simp only [Value.slice.injEq, Option.some.injEq, Addr.mk.injEq, true_and, and_true] at h1
    obtain ⟨⟨rfl, rfl⟩, rfl⟩ := h1
    exact Sat.slMk h5 (Nat.le_refl _) (by omega) g3 g4 (by rw [g3]; omega)
theorem zeroCells_u8 (m : Nat) : Builtin.zeroCells (Value.int .u8 0).cells m = (bv (List.replicate m (0 : UInt8))).toArray := by
  apply Array.ext'
  simp [Builtin.zeroCells, Value.cells, bv, u8, Nat.mod_one, List.map_const']
/-- append(s, make([]byte, m)...) does what an append of m noughts does. -/
theorem run_append_zeros {T T2 e ty : TypeId} (hT : elemB P T = some (e, 1, 1, some (.int .u8 0))) (hT2 : intB P T2 = some true) (ao : Option Addr) (n c m : Nat) (hm : n + m ≤ 140737488355328) (w : World) :
    (Builtin.append_ #[T, T2] ty #[.slice ao n c, .int .i64 m]).run P w = (Builtin.append_ #[T, T] ty #[.slice ao n c, .string ⟨(List.replicate m (0 : UInt8)).toArray⟩]).run P w := by
  obtain ⟨hu, i, hi, hs1, hb1, hz⟩ := elemB_parts hT
  have hu2 : ∃ k, P.underlying T2 = some (.int k) := by
    unfold intB at hT2
    cases h : P.underlying T2 with
    | none => simp [h] at hT2
    | some d => cases d <;> simp [h, isIntD] at hT2 ⊢
  obtain ⟨k2, hu2⟩ := hu2
  have hw : IntKind.i64.wrap (m : Int) = (m : Int) := IntWalk.i64_in _ (by omega)
  have w0 : IntKind.i64.wrap 0 = 0 := IntWalk.i64_in 0 (by omega)
  have h0 : ¬ ((m : Int) < 0) := by omega
  have h1 : ¬ (281474976710656 < (m : Int)) := by omega
  have hsz : (⟨(List.replicate m (0 : UInt8)).toArray⟩ : ByteArray).size = m := by simp [ByteArray.size]
  have hfc : ∀ u, (Builtin.firstCells 1 m (.string ⟨(List.replicate m (0 : UInt8)).toArray⟩)).run P u = .ok (bv (List.replicate m (0 : UInt8))).toArray u := fun u => by
    have h := Src.cells (P := P) (w := u) (x := .string ⟨(List.replicate m (0 : UInt8)).toArray⟩) (m := m) (sz := 1) (news := bv (List.replicate m (0 : UInt8))) (.inr ⟨_, rfl, hsz.symm, rfl, rfl⟩)
    exact h
  have hz0 : m = 0 → (bv (List.replicate m (0 : UInt8))).toArray = #[] := fun h => by subst h; rfl
  have hbv : bv [] = [] := rfl
  generalize (⟨(List.replicate m (0 : UInt8)).toArray⟩ : ByteArray) = s at hsz hfc ⊢
  by_cases hroom : n + m ≤ c
  · by_cases hm0 : m = 0
    · subst hm0
      rw [Nat.add_zero] at hroom
      cases ao <;> simp [Builtin.append_, Builtin.lenOf, run_underlying hu, run_underlying hu2, sizeOf, typeInfo, zeroValue, hi, hs1, hb1, hz, asInt, asIntOf, w0, hfc, hsz, hroom, hbv]
    · cases ao <;> simp [Builtin.append_, Builtin.lenOf, run_underlying hu, run_underlying hu2, sizeOf, typeInfo, zeroValue, hi, hs1, hb1, hz, asInt, asIntOf, hw, h0, h1, hfc, hsz, hroom, hm0, zeroCells_u8]
  · have hm0 : ¬ m = 0 ∨ m = 0 := by omega
    have h63 : ¬ (9223372036854775807 < (n : Int) + (m : Int)) := by omega
    have h48 : ¬ (281474976710656 < Builtin.nextslicecap (n + m) c) := by
      have := growslice_any (old := c) (need := n + m) (bytes := 1) (by omega) (by omega); omega
    rcases hm0 with hm0 | hm0
    · simp [Builtin.append_, Builtin.lenOf, run_underlying hu, run_underlying hu2, sizeOf, typeInfo, zeroValue, hi, hs1, hb1, hz, asInt, asIntOf, hw, h0, h1, hfc, hsz, hroom, hm0, zeroCells_u8, h63, h48]
    · subst hm0
      rw [Nat.add_zero] at hroom h48
      have h63 : ¬ (9223372036854775807 < (n : Int)) := by omega
      simp [Builtin.append_, Builtin.lenOf, run_underlying hu, run_underlying hu2, sizeOf, typeInfo, zeroValue, hi, hs1, hb1, hz, asInt, asIntOf, w0, hfc, hsz, hroom, zeroCells_u8, h63, h48, hbv]
/-- append(b, make([]byte, m)...) -/
theorem apZ {l : List UInt8} {v : Value} {k n m : Nat} (hS : Sat W w L) (T T2 : TypeId) (x y : Operand) (ho : o.op = .call { callee := .builtin .append, args := #[x, y], argTypes := #[T, T2] }) (hx : a.eval x = v) (hy : a.eval y = .int .i64 m)
    {e : TypeId} (hT : elemB P T = some (e, 1, 1, some (.int .u8 0))) (hT2 : intB P T2 = some true) (hTT : intB P T = some false)
    (hk : Has L k (Sl e 1 v n (bv l))) (hb : n + m ≤ 140737488355328)
    (h : ∀ v' w', Sat W w' (L.set k (Sl e 1 v' (n + m) (bv (l ++ List.replicate m 0)))) → K (a.put o.dst v') w') : o.wp P a w K Q := by
  obtain ⟨v', w', hr, hS'⟩ := hS.run_append (P := P) T T o.type hT rfl (by decide) hTT hk (m := m) (news := bv (List.replicate m (0 : UInt8))) (xv := .string ⟨(List.replicate m (0 : UInt8)).toArray⟩) (.inr ⟨_, rfl, by simp [ByteArray.size], rfl, rfl⟩) (bv_one _) (by omega) (by omega)
  obtain ⟨ao, c, rfl, _⟩ := hS.slShape hk
  rw [← run_append_zeros hT hT2 ao n c m hb w] at hr
  have e1 : bv l ++ bv (List.replicate m (0 : UInt8)) = bv (l ++ List.replicate m 0) := by simp [bv]
  rw [e1] at hS'
  have h3 := h v' w' hS'
  unfold Oper.wp
  simp [execOp, ho, resolve, invoke, builtin, hx, hy, hr, Oper.upon, h3]
/-- One element of one cell is written. -/
theorem stTb1 {α : Type} {f : α → List Value} {xs : List α} {off c E k n : Nat} (hS : Sat W w L) (T : TypeId) (z y : Operand) (ho : o.op = .store T z y) (b ad : Nat) (hz : a.eval z = .pointer (some ⟨b, ad, none⟩)) (u : Value) (hy : a.eval y = u) (hu : u.oneCell' = true) (x' : α) (hf : f x' = [u]) (hn : szB P T = some 1)
    (hk : Has L k (Tb E 1 f (.slice (some ⟨b, off, none⟩) n c) xs)) (hxn : xs.length = n) (i : Nat) (hj : ad = off + i) (hi : i < n)
    (h : ∀ w', Sat W w' (L.set k (Tb E 1 f (.slice (some ⟨b, off, none⟩) n c) (xs.set i x'))) → K (a.put o.dst undef) w') : o.wp P a w K Q := by
  subst hxn
  subst hj
  obtain ⟨w', hr, hS'⟩ := hS.tbStore (P := P) hk x' hi (by rw [hf]; rfl) (by rw [hf]; simpa using hu)
  rw [hf, Nat.mul_one] at hr
  have hc : u.cells = #[u] := by cases u <;> simp_all [Value.oneCell', Value.cells]
  refine wp_of_unit (s := storeVar T ⟨b, off + i, none⟩ u) (w' := w') (by simp [execOp, ho, hz, hy, Instr.storeAt, Instr.sureAddr]) ?_ (h w' hS')
  simp [storeVar, run_sizeB hn, hc, hr]
end
end Go.Sep
