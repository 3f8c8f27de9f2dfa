/-
  A string as bytes in new memory; an element of one cell written into a slice.
-/
import Derived.Lib.ConvBytes
import Derived.Test.YtnppgkbincffeaaSepReg
namespace Go.Sep
open Go

def bstrB (P : Program) (S T : TypeId) : Option TypeId :=
  match P.underlying S, P.underlying T with
  | some .string, some (.slice e) => (match P.underlying e with | some (.int .u8) => some e | _ => none)
  | _, _ => none
section
variable {P : Program} {Q : Exit → Act → World → Prop} {W w : World} {L : List Asrt} {a : Act} {o : Oper} {K : Act → World → Prop}
theorem Sat.bytesNew (hS : Sat W w L) (e : TypeId) (s : ByteArray) : Sat W (Lib.bytesWorld w e s) (Blk w.heap.size (.cells (Lib.bytesCells w e s) e ((Lib.bytesCells w e s).size, (Lib.bytesCells w e s).size + 1)) :: L) := by
  refine (hS.drew.alloc (.cells (Lib.bytesCells w e s) e)).turn rfl rfl (Lib.bytesWorld_at_new w e s) fun c p hc hp => ?_
  have hc' : c ≠ w.heap.size := hc
  have hlt : c < w.heap.size + 1 := by
    have := (Array.getElem?_eq_some_iff.1 hp).1
    have e1 : (w.drew.alloc (.cells (Lib.bytesCells w e s) e)).heap.size = w.heap.size + 1 := by
      rw [show (w.drew.alloc (.cells (Lib.bytesCells w e s) e)).heap = w.heap.push (.cells (Lib.bytesCells w e s) e) from rfl, Array.size_push]
    rw [e1] at this; exact this
  rw [Lib.bytesWorld_at_old w e s c (by omega)]
  have h2 : (w.drew.alloc (.cells (Lib.bytesCells w e s) e)).heap = w.heap.push (.cells (Lib.bytesCells w e s) e) := rfl
  rw [h2, Array.getElem?_push, if_neg (by omega)] at hp
  exact hp
/-- []byte(s) -/
theorem cvB (hS : Sat W w L) (S T : TypeId) (x : Operand) (ho : o.op = .convert S T x) (l : List UInt8) (hx : a.eval x = .string ⟨l.toArray⟩) {e : TypeId} (hST : bstrB P S T = some e) (hm : l.length ≤ 9223372036854775807)
    (h : ∀ b c w', Sat W w' (Sl e 1 (.slice (some ⟨b, 0, none⟩) l.length c) l.length (bv l) :: L) → K (a.put o.dst (.slice (some ⟨b, 0, none⟩) l.length c)) w') : o.wp P a w K Q := by
  unfold bstrB at hST
  split at hST
  · rename_i e' hs ht
    split at hST
    · rename_i he
      cases hST
      have hr := Lib.run_convert_string_bytes (P := P) w S T e ⟨l.toArray⟩ hs ht he
      have hsz : (⟨l.toArray⟩ : ByteArray).size = l.length := by simp [ByteArray.size]
      rw [hsz] at hr
      refine wp_of_val (s := convert S T (.string ⟨l.toArray⟩)) (by simp [execOp, ho, hx]) hr (h _ _ _ ?_)
      have hge := grownCap_ge w l.length 0 e
      have hle := grownCap_le_maxLen w l.length 0 e (by unfold maxLen; exact hm)
      unfold maxLen at hle
      have hc : Lib.bytesCells w e ⟨l.toArray⟩ = (bv l ++ List.replicate (grownCap w l.length 0 e - l.length) (Value.int .u8 0)).toArray := by
        unfold Lib.bytesCells
        rw [hsz]
        simp [bv, u8]
      have h2 := hS.bytesNew e ⟨l.toArray⟩
      rw [hc] at h2
      refine Sat.slMk (pre := []) (vs := bv l) (rest := List.replicate (grownCap w l.length 0 e - l.length) (Value.int .u8 0)) (E' := e) ?_ hge hle (by simp [bv_length]) rfl (by simp [bv_length]; omega)
      rw [List.nil_append]
      exact Sat.mkCs (.inr (Nat.le_of_eq (by simp))) h2
    · cases hST
  · cases hST
/-- One element of one cell is written. -/
theorem stTb1 {α : Type} {f : α → List Value} {xs : List α} {off c E k n : Nat} (hS : Sat W w L) (T : TypeId) (z y : Operand) (ho : o.op = .store T z y) (b ad : Nat) (hz : a.eval z = .pointer (some ⟨b, ad, none⟩)) (u : Value) (hy : a.eval y = u) (hu : u.oneCell' = true) (x' : α) (hf : f x' = [u]) (hn : szB P T = some 1)
    (hk : Has L k (Tb E 1 f (.slice (some ⟨b, off, none⟩) n c) xs)) (hxn : xs.length = n) (i : Nat) (hj : ad = off + i) (hi : i < n)
    (h : ∀ w', Sat W w' (L.set k (Tb E 1 f (.slice (some ⟨b, off, none⟩) n c) (xs.set i x'))) → K (a.put o.dst undef) w') : o.wp P a w K Q := by
  subst hxn
  subst hj
  obtain ⟨w', hr, hS'⟩ := hS.tbStore (P := P) hk x' hi (by rw [hf]; rfl) (by rw [hf]; simpa using hu)
  rw [hf, Nat.mul_one] at hr
  have hc : u.cells = #[u] := by cases u <;> simp_all [Value.oneCell', Value.cells]
  refine wp_of_unit (s := storeVar T ⟨b, off + i, none⟩ u) (w' := w') (by simp [execOp, ho, hz, hy, Instr.storeAt, Instr.sureAddr]) ?_ (h w' hS')
  simp [storeVar, run_sizeB hn, hc, hr]
end
end Go.Sep
