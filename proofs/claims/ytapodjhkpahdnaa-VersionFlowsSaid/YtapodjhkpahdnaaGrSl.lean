/-
  Contracts of the library's functions on slices of numbers: Sort, BinarySearch, Index, Contains, Clone, Clip, Insert; graph's with.
-/
import Derived.Test.YtapodjhkpahdnaaGrShelf
import Derived.Test.YtapodjhkpahdnaaSepSort
import Derived.Test.YtapodjhkpahdnaaGrSet
import Derived.WalkLawsBesides
namespace Go.Proofs.Ytapodjhkpahdnaa
open Go.RowKit Go.Sep
set_option linter.unusedSimpArgs false
set_option linter.unusedVariables false
attribute [local irreducible] Go.Oper.wp Go.wpList Go.Calls Go.Code.wp Go.Sep.Reg
def srt (l : List Nat) : List Nat := l.mergeSort fun x y => decide (x ≤ y)
theorem srt_len (l : List Nat) : (srt l).length = l.length := by simp [srt]
theorem ints_iv (l : List Nat) : (l.map fun x : Nat => (x : Int)).map (Value.int .i64) = iv l := by simp [iv]
theorem srt_ints (l : List Nat) : (l.map fun x : Nat => (x : Int)).mergeSort (fun x y => decide (x ≤ y)) = (srt l).map fun x : Nat => (x : Int) := by
  unfold srt
  exact (List.map_mergeSort (f := fun x : Nat => (x : Int)) (r := fun x y => decide (x ≤ y)) (s := fun x y => decide (x ≤ y)) (fun a _ b _ => by simp)).symm
theorem sort_any {W w : World} {L : List Asrt} {v : Value} {l : List Nat} (hS : Sat W w (Ir v l :: L)) (hl : l.length ≤ 1000000) :
    Calls Try.prog 42 #[v] w fun e w' => e = .returned (.tuple #[]) ∧ Sat W w' (Ir v (srt l) :: L) := by
  by_cases h0 : l.length = 0
  · obtain ⟨ao, c, rfl, _⟩ := hS.irShape (k := 0) rfl
    obtain rfl : l = [] := List.eq_nil_of_length_eq_zero h0
    refine (Try.slices_Sort_int_none ao c w).mono fun e w' ⟨h1, h2⟩ => ⟨h1, ?_⟩
    subst h2
    simpa [srt] using hS
  · have hS' := hS
    unfold Ir at hS'
    rcases hS'.slOpen with ⟨_, h1, _⟩ | ⟨E', b, off, cap, pre, rest, rfl, h1, h2, h3, h4, h5, h6⟩
    · exact absurd h1 h0
    · have hz : ((l.map fun x : Nat => (x : Int)).length) = l.length := by simp
      have hH : Go.Sort.Holds (Value.int .i64) w b off (l.map fun x : Nat => (x : Int)).toArray := by
        intro j hj
        have hj' : j < l.length := by simpa using hj
        obtain ⟨y, hy⟩ : ∃ y, l[j]? = some y := ⟨_, List.getElem?_eq_getElem hj'⟩
        have hc := hS'.slCell (k := 0) rfl (iv_at hy)
        have hd : ∀ (A : Array Int), A = (l.map fun x : Nat => (x : Int)).toArray → A[j]! = (y : Int) := fun A hA => by
          subst hA
          rw [getElem!_pos _ j hj]
          have := (List.getElem?_eq_some_iff.1 hy).2
          simp [this]
        rw [hd _ rfl]
        exact hc
      have hblk : b < w.heap.size := by
        obtain ⟨fz, _, h7⟩ := h6.openCs
        exact h7.lt
      have := Try.slices_Sort_int b off cap (l.map fun x : Nat => (x : Int)) w hH hblk (by rw [hz]; omega)
      rw [hz] at this
      refine this.mono fun e w' ⟨h7, n, os, h8⟩ => ⟨h7, ?_⟩
      subst h8
      rw [srt_ints]
      have h9 := ((h6.ahead n).putRow (Value.int .i64) ((srt l).map fun x : Nat => (x : Int)) (by simp [srt_len, iv_length]) h4).grow os
      rw [ints_iv] at h9
      unfold Ir
      rw [srt_len]
      exact Sat.slMk h9 h1 h2 (by simp [iv_length, srt_len]) h4 (by simp [iv_length, srt_len] at h5 ⊢; omega)
theorem bsearch_any {W w : World} {L : List Asrt} {v : Value} {l : List Nat} (hS : Sat W w L) (hr : Rd w v l.length 1 (iv l)) (hs : l.Pairwise (· ≤ ·)) (hl : l.length ≤ 1000000) (x : Nat) :
    Calls Try.prog 106 #[v, .int .i64 x] w fun e w' => ∃ b, e = .returned (.tuple #[.int .i64 (l.countP (· < x) : Nat), .bool b]) ∧ Sat W w' L := by
  by_cases h0 : l.length = 0
  · obtain ⟨ao, c, rfl, _⟩ := hr
    obtain rfl : l = [] := List.eq_nil_of_length_eq_zero h0
    refine (Try.slices_BinarySearch_int_empty ao c x w).mono fun e w' ⟨h1, h2⟩ => ⟨false, h1, ?_⟩
    subst h2; exact hS
  · obtain ⟨ao, c, rfl, h1, h2, h3, h5⟩ := hr
    obtain ⟨b, off, rfl, hc⟩ := h5 (by omega)
    have := Try.slices_BinarySearch_int b off l.length c (l.map fun x : Nat => (x : Int)) x w (by simp) (by omega) (fun j hj => by
      have hj' : j < l.length := by simpa using hj
      have h := hc j _ (iv_at (List.getElem?_eq_getElem hj'))
      rw [h]
      simp [List.getD, hj']) (by
      rw [List.take_of_length_le (by simp)]
      exact List.pairwise_map.2 (hs.imp fun h => by simpa using h))
    refine this.mono fun e w' ⟨h7, q, h8⟩ => ?_
    subst h8
    rw [List.take_of_length_le (by simp)] at h7
    refine ⟨(l.map fun x : Nat => (x : Int)).contains (x : Int), ?_, hS.drewN q⟩
    rw [h7]
    congr 5
    rw [List.countP_map]
    exact congrArg Nat.cast (List.countP_congr fun a _ => by simp)
theorem index_any {W w : World} {L : List Asrt} (hS : Sat W w L) (l : List Nat) (ao : Option Addr) (c : Nat) (hr : Rd w (.slice ao l.length c) l.length 1 (iv l)) (hl : l.length ≤ 1000000) (x : Int) :
    Calls Try.prog 92 #[.slice ao l.length c, .int .i64 x] w fun e w' => ∃ r : Int, e = .returned (.int .i64 r) ∧ (0 ≤ r ↔ ∃ y, y ∈ l ∧ (y : Int) = x) ∧ w = w' := by
  have HR := Lib.hid hr
  obtain ⟨_, _, he, hc1, hc2, _, h5⟩ := hr
  simp only [Value.slice.injEq, true_and] at he
  obtain ⟨rfl, rfl⟩ := he
  have i5 : (l.length : Int) ≤ 1000000 := by omega
  go_enter Try.func92, Try.ntmps92
  go_wp2
  go_loop [8] (fun vi => ∃ k : Nat, k ≤ l.length ∧ vi = .int .i64 k ∧ (l.take k).any (fun y => decide ((y : Int) = x)) = false) (fun vi => l.length - (intOf vi).toNat)
  case atStart => exact ⟨0, by omega, rfl, rfl⟩
  case round =>
    obtain ⟨k, hk, rfl, hno⟩ := hrel
    by_cases hlt : k < l.length
    · obtain ⟨b, off, rfl, _⟩ := h5 (by omega)
      obtain ⟨y, hy⟩ : ∃ y, l[k]? = some y := ⟨_, List.getElem?_eq_getElem hlt⟩
      have j1 : (k : Int) < (l.length : Int) := by omega
      have HY := Lib.hid (iv_at hy)
      have HNO := Lib.hid hno
      have HY2 := Lib.hid hy
      clear hno hy h5
      by_cases hxy : (y : Int) = x
      · subst hxy
        go_wp2_with (refine toList (by rfl) ?_; refine wp_of_reads (rLdRd1 HR.out _ _ (by rfl) _ (by rfl) (agOf (by rfl)) k (by omega) HY.out (by omega)) ?_)
        go_ret
        refine ⟨_, rfl, ?_, rfl⟩
        exact ⟨fun _ => ⟨y, List.mem_of_getElem? HY2.out, rfl⟩, fun _ => by omega⟩
      · have e1 : (x == (y : Int)) = false := beq_eq_false_iff_ne.2 (Ne.symm hxy)
        have HN := Lib.hid (show (l.take (k + 1)).any (fun y => decide ((y : Int) = x)) = false by rw [List.take_add_one, HY2.out]; simp [HNO.out, hxy])
        clear hxy
        go_wp2_with (refine toList (by rfl) ?_; refine wp_of_reads (rLdRd1 HR.out _ _ (by rfl) _ (by rfl) (agOf (by rfl)) k (by omega) HY.out (by omega)) ?_)
        exact ⟨⟨k + 1, by omega, by go_num, HN.out⟩, by simp [intOf]; omega⟩
    · obtain rfl : k = l.length := by omega
      rw [List.take_length] at hno
      have HNO := Lib.hid hno
      clear hno
      go_wp2
      go_ret
      exact ⟨_, rfl, ⟨fun h => by omega, fun ⟨y, hy, h⟩ => by have := List.any_eq_false.1 HNO.out y hy; simp [h] at this⟩, rfl⟩
theorem contains_any {W w : World} {L : List Asrt} (hS : Sat W w L) (l : List Nat) (ao : Option Addr) (c : Nat) (hr : Rd w (.slice ao l.length c) l.length 1 (iv l)) (hl : l.length ≤ 1000000) (x : Int) {r : Bool} (hx : l.any (fun y => decide ((y : Int) = x)) = r) :
    Calls Try.prog 70 #[.slice ao l.length c, .int .i64 x] w fun e w' => e = .returned (.bool r) ∧ w = w' := by
  subst hx
  have HX := Lib.hid (index_any hS l ao c hr hl x)
  go_enter Try.func70, Try.ntmps70
  go_wp2_with (go_at_call 92; refine HX.out.mono ?_; rintro e w1 ⟨r, rfl, hri, rfl⟩)
  go_ret
  refine ⟨congrArg Ending.returned (show Value.bool _ = Value.bool _ from congrArg Value.bool ?_), rfl⟩
  rw [Bool.eq_iff_iff, decide_eq_true_iff]
  simp
theorem ir_of_cs {W w : World} {L : List Asrt} {b E c : Nat} {l : List Nat} {rest : List Value} (h : Sat W w (Cs b E (iv l ++ rest) :: L)) (h1 : l.length ≤ c) (h2 : c ≤ 9223372036854775807) (h3 : c ≤ l.length + rest.length) : Sat W w (Ir (.slice (some ⟨b, 0, none⟩) l.length c) l :: L) :=
  Sat.slMk (pre := []) (vs := iv l) (rest := rest) (by simpa using h) h1 h2 (by simp [iv_length]) rfl (by simp [iv_length]; omega)
theorem run_eql_nil {P : Program} (w : World) {t e : TypeId} (h : P.underlying t = some (.slice e)) (a : Option Addr) (n c : Nat) : (binOp .eql t (.slice a n c) (.slice none 0 0)).run P w = .ok (.bool a.isNone) w := by
  simp only [binOp]
  simp [run_equal_slice_nil w t e a n c h]
set_option maxRecDepth 20000 in
theorem clone_any {W w : World} {L : List Asrt} {v : Value} {l : List Nat} (hS : Sat W w L) (hr : ∀ w, Sat W w L → Rd w v l.length 1 (iv l)) (hl : l.length ≤ 1000000) (hv : l = [] → v = .slice none 0 0) :
    Calls Try.prog 109 #[v] w fun e w' => ∃ v', e = .returned v' ∧ (l = [] → v' = .slice none 0 0) ∧ Sat W w' (Ir v' l :: L) := by
  have E34 : ∀ (a : Option Addr) (n c : Nat) (w : World), (binOp .eql 35 (.slice a n c) (.slice none 0 0)).run Try.prog w = .ok (.bool a.isNone) w := fun a n c w => run_eql_nil w Try.underlying35 a n c
  by_cases h0 : l = []
  · subst h0
    obtain rfl := hv rfl
    go_enter Try.func109, Try.ntmps109
    go_wp2
    go_ret
    refine ⟨_, rfl, ?_, hS.irNil⟩
    first | exact fun _ => rfl | rfl
  · have HR := Lib.hid hr
    obtain ⟨_, c, rfl, hc1, hc2, _, h5⟩ := hr w hS
    have hpos : 0 < l.length := List.length_pos_iff.2 h0
    obtain ⟨b, off, rfl, _⟩ := h5 hpos
    have H0 := Lib.hid h0
    clear h0 hv hr h5
    go_enter Try.func109, Try.ntmps109
    go_wp2_with (first
      | (refine toList (by rfl) ?_; refine bs0 hS _ (by rfl) (elOf (by rfl)) ?_; intro b1 w1 hS1; clear hS; have hS := hS1; clear hS1; replace hS := ir_of_cs (l := []) (c := 0) (rest := []) hS (by decide) (by decide) (by decide))
      | (refine toList (by rfl) ?_; refine apI hS _ _ _ _ (by rfl) (by rfl) (by rfl) (elOf (by rfl)) (by rfl) (by rfl) (by rfl) (inOf (by rfl)) Has.z (by exact HR.out _ hS.drop) (by simp; omega) ?_; intro v1 w1 hS1; clear hS; have hS := hS1; clear hS1; dsimp only [List.set_cons_zero, List.nil_append] at hS))
    go_ret
    exact ⟨_, rfl, fun h => absurd h H0.out, hS⟩
/-- Nothing behind its end. -/
def Tight (v : Value) : Prop := v = .slice none 0 0 ∨ ∃ b off n, v = .slice (some ⟨b, off, none⟩) n n
set_option maxRecDepth 20000 in
theorem clip_any {W w : World} {L : List Asrt} {v : Value} {l : List Nat} (hS : Sat W w (Ir v l :: L)) :
    Calls Try.prog 108 #[v] w fun e w' => ∃ v', e = .returned v' ∧ Tight v' ∧ Sat W w' (Ir v' l :: L) := by
  rcases hS.slCases (E := 0) (sz := 1) (n := l.length) (vs := iv l) (k := 0) rfl with ⟨rfl, h0, h1⟩ | ⟨b, off, c, rfl, hc1, hc2⟩
  · go_enter Try.func108, Try.ntmps108
    go_wp2
    go_ret
    exact ⟨_, rfl, .inl rfl, hS⟩
  · go_enter Try.func108, Try.ntmps108
    go_wp2
    go_ret
    refine ⟨_, rfl, .inr ⟨b, off, l.length, rfl⟩, ?_⟩
    unfold Ir at hS ⊢
    exact hS.slClip
def insAt (l : List Nat) (i x : Nat) : List Nat := l.take i ++ x :: l.drop i
set_option maxRecDepth 20000 in
set_option maxHeartbeats 1000000 in
theorem insert_any {W w : World} {L : List Asrt} {v : Value} {l : List Nat} (hS : Sat W w (Ir v l :: L)) (ht : Tight v) (hl : l.length ≤ 1000000) (i x : Nat) (hi : i ≤ l.length) (b : Nat) (hr : ∀ w, Sat W w L → Rd w (.slice (some ⟨b, 0, none⟩) 1 1) 1 1 (iv [x])) :
    Calls Try.prog 107 #[v, .int .i64 i, .slice (some ⟨b, 0, none⟩) 1 1] w fun e w' => ∃ v', e = .returned v' ∧ Sat W w' (Ir v' (insAt l i x) :: L) := by
  have HR := Lib.hid hr
  clear hr
  by_cases h : i = l.length
  · subst h
    have HI := Lib.hid (show l ++ [x] = insAt l l.length x by simp [insAt])
    rcases ht with rfl | ⟨b', off, n, rfl⟩
    · obtain ⟨ao, c, he, hc⟩ := hS.irShape (k := 0) rfl
      simp only [Value.slice.injEq] at he
      obtain ⟨j1, h0, j2⟩ := he
      obtain rfl : l = [] := List.eq_nil_of_length_eq_zero h0.symm
      clear j1 h0 j2 hc ao c hi hl
      go_enter Try.func107, Try.ntmps107
      go_wp2_with (refine toList (by rfl) ?_; refine apI (m := [x]) hS _ _ _ _ (by rfl) (by rfl) (by rfl) (elOf (by rfl)) (by rfl) (by rfl) (by rfl) (inOf (by rfl)) Has.z (by exact HR.out _ hS.drop) (by simp) ?_; intro v1 w1 hS1; clear hS; have hS := hS1; clear hS1; dsimp only [List.set_cons_zero] at hS; rw [HI.out] at hS)
      go_ret
      exact ⟨_, rfl, hS⟩
    · obtain ⟨ao, c, he, hc⟩ := hS.irShape (k := 0) rfl
      simp only [Value.slice.injEq] at he
      obtain ⟨rfl, h0, rfl⟩ := he
      subst h0
      clear hc hi
      have i1 : (l.length : Int) ≤ 1000000 := by omega
      go_enter Try.func107, Try.ntmps107
      go_wp2_with (refine toList (by rfl) ?_; refine apI (m := [x]) hS _ _ _ _ (by rfl) (by rfl) (by rfl) (elOf (by rfl)) (by rfl) (by rfl) (by rfl) (inOf (by rfl)) Has.z (by exact HR.out _ hS.drop) (by simp; omega) ?_; intro v1 w1 hS1; clear hS; have hS := hS1; clear hS1; dsimp only [List.set_cons_zero] at hS; rw [HI.out] at hS)
      go_ret
      exact ⟨_, rfl, hS⟩
  · rcases ht with rfl | ⟨b', off, n, rfl⟩
    · obtain ⟨ao, c, he, hc⟩ := hS.irShape (k := 0) rfl
      simp only [Value.slice.injEq] at he
      omega
    · obtain ⟨ao, c, he, hc⟩ := hS.irShape (k := 0) rfl
      simp only [Value.slice.injEq] at he
      obtain ⟨rfl, h0, rfl⟩ := he
      subst h0
      clear hc
      have i1 : (l.length : Int) ≤ 1000000 := by omega
      have i2 : (i : Int) < (l.length : Int) := by omega
      have e1 : ((i : Int) == (l.length : Int)) = false := beq_eq_false_iff_ne.2 (by omega)
      have e2 : (i == l.length) = false := beq_eq_false_iff_ne.2 h
      clear h
      have e3 : decide (l.length < l.length + 1) = true := decide_eq_true (by omega)
      have e4 : decide ((l.length : Int) < (l.length : Int) + 1) = true := decide_eq_true (by omega)
      have HN : Hid ((l.length : Int) + 1 - (i : Int) = ((l.length + 1 - i : Nat) : Int)) := Lib.hid (by omega)
      have HRS : ∀ w, Sat W w (Ir (.slice (some ⟨b', off, none⟩) l.length l.length) l :: L) → Rd w (.slice (some ⟨b', off, none⟩) i l.length) i 1 (iv (l.take i)) := fun w h => by
        obtain ⟨_, _, he, h1, h2, h3, h5⟩ := h.irRd (k := 0) rfl
        simp only [Value.slice.injEq, true_and] at he
        obtain ⟨rfl, rfl⟩ := he
        refine ⟨_, _, rfl, by omega, h2, by simp [iv_length]; omega, fun hi0 => ?_⟩
        obtain ⟨b'', off'', h6, h7⟩ := h5 (by omega)
        refine ⟨b'', off'', h6, fun j u hu => h7 j u ?_⟩
        rw [← iv_take, List.getElem?_take] at hu
        split at hu
        · exact hu
        · cases hu
      have HRT : ∀ w, Sat W w (Ir (.slice (some ⟨b', off, none⟩) l.length l.length) l :: L) → Rd w (.slice (some ⟨b', off + i, none⟩) (l.length - i) (l.length - i)) (l.length - i) 1 (iv (l.drop i)) := fun w h => by
        obtain ⟨_, _, he, h1, h2, h3, h5⟩ := h.irRd (k := 0) rfl
        simp only [Value.slice.injEq, true_and] at he
        obtain ⟨rfl, rfl⟩ := he
        refine ⟨_, _, rfl, by omega, by omega, by simp [iv_length], fun hi0 => ?_⟩
        obtain ⟨b'', off'', h6, h7⟩ := h5 (by omega)
        simp only [Option.some.injEq, Addr.mk.injEq, and_true] at h6
        obtain ⟨rfl, rfl⟩ := h6
        refine ⟨_, _, rfl, fun j u hu => ?_⟩
        rw [Nat.add_assoc]
        refine h7 (i + j) u ?_
        rw [← iv_drop, List.getElem?_drop] at hu
        exact hu
      have HRS := Lib.hid HRS
      have HRT := Lib.hid HRT
      have HN2 := Lib.hid (show i + (l.length + 1 - i) = l.length + 1 by omega)
      have HV : Hid (∀ (z : Value), (((iv (l.take i) ++ List.replicate (l.length + 1 - i) z).take i ++ iv [x] ++ (iv (l.take i) ++ List.replicate (l.length + 1 - i) z).drop (i + 1)).take (i + 1) ++ iv (l.drop i) ++
          ((iv (l.take i) ++ List.replicate (l.length + 1 - i) z).take i ++ iv [x] ++ (iv (l.take i) ++ List.replicate (l.length + 1 - i) z).drop (i + 1)).drop (i + 1 + (l.length - i))) = iv (insAt l i x)) := Lib.hid fun z => by
        have e0 : (iv (l.take i)).length = i := by rw [iv_length, List.length_take]; omega
        rw [List.take_left' e0]
        have e1 : (iv (l.take i) ++ iv [x]).length = i + 1 := by rw [List.length_append, e0]; rfl
        have hD : (List.drop (i + 1) (iv (l.take i) ++ List.replicate (l.length + 1 - i) z)).length = l.length - i := by
          simp only [List.length_drop, List.length_append, e0, List.length_replicate]; omega
        generalize List.drop (i + 1) (iv (l.take i) ++ List.replicate (l.length + 1 - i) z) = D at hD ⊢
        rw [List.take_left' e1]
        have e3 : (iv (l.take i) ++ iv [x] ++ D).drop (i + 1 + (l.length - i)) = [] := List.drop_eq_nil_of_le (by rw [List.length_append, e1, hD]; omega)
        rw [e3]
        simp [insAt, iv, List.map_take, List.map_drop]
      have HLV : ∀ (z : Value), (iv (l.take i) ++ List.replicate (l.length + 1 - i) z).length = l.length + 1 := fun z => by
        simp only [List.length_append, iv_length, List.length_take, List.length_replicate]; omega
      have HLV := Lib.hid HLV
      clear e3 e4 hl
      go_enter Try.func107, Try.ntmps107
      go_wp2_with (first
        | (refine toList (by rfl) ?_; refine apGZ hS _ _ _ _ (by rfl) (by rfl) (l.length + 1 - i) (by rw [← HN.out]; rfl) (elOf (by rfl)) (by rfl) (by rfl) (inOf (by rfl)) (HRS.out _ hS) (by omega) (by omega) (by omega) ?_; intro v1 w1 hS1; clear hS; have hS := hS1; clear hS1; rw [HN2.out] at hS; obtain ⟨b2, off2, c2, rfl, hc2⟩ := hS.slAddr (k := 0) rfl (by omega))
        | (refine toList (by rfl) ?_; refine cpSl hS _ _ _ _ (by rfl) _ _ _ _ _ (by rfl) (by rfl) (elOf (by rfl)) (by rfl) Has.z i (by omega) (by rw [HLV.out]; omega) (by exact HR.out _ hS.drop.drop) (iv_one _) (by omega) ?_; intro w1 hS1; clear hS; have hS := hS1; clear hS1; dsimp only [List.set_cons_zero] at hS))
      have q1 : ¬ c2 = i + 1 := by omega
      have q2 : ¬ l.length = i := by omega
      have q3 : i + 1 ≤ l.length + 1 := by omega
      have q4 : i ≤ l.length := by omega
      refine regStart [8] hS (by kernel_rfl) rfl ?_
      intro w1 hS1
      clear hS; have hS := hS1; clear hS1
      (refine regP 0 hS (fun _ h => h) rfl (by kernel_rfl) (by kernel_rfl) (by kernel_rfl) (fun _ _ _ _ h => h) (by rfl) (by rfl) ?_; apply Exists.intro; apply And.intro; (intro w; go_simp; try with_reducible rfl); (simp only [Act.put, List.setIfInBounds_toArray, List.set_cons_zero, List.set_cons_succ]))
      (refine regP 1 hS (fun _ h => h) rfl (by kernel_rfl) (by kernel_rfl) (by kernel_rfl) (fun _ _ _ _ h => h) (by rfl) (by rfl) ?_; apply Exists.intro; apply And.intro; (intro w; go_simp; try with_reducible rfl); (simp only [Act.put, List.setIfInBounds_toArray, List.set_cons_zero, List.set_cons_succ]))
      (refine regP 2 hS (fun _ h => h) rfl (by kernel_rfl) (by kernel_rfl) (by kernel_rfl) (fun _ _ _ _ h => h) (by rfl) (by rfl) ?_; apply Exists.intro; apply And.intro; (intro w; go_simp; try with_reducible rfl); (simp only [Act.put, List.setIfInBounds_toArray, List.set_cons_zero, List.set_cons_succ]))
      (refine regP 3 hS (fun _ h => h) rfl (by kernel_rfl) (by kernel_rfl) (by kernel_rfl) (fun _ _ _ _ h => h) (by rfl) (by rfl) ?_; apply Exists.intro; apply And.intro; (intro w; go_simp; try with_reducible rfl); (simp only [Act.put, List.setIfInBounds_toArray, List.set_cons_zero, List.set_cons_succ]); try simp (disch := omega) only [IntWalk.i64_in])
      (refine regP 4 hS (fun _ h => h) rfl (by kernel_rfl) (by kernel_rfl) (by kernel_rfl) (fun _ _ _ _ h => h) (by rfl) (by rfl) ?_; apply Exists.intro; apply And.intro; (intro w; first | first | exact rSlcL (lo := i + 1) (by rfl) (by rfl) (by rfl) (by first | omega | (rw [IntWalk.i64_in _ (by omega)]; omega)) (by omega) (by omega) (elOf (by rfl)) w | exact rSlcL (lo := i) (by rfl) (by rfl) (by rfl) (by first | omega | (rw [IntWalk.i64_in _ (by omega)]; omega)) (by omega) (by omega) (elOf (by rfl)) w | (go_simp; try with_reducible rfl)); (simp only [Act.put, List.setIfInBounds_toArray, List.set_cons_zero, List.set_cons_succ]))
      (refine regP 5 hS (fun _ h => h) rfl (by kernel_rfl) (by kernel_rfl) (by kernel_rfl) (fun _ _ _ _ h => h) (by rfl) (by rfl) ?_; apply Exists.intro; apply And.intro; (intro w; go_simp; try with_reducible rfl); (simp only [Act.put, List.setIfInBounds_toArray, List.set_cons_zero, List.set_cons_succ]))
      (refine regP 6 hS (fun _ h => h) rfl (by kernel_rfl) (by kernel_rfl) (by kernel_rfl) (fun _ _ _ _ h => h) (by rfl) (by rfl) ?_; apply Exists.intro; apply And.intro; (intro w; go_simp; try with_reducible rfl); (simp only [Act.put, List.setIfInBounds_toArray, List.set_cons_zero, List.set_cons_succ]))
      (refine regP 7 hS (fun _ h => h) rfl (by kernel_rfl) (by kernel_rfl) (by kernel_rfl) (fun _ _ _ _ h => h) (by rfl) (by rfl) ?_; apply Exists.intro; apply And.intro; (intro w; first | first | exact rSlcL (lo := i + 1) (by rfl) (by rfl) (by rfl) (by first | omega | (rw [IntWalk.i64_in _ (by omega)]; omega)) (by omega) (by omega) (elOf (by rfl)) w | exact rSlcL (lo := i) (by rfl) (by rfl) (by rfl) (by first | omega | (rw [IntWalk.i64_in _ (by omega)]; omega)) (by omega) (by omega) (elOf (by rfl)) w | (go_simp; try with_reducible rfl)); (simp only [Act.put, List.setIfInBounds_toArray, List.set_cons_zero, List.set_cons_succ]))
      (refine regA 8 rfl (by kernel_rfl) (by rfl) (by rfl) true (by kernel_rfl) (fun K hK => ?_); (refine cpSl (m := l.length - i) hS _ _ _ _ (by rfl) _ _ _ _ (Value.slice (some ⟨b', off + i * 1, none⟩) (l.length - i) (l.length - i)) (by rfl) (by rfl) (elOf (by rfl)) (by rfl) Has.z (i + 1) (by omega) (by rw [List.length_append, List.length_append, List.length_take, List.length_drop, HLV.out, iv_length]; simp; omega) (by rw [Nat.mul_one]; exact HRT.out _ hS.drop) (iv_one _) (by omega) ?_; intro w1 hS1; clear hS; have hS := hS1; clear hS1; dsimp only [List.set_cons_zero] at hS); refine hK _ _ _ hS (by first | (intro h; cases h; done) | exact fun _ _ h => h | exact fun _ _ h => h.drop | exact fun _ _ h => h.drop.drop | exact fun _ _ h => h.drop.pull1 | exact fun _ _ h => h.take2 | exact fun _ _ h => h.one Has.z | exact fun _ _ h => h.one (Has.s Has.z) | exact fun _ _ h => h.one (Has.s (Has.s Has.z))) ?_; clear hK K; (simp only [Act.put, List.setIfInBounds_toArray, List.set_cons_zero, List.set_cons_succ]))
      refine regDone (by kernel_rfl) ?_
      go_wp2
      go_ret
      rw [HV.out] at hS
      have hlen : (insAt l i x).length = l.length + 1 := by simp only [insAt, List.length_append, List.length_take, List.length_cons, List.length_drop]; omega
      refine ⟨_, rfl, ?_⟩
      unfold Ir
      rw [hlen, sl_E 0 3]
      exact hS.pull1.drop
/-- Where a number goes in a rising list. -/
def ins (l : List Nat) (x : Nat) : List Nat := insAt l (l.countP (· < x)) x
set_option maxRecDepth 20000 in
theorem with_any {W w : World} {L : List Asrt} {v : Value} {l : List Nat} (hS : Sat W w L) (hr : ∀ w, Sat W w L → Rd w v l.length 1 (iv l)) (hl : l.length ≤ 999999) (hv : l = [] → v = .slice none 0 0) (hs : l.Pairwise (· ≤ ·)) (x : Nat) :
    Calls Try.prog 78 #[v, .int .i64 x] w fun e w' => ∃ v', e = .returned v' ∧ Sat W w' (Ir v' (ins l x) :: L) := by
  have HR := Lib.hid hr
  have HC := Lib.hid hv
  have HS := Lib.hid hs
  have HLE := Lib.hid (List.countP_le_length (p := (· < x)) (l := l))
  clear hr hv hs
  unfold ins
  obtain ⟨i, hi⟩ : ∃ i, l.countP (· < x) = i := ⟨_, rfl⟩
  have HI := Lib.hid hi
  rw [hi]
  rw [hi] at HLE
  clear hi
  go_enter Try.func78, Try.ntmps78
  go_wp2_with (first
    | (go_at_call 106; refine (bsearch_any hS (HR.out _ hS) HS.out (by omega) x).mono ?_; rintro e w1 ⟨fb, rfl, hS1⟩; rw [HI.out]; clear hS; have hS := hS1; clear hS1)
    | (go_at_call 109; refine (clone_any hS HR.out (by omega) HC.out).mono ?_; rintro e w1 ⟨v1, rfl, _, hS1⟩; clear hS; have hS := hS1; clear hS1)
    | (go_at_call 108; refine (clip_any hS).mono ?_; rintro e w1 ⟨v2, rfl, ht, hS1⟩; have HT := Lib.hid ht; clear ht; clear hS; have hS := hS1; clear hS1)
    | (refine toList (by rfl) ?_; refine bsF hS _ _ _ (by rfl) (elOf (by rfl)) [.int .i64 x] (by rfl) (by rfl) (by decide) (by decide) (by simp [Value.cells]) ?_; intro b1 w1 hS1; clear hS; have hS := hS1; clear hS1; rw [sca1 rfl] at hS)
    | (go_at_call 107; refine (insert_any hS.pull1 HT.out (by omega) i x HLE.out b1 (fun w h => h.csRd0 (n := 1) (sz := 1) Has.z (by decide) rfl)).mono ?_; rintro e w1 ⟨v3, rfl, hS1⟩; clear hS; have hS := hS1; clear hS1))
  go_ret
  exact ⟨_, rfl, hS.pull1.drop⟩
end Go.Proofs.Ytapodjhkpahdnaa
