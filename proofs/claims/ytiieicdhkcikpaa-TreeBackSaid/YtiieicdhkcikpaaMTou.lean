/-
  slices.Sort of numbers.
  slices.Compact of numbers; tree.touch.
  Package tree: add, remove.
  Package tree: Make.
  Package tree: Kind, Links, Entries, Drop, Unlink.
-/
import Derived.Test.YtiieicdhkcikpaaTrShelf
import Derived.Test.YtiieicdhkcikpaaMReg
import Derived.WalkLawsBesides
import Derived.Test.YtiieicdhkcikpaaMWlk
import Derived.Test.YtiieicdhkcikpaaMPla
namespace Go.Proofs.Ytiieicdhkcikpaa
open Go.RowKit Go.Sep
set_option linter.unusedSimpArgs false
set_option linter.unusedVariables false
attribute [local irreducible] Go.Oper.wp Go.wpList Go.Calls Go.Code.wp Go.Sep.Reg
def srt (l : List Nat) : List Nat := l.mergeSort fun x y => decide (x ≤ y)
theorem srt_len (l : List Nat) : (srt l).length = l.length := by simp [srt]
theorem ints_iv (l : List Nat) : (l.map fun x : Nat => (x : Int)).map (Value.int .i64) = iv l := by simp [iv]
theorem srt_ints (l : List Nat) : (l.map fun x : Nat => (x : Int)).mergeSort (fun x y => decide (x ≤ y)) = (srt l).map fun x : Nat => (x : Int) := by
  unfold srt
  exact (List.map_mergeSort (f := fun x : Nat => (x : Int)) (r := fun x y => decide (x ≤ y)) (s := fun x y => decide (x ≤ y)) (fun a _ b _ => by simp)).symm
theorem sort_any {W w : World} {L : List Asrt} {v : Value} {l : List Nat} (hS : Sat W w (Ir v l :: L)) (hl : l.length ≤ 1000000) :
    Calls Try.prog 60 #[v] w fun e w' => e = .returned (.tuple #[]) ∧ Sat W w' (Ir v (srt l) :: L) := by
  by_cases h0 : l.length = 0
  · obtain ⟨ao, c, rfl, _⟩ := hS.irShape (k := 0) rfl
    obtain rfl : l = [] := List.eq_nil_of_length_eq_zero h0
    refine (Try.slices_Sort_int_none ao c w).mono fun e w' ⟨h1, h2⟩ => ⟨h1, ?_⟩
    subst h2
    simpa [srt] using hS
  · have hS' := hS
    unfold Ir at hS'
    rcases hS'.slOpen with ⟨_, h1, _⟩ | ⟨E', b, off, cap, pre, rest, rfl, h1, h2, h3, h4, h5, h6⟩
    · exact absurd h1 h0
    · have hz : ((l.map fun x : Nat => (x : Int)).length) = l.length := by simp
      have hH : Go.Sort.Holds (Value.int .i64) w b off (l.map fun x : Nat => (x : Int)).toArray := by
        intro j hj
        have hj' : j < l.length := by simpa using hj
        obtain ⟨y, hy⟩ : ∃ y, l[j]? = some y := ⟨_, List.getElem?_eq_getElem hj'⟩
        have hc := hS'.slCell (k := 0) rfl (iv_at hy)
        have hd : ∀ (A : Array Int), A = (l.map fun x : Nat => (x : Int)).toArray → A[j]! = (y : Int) := fun A hA => by
          subst hA
          rw [getElem!_pos _ j hj]
          have := (List.getElem?_eq_some_iff.1 hy).2
          simp [this]
        rw [hd _ rfl]
        exact hc
      have hblk : b < w.heap.size := by
        obtain ⟨fz, _, h7⟩ := h6.openCs
        exact h7.lt
      have := Try.slices_Sort_int b off cap (l.map fun x : Nat => (x : Int)) w hH hblk (by rw [hz]; omega)
      rw [hz] at this
      refine this.mono fun e w' ⟨h7, n, os, h8⟩ => ⟨h7, ?_⟩
      subst h8
      rw [srt_ints]
      have h9 := ((h6.ahead n).putRow (Value.int .i64) ((srt l).map fun x : Nat => (x : Int)) (by simp [srt_len, iv_length]) h4).grow os
      rw [ints_iv] at h9
      unfold Ir
      rw [srt_len]
      exact Sat.slMk h9 h1 h2 (by simp [iv_length, srt_len]) h4 (by simp [iv_length, srt_len] at h5 ⊢; omega)
end Go.Proofs.Ytiieicdhkcikpaa
namespace Go.Proofs.Ytiieicdhkcikpaa
open Go.RowKit Go.Sep
set_option linter.unusedSimpArgs false
set_option linter.unusedVariables false
attribute [local irreducible] Go.Oper.wp Go.wpList Go.Calls Go.Code.wp Go.Sep.Reg
attribute [local irreducible] IsT IsW
theorem compN_len (s : List Nat) : (compN s).length ≤ s.length := by
  unfold compN
  rw [List.length_map]
  have := List.length_filter_le (keepN s) (List.range s.length)
  simpa using this
theorem comp_any {W w : World} {L : List Asrt} {v : Value} {l : List Nat} (hS : Sat W w (Ir v l :: L)) (hl : l.length ≤ 1000000) :
    Calls Try.prog 61 #[v] w fun e w' => ∃ v', e = .returned v' ∧ Sat W w' (Ir v' (compN l) :: L) := by
  by_cases h0 : l.length = 0
  · obtain ⟨ao, c, rfl, _⟩ := hS.irShape (k := 0) rfl
    obtain rfl : l = [] := List.eq_nil_of_length_eq_zero h0
    refine (Try.slices_Compact_int_empty ao c w).mono fun e w' ⟨h1, h2⟩ => ⟨_, h1, ?_⟩
    subst h2
    exact hS
  · have hS' := hS
    unfold Ir at hS'
    rcases hS'.slOpen with ⟨_, h1, _⟩ | ⟨E', b, off, cap, pre, rest, rfl, h1, h2, h3, h4, h5, h6⟩
    · exact absurd h1 h0
    · have hz : ((l.map fun x : Nat => (x : Int)).length) = l.length := by simp
      have hH : Go.Sort.Holds (Value.int .i64) w b off (l.map fun x : Nat => (x : Int)).toArray := by
        intro j hj
        have hj' : j < l.length := by simpa using hj
        obtain ⟨y, hy⟩ : ∃ y, l[j]? = some y := ⟨_, List.getElem?_eq_getElem hj'⟩
        have hc := hS'.slCell (k := 0) rfl (iv_at hy)
        have hd : ∀ (A : Array Int), A = (l.map fun x : Nat => (x : Int)).toArray → A[j]! = (y : Int) := fun A hA => by
          subst hA
          rw [getElem!_pos _ j hj]
          have := (List.getElem?_eq_some_iff.1 hy).2
          simp [this]
        rw [hd _ rfl]
        exact hc
      have hcm : Go.Lib.compact (l.map fun x : Nat => (x : Int)) = (compN l).map fun x : Nat => (x : Int) := by
        unfold Go.Lib.compact
        rw [hz]; exact comp_ints l
      have hcl := compN_len l
      have := Try.slices_Compact_int b off cap (l.map fun x : Nat => (x : Int)) w hH (by rw [hz]; omega) (by rw [hz]; exact h1)
      rw [hz, hcm, List.length_map] at this
      refine this.mono fun e w' ⟨h7, n, h8⟩ => ⟨_, h7, ?_⟩
      subst h8
      have h9 := (h6.ahead n).putRow (Value.int .i64) (((compN l).map fun x : Nat => (x : Int)) ++ List.replicate (l.length - (compN l).length) 0) (by simp [iv_length]; omega) h4
      rw [List.map_append, ints_iv, List.append_assoc, List.append_assoc, ← List.append_assoc pre] at h9
      unfold Ir
      exact Sat.slMk h9 (by omega) h2 (by simp [iv_length]) h4 (by simp [iv_length] at h5 ⊢; omega)
theorem srt_sorted (l : List Nat) : (srt l).Pairwise (· ≤ ·) := by
  have h := List.pairwise_mergeSort (le := fun x y : Nat => decide (x ≤ y)) (fun a b c h1 h2 => decide_eq_true (Nat.le_trans (of_decide_eq_true h1) (of_decide_eq_true h2))) (fun a b => by
    rcases Nat.le_total a b with h | h
    · simp [h]
    · simp [h]) l
  exact h.imp fun h => of_decide_eq_true h
theorem srt_mem {l : List Nat} {x : Nat} : x ∈ srt l ↔ x ∈ l := List.mem_mergeSort
set_option maxRecDepth 20000 in
theorem ttouch_any {W w : World} {L : List Asrt} {p : Nat} {T : TrD} {v : Value} {l : List Nat} (hS : Sat W w (IsT p T :: Ir v l :: L)) (hl : l.length ≤ 1000) (hx : ∀ x ∈ l, x < 48) :
    Calls Try.prog 36 #[.pointer (some ⟨p, 0, none⟩), v] w fun r w' => r = .returned (.tuple #[]) ∧ Sat W w' (IsT p (T.tch l) :: L) := by
  have HT := Lib.hid (compN_touch (srt_sorted l) (fun x => srt_mem) hx)
  have HSL := Lib.hid (show (srt l).length ≤ 1000000 by rw [srt_len]; omega)
  clear hx
  go_enter Try.func36, Try.ntmps36
  go_wp2_with (first
    | (go_at_call 60; refine (sort_any hS.pull1 (by omega)).mono ?_; rintro r w1 ⟨rfl, hS1⟩; clear hS; have hS := hS1; clear hS1)
    | (go_at_call 61; refine (comp_any hS HSL.out).mono ?_; rintro r w1 ⟨v', rfl, hS1⟩; clear hS; have hS := hS1; clear hS1; rw [HT.out] at hS; obtain ⟨ao, c, rfl, _⟩ := hS.irShape (k := 0) rfl; obtain ⟨v1, vt1, hO⟩ := IsT.open hS.pull1; clear hS; have hS := hO; clear hO)
    | (refine toList (by rfl) ?_; refine st hS _ _ _ (by rfl) _ _ (by rfl) _ (by first | exact evC | exact evT (by rfl)) (by rfl) (szOf (by rfl)) Has.z (by rw [tl_len]; decide) ?_; intro w1 hS1; clear hS; have hS := hS1; clear hS1; simp only [List.set_cons_zero] at hS; rw [tl_setT] at hS))
  go_end0
  exact ⟨rfl, IsT.mk (T := T.tch l) (v := v1) ((hS.re [2]).drop.re [0, 1, 2])⟩
end Go.Proofs.Ytiieicdhkcikpaa
namespace Go.Proofs.Ytiieicdhkcikpaa
open Go.RowKit Go.Sep
set_option linter.unusedSimpArgs false
set_option linter.unusedVariables false
attribute [local irreducible] Go.Oper.wp Go.wpList Go.Calls Go.Code.wp Go.Sep.Reg
attribute [local irreducible] IsT IsW
def TrD.addT (T : TrD) (d i : Nat) (n : List UInt8) : TrD := if addC (T.dir d) ⟨n, i⟩ = 0 then T.put d i n else T
theorem addC_zero {l : List EntD} {e : EntD} (h : addC l e = 0) : entOk e = true ∧ hasE l e.nm = false ∧ l.length < 64 := by
  unfold addC at h
  split at h
  · rename_i h1
    split at h
    · cases h
    · rename_i h2
      split at h
      · cases h
      · exact ⟨h1, by simpa using h2, by omega⟩
  · cases h
set_option maxRecDepth 20000 in
set_option maxHeartbeats 1000000 in
theorem tadd_any {W w : World} {L : List Asrt} {p : Nat} {T : TrD} (hS : Sat W w (IsT p T :: L)) (hT : T.Ok) {d i : Nat} (hd : d < 48) (n : List UInt8) :
    Calls Try.prog 35 #[.pointer (some ⟨p, 0, none⟩), .int .i64 (d : Int), sv n, .int .i64 (i : Int)] w fun r w' => r = .returned (.int .i64 (addC (T.dir d) ⟨n, i⟩)) ∧ Sat W w' (IsT p (T.addT d i n) :: L) := by
  obtain ⟨v, vt, hO⟩ := IsT.open hS
  clear hS
  have hS := hO
  clear hO
  have k1 : (d : Int) < 48 := by omega
  obtain ⟨ao1, c1, hv, _⟩ := rws_shape hS (k := 1) rfl hd
  have hlen := hT.len _ (hT.dir_mem hd)
  have HA := Lib.hid (fun w (h : Sat W w (Cs p 69 (tl T.kind T.lnk v vt) :: rws v T.dir :: Ir vt T.last :: L)) => dadd_any h (T.dir d) ao1 c1 ⟨n, i⟩ (fun w h => by rw [← hv]; exact rws_rd h (k := 1) rfl hd) (by omega) (hT.srt _ (hT.dir_mem hd)))
  unfold TrD.addT
  by_cases h0 : addC (T.dir d) ⟨n, i⟩ = 0
  · obtain ⟨hok, hno, h64⟩ := addC_zero h0
    unfold entOk at hok
    simp only [Bool.and_eq_true, decide_eq_true_eq] at hok
    have hi1 : 1 ≤ i := by omega
    have hi48 : i < 48 := by omega
    have HV := Lib.hid (show addV (T.dir d) ⟨n, i⟩ = insE (T.dir d) ⟨n, i⟩ by unfold addV; rw [if_pos h0])
    have HIL := Lib.hid (show (insE (T.dir d) ⟨n, i⟩).length ≤ 64 by
      have := (hT.put (i := i) (n := n) hd hok.1.1 hi1 hi48 hno h64).len (insE (T.dir d) ⟨n, i⟩) (by
        show insE (T.dir d) ⟨n, i⟩ ∈ T.dirs.set d (insE (T.dir d) ⟨n, i⟩)
        exact List.mem_of_getElem? (i := d) (by rw [List.getElem?_set, if_pos rfl, if_pos (by rw [hT.dl]; exact hd)]))
      exact this)
    have HPD := Lib.hid (TrD.put_dir hT hd i n)
    have HPL := Lib.hid (TrD.put_lnk (n := n) hT hd hi1)
    have k2 : (i : Int) < 48 := by omega
    have hlk : 0 ≤ T.lnk i ∧ T.lnk i ≤ 3072 := by
      have := TrD.links_le hT i
      unfold TrD.lnk; omega
    obtain ⟨nn, hnn⟩ : ∃ nn, T.lnk i = nn := ⟨_, rfl⟩
    rw [hnn] at hlk
    rw [hnn] at HPL
    obtain ⟨g1, g2⟩ := hlk
    rw [h0] at HA ⊢
    rw [if_pos rfl]
    clear h0 hok hno h64 hT
    unfold sv
    go_enter Try.func35, Try.ntmps35
    go_wp2_with (first
      | (refine toList (by rfl) ?_; refine ld hS _ _ (by rfl) _ _ (by rfl) (agOf (by rfl)) Has.z (tl_at (i := d) (j := 2) (u := .slice ao1 (T.dir d).length c1) hd (by omega) (by rw [← hv]; rfl)) ?_)
      | (go_at_call 59; refine (HA.out _ hS).mono ?_; rintro r w1 ⟨v', rfl, hS1⟩; clear hS; have hS := hS1; clear hS1; rw [HV.out] at hS; obtain ⟨ao2, c2, rfl, _⟩ := Sat.tbShape (k := 0) (show Sat _ _ (Tb 59 2 ev2 v' (insE (T.dir d) ⟨n, i⟩) :: _) from hS) rfl; replace hS := hS.pull1)
      | (refine toList (by rfl) ?_; refine st hS _ _ _ (by rfl) _ _ (by rfl) _ (by first | exact evC | exact evT (by rfl)) (by rfl) (szOf (by rfl)) Has.z (by rw [tl_len]; omega) ?_; intro w1 hS1; clear hS; have hS := hS1; clear hS1; simp only [List.set_cons_zero] at hS; rw [tl_setV _ hd (by omega)] at hS))
    refine regStart [12] hS (by kernel_rfl) rfl ?_
    intro w1 hS1
    clear hS; have hS := hS1; clear hS1
    (refine regP 0 hS (fun _ h => h) rfl (by kernel_rfl) (by kernel_rfl) (by kernel_rfl) (fun _ _ _ _ h => h) (by rfl) (by rfl) ?_; apply Exists.intro; apply And.intro; (intro w; go_simp; try with_reducible rfl); go_frame)
    (refine regP 1 hS (fun _ h => h) rfl (by kernel_rfl) (by kernel_rfl) (by kernel_rfl) (fun _ _ _ _ h => h) (by rfl) (by rfl) ?_; apply Exists.intro; apply And.intro; (intro w; go_simp; try with_reducible rfl); go_frame)
    (refine regP 2 hS (fun _ h => h) rfl (by kernel_rfl) (by kernel_rfl) (by kernel_rfl) (fun _ _ _ _ h => h) (by rfl) (by rfl) ?_; apply Exists.intro; apply And.intro; (intro w; go_simp; try with_reducible rfl); go_frame)
    (refine regP 3 hS (fun _ h => h) rfl (by kernel_rfl) (by kernel_rfl) (by kernel_rfl) (fun _ _ _ _ h => h) (by rfl) (by rfl) ?_; apply Exists.intro; apply And.intro; (intro w; go_simp; try with_reducible rfl); go_frame)
    (refine regP 4 hS (fun _ h => h) rfl (by kernel_rfl) (by kernel_rfl) (by kernel_rfl) (fun _ _ _ _ h => h) (by rfl) (by rfl) ?_; apply Exists.intro; apply And.intro; (intro w; go_simp; try with_reducible rfl); go_frame)
    (refine regP 5 hS (fun _ h => h) rfl (by kernel_rfl) (by kernel_rfl) (by kernel_rfl) (fun _ _ _ _ h => h) (by rfl) (by rfl) ?_; apply Exists.intro; apply And.intro; (intro w; go_simp; try with_reducible rfl); go_frame)
    (refine regR 6 hS (fun _ h => h) rfl (by kernel_rfl) (by kernel_rfl) (by kernel_rfl) (by kernel_rfl) (by kernel_rfl) (fun _ _ _ _ h => h) (by rfl) (by rfl) ?_; (refine ⟨.int .i64 nn, yLd _ _ (by rfl) _ _ (by rfl) (agOf (by rfl)) Has.z (tl_at (i := i) (j := 1) (u := .int .i64 nn) hi48 (by omega) (by rw [← hnn]; rfl)), ?_⟩); go_frame)
    (refine regP 7 hS (fun _ h => h) rfl (by kernel_rfl) (by kernel_rfl) (by kernel_rfl) (fun _ _ _ _ h => h) (by rfl) (by rfl) ?_; apply Exists.intro; apply And.intro; (intro w; go_simp; try with_reducible rfl); go_frame; try simp (disch := omega) only [IntWalk.i64_in])
    (refine regP 8 hS (fun _ h => h) rfl (by kernel_rfl) (by kernel_rfl) (by kernel_rfl) (fun _ _ _ _ h => h) (by rfl) (by rfl) ?_; apply Exists.intro; apply And.intro; (intro w; go_simp; try with_reducible rfl); go_frame)
    (refine regP 9 hS (fun _ h => h) rfl (by kernel_rfl) (by kernel_rfl) (by kernel_rfl) (fun _ _ _ _ h => h) (by rfl) (by rfl) ?_; apply Exists.intro; apply And.intro; (intro w; go_simp; try with_reducible rfl); go_frame)
    (refine regP 10 hS (fun _ h => h) rfl (by kernel_rfl) (by kernel_rfl) (by kernel_rfl) (fun _ _ _ _ h => h) (by rfl) (by rfl) ?_; apply Exists.intro; apply And.intro; (intro w; go_simp; try with_reducible rfl); go_frame)
    (refine regP 11 hS (fun _ h => h) rfl (by kernel_rfl) (by kernel_rfl) (by kernel_rfl) (fun _ _ _ _ h => h) (by rfl) (by rfl) ?_; apply Exists.intro; apply And.intro; (intro w; go_simp; try with_reducible rfl); go_frame)
    (refine regA 12 rfl (by kernel_rfl) (by rfl) (by rfl) true (by kernel_rfl) (fun K hK => ?_); (refine st hS _ _ _ (by rfl) _ _ (by rfl) _ (by first | exact evC | exact evT (by rfl)) (by rfl) (szOf (by rfl)) Has.z (by rw [tl_len]; omega) ?_; intro w1 hS1; clear hS; have hS := hS1; clear hS1; simp only [List.set_cons_zero] at hS; rw [tl_setN _ hi48 (by omega)] at hS); refine hK _ _ _ hS (by first | (intro h; cases h; done) | exact fun _ _ h => h | exact fun _ _ h => h.drop | exact fun _ _ h => h.drop.drop | exact fun _ _ h => h.drop.pull1 | exact fun _ _ h => h.take2 | exact fun _ _ h => h.one Has.z | exact fun _ _ h => h.one (Has.s Has.z) | exact fun _ _ h => h.one (Has.s (Has.s Has.z))) ?_; clear hK K; go_frame)
    refine regDone (by kernel_rfl) ?_
    go_wp2
    go_ret
    refine ⟨rfl, ?_⟩
    have h9 := rws_put (hS.re [1, 2]) hd
    refine IsT.mk (T := T.put d i n) (v := upd v d (.slice ao2 (insE (T.dir d) ⟨n, (i : Int)⟩).length c2)) (vt := vt) ?_
    rw [HPL.out, HPD.out]
    exact h9.re [1, 0]
  · obtain ⟨cc, hcc⟩ : ∃ cc, addC (T.dir d) ⟨n, i⟩ = cc := ⟨_, rfl⟩
    rw [if_neg h0]
    rw [hcc] at h0 HA ⊢
    have e1 : (cc == 0) = false := beq_eq_false_iff_ne.2 h0
    clear h0 hcc hT
    unfold sv
    go_enter Try.func35, Try.ntmps35
    go_wp2_with (first
      | (refine toList (by rfl) ?_; refine ld hS _ _ (by rfl) _ _ (by rfl) (agOf (by rfl)) Has.z (tl_at (i := d) (j := 2) (u := .slice ao1 (T.dir d).length c1) hd (by omega) (by rw [← hv]; rfl)) ?_)
      | (go_at_call 59; refine (HA.out _ hS).mono ?_; rintro r w1 ⟨v', rfl, hS1⟩; clear hS; have hS := hS1; clear hS1))
    go_ret
    exact ⟨rfl, IsT.mk hS.drop⟩
set_option maxRecDepth 20000 in
set_option maxHeartbeats 1000000 in
theorem tremove_any {W w : World} {L : List Asrt} {p : Nat} {T : TrD} (hS : Sat W w (IsT p T :: L)) (hT : T.Ok) {d i : Nat} (hd : d < 48) {n : List UInt8} (hf : findE (T.dir d) n = some (i : Int)) :
    Calls Try.prog 37 #[.pointer (some ⟨p, 0, none⟩), .int .i64 (d : Int), sv n] w fun r w' => r = .returned (.int .i64 (i : Int)) ∧ Sat W w' (IsT p (T.del d n) :: L) := by
  obtain ⟨v, vt, hO⟩ := IsT.open hS
  clear hS
  have hS := hO
  clear hO
  have k1 : (d : Int) < 48 := by omega
  obtain ⟨ao1, c1, hv, _⟩ := rws_shape hS (k := 1) rfl hd
  have hlen := hT.len _ (hT.dir_mem hd)
  obtain ⟨_, j1, j2⟩ := hT.find_ino hd hf
  have hi48 : i < 48 := by omega
  have k2 : (i : Int) < 48 := by omega
  have hh : hasE (T.dir d) n = true := by rw [← findE_some, hf]; rfl
  have HF := Lib.hid (fun w (h : Sat W w (Cs p 69 (tl T.kind T.lnk v vt) :: rws v T.dir :: Ir vt T.last :: L)) => by have := find_any h (T.dir d) ao1 c1 n (fun w h => by rw [← hv]; exact rws_rd h (k := 1) rfl hd) (by omega); rw [hf, hh] at this; exact this)
  have HA := Lib.hid (fun w (h : Sat W w (Cs p 69 (tl T.kind T.lnk v vt) :: rws v T.dir :: Ir vt T.last :: L)) => by have := dremove_any h (T.dir d) ao1 c1 n (fun w h => by rw [← hv]; exact rws_rd h (k := 1) rfl hd) (by omega) (hT.srt _ (hT.dir_mem hd)); unfold remV at this; rw [hh, if_pos rfl, if_pos rfl] at this; exact this)
  have HPD := Lib.hid (TrD.del_dir' hT hd n)
  have HPL := Lib.hid (TrD.del_lnk hT hd hf)
  have hlk : 0 ≤ T.lnk i ∧ T.lnk i ≤ 3072 := by
    have := TrD.links_le hT i
    unfold TrD.lnk; omega
  obtain ⟨nn, hnn⟩ : ∃ nn, T.lnk i = nn := ⟨_, rfl⟩
  rw [hnn] at hlk
  rw [hnn] at HPL
  obtain ⟨g1, g2⟩ := hlk
  clear hT hf hh j1 j2
  unfold sv
  go_enter Try.func37, Try.ntmps37
  go_wp2_with (first
    | (refine toList (by rfl) ?_; refine ld hS _ _ (by rfl) _ _ (by rfl) (agOf (by rfl)) Has.z (tl_at (i := d) (j := 2) (u := .slice ao1 (T.dir d).length c1) hd (by omega) (by rw [← hv]; rfl)) ?_)
    | (go_at_call 34; refine (HF.out _ hS).mono ?_; rintro r w1 ⟨rfl, hS1⟩; clear hS; have hS := hS1; clear hS1))
  refine regStart [10, 18] hS (by kernel_rfl) rfl ?_
  intro w1 hS1
  clear hS; have hS := hS1; clear hS1
  (refine regP 0 hS (fun _ h => h) rfl (by kernel_rfl) (by kernel_rfl) (by kernel_rfl) (fun _ _ _ _ h => h) (by rfl) (by rfl) ?_; apply Exists.intro; apply And.intro; (intro w; go_simp; try with_reducible rfl); go_frame)
  (refine regP 1 hS (fun _ h => h) rfl (by kernel_rfl) (by kernel_rfl) (by kernel_rfl) (fun _ _ _ _ h => h) (by rfl) (by rfl) ?_; apply Exists.intro; apply And.intro; (intro w; go_simp; try with_reducible rfl); go_frame)
  (refine regP 2 hS (fun _ h => h) rfl (by kernel_rfl) (by kernel_rfl) (by kernel_rfl) (fun _ _ _ _ h => h) (by rfl) (by rfl) ?_; apply Exists.intro; apply And.intro; (intro w; go_simp; try with_reducible rfl); go_frame)
  (refine regP 3 hS (fun _ h => h) rfl (by kernel_rfl) (by kernel_rfl) (by kernel_rfl) (fun _ _ _ _ h => h) (by rfl) (by rfl) ?_; apply Exists.intro; apply And.intro; (intro w; go_simp; try with_reducible rfl); go_frame)
  (refine regP 4 hS (fun _ h => h) rfl (by kernel_rfl) (by kernel_rfl) (by kernel_rfl) (fun _ _ _ _ h => h) (by rfl) (by rfl) ?_; apply Exists.intro; apply And.intro; (intro w; go_simp; try with_reducible rfl); go_frame)
  (refine regP 5 hS (fun _ h => h) rfl (by kernel_rfl) (by kernel_rfl) (by kernel_rfl) (fun _ _ _ _ h => h) (by rfl) (by rfl) ?_; apply Exists.intro; apply And.intro; (intro w; go_simp; try with_reducible rfl); go_frame)
  (refine regP 6 hS (fun _ h => h) rfl (by kernel_rfl) (by kernel_rfl) (by kernel_rfl) (fun _ _ _ _ h => h) (by rfl) (by rfl) ?_; apply Exists.intro; apply And.intro; (intro w; go_simp; try with_reducible rfl); go_frame)
  (refine regP 7 hS (fun _ h => h) rfl (by kernel_rfl) (by kernel_rfl) (by kernel_rfl) (fun _ _ _ _ h => h) (by rfl) (by rfl) ?_; apply Exists.intro; apply And.intro; (intro w; go_simp; try with_reducible rfl); go_frame)
  (refine regR 8 hS (fun _ h => h) rfl (by kernel_rfl) (by kernel_rfl) (by kernel_rfl) (by kernel_rfl) (by kernel_rfl) (fun _ _ _ _ h => h) (by rfl) (by rfl) ?_; (refine ⟨.slice ao1 (T.dir d).length c1, yLd _ _ (by rfl) _ _ (by rfl) (agOf (by rfl)) Has.z (tl_at (i := d) (j := 2) (u := .slice ao1 (T.dir d).length c1) hd (by omega) (by rw [← hv]; rfl)), ?_⟩); go_frame)
  (refine regP 9 hS (fun _ h => h) rfl (by kernel_rfl) (by kernel_rfl) (by kernel_rfl) (fun _ _ _ _ h => h) (by rfl) (by rfl) ?_; apply Exists.intro; apply And.intro; (intro w; go_simp; try with_reducible rfl); go_frame)
  (refine regP 14 hS (fun _ h => h) rfl (by kernel_rfl) (by kernel_rfl) (by kernel_rfl) (fun _ _ _ _ h => h) (by rfl) (by rfl) ?_; apply Exists.intro; apply And.intro; (intro w; go_simp; try with_reducible rfl); go_frame)
  (refine regP 15 hS (fun _ h => h) rfl (by kernel_rfl) (by kernel_rfl) (by kernel_rfl) (fun _ _ _ _ h => h) (by rfl) (by rfl) ?_; apply Exists.intro; apply And.intro; (intro w; go_simp; try with_reducible rfl); go_frame)
  (refine regA 10 rfl (by kernel_rfl) (by rfl) (by rfl) true (by kernel_rfl) (fun K hK => ?_); (first
        | (refine Go.Sep.cl 62 _ _ (by rfl) (by rfl) (by kernel_rfl) (HA.out _ hS) ?_; rintro r w1 ⟨v', rfl, hS1⟩; clear hS; have hS := hS1; clear hS1; obtain ⟨ao2, c2, rfl, _⟩ := Sat.tbShape (k := 0) (show Sat _ _ (Tb 59 2 ev2 v' (remE (T.dir d) n) :: _) from hS) rfl; replace hS := hS.pull1; refine ⟨_, rfl, ?_⟩)
        | (refine st hS _ _ _ (by rfl) _ _ (by rfl) _ (by first | exact evC | exact evT (by rfl)) (by rfl) (szOf (by rfl)) Has.z (by rw [tl_len]; omega) ?_; intro w1 hS1; clear hS; have hS := hS1; clear hS1; simp only [List.set_cons_zero] at hS; rw [tl_setV _ hd (by omega)] at hS)); refine hK _ _ _ hS (by first | (intro h; cases h; done) | exact fun _ _ h => h | exact fun _ _ h => h.drop | exact fun _ _ h => h.drop.drop | exact fun _ _ h => h.drop.pull1 | exact fun _ _ h => h.take2 | exact fun _ _ h => h.one Has.z | exact fun _ _ h => h.one (Has.s Has.z) | exact fun _ _ h => h.one (Has.s (Has.s Has.z))) ?_; clear hK K; go_frame)
  (refine regP 11 hS (fun _ h => h) rfl (by kernel_rfl) (by kernel_rfl) (by kernel_rfl) (fun _ _ _ _ h => h) (by rfl) (by rfl) ?_; apply Exists.intro; apply And.intro; (intro w; go_simp; try with_reducible rfl); go_frame)
  (refine regP 12 hS (fun _ h => h) rfl (by kernel_rfl) (by kernel_rfl) (by kernel_rfl) (fun _ _ _ _ h => h) (by rfl) (by rfl) ?_; apply Exists.intro; apply And.intro; (intro w; go_simp; try with_reducible rfl); go_frame)
  (refine regP 13 hS (fun _ h => h) rfl (by kernel_rfl) (by kernel_rfl) (by kernel_rfl) (fun _ _ _ _ h => h) (by rfl) (by rfl) ?_; apply Exists.intro; apply And.intro; (intro w; go_simp; try with_reducible rfl); go_frame)
  (refine regP 16 hS (fun _ h => h) rfl (by kernel_rfl) (by kernel_rfl) (by kernel_rfl) (fun _ _ _ _ h => h) (by rfl) (by rfl) ?_; apply Exists.intro; apply And.intro; (intro w; go_simp; try with_reducible rfl); go_frame)
  (refine regP 17 hS (fun _ h => h) rfl (by kernel_rfl) (by kernel_rfl) (by kernel_rfl) (fun _ _ _ _ h => h) (by rfl) (by rfl) ?_; apply Exists.intro; apply And.intro; (intro w; go_simp; try with_reducible rfl); go_frame)
  (refine regA 18 rfl (by kernel_rfl) (by rfl) (by rfl) true (by kernel_rfl) (fun K hK => ?_); (first
        | (refine Go.Sep.cl 62 _ _ (by rfl) (by rfl) (by kernel_rfl) (HA.out _ hS) ?_; rintro r w1 ⟨v', rfl, hS1⟩; clear hS; have hS := hS1; clear hS1; obtain ⟨ao2, c2, rfl, _⟩ := Sat.tbShape (k := 0) (show Sat _ _ (Tb 59 2 ev2 v' (remE (T.dir d) n) :: _) from hS) rfl; replace hS := hS.pull1; refine ⟨_, rfl, ?_⟩)
        | (refine st hS _ _ _ (by rfl) _ _ (by rfl) _ (by first | exact evC | exact evT (by rfl)) (by rfl) (szOf (by rfl)) Has.z (by rw [tl_len]; omega) ?_; intro w1 hS1; clear hS; have hS := hS1; clear hS1; simp only [List.set_cons_zero] at hS; rw [tl_setV _ hd (by omega)] at hS)); refine hK _ _ _ hS (by first | (intro h; cases h; done) | exact fun _ _ h => h | exact fun _ _ h => h.drop | exact fun _ _ h => h.drop.drop | exact fun _ _ h => h.drop.pull1 | exact fun _ _ h => h.take2 | exact fun _ _ h => h.one Has.z | exact fun _ _ h => h.one (Has.s Has.z) | exact fun _ _ h => h.one (Has.s (Has.s Has.z))) ?_; clear hK K; go_frame)
  refine regDone (by kernel_rfl) ?_
  go_wp2
  refine regStart [12] hS (by kernel_rfl) rfl ?_
  intro w1 hS1
  clear hS; have hS := hS1; clear hS1
  (refine regP 0 hS (fun _ h => h) rfl (by kernel_rfl) (by kernel_rfl) (by kernel_rfl) (fun _ _ _ _ h => h) (by rfl) (by rfl) ?_; apply Exists.intro; apply And.intro; (intro w; go_simp; try with_reducible rfl); go_frame)
  (refine regP 1 hS (fun _ h => h) rfl (by kernel_rfl) (by kernel_rfl) (by kernel_rfl) (fun _ _ _ _ h => h) (by rfl) (by rfl) ?_; apply Exists.intro; apply And.intro; (intro w; go_simp; try with_reducible rfl); go_frame)
  (refine regP 2 hS (fun _ h => h) rfl (by kernel_rfl) (by kernel_rfl) (by kernel_rfl) (fun _ _ _ _ h => h) (by rfl) (by rfl) ?_; apply Exists.intro; apply And.intro; (intro w; go_simp; try with_reducible rfl); go_frame)
  (refine regP 3 hS (fun _ h => h) rfl (by kernel_rfl) (by kernel_rfl) (by kernel_rfl) (fun _ _ _ _ h => h) (by rfl) (by rfl) ?_; apply Exists.intro; apply And.intro; (intro w; go_simp; try with_reducible rfl); go_frame)
  (refine regP 4 hS (fun _ h => h) rfl (by kernel_rfl) (by kernel_rfl) (by kernel_rfl) (fun _ _ _ _ h => h) (by rfl) (by rfl) ?_; apply Exists.intro; apply And.intro; (intro w; go_simp; try with_reducible rfl); go_frame)
  (refine regP 5 hS (fun _ h => h) rfl (by kernel_rfl) (by kernel_rfl) (by kernel_rfl) (fun _ _ _ _ h => h) (by rfl) (by rfl) ?_; apply Exists.intro; apply And.intro; (intro w; go_simp; try with_reducible rfl); go_frame)
  (refine regR 6 hS (fun _ h => h) rfl (by kernel_rfl) (by kernel_rfl) (by kernel_rfl) (by kernel_rfl) (by kernel_rfl) (fun _ _ _ _ h => h) (by rfl) (by rfl) ?_; (refine ⟨.int .i64 nn, yLd _ _ (by rfl) _ _ (by rfl) (agOf (by rfl)) Has.z (tl_at (i := i) (j := 1) (u := .int .i64 nn) hi48 (by omega) (by rw [← hnn]; rfl)), ?_⟩); go_frame)
  (refine regP 7 hS (fun _ h => h) rfl (by kernel_rfl) (by kernel_rfl) (by kernel_rfl) (fun _ _ _ _ h => h) (by rfl) (by rfl) ?_; apply Exists.intro; apply And.intro; (intro w; go_simp; try with_reducible rfl); go_frame; try simp (disch := omega) only [IntWalk.i64_in])
  (refine regP 8 hS (fun _ h => h) rfl (by kernel_rfl) (by kernel_rfl) (by kernel_rfl) (fun _ _ _ _ h => h) (by rfl) (by rfl) ?_; apply Exists.intro; apply And.intro; (intro w; go_simp; try with_reducible rfl); go_frame)
  (refine regP 9 hS (fun _ h => h) rfl (by kernel_rfl) (by kernel_rfl) (by kernel_rfl) (fun _ _ _ _ h => h) (by rfl) (by rfl) ?_; apply Exists.intro; apply And.intro; (intro w; go_simp; try with_reducible rfl); go_frame)
  (refine regP 10 hS (fun _ h => h) rfl (by kernel_rfl) (by kernel_rfl) (by kernel_rfl) (fun _ _ _ _ h => h) (by rfl) (by rfl) ?_; apply Exists.intro; apply And.intro; (intro w; go_simp; try with_reducible rfl); go_frame)
  (refine regP 11 hS (fun _ h => h) rfl (by kernel_rfl) (by kernel_rfl) (by kernel_rfl) (fun _ _ _ _ h => h) (by rfl) (by rfl) ?_; apply Exists.intro; apply And.intro; (intro w; go_simp; try with_reducible rfl); go_frame)
  (refine regA 12 rfl (by kernel_rfl) (by rfl) (by rfl) true (by kernel_rfl) (fun K hK => ?_); (refine st hS _ _ _ (by rfl) _ _ (by rfl) _ (by first | exact evC | exact evT (by rfl)) (by rfl) (szOf (by rfl)) Has.z (by rw [tl_len]; omega) ?_; intro w1 hS1; clear hS; have hS := hS1; clear hS1; simp only [List.set_cons_zero] at hS; rw [tl_setN _ hi48 (by omega)] at hS); refine hK _ _ _ hS (by first | (intro h; cases h; done) | exact fun _ _ h => h | exact fun _ _ h => h.drop | exact fun _ _ h => h.drop.drop | exact fun _ _ h => h.drop.pull1 | exact fun _ _ h => h.take2 | exact fun _ _ h => h.one Has.z | exact fun _ _ h => h.one (Has.s Has.z) | exact fun _ _ h => h.one (Has.s (Has.s Has.z))) ?_; clear hK K; go_frame)
  refine regDone (by kernel_rfl) ?_
  go_wp2
  go_ret
  refine ⟨rfl, ?_⟩
  have h9 := rws_put (hS.re [1, 2]) hd
  refine IsT.mk (T := T.del d n) (v := upd v d (.slice ao2 (remE (T.dir d) n).length c2)) (vt := vt) ?_
  rw [HPL.out, HPD.out]
  exact h9.re [1, 0]
end Go.Proofs.Ytiieicdhkcikpaa
namespace Go.Proofs.Ytiieicdhkcikpaa
open Go.RowKit Go.Sep
set_option linter.unusedSimpArgs false
set_option linter.unusedVariables false
attribute [local irreducible] Go.Oper.wp Go.wpList Go.Calls Go.Code.wp Go.Sep.Reg
attribute [local irreducible] IsT IsW
theorem csIr {W w : World} {L : List Asrt} {b E : Nat} {l : List Nat} (hl : l.length ≤ 1000) (h : Sat W w (Cs b E (iv l) :: L)) : Sat W w (Ir (.slice (some ⟨b, 0, none⟩) l.length l.length) l :: L) := by
  unfold Ir
  exact Sat.slMk (pre := []) (rest := []) (by simpa using h) (Nat.le_refl _) (by omega) (by simp [iv_length]) rfl (by simp [iv_length])
set_option maxRecDepth 20000 in
set_option maxHeartbeats 2000000 in
theorem tmake_any {W w : World} {L : List Asrt} {p : Nat} {T : TrD} (hS : Sat W w (IsT p T :: L)) (hT : T.Ok) (l : List (List UInt8)) (ao : Option Addr) (c : Nat) (hr : ∀ w L', Sat W w (L' ++ L) → Rd w (.slice ao l.length c) l.length 1 (l.flatMap sv1)) (hl : l.length ≤ 1000000) (k : Int) :
    Calls Try.prog 11 #[.pointer (some ⟨p, 0, none⟩), .slice ao l.length c, .int .i64 k] w fun r w' => r = .returned (.tuple #[.int .i64 (T.mkI l k : Nat), .int .i64 (T.mkE l k)]) ∧ Sat W w' (IsT p (T.mk' l k) :: L) := by
  have HPL := Lib.hid (fun w (h : Sat W w (IsT p T :: L)) => tplace_any h hT l ao c hr hl)
  have HT := Lib.hid hT
  clear hr hT
  by_cases hk : k = 1 ∨ k = 2
  · by_cases hp : T.pE l = 0
    · obtain ⟨hne, hn, hd, hkd, _⟩ := HT.out.pE_zero hp
      have HP := Lib.hid (fun w (h : Sat W w (IsT p T :: L)) => (show Calls Try.prog 33 #[.pointer (some ⟨p, 0, none⟩), .slice ao l.length c] w fun r w' => r = .returned (.tuple #[.int .i64 (T.pD l : Nat), sv (TrD.lastN l), .int .i64 0]) ∧ Sat W w' (IsT p T :: L) from
        (HPL.out w h).mono fun r w' ⟨dd, nm, h1, h2, h3⟩ => by obtain ⟨rfl, rfl⟩ := h2 hp; rw [hp] at h1; exact ⟨h1, h3⟩))
      have hlen := HT.out.len _ (HT.out.dir_mem hd)
      have HE0 := Lib.hid (show T.mkE l k = if hasE (T.dir (T.pD l)) (TrD.lastN l) = true then 6 else if T.free = none then 5 else if 64 ≤ (T.dir (T.pD l)).length then 5 else 0 by unfold TrD.mkE; rw [if_pos hk, if_pos hp])
      have HM0 := Lib.hid (show T.mkI l k = if T.mkE l k = 0 then T.free.getD 0 else 0 from rfl)
      have HM1 := Lib.hid (show T.mk' l k = if T.mkE l k = 0 then ((T.put (T.pD l) (T.mkI l k) (TrD.lastN l)).setK (T.mkI l k) k).tch [T.pD l, T.mkI l k] else T from rfl)
      have HZ := Lib.hid (fun h0 : T.mkE l k = 0 => TrD.mkE_zero h0 HT.out)
      obtain ⟨d, hdd⟩ : ∃ d, T.pD l = d := ⟨_, rfl⟩
      obtain ⟨n, hnn⟩ : ∃ n, TrD.lastN l = n := ⟨_, rfl⟩
      rw [hdd] at HP HE0 HM1 HZ hd hlen
      rw [hnn] at HP HE0 HM1 HZ hn
      have HFI := Lib.hid (fun w (L' : List Asrt) ao1 c1 (h : Sat W w L') (hr : ∀ w, Sat W w L' → Rd w (.slice ao1 (T.dir d).length c1) (T.dir d).length 2 ((T.dir d).flatMap ev2)) => find_any h (T.dir d) ao1 c1 n hr (by omega))
      have HFR := Lib.hid (fun w (h : Sat W w (IsT p T :: L)) => tfree_any h HT.out)
      have k1 : (d : Int) < 48 := by omega
      have hkk : (k != 1) = false ∨ ((k != 1) = true ∧ (k != 2) = false) := by
        rcases hk with rfl | rfl
        · exact .inl rfl
        · exact .inr ⟨rfl, rfl⟩
      clear hdd hnn hp hkd hne HPL
      cases hh : hasE (T.dir d) n with
      | true =>
        have hE : T.mkE l k = 6 := by rw [HE0.out, hh, if_pos rfl]
        rw [HM1.out, HM0.out, hE, if_neg (by decide), if_neg (by decide)]
        rw [hh] at HFI
        clear hE hh hk
        rcases hkk with q1 | ⟨q1, q2⟩
        all_goals
          go_enter Try.func11, Try.ntmps11
          go_wp2_with (first
            | (go_at_call 33; refine (HP.out _ hS).mono ?_; rintro r w1 ⟨rfl, hS1⟩; clear hS; have hS := hS1; clear hS1)
            | (go_at_call 12; refine (HFR.out _ hS).mono ?_; rintro r w1 ⟨rfl, hS1⟩; clear hS; have hS := hS1; clear hS1; obtain ⟨v, vt, hO⟩ := IsT.open hS; clear hS; have hS := hO; clear hO; obtain ⟨ao1, c1, hv, _⟩ := rws_shape hS (k := 1) rfl hd)
            | (refine toList (by rfl) ?_; refine ld hS _ _ (by rfl) _ _ (by rfl) (agOf (by rfl)) Has.z (tl_at (i := d) (j := 2) (u := .slice ao1 (T.dir d).length c1) hd (by omega) (by rw [← hv]; rfl)) ?_)
            | (go_at_call 34; refine (HFI.out _ _ ao1 c1 hS (fun w h => by rw [← hv]; exact rws_rd h (k := 1) rfl hd)).mono ?_; rintro r w1 ⟨rfl, hS1⟩; clear hS; have hS := hS1; clear hS1; replace hS := IsT.mk hS)
            )
          go_ret2
          exact ⟨rfl, hS⟩
      | false =>
        rw [hh] at HFI
        cases hf : T.free with
        | none =>
          have hE : T.mkE l k = 5 := by rw [HE0.out, hh, hf, if_neg (by decide), if_pos rfl]
          rw [HM1.out, HM0.out, hE, if_neg (by decide), if_neg (by decide)]
          rw [hf] at HFR
          clear hE hh hk
          rcases hkk with q1 | ⟨q1, q2⟩
          all_goals
            go_enter Try.func11, Try.ntmps11
            go_wp2_with (first
              | (go_at_call 33; refine (HP.out _ hS).mono ?_; rintro r w1 ⟨rfl, hS1⟩; clear hS; have hS := hS1; clear hS1)
              | (go_at_call 12; refine (HFR.out _ hS).mono ?_; rintro r w1 ⟨rfl, hS1⟩; clear hS; have hS := hS1; clear hS1; obtain ⟨v, vt, hO⟩ := IsT.open hS; clear hS; have hS := hO; clear hO; obtain ⟨ao1, c1, hv, _⟩ := rws_shape hS (k := 1) rfl hd)
              | (refine toList (by rfl) ?_; refine ld hS _ _ (by rfl) _ _ (by rfl) (agOf (by rfl)) Has.z (tl_at (i := d) (j := 2) (u := .slice ao1 (T.dir d).length c1) hd (by omega) (by rw [← hv]; rfl)) ?_)
              | (go_at_call 34; refine (HFI.out _ _ ao1 c1 hS (fun w h => by rw [← hv]; exact rws_rd h (k := 1) rfl hd)).mono ?_; rintro r w1 ⟨rfl, hS1⟩; clear hS; have hS := hS1; clear hS1; replace hS := IsT.mk hS)
              )
            go_ret2
            exact ⟨rfl, hS⟩
        | some i =>
          obtain ⟨f1, _, f3, _⟩ := HT.out.free_some hf
          have hok : entOk ⟨n, (i : Int)⟩ = true := by unfold entOk; rw [hn]; simp; omega
          have HAD := Lib.hid (fun w (h : Sat W w (IsT p T :: L)) => tadd_any h HT.out (d := d) (i := i) hd n)
          rw [hf] at HFR
          by_cases h64 : 64 ≤ (T.dir d).length
          · have hE : T.mkE l k = 5 := by rw [HE0.out, hh, hf, if_neg (by decide), if_neg (by simp), if_pos h64]
            have hC : addC (T.dir d) ⟨n, (i : Int)⟩ = 5 := by unfold addC; rw [hok, if_pos rfl]; dsimp only; rw [hh, if_neg (by decide), if_pos h64]
            unfold TrD.addT at HAD
            rw [hC, if_neg (by decide)] at HAD
            rw [HM1.out, HM0.out, hE, if_neg (by decide), if_neg (by decide)]
            clear hE hh hk hC hok h64
            rcases hkk with q1 | ⟨q1, q2⟩
            all_goals
              go_enter Try.func11, Try.ntmps11
              go_wp2_with (first
                | (go_at_call 33; refine (HP.out _ hS).mono ?_; rintro r w1 ⟨rfl, hS1⟩; clear hS; have hS := hS1; clear hS1)
                | (go_at_call 12; refine (HFR.out _ hS).mono ?_; rintro r w1 ⟨rfl, hS1⟩; clear hS; have hS := hS1; clear hS1; obtain ⟨v, vt, hO⟩ := IsT.open hS; clear hS; have hS := hO; clear hO; obtain ⟨ao1, c1, hv, _⟩ := rws_shape hS (k := 1) rfl hd)
                | (refine toList (by rfl) ?_; refine ld hS _ _ (by rfl) _ _ (by rfl) (agOf (by rfl)) Has.z (tl_at (i := d) (j := 2) (u := .slice ao1 (T.dir d).length c1) hd (by omega) (by rw [← hv]; rfl)) ?_)
                | (go_at_call 34; refine (HFI.out _ _ ao1 c1 hS (fun w h => by rw [← hv]; exact rws_rd h (k := 1) rfl hd)).mono ?_; rintro r w1 ⟨rfl, hS1⟩; clear hS; have hS := hS1; clear hS1; replace hS := IsT.mk hS)
                | (go_at_call 35; refine (HAD.out _ hS).mono ?_; rintro r w1 ⟨rfl, hS1⟩; clear hS; have hS := hS1; clear hS1))
              go_ret2
              exact ⟨rfl, hS⟩
          · have hE : T.mkE l k = 0 := by rw [HE0.out, hh, hf, if_neg (by decide), if_neg (by simp), if_neg h64]
            have hC : addC (T.dir d) ⟨n, (i : Int)⟩ = 0 := by unfold addC; rw [hok, if_pos rfl]; dsimp only; rw [hh, if_neg (by decide), if_neg h64]
            unfold TrD.addT at HAD
            rw [hC, if_pos rfl] at HAD
            have hI : T.mkI l k = i := by rw [HM0.out, hE, if_pos rfl, hf]; rfl
            have hOK2 := HT.out.put (n := n) hd hn f3 f1 hh (by omega)
            have HKK := Lib.hid (TrD.setK_kind hOK2 f1 k)
            rw [HM1.out, hI, hE, if_pos rfl]
            have k2 : (i : Int) < 48 := by omega
            obtain ⟨T2, hT2⟩ : ∃ T2, T.put d i n = T2 := ⟨_, rfl⟩
            rw [hT2] at HAD HKK ⊢
            have HTO := Lib.hid (fun w v (L' : List Asrt) (h : Sat W w (IsT p (T2.setK i k) :: Ir v [d, i] :: L')) => ttouch_any h (by simp) (by intro x hx; simp only [List.mem_cons, List.not_mem_nil, or_false] at hx; omega))
            clear hE hh hk hC hok h64 hI hOK2 hT2
            rcases hkk with q1 | ⟨q1, q2⟩
            all_goals
              go_enter Try.func11, Try.ntmps11
              go_wp2_with (first
                | (go_at_call 33; refine (HP.out _ hS).mono ?_; rintro r w1 ⟨rfl, hS1⟩; clear hS; have hS := hS1; clear hS1)
                | (go_at_call 12; refine (HFR.out _ hS).mono ?_; rintro r w1 ⟨rfl, hS1⟩; clear hS; have hS := hS1; clear hS1; obtain ⟨v, vt, hO⟩ := IsT.open hS; clear hS; have hS := hO; clear hO; obtain ⟨ao1, c1, hv, _⟩ := rws_shape hS (k := 1) rfl hd)
                | (refine toList (by rfl) ?_; refine ld hS _ _ (by rfl) _ _ (by rfl) (agOf (by rfl)) Has.z (tl_at (i := d) (j := 2) (u := .slice ao1 (T.dir d).length c1) hd (by omega) (by rw [← hv]; rfl)) ?_)
                | (go_at_call 34; refine (HFI.out _ _ ao1 c1 hS (fun w h => by rw [← hv]; exact rws_rd h (k := 1) rfl hd)).mono ?_; rintro r w1 ⟨rfl, hS1⟩; clear hS; have hS := hS1; clear hS1; replace hS := IsT.mk hS)
                | (go_at_call 35; refine (HAD.out _ hS).mono ?_; rintro r w1 ⟨rfl, hS1⟩; clear hS; have hS := hS1; clear hS1; obtain ⟨v2, vt2, hO⟩ := IsT.open hS; clear hS; have hS := hO; clear hO)
                              | (refine toList (by rfl) ?_; refine st hS _ _ _ (by rfl) _ _ (by rfl) _ (by first | exact evC | exact evT (by rfl)) (by rfl) (szOf (by rfl)) Has.z (by rw [tl_len]; omega) ?_; intro w1 hS1; clear hS; have hS := hS1; clear hS1; simp only [List.set_cons_zero] at hS; rw [tl_setK _ f1 (by omega)] at hS; replace hS := IsT.mk (T := T2.setK i k) (v := v2) (vt := vt2) (by rw [HKK.out]; exact hS))
                              | (refine toList (by rfl) ?_; refine bsF hS _ _ _ (by rfl) (elOf (by rfl)) [.int .i64 (d : Int), .int .i64 (i : Int)] (by rfl) (by rfl) (by decide) (by decide) (by intro v hv; simp only [List.mem_cons, List.not_mem_nil, or_false] at hv; rcases hv with rfl | rfl <;> rfl) ?_; intro b1 w1 hS1; clear hS; have hS := csIr (l := [d, i]) (by simp) (show Sat W w1 (Cs b1 _ (iv [d, i]) :: _) from hS1); clear hS1)
                              | (go_at_call 36; refine (HTO.out _ _ _ hS.pull1).mono ?_; rintro r w1 ⟨rfl, hS1⟩; clear hS; have hS := hS1; clear hS1))
              go_ret2
              exact ⟨rfl, hS⟩
    · have hE : T.mkE l k = T.pE l := by unfold TrD.mkE; rw [if_pos hk, if_neg hp]
      have hE0 : T.mkE l k ≠ 0 := by rw [hE]; exact hp
      have hI : T.mkI l k = 0 := by unfold TrD.mkI; rw [if_neg hE0]
      have hM : T.mk' l k = T := by unfold TrD.mk'; rw [if_neg hE0]
      rw [hI, hM, hE]
      obtain ⟨e, he⟩ : ∃ e, T.pE l = e := ⟨_, rfl⟩
      rw [he] at HPL hp ⊢
      have e1 : (e != 0) = true := bne_iff_ne.2 hp
      have hkk : (k != 1) = false ∨ ((k != 1) = true ∧ (k != 2) = false) := by
        rcases hk with rfl | rfl
        · exact .inl rfl
        · exact .inr ⟨rfl, rfl⟩
      clear hE hE0 hI hM he hp hk
      rcases hkk with q1 | ⟨q1, q2⟩
      all_goals
        go_enter Try.func11, Try.ntmps11
        go_wp2_with (go_at_call 33; refine (HPL.out _ hS).mono ?_; rintro r w1 ⟨dd, nm, rfl, _, hS1⟩; clear hS; have hS := hS1; clear hS1)
        go_ret2
        exact ⟨rfl, hS⟩
  · have hE : T.mkE l k = 1 := by unfold TrD.mkE; rw [if_neg hk]
    have hI : T.mkI l k = 0 := by unfold TrD.mkI; rw [hE, if_neg (by decide)]
    have hM : T.mk' l k = T := by unfold TrD.mk'; rw [hE, if_neg (by decide)]
    rw [hI, hM, hE]
    have q1 : (k != 1) = true := bne_iff_ne.2 (fun e => hk (.inl e))
    have q2 : (k != 2) = true := bne_iff_ne.2 (fun e => hk (.inr e))
    clear hE hI hM hk
    go_enter Try.func11, Try.ntmps11
    go_wp2
    go_ret2
    exact ⟨rfl, hS⟩
end Go.Proofs.Ytiieicdhkcikpaa
namespace Go.Proofs.Ytiieicdhkcikpaa
open Go.RowKit Go.Sep
set_option linter.unusedSimpArgs false
set_option linter.unusedVariables false
attribute [local irreducible] Go.Oper.wp Go.wpList Go.Calls Go.Code.wp Go.Sep.Reg
attribute [local irreducible] IsT IsW
def inR (i : Int) : Bool := decide (0 ≤ i) && decide (i < 48)
def TrD.kindI (T : TrD) (i : Int) : Int := if inR i = true then T.kind i.toNat else 0
def TrD.linksI (T : TrD) (i : Int) : Nat := if inR i = true then T.links i.toNat else 0
def TrD.dirI (T : TrD) (i : Int) : List EntD := if inR i = true then T.dir i.toNat else []
theorem none_any (i : Int) (w : World) : Calls Try.prog 38 #[.int .i64 i] w fun r w' => r = .returned (.bool (!inR i)) ∧ w = w' := by
  unfold inR
  by_cases h1 : i < 0
  · rw [decide_eq_false (by omega : ¬ 0 ≤ i)]
    have e1 : decide (i < 0) = true := decide_eq_true h1
    go_enter Try.func38, Try.ntmps38
    go_wp2
    go_ret
    exact ⟨rfl, rfl⟩
  · have e1 : decide (i < 0) = false := decide_eq_false h1
    rw [decide_eq_true (by omega : 0 ≤ i)]
    by_cases h2 : (48 : Int) ≤ i
    · have e2 : decide ((48 : Int) ≤ i) = true := decide_eq_true h2
      rw [decide_eq_false (by omega : ¬ i < 48)]
      go_enter Try.func38, Try.ntmps38
      go_wp2
      go_ret
      exact ⟨rfl, rfl⟩
    · have e2 : decide ((48 : Int) ≤ i) = false := decide_eq_false h2
      rw [decide_eq_true (by omega : i < 48)]
      go_enter Try.func38, Try.ntmps38
      go_wp2
      go_ret
      exact ⟨rfl, rfl⟩
theorem inR_yes {i : Int} (h : inR i = true) : ∃ m : Nat, i = m ∧ m < 48 := by
  unfold inR at h
  simp only [Bool.and_eq_true, decide_eq_true_eq] at h
  exact ⟨i.toNat, by omega, by omega⟩
set_option maxRecDepth 20000 in
theorem tkind_any {W w : World} {L : List Asrt} {p : Nat} {T : TrD} (hS : Sat W w (IsT p T :: L)) (i : Int) :
    Calls Try.prog 16 #[.pointer (some ⟨p, 0, none⟩), .int .i64 i] w fun r w' => r = .returned (.int .i64 (T.kindI i)) ∧ w = w' := by
  have HNO := Lib.hid (fun w => none_any i w)
  obtain ⟨v, vt, hO⟩ := IsT.open hS
  clear hS
  have hS := hO
  clear hO
  unfold TrD.kindI
  cases hb : inR i with
  | false =>
    rw [hb] at HNO
    rw [if_neg (by decide)]
    clear hb
    go_enter Try.func16, Try.ntmps16
    go_wp2_with (go_at_call 38; refine (HNO.out _).mono ?_; rintro r w1 ⟨rfl, rfl⟩)
    go_ret
    exact ⟨rfl, rfl⟩
  | true =>
    rw [hb] at HNO
    obtain ⟨m, rfl, hm⟩ := inR_yes hb
    rw [if_pos rfl, Int.toNat_natCast]
    have k1 : (m : Int) < 48 := by omega
    clear hb
    go_enter Try.func16, Try.ntmps16
    go_wp2_with (first
      | (go_at_call 38; refine (HNO.out _).mono ?_; rintro r w1 ⟨rfl, rfl⟩)
      | (refine toList (by rfl) ?_; refine ld hS _ _ (by rfl) _ _ (by rfl) (agOf (by rfl)) Has.z (tl_at (i := m) (j := 0) (u := .int .i64 (T.kind m)) hm (by omega) (by rfl)) ?_))
    go_ret
    exact ⟨rfl, rfl⟩
set_option maxRecDepth 20000 in
theorem tlinks_any {W w : World} {L : List Asrt} {p : Nat} {T : TrD} (hS : Sat W w (IsT p T :: L)) (i : Int) :
    Calls Try.prog 15 #[.pointer (some ⟨p, 0, none⟩), .int .i64 i] w fun r w' => r = .returned (.int .i64 (T.linksI i : Nat)) ∧ w = w' := by
  have HNO := Lib.hid (fun w => none_any i w)
  obtain ⟨v, vt, hO⟩ := IsT.open hS
  clear hS
  have hS := hO
  clear hO
  unfold TrD.linksI
  cases hb : inR i with
  | false =>
    rw [hb] at HNO
    rw [if_neg (by decide)]
    clear hb
    go_enter Try.func15, Try.ntmps15
    go_wp2_with (go_at_call 38; refine (HNO.out _).mono ?_; rintro r w1 ⟨rfl, rfl⟩)
    go_ret
    exact ⟨rfl, rfl⟩
  | true =>
    rw [hb] at HNO
    obtain ⟨m, rfl, hm⟩ := inR_yes hb
    rw [if_pos rfl, Int.toNat_natCast]
    have k1 : (m : Int) < 48 := by omega
    clear hb
    go_enter Try.func15, Try.ntmps15
    go_wp2_with (first
      | (go_at_call 38; refine (HNO.out _).mono ?_; rintro r w1 ⟨rfl, rfl⟩)
      | (refine toList (by rfl) ?_; refine ld hS _ _ (by rfl) _ _ (by rfl) (agOf (by rfl)) Has.z (tl_at (i := m) (j := 1) (u := .int .i64 (T.links m : Nat)) hm (by omega) (by rfl)) ?_))
    go_ret
    exact ⟨rfl, rfl⟩
set_option maxRecDepth 20000 in
set_option maxHeartbeats 1000000 in
theorem tentries_any {W w : World} {L : List Asrt} {p : Nat} {T : TrD} (hS : Sat W w (IsT p T :: L)) (hT : T.Ok) (i : Int) :
    Calls Try.prog 27 #[.pointer (some ⟨p, 0, none⟩), .int .i64 i] w fun r w' => ∃ v, r = .returned v ∧ Sat W w' (Er v (T.dirI i) :: IsT p T :: L) := by
  have HNO := Lib.hid (fun w => none_any i w)
  unfold TrD.dirI
  cases hb : inR i with
  | false =>
    rw [hb] at HNO
    rw [if_neg (by decide)]
    clear hb
    go_enter Try.func27, Try.ntmps27
    go_wp2_with (go_at_call 38; refine (HNO.out _).mono ?_; rintro r w1 ⟨rfl, rfl⟩)
    go_ret
    exact ⟨.slice none 0 0, rfl, hS.tbNil⟩
  | true =>
    rw [hb] at HNO
    obtain ⟨m, rfl, hm⟩ := inR_yes hb
    rw [if_pos rfl, Int.toNat_natCast]
    have k1 : (m : Int) < 48 := by omega
    obtain ⟨v, vt, hO⟩ := IsT.open hS
    clear hS
    have hS := hO
    clear hO
    obtain ⟨ao1, c1, hv, _⟩ := rws_shape hS (k := 1) rfl hm
    have hlen := hT.len _ (hT.dir_mem hm)
    clear hb hT
    go_enter Try.func27, Try.ntmps27
    go_wp2_with (first
      | (go_at_call 38; refine (HNO.out _).mono ?_; rintro r w1 ⟨rfl, rfl⟩)
      | (refine toList (by rfl) ?_; refine ld hS _ _ (by rfl) _ _ (by rfl) (agOf (by rfl)) Has.z (tl_at (i := m) (j := 2) (u := .slice ao1 (T.dir m).length c1) hm (by omega) (by rw [← hv]; rfl)) ?_)
      | (refine toList (by rfl) ?_; refine apTb (f := ev2) (xs := []) (hS.tbNil (E := 59) (sz := 2)) _ _ _ _ (by rfl) _ _ (by rfl) (by rfl) (elOf (by rfl)) (by rfl) (by decide) (inOf (by rfl)) Has.z (T.dir m) (ev2_len _) (by exact .inl (by rw [← hv]; exact rws_rd hS (k := 1) rfl hm)) (ev2_one _) (by simp; omega) (by simp; omega) ?_; intro v' w1 hS1; clear hS; have hS := hS1; clear hS1; dsimp only [List.set_cons_zero, List.nil_append] at hS))
    go_ret
    exact ⟨v', rfl, (IsT.mk (hS.re [1, 2, 3, 0])).pull1⟩
end Go.Proofs.Ytiieicdhkcikpaa
