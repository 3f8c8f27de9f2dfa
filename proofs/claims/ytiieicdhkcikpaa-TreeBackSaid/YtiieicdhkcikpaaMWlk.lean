/-
  Package tree: Walk; path.Parent.
  path.Parent; tree: Free, place.
  Package tree: Free.
  Package tree: place, add, remove.
  slices.Equal of texts, path.Under.
-/
import Derived.Test.YtiieicdhkcikpaaMDir
namespace Go.Proofs.Ytiieicdhkcikpaa
open Go.RowKit Go.Sep
set_option linter.unusedSimpArgs false
set_option linter.unusedVariables false
attribute [local irreducible] Go.Oper.wp Go.wpList Go.Calls Go.Code.wp Go.Sep.Reg
def sv1 (x : List UInt8) : List Value := [sv x]
theorem sv1_len (l : List (List UInt8)) : ∀ x ∈ l, (sv1 x).length = 1 := fun _ _ => rfl
theorem sv1_one (l : List (List UInt8)) : ∀ u ∈ l.flatMap sv1, u.oneCell' = true := fun u hu => by
  obtain ⟨x, _, hu⟩ := List.mem_flatMap.1 hu
  simp only [sv1, List.mem_singleton] at hu
  subst hu; rfl
theorem sv1_fm (l : List (List UInt8)) : (l.flatMap sv1).length = l.length := by
  induction l with
  | nil => rfl
  | cons x l ih => rw [List.flatMap_cons, List.length_append, ih, List.length_cons]; show 1 + _ = _; omega
set_option maxRecDepth 20000 in
set_option maxHeartbeats 2000000 in
theorem twalk_any {W w : World} {L : List Asrt} {p : Nat} {T : TrD} (hS : Sat W w (IsT p T :: L)) (hT : T.Ok) (l : List (List UInt8)) (ao : Option Addr) (c : Nat) (hr : ∀ w L', Sat W w (L' ++ L) → Rd w (.slice ao l.length c) l.length 1 (l.flatMap sv1)) (hl : l.length ≤ 1000000) :
    Calls Try.prog 26 #[.pointer (some ⟨p, 0, none⟩), .slice ao l.length c] w fun r w' => r = .returned (.tuple #[.int .i64 (T.walk 0 l).1, .int .i64 (T.walk 0 l).2]) ∧ Sat W w' (IsT p T :: L) := by
  have HT := Lib.hid hT
  obtain ⟨v, vt, hO⟩ := IsT.open hS
  clear hS hT
  have HR := Lib.hid (fun w (h : Sat W w (Cs p 69 (tl T.kind T.lnk v vt) :: rws v T.dir :: Ir vt T.last :: L)) => hr w [_, _, _] h)
  obtain ⟨_, _, he, hc1, hc2, _, h5⟩ := HR.out _ hO
  simp only [Value.slice.injEq, true_and] at he
  obtain ⟨rfl, rfl⟩ := he
  have H5 := Lib.hid h5
  have hli : (l.length : Int) ≤ 1000000 := by omega
  have H0 := Lib.hid hO
  clear hr h5 hO
  obtain ⟨⟨wi, we⟩, hw⟩ : ∃ x, T.walk 0 l = x := ⟨_, rfl⟩
  have HW := Lib.hid hw
  rw [hw]
  clear hw
  go_enter Try.func26, Try.ntmps26
  go_wp2
  go_loopw [6, 13] (fun v6 v13 wz => ∃ i j : Nat, v6 = .int .i64 i ∧ v13 = .int .i64 j ∧ i < 48 ∧ j ≤ l.length ∧ T.walk i (l.drop j) = (wi, we) ∧ Sat W wz (Cs p 69 (tl T.kind T.lnk v vt) :: rws v T.dir :: Ir vt T.last :: L)) (fun _ v13 _ => l.length - (intOf v13).toNat)
  case atStart => exact ⟨0, 0, rfl, rfl, by omega, by omega, HW.out, H0.out⟩
  case round =>
    clear H0
    obtain ⟨i, j, rfl, rfl, hi, hj, hwk, hS⟩ := hrel
    by_cases hlt : j < l.length
    · have k1 : (j : Int) < (l.length : Int) := by omega
      have k2 : (i : Int) < 48 := by omega
      have HLT := Lib.hid hlt
      obtain ⟨b, off, rfl, _⟩ := H5.out (by omega)
      obtain ⟨n, hx⟩ : ∃ n, l[j]? = some n := ⟨_, List.getElem?_eq_getElem hlt⟩
      have HX := Lib.hid hx
      have hdr : l.drop j = n :: l.drop (j + 1) := by
        obtain ⟨h1, h2⟩ := List.getElem?_eq_some_iff.1 hx
        rw [List.drop_eq_getElem_cons h1, h2]
      rw [hdr] at hwk
      clear hx hlt hdr
      by_cases hk : T.kind i = 2
      · have e1 : ((T.kind i) != 2) = false := by rw [hk]; rfl
        obtain ⟨ao1, c1, hv, _⟩ := rws_shape hS (k := 1) rfl hi
        have hlen : (T.dir i).length ≤ 1000 := by have := HT.out.len _ (HT.out.dir_mem hi); omega
        have HF := Lib.hid (fun w (h : Sat W w (Cs p 69 (tl T.kind T.lnk v vt) :: rws v T.dir :: Ir vt T.last :: L)) => find_any h (T.dir i) ao1 c1 n (fun w h => by rw [← hv]; exact rws_rd h (k := 1) rfl hi) hlen)
        cases hf : findE (T.dir i) n with
        | none =>
          have HE := Lib.hid (show wi = 0 ∧ we = 3 by
            rw [TrD.walk, if_pos hk, hf] at hwk
            simp only [Prod.mk.injEq] at hwk
            exact ⟨hwk.1.symm, hwk.2.symm⟩)
          have hh : hasE (T.dir i) n = false := by rw [← findE_some, hf]; rfl
          rw [hf, hh] at HF
          clear hwk hf hh
          obtain ⟨kk, hkk⟩ : ∃ kk, T.kind i = kk := ⟨_, rfl⟩
          rw [hkk] at e1
          go_wp2_with (first
            | (refine toList (by rfl) ?_; refine wp_of_reads (rLdRd (f := sv1) (x := n) (HR.out _ hS) (sv1_len l) _ _ (by rfl) _ (by rfl) (agOf (by rfl)) j 0 (by omega) HX.out (by rfl) (by omega)) ?_)
            | (refine toList (by rfl) ?_; refine ld hS _ _ (by rfl) _ _ (by rfl) (agOf (by rfl)) Has.z (tl_at (i := i) (j := 0) (u := .int .i64 kk) hi (by omega) (by rw [← hkk]; rfl)) ?_)
            | (refine toList (by rfl) ?_; refine ld hS _ _ (by rfl) _ _ (by rfl) (agOf (by rfl)) Has.z (tl_at (i := i) (j := 2) (u := .slice ao1 (T.dir i).length c1) hi (by omega) (by rw [← hv]; rfl)) ?_)
            | (go_at_call 34; refine (HF.out _ hS).mono ?_; rintro r w1 ⟨rfl, hS1⟩; clear hS; have hS := hS1; clear hS1))
          go_ret2
          rw [HE.out.1, HE.out.2]
          exact ⟨rfl, IsT.mk hS⟩
        | some jj =>
          obtain ⟨_, hj1, hj2⟩ := HT.out.find_ino hi hf
          obtain ⟨m, rfl⟩ := Int.eq_ofNat_of_zero_le (show 0 ≤ jj by omega)
          have HWK := Lib.hid (show T.walk m (l.drop (j + 1)) = (wi, we) by
            rw [TrD.walk, if_pos hk, hf] at hwk
            exact hwk)
          have HM := Lib.hid (show m < 48 by omega)
          have hh : hasE (T.dir i) n = true := by rw [← findE_some, hf]; rfl
          rw [hf, hh] at HF
          clear hwk hf hh hj1 hj2
          obtain ⟨kk, hkk⟩ : ∃ kk, T.kind i = kk := ⟨_, rfl⟩
          rw [hkk] at e1
          go_wp2_with (first
            | (refine toList (by rfl) ?_; refine wp_of_reads (rLdRd (f := sv1) (x := n) (HR.out _ hS) (sv1_len l) _ _ (by rfl) _ (by rfl) (agOf (by rfl)) j 0 (by omega) HX.out (by rfl) (by omega)) ?_)
            | (refine toList (by rfl) ?_; refine ld hS _ _ (by rfl) _ _ (by rfl) (agOf (by rfl)) Has.z (tl_at (i := i) (j := 0) (u := .int .i64 kk) hi (by omega) (by rw [← hkk]; rfl)) ?_)
            | (refine toList (by rfl) ?_; refine ld hS _ _ (by rfl) _ _ (by rfl) (agOf (by rfl)) Has.z (tl_at (i := i) (j := 2) (u := .slice ao1 (T.dir i).length c1) hi (by omega) (by rw [← hv]; rfl)) ?_)
            | (go_at_call 34; refine (HF.out _ hS).mono ?_; rintro r w1 ⟨rfl, hS1⟩; clear hS; have hS := hS1; clear hS1))
          exact ⟨⟨m, j + 1, by simp, by go_num, HM.out, HLT.out, HWK.out, hS⟩, by simp [intOf]; have := HLT.out; omega⟩
      · have HE := Lib.hid (show wi = 0 ∧ we = 8 by
          rw [TrD.walk, if_neg hk] at hwk
          simp only [Prod.mk.injEq] at hwk
          exact ⟨hwk.1.symm, hwk.2.symm⟩)
        have e1 : ((T.kind i) != 2) = true := bne_iff_ne.2 hk
        obtain ⟨kk, hkk⟩ : ∃ kk, T.kind i = kk := ⟨_, rfl⟩
        rw [hkk] at e1
        clear hwk hk
        go_wp2_with (first
          | (refine toList (by rfl) ?_; refine wp_of_reads (rLdRd (f := sv1) (x := n) (HR.out _ hS) (sv1_len l) _ _ (by rfl) _ (by rfl) (agOf (by rfl)) j 0 (by omega) HX.out (by rfl) (by omega)) ?_)
          | (refine toList (by rfl) ?_; refine ld hS _ _ (by rfl) _ _ (by rfl) (agOf (by rfl)) Has.z (tl_at (i := i) (j := 0) (u := .int .i64 kk) hi (by omega) (by rw [← hkk]; rfl)) ?_))
        go_ret2
        rw [HE.out.1, HE.out.2]
        exact ⟨rfl, IsT.mk hS⟩
    · have k1 : ¬ (j : Int) < (l.length : Int) := by omega
      rw [List.drop_eq_nil_of_le (by omega), TrD.walk] at hwk
      simp only [Prod.mk.injEq] at hwk
      obtain ⟨rfl, rfl⟩ := hwk
      clear hlt
      go_wp2
      go_ret2
      exact ⟨rfl, IsT.mk hS⟩
end Go.Proofs.Ytiieicdhkcikpaa
namespace Go.Proofs.Ytiieicdhkcikpaa
open Go.RowKit Go.Sep
set_option linter.unusedSimpArgs false
set_option linter.unusedVariables false
attribute [local irreducible] Go.Oper.wp Go.wpList Go.Calls Go.Code.wp Go.Sep.Reg
section
variable {P : Program} {a : Act} {o : Oper}
theorem rSlcH {T : TypeId} {x y : Operand} (ho : o.op = .slice T x none (some y) none) {ao : Option Addr} {n c hi e size bytes : Nat} {k : IntKind} {z : Option Value} (hx : a.eval x = .slice ao n c) {v : Int} (hy : a.eval y = .int k v) (hv : v = (hi : Nat)) (hhc : hi ≤ c)
    (hT : elemB P T = some (e, size, bytes, z)) (w : World) : (execOp a.eval o).run P w = .ok (.value (.slice ao hi c)) w := by
  subst hv
  obtain ⟨hu, i, hi', rfl, rfl, _⟩ := elemB_parts hT
  have he : P.elem T = e := by simp [Program.elem, hu]
  have hr := run_slice_h (P := P) (w := w) T ao n c (by rw [he]; exact hu) k hi (by omega) (by omega)
  rw [he] at hr
  refine rd_of (s := Instr.sliceAt T (.slice ao n c) none (some (.int k hi)) none) (by simp [execOp, ho, hx, hy]) ?_
  rw [run_sliceAt_slice (h := by rw [he]; exact hu), hr]
  have e1 : ∀ s : Nat, (ao.map fun x : Addr => x.add (0 * s)) = ao := fun s => by
    cases ao with
    | none => rfl
    | some x => simp [Addr.add]
  simp [sizeOf, typeInfo, hi', sliced]
  cases ao with
  | none => simp
  | some x => simp [Addr.add]
end
theorem srd_take {w : World} {ao : Option Addr} {c : Nat} {l : List (List UInt8)} (h : Rd w (.slice ao l.length c) l.length 1 (l.flatMap sv1)) (i : Nat) (hi : i ≤ l.length) : Rd w (.slice ao i c) (l.take i).length 1 ((l.take i).flatMap sv1) := by
  obtain ⟨_, _, he, h1, h2, h3, h5⟩ := h
  simp only [Value.slice.injEq, true_and] at he
  obtain ⟨rfl, rfl⟩ := he
  have hl : (l.take i).length = i := by rw [List.length_take]; omega
  rw [hl]
  refine ⟨_, _, rfl, by omega, h2, by rw [sv1_fm, hl]; omega, fun hi0 => ?_⟩
  obtain ⟨b, off, h6, h7⟩ := h5 (by omega)
  refine ⟨b, off, h6, fun j u hu => h7 j u ?_⟩
  have e2 : l.flatMap sv1 = (l.take i).flatMap sv1 ++ (l.drop i).flatMap sv1 := by rw [← List.flatMap_append, List.take_append_drop]
  rw [e2, List.getElem?_append_left (by obtain ⟨h8, _⟩ := List.getElem?_eq_some_iff.1 hu; exact h8)]
  exact hu
theorem last_at {l : List (List UInt8)} {m : Nat} (h : l.length = m + 1) : l[m]? = some (TrD.lastN l) ∧ l.take m = l.dropLast := by
  have hne : l ≠ [] := by intro e; subst e; cases h
  refine ⟨?_, ?_⟩
  · unfold TrD.lastN
    rw [List.getLastD_eq_getLast?, List.getLast?_eq_getElem?, h, Nat.add_sub_cancel, List.getElem?_eq_getElem (by omega)]; rfl
  · rw [List.dropLast_eq_take, h, Nat.add_sub_cancel]
set_option maxRecDepth 20000 in
set_option maxHeartbeats 1000000 in
theorem parent_any {W w : World} {L : List Asrt} (hS : Sat W w L) (l : List (List UInt8)) (ao : Option Addr) (c : Nat) (hr : ∀ w L', Sat W w (L' ++ L) → Rd w (.slice ao l.length c) l.length 1 (l.flatMap sv1)) (hl : l.length ≤ 1000000) :
    Calls Try.prog 58 #[.slice ao l.length c] w fun r w' => ∃ v, r = .returned (.tuple #[v, sv (TrD.lastN l), .bool (!decide (l = []))]) ∧ Sat W w' (Tb 9 1 sv1 v l.dropLast :: L) := by
  by_cases h0 : l = []
  · subst h0
    obtain ⟨_, _, he, _⟩ := hr w [] hS
    simp only [Value.slice.injEq, true_and] at he
    obtain ⟨rfl, rfl⟩ := he
    go_enter Try.func58, Try.ntmps58
    go_wp2
    go_ret3
    exact ⟨.slice none 0 0, rfl, hS.tbNil⟩
  · have HR := Lib.hid (fun w (L' : List Asrt) (h : Sat W w (L' ++ L)) => hr w L' h)
    obtain ⟨_, _, he, hc1, hc2, _, h5⟩ := hr w [] hS
    simp only [Value.slice.injEq, true_and] at he
    obtain ⟨rfl, rfl⟩ := he
    have hpos : 0 < l.length := List.length_pos_iff.2 h0
    obtain ⟨b, off, rfl, _⟩ := h5 hpos
    obtain ⟨m, hm⟩ : ∃ m, l.length = m + 1 := ⟨l.length - 1, by omega⟩
    obtain ⟨hx, htk⟩ := last_at hm
    have HX := Lib.hid hx
    have HTK := Lib.hid htk
    have HRT := Lib.hid (fun w (L' : List Asrt) (h : Sat W w (L' ++ L)) => srd_take (hr w L' h) m (by omega))
    have HTL := Lib.hid (show (l.take m).length = m by rw [List.length_take]; omega)
    have hsub : (l.length : Int) - 1 = (m : Int) := by omega
    have e0 : ((l.length : Int) == 0) = false := beq_eq_false_iff_ne.2 (by omega)
    have k1 : (m : Int) < (l.length : Int) := by omega
    have k2 : (m : Int) ≤ (c : Int) := by omega
    have k3 : (1 : Int) ≤ (l.length : Int) := by omega
    have k4 : (l.length : Int) ≤ 1000000 := by omega
    have hml : m < l.length := by omega
    have hmc : m ≤ c := by omega
    rw [decide_eq_false h0]
    obtain ⟨nn, hnn⟩ : ∃ nn, TrD.lastN l = nn := ⟨_, rfl⟩
    rw [hnn] at HX ⊢
    clear hr h5 h0 hm hx htk hnn
    replace hS := hS.tbNil (α := List UInt8) (f := sv1) (E := 9) (sz := 1)
    go_enter Try.func58, Try.ntmps58
    go_wp2
    refine regStart2 [] hS (fun _ h => h.drop) (by kernel_rfl) rfl ?_
    intro w1 hS1
    clear hS; have hS := hS1; clear hS1
    (refine regP 0 hS (fun _ h => h.drop) rfl (by kernel_rfl) (by kernel_rfl) (by kernel_rfl) (fun _ _ _ _ h => h) (by rfl) (by rfl) ?_; apply Exists.intro; apply And.intro; (intro w; go_simp; try with_reducible rfl); go_frame)
    (refine regP 1 hS (fun _ h => h.drop) rfl (by kernel_rfl) (by kernel_rfl) (by kernel_rfl) (fun _ _ _ _ h => h) (by rfl) (by rfl) ?_; apply Exists.intro; apply And.intro; (intro w; go_simp; try with_reducible rfl); go_frame)
    (refine regP 2 hS (fun _ h => h.drop) rfl (by kernel_rfl) (by kernel_rfl) (by kernel_rfl) (fun _ _ _ _ h => h) (by rfl) (by rfl) ?_; apply Exists.intro; apply And.intro; (intro w; first | exact rSlcH (hi := m) (by rfl) (by rfl) (by rfl) (by omega) (by omega) (elOf (by rfl)) w | (go_simp; try with_reducible rfl)); go_frame)
    (refine regP 4 hS (fun _ h => h.drop) rfl (by kernel_rfl) (by kernel_rfl) (by kernel_rfl) (fun _ _ _ _ h => h) (by rfl) (by rfl) ?_; apply Exists.intro; apply And.intro; (intro w; go_simp; try with_reducible rfl); go_frame)
    (refine regP 5 hS (fun _ h => h.drop) rfl (by kernel_rfl) (by kernel_rfl) (by kernel_rfl) (fun _ _ _ _ h => h) (by rfl) (by rfl) ?_; apply Exists.intro; apply And.intro; (intro w; go_simp; try with_reducible rfl); go_frame)
    (refine regP 6 hS (fun _ h => h.drop) rfl (by kernel_rfl) (by kernel_rfl) (by kernel_rfl) (fun _ _ _ _ h => h) (by rfl) (by rfl) ?_; apply Exists.intro; apply And.intro; (intro w; go_simp; try with_reducible rfl); go_frame)
    (refine regR 7 hS (fun _ h => h.drop) rfl (by kernel_rfl) (by kernel_rfl) (by kernel_rfl) (by kernel_rfl) (by kernel_rfl) (fun _ _ _ _ h => h) (by rfl) (by rfl) ?_; (refine ⟨sv nn, fun u hu => rLdRd (f := sv1) (x := nn) (HR.out _ [] hu) (sv1_len l) _ _ (by rfl) _ (by rfl) (agOf (by rfl)) m 0 (by omega) HX.out (by rfl) (by omega), ?_⟩); go_frame)
    (refine regA 3 rfl (by kernel_rfl) (by rfl) (by rfl) false (by kernel_rfl) (fun K hK => ?_); (refine apTb (f := sv1) (xs := []) hS _ _ _ _ (by rfl) _ _ (by rfl) (by rfl) (elOf (by rfl)) (by rfl) (by decide) (inOf (by rfl)) Has.z (l.take m) (sv1_len _) (by exact .inl (HRT.out _ [_] hS)) (sv1_one _) (by simp; omega) (by simp; omega) ?_; intro v' w1 hS1; clear hS; have hS := hS1; clear hS1; dsimp only [List.set_cons_zero, List.nil_append] at hS); refine hK _ _ _ (hS.upTo (fun _ h => by first | exact h.one Has.z | exact h.one (Has.s Has.z) | exact h.one (Has.s (Has.s Has.z)) | exact h.one (Has.s (Has.s (Has.s Has.z))) | exact h | exact h.drop | exact h.drop.drop | exact h.drop.drop.drop | exact h.drop.drop.drop.drop)) (fun _ _ h => h) ?_; clear hK K; go_frame)
    (refine regP 8 hS (fun _ h => by first | exact h.one Has.z | exact h.one (Has.s Has.z) | exact h.one (Has.s (Has.s Has.z)) | exact h.one (Has.s (Has.s (Has.s Has.z))) | exact h | exact h.drop | exact h.drop.drop | exact h.drop.drop.drop | exact h.drop.drop.drop.drop) rfl (by kernel_rfl) (by kernel_rfl) (by kernel_rfl) (fun _ _ _ _ h => h) (by rfl) (by rfl) ?_; apply Exists.intro; apply And.intro; (intro w; go_simp; try with_reducible rfl); go_frame)
    (refine regP 9 hS (fun _ h => by first | exact h.one Has.z | exact h.one (Has.s Has.z) | exact h.one (Has.s (Has.s Has.z)) | exact h.one (Has.s (Has.s (Has.s Has.z))) | exact h | exact h.drop | exact h.drop.drop | exact h.drop.drop.drop | exact h.drop.drop.drop.drop) rfl (by kernel_rfl) (by kernel_rfl) (by kernel_rfl) (fun _ _ _ _ h => h) (by rfl) (by rfl) ?_; apply Exists.intro; apply And.intro; (intro w; go_simp; try with_reducible rfl); go_frame)
    (refine regP 10 hS (fun _ h => by first | exact h.one Has.z | exact h.one (Has.s Has.z) | exact h.one (Has.s (Has.s Has.z)) | exact h.one (Has.s (Has.s (Has.s Has.z))) | exact h | exact h.drop | exact h.drop.drop | exact h.drop.drop.drop | exact h.drop.drop.drop.drop) rfl (by kernel_rfl) (by kernel_rfl) (by kernel_rfl) (fun _ _ _ _ h => h) (by rfl) (by rfl) ?_; apply Exists.intro; apply And.intro; (intro w; go_simp; try with_reducible rfl); go_frame)
    refine regDone (by kernel_rfl) ?_
    go_wp2
    go_ret3
    rw [HTK.out] at hS
    exact ⟨_, rfl, hS⟩
end Go.Proofs.Ytiieicdhkcikpaa
namespace Go.Proofs.Ytiieicdhkcikpaa
open Go.RowKit Go.Sep
set_option linter.unusedSimpArgs false
set_option linter.unusedVariables false
attribute [local irreducible] Go.Oper.wp Go.wpList Go.Calls Go.Code.wp Go.Sep.Reg
theorem idx_node (cs : Array Value) (i : Nat) (hi : i < 48) (w : World) : (Instr.index 67 (.agg cs) (.int .i64 (i : Int))).run Try.prog w = .ok (.agg (cs.extract (i * 3) (i * 3 + 3))) w := by
  have h1 : (isAgg 66).run Try.prog w = .ok true w := run_isAgg (agOf (by rfl)) w
  have h2 : (sizeOf 66).run Try.prog w = .ok 3 w := run_sizeB (szOf (by rfl)) w
  have h3 : (underlying 67).run Try.prog w = .ok _ w := run_underlying Try.underlying67 w
  have hc : (0 : Int) ≤ (i : Int) ∧ (i : Int) < 48 := by omega
  simp [Instr.index, asIntOf, h3, h2, h1, part, Sem.run_bind, Result.andThen, hi]
theorem TrD.Ok.free_of {T : TrD} (h : T.Ok) {i : Nat} (hi : i < 48) (h0 : T.kind i = 0) (hno : ∀ j, j < i → T.kind j ≠ 0) : T.free = some i := by
  unfold TrD.free
  rw [List.findIdx?_eq_some_iff_getElem]
  have hk : ∀ j (hj : j < T.kinds.length), T.kinds[j] = T.kind j := fun j hj => by unfold TrD.kind; rw [List.getElem?_eq_getElem hj]; rfl
  refine ⟨by rw [h.kl]; exact hi, by rw [hk]; exact decide_eq_true h0, fun j hj => ?_⟩
  rw [hk]
  simpa using hno j hj
theorem TrD.Ok.free_not {T : TrD} (h : T.Ok) (hno : ∀ j, j < 48 → T.kind j ≠ 0) : T.free = none := by
  unfold TrD.free
  rw [List.findIdx?_eq_none_iff]
  intro k hk
  obtain ⟨j, hj⟩ := List.getElem?_of_mem hk
  have hjl := (List.getElem?_eq_some_iff.1 hj).1
  rw [h.kl] at hjl
  have := hno j hjl
  unfold TrD.kind at this
  rw [hj] at this
  simpa using this
theorem ext_node {k n : Nat → Int} {v : Nat → Value} {i : Nat} (hi : i < 48) : (((List.range 48).flatMap (tr3 k n v)).toArray.extract (i * 3) (i * 3 + 3)) = #[.int .i64 (k i), .int .i64 (n i), v i] := by
  have h := fm_row (f := tr3 k n v) (xs := List.range 48) (i := i) (x := i) (sz := 3) (fun x _ => tr3_len k n v x) (by simp [hi])
  apply Array.toList_inj.1
  rw [Array.toList_extract]
  simp only [List.extract_eq_take_drop, Nat.add_sub_cancel_left]
  exact h
set_option maxRecDepth 20000 in
set_option maxHeartbeats 1000000 in
theorem tfree_any {W w : World} {L : List Asrt} {p : Nat} {T : TrD} (hS : Sat W w (IsT p T :: L)) (hT : T.Ok) :
    Calls Try.prog 12 #[.pointer (some ⟨p, 0, none⟩)] w fun r w' => r = .returned (.tuple #[.int .i64 ((T.free.getD 0 : Nat) : Int), .bool T.free.isSome]) ∧ Sat W w' (IsT p T :: L) := by
  have HT := Lib.hid hT
  obtain ⟨v, vt, hO⟩ := IsT.open hS
  clear hS hT
  obtain ⟨cs, hcs⟩ : ∃ cs, (List.range 48).flatMap (tr3 T.kind T.lnk v) = cs := ⟨_, rfl⟩
  have HCS := Lib.hid (show ((tl T.kind T.lnk v vt).drop 0).take 144 = cs by
    rw [List.drop_zero, ← hcs]
    unfold tl
    exact List.take_left' (by rw [flat_len (tr3_len _ _ _)]))
  have HCL := Lib.hid (show cs.length = 144 by rw [← hcs, flat_len (tr3_len _ _ _)])
  have HIX := Lib.hid (fun (i : Nat) (hi : i < 48) (w : World) => by have := idx_node cs.toArray i hi w; rw [← hcs, ext_node hi, hcs] at this; exact this)
  clear hcs
  have hS := hO
  clear hO
  go_enter Try.func12, Try.ntmps12
  go_wp2_with (refine toList (by rfl) ?_; refine wp_of_reads (rLdA hS _ _ (by rfl) _ _ (by rfl) (agOf (by rfl)) (szOf (by rfl)) Has.z (vs := cs) (by exact HCS.out) (by exact HCL.out)) ?_)
  have H0 := Lib.hid hS
  go_loopw [10] (fun v10 wz => ∃ i : Nat, v10 = .int .i64 i ∧ i ≤ 48 ∧ (∀ j, j < i → T.kind j ≠ 0) ∧ Sat W wz (Cs p 69 (tl T.kind T.lnk v vt) :: rws v T.dir :: Ir vt T.last :: L)) (fun v10 _ => 48 - (intOf v10).toNat)
  case atStart => exact ⟨0, rfl, by omega, (fun j hj => absurd hj (Nat.not_lt_zero _)), H0.out⟩
  case round =>
    clear hS H0
    obtain ⟨i, rfl, hi, hno, hS⟩ := hrel
    have HNO := Lib.hid hno
    clear hno
    by_cases hlt : i < 48
    · have k1 : (i : Int) < 48 := by omega
      have HLT := Lib.hid hlt
      have hix := HIX.out i hlt
      obtain ⟨ao1, c1, hv, _⟩ := rws_shape hS (k := 1) rfl hlt
      rw [hv] at hix
      by_cases h0 : T.kind i = 0
      · have HF := Lib.hid (HT.out.free_of hlt h0 HNO.out)
        rw [h0] at hix
        obtain ⟨nn, hnn⟩ : ∃ nn, T.lnk i = nn := ⟨_, rfl⟩
        rw [hnn] at hix
        clear hlt hi hv h0 hnn
        go_wp2_with (first
          | (refine toList (by rfl) ?_; refine al hS _ (by rfl) (zrOf (by rfl)) ?_; intro px w1 hS1; clear hS; have hS := hS1; clear hS1; rw [cells_agg] at hS)
          | (refine toList (by rfl) ?_; refine stW hS _ _ _ (by rfl) (by rfl) [.int .i64 0, .int .i64 nn, .slice ao1 (T.dir i).length c1] (by rfl) (by simp [Value.oneCell']) (szOf (by rfl)) Has.z (by rfl) ?_; intro w1 hS1; clear hS; have hS := hS1; clear hS1; dsimp only [List.set_cons_zero] at hS)
          | (refine toList (by rfl) ?_; refine ld hS _ _ (by rfl) _ _ (by rfl) (agOf (by rfl)) Has.z (by rfl) ?_))
        go_ret2
        rw [HF.out]
        exact ⟨rfl, IsT.mk hS.drop⟩
      · have HN2 := Lib.hid (show ∀ j, j < i + 1 → T.kind j ≠ 0 from fun j hj => by
          rcases Nat.lt_or_ge j i with h | h
          · exact HNO.out j h
          · obtain rfl : j = i := by omega
            exact h0)
        obtain ⟨kk, hkk⟩ : ∃ kk, T.kind i = kk := ⟨_, rfl⟩
        obtain ⟨nn, hnn⟩ : ∃ nn, T.lnk i = nn := ⟨_, rfl⟩
        rw [hkk, hnn] at hix
        rw [hkk] at h0
        have e1 : (kk == 0) = false := beq_eq_false_iff_ne.2 h0
        clear hlt hi hv h0 hnn hkk
        go_wp2_with (first
          | (refine toList (by rfl) ?_; refine al hS _ (by rfl) (zrOf (by rfl)) ?_; intro px w1 hS1; clear hS; have hS := hS1; clear hS1; rw [cells_agg] at hS)
          | (refine toList (by rfl) ?_; refine stW hS _ _ _ (by rfl) (by rfl) [.int .i64 kk, .int .i64 nn, .slice ao1 (T.dir i).length c1] (by rfl) (by simp [Value.oneCell']) (szOf (by rfl)) Has.z (by rfl) ?_; intro w1 hS1; clear hS; have hS := hS1; clear hS1; dsimp only [List.set_cons_zero] at hS)
          | (refine toList (by rfl) ?_; refine ld hS _ _ (by rfl) _ _ (by rfl) (agOf (by rfl)) Has.z (by rfl) ?_))
        exact ⟨⟨i + 1, by go_num, HLT.out, HN2.out, hS.drop⟩, by simp [intOf]; have := HLT.out; omega⟩
    · have k1 : ¬ (i : Int) < 48 := by omega
      have HF := Lib.hid (HT.out.free_not fun j hj => HNO.out j (by omega))
      clear hlt
      go_wp2
      go_ret2
      rw [HF.out]
      exact ⟨rfl, IsT.mk hS⟩
end Go.Proofs.Ytiieicdhkcikpaa
namespace Go.Proofs.Ytiieicdhkcikpaa
open Go.RowKit Go.Sep
set_option linter.unusedSimpArgs false
set_option linter.unusedVariables false
attribute [local irreducible] Go.Oper.wp Go.wpList Go.Calls Go.Code.wp Go.Sep.Reg
attribute [local irreducible] IsT IsW
theorem has_app {L L' : List Asrt} {A : Asrt} : Has (L' ++ A :: L) L'.length A := by unfold Has; simp
set_option maxRecDepth 20000 in
set_option maxHeartbeats 1000000 in
theorem tplace_any {W w : World} {L : List Asrt} {p : Nat} {T : TrD} (hS : Sat W w (IsT p T :: L)) (hT : T.Ok) (l : List (List UInt8)) (ao : Option Addr) (c : Nat) (hr : ∀ w L', Sat W w (L' ++ L) → Rd w (.slice ao l.length c) l.length 1 (l.flatMap sv1)) (hl : l.length ≤ 1000000) :
    Calls Try.prog 33 #[.pointer (some ⟨p, 0, none⟩), .slice ao l.length c] w fun r w' => ∃ (d : Int) (nm : List UInt8), r = .returned (.tuple #[.int .i64 d, sv nm, .int .i64 (T.pE l)]) ∧ (T.pE l = 0 → d = T.pD l ∧ nm = TrD.lastN l) ∧ Sat W w' (IsT p T :: L) := by
  have HP := Lib.hid (fun w (h : Sat W w (IsT p T :: L)) => parent_any h l ao c (fun w L' h => hr w (L' ++ [IsT p T]) (by rw [List.append_assoc]; exact h)) hl)
  have HT := Lib.hid hT
  have HTL : l.dropLast.length ≤ 1000000 := by rw [List.length_dropLast]; omega
  have HW := Lib.hid (fun w at2 ct2 (h : Sat W w (IsT p T :: Tb 9 1 sv1 (.slice at2 l.dropLast.length ct2) l.dropLast :: L)) => twalk_any h HT.out l.dropLast at2 ct2 (fun w L' h => h.tbRd has_app) HTL)
  have HN := Lib.hid (fun w => name_any (TrD.lastN l) w)
  obtain ⟨q, hq⟩ : ∃ q, l.dropLast = q := ⟨_, rfl⟩
  rw [hq] at HP HW
  clear hT hr hl HTL
  by_cases h0 : l = []
  · have he : T.pE l = 1 := by unfold TrD.pE; rw [if_pos h0]
    rw [decide_eq_true h0] at HP
    rw [he]
    clear he h0
    go_enter Try.func33, Try.ntmps33
    go_wp2_with (go_at_call 58; refine (HP.out _ hS).mono ?_; rintro r w1 ⟨tv, rfl, hS1⟩; clear hS; have hS := hS1; clear hS1; obtain ⟨at2, ct2, rfl, _⟩ := hS.tbShape (k := 0) rfl)
    go_ret3
    exact ⟨0, [], rfl, (fun h => absurd h (by decide)), hS.drop⟩
  · rw [decide_eq_false h0] at HP
    cases hn : nameOk (TrD.lastN l) with
    | false =>
      have he : T.pE l = 1 := by unfold TrD.pE; rw [if_neg h0, hn, if_neg (by decide)]
      rw [hn] at HN
      rw [he]
      clear he h0 hn
      go_enter Try.func33, Try.ntmps33
      go_wp2_with (first
        | (go_at_call 58; refine (HP.out _ hS).mono ?_; rintro r w1 ⟨tv, rfl, hS1⟩; clear hS; have hS := hS1; clear hS1; obtain ⟨at2, ct2, rfl, _⟩ := hS.tbShape (k := 0) rfl)
        | (go_at_call 52; refine (HN.out _).mono ?_; rintro r w1 ⟨rfl, rfl⟩))
      go_ret3
      exact ⟨0, [], rfl, (fun h => absurd h (by decide)), hS.drop⟩
    | true =>
      rw [hn] at HN
      obtain ⟨d, hd, hd48⟩ := HT.out.walk_lt l.dropLast 0 (by omega)
      obtain ⟨we, hwe⟩ : ∃ we, (T.walk 0 l.dropLast).2 = we := ⟨_, rfl⟩
      have hpd : T.pD l = d := by unfold TrD.pD; rw [hd]; rfl
      have hpe : T.pE l = if we = 0 then (if T.kind d = 2 then 0 else 8) else we := by
        unfold TrD.pE
        rw [if_neg h0, hn, if_pos rfl, hd, hwe, Int.toNat_natCast]
      rw [hq] at hd hwe
      rw [hd, hwe] at HW
      rw [hpd]
      have HPE := Lib.hid hpe
      have k1 : (d : Int) < 48 := by omega
      obtain ⟨kk, hkk⟩ : ∃ kk, T.kind d = kk := ⟨_, rfl⟩
      clear h0 hn hd hwe hpd hq
      have harm : True := trivial
      by_cases hz : we = 0
      · subst hz
        rw [if_pos rfl, hkk] at hpe
        by_cases h2 : kk = 2
        · have e1 : (kk != 2) = false := by rw [h2]; rfl
          rw [if_pos h2] at hpe
          rw [hpe]
          clear hpe h2 HPE
          go_enter Try.func33, Try.ntmps33
          go_wp2_with (first
            | (go_at_call 58; refine (HP.out _ hS).mono ?_; rintro r w1 ⟨tv, rfl, hS1⟩; clear hS; have hS := hS1; clear hS1; obtain ⟨at2, ct2, rfl, _⟩ := hS.tbShape (k := 0) rfl)
            | (go_at_call 52; refine (HN.out _).mono ?_; rintro r w1 ⟨rfl, rfl⟩)
            | (go_at_call 26; refine (HW.out _ _ _ hS.pull1).mono ?_; rintro r w1 ⟨rfl, hS1⟩; clear hS; have hS := hS1; clear hS1; obtain ⟨v1, vt1, hO⟩ := IsT.open hS; clear hS; have hS := hO; clear hO)
            | (refine toList (by rfl) ?_; refine ld hS _ _ (by rfl) _ _ (by rfl) (agOf (by rfl)) Has.z (tl_at (i := d) (j := 0) (u := .int .i64 kk) hd48 (by omega) (by rw [← hkk]; rfl)) ?_))
          go_ret3
          exact ⟨d, TrD.lastN l, rfl, (fun _ => ⟨rfl, rfl⟩), (IsT.mk hS).pull1.drop⟩
        · have e1 : (kk != 2) = true := bne_iff_ne.2 h2
          rw [if_neg h2] at hpe
          rw [hpe]
          clear hpe h2 HPE
          go_enter Try.func33, Try.ntmps33
          go_wp2_with (first
            | (go_at_call 58; refine (HP.out _ hS).mono ?_; rintro r w1 ⟨tv, rfl, hS1⟩; clear hS; have hS := hS1; clear hS1; obtain ⟨at2, ct2, rfl, _⟩ := hS.tbShape (k := 0) rfl)
            | (go_at_call 52; refine (HN.out _).mono ?_; rintro r w1 ⟨rfl, rfl⟩)
            | (go_at_call 26; refine (HW.out _ _ _ hS.pull1).mono ?_; rintro r w1 ⟨rfl, hS1⟩; clear hS; have hS := hS1; clear hS1; obtain ⟨v1, vt1, hO⟩ := IsT.open hS; clear hS; have hS := hO; clear hO)
            | (refine toList (by rfl) ?_; refine ld hS _ _ (by rfl) _ _ (by rfl) (agOf (by rfl)) Has.z (tl_at (i := d) (j := 0) (u := .int .i64 kk) hd48 (by omega) (by rw [← hkk]; rfl)) ?_))
          go_ret3
          exact ⟨d, TrD.lastN l, rfl, (fun h => absurd h (by decide)), (IsT.mk hS).pull1.drop⟩
      · have e1 : (we == 0) = false := beq_eq_false_iff_ne.2 hz
        rw [if_neg hz] at hpe
        rw [hpe]
        have HZ := Lib.hid hz
        clear hpe hz HPE
        go_enter Try.func33, Try.ntmps33
        go_wp2_with (first
          | (go_at_call 58; refine (HP.out _ hS).mono ?_; rintro r w1 ⟨tv, rfl, hS1⟩; clear hS; have hS := hS1; clear hS1; obtain ⟨at2, ct2, rfl, _⟩ := hS.tbShape (k := 0) rfl)
          | (go_at_call 52; refine (HN.out _).mono ?_; rintro r w1 ⟨rfl, rfl⟩)
          | (go_at_call 26; refine (HW.out _ _ _ hS.pull1).mono ?_; rintro r w1 ⟨rfl, hS1⟩; clear hS; have hS := hS1; clear hS1))
        go_ret3
        exact ⟨d, TrD.lastN l, rfl, (fun h => absurd h HZ.out), hS.pull1.drop⟩
end Go.Proofs.Ytiieicdhkcikpaa
namespace Go.Proofs.Ytiieicdhkcikpaa
open Go.RowKit Go.Sep
set_option linter.unusedSimpArgs false
set_option linter.unusedVariables false
attribute [local irreducible] Go.Oper.wp Go.wpList Go.Calls Go.Code.wp Go.Sep.Reg
set_option maxRecDepth 20000 in
set_option maxHeartbeats 1000000 in
theorem sequal_any {W w : World} {L : List Asrt} (hS : Sat W w L) (l m : List (List UInt8)) (ao ao' : Option Addr) (c c' : Nat) (hr : ∀ w, Sat W w L → Rd w (.slice ao l.length c) l.length 1 (l.flatMap sv1)) (hr' : ∀ w, Sat W w L → Rd w (.slice ao' l.length c') l.length 1 (m.flatMap sv1)) (hlm : m.length = l.length) (hl : l.length ≤ 1000000) :
    Calls Try.prog 70 #[.slice ao l.length c, .slice ao' l.length c'] w fun r w' => r = .returned (.bool (decide (l = m))) ∧ Sat W w' L := by
  have HR := Lib.hid hr
  have HR' := Lib.hid hr'
  obtain ⟨_, _, he, hc1, hc2, _, h5⟩ := hr w hS
  simp only [Value.slice.injEq, true_and] at he
  obtain ⟨rfl, rfl⟩ := he
  obtain ⟨_, _, he, hd1, hd2, _, h5'⟩ := hr' w hS
  simp only [Value.slice.injEq, true_and] at he
  obtain ⟨rfl, rfl⟩ := he
  have H5 := Lib.hid h5
  have H5' := Lib.hid h5'
  have HLM := Lib.hid hlm
  have HS := Lib.hid hS
  have hli : (l.length : Int) ≤ 1000000 := by omega
  clear hr hr' h5 h5' hlm
  go_enter Try.func70, Try.ntmps70
  go_wp2
  go_loopw [13] (fun v wz => ∃ k : Nat, v = .int .i64 k ∧ k ≤ l.length ∧ l.take k = m.take k ∧ Sat W wz L) (fun v _ => l.length - (intOf v).toNat)
  case atStart => exact ⟨0, rfl, by omega, rfl, HS.out⟩
  case round =>
    clear hS
    obtain ⟨k, rfl, hk, htk, hS⟩ := hrel
    clear HS
    have HTK := Lib.hid htk
    clear htk
    by_cases hlt : k < l.length
    · have k1 : (k : Int) < (l.length : Int) := by omega
      have HLT := Lib.hid hlt
      obtain ⟨b, off, rfl, _⟩ := H5.out (by omega)
      obtain ⟨b', off', rfl, _⟩ := H5'.out (by omega)
      obtain ⟨x, hx⟩ : ∃ x, l[k]? = some x := ⟨_, List.getElem?_eq_getElem hlt⟩
      obtain ⟨y, hy⟩ : ∃ y, m[k]? = some y := ⟨_, List.getElem?_eq_getElem (by have := HLM.out; omega)⟩
      have HX := Lib.hid hx
      have HY := Lib.hid hy
      clear hx hy hlt hk
      by_cases hq : x = y
      · have e1 : (x == y) = true := beq_iff_eq.2 hq
        have HN := Lib.hid (show l.take (k + 1) = m.take (k + 1) by rw [List.take_add_one, List.take_add_one, HX.out, HY.out, HTK.out, hq])
        subst hq
        go_wp2
        refine regStart [] hS (by kernel_rfl) rfl ?_
        intro w1 hS1
        clear hS; have hS := hS1; clear hS1
        (refine regP 0 hS (fun _ h => h) rfl (by kernel_rfl) (by kernel_rfl) (by kernel_rfl) (fun _ _ _ _ h => h) (by rfl) (by rfl) ?_; apply Exists.intro; apply And.intro; (intro w; go_simp; try with_reducible rfl); go_frame)
        (refine regP 1 hS (fun _ h => h) rfl (by kernel_rfl) (by kernel_rfl) (by kernel_rfl) (fun _ _ _ _ h => h) (by rfl) (by rfl) ?_; apply Exists.intro; apply And.intro; (intro w; go_simp; try with_reducible rfl); go_frame)
        (refine regP 2 hS (fun _ h => h) rfl (by kernel_rfl) (by kernel_rfl) (by kernel_rfl) (fun _ _ _ _ h => h) (by rfl) (by rfl) ?_; apply Exists.intro; apply And.intro; (intro w; go_simp; try with_reducible rfl); go_frame)
        (refine regR 3 hS (fun _ h => h) rfl (by kernel_rfl) (by kernel_rfl) (by kernel_rfl) (by kernel_rfl) (by kernel_rfl) (fun _ _ _ _ h => h) (by rfl) (by rfl) ?_; (first
                          | refine ⟨.string ⟨x.toArray⟩, fun u hu => rLdRd (f := sv1) (x := x) (HR.out _ hu) (sv1_len l) _ _ (by rfl) _ (by rfl) (agOf (by rfl)) k 0 (by omega) HX.out (by rfl) (by omega), ?_⟩
                          | refine ⟨.string ⟨x.toArray⟩, fun u hu => rLdRd (f := sv1) (x := x) (HR'.out _ hu) (sv1_len m) _ _ (by rfl) _ (by rfl) (agOf (by rfl)) k 0 (by omega) HY.out (by rfl) (by omega), ?_⟩); go_frame)
        (refine regP 4 hS (fun _ h => h) rfl (by kernel_rfl) (by kernel_rfl) (by kernel_rfl) (fun _ _ _ _ h => h) (by rfl) (by rfl) ?_; apply Exists.intro; apply And.intro; (intro w; go_simp; try with_reducible rfl); go_frame)
        (refine regP 5 hS (fun _ h => h) rfl (by kernel_rfl) (by kernel_rfl) (by kernel_rfl) (fun _ _ _ _ h => h) (by rfl) (by rfl) ?_; apply Exists.intro; apply And.intro; (intro w; go_simp; try with_reducible rfl); go_frame)
        (refine regP 6 hS (fun _ h => h) rfl (by kernel_rfl) (by kernel_rfl) (by kernel_rfl) (fun _ _ _ _ h => h) (by rfl) (by rfl) ?_; apply Exists.intro; apply And.intro; (intro w; go_simp; try with_reducible rfl); go_frame)
        (refine regR 7 hS (fun _ h => h) rfl (by kernel_rfl) (by kernel_rfl) (by kernel_rfl) (by kernel_rfl) (by kernel_rfl) (fun _ _ _ _ h => h) (by rfl) (by rfl) ?_; (first
                          | refine ⟨.string ⟨x.toArray⟩, fun u hu => rLdRd (f := sv1) (x := x) (HR.out _ hu) (sv1_len l) _ _ (by rfl) _ (by rfl) (agOf (by rfl)) k 0 (by omega) HX.out (by rfl) (by omega), ?_⟩
                          | refine ⟨.string ⟨x.toArray⟩, fun u hu => rLdRd (f := sv1) (x := x) (HR'.out _ hu) (sv1_len m) _ _ (by rfl) _ (by rfl) (agOf (by rfl)) k 0 (by omega) HY.out (by rfl) (by omega), ?_⟩); go_frame)
        (refine regP 8 hS (fun _ h => h) rfl (by kernel_rfl) (by kernel_rfl) (by kernel_rfl) (fun _ _ _ _ h => h) (by rfl) (by rfl) ?_; apply Exists.intro; apply And.intro; (intro w; go_simp; try with_reducible rfl); go_frame)
        refine regDone (by kernel_rfl) ?_
        go_wp2
        exact ⟨⟨k + 1, by go_num, HLT.out, HN.out, hS⟩, by simp [intOf]; have := HLT.out; omega⟩
      · have e1 : (x == y) = false := beq_eq_false_iff_ne.2 hq
        have HN := Lib.hid (show decide (l = m) = false from decide_eq_false fun e => by subst e; exact hq (Option.some.inj (HX.out.symm.trans HY.out)))
        clear hq
        go_wp2
        refine regStart [] hS (by kernel_rfl) rfl ?_
        intro w1 hS1
        clear hS; have hS := hS1; clear hS1
        (refine regP 0 hS (fun _ h => h) rfl (by kernel_rfl) (by kernel_rfl) (by kernel_rfl) (fun _ _ _ _ h => h) (by rfl) (by rfl) ?_; apply Exists.intro; apply And.intro; (intro w; go_simp; try with_reducible rfl); go_frame)
        (refine regP 1 hS (fun _ h => h) rfl (by kernel_rfl) (by kernel_rfl) (by kernel_rfl) (fun _ _ _ _ h => h) (by rfl) (by rfl) ?_; apply Exists.intro; apply And.intro; (intro w; go_simp; try with_reducible rfl); go_frame)
        (refine regP 2 hS (fun _ h => h) rfl (by kernel_rfl) (by kernel_rfl) (by kernel_rfl) (fun _ _ _ _ h => h) (by rfl) (by rfl) ?_; apply Exists.intro; apply And.intro; (intro w; go_simp; try with_reducible rfl); go_frame)
        (refine regR 3 hS (fun _ h => h) rfl (by kernel_rfl) (by kernel_rfl) (by kernel_rfl) (by kernel_rfl) (by kernel_rfl) (fun _ _ _ _ h => h) (by rfl) (by rfl) ?_; (first
                          | refine ⟨.string ⟨x.toArray⟩, fun u hu => rLdRd (f := sv1) (x := x) (HR.out _ hu) (sv1_len l) _ _ (by rfl) _ (by rfl) (agOf (by rfl)) k 0 (by omega) HX.out (by rfl) (by omega), ?_⟩
                          | refine ⟨.string ⟨y.toArray⟩, fun u hu => rLdRd (f := sv1) (x := y) (HR'.out _ hu) (sv1_len m) _ _ (by rfl) _ (by rfl) (agOf (by rfl)) k 0 (by omega) HY.out (by rfl) (by omega), ?_⟩); go_frame)
        (refine regP 4 hS (fun _ h => h) rfl (by kernel_rfl) (by kernel_rfl) (by kernel_rfl) (fun _ _ _ _ h => h) (by rfl) (by rfl) ?_; apply Exists.intro; apply And.intro; (intro w; go_simp; try with_reducible rfl); go_frame)
        (refine regP 5 hS (fun _ h => h) rfl (by kernel_rfl) (by kernel_rfl) (by kernel_rfl) (fun _ _ _ _ h => h) (by rfl) (by rfl) ?_; apply Exists.intro; apply And.intro; (intro w; go_simp; try with_reducible rfl); go_frame)
        (refine regP 6 hS (fun _ h => h) rfl (by kernel_rfl) (by kernel_rfl) (by kernel_rfl) (fun _ _ _ _ h => h) (by rfl) (by rfl) ?_; apply Exists.intro; apply And.intro; (intro w; go_simp; try with_reducible rfl); go_frame)
        (refine regR 7 hS (fun _ h => h) rfl (by kernel_rfl) (by kernel_rfl) (by kernel_rfl) (by kernel_rfl) (by kernel_rfl) (fun _ _ _ _ h => h) (by rfl) (by rfl) ?_; (first
                          | refine ⟨.string ⟨x.toArray⟩, fun u hu => rLdRd (f := sv1) (x := x) (HR.out _ hu) (sv1_len l) _ _ (by rfl) _ (by rfl) (agOf (by rfl)) k 0 (by omega) HX.out (by rfl) (by omega), ?_⟩
                          | refine ⟨.string ⟨y.toArray⟩, fun u hu => rLdRd (f := sv1) (x := y) (HR'.out _ hu) (sv1_len m) _ _ (by rfl) _ (by rfl) (agOf (by rfl)) k 0 (by omega) HY.out (by rfl) (by omega), ?_⟩); go_frame)
        (refine regP 8 hS (fun _ h => h) rfl (by kernel_rfl) (by kernel_rfl) (by kernel_rfl) (fun _ _ _ _ h => h) (by rfl) (by rfl) ?_; apply Exists.intro; apply And.intro; (intro w; go_simp; try with_reducible rfl); go_frame)
        refine regDone (by kernel_rfl) ?_
        go_wp2
        go_ret
        rw [HN.out]
        exact ⟨rfl, hS⟩
    · have k1 : ¬ (k : Int) < (l.length : Int) := by omega
      have HN := Lib.hid (show decide (l = m) = true from decide_eq_true (by
        have := HTK.out
        rw [List.take_of_length_le (by omega), List.take_of_length_le (by have := HLM.out; omega)] at this
        exact this))
      clear hlt
      go_wp2
      go_ret
      rw [HN.out]
      exact ⟨rfl, hS⟩
theorem under_take {l top : List (List UInt8)} : TrD.under l top = if top.length ≤ l.length then decide (l.take top.length = top) else false := by
  unfold TrD.under
  split
  · rename_i h; rw [decide_eq_true h, Bool.true_and]
  · rename_i h; rw [decide_eq_false h, Bool.false_and]
set_option maxRecDepth 20000 in
set_option maxHeartbeats 1000000 in
theorem under_any {W w : World} {L : List Asrt} (hS : Sat W w L) (l m : List (List UInt8)) (ao ao' : Option Addr) (c c' : Nat) (hr : ∀ w, Sat W w L → Rd w (.slice ao l.length c) l.length 1 (l.flatMap sv1)) (hr' : ∀ w, Sat W w L → Rd w (.slice ao' m.length c') m.length 1 (m.flatMap sv1)) (hl : l.length ≤ 1000000) (hm : m.length ≤ 1000000) :
    Calls Try.prog 53 #[.slice ao l.length c, .slice ao' m.length c'] w fun r w' => r = .returned (.bool (TrD.under l m)) ∧ Sat W w' L := by
  rw [under_take]
  by_cases h : m.length ≤ l.length
  · rw [if_pos h]
    have hcl : l.length ≤ c := by
      obtain ⟨_, _, he, hc1, _⟩ := hr w hS
      simp only [Value.slice.injEq, true_and] at he
      obtain ⟨rfl, rfl⟩ := he
      exact hc1
    have HEQ := Lib.hid (fun w (h2 : Sat W w L) => (show Calls Try.prog 70 #[.slice ao m.length c, .slice ao' m.length c'] w fun r w' => r = .returned (.bool (decide (l.take m.length = m))) ∧ Sat W w' L by
      have hlt : (l.take m.length).length = m.length := by rw [List.length_take]; omega
      have := sequal_any h2 (l.take m.length) m ao ao' c c' (fun w h => by have := srd_take (hr w h) m.length (by omega); rw [hlt] at this ⊢; exact this) (fun w h => by rw [hlt]; exact hr' w h) (by rw [hlt]) (by rw [hlt]; exact hm)
      rw [hlt] at this
      exact this))
    have e1 : (m.length : Int) ≤ (l.length : Int) := by omega
    have e2 : decide ((m.length : Int) ≤ (l.length : Int)) = true := decide_eq_true e1
    have e3 : decide (m.length ≤ l.length) = true := decide_eq_true h
    have e4 : (m.length : Int) ≤ (c : Int) := by omega
    have e5 : m.length ≤ c := by omega
    obtain ⟨bb, hbb⟩ : ∃ bb, decide (l.take m.length = m) = bb := ⟨_, rfl⟩
    rw [hbb] at HEQ ⊢
    clear hr hr' hbb
    go_enter Try.func53, Try.ntmps53
    go_wp2_with (go_at_call 70; refine (HEQ.out _ hS).mono ?_; rintro r w1 ⟨rfl, hS1⟩; clear hS; have hS := hS1; clear hS1)
    go_ret
    exact ⟨rfl, hS⟩
  · rw [if_neg h]
    have e1 : ¬ (m.length : Int) ≤ (l.length : Int) := by omega
    have e2 : decide ((m.length : Int) ≤ (l.length : Int)) = false := decide_eq_false e1
    have e3 : decide (m.length ≤ l.length) = false := decide_eq_false h
    clear hr hr'
    go_enter Try.func53, Try.ntmps53
    go_wp2
    go_ret
    exact ⟨rfl, hS⟩
end Go.Proofs.Ytiieicdhkcikpaa
