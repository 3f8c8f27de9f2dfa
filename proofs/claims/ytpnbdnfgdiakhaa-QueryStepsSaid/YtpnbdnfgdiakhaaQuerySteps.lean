/-
  For all calls and nodes, QuerySteps answers true: no condition.
-/
import Derived.Test.YtpnbdnfgdiakhaaQuStepP
import Derived.Test.YtpnbdnfgdiakhaaMReg
namespace Go.Proofs.Ytpnbdnfgdiakhaa
open Go.RowKit Go.Sep Go.ChangeShapes Go.WideShapes Go.ChangeAt
set_option linter.unusedSimpArgs false
set_option linter.unusedVariables false
attribute [local irreducible] Go.Oper.wp Go.wpList Go.Calls Go.Code.wp Go.Sep.Reg
attribute [local irreducible] IsG
theorem sat_nilS {W w : World} : ∀ {L : List Asrt}, Sat W w L → Sat W w []
  | [], h => h
  | _ :: _, h => sat_nilS h.drop
theorem ivz_ivS (l : List Nat) : ivz (l.map fun (n : Nat) => (n : Int)) = iv l := by simp [ivz, iv]
theorem fmStep1 (o n : Int) : ([Value.agg #[.int .i64 o, .int .i64 n, .slice none 0 0]].flatMap fun v => v.cells.toList) = [leafQ o n].flatMap qv := by simp [Value.cells, leafQ, qv, StepD.op, StepD.n, StepD.u]
theorem fmStep2 (o n o2 n2 : Int) : ([Value.agg #[.int .i64 o, .int .i64 n, .slice none 0 0], Value.agg #[.int .i64 o2, .int .i64 n2, .slice none 0 0]].flatMap fun v => v.cells.toList) = [leafQ o n, leafQ o2 n2].flatMap qv := by simp [Value.cells, leafQ, qv, StepD.op, StepD.n, StepD.u]
theorem stepAgg (o n : Int) : ∀ v ∈ [Value.agg #[.int .i64 o, .int .i64 n, .slice none 0 0]], v.cells.size = 3 := fun v h => by rw [List.mem_singleton.1 h]; simp [Value.cells]
theorem stepAgg2 (o n o2 n2 : Int) : ∀ v ∈ [Value.agg #[.int .i64 o, .int .i64 n, .slice none 0 0], Value.agg #[.int .i64 o2, .int .i64 n2, .slice none 0 0]], v.cells.size = 3 := fun v h => by
  rcases List.mem_cons.1 h with rfl | h
  · simp [Value.cells]
  · rw [List.mem_singleton.1 h]; simp [Value.cells]
/-- A question without kids. -/
theorem listL_any {W w : World} {M : List Asrt} {p : Nat} {G : Gr} {va : Value} (hG : G.Ok) (hA : G.Acyc) (o n : Int) (l : List Nat) (hS : Sat W w (IsG p G :: Ir va l :: M)) :
    Calls Try.prog 20 #[.pointer (some ⟨p, 0, none⟩), .agg #[.int .i64 o, .int .i64 n, .slice none 0 0], va] w fun e w' => ∃ ao c, e = .returned (.slice ao (ql G (leafQ o n) l).length c) ∧ Sat W w' (Ir (.slice ao (ql G (leafQ o n) l).length c) (ql G (leafQ o n) l) :: IsG p G :: Ir va l :: M) := by
  have := list_any hS hG hA (leafQ o n) (fun w L' _ => leaf_rd o n w 11) (l.map fun (n : Nat) => (n : Int)) va (fun w L' h => by
    rw [ivz_ivS, List.length_map]
    exact h.irRd (has_app _ _ _))
  refine this.mono ?_
  rintro e w' ⟨v, he, hs⟩
  obtain ⟨_, h2⟩ := irnOpen hs
  obtain ⟨ao, c, rfl, _⟩ := h2.irShape (k := 0) rfl
  exact ⟨ao, c, he, h2⟩
/-- A question whose kids stand in a row of their own. -/
theorem listC_any {W w : World} {M : List Asrt} {p bk : Nat} {G : Gr} {va : Value} (hG : G.Ok) (hA : G.Acyc) (o : Int) (ks : List StepD) (hk0 : 0 < ks.length) (hk1 : ks.length ≤ 100) (hk : ∀ k ∈ ks, ∃ o n, k = leafQ o n) (l : List Nat) (hS : Sat W w (IsG p G :: Cs bk 49 (ks.flatMap qv) :: Ir va l :: M)) :
    Calls Try.prog 20 #[.pointer (some ⟨p, 0, none⟩), .agg #[.int .i64 o, .int .i64 0, .slice (some ⟨bk, 0, none⟩) ks.length ks.length], va] w fun e w' => ∃ ao c, e = .returned (.slice ao (ql G (.mk o 0 (.slice (some ⟨bk, 0, none⟩) ks.length ks.length) ks) l).length c) ∧ Sat W w' (Ir (.slice ao (ql G (.mk o 0 (.slice (some ⟨bk, 0, none⟩) ks.length ks.length) ks) l).length c) (ql G (.mk o 0 (.slice (some ⟨bk, 0, none⟩) ks.length ks.length) ks) l) :: IsG p G :: Cs bk 49 (ks.flatMap qv) :: Ir va l :: M) := by
  have := list_any hS hG hA (.mk o 0 (.slice (some ⟨bk, 0, none⟩) ks.length ks.length) ks) (fun w L' h => ⟨h.csRd0 (n := ks.length) (sz := 3) (has_app _ _ _) (by omega) (by show (ks.flatMap qv).length = ks.length * 3; exact fm_len (fun _ _ => rfl)), fun k hm => by
      obtain ⟨o, n, rfl⟩ := hk k hm
      exact leaf_rd o n w 10⟩) (l.map fun (n : Nat) => (n : Int)) va (fun w L' h => by
    rw [ivz_ivS, List.length_map]
    exact h.irRd (k := L'.length + 1) (by unfold Has; simp))
  refine this.mono ?_
  rintro e w' ⟨v, he, hs⟩
  obtain ⟨_, h2⟩ := irnOpen hs
  obtain ⟨ao, c, rfl, _⟩ := h2.irShape (k := 0) rfl
  exact ⟨ao, c, he, h2⟩
/-- Those above some nodes. -/
structure StOk (G : Gr) (fr st : List Nat) : Prop where
  lt : st.Pairwise (· < ·)
  low : ∀ m ∈ st, m < G.N.length
  all : SA G fr fr.length [] 0 = fun t => decide (t ∈ st)
  again : ∀ u, ql G (starQ u) st = st
theorem stOk {G : Gr} {fr : List Nat} (hfr : ∀ m ∈ fr, m < G.N.length) (u : Value) : StOk G fr (ql G (starQ u) fr) where
  lt := ql_lt ..
  low := ql_low
  all := funext fun t => SA_all hfr u t
  again := fun u2 => star_star hfr u u2
theorem leafs1 : ∀ k ∈ [leafQ 1 0], ∃ o n, k = leafQ o n := fun k hk => ⟨_, _, List.mem_singleton.1 hk⟩
theorem leafs2 : ∀ k ∈ [leafQ 1 0, leafQ 2 0], ∃ o n, k = leafQ o n := fun k hk => by
  rcases List.mem_cons.1 hk with rfl | hk
  · exact ⟨_, _, rfl⟩
  · exact ⟨_, _, List.mem_singleton.1 hk⟩
theorem star1_any {W w : World} {M : List Asrt} {p bk : Nat} {G : Gr} {va : Value} (hG : G.Ok) (hA : G.Acyc) {fr : List Nat} (hfr : ∀ m ∈ fr, m < G.N.length) (hS : Sat W w (IsG p G :: Cs bk 49 ([leafQ 1 0].flatMap qv) :: Ir va fr :: M)) :
    Calls Try.prog 20 #[.pointer (some ⟨p, 0, none⟩), .agg #[.int .i64 5, .int .i64 0, .slice (some ⟨bk, 0, none⟩) 1 1], va] w fun e w' => ∃ ao c st, e = .returned (.slice ao st.length c) ∧ StOk G fr st ∧ Sat W w' (Ir (.slice ao st.length c) st :: IsG p G :: Cs bk 49 ([leafQ 1 0].flatMap qv) :: Ir va fr :: M) := by
  refine (listC_any hG hA 5 [leafQ 1 0] (by decide) (by decide) leafs1 fr hS).mono ?_
  rintro e w' ⟨ao, c, he, h⟩
  exact ⟨ao, c, _, he, stOk hfr (.slice (some ⟨bk, 0, none⟩) 1 1), h⟩
theorem star2_any {W w : World} {M : List Asrt} {p bk : Nat} {G : Gr} {va : Value} (hG : G.Ok) (hA : G.Acyc) {fr st : List Nat} (hst : StOk G fr st) (hS : Sat W w (IsG p G :: Cs bk 49 ([leafQ 1 0].flatMap qv) :: Ir va st :: M)) :
    Calls Try.prog 20 #[.pointer (some ⟨p, 0, none⟩), .agg #[.int .i64 5, .int .i64 0, .slice (some ⟨bk, 0, none⟩) 1 1], va] w fun e w' => ∃ ao c, e = .returned (.slice ao st.length c) ∧ Sat W w' (Ir (.slice ao st.length c) st :: IsG p G :: Cs bk 49 ([leafQ 1 0].flatMap qv) :: Ir va st :: M) := by
  have := listC_any hG hA 5 [leafQ 1 0] (by decide) (by decide) leafs1 st hS
  have e : ql G (.mk 5 0 (.slice (some ⟨bk, 0, none⟩) [leafQ 1 0].length [leafQ 1 0].length) [leafQ 1 0]) st = st := hst.again _
  rw [e] at this
  exact this
theorem or_any {W w : World} {M : List Asrt} {p bk : Nat} {G : Gr} {va : Value} (hG : G.Ok) (hA : G.Acyc) {fr up dn : List Nat} (hfr : ∀ m ∈ fr, m < G.N.length) (hu : ql G (leafQ 1 0) fr = up) (hd : ql G (leafQ 2 0) fr = dn) (hS : Sat W w (IsG p G :: Cs bk 49 ([leafQ 1 0, leafQ 2 0].flatMap qv) :: Ir va fr :: M)) :
    Calls Try.prog 20 #[.pointer (some ⟨p, 0, none⟩), .agg #[.int .i64 6, .int .i64 0, .slice (some ⟨bk, 0, none⟩) 2 2], va] w fun e w' => ∃ ao c ol, e = .returned (.slice ao ol.length c) ∧ ol.length ≤ up.length + dn.length ∧ (∀ m ∈ ol, m < G.N.length) ∧ Sat W w' (Ir (.slice ao ol.length c) ol :: IsG p G :: Cs bk 49 ([leafQ 1 0, leafQ 2 0].flatMap qv) :: Ir va fr :: M) := by
  subst hu; subst hd
  refine (listC_any hG hA 6 [leafQ 1 0, leafQ 2 0] (by decide) (by decide) leafs2 fr hS).mono ?_
  rintro e w' ⟨ao, c, he, h⟩
  exact ⟨ao, c, _, he, or_len hfr (.slice (some ⟨bk, 0, none⟩) 2 2), ql_low, h⟩
theorem then_any {W w : World} {M : List Asrt} {p bk : Nat} {G : Gr} {va : Value} (hG : G.Ok) (hA : G.Acyc) {fr dd : List Nat} (hfr : ∀ m ∈ fr, m < G.N.length) (hd : ql G (leafQ 2 0) (ql G (leafQ 1 0) fr) = dd) (hS : Sat W w (IsG p G :: Cs bk 49 ([leafQ 1 0, leafQ 2 0].flatMap qv) :: Ir va fr :: M)) :
    Calls Try.prog 20 #[.pointer (some ⟨p, 0, none⟩), .agg #[.int .i64 7, .int .i64 0, .slice (some ⟨bk, 0, none⟩) 2 2], va] w fun e w' => ∃ ao c, e = .returned (.slice ao dd.length c) ∧ Sat W w' (Ir (.slice ao dd.length c) dd :: IsG p G :: Cs bk 49 ([leafQ 1 0, leafQ 2 0].flatMap qv) :: Ir va fr :: M) := by
  subst hd
  have := listC_any hG hA 7 [leafQ 1 0, leafQ 2 0] (by decide) (by decide) leafs2 fr hS
  have e : ql G (.mk 7 0 (.slice (some ⟨bk, 0, none⟩) [leafQ 1 0, leafQ 2 0].length [leafQ 1 0, leafQ 2 0].length) [leafQ 1 0, leafQ 2 0]) fr = ql G (leafQ 2 0) (ql G (leafQ 1 0) fr) := then_list hfr _ hG
  rw [e] at this
  exact this
theorem kindL_any {W w : World} {M : List Asrt} {p : Nat} {G : Gr} {va : Value} (hG : G.Ok) (hA : G.Acyc) {km : Nat} (hk : km ≤ 4) {l : List Nat} (hl : ∀ m ∈ l, m < G.N.length) (hS : Sat W w (IsG p G :: Ir va l :: M)) :
    Calls Try.prog 20 #[.pointer (some ⟨p, 0, none⟩), .agg #[.int .i64 3, .int .i64 (1 + (km : Int)), .slice none 0 0], va] w fun e w' => ∃ ao c kl, e = .returned (.slice ao kl.length c) ∧ kl.length ≤ G.N.length ∧ (∀ x ∈ kl, x < G.N.length ∧ (G.nodeI (x : Int)).kind = 1 + (km : Int)) ∧ Sat W w' (Ir (.slice ao kl.length c) kl :: IsG p G :: Ir va l :: M) := by
  have e1 : (1 + (km : Int)) = ((1 + km : Nat) : Int) := by omega
  rw [e1]
  refine (listL_any hG hA 3 ((1 + km : Nat) : Int) l hS).mono ?_
  rintro e w' ⟨ao, c, he, h⟩
  exact ⟨ao, c, _, he, qlist_len .., fun x hx => kind_mem hl (by omega) (by omega) hx, h⟩
theorem nodeK_any {W w : World} {L : List Asrt} {p : Nat} {G : Gr} (hS : Sat W w (IsG p G :: L)) {n : Nat} (hn : n < G.N.length) {k : Int} (hk : (G.nodeI (n : Int)).kind = k) :
    Calls Try.prog 22 #[.pointer (some ⟨p, 0, none⟩), .int .i64 (n : Int)] w fun e w' => ∃ b c d f o, e = .returned (.tuple #[.agg (nv ⟨k, b, c, d, f, o⟩).toArray, .bool true]) ∧ Sat W w' (IsG p G :: L) := by
  have := node_any hS (n : Int)
  rw [Gr.is_mk hn] at this
  refine this.mono ?_
  rintro e w' ⟨rfl, h⟩
  cases hd : G.nodeI (n : Int) with
  | mk a b c d f o =>
    rw [hd] at hk
    simp only at hk
    subst hk
    exact ⟨b, c, d, f, o, rfl, h⟩
set_option maxRecDepth 20000 in
set_option maxHeartbeats 16000000 in
theorem Steps.walk (l : List GOpD) (ao : Option Addr) (c : Nat) (fl : List Int) (af : Option Addr) (cf : Nat) (xk : Int) (W : World) (hr : Rd W (.slice ao l.length c) l.length 3 (l.flatMap gov)) (hf : Rd W (.slice af fl.length cf) fl.length 1 (ivz fl)) :
    Calls Try.prog 5 #[.slice ao l.length c, .slice af fl.length cf, .int .i64 xk] W fun e W' => e = .returned (.bool true) ∧ Sat W W' [] := by
  have hS := Sat.start W
  have HGR := Lib.hid (fun w L (h : Sat W w L) => graphsI_any h l ao c (I := fun _ => True) trivial (fun _ _ _ _ _ => trivial) (fun u hu => hr.old hu))
  have HF := Lib.hid (fun w L (h : Sat W w L) => hf.old h)
  obtain ⟨_, _, he, hc1, hc2, _, h5⟩ := hf
  simp only [Value.slice.injEq, true_and] at he
  obtain ⟨rfl, rfl⟩ := he
  have H5 := Lib.hid (show 0 < fl.length → ∃ b off, af = some ⟨b, off, none⟩ from fun h => by obtain ⟨b, off, h1, _⟩ := h5 h; exact ⟨b, off, h1⟩)
  have hfi : (fl.length : Int) ≤ 9223372036854775807 := by omega
  clear hr hc1 h5
  go_enter Try.func5, Try.ntmps5
  refine sep_part (fun K HK => ?_)
  go_wp2
  refine HK.out _ _ ?_
  clear HK K
  refine sep_part (fun K HK => ?_)
  go_wp2_with (go_at_call 16; refine (HGR.out _ _ hS).mono ?_; rintro e w1 ⟨p, q, G, rfl, hG, hA, _, _, hn80, hS1⟩; have HG := Lib.hid hG; have HA := Lib.hid hA; clear hG hA; clear hS; have hS := hS1; clear hS1)
  refine HK.out _ _ ?_
  clear HK K
  have hni : (G.N.length : Int) ≤ 80 := by omega
  have HLEN := Lib.hid (fun w L (h : Sat W w (IsG p G :: L)) => len_any h rfl)
  clear HGR hc2
  refine sep_part (fun K HK => ?_)
  go_wp2
  refine HK.out _ _ ?_
  clear HK K
  refine sep_part (fun K HK => ?_)
  by_cases h0 : G.N.length = 0
  · have k1 : ((G.N.length : Int) == 0) = true := by rw [h0]; rfl
    have k4 : G.N = [] := List.eq_nil_of_length_eq_zero h0
    go_wp2_with (first
      | (go_at_call 19; refine (HLEN.out _ _ hS).mono ?_; rintro e w1 ⟨rfl, rfl⟩)
      | (go_at_call 15; refine (awake_any hS).mono ?_; rintro e w1 ⟨rfl, hS1⟩; clear hS; have hS := hS1; clear hS1))
    go_ret
    exact ⟨rfl, sat_nilS hS⟩
  · obtain ⟨N, hN⟩ : ∃ N, G.N.length = N := ⟨_, rfl⟩
    rw [hN] at h0 hn80 hni HLEN
    have HN := Lib.hid hN
    clear hN
    have k1 : ((N : Int) == 0) = false := beq_eq_false_iff_ne.2 (by omega)
    have k2 : ¬ (N : Int) = 0 := by omega
    by_cases h30 : 30 < fl.length
    · have k4 : (30 : Int) < (fl.length : Int) := by omega
      have k5 : decide ((30 : Int) < (fl.length : Int)) = true := decide_eq_true k4
      have k6 : decide (30 < fl.length) = true := decide_eq_true h30
      go_wp2_with (first
        | (go_at_call 19; refine (HLEN.out _ _ hS).mono ?_; rintro e w1 ⟨rfl, rfl⟩)
        | (go_at_call 15; refine (awake_any hS).mono ?_; rintro e w1 ⟨rfl, hS1⟩; clear hS; have hS := hS1; clear hS1))
      go_ret
      exact ⟨rfl, sat_nilS hS⟩
    · have k4 : ¬ (30 : Int) < (fl.length : Int) := by omega
      have k5 : decide ((30 : Int) < (fl.length : Int)) = false := decide_eq_false k4
      have k6 : decide (30 < fl.length) = false := decide_eq_false h30
      go_wp2_with (go_at_call 19; refine (HLEN.out _ _ hS).mono ?_; rintro e w1 ⟨rfl, rfl⟩)
      refine HK.out _ _ ?_
      clear HK K
      obtain ⟨fr, hfr⟩ : ∃ fr, fl.map (fun x => (x % (N : Int)).toNat) = fr := ⟨_, rfl⟩
      have hfl : fr.length = fl.length := by rw [← hfr, List.length_map]
      have HFL := Lib.hid (show fr.length ≤ 30 by omega)
      have hfrl : (fr.length : Int) ≤ 30 := by omega
      have HFR := Lib.hid (show ∀ m ∈ fr, m < G.N.length by
        intro m hm
        rw [← hfr] at hm
        obtain ⟨x, _, rfl⟩ := List.mem_map.1 hm
        have := Int.emod_lt_of_pos x (b := (N : Int)) (by omega)
        have := HN.out
        have := Int.emod_nonneg x (b := (N : Int)) (by omega)
        omega)
      have HLE := Lib.hid hfl
      have HFE := Lib.hid hfr
      have HPL := Lib.hid (fun w x => place_any x (N : Int) (by omega) (by omega) w)
      have HN0 := Lib.hid (show 0 < N by omega)
      clear hfr h30 hfl
      have H0 : Hid (Sat W _ [Ir (.slice none 0 0) (fr.take 0), IsG p G, IsR q G]) := Lib.hid hS.irNil
      go_wp2
      go_loopw [10, 11] (fun v10 v11 wz => ∃ i : Nat, v11 = .int .i64 i ∧ i ≤ fl.length ∧ Sat W wz [Ir v10 (fr.take i), IsG p G, IsR q G]) (fun _ v11 _ => fl.length - (intOf v11).toNat)
      case atStart => exact ⟨0, rfl, by omega, H0.out⟩
      case round =>
        clear hS H0
        obtain ⟨i, rfl, hi, hS⟩ := hrel
        obtain ⟨afr, cfr, rfl, _⟩ := hS.irShape (k := 0) rfl
        by_cases hlt : i < fl.length
        · have k7 : (i : Int) < (fl.length : Int) := by omega
          have HLT := Lib.hid hlt
          obtain ⟨b0, o0, rfl⟩ := H5.out (by omega)
          obtain ⟨x, hx⟩ : ∃ x, fl[i]? = some x := ⟨_, List.getElem?_eq_getElem hlt⟩
          have HX := Lib.hid (ivz_at hx)
          obtain ⟨m, hm⟩ : ∃ m : Nat, x % (N : Int) = (m : Int) := ⟨(x % (N : Int)).toNat, by have := Int.emod_nonneg x (b := (N : Int)) (by omega); omega⟩
          have HP := Lib.hid (fun w => show Calls Try.prog 10 #[.int .i64 x, .int .i64 (N : Int)] w (fun e w' => e = .returned (.int .i64 (m : Int)) ∧ w = w') by rw [← hm]; exact HPL.out w x)
          have HTK := Lib.hid (show fr.take (i + 1) = fr.take i ++ [m] by
            rw [List.take_add_one, ← HFE.out, List.getElem?_map, hx]
            simp [hm])
          have hil : (fr.take i).length ≤ 30 := by rw [List.length_take]; have := HFL.out; omega
          obtain ⟨R, hR⟩ : ∃ R, fr.take i = R := ⟨_, rfl⟩
          rw [hR] at hS HTK hil ⊢
          clear hx hm hlt hi hR
          go_wp2
          refine regStart [7, 8, 9] hS (by kernel_rfl) rfl ?_
          intro w1 hS1
          clear hS; have hS := hS1; clear hS1
          (refine regP 0 hS (fun _ h => h) rfl (by kernel_rfl) (by kernel_rfl) (by kernel_rfl) (fun _ _ _ _ h => h) (by rfl) (by rfl) ?_; apply Exists.intro; apply And.intro; (intro w; go_simp; try with_reducible rfl); go_frame)
          (refine regP 1 hS (fun _ h => h) rfl (by kernel_rfl) (by kernel_rfl) (by kernel_rfl) (fun _ _ _ _ h => h) (by rfl) (by rfl) ?_; apply Exists.intro; apply And.intro; (intro w; go_simp; try with_reducible rfl); go_frame)
          (refine regP 2 hS (fun _ h => h) rfl (by kernel_rfl) (by kernel_rfl) (by kernel_rfl) (fun _ _ _ _ h => h) (by rfl) (by rfl) ?_; apply Exists.intro; apply And.intro; (intro w; go_simp; try with_reducible rfl); go_frame)
          (refine regP 3 hS (fun _ h => h) rfl (by kernel_rfl) (by kernel_rfl) (by kernel_rfl) (fun _ _ _ _ h => h) (by rfl) (by rfl) ?_; apply Exists.intro; apply And.intro; (intro w; go_simp; try with_reducible rfl); go_frame)
          (refine regR 4 hS (fun _ h => h) rfl (by kernel_rfl) (by kernel_rfl) (by kernel_rfl) (by kernel_rfl) (by kernel_rfl) (fun _ _ _ _ h => h) (by rfl) (by rfl) ?_; (refine ⟨_, fun u hu => rLdRd1 (HF.out u _ hu) _ _ (by rfl) _ (by rfl) (agOf (by rfl)) i (by omega) HX.out (by omega), ?_⟩); go_frame)
          (refine regP 5 hS (fun _ h => h) rfl (by kernel_rfl) (by kernel_rfl) (by kernel_rfl) (fun _ _ _ _ h => h) (by rfl) (by rfl) ?_; apply Exists.intro; apply And.intro; (intro w; go_simp; try with_reducible rfl); go_frame)
          (refine regA 6 rfl (by kernel_rfl) (by rfl) (by rfl) false (by kernel_rfl) (fun K hK => ?_); (first
                                | (refine Go.Sep.cl 19 _ _ (by rfl) (by rfl) (by kernel_rfl) (HLEN.out _ _ (hS.re [1])) ?_; rintro e w1 ⟨rfl, rfl⟩; refine ⟨_, rfl, ?_⟩)
                                | (refine Go.Sep.cl 10 _ _ (by rfl) (by rfl) (by kernel_rfl) (HP.out _) ?_; rintro e w1 ⟨rfl, rfl⟩; refine ⟨_, rfl, ?_⟩)
                                | (refine bsF hS _ _ _ (by rfl) (elOf (by rfl)) [.int .i64 (m : Int)] (by rfl) (by rfl) (by decide) (by decide) (by simp [Value.cells]) ?_; intro b1 w1 hS1; clear hS; have hS := hS1; clear hS1; rw [sca1 rfl] at hS)
                                | (refine apI (m := [m]) hS _ _ _ _ (by rfl) (by rfl) (by rfl) (elOf (by rfl)) (by rfl) (by rfl) (by rfl) (inOf (by rfl)) (Has.s Has.z) (by exact hS.csRd0 (n := 1) (sz := 1) Has.z (by decide) rfl) (by simp; omega) ?_; intro v1 w1 hS1; clear hS; have hS := hS1; clear hS1; dsimp only [List.set_cons_zero, List.set_cons_succ] at hS; rw [← HTK.out] at hS)); refine hK _ _ _ hS (by first | (intro h; cases h; done) | exact fun _ _ h => h | exact fun _ _ h => h.drop | exact fun _ _ h => h.drop.drop | exact fun _ _ h => h.drop.pull1 | exact fun _ _ h => h.take2 | exact fun _ _ h => h.one Has.z | exact fun _ _ h => h.one (Has.s Has.z) | exact fun _ _ h => h.one (Has.s (Has.s Has.z))) ?_; clear hK K; go_frame)
          (refine regA 7 rfl (by kernel_rfl) (by rfl) (by rfl) true (by kernel_rfl) (fun K hK => ?_); (first
                                | (refine Go.Sep.cl 19 _ _ (by rfl) (by rfl) (by kernel_rfl) (HLEN.out _ _ (hS.re [1])) ?_; rintro e w1 ⟨rfl, rfl⟩; refine ⟨_, rfl, ?_⟩)
                                | (refine Go.Sep.cl 10 _ _ (by rfl) (by rfl) (by kernel_rfl) (HP.out _) ?_; rintro e w1 ⟨rfl, rfl⟩; refine ⟨_, rfl, ?_⟩)
                                | (refine bsF hS _ _ _ (by rfl) (elOf (by rfl)) [.int .i64 (m : Int)] (by rfl) (by rfl) (by decide) (by decide) (by simp [Value.cells]) ?_; intro b1 w1 hS1; clear hS; have hS := hS1; clear hS1; rw [sca1 rfl] at hS)
                                | (refine apI (m := [m]) hS _ _ _ _ (by rfl) (by rfl) (by rfl) (elOf (by rfl)) (by rfl) (by rfl) (by rfl) (inOf (by rfl)) (Has.s Has.z) (by exact hS.csRd0 (n := 1) (sz := 1) Has.z (by decide) rfl) (by simp; omega) ?_; intro v1 w1 hS1; clear hS; have hS := hS1; clear hS1; dsimp only [List.set_cons_zero, List.set_cons_succ] at hS; rw [← HTK.out] at hS)); refine hK _ _ _ hS (by first | (intro h; cases h; done) | exact fun _ _ h => h | exact fun _ _ h => h.drop | exact fun _ _ h => h.drop.drop | exact fun _ _ h => h.drop.pull1 | exact fun _ _ h => h.take2 | exact fun _ _ h => h.one Has.z | exact fun _ _ h => h.one (Has.s Has.z) | exact fun _ _ h => h.one (Has.s (Has.s Has.z))) ?_; clear hK K; go_frame)
          (refine regA 8 rfl (by kernel_rfl) (by rfl) (by rfl) true (by kernel_rfl) (fun K hK => ?_); (first
                                | (refine Go.Sep.cl 19 _ _ (by rfl) (by rfl) (by kernel_rfl) (HLEN.out _ _ (hS.re [1])) ?_; rintro e w1 ⟨rfl, rfl⟩; refine ⟨_, rfl, ?_⟩)
                                | (refine Go.Sep.cl 10 _ _ (by rfl) (by rfl) (by kernel_rfl) (HP.out _) ?_; rintro e w1 ⟨rfl, rfl⟩; refine ⟨_, rfl, ?_⟩)
                                | (refine bsF hS _ _ _ (by rfl) (elOf (by rfl)) [.int .i64 (m : Int)] (by rfl) (by rfl) (by decide) (by decide) (by simp [Value.cells]) ?_; intro b1 w1 hS1; clear hS; have hS := hS1; clear hS1; rw [sca1 rfl] at hS)
                                | (refine apI (m := [m]) hS _ _ _ _ (by rfl) (by rfl) (by rfl) (elOf (by rfl)) (by rfl) (by rfl) (by rfl) (inOf (by rfl)) (Has.s Has.z) (by exact hS.csRd0 (n := 1) (sz := 1) Has.z (by decide) rfl) (by simp; omega) ?_; intro v1 w1 hS1; clear hS; have hS := hS1; clear hS1; dsimp only [List.set_cons_zero, List.set_cons_succ] at hS; rw [← HTK.out] at hS)); refine hK _ _ _ hS (by first | (intro h; cases h; done) | exact fun _ _ h => h | exact fun _ _ h => h.drop | exact fun _ _ h => h.drop.drop | exact fun _ _ h => h.drop.pull1 | exact fun _ _ h => h.take2 | exact fun _ _ h => h.one Has.z | exact fun _ _ h => h.one (Has.s Has.z) | exact fun _ _ h => h.one (Has.s (Has.s Has.z))) ?_; clear hK K; go_frame)
          (refine regA 9 rfl (by kernel_rfl) (by rfl) (by rfl) true (by kernel_rfl) (fun K hK => ?_); (first
                                | (refine Go.Sep.cl 19 _ _ (by rfl) (by rfl) (by kernel_rfl) (HLEN.out _ _ (hS.re [1])) ?_; rintro e w1 ⟨rfl, rfl⟩; refine ⟨_, rfl, ?_⟩)
                                | (refine Go.Sep.cl 10 _ _ (by rfl) (by rfl) (by kernel_rfl) (HP.out _) ?_; rintro e w1 ⟨rfl, rfl⟩; refine ⟨_, rfl, ?_⟩)
                                | (refine bsF hS _ _ _ (by rfl) (elOf (by rfl)) [.int .i64 (m : Int)] (by rfl) (by rfl) (by decide) (by decide) (by simp [Value.cells]) ?_; intro b1 w1 hS1; clear hS; have hS := hS1; clear hS1; rw [sca1 rfl] at hS)
                                | (refine apI (m := [m]) hS _ _ _ _ (by rfl) (by rfl) (by rfl) (elOf (by rfl)) (by rfl) (by rfl) (by rfl) (inOf (by rfl)) (Has.s Has.z) (by exact hS.csRd0 (n := 1) (sz := 1) Has.z (by decide) rfl) (by simp; omega) ?_; intro v1 w1 hS1; clear hS; have hS := hS1; clear hS1; dsimp only [List.set_cons_zero, List.set_cons_succ] at hS; rw [← HTK.out] at hS)); refine hK _ _ _ hS (by first | (intro h; cases h; done) | exact fun _ _ h => h | exact fun _ _ h => h.drop | exact fun _ _ h => h.drop.drop | exact fun _ _ h => h.drop.pull1 | exact fun _ _ h => h.take2 | exact fun _ _ h => h.one Has.z | exact fun _ _ h => h.one (Has.s Has.z) | exact fun _ _ h => h.one (Has.s (Has.s Has.z))) ?_; clear hK K; go_frame)
          (refine regP 10 hS (fun _ h => h) rfl (by kernel_rfl) (by kernel_rfl) (by kernel_rfl) (fun _ _ _ _ h => h) (by rfl) (by rfl) ?_; apply Exists.intro; apply And.intro; (intro w; go_simp; try with_reducible rfl); go_frame)
          refine regDone (by kernel_rfl) ?_
          go_wp2
          exact ⟨⟨i + 1, by go_num, HLT.out, hS.drop⟩, by simp [intOf]; have := HLT.out; omega⟩
        · obtain rfl : i = fl.length := by omega
          have k7 : ¬ (fl.length : Int) < (fl.length : Int) := by omega
          rw [show fr.take fl.length = fr by rw [← HLE.out, List.take_length]] at hS ⊢
          have HZL := Lib.hid (fun (x : Nat) => (show (G.above x).length ≤ G.N.length from G.above_len x))
          clear hi hlt HFE HPL HF H5 HLE k4 k5 k6 k7 hfi
          go_wp2_with (first
            | (refine toList (by rfl) ?_; refine stW hS _ _ _ (by rfl) (by rfl) [.int .i64 2, .int .i64 0, .slice none 0 0] (by rfl) (by intro u hu; simp only [List.mem_cons, List.not_mem_nil, or_false] at hu; rcases hu with rfl | rfl | rfl <;> rfl) (szOf (by rfl)) Has.z (by rfl) ?_; intro w1 hS1; clear hS; have hS := hS1; clear hS1; dsimp only [List.set_cons_zero] at hS)
            | (refine toList (by rfl) ?_; refine stW hS _ _ _ (by rfl) (by rfl) [.int .i64 1, .int .i64 0, .slice none 0 0] (by rfl) (by intro u hu; simp only [List.mem_cons, List.not_mem_nil, or_false] at hu; rcases hu with rfl | rfl | rfl <;> rfl) (szOf (by rfl)) Has.z (by rfl) ?_; intro w1 hS1; clear hS; have hS := hS1; clear hS1; dsimp only [List.set_cons_zero] at hS)
            | (refine toList (by rfl) ?_; refine stW hS _ _ _ (by rfl) (by rfl) [.int .i64 5, .int .i64 0, .slice (some ⟨bk, 0, none⟩) 1 1] (by rfl) (by intro u hu; simp only [List.mem_cons, List.not_mem_nil, or_false] at hu; rcases hu with rfl | rfl | rfl <;> rfl) (szOf (by rfl)) Has.z (by rfl) ?_; intro w1 hS1; clear hS; have hS := hS1; clear hS1; dsimp only [List.set_cons_zero] at hS)
            | (refine toList (by rfl) ?_; refine wp_of_reads (rLdA hS _ _ (by rfl) _ _ (by rfl) (agOf (by rfl)) (szOf (by rfl)) (Has.s Has.z) (vs := [.int .i64 1, .int .i64 0, .slice none 0 0]) (by rfl) (by rfl)) ?_)
            | (refine toList (by rfl) ?_; refine wp_of_reads (rLdA hS _ _ (by rfl) _ _ (by rfl) (agOf (by rfl)) (szOf (by rfl)) Has.z (vs := [.int .i64 5, .int .i64 0, .slice (some ⟨bk, 0, none⟩) 1 1]) (by rfl) (by rfl)) ?_)
            | (go_at_call 20; refine (star1_any HG.out HA.out HFR.out (hS.re [5, 1, 4])).mono ?_; rintro e w1 ⟨ast, cst, st, rfl, hst, hS1⟩; have HSO := Lib.hid hst; clear hst hS; have hS := (show Sat W w1 [Ir _ st, IsG p G, Cs bk 49 ([leafQ 1 0].flatMap qv), Ir _ fr, Cs p14 _ _, Cs p13 _ _, Cs p12 _ _, IsR q G] from hS1); clear hS1)
            | (go_at_call 19; refine (HLEN.out _ _ (hS.re [1])).mono ?_; rintro e w1 ⟨rfl, rfl⟩)
            | (refine toList (by rfl) ?_; refine mk hS _ _ _ (by rfl) N N _ _ (by rfl) (by rfl) (elOf (by rfl)) (by omega) (by omega) (by omega) ?_; intro wb w1 hS1; clear hS; have hS := hS1; clear hS1; rw [made_bool, SA_zero G fr] at hS)
            | (refine toList (by rfl) ?_; refine bsF hS _ _ _ (by rfl) (elOf (by rfl)) [.agg #[.int .i64 1, .int .i64 0, .slice none 0 0]] (by rfl) (by rfl) (by decide) (by decide) (stepAgg 1 0) ?_; intro bk w1 hS1; rw [fmStep1] at hS1; clear hS; have hS := hS1; clear hS1)
            | (refine toList (by rfl) ?_; refine al (show Sat W _ (Cs bk _ _ :: Cs p13 _ _ :: _) from hS) _ (by rfl) (zrOf (T := 49) (by rfl)) ?_; intro p14 w1 hS1; clear hS; have hS := hS1; clear hS1; rw [cells_agg] at hS)
            | (refine toList (by rfl) ?_; refine al (show Sat W _ (Cs p12 _ _ :: _) from hS) _ (by rfl) (zrOf (T := 49) (by rfl)) ?_; intro p13 w1 hS1; clear hS; have hS := hS1; clear hS1; rw [cells_agg] at hS)
            | (refine toList (by rfl) ?_; refine al (show Sat W _ (Ir _ _ :: _) from hS) _ (by rfl) (zrOf (T := 49) (by rfl)) ?_; intro p12 w1 hS1; clear hS; have hS := hS1; clear hS1; rw [cells_agg] at hS))
          have H0 : Hid (Sat W _ [Cs wb 4 (bl (SA G fr 0 [] 0) N), Ir (.slice (ast) st.length cst) st, IsG p G, Cs bk 49 ([leafQ 1 0].flatMap qv), Ir (.slice (afr) fr.length cfr) fr, Cs p14 49 [.int .i64 5, .int .i64 0, .slice (some ⟨bk, 0, none⟩) 1 1], Cs p13 49 [.int .i64 2, .int .i64 0, .slice none 0 0], Cs p12 49 [.int .i64 1, .int .i64 0, .slice none 0 0]]) := Lib.hid ((hS.re [0, 1, 2, 3, 4, 5, 6, 7]).re [8]).drop
          go_loopw [17] (fun v wz => ∃ i : Nat, v = .int .i64 i ∧ i ≤ fr.length ∧ Sat W wz [Cs wb 4 (bl (SA G fr i [] 0) N), Ir (.slice (ast) st.length cst) st, IsG p G, Cs bk 49 ([leafQ 1 0].flatMap qv), Ir (.slice (afr) fr.length cfr) fr, Cs p14 49 [.int .i64 5, .int .i64 0, .slice (some ⟨bk, 0, none⟩) 1 1], Cs p13 49 [.int .i64 2, .int .i64 0, .slice none 0 0], Cs p12 49 [.int .i64 1, .int .i64 0, .slice none 0 0]]) (fun v _ => fr.length - (intOf v).toNat)
          case atStart => exact ⟨0, rfl, by omega, H0.out⟩
          case round =>
            clear hS H0
            obtain ⟨i, rfl, hi, hS⟩ := hrel
            by_cases hlt : i < fr.length
            · have k7 : (i : Int) < (fr.length : Int) := by omega
              have HLT := Lib.hid hlt
              obtain ⟨b0, o0, rfl⟩ := Sat.irAddr (k := 4) hS rfl rfl (by omega)
              obtain ⟨x, hx⟩ : ∃ x, fr[i]? = some x := ⟨_, List.getElem?_eq_getElem hlt⟩
              have hxN := HFR.out x (List.mem_of_getElem? hx)
              have HX := Lib.hid (iv_at hx)
              have HAB := Lib.hid (fun w L (h : Sat W w (IsG p G :: L)) => show Calls Try.prog 21 #[.pointer (some ⟨p, 0, none⟩), .int .i64 (x : Int)] w (fun e w' => ∃ v, e = .returned v ∧ Sat W w' (Ir v (G.above x) :: IsG p G :: L)) by
                have := above_any h HG.out (x : Int)
                rw [show G.aboveI (x : Int) = G.above x by unfold Gr.aboveI; rw [if_pos (Gr.is_mk hxN)]; rfl] at this
                exact this)
              have HNX := Lib.hid (SA_next (G := G) hx)
              have hzN : ∀ m ∈ G.above x, m < N := fun m hm => by have := (Gr.mem_above.1 hm).1; have := HN.out; omega
              have hzl := HZL.out x
              obtain ⟨z, hz⟩ : ∃ z, G.above x = z := ⟨_, rfl⟩
              rw [hz] at HAB HNX hzN hzl
              have HZN := Lib.hid hzN
              have hzl2 : (z.length : Int) ≤ 80 := by have := HN.out; omega
              clear hx hlt hi hxN hz hzN hzl
              go_wp2_with (first
                | (refine toList (by rfl) ?_; refine ldSl hS _ _ (by rfl) _ _ (by rfl) (agOf (by rfl)) (Has.s (Has.s (Has.s (Has.s Has.z)))) i (by omega) HX.out ?_)
                | (go_at_call 21; refine (HAB.out _ _ (hS.re [2])).mono ?_; rintro e w1 ⟨vz, rfl, hS1⟩; clear hS; have hS := (show Sat W w1 [Ir vz z, IsG p G, Cs wb _ _, Ir _ st, Cs bk _ _, Ir _ fr, Cs p14 _ _, Cs p13 _ _, Cs p12 _ _] from hS1).re [0, 2, 3, 1]; clear hS1; obtain ⟨az, cz, rfl, _⟩ := hS.irShape (k := 0) rfl))
              rw [SA_in G fr z i] at hS
              have H2 : Hid (Sat W _ (Ir (.slice az z.length cz) z :: [Cs wb 4 (bl (SA G fr i z 0) N), Ir (.slice (ast) st.length cst) st, IsG p G, Cs bk 49 ([leafQ 1 0].flatMap qv), Ir (.slice (some ⟨b0, o0, none⟩) fr.length cfr) fr, Cs p14 49 [.int .i64 5, .int .i64 0, .slice (some ⟨bk, 0, none⟩) 1 1], Cs p13 49 [.int .i64 2, .int .i64 0, .slice none 0 0], Cs p12 49 [.int .i64 1, .int .i64 0, .slice none 0 0]])) := Lib.hid hS
              go_loopw [19] (fun v wz => ∃ j : Nat, v = .int .i64 j ∧ j ≤ z.length ∧ Sat W wz (Ir (.slice az z.length cz) z :: [Cs wb 4 (bl (SA G fr i z j) N), Ir (.slice (ast) st.length cst) st, IsG p G, Cs bk 49 ([leafQ 1 0].flatMap qv), Ir (.slice (some ⟨b0, o0, none⟩) fr.length cfr) fr, Cs p14 49 [.int .i64 5, .int .i64 0, .slice (some ⟨bk, 0, none⟩) 1 1], Cs p13 49 [.int .i64 2, .int .i64 0, .slice none 0 0], Cs p12 49 [.int .i64 1, .int .i64 0, .slice none 0 0]])) (fun v _ => z.length - (intOf v).toNat)
              case atStart => exact ⟨0, rfl, by omega, H2.out⟩
              case round =>
                clear hS H2
                obtain ⟨j, rfl, hj, hS⟩ := hrel
                by_cases hjl : j < z.length
                · have k8 : (j : Int) < (z.length : Int) := by omega
                  have HJL := Lib.hid hjl
                  obtain ⟨bz, oz, rfl⟩ := Sat.irAddr (k := 0) hS rfl rfl (by omega)
                  obtain ⟨y, hy⟩ : ∃ y, z[j]? = some y := ⟨_, List.getElem?_eq_getElem hjl⟩
                  have hyN := HZN.out y (List.mem_of_getElem? hy)
                  have k9 : (y : Int) < (N : Int) := by omega
                  have HY := Lib.hid (iv_at hy)
                  have HPUT := Lib.hid (SA_put (G := G) (fr := fr) (i := i) hy)
                  have HYN := Lib.hid hyN
                  clear hy hjl hj hyN
                  go_wp2_with (first
                    | (refine toList (by rfl) ?_; refine ldSl hS _ _ (by rfl) _ _ (by rfl) (agOf (by rfl)) Has.z j (by omega) HY.out ?_)
                    | (refine toList (by rfl) ?_; refine Go.Sep.st hS _ _ _ (by rfl) _ _ (by rfl) (.bool true) (by rfl) (by rfl) (szOf (by rfl)) (Has.s Has.z) (by rw [bl_len]; exact HYN.out) ?_; intro w1 hS1; clear hS; have hS := hS1; clear hS1; simp only [List.set_cons_zero, List.set_cons_succ] at hS; rw [bl_set HYN.out, HPUT.out] at hS))
                  exact ⟨⟨j + 1, by go_num, HJL.out, hS⟩, by simp [intOf]; have := HJL.out; omega⟩
                · obtain rfl : j = z.length := by omega
                  have k8 : ¬ (z.length : Int) < (z.length : Int) := by omega
                  rw [HNX.out] at hS
                  clear hj hjl
                  go_wp2
                  exact ⟨⟨i + 1, by go_num, HLT.out, hS.drop⟩, by simp [intOf]; have := HLT.out; omega⟩
            · obtain rfl : i = fr.length := by omega
              have k7 : ¬ (fr.length : Int) < (fr.length : Int) := by omega
              rw [HSO.out.all] at hS
              have hsl : (st.length : Int) ≤ 80 := by
                have := nodup_len (HSO.out.lt.imp fun h => Nat.ne_of_lt h) HSO.out.low
                have := HN.out; omega
              clear hi hlt
              have HSL := Lib.hid hsl
              have HLO := Lib.hid (show ∀ m ∈ st, m < N from fun m hm => by have := HSO.out.low m hm; have := HN.out; omega)
              have H3 : Hid (Sat W _ [Cs wb 4 (bl (fun t => decide (t ∈ st)) N), Ir (.slice (ast) st.length cst) st, IsG p G, Cs bk 49 ([leafQ 1 0].flatMap qv), Ir (.slice (afr) fr.length cfr) fr, Cs p14 49 [.int .i64 5, .int .i64 0, .slice (some ⟨bk, 0, none⟩) 1 1], Cs p13 49 [.int .i64 2, .int .i64 0, .slice none 0 0], Cs p12 49 [.int .i64 1, .int .i64 0, .slice none 0 0]]) := Lib.hid hS
              go_wp2
              go_loopw [21] (fun v wz => ∃ i : Nat, v = .int .i64 i ∧ i ≤ st.length ∧ Sat W wz [Cs wb 4 (bl (fun t => decide (t ∈ st)) N), Ir (.slice (ast) st.length cst) st, IsG p G, Cs bk 49 ([leafQ 1 0].flatMap qv), Ir (.slice (afr) fr.length cfr) fr, Cs p14 49 [.int .i64 5, .int .i64 0, .slice (some ⟨bk, 0, none⟩) 1 1], Cs p13 49 [.int .i64 2, .int .i64 0, .slice none 0 0], Cs p12 49 [.int .i64 1, .int .i64 0, .slice none 0 0]]) (fun v _ => st.length - (intOf v).toNat)
              case atStart => exact ⟨0, rfl, by omega, H3.out⟩
              case round =>
                clear hS H3
                obtain ⟨i, rfl, hi, hS⟩ := hrel
                by_cases hlt : i < st.length
                · have k8 : (i : Int) < (st.length : Int) := by omega
                  have HLT := Lib.hid hlt
                  obtain ⟨b0, o0, rfl⟩ := Sat.irAddr (k := 1) hS rfl rfl (by omega)
                  obtain ⟨x, hx⟩ : ∃ x, st[i]? = some x := ⟨_, List.getElem?_eq_getElem hlt⟩
                  have hxm := List.mem_of_getElem? hx
                  have hxN := HLO.out x hxm
                  have k9 : (x : Int) < (N : Int) := by omega
                  have k10 : ¬ (N : Int) ≤ (x : Int) := by omega
                  have k11 : decide ((N : Int) ≤ (x : Int)) = false := decide_eq_false k10
                  have k12 : decide (N ≤ x) = false := decide_eq_false (by omega)
                  have HX := Lib.hid (iv_at hx)
                  have HWX := Lib.hid (show (bl (fun t => decide (t ∈ st)) N)[x]? = some (.bool true) by rw [bl_at hxN, decide_eq_true hxm])
                  clear hx hlt hi hxm hxN
                  go_wp2
                  refine regStart [] hS (by kernel_rfl) rfl ?_
                  intro w1 hS1
                  clear hS; have hS := hS1; clear hS1
                  (refine regP 0 hS (fun _ h => h) rfl (by kernel_rfl) (by kernel_rfl) (by kernel_rfl) (fun _ _ _ _ h => h) (by rfl) (by rfl) ?_; apply Exists.intro; apply And.intro; (intro w; go_simp; try with_reducible rfl); go_frame)
                  (refine regP 1 hS (fun _ h => h) rfl (by kernel_rfl) (by kernel_rfl) (by kernel_rfl) (fun _ _ _ _ h => h) (by rfl) (by rfl) ?_; apply Exists.intro; apply And.intro; (intro w; go_simp; try with_reducible rfl); go_frame)
                  (refine regP 2 hS (fun _ h => h) rfl (by kernel_rfl) (by kernel_rfl) (by kernel_rfl) (fun _ _ _ _ h => h) (by rfl) (by rfl) ?_; apply Exists.intro; apply And.intro; (intro w; go_simp; try with_reducible rfl); go_frame)
                  (refine regR 3 hS (fun _ h => h) rfl (by kernel_rfl) (by kernel_rfl) (by kernel_rfl) (by kernel_rfl) (by kernel_rfl) (fun _ _ _ _ h => h) (by rfl) (by rfl) ?_; (first
                                                        | refine ⟨.int .i64 (x : Int), yLdSl _ _ (by rfl) _ _ (by rfl) (agOf (by rfl)) (Has.s Has.z) i (by omega) HX.out, ?_⟩
                                                        | refine ⟨_, yLd _ _ (by rfl) _ _ (by rfl) (agOf (by rfl)) Has.z (v := .bool true) (by exact HWX.out), ?_⟩); go_frame)
                  (refine regP 4 hS (fun _ h => h) rfl (by kernel_rfl) (by kernel_rfl) (by kernel_rfl) (fun _ _ _ _ h => h) (by rfl) (by rfl) ?_; apply Exists.intro; apply And.intro; (intro w; go_simp; try with_reducible rfl); go_frame)
                  (refine regP 5 hS (fun _ h => h) rfl (by kernel_rfl) (by kernel_rfl) (by kernel_rfl) (fun _ _ _ _ h => h) (by rfl) (by rfl) ?_; apply Exists.intro; apply And.intro; (intro w; go_simp; try with_reducible rfl); go_frame)
                  (first | (refine regP 6 hS (fun _ h => h) rfl (by kernel_rfl) (by kernel_rfl) (by kernel_rfl) (fun _ _ _ _ h => h) (by rfl) (by rfl) ?_; apply Exists.intro; apply And.intro; (intro w; go_simp; try with_reducible rfl); go_frame) | (refine regN 6 hS (fun _ h => h) rfl (by kernel_rfl) (by kernel_rfl) (by kernel_rfl) (fun _ _ _ h => h) (by rfl) (by rfl) ?_; go_frame))
                  (first | (refine regP 7 hS (fun _ h => h) rfl (by kernel_rfl) (by kernel_rfl) (by kernel_rfl) (fun _ _ _ _ h => h) (by rfl) (by rfl) ?_; apply Exists.intro; apply And.intro; (intro w; go_simp; try with_reducible rfl); go_frame) | (refine regN 7 hS (fun _ h => h) rfl (by kernel_rfl) (by kernel_rfl) (by kernel_rfl) (fun _ _ _ h => h) (by rfl) (by rfl) ?_; go_frame))
                  (first | (refine regP 8 hS (fun _ h => h) rfl (by kernel_rfl) (by kernel_rfl) (by kernel_rfl) (fun _ _ _ _ h => h) (by rfl) (by rfl) ?_; apply Exists.intro; apply And.intro; (intro w; go_simp; try with_reducible rfl); go_frame) | (refine regN 8 hS (fun _ h => h) rfl (by kernel_rfl) (by kernel_rfl) (by kernel_rfl) (fun _ _ _ h => h) (by rfl) (by rfl) ?_; go_frame))
                  (first | (refine regR 9 hS (fun _ h => h) rfl (by kernel_rfl) (by kernel_rfl) (by kernel_rfl) (by kernel_rfl) (by kernel_rfl) (fun _ _ _ _ h => h) (by rfl) (by rfl) ?_; (first
                                                        | refine ⟨.int .i64 (x : Int), yLdSl _ _ (by rfl) _ _ (by rfl) (agOf (by rfl)) (Has.s Has.z) i (by omega) HX.out, ?_⟩
                                                        | refine ⟨_, yLd _ _ (by rfl) _ _ (by rfl) (agOf (by rfl)) Has.z (v := .bool true) (by exact HWX.out), ?_⟩); go_frame) | (refine regN 9 hS (fun _ h => h) rfl (by kernel_rfl) (by kernel_rfl) (by kernel_rfl) (fun _ _ _ h => h) (by rfl) (by rfl) ?_; go_frame))
                  (first | (refine regP 10 hS (fun _ h => h) rfl (by kernel_rfl) (by kernel_rfl) (by kernel_rfl) (fun _ _ _ _ h => h) (by rfl) (by rfl) ?_; apply Exists.intro; apply And.intro; (intro w; go_simp; try with_reducible rfl); go_frame) | (refine regN 10 hS (fun _ h => h) rfl (by kernel_rfl) (by kernel_rfl) (by kernel_rfl) (fun _ _ _ h => h) (by rfl) (by rfl) ?_; go_frame))
                  (first | (refine regA 11 rfl (by kernel_rfl) (by rfl) (by rfl) false (by kernel_rfl) (fun K hK => ?_); ((refine Go.Sep.cl 19 _ _ (by rfl) (by rfl) (by kernel_rfl) (HLEN.out _ _ (hS.re [2])) ?_; rintro e w1 ⟨rfl, rfl⟩; refine ⟨_, rfl, ?_⟩)); refine hK _ _ _ hS (by first | (intro h; cases h; done) | exact fun _ _ h => h | exact fun _ _ h => h.drop | exact fun _ _ h => h.drop.drop | exact fun _ _ h => h.drop.pull1 | exact fun _ _ h => h.take2 | exact fun _ _ h => h.one Has.z | exact fun _ _ h => h.one (Has.s Has.z) | exact fun _ _ h => h.one (Has.s (Has.s Has.z))) ?_; clear hK K; go_frame) | (refine regN 11 hS (fun _ h => h) rfl (by kernel_rfl) (by kernel_rfl) (by kernel_rfl) (fun _ _ _ h => h) (by rfl) (by rfl) ?_; go_frame))
                  (first | (refine regP 12 hS (fun _ h => h) rfl (by kernel_rfl) (by kernel_rfl) (by kernel_rfl) (fun _ _ _ _ h => h) (by rfl) (by rfl) ?_; apply Exists.intro; apply And.intro; (intro w; go_simp; try with_reducible rfl); go_frame) | (refine regN 12 hS (fun _ h => h) rfl (by kernel_rfl) (by kernel_rfl) (by kernel_rfl) (fun _ _ _ h => h) (by rfl) (by rfl) ?_; go_frame))
                  (refine regP 13 hS (fun _ h => h) rfl (by kernel_rfl) (by kernel_rfl) (by kernel_rfl) (fun _ _ _ _ h => h) (by rfl) (by rfl) ?_; apply Exists.intro; apply And.intro; (intro w; go_simp; try with_reducible rfl); go_frame)
                  (refine regP 14 hS (fun _ h => h) rfl (by kernel_rfl) (by kernel_rfl) (by kernel_rfl) (fun _ _ _ _ h => h) (by rfl) (by rfl) ?_; apply Exists.intro; apply And.intro; (intro w; go_simp; try with_reducible rfl); go_frame)
                  (first | (refine regP 15 hS (fun _ h => h) rfl (by kernel_rfl) (by kernel_rfl) (by kernel_rfl) (fun _ _ _ _ h => h) (by rfl) (by rfl) ?_; apply Exists.intro; apply And.intro; (intro w; go_simp; try with_reducible rfl); go_frame) | (refine regN 15 hS (fun _ h => h) rfl (by kernel_rfl) (by kernel_rfl) (by kernel_rfl) (fun _ _ _ h => h) (by rfl) (by rfl) ?_; go_frame))
                  (first | (refine regP 16 hS (fun _ h => h) rfl (by kernel_rfl) (by kernel_rfl) (by kernel_rfl) (fun _ _ _ _ h => h) (by rfl) (by rfl) ?_; apply Exists.intro; apply And.intro; (intro w; go_simp; try with_reducible rfl); go_frame) | (refine regN 16 hS (fun _ h => h) rfl (by kernel_rfl) (by kernel_rfl) (by kernel_rfl) (fun _ _ _ h => h) (by rfl) (by rfl) ?_; go_frame))
                  (first | (refine regP 17 hS (fun _ h => h) rfl (by kernel_rfl) (by kernel_rfl) (by kernel_rfl) (fun _ _ _ _ h => h) (by rfl) (by rfl) ?_; apply Exists.intro; apply And.intro; (intro w; go_simp; try with_reducible rfl); go_frame) | (refine regN 17 hS (fun _ h => h) rfl (by kernel_rfl) (by kernel_rfl) (by kernel_rfl) (fun _ _ _ h => h) (by rfl) (by rfl) ?_; go_frame))
                  (first | (refine regP 18 hS (fun _ h => h) rfl (by kernel_rfl) (by kernel_rfl) (by kernel_rfl) (fun _ _ _ _ h => h) (by rfl) (by rfl) ?_; apply Exists.intro; apply And.intro; (intro w; go_simp; try with_reducible rfl); go_frame) | (refine regN 18 hS (fun _ h => h) rfl (by kernel_rfl) (by kernel_rfl) (by kernel_rfl) (fun _ _ _ h => h) (by rfl) (by rfl) ?_; go_frame))
                  (first | (refine regR 19 hS (fun _ h => h) rfl (by kernel_rfl) (by kernel_rfl) (by kernel_rfl) (by kernel_rfl) (by kernel_rfl) (fun _ _ _ _ h => h) (by rfl) (by rfl) ?_; (first
                                                        | refine ⟨.int .i64 (x : Int), yLdSl _ _ (by rfl) _ _ (by rfl) (agOf (by rfl)) (Has.s Has.z) i (by omega) HX.out, ?_⟩
                                                        | refine ⟨_, yLd _ _ (by rfl) _ _ (by rfl) (agOf (by rfl)) Has.z (v := .bool true) (by exact HWX.out), ?_⟩); go_frame) | (refine regN 19 hS (fun _ h => h) rfl (by kernel_rfl) (by kernel_rfl) (by kernel_rfl) (fun _ _ _ h => h) (by rfl) (by rfl) ?_; go_frame))
                  (first | (refine regP 20 hS (fun _ h => h) rfl (by kernel_rfl) (by kernel_rfl) (by kernel_rfl) (fun _ _ _ _ h => h) (by rfl) (by rfl) ?_; apply Exists.intro; apply And.intro; (intro w; go_simp; try with_reducible rfl); go_frame) | (refine regN 20 hS (fun _ h => h) rfl (by kernel_rfl) (by kernel_rfl) (by kernel_rfl) (fun _ _ _ h => h) (by rfl) (by rfl) ?_; go_frame))
                  (first | (refine regR 21 hS (fun _ h => h) rfl (by kernel_rfl) (by kernel_rfl) (by kernel_rfl) (by kernel_rfl) (by kernel_rfl) (fun _ _ _ _ h => h) (by rfl) (by rfl) ?_; (first
                                                        | refine ⟨.int .i64 (x : Int), yLdSl _ _ (by rfl) _ _ (by rfl) (agOf (by rfl)) (Has.s Has.z) i (by omega) HX.out, ?_⟩
                                                        | refine ⟨_, yLd _ _ (by rfl) _ _ (by rfl) (agOf (by rfl)) Has.z (v := .bool true) (by exact HWX.out), ?_⟩); go_frame) | (refine regN 21 hS (fun _ h => h) rfl (by kernel_rfl) (by kernel_rfl) (by kernel_rfl) (fun _ _ _ h => h) (by rfl) (by rfl) ?_; go_frame))
                  (first | (refine regP 22 hS (fun _ h => h) rfl (by kernel_rfl) (by kernel_rfl) (by kernel_rfl) (fun _ _ _ _ h => h) (by rfl) (by rfl) ?_; apply Exists.intro; apply And.intro; (intro w; go_simp; try with_reducible rfl); go_frame) | (refine regN 22 hS (fun _ h => h) rfl (by kernel_rfl) (by kernel_rfl) (by kernel_rfl) (fun _ _ _ h => h) (by rfl) (by rfl) ?_; go_frame))
                  (refine regP 23 hS (fun _ h => h) rfl (by kernel_rfl) (by kernel_rfl) (by kernel_rfl) (fun _ _ _ _ h => h) (by rfl) (by rfl) ?_; apply Exists.intro; apply And.intro; (intro w; go_simp; try with_reducible rfl); go_frame)
                  refine regDone (by kernel_rfl) ?_
                  go_wp2
                  exact ⟨⟨i + 1, by go_num, HLT.out, hS⟩, by simp [intOf]; have := HLT.out; omega⟩
                · obtain rfl : i = st.length := by omega
                  have k8 : ¬ (st.length : Int) < (st.length : Int) := by omega
                  have H4 : Hid (Sat W _ [Cs wb 4 (bl (fun t => decide (t ∈ st)) N), Ir (.slice (ast) st.length cst) st, IsG p G, Cs bk 49 ([leafQ 1 0].flatMap qv), Ir (.slice (afr) fr.length cfr) fr, Cs p14 49 [.int .i64 5, .int .i64 0, .slice (some ⟨bk, 0, none⟩) 1 1], Cs p13 49 [.int .i64 2, .int .i64 0, .slice none 0 0], Cs p12 49 [.int .i64 1, .int .i64 0, .slice none 0 0]]) := Lib.hid hS
                  clear hi hlt
                  go_wp2
                  go_loopw [20, 22] (fun v20 v22 wz => ∃ k : Nat, v22 = .int .i64 (k : Int) ∧ v20 = .int .i64 (inN st k : Int) ∧ k ≤ N ∧ Sat W wz [Cs wb 4 (bl (fun t => decide (t ∈ st)) N), Ir (.slice (ast) st.length cst) st, IsG p G, Cs bk 49 ([leafQ 1 0].flatMap qv), Ir (.slice (afr) fr.length cfr) fr, Cs p14 49 [.int .i64 5, .int .i64 0, .slice (some ⟨bk, 0, none⟩) 1 1], Cs p13 49 [.int .i64 2, .int .i64 0, .slice none 0 0], Cs p12 49 [.int .i64 1, .int .i64 0, .slice none 0 0]]) (fun _ v22 _ => N - (intOf v22).toNat)
                  case atStart => exact ⟨0, rfl, by simp [inN_zero], by omega, H4.out⟩
                  case round =>
                    clear hS H4
                    obtain ⟨k, rfl, rfl, hk, hS⟩ := hrel
                    by_cases hkn : k < N
                    · have q1 : (k : Int) < (N : Int) := by omega
                      have HK := Lib.hid hkn
                      have hin : (inN st k : Int) ≤ 80 := by have := inN_le st k; omega
                      obtain ⟨r, hr⟩ : ∃ r, decide (k ∈ st) = r := ⟨_, rfl⟩
                      have HWK := Lib.hid (show (bl (fun t => decide (t ∈ st)) N)[k]? = some (.bool r) by rw [bl_at hkn, hr])
                      cases r with
                      | true =>
                        have HIN := Lib.hid (inN_yes hr)
                        obtain ⟨nn, hnn⟩ : ∃ nn, inN st k = nn := ⟨_, rfl⟩
                        rw [hnn] at hin HIN ⊢
                        clear hkn hk hr hnn
                        go_wp2_with (refine toList (by rfl) ?_; refine ld hS _ _ (by rfl) _ _ (by rfl) (agOf (by rfl)) Has.z (v := .bool true) (by exact HWK.out) ?_)
                        exact ⟨⟨k + 1, by go_num, by rw [HIN.out]; go_num, HK.out, hS⟩, by simp [intOf]; have := HK.out; omega⟩
                      | false =>
                        have HIN := Lib.hid (inN_no hr)
                        obtain ⟨nn, hnn⟩ : ∃ nn, inN st k = nn := ⟨_, rfl⟩
                        rw [hnn] at hin HIN ⊢
                        clear hkn hk hr hnn
                        go_wp2_with (refine toList (by rfl) ?_; refine ld hS _ _ (by rfl) _ _ (by rfl) (agOf (by rfl)) Has.z (v := .bool false) (by exact HWK.out) ?_)
                        exact ⟨⟨k + 1, by go_num, by rw [HIN.out], HK.out, hS⟩, by simp [intOf]; have := HK.out; omega⟩
                    · obtain rfl : k = N := by omega
                      have q1 : ¬ (k : Int) < (k : Int) := by omega
                      rw [show inN st k = st.length from inN_all HSO.out.lt HLO.out]
                      have q2 : ((st.length : Int) != (st.length : Int)) = false := bne_self_eq_false _
                      have q3 : ((st.length : Int) == (st.length : Int)) = true := beq_self_eq_true _
                      obtain ⟨up, hup⟩ : ∃ up, ql G (leafQ 1 0) fr = up := ⟨_, rfl⟩
                      obtain ⟨dn, hdn⟩ : ∃ dn, ql G (leafQ 2 0) fr = dn := ⟨_, rfl⟩
                      obtain ⟨dd, hdd⟩ : ∃ dd, ql G (leafQ 2 0) up = dd := ⟨_, rfl⟩
                      have HSM := Lib.hid (show st.length ≤ 1000000 by omega)
                      have HS2 := Lib.hid (fun w M bk va (h : Sat W w (IsG p G :: Cs bk 49 ([leafQ 1 0].flatMap qv) :: Ir va st :: M)) => star2_any HG.out HA.out HSO.out h)
                      have HUP := Lib.hid (fun w M va (h : Sat W w (IsG p G :: Ir va fr :: M)) => listL_any HG.out HA.out 1 0 fr h)
                      have HDN := Lib.hid (fun w M va (h : Sat W w (IsG p G :: Ir va fr :: M)) => listL_any HG.out HA.out 2 0 fr h)
                      have HDD := Lib.hid (fun w M va (h : Sat W w (IsG p G :: Ir va up :: M)) => listL_any HG.out HA.out 2 0 up h)
                      have HOR := Lib.hid (fun w M bk va (h : Sat W w (IsG p G :: Cs bk 49 ([leafQ 1 0, leafQ 2 0].flatMap qv) :: Ir va fr :: M)) => or_any HG.out HA.out HFR.out hup hdn h)
                      have HTH := Lib.hid (fun w M bk va (h : Sat W w (IsG p G :: Cs bk 49 ([leafQ 1 0, leafQ 2 0].flatMap qv) :: Ir va fr :: M)) => then_any HG.out HA.out HFR.out (show ql G (leafQ 2 0) (ql G (leafQ 1 0) fr) = dd by rw [hup, hdd]) h)
                      have hupl : (up.length : Int) ≤ 80 := by rw [← hup]; have := qlist_len G (leafQ 1 0) (fr.map fun (n : Nat) => (n : Int)); have := HN.out; unfold ql; omega
                      have hdnl : (dn.length : Int) ≤ 80 := by rw [← hdn]; have := qlist_len G (leafQ 2 0) (fr.map fun (n : Nat) => (n : Int)); have := HN.out; unfold ql; omega
                      have HDL := Lib.hid (show dd.length ≤ 1000000 by rw [← hdd]; have := qlist_len G (leafQ 2 0) (up.map fun (n : Nat) => (n : Int)); have := HN.out; unfold ql; omega)
                      rw [hup] at HUP
                      rw [hdn] at HDN
                      rw [hdd] at HDD
                      obtain ⟨km, hkm⟩ : ∃ km : Nat, xk % 5 = (km : Int) := ⟨(xk % 5).toNat, by omega⟩
                      have HP5 := Lib.hid (fun w => show Calls Try.prog 10 #[.int .i64 xk, .int .i64 5] w (fun e w' => e = .returned (.int .i64 (km : Int)) ∧ w = w') by rw [← hkm]; exact place_any xk 5 (by decide) (by decide) w)
                      have HKM := Lib.hid (show km ≤ 4 by omega)
                      have hkm4 : (km : Int) ≤ 4 := by omega
                      have hw1 : IntKind.i64.wrap (1 + (km : Int)) = 1 + (km : Int) := IntWalk.i64_in _ (by omega)
                      clear hup hdn hdd hkm hk hkn
                      go_wp2_with (first
                        | (refine toList (by rfl) ?_; refine wp_of_reads (rLdA hS _ _ (by rfl) _ _ (by rfl) (agOf (by rfl)) (szOf (by rfl)) (Has.s (Has.s (Has.s (Has.s (Has.s Has.z))))) (vs := [.int .i64 5, .int .i64 0, .slice (some ⟨bk, 0, none⟩) 1 1]) (by rfl) (by rfl)) ?_)
                        | (go_at_call 20; refine (HS2.out _ _ _ _ (hS.re [2, 3, 1])).mono ?_; rintro e w1 ⟨as2, cs2, rfl, hS1⟩; clear hS; have hS := (show Sat W w1 [Ir _ st, IsG p G, Cs bk 49 ([leafQ 1 0].flatMap qv), Ir _ st, Cs wb _ _, Ir _ fr, Cs p14 _ _, Cs p13 _ _, Cs p12 _ _] from hS1); clear hS1)
                        | (go_at_call 18; refine (same_any (show Sat W _ [Ir _ st, IsG p G, Cs bk _ _, Ir _ st, Cs wb _ _, Ir _ fr, Cs p14 _ _, Cs p13 _ _, Cs p12 _ _] from hS) st _ _ _ _ (fun w h => h.irRd (k := 0) rfl) (fun w h => h.irRd (k := 3) rfl) HSM.out).mono ?_; rintro e w1 ⟨rfl, hS1⟩; clear hS; have hS := (show Sat W w1 [IsG p G, Ir _ fr, Cs p13 _ _, Cs p12 _ _] from (hS1.re [0, 2, 3, 4, 6]).drop.drop.drop.drop.drop); clear hS1)
                        | (refine toList (by rfl) ?_; refine wp_of_reads (rLdA hS _ _ (by rfl) _ _ (by rfl) (agOf (by rfl)) (szOf (by rfl)) (Has.s (Has.s (Has.s Has.z))) (vs := [.int .i64 1, .int .i64 0, .slice none 0 0]) (by rfl) (by rfl)) ?_)
                        | (refine toList (by rfl) ?_; refine wp_of_reads (rLdA hS _ _ (by rfl) _ _ (by rfl) (agOf (by rfl)) (szOf (by rfl)) (Has.s (Has.s Has.z)) (vs := [.int .i64 2, .int .i64 0, .slice none 0 0]) (by rfl) (by rfl)) ?_)
                        | (go_at_call 20; refine (HUP.out _ _ _ (show Sat W _ (IsG p G :: Ir _ fr :: Cs p13 _ _ :: _) from hS)).mono ?_; rintro e w1 ⟨aup, cup, rfl, hS1⟩; clear hS; have hS := (show Sat W w1 [IsG p G, Ir _ fr, Cs p13 _ _, Cs p12 _ _, Ir _ up] from hS1.re [1, 2, 3, 4, 0]); clear hS1)
                        | (go_at_call 20; refine (HDN.out _ _ _ (show Sat W _ [IsG p G, Ir _ fr, Cs p13 _ _, Cs p12 _ _, Ir _ up] from hS)).mono ?_; rintro e w1 ⟨adn, cdn, rfl, hS1⟩; clear hS; have hS := (show Sat W w1 [IsG p G, Ir _ fr, Cs p13 _ _, Cs p12 _ _, Ir _ up, Ir _ dn] from hS1.re [1, 2, 3, 4, 5, 0]); clear hS1)
                        | (refine toList (by rfl) ?_; refine bsF hS _ _ _ (by rfl) (elOf (by rfl)) [.agg #[.int .i64 1, .int .i64 0, .slice none 0 0], .agg #[.int .i64 2, .int .i64 0, .slice none 0 0]] (by rfl) (by rfl) (by decide) (by decide) (stepAgg2 1 0 2 0) ?_; intro b2 w1 hS1; rw [fmStep2] at hS1; clear hS; have hS := hS1; clear hS1)
                        | (go_at_call 20; refine (HOR.out _ _ _ _ (show Sat W _ [IsG p G, Cs b2 _ _, Ir _ fr, Cs p13 _ _, Cs p12 _ _, Ir _ up, Ir _ dn] from hS.re [1])).mono ?_; rintro e w1 ⟨aol, col, ol, rfl, hol, hoN, hS1⟩; have HOL := Lib.hid hol; have HON := Lib.hid hoN; clear hol hoN hS; have hS := (show Sat W w1 [IsG p G, Ir _ fr, Cs p13 _ _, Cs p12 _ _, Ir _ up, Ir _ dn, Ir _ ol] from ((hS1.re [2]).drop).re [1, 2, 3, 4, 5, 6, 0]); clear hS1; have hol1 : ¬ ((up.length : Int) + (dn.length : Int) < (ol.length : Int)) := (by have := HOL.out; omega); have hol2 : decide ((up.length : Int) + (dn.length : Int) < (ol.length : Int)) = false := decide_eq_false hol1; have hol3 : decide (up.length + dn.length < ol.length) = false := decide_eq_false (by have := HOL.out; omega); have hol4 : (ol.length : Int) ≤ 160 := (by have := HOL.out; omega))
                        | (go_at_call 20; refine (HTH.out _ _ _ _ (show Sat W _ [IsG p G, Cs b2 _ _, Ir _ fr, Cs p13 _ _, Cs p12 _ _, Ir _ up, Ir _ dn, Ir _ ol] from hS.re [1])).mono ?_; rintro e w1 ⟨ath, cth, rfl, hS1⟩; clear hS; have hS := (show Sat W w1 [IsG p G, Ir _ fr, Cs p13 _ _, Cs p12 _ _, Ir _ up, Ir _ dn, Ir _ ol, Ir _ dd] from ((hS1.re [2]).drop).re [1, 2, 3, 4, 5, 6, 7, 0]); clear hS1)
                        | (go_at_call 20; refine (HDD.out _ _ _ (show Sat W _ [IsG p G, Ir _ up, Ir _ fr, Cs p13 _ _, Cs p12 _ _, Ir _ dn, Ir _ ol, Ir _ dd] from hS.re [0, 4])).mono ?_; rintro e w1 ⟨adh, cdh, rfl, hS1⟩; clear hS; have hS := (show Sat W w1 [Ir _ dd, IsG p G, Ir _ up, Ir _ fr, Cs p13 _ _, Cs p12 _ _, Ir _ dn, Ir _ ol, Ir _ dd] from hS1); clear hS1)
                        | (go_at_call 18; refine (same_any (show Sat W _ [Ir _ dd, IsG p G, Ir _ up, Ir _ fr, Cs p13 _ _, Cs p12 _ _, Ir _ dn, Ir _ ol, Ir _ dd] from hS) dd _ _ _ _ (fun w h => h.irRd (k := 8) rfl) (fun w h => h.irRd (k := 0) rfl) HDL.out).mono ?_; rintro e w1 ⟨rfl, hS1⟩; clear hS; have hS := (show Sat W w1 [IsG p G, Ir _ ol] from (hS1.re [0, 2, 3, 4, 5, 6, 8]).drop.drop.drop.drop.drop.drop.drop); clear hS1)
                        | (go_at_call 10; refine (HP5.out _).mono ?_; rintro e w1 ⟨rfl, rfl⟩)
                        | (refine toList (by rfl) ?_; refine al (show Sat W _ [IsG p G, Ir _ ol] from hS) _ (by rfl) (zrOf (T := 49) (by rfl)) ?_; intro p27 w1 hS1; clear hS; have hS := hS1; clear hS1; rw [cells_agg] at hS)
                        | (refine toList (by rfl) ?_; refine stW hS _ _ _ (by rfl) (by rfl) [.int .i64 3, .int .i64 (1 + (km : Int)), .slice none 0 0] (by rfl) (by intro u hu; simp only [List.mem_cons, List.not_mem_nil, or_false] at hu; rcases hu with rfl | rfl | rfl <;> rfl) (szOf (by rfl)) Has.z (by rfl) ?_; intro w1 hS1; clear hS; have hS := hS1; clear hS1; dsimp only [List.set_cons_zero] at hS)
                        | (refine toList (by rfl) ?_; refine wp_of_reads (rLdA hS _ _ (by rfl) _ _ (by rfl) (agOf (by rfl)) (szOf (by rfl)) (Has.z) (vs := [.int .i64 3, .int .i64 (1 + (km : Int)), .slice none 0 0]) (by rfl) (by rfl)) ?_)
                        | (go_at_call 20; refine (kindL_any HG.out HA.out HKM.out HON.out (show Sat W _ [IsG p G, Ir _ ol, Cs p27 _ _] from hS.re [1, 2])).mono ?_; rintro e w1 ⟨akl, ckl, kl, rfl, hkl, hki, hS1⟩; have HKL := Lib.hid hki; have HKN := Lib.hid hkl; clear hki hkl hS; have hS := (show Sat W w1 [Ir _ kl, IsG p G, Ir _ ol, Cs p27 _ _] from hS1); clear hS1))
                      have hkl : (kl.length : Int) ≤ 80 := by have := HKN.out; have := HN.out; omega
                      have H5 : Hid (Sat W _ [Ir (.slice akl kl.length ckl) kl, IsG p G, Ir (.slice aol ol.length col) ol, Cs p27 49 [.int .i64 3, .int .i64 (1 + (km : Int)), .slice none 0 0]]) := Lib.hid hS
                      go_loopw [29] (fun v wz => ∃ i : Nat, v = .int .i64 (i : Int) ∧ i ≤ kl.length ∧ Sat W wz [Ir (.slice akl kl.length ckl) kl, IsG p G, Ir (.slice aol ol.length col) ol, Cs p27 49 [.int .i64 3, .int .i64 (1 + (km : Int)), .slice none 0 0]]) (fun v _ => kl.length - (intOf v).toNat)
                      case atStart => exact ⟨0, rfl, by omega, H5.out⟩
                      case round =>
                        clear hS H5
                        obtain ⟨i, rfl, hi, hS⟩ := hrel
                        by_cases hlt : i < kl.length
                        · have k8 : (i : Int) < (kl.length : Int) := by omega
                          have HLT := Lib.hid hlt
                          obtain ⟨b0, o0, rfl⟩ := Sat.irAddr (k := 0) hS rfl rfl (by omega)
                          obtain ⟨x, hx⟩ : ∃ x, kl[i]? = some x := ⟨_, List.getElem?_eq_getElem hlt⟩
                          obtain ⟨hxN, hxk⟩ := HKL.out x (List.mem_of_getElem? hx)
                          have HX := Lib.hid (iv_at hx)
                          have HND := Lib.hid (fun w M (h : Sat W w (IsG p G :: M)) => nodeK_any h hxN hxk)
                          have q4 : ((1 + (km : Int)) != (1 + (km : Int))) = false := bne_self_eq_false _
                          have q5 : ((1 + (km : Int)) == (1 + (km : Int))) = true := beq_self_eq_true _
                          clear hx hlt hi hxN hxk
                          go_wp2_with (first
                            | (refine toList (by rfl) ?_; refine ldSl hS _ _ (by rfl) _ _ (by rfl) (agOf (by rfl)) Has.z i (by omega) HX.out ?_)
                            | (go_at_call 22; refine (HND.out _ _ (hS.re [1])).mono ?_; rintro e w1 ⟨fb, fc, fd, ff, fo, rfl, hS1⟩; clear hS; have hS := (show Sat W w1 [IsG p G, Ir _ kl, Ir _ ol, Cs p27 _ _] from hS1).re [1, 0]; clear hS1)
                            | (refine toList (by rfl) ?_; refine al hS _ (by rfl) (zrOf (by rfl)) ?_; intro px w1 hS1; clear hS; have hS := hS1; clear hS1)
                            | (refine toList (by rfl) ?_; refine stW hS _ _ _ (by rfl) (by rfl) (nv ⟨1 + (km : Int), fb, fc, fd, ff, fo⟩) (by rfl) (by exact nv_all _) (szOf (by rfl)) Has.z rfl ?_; intro w1 hS1; clear hS; have hS := hS1; clear hS1; dsimp only [List.set_cons_zero] at hS)
                            | (refine toList (by rfl) ?_; refine ld hS _ _ (by rfl) _ 0 (by rfl) (agOf (by rfl)) Has.z (v := .int .i64 (1 + (km : Int))) (by rfl) ?_)
                            | (refine toList (by rfl) ?_; refine ld hS _ _ (by rfl) _ 1 (by rfl) (agOf (by rfl)) (Has.s (Has.s (Has.s (Has.s Has.z)))) (v := .int .i64 (1 + (km : Int))) (by rfl) ?_))
                          exact ⟨⟨i + 1, by go_num, HLT.out, hS.drop⟩, by simp [intOf]; have := HLT.out; omega⟩
                        · obtain rfl : i = kl.length := by omega
                          have k8 : ¬ (kl.length : Int) < (kl.length : Int) := by omega
                          clear hi hlt
                          go_wp2_with (go_at_call 15; refine (awake_any hS).mono ?_; rintro e w1 ⟨rfl, hS1⟩; clear hS; have hS := hS1; clear hS1)
                          go_ret
                          exact ⟨rfl, sat_nilS hS⟩

set_option maxRecDepth 100000 in
theorem Steps.contract (H : Type) (enc : TypeId × Value → H) (W : World) (base : Nat) (args : Array Value) (ds gs : List (DataW H)) (before : List MemPlace)
    (hval : ∀ (j : Nat) t v, Try.f5.params[j]? = some t → args[j]? = some v → Value.okWide Try.prog W .any base t v)
    (hW : DataW.Whole enc Try.prog Try.f5.params.toList Rows.queryStepsSpec.vars false W args.toList ds gs before)
    (hreach : (DataW.weightsEach Try.prog (Try.f5.params.toList ++ Rows.queryStepsSpec.plain.varTypes Try.prog) (ds ++ gs)).all (· ≤ reachBytes) = true) :
    Calls Try.prog 5 args W fun e W' => ∃ v, e = .returned v ∧ Rows.queryStepsSpec.post enc Try.prog Try.f5 false true false false W args v W' := by
  have hW' := hW
  obtain ⟨p, q, hA, hV, rfl, hfz, hnd⟩ := hW
  rw [Try.params5] at hA hval hreach
  obtain ⟨v0, vs0, d0, ds0, p0, q0, hargs, rfl, rfl, h0, r0⟩ := trodAll_cons hA
  obtain ⟨v1, vs1, d1, ds1, p1, q1, rfl, rfl, rfl, h1, r1⟩ := trodAll_cons r0
  obtain ⟨v2, vs2, d2, ds2, p2, q2, rfl, rfl, rfl, h2, r2⟩ := trodAll_cons r1
  obtain ⟨rfl, rfl, rfl⟩ := trodAll_nil r2
  obtain rfl : args = #[v0, v1, v2] := by cases args; simp_all
  obtain ⟨rfl, rfl⟩ := trodVars_none hV
  obtain ⟨ao0, l0, c0, rfl⟩ := okWide_slice Try.underlying35 (hval 0 35 v0 rfl rfl)
  obtain ⟨ao1, l1, c1, rfl⟩ := okWide_slice Try.underlying32 (hval 1 32 v1 rfl rfl)
  obtain ⟨a2, rfl, rfl, rfl, w2⟩ := open_int Try.underlying3 (hval 2 3 v2 rfl rfl) h2
  obtain ⟨l, rfl, hr, _⟩ := open_gops h0
  obtain ⟨fl, rfl, hf, _, _⟩ := open_nums Try.underlying32 Try.underlying3 (by kernel_rfl) h1
  refine (Steps.walk l ao0 c0 fl ao1 c1 a2 W hr hf).mono ?_
  refine fun e W' ⟨he, hS⟩ => ?_
  subst he
  exact ⟨_, rfl, law_post (tb := 4) (by kernel_rfl) (by kernel_rfl) rfl Try.underlying4 rfl hW' rfl hS⟩

theorem Steps.own : ownKnob Try.prog.godebug = none := by kernel_rfl
set_option maxRecDepth 100000 in
theorem Steps.lifted (os : Os) (started : os.Started) (H : Type) (enc : TypeId × Value → H) :
    ReturnsInHanded {} Try.checked os 5 .any (Rows.queryStepsSpec.pre6 enc Try.prog Try.f5 Rows.queryStepsRow.domain false) (Rows.queryStepsSpec.post enc Try.prog Try.f5 false true false false) := by
  refine returnsInHanded_of_change_shaped (C := Try.checked) Steps.own started (by kernel_rfl) Try.func5
    (ChangeSpec.witness6 (enc := enc) (C := Try.checked) false ⟨#[], #[.slice none 0 0, .slice none 0 0, .int .i64 0], []⟩ 8 (by kernel_rfl) (by kernel_rfl) (by kernel_rfl) (by kernel_rfl)) ?_
  intro W base args ds gs before hval hW _ hreach _ _
  exact Steps.contract H enc W base args ds gs before hval hW hreach

theorem Steps.holds : Rows.QueryStepsSaid :=
  OpenClaim.holds_of_wide 5 Try.f5 rfl rfl rfl rfl rfl rfl rfl ⟨rfl, rfl, rfl, rfl, rfl⟩ rfl rfl rfl rfl rfl (by kernel_rfl) Try.func5 (by kernel_rfl)
    (of_decide_eq_true (by kernel_rfl)) (by unfold Func.isWrapper; first | (rw [if_pos (by decide +kernel)]; kernel_rfl) | (rw [if_neg (by decide +kernel)]; exact ⟨rfl, rfl⟩))
    (fun os started H enc _ => Steps.lifted os started H enc)
end Go.Proofs.Ytpnbdnfgdiakhaa
