/-
  The document's graph (package pedigreeref15): Is, Has, Add.
  The document's graph (package pedigreeref15): Marks, Reaches, Edge.
  The document's graph: Reaches, Edge, Mark, Clear, Lost.
  What is done to both graphs, side by side: GDo, Graphs; SameInts.
-/
import Derived.Test.YtpnbdnfgdiakhaaGreatMGrc
namespace Go.Proofs.YtpnbdnfgdiakhaaGreat
open Go.RowKit Go.Sep
set_option linter.unusedSimpArgs false
set_option linter.unusedVariables false
attribute [local irreducible] Go.Oper.wp Go.wpList Go.Calls Go.Code.wp Go.Sep.Reg
def ev (e : Nat × Nat) : List Value := [.int .i64 (e.1 : Int), .int .i64 (e.2 : Int)]
theorem ev_len (l : List (Nat × Nat)) : ∀ x ∈ l, (ev x).length = 2 := fun _ _ => rfl
theorem ev_one (l : List (Nat × Nat)) : ∀ u ∈ l.flatMap ev, u.oneCell' = true := fun u hu => by
  obtain ⟨x, _, hu⟩ := List.mem_flatMap.1 hu
  simp only [ev, List.mem_cons, List.not_mem_nil, or_false] at hu
  rcases hu with rfl | rfl <;> rfl
def IsR (p : Nat) (G : Gr) : Asrt :=
  Ex fun x : Value × Value => St [Cs p 53 [x.1, x.2], Tb 60 6 nv x.1 G.N, Tb 83 2 ev x.2 G.E]
theorem IsR.open {W w : World} {L : List Asrt} {p : Nat} {G : Gr} (h : Sat W w (IsR p G :: L)) : ∃ an cn ae ce, G.N.length ≤ cn ∧ G.E.length ≤ ce ∧
    Sat W w (Cs p 53 [.slice an G.N.length cn, .slice ae G.E.length ce] :: Tb 60 6 nv (.slice an G.N.length cn) G.N :: Tb 83 2 ev (.slice ae G.E.length ce) G.E :: L) := by
  obtain ⟨⟨vn, ve⟩, h⟩ := h.ex
  have h2 : Sat W w (Cs p 53 [vn, ve] :: Tb 60 6 nv vn G.N :: Tb 83 2 ev ve G.E :: L) := h.open
  obtain ⟨an, cn, rfl, hn⟩ := h2.tbShape (k := 1) rfl
  obtain ⟨ae, ce, rfl, he⟩ := h2.tbShape (k := 2) rfl
  exact ⟨an, cn, ae, ce, hn, he, h2⟩
theorem IsR.mk {W w : World} {L : List Asrt} {p : Nat} {G : Gr} {vn ve : Value}
    (h : Sat W w (Cs p 53 [vn, ve] :: Tb 60 6 nv vn G.N :: Tb 83 2 ev ve G.E :: L)) : Sat W w (IsR p G :: L) :=
  Sat.mkEx (vn, ve) (Sat.mkSt h)
theorem is_any {W w : World} {L : List Asrt} {p : Nat} {G : Gr} (hS : Sat W w (IsR p G :: L)) (n : Int) {b : Bool} (hb : G.is n = b) :
    Calls Tryz.prog 24 #[.pointer (some ⟨p, 0, none⟩), .int .i64 n] w fun e w' => e = .returned (.bool b) ∧ w = w' := by
  obtain ⟨an, cn, ae, ce, hcn, hce, hS⟩ := IsR.open hS
  unfold Gr.is at hb
  by_cases h1 : 0 ≤ n
  · have e1 : decide (0 ≤ n) = true := decide_eq_true h1
    by_cases h2 : n < (G.N.length : Int)
    · obtain rfl : b = true := by rw [← hb, e1, decide_eq_true h2]; rfl
      clear hb
      go_enter Tryz.func24, Tryz.ntmps24
      go_wp2_with (refine toList (by rfl) ?_; refine ld hS _ _ (by rfl) _ _ (by rfl) (agOf (by rfl)) (by repeat first | exact Has.z | apply Has.s) (by rfl) ?_)
      go_ret
      exact ⟨rfl, rfl⟩
    · obtain rfl : b = false := by rw [← hb, e1, decide_eq_false h2]; rfl
      have e2 : decide (n < (G.N.length : Int)) = false := decide_eq_false h2
      clear hb
      go_enter Tryz.func24, Tryz.ntmps24
      go_wp2_with (refine toList (by rfl) ?_; refine ld hS _ _ (by rfl) _ _ (by rfl) (agOf (by rfl)) (by repeat first | exact Has.z | apply Has.s) (by rfl) ?_)
      go_ret
      exact ⟨rfl, rfl⟩
  · obtain rfl : b = false := by rw [← hb, decide_eq_false h1]; rfl
    have e1 : decide (0 ≤ n) = false := decide_eq_false h1
    clear hb
    go_enter Tryz.func24, Tryz.ntmps24
    go_wp2_with (refine toList (by rfl) ?_; refine ld hS _ _ (by rfl) _ _ (by rfl) (agOf (by rfl)) (by repeat first | exact Has.z | apply Has.s) (by rfl) ?_)
    go_ret
    exact ⟨rfl, rfl⟩
def hasP (a b : Int) (p : Nat × Nat) : Bool := decide ((p.1 : Int) = a) && decide ((p.2 : Int) = b)
theorem any_split {α : Type} {l : List α} {i : Nat} {x : α} {P : α → Bool} (hx : l[i]? = some x) (h : (l.take i).any P = false) (hp : P x = true) : l.any P = true := by
  have h2 := h
  exact List.any_eq_true.2 ⟨x, List.mem_of_getElem? hx, hp⟩
theorem any_next {α : Type} {l : List α} {i : Nat} {x : α} {P : α → Bool} (hx : l[i]? = some x) (h : (l.take i).any P = false) (hp : P x = false) : (l.take (i + 1)).any P = false := by
  rw [List.take_add_one, hx, List.any_append, h]
  simp [hp]
set_option maxRecDepth 20000 in
theorem has_any {W w : World} {L : List Asrt} {p : Nat} {G : Gr} (hS : Sat W w (IsR p G :: L)) (a b : Int) (hE : G.E.length ≤ 1000000) {r : Bool} (hr : G.has (a, b) = r) :
    Calls Tryz.prog 69 #[.pointer (some ⟨p, 0, none⟩), .int .i64 a, .int .i64 b] w fun e w' => e = .returned (.bool r) ∧ w = w' := by
  obtain ⟨an, cn, ae, ce, hcn, hce, hS⟩ := IsR.open hS
  have HR := Lib.hid (show G.E.any (hasP a b) = r from hr)
  clear hr
  go_enter Tryz.func69, Tryz.ntmps69
  go_wp2_with (refine toList (by rfl) ?_; refine ld hS _ _ (by rfl) _ _ (by rfl) (agOf (by rfl)) (by repeat first | exact Has.z | apply Has.s) (by rfl) ?_)
  have H0 := Lib.hid hS
  go_loopw [7] (fun v wz => ∃ i : Nat, v = .int .i64 i ∧ i ≤ G.E.length ∧ (G.E.take i).any (hasP a b) = false ∧ w = wz) (fun v _ => G.E.length - (intOf v).toNat)
  case atStart => exact ⟨0, rfl, by omega, rfl, rfl⟩
  case round =>
    obtain ⟨i, rfl, hi, hno, rfl⟩ := hrel
    have HNO := Lib.hid hno
    clear H0 hno
    by_cases hl : i < G.E.length
    · have k1 : (i : Int) < (G.E.length : Int) := by omega
      obtain ⟨⟨x, y⟩, hx⟩ : ∃ e, G.E[i]? = some e := ⟨_, List.getElem?_eq_getElem hl⟩
      have HX := Lib.hid hx
      have HL := Lib.hid hl
      obtain ⟨be, oe, c', hv, _⟩ := hS.tbAddr (k := 2) rfl (by omega)
      simp only [Value.slice.injEq, true_and] at hv
      obtain ⟨rfl, rfl⟩ := hv
      clear hx hl
      by_cases hxa : (x : Int) = a
      · have HXA := Lib.hid hxa
        have f1 : ((x : Int) == a) = true := by rw [hxa]; simp
        have f1d : decide ((x : Int) = a) = true := decide_eq_true hxa
        by_cases hyb : (y : Int) = b
        · have HYB := Lib.hid hyb
          have f2 : ((y : Int) == b) = true := by rw [hyb]; simp
          have f2d : decide ((y : Int) = b) = true := decide_eq_true hyb
          obtain rfl : r = true := by rw [← HR.out]; exact any_split HX.out HNO.out (by unfold hasP; rw [f1d, f2d]; rfl)
          go_wp2_with (first
            | (refine toList (by rfl) ?_; refine ld hS _ _ (by rfl) _ _ (by rfl) (agOf (by rfl)) (by repeat first | exact Has.z | apply Has.s) (by rfl) ?_)
            | (refine toList (by rfl) ?_; refine ldTb hS _ _ (by rfl) _ _ (by rfl) (agOf (by rfl)) (Has.s (Has.s Has.z)) i 0 (by omega) HX.out (by rfl) ?_)
            | (refine toList (by rfl) ?_; refine ldTb hS _ _ (by rfl) _ _ (by rfl) (agOf (by rfl)) (Has.s (Has.s Has.z)) i 1 (by omega) HX.out (by rfl) ?_))
          go_ret
          exact ⟨rfl, rfl⟩
        · have f2 : ((y : Int) == b) = false := beq_eq_false_iff_ne.2 hyb
          have f2d : decide ((y : Int) = b) = false := decide_eq_false hyb
          go_wp2_with (first
            | (refine toList (by rfl) ?_; refine ld hS _ _ (by rfl) _ _ (by rfl) (agOf (by rfl)) (by repeat first | exact Has.z | apply Has.s) (by rfl) ?_)
            | (refine toList (by rfl) ?_; refine ldTb hS _ _ (by rfl) _ _ (by rfl) (agOf (by rfl)) (Has.s (Has.s Has.z)) i 0 (by omega) HX.out (by rfl) ?_)
            | (refine toList (by rfl) ?_; refine ldTb hS _ _ (by rfl) _ _ (by rfl) (agOf (by rfl)) (Has.s (Has.s Has.z)) i 1 (by omega) HX.out (by rfl) ?_))
          exact ⟨⟨i + 1, by go_num, HL.out, any_next HX.out HNO.out (by unfold hasP; rw [f1d, f2d]; rfl), trivial⟩, by simp [intOf]; have := HL.out; omega⟩
      · have f1 : ((x : Int) == a) = false := beq_eq_false_iff_ne.2 hxa
        have f1d : decide ((x : Int) = a) = false := decide_eq_false hxa
        go_wp2_with (first
          | (refine toList (by rfl) ?_; refine ld hS _ _ (by rfl) _ _ (by rfl) (agOf (by rfl)) (by repeat first | exact Has.z | apply Has.s) (by rfl) ?_)
          | (refine toList (by rfl) ?_; refine ldTb hS _ _ (by rfl) _ _ (by rfl) (agOf (by rfl)) (Has.s (Has.s Has.z)) i 0 (by omega) HX.out (by rfl) ?_)
          | (refine toList (by rfl) ?_; refine ldTb hS _ _ (by rfl) _ _ (by rfl) (agOf (by rfl)) (Has.s (Has.s Has.z)) i 1 (by omega) HX.out (by rfl) ?_))
        exact ⟨⟨i + 1, by go_num, HL.out, any_next HX.out HNO.out (by unfold hasP; rw [f1d]; rfl), trivial⟩, by simp [intOf]; have := HL.out; omega⟩
    · have k1 : decide ((i : Int) < (G.E.length : Int)) = false := decide_eq_false (by omega)
      have k2 : ¬ (i : Int) < (G.E.length : Int) := by omega
      obtain rfl : r = false := by rw [← HR.out, ← HNO.out, List.take_of_length_le (by omega)]
      clear hl
      go_wp2_with (refine toList (by rfl) ?_; refine ld hS _ _ (by rfl) _ _ (by rfl) (agOf (by rfl)) (by repeat first | exact Has.z | apply Has.s) (by rfl) ?_)
      go_ret
      exact ⟨rfl, rfl⟩
def cntT (G : Gr) (k o : Int) (i : Nat) : Nat := ((G.N.take i).filter (Gr.same k o)).length
theorem cntT_next {G : Gr} {k o : Int} {i : Nat} {x : NodeD} (hx : G.N[i]? = some x) : cntT G k o (i + 1) = cntT G k o i + if Gr.same k o x then 1 else 0 := by
  unfold cntT
  rw [List.take_add_one, hx, List.filter_append, List.length_append]
  congr 1
  cases h : Gr.same k o x with
  | true => simp [h]
  | false => simp [h]
theorem cntT_le (G : Gr) (k o : Int) (i : Nat) : cntT G k o i ≤ i := by
  unfold cntT
  have := List.length_filter_le (Gr.same k o) (G.N.take i)
  have := List.length_take_le i G.N
  omega
theorem cntT_all (G : Gr) (k o : Int) {i : Nat} (h : G.N.length ≤ i) : cntT G k o i = G.count k o := by unfold cntT Gr.count; rw [List.take_of_length_le h]
theorem nv6 (a b c d e : Int) (o : Bool) : (.agg #[.int .i64 a, .int .i64 b, .int .i64 c, .int .i64 d, .int .i64 e, .bool o] : Value) = .agg [.int .i64 a, .int .i64 b, .int .i64 c, .int .i64 d, .int .i64 e, .bool o].toArray := rfl
set_option maxRecDepth 20000 in
set_option maxHeartbeats 2000000 in
theorem radd_any {W w : World} {L : List Asrt} {p : Nat} {G : Gr} (hS : Sat W w (IsR p G :: L)) (hG : G.Ok) (k o : Int) :
    Calls Tryz.prog 36 #[.pointer (some ⟨p, 0, none⟩), .int .i64 k, .int .i64 o] w fun e w' => e = .returned (.tuple #[.int .i64 (G.addI k o), .int .i64 (G.addE k o)]) ∧ Sat W w' (IsR p (G.addG k o) :: L) := by
  by_cases h1 : k < 1
  · have HF := Lib.hid (newOk_no (k := k) (o := o) (by omega))
    unfold Gr.addI Gr.addE Gr.addG Gr.addOk
    rw [HF.out]
    go_enter Tryz.func36, Tryz.ntmps36
    go_wp2
    go_ret2
    exact ⟨rfl, hS⟩
  have e1 : decide (k < 1) = false := decide_eq_false h1
  by_cases h2 : 5 < k
  · have e2 : decide (5 < k) = true := decide_eq_true h2
    have HF := Lib.hid (newOk_no (k := k) (o := o) (by omega))
    unfold Gr.addI Gr.addE Gr.addG Gr.addOk
    rw [HF.out]
    go_enter Tryz.func36, Tryz.ntmps36
    go_wp2
    go_ret2
    exact ⟨rfl, hS⟩
  have e2 : decide (5 < k) = false := decide_eq_false h2
  by_cases h3 : o < 1
  · have e3 : decide (o < 1) = true := decide_eq_true h3
    have HF := Lib.hid (newOk_no (k := k) (o := o) (by omega))
    unfold Gr.addI Gr.addE Gr.addG Gr.addOk
    rw [HF.out]
    go_enter Tryz.func36, Tryz.ntmps36
    go_wp2
    go_ret2
    exact ⟨rfl, hS⟩
  have e3 : decide (o < 1) = false := decide_eq_false h3
  by_cases h4 : 16777215 < o
  · have e4 : decide (16777215 < o) = true := decide_eq_true h4
    have HF := Lib.hid (newOk_no (k := k) (o := o) (by omega))
    unfold Gr.addI Gr.addE Gr.addG Gr.addOk
    rw [HF.out]
    go_enter Tryz.func36, Tryz.ntmps36
    go_wp2
    go_ret2
    exact ⟨rfl, hS⟩
  have e4 : decide (16777215 < o) = false := decide_eq_false h4
  have hnew := newOk_yes (k := k) (o := o) (by omega) (by omega) (by omega) (by omega)
  obtain ⟨an, cn, ae, ce, hcn, hce, hO⟩ := IsR.open hS
  by_cases h5 : 4096 ≤ G.N.length
  · have e5 : 4096 ≤ (G.N.length : Int) := by omega
    unfold Gr.addI Gr.addE Gr.addG Gr.addOk
    rw [hnew, decide_eq_false (by omega), if_neg (by decide), if_pos rfl, if_neg (by omega), if_neg (by decide)]
    clear hnew h5
    go_enter Tryz.func36, Tryz.ntmps36
    go_wp2_with (refine toList (by rfl) ?_; refine ld hO _ _ (by rfl) _ _ (by rfl) (agOf (by rfl)) (by repeat first | exact Has.z | apply Has.s) (by rfl) ?_)
    go_ret2
    exact ⟨rfl, hS⟩
  have e5 : ¬ 4096 ≤ (G.N.length : Int) := by omega
  have e5b : decide (4096 ≤ (G.N.length : Int)) = false := decide_eq_false e5
  have e5c : (G.N.length : Int) < 4096 := by omega
  have hadd : G.addOk k o = true := by unfold Gr.addOk; rw [hnew, decide_eq_true (by omega)]; rfl
  unfold Gr.addI Gr.addE Gr.addG
  rw [hadd, if_pos rfl, if_pos rfl, hnew, if_pos rfl, if_pos (by omega)]
  clear hnew hadd hS
  have hS := hO
  clear hO
  have HLN := Lib.hid (show G.N.length < 4096 by omega)
  clear h5
  go_enter Tryz.func36, Tryz.ntmps36
  go_wp2_with (refine toList (by rfl) ?_; refine ld hS _ _ (by rfl) _ _ (by rfl) (agOf (by rfl)) (by repeat first | exact Has.z | apply Has.s) (by rfl) ?_)
  have H0 := Lib.hid hS
  go_loopw [8, 9] (fun v8 v9 wz => ∃ i : Nat, v9 = .int .i64 i ∧ i ≤ G.N.length ∧ v8 = .int .i64 (1 + (cntT G k o i : Int)) ∧ w = wz) (fun _ v9 _ => G.N.length - (intOf v9).toNat)
  case atStart => exact ⟨0, rfl, by omega, rfl, rfl⟩
  case round =>
    obtain ⟨i, rfl, hi, rfl, rfl⟩ := hrel
    clear H0
    obtain ⟨q, hq⟩ : ∃ q, cntT G k o i = q := ⟨_, rfl⟩
    have hqi : (q : Int) ≤ 4096 := by have := cntT_le G k o i; have := HLN.out; omega
    rw [hq]
    by_cases hl : i < G.N.length
    · have k1 : (i : Int) < (G.N.length : Int) := by omega
      obtain ⟨⟨x1, x2, x3, x4, x5, x6⟩, hx⟩ : ∃ e, G.N[i]? = some e := ⟨_, List.getElem?_eq_getElem hl⟩
      have HX := Lib.hid hx
      have HL := Lib.hid hl
      have HNX := Lib.hid (cntT_next (k := k) (o := o) hx)
      have HQ := Lib.hid hq
      obtain ⟨bn, on, c', hv, _⟩ := hS.tbAddr (k := 1) rfl (by omega)
      simp only [Value.slice.injEq, true_and] at hv
      obtain ⟨rfl, rfl⟩ := hv
      clear hx hl hq
      by_cases hxa : x1 = k
      · have f1 : (x1 == k) = true := by rw [hxa]; simp
        have f1d : decide (x1 = k) = true := decide_eq_true hxa
        by_cases hyb : x2 = o
        · have f2 : (x2 == o) = true := by rw [hyb]; simp
          have f2d : decide (x2 = o) = true := decide_eq_true hyb
          have HS1 := Lib.hid (show Gr.same k o ⟨x1, x2, x3, x4, x5, x6⟩ = true by unfold Gr.same; rw [f1d, f2d]; rfl)
          have HEQ := Lib.hid (show (1 : Int) + (q : Int) + 1 = 1 + (cntT G k o (i + 1) : Int) by rw [HNX.out, HS1.out, HQ.out]; simp; omega)
          go_wp2_with (first
            | (refine toList (by rfl) ?_; refine ld hS _ _ (by rfl) _ _ (by rfl) (agOf (by rfl)) (by repeat first | exact Has.z | apply Has.s) (by rfl) ?_)
            | (refine toList (by rfl) ?_; refine ldTb hS _ _ (by rfl) _ _ (by rfl) (agOf (by rfl)) (Has.s Has.z) i 0 (by omega) HX.out (by rfl) ?_)
            | (refine toList (by rfl) ?_; refine ldTb hS _ _ (by rfl) _ _ (by rfl) (agOf (by rfl)) (Has.s Has.z) i 1 (by omega) HX.out (by rfl) ?_))
          exact ⟨⟨i + 1, by go_num, HL.out, by rw [HEQ.out], trivial⟩, by simp [intOf]; have := HL.out; omega⟩
        · have f2 : (x2 == o) = false := beq_eq_false_iff_ne.2 hyb
          have f2d : decide (x2 = o) = false := decide_eq_false hyb
          have HS1 := Lib.hid (show Gr.same k o ⟨x1, x2, x3, x4, x5, x6⟩ = false by unfold Gr.same; rw [f1d, f2d]; rfl)
          have HEQ := Lib.hid (show (1 : Int) + (q : Int) = 1 + (cntT G k o (i + 1) : Int) by rw [HNX.out, HS1.out, HQ.out]; simp)
          go_wp2_with (first
            | (refine toList (by rfl) ?_; refine ld hS _ _ (by rfl) _ _ (by rfl) (agOf (by rfl)) (by repeat first | exact Has.z | apply Has.s) (by rfl) ?_)
            | (refine toList (by rfl) ?_; refine ldTb hS _ _ (by rfl) _ _ (by rfl) (agOf (by rfl)) (Has.s Has.z) i 0 (by omega) HX.out (by rfl) ?_)
            | (refine toList (by rfl) ?_; refine ldTb hS _ _ (by rfl) _ _ (by rfl) (agOf (by rfl)) (Has.s Has.z) i 1 (by omega) HX.out (by rfl) ?_))
          exact ⟨⟨i + 1, by go_num, HL.out, by rw [HEQ.out], trivial⟩, by simp [intOf]; have := HL.out; omega⟩
      · have f1 : (x1 == k) = false := beq_eq_false_iff_ne.2 hxa
        have f1d : decide (x1 = k) = false := decide_eq_false hxa
        have HS1 := Lib.hid (show Gr.same k o ⟨x1, x2, x3, x4, x5, x6⟩ = false by unfold Gr.same; rw [f1d]; rfl)
        have HEQ := Lib.hid (show (1 : Int) + (q : Int) = 1 + (cntT G k o (i + 1) : Int) by rw [HNX.out, HS1.out, HQ.out]; simp)
        go_wp2_with (first
          | (refine toList (by rfl) ?_; refine ld hS _ _ (by rfl) _ _ (by rfl) (agOf (by rfl)) (by repeat first | exact Has.z | apply Has.s) (by rfl) ?_)
          | (refine toList (by rfl) ?_; refine ldTb hS _ _ (by rfl) _ _ (by rfl) (agOf (by rfl)) (Has.s Has.z) i 0 (by omega) HX.out (by rfl) ?_)
          | (refine toList (by rfl) ?_; refine ldTb hS _ _ (by rfl) _ _ (by rfl) (agOf (by rfl)) (Has.s Has.z) i 1 (by omega) HX.out (by rfl) ?_))
        exact ⟨⟨i + 1, by go_num, HL.out, by rw [HEQ.out], trivial⟩, by simp [intOf]; have := HL.out; omega⟩
    · have k1 : decide ((i : Int) < (G.N.length : Int)) = false := decide_eq_false (by omega)
      have k2 : ¬ (i : Int) < (G.N.length : Int) := by omega
      have HQ := Lib.hid (show q = G.count k o by rw [← hq, cntT_all _ _ _ (by omega)])
      have HNN := Lib.hid (show G.newN k o = ⟨k, o, q + 1, 0, 0, false⟩ by unfold Gr.newN; rw [HQ.out])
      have HQ1 := Lib.hid (show (1 : Int) + (q : Int) = ((q + 1 : Nat) : Int) by omega)
      clear hl hq
      rw [HQ1.out]
      go_wp2_with (first
        | (refine toList (by rfl) ?_; refine ld hS _ _ (by rfl) _ _ (by rfl) (agOf (by rfl)) (by repeat first | exact Has.z | apply Has.s) (by rfl) ?_)
        | (refine toList (by rfl) ?_; refine bsF hS _ _ _ (by rfl) (elOf (by rfl)) [.agg (nv ⟨k, o, q + 1, 0, 0, false⟩).toArray] (by rfl) (by rfl) (by decide) (by decide) (by intro v hv; rw [List.mem_singleton.1 hv]; rfl) ?_; intro b1 w1 hS1; clear hS; have hS := hS1; clear hS1; rw [agg1] at hS)
        | (refine toList (by rfl) ?_; refine apTbS (f := nv) hS _ _ _ _ (by rfl) _ _ (by rfl) (by rfl) (elOf (by rfl)) (by rfl) (by decide) (inOf (by rfl)) (Has.s (Has.s Has.z)) [⟨k, o, q + 1, 0, 0, false⟩] (by exact nv_len _) (by exact hS.src1 (f := nv) Has.z rfl) (by exact nv_one _) (by simp; have := HLN.out; omega) (by simp; have := HLN.out; omega) ?_; intro ao5 c5 w1 hcap5 hS1; clear hS; have hS := hS1; clear hS1; dsimp only [List.set_cons_zero, List.set_cons_succ] at hS)
        | (refine toList (by rfl) ?_; refine st hS _ _ _ (by rfl) _ _ (by rfl) _ (by first | exact evC | exact evT (by rfl)) (by rfl) (szOf (by rfl)) (by repeat first | exact Has.z | apply Has.s) (by exact Nat.le_of_ble_eq_true rfl) ?_; intro w1 hS1; clear hS; have hS := hS1; clear hS1; dsimp only [List.set] at hS))
      go_ret2
      have h2 := hS.drop
      simp only [List.length_append, List.length_singleton] at h2
      have h3 : G.plus k o = ⟨G.N ++ [⟨k, o, q + 1, 0, 0, false⟩], G.E⟩ := by unfold Gr.plus; rw [HNN.out]
      rw [h3]
      exact ⟨by simp, IsR.mk (G := ⟨_, _⟩) h2⟩
end Go.Proofs.YtpnbdnfgdiakhaaGreat
namespace Go.Proofs.YtpnbdnfgdiakhaaGreat
open Go.RowKit Go.Sep
set_option linter.unusedSimpArgs false
set_option linter.unusedVariables false
attribute [local irreducible] Go.Oper.wp Go.wpList Go.Calls Go.Code.wp Go.Sep.Reg
def bl (S : Nat → Bool) (n : Nat) : List Value := (List.range n).map fun k => .bool (S k)
theorem bl_len (S : Nat → Bool) (n : Nat) : (bl S n).length = n := by simp [bl]
theorem bl_at {S : Nat → Bool} {n k : Nat} (h : k < n) : (bl S n)[k]? = some (.bool (S k)) := by simp [bl, h]
theorem bl_congr {S S' : Nat → Bool} {n : Nat} (h : ∀ k, k < n → S k = S' k) : bl S n = bl S' n := by
  unfold bl
  refine List.map_congr_left fun k hk => ?_
  rw [h k (List.mem_range.1 hk)]
theorem bl_zero (n : Nat) : List.replicate n (Value.bool false) = bl (fun _ => false) n := by
  unfold bl
  rw [List.map_const', List.length_range]
theorem bl_set {S : Nat → Bool} {n k : Nat} (h : k < n) : (bl S n).set k (.bool true) = bl (fun t => S t || decide (t = k)) n := by
  apply List.ext_getElem?
  intro i
  rw [List.getElem?_set, bl_len]
  by_cases hi : k = i
  · subst hi; rw [if_pos rfl, if_pos h, bl_at h]; simp
  · rw [if_neg hi]
    by_cases h2 : i < n
    · rw [bl_at h2, bl_at h2, decide_eq_false (fun e => hi e.symm), Bool.or_false]
    · rw [List.getElem?_eq_none (by rw [bl_len]; omega), List.getElem?_eq_none (by rw [bl_len]; omega)]
theorem made_bool (n : Nat) : (madeCells (Value.bool false).cells (n * 1)).toList = bl (fun _ => false) n := by
  rw [← bl_zero]
  simp [madeCells, Value.cells, Nat.mod_one, List.map_const']
def fls (S : Nat → Bool) (n : Nat) : Nat := (List.range n).countP fun k => !S k
theorem countP_lt {α : Type} {p q : α → Bool} : ∀ {l : List α}, (∀ x ∈ l, p x = true → q x = true) → (∃ x ∈ l, p x = false ∧ q x = true) → l.countP p < l.countP q
  | [], _, h => by obtain ⟨x, hx, _⟩ := h; cases hx
  | y :: l, hi, h => by
    obtain ⟨x, hx, h1, h2⟩ := h
    have hle : l.countP p ≤ l.countP q := List.countP_mono_left fun z hz => hi z (List.mem_cons_of_mem _ hz)
    rw [List.countP_cons, List.countP_cons]
    rcases List.mem_cons.1 hx with rfl | hx
    · rw [h1, h2]; simp; omega
    · have h3 := countP_lt (fun z hz => hi z (List.mem_cons_of_mem _ hz)) ⟨x, hx, h1, h2⟩
      have h4 := hi y (List.mem_cons_self ..)
      cases hp : p y with
      | true => rw [h4 hp]; simp; omega
      | false => cases q y <;> simp <;> omega
theorem fls_put {S : Nat → Bool} {n k : Nat} (h : k < n) (hk : S k = false) : fls (fun t => S t || decide (t = k)) n < fls S n := by
  refine countP_lt (fun x _ hx => ?_) ⟨k, List.mem_range.2 h, by simp, by simp [hk]⟩
  simp only [Bool.not_or, Bool.and_eq_true] at hx
  exact hx.1
def isF : Option Value → Bool
  | some (.bool false) => true
  | _ => false
def flsW (w : World) (b n : Nat) : Nat := (List.range n).countP fun k => isF (w.cell? ⟨b, k, none⟩)
def boolN : Value → Nat
  | .bool true => 1
  | _ => 0
theorem flsW_eq {W w : World} {L : List Asrt} {b E n k : Nat} {S : Nat → Bool} (h : Sat W w L) (hk : Has L k (Cs b E (bl S n))) : flsW w b n = fls S n := by
  refine List.countP_congr fun j hj => ?_
  rw [h.cell hk (bl_at (List.mem_range.1 hj))]
  cases S j <;> simp [isF]
structure MkI (G : Gr) (n : Nat) (S : Nat → Bool) : Prop where
  src : S n = true
  reach : ∀ k, S k = true → G.Reach n k
structure MkJ (G : Gr) (n : Nat) (S : Nat → Bool) (i : Nat) (S' : Nat → Bool) (m : Bool) : Prop where
  inv : MkI G n S'
  no : m = false → S' = S ∧ ∀ j, j < i → ∀ e, G.E[j]? = some e → S' e.1 = true → S' e.2 = true
  yes : m = true → fls S' G.N.length < fls S G.N.length
theorem MkJ.start {G : Gr} {n : Nat} {S : Nat → Bool} (h : MkI G n S) : MkJ G n S 0 S false := ⟨h, fun _ => ⟨rfl, fun j hj => by omega⟩, fun h => by cases h⟩
theorem MkJ.skip {G : Gr} {n i x y : Nat} {S S' : Nat → Bool} {m : Bool} (h : MkJ G n S i S' m) (he : G.E[i]? = some (x, y)) (hxy : S' x = true → S' y = true) : MkJ G n S (i + 1) S' m where
  inv := h.inv
  no := fun hm => ⟨(h.no hm).1, fun j hj e hje => by
    by_cases hji : j = i
    · subst hji
      rw [he] at hje; cases hje
      exact hxy
    · exact (h.no hm).2 j (by omega) e hje⟩
  yes := h.yes
theorem MkJ.put {G : Gr} {n i x y : Nat} {S S' : Nat → Bool} {m : Bool} (h : MkJ G n S i S' m) (he : G.E[i]? = some (x, y)) (hx : S' x = true) (hy : S' y = false) (hlt : y < G.N.length) : MkJ G n S (i + 1) (fun t => S' t || decide (t = y)) true where
  inv := ⟨by simp [h.inv.src], fun k hk => by
    simp only [Bool.or_eq_true, decide_eq_true_eq] at hk
    rcases hk with hk | rfl
    · exact h.inv.reach k hk
    · exact (h.inv.reach x hx).snoc (List.mem_of_getElem? he)⟩
  no := fun h => by cases h
  yes := fun _ => by
    have h1 := fls_put (n := G.N.length) hlt hy
    cases m with
    | true => have := h.yes rfl; omega
    | false => rw [(h.no rfl).1] at h1 ⊢; exact h1
theorem MkJ.fin {G : Gr} {n i : Nat} {S S' : Nat → Bool} (h : MkJ G n S i S' false) (hi : G.E.length ≤ i) : ∀ e ∈ G.E, S' e.1 = true → S' e.2 = true := fun e he => by
  obtain ⟨j, hj⟩ := List.mem_iff_getElem?.1 he
  exact (h.no rfl).2 j (by have := (List.getElem?_eq_some_iff.1 hj).1; omega) e hj
open Classical in
noncomputable def Gr.rB (G : Gr) (n : Int) (k : Nat) : Bool := G.is n && decide (G.Reach n.toNat k)
theorem Gr.rB_no {G : Gr} {n : Int} (h : G.is n = false) : G.rB n = fun _ => false := by funext k; unfold Gr.rB; rw [h]; rfl
theorem Gr.rB_nat {G : Gr} {n k : Nat} (h : n < G.N.length) : G.rB (n : Int) k = true ↔ G.Reach n k := by
  unfold Gr.rB
  rw [Gr.is_mk h]; simp
theorem MkI.done {G : Gr} {n : Nat} {S : Nat → Bool} (h : MkI G n S) (hn : n < G.N.length) (hc : ∀ e ∈ G.E, S e.1 = true → S e.2 = true) : S = G.rB (n : Int) := by
  funext k
  rw [Bool.eq_iff_iff, Gr.rB_nat hn]
  exact ⟨h.reach k, fun hr => hr (fun z => S z = true) h.src fun a b h1 h2 => hc (a, b) h2 h1⟩
theorem MkI.start (G : Gr) (n : Nat) : MkI G n (fun t => (fun _ => false) t || decide (t = n)) := ⟨by simp, fun k hk => by
  have : k = n := by simpa using hk
  subst this; exact Gr.Reach.refl G k⟩
set_option maxRecDepth 20000 in
set_option maxHeartbeats 2000000 in
theorem marks_any {W w : World} {L : List Asrt} {p : Nat} {G : Gr} (hS : Sat W w (IsR p G :: L)) (hG : G.Ok) (n : Int) :
    Calls Tryz.prog 90 #[.pointer (some ⟨p, 0, none⟩), .int .i64 n] w fun e w' => ∃ b, e = .returned (.slice (some ⟨b, 0, none⟩) G.N.length G.N.length) ∧ Sat W w' (Cs b 4 (bl (G.rB n) G.N.length) :: IsR p G :: L) := by
  have HLN := Lib.hid hG.len
  cases hb : G.is n
  · rw [Gr.rB_no hb]
    have HB := Lib.hid hb
    clear hb
    have HIS : Hid (∀ w L, Sat W w (IsR p G :: L) → Calls Tryz.prog 24 #[.pointer (some ⟨p, 0, none⟩), .int .i64 n] w fun e w' => e = .returned (.bool false) ∧ w = w') := Lib.hid fun w L h => is_any h n HB.out
    obtain ⟨an, cn, ae, ce, hcn, hce, hS⟩ := IsR.open hS
    go_enter Tryz.func90, Tryz.ntmps90
    go_wp2_with (first
      | (refine toList (by rfl) ?_; refine ld hS _ _ (by rfl) _ _ (by rfl) (agOf (by rfl)) (by repeat first | exact Has.z | apply Has.s) (by rfl) ?_)
      | (refine toList (by rfl) ?_; refine mk hS _ _ _ (by rfl) G.N.length G.N.length _ _ (by rfl) (by rfl) (elOf (by rfl)) (by omega) (by have := HLN.out; omega) (by have := HLN.out; omega) ?_; intro b w1 hS1; clear hS; have hS := hS1; clear hS1; rw [made_bool] at hS)
      | (go_at_call 24; refine (HIS.out _ _ (IsR.mk hS.drop)).mono ?_; rintro e w1 ⟨rfl, rfl⟩))
    go_ret
    exact ⟨_, rfl, (IsR.mk (hS.re [1, 2, 3])).pull1⟩
  · have HB := Lib.hid hb
    obtain ⟨k, rfl, hk⟩ := Gr.is_nat hb
    have HIS : Hid (∀ w L, Sat W w (IsR p G :: L) → Calls Tryz.prog 24 #[.pointer (some ⟨p, 0, none⟩), .int .i64 (k : Int)] w fun e w' => e = .returned (.bool true) ∧ w = w') := Lib.hid fun w L h => is_any h k HB.out
    have j1 : (k : Int) < (G.N.length : Int) := by omega
    have HK := Lib.hid hk
    have HLOW := Lib.hid hG.low
    have hel : (G.E.length : Int) ≤ 1000000 := by have := hG.edges; omega
    clear hb hk
    obtain ⟨an, cn, ae, ce, hcn, hce, hS⟩ := IsR.open hS
    go_enter Tryz.func90, Tryz.ntmps90
    go_wp2_with (first
      | (refine toList (by rfl) ?_; refine mk hS _ _ _ (by rfl) G.N.length G.N.length _ _ (by rfl) (by rfl) (elOf (by rfl)) (by omega) (by have := HLN.out; omega) (by have := HLN.out; omega) ?_; intro b w1 hS1; clear hS; have hS := hS1; clear hS1; rw [made_bool] at hS)
      | (go_at_call 24; refine (HIS.out _ _ (IsR.mk hS.drop)).mono ?_; rintro e w1 ⟨rfl, rfl⟩)
      | (refine toList (by rfl) ?_; refine st hS _ _ _ (by rfl) _ _ (by rfl) _ (by first | exact evC | exact evT (by rfl)) (by rfl) (szOf (by rfl)) Has.z (by rw [bl_len]; omega) ?_; intro w1 hS1; clear hS; have hS := hS1; clear hS1; simp only [List.set_cons_zero] at hS; rw [bl_set HK.out] at hS)
      | (refine toList (by rfl) ?_; refine ld hS _ _ (by rfl) _ _ (by rfl) (agOf (by rfl)) (by repeat first | exact Has.z | apply Has.s) (by rfl) ?_))
    have H0 := Lib.hid hS
    go_loopw [6] (fun v wz => ∃ (S : Nat → Bool) (m : Bool), v = .bool m ∧ MkI G k S ∧ (m = false → ∀ e ∈ G.E, S e.1 = true → S e.2 = true) ∧
      Sat W wz (Cs b 4 (bl S G.N.length) :: Cs p 53 [.slice an G.N.length cn, .slice ae G.E.length ce] :: Tb 60 6 nv (.slice an G.N.length cn) G.N :: Tb 83 2 ev (.slice ae G.E.length ce) G.E :: L))
      (fun v wz => 2 * flsW wz b G.N.length + boolN v)
    case atStart => exact ⟨_, true, rfl, MkI.start G k, fun h => (by cases h), H0.out⟩
    case round =>
      clear hS H0
      obtain ⟨S, m, rfl, hI, hm, hS⟩ := hrel
      have HI := Lib.hid hI
      have HM := Lib.hid hm
      have HF := Lib.hid (flsW_eq hS (k := 0) rfl)
      clear hI hm
      cases m
      · go_wp2
        go_ret
        have h2 := (HI.out).done HK.out (HM.out (by simp))
        rw [h2] at hS
        exact ⟨_, rfl, (IsR.mk (hS.re [1, 2, 3])).pull1⟩
      · clear HM
        go_wp2
        have H1 := Lib.hid hS
        go_loopw [6, 7] (fun v6 v7 wy => ∃ (i : Nat) (S' : Nat → Bool) (m : Bool), v7 = .int .i64 i ∧ v6 = .bool m ∧ i ≤ G.E.length ∧ MkJ G k S i S' m ∧
          Sat W wy (Cs b 4 (bl S' G.N.length) :: Cs p 53 [.slice an G.N.length cn, .slice ae G.E.length ce] :: Tb 60 6 nv (.slice an G.N.length cn) G.N :: Tb 83 2 ev (.slice ae G.E.length ce) G.E :: L))
          (fun _ v7 _ => G.E.length - (intOf v7).toNat)
        case atStart => exact ⟨0, S, false, rfl, rfl, by omega, MkJ.start HI.out, H1.out⟩
        case round =>
          clear hS H1
          obtain ⟨i, S', m, rfl, rfl, hi, hJ, hS⟩ := hrel
          have HJ := Lib.hid hJ
          clear hJ
          by_cases hl : i < G.E.length
          · have k1 : (i : Int) < (G.E.length : Int) := by omega
            obtain ⟨⟨x, y⟩, hx⟩ : ∃ e, G.E[i]? = some e := ⟨_, List.getElem?_eq_getElem hl⟩
            have HX := Lib.hid hx
            have HL := Lib.hid hl
            obtain ⟨hxl, hyl⟩ := HLOW.out (x, y) (List.mem_of_getElem? hx)
            dsimp only at hxl hyl
            have x1 : (x : Int) < (G.N.length : Int) := by omega
            have y1 : (y : Int) < (G.N.length : Int) := by omega
            have HYL := Lib.hid hyl
            obtain ⟨be, oe, c', hv, _⟩ := hS.tbAddr (k := 3) rfl (by omega)
            simp only [Value.slice.injEq, true_and] at hv
            obtain ⟨rfl, rfl⟩ := hv
            have hbx := bl_at (S := S') hxl
            have hby := bl_at (S := S') hyl
            clear hx hl hxl hyl
            cases hsx : S' x
            · rw [hsx] at hbx
              have HBX := Lib.hid hbx
              have HSX := Lib.hid hsx
              clear hbx hby hsx
              go_wp2_with (first
                | (refine toList (by rfl) ?_; refine ldTb hS _ _ (by rfl) _ _ (by rfl) (agOf (by rfl)) (Has.s (Has.s (Has.s Has.z))) i 0 (by omega) HX.out (by rfl) ?_)
                | (refine toList (by rfl) ?_; refine ldTb hS _ _ (by rfl) _ _ (by rfl) (agOf (by rfl)) (Has.s (Has.s (Has.s Has.z))) i 1 (by omega) HX.out (by rfl) ?_)
                | (refine toList (by rfl) ?_; refine ld hS _ _ (by rfl) _ _ (by rfl) (agOf (by rfl)) Has.z HBX.out ?_)
                | (refine toList (by rfl) ?_; refine ld hS _ _ (by rfl) _ _ (by rfl) (agOf (by rfl)) (by repeat first | exact Has.z | apply Has.s) (by rfl) ?_))
              exact ⟨⟨i + 1, S', m, by go_num, rfl, HL.out, HJ.out.skip HX.out (fun h => by rw [HSX.out] at h; cases h), hS⟩, by simp [intOf]; have := HL.out; omega⟩
            · rw [hsx] at hbx
              have HBX := Lib.hid hbx
              have HSX := Lib.hid hsx
              cases hsy : S' y
              · rw [hsy] at hby
                have HBY := Lib.hid hby
                have HSY := Lib.hid hsy
                clear hbx hby hsx hsy
                go_wp2_with (first
                  | (refine toList (by rfl) ?_; refine ldTb hS _ _ (by rfl) _ _ (by rfl) (agOf (by rfl)) (Has.s (Has.s (Has.s Has.z))) i 0 (by omega) HX.out (by rfl) ?_)
                  | (refine toList (by rfl) ?_; refine ldTb hS _ _ (by rfl) _ _ (by rfl) (agOf (by rfl)) (Has.s (Has.s (Has.s Has.z))) i 1 (by omega) HX.out (by rfl) ?_)
                  | (refine toList (by rfl) ?_; refine ld hS _ _ (by rfl) _ _ (by rfl) (agOf (by rfl)) Has.z HBX.out ?_)
                  | (refine toList (by rfl) ?_; refine ld hS _ _ (by rfl) _ _ (by rfl) (agOf (by rfl)) Has.z HBY.out ?_)
                  | (refine toList (by rfl) ?_; refine st hS _ _ _ (by rfl) _ _ (by rfl) _ (by first | exact evC | exact evT (by rfl)) (by rfl) (szOf (by rfl)) Has.z (by rw [bl_len]; exact HYL.out) ?_; intro w1 hS1; clear hS; have hS := hS1; clear hS1; simp only [List.set_cons_zero] at hS; rw [bl_set HYL.out] at hS)
                  | (refine toList (by rfl) ?_; refine ld hS _ _ (by rfl) _ _ (by rfl) (agOf (by rfl)) (by repeat first | exact Has.z | apply Has.s) (by rfl) ?_))
                exact ⟨⟨i + 1, _, true, by go_num, rfl, HL.out, HJ.out.put HX.out HSX.out HSY.out HYL.out, hS⟩, by simp [intOf]; have := HL.out; omega⟩
              · rw [hsy] at hby
                have HBY := Lib.hid hby
                have HSY := Lib.hid hsy
                clear hbx hby hsx hsy
                go_wp2_with (first
                  | (refine toList (by rfl) ?_; refine ldTb hS _ _ (by rfl) _ _ (by rfl) (agOf (by rfl)) (Has.s (Has.s (Has.s Has.z))) i 0 (by omega) HX.out (by rfl) ?_)
                  | (refine toList (by rfl) ?_; refine ldTb hS _ _ (by rfl) _ _ (by rfl) (agOf (by rfl)) (Has.s (Has.s (Has.s Has.z))) i 1 (by omega) HX.out (by rfl) ?_)
                  | (refine toList (by rfl) ?_; refine ld hS _ _ (by rfl) _ _ (by rfl) (agOf (by rfl)) Has.z HBX.out ?_)
                  | (refine toList (by rfl) ?_; refine ld hS _ _ (by rfl) _ _ (by rfl) (agOf (by rfl)) Has.z HBY.out ?_)
                  | (refine toList (by rfl) ?_; refine ld hS _ _ (by rfl) _ _ (by rfl) (agOf (by rfl)) (by repeat first | exact Has.z | apply Has.s) (by rfl) ?_))
                exact ⟨⟨i + 1, S', m, by go_num, rfl, HL.out, HJ.out.skip HX.out (fun _ => HSY.out), hS⟩, by simp [intOf]; have := HL.out; omega⟩
          · have k1 : decide ((i : Int) < (G.E.length : Int)) = false := decide_eq_false (by omega)
            have k2 : ¬ (i : Int) < (G.E.length : Int) := by omega
            have HIL := Lib.hid (show G.E.length ≤ i by omega)
            clear hl
            go_wp2_with (refine toList (by rfl) ?_; refine ld hS _ _ (by rfl) _ _ (by rfl) (agOf (by rfl)) (by repeat first | exact Has.z | apply Has.s) (by rfl) ?_)
            have hf2 := flsW_eq hS (k := 0) rfl
            refine ⟨⟨S', m, rfl, HJ.out.inv, fun h => ?_, hS⟩, ?_⟩
            · subst h; exact HJ.out.fin HIL.out
            · rw [HF.out, hf2]
              cases m
              · rw [(HJ.out.no rfl).1]; simp [boolN]
              · have := HJ.out.yes rfl; simp [boolN]; omega
end Go.Proofs.YtpnbdnfgdiakhaaGreat
namespace Go.Proofs.YtpnbdnfgdiakhaaGreat
open Go.RowKit Go.Sep
set_option linter.unusedSimpArgs false
set_option linter.unusedVariables false
attribute [local irreducible] Go.Oper.wp Go.wpList Go.Calls Go.Code.wp Go.Sep.Reg
theorem Gr.reaches_rB (G : Gr) (a b : Int) : G.reaches a b = (G.is a && (G.is b && G.rB a b.toNat)) := by
  unfold Gr.reaches Gr.aboveI
  cases ha : G.is a with
  | false => rfl
  | true =>
    obtain ⟨x, rfl, hx⟩ := Gr.is_nat ha
    rw [if_pos rfl, Int.toNat_natCast, Bool.true_and, Bool.eq_iff_iff, List.any_eq_true, Bool.and_eq_true]
    constructor
    · rintro ⟨y, hy, he⟩
      have he := of_decide_eq_true he
      obtain ⟨h1, h2⟩ := Gr.mem_above.1 hy
      subst he
      exact ⟨Gr.is_mk h1, by rw [Int.toNat_natCast]; exact (Gr.rB_nat hx).2 h2⟩
    · rintro ⟨h1, h2⟩
      obtain ⟨y, rfl, hy⟩ := Gr.is_nat h1
      rw [Int.toNat_natCast] at h2
      exact ⟨y, Gr.mem_above.2 ⟨hy, (Gr.rB_nat hx).1 h2⟩, by simp⟩
theorem rreaches_any {W w : World} {L : List Asrt} {p : Nat} {G : Gr} (hS : Sat W w (IsR p G :: L)) (hG : G.Ok) (a b : Int) {r : Bool} (hr : G.reaches a b = r) :
    Calls Tryz.prog 70 #[.pointer (some ⟨p, 0, none⟩), .int .i64 a, .int .i64 b] w fun e w' => e = .returned (.bool r) ∧ Sat W w' (IsR p G :: L) := by
  rw [Gr.reaches_rB] at hr
  cases ha : G.is a
  · have HA := Lib.hid (fun w L (h : Sat W w (IsR p G :: L)) => is_any h a ha)
    obtain rfl : r = false := by rw [← hr, ha]; rfl
    clear ha hr
    go_enter Tryz.func70, Tryz.ntmps70
    go_wp2_with (go_at_call 24; refine (HA.out _ _ hS).mono ?_; rintro e w1 ⟨rfl, rfl⟩)
    go_ret
    exact ⟨rfl, hS⟩
  have HA := Lib.hid (fun w L (h : Sat W w (IsR p G :: L)) => is_any h a ha)
  cases hb : G.is b
  · have HB := Lib.hid (fun w L (h : Sat W w (IsR p G :: L)) => is_any h b hb)
    obtain rfl : r = false := by rw [← hr, ha, hb]; rfl
    clear ha hb hr
    go_enter Tryz.func70, Tryz.ntmps70
    go_wp2_with (go_at_call 24; (first | with_reducible refine (HA.out _ _ hS).mono ?_ | with_reducible refine (HB.out _ _ hS).mono ?_); rintro e w1 ⟨rfl, rfl⟩)
    go_ret
    exact ⟨rfl, hS⟩
  have HB := Lib.hid (fun w L (h : Sat W w (IsR p G :: L)) => is_any h b hb)
  obtain ⟨y, rfl, hy⟩ := Gr.is_nat hb
  have hr2 : G.rB a y = r := by rw [← hr, ha, hb]; rfl
  have HV := Lib.hid (show (bl (G.rB a) G.N.length)[y]? = some (.bool r) by rw [bl_at hy, hr2])
  have j1 : (y : Int) < (G.N.length : Int) := by omega
  clear ha hb hr hr2 hy
  go_enter Tryz.func70, Tryz.ntmps70
  go_wp2_with (first
    | (go_at_call 24; (first | with_reducible refine (HA.out _ _ hS).mono ?_ | with_reducible refine (HB.out _ _ hS).mono ?_); rintro e w1 ⟨rfl, rfl⟩)
    | (go_at_call 90; refine (marks_any hS hG a).mono ?_; rintro e w1 ⟨bm, rfl, hS1⟩; clear hS; have hS := hS1; clear hS1)
    | (refine toList (by rfl) ?_; refine ld hS _ _ (by rfl) _ _ (by rfl) (agOf (by rfl)) Has.z HV.out ?_))
  go_ret
  exact ⟨rfl, hS.drop⟩
set_option maxRecDepth 20000 in
set_option maxHeartbeats 1000000 in
theorem redge_any {W w : World} {L : List Asrt} {p : Nat} {G : Gr} (hS : Sat W w (IsR p G :: L)) (hG : G.Ok) (hel : G.E.length < 1000000) (a b : Int) :
    Calls Tryz.prog 43 #[.pointer (some ⟨p, 0, none⟩), .int .i64 a, .int .i64 b] w fun e w' => e = .returned (.int .i64 (G.edgeE a b)) ∧ Sat W w' (IsR p (G.edgeG a b) :: L) := by
  cases ha : G.is a
  · have HE := Lib.hid (show G.edgeE a b = 1 by unfold Gr.edgeE; rw [if_pos (by simp [ha])])
    have HA := Lib.hid (fun w L (h : Sat W w (IsR p G :: L)) => is_any h a ha)
    unfold Gr.edgeG
    rw [HE.out, if_neg (by decide)]
    clear ha
    go_enter Tryz.func43, Tryz.ntmps43
    go_wp2_with (go_at_call 24; refine (HA.out _ _ hS).mono ?_; rintro e w1 ⟨rfl, rfl⟩)
    go_ret
    exact ⟨rfl, hS⟩
  have HA := Lib.hid (fun w L (h : Sat W w (IsR p G :: L)) => is_any h a ha)
  cases hb : G.is b
  · have HE := Lib.hid (show G.edgeE a b = 1 by unfold Gr.edgeE; rw [if_pos (by simp [hb])])
    have HB := Lib.hid (fun w L (h : Sat W w (IsR p G :: L)) => is_any h b hb)
    unfold Gr.edgeG
    rw [HE.out, if_neg (by decide)]
    clear ha hb
    go_enter Tryz.func43, Tryz.ntmps43
    go_wp2_with (go_at_call 24; (first | with_reducible refine (HA.out _ _ hS).mono ?_ | with_reducible refine (HB.out _ _ hS).mono ?_); rintro e w1 ⟨rfl, rfl⟩)
    go_ret
    exact ⟨rfl, hS⟩
  have HB := Lib.hid (fun w L (h : Sat W w (IsR p G :: L)) => is_any h b hb)
  by_cases hab : a = b
  · subst hab
    have HE := Lib.hid (show G.edgeE a a = 1 by unfold Gr.edgeE; rw [if_pos (by simp)])
    unfold Gr.edgeG
    rw [HE.out, if_neg (by decide)]
    clear ha hb HB
    go_enter Tryz.func43, Tryz.ntmps43
    go_wp2_with (go_at_call 24; refine (HA.out _ _ hS).mono ?_; rintro e w1 ⟨rfl, rfl⟩)
    go_ret
    exact ⟨rfl, hS⟩
  have f1 : (a == b) = false := beq_eq_false_iff_ne.2 hab
  have f2 : decide (a = b) = false := decide_eq_false hab
  have HT := show (!G.is a || !G.is b || decide (a = b)) = false by rw [ha, hb, f2]; rfl
  cases hh : G.has (a, b) with
  | true =>
    have HE := Lib.hid (show G.edgeE a b = 23 by unfold Gr.edgeE; rw [HT, hh]; rfl)
    have HH := Lib.hid (fun w L (h : Sat W w (IsR p G :: L)) => has_any h a b hG.edges hh)
    unfold Gr.edgeG
    rw [HE.out, if_neg (by decide)]
    clear ha hb HT hh
    go_enter Tryz.func43, Tryz.ntmps43
    go_wp2_with (first
      | (go_at_call 24; (first | with_reducible refine (HA.out _ _ hS).mono ?_ | with_reducible refine (HB.out _ _ hS).mono ?_); rintro e w1 ⟨rfl, rfl⟩)
      | (go_at_call 69; refine (HH.out _ _ hS).mono ?_; rintro e w1 ⟨rfl, rfl⟩))
    go_ret
    exact ⟨rfl, hS⟩
  | false =>
    have HH := Lib.hid (fun w L (h : Sat W w (IsR p G :: L)) => has_any h a b hG.edges hh)
    cases hr : G.reaches b a with
    | true =>
      have HE := Lib.hid (show G.edgeE a b = 11 by unfold Gr.edgeE; rw [HT, hh, hr]; rfl)
      have HRC := Lib.hid (fun w L (h : Sat W w (IsR p G :: L)) => rreaches_any h hG b a hr)
      unfold Gr.edgeG
      rw [HE.out, if_neg (by decide)]
      clear ha hb HT hh hr
      go_enter Tryz.func43, Tryz.ntmps43
      go_wp2_with (first
        | (go_at_call 24; (first | with_reducible refine (HA.out _ _ hS).mono ?_ | with_reducible refine (HB.out _ _ hS).mono ?_); rintro e w1 ⟨rfl, rfl⟩)
        | (go_at_call 69; refine (HH.out _ _ hS).mono ?_; rintro e w1 ⟨rfl, rfl⟩)
        | (go_at_call 70; refine (HRC.out _ _ hS).mono ?_; rintro e w1 ⟨rfl, hS1⟩; clear hS; have hS := hS1; clear hS1))
      go_ret
      exact ⟨rfl, hS⟩
    | false =>
      have hE : G.edgeE a b = 0 := by unfold Gr.edgeE; rw [HT, hh, hr]; rfl
      have HRC := Lib.hid (fun w L (h : Sat W w (IsR p G :: L)) => rreaches_any h hG b a hr)
      obtain ⟨x, y, rfl, rfl, hx, hy, _, _, _⟩ := Gr.edge_yes hE
      have HE := Lib.hid hE
      unfold Gr.edgeG
      rw [HE.out, if_pos rfl, Int.toNat_natCast, Int.toNat_natCast]
      have HEL := Lib.hid hel
      clear ha hb HT hh hr hE hx hy hab hel
      go_enter Tryz.func43, Tryz.ntmps43
      obtain ⟨q, hq⟩ : ∃ q, q = IsR p G := ⟨_, rfl⟩
      go_wp2_with (first
        | (go_at_call 24; (first | with_reducible refine (HA.out _ _ hS).mono ?_ | with_reducible refine (HB.out _ _ hS).mono ?_); rintro e w1 ⟨rfl, rfl⟩)
        | (go_at_call 69; refine (HH.out _ _ hS).mono ?_; rintro e w1 ⟨rfl, rfl⟩)
        | (go_at_call 70; refine (HRC.out _ _ hS).mono ?_; rintro e w1 ⟨rfl, hS1⟩; clear hS; have hS := hS1; clear hS1; obtain ⟨an, cn, ae, ce, hcn, hce, hO⟩ := IsR.open hS; clear hS)
        | (refine toList (by rfl) ?_; refine ld hO _ _ (by rfl) _ _ (by rfl) (agOf (by rfl)) (by repeat first | exact Has.z | apply Has.s) (by rfl) ?_)
        | (refine toList (by rfl) ?_; refine bsF hO _ _ _ (by rfl) (elOf (by rfl)) [.agg (ev (x, y)).toArray] (by rfl) (by rfl) (by decide) (by decide) (by intro v hv; rw [List.mem_singleton.1 hv]; rfl) ?_; intro b1 w1 hS1; clear hO; have hO := hS1; clear hS1; rw [agg1] at hO)
        | (refine toList (by rfl) ?_; refine apTbS (f := ev) hO _ _ _ _ (by rfl) _ _ (by rfl) (by rfl) (elOf (by rfl)) (by rfl) (by decide) (inOf (by rfl)) (Has.s (Has.s (Has.s Has.z))) [(x, y)] (by exact ev_len _) (by exact hO.src1 (f := ev) Has.z rfl) (by exact ev_one _) (by simp; have := HEL.out; omega) (by simp; have := HEL.out; omega) ?_; intro ao5 c5 w1 hcap5 hS1; clear hO; have hO := hS1; clear hS1; dsimp only [List.set_cons_zero, List.set_cons_succ] at hO)
        | (refine toList (by rfl) ?_; refine st hO _ _ _ (by rfl) _ _ (by rfl) _ (by first | exact evC | exact evT (by rfl)) (by rfl) (szOf (by rfl)) (Has.s Has.z) (by exact Nat.le_of_ble_eq_true rfl) ?_; intro w1 hS1; clear hO; have hO := hS1; clear hS1; dsimp only [List.set] at hO))
      go_ret
      have h2 := hO.drop
      simp only [List.length_append, List.length_singleton] at h2
      exact ⟨rfl, IsR.mk (G := G.link x y) h2⟩
theorem rbit_any {W w : World} {L : List Asrt} {p : Nat} {G : Gr} (hS : Sat W w (IsR p G :: L)) (n s : Int) {b : Bool} (hb : bitOk G n s = b) :
    Calls Tryz.prog 68 #[.pointer (some ⟨p, 0, none⟩), .int .i64 n, .int .i64 s] w fun e w' => e = .returned (.bool b) ∧ w = w' := by
  unfold bitOk at hb
  cases hn : G.is n
  · have HA := Lib.hid (is_any hS n hn)
    obtain rfl : b = false := by rw [← hb, hn]; rfl
    clear hn hb
    go_enter Tryz.func68, Tryz.ntmps68
    go_wp2_with (go_at_call 24; refine HA.out.mono ?_; rintro e w1 ⟨rfl, rfl⟩)
    go_ret
    exact ⟨rfl, rfl⟩
  have HA := Lib.hid (is_any hS n hn)
  by_cases h1 : 0 ≤ s
  · have e1 : decide (0 ≤ s) = true := decide_eq_true h1
    by_cases h2 : s < 8
    · have e2 : decide (s < 8) = true := decide_eq_true h2
      obtain rfl : b = true := by rw [← hb, hn, e1, e2]; rfl
      clear hn hb
      go_enter Tryz.func68, Tryz.ntmps68
      go_wp2_with (go_at_call 24; refine HA.out.mono ?_; rintro e w1 ⟨rfl, rfl⟩)
      go_ret
      exact ⟨rfl, rfl⟩
    · have e2 : decide (s < 8) = false := decide_eq_false h2
      obtain rfl : b = false := by rw [← hb, hn, e1, e2]; rfl
      clear hn hb
      go_enter Tryz.func68, Tryz.ntmps68
      go_wp2_with (go_at_call 24; refine HA.out.mono ?_; rintro e w1 ⟨rfl, rfl⟩)
      go_ret
      exact ⟨rfl, rfl⟩
  · have e1 : decide (0 ≤ s) = false := decide_eq_false h1
    obtain rfl : b = false := by rw [← hb, hn, e1]; rfl
    clear hn hb
    go_enter Tryz.func68, Tryz.ntmps68
    go_wp2_with (go_at_call 24; refine HA.out.mono ?_; rintro e w1 ⟨rfl, rfl⟩)
    go_ret
    exact ⟨rfl, rfl⟩
theorem IsR.with {W w : World} {L : List Asrt} {p : Nat} {G : Gr} {N : List NodeD} {vn ve : Value}
    (h : Sat W w (Cs p 53 [vn, ve] :: Tb 60 6 nv vn N :: Tb 83 2 ev ve G.E :: L)) : Sat W w (IsR p (G.withN N) :: L) := IsR.mk (G := G.withN N) h
set_option maxRecDepth 20000 in
theorem rmark_any {W w : World} {L : List Asrt} {p : Nat} {G : Gr} (hS : Sat W w (IsR p G :: L)) (n s : Int) (hm : ∀ x ∈ G.N, x.mark < 256 ∧ x.clear < 256) :
    Calls Tryz.prog 38 #[.pointer (some ⟨p, 0, none⟩), .int .i64 n, .int .i64 s] w fun e w' => e = .returned (.int .i64 (bitE G n s)) ∧ Sat W w' (IsR p (G.markG n s) :: L) := by
  cases hb : bitOk G n s
  · have HB := Lib.hid (rbit_any hS n s hb)
    unfold bitE Gr.markG
    rw [hb]
    clear hb
    go_enter Tryz.func38, Tryz.ntmps38
    go_wp2_with (go_at_call 68; refine HB.out.mono ?_; rintro e w1 ⟨rfl, rfl⟩)
    go_ret
    exact ⟨rfl, hS⟩
  have HB := Lib.hid (fun w L (h : Sat W w (IsR p G :: L)) => rbit_any h n s hb)
  obtain ⟨t, rfl, ht⟩ : ∃ t : Nat, s = t ∧ t < 8 := by
    unfold bitOk at hb
    simp only [Bool.and_eq_true, decide_eq_true_eq] at hb
    exact ⟨s.toNat, by omega, by omega⟩
  obtain ⟨k, rfl, hk⟩ := Gr.is_nat (bitOk_is hb).1
  have HOK := Lib.hid hb
  obtain ⟨⟨x1, x2, x3, x4, x5, x6⟩, hx⟩ : ∃ x, G.N[k]? = some x := ⟨_, List.getElem?_eq_getElem hk⟩
  have HX := Lib.hid hx
  have hm := hm _ (List.mem_of_getElem? hx)
  dsimp only at hm
  have hsh : min (IntKind.u64.wrap (t : Int)).toNat 64 = t := by rw [IntWalk.u64_in _ (by omega)]; omega
  have HBO := Lib.hid (show bits .or .i64 (x4 : Int) (IntKind.i64.wrap (2 ^ min (IntKind.u64.wrap (t : Int)).toNat 64)) = ((x4 ||| 2 ^ t : Nat) : Int) by rw [hsh]; exact or_bit x4 t (by omega) (by omega))
  clear hsh
  have HNI := Lib.hid (Gr.nodeI_at hx)
  have j1 : (k : Int) < (G.N.length : Int) := by omega
  have j2 : (t : Int) < 8 := by omega
  have j3 : t < 8 := ht
  clear hb hm
  obtain ⟨an, cn, ae, ce, hcn, hce, hO⟩ := IsR.open hS
  obtain ⟨b, off, c, hv, hc⟩ := hO.tbAddr (k := 1) rfl (by omega)
  simp only [Value.slice.injEq, true_and] at hv
  obtain ⟨rfl, rfl⟩ := hv
  unfold bitE Gr.markG
  rw [HOK.out, if_pos rfl, if_pos rfl, HNI.out]
  clear hx
  go_enter Tryz.func38, Tryz.ntmps38
  clear hS
  have hS := hO
  clear hO
  go_wp2_with (go_at_call 68; refine (HB.out _ _ (IsR.mk hS)).mono ?_; rintro e w1 ⟨rfl, rfl⟩)
  refine regStart [19] hS (by kernel_rfl) rfl ?_
  intro w1 hS1
  clear hS; have hS := hS1; clear hS1
  (refine rgP 0 hS (fun _ h => h) ?_; go_frame)
  (refine rgP 1 hS (fun _ h => h) ?_; go_frame)
  (refine rgP 2 hS (fun _ h => h) ?_; go_frame)
  (refine rgR 3 hS (fun _ h => h) ?_; (first
        | refine ⟨_, yLd _ _ (by rfl) _ _ (by rfl) (agOf (by rfl)) (by repeat first | exact Has.z | apply Has.s) (by rfl), ?_⟩
        | refine ⟨_, yLdTb _ _ (by rfl) _ _ (by rfl) (agOf (by rfl)) (Has.s Has.z) k 3 (by omega) HX.out (by rfl), ?_⟩); go_frame)
  (refine rgP 4 hS (fun _ h => h) ?_; go_frame)
  (refine rgP 5 hS (fun _ h => h) ?_; go_frame)
  (refine rgP 6 hS (fun _ h => h) ?_; go_frame)
  (refine rgP 7 hS (fun _ h => h) ?_; go_frame)
  (refine rgR 8 hS (fun _ h => h) ?_; (first
        | refine ⟨_, yLd _ _ (by rfl) _ _ (by rfl) (agOf (by rfl)) (by repeat first | exact Has.z | apply Has.s) (by rfl), ?_⟩
        | refine ⟨_, yLdTb _ _ (by rfl) _ _ (by rfl) (agOf (by rfl)) (Has.s Has.z) k 3 (by omega) HX.out (by rfl), ?_⟩); go_frame)
  (refine rgP 9 hS (fun _ h => h) ?_; go_frame)
  (refine rgP 10 hS (fun _ h => h) ?_; go_frame)
  (refine rgP 11 hS (fun _ h => h) ?_; go_frame)
  (refine rgR 12 hS (fun _ h => h) ?_; (first
        | refine ⟨_, yLd _ _ (by rfl) _ _ (by rfl) (agOf (by rfl)) (by repeat first | exact Has.z | apply Has.s) (by rfl), ?_⟩
        | refine ⟨_, yLdTb _ _ (by rfl) _ _ (by rfl) (agOf (by rfl)) (Has.s Has.z) k 3 (by omega) HX.out (by rfl), ?_⟩); go_frame)
  (refine rgP 13 hS (fun _ h => h) ?_; go_frame)
  (refine rgP 14 hS (fun _ h => h) ?_; go_frame)
  (refine rgP 15 hS (fun _ h => h) ?_; go_frame)
  (refine rgP 16 hS (fun _ h => h) ?_; go_frame)
  (refine rgP 17 hS (fun _ h => h) ?_; go_frame)
  (refine rgP 18 hS (fun _ h => h) ?_; go_frame)
  (refine rgA 19 true fun K hK => ?_; (refine stTbF hS _ _ _ (by rfl) _ _ (by rfl) (.int .i64 ((x4 ||| 2 ^ t : Nat) : Int)) (by rw [← HBO.out]; rfl) (by rfl) (szOf (by rfl)) (Has.s Has.z) rfl k 3 (by omega) HX.out ⟨x1, x2, x3, x4 ||| 2 ^ t, x5, x6⟩ (by rfl) (by decide) ?_; intro w1 hS1; clear hS; have hS := hS1; clear hS1; dsimp only [List.set_cons_zero, List.set_cons_succ] at hS); refine hK _ _ _ hS (by first | (intro h; cases h; done) | exact fun _ _ h => h | exact fun _ _ h => h.drop | exact fun _ _ h => h.drop.drop | exact fun _ _ h => h.drop.pull1 | exact fun _ _ h => h.take2 | exact fun _ _ h => h.one Has.z | exact fun _ _ h => h.one (Has.s Has.z) | exact fun _ _ h => h.one (Has.s (Has.s Has.z))) ?_; clear hK K; go_frame)
  refine regDone (by kernel_rfl) ?_
  go_wp2
  go_ret
  exact ⟨rfl, IsR.with (by simpa using hS)⟩
set_option maxRecDepth 20000 in
theorem rclear_any {W w : World} {L : List Asrt} {p : Nat} {G : Gr} (hS : Sat W w (IsR p G :: L)) (n s : Int) (hm : ∀ x ∈ G.N, x.mark < 256 ∧ x.clear < 256) :
    Calls Tryz.prog 40 #[.pointer (some ⟨p, 0, none⟩), .int .i64 n, .int .i64 s] w fun e w' => e = .returned (.int .i64 (bitE G n s)) ∧ Sat W w' (IsR p (G.clearG n s) :: L) := by
  cases hb : bitOk G n s
  · have HB := Lib.hid (rbit_any hS n s hb)
    unfold bitE Gr.clearG
    rw [hb]
    clear hb
    go_enter Tryz.func40, Tryz.ntmps40
    go_wp2_with (go_at_call 68; refine HB.out.mono ?_; rintro e w1 ⟨rfl, rfl⟩)
    go_ret
    exact ⟨rfl, hS⟩
  have HB := Lib.hid (fun w L (h : Sat W w (IsR p G :: L)) => rbit_any h n s hb)
  obtain ⟨t, rfl, ht⟩ : ∃ t : Nat, s = t ∧ t < 8 := by
    unfold bitOk at hb
    simp only [Bool.and_eq_true, decide_eq_true_eq] at hb
    exact ⟨s.toNat, by omega, by omega⟩
  obtain ⟨k, rfl, hk⟩ := Gr.is_nat (bitOk_is hb).1
  have HOK := Lib.hid hb
  obtain ⟨⟨x1, x2, x3, x4, x5, x6⟩, hx⟩ : ∃ x, G.N[k]? = some x := ⟨_, List.getElem?_eq_getElem hk⟩
  have HX := Lib.hid hx
  have hm := hm _ (List.mem_of_getElem? hx)
  dsimp only at hm
  have hsh : min (IntKind.u64.wrap (t : Int)).toNat 64 = t := by rw [IntWalk.u64_in _ (by omega)]; omega
  have HBO := Lib.hid (show bits .or .i64 (x5 : Int) (IntKind.i64.wrap (2 ^ min (IntKind.u64.wrap (t : Int)).toNat 64)) = ((x5 ||| 2 ^ t : Nat) : Int) by rw [hsh]; exact or_bit x5 t (by omega) (by omega))
  clear hsh
  have HNI := Lib.hid (Gr.nodeI_at hx)
  have j1 : (k : Int) < (G.N.length : Int) := by omega
  have j2 : (t : Int) < 8 := by omega
  have j3 : t < 8 := ht
  clear hb hm
  obtain ⟨an, cn, ae, ce, hcn, hce, hO⟩ := IsR.open hS
  obtain ⟨b, off, c, hv, hc⟩ := hO.tbAddr (k := 1) rfl (by omega)
  simp only [Value.slice.injEq, true_and] at hv
  obtain ⟨rfl, rfl⟩ := hv
  unfold bitE Gr.clearG
  rw [HOK.out, if_pos rfl, if_pos rfl, HNI.out]
  clear hx
  go_enter Tryz.func40, Tryz.ntmps40
  clear hS
  have hS := hO
  clear hO
  go_wp2_with (go_at_call 68; refine (HB.out _ _ (IsR.mk hS)).mono ?_; rintro e w1 ⟨rfl, rfl⟩)
  refine regStart [19] hS (by kernel_rfl) rfl ?_
  intro w1 hS1
  clear hS; have hS := hS1; clear hS1
  (refine rgP 0 hS (fun _ h => h) ?_; go_frame)
  (refine rgP 1 hS (fun _ h => h) ?_; go_frame)
  (refine rgP 2 hS (fun _ h => h) ?_; go_frame)
  (refine rgR 3 hS (fun _ h => h) ?_; (first
        | refine ⟨_, yLd _ _ (by rfl) _ _ (by rfl) (agOf (by rfl)) (by repeat first | exact Has.z | apply Has.s) (by rfl), ?_⟩
        | refine ⟨_, yLdTb _ _ (by rfl) _ _ (by rfl) (agOf (by rfl)) (Has.s Has.z) k 4 (by omega) HX.out (by rfl), ?_⟩); go_frame)
  (refine rgP 4 hS (fun _ h => h) ?_; go_frame)
  (refine rgP 5 hS (fun _ h => h) ?_; go_frame)
  (refine rgP 6 hS (fun _ h => h) ?_; go_frame)
  (refine rgP 7 hS (fun _ h => h) ?_; go_frame)
  (refine rgR 8 hS (fun _ h => h) ?_; (first
        | refine ⟨_, yLd _ _ (by rfl) _ _ (by rfl) (agOf (by rfl)) (by repeat first | exact Has.z | apply Has.s) (by rfl), ?_⟩
        | refine ⟨_, yLdTb _ _ (by rfl) _ _ (by rfl) (agOf (by rfl)) (Has.s Has.z) k 4 (by omega) HX.out (by rfl), ?_⟩); go_frame)
  (refine rgP 9 hS (fun _ h => h) ?_; go_frame)
  (refine rgP 10 hS (fun _ h => h) ?_; go_frame)
  (refine rgP 11 hS (fun _ h => h) ?_; go_frame)
  (refine rgR 12 hS (fun _ h => h) ?_; (first
        | refine ⟨_, yLd _ _ (by rfl) _ _ (by rfl) (agOf (by rfl)) (by repeat first | exact Has.z | apply Has.s) (by rfl), ?_⟩
        | refine ⟨_, yLdTb _ _ (by rfl) _ _ (by rfl) (agOf (by rfl)) (Has.s Has.z) k 4 (by omega) HX.out (by rfl), ?_⟩); go_frame)
  (refine rgP 13 hS (fun _ h => h) ?_; go_frame)
  (refine rgP 14 hS (fun _ h => h) ?_; go_frame)
  (refine rgP 15 hS (fun _ h => h) ?_; go_frame)
  (refine rgP 16 hS (fun _ h => h) ?_; go_frame)
  (refine rgP 17 hS (fun _ h => h) ?_; go_frame)
  (refine rgP 18 hS (fun _ h => h) ?_; go_frame)
  (refine rgA 19 true fun K hK => ?_; (refine stTbF hS _ _ _ (by rfl) _ _ (by rfl) (.int .i64 ((x5 ||| 2 ^ t : Nat) : Int)) (by rw [← HBO.out]; rfl) (by rfl) (szOf (by rfl)) (Has.s Has.z) rfl k 4 (by omega) HX.out ⟨x1, x2, x3, x4, x5 ||| 2 ^ t, x6⟩ (by rfl) (by decide) ?_; intro w1 hS1; clear hS; have hS := hS1; clear hS1; dsimp only [List.set_cons_zero, List.set_cons_succ] at hS); refine hK _ _ _ hS (by first | (intro h; cases h; done) | exact fun _ _ h => h | exact fun _ _ h => h.drop | exact fun _ _ h => h.drop.drop | exact fun _ _ h => h.drop.pull1 | exact fun _ _ h => h.take2 | exact fun _ _ h => h.one Has.z | exact fun _ _ h => h.one (Has.s Has.z) | exact fun _ _ h => h.one (Has.s (Has.s Has.z))) ?_; clear hK K; go_frame)
  refine regDone (by kernel_rfl) ?_
  go_wp2
  go_ret
  exact ⟨rfl, IsR.with (by simpa using hS)⟩
set_option maxRecDepth 20000 in
set_option maxHeartbeats 1000000 in
theorem rlost_any {W w : World} {L : List Asrt} {p : Nat} {G : Gr} (hS : Sat W w (IsR p G :: L)) (a b : Int) (hG : G.N.length ≤ 1000000) :
    Calls Tryz.prog 42 #[.pointer (some ⟨p, 0, none⟩), .int .i64 a, .int .i64 b] w fun e w' => e = .returned (.int .i64 (lostE G a b)) ∧ Sat W w' (IsR p (G.lostG a b) :: L) := by
  by_cases h1 : a < 0
  · have HF := Lib.hid (show lostOk G a b = false by unfold lostOk; rw [decide_eq_false (by omega : ¬ 0 ≤ a)]; rfl)
    unfold lostE Gr.lostG
    rw [HF.out]
    go_enter Tryz.func42, Tryz.ntmps42
    go_wp2
    go_ret
    exact ⟨rfl, hS⟩
  have e1 : decide (a < 0) = false := decide_eq_false h1
  by_cases h2 : b < a
  · have HF := Lib.hid (show lostOk G a b = false by unfold lostOk; rw [decide_eq_false (by omega : ¬ a ≤ b)]; simp)
    unfold lostE Gr.lostG
    rw [HF.out]
    go_enter Tryz.func42, Tryz.ntmps42
    go_wp2
    go_ret
    exact ⟨rfl, hS⟩
  have e2 : decide (b < a) = false := decide_eq_false h2
  obtain ⟨an, cn, ae, ce, hcn, hce, hO⟩ := IsR.open hS
  by_cases h3 : (G.N.length : Int) < b
  · have HF := Lib.hid (show lostOk G a b = false by unfold lostOk; rw [decide_eq_false (by omega : ¬ b ≤ (G.N.length : Int))]; simp)
    unfold lostE Gr.lostG
    rw [HF.out]
    go_enter Tryz.func42, Tryz.ntmps42
    go_wp2_with (refine toList (by rfl) ?_; refine ld hO _ _ (by rfl) _ _ (by rfl) (agOf (by rfl)) Has.z (by rfl) ?_)
    go_ret
    exact ⟨rfl, hS⟩
  have HF := Lib.hid (show lostOk G a b = true by unfold lostOk; simp; omega)
  have e3 : decide ((G.N.length : Int) < b) = false := decide_eq_false h3
  unfold lostE Gr.lostG
  rw [HF.out, if_pos rfl, if_pos rfl]
  obtain ⟨i, rfl⟩ := Int.eq_ofNat_of_zero_le (show 0 ≤ a by omega)
  obtain ⟨j, rfl⟩ := Int.eq_ofNat_of_zero_le (show 0 ≤ b by omega)
  have hij : i ≤ j := by omega
  have hjl : j ≤ G.N.length := by omega
  have hji : (j : Int) ≤ 1000000 := by omega
  have e4 : decide (j < i) = false := decide_eq_false (by omega)
  have e5 : decide (G.N.length < j) = false := decide_eq_false (by omega)
  clear h1 h2 h3 HF
  have H0 := Lib.hid (show Sat W w (Cs p 53 [.slice an G.N.length cn, .slice ae G.E.length ce] :: Tb 60 6 nv (.slice an G.N.length cn) (orphN G.N i i) :: Tb 83 2 ev (.slice ae G.E.length ce) G.E :: L) by rw [orphN_none]; exact hO)
  go_enter Tryz.func42, Tryz.ntmps42
  go_wp2_with (refine toList (by rfl) ?_; refine ld hO _ _ (by rfl) _ _ (by rfl) (agOf (by rfl)) Has.z (by rfl) ?_)
  clear hS hO
  go_loopw [7] (fun vi wz => ∃ k : Nat, i ≤ k ∧ k ≤ j ∧ vi = .int .i64 k ∧ Sat W wz (Cs p 53 [.slice an G.N.length cn, .slice ae G.E.length ce] :: Tb 60 6 nv (.slice an G.N.length cn) (orphN G.N i k) :: Tb 83 2 ev (.slice ae G.E.length ce) G.E :: L)) (fun vi _ => j - (intOf vi).toNat)
  case atStart => exact ⟨i, Nat.le_refl _, hij, rfl, H0.out⟩
  case round =>
    clear H0
    obtain ⟨k, hik, hkj, rfl, hS⟩ := hrel
    by_cases hlt : k < j
    · have j1 : (k : Int) < (j : Int) := by omega
      have j2 : (k : Int) < (G.N.length : Int) := by omega
      obtain ⟨⟨x1, x2, x3, x4, x5, x6⟩, hx⟩ : ∃ x, (orphN G.N i k)[k]? = some x := ⟨_, List.getElem?_eq_getElem (by rw [orphN_len]; omega)⟩
      have HX := Lib.hid hx
      have HST := Lib.hid (orphN_step hx hik)
      obtain ⟨bb, off, c, he, _⟩ := hS.tbAddr (k := 1) rfl (by rw [orphN_len]; omega)
      simp only [Value.slice.injEq] at he
      obtain ⟨rfl, hjunk, rfl⟩ := he
      clear hjunk
      have HLN := Lib.hid (orphN_len G.N i k)
      clear hx
      go_wp2_with (first
        | (refine toList (by rfl) ?_; refine ld hS _ _ (by rfl) _ _ (by rfl) (agOf (by rfl)) (by repeat first | exact Has.z | apply Has.s) (by rfl) ?_)
        | (refine toList (by rfl) ?_; refine stTbF hS _ _ _ (by rfl) _ _ (by rfl) (.bool true) (by rfl) (by rfl) (szOf (by rfl)) (Has.s Has.z) HLN.out k 5 (by omega) HX.out ⟨x1, x2, x3, x4, x5, true⟩ (by rfl) (by decide) ?_; intro w1 hS1; clear hS; have hS := hS1; clear hS1; dsimp only [List.set_cons_zero, List.set_cons_succ] at hS; rw [HST.out] at hS))
      exact ⟨⟨k + 1, by omega, by omega, by go_num, hS⟩, by simp [intOf]; omega⟩
    · obtain rfl : k = j := by omega
      go_wp2
      go_ret
      refine ⟨rfl, IsR.with (vn := .slice an G.N.length cn) (ve := .slice ae G.E.length ce) ?_⟩
      simp only [Int.toNat_natCast]
      exact hS
theorem latest_take {G : Gr} {k o : Int} {j : Nat} {x : NodeD} (hx : G.N[j]? = some x) : Gr.lastOf k o (G.N.take (j + 1)) 0 = if Gr.same k o x then some j else Gr.lastOf k o (G.N.take j) 0 := by
  rw [List.take_add_one, hx]
  show Gr.lastOf k o (G.N.take j ++ [x]) 0 = _
  rw [lastOf_snoc, List.length_take, Nat.min_eq_left (by have := (List.getElem?_eq_some_iff.1 hx).1; omega), Nat.zero_add]
def filR (R : Nat → Bool) (i : Nat) : List Nat := (List.range i).filter R
theorem filR_yes {R : Nat → Bool} {i : Nat} (h : R i = true) : filR R i ++ [i] = filR R (i + 1) := by
  unfold filR
  rw [List.range_succ, List.filter_append, List.filter_cons_of_pos h]; rfl
theorem filR_no {R : Nat → Bool} {i : Nat} (h : R i = false) : filR R i = filR R (i + 1) := by
  unfold filR
  rw [List.range_succ, List.filter_append, List.filter_cons_of_neg (by simp [h])]; simp
theorem filR_len (R : Nat → Bool) (i : Nat) : (filR R i).length ≤ i := by
  have := List.length_filter_le R (List.range i)
  simpa [filR] using this
theorem filR_above (G : Gr) (n : Int) : filR (G.rB n) G.N.length = G.aboveI n := by
  unfold filR Gr.aboveI
  cases h : G.is n with
  | false =>
    rw [Gr.rB_no h, if_neg (by decide)]
    exact List.filter_eq_nil_iff.2 fun x _ => by simp
  | true =>
    obtain ⟨k, rfl, hk⟩ := Gr.is_nat h
    rw [if_pos rfl]
    unfold Gr.above
    refine List.filter_congr fun x _ => ?_
    rw [Bool.eq_iff_iff, Gr.rB_nat hk]; simp
end Go.Proofs.YtpnbdnfgdiakhaaGreat
namespace Go.Proofs.YtpnbdnfgdiakhaaGreat
open Go.RowKit Go.Sep
set_option linter.unusedSimpArgs false
set_option linter.unusedVariables false
attribute [local irreducible] Go.Oper.wp Go.wpList Go.Calls Go.Code.wp Go.Sep.Reg
noncomputable def Gr.step (G : Gr) (x : GOpD) : Gr :=
  if x.kind % 9 < 2 then G.addG x.a x.b else if x.kind % 9 = 6 then G.markG x.a x.b else if x.kind % 9 = 7 then G.clearG x.a x.b else if x.kind % 9 = 8 then G.lostG x.a x.b else G.edgeG x.a x.b
theorem Gr.step_ok {G : Gr} (hG : G.Ok) (hel : G.E.length < 1000000) (x : GOpD) : (G.step x).Ok := by
  unfold Gr.step
  split
  · exact Gr.addG_ok hG _ _
  · split
    · exact Gr.markG_ok hG _ _
    · split
      · exact Gr.clearG_ok hG _ _
      · split
        · exact Gr.lostG_ok hG _ _
        · exact Gr.edgeG_ok hG _ _ hel
theorem Gr.step_E (G : Gr) (x : GOpD) : (G.step x).E.length ≤ G.E.length + 1 := by
  unfold Gr.step
  split
  · unfold Gr.addG; split <;> simp [Gr.plus]
  · split
    · unfold Gr.markG; split <;> simp [Gr.withN]
    · split
      · unfold Gr.clearG; split <;> simp [Gr.withN]
      · split
        · unfold Gr.lostG; split <;> simp [Gr.withN]
        · exact Gr.edgeG_len _ _ _
theorem Gr.step_N (G : Gr) (x : GOpD) : (G.step x).N.length ≤ G.N.length + 1 := by
  unfold Gr.step
  split
  · unfold Gr.addG; split <;> simp [Gr.plus]
  · split
    · unfold Gr.markG; split <;> simp [Gr.withN]
    · split
      · unfold Gr.clearG; split <;> simp [Gr.withN]
      · split
        · unfold Gr.lostG; split <;> simp [Gr.withN, orphN_len]
        · rw [Gr.edgeG_N]; omega
set_option maxRecDepth 20000 in
set_option maxHeartbeats 4000000 in
theorem gdo_any {W w : World} {L : List Asrt} {p q : Nat} {G : Gr} (hS : Sat W w (IsG p G :: IsR q G :: L)) (hG : G.Ok) (hel : G.E.length < 1000000) (x : GOpD) :
    Calls Tryz.prog 18 #[.pointer (some ⟨p, 0, none⟩), .pointer (some ⟨q, 0, none⟩), .agg (gov x).toArray] w fun e w' => e = .returned (.bool true) ∧ Sat W w' (IsG p (G.step x) :: IsR q (G.step x) :: L) := by
  obtain ⟨xk, xa, xb⟩ := x
  have HK := Lib.hid (fun w => place_any xk 9 (by decide) (by decide) w)
  have hc : xk % 9 = 0 ∨ xk % 9 = 1 ∨ xk % 9 = 2 ∨ xk % 9 = 3 ∨ xk % 9 = 4 ∨ xk % 9 = 5 ∨ xk % 9 = 6 ∨ xk % 9 = 7 ∨ xk % 9 = 8 := by omega
  rcases hc with hm | hm | hm | hm | hm | hm | hm | hm | hm
  · have HG2 := Lib.hid (show G.step ⟨xk, xa, xb⟩ = G.addG xa xb by unfold Gr.step; dsimp only; rw [hm]; rfl)
    rw [HG2.out]
    clear HG2
    obtain ⟨G2, hG2⟩ : ∃ G2, G.addG xa xb = G2 := ⟨_, rfl⟩
    obtain ⟨E, hE⟩ : ∃ E, G.addE xa xb = E := ⟨_, rfl⟩
    obtain ⟨I, hI⟩ : ∃ I, G.addI xa xb = I := ⟨_, rfl⟩
    have HP := Lib.hid (fun w L (h : Sat W w (IsG p G :: L)) => (show Calls Tryz.prog 11 #[.pointer (some ⟨p, 0, none⟩), .int .i64 xa, .int .i64 xb] w fun e w' => e = .returned (.tuple #[.int .i64 I, .int .i64 E]) ∧ Sat W w' (IsG p G2 :: L) by
      have := add_any h hG xa xb
      rw [hG2, hE, hI] at this
      exact this))
    have HQ := Lib.hid (fun w L (h : Sat W w (IsR q G :: L)) => (show Calls Tryz.prog 36 #[.pointer (some ⟨q, 0, none⟩), .int .i64 xa, .int .i64 xb] w fun e w' => e = .returned (.tuple #[.int .i64 I, .int .i64 E]) ∧ Sat W w' (IsR q G2 :: L) by
      have := radd_any h hG xa xb
      rw [hG2, hE, hI] at this
      exact this))
    rw [hG2]
    rw [hm] at HK
    clear hm hG2 hE hI
    go_enter Tryz.func18, Tryz.ntmps18
    go_wp2_with (first
      | (refine toList (by rfl) ?_; refine bx hS _ _ (by rfl) _ (by first | exact evC | exact evT (by rfl)) ?_; intro px w1 hS1; clear hS; have hS := hS1; clear hS1; rw [cells_agg] at hS)
      | (refine toList (by rfl) ?_; refine ld hS _ _ (by rfl) _ _ (by rfl) (agOf (by rfl)) (by repeat first | exact Has.z | apply Has.s) (by rfl) ?_)
      | (go_at_call 35; refine (HK.out _).mono ?_; rintro e w1 ⟨rfl, rfl⟩)
      | (go_at_call 11; refine (Calls.atS hS (k := 1) rfl (fun hF => HP.out _ _ hF)).mono ?_; rintro e w1 ⟨rfl, hS1⟩; clear hS; have hS := hS1; clear hS1; dsimp only [List.set_cons_zero, List.set_cons_succ] at hS)
      | (go_at_call 36; refine (Calls.atS hS (k := 2) rfl (fun hF => HQ.out _ _ hF)).mono ?_; rintro e w1 ⟨rfl, hS1⟩; clear hS; have hS := hS1; clear hS1; dsimp only [List.set_cons_zero, List.set_cons_succ] at hS))
    go_ret
    exact ⟨by simp, hS.drop⟩
  · have HG2 := Lib.hid (show G.step ⟨xk, xa, xb⟩ = G.addG xa xb by unfold Gr.step; dsimp only; rw [hm]; rfl)
    rw [HG2.out]
    clear HG2
    obtain ⟨G2, hG2⟩ : ∃ G2, G.addG xa xb = G2 := ⟨_, rfl⟩
    obtain ⟨E, hE⟩ : ∃ E, G.addE xa xb = E := ⟨_, rfl⟩
    obtain ⟨I, hI⟩ : ∃ I, G.addI xa xb = I := ⟨_, rfl⟩
    have HP := Lib.hid (fun w L (h : Sat W w (IsG p G :: L)) => (show Calls Tryz.prog 11 #[.pointer (some ⟨p, 0, none⟩), .int .i64 xa, .int .i64 xb] w fun e w' => e = .returned (.tuple #[.int .i64 I, .int .i64 E]) ∧ Sat W w' (IsG p G2 :: L) by
      have := add_any h hG xa xb
      rw [hG2, hE, hI] at this
      exact this))
    have HQ := Lib.hid (fun w L (h : Sat W w (IsR q G :: L)) => (show Calls Tryz.prog 36 #[.pointer (some ⟨q, 0, none⟩), .int .i64 xa, .int .i64 xb] w fun e w' => e = .returned (.tuple #[.int .i64 I, .int .i64 E]) ∧ Sat W w' (IsR q G2 :: L) by
      have := radd_any h hG xa xb
      rw [hG2, hE, hI] at this
      exact this))
    rw [hG2]
    rw [hm] at HK
    clear hm hG2 hE hI
    go_enter Tryz.func18, Tryz.ntmps18
    go_wp2_with (first
      | (refine toList (by rfl) ?_; refine bx hS _ _ (by rfl) _ (by first | exact evC | exact evT (by rfl)) ?_; intro px w1 hS1; clear hS; have hS := hS1; clear hS1; rw [cells_agg] at hS)
      | (refine toList (by rfl) ?_; refine ld hS _ _ (by rfl) _ _ (by rfl) (agOf (by rfl)) (by repeat first | exact Has.z | apply Has.s) (by rfl) ?_)
      | (go_at_call 35; refine (HK.out _).mono ?_; rintro e w1 ⟨rfl, rfl⟩)
      | (go_at_call 11; refine (Calls.atS hS (k := 1) rfl (fun hF => HP.out _ _ hF)).mono ?_; rintro e w1 ⟨rfl, hS1⟩; clear hS; have hS := hS1; clear hS1; dsimp only [List.set_cons_zero, List.set_cons_succ] at hS)
      | (go_at_call 36; refine (Calls.atS hS (k := 2) rfl (fun hF => HQ.out _ _ hF)).mono ?_; rintro e w1 ⟨rfl, hS1⟩; clear hS; have hS := hS1; clear hS1; dsimp only [List.set_cons_zero, List.set_cons_succ] at hS))
    go_ret
    exact ⟨by simp, hS.drop⟩
  · have HG2 := Lib.hid (show G.step ⟨xk, xa, xb⟩ = G.edgeG xa xb by unfold Gr.step; dsimp only; rw [hm]; rfl)
    rw [HG2.out]
    clear HG2
    obtain ⟨G2, hG2⟩ : ∃ G2, G.edgeG xa xb = G2 := ⟨_, rfl⟩
    obtain ⟨E, hE⟩ : ∃ E, G.edgeE xa xb = E := ⟨_, rfl⟩
    have HP := Lib.hid (fun w L (h : Sat W w (IsG p G :: L)) => (show Calls Tryz.prog 12 #[.pointer (some ⟨p, 0, none⟩), .int .i64 xa, .int .i64 xb] w fun e w' => e = .returned (.int .i64 E) ∧ Sat W w' (IsG p G2 :: L) by
      have := edge_any h hG xa xb
      rw [hG2, hE] at this
      exact this))
    have HQ := Lib.hid (fun w L (h : Sat W w (IsR q G :: L)) => (show Calls Tryz.prog 43 #[.pointer (some ⟨q, 0, none⟩), .int .i64 xa, .int .i64 xb] w fun e w' => e = .returned (.int .i64 E) ∧ Sat W w' (IsR q G2 :: L) by
      have := redge_any h hG hel xa xb
      rw [hG2, hE] at this
      exact this))
    rw [hG2]
    rw [hm] at HK
    clear hm hG2 hE
    go_enter Tryz.func18, Tryz.ntmps18
    go_wp2_with (first
      | (refine toList (by rfl) ?_; refine bx hS _ _ (by rfl) _ (by first | exact evC | exact evT (by rfl)) ?_; intro px w1 hS1; clear hS; have hS := hS1; clear hS1; rw [cells_agg] at hS)
      | (refine toList (by rfl) ?_; refine ld hS _ _ (by rfl) _ _ (by rfl) (agOf (by rfl)) (by repeat first | exact Has.z | apply Has.s) (by rfl) ?_)
      | (go_at_call 35; refine (HK.out _).mono ?_; rintro e w1 ⟨rfl, rfl⟩))
    refine regStart2 [11] hS (fun _ h => h.one Has.z) (by kernel_rfl) rfl ?_
    intro w1 hS1
    clear hS; have hS := hS1; clear hS1
    (refine rgP 0 hS (fun _ h => h.one Has.z) ?_; go_frame)
    (refine rgP 1 hS (fun _ h => h.one Has.z) ?_; go_frame)
    (refine rgR 2 hS (fun _ h => h.one Has.z) ?_; (refine ⟨_, yLd _ _ (by rfl) _ _ (by rfl) (agOf (by rfl)) (by repeat first | exact Has.z | apply Has.s) (by rfl), ?_⟩); go_frame)
    (refine rgP 3 hS (fun _ h => h.one Has.z) ?_; go_frame)
    (refine rgR 4 hS (fun _ h => h.one Has.z) ?_; (refine ⟨_, yLd _ _ (by rfl) _ _ (by rfl) (agOf (by rfl)) (by repeat first | exact Has.z | apply Has.s) (by rfl), ?_⟩); go_frame)
    (refine rgP 6 hS (fun _ h => h.one Has.z) ?_; go_frame)
    (refine rgP 7 hS (fun _ h => h.one Has.z) ?_; go_frame)
    (refine rgR 8 hS (fun _ h => h.one Has.z) ?_; (refine ⟨_, yLd _ _ (by rfl) _ _ (by rfl) (agOf (by rfl)) (by repeat first | exact Has.z | apply Has.s) (by rfl), ?_⟩); go_frame)
    (refine rgP 9 hS (fun _ h => h.one Has.z) ?_; go_frame)
    (refine rgR 10 hS (fun _ h => h.one Has.z) ?_; (refine ⟨_, yLd _ _ (by rfl) _ _ (by rfl) (agOf (by rfl)) (by repeat first | exact Has.z | apply Has.s) (by rfl), ?_⟩); go_frame)
    (refine rgA 5 false fun K hK => ?_; (first
              | (refine Go.Sep.cl 12 _ _ (by rfl) (by rfl) (by kernel_rfl) (Calls.atS hS (k := 1) rfl (fun hF => HP.out _ _ hF)) ?_; rintro e w1 ⟨rfl, hS1⟩; clear hS; have hS := hS1; clear hS1; dsimp only [List.set_cons_zero, List.set_cons_succ] at hS; refine ⟨_, rfl, ?_⟩)
              | (refine Go.Sep.cl 43 _ _ (by rfl) (by rfl) (by kernel_rfl) (Calls.atS hS (k := 2) rfl (fun hF => HQ.out _ _ hF)) ?_; rintro e w1 ⟨rfl, hS1⟩; clear hS; have hS := hS1; clear hS1; dsimp only [List.set_cons_zero, List.set_cons_succ] at hS; refine ⟨_, rfl, ?_⟩)); refine hK _ _ _ (hS.upTo (fun _ h => by first | exact h.one Has.z | exact h.one (Has.s Has.z) | exact h.one (Has.s (Has.s Has.z)) | exact h.one (Has.s (Has.s (Has.s Has.z))) | exact h | exact h.drop | exact h.drop.drop | exact h.drop.drop.drop | exact h.drop.drop.drop.drop)) (fun _ _ h => h) ?_; clear hK K; go_frame)
    (refine rgA 11 true fun K hK => ?_; (first
              | (refine Go.Sep.cl 12 _ _ (by rfl) (by rfl) (by kernel_rfl) (Calls.atS hS (k := 1) rfl (fun hF => HP.out _ _ hF)) ?_; rintro e w1 ⟨rfl, hS1⟩; clear hS; have hS := hS1; clear hS1; dsimp only [List.set_cons_zero, List.set_cons_succ] at hS; refine ⟨_, rfl, ?_⟩)
              | (refine Go.Sep.cl 43 _ _ (by rfl) (by rfl) (by kernel_rfl) (Calls.atS hS (k := 2) rfl (fun hF => HQ.out _ _ hF)) ?_; rintro e w1 ⟨rfl, hS1⟩; clear hS; have hS := hS1; clear hS1; dsimp only [List.set_cons_zero, List.set_cons_succ] at hS; refine ⟨_, rfl, ?_⟩)); refine hK _ _ _ hS (by first | (intro h; cases h; done) | exact fun _ _ h => h | exact fun _ _ h => h.drop | exact fun _ _ h => h.drop.drop | exact fun _ _ h => h.drop.pull1 | exact fun _ _ h => h.take2 | exact fun _ _ h => h.one Has.z | exact fun _ _ h => h.one (Has.s Has.z) | exact fun _ _ h => h.one (Has.s (Has.s Has.z))) ?_; clear hK K; go_frame)
    (refine rgP 12 hS (fun _ h => h) ?_; go_frame)
    (refine rgP 13 hS (fun _ h => h) ?_; go_frame)
    refine regDone (by kernel_rfl) ?_
    go_wp2
    go_ret
    exact ⟨by simp, hS.drop⟩
  · have HG2 := Lib.hid (show G.step ⟨xk, xa, xb⟩ = G.edgeG xa xb by unfold Gr.step; dsimp only; rw [hm]; rfl)
    rw [HG2.out]
    clear HG2
    obtain ⟨G2, hG2⟩ : ∃ G2, G.edgeG xa xb = G2 := ⟨_, rfl⟩
    obtain ⟨E, hE⟩ : ∃ E, G.edgeE xa xb = E := ⟨_, rfl⟩
    have HP := Lib.hid (fun w L (h : Sat W w (IsG p G :: L)) => (show Calls Tryz.prog 12 #[.pointer (some ⟨p, 0, none⟩), .int .i64 xa, .int .i64 xb] w fun e w' => e = .returned (.int .i64 E) ∧ Sat W w' (IsG p G2 :: L) by
      have := edge_any h hG xa xb
      rw [hG2, hE] at this
      exact this))
    have HQ := Lib.hid (fun w L (h : Sat W w (IsR q G :: L)) => (show Calls Tryz.prog 43 #[.pointer (some ⟨q, 0, none⟩), .int .i64 xa, .int .i64 xb] w fun e w' => e = .returned (.int .i64 E) ∧ Sat W w' (IsR q G2 :: L) by
      have := redge_any h hG hel xa xb
      rw [hG2, hE] at this
      exact this))
    rw [hG2]
    rw [hm] at HK
    clear hm hG2 hE
    go_enter Tryz.func18, Tryz.ntmps18
    go_wp2_with (first
      | (refine toList (by rfl) ?_; refine bx hS _ _ (by rfl) _ (by first | exact evC | exact evT (by rfl)) ?_; intro px w1 hS1; clear hS; have hS := hS1; clear hS1; rw [cells_agg] at hS)
      | (refine toList (by rfl) ?_; refine ld hS _ _ (by rfl) _ _ (by rfl) (agOf (by rfl)) (by repeat first | exact Has.z | apply Has.s) (by rfl) ?_)
      | (go_at_call 35; refine (HK.out _).mono ?_; rintro e w1 ⟨rfl, rfl⟩))
    refine regStart2 [11] hS (fun _ h => h.one Has.z) (by kernel_rfl) rfl ?_
    intro w1 hS1
    clear hS; have hS := hS1; clear hS1
    (refine rgP 0 hS (fun _ h => h.one Has.z) ?_; go_frame)
    (refine rgP 1 hS (fun _ h => h.one Has.z) ?_; go_frame)
    (refine rgR 2 hS (fun _ h => h.one Has.z) ?_; (refine ⟨_, yLd _ _ (by rfl) _ _ (by rfl) (agOf (by rfl)) (by repeat first | exact Has.z | apply Has.s) (by rfl), ?_⟩); go_frame)
    (refine rgP 3 hS (fun _ h => h.one Has.z) ?_; go_frame)
    (refine rgR 4 hS (fun _ h => h.one Has.z) ?_; (refine ⟨_, yLd _ _ (by rfl) _ _ (by rfl) (agOf (by rfl)) (by repeat first | exact Has.z | apply Has.s) (by rfl), ?_⟩); go_frame)
    (refine rgP 6 hS (fun _ h => h.one Has.z) ?_; go_frame)
    (refine rgP 7 hS (fun _ h => h.one Has.z) ?_; go_frame)
    (refine rgR 8 hS (fun _ h => h.one Has.z) ?_; (refine ⟨_, yLd _ _ (by rfl) _ _ (by rfl) (agOf (by rfl)) (by repeat first | exact Has.z | apply Has.s) (by rfl), ?_⟩); go_frame)
    (refine rgP 9 hS (fun _ h => h.one Has.z) ?_; go_frame)
    (refine rgR 10 hS (fun _ h => h.one Has.z) ?_; (refine ⟨_, yLd _ _ (by rfl) _ _ (by rfl) (agOf (by rfl)) (by repeat first | exact Has.z | apply Has.s) (by rfl), ?_⟩); go_frame)
    (refine rgA 5 false fun K hK => ?_; (first
              | (refine Go.Sep.cl 12 _ _ (by rfl) (by rfl) (by kernel_rfl) (Calls.atS hS (k := 1) rfl (fun hF => HP.out _ _ hF)) ?_; rintro e w1 ⟨rfl, hS1⟩; clear hS; have hS := hS1; clear hS1; dsimp only [List.set_cons_zero, List.set_cons_succ] at hS; refine ⟨_, rfl, ?_⟩)
              | (refine Go.Sep.cl 43 _ _ (by rfl) (by rfl) (by kernel_rfl) (Calls.atS hS (k := 2) rfl (fun hF => HQ.out _ _ hF)) ?_; rintro e w1 ⟨rfl, hS1⟩; clear hS; have hS := hS1; clear hS1; dsimp only [List.set_cons_zero, List.set_cons_succ] at hS; refine ⟨_, rfl, ?_⟩)); refine hK _ _ _ (hS.upTo (fun _ h => by first | exact h.one Has.z | exact h.one (Has.s Has.z) | exact h.one (Has.s (Has.s Has.z)) | exact h.one (Has.s (Has.s (Has.s Has.z))) | exact h | exact h.drop | exact h.drop.drop | exact h.drop.drop.drop | exact h.drop.drop.drop.drop)) (fun _ _ h => h) ?_; clear hK K; go_frame)
    (refine rgA 11 true fun K hK => ?_; (first
              | (refine Go.Sep.cl 12 _ _ (by rfl) (by rfl) (by kernel_rfl) (Calls.atS hS (k := 1) rfl (fun hF => HP.out _ _ hF)) ?_; rintro e w1 ⟨rfl, hS1⟩; clear hS; have hS := hS1; clear hS1; dsimp only [List.set_cons_zero, List.set_cons_succ] at hS; refine ⟨_, rfl, ?_⟩)
              | (refine Go.Sep.cl 43 _ _ (by rfl) (by rfl) (by kernel_rfl) (Calls.atS hS (k := 2) rfl (fun hF => HQ.out _ _ hF)) ?_; rintro e w1 ⟨rfl, hS1⟩; clear hS; have hS := hS1; clear hS1; dsimp only [List.set_cons_zero, List.set_cons_succ] at hS; refine ⟨_, rfl, ?_⟩)); refine hK _ _ _ hS (by first | (intro h; cases h; done) | exact fun _ _ h => h | exact fun _ _ h => h.drop | exact fun _ _ h => h.drop.drop | exact fun _ _ h => h.drop.pull1 | exact fun _ _ h => h.take2 | exact fun _ _ h => h.one Has.z | exact fun _ _ h => h.one (Has.s Has.z) | exact fun _ _ h => h.one (Has.s (Has.s Has.z))) ?_; clear hK K; go_frame)
    (refine rgP 12 hS (fun _ h => h) ?_; go_frame)
    (refine rgP 13 hS (fun _ h => h) ?_; go_frame)
    refine regDone (by kernel_rfl) ?_
    go_wp2
    go_ret
    exact ⟨by simp, hS.drop⟩
  · have HG2 := Lib.hid (show G.step ⟨xk, xa, xb⟩ = G.edgeG xa xb by unfold Gr.step; dsimp only; rw [hm]; rfl)
    rw [HG2.out]
    clear HG2
    obtain ⟨G2, hG2⟩ : ∃ G2, G.edgeG xa xb = G2 := ⟨_, rfl⟩
    obtain ⟨E, hE⟩ : ∃ E, G.edgeE xa xb = E := ⟨_, rfl⟩
    have HP := Lib.hid (fun w L (h : Sat W w (IsG p G :: L)) => (show Calls Tryz.prog 12 #[.pointer (some ⟨p, 0, none⟩), .int .i64 xa, .int .i64 xb] w fun e w' => e = .returned (.int .i64 E) ∧ Sat W w' (IsG p G2 :: L) by
      have := edge_any h hG xa xb
      rw [hG2, hE] at this
      exact this))
    have HQ := Lib.hid (fun w L (h : Sat W w (IsR q G :: L)) => (show Calls Tryz.prog 43 #[.pointer (some ⟨q, 0, none⟩), .int .i64 xa, .int .i64 xb] w fun e w' => e = .returned (.int .i64 E) ∧ Sat W w' (IsR q G2 :: L) by
      have := redge_any h hG hel xa xb
      rw [hG2, hE] at this
      exact this))
    rw [hG2]
    rw [hm] at HK
    clear hm hG2 hE
    go_enter Tryz.func18, Tryz.ntmps18
    go_wp2_with (first
      | (refine toList (by rfl) ?_; refine bx hS _ _ (by rfl) _ (by first | exact evC | exact evT (by rfl)) ?_; intro px w1 hS1; clear hS; have hS := hS1; clear hS1; rw [cells_agg] at hS)
      | (refine toList (by rfl) ?_; refine ld hS _ _ (by rfl) _ _ (by rfl) (agOf (by rfl)) (by repeat first | exact Has.z | apply Has.s) (by rfl) ?_)
      | (go_at_call 35; refine (HK.out _).mono ?_; rintro e w1 ⟨rfl, rfl⟩))
    refine regStart2 [11] hS (fun _ h => h.one Has.z) (by kernel_rfl) rfl ?_
    intro w1 hS1
    clear hS; have hS := hS1; clear hS1
    (refine rgP 0 hS (fun _ h => h.one Has.z) ?_; go_frame)
    (refine rgP 1 hS (fun _ h => h.one Has.z) ?_; go_frame)
    (refine rgR 2 hS (fun _ h => h.one Has.z) ?_; (refine ⟨_, yLd _ _ (by rfl) _ _ (by rfl) (agOf (by rfl)) (by repeat first | exact Has.z | apply Has.s) (by rfl), ?_⟩); go_frame)
    (refine rgP 3 hS (fun _ h => h.one Has.z) ?_; go_frame)
    (refine rgR 4 hS (fun _ h => h.one Has.z) ?_; (refine ⟨_, yLd _ _ (by rfl) _ _ (by rfl) (agOf (by rfl)) (by repeat first | exact Has.z | apply Has.s) (by rfl), ?_⟩); go_frame)
    (refine rgP 6 hS (fun _ h => h.one Has.z) ?_; go_frame)
    (refine rgP 7 hS (fun _ h => h.one Has.z) ?_; go_frame)
    (refine rgR 8 hS (fun _ h => h.one Has.z) ?_; (refine ⟨_, yLd _ _ (by rfl) _ _ (by rfl) (agOf (by rfl)) (by repeat first | exact Has.z | apply Has.s) (by rfl), ?_⟩); go_frame)
    (refine rgP 9 hS (fun _ h => h.one Has.z) ?_; go_frame)
    (refine rgR 10 hS (fun _ h => h.one Has.z) ?_; (refine ⟨_, yLd _ _ (by rfl) _ _ (by rfl) (agOf (by rfl)) (by repeat first | exact Has.z | apply Has.s) (by rfl), ?_⟩); go_frame)
    (refine rgA 5 false fun K hK => ?_; (first
              | (refine Go.Sep.cl 12 _ _ (by rfl) (by rfl) (by kernel_rfl) (Calls.atS hS (k := 1) rfl (fun hF => HP.out _ _ hF)) ?_; rintro e w1 ⟨rfl, hS1⟩; clear hS; have hS := hS1; clear hS1; dsimp only [List.set_cons_zero, List.set_cons_succ] at hS; refine ⟨_, rfl, ?_⟩)
              | (refine Go.Sep.cl 43 _ _ (by rfl) (by rfl) (by kernel_rfl) (Calls.atS hS (k := 2) rfl (fun hF => HQ.out _ _ hF)) ?_; rintro e w1 ⟨rfl, hS1⟩; clear hS; have hS := hS1; clear hS1; dsimp only [List.set_cons_zero, List.set_cons_succ] at hS; refine ⟨_, rfl, ?_⟩)); refine hK _ _ _ (hS.upTo (fun _ h => by first | exact h.one Has.z | exact h.one (Has.s Has.z) | exact h.one (Has.s (Has.s Has.z)) | exact h.one (Has.s (Has.s (Has.s Has.z))) | exact h | exact h.drop | exact h.drop.drop | exact h.drop.drop.drop | exact h.drop.drop.drop.drop)) (fun _ _ h => h) ?_; clear hK K; go_frame)
    (refine rgA 11 true fun K hK => ?_; (first
              | (refine Go.Sep.cl 12 _ _ (by rfl) (by rfl) (by kernel_rfl) (Calls.atS hS (k := 1) rfl (fun hF => HP.out _ _ hF)) ?_; rintro e w1 ⟨rfl, hS1⟩; clear hS; have hS := hS1; clear hS1; dsimp only [List.set_cons_zero, List.set_cons_succ] at hS; refine ⟨_, rfl, ?_⟩)
              | (refine Go.Sep.cl 43 _ _ (by rfl) (by rfl) (by kernel_rfl) (Calls.atS hS (k := 2) rfl (fun hF => HQ.out _ _ hF)) ?_; rintro e w1 ⟨rfl, hS1⟩; clear hS; have hS := hS1; clear hS1; dsimp only [List.set_cons_zero, List.set_cons_succ] at hS; refine ⟨_, rfl, ?_⟩)); refine hK _ _ _ hS (by first | (intro h; cases h; done) | exact fun _ _ h => h | exact fun _ _ h => h.drop | exact fun _ _ h => h.drop.drop | exact fun _ _ h => h.drop.pull1 | exact fun _ _ h => h.take2 | exact fun _ _ h => h.one Has.z | exact fun _ _ h => h.one (Has.s Has.z) | exact fun _ _ h => h.one (Has.s (Has.s Has.z))) ?_; clear hK K; go_frame)
    (refine rgP 12 hS (fun _ h => h) ?_; go_frame)
    (refine rgP 13 hS (fun _ h => h) ?_; go_frame)
    refine regDone (by kernel_rfl) ?_
    go_wp2
    go_ret
    exact ⟨by simp, hS.drop⟩
  · have HG2 := Lib.hid (show G.step ⟨xk, xa, xb⟩ = G.edgeG xa xb by unfold Gr.step; dsimp only; rw [hm]; rfl)
    rw [HG2.out]
    clear HG2
    obtain ⟨G2, hG2⟩ : ∃ G2, G.edgeG xa xb = G2 := ⟨_, rfl⟩
    obtain ⟨E, hE⟩ : ∃ E, G.edgeE xa xb = E := ⟨_, rfl⟩
    have HP := Lib.hid (fun w L (h : Sat W w (IsG p G :: L)) => (show Calls Tryz.prog 12 #[.pointer (some ⟨p, 0, none⟩), .int .i64 xa, .int .i64 xb] w fun e w' => e = .returned (.int .i64 E) ∧ Sat W w' (IsG p G2 :: L) by
      have := edge_any h hG xa xb
      rw [hG2, hE] at this
      exact this))
    have HQ := Lib.hid (fun w L (h : Sat W w (IsR q G :: L)) => (show Calls Tryz.prog 43 #[.pointer (some ⟨q, 0, none⟩), .int .i64 xa, .int .i64 xb] w fun e w' => e = .returned (.int .i64 E) ∧ Sat W w' (IsR q G2 :: L) by
      have := redge_any h hG hel xa xb
      rw [hG2, hE] at this
      exact this))
    rw [hG2]
    rw [hm] at HK
    clear hm hG2 hE
    go_enter Tryz.func18, Tryz.ntmps18
    go_wp2_with (first
      | (refine toList (by rfl) ?_; refine bx hS _ _ (by rfl) _ (by first | exact evC | exact evT (by rfl)) ?_; intro px w1 hS1; clear hS; have hS := hS1; clear hS1; rw [cells_agg] at hS)
      | (refine toList (by rfl) ?_; refine ld hS _ _ (by rfl) _ _ (by rfl) (agOf (by rfl)) (by repeat first | exact Has.z | apply Has.s) (by rfl) ?_)
      | (go_at_call 35; refine (HK.out _).mono ?_; rintro e w1 ⟨rfl, rfl⟩))
    refine regStart2 [11] hS (fun _ h => h.one Has.z) (by kernel_rfl) rfl ?_
    intro w1 hS1
    clear hS; have hS := hS1; clear hS1
    (refine rgP 0 hS (fun _ h => h.one Has.z) ?_; go_frame)
    (refine rgP 1 hS (fun _ h => h.one Has.z) ?_; go_frame)
    (refine rgR 2 hS (fun _ h => h.one Has.z) ?_; (refine ⟨_, yLd _ _ (by rfl) _ _ (by rfl) (agOf (by rfl)) (by repeat first | exact Has.z | apply Has.s) (by rfl), ?_⟩); go_frame)
    (refine rgP 3 hS (fun _ h => h.one Has.z) ?_; go_frame)
    (refine rgR 4 hS (fun _ h => h.one Has.z) ?_; (refine ⟨_, yLd _ _ (by rfl) _ _ (by rfl) (agOf (by rfl)) (by repeat first | exact Has.z | apply Has.s) (by rfl), ?_⟩); go_frame)
    (refine rgP 6 hS (fun _ h => h.one Has.z) ?_; go_frame)
    (refine rgP 7 hS (fun _ h => h.one Has.z) ?_; go_frame)
    (refine rgR 8 hS (fun _ h => h.one Has.z) ?_; (refine ⟨_, yLd _ _ (by rfl) _ _ (by rfl) (agOf (by rfl)) (by repeat first | exact Has.z | apply Has.s) (by rfl), ?_⟩); go_frame)
    (refine rgP 9 hS (fun _ h => h.one Has.z) ?_; go_frame)
    (refine rgR 10 hS (fun _ h => h.one Has.z) ?_; (refine ⟨_, yLd _ _ (by rfl) _ _ (by rfl) (agOf (by rfl)) (by repeat first | exact Has.z | apply Has.s) (by rfl), ?_⟩); go_frame)
    (refine rgA 5 false fun K hK => ?_; (first
              | (refine Go.Sep.cl 12 _ _ (by rfl) (by rfl) (by kernel_rfl) (Calls.atS hS (k := 1) rfl (fun hF => HP.out _ _ hF)) ?_; rintro e w1 ⟨rfl, hS1⟩; clear hS; have hS := hS1; clear hS1; dsimp only [List.set_cons_zero, List.set_cons_succ] at hS; refine ⟨_, rfl, ?_⟩)
              | (refine Go.Sep.cl 43 _ _ (by rfl) (by rfl) (by kernel_rfl) (Calls.atS hS (k := 2) rfl (fun hF => HQ.out _ _ hF)) ?_; rintro e w1 ⟨rfl, hS1⟩; clear hS; have hS := hS1; clear hS1; dsimp only [List.set_cons_zero, List.set_cons_succ] at hS; refine ⟨_, rfl, ?_⟩)); refine hK _ _ _ (hS.upTo (fun _ h => by first | exact h.one Has.z | exact h.one (Has.s Has.z) | exact h.one (Has.s (Has.s Has.z)) | exact h.one (Has.s (Has.s (Has.s Has.z))) | exact h | exact h.drop | exact h.drop.drop | exact h.drop.drop.drop | exact h.drop.drop.drop.drop)) (fun _ _ h => h) ?_; clear hK K; go_frame)
    (refine rgA 11 true fun K hK => ?_; (first
              | (refine Go.Sep.cl 12 _ _ (by rfl) (by rfl) (by kernel_rfl) (Calls.atS hS (k := 1) rfl (fun hF => HP.out _ _ hF)) ?_; rintro e w1 ⟨rfl, hS1⟩; clear hS; have hS := hS1; clear hS1; dsimp only [List.set_cons_zero, List.set_cons_succ] at hS; refine ⟨_, rfl, ?_⟩)
              | (refine Go.Sep.cl 43 _ _ (by rfl) (by rfl) (by kernel_rfl) (Calls.atS hS (k := 2) rfl (fun hF => HQ.out _ _ hF)) ?_; rintro e w1 ⟨rfl, hS1⟩; clear hS; have hS := hS1; clear hS1; dsimp only [List.set_cons_zero, List.set_cons_succ] at hS; refine ⟨_, rfl, ?_⟩)); refine hK _ _ _ hS (by first | (intro h; cases h; done) | exact fun _ _ h => h | exact fun _ _ h => h.drop | exact fun _ _ h => h.drop.drop | exact fun _ _ h => h.drop.pull1 | exact fun _ _ h => h.take2 | exact fun _ _ h => h.one Has.z | exact fun _ _ h => h.one (Has.s Has.z) | exact fun _ _ h => h.one (Has.s (Has.s Has.z))) ?_; clear hK K; go_frame)
    (refine rgP 12 hS (fun _ h => h) ?_; go_frame)
    (refine rgP 13 hS (fun _ h => h) ?_; go_frame)
    refine regDone (by kernel_rfl) ?_
    go_wp2
    go_ret
    exact ⟨by simp, hS.drop⟩
  · have HG2 := Lib.hid (show G.step ⟨xk, xa, xb⟩ = G.markG xa xb by unfold Gr.step; dsimp only; rw [hm]; rfl)
    rw [HG2.out]
    clear HG2
    obtain ⟨G2, hG2⟩ : ∃ G2, G.markG xa xb = G2 := ⟨_, rfl⟩
    obtain ⟨E, hE⟩ : ∃ E, bitE G xa xb = E := ⟨_, rfl⟩
    have HP := Lib.hid (fun w L (h : Sat W w (IsG p G :: L)) => (show Calls Tryz.prog 37 #[.pointer (some ⟨p, 0, none⟩), .int .i64 xa, .int .i64 xb] w fun e w' => e = .returned (.int .i64 E) ∧ Sat W w' (IsG p G2 :: L) by
      have := mark_any h xa xb hG.marks
      rw [hG2, hE] at this
      exact this))
    have HQ := Lib.hid (fun w L (h : Sat W w (IsR q G :: L)) => (show Calls Tryz.prog 38 #[.pointer (some ⟨q, 0, none⟩), .int .i64 xa, .int .i64 xb] w fun e w' => e = .returned (.int .i64 E) ∧ Sat W w' (IsR q G2 :: L) by
      have := rmark_any h xa xb hG.marks
      rw [hG2, hE] at this
      exact this))
    rw [hG2]
    rw [hm] at HK
    clear hm hG2 hE
    go_enter Tryz.func18, Tryz.ntmps18
    go_wp2_with (first
      | (refine toList (by rfl) ?_; refine bx hS _ _ (by rfl) _ (by first | exact evC | exact evT (by rfl)) ?_; intro px w1 hS1; clear hS; have hS := hS1; clear hS1; rw [cells_agg] at hS)
      | (refine toList (by rfl) ?_; refine ld hS _ _ (by rfl) _ _ (by rfl) (agOf (by rfl)) (by repeat first | exact Has.z | apply Has.s) (by rfl) ?_)
      | (go_at_call 35; refine (HK.out _).mono ?_; rintro e w1 ⟨rfl, rfl⟩))
    refine regStart2 [11] hS (fun _ h => h.one Has.z) (by kernel_rfl) rfl ?_
    intro w1 hS1
    clear hS; have hS := hS1; clear hS1
    (refine rgP 0 hS (fun _ h => h.one Has.z) ?_; go_frame)
    (refine rgP 1 hS (fun _ h => h.one Has.z) ?_; go_frame)
    (refine rgR 2 hS (fun _ h => h.one Has.z) ?_; (refine ⟨_, yLd _ _ (by rfl) _ _ (by rfl) (agOf (by rfl)) (by repeat first | exact Has.z | apply Has.s) (by rfl), ?_⟩); go_frame)
    (refine rgP 3 hS (fun _ h => h.one Has.z) ?_; go_frame)
    (refine rgR 4 hS (fun _ h => h.one Has.z) ?_; (refine ⟨_, yLd _ _ (by rfl) _ _ (by rfl) (agOf (by rfl)) (by repeat first | exact Has.z | apply Has.s) (by rfl), ?_⟩); go_frame)
    (refine rgP 6 hS (fun _ h => h.one Has.z) ?_; go_frame)
    (refine rgP 7 hS (fun _ h => h.one Has.z) ?_; go_frame)
    (refine rgR 8 hS (fun _ h => h.one Has.z) ?_; (refine ⟨_, yLd _ _ (by rfl) _ _ (by rfl) (agOf (by rfl)) (by repeat first | exact Has.z | apply Has.s) (by rfl), ?_⟩); go_frame)
    (refine rgP 9 hS (fun _ h => h.one Has.z) ?_; go_frame)
    (refine rgR 10 hS (fun _ h => h.one Has.z) ?_; (refine ⟨_, yLd _ _ (by rfl) _ _ (by rfl) (agOf (by rfl)) (by repeat first | exact Has.z | apply Has.s) (by rfl), ?_⟩); go_frame)
    (refine rgA 5 false fun K hK => ?_; (first
              | (refine Go.Sep.cl 37 _ _ (by rfl) (by rfl) (by kernel_rfl) (Calls.atS hS (k := 1) rfl (fun hF => HP.out _ _ hF)) ?_; rintro e w1 ⟨rfl, hS1⟩; clear hS; have hS := hS1; clear hS1; dsimp only [List.set_cons_zero, List.set_cons_succ] at hS; refine ⟨_, rfl, ?_⟩)
              | (refine Go.Sep.cl 38 _ _ (by rfl) (by rfl) (by kernel_rfl) (Calls.atS hS (k := 2) rfl (fun hF => HQ.out _ _ hF)) ?_; rintro e w1 ⟨rfl, hS1⟩; clear hS; have hS := hS1; clear hS1; dsimp only [List.set_cons_zero, List.set_cons_succ] at hS; refine ⟨_, rfl, ?_⟩)); refine hK _ _ _ (hS.upTo (fun _ h => by first | exact h.one Has.z | exact h.one (Has.s Has.z) | exact h.one (Has.s (Has.s Has.z)) | exact h.one (Has.s (Has.s (Has.s Has.z))) | exact h | exact h.drop | exact h.drop.drop | exact h.drop.drop.drop | exact h.drop.drop.drop.drop)) (fun _ _ h => h) ?_; clear hK K; go_frame)
    (refine rgA 11 true fun K hK => ?_; (first
              | (refine Go.Sep.cl 37 _ _ (by rfl) (by rfl) (by kernel_rfl) (Calls.atS hS (k := 1) rfl (fun hF => HP.out _ _ hF)) ?_; rintro e w1 ⟨rfl, hS1⟩; clear hS; have hS := hS1; clear hS1; dsimp only [List.set_cons_zero, List.set_cons_succ] at hS; refine ⟨_, rfl, ?_⟩)
              | (refine Go.Sep.cl 38 _ _ (by rfl) (by rfl) (by kernel_rfl) (Calls.atS hS (k := 2) rfl (fun hF => HQ.out _ _ hF)) ?_; rintro e w1 ⟨rfl, hS1⟩; clear hS; have hS := hS1; clear hS1; dsimp only [List.set_cons_zero, List.set_cons_succ] at hS; refine ⟨_, rfl, ?_⟩)); refine hK _ _ _ hS (by first | (intro h; cases h; done) | exact fun _ _ h => h | exact fun _ _ h => h.drop | exact fun _ _ h => h.drop.drop | exact fun _ _ h => h.drop.pull1 | exact fun _ _ h => h.take2 | exact fun _ _ h => h.one Has.z | exact fun _ _ h => h.one (Has.s Has.z) | exact fun _ _ h => h.one (Has.s (Has.s Has.z))) ?_; clear hK K; go_frame)
    (refine rgP 12 hS (fun _ h => h) ?_; go_frame)
    (refine rgP 13 hS (fun _ h => h) ?_; go_frame)
    refine regDone (by kernel_rfl) ?_
    go_wp2
    go_ret
    exact ⟨by simp, hS.drop⟩
  · have HG2 := Lib.hid (show G.step ⟨xk, xa, xb⟩ = G.clearG xa xb by unfold Gr.step; dsimp only; rw [hm]; rfl)
    rw [HG2.out]
    clear HG2
    obtain ⟨G2, hG2⟩ : ∃ G2, G.clearG xa xb = G2 := ⟨_, rfl⟩
    obtain ⟨E, hE⟩ : ∃ E, bitE G xa xb = E := ⟨_, rfl⟩
    have HP := Lib.hid (fun w L (h : Sat W w (IsG p G :: L)) => (show Calls Tryz.prog 39 #[.pointer (some ⟨p, 0, none⟩), .int .i64 xa, .int .i64 xb] w fun e w' => e = .returned (.int .i64 E) ∧ Sat W w' (IsG p G2 :: L) by
      have := clear_any h xa xb hG.marks
      rw [hG2, hE] at this
      exact this))
    have HQ := Lib.hid (fun w L (h : Sat W w (IsR q G :: L)) => (show Calls Tryz.prog 40 #[.pointer (some ⟨q, 0, none⟩), .int .i64 xa, .int .i64 xb] w fun e w' => e = .returned (.int .i64 E) ∧ Sat W w' (IsR q G2 :: L) by
      have := rclear_any h xa xb hG.marks
      rw [hG2, hE] at this
      exact this))
    rw [hG2]
    rw [hm] at HK
    clear hm hG2 hE
    go_enter Tryz.func18, Tryz.ntmps18
    go_wp2_with (first
      | (refine toList (by rfl) ?_; refine bx hS _ _ (by rfl) _ (by first | exact evC | exact evT (by rfl)) ?_; intro px w1 hS1; clear hS; have hS := hS1; clear hS1; rw [cells_agg] at hS)
      | (refine toList (by rfl) ?_; refine ld hS _ _ (by rfl) _ _ (by rfl) (agOf (by rfl)) (by repeat first | exact Has.z | apply Has.s) (by rfl) ?_)
      | (go_at_call 35; refine (HK.out _).mono ?_; rintro e w1 ⟨rfl, rfl⟩))
    refine regStart2 [11] hS (fun _ h => h.one Has.z) (by kernel_rfl) rfl ?_
    intro w1 hS1
    clear hS; have hS := hS1; clear hS1
    (refine rgP 0 hS (fun _ h => h.one Has.z) ?_; go_frame)
    (refine rgP 1 hS (fun _ h => h.one Has.z) ?_; go_frame)
    (refine rgR 2 hS (fun _ h => h.one Has.z) ?_; (refine ⟨_, yLd _ _ (by rfl) _ _ (by rfl) (agOf (by rfl)) (by repeat first | exact Has.z | apply Has.s) (by rfl), ?_⟩); go_frame)
    (refine rgP 3 hS (fun _ h => h.one Has.z) ?_; go_frame)
    (refine rgR 4 hS (fun _ h => h.one Has.z) ?_; (refine ⟨_, yLd _ _ (by rfl) _ _ (by rfl) (agOf (by rfl)) (by repeat first | exact Has.z | apply Has.s) (by rfl), ?_⟩); go_frame)
    (refine rgP 6 hS (fun _ h => h.one Has.z) ?_; go_frame)
    (refine rgP 7 hS (fun _ h => h.one Has.z) ?_; go_frame)
    (refine rgR 8 hS (fun _ h => h.one Has.z) ?_; (refine ⟨_, yLd _ _ (by rfl) _ _ (by rfl) (agOf (by rfl)) (by repeat first | exact Has.z | apply Has.s) (by rfl), ?_⟩); go_frame)
    (refine rgP 9 hS (fun _ h => h.one Has.z) ?_; go_frame)
    (refine rgR 10 hS (fun _ h => h.one Has.z) ?_; (refine ⟨_, yLd _ _ (by rfl) _ _ (by rfl) (agOf (by rfl)) (by repeat first | exact Has.z | apply Has.s) (by rfl), ?_⟩); go_frame)
    (refine rgA 5 false fun K hK => ?_; (first
              | (refine Go.Sep.cl 39 _ _ (by rfl) (by rfl) (by kernel_rfl) (Calls.atS hS (k := 1) rfl (fun hF => HP.out _ _ hF)) ?_; rintro e w1 ⟨rfl, hS1⟩; clear hS; have hS := hS1; clear hS1; dsimp only [List.set_cons_zero, List.set_cons_succ] at hS; refine ⟨_, rfl, ?_⟩)
              | (refine Go.Sep.cl 40 _ _ (by rfl) (by rfl) (by kernel_rfl) (Calls.atS hS (k := 2) rfl (fun hF => HQ.out _ _ hF)) ?_; rintro e w1 ⟨rfl, hS1⟩; clear hS; have hS := hS1; clear hS1; dsimp only [List.set_cons_zero, List.set_cons_succ] at hS; refine ⟨_, rfl, ?_⟩)); refine hK _ _ _ (hS.upTo (fun _ h => by first | exact h.one Has.z | exact h.one (Has.s Has.z) | exact h.one (Has.s (Has.s Has.z)) | exact h.one (Has.s (Has.s (Has.s Has.z))) | exact h | exact h.drop | exact h.drop.drop | exact h.drop.drop.drop | exact h.drop.drop.drop.drop)) (fun _ _ h => h) ?_; clear hK K; go_frame)
    (refine rgA 11 true fun K hK => ?_; (first
              | (refine Go.Sep.cl 39 _ _ (by rfl) (by rfl) (by kernel_rfl) (Calls.atS hS (k := 1) rfl (fun hF => HP.out _ _ hF)) ?_; rintro e w1 ⟨rfl, hS1⟩; clear hS; have hS := hS1; clear hS1; dsimp only [List.set_cons_zero, List.set_cons_succ] at hS; refine ⟨_, rfl, ?_⟩)
              | (refine Go.Sep.cl 40 _ _ (by rfl) (by rfl) (by kernel_rfl) (Calls.atS hS (k := 2) rfl (fun hF => HQ.out _ _ hF)) ?_; rintro e w1 ⟨rfl, hS1⟩; clear hS; have hS := hS1; clear hS1; dsimp only [List.set_cons_zero, List.set_cons_succ] at hS; refine ⟨_, rfl, ?_⟩)); refine hK _ _ _ hS (by first | (intro h; cases h; done) | exact fun _ _ h => h | exact fun _ _ h => h.drop | exact fun _ _ h => h.drop.drop | exact fun _ _ h => h.drop.pull1 | exact fun _ _ h => h.take2 | exact fun _ _ h => h.one Has.z | exact fun _ _ h => h.one (Has.s Has.z) | exact fun _ _ h => h.one (Has.s (Has.s Has.z))) ?_; clear hK K; go_frame)
    (refine rgP 12 hS (fun _ h => h) ?_; go_frame)
    (refine rgP 13 hS (fun _ h => h) ?_; go_frame)
    refine regDone (by kernel_rfl) ?_
    go_wp2
    go_ret
    exact ⟨by simp, hS.drop⟩
  · have HG2 := Lib.hid (show G.step ⟨xk, xa, xb⟩ = G.lostG xa xb by unfold Gr.step; dsimp only; rw [hm]; rfl)
    rw [HG2.out]
    clear HG2
    obtain ⟨G2, hG2⟩ : ∃ G2, G.lostG xa xb = G2 := ⟨_, rfl⟩
    obtain ⟨E, hE⟩ : ∃ E, lostE G xa xb = E := ⟨_, rfl⟩
    have HP := Lib.hid (fun w L (h : Sat W w (IsG p G :: L)) => (show Calls Tryz.prog 41 #[.pointer (some ⟨p, 0, none⟩), .int .i64 xa, .int .i64 xb] w fun e w' => e = .returned (.int .i64 E) ∧ Sat W w' (IsG p G2 :: L) by
      have := lost_any h xa xb (by have := hG.len; omega)
      rw [hG2, hE] at this
      exact this))
    have HQ := Lib.hid (fun w L (h : Sat W w (IsR q G :: L)) => (show Calls Tryz.prog 42 #[.pointer (some ⟨q, 0, none⟩), .int .i64 xa, .int .i64 xb] w fun e w' => e = .returned (.int .i64 E) ∧ Sat W w' (IsR q G2 :: L) by
      have := rlost_any h xa xb (by have := hG.len; omega)
      rw [hG2, hE] at this
      exact this))
    rw [hG2]
    rw [hm] at HK
    clear hm hG2 hE
    go_enter Tryz.func18, Tryz.ntmps18
    go_wp2_with (first
      | (refine toList (by rfl) ?_; refine bx hS _ _ (by rfl) _ (by first | exact evC | exact evT (by rfl)) ?_; intro px w1 hS1; clear hS; have hS := hS1; clear hS1; rw [cells_agg] at hS)
      | (refine toList (by rfl) ?_; refine ld hS _ _ (by rfl) _ _ (by rfl) (agOf (by rfl)) (by repeat first | exact Has.z | apply Has.s) (by rfl) ?_)
      | (go_at_call 35; refine (HK.out _).mono ?_; rintro e w1 ⟨rfl, rfl⟩))
    refine regStart2 [11] hS (fun _ h => h.one Has.z) (by kernel_rfl) rfl ?_
    intro w1 hS1
    clear hS; have hS := hS1; clear hS1
    (refine rgP 0 hS (fun _ h => h.one Has.z) ?_; go_frame)
    (refine rgP 1 hS (fun _ h => h.one Has.z) ?_; go_frame)
    (refine rgR 2 hS (fun _ h => h.one Has.z) ?_; (refine ⟨_, yLd _ _ (by rfl) _ _ (by rfl) (agOf (by rfl)) (by repeat first | exact Has.z | apply Has.s) (by rfl), ?_⟩); go_frame)
    (refine rgP 3 hS (fun _ h => h.one Has.z) ?_; go_frame)
    (refine rgR 4 hS (fun _ h => h.one Has.z) ?_; (refine ⟨_, yLd _ _ (by rfl) _ _ (by rfl) (agOf (by rfl)) (by repeat first | exact Has.z | apply Has.s) (by rfl), ?_⟩); go_frame)
    (refine rgP 6 hS (fun _ h => h.one Has.z) ?_; go_frame)
    (refine rgP 7 hS (fun _ h => h.one Has.z) ?_; go_frame)
    (refine rgR 8 hS (fun _ h => h.one Has.z) ?_; (refine ⟨_, yLd _ _ (by rfl) _ _ (by rfl) (agOf (by rfl)) (by repeat first | exact Has.z | apply Has.s) (by rfl), ?_⟩); go_frame)
    (refine rgP 9 hS (fun _ h => h.one Has.z) ?_; go_frame)
    (refine rgR 10 hS (fun _ h => h.one Has.z) ?_; (refine ⟨_, yLd _ _ (by rfl) _ _ (by rfl) (agOf (by rfl)) (by repeat first | exact Has.z | apply Has.s) (by rfl), ?_⟩); go_frame)
    (refine rgA 5 false fun K hK => ?_; (first
              | (refine Go.Sep.cl 41 _ _ (by rfl) (by rfl) (by kernel_rfl) (Calls.atS hS (k := 1) rfl (fun hF => HP.out _ _ hF)) ?_; rintro e w1 ⟨rfl, hS1⟩; clear hS; have hS := hS1; clear hS1; dsimp only [List.set_cons_zero, List.set_cons_succ] at hS; refine ⟨_, rfl, ?_⟩)
              | (refine Go.Sep.cl 42 _ _ (by rfl) (by rfl) (by kernel_rfl) (Calls.atS hS (k := 2) rfl (fun hF => HQ.out _ _ hF)) ?_; rintro e w1 ⟨rfl, hS1⟩; clear hS; have hS := hS1; clear hS1; dsimp only [List.set_cons_zero, List.set_cons_succ] at hS; refine ⟨_, rfl, ?_⟩)); refine hK _ _ _ (hS.upTo (fun _ h => by first | exact h.one Has.z | exact h.one (Has.s Has.z) | exact h.one (Has.s (Has.s Has.z)) | exact h.one (Has.s (Has.s (Has.s Has.z))) | exact h | exact h.drop | exact h.drop.drop | exact h.drop.drop.drop | exact h.drop.drop.drop.drop)) (fun _ _ h => h) ?_; clear hK K; go_frame)
    (refine rgA 11 true fun K hK => ?_; (first
              | (refine Go.Sep.cl 41 _ _ (by rfl) (by rfl) (by kernel_rfl) (Calls.atS hS (k := 1) rfl (fun hF => HP.out _ _ hF)) ?_; rintro e w1 ⟨rfl, hS1⟩; clear hS; have hS := hS1; clear hS1; dsimp only [List.set_cons_zero, List.set_cons_succ] at hS; refine ⟨_, rfl, ?_⟩)
              | (refine Go.Sep.cl 42 _ _ (by rfl) (by rfl) (by kernel_rfl) (Calls.atS hS (k := 2) rfl (fun hF => HQ.out _ _ hF)) ?_; rintro e w1 ⟨rfl, hS1⟩; clear hS; have hS := hS1; clear hS1; dsimp only [List.set_cons_zero, List.set_cons_succ] at hS; refine ⟨_, rfl, ?_⟩)); refine hK _ _ _ hS (by first | (intro h; cases h; done) | exact fun _ _ h => h | exact fun _ _ h => h.drop | exact fun _ _ h => h.drop.drop | exact fun _ _ h => h.drop.pull1 | exact fun _ _ h => h.take2 | exact fun _ _ h => h.one Has.z | exact fun _ _ h => h.one (Has.s Has.z) | exact fun _ _ h => h.one (Has.s (Has.s Has.z))) ?_; clear hK K; go_frame)
    (refine rgP 12 hS (fun _ h => h) ?_; go_frame)
    (refine rgP 13 hS (fun _ h => h) ?_; go_frame)
    refine regDone (by kernel_rfl) ?_
    go_wp2
    go_ret
    exact ⟨by simp, hS.drop⟩
set_option maxRecDepth 20000 in
set_option maxHeartbeats 1000000 in
theorem graphs_any {W w : World} {L : List Asrt} (hS : Sat W w L) (l : List GOpD) (ao : Option Addr) (c : Nat) (hr : Rd w (.slice ao l.length c) l.length 3 (l.flatMap gov)) (hrW : ∀ u L', Sat W u L' → Rd u (.slice ao l.length c) l.length 3 (l.flatMap gov)) :
    Calls Tryz.prog 6 #[.slice ao l.length c] w fun e w' => ∃ p q G, e = .returned (.tuple #[.pointer (some ⟨p, 0, none⟩), .pointer (some ⟨q, 0, none⟩), .bool true]) ∧ G.Ok ∧ G.E.length ≤ 80 ∧ G.N.length ≤ 80 ∧ Sat W w' (IsG p G :: IsR q G :: L) := by
  have HR := Lib.hid hrW
  clear hrW
  obtain ⟨_, _, he, hc1, hc2, _, h5⟩ := hr
  simp only [Value.slice.injEq, true_and] at he
  obtain ⟨rfl, rfl⟩ := he
  have H5 := Lib.hid h5
  clear h5
  go_enter Tryz.func6, Tryz.ntmps6
  go_wp2_with (first
    | (go_at_call 10; refine (new_any hS).mono ?_; rintro e w1 ⟨p, rfl, hS1⟩; clear hS; have hS := hS1; clear hS1)
    | (refine toList (by rfl) ?_; refine bx hS _ _ (by rfl) _ (by first | exact evC | exact evT (by rfl)) ?_; intro q w1 hS1; clear hS; have hS := hS1; clear hS1; rw [cells_agg] at hS))
  have H0 : Hid (Sat W _ (IsG p Gr.new :: IsR q Gr.new :: L)) := Lib.hid (by
    have h1 := ((hS.tbNil (α := Nat × Nat) (f := ev) (E := 83) (sz := 2)).tbNil (α := NodeD) (f := nv) (E := 60) (sz := 6))
    exact (IsR.mk (G := Gr.new) (h1.re [2, 0, 1])).pull1)
  go_loopw [7] (fun v wz => ∃ (i : Nat) (G : Gr), v = .int .i64 i ∧ i ≤ 80 ∧ G.Ok ∧ G.E.length ≤ i ∧ G.N.length ≤ i ∧ Sat W wz (IsG p G :: IsR q G :: L)) (fun v _ => 80 - (intOf v).toNat)
  case atStart => exact ⟨0, Gr.new, rfl, by omega, Gr.new_ok, Nat.le_refl _, Nat.le_refl _, H0.out⟩
  case round =>
    clear hS H0
    obtain ⟨i, G, rfl, hi, hok, hel, hnl, hS⟩ := hrel
    have HOK := Lib.hid hok
    have HEL := Lib.hid hel
    have HNL := Lib.hid hnl
    clear hok hel hnl
    by_cases hf : i < l.length
    · have i1 : (i : Int) < (l.length : Int) := by omega
      have e1 : decide ((i : Int) < (l.length : Int)) = true := decide_eq_true i1
      by_cases h80 : i < 80
      · have i3 : (i : Int) < 80 := by omega
        have e3 : decide ((i : Int) < 80) = true := decide_eq_true i3
        obtain ⟨x, hx⟩ : ∃ x, l[i]? = some x := ⟨_, List.getElem?_eq_getElem hf⟩
        have HX := Lib.hid hx
        obtain ⟨b0, off, rfl, _⟩ := H5.out (by omega)
        have HD := Lib.hid (fun w (h : Sat W w (IsG p G :: IsR q G :: L)) => gdo_any h HOK.out (by have := HEL.out; omega) x)
        have HOK2 := Lib.hid (Gr.step_ok HOK.out (by have := HEL.out; omega) x)
        have HE2 := Lib.hid (show (G.step x).E.length ≤ i + 1 by have := G.step_E x; have := HEL.out; omega)
        have HN2 := Lib.hid (show (G.step x).N.length ≤ i + 1 by have := G.step_N x; have := HNL.out; omega)
        obtain ⟨G2, hG2⟩ : ∃ G2, G.step x = G2 := ⟨_, rfl⟩
        rw [hG2] at HD HOK2 HE2 HN2
        clear hx hG2
        go_wp2_with (first
          | (refine toList (by rfl) ?_; refine wp_of_reads (rLdRdA (HR.out _ _ hS) (gov_len l) _ _ (by rfl) _ (by rfl) (agOf (by rfl)) (szOf (by rfl)) i (by rfl) HX.out (by omega)) ?_)
          | (go_at_call 18; refine (HD.out _ hS).mono ?_; rintro e w1 ⟨rfl, hS1⟩; clear hS; have hS := hS1; clear hS1))
        exact ⟨⟨i + 1, G2, by go_num, by omega, HOK2.out, HE2.out, HN2.out, hS⟩, by simp [intOf]; omega⟩
      · have e3 : decide ((i : Int) < 80) = false := decide_eq_false (by omega)
        have e4 : ¬ (i : Int) < 80 := by omega
        clear h80
        go_wp2
        go_ret3
        exact ⟨p, q, rfl, G, HOK.out, by have := HEL.out; omega, by have := HNL.out; omega, hS⟩
    · have e1 : decide ((i : Int) < (l.length : Int)) = false := decide_eq_false (by omega)
      have e1b : decide (i < l.length) = false := decide_eq_false hf
      have e4 : ¬ (i : Int) < (l.length : Int) := by omega
      clear hf
      go_wp2
      go_ret3
      exact ⟨p, q, rfl, G, HOK.out, by have := HEL.out; omega, by have := HNL.out; omega, hS⟩
set_option maxRecDepth 20000 in
theorem same_any {W w : World} {L : List Asrt} (hS : Sat W w L) (l : List Nat) (ao bo : Option Addr) (c d : Nat) (h1 : ∀ w, Sat W w L → Rd w (.slice ao l.length c) l.length 1 (iv l)) (h2 : ∀ w, Sat W w L → Rd w (.slice bo l.length d) l.length 1 (iv l)) (hl : l.length ≤ 1000000) :
    Calls Tryz.prog 7 #[.slice ao l.length c, .slice bo l.length d] w fun e w' => e = .returned (.bool true) ∧ Sat W w' L := by
  have HR1 := Lib.hid h1
  have HR2 := Lib.hid h2
  obtain ⟨_, _, he, hc1, hc2, _, h5⟩ := h1 w hS
  simp only [Value.slice.injEq, true_and] at he
  obtain ⟨rfl, rfl⟩ := he
  obtain ⟨_, _, he, hd1, hd2, _, h6⟩ := h2 w hS
  simp only [Value.slice.injEq, true_and] at he
  obtain ⟨rfl, rfl⟩ := he
  have H5 := Lib.hid h5
  have H6 := Lib.hid h6
  have H0 := Lib.hid hS
  clear h1 h2 h5 h6
  go_enter Tryz.func7, Tryz.ntmps7
  go_wp2
  go_loopw [5] (fun v wz => ∃ i : Nat, v = .int .i64 i ∧ i ≤ l.length ∧ Sat W wz L) (fun v _ => l.length - (intOf v).toNat)
  case atStart => exact ⟨0, rfl, by omega, H0.out⟩
  case round =>
    clear hS H0
    obtain ⟨i, rfl, hi, hS⟩ := hrel
    by_cases hf : i < l.length
    · have i1 : (i : Int) < (l.length : Int) := by omega
      obtain ⟨x, hx⟩ : ∃ x, l[i]? = some x := ⟨_, List.getElem?_eq_getElem hf⟩
      have HX := Lib.hid (iv_at hx)
      obtain ⟨ba, oa, rfl, _⟩ := H5.out (by omega)
      obtain ⟨bb, ob, rfl, _⟩ := H6.out (by omega)
      have HL := Lib.hid hf
      clear hx hf
      go_wp2
      refine regStart [] hS (by kernel_rfl) rfl ?_
      intro w1 hS1
      clear hS; have hS := hS1; clear hS1
      (refine rgP 0 hS (fun _ h => h) ?_; go_frame)
      (refine rgP 1 hS (fun _ h => h) ?_; go_frame)
      (refine rgP 2 hS (fun _ h => h) ?_; go_frame)
      (refine rgR 3 hS (fun _ h => h) ?_; (refine ⟨_, fun u hu => (by first | exact rLdRd1 (HR1.out u hu) _ _ (by rfl) _ (by rfl) (agOf (by rfl)) i (by omega) HX.out (by omega) | exact rLdRd1 (HR2.out u hu) _ _ (by rfl) _ (by rfl) (agOf (by rfl)) i (by omega) HX.out (by omega)), ?_⟩); go_frame)
      (refine rgP 4 hS (fun _ h => h) ?_; go_frame)
      (refine rgP 5 hS (fun _ h => h) ?_; go_frame)
      (refine rgP 6 hS (fun _ h => h) ?_; go_frame)
      (refine rgR 7 hS (fun _ h => h) ?_; (refine ⟨_, fun u hu => (by first | exact rLdRd1 (HR1.out u hu) _ _ (by rfl) _ (by rfl) (agOf (by rfl)) i (by omega) HX.out (by omega) | exact rLdRd1 (HR2.out u hu) _ _ (by rfl) _ (by rfl) (agOf (by rfl)) i (by omega) HX.out (by omega)), ?_⟩); go_frame)
      (refine rgP 8 hS (fun _ h => h) ?_; go_frame)
      refine regDone (by kernel_rfl) ?_
      go_wp2
      exact ⟨⟨i + 1, by go_num, HL.out, hS⟩, by simp [intOf]; have := HL.out; omega⟩
    · have e1 : decide ((i : Int) < (l.length : Int)) = false := decide_eq_false (by omega)
      have e4 : ¬ (i : Int) < (l.length : Int) := by omega
      clear hf
      go_wp2
      go_ret
      exact ⟨rfl, hS⟩
end Go.Proofs.YtpnbdnfgdiakhaaGreat
