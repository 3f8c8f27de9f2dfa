/-
  The document's graph (package pedigreeref15): Is, Has, Add.
-/
import Derived.Test.YtapodjhkpahdnaaGrAcyP
namespace Go.Proofs.Ytapodjhkpahdnaa
open Go.RowKit Go.Sep
set_option linter.unusedSimpArgs false
set_option linter.unusedVariables false
attribute [local irreducible] Go.Oper.wp Go.wpList Go.Calls Go.Code.wp Go.Sep.Reg
def ev (e : Nat × Nat) : List Value := [.int .i64 (e.1 : Int), .int .i64 (e.2 : Int)]
theorem ev_len (l : List (Nat × Nat)) : ∀ x ∈ l, (ev x).length = 2 := fun _ _ => rfl
theorem ev_one (l : List (Nat × Nat)) : ∀ u ∈ l.flatMap ev, u.oneCell' = true := fun u hu => by
  obtain ⟨x, _, hu⟩ := List.mem_flatMap.1 hu
  simp only [ev, List.mem_cons, List.not_mem_nil, or_false] at hu
  rcases hu with rfl | rfl <;> rfl
def IsR (p : Nat) (G : Gr) : Asrt :=
  Ex fun x : Value × Value => St [Cs p 50 [x.1, x.2], Tb 32 6 nv x.1 G.N, Tb 85 2 ev x.2 G.E]
theorem IsR.open {W w : World} {L : List Asrt} {p : Nat} {G : Gr} (h : Sat W w (IsR p G :: L)) : ∃ an cn ae ce, G.N.length ≤ cn ∧ G.E.length ≤ ce ∧
    Sat W w (Cs p 50 [.slice an G.N.length cn, .slice ae G.E.length ce] :: Tb 32 6 nv (.slice an G.N.length cn) G.N :: Tb 85 2 ev (.slice ae G.E.length ce) G.E :: L) := by
  obtain ⟨⟨vn, ve⟩, h⟩ := h.ex
  have h2 : Sat W w (Cs p 50 [vn, ve] :: Tb 32 6 nv vn G.N :: Tb 85 2 ev ve G.E :: L) := h.open
  obtain ⟨an, cn, rfl, hn⟩ := h2.tbShape (k := 1) rfl
  obtain ⟨ae, ce, rfl, he⟩ := h2.tbShape (k := 2) rfl
  exact ⟨an, cn, ae, ce, hn, he, h2⟩
theorem IsR.mk {W w : World} {L : List Asrt} {p : Nat} {G : Gr} {vn ve : Value}
    (h : Sat W w (Cs p 50 [vn, ve] :: Tb 32 6 nv vn G.N :: Tb 85 2 ev ve G.E :: L)) : Sat W w (IsR p G :: L) :=
  Sat.mkEx (vn, ve) (Sat.mkSt h)
theorem is_any {W w : World} {L : List Asrt} {p : Nat} {G : Gr} (hS : Sat W w (IsR p G :: L)) (n : Int) {b : Bool} (hb : G.is n = b) :
    Calls Try.prog 80 #[.pointer (some ⟨p, 0, none⟩), .int .i64 n] w fun e w' => e = .returned (.bool b) ∧ w = w' := by
  obtain ⟨an, cn, ae, ce, hcn, hce, hS⟩ := IsR.open hS
  unfold Gr.is at hb
  by_cases h1 : 0 ≤ n
  · have e1 : decide (0 ≤ n) = true := decide_eq_true h1
    by_cases h2 : n < (G.N.length : Int)
    · obtain rfl : b = true := by rw [← hb, e1, decide_eq_true h2]; rfl
      clear hb
      go_enter Try.func80, Try.ntmps80
      go_wp2_with (refine toList (by rfl) ?_; refine ld hS _ _ (by rfl) _ _ (by rfl) (agOf (by rfl)) (by first | exact Has.z | exact Has.s Has.z | exact Has.s (Has.s Has.z) | exact Has.s (Has.s (Has.s Has.z)) | exact Has.s (Has.s (Has.s (Has.s Has.z))) | exact Has.s (Has.s (Has.s (Has.s (Has.s Has.z))))) (by rfl) ?_)
      go_ret
      exact ⟨rfl, rfl⟩
    · obtain rfl : b = false := by rw [← hb, e1, decide_eq_false h2]; rfl
      have e2 : decide (n < (G.N.length : Int)) = false := decide_eq_false h2
      clear hb
      go_enter Try.func80, Try.ntmps80
      go_wp2_with (refine toList (by rfl) ?_; refine ld hS _ _ (by rfl) _ _ (by rfl) (agOf (by rfl)) (by first | exact Has.z | exact Has.s Has.z | exact Has.s (Has.s Has.z) | exact Has.s (Has.s (Has.s Has.z)) | exact Has.s (Has.s (Has.s (Has.s Has.z))) | exact Has.s (Has.s (Has.s (Has.s (Has.s Has.z))))) (by rfl) ?_)
      go_ret
      exact ⟨rfl, rfl⟩
  · obtain rfl : b = false := by rw [← hb, decide_eq_false h1]; rfl
    have e1 : decide (0 ≤ n) = false := decide_eq_false h1
    clear hb
    go_enter Try.func80, Try.ntmps80
    go_wp2_with (refine toList (by rfl) ?_; refine ld hS _ _ (by rfl) _ _ (by rfl) (agOf (by rfl)) (by first | exact Has.z | exact Has.s Has.z | exact Has.s (Has.s Has.z) | exact Has.s (Has.s (Has.s Has.z)) | exact Has.s (Has.s (Has.s (Has.s Has.z))) | exact Has.s (Has.s (Has.s (Has.s (Has.s Has.z))))) (by rfl) ?_)
    go_ret
    exact ⟨rfl, rfl⟩
def hasP (a b : Int) (p : Nat × Nat) : Bool := decide ((p.1 : Int) = a) && decide ((p.2 : Int) = b)
theorem any_split {α : Type} {l : List α} {i : Nat} {x : α} {P : α → Bool} (hx : l[i]? = some x) (h : (l.take i).any P = false) (hp : P x = true) : l.any P = true := by
  have h2 := h
  exact List.any_eq_true.2 ⟨x, List.mem_of_getElem? hx, hp⟩
theorem any_next {α : Type} {l : List α} {i : Nat} {x : α} {P : α → Bool} (hx : l[i]? = some x) (h : (l.take i).any P = false) (hp : P x = false) : (l.take (i + 1)).any P = false := by
  rw [List.take_add_one, hx, List.any_append, h]
  simp [hp]
set_option maxRecDepth 20000 in
theorem has_any {W w : World} {L : List Asrt} {p : Nat} {G : Gr} (hS : Sat W w (IsR p G :: L)) (a b : Int) (hE : G.E.length ≤ 1000000) {r : Bool} (hr : G.has (a, b) = r) :
    Calls Try.prog 81 #[.pointer (some ⟨p, 0, none⟩), .int .i64 a, .int .i64 b] w fun e w' => e = .returned (.bool r) ∧ w = w' := by
  obtain ⟨an, cn, ae, ce, hcn, hce, hS⟩ := IsR.open hS
  have HR := Lib.hid (show G.E.any (hasP a b) = r from hr)
  clear hr
  go_enter Try.func81, Try.ntmps81
  go_wp2_with (refine toList (by rfl) ?_; refine ld hS _ _ (by rfl) _ _ (by rfl) (agOf (by rfl)) (by first | exact Has.z | exact Has.s Has.z | exact Has.s (Has.s Has.z) | exact Has.s (Has.s (Has.s Has.z)) | exact Has.s (Has.s (Has.s (Has.s Has.z))) | exact Has.s (Has.s (Has.s (Has.s (Has.s Has.z))))) (by rfl) ?_)
  have H0 := Lib.hid hS
  go_loopw [7] (fun v wz => ∃ i : Nat, v = .int .i64 i ∧ i ≤ G.E.length ∧ (G.E.take i).any (hasP a b) = false ∧ w = wz) (fun v _ => G.E.length - (intOf v).toNat)
  case atStart => exact ⟨0, rfl, by omega, rfl, rfl⟩
  case round =>
    obtain ⟨i, rfl, hi, hno, rfl⟩ := hrel
    have HNO := Lib.hid hno
    clear H0 hno
    by_cases hl : i < G.E.length
    · have k1 : (i : Int) < (G.E.length : Int) := by omega
      obtain ⟨⟨x, y⟩, hx⟩ : ∃ e, G.E[i]? = some e := ⟨_, List.getElem?_eq_getElem hl⟩
      have HX := Lib.hid hx
      have HL := Lib.hid hl
      obtain ⟨be, oe, c', hv, _⟩ := hS.tbAddr (k := 2) rfl (by omega)
      simp only [Value.slice.injEq, true_and] at hv
      obtain ⟨rfl, rfl⟩ := hv
      clear hx hl
      by_cases hxa : (x : Int) = a
      · have HXA := Lib.hid hxa
        have f1 : ((x : Int) == a) = true := by rw [hxa]; simp
        have f1d : decide ((x : Int) = a) = true := decide_eq_true hxa
        by_cases hyb : (y : Int) = b
        · have HYB := Lib.hid hyb
          have f2 : ((y : Int) == b) = true := by rw [hyb]; simp
          have f2d : decide ((y : Int) = b) = true := decide_eq_true hyb
          obtain rfl : r = true := by rw [← HR.out]; exact any_split HX.out HNO.out (by unfold hasP; rw [f1d, f2d]; rfl)
          go_wp2_with (first
            | (refine toList (by rfl) ?_; refine ld hS _ _ (by rfl) _ _ (by rfl) (agOf (by rfl)) (by first | exact Has.z | exact Has.s Has.z | exact Has.s (Has.s Has.z) | exact Has.s (Has.s (Has.s Has.z)) | exact Has.s (Has.s (Has.s (Has.s Has.z))) | exact Has.s (Has.s (Has.s (Has.s (Has.s Has.z))))) (by rfl) ?_)
            | (refine toList (by rfl) ?_; refine ldTb hS _ _ (by rfl) _ _ (by rfl) (agOf (by rfl)) (Has.s (Has.s Has.z)) i 0 (by omega) HX.out (by rfl) ?_)
            | (refine toList (by rfl) ?_; refine ldTb hS _ _ (by rfl) _ _ (by rfl) (agOf (by rfl)) (Has.s (Has.s Has.z)) i 1 (by omega) HX.out (by rfl) ?_))
          go_ret
          exact ⟨rfl, rfl⟩
        · have f2 : ((y : Int) == b) = false := beq_eq_false_iff_ne.2 hyb
          have f2d : decide ((y : Int) = b) = false := decide_eq_false hyb
          go_wp2_with (first
            | (refine toList (by rfl) ?_; refine ld hS _ _ (by rfl) _ _ (by rfl) (agOf (by rfl)) (by first | exact Has.z | exact Has.s Has.z | exact Has.s (Has.s Has.z) | exact Has.s (Has.s (Has.s Has.z)) | exact Has.s (Has.s (Has.s (Has.s Has.z))) | exact Has.s (Has.s (Has.s (Has.s (Has.s Has.z))))) (by rfl) ?_)
            | (refine toList (by rfl) ?_; refine ldTb hS _ _ (by rfl) _ _ (by rfl) (agOf (by rfl)) (Has.s (Has.s Has.z)) i 0 (by omega) HX.out (by rfl) ?_)
            | (refine toList (by rfl) ?_; refine ldTb hS _ _ (by rfl) _ _ (by rfl) (agOf (by rfl)) (Has.s (Has.s Has.z)) i 1 (by omega) HX.out (by rfl) ?_))
          exact ⟨⟨i + 1, by go_num, HL.out, any_next HX.out HNO.out (by unfold hasP; rw [f1d, f2d]; rfl), trivial⟩, by simp [intOf]; have := HL.out; omega⟩
      · have f1 : ((x : Int) == a) = false := beq_eq_false_iff_ne.2 hxa
        have f1d : decide ((x : Int) = a) = false := decide_eq_false hxa
        go_wp2_with (first
          | (refine toList (by rfl) ?_; refine ld hS _ _ (by rfl) _ _ (by rfl) (agOf (by rfl)) (by first | exact Has.z | exact Has.s Has.z | exact Has.s (Has.s Has.z) | exact Has.s (Has.s (Has.s Has.z)) | exact Has.s (Has.s (Has.s (Has.s Has.z))) | exact Has.s (Has.s (Has.s (Has.s (Has.s Has.z))))) (by rfl) ?_)
          | (refine toList (by rfl) ?_; refine ldTb hS _ _ (by rfl) _ _ (by rfl) (agOf (by rfl)) (Has.s (Has.s Has.z)) i 0 (by omega) HX.out (by rfl) ?_)
          | (refine toList (by rfl) ?_; refine ldTb hS _ _ (by rfl) _ _ (by rfl) (agOf (by rfl)) (Has.s (Has.s Has.z)) i 1 (by omega) HX.out (by rfl) ?_))
        exact ⟨⟨i + 1, by go_num, HL.out, any_next HX.out HNO.out (by unfold hasP; rw [f1d]; rfl), trivial⟩, by simp [intOf]; have := HL.out; omega⟩
    · have k1 : decide ((i : Int) < (G.E.length : Int)) = false := decide_eq_false (by omega)
      have k2 : ¬ (i : Int) < (G.E.length : Int) := by omega
      obtain rfl : r = false := by rw [← HR.out, ← HNO.out, List.take_of_length_le (by omega)]
      clear hl
      go_wp2_with (refine toList (by rfl) ?_; refine ld hS _ _ (by rfl) _ _ (by rfl) (agOf (by rfl)) (by first | exact Has.z | exact Has.s Has.z | exact Has.s (Has.s Has.z) | exact Has.s (Has.s (Has.s Has.z)) | exact Has.s (Has.s (Has.s (Has.s Has.z))) | exact Has.s (Has.s (Has.s (Has.s (Has.s Has.z))))) (by rfl) ?_)
      go_ret
      exact ⟨rfl, rfl⟩
def cntT (G : Gr) (k o : Int) (i : Nat) : Nat := ((G.N.take i).filter (Gr.same k o)).length
theorem cntT_next {G : Gr} {k o : Int} {i : Nat} {x : NodeD} (hx : G.N[i]? = some x) : cntT G k o (i + 1) = cntT G k o i + if Gr.same k o x then 1 else 0 := by
  unfold cntT
  rw [List.take_add_one, hx, List.filter_append, List.length_append]
  congr 1
  cases h : Gr.same k o x with
  | true => simp [h]
  | false => simp [h]
theorem cntT_le (G : Gr) (k o : Int) (i : Nat) : cntT G k o i ≤ i := by
  unfold cntT
  have := List.length_filter_le (Gr.same k o) (G.N.take i)
  have := List.length_take_le i G.N
  omega
theorem cntT_all (G : Gr) (k o : Int) {i : Nat} (h : G.N.length ≤ i) : cntT G k o i = G.count k o := by unfold cntT Gr.count; rw [List.take_of_length_le h]
theorem nv6 (a b c d e : Int) (o : Bool) : (.agg #[.int .i64 a, .int .i64 b, .int .i64 c, .int .i64 d, .int .i64 e, .bool o] : Value) = .agg [.int .i64 a, .int .i64 b, .int .i64 c, .int .i64 d, .int .i64 e, .bool o].toArray := rfl
set_option maxRecDepth 20000 in
set_option maxHeartbeats 2000000 in
theorem radd_any {W w : World} {L : List Asrt} {p : Nat} {G : Gr} (hS : Sat W w (IsR p G :: L)) (hG : G.Ok) (k o : Int) :
    Calls Try.prog 52 #[.pointer (some ⟨p, 0, none⟩), .int .i64 k, .int .i64 o] w fun e w' => e = .returned (.tuple #[.int .i64 (G.addI k o), .int .i64 (G.addE k o)]) ∧ Sat W w' (IsR p (G.addG k o) :: L) := by
  by_cases h1 : k < 1
  · have HF := Lib.hid (newOk_no (k := k) (o := o) (by omega))
    unfold Gr.addI Gr.addE Gr.addG Gr.addOk
    rw [HF.out]
    go_enter Try.func52, Try.ntmps52
    go_wp2
    go_ret2
    exact ⟨rfl, hS⟩
  have e1 : decide (k < 1) = false := decide_eq_false h1
  by_cases h2 : 5 < k
  · have e2 : decide (5 < k) = true := decide_eq_true h2
    have HF := Lib.hid (newOk_no (k := k) (o := o) (by omega))
    unfold Gr.addI Gr.addE Gr.addG Gr.addOk
    rw [HF.out]
    go_enter Try.func52, Try.ntmps52
    go_wp2
    go_ret2
    exact ⟨rfl, hS⟩
  have e2 : decide (5 < k) = false := decide_eq_false h2
  by_cases h3 : o < 1
  · have e3 : decide (o < 1) = true := decide_eq_true h3
    have HF := Lib.hid (newOk_no (k := k) (o := o) (by omega))
    unfold Gr.addI Gr.addE Gr.addG Gr.addOk
    rw [HF.out]
    go_enter Try.func52, Try.ntmps52
    go_wp2
    go_ret2
    exact ⟨rfl, hS⟩
  have e3 : decide (o < 1) = false := decide_eq_false h3
  by_cases h4 : 16777215 < o
  · have e4 : decide (16777215 < o) = true := decide_eq_true h4
    have HF := Lib.hid (newOk_no (k := k) (o := o) (by omega))
    unfold Gr.addI Gr.addE Gr.addG Gr.addOk
    rw [HF.out]
    go_enter Try.func52, Try.ntmps52
    go_wp2
    go_ret2
    exact ⟨rfl, hS⟩
  have e4 : decide (16777215 < o) = false := decide_eq_false h4
  have hnew := newOk_yes (k := k) (o := o) (by omega) (by omega) (by omega) (by omega)
  obtain ⟨an, cn, ae, ce, hcn, hce, hO⟩ := IsR.open hS
  by_cases h5 : 4096 ≤ G.N.length
  · have e5 : 4096 ≤ (G.N.length : Int) := by omega
    unfold Gr.addI Gr.addE Gr.addG Gr.addOk
    rw [hnew, decide_eq_false (by omega), if_neg (by decide), if_pos rfl, if_neg (by omega), if_neg (by decide)]
    clear hnew h5
    go_enter Try.func52, Try.ntmps52
    go_wp2_with (refine toList (by rfl) ?_; refine ld hO _ _ (by rfl) _ _ (by rfl) (agOf (by rfl)) (by first | exact Has.z | exact Has.s Has.z | exact Has.s (Has.s Has.z) | exact Has.s (Has.s (Has.s Has.z)) | exact Has.s (Has.s (Has.s (Has.s Has.z))) | exact Has.s (Has.s (Has.s (Has.s (Has.s Has.z))))) (by rfl) ?_)
    go_ret2
    exact ⟨rfl, hS⟩
  have e5 : ¬ 4096 ≤ (G.N.length : Int) := by omega
  have e5b : decide (4096 ≤ (G.N.length : Int)) = false := decide_eq_false e5
  have e5c : (G.N.length : Int) < 4096 := by omega
  have hadd : G.addOk k o = true := by unfold Gr.addOk; rw [hnew, decide_eq_true (by omega)]; rfl
  unfold Gr.addI Gr.addE Gr.addG
  rw [hadd, if_pos rfl, if_pos rfl, hnew, if_pos rfl, if_pos (by omega)]
  clear hnew hadd hS
  have hS := hO
  clear hO
  have HLN := Lib.hid (show G.N.length < 4096 by omega)
  clear h5
  go_enter Try.func52, Try.ntmps52
  go_wp2_with (refine toList (by rfl) ?_; refine ld hS _ _ (by rfl) _ _ (by rfl) (agOf (by rfl)) (by first | exact Has.z | exact Has.s Has.z | exact Has.s (Has.s Has.z) | exact Has.s (Has.s (Has.s Has.z)) | exact Has.s (Has.s (Has.s (Has.s Has.z))) | exact Has.s (Has.s (Has.s (Has.s (Has.s Has.z))))) (by rfl) ?_)
  have H0 := Lib.hid hS
  go_loopw [8, 9] (fun v8 v9 wz => ∃ i : Nat, v9 = .int .i64 i ∧ i ≤ G.N.length ∧ v8 = .int .i64 (1 + (cntT G k o i : Int)) ∧ w = wz) (fun _ v9 _ => G.N.length - (intOf v9).toNat)
  case atStart => exact ⟨0, rfl, by omega, rfl, rfl⟩
  case round =>
    obtain ⟨i, rfl, hi, rfl, rfl⟩ := hrel
    clear H0
    obtain ⟨q, hq⟩ : ∃ q, cntT G k o i = q := ⟨_, rfl⟩
    have hqi : (q : Int) ≤ 4096 := by have := cntT_le G k o i; have := HLN.out; omega
    rw [hq]
    by_cases hl : i < G.N.length
    · have k1 : (i : Int) < (G.N.length : Int) := by omega
      obtain ⟨⟨x1, x2, x3, x4, x5, x6⟩, hx⟩ : ∃ e, G.N[i]? = some e := ⟨_, List.getElem?_eq_getElem hl⟩
      have HX := Lib.hid hx
      have HL := Lib.hid hl
      have HNX := Lib.hid (cntT_next (k := k) (o := o) hx)
      have HQ := Lib.hid hq
      obtain ⟨bn, on, c', hv, _⟩ := hS.tbAddr (k := 1) rfl (by omega)
      simp only [Value.slice.injEq, true_and] at hv
      obtain ⟨rfl, rfl⟩ := hv
      clear hx hl hq
      by_cases hxa : x1 = k
      · have f1 : (x1 == k) = true := by rw [hxa]; simp
        have f1d : decide (x1 = k) = true := decide_eq_true hxa
        by_cases hyb : x2 = o
        · have f2 : (x2 == o) = true := by rw [hyb]; simp
          have f2d : decide (x2 = o) = true := decide_eq_true hyb
          have HS1 := Lib.hid (show Gr.same k o ⟨x1, x2, x3, x4, x5, x6⟩ = true by unfold Gr.same; rw [f1d, f2d]; rfl)
          have HEQ := Lib.hid (show (1 : Int) + (q : Int) + 1 = 1 + (cntT G k o (i + 1) : Int) by rw [HNX.out, HS1.out, HQ.out]; simp; omega)
          go_wp2_with (first
            | (refine toList (by rfl) ?_; refine ld hS _ _ (by rfl) _ _ (by rfl) (agOf (by rfl)) (by first | exact Has.z | exact Has.s Has.z | exact Has.s (Has.s Has.z) | exact Has.s (Has.s (Has.s Has.z)) | exact Has.s (Has.s (Has.s (Has.s Has.z))) | exact Has.s (Has.s (Has.s (Has.s (Has.s Has.z))))) (by rfl) ?_)
            | (refine toList (by rfl) ?_; refine ldTb hS _ _ (by rfl) _ _ (by rfl) (agOf (by rfl)) (Has.s Has.z) i 0 (by omega) HX.out (by rfl) ?_)
            | (refine toList (by rfl) ?_; refine ldTb hS _ _ (by rfl) _ _ (by rfl) (agOf (by rfl)) (Has.s Has.z) i 1 (by omega) HX.out (by rfl) ?_))
          exact ⟨⟨i + 1, by go_num, HL.out, by rw [HEQ.out], trivial⟩, by simp [intOf]; have := HL.out; omega⟩
        · have f2 : (x2 == o) = false := beq_eq_false_iff_ne.2 hyb
          have f2d : decide (x2 = o) = false := decide_eq_false hyb
          have HS1 := Lib.hid (show Gr.same k o ⟨x1, x2, x3, x4, x5, x6⟩ = false by unfold Gr.same; rw [f1d, f2d]; rfl)
          have HEQ := Lib.hid (show (1 : Int) + (q : Int) = 1 + (cntT G k o (i + 1) : Int) by rw [HNX.out, HS1.out, HQ.out]; simp)
          go_wp2_with (first
            | (refine toList (by rfl) ?_; refine ld hS _ _ (by rfl) _ _ (by rfl) (agOf (by rfl)) (by first | exact Has.z | exact Has.s Has.z | exact Has.s (Has.s Has.z) | exact Has.s (Has.s (Has.s Has.z)) | exact Has.s (Has.s (Has.s (Has.s Has.z))) | exact Has.s (Has.s (Has.s (Has.s (Has.s Has.z))))) (by rfl) ?_)
            | (refine toList (by rfl) ?_; refine ldTb hS _ _ (by rfl) _ _ (by rfl) (agOf (by rfl)) (Has.s Has.z) i 0 (by omega) HX.out (by rfl) ?_)
            | (refine toList (by rfl) ?_; refine ldTb hS _ _ (by rfl) _ _ (by rfl) (agOf (by rfl)) (Has.s Has.z) i 1 (by omega) HX.out (by rfl) ?_))
          exact ⟨⟨i + 1, by go_num, HL.out, by rw [HEQ.out], trivial⟩, by simp [intOf]; have := HL.out; omega⟩
      · have f1 : (x1 == k) = false := beq_eq_false_iff_ne.2 hxa
        have f1d : decide (x1 = k) = false := decide_eq_false hxa
        have HS1 := Lib.hid (show Gr.same k o ⟨x1, x2, x3, x4, x5, x6⟩ = false by unfold Gr.same; rw [f1d]; rfl)
        have HEQ := Lib.hid (show (1 : Int) + (q : Int) = 1 + (cntT G k o (i + 1) : Int) by rw [HNX.out, HS1.out, HQ.out]; simp)
        go_wp2_with (first
          | (refine toList (by rfl) ?_; refine ld hS _ _ (by rfl) _ _ (by rfl) (agOf (by rfl)) (by first | exact Has.z | exact Has.s Has.z | exact Has.s (Has.s Has.z) | exact Has.s (Has.s (Has.s Has.z)) | exact Has.s (Has.s (Has.s (Has.s Has.z))) | exact Has.s (Has.s (Has.s (Has.s (Has.s Has.z))))) (by rfl) ?_)
          | (refine toList (by rfl) ?_; refine ldTb hS _ _ (by rfl) _ _ (by rfl) (agOf (by rfl)) (Has.s Has.z) i 0 (by omega) HX.out (by rfl) ?_)
          | (refine toList (by rfl) ?_; refine ldTb hS _ _ (by rfl) _ _ (by rfl) (agOf (by rfl)) (Has.s Has.z) i 1 (by omega) HX.out (by rfl) ?_))
        exact ⟨⟨i + 1, by go_num, HL.out, by rw [HEQ.out], trivial⟩, by simp [intOf]; have := HL.out; omega⟩
    · have k1 : decide ((i : Int) < (G.N.length : Int)) = false := decide_eq_false (by omega)
      have k2 : ¬ (i : Int) < (G.N.length : Int) := by omega
      have HQ := Lib.hid (show q = G.count k o by rw [← hq, cntT_all _ _ _ (by omega)])
      have HNN := Lib.hid (show G.newN k o = ⟨k, o, q + 1, 0, 0, false⟩ by unfold Gr.newN; rw [HQ.out])
      have HQ1 := Lib.hid (show (1 : Int) + (q : Int) = ((q + 1 : Nat) : Int) by omega)
      clear hl hq
      rw [HQ1.out]
      go_wp2_with (first
        | (refine toList (by rfl) ?_; refine ld hS _ _ (by rfl) _ _ (by rfl) (agOf (by rfl)) (by first | exact Has.z | exact Has.s Has.z | exact Has.s (Has.s Has.z) | exact Has.s (Has.s (Has.s Has.z)) | exact Has.s (Has.s (Has.s (Has.s Has.z))) | exact Has.s (Has.s (Has.s (Has.s (Has.s Has.z))))) (by rfl) ?_)
        | (refine toList (by rfl) ?_; refine bsF hS _ _ _ (by rfl) (elOf (by rfl)) [.agg (nv ⟨k, o, q + 1, 0, 0, false⟩).toArray] (by rfl) (by rfl) (by decide) (by decide) (by intro v hv; rw [List.mem_singleton.1 hv]; rfl) ?_; intro b1 w1 hS1; clear hS; have hS := hS1; clear hS1; rw [agg1] at hS)
        | (refine toList (by rfl) ?_; refine apTbS (f := nv) hS _ _ _ _ (by rfl) _ _ (by rfl) (by rfl) (elOf (by rfl)) (by rfl) (by decide) (inOf (by rfl)) (Has.s (Has.s Has.z)) [⟨k, o, q + 1, 0, 0, false⟩] (by exact nv_len _) (by exact hS.src1 (f := nv) Has.z rfl) (by exact nv_one _) (by simp; have := HLN.out; omega) (by simp; have := HLN.out; omega) ?_; intro ao5 c5 w1 hcap5 hS1; clear hS; have hS := hS1; clear hS1; dsimp only [List.set_cons_zero, List.set_cons_succ] at hS)
        | (refine toList (by rfl) ?_; refine st hS _ _ _ (by rfl) _ _ (by rfl) _ (by first | exact evC | exact evT (by rfl)) (by rfl) (szOf (by rfl)) (by first | exact Has.z | exact Has.s Has.z | exact Has.s (Has.s Has.z) | exact Has.s (Has.s (Has.s Has.z)) | exact Has.s (Has.s (Has.s (Has.s Has.z))) | exact Has.s (Has.s (Has.s (Has.s (Has.s Has.z))))) (by exact Nat.le_of_ble_eq_true rfl) ?_; intro w1 hS1; clear hS; have hS := hS1; clear hS1; dsimp only [List.set] at hS))
      go_ret2
      have h2 := hS.drop
      simp only [List.length_append, List.length_singleton] at h2
      have h3 : G.plus k o = ⟨G.N ++ [⟨k, o, q + 1, 0, 0, false⟩], G.E⟩ := by unfold Gr.plus; rw [HNN.out]
      rw [h3]
      exact ⟨by simp, IsR.mk (G := ⟨_, _⟩) h2⟩
end Go.Proofs.Ytapodjhkpahdnaa
