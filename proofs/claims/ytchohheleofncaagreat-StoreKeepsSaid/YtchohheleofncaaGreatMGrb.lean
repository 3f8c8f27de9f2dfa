/-
 Graphs of versions: a node more (plain).
 Package graph: Add. (Printed by tools/gengradd.py.)
-/
import Derived.Test.YtchohheleofncaaGreatMGra
import Derived.Test.YtchohheleofncaaGreatMReg
set_option linter.unusedSimpArgs false
set_option linter.unusedVariables false
namespace Go.Proofs.YtchohheleofncaaGreat
open Go.Sep
def newOk (k o : Int) : Bool := decide (1 ≤ k) && decide (k ≤ 5) && decide (1 ≤ o) && decide (o ≤ 16777215)
theorem newOk_no {k o : Int} (h : k < 1 ∨ 5 < k ∨ o < 1 ∨ 16777215 < o) : newOk k o = false := by
 unfold newOk
 cases h1 : decide (1 ≤ k) <;> cases h2 : decide (k ≤ 5) <;> cases h3 : decide (1 ≤ o) <;> cases h4 : decide (o ≤ 16777215) <;> try rfl
 simp only [decide_eq_true_eq] at h1 h2 h3 h4
 omega
theorem newOk_yes {k o : Int} (h1 : 1 ≤ k) (h2 : k ≤ 5) (h3 : 1 ≤ o) (h4 : o ≤ 16777215) : newOk k o = true := by
 unfold newOk
 rw [decide_eq_true h1, decide_eq_true h2, decide_eq_true h3, decide_eq_true h4]; rfl
def Gr.count (G : Gr) (k o : Int) : Nat := (G.N.filter (Gr.same k o)).length
def Gr.newN (G : Gr) (k o : Int) : NodeD := ⟨k, o, G.count k o + 1, 0, 0, false⟩
def Gr.plus (G : Gr) (k o : Int) : Gr := ⟨G.N ++ [G.newN k o], G.E⟩
def Gr.addOk (G : Gr) (k o : Int) : Bool := newOk k o && decide (G.N.length < 4096)
def Gr.addG (G : Gr) (k o : Int) : Gr := if G.addOk k o then G.plus k o else G
def Gr.addI (G : Gr) (k o : Int) : Int := if G.addOk k o then (G.N.length : Int) else 0
def Gr.addE (G : Gr) (k o : Int) : Int := if newOk k o then (if G.N.length < 4096 then 0 else 5) else 1
theorem lastOf_some {k o : Int} : ∀ {l : List NodeD} {j i : Nat}, Gr.lastOf k o l j = some i → ∃ n x, i = j + n ∧ l[n]? = some x ∧ Gr.same k o x = true ∧ (l.drop (n + 1)).filter (Gr.same k o) = []
 | [], _, _, h => by cases h
 | x :: l, j, i, h => by
  unfold Gr.lastOf at h
  cases h2 : Gr.lastOf k o l (j + 1) with
  | some m =>
   rw [h2] at h
   obtain rfl : m = i := by simpa using h
   obtain ⟨n, y, h3, h4, h5, h6⟩ := lastOf_some h2
   exact ⟨n + 1, y, by omega, h4, h5, h6⟩
  | none =>
   rw [h2] at h
   cases h3 : Gr.same k o x with
   | false => simp [h3] at h
   | true =>
    simp only [h3, if_true, Option.some.injEq] at h
    refine ⟨0, x, by omega, rfl, h3, ?_⟩
    exact lastOf_none h2
where
 lastOf_none {k o : Int} : ∀ {l : List NodeD} {j : Nat}, Gr.lastOf k o l j = none → l.filter (Gr.same k o) = []
 | [], _, _ => rfl
 | x :: l, j, h => by
  unfold Gr.lastOf at h
  cases h2 : Gr.lastOf k o l (j + 1) with
  | some m => rw [h2] at h; cases h
  | none =>
   rw [h2] at h
   cases h3 : Gr.same k o x with
   | true => simp [h3] at h
   | false => rw [List.filter_cons_of_neg (by simp [h3])]; exact lastOf_none h2
theorem Gr.latest_none {G : Gr} {k o : Int} (h : G.latest k o = none) : G.count k o = 0 := by
 unfold Gr.count; rw [lastOf_some.lastOf_none h]; rfl
theorem Gr.latest_some {G : Gr} (hG : G.Ok) {k o : Int} {i : Nat} (h : G.latest k o = some i) : ∃ x, G.N[i]? = some x ∧ x.ver = G.count k o ∧ i < G.N.length := by
 obtain ⟨n, x, h1, h2, h3, h4⟩ := lastOf_some h
 rw [Nat.zero_add] at h1; subst h1
 refine ⟨x, h2, ?_, (List.getElem?_eq_some_iff.1 h2).1⟩
 rw [hG.vers i x h2]
 have hs : x.kind = k ∧ x.obj = o := by simpa [Gr.same] using h3
 rw [hs.1, hs.2]
 unfold Gr.count
 conv => rhs; rw [← List.take_append_drop (i + 1) G.N, List.filter_append, h4, List.append_nil]
theorem Gr.count_le (G : Gr) (k o : Int) : G.count k o ≤ G.N.length := List.length_filter_le _ _
theorem lastOf_snoc (k o : Int) (y : NodeD) : ∀ (l : List NodeD) (j : Nat), Gr.lastOf k o (l ++ [y]) j = if Gr.same k o y then some (j + l.length) else Gr.lastOf k o l j
 | [], j => by simp [Gr.lastOf]
 | x :: l, j => by
  rw [List.cons_append]
  unfold Gr.lastOf
  rw [lastOf_snoc k o y l (j + 1)]
  cases Gr.same k o y with
  | true => simp; omega
  | false => rfl
theorem Gr.plus_lat (G : Gr) (k o : Int) : (G.plus k o).latF = fun q => if q = (k, o) then some (G.N.length + 1) else G.latF q := by
 funext q
 obtain ⟨a, b⟩ := q
 unfold Gr.latF Gr.latest Gr.plus
 rw [lastOf_snoc]
 have e : Gr.same a b (G.newN k o) = decide (k = a ∧ o = b) := by rw [Bool.decide_and]; rfl
 rw [e]
 simp only [Nat.zero_add, Prod.mk.injEq]
 by_cases h : k = a ∧ o = b
 ·rw [if_pos (by simpa using h), if_pos ⟨h.1.symm, h.2.symm⟩]; rfl
 ·rw [if_neg (by simpa using h), if_neg (fun h2 => h ⟨h2.1.symm, h2.2.symm⟩)]
theorem Gr.plus_ups {G : Gr} (hG : G.Ok) (k o : Int) : (G.plus k o).upsL = G.upsL ++ [[]] := by
 have e : ∀ n, (G.plus k o).ups n = G.ups n := fun n => by
  have hl : (n, G.N.length) ∉ G.E := fun h => by have := (hG.low _ h).2; simp at this
  show (List.range (G.N ++ [G.newN k o]).length).filter (fun j => decide ((n, j) ∈ G.E)) = (List.range G.N.length).filter fun j => decide ((n, j) ∈ G.E)
  rw [List.length_append, List.length_singleton, List.range_succ, List.filter_append, List.filter_cons_of_neg (by simpa using hl), List.filter_nil, List.append_nil]
 unfold Gr.upsL
 rw [show (G.plus k o).ups = G.ups from funext e]
 rw [show (G.plus k o).N.length = G.N.length + 1 by simp [Gr.plus], List.range_succ, List.map_append]
 congr 1
 simp only [List.map_cons, List.map_nil, Gr.ups]
 congr 1
 apply List.filter_eq_nil_iff.2
 intro m _ h
 have := (hG.low _ (of_decide_eq_true h)).1
 simp at this
theorem Gr.plus_downs {G : Gr} (hG : G.Ok) (k o : Int) : (G.plus k o).downsL = G.downsL ++ [[]] := by
 have e : ∀ n, (G.plus k o).downs n = G.downs n := fun n => by
  have hl : (G.N.length, n) ∉ G.E := fun h => by have := (hG.low _ h).1; simp at this
  show (List.range (G.N ++ [G.newN k o]).length).filter (fun j => decide ((j, n) ∈ G.E)) = (List.range G.N.length).filter fun j => decide ((j, n) ∈ G.E)
  rw [List.length_append, List.length_singleton, List.range_succ, List.filter_append, List.filter_cons_of_neg (by simpa using hl), List.filter_nil, List.append_nil]
 unfold Gr.downsL
 rw [show (G.plus k o).downs = G.downs from funext e]
 rw [show (G.plus k o).N.length = G.N.length + 1 by simp [Gr.plus], List.range_succ, List.map_append]
 congr 1
 simp only [List.map_cons, List.map_nil, Gr.downs]
 congr 1
 apply List.filter_eq_nil_iff.2
 intro m _ h
 have := (hG.low _ (of_decide_eq_true h)).2
 simp at this
theorem Gr.plus_ok {G : Gr} (hG : G.Ok) {k o : Int} (h : G.N.length < 4096) : (G.plus k o).Ok where
 len := by simp [Gr.plus]; omega
 low := fun e he => by have := hG.low e he; simp [Gr.plus]; omega
 edges := hG.edges
 one := hG.one
 marks := fun x hx => by
  simp only [Gr.plus, List.mem_append, List.mem_singleton] at hx
  rcases hx with hx | rfl
  ·exact hG.marks x hx
  ·exact ⟨show 0 < 256 by decide, show 0 < 256 by decide⟩
 vers := fun i x hx => by
  simp only [Gr.plus] at hx ⊢
  rcases Nat.lt_trichotomy i G.N.length with hi | hi | hi
  ·rw [List.getElem?_append_left hi] at hx
   rw [List.take_append_of_le_length (by omega)]
   exact hG.vers i x hx
  ·subst hi
   rw [List.getElem?_append_right (Nat.le_refl _), Nat.sub_self] at hx
   obtain rfl : G.newN k o = x := by simpa using hx
   rw [List.take_of_length_le (by simp), List.filter_append]
   simp [Gr.newN, Gr.same, Gr.count]
  ·rw [List.getElem?_eq_none (by simp; omega)] at hx; cases hx
theorem Gr.addG_ok {G : Gr} (hG : G.Ok) (k o : Int) : (G.addG k o).Ok := by
 unfold Gr.addG
 split
 ·rename_i h
  simp only [Gr.addOk, Bool.and_eq_true, decide_eq_true_eq] at h
  exact plus_ok hG h.2
 ·exact hG
theorem Gr.new_ok : Gr.new.Ok where
 len := by simp [Gr.new]
 low := by simp [Gr.new]
 edges := by simp [Gr.new]
 one := by simp [Gr.new]
 marks := by simp [Gr.new]
 vers := by simp [Gr.new]
theorem Gr.withN_ok {G : Gr} (hG : G.Ok) {N : List NodeD} (hN : N.map (fun x => (x.kind, x.obj)) = G.N.map (fun x => (x.kind, x.obj))) (hv : N.map NodeD.ver = G.N.map NodeD.ver) (hm : ∀ x ∈ N, x.mark < 256 ∧ x.clear < 256) : (G.withN N).Ok where
 len := by have := congrArg List.length hN; simp at this; simp only [Gr.withN]; rw [this]; exact hG.len
 low := by have := congrArg List.length hN; simp at this; simp only [Gr.withN]; rw [this]; exact hG.low
 edges := hG.edges
 one := hG.one
 marks := hm
 vers := fun i x hx => by
  simp only [Gr.withN] at hx ⊢
  have h1 : (N.map (fun x => (x.kind, x.obj)))[i]? = some (x.kind, x.obj) := by simp [hx]
  have h2 : (N.map NodeD.ver)[i]? = some x.ver := by simp [hx]
  rw [hN] at h1; rw [hv] at h2
  simp only [List.getElem?_map, Option.map_eq_some_iff] at h1 h2
  obtain ⟨y, hy, hy2⟩ := h1
  obtain ⟨y', hy', hy3⟩ := h2
  rw [hy] at hy'; cases hy'
  simp only [Prod.mk.injEq] at hy2
  have := hG.vers i y hy
  rw [hy3, hy2.1, hy2.2] at this
  rw [this]
  have hf : ∀ l : List NodeD, (l.filter (Gr.same x.kind x.obj)).length = ((l.map (fun x => (x.kind, x.obj))).filter (fun p => decide (p.1 = x.kind) && decide (p.2 = x.obj))).length := fun l => by
   rw [List.filter_map, List.length_map]; rfl
  rw [hf, hf, List.map_take, List.map_take, hN]
theorem or_256 {a t : Nat} (ha : a < 256) (ht : t < 8) : a ||| 2 ^ t < 256 := by
 have h2 : 2 ^ t < 2 ^ 8 := Nat.pow_lt_pow_right (by decide) ht
 exact Nat.or_lt_two_pow (n := 8) ha h2
theorem map_set_ver {N : List NodeD} {i : Nat} {x y : NodeD} (hx : N[i]? = some x) (hk : y.ver = x.ver) : (N.set i y).map NodeD.ver = N.map NodeD.ver := by
 apply List.ext_getElem?
 intro j
 simp only [List.getElem?_map, List.getElem?_set]
 by_cases h : i = j
 ·subst h
  have := (List.getElem?_eq_some_iff.1 hx).1
  rw [if_pos rfl, if_pos this, hx]
  simp [hk]
 ·simp [h]
theorem bitOk_is {G : Gr} {n s : Int} (h : bitOk G n s = true) : G.is n = true ∧ s.toNat < 8 := by
 simp only [bitOk, Bool.and_eq_true, decide_eq_true_eq] at h
 exact ⟨h.1.1, by omega⟩
theorem Gr.markG_ok {G : Gr} (hG : G.Ok) (n s : Int) : (G.markG n s).Ok := by
 unfold Gr.markG
 split
 ·rename_i h
  obtain ⟨h1, h2⟩ := bitOk_is h
  obtain ⟨k, rfl, hk⟩ := Gr.is_nat h1
  have hx := List.getElem?_eq_getElem hk
  rw [Gr.nodeI_at hx, Int.toNat_natCast]
  refine withN_ok hG (map_set_same hx rfl rfl) (map_set_ver hx rfl) fun y hy => ?_
  rcases List.mem_or_eq_of_mem_set hy with hy | rfl
  ·exact hG.marks y hy
  ·have := hG.marks _ (List.mem_of_getElem? hx)
   exact ⟨or_256 this.1 h2, this.2⟩
 ·exact hG
theorem Gr.clearG_ok {G : Gr} (hG : G.Ok) (n s : Int) : (G.clearG n s).Ok := by
 unfold Gr.clearG
 split
 ·rename_i h
  obtain ⟨h1, h2⟩ := bitOk_is h
  obtain ⟨k, rfl, hk⟩ := Gr.is_nat h1
  have hx := List.getElem?_eq_getElem hk
  rw [Gr.nodeI_at hx, Int.toNat_natCast]
  refine withN_ok hG (map_set_same hx rfl rfl) (map_set_ver hx rfl) fun y hy => ?_
  rcases List.mem_or_eq_of_mem_set hy with hy | rfl
  ·exact hG.marks y hy
  ·have := hG.marks _ (List.mem_of_getElem? hx)
   exact ⟨this.1, or_256 this.2 h2⟩
 ·exact hG
theorem Gr.lostG_ok {G : Gr} (hG : G.Ok) (a b : Int) : (G.lostG a b).Ok := by
 unfold Gr.lostG
 split
 ·refine withN_ok hG (orphN_same _ _ _) ?_ fun y hy => ?_
  ·apply List.ext_getElem?
   intro i
   rw [List.getElem?_map, orphN_at, List.getElem?_map]
   cases G.N[i]? with
   | none => rfl
   | some y => simp only [Option.map_some]; split <;> rfl
  ·obtain ⟨i, hi⟩ := List.mem_iff_getElem?.1 hy
   rw [orphN_at] at hi
   obtain ⟨x, hx, rfl⟩ := Option.map_eq_some_iff.1 hi
   have := hG.marks x (List.mem_of_getElem? hx)
   split <;> exact this
 ·exact hG

end Go.Proofs.YtchohheleofncaaGreat
namespace Go.Proofs.YtchohheleofncaaGreat
open Go.RowKit Go.Sep
attribute [local irreducible] Go.Oper.wp Go.wpList Go.Calls Go.Code.wp Go.Sep.Reg
attribute [local irreducible] IsG
theorem IsG.plus {W w : World} {L : List Asrt} {p : Nat} {G : Gr} (hG : G.Ok) {k o : Int} {vn vu vd : Value} {vsu vsd : List Value} {me ml : Nat} (hu : vsu.length = G.upsL.length) (hd : vsd.length = G.downsL.length)
  (h : Sat W w (Cs p 207 [vn, vu, vd, .map (some me), .map (some ml)] :: Tb 220 6 nv vn (G.N ++ [G.newN k o]) :: Tb 22 1 one1 vu (vsu ++ [.slice none 0 0]) :: St (List.zipWith Irn vsu G.upsL) ::
   Tb 22 1 one1 vd (vsd ++ [.slice none 0 0]) :: St (List.zipWith Irn vsd G.downsL) :: Mp ek bw me G.edgesF :: Mp ek nw ml (fun q => if q = (k, o) then some (G.N.length + 1) else G.latF q) :: L)) : Sat W w (IsG p (G.plus k o) :: L) := by
 refine IsG.mk (vn := vn) (vu := vu) (vd := vd) (me := me) (ml := ml) ?_
 rw [Gr.plus_ups hG, Gr.plus_downs hG, Gr.plus_lat]
 rw [tb_E 22 0, tb_E 22 0] at h
 have h2 := irnNil (h.re [3, 2])
 have h3 := Sat.stSnoc (h2.re [0, 1])
 rw [← zipWith_snoc Irn hu] at h3
 have h4 := irnNil (h3.re [5, 4])
 have h5 := Sat.stSnoc (h4.re [0, 1])
 rw [← zipWith_snoc Irn hd] at h5
 have h6 := Sat.rwsMk (by simp [hd]) (h5.re [1, 0])
 have h7 := Sat.rwsMk (by simp [hu]) (h6.re [2, 1])
 exact h7.re [2, 3, 0, 1]
theorem IsG.openAll {W w : World} {L : List Asrt} {p : Nat} {G : Gr} (h : Sat W w (IsG p G :: L)) : ∃ vn vu vd vsu vsd me ml, vsu.length = G.upsL.length ∧ vsd.length = G.downsL.length ∧
  Sat W w (Cs p 207 [vn, vu, vd, .map (some me), .map (some ml)] :: Tb 220 6 nv vn G.N :: Tb 22 1 one1 vu vsu :: St (List.zipWith Irn vsu G.upsL) ::
   Tb 22 1 one1 vd vsd :: St (List.zipWith Irn vsd G.downsL) :: Mp ek bw me G.edgesF :: Mp ek nw ml G.latF :: L) := by
 obtain ⟨vn, vu, vd, me, ml, hO⟩ := IsG.open h
 obtain ⟨vsu, hu, h2⟩ := (hO.re [2]).rwsOpen
 obtain ⟨vsd, hd, h3⟩ := (h2.re [4]).rwsOpen
 rw [tb_E 0 22, tb_E 0 22] at h3
 exact ⟨vn, vu, vd, vsu, vsd, me, ml, hu, hd, h3.re [4, 5, 2, 3, 0, 1]⟩
theorem one1_src (v : Value) : ∀ u ∈ [v].flatMap one1, u = v := by intro u hu; simpa [one1] using hu
set_option maxRecDepth 20000 in
set_option maxHeartbeats 4000000 in
theorem add_any {W w : World} {L : List Asrt} {p : Nat} {G : Gr} (hS : Sat W w (IsG p G :: L)) (hG : G.Ok) (k o : Int) :
  Calls Tryz.prog 126 #[.pointer (some ⟨p, 0, none⟩), .int .i64 k, .int .i64 o] w fun e w' => e = .returned (.tuple #[.int .i64 (G.addI k o), .int .i64 (G.addE k o)]) ∧ Sat W w' (IsG p (G.addG k o) :: L) := by
 by_cases h1 : k < 1
 ·skip
  have HF := Lib.hid (newOk_no (k := k) (o := o) (by omega))
  unfold Gr.addI Gr.addE Gr.addG Gr.addOk
  rw [HF.out]
  go_enter Tryz.func126, Tryz.ntmps126
  go_wp2
  go_ret2
  exact ⟨rfl, hS⟩
 have e1 : decide (k < 1) = false := decide_eq_false h1
 by_cases h2 : 5 < k
 ·have e2 : decide (5 < k) = true := decide_eq_true h2
  have HF := Lib.hid (newOk_no (k := k) (o := o) (by omega))
  unfold Gr.addI Gr.addE Gr.addG Gr.addOk
  rw [HF.out]
  go_enter Tryz.func126, Tryz.ntmps126
  go_wp2
  go_ret2
  exact ⟨rfl, hS⟩
 have e2 : decide (5 < k) = false := decide_eq_false h2
 by_cases h3 : o < 1
 ·have e3 : decide (o < 1) = true := decide_eq_true h3
  have HF := Lib.hid (newOk_no (k := k) (o := o) (by omega))
  unfold Gr.addI Gr.addE Gr.addG Gr.addOk
  rw [HF.out]
  go_enter Tryz.func126, Tryz.ntmps126
  go_wp2
  go_ret2
  exact ⟨rfl, hS⟩
 have e3 : decide (o < 1) = false := decide_eq_false h3
 by_cases h4 : 16777215 < o
 ·have e4 : decide (16777215 < o) = true := decide_eq_true h4
  have HF := Lib.hid (newOk_no (k := k) (o := o) (by omega))
  unfold Gr.addI Gr.addE Gr.addG Gr.addOk
  rw [HF.out]
  go_enter Tryz.func126, Tryz.ntmps126
  go_wp2
  go_ret2
  exact ⟨rfl, hS⟩
 have e4 : decide (16777215 < o) = false := decide_eq_false h4
 have HK := Lib.hid (newOk_yes (k := k) (o := o) (by omega) (by omega) (by omega) (by omega))
 clear h1 h2 h3 h4
 obtain ⟨vn, vu, vd, vsu, vsd, me, ml, hu, hd, hO⟩ := IsG.openAll hS
 obtain ⟨aon, cn, rfl, _⟩ := hO.tbShape (k := 1) rfl
 obtain ⟨aou, cu, rfl, _⟩ := hO.tbShape (k := 2) rfl
 obtain ⟨aod, cd, rfl, _⟩ := hO.tbShape (k := 4) rfl
 by_cases h5 : 4096 ≤ G.N.length
 ·have f1 : decide (4096 ≤ G.N.length) = true := decide_eq_true h5
  have f2 : decide (4096 ≤ (G.N.length : Int)) = true := decide_eq_true (by omega)
  have HF := Lib.hid (show G.addOk k o = false by unfold Gr.addOk; rw [HK.out, decide_eq_false (by omega)]; rfl)
  have HF2 := Lib.hid (show ¬ G.N.length < 4096 by omega)
  unfold Gr.addI Gr.addE Gr.addG
  rw [HF.out, HK.out]
  go_enter Tryz.func126, Tryz.ntmps126
  go_wp2_with (refine toList (by rfl) ?_; refine ld hO _ _ (by rfl) _ _ (by rfl) (agOf (by rfl)) Has.z (by rfl) ?_)
  go_ret2
  exact ⟨rfl, hS⟩
 have f1 : decide (4096 ≤ G.N.length) = false := decide_eq_false h5
 have f2 : decide (4096 ≤ (G.N.length : Int)) = false := decide_eq_false (by omega)
 have HF := Lib.hid (show G.addOk k o = true by unfold Gr.addOk; rw [HK.out, decide_eq_true (by omega)]; rfl)
 have HL := Lib.hid (show G.N.length < 4096 by omega)
 have i1 : (G.N.length : Int) < 4096 := by omega
 have HU := Lib.hid hu
 have HD := Lib.hid hd
 have HU2 := Lib.hid (show vsu.length < 4096 by rw [hu, Gr.upsL_len]; omega)
 have HD2 := Lib.hid (show vsd.length < 4096 by rw [hd, Gr.downsL_len]; omega)
 clear h5 hu hd hS
 have hS := hO
 clear hO
 unfold Gr.addI Gr.addE Gr.addG
 rw [HF.out, HK.out, if_pos rfl, if_pos rfl, if_pos rfl, if_pos HL.out]
 cases hl : G.latest k o with
 | none =>
  have HV := Lib.hid (show mpVal nw (.int .i64 0) (G.latF (k, o)) = .int .i64 0 by unfold Gr.latF; rw [hl]; rfl)
  have HN := Lib.hid (show G.newN k o = ⟨k, o, 1, 0, 0, false⟩ by unfold Gr.newN; rw [Gr.latest_none hl])
  clear hl
  go_enter Tryz.func126, Tryz.ntmps126
  go_wp2_with (first
  | (refine toList (by rfl) ?_; refine ld hS _ _ (by rfl) _ _ (by rfl) (agOf (by rfl)) (by repeat first | exact Has.z | apply Has.s) (by rfl) ?_)
  | (refine toList (by rfl) ?_; refine al hS _ (by rfl) (zrOf (by rfl)) ?_; clear hS; intro px w1 hS; rw [cells_agg] at hS)
  | (refine toList (by rfl) ?_; refine stW hS _ _ _ (by rfl) (by rfl) (nv ⟨k, o, 1, 0, 0, false⟩) (by rfl) (by exact nv_all _) (szOf (by rfl)) Has.z rfl ?_; clear hS; intro w1 hS; dsimp only [List.set_cons_zero] at hS)
  | (refine toList (by rfl) ?_; refine wp_of_reads (rLkp hS _ _ _ false (by rfl) (by rfl) (k, o) (by rfl) map_lat key_obj (zrOf (by rfl)) (Has.s (Has.s (Has.s (Has.s (Has.s (Has.s (Has.s (Has.s Has.z))))))))) ?_; rw [if_neg (by decide), HV.out]))
  refine regStart2 [24, 27, 30] hS (fun _ h => h.take2) (by kernel_rfl) rfl ?_
  intro w1 hS1
  clear hS; have hS := hS1; clear hS1
  (refine rgP 0 hS (fun _ h => h.take2) ?_; go_frame)
  (refine rgP 1 hS (fun _ h => h.take2) ?_; go_frame)
  (refine rgP 2 hS (fun _ h => h.take2) ?_; go_frame)
  (refine rgP 3 hS (fun _ h => h.take2) ?_; go_frame)
  (refine rgP 4 hS (fun _ h => h.take2) ?_; go_frame)
  (refine rgP 5 hS (fun _ h => h.take2) ?_; go_frame)
  (refine rgR 6 hS (fun _ h => h.take2) ?_; (first
       | refine ⟨_, yLd _ _ (by rfl) _ _ (by rfl) (agOf (by rfl)) (by repeat first | exact Has.z | apply Has.s) (by rfl), ?_⟩
       | refine ⟨_, yLdA _ _ (by rfl) _ _ (by rfl) (agOf (by rfl)) (szOf (by rfl)) (by repeat first | exact Has.z | apply Has.s) (vs := nv (⟨k, o, 1, 0, 0, false⟩ : NodeD)) (by rfl) (by rfl), ?_⟩); go_frame)
  (refine rgR 7 hS (fun _ h => h.take2) ?_; (first
       | refine ⟨_, yLd _ _ (by rfl) _ _ (by rfl) (agOf (by rfl)) (by repeat first | exact Has.z | apply Has.s) (by rfl), ?_⟩
       | refine ⟨_, yLdA _ _ (by rfl) _ _ (by rfl) (agOf (by rfl)) (szOf (by rfl)) (by repeat first | exact Has.z | apply Has.s) (vs := nv (⟨k, o, 1, 0, 0, false⟩ : NodeD)) (by rfl) (by rfl), ?_⟩); go_frame)
  (refine rgP 10 hS (fun _ h => h.take2) ?_; go_frame)
  (refine rgP 11 hS (fun _ h => h.take2) ?_; go_frame)
  (refine rgP 12 hS (fun _ h => h.take2) ?_; go_frame)
  (refine rgR 13 hS (fun _ h => h.take2) ?_; (first
       | refine ⟨_, yLd _ _ (by rfl) _ _ (by rfl) (agOf (by rfl)) (by repeat first | exact Has.z | apply Has.s) (by rfl), ?_⟩
       | refine ⟨_, yLdA _ _ (by rfl) _ _ (by rfl) (agOf (by rfl)) (szOf (by rfl)) (by repeat first | exact Has.z | apply Has.s) (vs := nv (⟨k, o, 1, 0, 0, false⟩ : NodeD)) (by rfl) (by rfl), ?_⟩); go_frame)
  (refine rgP 16 hS (fun _ h => h.take2) ?_; go_frame)
  (refine rgP 17 hS (fun _ h => h.take2) ?_; go_frame)
  (refine rgP 18 hS (fun _ h => h.take2) ?_; go_frame)
  (refine rgR 19 hS (fun _ h => h.take2) ?_; (first
       | refine ⟨_, yLd _ _ (by rfl) _ _ (by rfl) (agOf (by rfl)) (by repeat first | exact Has.z | apply Has.s) (by rfl), ?_⟩
       | refine ⟨_, yLdA _ _ (by rfl) _ _ (by rfl) (agOf (by rfl)) (szOf (by rfl)) (by repeat first | exact Has.z | apply Has.s) (vs := nv (⟨k, o, 1, 0, 0, false⟩ : NodeD)) (by rfl) (by rfl), ?_⟩); go_frame)
  revert hS
  apply regJoin (fun (b8 b14 b20 : Nat) (v63 v69 v75 : Value) w' => Sat W w' (Cs px 220 (nv (⟨k, o, 1, 0, 0, false⟩ : NodeD)) :: Cs p 207 [.slice aon G.N.length cn, .slice aou vsu.length cu, .slice aod vsd.length cd, .map (some me), .map (some ml)] :: Tb 220 6 nv v63 (G.N ++ [(⟨k, o, 1, 0, 0, false⟩ : NodeD)]) :: Tb 22 1 one1 v69 (vsu ++ [.slice none 0 0]) :: St (List.zipWith Irn vsu G.upsL) :: Tb 22 1 one1 v75 (vsd ++ [.slice none 0 0]) :: St (List.zipWith Irn vsd G.downsL) :: Mp ek bw me G.edgesF :: Mp ek nw ml G.latF :: L)) ([Cs px 220 (nv (⟨k, o, 1, 0, 0, false⟩ : NodeD)), Cs p 207 [.slice aon G.N.length cn, .slice aou vsu.length cu, .slice aod vsd.length cd, .map (some me), .map (some ml)]])
  case h1 =>
   intro hJ hS
   refine regM3 8 14 20 rfl rfl rfl (by kernel_rfl) (by rfl) (by rfl) (by rfl) (by rfl) (by rfl) (by rfl) ?_ ?_ ?_
   ·intro K hK; (refine bsF hS _ _ _ (by rfl) (elOf (by rfl)) [.agg (nv (⟨k, o, 1, 0, 0, false⟩ : NodeD)).toArray] (by rfl) (by rfl) (by decide) (by decide) (by intro v hv; rw [List.mem_singleton.1 hv]; rfl) ?_; clear hS; intro b8 w1 hS; rw [agg1] at hS); refine hK _ _ _ (hS.upTo (fun _ h => by first | exact h.take2 | exact h.drop.take2 | exact h.drop.drop.take2 | exact h.drop.drop.drop.take2)) (fun _ h => h) ?_; clear hK K; go_frame
    refine regM3 9 14 20 rfl rfl rfl (by kernel_rfl) (by rfl) (by rfl) (by rfl) (by rfl) (by rfl) (by rfl) ?_ ?_ ?_
    ·intro K hK; (refine apTb (f := nv) hS _ _ _ _ (by rfl) _ _ (by rfl) (by rfl) (elOf (by rfl)) (by rfl) (by decide) (inOf (by rfl)) (by repeat (first | exact Has.z | apply Has.s)) [(⟨k, o, 1, 0, 0, false⟩ : NodeD)] (by intro x hx; rfl) (by exact hS.src1 (f := nv) (x := (⟨k, o, 1, 0, 0, false⟩ : NodeD)) (by repeat (first | exact Has.z | apply Has.s)) rfl) (by exact nv_one _) (by have := HL.out; rw [List.length_singleton]; omega) (by have := HL.out; rw [List.length_singleton]; omega) ?_; clear hS; intro v63 w1 hS; dsimp only [List.set_cons_zero, List.set_cons_succ] at hS); refine hK _ _ _ (hS.upTo (fun _ h => by first | exact h.take2 | exact h.drop.take2 | exact h.drop.drop.take2 | exact h.drop.drop.drop.take2)) (fun _ h => h) ?_; clear hK K; go_frame
     refine regM2 14 20 rfl rfl (by kernel_rfl) (by rfl) (by rfl) (by rfl) (by rfl) ?_ ?_
     ·intro K hK; (refine bsF hS _ _ _ (by rfl) (elOf (by rfl)) [.slice none 0 0] (by rfl) (by rfl) (by decide) (by decide) (by simp [Value.cells]) ?_; clear hS; intro b14 w1 hS; rw [sca1 rfl] at hS); refine hK _ _ _ (hS.upTo (fun _ h => by first | exact h.take2 | exact h.drop.take2 | exact h.drop.drop.take2 | exact h.drop.drop.drop.take2)) (fun _ h => h) ?_; clear hK K; go_frame
      refine regM2 15 20 rfl rfl (by kernel_rfl) (by rfl) (by rfl) (by rfl) (by rfl) ?_ ?_
      ·intro K hK; (refine apTb (f := one1) hS _ _ _ _ (by rfl) _ _ (by rfl) (by rfl) (elOf (by rfl)) (by rfl) (by decide) (inOf (by rfl)) (by repeat (first | exact Has.z | apply Has.s)) [.slice none 0 0] (by intro x hx; rfl) (by exact hS.src1 (f := one1) (x := .slice none 0 0) (by repeat (first | exact Has.z | apply Has.s)) rfl) (by intro u hu; rw [one1_src _ u hu]; rfl) (by have := HU2.out; rw [List.length_singleton]; omega) (by have := HU2.out; rw [List.length_singleton]; omega) ?_; clear hS; intro v69 w1 hS; dsimp only [List.set_cons_zero, List.set_cons_succ] at hS); refine hK _ _ _ (hS.upTo (fun _ h => by first | exact h.take2 | exact h.drop.take2 | exact h.drop.drop.take2 | exact h.drop.drop.drop.take2)) (fun _ h => h) ?_; clear hK K; go_frame
       (refine rgA 20 false fun K hK => ?_; (refine bsF hS _ _ _ (by rfl) (elOf (by rfl)) [.slice none 0 0] (by rfl) (by rfl) (by decide) (by decide) (by simp [Value.cells]) ?_; clear hS; intro b20 w1 hS; rw [sca1 rfl] at hS); refine hK _ _ _ (hS.upTo (fun _ h => by first | exact h.take2 | exact h.drop.take2 | exact h.drop.drop.take2 | exact h.drop.drop.drop.take2)) (fun _ _ h => h) ?_; clear hK K; go_frame)
       (refine rgA 21 false fun K hK => ?_; (refine apTb (f := one1) hS _ _ _ _ (by rfl) _ _ (by rfl) (by rfl) (elOf (by rfl)) (by rfl) (by decide) (inOf (by rfl)) (by repeat (first | exact Has.z | apply Has.s)) [.slice none 0 0] (by intro x hx; rfl) (by exact hS.src1 (f := one1) (x := .slice none 0 0) (by repeat (first | exact Has.z | apply Has.s)) rfl) (by intro u hu; rw [one1_src _ u hu]; rfl) (by have := HD2.out; rw [List.length_singleton]; omega) (by have := HD2.out; rw [List.length_singleton]; omega) ?_; clear hS; intro v75 w1 hS; dsimp only [List.set_cons_zero, List.set_cons_succ] at hS); refine hK _ _ _ (hS.upTo (fun _ h => by first | exact h.take2 | exact h.drop.take2 | exact h.drop.drop.take2 | exact h.drop.drop.drop.take2)) (fun _ _ h => h) ?_; clear hK K; go_frame)
       (refine rgP 22 hS (fun _ h => by first | exact h.take2 | exact h.drop.take2 | exact h.drop.drop.take2 | exact h.drop.drop.drop.take2) ?_; go_frame)
       (refine rgP 23 hS (fun _ h => by first | exact h.take2 | exact h.drop.take2 | exact h.drop.drop.take2 | exact h.drop.drop.drop.take2) ?_; go_frame)
       exact hJ b8 b14 b20 v63 v69 v75 _ hS.drop.drop.drop
      ·intro K hK; (refine bsF hS _ _ _ (by rfl) (elOf (by rfl)) [.slice none 0 0] (by rfl) (by rfl) (by decide) (by decide) (by simp [Value.cells]) ?_; clear hS; intro b20 w1 hS; rw [sca1 rfl] at hS); refine hK _ _ _ (hS.upTo (fun _ h => by first | exact h.take2 | exact h.drop.take2 | exact h.drop.drop.take2 | exact h.drop.drop.drop.take2)) (fun _ h => h) ?_; clear hK K; go_frame
       (refine rgA 15 false fun K hK => ?_; (refine apTb (f := one1) hS _ _ _ _ (by rfl) _ _ (by rfl) (by rfl) (elOf (by rfl)) (by rfl) (by decide) (inOf (by rfl)) (by repeat (first | exact Has.z | apply Has.s)) [.slice none 0 0] (by intro x hx; rfl) (by exact hS.src1 (f := one1) (x := .slice none 0 0) (by repeat (first | exact Has.z | apply Has.s)) rfl) (by intro u hu; rw [one1_src _ u hu]; rfl) (by have := HU2.out; rw [List.length_singleton]; omega) (by have := HU2.out; rw [List.length_singleton]; omega) ?_; clear hS; intro v69 w1 hS; dsimp only [List.set_cons_zero, List.set_cons_succ] at hS); refine hK _ _ _ (hS.upTo (fun _ h => by first | exact h.take2 | exact h.drop.take2 | exact h.drop.drop.take2 | exact h.drop.drop.drop.take2)) (fun _ _ h => h) ?_; clear hK K; go_frame)
       (refine rgA 21 false fun K hK => ?_; (refine apTb (f := one1) hS _ _ _ _ (by rfl) _ _ (by rfl) (by rfl) (elOf (by rfl)) (by rfl) (by decide) (inOf (by rfl)) (by repeat (first | exact Has.z | apply Has.s)) [.slice none 0 0] (by intro x hx; rfl) (by exact hS.src1 (f := one1) (x := .slice none 0 0) (by repeat (first | exact Has.z | apply Has.s)) rfl) (by intro u hu; rw [one1_src _ u hu]; rfl) (by have := HD2.out; rw [List.length_singleton]; omega) (by have := HD2.out; rw [List.length_singleton]; omega) ?_; clear hS; intro v75 w1 hS; dsimp only [List.set_cons_zero, List.set_cons_succ] at hS); refine hK _ _ _ (hS.upTo (fun _ h => by first | exact h.take2 | exact h.drop.take2 | exact h.drop.drop.take2 | exact h.drop.drop.drop.take2)) (fun _ _ h => h) ?_; clear hK K; go_frame)
       (refine rgP 22 hS (fun _ h => by first | exact h.take2 | exact h.drop.take2 | exact h.drop.drop.take2 | exact h.drop.drop.drop.take2) ?_; go_frame)
       (refine rgP 23 hS (fun _ h => by first | exact h.take2 | exact h.drop.take2 | exact h.drop.drop.take2 | exact h.drop.drop.drop.take2) ?_; go_frame)
       exact hJ b8 b14 b20 v63 v69 v75 _ hS.drop.drop.drop
     ·intro K hK; (refine bsF hS _ _ _ (by rfl) (elOf (by rfl)) [.slice none 0 0] (by rfl) (by rfl) (by decide) (by decide) (by simp [Value.cells]) ?_; clear hS; intro b20 w1 hS; rw [sca1 rfl] at hS); refine hK _ _ _ (hS.upTo (fun _ h => by first | exact h.take2 | exact h.drop.take2 | exact h.drop.drop.take2 | exact h.drop.drop.drop.take2)) (fun _ h => h) ?_; clear hK K; go_frame
      (refine rgA 14 false fun K hK => ?_; (refine bsF hS _ _ _ (by rfl) (elOf (by rfl)) [.slice none 0 0] (by rfl) (by rfl) (by decide) (by decide) (by simp [Value.cells]) ?_; clear hS; intro b14 w1 hS; rw [sca1 rfl] at hS); refine hK _ _ _ (hS.upTo (fun _ h => by first | exact h.take2 | exact h.drop.take2 | exact h.drop.drop.take2 | exact h.drop.drop.drop.take2)) (fun _ _ h => h) ?_; clear hK K; go_frame)
      (refine rgA 15 false fun K hK => ?_; (refine apTb (f := one1) hS _ _ _ _ (by rfl) _ _ (by rfl) (by rfl) (elOf (by rfl)) (by rfl) (by decide) (inOf (by rfl)) (by repeat (first | exact Has.z | apply Has.s)) [.slice none 0 0] (by intro x hx; rfl) (by exact hS.src1 (f := one1) (x := .slice none 0 0) (by repeat (first | exact Has.z | apply Has.s)) rfl) (by intro u hu; rw [one1_src _ u hu]; rfl) (by have := HU2.out; rw [List.length_singleton]; omega) (by have := HU2.out; rw [List.length_singleton]; omega) ?_; clear hS; intro v69 w1 hS; dsimp only [List.set_cons_zero, List.set_cons_succ] at hS); refine hK _ _ _ (hS.upTo (fun _ h => by first | exact h.take2 | exact h.drop.take2 | exact h.drop.drop.take2 | exact h.drop.drop.drop.take2)) (fun _ _ h => h) ?_; clear hK K; go_frame)
      (refine rgA 21 false fun K hK => ?_; (refine apTb (f := one1) hS _ _ _ _ (by rfl) _ _ (by rfl) (by rfl) (elOf (by rfl)) (by rfl) (by decide) (inOf (by rfl)) (by repeat (first | exact Has.z | apply Has.s)) [.slice none 0 0] (by intro x hx; rfl) (by exact hS.src1 (f := one1) (x := .slice none 0 0) (by repeat (first | exact Has.z | apply Has.s)) rfl) (by intro u hu; rw [one1_src _ u hu]; rfl) (by have := HD2.out; rw [List.length_singleton]; omega) (by have := HD2.out; rw [List.length_singleton]; omega) ?_; clear hS; intro v75 w1 hS; dsimp only [List.set_cons_zero, List.set_cons_succ] at hS); refine hK _ _ _ (hS.upTo (fun _ h => by first | exact h.take2 | exact h.drop.take2 | exact h.drop.drop.take2 | exact h.drop.drop.drop.take2)) (fun _ _ h => h) ?_; clear hK K; go_frame)
      (refine rgP 22 hS (fun _ h => by first | exact h.take2 | exact h.drop.take2 | exact h.drop.drop.take2 | exact h.drop.drop.drop.take2) ?_; go_frame)
      (refine rgP 23 hS (fun _ h => by first | exact h.take2 | exact h.drop.take2 | exact h.drop.drop.take2 | exact h.drop.drop.drop.take2) ?_; go_frame)
      exact hJ b8 b14 b20 v63 v69 v75 _ hS.drop.drop.drop
    ·intro K hK; (refine bsF hS _ _ _ (by rfl) (elOf (by rfl)) [.slice none 0 0] (by rfl) (by rfl) (by decide) (by decide) (by simp [Value.cells]) ?_; clear hS; intro b14 w1 hS; rw [sca1 rfl] at hS); refine hK _ _ _ (hS.upTo (fun _ h => by first | exact h.take2 | exact h.drop.take2 | exact h.drop.drop.take2 | exact h.drop.drop.drop.take2)) (fun _ h => h) ?_; clear hK K; go_frame
     refine regM2 9 20 rfl rfl (by kernel_rfl) (by rfl) (by rfl) (by rfl) (by rfl) ?_ ?_
     ·intro K hK; (refine apTb (f := nv) hS _ _ _ _ (by rfl) _ _ (by rfl) (by rfl) (elOf (by rfl)) (by rfl) (by decide) (inOf (by rfl)) (by repeat (first | exact Has.z | apply Has.s)) [(⟨k, o, 1, 0, 0, false⟩ : NodeD)] (by intro x hx; rfl) (by exact hS.src1 (f := nv) (x := (⟨k, o, 1, 0, 0, false⟩ : NodeD)) (by repeat (first | exact Has.z | apply Has.s)) rfl) (by exact nv_one _) (by have := HL.out; rw [List.length_singleton]; omega) (by have := HL.out; rw [List.length_singleton]; omega) ?_; clear hS; intro v63 w1 hS; dsimp only [List.set_cons_zero, List.set_cons_succ] at hS); refine hK _ _ _ (hS.upTo (fun _ h => by first | exact h.take2 | exact h.drop.take2 | exact h.drop.drop.take2 | exact h.drop.drop.drop.take2)) (fun _ h => h) ?_; clear hK K; go_frame
      refine regM2 15 20 rfl rfl (by kernel_rfl) (by rfl) (by rfl) (by rfl) (by rfl) ?_ ?_
      ·intro K hK; (refine apTb (f := one1) hS _ _ _ _ (by rfl) _ _ (by rfl) (by rfl) (elOf (by rfl)) (by rfl) (by decide) (inOf (by rfl)) (by repeat (first | exact Has.z | apply Has.s)) [.slice none 0 0] (by intro x hx; rfl) (by exact hS.src1 (f := one1) (x := .slice none 0 0) (by repeat (first | exact Has.z | apply Has.s)) rfl) (by intro u hu; rw [one1_src _ u hu]; rfl) (by have := HU2.out; rw [List.length_singleton]; omega) (by have := HU2.out; rw [List.length_singleton]; omega) ?_; clear hS; intro v69 w1 hS; dsimp only [List.set_cons_zero, List.set_cons_succ] at hS); refine hK _ _ _ (hS.upTo (fun _ h => by first | exact h.take2 | exact h.drop.take2 | exact h.drop.drop.take2 | exact h.drop.drop.drop.take2)) (fun _ h => h) ?_; clear hK K; go_frame
       (refine rgA 20 false fun K hK => ?_; (refine bsF hS _ _ _ (by rfl) (elOf (by rfl)) [.slice none 0 0] (by rfl) (by rfl) (by decide) (by decide) (by simp [Value.cells]) ?_; clear hS; intro b20 w1 hS; rw [sca1 rfl] at hS); refine hK _ _ _ (hS.upTo (fun _ h => by first | exact h.take2 | exact h.drop.take2 | exact h.drop.drop.take2 | exact h.drop.drop.drop.take2)) (fun _ _ h => h) ?_; clear hK K; go_frame)
       (refine rgA 21 false fun K hK => ?_; (refine apTb (f := one1) hS _ _ _ _ (by rfl) _ _ (by rfl) (by rfl) (elOf (by rfl)) (by rfl) (by decide) (inOf (by rfl)) (by repeat (first | exact Has.z | apply Has.s)) [.slice none 0 0] (by intro x hx; rfl) (by exact hS.src1 (f := one1) (x := .slice none 0 0) (by repeat (first | exact Has.z | apply Has.s)) rfl) (by intro u hu; rw [one1_src _ u hu]; rfl) (by have := HD2.out; rw [List.length_singleton]; omega) (by have := HD2.out; rw [List.length_singleton]; omega) ?_; clear hS; intro v75 w1 hS; dsimp only [List.set_cons_zero, List.set_cons_succ] at hS); refine hK _ _ _ (hS.upTo (fun _ h => by first | exact h.take2 | exact h.drop.take2 | exact h.drop.drop.take2 | exact h.drop.drop.drop.take2)) (fun _ _ h => h) ?_; clear hK K; go_frame)
       (refine rgP 22 hS (fun _ h => by first | exact h.take2 | exact h.drop.take2 | exact h.drop.drop.take2 | exact h.drop.drop.drop.take2) ?_; go_frame)
       (refine rgP 23 hS (fun _ h => by first | exact h.take2 | exact h.drop.take2 | exact h.drop.drop.take2 | exact h.drop.drop.drop.take2) ?_; go_frame)
       exact hJ b8 b14 b20 v63 v69 v75 _ hS.drop.drop.drop
      ·intro K hK; (refine bsF hS _ _ _ (by rfl) (elOf (by rfl)) [.slice none 0 0] (by rfl) (by rfl) (by decide) (by decide) (by simp [Value.cells]) ?_; clear hS; intro b20 w1 hS; rw [sca1 rfl] at hS); refine hK _ _ _ (hS.upTo (fun _ h => by first | exact h.take2 | exact h.drop.take2 | exact h.drop.drop.take2 | exact h.drop.drop.drop.take2)) (fun _ h => h) ?_; clear hK K; go_frame
       (refine rgA 15 false fun K hK => ?_; (refine apTb (f := one1) hS _ _ _ _ (by rfl) _ _ (by rfl) (by rfl) (elOf (by rfl)) (by rfl) (by decide) (inOf (by rfl)) (by repeat (first | exact Has.z | apply Has.s)) [.slice none 0 0] (by intro x hx; rfl) (by exact hS.src1 (f := one1) (x := .slice none 0 0) (by repeat (first | exact Has.z | apply Has.s)) rfl) (by intro u hu; rw [one1_src _ u hu]; rfl) (by have := HU2.out; rw [List.length_singleton]; omega) (by have := HU2.out; rw [List.length_singleton]; omega) ?_; clear hS; intro v69 w1 hS; dsimp only [List.set_cons_zero, List.set_cons_succ] at hS); refine hK _ _ _ (hS.upTo (fun _ h => by first | exact h.take2 | exact h.drop.take2 | exact h.drop.drop.take2 | exact h.drop.drop.drop.take2)) (fun _ _ h => h) ?_; clear hK K; go_frame)
       (refine rgA 21 false fun K hK => ?_; (refine apTb (f := one1) hS _ _ _ _ (by rfl) _ _ (by rfl) (by rfl) (elOf (by rfl)) (by rfl) (by decide) (inOf (by rfl)) (by repeat (first | exact Has.z | apply Has.s)) [.slice none 0 0] (by intro x hx; rfl) (by exact hS.src1 (f := one1) (x := .slice none 0 0) (by repeat (first | exact Has.z | apply Has.s)) rfl) (by intro u hu; rw [one1_src _ u hu]; rfl) (by have := HD2.out; rw [List.length_singleton]; omega) (by have := HD2.out; rw [List.length_singleton]; omega) ?_; clear hS; intro v75 w1 hS; dsimp only [List.set_cons_zero, List.set_cons_succ] at hS); refine hK _ _ _ (hS.upTo (fun _ h => by first | exact h.take2 | exact h.drop.take2 | exact h.drop.drop.take2 | exact h.drop.drop.drop.take2)) (fun _ _ h => h) ?_; clear hK K; go_frame)
       (refine rgP 22 hS (fun _ h => by first | exact h.take2 | exact h.drop.take2 | exact h.drop.drop.take2 | exact h.drop.drop.drop.take2) ?_; go_frame)
       (refine rgP 23 hS (fun _ h => by first | exact h.take2 | exact h.drop.take2 | exact h.drop.drop.take2 | exact h.drop.drop.drop.take2) ?_; go_frame)
       exact hJ b8 b14 b20 v63 v69 v75 _ hS.drop.drop.drop
     ·intro K hK; (refine bsF hS _ _ _ (by rfl) (elOf (by rfl)) [.slice none 0 0] (by rfl) (by rfl) (by decide) (by decide) (by simp [Value.cells]) ?_; clear hS; intro b20 w1 hS; rw [sca1 rfl] at hS); refine hK _ _ _ (hS.upTo (fun _ h => by first | exact h.take2 | exact h.drop.take2 | exact h.drop.drop.take2 | exact h.drop.drop.drop.take2)) (fun _ h => h) ?_; clear hK K; go_frame
      (refine rgA 9 false fun K hK => ?_; (refine apTb (f := nv) hS _ _ _ _ (by rfl) _ _ (by rfl) (by rfl) (elOf (by rfl)) (by rfl) (by decide) (inOf (by rfl)) (by repeat (first | exact Has.z | apply Has.s)) [(⟨k, o, 1, 0, 0, false⟩ : NodeD)] (by intro x hx; rfl) (by exact hS.src1 (f := nv) (x := (⟨k, o, 1, 0, 0, false⟩ : NodeD)) (by repeat (first | exact Has.z | apply Has.s)) rfl) (by exact nv_one _) (by have := HL.out; rw [List.length_singleton]; omega) (by have := HL.out; rw [List.length_singleton]; omega) ?_; clear hS; intro v63 w1 hS; dsimp only [List.set_cons_zero, List.set_cons_succ] at hS); refine hK _ _ _ (hS.upTo (fun _ h => by first | exact h.take2 | exact h.drop.take2 | exact h.drop.drop.take2 | exact h.drop.drop.drop.take2)) (fun _ _ h => h) ?_; clear hK K; go_frame)
      (refine rgA 15 false fun K hK => ?_; (refine apTb (f := one1) hS _ _ _ _ (by rfl) _ _ (by rfl) (by rfl) (elOf (by rfl)) (by rfl) (by decide) (inOf (by rfl)) (by repeat (first | exact Has.z | apply Has.s)) [.slice none 0 0] (by intro x hx; rfl) (by exact hS.src1 (f := one1) (x := .slice none 0 0) (by repeat (first | exact Has.z | apply Has.s)) rfl) (by intro u hu; rw [one1_src _ u hu]; rfl) (by have := HU2.out; rw [List.length_singleton]; omega) (by have := HU2.out; rw [List.length_singleton]; omega) ?_; clear hS; intro v69 w1 hS; dsimp only [List.set_cons_zero, List.set_cons_succ] at hS); refine hK _ _ _ (hS.upTo (fun _ h => by first | exact h.take2 | exact h.drop.take2 | exact h.drop.drop.take2 | exact h.drop.drop.drop.take2)) (fun _ _ h => h) ?_; clear hK K; go_frame)
      (refine rgA 21 false fun K hK => ?_; (refine apTb (f := one1) hS _ _ _ _ (by rfl) _ _ (by rfl) (by rfl) (elOf (by rfl)) (by rfl) (by decide) (inOf (by rfl)) (by repeat (first | exact Has.z | apply Has.s)) [.slice none 0 0] (by intro x hx; rfl) (by exact hS.src1 (f := one1) (x := .slice none 0 0) (by repeat (first | exact Has.z | apply Has.s)) rfl) (by intro u hu; rw [one1_src _ u hu]; rfl) (by have := HD2.out; rw [List.length_singleton]; omega) (by have := HD2.out; rw [List.length_singleton]; omega) ?_; clear hS; intro v75 w1 hS; dsimp only [List.set_cons_zero, List.set_cons_succ] at hS); refine hK _ _ _ (hS.upTo (fun _ h => by first | exact h.take2 | exact h.drop.take2 | exact h.drop.drop.take2 | exact h.drop.drop.drop.take2)) (fun _ _ h => h) ?_; clear hK K; go_frame)
      (refine rgP 22 hS (fun _ h => by first | exact h.take2 | exact h.drop.take2 | exact h.drop.drop.take2 | exact h.drop.drop.drop.take2) ?_; go_frame)
      (refine rgP 23 hS (fun _ h => by first | exact h.take2 | exact h.drop.take2 | exact h.drop.drop.take2 | exact h.drop.drop.drop.take2) ?_; go_frame)
      exact hJ b8 b14 b20 v63 v69 v75 _ hS.drop.drop.drop
    ·intro K hK; (refine bsF hS _ _ _ (by rfl) (elOf (by rfl)) [.slice none 0 0] (by rfl) (by rfl) (by decide) (by decide) (by simp [Value.cells]) ?_; clear hS; intro b20 w1 hS; rw [sca1 rfl] at hS); refine hK _ _ _ (hS.upTo (fun _ h => by first | exact h.take2 | exact h.drop.take2 | exact h.drop.drop.take2 | exact h.drop.drop.drop.take2)) (fun _ h => h) ?_; clear hK K; go_frame
     refine regM2 9 14 rfl rfl (by kernel_rfl) (by rfl) (by rfl) (by rfl) (by rfl) ?_ ?_
     ·intro K hK; (refine apTb (f := nv) hS _ _ _ _ (by rfl) _ _ (by rfl) (by rfl) (elOf (by rfl)) (by rfl) (by decide) (inOf (by rfl)) (by repeat (first | exact Has.z | apply Has.s)) [(⟨k, o, 1, 0, 0, false⟩ : NodeD)] (by intro x hx; rfl) (by exact hS.src1 (f := nv) (x := (⟨k, o, 1, 0, 0, false⟩ : NodeD)) (by repeat (first | exact Has.z | apply Has.s)) rfl) (by exact nv_one _) (by have := HL.out; rw [List.length_singleton]; omega) (by have := HL.out; rw [List.length_singleton]; omega) ?_; clear hS; intro v63 w1 hS; dsimp only [List.set_cons_zero, List.set_cons_succ] at hS); refine hK _ _ _ (hS.upTo (fun _ h => by first | exact h.take2 | exact h.drop.take2 | exact h.drop.drop.take2 | exact h.drop.drop.drop.take2)) (fun _ h => h) ?_; clear hK K; go_frame
      (refine rgA 14 false fun K hK => ?_; (refine bsF hS _ _ _ (by rfl) (elOf (by rfl)) [.slice none 0 0] (by rfl) (by rfl) (by decide) (by decide) (by simp [Value.cells]) ?_; clear hS; intro b14 w1 hS; rw [sca1 rfl] at hS); refine hK _ _ _ (hS.upTo (fun _ h => by first | exact h.take2 | exact h.drop.take2 | exact h.drop.drop.take2 | exact h.drop.drop.drop.take2)) (fun _ _ h => h) ?_; clear hK K; go_frame)
      (refine rgA 15 false fun K hK => ?_; (refine apTb (f := one1) hS _ _ _ _ (by rfl) _ _ (by rfl) (by rfl) (elOf (by rfl)) (by rfl) (by decide) (inOf (by rfl)) (by repeat (first | exact Has.z | apply Has.s)) [.slice none 0 0] (by intro x hx; rfl) (by exact hS.src1 (f := one1) (x := .slice none 0 0) (by repeat (first | exact Has.z | apply Has.s)) rfl) (by intro u hu; rw [one1_src _ u hu]; rfl) (by have := HU2.out; rw [List.length_singleton]; omega) (by have := HU2.out; rw [List.length_singleton]; omega) ?_; clear hS; intro v69 w1 hS; dsimp only [List.set_cons_zero, List.set_cons_succ] at hS); refine hK _ _ _ (hS.upTo (fun _ h => by first | exact h.take2 | exact h.drop.take2 | exact h.drop.drop.take2 | exact h.drop.drop.drop.take2)) (fun _ _ h => h) ?_; clear hK K; go_frame)
      (refine rgA 21 false fun K hK => ?_; (refine apTb (f := one1) hS _ _ _ _ (by rfl) _ _ (by rfl) (by rfl) (elOf (by rfl)) (by rfl) (by decide) (inOf (by rfl)) (by repeat (first | exact Has.z | apply Has.s)) [.slice none 0 0] (by intro x hx; rfl) (by exact hS.src1 (f := one1) (x := .slice none 0 0) (by repeat (first | exact Has.z | apply Has.s)) rfl) (by intro u hu; rw [one1_src _ u hu]; rfl) (by have := HD2.out; rw [List.length_singleton]; omega) (by have := HD2.out; rw [List.length_singleton]; omega) ?_; clear hS; intro v75 w1 hS; dsimp only [List.set_cons_zero, List.set_cons_succ] at hS); refine hK _ _ _ (hS.upTo (fun _ h => by first | exact h.take2 | exact h.drop.take2 | exact h.drop.drop.take2 | exact h.drop.drop.drop.take2)) (fun _ _ h => h) ?_; clear hK K; go_frame)
      (refine rgP 22 hS (fun _ h => by first | exact h.take2 | exact h.drop.take2 | exact h.drop.drop.take2 | exact h.drop.drop.drop.take2) ?_; go_frame)
      (refine rgP 23 hS (fun _ h => by first | exact h.take2 | exact h.drop.take2 | exact h.drop.drop.take2 | exact h.drop.drop.drop.take2) ?_; go_frame)
      exact hJ b8 b14 b20 v63 v69 v75 _ hS.drop.drop.drop
     ·intro K hK; (refine bsF hS _ _ _ (by rfl) (elOf (by rfl)) [.slice none 0 0] (by rfl) (by rfl) (by decide) (by decide) (by simp [Value.cells]) ?_; clear hS; intro b14 w1 hS; rw [sca1 rfl] at hS); refine hK _ _ _ (hS.upTo (fun _ h => by first | exact h.take2 | exact h.drop.take2 | exact h.drop.drop.take2 | exact h.drop.drop.drop.take2)) (fun _ h => h) ?_; clear hK K; go_frame
      (refine rgA 9 false fun K hK => ?_; (refine apTb (f := nv) hS _ _ _ _ (by rfl) _ _ (by rfl) (by rfl) (elOf (by rfl)) (by rfl) (by decide) (inOf (by rfl)) (by repeat (first | exact Has.z | apply Has.s)) [(⟨k, o, 1, 0, 0, false⟩ : NodeD)] (by intro x hx; rfl) (by exact hS.src1 (f := nv) (x := (⟨k, o, 1, 0, 0, false⟩ : NodeD)) (by repeat (first | exact Has.z | apply Has.s)) rfl) (by exact nv_one _) (by have := HL.out; rw [List.length_singleton]; omega) (by have := HL.out; rw [List.length_singleton]; omega) ?_; clear hS; intro v63 w1 hS; dsimp only [List.set_cons_zero, List.set_cons_succ] at hS); refine hK _ _ _ (hS.upTo (fun _ h => by first | exact h.take2 | exact h.drop.take2 | exact h.drop.drop.take2 | exact h.drop.drop.drop.take2)) (fun _ _ h => h) ?_; clear hK K; go_frame)
      (refine rgA 15 false fun K hK => ?_; (refine apTb (f := one1) hS _ _ _ _ (by rfl) _ _ (by rfl) (by rfl) (elOf (by rfl)) (by rfl) (by decide) (inOf (by rfl)) (by repeat (first | exact Has.z | apply Has.s)) [.slice none 0 0] (by intro x hx; rfl) (by exact hS.src1 (f := one1) (x := .slice none 0 0) (by repeat (first | exact Has.z | apply Has.s)) rfl) (by intro u hu; rw [one1_src _ u hu]; rfl) (by have := HU2.out; rw [List.length_singleton]; omega) (by have := HU2.out; rw [List.length_singleton]; omega) ?_; clear hS; intro v69 w1 hS; dsimp only [List.set_cons_zero, List.set_cons_succ] at hS); refine hK _ _ _ (hS.upTo (fun _ h => by first | exact h.take2 | exact h.drop.take2 | exact h.drop.drop.take2 | exact h.drop.drop.drop.take2)) (fun _ _ h => h) ?_; clear hK K; go_frame)
      (refine rgA 21 false fun K hK => ?_; (refine apTb (f := one1) hS _ _ _ _ (by rfl) _ _ (by rfl) (by rfl) (elOf (by rfl)) (by rfl) (by decide) (inOf (by rfl)) (by repeat (first | exact Has.z | apply Has.s)) [.slice none 0 0] (by intro x hx; rfl) (by exact hS.src1 (f := one1) (x := .slice none 0 0) (by repeat (first | exact Has.z | apply Has.s)) rfl) (by intro u hu; rw [one1_src _ u hu]; rfl) (by have := HD2.out; rw [List.length_singleton]; omega) (by have := HD2.out; rw [List.length_singleton]; omega) ?_; clear hS; intro v75 w1 hS; dsimp only [List.set_cons_zero, List.set_cons_succ] at hS); refine hK _ _ _ (hS.upTo (fun _ h => by first | exact h.take2 | exact h.drop.take2 | exact h.drop.drop.take2 | exact h.drop.drop.drop.take2)) (fun _ _ h => h) ?_; clear hK K; go_frame)
      (refine rgP 22 hS (fun _ h => by first | exact h.take2 | exact h.drop.take2 | exact h.drop.drop.take2 | exact h.drop.drop.drop.take2) ?_; go_frame)
      (refine rgP 23 hS (fun _ h => by first | exact h.take2 | exact h.drop.take2 | exact h.drop.drop.take2 | exact h.drop.drop.drop.take2) ?_; go_frame)
      exact hJ b8 b14 b20 v63 v69 v75 _ hS.drop.drop.drop
   ·intro K hK; (refine bsF hS _ _ _ (by rfl) (elOf (by rfl)) [.slice none 0 0] (by rfl) (by rfl) (by decide) (by decide) (by simp [Value.cells]) ?_; clear hS; intro b14 w1 hS; rw [sca1 rfl] at hS); refine hK _ _ _ (hS.upTo (fun _ h => by first | exact h.take2 | exact h.drop.take2 | exact h.drop.drop.take2 | exact h.drop.drop.drop.take2)) (fun _ h => h) ?_; clear hK K; go_frame
    refine regM2 8 20 rfl rfl (by kernel_rfl) (by rfl) (by rfl) (by rfl) (by rfl) ?_ ?_
    ·intro K hK; (refine bsF hS _ _ _ (by rfl) (elOf (by rfl)) [.agg (nv (⟨k, o, 1, 0, 0, false⟩ : NodeD)).toArray] (by rfl) (by rfl) (by decide) (by decide) (by intro v hv; rw [List.mem_singleton.1 hv]; rfl) ?_; clear hS; intro b8 w1 hS; rw [agg1] at hS); refine hK _ _ _ (hS.upTo (fun _ h => by first | exact h.take2 | exact h.drop.take2 | exact h.drop.drop.take2 | exact h.drop.drop.drop.take2)) (fun _ h => h) ?_; clear hK K; go_frame
     refine regM2 9 20 rfl rfl (by kernel_rfl) (by rfl) (by rfl) (by rfl) (by rfl) ?_ ?_
     ·intro K hK; (refine apTb (f := nv) hS _ _ _ _ (by rfl) _ _ (by rfl) (by rfl) (elOf (by rfl)) (by rfl) (by decide) (inOf (by rfl)) (by repeat (first | exact Has.z | apply Has.s)) [(⟨k, o, 1, 0, 0, false⟩ : NodeD)] (by intro x hx; rfl) (by exact hS.src1 (f := nv) (x := (⟨k, o, 1, 0, 0, false⟩ : NodeD)) (by repeat (first | exact Has.z | apply Has.s)) rfl) (by exact nv_one _) (by have := HL.out; rw [List.length_singleton]; omega) (by have := HL.out; rw [List.length_singleton]; omega) ?_; clear hS; intro v63 w1 hS; dsimp only [List.set_cons_zero, List.set_cons_succ] at hS); refine hK _ _ _ (hS.upTo (fun _ h => by first | exact h.take2 | exact h.drop.take2 | exact h.drop.drop.take2 | exact h.drop.drop.drop.take2)) (fun _ h => h) ?_; clear hK K; go_frame
      refine regM2 15 20 rfl rfl (by kernel_rfl) (by rfl) (by rfl) (by rfl) (by rfl) ?_ ?_
      ·intro K hK; (refine apTb (f := one1) hS _ _ _ _ (by rfl) _ _ (by rfl) (by rfl) (elOf (by rfl)) (by rfl) (by decide) (inOf (by rfl)) (by repeat (first | exact Has.z | apply Has.s)) [.slice none 0 0] (by intro x hx; rfl) (by exact hS.src1 (f := one1) (x := .slice none 0 0) (by repeat (first | exact Has.z | apply Has.s)) rfl) (by intro u hu; rw [one1_src _ u hu]; rfl) (by have := HU2.out; rw [List.length_singleton]; omega) (by have := HU2.out; rw [List.length_singleton]; omega) ?_; clear hS; intro v69 w1 hS; dsimp only [List.set_cons_zero, List.set_cons_succ] at hS); refine hK _ _ _ (hS.upTo (fun _ h => by first | exact h.take2 | exact h.drop.take2 | exact h.drop.drop.take2 | exact h.drop.drop.drop.take2)) (fun _ h => h) ?_; clear hK K; go_frame
       (refine rgA 20 false fun K hK => ?_; (refine bsF hS _ _ _ (by rfl) (elOf (by rfl)) [.slice none 0 0] (by rfl) (by rfl) (by decide) (by decide) (by simp [Value.cells]) ?_; clear hS; intro b20 w1 hS; rw [sca1 rfl] at hS); refine hK _ _ _ (hS.upTo (fun _ h => by first | exact h.take2 | exact h.drop.take2 | exact h.drop.drop.take2 | exact h.drop.drop.drop.take2)) (fun _ _ h => h) ?_; clear hK K; go_frame)
       (refine rgA 21 false fun K hK => ?_; (refine apTb (f := one1) hS _ _ _ _ (by rfl) _ _ (by rfl) (by rfl) (elOf (by rfl)) (by rfl) (by decide) (inOf (by rfl)) (by repeat (first | exact Has.z | apply Has.s)) [.slice none 0 0] (by intro x hx; rfl) (by exact hS.src1 (f := one1) (x := .slice none 0 0) (by repeat (first | exact Has.z | apply Has.s)) rfl) (by intro u hu; rw [one1_src _ u hu]; rfl) (by have := HD2.out; rw [List.length_singleton]; omega) (by have := HD2.out; rw [List.length_singleton]; omega) ?_; clear hS; intro v75 w1 hS; dsimp only [List.set_cons_zero, List.set_cons_succ] at hS); refine hK _ _ _ (hS.upTo (fun _ h => by first | exact h.take2 | exact h.drop.take2 | exact h.drop.drop.take2 | exact h.drop.drop.drop.take2)) (fun _ _ h => h) ?_; clear hK K; go_frame)
       (refine rgP 22 hS (fun _ h => by first | exact h.take2 | exact h.drop.take2 | exact h.drop.drop.take2 | exact h.drop.drop.drop.take2) ?_; go_frame)
       (refine rgP 23 hS (fun _ h => by first | exact h.take2 | exact h.drop.take2 | exact h.drop.drop.take2 | exact h.drop.drop.drop.take2) ?_; go_frame)
       exact hJ b8 b14 b20 v63 v69 v75 _ hS.drop.drop.drop
      ·intro K hK; (refine bsF hS _ _ _ (by rfl) (elOf (by rfl)) [.slice none 0 0] (by rfl) (by rfl) (by decide) (by decide) (by simp [Value.cells]) ?_; clear hS; intro b20 w1 hS; rw [sca1 rfl] at hS); refine hK _ _ _ (hS.upTo (fun _ h => by first | exact h.take2 | exact h.drop.take2 | exact h.drop.drop.take2 | exact h.drop.drop.drop.take2)) (fun _ h => h) ?_; clear hK K; go_frame
       (refine rgA 15 false fun K hK => ?_; (refine apTb (f := one1) hS _ _ _ _ (by rfl) _ _ (by rfl) (by rfl) (elOf (by rfl)) (by rfl) (by decide) (inOf (by rfl)) (by repeat (first | exact Has.z | apply Has.s)) [.slice none 0 0] (by intro x hx; rfl) (by exact hS.src1 (f := one1) (x := .slice none 0 0) (by repeat (first | exact Has.z | apply Has.s)) rfl) (by intro u hu; rw [one1_src _ u hu]; rfl) (by have := HU2.out; rw [List.length_singleton]; omega) (by have := HU2.out; rw [List.length_singleton]; omega) ?_; clear hS; intro v69 w1 hS; dsimp only [List.set_cons_zero, List.set_cons_succ] at hS); refine hK _ _ _ (hS.upTo (fun _ h => by first | exact h.take2 | exact h.drop.take2 | exact h.drop.drop.take2 | exact h.drop.drop.drop.take2)) (fun _ _ h => h) ?_; clear hK K; go_frame)
       (refine rgA 21 false fun K hK => ?_; (refine apTb (f := one1) hS _ _ _ _ (by rfl) _ _ (by rfl) (by rfl) (elOf (by rfl)) (by rfl) (by decide) (inOf (by rfl)) (by repeat (first | exact Has.z | apply Has.s)) [.slice none 0 0] (by intro x hx; rfl) (by exact hS.src1 (f := one1) (x := .slice none 0 0) (by repeat (first | exact Has.z | apply Has.s)) rfl) (by intro u hu; rw [one1_src _ u hu]; rfl) (by have := HD2.out; rw [List.length_singleton]; omega) (by have := HD2.out; rw [List.length_singleton]; omega) ?_; clear hS; intro v75 w1 hS; dsimp only [List.set_cons_zero, List.set_cons_succ] at hS); refine hK _ _ _ (hS.upTo (fun _ h => by first | exact h.take2 | exact h.drop.take2 | exact h.drop.drop.take2 | exact h.drop.drop.drop.take2)) (fun _ _ h => h) ?_; clear hK K; go_frame)
       (refine rgP 22 hS (fun _ h => by first | exact h.take2 | exact h.drop.take2 | exact h.drop.drop.take2 | exact h.drop.drop.drop.take2) ?_; go_frame)
       (refine rgP 23 hS (fun _ h => by first | exact h.take2 | exact h.drop.take2 | exact h.drop.drop.take2 | exact h.drop.drop.drop.take2) ?_; go_frame)
       exact hJ b8 b14 b20 v63 v69 v75 _ hS.drop.drop.drop
     ·intro K hK; (refine bsF hS _ _ _ (by rfl) (elOf (by rfl)) [.slice none 0 0] (by rfl) (by rfl) (by decide) (by decide) (by simp [Value.cells]) ?_; clear hS; intro b20 w1 hS; rw [sca1 rfl] at hS); refine hK _ _ _ (hS.upTo (fun _ h => by first | exact h.take2 | exact h.drop.take2 | exact h.drop.drop.take2 | exact h.drop.drop.drop.take2)) (fun _ h => h) ?_; clear hK K; go_frame
      (refine rgA 9 false fun K hK => ?_; (refine apTb (f := nv) hS _ _ _ _ (by rfl) _ _ (by rfl) (by rfl) (elOf (by rfl)) (by rfl) (by decide) (inOf (by rfl)) (by repeat (first | exact Has.z | apply Has.s)) [(⟨k, o, 1, 0, 0, false⟩ : NodeD)] (by intro x hx; rfl) (by exact hS.src1 (f := nv) (x := (⟨k, o, 1, 0, 0, false⟩ : NodeD)) (by repeat (first | exact Has.z | apply Has.s)) rfl) (by exact nv_one _) (by have := HL.out; rw [List.length_singleton]; omega) (by have := HL.out; rw [List.length_singleton]; omega) ?_; clear hS; intro v63 w1 hS; dsimp only [List.set_cons_zero, List.set_cons_succ] at hS); refine hK _ _ _ (hS.upTo (fun _ h => by first | exact h.take2 | exact h.drop.take2 | exact h.drop.drop.take2 | exact h.drop.drop.drop.take2)) (fun _ _ h => h) ?_; clear hK K; go_frame)
      (refine rgA 15 false fun K hK => ?_; (refine apTb (f := one1) hS _ _ _ _ (by rfl) _ _ (by rfl) (by rfl) (elOf (by rfl)) (by rfl) (by decide) (inOf (by rfl)) (by repeat (first | exact Has.z | apply Has.s)) [.slice none 0 0] (by intro x hx; rfl) (by exact hS.src1 (f := one1) (x := .slice none 0 0) (by repeat (first | exact Has.z | apply Has.s)) rfl) (by intro u hu; rw [one1_src _ u hu]; rfl) (by have := HU2.out; rw [List.length_singleton]; omega) (by have := HU2.out; rw [List.length_singleton]; omega) ?_; clear hS; intro v69 w1 hS; dsimp only [List.set_cons_zero, List.set_cons_succ] at hS); refine hK _ _ _ (hS.upTo (fun _ h => by first | exact h.take2 | exact h.drop.take2 | exact h.drop.drop.take2 | exact h.drop.drop.drop.take2)) (fun _ _ h => h) ?_; clear hK K; go_frame)
      (refine rgA 21 false fun K hK => ?_; (refine apTb (f := one1) hS _ _ _ _ (by rfl) _ _ (by rfl) (by rfl) (elOf (by rfl)) (by rfl) (by decide) (inOf (by rfl)) (by repeat (first | exact Has.z | apply Has.s)) [.slice none 0 0] (by intro x hx; rfl) (by exact hS.src1 (f := one1) (x := .slice none 0 0) (by repeat (first | exact Has.z | apply Has.s)) rfl) (by intro u hu; rw [one1_src _ u hu]; rfl) (by have := HD2.out; rw [List.length_singleton]; omega) (by have := HD2.out; rw [List.length_singleton]; omega) ?_; clear hS; intro v75 w1 hS; dsimp only [List.set_cons_zero, List.set_cons_succ] at hS); refine hK _ _ _ (hS.upTo (fun _ h => by first | exact h.take2 | exact h.drop.take2 | exact h.drop.drop.take2 | exact h.drop.drop.drop.take2)) (fun _ _ h => h) ?_; clear hK K; go_frame)
      (refine rgP 22 hS (fun _ h => by first | exact h.take2 | exact h.drop.take2 | exact h.drop.drop.take2 | exact h.drop.drop.drop.take2) ?_; go_frame)
      (refine rgP 23 hS (fun _ h => by first | exact h.take2 | exact h.drop.take2 | exact h.drop.drop.take2 | exact h.drop.drop.drop.take2) ?_; go_frame)
      exact hJ b8 b14 b20 v63 v69 v75 _ hS.drop.drop.drop
    ·intro K hK; (refine bsF hS _ _ _ (by rfl) (elOf (by rfl)) [.slice none 0 0] (by rfl) (by rfl) (by decide) (by decide) (by simp [Value.cells]) ?_; clear hS; intro b20 w1 hS; rw [sca1 rfl] at hS); refine hK _ _ _ (hS.upTo (fun _ h => by first | exact h.take2 | exact h.drop.take2 | exact h.drop.drop.take2 | exact h.drop.drop.drop.take2)) (fun _ h => h) ?_; clear hK K; go_frame
     (refine rgA 8 false fun K hK => ?_; (refine bsF hS _ _ _ (by rfl) (elOf (by rfl)) [.agg (nv (⟨k, o, 1, 0, 0, false⟩ : NodeD)).toArray] (by rfl) (by rfl) (by decide) (by decide) (by intro v hv; rw [List.mem_singleton.1 hv]; rfl) ?_; clear hS; intro b8 w1 hS; rw [agg1] at hS); refine hK _ _ _ (hS.upTo (fun _ h => by first | exact h.take2 | exact h.drop.take2 | exact h.drop.drop.take2 | exact h.drop.drop.drop.take2)) (fun _ _ h => h) ?_; clear hK K; go_frame)
     (refine rgA 9 false fun K hK => ?_; (refine apTb (f := nv) hS _ _ _ _ (by rfl) _ _ (by rfl) (by rfl) (elOf (by rfl)) (by rfl) (by decide) (inOf (by rfl)) (by repeat (first | exact Has.z | apply Has.s)) [(⟨k, o, 1, 0, 0, false⟩ : NodeD)] (by intro x hx; rfl) (by exact hS.src1 (f := nv) (x := (⟨k, o, 1, 0, 0, false⟩ : NodeD)) (by repeat (first | exact Has.z | apply Has.s)) rfl) (by exact nv_one _) (by have := HL.out; rw [List.length_singleton]; omega) (by have := HL.out; rw [List.length_singleton]; omega) ?_; clear hS; intro v63 w1 hS; dsimp only [List.set_cons_zero, List.set_cons_succ] at hS); refine hK _ _ _ (hS.upTo (fun _ h => by first | exact h.take2 | exact h.drop.take2 | exact h.drop.drop.take2 | exact h.drop.drop.drop.take2)) (fun _ _ h => h) ?_; clear hK K; go_frame)
     (refine rgA 15 false fun K hK => ?_; (refine apTb (f := one1) hS _ _ _ _ (by rfl) _ _ (by rfl) (by rfl) (elOf (by rfl)) (by rfl) (by decide) (inOf (by rfl)) (by repeat (first | exact Has.z | apply Has.s)) [.slice none 0 0] (by intro x hx; rfl) (by exact hS.src1 (f := one1) (x := .slice none 0 0) (by repeat (first | exact Has.z | apply Has.s)) rfl) (by intro u hu; rw [one1_src _ u hu]; rfl) (by have := HU2.out; rw [List.length_singleton]; omega) (by have := HU2.out; rw [List.length_singleton]; omega) ?_; clear hS; intro v69 w1 hS; dsimp only [List.set_cons_zero, List.set_cons_succ] at hS); refine hK _ _ _ (hS.upTo (fun _ h => by first | exact h.take2 | exact h.drop.take2 | exact h.drop.drop.take2 | exact h.drop.drop.drop.take2)) (fun _ _ h => h) ?_; clear hK K; go_frame)
     (refine rgA 21 false fun K hK => ?_; (refine apTb (f := one1) hS _ _ _ _ (by rfl) _ _ (by rfl) (by rfl) (elOf (by rfl)) (by rfl) (by decide) (inOf (by rfl)) (by repeat (first | exact Has.z | apply Has.s)) [.slice none 0 0] (by intro x hx; rfl) (by exact hS.src1 (f := one1) (x := .slice none 0 0) (by repeat (first | exact Has.z | apply Has.s)) rfl) (by intro u hu; rw [one1_src _ u hu]; rfl) (by have := HD2.out; rw [List.length_singleton]; omega) (by have := HD2.out; rw [List.length_singleton]; omega) ?_; clear hS; intro v75 w1 hS; dsimp only [List.set_cons_zero, List.set_cons_succ] at hS); refine hK _ _ _ (hS.upTo (fun _ h => by first | exact h.take2 | exact h.drop.take2 | exact h.drop.drop.take2 | exact h.drop.drop.drop.take2)) (fun _ _ h => h) ?_; clear hK K; go_frame)
     (refine rgP 22 hS (fun _ h => by first | exact h.take2 | exact h.drop.take2 | exact h.drop.drop.take2 | exact h.drop.drop.drop.take2) ?_; go_frame)
     (refine rgP 23 hS (fun _ h => by first | exact h.take2 | exact h.drop.take2 | exact h.drop.drop.take2 | exact h.drop.drop.drop.take2) ?_; go_frame)
     exact hJ b8 b14 b20 v63 v69 v75 _ hS.drop.drop.drop
   ·intro K hK; (refine bsF hS _ _ _ (by rfl) (elOf (by rfl)) [.slice none 0 0] (by rfl) (by rfl) (by decide) (by decide) (by simp [Value.cells]) ?_; clear hS; intro b20 w1 hS; rw [sca1 rfl] at hS); refine hK _ _ _ (hS.upTo (fun _ h => by first | exact h.take2 | exact h.drop.take2 | exact h.drop.drop.take2 | exact h.drop.drop.drop.take2)) (fun _ h => h) ?_; clear hK K; go_frame
    refine regM2 8 14 rfl rfl (by kernel_rfl) (by rfl) (by rfl) (by rfl) (by rfl) ?_ ?_
    ·intro K hK; (refine bsF hS _ _ _ (by rfl) (elOf (by rfl)) [.agg (nv (⟨k, o, 1, 0, 0, false⟩ : NodeD)).toArray] (by rfl) (by rfl) (by decide) (by decide) (by intro v hv; rw [List.mem_singleton.1 hv]; rfl) ?_; clear hS; intro b8 w1 hS; rw [agg1] at hS); refine hK _ _ _ (hS.upTo (fun _ h => by first | exact h.take2 | exact h.drop.take2 | exact h.drop.drop.take2 | exact h.drop.drop.drop.take2)) (fun _ h => h) ?_; clear hK K; go_frame
     refine regM2 9 14 rfl rfl (by kernel_rfl) (by rfl) (by rfl) (by rfl) (by rfl) ?_ ?_
     ·intro K hK; (refine apTb (f := nv) hS _ _ _ _ (by rfl) _ _ (by rfl) (by rfl) (elOf (by rfl)) (by rfl) (by decide) (inOf (by rfl)) (by repeat (first | exact Has.z | apply Has.s)) [(⟨k, o, 1, 0, 0, false⟩ : NodeD)] (by intro x hx; rfl) (by exact hS.src1 (f := nv) (x := (⟨k, o, 1, 0, 0, false⟩ : NodeD)) (by repeat (first | exact Has.z | apply Has.s)) rfl) (by exact nv_one _) (by have := HL.out; rw [List.length_singleton]; omega) (by have := HL.out; rw [List.length_singleton]; omega) ?_; clear hS; intro v63 w1 hS; dsimp only [List.set_cons_zero, List.set_cons_succ] at hS); refine hK _ _ _ (hS.upTo (fun _ h => by first | exact h.take2 | exact h.drop.take2 | exact h.drop.drop.take2 | exact h.drop.drop.drop.take2)) (fun _ h => h) ?_; clear hK K; go_frame
      (refine rgA 14 false fun K hK => ?_; (refine bsF hS _ _ _ (by rfl) (elOf (by rfl)) [.slice none 0 0] (by rfl) (by rfl) (by decide) (by decide) (by simp [Value.cells]) ?_; clear hS; intro b14 w1 hS; rw [sca1 rfl] at hS); refine hK _ _ _ (hS.upTo (fun _ h => by first | exact h.take2 | exact h.drop.take2 | exact h.drop.drop.take2 | exact h.drop.drop.drop.take2)) (fun _ _ h => h) ?_; clear hK K; go_frame)
      (refine rgA 15 false fun K hK => ?_; (refine apTb (f := one1) hS _ _ _ _ (by rfl) _ _ (by rfl) (by rfl) (elOf (by rfl)) (by rfl) (by decide) (inOf (by rfl)) (by repeat (first | exact Has.z | apply Has.s)) [.slice none 0 0] (by intro x hx; rfl) (by exact hS.src1 (f := one1) (x := .slice none 0 0) (by repeat (first | exact Has.z | apply Has.s)) rfl) (by intro u hu; rw [one1_src _ u hu]; rfl) (by have := HU2.out; rw [List.length_singleton]; omega) (by have := HU2.out; rw [List.length_singleton]; omega) ?_; clear hS; intro v69 w1 hS; dsimp only [List.set_cons_zero, List.set_cons_succ] at hS); refine hK _ _ _ (hS.upTo (fun _ h => by first | exact h.take2 | exact h.drop.take2 | exact h.drop.drop.take2 | exact h.drop.drop.drop.take2)) (fun _ _ h => h) ?_; clear hK K; go_frame)
      (refine rgA 21 false fun K hK => ?_; (refine apTb (f := one1) hS _ _ _ _ (by rfl) _ _ (by rfl) (by rfl) (elOf (by rfl)) (by rfl) (by decide) (inOf (by rfl)) (by repeat (first | exact Has.z | apply Has.s)) [.slice none 0 0] (by intro x hx; rfl) (by exact hS.src1 (f := one1) (x := .slice none 0 0) (by repeat (first | exact Has.z | apply Has.s)) rfl) (by intro u hu; rw [one1_src _ u hu]; rfl) (by have := HD2.out; rw [List.length_singleton]; omega) (by have := HD2.out; rw [List.length_singleton]; omega) ?_; clear hS; intro v75 w1 hS; dsimp only [List.set_cons_zero, List.set_cons_succ] at hS); refine hK _ _ _ (hS.upTo (fun _ h => by first | exact h.take2 | exact h.drop.take2 | exact h.drop.drop.take2 | exact h.drop.drop.drop.take2)) (fun _ _ h => h) ?_; clear hK K; go_frame)
      (refine rgP 22 hS (fun _ h => by first | exact h.take2 | exact h.drop.take2 | exact h.drop.drop.take2 | exact h.drop.drop.drop.take2) ?_; go_frame)
      (refine rgP 23 hS (fun _ h => by first | exact h.take2 | exact h.drop.take2 | exact h.drop.drop.take2 | exact h.drop.drop.drop.take2) ?_; go_frame)
      exact hJ b8 b14 b20 v63 v69 v75 _ hS.drop.drop.drop
     ·intro K hK; (refine bsF hS _ _ _ (by rfl) (elOf (by rfl)) [.slice none 0 0] (by rfl) (by rfl) (by decide) (by decide) (by simp [Value.cells]) ?_; clear hS; intro b14 w1 hS; rw [sca1 rfl] at hS); refine hK _ _ _ (hS.upTo (fun _ h => by first | exact h.take2 | exact h.drop.take2 | exact h.drop.drop.take2 | exact h.drop.drop.drop.take2)) (fun _ h => h) ?_; clear hK K; go_frame
      (refine rgA 9 false fun K hK => ?_; (refine apTb (f := nv) hS _ _ _ _ (by rfl) _ _ (by rfl) (by rfl) (elOf (by rfl)) (by rfl) (by decide) (inOf (by rfl)) (by repeat (first | exact Has.z | apply Has.s)) [(⟨k, o, 1, 0, 0, false⟩ : NodeD)] (by intro x hx; rfl) (by exact hS.src1 (f := nv) (x := (⟨k, o, 1, 0, 0, false⟩ : NodeD)) (by repeat (first | exact Has.z | apply Has.s)) rfl) (by exact nv_one _) (by have := HL.out; rw [List.length_singleton]; omega) (by have := HL.out; rw [List.length_singleton]; omega) ?_; clear hS; intro v63 w1 hS; dsimp only [List.set_cons_zero, List.set_cons_succ] at hS); refine hK _ _ _ (hS.upTo (fun _ h => by first | exact h.take2 | exact h.drop.take2 | exact h.drop.drop.take2 | exact h.drop.drop.drop.take2)) (fun _ _ h => h) ?_; clear hK K; go_frame)
      (refine rgA 15 false fun K hK => ?_; (refine apTb (f := one1) hS _ _ _ _ (by rfl) _ _ (by rfl) (by rfl) (elOf (by rfl)) (by rfl) (by decide) (inOf (by rfl)) (by repeat (first | exact Has.z | apply Has.s)) [.slice none 0 0] (by intro x hx; rfl) (by exact hS.src1 (f := one1) (x := .slice none 0 0) (by repeat (first | exact Has.z | apply Has.s)) rfl) (by intro u hu; rw [one1_src _ u hu]; rfl) (by have := HU2.out; rw [List.length_singleton]; omega) (by have := HU2.out; rw [List.length_singleton]; omega) ?_; clear hS; intro v69 w1 hS; dsimp only [List.set_cons_zero, List.set_cons_succ] at hS); refine hK _ _ _ (hS.upTo (fun _ h => by first | exact h.take2 | exact h.drop.take2 | exact h.drop.drop.take2 | exact h.drop.drop.drop.take2)) (fun _ _ h => h) ?_; clear hK K; go_frame)
      (refine rgA 21 false fun K hK => ?_; (refine apTb (f := one1) hS _ _ _ _ (by rfl) _ _ (by rfl) (by rfl) (elOf (by rfl)) (by rfl) (by decide) (inOf (by rfl)) (by repeat (first | exact Has.z | apply Has.s)) [.slice none 0 0] (by intro x hx; rfl) (by exact hS.src1 (f := one1) (x := .slice none 0 0) (by repeat (first | exact Has.z | apply Has.s)) rfl) (by intro u hu; rw [one1_src _ u hu]; rfl) (by have := HD2.out; rw [List.length_singleton]; omega) (by have := HD2.out; rw [List.length_singleton]; omega) ?_; clear hS; intro v75 w1 hS; dsimp only [List.set_cons_zero, List.set_cons_succ] at hS); refine hK _ _ _ (hS.upTo (fun _ h => by first | exact h.take2 | exact h.drop.take2 | exact h.drop.drop.take2 | exact h.drop.drop.drop.take2)) (fun _ _ h => h) ?_; clear hK K; go_frame)
      (refine rgP 22 hS (fun _ h => by first | exact h.take2 | exact h.drop.take2 | exact h.drop.drop.take2 | exact h.drop.drop.drop.take2) ?_; go_frame)
      (refine rgP 23 hS (fun _ h => by first | exact h.take2 | exact h.drop.take2 | exact h.drop.drop.take2 | exact h.drop.drop.drop.take2) ?_; go_frame)
      exact hJ b8 b14 b20 v63 v69 v75 _ hS.drop.drop.drop
    ·intro K hK; (refine bsF hS _ _ _ (by rfl) (elOf (by rfl)) [.slice none 0 0] (by rfl) (by rfl) (by decide) (by decide) (by simp [Value.cells]) ?_; clear hS; intro b14 w1 hS; rw [sca1 rfl] at hS); refine hK _ _ _ (hS.upTo (fun _ h => by first | exact h.take2 | exact h.drop.take2 | exact h.drop.drop.take2 | exact h.drop.drop.drop.take2)) (fun _ h => h) ?_; clear hK K; go_frame
     (refine rgA 8 false fun K hK => ?_; (refine bsF hS _ _ _ (by rfl) (elOf (by rfl)) [.agg (nv (⟨k, o, 1, 0, 0, false⟩ : NodeD)).toArray] (by rfl) (by rfl) (by decide) (by decide) (by intro v hv; rw [List.mem_singleton.1 hv]; rfl) ?_; clear hS; intro b8 w1 hS; rw [agg1] at hS); refine hK _ _ _ (hS.upTo (fun _ h => by first | exact h.take2 | exact h.drop.take2 | exact h.drop.drop.take2 | exact h.drop.drop.drop.take2)) (fun _ _ h => h) ?_; clear hK K; go_frame)
     (refine rgA 9 false fun K hK => ?_; (refine apTb (f := nv) hS _ _ _ _ (by rfl) _ _ (by rfl) (by rfl) (elOf (by rfl)) (by rfl) (by decide) (inOf (by rfl)) (by repeat (first | exact Has.z | apply Has.s)) [(⟨k, o, 1, 0, 0, false⟩ : NodeD)] (by intro x hx; rfl) (by exact hS.src1 (f := nv) (x := (⟨k, o, 1, 0, 0, false⟩ : NodeD)) (by repeat (first | exact Has.z | apply Has.s)) rfl) (by exact nv_one _) (by have := HL.out; rw [List.length_singleton]; omega) (by have := HL.out; rw [List.length_singleton]; omega) ?_; clear hS; intro v63 w1 hS; dsimp only [List.set_cons_zero, List.set_cons_succ] at hS); refine hK _ _ _ (hS.upTo (fun _ h => by first | exact h.take2 | exact h.drop.take2 | exact h.drop.drop.take2 | exact h.drop.drop.drop.take2)) (fun _ _ h => h) ?_; clear hK K; go_frame)
     (refine rgA 15 false fun K hK => ?_; (refine apTb (f := one1) hS _ _ _ _ (by rfl) _ _ (by rfl) (by rfl) (elOf (by rfl)) (by rfl) (by decide) (inOf (by rfl)) (by repeat (first | exact Has.z | apply Has.s)) [.slice none 0 0] (by intro x hx; rfl) (by exact hS.src1 (f := one1) (x := .slice none 0 0) (by repeat (first | exact Has.z | apply Has.s)) rfl) (by intro u hu; rw [one1_src _ u hu]; rfl) (by have := HU2.out; rw [List.length_singleton]; omega) (by have := HU2.out; rw [List.length_singleton]; omega) ?_; clear hS; intro v69 w1 hS; dsimp only [List.set_cons_zero, List.set_cons_succ] at hS); refine hK _ _ _ (hS.upTo (fun _ h => by first | exact h.take2 | exact h.drop.take2 | exact h.drop.drop.take2 | exact h.drop.drop.drop.take2)) (fun _ _ h => h) ?_; clear hK K; go_frame)
     (refine rgA 21 false fun K hK => ?_; (refine apTb (f := one1) hS _ _ _ _ (by rfl) _ _ (by rfl) (by rfl) (elOf (by rfl)) (by rfl) (by decide) (inOf (by rfl)) (by repeat (first | exact Has.z | apply Has.s)) [.slice none 0 0] (by intro x hx; rfl) (by exact hS.src1 (f := one1) (x := .slice none 0 0) (by repeat (first | exact Has.z | apply Has.s)) rfl) (by intro u hu; rw [one1_src _ u hu]; rfl) (by have := HD2.out; rw [List.length_singleton]; omega) (by have := HD2.out; rw [List.length_singleton]; omega) ?_; clear hS; intro v75 w1 hS; dsimp only [List.set_cons_zero, List.set_cons_succ] at hS); refine hK _ _ _ (hS.upTo (fun _ h => by first | exact h.take2 | exact h.drop.take2 | exact h.drop.drop.take2 | exact h.drop.drop.drop.take2)) (fun _ _ h => h) ?_; clear hK K; go_frame)
     (refine rgP 22 hS (fun _ h => by first | exact h.take2 | exact h.drop.take2 | exact h.drop.drop.take2 | exact h.drop.drop.drop.take2) ?_; go_frame)
     (refine rgP 23 hS (fun _ h => by first | exact h.take2 | exact h.drop.take2 | exact h.drop.drop.take2 | exact h.drop.drop.drop.take2) ?_; go_frame)
     exact hJ b8 b14 b20 v63 v69 v75 _ hS.drop.drop.drop
  intro b8 b14 b20 v63 v69 v75 w1 hS; obtain ⟨ao1, c1, he1, _⟩ := hS.tbShape (k := 2) rfl; obtain ⟨ao2, c2, he2, _⟩ := hS.tbShape (k := 3) rfl; obtain ⟨ao3, c3, he3, _⟩ := hS.tbShape (k := 5) rfl; rw [List.length_append, List.length_singleton] at he1 he2 he3; subst he1 he2 he3
  (refine rgA 24 true fun K hK => ?_; (refine st hS _ _ _ (by rfl) _ _ (by rfl) _ (by first | exact evC | exact evT (by rfl)) (by rfl) (szOf (by rfl)) (by repeat first | exact Has.z | apply Has.s) (by exact Nat.le_of_ble_eq_true rfl) ?_; clear hS; intro w1 hS; dsimp only [List.set] at hS); refine hK _ _ _ hS (by first | (intro h; cases h; done) | exact fun _ _ h => h | exact fun _ _ h => h.drop | exact fun _ _ h => h.drop.drop | exact fun _ _ h => h.drop.pull1 | exact fun _ _ h => h.take2 | exact fun _ _ h => h.one Has.z | exact fun _ _ h => h.one (Has.s Has.z) | exact fun _ _ h => h.one (Has.s (Has.s Has.z))) ?_; clear hK K; go_frame)
  (refine rgP 25 hS (fun _ h => h) ?_; go_frame)
  (refine rgP 26 hS (fun _ h => h) ?_; go_frame)
  (refine rgA 27 true fun K hK => ?_; (refine st hS _ _ _ (by rfl) _ _ (by rfl) _ (by first | exact evC | exact evT (by rfl)) (by rfl) (szOf (by rfl)) (by repeat first | exact Has.z | apply Has.s) (by exact Nat.le_of_ble_eq_true rfl) ?_; clear hS; intro w1 hS; dsimp only [List.set] at hS); refine hK _ _ _ hS (by first | (intro h; cases h; done) | exact fun _ _ h => h | exact fun _ _ h => h.drop | exact fun _ _ h => h.drop.drop | exact fun _ _ h => h.drop.pull1 | exact fun _ _ h => h.take2 | exact fun _ _ h => h.one Has.z | exact fun _ _ h => h.one (Has.s Has.z) | exact fun _ _ h => h.one (Has.s (Has.s Has.z))) ?_; clear hK K; go_frame)
  (refine rgP 28 hS (fun _ h => h) ?_; go_frame)
  (refine rgP 29 hS (fun _ h => h) ?_; go_frame)
  (refine rgA 30 true fun K hK => ?_; (refine st hS _ _ _ (by rfl) _ _ (by rfl) _ (by first | exact evC | exact evT (by rfl)) (by rfl) (szOf (by rfl)) (by repeat first | exact Has.z | apply Has.s) (by exact Nat.le_of_ble_eq_true rfl) ?_; clear hS; intro w1 hS; dsimp only [List.set] at hS); refine hK _ _ _ hS (by first | (intro h; cases h; done) | exact fun _ _ h => h | exact fun _ _ h => h.drop | exact fun _ _ h => h.drop.drop | exact fun _ _ h => h.drop.pull1 | exact fun _ _ h => h.take2 | exact fun _ _ h => h.one Has.z | exact fun _ _ h => h.one (Has.s Has.z) | exact fun _ _ h => h.one (Has.s (Has.s Has.z))) ?_; clear hK K; go_frame)
  refine regDone (by kernel_rfl) ?_
  go_wp2
  refine regStart [12] hS (by kernel_rfl) rfl ?_
  intro w1 hS1
  clear hS; have hS := hS1; clear hS1
  (refine rgP 0 hS (fun _ h => h) ?_; go_frame)
  (refine rgP 1 hS (fun _ h => h) ?_; go_frame)
  (refine rgP 2 hS (fun _ h => h) ?_; go_frame)
  (refine rgR 3 hS (fun _ h => h) ?_; (refine ⟨_, yLd _ _ (by rfl) _ _ (by rfl) (agOf (by rfl)) (by repeat first | exact Has.z | apply Has.s) (by rfl), ?_⟩); go_frame)
  (refine rgP 4 hS (fun _ h => h) ?_; go_frame)
  (refine rgP 5 hS (fun _ h => h) ?_; go_frame)
  (refine rgP 6 hS (fun _ h => h) ?_; go_frame)
  (refine rgP 7 hS (fun _ h => h) ?_; go_frame)
  (refine rgP 8 hS (fun _ h => h) ?_; go_frame)
  (refine rgP 9 hS (fun _ h => h) ?_; go_frame)
  (refine rgR 10 hS (fun _ h => h) ?_; (refine ⟨_, yLd _ _ (by rfl) _ _ (by rfl) (agOf (by rfl)) (by repeat first | exact Has.z | apply Has.s) (by rfl), ?_⟩); go_frame)
  (refine rgP 11 hS (fun _ h => h) ?_; go_frame)
  (refine rgA 12 true fun K hK => ?_; (refine mpSt (ke := ek) (ve := nw) hS _ _ _ _ (.inl (by rfl)) (by rfl) (k, o) (by rfl) (G.N.length + 1) (by rfl) map_lat key_obj (Has.s (Has.s (Has.s (Has.s (Has.s (Has.s (Has.s (Has.s Has.z)))))))) ?_; clear hS; intro w1 hS; dsimp only [List.set] at hS); refine hK _ _ _ hS (by first | (intro h; cases h; done) | exact fun _ _ h => h | exact fun _ _ h => h.drop | exact fun _ _ h => h.drop.drop | exact fun _ _ h => h.drop.pull1 | exact fun _ _ h => h.take2 | exact fun _ _ h => h.one Has.z | exact fun _ _ h => h.one (Has.s Has.z) | exact fun _ _ h => h.one (Has.s (Has.s Has.z))) ?_; clear hK K; go_frame)
  refine regDone (by kernel_rfl) ?_
  go_wp2_with (refine toList (by rfl) ?_; refine ld hS _ _ (by rfl) _ _ (by rfl) (agOf (by rfl)) (by repeat first | exact Has.z | apply Has.s) (by rfl) ?_)
  go_ret2
  refine ⟨rfl, IsG.plus hG HU.out HD.out (me := me) (ml := ml) (by rw [HN.out]; exact hS.drop)⟩
 | some i =>
  have HV := Lib.hid (show mpVal nw (.int .i64 0) (G.latF (k, o)) = .int .i64 ((i : Int) + 1) by unfold Gr.latF; rw [hl]; rfl)
  obtain ⟨⟨x1, x2, x3, x4, x5, x6⟩, hx, hv, hi⟩ := Gr.latest_some hG hl
  have HX := Lib.hid hx
  dsimp only at hv
  have HN := Lib.hid (show G.newN k o = ⟨k, o, x3 + 1, 0, 0, false⟩ by unfold Gr.newN; rw [← hv])
  have hx3 : (x3 : Int) < 4097 := by have := Gr.count_le G k o; have := HL.out; omega
  have j1 : (i : Int) < (G.N.length : Int) := by omega
  have j2 : (i : Int) < 4096 := by have := HL.out; omega
  have e5 : decide ((0 : Int) < (i : Int) + 1) = true := decide_eq_true (by omega)
  obtain ⟨bn, off, c, he, _⟩ := hS.tbAddr (k := 1) rfl (by omega)
  simp only [Value.slice.injEq, true_and] at he
  obtain ⟨rfl, rfl⟩ := he
  clear hl hx hv hi
  go_enter Tryz.func126, Tryz.ntmps126
  go_wp2_with (first
  | (refine toList (by rfl) ?_; refine ld hS _ _ (by rfl) _ _ (by rfl) (agOf (by rfl)) (by repeat first | exact Has.z | apply Has.s) (by rfl) ?_)
  | (refine toList (by rfl) ?_; refine al hS _ (by rfl) (zrOf (by rfl)) ?_; clear hS; intro px w1 hS; rw [cells_agg] at hS)
  | (refine toList (by rfl) ?_; refine stW hS _ _ _ (by rfl) (by rfl) (nv ⟨k, o, 1, 0, 0, false⟩) (by rfl) (by exact nv_all _) (szOf (by rfl)) Has.z rfl ?_; clear hS; intro w1 hS; dsimp only [List.set_cons_zero] at hS)
  | (refine toList (by rfl) ?_; refine wp_of_reads (rLkp hS _ _ _ false (by rfl) (by rfl) (k, o) (by rfl) map_lat key_obj (zrOf (by rfl)) (Has.s (Has.s (Has.s (Has.s (Has.s (Has.s (Has.s (Has.s Has.z))))))))) ?_; rw [if_neg (by decide), HV.out])
  | (refine toList (by rfl) ?_; refine ldTb hS _ _ (by rfl) _ _ (by rfl) (agOf (by rfl)) (Has.s (Has.s Has.z)) i 2 (by omega) HX.out (by rfl) ?_)
  | (refine toList (by rfl) ?_; refine st hS _ _ _ (by rfl) _ _ (by rfl) (.int .i64 ((x3 + 1 : Nat) : Int)) (by rfl) (by rfl) (szOf (by rfl)) Has.z (by exact Nat.le_of_ble_eq_true rfl) ?_; clear hS; intro w1 hS; dsimp only [List.set_cons_zero] at hS))
  have hS1 : Sat W _ (Cs px 220 (nv ⟨k, o, x3 + 1, 0, 0, false⟩) :: _) := hS
  clear hS; have hS := hS1; clear hS1
  refine regStart2 [24, 27, 30] hS (fun _ h => h.take2) (by kernel_rfl) rfl ?_
  intro w1 hS1
  clear hS; have hS := hS1; clear hS1
  (refine rgP 0 hS (fun _ h => h.take2) ?_; go_frame)
  (refine rgP 1 hS (fun _ h => h.take2) ?_; go_frame)
  (refine rgP 2 hS (fun _ h => h.take2) ?_; go_frame)
  (refine rgP 3 hS (fun _ h => h.take2) ?_; go_frame)
  (refine rgP 4 hS (fun _ h => h.take2) ?_; go_frame)
  (refine rgP 5 hS (fun _ h => h.take2) ?_; go_frame)
  (refine rgR 6 hS (fun _ h => h.take2) ?_; (first
       | refine ⟨_, yLd _ _ (by rfl) _ _ (by rfl) (agOf (by rfl)) (by repeat first | exact Has.z | apply Has.s) (by rfl), ?_⟩
       | refine ⟨_, yLdA _ _ (by rfl) _ _ (by rfl) (agOf (by rfl)) (szOf (by rfl)) (by repeat first | exact Has.z | apply Has.s) (vs := nv (⟨k, o, x3 + 1, 0, 0, false⟩ : NodeD)) (by rfl) (by rfl), ?_⟩); go_frame)
  (refine rgR 7 hS (fun _ h => h.take2) ?_; (first
       | refine ⟨_, yLd _ _ (by rfl) _ _ (by rfl) (agOf (by rfl)) (by repeat first | exact Has.z | apply Has.s) (by rfl), ?_⟩
       | refine ⟨_, yLdA _ _ (by rfl) _ _ (by rfl) (agOf (by rfl)) (szOf (by rfl)) (by repeat first | exact Has.z | apply Has.s) (vs := nv (⟨k, o, x3 + 1, 0, 0, false⟩ : NodeD)) (by rfl) (by rfl), ?_⟩); go_frame)
  (refine rgP 10 hS (fun _ h => h.take2) ?_; go_frame)
  (refine rgP 11 hS (fun _ h => h.take2) ?_; go_frame)
  (refine rgP 12 hS (fun _ h => h.take2) ?_; go_frame)
  (refine rgR 13 hS (fun _ h => h.take2) ?_; (first
       | refine ⟨_, yLd _ _ (by rfl) _ _ (by rfl) (agOf (by rfl)) (by repeat first | exact Has.z | apply Has.s) (by rfl), ?_⟩
       | refine ⟨_, yLdA _ _ (by rfl) _ _ (by rfl) (agOf (by rfl)) (szOf (by rfl)) (by repeat first | exact Has.z | apply Has.s) (vs := nv (⟨k, o, x3 + 1, 0, 0, false⟩ : NodeD)) (by rfl) (by rfl), ?_⟩); go_frame)
  (refine rgP 16 hS (fun _ h => h.take2) ?_; go_frame)
  (refine rgP 17 hS (fun _ h => h.take2) ?_; go_frame)
  (refine rgP 18 hS (fun _ h => h.take2) ?_; go_frame)
  (refine rgR 19 hS (fun _ h => h.take2) ?_; (first
       | refine ⟨_, yLd _ _ (by rfl) _ _ (by rfl) (agOf (by rfl)) (by repeat first | exact Has.z | apply Has.s) (by rfl), ?_⟩
       | refine ⟨_, yLdA _ _ (by rfl) _ _ (by rfl) (agOf (by rfl)) (szOf (by rfl)) (by repeat first | exact Has.z | apply Has.s) (vs := nv (⟨k, o, x3 + 1, 0, 0, false⟩ : NodeD)) (by rfl) (by rfl), ?_⟩); go_frame)
  revert hS
  apply regJoin (fun (b8 b14 b20 : Nat) (v63 v69 v75 : Value) w' => Sat W w' (Cs px 220 (nv (⟨k, o, x3 + 1, 0, 0, false⟩ : NodeD)) :: Cs p 207 [.slice (some ⟨bn, off, none⟩) G.N.length cn, .slice aou vsu.length cu, .slice aod vsd.length cd, .map (some me), .map (some ml)] :: Tb 220 6 nv v63 (G.N ++ [(⟨k, o, x3 + 1, 0, 0, false⟩ : NodeD)]) :: Tb 22 1 one1 v69 (vsu ++ [.slice none 0 0]) :: St (List.zipWith Irn vsu G.upsL) :: Tb 22 1 one1 v75 (vsd ++ [.slice none 0 0]) :: St (List.zipWith Irn vsd G.downsL) :: Mp ek bw me G.edgesF :: Mp ek nw ml G.latF :: L)) ([Cs px 220 (nv (⟨k, o, x3 + 1, 0, 0, false⟩ : NodeD)), Cs p 207 [.slice (some ⟨bn, off, none⟩) G.N.length cn, .slice aou vsu.length cu, .slice aod vsd.length cd, .map (some me), .map (some ml)]])
  case h1 =>
   intro hJ hS
   refine regM3 8 14 20 rfl rfl rfl (by kernel_rfl) (by rfl) (by rfl) (by rfl) (by rfl) (by rfl) (by rfl) ?_ ?_ ?_
   ·intro K hK; (refine bsF hS _ _ _ (by rfl) (elOf (by rfl)) [.agg (nv (⟨k, o, x3 + 1, 0, 0, false⟩ : NodeD)).toArray] (by rfl) (by rfl) (by decide) (by decide) (by intro v hv; rw [List.mem_singleton.1 hv]; rfl) ?_; clear hS; intro b8 w1 hS; rw [agg1] at hS); refine hK _ _ _ (hS.upTo (fun _ h => by first | exact h.take2 | exact h.drop.take2 | exact h.drop.drop.take2 | exact h.drop.drop.drop.take2)) (fun _ h => h) ?_; clear hK K; go_frame
    refine regM3 9 14 20 rfl rfl rfl (by kernel_rfl) (by rfl) (by rfl) (by rfl) (by rfl) (by rfl) (by rfl) ?_ ?_ ?_
    ·intro K hK; (refine apTb (f := nv) hS _ _ _ _ (by rfl) _ _ (by rfl) (by rfl) (elOf (by rfl)) (by rfl) (by decide) (inOf (by rfl)) (by repeat (first | exact Has.z | apply Has.s)) [(⟨k, o, x3 + 1, 0, 0, false⟩ : NodeD)] (by intro x hx; rfl) (by exact hS.src1 (f := nv) (x := (⟨k, o, x3 + 1, 0, 0, false⟩ : NodeD)) (by repeat (first | exact Has.z | apply Has.s)) rfl) (by exact nv_one _) (by have := HL.out; rw [List.length_singleton]; omega) (by have := HL.out; rw [List.length_singleton]; omega) ?_; clear hS; intro v63 w1 hS; dsimp only [List.set_cons_zero, List.set_cons_succ] at hS); refine hK _ _ _ (hS.upTo (fun _ h => by first | exact h.take2 | exact h.drop.take2 | exact h.drop.drop.take2 | exact h.drop.drop.drop.take2)) (fun _ h => h) ?_; clear hK K; go_frame
     refine regM2 14 20 rfl rfl (by kernel_rfl) (by rfl) (by rfl) (by rfl) (by rfl) ?_ ?_
     ·intro K hK; (refine bsF hS _ _ _ (by rfl) (elOf (by rfl)) [.slice none 0 0] (by rfl) (by rfl) (by decide) (by decide) (by simp [Value.cells]) ?_; clear hS; intro b14 w1 hS; rw [sca1 rfl] at hS); refine hK _ _ _ (hS.upTo (fun _ h => by first | exact h.take2 | exact h.drop.take2 | exact h.drop.drop.take2 | exact h.drop.drop.drop.take2)) (fun _ h => h) ?_; clear hK K; go_frame
      refine regM2 15 20 rfl rfl (by kernel_rfl) (by rfl) (by rfl) (by rfl) (by rfl) ?_ ?_
      ·intro K hK; (refine apTb (f := one1) hS _ _ _ _ (by rfl) _ _ (by rfl) (by rfl) (elOf (by rfl)) (by rfl) (by decide) (inOf (by rfl)) (by repeat (first | exact Has.z | apply Has.s)) [.slice none 0 0] (by intro x hx; rfl) (by exact hS.src1 (f := one1) (x := .slice none 0 0) (by repeat (first | exact Has.z | apply Has.s)) rfl) (by intro u hu; rw [one1_src _ u hu]; rfl) (by have := HU2.out; rw [List.length_singleton]; omega) (by have := HU2.out; rw [List.length_singleton]; omega) ?_; clear hS; intro v69 w1 hS; dsimp only [List.set_cons_zero, List.set_cons_succ] at hS); refine hK _ _ _ (hS.upTo (fun _ h => by first | exact h.take2 | exact h.drop.take2 | exact h.drop.drop.take2 | exact h.drop.drop.drop.take2)) (fun _ h => h) ?_; clear hK K; go_frame
       (refine rgA 20 false fun K hK => ?_; (refine bsF hS _ _ _ (by rfl) (elOf (by rfl)) [.slice none 0 0] (by rfl) (by rfl) (by decide) (by decide) (by simp [Value.cells]) ?_; clear hS; intro b20 w1 hS; rw [sca1 rfl] at hS); refine hK _ _ _ (hS.upTo (fun _ h => by first | exact h.take2 | exact h.drop.take2 | exact h.drop.drop.take2 | exact h.drop.drop.drop.take2)) (fun _ _ h => h) ?_; clear hK K; go_frame)
       (refine rgA 21 false fun K hK => ?_; (refine apTb (f := one1) hS _ _ _ _ (by rfl) _ _ (by rfl) (by rfl) (elOf (by rfl)) (by rfl) (by decide) (inOf (by rfl)) (by repeat (first | exact Has.z | apply Has.s)) [.slice none 0 0] (by intro x hx; rfl) (by exact hS.src1 (f := one1) (x := .slice none 0 0) (by repeat (first | exact Has.z | apply Has.s)) rfl) (by intro u hu; rw [one1_src _ u hu]; rfl) (by have := HD2.out; rw [List.length_singleton]; omega) (by have := HD2.out; rw [List.length_singleton]; omega) ?_; clear hS; intro v75 w1 hS; dsimp only [List.set_cons_zero, List.set_cons_succ] at hS); refine hK _ _ _ (hS.upTo (fun _ h => by first | exact h.take2 | exact h.drop.take2 | exact h.drop.drop.take2 | exact h.drop.drop.drop.take2)) (fun _ _ h => h) ?_; clear hK K; go_frame)
       (refine rgP 22 hS (fun _ h => by first | exact h.take2 | exact h.drop.take2 | exact h.drop.drop.take2 | exact h.drop.drop.drop.take2) ?_; go_frame)
       (refine rgP 23 hS (fun _ h => by first | exact h.take2 | exact h.drop.take2 | exact h.drop.drop.take2 | exact h.drop.drop.drop.take2) ?_; go_frame)
       exact hJ b8 b14 b20 v63 v69 v75 _ hS.drop.drop.drop
      ·intro K hK; (refine bsF hS _ _ _ (by rfl) (elOf (by rfl)) [.slice none 0 0] (by rfl) (by rfl) (by decide) (by decide) (by simp [Value.cells]) ?_; clear hS; intro b20 w1 hS; rw [sca1 rfl] at hS); refine hK _ _ _ (hS.upTo (fun _ h => by first | exact h.take2 | exact h.drop.take2 | exact h.drop.drop.take2 | exact h.drop.drop.drop.take2)) (fun _ h => h) ?_; clear hK K; go_frame
       (refine rgA 15 false fun K hK => ?_; (refine apTb (f := one1) hS _ _ _ _ (by rfl) _ _ (by rfl) (by rfl) (elOf (by rfl)) (by rfl) (by decide) (inOf (by rfl)) (by repeat (first | exact Has.z | apply Has.s)) [.slice none 0 0] (by intro x hx; rfl) (by exact hS.src1 (f := one1) (x := .slice none 0 0) (by repeat (first | exact Has.z | apply Has.s)) rfl) (by intro u hu; rw [one1_src _ u hu]; rfl) (by have := HU2.out; rw [List.length_singleton]; omega) (by have := HU2.out; rw [List.length_singleton]; omega) ?_; clear hS; intro v69 w1 hS; dsimp only [List.set_cons_zero, List.set_cons_succ] at hS); refine hK _ _ _ (hS.upTo (fun _ h => by first | exact h.take2 | exact h.drop.take2 | exact h.drop.drop.take2 | exact h.drop.drop.drop.take2)) (fun _ _ h => h) ?_; clear hK K; go_frame)
       (refine rgA 21 false fun K hK => ?_; (refine apTb (f := one1) hS _ _ _ _ (by rfl) _ _ (by rfl) (by rfl) (elOf (by rfl)) (by rfl) (by decide) (inOf (by rfl)) (by repeat (first | exact Has.z | apply Has.s)) [.slice none 0 0] (by intro x hx; rfl) (by exact hS.src1 (f := one1) (x := .slice none 0 0) (by repeat (first | exact Has.z | apply Has.s)) rfl) (by intro u hu; rw [one1_src _ u hu]; rfl) (by have := HD2.out; rw [List.length_singleton]; omega) (by have := HD2.out; rw [List.length_singleton]; omega) ?_; clear hS; intro v75 w1 hS; dsimp only [List.set_cons_zero, List.set_cons_succ] at hS); refine hK _ _ _ (hS.upTo (fun _ h => by first | exact h.take2 | exact h.drop.take2 | exact h.drop.drop.take2 | exact h.drop.drop.drop.take2)) (fun _ _ h => h) ?_; clear hK K; go_frame)
       (refine rgP 22 hS (fun _ h => by first | exact h.take2 | exact h.drop.take2 | exact h.drop.drop.take2 | exact h.drop.drop.drop.take2) ?_; go_frame)
       (refine rgP 23 hS (fun _ h => by first | exact h.take2 | exact h.drop.take2 | exact h.drop.drop.take2 | exact h.drop.drop.drop.take2) ?_; go_frame)
       exact hJ b8 b14 b20 v63 v69 v75 _ hS.drop.drop.drop
     ·intro K hK; (refine bsF hS _ _ _ (by rfl) (elOf (by rfl)) [.slice none 0 0] (by rfl) (by rfl) (by decide) (by decide) (by simp [Value.cells]) ?_; clear hS; intro b20 w1 hS; rw [sca1 rfl] at hS); refine hK _ _ _ (hS.upTo (fun _ h => by first | exact h.take2 | exact h.drop.take2 | exact h.drop.drop.take2 | exact h.drop.drop.drop.take2)) (fun _ h => h) ?_; clear hK K; go_frame
      (refine rgA 14 false fun K hK => ?_; (refine bsF hS _ _ _ (by rfl) (elOf (by rfl)) [.slice none 0 0] (by rfl) (by rfl) (by decide) (by decide) (by simp [Value.cells]) ?_; clear hS; intro b14 w1 hS; rw [sca1 rfl] at hS); refine hK _ _ _ (hS.upTo (fun _ h => by first | exact h.take2 | exact h.drop.take2 | exact h.drop.drop.take2 | exact h.drop.drop.drop.take2)) (fun _ _ h => h) ?_; clear hK K; go_frame)
      (refine rgA 15 false fun K hK => ?_; (refine apTb (f := one1) hS _ _ _ _ (by rfl) _ _ (by rfl) (by rfl) (elOf (by rfl)) (by rfl) (by decide) (inOf (by rfl)) (by repeat (first | exact Has.z | apply Has.s)) [.slice none 0 0] (by intro x hx; rfl) (by exact hS.src1 (f := one1) (x := .slice none 0 0) (by repeat (first | exact Has.z | apply Has.s)) rfl) (by intro u hu; rw [one1_src _ u hu]; rfl) (by have := HU2.out; rw [List.length_singleton]; omega) (by have := HU2.out; rw [List.length_singleton]; omega) ?_; clear hS; intro v69 w1 hS; dsimp only [List.set_cons_zero, List.set_cons_succ] at hS); refine hK _ _ _ (hS.upTo (fun _ h => by first | exact h.take2 | exact h.drop.take2 | exact h.drop.drop.take2 | exact h.drop.drop.drop.take2)) (fun _ _ h => h) ?_; clear hK K; go_frame)
      (refine rgA 21 false fun K hK => ?_; (refine apTb (f := one1) hS _ _ _ _ (by rfl) _ _ (by rfl) (by rfl) (elOf (by rfl)) (by rfl) (by decide) (inOf (by rfl)) (by repeat (first | exact Has.z | apply Has.s)) [.slice none 0 0] (by intro x hx; rfl) (by exact hS.src1 (f := one1) (x := .slice none 0 0) (by repeat (first | exact Has.z | apply Has.s)) rfl) (by intro u hu; rw [one1_src _ u hu]; rfl) (by have := HD2.out; rw [List.length_singleton]; omega) (by have := HD2.out; rw [List.length_singleton]; omega) ?_; clear hS; intro v75 w1 hS; dsimp only [List.set_cons_zero, List.set_cons_succ] at hS); refine hK _ _ _ (hS.upTo (fun _ h => by first | exact h.take2 | exact h.drop.take2 | exact h.drop.drop.take2 | exact h.drop.drop.drop.take2)) (fun _ _ h => h) ?_; clear hK K; go_frame)
      (refine rgP 22 hS (fun _ h => by first | exact h.take2 | exact h.drop.take2 | exact h.drop.drop.take2 | exact h.drop.drop.drop.take2) ?_; go_frame)
      (refine rgP 23 hS (fun _ h => by first | exact h.take2 | exact h.drop.take2 | exact h.drop.drop.take2 | exact h.drop.drop.drop.take2) ?_; go_frame)
      exact hJ b8 b14 b20 v63 v69 v75 _ hS.drop.drop.drop
    ·intro K hK; (refine bsF hS _ _ _ (by rfl) (elOf (by rfl)) [.slice none 0 0] (by rfl) (by rfl) (by decide) (by decide) (by simp [Value.cells]) ?_; clear hS; intro b14 w1 hS; rw [sca1 rfl] at hS); refine hK _ _ _ (hS.upTo (fun _ h => by first | exact h.take2 | exact h.drop.take2 | exact h.drop.drop.take2 | exact h.drop.drop.drop.take2)) (fun _ h => h) ?_; clear hK K; go_frame
     refine regM2 9 20 rfl rfl (by kernel_rfl) (by rfl) (by rfl) (by rfl) (by rfl) ?_ ?_
     ·intro K hK; (refine apTb (f := nv) hS _ _ _ _ (by rfl) _ _ (by rfl) (by rfl) (elOf (by rfl)) (by rfl) (by decide) (inOf (by rfl)) (by repeat (first | exact Has.z | apply Has.s)) [(⟨k, o, x3 + 1, 0, 0, false⟩ : NodeD)] (by intro x hx; rfl) (by exact hS.src1 (f := nv) (x := (⟨k, o, x3 + 1, 0, 0, false⟩ : NodeD)) (by repeat (first | exact Has.z | apply Has.s)) rfl) (by exact nv_one _) (by have := HL.out; rw [List.length_singleton]; omega) (by have := HL.out; rw [List.length_singleton]; omega) ?_; clear hS; intro v63 w1 hS; dsimp only [List.set_cons_zero, List.set_cons_succ] at hS); refine hK _ _ _ (hS.upTo (fun _ h => by first | exact h.take2 | exact h.drop.take2 | exact h.drop.drop.take2 | exact h.drop.drop.drop.take2)) (fun _ h => h) ?_; clear hK K; go_frame
      refine regM2 15 20 rfl rfl (by kernel_rfl) (by rfl) (by rfl) (by rfl) (by rfl) ?_ ?_
      ·intro K hK; (refine apTb (f := one1) hS _ _ _ _ (by rfl) _ _ (by rfl) (by rfl) (elOf (by rfl)) (by rfl) (by decide) (inOf (by rfl)) (by repeat (first | exact Has.z | apply Has.s)) [.slice none 0 0] (by intro x hx; rfl) (by exact hS.src1 (f := one1) (x := .slice none 0 0) (by repeat (first | exact Has.z | apply Has.s)) rfl) (by intro u hu; rw [one1_src _ u hu]; rfl) (by have := HU2.out; rw [List.length_singleton]; omega) (by have := HU2.out; rw [List.length_singleton]; omega) ?_; clear hS; intro v69 w1 hS; dsimp only [List.set_cons_zero, List.set_cons_succ] at hS); refine hK _ _ _ (hS.upTo (fun _ h => by first | exact h.take2 | exact h.drop.take2 | exact h.drop.drop.take2 | exact h.drop.drop.drop.take2)) (fun _ h => h) ?_; clear hK K; go_frame
       (refine rgA 20 false fun K hK => ?_; (refine bsF hS _ _ _ (by rfl) (elOf (by rfl)) [.slice none 0 0] (by rfl) (by rfl) (by decide) (by decide) (by simp [Value.cells]) ?_; clear hS; intro b20 w1 hS; rw [sca1 rfl] at hS); refine hK _ _ _ (hS.upTo (fun _ h => by first | exact h.take2 | exact h.drop.take2 | exact h.drop.drop.take2 | exact h.drop.drop.drop.take2)) (fun _ _ h => h) ?_; clear hK K; go_frame)
       (refine rgA 21 false fun K hK => ?_; (refine apTb (f := one1) hS _ _ _ _ (by rfl) _ _ (by rfl) (by rfl) (elOf (by rfl)) (by rfl) (by decide) (inOf (by rfl)) (by repeat (first | exact Has.z | apply Has.s)) [.slice none 0 0] (by intro x hx; rfl) (by exact hS.src1 (f := one1) (x := .slice none 0 0) (by repeat (first | exact Has.z | apply Has.s)) rfl) (by intro u hu; rw [one1_src _ u hu]; rfl) (by have := HD2.out; rw [List.length_singleton]; omega) (by have := HD2.out; rw [List.length_singleton]; omega) ?_; clear hS; intro v75 w1 hS; dsimp only [List.set_cons_zero, List.set_cons_succ] at hS); refine hK _ _ _ (hS.upTo (fun _ h => by first | exact h.take2 | exact h.drop.take2 | exact h.drop.drop.take2 | exact h.drop.drop.drop.take2)) (fun _ _ h => h) ?_; clear hK K; go_frame)
       (refine rgP 22 hS (fun _ h => by first | exact h.take2 | exact h.drop.take2 | exact h.drop.drop.take2 | exact h.drop.drop.drop.take2) ?_; go_frame)
       (refine rgP 23 hS (fun _ h => by first | exact h.take2 | exact h.drop.take2 | exact h.drop.drop.take2 | exact h.drop.drop.drop.take2) ?_; go_frame)
       exact hJ b8 b14 b20 v63 v69 v75 _ hS.drop.drop.drop
      ·intro K hK; (refine bsF hS _ _ _ (by rfl) (elOf (by rfl)) [.slice none 0 0] (by rfl) (by rfl) (by decide) (by decide) (by simp [Value.cells]) ?_; clear hS; intro b20 w1 hS; rw [sca1 rfl] at hS); refine hK _ _ _ (hS.upTo (fun _ h => by first | exact h.take2 | exact h.drop.take2 | exact h.drop.drop.take2 | exact h.drop.drop.drop.take2)) (fun _ h => h) ?_; clear hK K; go_frame
       (refine rgA 15 false fun K hK => ?_; (refine apTb (f := one1) hS _ _ _ _ (by rfl) _ _ (by rfl) (by rfl) (elOf (by rfl)) (by rfl) (by decide) (inOf (by rfl)) (by repeat (first | exact Has.z | apply Has.s)) [.slice none 0 0] (by intro x hx; rfl) (by exact hS.src1 (f := one1) (x := .slice none 0 0) (by repeat (first | exact Has.z | apply Has.s)) rfl) (by intro u hu; rw [one1_src _ u hu]; rfl) (by have := HU2.out; rw [List.length_singleton]; omega) (by have := HU2.out; rw [List.length_singleton]; omega) ?_; clear hS; intro v69 w1 hS; dsimp only [List.set_cons_zero, List.set_cons_succ] at hS); refine hK _ _ _ (hS.upTo (fun _ h => by first | exact h.take2 | exact h.drop.take2 | exact h.drop.drop.take2 | exact h.drop.drop.drop.take2)) (fun _ _ h => h) ?_; clear hK K; go_frame)
       (refine rgA 21 false fun K hK => ?_; (refine apTb (f := one1) hS _ _ _ _ (by rfl) _ _ (by rfl) (by rfl) (elOf (by rfl)) (by rfl) (by decide) (inOf (by rfl)) (by repeat (first | exact Has.z | apply Has.s)) [.slice none 0 0] (by intro x hx; rfl) (by exact hS.src1 (f := one1) (x := .slice none 0 0) (by repeat (first | exact Has.z | apply Has.s)) rfl) (by intro u hu; rw [one1_src _ u hu]; rfl) (by have := HD2.out; rw [List.length_singleton]; omega) (by have := HD2.out; rw [List.length_singleton]; omega) ?_; clear hS; intro v75 w1 hS; dsimp only [List.set_cons_zero, List.set_cons_succ] at hS); refine hK _ _ _ (hS.upTo (fun _ h => by first | exact h.take2 | exact h.drop.take2 | exact h.drop.drop.take2 | exact h.drop.drop.drop.take2)) (fun _ _ h => h) ?_; clear hK K; go_frame)
       (refine rgP 22 hS (fun _ h => by first | exact h.take2 | exact h.drop.take2 | exact h.drop.drop.take2 | exact h.drop.drop.drop.take2) ?_; go_frame)
       (refine rgP 23 hS (fun _ h => by first | exact h.take2 | exact h.drop.take2 | exact h.drop.drop.take2 | exact h.drop.drop.drop.take2) ?_; go_frame)
       exact hJ b8 b14 b20 v63 v69 v75 _ hS.drop.drop.drop
     ·intro K hK; (refine bsF hS _ _ _ (by rfl) (elOf (by rfl)) [.slice none 0 0] (by rfl) (by rfl) (by decide) (by decide) (by simp [Value.cells]) ?_; clear hS; intro b20 w1 hS; rw [sca1 rfl] at hS); refine hK _ _ _ (hS.upTo (fun _ h => by first | exact h.take2 | exact h.drop.take2 | exact h.drop.drop.take2 | exact h.drop.drop.drop.take2)) (fun _ h => h) ?_; clear hK K; go_frame
      (refine rgA 9 false fun K hK => ?_; (refine apTb (f := nv) hS _ _ _ _ (by rfl) _ _ (by rfl) (by rfl) (elOf (by rfl)) (by rfl) (by decide) (inOf (by rfl)) (by repeat (first | exact Has.z | apply Has.s)) [(⟨k, o, x3 + 1, 0, 0, false⟩ : NodeD)] (by intro x hx; rfl) (by exact hS.src1 (f := nv) (x := (⟨k, o, x3 + 1, 0, 0, false⟩ : NodeD)) (by repeat (first | exact Has.z | apply Has.s)) rfl) (by exact nv_one _) (by have := HL.out; rw [List.length_singleton]; omega) (by have := HL.out; rw [List.length_singleton]; omega) ?_; clear hS; intro v63 w1 hS; dsimp only [List.set_cons_zero, List.set_cons_succ] at hS); refine hK _ _ _ (hS.upTo (fun _ h => by first | exact h.take2 | exact h.drop.take2 | exact h.drop.drop.take2 | exact h.drop.drop.drop.take2)) (fun _ _ h => h) ?_; clear hK K; go_frame)
      (refine rgA 15 false fun K hK => ?_; (refine apTb (f := one1) hS _ _ _ _ (by rfl) _ _ (by rfl) (by rfl) (elOf (by rfl)) (by rfl) (by decide) (inOf (by rfl)) (by repeat (first | exact Has.z | apply Has.s)) [.slice none 0 0] (by intro x hx; rfl) (by exact hS.src1 (f := one1) (x := .slice none 0 0) (by repeat (first | exact Has.z | apply Has.s)) rfl) (by intro u hu; rw [one1_src _ u hu]; rfl) (by have := HU2.out; rw [List.length_singleton]; omega) (by have := HU2.out; rw [List.length_singleton]; omega) ?_; clear hS; intro v69 w1 hS; dsimp only [List.set_cons_zero, List.set_cons_succ] at hS); refine hK _ _ _ (hS.upTo (fun _ h => by first | exact h.take2 | exact h.drop.take2 | exact h.drop.drop.take2 | exact h.drop.drop.drop.take2)) (fun _ _ h => h) ?_; clear hK K; go_frame)
      (refine rgA 21 false fun K hK => ?_; (refine apTb (f := one1) hS _ _ _ _ (by rfl) _ _ (by rfl) (by rfl) (elOf (by rfl)) (by rfl) (by decide) (inOf (by rfl)) (by repeat (first | exact Has.z | apply Has.s)) [.slice none 0 0] (by intro x hx; rfl) (by exact hS.src1 (f := one1) (x := .slice none 0 0) (by repeat (first | exact Has.z | apply Has.s)) rfl) (by intro u hu; rw [one1_src _ u hu]; rfl) (by have := HD2.out; rw [List.length_singleton]; omega) (by have := HD2.out; rw [List.length_singleton]; omega) ?_; clear hS; intro v75 w1 hS; dsimp only [List.set_cons_zero, List.set_cons_succ] at hS); refine hK _ _ _ (hS.upTo (fun _ h => by first | exact h.take2 | exact h.drop.take2 | exact h.drop.drop.take2 | exact h.drop.drop.drop.take2)) (fun _ _ h => h) ?_; clear hK K; go_frame)
      (refine rgP 22 hS (fun _ h => by first | exact h.take2 | exact h.drop.take2 | exact h.drop.drop.take2 | exact h.drop.drop.drop.take2) ?_; go_frame)
      (refine rgP 23 hS (fun _ h => by first | exact h.take2 | exact h.drop.take2 | exact h.drop.drop.take2 | exact h.drop.drop.drop.take2) ?_; go_frame)
      exact hJ b8 b14 b20 v63 v69 v75 _ hS.drop.drop.drop
    ·intro K hK; (refine bsF hS _ _ _ (by rfl) (elOf (by rfl)) [.slice none 0 0] (by rfl) (by rfl) (by decide) (by decide) (by simp [Value.cells]) ?_; clear hS; intro b20 w1 hS; rw [sca1 rfl] at hS); refine hK _ _ _ (hS.upTo (fun _ h => by first | exact h.take2 | exact h.drop.take2 | exact h.drop.drop.take2 | exact h.drop.drop.drop.take2)) (fun _ h => h) ?_; clear hK K; go_frame
     refine regM2 9 14 rfl rfl (by kernel_rfl) (by rfl) (by rfl) (by rfl) (by rfl) ?_ ?_
     ·intro K hK; (refine apTb (f := nv) hS _ _ _ _ (by rfl) _ _ (by rfl) (by rfl) (elOf (by rfl)) (by rfl) (by decide) (inOf (by rfl)) (by repeat (first | exact Has.z | apply Has.s)) [(⟨k, o, x3 + 1, 0, 0, false⟩ : NodeD)] (by intro x hx; rfl) (by exact hS.src1 (f := nv) (x := (⟨k, o, x3 + 1, 0, 0, false⟩ : NodeD)) (by repeat (first | exact Has.z | apply Has.s)) rfl) (by exact nv_one _) (by have := HL.out; rw [List.length_singleton]; omega) (by have := HL.out; rw [List.length_singleton]; omega) ?_; clear hS; intro v63 w1 hS; dsimp only [List.set_cons_zero, List.set_cons_succ] at hS); refine hK _ _ _ (hS.upTo (fun _ h => by first | exact h.take2 | exact h.drop.take2 | exact h.drop.drop.take2 | exact h.drop.drop.drop.take2)) (fun _ h => h) ?_; clear hK K; go_frame
      (refine rgA 14 false fun K hK => ?_; (refine bsF hS _ _ _ (by rfl) (elOf (by rfl)) [.slice none 0 0] (by rfl) (by rfl) (by decide) (by decide) (by simp [Value.cells]) ?_; clear hS; intro b14 w1 hS; rw [sca1 rfl] at hS); refine hK _ _ _ (hS.upTo (fun _ h => by first | exact h.take2 | exact h.drop.take2 | exact h.drop.drop.take2 | exact h.drop.drop.drop.take2)) (fun _ _ h => h) ?_; clear hK K; go_frame)
      (refine rgA 15 false fun K hK => ?_; (refine apTb (f := one1) hS _ _ _ _ (by rfl) _ _ (by rfl) (by rfl) (elOf (by rfl)) (by rfl) (by decide) (inOf (by rfl)) (by repeat (first | exact Has.z | apply Has.s)) [.slice none 0 0] (by intro x hx; rfl) (by exact hS.src1 (f := one1) (x := .slice none 0 0) (by repeat (first | exact Has.z | apply Has.s)) rfl) (by intro u hu; rw [one1_src _ u hu]; rfl) (by have := HU2.out; rw [List.length_singleton]; omega) (by have := HU2.out; rw [List.length_singleton]; omega) ?_; clear hS; intro v69 w1 hS; dsimp only [List.set_cons_zero, List.set_cons_succ] at hS); refine hK _ _ _ (hS.upTo (fun _ h => by first | exact h.take2 | exact h.drop.take2 | exact h.drop.drop.take2 | exact h.drop.drop.drop.take2)) (fun _ _ h => h) ?_; clear hK K; go_frame)
      (refine rgA 21 false fun K hK => ?_; (refine apTb (f := one1) hS _ _ _ _ (by rfl) _ _ (by rfl) (by rfl) (elOf (by rfl)) (by rfl) (by decide) (inOf (by rfl)) (by repeat (first | exact Has.z | apply Has.s)) [.slice none 0 0] (by intro x hx; rfl) (by exact hS.src1 (f := one1) (x := .slice none 0 0) (by repeat (first | exact Has.z | apply Has.s)) rfl) (by intro u hu; rw [one1_src _ u hu]; rfl) (by have := HD2.out; rw [List.length_singleton]; omega) (by have := HD2.out; rw [List.length_singleton]; omega) ?_; clear hS; intro v75 w1 hS; dsimp only [List.set_cons_zero, List.set_cons_succ] at hS); refine hK _ _ _ (hS.upTo (fun _ h => by first | exact h.take2 | exact h.drop.take2 | exact h.drop.drop.take2 | exact h.drop.drop.drop.take2)) (fun _ _ h => h) ?_; clear hK K; go_frame)
      (refine rgP 22 hS (fun _ h => by first | exact h.take2 | exact h.drop.take2 | exact h.drop.drop.take2 | exact h.drop.drop.drop.take2) ?_; go_frame)
      (refine rgP 23 hS (fun _ h => by first | exact h.take2 | exact h.drop.take2 | exact h.drop.drop.take2 | exact h.drop.drop.drop.take2) ?_; go_frame)
      exact hJ b8 b14 b20 v63 v69 v75 _ hS.drop.drop.drop
     ·intro K hK; (refine bsF hS _ _ _ (by rfl) (elOf (by rfl)) [.slice none 0 0] (by rfl) (by rfl) (by decide) (by decide) (by simp [Value.cells]) ?_; clear hS; intro b14 w1 hS; rw [sca1 rfl] at hS); refine hK _ _ _ (hS.upTo (fun _ h => by first | exact h.take2 | exact h.drop.take2 | exact h.drop.drop.take2 | exact h.drop.drop.drop.take2)) (fun _ h => h) ?_; clear hK K; go_frame
      (refine rgA 9 false fun K hK => ?_; (refine apTb (f := nv) hS _ _ _ _ (by rfl) _ _ (by rfl) (by rfl) (elOf (by rfl)) (by rfl) (by decide) (inOf (by rfl)) (by repeat (first | exact Has.z | apply Has.s)) [(⟨k, o, x3 + 1, 0, 0, false⟩ : NodeD)] (by intro x hx; rfl) (by exact hS.src1 (f := nv) (x := (⟨k, o, x3 + 1, 0, 0, false⟩ : NodeD)) (by repeat (first | exact Has.z | apply Has.s)) rfl) (by exact nv_one _) (by have := HL.out; rw [List.length_singleton]; omega) (by have := HL.out; rw [List.length_singleton]; omega) ?_; clear hS; intro v63 w1 hS; dsimp only [List.set_cons_zero, List.set_cons_succ] at hS); refine hK _ _ _ (hS.upTo (fun _ h => by first | exact h.take2 | exact h.drop.take2 | exact h.drop.drop.take2 | exact h.drop.drop.drop.take2)) (fun _ _ h => h) ?_; clear hK K; go_frame)
      (refine rgA 15 false fun K hK => ?_; (refine apTb (f := one1) hS _ _ _ _ (by rfl) _ _ (by rfl) (by rfl) (elOf (by rfl)) (by rfl) (by decide) (inOf (by rfl)) (by repeat (first | exact Has.z | apply Has.s)) [.slice none 0 0] (by intro x hx; rfl) (by exact hS.src1 (f := one1) (x := .slice none 0 0) (by repeat (first | exact Has.z | apply Has.s)) rfl) (by intro u hu; rw [one1_src _ u hu]; rfl) (by have := HU2.out; rw [List.length_singleton]; omega) (by have := HU2.out; rw [List.length_singleton]; omega) ?_; clear hS; intro v69 w1 hS; dsimp only [List.set_cons_zero, List.set_cons_succ] at hS); refine hK _ _ _ (hS.upTo (fun _ h => by first | exact h.take2 | exact h.drop.take2 | exact h.drop.drop.take2 | exact h.drop.drop.drop.take2)) (fun _ _ h => h) ?_; clear hK K; go_frame)
      (refine rgA 21 false fun K hK => ?_; (refine apTb (f := one1) hS _ _ _ _ (by rfl) _ _ (by rfl) (by rfl) (elOf (by rfl)) (by rfl) (by decide) (inOf (by rfl)) (by repeat (first | exact Has.z | apply Has.s)) [.slice none 0 0] (by intro x hx; rfl) (by exact hS.src1 (f := one1) (x := .slice none 0 0) (by repeat (first | exact Has.z | apply Has.s)) rfl) (by intro u hu; rw [one1_src _ u hu]; rfl) (by have := HD2.out; rw [List.length_singleton]; omega) (by have := HD2.out; rw [List.length_singleton]; omega) ?_; clear hS; intro v75 w1 hS; dsimp only [List.set_cons_zero, List.set_cons_succ] at hS); refine hK _ _ _ (hS.upTo (fun _ h => by first | exact h.take2 | exact h.drop.take2 | exact h.drop.drop.take2 | exact h.drop.drop.drop.take2)) (fun _ _ h => h) ?_; clear hK K; go_frame)
      (refine rgP 22 hS (fun _ h => by first | exact h.take2 | exact h.drop.take2 | exact h.drop.drop.take2 | exact h.drop.drop.drop.take2) ?_; go_frame)
      (refine rgP 23 hS (fun _ h => by first | exact h.take2 | exact h.drop.take2 | exact h.drop.drop.take2 | exact h.drop.drop.drop.take2) ?_; go_frame)
      exact hJ b8 b14 b20 v63 v69 v75 _ hS.drop.drop.drop
   ·intro K hK; (refine bsF hS _ _ _ (by rfl) (elOf (by rfl)) [.slice none 0 0] (by rfl) (by rfl) (by decide) (by decide) (by simp [Value.cells]) ?_; clear hS; intro b14 w1 hS; rw [sca1 rfl] at hS); refine hK _ _ _ (hS.upTo (fun _ h => by first | exact h.take2 | exact h.drop.take2 | exact h.drop.drop.take2 | exact h.drop.drop.drop.take2)) (fun _ h => h) ?_; clear hK K; go_frame
    refine regM2 8 20 rfl rfl (by kernel_rfl) (by rfl) (by rfl) (by rfl) (by rfl) ?_ ?_
    ·intro K hK; (refine bsF hS _ _ _ (by rfl) (elOf (by rfl)) [.agg (nv (⟨k, o, x3 + 1, 0, 0, false⟩ : NodeD)).toArray] (by rfl) (by rfl) (by decide) (by decide) (by intro v hv; rw [List.mem_singleton.1 hv]; rfl) ?_; clear hS; intro b8 w1 hS; rw [agg1] at hS); refine hK _ _ _ (hS.upTo (fun _ h => by first | exact h.take2 | exact h.drop.take2 | exact h.drop.drop.take2 | exact h.drop.drop.drop.take2)) (fun _ h => h) ?_; clear hK K; go_frame
     refine regM2 9 20 rfl rfl (by kernel_rfl) (by rfl) (by rfl) (by rfl) (by rfl) ?_ ?_
     ·intro K hK; (refine apTb (f := nv) hS _ _ _ _ (by rfl) _ _ (by rfl) (by rfl) (elOf (by rfl)) (by rfl) (by decide) (inOf (by rfl)) (by repeat (first | exact Has.z | apply Has.s)) [(⟨k, o, x3 + 1, 0, 0, false⟩ : NodeD)] (by intro x hx; rfl) (by exact hS.src1 (f := nv) (x := (⟨k, o, x3 + 1, 0, 0, false⟩ : NodeD)) (by repeat (first | exact Has.z | apply Has.s)) rfl) (by exact nv_one _) (by have := HL.out; rw [List.length_singleton]; omega) (by have := HL.out; rw [List.length_singleton]; omega) ?_; clear hS; intro v63 w1 hS; dsimp only [List.set_cons_zero, List.set_cons_succ] at hS); refine hK _ _ _ (hS.upTo (fun _ h => by first | exact h.take2 | exact h.drop.take2 | exact h.drop.drop.take2 | exact h.drop.drop.drop.take2)) (fun _ h => h) ?_; clear hK K; go_frame
      refine regM2 15 20 rfl rfl (by kernel_rfl) (by rfl) (by rfl) (by rfl) (by rfl) ?_ ?_
      ·intro K hK; (refine apTb (f := one1) hS _ _ _ _ (by rfl) _ _ (by rfl) (by rfl) (elOf (by rfl)) (by rfl) (by decide) (inOf (by rfl)) (by repeat (first | exact Has.z | apply Has.s)) [.slice none 0 0] (by intro x hx; rfl) (by exact hS.src1 (f := one1) (x := .slice none 0 0) (by repeat (first | exact Has.z | apply Has.s)) rfl) (by intro u hu; rw [one1_src _ u hu]; rfl) (by have := HU2.out; rw [List.length_singleton]; omega) (by have := HU2.out; rw [List.length_singleton]; omega) ?_; clear hS; intro v69 w1 hS; dsimp only [List.set_cons_zero, List.set_cons_succ] at hS); refine hK _ _ _ (hS.upTo (fun _ h => by first | exact h.take2 | exact h.drop.take2 | exact h.drop.drop.take2 | exact h.drop.drop.drop.take2)) (fun _ h => h) ?_; clear hK K; go_frame
       (refine rgA 20 false fun K hK => ?_; (refine bsF hS _ _ _ (by rfl) (elOf (by rfl)) [.slice none 0 0] (by rfl) (by rfl) (by decide) (by decide) (by simp [Value.cells]) ?_; clear hS; intro b20 w1 hS; rw [sca1 rfl] at hS); refine hK _ _ _ (hS.upTo (fun _ h => by first | exact h.take2 | exact h.drop.take2 | exact h.drop.drop.take2 | exact h.drop.drop.drop.take2)) (fun _ _ h => h) ?_; clear hK K; go_frame)
       (refine rgA 21 false fun K hK => ?_; (refine apTb (f := one1) hS _ _ _ _ (by rfl) _ _ (by rfl) (by rfl) (elOf (by rfl)) (by rfl) (by decide) (inOf (by rfl)) (by repeat (first | exact Has.z | apply Has.s)) [.slice none 0 0] (by intro x hx; rfl) (by exact hS.src1 (f := one1) (x := .slice none 0 0) (by repeat (first | exact Has.z | apply Has.s)) rfl) (by intro u hu; rw [one1_src _ u hu]; rfl) (by have := HD2.out; rw [List.length_singleton]; omega) (by have := HD2.out; rw [List.length_singleton]; omega) ?_; clear hS; intro v75 w1 hS; dsimp only [List.set_cons_zero, List.set_cons_succ] at hS); refine hK _ _ _ (hS.upTo (fun _ h => by first | exact h.take2 | exact h.drop.take2 | exact h.drop.drop.take2 | exact h.drop.drop.drop.take2)) (fun _ _ h => h) ?_; clear hK K; go_frame)
       (refine rgP 22 hS (fun _ h => by first | exact h.take2 | exact h.drop.take2 | exact h.drop.drop.take2 | exact h.drop.drop.drop.take2) ?_; go_frame)
       (refine rgP 23 hS (fun _ h => by first | exact h.take2 | exact h.drop.take2 | exact h.drop.drop.take2 | exact h.drop.drop.drop.take2) ?_; go_frame)
       exact hJ b8 b14 b20 v63 v69 v75 _ hS.drop.drop.drop
      ·intro K hK; (refine bsF hS _ _ _ (by rfl) (elOf (by rfl)) [.slice none 0 0] (by rfl) (by rfl) (by decide) (by decide) (by simp [Value.cells]) ?_; clear hS; intro b20 w1 hS; rw [sca1 rfl] at hS); refine hK _ _ _ (hS.upTo (fun _ h => by first | exact h.take2 | exact h.drop.take2 | exact h.drop.drop.take2 | exact h.drop.drop.drop.take2)) (fun _ h => h) ?_; clear hK K; go_frame
       (refine rgA 15 false fun K hK => ?_; (refine apTb (f := one1) hS _ _ _ _ (by rfl) _ _ (by rfl) (by rfl) (elOf (by rfl)) (by rfl) (by decide) (inOf (by rfl)) (by repeat (first | exact Has.z | apply Has.s)) [.slice none 0 0] (by intro x hx; rfl) (by exact hS.src1 (f := one1) (x := .slice none 0 0) (by repeat (first | exact Has.z | apply Has.s)) rfl) (by intro u hu; rw [one1_src _ u hu]; rfl) (by have := HU2.out; rw [List.length_singleton]; omega) (by have := HU2.out; rw [List.length_singleton]; omega) ?_; clear hS; intro v69 w1 hS; dsimp only [List.set_cons_zero, List.set_cons_succ] at hS); refine hK _ _ _ (hS.upTo (fun _ h => by first | exact h.take2 | exact h.drop.take2 | exact h.drop.drop.take2 | exact h.drop.drop.drop.take2)) (fun _ _ h => h) ?_; clear hK K; go_frame)
       (refine rgA 21 false fun K hK => ?_; (refine apTb (f := one1) hS _ _ _ _ (by rfl) _ _ (by rfl) (by rfl) (elOf (by rfl)) (by rfl) (by decide) (inOf (by rfl)) (by repeat (first | exact Has.z | apply Has.s)) [.slice none 0 0] (by intro x hx; rfl) (by exact hS.src1 (f := one1) (x := .slice none 0 0) (by repeat (first | exact Has.z | apply Has.s)) rfl) (by intro u hu; rw [one1_src _ u hu]; rfl) (by have := HD2.out; rw [List.length_singleton]; omega) (by have := HD2.out; rw [List.length_singleton]; omega) ?_; clear hS; intro v75 w1 hS; dsimp only [List.set_cons_zero, List.set_cons_succ] at hS); refine hK _ _ _ (hS.upTo (fun _ h => by first | exact h.take2 | exact h.drop.take2 | exact h.drop.drop.take2 | exact h.drop.drop.drop.take2)) (fun _ _ h => h) ?_; clear hK K; go_frame)
       (refine rgP 22 hS (fun _ h => by first | exact h.take2 | exact h.drop.take2 | exact h.drop.drop.take2 | exact h.drop.drop.drop.take2) ?_; go_frame)
       (refine rgP 23 hS (fun _ h => by first | exact h.take2 | exact h.drop.take2 | exact h.drop.drop.take2 | exact h.drop.drop.drop.take2) ?_; go_frame)
       exact hJ b8 b14 b20 v63 v69 v75 _ hS.drop.drop.drop
     ·intro K hK; (refine bsF hS _ _ _ (by rfl) (elOf (by rfl)) [.slice none 0 0] (by rfl) (by rfl) (by decide) (by decide) (by simp [Value.cells]) ?_; clear hS; intro b20 w1 hS; rw [sca1 rfl] at hS); refine hK _ _ _ (hS.upTo (fun _ h => by first | exact h.take2 | exact h.drop.take2 | exact h.drop.drop.take2 | exact h.drop.drop.drop.take2)) (fun _ h => h) ?_; clear hK K; go_frame
      (refine rgA 9 false fun K hK => ?_; (refine apTb (f := nv) hS _ _ _ _ (by rfl) _ _ (by rfl) (by rfl) (elOf (by rfl)) (by rfl) (by decide) (inOf (by rfl)) (by repeat (first | exact Has.z | apply Has.s)) [(⟨k, o, x3 + 1, 0, 0, false⟩ : NodeD)] (by intro x hx; rfl) (by exact hS.src1 (f := nv) (x := (⟨k, o, x3 + 1, 0, 0, false⟩ : NodeD)) (by repeat (first | exact Has.z | apply Has.s)) rfl) (by exact nv_one _) (by have := HL.out; rw [List.length_singleton]; omega) (by have := HL.out; rw [List.length_singleton]; omega) ?_; clear hS; intro v63 w1 hS; dsimp only [List.set_cons_zero, List.set_cons_succ] at hS); refine hK _ _ _ (hS.upTo (fun _ h => by first | exact h.take2 | exact h.drop.take2 | exact h.drop.drop.take2 | exact h.drop.drop.drop.take2)) (fun _ _ h => h) ?_; clear hK K; go_frame)
      (refine rgA 15 false fun K hK => ?_; (refine apTb (f := one1) hS _ _ _ _ (by rfl) _ _ (by rfl) (by rfl) (elOf (by rfl)) (by rfl) (by decide) (inOf (by rfl)) (by repeat (first | exact Has.z | apply Has.s)) [.slice none 0 0] (by intro x hx; rfl) (by exact hS.src1 (f := one1) (x := .slice none 0 0) (by repeat (first | exact Has.z | apply Has.s)) rfl) (by intro u hu; rw [one1_src _ u hu]; rfl) (by have := HU2.out; rw [List.length_singleton]; omega) (by have := HU2.out; rw [List.length_singleton]; omega) ?_; clear hS; intro v69 w1 hS; dsimp only [List.set_cons_zero, List.set_cons_succ] at hS); refine hK _ _ _ (hS.upTo (fun _ h => by first | exact h.take2 | exact h.drop.take2 | exact h.drop.drop.take2 | exact h.drop.drop.drop.take2)) (fun _ _ h => h) ?_; clear hK K; go_frame)
      (refine rgA 21 false fun K hK => ?_; (refine apTb (f := one1) hS _ _ _ _ (by rfl) _ _ (by rfl) (by rfl) (elOf (by rfl)) (by rfl) (by decide) (inOf (by rfl)) (by repeat (first | exact Has.z | apply Has.s)) [.slice none 0 0] (by intro x hx; rfl) (by exact hS.src1 (f := one1) (x := .slice none 0 0) (by repeat (first | exact Has.z | apply Has.s)) rfl) (by intro u hu; rw [one1_src _ u hu]; rfl) (by have := HD2.out; rw [List.length_singleton]; omega) (by have := HD2.out; rw [List.length_singleton]; omega) ?_; clear hS; intro v75 w1 hS; dsimp only [List.set_cons_zero, List.set_cons_succ] at hS); refine hK _ _ _ (hS.upTo (fun _ h => by first | exact h.take2 | exact h.drop.take2 | exact h.drop.drop.take2 | exact h.drop.drop.drop.take2)) (fun _ _ h => h) ?_; clear hK K; go_frame)
      (refine rgP 22 hS (fun _ h => by first | exact h.take2 | exact h.drop.take2 | exact h.drop.drop.take2 | exact h.drop.drop.drop.take2) ?_; go_frame)
      (refine rgP 23 hS (fun _ h => by first | exact h.take2 | exact h.drop.take2 | exact h.drop.drop.take2 | exact h.drop.drop.drop.take2) ?_; go_frame)
      exact hJ b8 b14 b20 v63 v69 v75 _ hS.drop.drop.drop
    ·intro K hK; (refine bsF hS _ _ _ (by rfl) (elOf (by rfl)) [.slice none 0 0] (by rfl) (by rfl) (by decide) (by decide) (by simp [Value.cells]) ?_; clear hS; intro b20 w1 hS; rw [sca1 rfl] at hS); refine hK _ _ _ (hS.upTo (fun _ h => by first | exact h.take2 | exact h.drop.take2 | exact h.drop.drop.take2 | exact h.drop.drop.drop.take2)) (fun _ h => h) ?_; clear hK K; go_frame
     (refine rgA 8 false fun K hK => ?_; (refine bsF hS _ _ _ (by rfl) (elOf (by rfl)) [.agg (nv (⟨k, o, x3 + 1, 0, 0, false⟩ : NodeD)).toArray] (by rfl) (by rfl) (by decide) (by decide) (by intro v hv; rw [List.mem_singleton.1 hv]; rfl) ?_; clear hS; intro b8 w1 hS; rw [agg1] at hS); refine hK _ _ _ (hS.upTo (fun _ h => by first | exact h.take2 | exact h.drop.take2 | exact h.drop.drop.take2 | exact h.drop.drop.drop.take2)) (fun _ _ h => h) ?_; clear hK K; go_frame)
     (refine rgA 9 false fun K hK => ?_; (refine apTb (f := nv) hS _ _ _ _ (by rfl) _ _ (by rfl) (by rfl) (elOf (by rfl)) (by rfl) (by decide) (inOf (by rfl)) (by repeat (first | exact Has.z | apply Has.s)) [(⟨k, o, x3 + 1, 0, 0, false⟩ : NodeD)] (by intro x hx; rfl) (by exact hS.src1 (f := nv) (x := (⟨k, o, x3 + 1, 0, 0, false⟩ : NodeD)) (by repeat (first | exact Has.z | apply Has.s)) rfl) (by exact nv_one _) (by have := HL.out; rw [List.length_singleton]; omega) (by have := HL.out; rw [List.length_singleton]; omega) ?_; clear hS; intro v63 w1 hS; dsimp only [List.set_cons_zero, List.set_cons_succ] at hS); refine hK _ _ _ (hS.upTo (fun _ h => by first | exact h.take2 | exact h.drop.take2 | exact h.drop.drop.take2 | exact h.drop.drop.drop.take2)) (fun _ _ h => h) ?_; clear hK K; go_frame)
     (refine rgA 15 false fun K hK => ?_; (refine apTb (f := one1) hS _ _ _ _ (by rfl) _ _ (by rfl) (by rfl) (elOf (by rfl)) (by rfl) (by decide) (inOf (by rfl)) (by repeat (first | exact Has.z | apply Has.s)) [.slice none 0 0] (by intro x hx; rfl) (by exact hS.src1 (f := one1) (x := .slice none 0 0) (by repeat (first | exact Has.z | apply Has.s)) rfl) (by intro u hu; rw [one1_src _ u hu]; rfl) (by have := HU2.out; rw [List.length_singleton]; omega) (by have := HU2.out; rw [List.length_singleton]; omega) ?_; clear hS; intro v69 w1 hS; dsimp only [List.set_cons_zero, List.set_cons_succ] at hS); refine hK _ _ _ (hS.upTo (fun _ h => by first | exact h.take2 | exact h.drop.take2 | exact h.drop.drop.take2 | exact h.drop.drop.drop.take2)) (fun _ _ h => h) ?_; clear hK K; go_frame)
     (refine rgA 21 false fun K hK => ?_; (refine apTb (f := one1) hS _ _ _ _ (by rfl) _ _ (by rfl) (by rfl) (elOf (by rfl)) (by rfl) (by decide) (inOf (by rfl)) (by repeat (first | exact Has.z | apply Has.s)) [.slice none 0 0] (by intro x hx; rfl) (by exact hS.src1 (f := one1) (x := .slice none 0 0) (by repeat (first | exact Has.z | apply Has.s)) rfl) (by intro u hu; rw [one1_src _ u hu]; rfl) (by have := HD2.out; rw [List.length_singleton]; omega) (by have := HD2.out; rw [List.length_singleton]; omega) ?_; clear hS; intro v75 w1 hS; dsimp only [List.set_cons_zero, List.set_cons_succ] at hS); refine hK _ _ _ (hS.upTo (fun _ h => by first | exact h.take2 | exact h.drop.take2 | exact h.drop.drop.take2 | exact h.drop.drop.drop.take2)) (fun _ _ h => h) ?_; clear hK K; go_frame)
     (refine rgP 22 hS (fun _ h => by first | exact h.take2 | exact h.drop.take2 | exact h.drop.drop.take2 | exact h.drop.drop.drop.take2) ?_; go_frame)
     (refine rgP 23 hS (fun _ h => by first | exact h.take2 | exact h.drop.take2 | exact h.drop.drop.take2 | exact h.drop.drop.drop.take2) ?_; go_frame)
     exact hJ b8 b14 b20 v63 v69 v75 _ hS.drop.drop.drop
   ·intro K hK; (refine bsF hS _ _ _ (by rfl) (elOf (by rfl)) [.slice none 0 0] (by rfl) (by rfl) (by decide) (by decide) (by simp [Value.cells]) ?_; clear hS; intro b20 w1 hS; rw [sca1 rfl] at hS); refine hK _ _ _ (hS.upTo (fun _ h => by first | exact h.take2 | exact h.drop.take2 | exact h.drop.drop.take2 | exact h.drop.drop.drop.take2)) (fun _ h => h) ?_; clear hK K; go_frame
    refine regM2 8 14 rfl rfl (by kernel_rfl) (by rfl) (by rfl) (by rfl) (by rfl) ?_ ?_
    ·intro K hK; (refine bsF hS _ _ _ (by rfl) (elOf (by rfl)) [.agg (nv (⟨k, o, x3 + 1, 0, 0, false⟩ : NodeD)).toArray] (by rfl) (by rfl) (by decide) (by decide) (by intro v hv; rw [List.mem_singleton.1 hv]; rfl) ?_; clear hS; intro b8 w1 hS; rw [agg1] at hS); refine hK _ _ _ (hS.upTo (fun _ h => by first | exact h.take2 | exact h.drop.take2 | exact h.drop.drop.take2 | exact h.drop.drop.drop.take2)) (fun _ h => h) ?_; clear hK K; go_frame
     refine regM2 9 14 rfl rfl (by kernel_rfl) (by rfl) (by rfl) (by rfl) (by rfl) ?_ ?_
     ·intro K hK; (refine apTb (f := nv) hS _ _ _ _ (by rfl) _ _ (by rfl) (by rfl) (elOf (by rfl)) (by rfl) (by decide) (inOf (by rfl)) (by repeat (first | exact Has.z | apply Has.s)) [(⟨k, o, x3 + 1, 0, 0, false⟩ : NodeD)] (by intro x hx; rfl) (by exact hS.src1 (f := nv) (x := (⟨k, o, x3 + 1, 0, 0, false⟩ : NodeD)) (by repeat (first | exact Has.z | apply Has.s)) rfl) (by exact nv_one _) (by have := HL.out; rw [List.length_singleton]; omega) (by have := HL.out; rw [List.length_singleton]; omega) ?_; clear hS; intro v63 w1 hS; dsimp only [List.set_cons_zero, List.set_cons_succ] at hS); refine hK _ _ _ (hS.upTo (fun _ h => by first | exact h.take2 | exact h.drop.take2 | exact h.drop.drop.take2 | exact h.drop.drop.drop.take2)) (fun _ h => h) ?_; clear hK K; go_frame
      (refine rgA 14 false fun K hK => ?_; (refine bsF hS _ _ _ (by rfl) (elOf (by rfl)) [.slice none 0 0] (by rfl) (by rfl) (by decide) (by decide) (by simp [Value.cells]) ?_; clear hS; intro b14 w1 hS; rw [sca1 rfl] at hS); refine hK _ _ _ (hS.upTo (fun _ h => by first | exact h.take2 | exact h.drop.take2 | exact h.drop.drop.take2 | exact h.drop.drop.drop.take2)) (fun _ _ h => h) ?_; clear hK K; go_frame)
      (refine rgA 15 false fun K hK => ?_; (refine apTb (f := one1) hS _ _ _ _ (by rfl) _ _ (by rfl) (by rfl) (elOf (by rfl)) (by rfl) (by decide) (inOf (by rfl)) (by repeat (first | exact Has.z | apply Has.s)) [.slice none 0 0] (by intro x hx; rfl) (by exact hS.src1 (f := one1) (x := .slice none 0 0) (by repeat (first | exact Has.z | apply Has.s)) rfl) (by intro u hu; rw [one1_src _ u hu]; rfl) (by have := HU2.out; rw [List.length_singleton]; omega) (by have := HU2.out; rw [List.length_singleton]; omega) ?_; clear hS; intro v69 w1 hS; dsimp only [List.set_cons_zero, List.set_cons_succ] at hS); refine hK _ _ _ (hS.upTo (fun _ h => by first | exact h.take2 | exact h.drop.take2 | exact h.drop.drop.take2 | exact h.drop.drop.drop.take2)) (fun _ _ h => h) ?_; clear hK K; go_frame)
      (refine rgA 21 false fun K hK => ?_; (refine apTb (f := one1) hS _ _ _ _ (by rfl) _ _ (by rfl) (by rfl) (elOf (by rfl)) (by rfl) (by decide) (inOf (by rfl)) (by repeat (first | exact Has.z | apply Has.s)) [.slice none 0 0] (by intro x hx; rfl) (by exact hS.src1 (f := one1) (x := .slice none 0 0) (by repeat (first | exact Has.z | apply Has.s)) rfl) (by intro u hu; rw [one1_src _ u hu]; rfl) (by have := HD2.out; rw [List.length_singleton]; omega) (by have := HD2.out; rw [List.length_singleton]; omega) ?_; clear hS; intro v75 w1 hS; dsimp only [List.set_cons_zero, List.set_cons_succ] at hS); refine hK _ _ _ (hS.upTo (fun _ h => by first | exact h.take2 | exact h.drop.take2 | exact h.drop.drop.take2 | exact h.drop.drop.drop.take2)) (fun _ _ h => h) ?_; clear hK K; go_frame)
      (refine rgP 22 hS (fun _ h => by first | exact h.take2 | exact h.drop.take2 | exact h.drop.drop.take2 | exact h.drop.drop.drop.take2) ?_; go_frame)
      (refine rgP 23 hS (fun _ h => by first | exact h.take2 | exact h.drop.take2 | exact h.drop.drop.take2 | exact h.drop.drop.drop.take2) ?_; go_frame)
      exact hJ b8 b14 b20 v63 v69 v75 _ hS.drop.drop.drop
     ·intro K hK; (refine bsF hS _ _ _ (by rfl) (elOf (by rfl)) [.slice none 0 0] (by rfl) (by rfl) (by decide) (by decide) (by simp [Value.cells]) ?_; clear hS; intro b14 w1 hS; rw [sca1 rfl] at hS); refine hK _ _ _ (hS.upTo (fun _ h => by first | exact h.take2 | exact h.drop.take2 | exact h.drop.drop.take2 | exact h.drop.drop.drop.take2)) (fun _ h => h) ?_; clear hK K; go_frame
      (refine rgA 9 false fun K hK => ?_; (refine apTb (f := nv) hS _ _ _ _ (by rfl) _ _ (by rfl) (by rfl) (elOf (by rfl)) (by rfl) (by decide) (inOf (by rfl)) (by repeat (first | exact Has.z | apply Has.s)) [(⟨k, o, x3 + 1, 0, 0, false⟩ : NodeD)] (by intro x hx; rfl) (by exact hS.src1 (f := nv) (x := (⟨k, o, x3 + 1, 0, 0, false⟩ : NodeD)) (by repeat (first | exact Has.z | apply Has.s)) rfl) (by exact nv_one _) (by have := HL.out; rw [List.length_singleton]; omega) (by have := HL.out; rw [List.length_singleton]; omega) ?_; clear hS; intro v63 w1 hS; dsimp only [List.set_cons_zero, List.set_cons_succ] at hS); refine hK _ _ _ (hS.upTo (fun _ h => by first | exact h.take2 | exact h.drop.take2 | exact h.drop.drop.take2 | exact h.drop.drop.drop.take2)) (fun _ _ h => h) ?_; clear hK K; go_frame)
      (refine rgA 15 false fun K hK => ?_; (refine apTb (f := one1) hS _ _ _ _ (by rfl) _ _ (by rfl) (by rfl) (elOf (by rfl)) (by rfl) (by decide) (inOf (by rfl)) (by repeat (first | exact Has.z | apply Has.s)) [.slice none 0 0] (by intro x hx; rfl) (by exact hS.src1 (f := one1) (x := .slice none 0 0) (by repeat (first | exact Has.z | apply Has.s)) rfl) (by intro u hu; rw [one1_src _ u hu]; rfl) (by have := HU2.out; rw [List.length_singleton]; omega) (by have := HU2.out; rw [List.length_singleton]; omega) ?_; clear hS; intro v69 w1 hS; dsimp only [List.set_cons_zero, List.set_cons_succ] at hS); refine hK _ _ _ (hS.upTo (fun _ h => by first | exact h.take2 | exact h.drop.take2 | exact h.drop.drop.take2 | exact h.drop.drop.drop.take2)) (fun _ _ h => h) ?_; clear hK K; go_frame)
      (refine rgA 21 false fun K hK => ?_; (refine apTb (f := one1) hS _ _ _ _ (by rfl) _ _ (by rfl) (by rfl) (elOf (by rfl)) (by rfl) (by decide) (inOf (by rfl)) (by repeat (first | exact Has.z | apply Has.s)) [.slice none 0 0] (by intro x hx; rfl) (by exact hS.src1 (f := one1) (x := .slice none 0 0) (by repeat (first | exact Has.z | apply Has.s)) rfl) (by intro u hu; rw [one1_src _ u hu]; rfl) (by have := HD2.out; rw [List.length_singleton]; omega) (by have := HD2.out; rw [List.length_singleton]; omega) ?_; clear hS; intro v75 w1 hS; dsimp only [List.set_cons_zero, List.set_cons_succ] at hS); refine hK _ _ _ (hS.upTo (fun _ h => by first | exact h.take2 | exact h.drop.take2 | exact h.drop.drop.take2 | exact h.drop.drop.drop.take2)) (fun _ _ h => h) ?_; clear hK K; go_frame)
      (refine rgP 22 hS (fun _ h => by first | exact h.take2 | exact h.drop.take2 | exact h.drop.drop.take2 | exact h.drop.drop.drop.take2) ?_; go_frame)
      (refine rgP 23 hS (fun _ h => by first | exact h.take2 | exact h.drop.take2 | exact h.drop.drop.take2 | exact h.drop.drop.drop.take2) ?_; go_frame)
      exact hJ b8 b14 b20 v63 v69 v75 _ hS.drop.drop.drop
    ·intro K hK; (refine bsF hS _ _ _ (by rfl) (elOf (by rfl)) [.slice none 0 0] (by rfl) (by rfl) (by decide) (by decide) (by simp [Value.cells]) ?_; clear hS; intro b14 w1 hS; rw [sca1 rfl] at hS); refine hK _ _ _ (hS.upTo (fun _ h => by first | exact h.take2 | exact h.drop.take2 | exact h.drop.drop.take2 | exact h.drop.drop.drop.take2)) (fun _ h => h) ?_; clear hK K; go_frame
     (refine rgA 8 false fun K hK => ?_; (refine bsF hS _ _ _ (by rfl) (elOf (by rfl)) [.agg (nv (⟨k, o, x3 + 1, 0, 0, false⟩ : NodeD)).toArray] (by rfl) (by rfl) (by decide) (by decide) (by intro v hv; rw [List.mem_singleton.1 hv]; rfl) ?_; clear hS; intro b8 w1 hS; rw [agg1] at hS); refine hK _ _ _ (hS.upTo (fun _ h => by first | exact h.take2 | exact h.drop.take2 | exact h.drop.drop.take2 | exact h.drop.drop.drop.take2)) (fun _ _ h => h) ?_; clear hK K; go_frame)
     (refine rgA 9 false fun K hK => ?_; (refine apTb (f := nv) hS _ _ _ _ (by rfl) _ _ (by rfl) (by rfl) (elOf (by rfl)) (by rfl) (by decide) (inOf (by rfl)) (by repeat (first | exact Has.z | apply Has.s)) [(⟨k, o, x3 + 1, 0, 0, false⟩ : NodeD)] (by intro x hx; rfl) (by exact hS.src1 (f := nv) (x := (⟨k, o, x3 + 1, 0, 0, false⟩ : NodeD)) (by repeat (first | exact Has.z | apply Has.s)) rfl) (by exact nv_one _) (by have := HL.out; rw [List.length_singleton]; omega) (by have := HL.out; rw [List.length_singleton]; omega) ?_; clear hS; intro v63 w1 hS; dsimp only [List.set_cons_zero, List.set_cons_succ] at hS); refine hK _ _ _ (hS.upTo (fun _ h => by first | exact h.take2 | exact h.drop.take2 | exact h.drop.drop.take2 | exact h.drop.drop.drop.take2)) (fun _ _ h => h) ?_; clear hK K; go_frame)
     (refine rgA 15 false fun K hK => ?_; (refine apTb (f := one1) hS _ _ _ _ (by rfl) _ _ (by rfl) (by rfl) (elOf (by rfl)) (by rfl) (by decide) (inOf (by rfl)) (by repeat (first | exact Has.z | apply Has.s)) [.slice none 0 0] (by intro x hx; rfl) (by exact hS.src1 (f := one1) (x := .slice none 0 0) (by repeat (first | exact Has.z | apply Has.s)) rfl) (by intro u hu; rw [one1_src _ u hu]; rfl) (by have := HU2.out; rw [List.length_singleton]; omega) (by have := HU2.out; rw [List.length_singleton]; omega) ?_; clear hS; intro v69 w1 hS; dsimp only [List.set_cons_zero, List.set_cons_succ] at hS); refine hK _ _ _ (hS.upTo (fun _ h => by first | exact h.take2 | exact h.drop.take2 | exact h.drop.drop.take2 | exact h.drop.drop.drop.take2)) (fun _ _ h => h) ?_; clear hK K; go_frame)
     (refine rgA 21 false fun K hK => ?_; (refine apTb (f := one1) hS _ _ _ _ (by rfl) _ _ (by rfl) (by rfl) (elOf (by rfl)) (by rfl) (by decide) (inOf (by rfl)) (by repeat (first | exact Has.z | apply Has.s)) [.slice none 0 0] (by intro x hx; rfl) (by exact hS.src1 (f := one1) (x := .slice none 0 0) (by repeat (first | exact Has.z | apply Has.s)) rfl) (by intro u hu; rw [one1_src _ u hu]; rfl) (by have := HD2.out; rw [List.length_singleton]; omega) (by have := HD2.out; rw [List.length_singleton]; omega) ?_; clear hS; intro v75 w1 hS; dsimp only [List.set_cons_zero, List.set_cons_succ] at hS); refine hK _ _ _ (hS.upTo (fun _ h => by first | exact h.take2 | exact h.drop.take2 | exact h.drop.drop.take2 | exact h.drop.drop.drop.take2)) (fun _ _ h => h) ?_; clear hK K; go_frame)
     (refine rgP 22 hS (fun _ h => by first | exact h.take2 | exact h.drop.take2 | exact h.drop.drop.take2 | exact h.drop.drop.drop.take2) ?_; go_frame)
     (refine rgP 23 hS (fun _ h => by first | exact h.take2 | exact h.drop.take2 | exact h.drop.drop.take2 | exact h.drop.drop.drop.take2) ?_; go_frame)
     exact hJ b8 b14 b20 v63 v69 v75 _ hS.drop.drop.drop
  intro b8 b14 b20 v63 v69 v75 w1 hS; obtain ⟨ao1, c1, he1, _⟩ := hS.tbShape (k := 2) rfl; obtain ⟨ao2, c2, he2, _⟩ := hS.tbShape (k := 3) rfl; obtain ⟨ao3, c3, he3, _⟩ := hS.tbShape (k := 5) rfl; rw [List.length_append, List.length_singleton] at he1 he2 he3; subst he1 he2 he3
  (refine rgA 24 true fun K hK => ?_; (refine st hS _ _ _ (by rfl) _ _ (by rfl) _ (by first | exact evC | exact evT (by rfl)) (by rfl) (szOf (by rfl)) (by repeat first | exact Has.z | apply Has.s) (by exact Nat.le_of_ble_eq_true rfl) ?_; clear hS; intro w1 hS; dsimp only [List.set] at hS); refine hK _ _ _ hS (by first | (intro h; cases h; done) | exact fun _ _ h => h | exact fun _ _ h => h.drop | exact fun _ _ h => h.drop.drop | exact fun _ _ h => h.drop.pull1 | exact fun _ _ h => h.take2 | exact fun _ _ h => h.one Has.z | exact fun _ _ h => h.one (Has.s Has.z) | exact fun _ _ h => h.one (Has.s (Has.s Has.z))) ?_; clear hK K; go_frame)
  (refine rgP 25 hS (fun _ h => h) ?_; go_frame)
  (refine rgP 26 hS (fun _ h => h) ?_; go_frame)
  (refine rgA 27 true fun K hK => ?_; (refine st hS _ _ _ (by rfl) _ _ (by rfl) _ (by first | exact evC | exact evT (by rfl)) (by rfl) (szOf (by rfl)) (by repeat first | exact Has.z | apply Has.s) (by exact Nat.le_of_ble_eq_true rfl) ?_; clear hS; intro w1 hS; dsimp only [List.set] at hS); refine hK _ _ _ hS (by first | (intro h; cases h; done) | exact fun _ _ h => h | exact fun _ _ h => h.drop | exact fun _ _ h => h.drop.drop | exact fun _ _ h => h.drop.pull1 | exact fun _ _ h => h.take2 | exact fun _ _ h => h.one Has.z | exact fun _ _ h => h.one (Has.s Has.z) | exact fun _ _ h => h.one (Has.s (Has.s Has.z))) ?_; clear hK K; go_frame)
  (refine rgP 28 hS (fun _ h => h) ?_; go_frame)
  (refine rgP 29 hS (fun _ h => h) ?_; go_frame)
  (refine rgA 30 true fun K hK => ?_; (refine st hS _ _ _ (by rfl) _ _ (by rfl) _ (by first | exact evC | exact evT (by rfl)) (by rfl) (szOf (by rfl)) (by repeat first | exact Has.z | apply Has.s) (by exact Nat.le_of_ble_eq_true rfl) ?_; clear hS; intro w1 hS; dsimp only [List.set] at hS); refine hK _ _ _ hS (by first | (intro h; cases h; done) | exact fun _ _ h => h | exact fun _ _ h => h.drop | exact fun _ _ h => h.drop.drop | exact fun _ _ h => h.drop.pull1 | exact fun _ _ h => h.take2 | exact fun _ _ h => h.one Has.z | exact fun _ _ h => h.one (Has.s Has.z) | exact fun _ _ h => h.one (Has.s (Has.s Has.z))) ?_; clear hK K; go_frame)
  refine regDone (by kernel_rfl) ?_
  go_wp2
  refine regStart [12] hS (by kernel_rfl) rfl ?_
  intro w1 hS1
  clear hS; have hS := hS1; clear hS1
  (refine rgP 0 hS (fun _ h => h) ?_; go_frame)
  (refine rgP 1 hS (fun _ h => h) ?_; go_frame)
  (refine rgP 2 hS (fun _ h => h) ?_; go_frame)
  (refine rgR 3 hS (fun _ h => h) ?_; (refine ⟨_, yLd _ _ (by rfl) _ _ (by rfl) (agOf (by rfl)) (by repeat first | exact Has.z | apply Has.s) (by rfl), ?_⟩); go_frame)
  (refine rgP 4 hS (fun _ h => h) ?_; go_frame)
  (refine rgP 5 hS (fun _ h => h) ?_; go_frame)
  (refine rgP 6 hS (fun _ h => h) ?_; go_frame)
  (refine rgP 7 hS (fun _ h => h) ?_; go_frame)
  (refine rgP 8 hS (fun _ h => h) ?_; go_frame)
  (refine rgP 9 hS (fun _ h => h) ?_; go_frame)
  (refine rgR 10 hS (fun _ h => h) ?_; (refine ⟨_, yLd _ _ (by rfl) _ _ (by rfl) (agOf (by rfl)) (by repeat first | exact Has.z | apply Has.s) (by rfl), ?_⟩); go_frame)
  (refine rgP 11 hS (fun _ h => h) ?_; go_frame)
  (refine rgA 12 true fun K hK => ?_; (refine mpSt (ke := ek) (ve := nw) hS _ _ _ _ (.inl (by rfl)) (by rfl) (k, o) (by rfl) (G.N.length + 1) (by rfl) map_lat key_obj (Has.s (Has.s (Has.s (Has.s (Has.s (Has.s (Has.s (Has.s Has.z)))))))) ?_; clear hS; intro w1 hS; dsimp only [List.set] at hS); refine hK _ _ _ hS (by first | (intro h; cases h; done) | exact fun _ _ h => h | exact fun _ _ h => h.drop | exact fun _ _ h => h.drop.drop | exact fun _ _ h => h.drop.pull1 | exact fun _ _ h => h.take2 | exact fun _ _ h => h.one Has.z | exact fun _ _ h => h.one (Has.s Has.z) | exact fun _ _ h => h.one (Has.s (Has.s Has.z))) ?_; clear hK K; go_frame)
  refine regDone (by kernel_rfl) ?_
  go_wp2_with (refine toList (by rfl) ?_; refine ld hS _ _ (by rfl) _ _ (by rfl) (agOf (by rfl)) (by repeat first | exact Has.z | apply Has.s) (by rfl) ?_)
  go_ret2
  refine ⟨rfl, IsG.plus hG HU.out HD.out (me := me) (ml := ml) (by rw [HN.out]; exact hS.drop)⟩

end Go.Proofs.YtchohheleofncaaGreat
