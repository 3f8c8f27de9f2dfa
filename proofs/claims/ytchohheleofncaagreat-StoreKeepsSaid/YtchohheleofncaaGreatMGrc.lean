/-
 Graphs of versions: what is above a node (plain).
 Package graph: Above, Reaches.
 Graphs of versions: an edge more (plain).
 Package graph: Edge.
 Place; Reaches (plain).
 Nothing comes from itself (plain).
 The document's graph (package pedigreeref15): Is, Has, Add.
 The document's graph (package pedigreeref15): Marks, Reaches, Edge.
 The document's graph: Reaches, Edge, Mark, Clear, Lost.
 SameInts.
-/
import Derived.Test.YtchohheleofncaaGreatMGra
import Derived.Test.YtchohheleofncaaGreatMGrb
import Derived.ScopeJumps
import Derived.WalkMore
import Derived.Test.YtchohheleofncaaGreatMSep
import Derived.Test.YtchohheleofncaaGreatMReg
set_option linter.unusedSimpArgs false
set_option linter.unusedVariables false
namespace Go
theorem wp_scope_jumps3 {P : Program} {a : Act} {w : World} {Q : Exit → Act → World → Prop} {c r : Code} (l : Nat) (J : Act → World → Prop) (μ : Act → World → Nat) (hf : findLabel c l = some (Code.skip.seq r))
  (pass : ∀ a w, J a w → r.wp P (Exit.jump l (fun a' w' => J a' w' ∧ μ a' w' < μ a w) Q) a w) (first : (∀ a w, J a w → r.wp P (Exit.jump l J Q) a w) → c.wp P (Exit.jump l J Q) a w) : (Code.scope c).wp P Q a w :=
 wp_scope_jumps l J μ hf (first fun a w h => Code.wp_mono (fun e a' w' h2 => by
  cases e with
  | goto l' => exact ⟨h2.1, h2.2.1⟩
  | _ => exact h2) (pass a w h)) fun a w h => wp_seq (wp_skip (pass a w h))
end Go
namespace Go.Proofs.YtchohheleofncaaGreat
open Go.Sep
theorem sorted_eq : ∀ {l m : List Nat}, l.Pairwise (· < ·) → m.Pairwise (· < ·) → (∀ x, x ∈ l ↔ x ∈ m) → l = m
 | [], [], _, _, _ => rfl
 | [], y :: m, _, _, h => absurd ((h y).2 (List.mem_cons_self ..)) (by simp)
 | x :: l, [], _, _, h => absurd ((h x).1 (List.mem_cons_self ..)) (by simp)
 | x :: l, y :: m, hl, hm, h => by
  rw [List.pairwise_cons] at hl hm
  have hxy : x = y := by
   have h1 := (h x).1 (List.mem_cons_self ..)
   have h2 := (h y).2 (List.mem_cons_self ..)
   rw [List.mem_cons] at h1 h2
   rcases h1 with h1 | h1
   ·exact h1
   ·rcases h2 with h2 | h2
    ·exact h2.symm
    ·have := hm.1 x h1; have := hl.1 y h2; omega
  subst hxy
  congr 1
  refine sorted_eq hl.2 hm.2 fun z => ?_
  have hz := h z
  rw [List.mem_cons, List.mem_cons] at hz
  constructor
  ·intro h1
   rcases hz.1 (.inr h1) with rfl | h2
   ·have := hl.1 z h1; omega
   ·exact h2
  ·intro h1
   rcases hz.2 (.inr h1) with rfl | h2
   ·have := hm.1 z h1; omega
   ·exact h2
theorem srt_mem {l : List Nat} {x : Nat} : x ∈ srt l ↔ x ∈ l := by unfold srt; exact List.mem_mergeSort
theorem srt_lt {l : List Nat} (h : l.Nodup) : (srt l).Pairwise (· < ·) := by
 have h1 : (srt l).Pairwise fun x y => decide (x ≤ y) = true := List.pairwise_mergeSort (fun a b c h1 h2 => by simp only [decide_eq_true_eq] at *; omega) (fun a b => by simp; omega) l
 have h2 : (srt l).Nodup := (List.mergeSort_perm l _).nodup_iff.2 h
 refine (List.Pairwise.and h1 h2).imp fun {a b} h => ?_
 have := of_decide_eq_true h.1
 have := h.2
 omega
theorem nodup_len : ∀ {n : Nat} {l : List Nat}, l.Nodup → (∀ x ∈ l, x < n) → l.length ≤ n
 | 0, [], _, _ => Nat.le_refl _
 | 0, x :: _, _, h => absurd (h x (List.mem_cons_self ..)) (by omega)
 | n + 1, l, hd, h => by
  have h2 := nodup_len (n := n) (l := l.erase n) (hd.erase n) fun x hx => by
   have h3 := (List.Nodup.mem_erase_iff hd).1 hx
   have := h x h3.2
   have := h3.1
   omega
  rw [List.length_erase] at h2
  split at h2 <;> omega
namespace Gr
open Classical in
noncomputable def above (G : Gr) (n : Nat) : List Nat := (List.range G.N.length).filter fun k => decide (G.Reach n k)
noncomputable def aboveI (G : Gr) (n : Int) : List Nat := if G.is n then G.above n.toNat else []
end Gr
theorem Gr.mem_above {G : Gr} {n k : Nat} : k ∈ G.above n ↔ k < G.N.length ∧ G.Reach n k := by simp [Gr.above]
theorem Gr.above_lt (G : Gr) (n : Nat) : (G.above n).Pairwise (· < ·) := List.Pairwise.filter _ List.pairwise_lt_range
theorem Gr.above_len (G : Gr) (n : Nat) : (G.above n).length ≤ G.N.length := by
 have := List.length_filter_le (fun k => @decide (G.Reach n k) (Classical.propDecidable _)) (List.range G.N.length)
 simpa [Gr.above] using this
noncomputable def Gr.reaches (G : Gr) (a b : Int) : Bool := (G.aboveI a).any fun y => decide ((y : Int) = b)
structure Wk (G : Gr) (n : Nat) (l : List Nat) (i : Nat) : Prop where
 nd : l.Nodup
 src : n ∈ l
 low : ∀ x ∈ l, x < G.N.length
 reach : ∀ x ∈ l, G.Reach n x
 done : ∀ j x, j < i → l[j]? = some x → ∀ y, (x, y) ∈ G.E → y ∈ l
 le : i ≤ l.length
def addS (l : List Nat) (y : Nat) : List Nat := if y ∈ l then l else l ++ [y]
theorem mem_addS {l : List Nat} {y z : Nat} : z ∈ addS l y ↔ z ∈ l ∨ z = y := by
 unfold addS
 split
 ·rename_i h
  exact ⟨.inl, fun h2 => h2.elim id fun e => e ▸ h⟩
 ·simp
theorem addS_at {l : List Nat} {y i x : Nat} (h : l[i]? = some x) : (addS l y)[i]? = some x := by
 unfold addS
 split
 ·exact h
 ·rw [List.getElem?_append_left (List.getElem?_eq_some_iff.1 h).1]; exact h
theorem Wk.start {G : Gr} {n : Nat} (h : n < G.N.length) : Wk G n [n] 0 where
 nd := by simp
 src := by simp
 low := by simpa using h
 reach := fun x hx => by rw [List.mem_singleton.1 hx]; exact Gr.Reach.refl G n
 done := by intro j x hj; omega
 le := by simp
theorem Wk.add {G : Gr} (hG : G.Ok) {n i x y : Nat} {l : List Nat} (h : Wk G n l i) (hx : l[i]? = some x) (hy : y ∈ G.ups x) : Wk G n (addS l y) i where
 nd := by
  unfold addS
  split
  ·exact h.nd
  ·rename_i hn
   rw [List.nodup_append]
   exact ⟨h.nd, by simp, fun a ha b hb => by rw [List.mem_singleton.1 hb]; rintro rfl; exact hn ha⟩
 src := mem_addS.2 (.inl h.src)
 low := fun z hz => by
  rcases mem_addS.1 hz with hz | rfl
  ·exact h.low z hz
  ·exact (Gr.mem_ups.1 hy).1
 reach := fun z hz => by
  rcases mem_addS.1 hz with hz | rfl
  ·exact h.reach z hz
  ·exact (h.reach x (List.mem_of_getElem? hx)).snoc (Gr.mem_ups.1 hy).2
 done := fun j z hj hz u hu => by
  have hlt : j < l.length := by have := h.le; omega
  obtain ⟨z', hz'⟩ : ∃ z', l[j]? = some z' := ⟨_, List.getElem?_eq_getElem hlt⟩
  have := addS_at (y := y) hz'
  rw [this] at hz; cases hz
  exact mem_addS.2 (.inl (h.done j _ hj hz' u hu))
 le := by
  have := h.le
  unfold addS
  split
  ·exact this
  ·simp; omega
theorem Wk.next {G : Gr} (hG : G.Ok) {n i x : Nat} {l : List Nat} (h : Wk G n l i) (hx : l[i]? = some x) (hy : ∀ y ∈ G.ups x, y ∈ l) : Wk G n l (i + 1) where
 nd := h.nd
 src := h.src
 low := h.low
 reach := h.reach
 done := fun j z hj hz u hu => by
  by_cases hji : j = i
  ·subst hji
   rw [hx] at hz; cases hz
   exact hy u (Gr.mem_ups.2 ⟨(hG.low _ hu).2, hu⟩)
  ·exact h.done j z (by omega) hz u hu
 le := (List.getElem?_eq_some_iff.1 hx).1
theorem Wk.len {G : Gr} {n i : Nat} {l : List Nat} (h : Wk G n l i) : l.length ≤ G.N.length := nodup_len h.nd h.low
theorem Wk.done_eq {G : Gr} {n i : Nat} {l : List Nat} (h : Wk G n l i) (hi : i = l.length) : srt l = G.above n := by
 refine sorted_eq (srt_lt h.nd) (G.above_lt n) fun x => ?_
 rw [srt_mem, Gr.mem_above]
 constructor
 ·exact fun hx => ⟨h.low x hx, h.reach x hx⟩
 ·rintro ⟨_, hx⟩
  refine hx (fun z => z ∈ l) h.src fun a b ha hab => ?_
  obtain ⟨j, hj⟩ := List.mem_iff_getElem?.1 ha
  exact h.done j a (by have := (List.getElem?_eq_some_iff.1 hj).1; omega) hj b hab
def seenF (l : List Nat) (k : Int) : Option Bool := if l.any (fun x => decide ((x : Int) = k)) then some true else none
theorem seen_one (n : Nat) : (fun k' : Int => if k' = (n : Int) then some true else (none : Option Bool)) = seenF [n] := by
 funext k
 unfold seenF
 simp only [List.any_cons, List.any_nil, Bool.or_false, decide_eq_true_eq]
 by_cases h : k = (n : Int)
 ·rw [if_pos h, if_pos h.symm]
 ·rw [if_neg h, if_neg (fun e => h e.symm)]
theorem seen_snoc (l : List Nat) (y : Nat) : (fun k' : Int => if k' = (y : Int) then some true else seenF l k') = seenF (l ++ [y]) := by
 funext k
 unfold seenF
 simp only [List.any_append, List.any_cons, List.any_nil, Bool.or_false, Bool.or_eq_true, decide_eq_true_eq]
 by_cases h : k = (y : Int)
 ·rw [if_pos h, if_pos (.inr h.symm)]
 ·rw [if_neg h]
  by_cases h2 : l.any (fun x => decide ((x : Int) = k)) = true
  ·rw [if_pos h2, if_pos (.inl h2)]
  ·rw [if_neg h2, if_neg (fun e => e.elim h2 fun e => h e.symm)]
theorem seen_yes {l : List Nat} {y : Nat} (h : y ∈ l) : mpVal bw (.bool false) (seenF l (y : Int)) = .bool true := by
 unfold seenF
 rw [if_pos (List.any_eq_true.2 ⟨y, h, by simp⟩)]; rfl
theorem seen_no {l : List Nat} {y : Nat} (h : y ∉ l) : mpVal bw (.bool false) (seenF l (y : Int)) = .bool false := by
 unfold seenF
 rw [if_neg (by
  intro h2
  obtain ⟨x, hx, he⟩ := List.any_eq_true.1 h2
  have : x = y := by have := of_decide_eq_true he; omega
  exact h (this ▸ hx))]; rfl

end Go.Proofs.YtchohheleofncaaGreat
namespace Go.Proofs.YtchohheleofncaaGreat
open Go.RowKit Go.Sep
attribute [local irreducible] Go.Oper.wp Go.wpList Go.Calls Go.Code.wp Go.Sep.Reg
attribute [local irreducible] IsG
theorem map_seen : mapB Tryz.prog 233 = some (3, 4) := by kernel_rfl
theorem key_nat : KeyOk Tryz.prog 3 (Value.int .i64) := key_int (by kernel_rfl)
def intOf : Value → Int | .int _ q => q | _ => 0
theorem IsG.mkAll {W w : World} {L : List Asrt} {p : Nat} {G : Gr} {vn vu vd : Value} {vsu vsd : List Value} {me ml : Nat} (hu : vsu.length = G.upsL.length) (hd : vsd.length = G.downsL.length)
  (h : Sat W w (Cs p 207 [vn, vu, vd, .map (some me), .map (some ml)] :: Tb 220 6 nv vn G.N :: Tb 22 1 one1 vu vsu :: St (List.zipWith Irn vsu G.upsL) ::
   Tb 22 1 one1 vd vsd :: St (List.zipWith Irn vsd G.downsL) :: Mp ek bw me G.edgesF :: Mp ek nw ml G.latF :: L)) : Sat W w (IsG p G :: L) := by
 refine IsG.mk (vn := vn) (vu := vu) (vd := vd) (me := me) (ml := ml) ?_
 rw [tb_E 22 0, tb_E 22 0] at h
 have h6 := Sat.rwsMk hd (h.re [4, 5])
 have h7 := Sat.rwsMk hu (h6.re [3, 4])
 exact h7.re [2, 3, 0, 1]
set_option maxRecDepth 20000 in
set_option maxHeartbeats 4000000 in
theorem above_any {W w : World} {L : List Asrt} {p : Nat} {G : Gr} (hS : Sat W w (IsG p G :: L)) (hG : G.Ok) (n : Int) :
  Calls Tryz.prog 157 #[.pointer (some ⟨p, 0, none⟩), .int .i64 n] w fun e w' => ∃ v, e = .returned v ∧ Sat W w' (Ir v (G.aboveI n) :: IsG p G :: L) := by
 cases hb : G.is n
 ·have HB := Lib.hid (show (!G.is n) = true by rw [hb]; rfl)
  have HF := Lib.hid (show G.aboveI n = [] by unfold Gr.aboveI; rw [if_neg (by simp [hb])])
  rw [HF.out]
  go_enter Tryz.func157, Tryz.ntmps157
  go_wp2
  go_step3
  go_wp2_with (go_at_call 143; refine (none_any hS n HB.out).mono ?_; rintro e w1 ⟨rfl, rfl⟩)
  rw [Exit.noGoto_ret]
  go_ret
  exact ⟨_, rfl, hS.irNil⟩
 have HB := Lib.hid (show (!G.is n) = false by rw [hb]; rfl)
 obtain ⟨m, rfl, hm⟩ := Gr.is_nat hb
 have HF := Lib.hid (show G.aboveI (m : Int) = G.above m by unfold Gr.aboveI; rw [if_pos hb]; rfl)
 clear hb
 obtain ⟨vn, vu, vd, vsu, vsd, me, ml, hu, hd, hO⟩ := IsG.openAll hS
 have HU := Lib.hid hu
 have HD := Lib.hid hd
 clear hu hd
 rw [HF.out]
 go_enter Tryz.func157, Tryz.ntmps157
 go_wp2
 refine wp_scope_jumps3 0 (fun a' w' => ∃ (i : Nat) (l : List Nat) (vl : Value) (bs : Nat) (u9 u17 u18 u19 u20 u21 u22 u23 u24 u25 u26 u27 u28 u29 u30 u31 u32 u33 u34 u35 u36 u37 u38 u39 u40 u41 u42 u43 u44 u45 u46 u47 u48 u49 : Value), Wk G m l i ∧ Sat W w' (Ir vl l :: Mp (Value.int .i64) bw bs (seenF l) :: Cs p 207 [vn, vu, vd, .map (some me), .map (some ml)] :: Tb 220 6 nv vn G.N :: Tb 22 1 one1 vu vsu :: St (List.zipWith Irn vsu G.upsL) :: Tb 22 1 one1 vd vsd :: St (List.zipWith Irn vsd G.downsL) :: Mp ek bw me G.edgesF :: Mp ek nw ml G.latF :: L) ∧ a' = { tmps := #[.pointer (some ⟨p, 0, none⟩), .int .i64 (m : Int), undef, undef, .slice none 0 0, .map (some bs), vl, .int .i64 (i : Int), undef, u9, .pointer (some ⟨p, 0, none⟩), .int .i64 (m : Int), .bool false, .map (some bs), .int .i64 (m : Int), .map (some bs), .int .i64 (m : Int), u17, u18, u19, u20, u21, u22, u23, u24, u25, u26, u27, u28, u29, u30, u31, u32, u33, u34, u35, u36, u37, u38, u39, u40, u41, u42, u43, u44, u45, u46, u47, u48, u49, undef, undef, undef], defers := [] }) (fun a' _ => G.N.length - (intOf (a'.tmps.getD 7 undef)).toNat) rfl ?_ ?_
 ·clear hO hS
  rintro a' w' ⟨i, l, vl, bs, u9, u17, u18, u19, u20, u21, u22, u23, u24, u25, u26, u27, u28, u29, u30, u31, u32, u33, u34, u35, u36, u37, u38, u39, u40, u41, u42, u43, u44, u45, u46, u47, u48, u49, hW, hS, rfl⟩
  have hll := hW.len
  have hgl := hG.len
  obtain ⟨aol, cl0, rfl, _⟩ := hS.irShape (k := 0) rfl
  by_cases hlt : i < l.length
  ·obtain ⟨x, hx⟩ : ∃ x, l[i]? = some x := ⟨_, List.getElem?_eq_getElem hlt⟩
   have hxl := hW.low x (List.mem_of_getElem? hx)
   obtain ⟨vx, hvx⟩ : ∃ v, vsu[x]? = some v := ⟨_, List.getElem?_eq_getElem (by rw [HU.out, Gr.upsL_len]; exact hxl)⟩
   have hux := Gr.upsL_at hxl
   obtain ⟨L1, hrow⟩ := irnRow (k := 5) hS rfl hvx hux
   obtain ⟨aox, cx, rfl, _⟩ := hrow.irShape (k := 0) rfl
   have HROW : ∀ w (L' : List Asrt), Sat W w (St (List.zipWith Irn vsu G.upsL) :: L') → Rd w (.slice aox (G.ups x).length cx) (G.ups x).length 1 (iv (G.ups x)) := fun w L' h => by
    obtain ⟨_, h2⟩ := irnRow (k := 0) h rfl hvx hux
    exact h2.irRd (k := 0) rfl
   have HROW := Lib.hid HROW
   have hul := Gr.ups_len G x
   have HX := Lib.hid hx
   have HVX := Lib.hid hvx
   have HW := Lib.hid hW
   have HSU := Lib.hid (show vsu.length = G.N.length by rw [HU.out, Gr.upsL_len])
   have hsu : (x : Int) < (vsu.length : Int) := by rw [HSU.out]; omega
   obtain ⟨bu, ofu, cu, rfl, _⟩ := hS.tbAddr (k := 4) rfl (by rw [HSU.out]; omega)
   obtain ⟨bl, ofl, cl1, he, _⟩ := hS.slAddr (k := 0) (E := 0) (sz := 1) rfl (by omega)
   simp only [Value.slice.injEq, true_and] at he
   obtain ⟨rfl, rfl⟩ := he
   have j1 : (i : Int) < (l.length : Int) := by omega
   have j2 : (l.length : Int) ≤ 4096 := by omega
   have j3 : ((G.ups x).length : Int) ≤ 4096 := by omega
   have e1 : decide (i < l.length) = true := decide_eq_true hlt
   have e2 : decide ((i : Int) < (l.length : Int)) = true := decide_eq_true j1
   clear hx hvx hux hrow hW hlt
   go_wp2
   refine regStart [] hS (by kernel_rfl) rfl ?_
   intro w1 hS1
   clear hS; have hS := hS1; clear hS1
   (refine rgP 0 hS (fun _ h => h) ?_; go_frame)
   (refine rgP 1 hS (fun _ h => h) ?_; go_frame)
   (refine rgP 2 hS (fun _ h => h) ?_; go_frame)
   (refine rgR 3 hS (fun _ h => h) ?_; (first
          | refine ⟨_, yLd _ _ (by rfl) _ _ (by rfl) (agOf (by rfl)) (by repeat first | exact Has.z | apply Has.s) (by rfl), ?_⟩
          | refine ⟨_, yLdSl _ _ (by rfl) _ _ (by rfl) (agOf (by rfl)) (E := 0) (sz := 1) (vs := iv l) Has.z i (by omega) (iv_at HX.out), ?_⟩
          | refine ⟨_, yLdTb (f := one1) (x := .slice aox (G.ups x).length cx) _ _ (by rfl) _ _ (by rfl) (agOf (by rfl)) (Has.s (Has.s (Has.s (Has.s Has.z)))) x 0 (by omega) HVX.out (by rfl), ?_⟩); go_frame)
   (refine rgP 4 hS (fun _ h => h) ?_; go_frame)
   (refine rgP 5 hS (fun _ h => h) ?_; go_frame)
   (refine rgP 6 hS (fun _ h => h) ?_; go_frame)
   (refine rgR 7 hS (fun _ h => h) ?_; (first
          | refine ⟨_, yLd _ _ (by rfl) _ _ (by rfl) (agOf (by rfl)) (by repeat first | exact Has.z | apply Has.s) (by rfl), ?_⟩
          | refine ⟨_, yLdSl _ _ (by rfl) _ _ (by rfl) (agOf (by rfl)) (E := 0) (sz := 1) (vs := iv l) Has.z i (by omega) (iv_at HX.out), ?_⟩
          | refine ⟨_, yLdTb (f := one1) (x := .slice aox (G.ups x).length cx) _ _ (by rfl) _ _ (by rfl) (agOf (by rfl)) (Has.s (Has.s (Has.s (Has.s Has.z)))) x 0 (by omega) HVX.out (by rfl), ?_⟩); go_frame)
   (refine rgP 8 hS (fun _ h => h) ?_; go_frame)
   (refine rgR 9 hS (fun _ h => h) ?_; (first
          | refine ⟨_, yLd _ _ (by rfl) _ _ (by rfl) (agOf (by rfl)) (by repeat first | exact Has.z | apply Has.s) (by rfl), ?_⟩
          | refine ⟨_, yLdSl _ _ (by rfl) _ _ (by rfl) (agOf (by rfl)) (E := 0) (sz := 1) (vs := iv l) Has.z i (by omega) (iv_at HX.out), ?_⟩
          | refine ⟨_, yLdTb (f := one1) (x := .slice aox (G.ups x).length cx) _ _ (by rfl) _ _ (by rfl) (agOf (by rfl)) (Has.s (Has.s (Has.s (Has.s Has.z)))) x 0 (by omega) HVX.out (by rfl), ?_⟩); go_frame)
   (refine rgP 10 hS (fun _ h => h) ?_; go_frame)
   (refine rgP 11 hS (fun _ h => h) ?_; go_frame)
   refine regDone (by kernel_rfl) ?_
   go_wp2
   go_loopw [6, 33] (fun v6 v33 wz => ∃ (j : Nat) (l' : List Nat), v33 = .int .i64 (j : Int) ∧ j ≤ (G.ups x).length ∧ Wk G m l' i ∧ l'[i]? = some x ∧ (∀ y ∈ (G.ups x).take j, y ∈ l') ∧ Sat W wz (Ir v6 l' :: Mp (Value.int .i64) bw bs (seenF l') :: Cs p 207 [vn, .slice (some ⟨bu, ofu, none⟩) vsu.length cu, vd, .map (some me), .map (some ml)] :: Tb 220 6 nv vn G.N :: Tb 22 1 one1 (.slice (some ⟨bu, ofu, none⟩) vsu.length cu) vsu :: St (List.zipWith Irn vsu G.upsL) :: Tb 22 1 one1 vd vsd :: St (List.zipWith Irn vsd G.downsL) :: Mp ek bw me G.edgesF :: Mp ek nw ml G.latF :: L)) (fun _ v33 _ => (G.ups x).length - (intOf v33).toNat)
   case atStart => exact ⟨0, l, rfl, Nat.zero_le _, HW.out, HX.out, by simp, hS⟩
   case round =>
    clear hS
    obtain ⟨j, l', rfl, hj, hW', hx', hin, hS⟩ := hrel
    have hl2 := hW'.len
    have hi2 := (List.getElem?_eq_some_iff.1 hx').1
    by_cases hlt : j < (G.ups x).length
    ·obtain ⟨y, hy⟩ : ∃ y, (G.ups x)[j]? = some y := ⟨_, List.getElem?_eq_getElem hlt⟩
     have hym := List.mem_of_getElem? hy
     have HY := Lib.hid hy
     have HT := Lib.hid (show (G.ups x).take (j + 1) = (G.ups x).take j ++ [y] by rw [List.take_add_one, hy]; rfl)
     obtain ⟨bx, ofx, rfl⟩ : ∃ bx ofx, aox = some ⟨bx, ofx, none⟩ := by
      obtain ⟨_, _, he, h1, h2, h3, h5⟩ := HROW.out _ _ (hS.re [5])
      obtain ⟨b', o', h6, _⟩ := h5 (by omega)
      simp only [Value.slice.injEq] at he
      exact ⟨b', o', by rw [he.1, h6]⟩
     have k1 : (j : Int) < ((G.ups x).length : Int) := by omega
     have k2 : (l'.length : Int) ≤ 4096 := by omega
     have HLT := Lib.hid hlt
     have HLN := Lib.hid (show l'.length ≤ 4096 by omega)
     clear hy hlt
     by_cases hy' : y ∈ l'
     ·have HSE := Lib.hid (seen_yes hy')
      go_wp2_with (first
       | (refine toList (by rfl) ?_; refine ld hS _ _ (by rfl) _ _ (by rfl) (agOf (by rfl)) (by repeat first | exact Has.z | apply Has.s) (by rfl) ?_)
       | (refine toList (by rfl) ?_; refine wp_of_reads (rLdRd1 (HROW.out _ _ (hS.re [5])) _ _ (by rfl) _ (by rfl) (agOf (by rfl)) j (by omega) (iv_at HY.out) (by omega)) ?_)
       | (refine toList (by rfl) ?_; refine wp_of_reads (rLkp hS _ _ _ false (by rfl) (by rfl) (y : Int) (by rfl) map_seen key_nat (zrOf (by rfl)) (Has.s Has.z)) ?_; rw [if_neg (by decide), HSE.out]))
      exact ⟨⟨j + 1, l', by go_num, HLT.out, hW', hx', fun z hz => by rw [HT.out, List.mem_append, List.mem_singleton] at hz; rcases hz with hz | rfl; exact hin z hz; exact hy', hS⟩, by simp [intOf]; omega⟩
     ·have HSE := Lib.hid (seen_no hy')
      have HA := Lib.hid (show addS l' y = l' ++ [y] by unfold addS; rw [if_neg hy'])
      have HWA := Lib.hid (hW'.add hG hx' hym)
      have HXA := Lib.hid (addS_at (y := y) hx')
      go_wp2_with (first
       | (refine toList (by rfl) ?_; refine ld hS _ _ (by rfl) _ _ (by rfl) (agOf (by rfl)) (by repeat first | exact Has.z | apply Has.s) (by rfl) ?_)
       | (refine toList (by rfl) ?_; refine wp_of_reads (rLdRd1 (HROW.out _ _ (hS.re [5])) _ _ (by rfl) _ (by rfl) (agOf (by rfl)) j (by omega) (iv_at HY.out) (by omega)) ?_)
       | (refine toList (by rfl) ?_; refine wp_of_reads (rLkp hS _ _ _ false (by rfl) (by rfl) (y : Int) (by rfl) map_seen key_nat (zrOf (by rfl)) (Has.s Has.z)) ?_; rw [if_neg (by decide), HSE.out])
       | (refine toList (by rfl) ?_; refine mpSt (ke := Value.int .i64) (ve := bw) hS _ _ _ _ (.inl (by rfl)) (by rfl) (y : Int) (by rfl) true (by rfl) map_seen key_nat (Has.s Has.z) ?_; clear hS; intro w1 hS; dsimp only [List.set_cons_zero, List.set_cons_succ] at hS; rw [seen_snoc] at hS)
       | (refine toList (by rfl) ?_; refine bsF hS _ _ _ (by rfl) (elOf (by rfl)) [.int .i64 y] (by rfl) (by rfl) (by decide) (by decide) (by simp [Value.cells]) ?_; clear hS; intro b1 w1 hS; rw [sca1 rfl] at hS)
       | (refine toList (by rfl) ?_; refine apI (m := [y]) hS _ _ _ _ (by rfl) (by rfl) (by rfl) (elOf (by rfl)) (by rfl) (by rfl) (by rfl) (inOf (by rfl)) (Has.s Has.z) (by exact hS.csRd0 (n := 1) (sz := 1) Has.z (by decide) rfl) (by have := HLN.out; rw [List.length_singleton]; omega) ?_; clear hS; intro v1 w1 hS; dsimp only [List.set_cons_zero, List.set_cons_succ] at hS; rw [← HA.out] at hS))
      exact ⟨⟨j + 1, addS l' y, by go_num, HLT.out, HWA.out, HXA.out, fun z hz => by rw [HT.out, List.mem_append, List.mem_singleton] at hz; exact mem_addS.2 (hz.imp_left (hin z)), hS.drop⟩, by simp [intOf]; omega⟩
    ·obtain rfl : j = (G.ups x).length := by omega
     rw [List.take_length] at hin
     have HN := Lib.hid (hW'.next hG hx' hin)
     have k2 : (i : Int) < 4096 := by omega
     clear hin hlt hj
     go_wp2
     go_step3
     refine And.intro rfl (And.intro ⟨i + 1, l', _, bs, _, _, _, _, _, _, _, _, _, _, _, _, _, _, _, _, _, _, _, _, _, _, _, _, _, _, _, _, _, _, _, _, _, _, HN.out, hS, rfl⟩ ?_)
     simp [intOf]
     omega
  ·have hil : i = l.length := by have := hW.le; omega
   have HDN := Lib.hid (hW.done_eq hil)
   have e1 : decide (i < l.length) = false := decide_eq_false hlt
   have e2 : decide ((i : Int) < (l.length : Int)) = false := decide_eq_false (by omega)
   clear hlt hil hW
   go_wp2_with (go_at_call 169; refine (sort_any hS (by omega)).mono ?_; clear hS; rintro e w1 ⟨rfl, hS⟩)
   simp only [Exit.jump]
   go_ret
   rw [HDN.out] at hS
   exact ⟨_, rfl, Sat.pull1 (IsG.mkAll HU.out HD.out (hS.pull1.drop.re [1, 2, 3, 4, 5, 6, 7, 8, 0]))⟩
 ·intro HP
  go_wp2_with (first
   | (go_at_call 143; refine (none_any hS m HB.out).mono ?_; rintro e w1 ⟨rfl, rfl⟩)
   | (refine toList (by rfl) ?_; refine mpMake (Value.int .i64) bw hO _ (by rfl) ?_; intro bs w1 hS1; clear hO; have hO := hS1; clear hS1)
   | (refine toList (by rfl) ?_; refine mpSt (ke := Value.int .i64) (ve := bw) hO _ _ _ _ (.inr (by rfl)) (by rfl) (m : Int) (by rfl) true (by rfl) map_seen key_nat Has.z ?_; intro w1 hS1; clear hO; have hO := hS1; clear hS1; dsimp only [List.set_cons_zero] at hO; rw [seen_one] at hO)
   | (refine toList (by rfl) ?_; refine bsF hO _ _ _ (by rfl) (elOf (by rfl)) [.int .i64 m] (by rfl) (by rfl) (by decide) (by decide) (by simp [Value.cells]) ?_; intro b1 w1 hS1; clear hO; have hO := hS1; clear hS1; rw [sca1 rfl] at hO))
  go_step3
  rename_i K hK
  exact hK _ _ (HP _ _ ⟨0, [m], _, bs, _, _, _, _, _, _, _, _, _, _, _, _, _, _, _, _, _, _, _, _, _, _, _, _, _, _, _, _, _, _, _, _, _, _, Wk.start hm, Sat.slMk (n := 1) (sz := 1) (cap := 1) (off := 0) (pre := []) (vs := iv [m]) (rest := []) hO (Nat.le_refl _) (by decide) rfl rfl (Nat.le_refl 1), rfl⟩)
theorem Gr.aboveI_len {G : Gr} (n : Int) : (G.aboveI n).length ≤ G.N.length := by
 unfold Gr.aboveI
 split
 ·exact Gr.above_len G _
 ·exact Nat.zero_le _
theorem reaches_any {W w : World} {L : List Asrt} {p : Nat} {G : Gr} (hS : Sat W w (IsG p G :: L)) (hG : G.Ok) (a b : Int) :
  Calls Tryz.prog 144 #[.pointer (some ⟨p, 0, none⟩), .int .i64 a, .int .i64 b] w fun e w' => e = .returned (.bool (G.reaches a b)) ∧ Sat W w' (IsG p G :: L) := by
 have HL := Lib.hid (show (G.aboveI a).length ≤ 1000000 by have := hG.len; have := Gr.aboveI_len (G := G) a; omega)
 obtain ⟨r, hr⟩ : ∃ r, G.reaches a b = r := ⟨_, rfl⟩
 have HR := Lib.hid (show (G.aboveI a).any (fun y => decide ((y : Int) = b)) = r from hr)
 rw [hr]
 clear hr
 go_enter Tryz.func144, Tryz.ntmps144
 go_wp2_with (first
  | (go_at_call 157; refine (above_any hS hG a).mono ?_; clear hS; rintro e w1 ⟨v1, rfl, hS⟩; obtain ⟨ao1, c1, rfl, _⟩ := hS.irShape (k := 0) rfl)
  | (go_at_call 156; refine (contains_any hS _ _ _ (hS.irRd (k := 0) rfl) HL.out b HR.out).mono ?_; rintro e w1 ⟨rfl, rfl⟩))
 go_ret
 exact ⟨rfl, hS.drop⟩

end Go.Proofs.YtchohheleofncaaGreat
namespace Go.Proofs.YtchohheleofncaaGreat
open Go.Sep
theorem ins_cons {y : Nat} {l : List Nat} (hs : (y :: l).Pairwise (· < ·)) (x : Nat) : ins (y :: l) x = if y < x then y :: ins l x else x :: y :: l := by
 unfold ins insAt
 rw [List.pairwise_cons] at hs
 by_cases h : y < x
 ·rw [if_pos h, List.countP_cons_of_pos (by simpa using h)]; rfl
 ·rw [if_neg h, List.countP_cons_of_neg (by simpa using h)]
  have h0 : l.countP (fun z => decide (z < x)) = 0 := List.countP_eq_zero.2 fun z hz => by have := hs.1 z hz; simp; omega
  rw [h0]; rfl
theorem ins_mem {x z : Nat} {l : List Nat} : z ∈ ins l x ↔ z = x ∨ z ∈ l := by
 unfold ins insAt
 rw [List.mem_append, List.mem_cons]
 conv => rhs; rw [← List.take_append_drop (l.countP (· < x)) l, List.mem_append]
 constructor
 ·rintro (h | rfl | h)
  ·exact .inr (.inl h)
  ·exact .inl rfl
  ·exact .inr (.inr h)
 ·rintro (rfl | h | h)
  ·exact .inr (.inl rfl)
  ·exact .inl h
  ·exact .inr (.inr h)
theorem ins_lt : ∀ {l : List Nat} {x : Nat}, l.Pairwise (· < ·) → x ∉ l → (ins l x).Pairwise (· < ·)
 | [], x, _, _ => by simp [ins, insAt]
 | y :: l, x, hs, hx => by
  rw [ins_cons hs]
  have hs' := List.pairwise_cons.1 hs
  have hne : y ≠ x := fun e => hx (e ▸ List.mem_cons_self ..)
  split
  ·rename_i h
   rw [List.pairwise_cons]
   refine ⟨fun z hz => ?_, ins_lt hs'.2 fun h2 => hx (List.mem_cons_of_mem _ h2)⟩
   rcases ins_mem.1 hz with rfl | hz
   ·exact h
   ·exact hs'.1 z hz
  ·rename_i h
   rw [List.pairwise_cons]
   refine ⟨fun z hz => ?_, hs⟩
   rcases List.mem_cons.1 hz with rfl | hz
   ·omega
   ·have := hs'.1 z hz; omega
theorem ins_ne (l : List Nat) (x : Nat) : ins l x ≠ [] := by unfold ins insAt; simp
namespace Gr
def link (G : Gr) (a b : Nat) : Gr := ⟨G.N, G.E ++ [(a, b)]⟩
theorem ups_lt (G : Gr) (n : Nat) : (G.ups n).Pairwise (· < ·) := List.Pairwise.filter _ List.pairwise_lt_range
theorem downs_lt (G : Gr) (n : Nat) : (G.downs n).Pairwise (· < ·) := List.Pairwise.filter _ List.pairwise_lt_range
theorem link_ups {G : Gr} {a b : Nat} (hb : b < G.N.length) (hn : (a, b) ∉ G.E) (n : Nat) : (G.link a b).ups n = if n = a then ins (G.ups a) b else G.ups n := by
 split
 ·rename_i h
  subst h
  refine sorted_eq (ups_lt _ _) (ins_lt (ups_lt _ _) fun h => hn (mem_ups.1 h).2) fun z => ?_
  rw [ins_mem, mem_ups, mem_ups]
  simp only [link, List.mem_append, List.mem_singleton, Prod.mk.injEq, true_and]
  constructor
  ·rintro ⟨h1, h2 | h2⟩
   ·exact .inr ⟨h1, h2⟩
   ·exact .inl h2
  ·rintro (rfl | ⟨h1, h2⟩)
   ·exact ⟨hb, .inr rfl⟩
   ·exact ⟨h1, .inl h2⟩
 ·rename_i h
  refine sorted_eq (ups_lt _ _) (ups_lt _ _) fun z => ?_
  rw [mem_ups, mem_ups]
  simp only [link, List.mem_append, List.mem_singleton, Prod.mk.injEq]
  constructor
  ·rintro ⟨h1, h2 | h2⟩
   ·exact ⟨h1, h2⟩
   ·exact absurd h2.1 h
  ·exact fun ⟨h1, h2⟩ => ⟨h1, .inl h2⟩
theorem link_downs {G : Gr} {a b : Nat} (ha : a < G.N.length) (hn : (a, b) ∉ G.E) (n : Nat) : (G.link a b).downs n = if n = b then ins (G.downs b) a else G.downs n := by
 split
 ·rename_i h
  subst h
  refine sorted_eq (downs_lt _ _) (ins_lt (downs_lt _ _) fun h => hn (mem_downs.1 h).2) fun z => ?_
  rw [ins_mem, mem_downs, mem_downs]
  simp only [link, List.mem_append, List.mem_singleton, Prod.mk.injEq, and_true]
  constructor
  ·rintro ⟨h1, h2 | h2⟩
   ·exact .inr ⟨h1, h2⟩
   ·exact .inl h2
  ·rintro (rfl | ⟨h1, h2⟩)
   ·exact ⟨ha, .inr rfl⟩
   ·exact ⟨h1, .inl h2⟩
 ·rename_i h
  refine sorted_eq (downs_lt _ _) (downs_lt _ _) fun z => ?_
  rw [mem_downs, mem_downs]
  simp only [link, List.mem_append, List.mem_singleton, Prod.mk.injEq]
  constructor
  ·rintro ⟨h1, h2 | h2⟩
   ·exact ⟨h1, h2⟩
   ·exact absurd h2.2 h
  ·exact fun ⟨h1, h2⟩ => ⟨h1, .inl h2⟩
theorem map_range_set {f g : Nat → List Nat} {n i : Nat} {v : List Nat} (hi : i < n) (h : ∀ k, g k = if k = i then v else f k) : (List.range n).map g = ((List.range n).map f).set i v := by
 apply List.ext_getElem?
 intro k
 simp only [List.getElem?_map, List.getElem?_set, List.length_map, List.length_range]
 by_cases hk : k < n
 ·rw [List.getElem?_range hk, Option.map_some, h k]
  by_cases hik : i = k
  ·subst hik; rw [if_pos rfl, if_pos rfl, if_pos hi]
  ·rw [if_neg (fun e => hik e.symm), if_neg hik]; rfl
 ·rw [List.getElem?_eq_none (by simpa using hk), if_neg (by omega)]; rfl
theorem link_upsL {G : Gr} {a b : Nat} (ha : a < G.N.length) (hb : b < G.N.length) (hn : (a, b) ∉ G.E) : (G.link a b).upsL = G.upsL.set a (ins (G.ups a) b) :=
 map_range_set (f := G.ups) (g := (G.link a b).ups) (n := G.N.length) ha (link_ups hb hn)
theorem link_downsL {G : Gr} {a b : Nat} (ha : a < G.N.length) (hb : b < G.N.length) (hn : (a, b) ∉ G.E) : (G.link a b).downsL = G.downsL.set b (ins (G.downs b) a) :=
 map_range_set (f := G.downs) (g := (G.link a b).downs) (n := G.N.length) hb (link_downs ha hn)
theorem has_nat {G : Gr} {a b : Nat} : G.has ((a : Int), (b : Int)) = true ↔ (a, b) ∈ G.E := by
 unfold has
 rw [List.any_eq_true]
 constructor
 ·rintro ⟨⟨x, y⟩, hx, he⟩
  simp only [Bool.and_eq_true, decide_eq_true_eq] at he
  obtain ⟨h1, h2⟩ := he
  obtain rfl : x = a := by omega
  obtain rfl : y = b := by omega
  exact hx
 ·exact fun h => ⟨_, h, by simp⟩
theorem link_edges (G : Gr) (a b : Nat) : (fun q : Int × Int => if q = ((a : Int), (b : Int)) then some true else G.edgesF q) = (G.link a b).edgesF := by
 funext q
 unfold edgesF has link
 rw [List.any_append]
 simp only [List.any_cons, List.any_nil, Bool.or_false]
 by_cases h : q = ((a : Int), (b : Int))
 ·subst h; simp
 ·rw [if_neg h]
  have h2 : (decide ((a : Int) = q.1) && decide ((b : Int) = q.2)) = false := by
   cases h3 : (decide ((a : Int) = q.1) && decide ((b : Int) = q.2)) with
   | false => rfl
   | true =>
    simp only [Bool.and_eq_true, decide_eq_true_eq] at h3
    exact absurd (Prod.ext h3.1.symm h3.2.symm) h
  rw [h2, Bool.or_false]
theorem link_ok {G : Gr} (hG : G.Ok) {a b : Nat} (ha : a < G.N.length) (hb : b < G.N.length) (hn : (a, b) ∉ G.E) (hl : G.E.length < 1000000) : (G.link a b).Ok where
 len := hG.len
 low := fun e he => by
  simp only [link, List.mem_append, List.mem_singleton] at he
  rcases he with he | rfl
  ·exact hG.low e he
  ·exact ⟨ha, hb⟩
 edges := by simp [link]; omega
 one := by
  simp only [link]
  rw [List.nodup_append]
  exact ⟨hG.one, by simp, fun x hx y hy => by rw [List.mem_singleton.1 hy]; rintro rfl; exact hn hx⟩
 marks := hG.marks
 vers := hG.vers
end Gr
noncomputable def Gr.edgeE (G : Gr) (a b : Int) : Int := if !G.is a || !G.is b || decide (a = b) then 1 else if G.has (a, b) then 23 else if G.reaches b a then 11 else 0
noncomputable def Gr.edgeG (G : Gr) (a b : Int) : Gr := if G.edgeE a b = 0 then G.link a.toNat b.toNat else G
theorem Gr.edge_yes {G : Gr} {a b : Int} (h : G.edgeE a b = 0) : ∃ x y : Nat, a = x ∧ b = y ∧ x < G.N.length ∧ y < G.N.length ∧ x ≠ y ∧ (x, y) ∉ G.E ∧ ¬ G.Reach y x := by
 unfold Gr.edgeE at h
 split at h
 ·cases h
 ·rename_i h1
  simp only [Bool.or_eq_true, Bool.not_eq_true', decide_eq_true_eq, not_or, Bool.not_eq_false] at h1
  obtain ⟨⟨h1, h2⟩, h3⟩ := h1
  obtain ⟨x, rfl, hx⟩ := Gr.is_nat h1
  obtain ⟨y, rfl, hy⟩ := Gr.is_nat h2
  split at h
  ·cases h
  ·rename_i h4
   split at h
   ·cases h
   ·rename_i h5
    refine ⟨x, y, rfl, rfl, hx, hy, by omega, fun he => h4 (Gr.has_nat.2 he), fun hr => h5 ?_⟩
    unfold Gr.reaches Gr.aboveI
    rw [if_pos h2]
    exact List.any_eq_true.2 ⟨x, Gr.mem_above.2 ⟨hx, hr⟩, by simp⟩
theorem Gr.edgeG_ok {G : Gr} (hG : G.Ok) (a b : Int) (hl : G.E.length < 1000000) : (G.edgeG a b).Ok := by
 unfold Gr.edgeG
 split
 ·rename_i h
  obtain ⟨x, y, rfl, rfl, hx, hy, _, hn, _⟩ := Gr.edge_yes h
  exact Gr.link_ok hG hx hy hn hl
 ·exact hG

end Go.Proofs.YtchohheleofncaaGreat
namespace Go.Proofs.YtchohheleofncaaGreat
open Go.RowKit Go.Sep
attribute [local irreducible] Go.Oper.wp Go.wpList Go.Calls Go.Code.wp Go.Sep.Reg
attribute [local irreducible] IsG
theorem IsG.link {W w : World} {L : List Asrt} {p : Nat} {G : Gr} {a b : Nat} (ha : a < G.N.length) (hb : b < G.N.length) (hn : (a, b) ∉ G.E) {vn vu vd v1 v2 : Value} {vsu vsd : List Value} {me ml : Nat} (hu : vsu.length = G.upsL.length) (hd : vsd.length = G.downsL.length)
  (h : Sat W w (Cs p 207 [vn, vu, vd, .map (some me), .map (some ml)] :: Tb 22 1 one1 vu (vsu.set a v1) :: Tb 22 1 one1 vd (vsd.set b v2) :: Ir v1 (ins (G.ups a) b) :: Ir v2 (ins (G.downs b) a) :: Tb 220 6 nv vn G.N :: St (List.zipWith Irn vsu G.upsL) ::
   St (List.zipWith Irn vsd G.downsL) :: Mp ek bw me (G.link a b).edgesF :: Mp ek nw ml G.latF :: L)) : Sat W w (IsG p (G.link a b) :: L) := by
 refine IsG.mkAll (vn := vn) (vu := vu) (vd := vd) (vsu := vsu.set a v1) (vsd := vsd.set b v2) (me := me) (ml := ml) ?_ ?_ ?_
 ·rw [Gr.link_upsL ha hb hn, List.length_set, List.length_set]; exact hu
 ·rw [Gr.link_downsL ha hb hn, List.length_set, List.length_set]; exact hd
 rw [Gr.link_upsL ha hb hn, Gr.link_downsL ha hb hn, zipWith_set, zipWith_set]
 have h1 := irnMk (fun e => absurd e (ins_ne _ _)) (h.re [3])
 have h2 := Sat.stPut (i := a) (h1.re [0, 6]) (by rw [List.length_zipWith, hu, Nat.min_self, Gr.upsL_len]; exact ha)
 have h3 := irnMk (fun e => absurd e (ins_ne _ _)) (h2.re [4])
 have h4 := Sat.stPut (i := b) (h3.re [0, 6]) (by rw [List.length_zipWith, hd, Nat.min_self, Gr.downsL_len]; exact hb)
 exact h4.re [2, 5, 3, 1, 4, 0]
theorem take3 {W w : World} {A B C : Asrt} : ∀ {L : List Asrt}, Sat W w (A :: B :: C :: L) → Sat W w [A, B, C]
 | [], h => h
 | _ :: _, h => take3 h.pull3.drop
theorem push3 {W w : World} {A B C D : Asrt} {L : List Asrt} (h : Sat W w (A :: B :: C :: D :: L)) : Sat W w (B :: C :: D :: A :: L) := h.re [1, 2, 3]
theorem push4 {W w : World} {A B C D E : Asrt} {L : List Asrt} (h : Sat W w (A :: B :: C :: D :: E :: L)) : Sat W w (B :: C :: D :: E :: A :: L) := h.re [1, 2, 3, 4]
theorem IsG.openFront {W w : World} {L : List Asrt} {p : Nat} {G : Gr} (h : Sat W w (IsG p G :: L)) : ∃ vn vu vd vsu vsd me ml, vsu.length = G.upsL.length ∧ vsd.length = G.downsL.length ∧
  Sat W w (Cs p 207 [vn, vu, vd, .map (some me), .map (some ml)] :: Tb 22 1 one1 vu vsu :: Tb 22 1 one1 vd vsd :: Tb 220 6 nv vn G.N :: St (List.zipWith Irn vsu G.upsL) ::
   St (List.zipWith Irn vsd G.downsL) :: Mp ek bw me G.edgesF :: Mp ek nw ml G.latF :: L) := by
 obtain ⟨vn, vu, vd, vsu, vsd, me, ml, hu, hd, hO⟩ := IsG.openAll h
 exact ⟨vn, vu, vd, vsu, vsd, me, ml, hu, hd, hO.re [0, 2, 4, 1, 3, 5]⟩
set_option maxRecDepth 20000 in
set_option maxHeartbeats 4000000 in
theorem edge_any {W w : World} {L : List Asrt} {p : Nat} {G : Gr} (hS : Sat W w (IsG p G :: L)) (hG : G.Ok) (a b : Int) :
  Calls Tryz.prog 127 #[.pointer (some ⟨p, 0, none⟩), .int .i64 a, .int .i64 b] w fun e w' => e = .returned (.int .i64 (G.edgeE a b)) ∧ Sat W w' (IsG p (G.edgeG a b) :: L) := by
 cases ha : G.is a
 ·have HE := Lib.hid (show G.edgeE a b = 1 by unfold Gr.edgeE; rw [if_pos (by simp [ha])])
  have HB := Lib.hid (show (!G.is a) = true by rw [ha]; rfl)
  unfold Gr.edgeG
  rw [HE.out, if_neg (by decide)]
  clear ha
  go_enter Tryz.func127, Tryz.ntmps127
  go_wp2_with (go_at_call 143; refine (none_any hS a HB.out).mono ?_; rintro e w1 ⟨rfl, rfl⟩)
  go_ret
  exact ⟨rfl, hS⟩
 have HA := Lib.hid (show (!G.is a) = false by rw [ha]; rfl)
 cases hb : G.is b
 ·have HE := Lib.hid (show G.edgeE a b = 1 by unfold Gr.edgeE; rw [if_pos (by simp [hb])])
  have HB := Lib.hid (show (!G.is b) = true by rw [hb]; rfl)
  unfold Gr.edgeG
  rw [HE.out, if_neg (by decide)]
  clear ha hb
  go_enter Tryz.func127, Tryz.ntmps127
  go_wp2_with (first
   | (go_at_call 143; refine (none_any hS a HA.out).mono ?_; rintro e w1 ⟨rfl, rfl⟩)
   | (go_at_call 143; refine (none_any hS b HB.out).mono ?_; rintro e w1 ⟨rfl, rfl⟩))
  go_ret
  exact ⟨rfl, hS⟩
 have HB := Lib.hid (show (!G.is b) = false by rw [hb]; rfl)
 by_cases hab : a = b
 ·have HE := Lib.hid (show G.edgeE a b = 1 by unfold Gr.edgeE; rw [if_pos (by simp [hab])])
  have e1 : (a == b) = true := beq_iff_eq.2 hab
  unfold Gr.edgeG
  rw [HE.out, if_neg (by decide)]
  clear ha hb hab
  go_enter Tryz.func127, Tryz.ntmps127
  go_wp2_with (first
   | (go_at_call 143; refine (none_any hS a HA.out).mono ?_; rintro e w1 ⟨rfl, rfl⟩)
   | (go_at_call 143; refine (none_any hS b HB.out).mono ?_; rintro e w1 ⟨rfl, rfl⟩))
  go_ret
  exact ⟨rfl, hS⟩
 have e1 : (a == b) = false := beq_eq_false_iff_ne.2 hab
 have HT : (!G.is a || !G.is b || decide (a = b)) = false := by rw [ha, hb, decide_eq_false hab]; rfl
 clear ha hb hab
 obtain ⟨vn, vu, vd, vsu, vsd, me, ml, hu, hd, hO⟩ := IsG.openAll hS
 cases hh : G.has (a, b) with
 | true =>
  have HE := Lib.hid (show G.edgeE a b = 23 by unfold Gr.edgeE; rw [HT, hh]; rfl)
  have HV := Lib.hid (show mpVal bw (.bool false) (G.edgesF (a, b)) = .bool true by unfold Gr.edgesF; rw [hh]; rfl)
  unfold Gr.edgeG
  rw [HE.out, if_neg (by decide)]
  clear HT hh
  go_enter Tryz.func127, Tryz.ntmps127
  go_wp2_with (first
   | (go_at_call 143; refine (none_any hS a HA.out).mono ?_; rintro e w1 ⟨rfl, rfl⟩)
   | (go_at_call 143; refine (none_any hS b HB.out).mono ?_; rintro e w1 ⟨rfl, rfl⟩)
   | (refine toList (by rfl) ?_; refine ld hO _ _ (by rfl) _ _ (by rfl) (agOf (by rfl)) Has.z (by rfl) ?_)
   | (refine toList (by rfl) ?_; refine wp_of_reads (rLkp hO _ _ _ false (by rfl) (by rfl) (a, b) (by rfl) map_edg key_edge (zrOf (by rfl)) (Has.s (Has.s (Has.s (Has.s (Has.s (Has.s Has.z))))))) ?_; rw [if_neg (by decide), HV.out]))
  go_ret
  exact ⟨rfl, hS⟩
 | false =>
  have HV := Lib.hid (show mpVal bw (.bool false) (G.edgesF (a, b)) = .bool false by unfold Gr.edgesF; rw [hh]; rfl)
  cases hr : G.reaches b a with
  | true =>
   have HE := Lib.hid (show G.edgeE a b = 11 by unfold Gr.edgeE; rw [HT, hh, hr]; rfl)
   have HRC := Lib.hid (fun w (h : Sat W w (IsG p G :: L)) => hr ▸ reaches_any h hG b a)
   unfold Gr.edgeG
   rw [HE.out, if_neg (by decide)]
   clear HT hh hr
   go_enter Tryz.func127, Tryz.ntmps127
   go_wp2_with (first
    | (go_at_call 143; refine (none_any hS a HA.out).mono ?_; rintro e w1 ⟨rfl, rfl⟩)
    | (go_at_call 143; refine (none_any hS b HB.out).mono ?_; rintro e w1 ⟨rfl, rfl⟩)
    | (refine toList (by rfl) ?_; refine ld hO _ _ (by rfl) _ _ (by rfl) (agOf (by rfl)) Has.z (by rfl) ?_)
    | (refine toList (by rfl) ?_; refine wp_of_reads (rLkp hO _ _ _ false (by rfl) (by rfl) (a, b) (by rfl) map_edg key_edge (zrOf (by rfl)) (Has.s (Has.s (Has.s (Has.s (Has.s (Has.s Has.z))))))) ?_; rw [if_neg (by decide), HV.out])
    | (go_at_call 144; refine (HRC.out _ hS).mono ?_; rintro e w1 ⟨rfl, hS1⟩; clear hO; clear hS; have hS := hS1; clear hS1))
   go_ret
   exact ⟨rfl, hS⟩
  | false =>
   have hE : G.edgeE a b = 0 := by unfold Gr.edgeE; rw [HT, hh, hr]; rfl
   have HRC := Lib.hid (fun w (h : Sat W w (IsG p G :: L)) => hr ▸ reaches_any h hG b a)
   obtain ⟨x, y, rfl, rfl, hx, hy, _, hn, _⟩ := Gr.edge_yes hE
   have HE := Lib.hid hE
   have HN := Lib.hid hn
   have HX := Lib.hid hx
   have HY := Lib.hid hy
   have hgl := hG.len
   have HUL := Lib.hid (show (G.ups x).length ≤ 999999 by have := Gr.ups_len G x; omega)
   have HDL := Lib.hid (show (G.downs y).length ≤ 999999 by have := Gr.downs_len G y; omega)
   have HUS := Lib.hid ((Gr.ups_lt G x).imp (fun {a b : Nat} (h : a < b) => Nat.le_of_lt h))
   have HDS := Lib.hid ((Gr.downs_lt G y).imp (fun {a b : Nat} (h : a < b) => Nat.le_of_lt h))
   have hgi : (G.N.length : Int) ≤ 4096 := by omega
   have hxi : (x : Int) < (G.N.length : Int) := by omega
   have hyi : (y : Int) < (G.N.length : Int) := by omega
   unfold Gr.edgeG
   rw [HE.out, if_pos rfl, Int.toNat_natCast, Int.toNat_natCast]
   clear HT hh hr hE hn hu hd hx hy hgl
   go_enter Tryz.func127, Tryz.ntmps127
   go_wp2_with (first
    | (go_at_call 143; refine (none_any hS x HA.out).mono ?_; rintro e w1 ⟨rfl, rfl⟩)
    | (go_at_call 143; refine (none_any hS y HB.out).mono ?_; rintro e w1 ⟨rfl, rfl⟩)
    | (refine toList (by rfl) ?_; refine ld hO _ _ (by rfl) _ _ (by rfl) (agOf (by rfl)) Has.z (by rfl) ?_)
    | (refine toList (by rfl) ?_; refine wp_of_reads (rLkp hO _ _ _ false (by rfl) (by rfl) ((x : Int), (y : Int)) (by rfl) map_edg key_edge (zrOf (by rfl)) (Has.s (Has.s (Has.s (Has.s (Has.s (Has.s Has.z))))))) ?_; rw [if_neg (by decide), HV.out])
    | (go_at_call 144; refine (HRC.out _ hS).mono ?_; rintro e w1 ⟨rfl, hS1⟩; clear hO; clear hS; have hS := hS1; clear hS1; obtain ⟨vn, vu, vd, vsu, vsd, me, ml, hu, hd, hS1⟩ := IsG.openFront hS; clear hS; have hS := hS1; clear hS1; have HU := Lib.hid hu; have HD := Lib.hid hd; clear hu hd)
    | (refine toList (by rfl) ?_; refine ld hS _ _ (by rfl) _ _ (by rfl) (agOf (by rfl)) (by repeat first | exact Has.z | apply Has.s) (by rfl) ?_)
    | (refine toList (by rfl) ?_; refine mpSt (ke := ek) (ve := bw) hS _ _ _ _ (.inl (by rfl)) (by rfl) ((x : Int), (y : Int)) (by rfl) true (by rfl) map_edg key_edge (Has.s (Has.s (Has.s (Has.s (Has.s (Has.s Has.z)))))) ?_; clear hS; intro w1 hS; dsimp only [List.set_cons_zero, List.set_cons_succ] at hS; rw [Gr.link_edges] at hS))
   have hsu : vsu.length = G.N.length := by rw [HU.out, Gr.upsL_len]
   have hsd : vsd.length = G.N.length := by rw [HD.out, Gr.downsL_len]
   obtain ⟨vx, hvx⟩ : ∃ v, vsu[x]? = some v := ⟨_, List.getElem?_eq_getElem (by omega)⟩
   obtain ⟨vy, hvy⟩ : ∃ v, vsd[y]? = some v := ⟨_, List.getElem?_eq_getElem (by omega)⟩
   have HRU : ∀ w (L' : List Asrt), Sat W w (St (List.zipWith Irn vsu G.upsL) :: L') → Rd w vx (G.ups x).length 1 (iv (G.ups x)) := fun w L' h => by
    obtain ⟨_, h2⟩ := irnRow (k := 0) h rfl hvx (Gr.upsL_at HX.out)
    exact h2.irRd (k := 0) rfl
   have HRD : ∀ w (L' : List Asrt), Sat W w (St (List.zipWith Irn vsd G.downsL) :: L') → Rd w vy (G.downs y).length 1 (iv (G.downs y)) := fun w L' h => by
    obtain ⟨_, h2⟩ := irnRow (k := 0) h rfl hvy (Gr.downsL_at HY.out)
    exact h2.irRd (k := 0) rfl
   have HRU := Lib.hid HRU
   have HRD := Lib.hid HRD
   have HZU := Lib.hid (irnRowNil (k := 4) hS rfl hvx (Gr.upsL_at HX.out))
   have HZD := Lib.hid (irnRowNil (k := 5) hS rfl hvy (Gr.downsL_at HY.out))
   have HVX := Lib.hid hvx
   have HVY := Lib.hid hvy
   obtain ⟨bu, ofu, cu, rfl, _⟩ := hS.tbAddr (k := 1) rfl (by omega)
   obtain ⟨bd, ofd, cd, rfl, _⟩ := hS.tbAddr (k := 2) rfl (by omega)
   have j1 : (x : Int) < (vsu.length : Int) := by omega
   have j2 : (y : Int) < (vsd.length : Int) := by omega
   clear hsu hsd hvx hvy
   refine regStart2 [29, 31] hS (fun _ h => take3 h) (by kernel_rfl) rfl ?_
   intro w1 hS1
   clear hS; have hS := hS1; clear hS1
   (refine rgP 0 hS (fun _ h => take3 h) ?_; go_frame)
   (refine rgP 1 hS (fun _ h => take3 h) ?_; go_frame)
   (refine rgP 2 hS (fun _ h => take3 h) ?_; go_frame)
   (refine rgR 3 hS (fun _ h => take3 h) ?_; (first
          | refine ⟨_, yLd _ _ (by rfl) _ _ (by rfl) (agOf (by rfl)) (by repeat first | exact Has.z | apply Has.s) (by rfl), ?_⟩
          | refine ⟨_, yLdTb (f := one1) (x := vx) _ _ (by rfl) _ _ (by rfl) (agOf (by rfl)) (Has.s Has.z) x 0 (by omega) HVX.out (by rfl), ?_⟩
          | refine ⟨_, yLdTb (f := one1) (x := vy) _ _ (by rfl) _ _ (by rfl) (agOf (by rfl)) (Has.s (Has.s Has.z)) y 0 (by omega) HVY.out (by rfl), ?_⟩); go_frame)
   (refine rgP 4 hS (fun _ h => take3 h) ?_; go_frame)
   (refine rgP 5 hS (fun _ h => take3 h) ?_; go_frame)
   (refine rgP 6 hS (fun _ h => take3 h) ?_; go_frame)
   (refine rgP 7 hS (fun _ h => take3 h) ?_; go_frame)
   (refine rgR 8 hS (fun _ h => take3 h) ?_; (first
          | refine ⟨_, yLd _ _ (by rfl) _ _ (by rfl) (agOf (by rfl)) (by repeat first | exact Has.z | apply Has.s) (by rfl), ?_⟩
          | refine ⟨_, yLdTb (f := one1) (x := vx) _ _ (by rfl) _ _ (by rfl) (agOf (by rfl)) (Has.s Has.z) x 0 (by omega) HVX.out (by rfl), ?_⟩
          | refine ⟨_, yLdTb (f := one1) (x := vy) _ _ (by rfl) _ _ (by rfl) (agOf (by rfl)) (Has.s (Has.s Has.z)) y 0 (by omega) HVY.out (by rfl), ?_⟩); go_frame)
   (refine rgP 9 hS (fun _ h => take3 h) ?_; go_frame)
   (refine rgP 10 hS (fun _ h => take3 h) ?_; go_frame)
   (refine rgP 11 hS (fun _ h => take3 h) ?_; go_frame)
   (refine rgP 12 hS (fun _ h => take3 h) ?_; go_frame)
   (refine rgR 13 hS (fun _ h => take3 h) ?_; (first
          | refine ⟨_, yLd _ _ (by rfl) _ _ (by rfl) (agOf (by rfl)) (by repeat first | exact Has.z | apply Has.s) (by rfl), ?_⟩
          | refine ⟨_, yLdTb (f := one1) (x := vx) _ _ (by rfl) _ _ (by rfl) (agOf (by rfl)) (Has.s Has.z) x 0 (by omega) HVX.out (by rfl), ?_⟩
          | refine ⟨_, yLdTb (f := one1) (x := vy) _ _ (by rfl) _ _ (by rfl) (agOf (by rfl)) (Has.s (Has.s Has.z)) y 0 (by omega) HVY.out (by rfl), ?_⟩); go_frame)
   (refine rgP 14 hS (fun _ h => take3 h) ?_; go_frame)
   (refine rgP 15 hS (fun _ h => take3 h) ?_; go_frame)
   (refine rgR 16 hS (fun _ h => take3 h) ?_; (first
          | refine ⟨_, yLd _ _ (by rfl) _ _ (by rfl) (agOf (by rfl)) (by repeat first | exact Has.z | apply Has.s) (by rfl), ?_⟩
          | refine ⟨_, yLdTb (f := one1) (x := vx) _ _ (by rfl) _ _ (by rfl) (agOf (by rfl)) (Has.s Has.z) x 0 (by omega) HVX.out (by rfl), ?_⟩
          | refine ⟨_, yLdTb (f := one1) (x := vy) _ _ (by rfl) _ _ (by rfl) (agOf (by rfl)) (Has.s (Has.s Has.z)) y 0 (by omega) HVY.out (by rfl), ?_⟩); go_frame)
   (refine rgP 17 hS (fun _ h => take3 h) ?_; go_frame)
   (refine rgP 19 hS (fun _ h => take3 h) ?_; go_frame)
   (refine rgP 20 hS (fun _ h => take3 h) ?_; go_frame)
   (refine rgP 21 hS (fun _ h => take3 h) ?_; go_frame)
   (refine rgR 22 hS (fun _ h => take3 h) ?_; (first
          | refine ⟨_, yLd _ _ (by rfl) _ _ (by rfl) (agOf (by rfl)) (by repeat first | exact Has.z | apply Has.s) (by rfl), ?_⟩
          | refine ⟨_, yLdTb (f := one1) (x := vx) _ _ (by rfl) _ _ (by rfl) (agOf (by rfl)) (Has.s Has.z) x 0 (by omega) HVX.out (by rfl), ?_⟩
          | refine ⟨_, yLdTb (f := one1) (x := vy) _ _ (by rfl) _ _ (by rfl) (agOf (by rfl)) (Has.s (Has.s Has.z)) y 0 (by omega) HVY.out (by rfl), ?_⟩); go_frame)
   (refine rgP 23 hS (fun _ h => take3 h) ?_; go_frame)
   (refine rgP 24 hS (fun _ h => take3 h) ?_; go_frame)
   (refine rgR 25 hS (fun _ h => take3 h) ?_; (first
          | refine ⟨_, yLd _ _ (by rfl) _ _ (by rfl) (agOf (by rfl)) (by repeat first | exact Has.z | apply Has.s) (by rfl), ?_⟩
          | refine ⟨_, yLdTb (f := one1) (x := vx) _ _ (by rfl) _ _ (by rfl) (agOf (by rfl)) (Has.s Has.z) x 0 (by omega) HVX.out (by rfl), ?_⟩
          | refine ⟨_, yLdTb (f := one1) (x := vy) _ _ (by rfl) _ _ (by rfl) (agOf (by rfl)) (Has.s (Has.s Has.z)) y 0 (by omega) HVY.out (by rfl), ?_⟩); go_frame)
   (refine rgP 26 hS (fun _ h => take3 h) ?_; go_frame)
   (refine rgA 18 false fun K hK => ?_; (first
          | (refine Go.Sep.cl 145 _ _ (by rfl) (by rfl) (by kernel_rfl) (with_any hS (fun w h => HRU.out w _ (h.re [4])) HUL.out HZU.out HUS.out y) ?_; clear hS; rintro e w1 ⟨v1, rfl, hS⟩; obtain ⟨ao1, c1, rfl, _⟩ := hS.irShape (k := 0) rfl; have hS1 := push3 hS; clear hS; have hS := hS1; clear hS1; refine ⟨_, rfl, ?_⟩)
          | (refine Go.Sep.cl 145 _ _ (by rfl) (by rfl) (by kernel_rfl) (with_any hS (fun w h => HRD.out w _ (h.re [6])) HDL.out HZD.out HDS.out x) ?_; clear hS; rintro e w1 ⟨v2, rfl, hS⟩; obtain ⟨ao2, c2, rfl, _⟩ := hS.irShape (k := 0) rfl; have hS1 := push4 hS; clear hS; have hS := hS1; clear hS1; refine ⟨_, rfl, ?_⟩)
          | (refine stTbF (f := one1) hS _ _ _ (by rfl) _ _ (by rfl) (.slice ao1 _ c1) (by rfl) (by rfl) (szOf (by rfl)) (Has.s Has.z) rfl x 0 (by omega) HVX.out _ (by rfl) (by decide) ?_; clear hS; intro w1 hS; dsimp only [List.set_cons_zero, List.set_cons_succ] at hS)
          | (refine stTbF (f := one1) hS _ _ _ (by rfl) _ _ (by rfl) (.slice ao2 _ c2) (by rfl) (by rfl) (szOf (by rfl)) (Has.s (Has.s Has.z)) rfl y 0 (by omega) HVY.out _ (by rfl) (by decide) ?_; clear hS; intro w1 hS; dsimp only [List.set_cons_zero, List.set_cons_succ] at hS)); refine hK _ _ _ (hS.upTo (fun _ h => by exact take3 h)) (fun _ _ h => h) ?_; clear hK K; go_frame)
   (refine rgA 27 false fun K hK => ?_; (first
          | (refine Go.Sep.cl 145 _ _ (by rfl) (by rfl) (by kernel_rfl) (with_any hS (fun w h => HRU.out w _ (h.re [4])) HUL.out HZU.out HUS.out y) ?_; clear hS; rintro e w1 ⟨v1, rfl, hS⟩; obtain ⟨ao1, c1, rfl, _⟩ := hS.irShape (k := 0) rfl; have hS1 := push3 hS; clear hS; have hS := hS1; clear hS1; refine ⟨_, rfl, ?_⟩)
          | (refine Go.Sep.cl 145 _ _ (by rfl) (by rfl) (by kernel_rfl) (with_any hS (fun w h => HRD.out w _ (h.re [6])) HDL.out HZD.out HDS.out x) ?_; clear hS; rintro e w1 ⟨v2, rfl, hS⟩; obtain ⟨ao2, c2, rfl, _⟩ := hS.irShape (k := 0) rfl; have hS1 := push4 hS; clear hS; have hS := hS1; clear hS1; refine ⟨_, rfl, ?_⟩)
          | (refine stTbF (f := one1) hS _ _ _ (by rfl) _ _ (by rfl) (.slice ao1 _ c1) (by rfl) (by rfl) (szOf (by rfl)) (Has.s Has.z) rfl x 0 (by omega) HVX.out _ (by rfl) (by decide) ?_; clear hS; intro w1 hS; dsimp only [List.set_cons_zero, List.set_cons_succ] at hS)
          | (refine stTbF (f := one1) hS _ _ _ (by rfl) _ _ (by rfl) (.slice ao2 _ c2) (by rfl) (by rfl) (szOf (by rfl)) (Has.s (Has.s Has.z)) rfl y 0 (by omega) HVY.out _ (by rfl) (by decide) ?_; clear hS; intro w1 hS; dsimp only [List.set_cons_zero, List.set_cons_succ] at hS)); refine hK _ _ _ (hS.upTo (fun _ h => by exact take3 h)) (fun _ _ h => h) ?_; clear hK K; go_frame)
   (refine rgP 28 hS (fun _ h => by exact take3 h) ?_; go_frame)
   (refine rgA 29 true fun K hK => ?_; (first
          | (refine Go.Sep.cl 145 _ _ (by rfl) (by rfl) (by kernel_rfl) (with_any hS (fun w h => HRU.out w _ (h.re [4])) HUL.out HZU.out HUS.out y) ?_; clear hS; rintro e w1 ⟨v1, rfl, hS⟩; obtain ⟨ao1, c1, rfl, _⟩ := hS.irShape (k := 0) rfl; have hS1 := push3 hS; clear hS; have hS := hS1; clear hS1; refine ⟨_, rfl, ?_⟩)
          | (refine Go.Sep.cl 145 _ _ (by rfl) (by rfl) (by kernel_rfl) (with_any hS (fun w h => HRD.out w _ (h.re [6])) HDL.out HZD.out HDS.out x) ?_; clear hS; rintro e w1 ⟨v2, rfl, hS⟩; obtain ⟨ao2, c2, rfl, _⟩ := hS.irShape (k := 0) rfl; have hS1 := push4 hS; clear hS; have hS := hS1; clear hS1; refine ⟨_, rfl, ?_⟩)
          | (refine stTbF (f := one1) hS _ _ _ (by rfl) _ _ (by rfl) (.slice ao1 _ c1) (by rfl) (by rfl) (szOf (by rfl)) (Has.s Has.z) rfl x 0 (by omega) HVX.out _ (by rfl) (by decide) ?_; clear hS; intro w1 hS; dsimp only [List.set_cons_zero, List.set_cons_succ] at hS)
          | (refine stTbF (f := one1) hS _ _ _ (by rfl) _ _ (by rfl) (.slice ao2 _ c2) (by rfl) (by rfl) (szOf (by rfl)) (Has.s (Has.s Has.z)) rfl y 0 (by omega) HVY.out _ (by rfl) (by decide) ?_; clear hS; intro w1 hS; dsimp only [List.set_cons_zero, List.set_cons_succ] at hS)); refine hK _ _ _ hS (by first | (intro h; cases h; done) | exact fun _ _ h => h | exact fun _ _ h => h.drop | exact fun _ _ h => h.drop.drop | exact fun _ _ h => h.drop.pull1 | exact fun _ _ h => h.take2 | exact fun _ _ h => h.one Has.z | exact fun _ _ h => h.one (Has.s Has.z) | exact fun _ _ h => h.one (Has.s (Has.s Has.z))) ?_; clear hK K; go_frame)
   (refine rgP 30 hS (fun _ h => h) ?_; go_frame)
   (refine rgA 31 true fun K hK => ?_; (first
          | (refine Go.Sep.cl 145 _ _ (by rfl) (by rfl) (by kernel_rfl) (with_any hS (fun w h => HRU.out w _ (h.re [4])) HUL.out HZU.out HUS.out y) ?_; clear hS; rintro e w1 ⟨v1, rfl, hS⟩; obtain ⟨ao1, c1, rfl, _⟩ := hS.irShape (k := 0) rfl; have hS1 := push3 hS; clear hS; have hS := hS1; clear hS1; refine ⟨_, rfl, ?_⟩)
          | (refine Go.Sep.cl 145 _ _ (by rfl) (by rfl) (by kernel_rfl) (with_any hS (fun w h => HRD.out w _ (h.re [6])) HDL.out HZD.out HDS.out x) ?_; clear hS; rintro e w1 ⟨v2, rfl, hS⟩; obtain ⟨ao2, c2, rfl, _⟩ := hS.irShape (k := 0) rfl; have hS1 := push4 hS; clear hS; have hS := hS1; clear hS1; refine ⟨_, rfl, ?_⟩)
          | (refine stTbF (f := one1) hS _ _ _ (by rfl) _ _ (by rfl) (.slice ao1 _ c1) (by rfl) (by rfl) (szOf (by rfl)) (Has.s Has.z) rfl x 0 (by omega) HVX.out _ (by rfl) (by decide) ?_; clear hS; intro w1 hS; dsimp only [List.set_cons_zero, List.set_cons_succ] at hS)
          | (refine stTbF (f := one1) hS _ _ _ (by rfl) _ _ (by rfl) (.slice ao2 _ c2) (by rfl) (by rfl) (szOf (by rfl)) (Has.s (Has.s Has.z)) rfl y 0 (by omega) HVY.out _ (by rfl) (by decide) ?_; clear hS; intro w1 hS; dsimp only [List.set_cons_zero, List.set_cons_succ] at hS)); refine hK _ _ _ hS (by first | (intro h; cases h; done) | exact fun _ _ h => h | exact fun _ _ h => h.drop | exact fun _ _ h => h.drop.drop | exact fun _ _ h => h.drop.pull1 | exact fun _ _ h => h.take2 | exact fun _ _ h => h.one Has.z | exact fun _ _ h => h.one (Has.s Has.z) | exact fun _ _ h => h.one (Has.s (Has.s Has.z))) ?_; clear hK K; go_frame)
   refine regDone (by kernel_rfl) ?_
   go_wp2
   go_ret
   exact ⟨rfl, IsG.link HX.out HY.out HN.out HU.out HD.out hS⟩

end Go.Proofs.YtchohheleofncaaGreat
namespace Go.Proofs.YtchohheleofncaaGreat
open Go.RowKit Go.Sep
attribute [local irreducible] Go.Oper.wp Go.wpList Go.Calls Go.Code.wp Go.Sep.Reg
attribute [local irreducible] IsG
theorem ret_int {k : IntKind} {a b : Int} (h : a = b) : Ending.returned (.int k a) = .returned (.int k b) := by rw [h]
theorem place_eq (v n : Int) (hn : 0 < n) : v % n = if v.tmod n < 0 then v.tmod n + n else v.tmod n := by
 have h1 : v % n = (v.tmod n) % n := by
  conv => lhs; rw [← Int.tmod_add_mul_tdiv v n]
  rw [Int.add_mul_emod_self_left]
 have h2 : v.tmod n < n := Int.tmod_lt_of_pos v hn
 have h3 : -n < v.tmod n := by
  have := Int.tmod_lt_of_pos (-v) hn
  rw [Int.neg_tmod] at this; omega
 rw [h1]
 split
 ·rw [← Int.add_emod_right, Int.emod_eq_of_lt (by omega) (by omega)]
 ·rw [Int.emod_eq_of_lt (by omega) (by omega)]
theorem place_any (v n : Int) (hn : 0 < n) (hn2 : n ≤ 9223372036854775807) (w : World) :
  Calls Tryz.prog 9 #[.int .i64 v, .int .i64 n] w fun e w' => e = .returned (.int .i64 (v % n)) ∧ w = w' := by
 have he := place_eq v n hn
 have h3 : -n < v.tmod n := by
  have := Int.tmod_lt_of_pos (-v) hn
  rw [Int.neg_tmod] at this; omega
 have h2 : v.tmod n < n := Int.tmod_lt_of_pos v hn
 have He := Lib.hid he
 clear he
 by_cases h : v.tmod n < 0
 all_goals
  go_enter Tryz.func9, Tryz.ntmps9
  go_wp2
  go_ret
  exact ⟨ret_int (by rw [He.out]; first | rw [if_pos (by omega)] | rw [if_neg (by omega)]), rfl⟩
end Go.Proofs.YtchohheleofncaaGreat
namespace Go.Proofs.YtchohheleofncaaGreat
open Go.RowKit Go.Sep
attribute [local irreducible] Go.Oper.wp Go.wpList Go.Calls Go.Code.wp Go.Sep.Reg
namespace Gr
def Acyc (G : Gr) : Prop := ∀ a b, (a, b) ∈ G.E → ¬ G.Reach b a
theorem edgeG_len (G : Gr) (a b : Int) : (G.edgeG a b).E.length ≤ G.E.length + 1 := by
 unfold edgeG
 split
 ·simp [link]
 ·omega
end Gr

end Go.Proofs.YtchohheleofncaaGreat
namespace Go.Proofs.YtchohheleofncaaGreat
open Go.RowKit Go.Sep
attribute [local irreducible] Go.Oper.wp Go.wpList Go.Calls Go.Code.wp Go.Sep.Reg
set_option maxRecDepth 20000
def ev (e : Nat × Nat) : List Value := [.int .i64 (e.1 : Int), .int .i64 (e.2 : Int)]
def IsR (p : Nat) (G : Gr) : Asrt :=
 Ex fun x : Value × Value => St [Cs p 216 [x.1, x.2], Tb 220 6 nv x.1 G.N, Tb 224 2 ev x.2 G.E]
theorem IsR.open {W w : World} {L : List Asrt} {p : Nat} {G : Gr} (h : Sat W w (IsR p G :: L)) : ∃ an cn ae ce, G.N.length ≤ cn ∧ G.E.length ≤ ce ∧
  Sat W w (Cs p 216 [.slice an G.N.length cn, .slice ae G.E.length ce] :: Tb 220 6 nv (.slice an G.N.length cn) G.N :: Tb 224 2 ev (.slice ae G.E.length ce) G.E :: L) := by
 obtain ⟨⟨vn, ve⟩, h⟩ := h.ex
 have h2 : Sat W w (Cs p 216 [vn, ve] :: Tb 220 6 nv vn G.N :: Tb 224 2 ev ve G.E :: L) := h.open
 obtain ⟨an, cn, rfl, hn⟩ := h2.tbShape (k := 1) rfl
 obtain ⟨ae, ce, rfl, he⟩ := h2.tbShape (k := 2) rfl
 exact ⟨an, cn, ae, ce, hn, he, h2⟩
theorem IsR.mk {W w : World} {L : List Asrt} {p : Nat} {G : Gr} {vn ve : Value}
  (h : Sat W w (Cs p 216 [vn, ve] :: Tb 220 6 nv vn G.N :: Tb 224 2 ev ve G.E :: L)) : Sat W w (IsR p G :: L) :=
 Sat.mkEx (vn, ve) (Sat.mkSt h)
def hasP (a b : Int) (p : Nat × Nat) : Bool := decide ((p.1 : Int) = a) && decide ((p.2 : Int) = b)
def cntT (G : Gr) (k o : Int) (i : Nat) : Nat := ((G.N.take i).filter (Gr.same k o)).length
end Go.Proofs.YtchohheleofncaaGreat
namespace Go.Proofs.YtchohheleofncaaGreat
open Go.RowKit Go.Sep
attribute [local irreducible] Go.Oper.wp Go.wpList Go.Calls Go.Code.wp Go.Sep.Reg
set_option maxRecDepth 20000
def bl (S : Nat → Bool) (n : Nat) : List Value := (List.range n).map fun k => .bool (S k)
def fls (S : Nat → Bool) (n : Nat) : Nat := (List.range n).countP fun k => !S k
theorem countP_lt {α : Type} {p q : α → Bool} : ∀ {l : List α}, (∀ x ∈ l, p x = true → q x = true) → (∃ x ∈ l, p x = false ∧ q x = true) → l.countP p < l.countP q
 | [], _, h => by obtain ⟨x, hx, _⟩ := h; cases hx
 | y :: l, hi, h => by
  obtain ⟨x, hx, h1, h2⟩ := h
  have hle : l.countP p ≤ l.countP q := List.countP_mono_left fun z hz => hi z (List.mem_cons_of_mem _ hz)
  rw [List.countP_cons, List.countP_cons]
  rcases List.mem_cons.1 hx with rfl | hx
  ·rw [h1, h2]; simp; omega
  ·have h3 := countP_lt (fun z hz => hi z (List.mem_cons_of_mem _ hz)) ⟨x, hx, h1, h2⟩
   have h4 := hi y (List.mem_cons_self ..)
   cases hp : p y with
   | true => rw [h4 hp]; simp; omega
   | false => cases q y <;> simp <;> omega
theorem fls_put {S : Nat → Bool} {n k : Nat} (h : k < n) (hk : S k = false) : fls (fun t => S t || decide (t = k)) n < fls S n := by
 refine countP_lt (fun x _ hx => ?_) ⟨k, List.mem_range.2 h, by simp, by simp [hk]⟩
 simp only [Bool.not_or, Bool.and_eq_true] at hx
 exact hx.1
def isF : Option Value → Bool
 | some (.bool false) => true
 | _ => false
def flsW (w : World) (b n : Nat) : Nat := (List.range n).countP fun k => isF (w.cell? ⟨b, k, none⟩)
def boolN : Value → Nat
 | .bool true => 1
 | _ => 0
structure MkI (G : Gr) (n : Nat) (S : Nat → Bool) : Prop where
 src : S n = true
 reach : ∀ k, S k = true → G.Reach n k
structure MkJ (G : Gr) (n : Nat) (S : Nat → Bool) (i : Nat) (S' : Nat → Bool) (m : Bool) : Prop where
 inv : MkI G n S'
 no : m = false → S' = S ∧ ∀ j, j < i → ∀ e, G.E[j]? = some e → S' e.1 = true → S' e.2 = true
 yes : m = true → fls S' G.N.length < fls S G.N.length
theorem MkJ.start {G : Gr} {n : Nat} {S : Nat → Bool} (h : MkI G n S) : MkJ G n S 0 S false := ⟨h, fun _ => ⟨rfl, fun j hj => by omega⟩, fun h => by cases h⟩
theorem MkJ.skip {G : Gr} {n i x y : Nat} {S S' : Nat → Bool} {m : Bool} (h : MkJ G n S i S' m) (he : G.E[i]? = some (x, y)) (hxy : S' x = true → S' y = true) : MkJ G n S (i + 1) S' m where
 inv := h.inv
 no := fun hm => ⟨(h.no hm).1, fun j hj e hje => by
  by_cases hji : j = i
  ·subst hji
   rw [he] at hje; cases hje
   exact hxy
  ·exact (h.no hm).2 j (by omega) e hje⟩
 yes := h.yes
theorem MkJ.put {G : Gr} {n i x y : Nat} {S S' : Nat → Bool} {m : Bool} (h : MkJ G n S i S' m) (he : G.E[i]? = some (x, y)) (hx : S' x = true) (hy : S' y = false) (hlt : y < G.N.length) : MkJ G n S (i + 1) (fun t => S' t || decide (t = y)) true where
 inv := ⟨by simp [h.inv.src], fun k hk => by
  simp only [Bool.or_eq_true, decide_eq_true_eq] at hk
  rcases hk with hk | rfl
  ·exact h.inv.reach k hk
  ·exact (h.inv.reach x hx).snoc (List.mem_of_getElem? he)⟩
 no := fun h => by cases h
 yes := fun _ => by
  have h1 := fls_put (n := G.N.length) hlt hy
  cases m with
  | true => have := h.yes rfl; omega
  | false => rw [(h.no rfl).1] at h1 ⊢; exact h1
theorem MkJ.fin {G : Gr} {n i : Nat} {S S' : Nat → Bool} (h : MkJ G n S i S' false) (hi : G.E.length ≤ i) : ∀ e ∈ G.E, S' e.1 = true → S' e.2 = true := fun e he => by
 obtain ⟨j, hj⟩ := List.mem_iff_getElem?.1 he
 exact (h.no rfl).2 j (by have := (List.getElem?_eq_some_iff.1 hj).1; omega) e hj
open Classical in
noncomputable def Gr.rB (G : Gr) (n : Int) (k : Nat) : Bool := G.is n && decide (G.Reach n.toNat k)
theorem Gr.rB_nat {G : Gr} {n k : Nat} (h : n < G.N.length) : G.rB (n : Int) k = true ↔ G.Reach n k := by
 unfold Gr.rB
 rw [Gr.is_mk h]; simp
theorem MkI.done {G : Gr} {n : Nat} {S : Nat → Bool} (h : MkI G n S) (hn : n < G.N.length) (hc : ∀ e ∈ G.E, S e.1 = true → S e.2 = true) : S = G.rB (n : Int) := by
 funext k
 rw [Bool.eq_iff_iff, Gr.rB_nat hn]
 exact ⟨h.reach k, fun hr => hr (fun z => S z = true) h.src fun a b h1 h2 => hc (a, b) h2 h1⟩
theorem MkI.start (G : Gr) (n : Nat) : MkI G n (fun t => (fun _ => false) t || decide (t = n)) := ⟨by simp, fun k hk => by
 have : k = n := by simpa using hk
 subst this; exact Gr.Reach.refl G k⟩
end Go.Proofs.YtchohheleofncaaGreat
namespace Go.Proofs.YtchohheleofncaaGreat
open Go.RowKit Go.Sep
attribute [local irreducible] Go.Oper.wp Go.wpList Go.Calls Go.Code.wp Go.Sep.Reg
set_option maxRecDepth 20000
theorem IsR.with {W w : World} {L : List Asrt} {p : Nat} {G : Gr} {N : List NodeD} {vn ve : Value}
  (h : Sat W w (Cs p 216 [vn, ve] :: Tb 220 6 nv vn N :: Tb 224 2 ev ve G.E :: L)) : Sat W w (IsR p (G.withN N) :: L) := IsR.mk (G := G.withN N) h
def filR (R : Nat → Bool) (i : Nat) : List Nat := (List.range i).filter R
end Go.Proofs.YtchohheleofncaaGreat
namespace Go.Proofs.YtchohheleofncaaGreat
open Go.RowKit Go.Sep
attribute [local irreducible] Go.Oper.wp Go.wpList Go.Calls Go.Code.wp Go.Sep.Reg
set_option maxRecDepth 20000
end Go.Proofs.YtchohheleofncaaGreat
