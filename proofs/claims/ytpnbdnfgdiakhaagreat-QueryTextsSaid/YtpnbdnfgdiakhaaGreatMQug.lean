/-
  The document's both and same: rows of truths.
  The document's to: along and against the edges.
  The document's to: those of a kind, of a label, that live.
  The document's to: one question behind another, either of them.
  The document's to: either of some questions.
  The document's to: again and again.
-/
import Derived.Test.YtpnbdnfgdiakhaaGreatQuRefW
import Derived.Test.YtpnbdnfgdiakhaaGreatMQud
import Derived.Test.YtpnbdnfgdiakhaaGreatMReg
namespace Go.Proofs.YtpnbdnfgdiakhaaGreat
open Go.RowKit Go.Sep
set_option linter.unusedSimpArgs false
set_option linter.unusedVariables false
attribute [local irreducible] Go.Oper.wp Go.wpList Go.Calls Go.Code.wp Go.Sep.Reg
attribute [local irreducible] IsG
theorem bl_setv {S T : Nat → Bool} {n k : Nat} {v : Bool} (h : k < n) (hT : ∀ t, t < n → T t = if t = k then v else S t) : (bl S n).set k (.bool v) = bl T n := by
  apply List.ext_getElem?
  intro i
  rw [List.getElem?_set, bl_len]
  by_cases hi : k = i
  · subst hi; rw [if_pos rfl, if_pos h, bl_at h, hT _ h, if_pos rfl]
  · rw [if_neg hi]
    by_cases h2 : i < n
    · rw [bl_at h2, bl_at h2, hT _ h2, if_neg (fun e => hi e.symm)]
    · rw [List.getElem?_eq_none (by rw [bl_len]; omega), List.getElem?_eq_none (by rw [bl_len]; omega)]
/-- The first so many of a row, the rest false. -/
def upB (S : Nat → Bool) (i t : Nat) : Bool := decide (t < i) && S t
theorem upB_zero (S : Nat → Bool) : (fun _ => false) = upB S 0 := by funext t; simp [upB]
theorem upB_all {S : Nat → Bool} {n : Nat} : bl (upB S n) n = bl S n := bl_congr fun k hk => by simp [upB, hk]
theorem upB_put {S : Nat → Bool} {n i : Nat} {v : Bool} (h : i < n) (hv : S i = v) : (bl (upB S i) n).set i (.bool v) = bl (upB S (i + 1)) n := bl_setv h fun t _ => by
  unfold upB
  by_cases e : t = i
  · subst e; rw [if_pos rfl, ← hv]; simp
  · rw [if_neg e]
    congr 1
    exact decide_eq_decide.2 ⟨fun h => by omega, fun h => by omega⟩
set_option maxRecDepth 20000 in
theorem rboth_any {W w : World} {L : List Asrt} (hS : Sat W w L) (S S' : Nat → Bool) (N : Nat) (hN : N ≤ 4096) (va vb : Value) (h1 : ∀ w L', Sat W w (L' ++ L) → Rd w va N 1 (bl S N)) (h2 : ∀ w L', Sat W w (L' ++ L) → Rd w vb N 1 (bl S' N)) :
    Calls Tryz.prog 56 #[va, vb] w fun e w' => ∃ o, e = .returned (.slice (some ⟨o, 0, none⟩) N N) ∧ Sat W w' (Cs o 4 (bl (fun t => S t || S' t) N) :: L) := by
  obtain ⟨ao, c, rfl, hc1, hc2, _, h5⟩ := h1 w [] hS
  obtain ⟨bo, d, rfl, hd1, hd2, _, h6⟩ := h2 w [] hS
  have HR1 := Lib.hid (fun w A (h : Sat W w (A :: L)) => h1 w [A] h)
  have HR2 := Lib.hid (fun w A (h : Sat W w (A :: L)) => h2 w [A] h)
  have H5 := Lib.hid (show 0 < N → ∃ b off, ao = some ⟨b, off, none⟩ from fun h => by obtain ⟨b, off, h1, _⟩ := h5 h; exact ⟨b, off, h1⟩)
  have H6 := Lib.hid (show 0 < N → ∃ b off, bo = some ⟨b, off, none⟩ from fun h => by obtain ⟨b, off, h1, _⟩ := h6 h; exact ⟨b, off, h1⟩)
  have hni : (N : Int) ≤ 4096 := by omega
  obtain ⟨B, hB⟩ : ∃ B, (fun t => S t || S' t) = B := ⟨_, rfl⟩
  have HB := Lib.hid hB
  rw [hB]
  clear h1 h2 h5 h6 hB
  go_enter Tryz.func56, Tryz.ntmps56
  go_wp2_with (refine toList (by rfl) ?_; refine mk hS _ _ _ (by rfl) N N _ _ (by rfl) (by rfl) (elOf (by rfl)) (by omega) (by omega) (by omega) ?_; intro o w1 hS1; clear hS; have hS := hS1; clear hS1; rw [made_bool, upB_zero B] at hS)
  have H0 := Lib.hid hS
  go_loopw [6] (fun v wz => ∃ i : Nat, v = .int .i64 i ∧ i ≤ N ∧ Sat W wz (Cs o 4 (bl (upB B i) N) :: L)) (fun v _ => N - (intOf v).toNat)
  case atStart => exact ⟨0, rfl, by omega, H0.out⟩
  case round =>
    clear hS H0
    obtain ⟨i, rfl, hi, hS⟩ := hrel
    by_cases hlt : i < N
    · have k1 : (i : Int) < (N : Int) := by omega
      have HLT := Lib.hid hlt
      obtain ⟨ba, oa, rfl⟩ := H5.out (by omega)
      obtain ⟨bb, ob, rfl⟩ := H6.out (by omega)
      obtain ⟨x, hx⟩ : ∃ x, S i = x := ⟨_, rfl⟩
      obtain ⟨y, hy⟩ : ∃ y, S' i = y := ⟨_, rfl⟩
      have HX := Lib.hid (show (bl S N)[i]? = some (.bool x) by rw [bl_at hlt, hx])
      have HY := Lib.hid (show (bl S' N)[i]? = some (.bool y) by rw [bl_at hlt, hy])
      have hb : B i = (x || y) := by rw [← HB.out, ← hx, ← hy]
      cases x
      · have HPUT := Lib.hid (upB_put (S := B) (n := N) (v := y) hlt (by rw [hb]; rfl))
        clear hx hy hb hlt hi
        go_wp2_with ((first
          | (refine toList (by rfl) ?_; refine wp_of_reads (rLdRd1 (HR1.out _ _ hS) _ _ (by rfl) _ (by rfl) (agOf (by rfl)) i (by omega) HX.out (by omega)) ?_)
          | (refine toList (by rfl) ?_; refine wp_of_reads (rLdRd1 (HR2.out _ _ hS) _ _ (by rfl) _ (by rfl) (agOf (by rfl)) i (by omega) HY.out (by omega)) ?_)
          | (refine toList (by rfl) ?_; refine Go.Sep.st hS _ _ _ (by rfl) _ _ (by rfl) (.bool y) (by rfl) (by rfl) (szOf (by rfl)) Has.z (by rw [bl_len]; exact HLT.out) ?_; intro w1 hS1; clear hS; have hS := hS1; clear hS1; simp only [List.set_cons_zero, List.set_cons_succ] at hS; rw [HPUT.out] at hS)))
        exact ⟨⟨i + 1, by go_num, HLT.out, hS⟩, by simp [intOf]; have := HLT.out; omega⟩
      · have HPUT := Lib.hid (upB_put (S := B) (n := N) (v := true) hlt (by rw [hb]; rfl))
        clear hx hy hb hlt hi
        go_wp2_with ((first
          | (refine toList (by rfl) ?_; refine wp_of_reads (rLdRd1 (HR1.out _ _ hS) _ _ (by rfl) _ (by rfl) (agOf (by rfl)) i (by omega) HX.out (by omega)) ?_)
          | (refine toList (by rfl) ?_; refine wp_of_reads (rLdRd1 (HR2.out _ _ hS) _ _ (by rfl) _ (by rfl) (agOf (by rfl)) i (by omega) HY.out (by omega)) ?_)
          | (refine toList (by rfl) ?_; refine Go.Sep.st hS _ _ _ (by rfl) _ _ (by rfl) (.bool true) (by rfl) (by rfl) (szOf (by rfl)) Has.z (by rw [bl_len]; exact HLT.out) ?_; intro w1 hS1; clear hS; have hS := hS1; clear hS1; simp only [List.set_cons_zero, List.set_cons_succ] at hS; rw [HPUT.out] at hS)))
        exact ⟨⟨i + 1, by go_num, HLT.out, hS⟩, by simp [intOf]; have := HLT.out; omega⟩
    · obtain rfl : i = N := by omega
      have k1 : ¬ (i : Int) < (i : Int) := by omega
      rw [upB_all] at hS
      clear hi hlt
      go_wp2
      go_ret
      exact ⟨o, rfl, hS⟩
def TruthIs (p : Prop) (v : Value) : Prop := ∃ r, v = .bool r ∧ (r = true ↔ p)
set_option maxRecDepth 20000 in
theorem rsame_any {W w : World} {L : List Asrt} (hS : Sat W w L) (S S' : Nat → Bool) (N : Nat) (hN : N ≤ 4096) (va vb : Value) (h1 : ∀ w, Sat W w L → Rd w va N 1 (bl S N)) (h2 : ∀ w, Sat W w L → Rd w vb N 1 (bl S' N)) :
    Calls Tryz.prog 57 #[va, vb] w fun e w' => ∃ v, e = .returned v ∧ TruthIs (∀ t, t < N → S t = S' t) v ∧ Sat W w' L := by
  obtain ⟨ao, c, rfl, hc1, hc2, _, h5⟩ := h1 w hS
  obtain ⟨bo, d, rfl, hd1, hd2, _, h6⟩ := h2 w hS
  have HR1 := Lib.hid h1
  have HR2 := Lib.hid h2
  have H5 := Lib.hid (show 0 < N → ∃ b off, ao = some ⟨b, off, none⟩ from fun h => by obtain ⟨b, off, h1, _⟩ := h5 h; exact ⟨b, off, h1⟩)
  have H6 := Lib.hid (show 0 < N → ∃ b off, bo = some ⟨b, off, none⟩ from fun h => by obtain ⟨b, off, h1, _⟩ := h6 h; exact ⟨b, off, h1⟩)
  have hni : (N : Int) ≤ 4096 := by omega
  have H0 := Lib.hid hS
  clear h1 h2 h5 h6
  go_enter Tryz.func57, Tryz.ntmps57
  go_wp2
  go_loopw [5] (fun v wz => ∃ i : Nat, v = .int .i64 i ∧ i ≤ N ∧ (∀ t, t < i → S t = S' t) ∧ Sat W wz L) (fun v _ => N - (intOf v).toNat)
  case atStart => exact ⟨0, rfl, by omega, (fun t h => absurd h (by omega)), H0.out⟩
  case round =>
    clear hS H0
    obtain ⟨i, rfl, hi, hp, hS⟩ := hrel
    have HP := Lib.hid hp
    clear hp
    by_cases hlt : i < N
    · have k1 : (i : Int) < (N : Int) := by omega
      have HLT := Lib.hid hlt
      obtain ⟨ba, oa, rfl⟩ := H5.out (by omega)
      obtain ⟨bb, ob, rfl⟩ := H6.out (by omega)
      obtain ⟨x, hx⟩ : ∃ x, S i = x := ⟨_, rfl⟩
      obtain ⟨y, hy⟩ : ∃ y, S' i = y := ⟨_, rfl⟩
      have HX := Lib.hid (show (bl S N)[i]? = some (.bool x) by rw [bl_at hlt, hx])
      have HY := Lib.hid (show (bl S' N)[i]? = some (.bool y) by rw [bl_at hlt, hy])
      have HXE := Lib.hid hx
      have HYE := Lib.hid hy
      clear hx hy hlt hi
      by_cases hxy : x = y
      · subst hxy
        have q1 : (x != x) = false := bne_self_eq_false _
        have q2 : (x == x) = true := beq_self_eq_true _
        go_wp2
        refine regStart [] hS (by kernel_rfl) rfl ?_
        intro w1 hS1
        clear hS; have hS := hS1; clear hS1
        (refine rgP 0 hS (fun _ h => h) ?_; go_frame)
        (refine rgP 1 hS (fun _ h => h) ?_; go_frame)
        (refine rgP 2 hS (fun _ h => h) ?_; go_frame)
        (refine rgR 3 hS (fun _ h => h) ?_; (refine ⟨_, fun u hu => (by first | exact rLdRd1 (HR1.out u hu) _ _ (by rfl) _ (by rfl) (agOf (by rfl)) i (by omega) HX.out (by omega) | exact rLdRd1 (HR2.out u hu) _ _ (by rfl) _ (by rfl) (agOf (by rfl)) i (by omega) HY.out (by omega)), ?_⟩); go_frame)
        (refine rgP 4 hS (fun _ h => h) ?_; go_frame)
        (refine rgP 5 hS (fun _ h => h) ?_; go_frame)
        (refine rgP 6 hS (fun _ h => h) ?_; go_frame)
        (refine rgR 7 hS (fun _ h => h) ?_; (refine ⟨_, fun u hu => (by first | exact rLdRd1 (HR1.out u hu) _ _ (by rfl) _ (by rfl) (agOf (by rfl)) i (by omega) HX.out (by omega) | exact rLdRd1 (HR2.out u hu) _ _ (by rfl) _ (by rfl) (agOf (by rfl)) i (by omega) HY.out (by omega)), ?_⟩); go_frame)
        (refine rgP 8 hS (fun _ h => h) ?_; go_frame)
        refine regDone (by kernel_rfl) ?_
        go_wp2
        refine ⟨⟨i + 1, by go_num, HLT.out, fun t ht => ?_, hS⟩, by simp [intOf]; have := HLT.out; omega⟩
        by_cases e : t = i
        · rw [e, HXE.out, HYE.out]
        · exact HP.out t (by omega)
      · have HNE := Lib.hid hxy
        have q1 : (x != y) = true := bne_iff_ne.2 hxy
        have q2 : (x == y) = false := beq_eq_false_iff_ne.2 hxy
        go_wp2
        refine regStart [] hS (by kernel_rfl) rfl ?_
        intro w1 hS1
        clear hS; have hS := hS1; clear hS1
        (refine rgP 0 hS (fun _ h => h) ?_; go_frame)
        (refine rgP 1 hS (fun _ h => h) ?_; go_frame)
        (refine rgP 2 hS (fun _ h => h) ?_; go_frame)
        (refine rgR 3 hS (fun _ h => h) ?_; (refine ⟨_, fun u hu => (by first | exact rLdRd1 (HR1.out u hu) _ _ (by rfl) _ (by rfl) (agOf (by rfl)) i (by omega) HX.out (by omega) | exact rLdRd1 (HR2.out u hu) _ _ (by rfl) _ (by rfl) (agOf (by rfl)) i (by omega) HY.out (by omega)), ?_⟩); go_frame)
        (refine rgP 4 hS (fun _ h => h) ?_; go_frame)
        (refine rgP 5 hS (fun _ h => h) ?_; go_frame)
        (refine rgP 6 hS (fun _ h => h) ?_; go_frame)
        (refine rgR 7 hS (fun _ h => h) ?_; (refine ⟨_, fun u hu => (by first | exact rLdRd1 (HR1.out u hu) _ _ (by rfl) _ (by rfl) (agOf (by rfl)) i (by omega) HX.out (by omega) | exact rLdRd1 (HR2.out u hu) _ _ (by rfl) _ (by rfl) (agOf (by rfl)) i (by omega) HY.out (by omega)), ?_⟩); go_frame)
        (refine rgP 8 hS (fun _ h => h) ?_; go_frame)
        refine regDone (by kernel_rfl) ?_
        go_wp2
        go_ret
        exact ⟨_, rfl, ⟨false, rfl, fun h => absurd h (by decide), fun h => absurd (by rw [← HXE.out, ← HYE.out]; exact h i HLT.out) HNE.out⟩, hS⟩
    · obtain rfl : i = N := by omega
      have k1 : ¬ (i : Int) < (i : Int) := by omega
      clear hi hlt
      go_wp2
      go_ret
      exact ⟨_, rfl, ⟨true, rfl, fun _ => HP.out, fun _ => rfl⟩, hS⟩
end Go.Proofs.YtpnbdnfgdiakhaaGreat
namespace Go.Proofs.YtpnbdnfgdiakhaaGreat
open Go.RowKit Go.Sep
set_option linter.unusedSimpArgs false
set_option linter.unusedVariables false
attribute [local irreducible] Go.Oper.wp Go.wpList Go.Calls Go.Code.wp Go.Sep.Reg
attribute [local irreducible] IsG
/-- The rows that the document's to finds. -/
def vrs (pv lb q0 : Nat) (G : Gr) (an : Option Addr) (cn : Nat) (ae : Option Addr) (ce : Nat) (M : List Asrt) : List Asrt :=
  Cs pv 74 [.pointer (some ⟨q0, 0, none⟩), .slice (some ⟨lb, 0, none⟩) G.N.length G.N.length] :: Cs lb 3 (il G.lab G.N.length) :: Cs q0 53 [.slice an G.N.length cn, .slice ae G.E.length ce] :: Tb 60 6 nv (.slice an G.N.length cn) G.N :: Tb 83 2 ev (.slice ae G.E.length ce) G.E :: M
/-- Where a question leads from those of a row. -/
def IsTo (G : Gr) (d : Nat) (q : StepD) (S T : Nat → Bool) : Prop := ∀ n, n < G.N.length → (T n = true ↔ ∃ m, m < G.N.length ∧ S m = true ∧ Rel G d q m n)
def ToPost (W : World) (pv lb q0 : Nat) (G : Gr) (an : Option Addr) (cn : Nat) (ae : Option Addr) (ce : Nat) (d : Nat) (M : List Asrt) (q : StepD) (S : Nat → Bool) (v : Value) (w' : World) : Prop :=
  ∃ T M', IsTo G d q S T ∧ Sat W w' (vrs pv lb q0 G an cn ae ce (M' ++ M)) ∧ ∀ w L', Sat W w (L' ++ (M' ++ M)) → Rd w v G.N.length 1 (bl T G.N.length)
def ToC (W : World) (pv lb q0 : Nat) (G : Gr) (an : Option Addr) (cn : Nat) (ae : Option Addr) (ce : Nat) (d : Nat) : Prop :=
  ∀ (w : World) (M : List Asrt) (q : StepD) (S : Nat → Bool) (va : Value), q.ok d = true → (∀ w L', Sat W w (L' ++ M) → QRd w d q) → (∀ w L', Sat W w (L' ++ M) → Rd w va G.N.length 1 (bl S G.N.length)) →
    Sat W w (vrs pv lb q0 G an cn ae ce M) →
    Calls Tryz.prog 26 #[.pointer (some ⟨pv, 0, none⟩), .agg (qv q).toArray, va] w fun e w' => ∃ v, e = .returned v ∧ ToPost W pv lb q0 G an cn ae ce d M q S v w'
/-- What the first edges lead to. -/
def TE (l : List (Nat × Nat)) (S : Nat → Bool) (n : Nat) : Bool := l.any fun e => S e.1 && decide (n = e.2)
theorem TE_yes {l : List (Nat × Nat)} {S : Nat → Bool} {i a b : Nat} (h : l[i]? = some (a, b)) (hs : S a = true) : (fun t => TE (l.take i) S t || decide (t = b)) = TE (l.take (i + 1)) S := by
  funext t
  unfold TE
  rw [List.take_add_one, h, List.any_append]
  simp [hs]
theorem TE_no {l : List (Nat × Nat)} {S : Nat → Bool} {i a b : Nat} (h : l[i]? = some (a, b)) (hs : S a = false) : TE (l.take i) S = TE (l.take (i + 1)) S := by
  funext t
  unfold TE
  rw [List.take_add_one, h, List.any_append]
  simp [hs]
theorem TE_zero (l : List (Nat × Nat)) (S : Nat → Bool) : (fun _ => false) = TE (l.take 0) S := by funext t; simp [TE]
def TF (l : List (Nat × Nat)) (S : Nat → Bool) (n : Nat) : Bool := l.any fun e => S e.2 && decide (n = e.1)
theorem TF_yes {l : List (Nat × Nat)} {S : Nat → Bool} {i a b : Nat} (h : l[i]? = some (a, b)) (hs : S b = true) : (fun t => TF (l.take i) S t || decide (t = a)) = TF (l.take (i + 1)) S := by
  funext t
  unfold TF
  rw [List.take_add_one, h, List.any_append]
  simp [hs]
theorem TF_no {l : List (Nat × Nat)} {S : Nat → Bool} {i a b : Nat} (h : l[i]? = some (a, b)) (hs : S b = false) : TF (l.take i) S = TF (l.take (i + 1)) S := by
  funext t
  unfold TF
  rw [List.take_add_one, h, List.any_append]
  simp [hs]
theorem TF_zero (l : List (Nat × Nat)) (S : Nat → Bool) : (fun _ => false) = TF (l.take 0) S := by funext t; simp [TF]
theorem TE_to {G : Gr} (hG : G.Ok) (d : Nat) (n : Int) (u : Value) (ks : List StepD) (S : Nat → Bool) : IsTo G (d + 1) (.mk 1 n u ks) S (TE G.E S) := fun k _ => by
  rw [rel_up G d (q := .mk 1 n u ks) rfl]
  unfold TE
  rw [List.any_eq_true]
  constructor
  · rintro ⟨⟨a, b⟩, h1, h2⟩
    simp only [Bool.and_eq_true, decide_eq_true_eq] at h2
    obtain ⟨h2, rfl⟩ := h2
    exact ⟨a, (hG.low _ h1).1, h2, h1⟩
  · rintro ⟨m, _, h2, h3⟩
    exact ⟨(m, k), h3, by simp [h2]⟩
theorem TF_to {G : Gr} (hG : G.Ok) (d : Nat) (n : Int) (u : Value) (ks : List StepD) (S : Nat → Bool) : IsTo G (d + 1) (.mk 2 n u ks) S (TF G.E S) := fun k _ => by
  rw [rel_down G d (q := .mk 2 n u ks) rfl]
  unfold TF
  rw [List.any_eq_true]
  constructor
  · rintro ⟨⟨a, b⟩, h1, h2⟩
    simp only [Bool.and_eq_true, decide_eq_true_eq] at h2
    obtain ⟨h2, rfl⟩ := h2
    exact ⟨b, (hG.low _ h1).2, h2, h1⟩
  · rintro ⟨m, _, h2, h3⟩
    exact ⟨(k, m), h3, by simp [h2]⟩
theorem ev_all (x : Nat × Nat) : ∀ u ∈ ev x, u.oneCell' = true := fun u hu => by
  simp only [ev, List.mem_cons, List.not_mem_nil, or_false] at hu
  rcases hu with rfl | rfl <;> rfl
set_option maxRecDepth 20000 in
set_option maxHeartbeats 4000000 in
theorem to_up {W w : World} {M : List Asrt} {pv lb q0 : Nat} {G : Gr} {an : Option Addr} {cn : Nat} {ae : Option Addr} {ce d : Nat} (hG : G.Ok) (n : Int) (u : Value) (ks : List StepD) (S : Nat → Bool) (va : Value) (hu : ∃ ao n c, u = .slice ao n c) (hv : ∀ w L', Sat W w (L' ++ M) → Rd w va G.N.length 1 (bl S G.N.length)) (hS : Sat W w (vrs pv lb q0 G an cn ae ce M)) :
    Calls Tryz.prog 26 #[.pointer (some ⟨pv, 0, none⟩), .agg #[.int .i64 1, .int .i64 n, u], va] w fun e w' => ∃ v, e = .returned v ∧ ToPost W pv lb q0 G an cn ae ce (d + 1) M (.mk 1 n u ks) S v w' := by
  obtain ⟨ao, nu, c, rfl⟩ := hu
  have hnl : (G.N.length : Int) ≤ 4096 := by have := hG.len; omega
  have hel : (G.E.length : Int) ≤ 1000000 := by have := hG.edges; omega
  have HLOW := Lib.hid hG.low
  have HTO := Lib.hid (TE_to hG d n (.slice ao nu c) ks S)
  obtain ⟨av, cv, rfl, _, hcv, _, h5⟩ := hv w [_, _, _, _, _] hS
  have HV := Lib.hid hv
  have H5 := Lib.hid (show 0 < G.N.length → ∃ b off, av = some ⟨b, off, none⟩ from fun h => by obtain ⟨b, off, h1, _⟩ := h5 h; exact ⟨b, off, h1⟩)
  have HAE := Lib.hid (fun (w : World) (h : Sat W w (Cs pv 74 [.pointer (some ⟨q0, 0, none⟩), .slice (some ⟨lb, 0, none⟩) G.N.length G.N.length] :: Cs lb 3 (il G.lab G.N.length) :: Cs q0 53 [.slice an G.N.length cn, .slice (ae) G.E.length ce] :: Tb 60 6 nv (.slice an G.N.length cn) G.N :: Tb 83 2 ev (.slice (ae) G.E.length ce) G.E :: M)) (h0 : 0 < G.E.length) => h.tbAddr (k := 4) rfl h0)
  clear hv h5 hG
  unfold vrs at hS
  go_enter Tryz.func26, Tryz.ntmps26
  go_wp2_with ((first
    | (refine toList (by rfl) ?_; refine bx (show Sat W _ (Cs pv _ _ :: _) from hS) _ _ (by rfl) _ (by first | exact evC | exact evT (by rfl)) ?_; intro p4 w1 hS1; clear hS; have hS := (show Sat W w1 (Cs p4 27 [.int .i64 1, .int .i64 n, .slice ao nu c] :: Cs pv 74 [.pointer (some ⟨q0, 0, none⟩), .slice (some ⟨lb, 0, none⟩) G.N.length G.N.length] :: Cs lb 3 (il G.lab G.N.length) :: Cs q0 53 [.slice an G.N.length cn, .slice (ae) G.E.length ce] :: Tb 60 6 nv (.slice an G.N.length cn) G.N :: Tb 83 2 ev (.slice (ae) G.E.length ce) G.E :: M) from hS1); clear hS1)
    | (refine toList (by rfl) ?_; refine mk hS _ _ _ (by rfl) G.N.length G.N.length _ _ (by rfl) (by rfl) (elOf (by rfl)) (by omega) (by omega) (by omega) ?_; intro o w1 hS1; clear hS; have hS := hS1; clear hS1; rw [made_bool] at hS)
    | (refine toList (by rfl) ?_; refine ld hS _ _ (by rfl) _ _ (by rfl) (agOf (by rfl)) ((Has.s Has.z)) (by rfl) ?_)))
  rw [TE_zero G.E S] at hS
  have H0 := Lib.hid hS
  go_loopw [8] (fun v wz => ∃ i : Nat, v = .int .i64 i ∧ i ≤ G.E.length ∧ Sat W wz (Cs o 4 (bl (TE (G.E.take i) S) G.N.length) :: Cs p4 27 [.int .i64 1, .int .i64 n, .slice ao nu c] :: Cs pv 74 [.pointer (some ⟨q0, 0, none⟩), .slice (some ⟨lb, 0, none⟩) G.N.length G.N.length] :: Cs lb 3 (il G.lab G.N.length) :: Cs q0 53 [.slice an G.N.length cn, .slice (ae) G.E.length ce] :: Tb 60 6 nv (.slice an G.N.length cn) G.N :: Tb 83 2 ev (.slice (ae) G.E.length ce) G.E :: M)) (fun v _ => G.E.length - (intOf v).toNat)
  case atStart => exact ⟨0, rfl, by omega, H0.out⟩
  case round =>
    clear hS H0
    obtain ⟨i, rfl, hi, hS⟩ := hrel
    by_cases hlt : i < G.E.length
    · have k1 : (i : Int) < (G.E.length : Int) := by omega
      have HLT := Lib.hid hlt
      obtain ⟨⟨a, b⟩, he⟩ : ∃ e, G.E[i]? = some e := ⟨_, List.getElem?_eq_getElem hlt⟩
      have HE := Lib.hid he
      obtain ⟨haN, hbN⟩ := HLOW.out _ (List.mem_of_getElem? he)
      obtain ⟨be, oe, c', hve, _⟩ := HAE.out _ hS.drop.drop (by omega)
      simp only [Value.slice.injEq, true_and] at hve
      obtain ⟨rfl, rfl⟩ := hve
      obtain ⟨bv, ov, rfl⟩ := H5.out (by omega)
      have HYN := Lib.hid hbN
      have a1 : (a : Int) < (G.N.length : Int) := by omega
      have b1 : (b : Int) < (G.N.length : Int) := by omega
      cases hs : S a with
      | true =>
        have HX := Lib.hid (show (bl S G.N.length)[a]? = some (.bool true) by rw [bl_at haN, hs])
        have HPUT := Lib.hid (TE_yes he hs)
        clear he haN hbN hlt hi hs
        go_wp2_with ((first
          | (refine toList (by rfl) ?_; refine ld hS _ _ (by rfl) _ _ (by rfl) (agOf (by rfl)) ((Has.s (Has.s Has.z))) (by rfl) ?_)
          | (refine toList (by rfl) ?_; refine ld hS _ _ (by rfl) _ _ (by rfl) (agOf (by rfl)) ((Has.s (Has.s (Has.s (Has.s Has.z))))) (by rfl) ?_)
          | (refine toList (by rfl) ?_; refine ld hS _ _ (by rfl) _ _ (by rfl) (agOf (by rfl)) ((Has.s (Has.s (Has.s Has.z)))) (by rfl) ?_)
          | (refine toList (by rfl) ?_; refine ld hS _ _ (by rfl) _ _ (by rfl) (agOf (by rfl)) ((Has.s (Has.s (Has.s (Has.s (Has.s Has.z)))))) (by rfl) ?_)
          | (refine toList (by rfl) ?_; refine ld hS _ _ (by rfl) _ _ (by rfl) (agOf (by rfl)) ((Has.s Has.z)) (by rfl) ?_)
          | (refine toList (by rfl) ?_; refine ld hS _ _ (by rfl) _ _ (by rfl) (agOf (by rfl)) (Has.z) (by rfl) ?_)
          | (refine toList (by rfl) ?_; refine ldTbA hS _ _ (by rfl) _ _ (by rfl) (agOf (by rfl)) (szOf (by rfl)) (Has.s (Has.s (Has.s (Has.s (Has.s (Has.s Has.z)))))) i (by omega) HE.out ?_)
          | (refine toList (by rfl) ?_; refine al hS _ (by rfl) (zrOf (by rfl)) ?_; intro px w1 hS1; clear hS; have hS := hS1; clear hS1)
          | (refine toList (by rfl) ?_; refine stW hS _ _ _ (by rfl) (by rfl) (ev (a, b)) (by rfl) (by exact ev_all _) (szOf (by rfl)) Has.z rfl ?_; intro w1 hS1; clear hS; have hS := hS1; clear hS1; dsimp only [List.set_cons_zero] at hS)
          | (refine toList (by rfl) ?_; refine wp_of_reads (rLdRd1 (HV.out _ (_ :: _ :: _ :: _ :: _ :: _ :: _ :: [_]) hS) _ _ (by rfl) _ (by rfl) (agOf (by rfl)) (a) (by omega) HX.out (by omega)) ?_)
          | (refine toList (by rfl) ?_; refine Go.Sep.st hS _ _ _ (by rfl) _ _ (by rfl) (.bool true) (by rfl) (by rfl) (szOf (by rfl)) (Has.s Has.z) (by rw [bl_len]; exact HYN.out) ?_; intro w1 hS1; clear hS; have hS := hS1; clear hS1; simp only [List.set_cons_zero, List.set_cons_succ] at hS; rw [bl_set HYN.out, HPUT.out] at hS)))
        exact ⟨⟨i + 1, by go_num, HLT.out, hS.drop⟩, by simp [intOf]; have := HLT.out; omega⟩
      | false =>
        have HX := Lib.hid (show (bl S G.N.length)[a]? = some (.bool false) by rw [bl_at haN, hs])
        have HPUT := Lib.hid (TE_no he hs)
        clear he haN hbN hlt hi hs
        go_wp2_with ((first
          | (refine toList (by rfl) ?_; refine ld hS _ _ (by rfl) _ _ (by rfl) (agOf (by rfl)) ((Has.s (Has.s Has.z))) (by rfl) ?_)
          | (refine toList (by rfl) ?_; refine ld hS _ _ (by rfl) _ _ (by rfl) (agOf (by rfl)) ((Has.s (Has.s (Has.s (Has.s Has.z))))) (by rfl) ?_)
          | (refine toList (by rfl) ?_; refine ld hS _ _ (by rfl) _ _ (by rfl) (agOf (by rfl)) ((Has.s (Has.s (Has.s Has.z)))) (by rfl) ?_)
          | (refine toList (by rfl) ?_; refine ld hS _ _ (by rfl) _ _ (by rfl) (agOf (by rfl)) ((Has.s (Has.s (Has.s (Has.s (Has.s Has.z)))))) (by rfl) ?_)
          | (refine toList (by rfl) ?_; refine ld hS _ _ (by rfl) _ _ (by rfl) (agOf (by rfl)) ((Has.s Has.z)) (by rfl) ?_)
          | (refine toList (by rfl) ?_; refine ld hS _ _ (by rfl) _ _ (by rfl) (agOf (by rfl)) (Has.z) (by rfl) ?_)
          | (refine toList (by rfl) ?_; refine ldTbA hS _ _ (by rfl) _ _ (by rfl) (agOf (by rfl)) (szOf (by rfl)) (Has.s (Has.s (Has.s (Has.s (Has.s (Has.s Has.z)))))) i (by omega) HE.out ?_)
          | (refine toList (by rfl) ?_; refine al hS _ (by rfl) (zrOf (by rfl)) ?_; intro px w1 hS1; clear hS; have hS := hS1; clear hS1)
          | (refine toList (by rfl) ?_; refine stW hS _ _ _ (by rfl) (by rfl) (ev (a, b)) (by rfl) (by exact ev_all _) (szOf (by rfl)) Has.z rfl ?_; intro w1 hS1; clear hS; have hS := hS1; clear hS1; dsimp only [List.set_cons_zero] at hS)
          | (refine toList (by rfl) ?_; refine wp_of_reads (rLdRd1 (HV.out _ (_ :: _ :: _ :: _ :: _ :: _ :: _ :: [_]) hS) _ _ (by rfl) _ (by rfl) (agOf (by rfl)) (a) (by omega) HX.out (by omega)) ?_)
          | (refine toList (by rfl) ?_; refine Go.Sep.st hS _ _ _ (by rfl) _ _ (by rfl) (.bool true) (by rfl) (by rfl) (szOf (by rfl)) (Has.s Has.z) (by rw [bl_len]; exact HYN.out) ?_; intro w1 hS1; clear hS; have hS := hS1; clear hS1; simp only [List.set_cons_zero, List.set_cons_succ] at hS; rw [bl_set HYN.out, HPUT.out] at hS)))
        exact ⟨⟨i + 1, by go_num, HLT.out, by rw [← HPUT.out]; exact hS.drop⟩, by simp [intOf]; have := HLT.out; omega⟩
    · obtain rfl : i = G.E.length := by omega
      have k1 : ¬ (G.E.length : Int) < (G.E.length : Int) := by omega
      rw [List.take_length] at hS
      clear hi hlt
      go_wp2_with (first
        | (refine toList (by rfl) ?_; refine ld hS _ _ (by rfl) _ _ (by rfl) (agOf (by rfl)) ((Has.s (Has.s Has.z))) (by rfl) ?_)
        | (refine toList (by rfl) ?_; refine ld hS _ _ (by rfl) _ _ (by rfl) (agOf (by rfl)) ((Has.s (Has.s (Has.s (Has.s Has.z))))) (by rfl) ?_))
      go_ret
      refine ⟨_, rfl, _, [Cs o _ _, Cs p4 _ _], HTO.out, hS.re [2, 3, 4, 5, 6], fun w L' h => ?_⟩
      exact h.csRd0 (n := G.N.length) (sz := 1) (has_app _ _ _) (by omega) (by rw [bl_len]; omega)
set_option maxRecDepth 20000 in
set_option maxHeartbeats 4000000 in
theorem to_down {W w : World} {M : List Asrt} {pv lb q0 : Nat} {G : Gr} {an : Option Addr} {cn : Nat} {ae : Option Addr} {ce d : Nat} (hG : G.Ok) (n : Int) (u : Value) (ks : List StepD) (S : Nat → Bool) (va : Value) (hu : ∃ ao n c, u = .slice ao n c) (hv : ∀ w L', Sat W w (L' ++ M) → Rd w va G.N.length 1 (bl S G.N.length)) (hS : Sat W w (vrs pv lb q0 G an cn ae ce M)) :
    Calls Tryz.prog 26 #[.pointer (some ⟨pv, 0, none⟩), .agg #[.int .i64 2, .int .i64 n, u], va] w fun e w' => ∃ v, e = .returned v ∧ ToPost W pv lb q0 G an cn ae ce (d + 1) M (.mk 2 n u ks) S v w' := by
  obtain ⟨ao, nu, c, rfl⟩ := hu
  have hnl : (G.N.length : Int) ≤ 4096 := by have := hG.len; omega
  have hel : (G.E.length : Int) ≤ 1000000 := by have := hG.edges; omega
  have HLOW := Lib.hid hG.low
  have HTO := Lib.hid (TF_to hG d n (.slice ao nu c) ks S)
  obtain ⟨av, cv, rfl, _, hcv, _, h5⟩ := hv w [_, _, _, _, _] hS
  have HV := Lib.hid hv
  have H5 := Lib.hid (show 0 < G.N.length → ∃ b off, av = some ⟨b, off, none⟩ from fun h => by obtain ⟨b, off, h1, _⟩ := h5 h; exact ⟨b, off, h1⟩)
  have HAE := Lib.hid (fun (w : World) (h : Sat W w (Cs pv 74 [.pointer (some ⟨q0, 0, none⟩), .slice (some ⟨lb, 0, none⟩) G.N.length G.N.length] :: Cs lb 3 (il G.lab G.N.length) :: Cs q0 53 [.slice an G.N.length cn, .slice (ae) G.E.length ce] :: Tb 60 6 nv (.slice an G.N.length cn) G.N :: Tb 83 2 ev (.slice (ae) G.E.length ce) G.E :: M)) (h0 : 0 < G.E.length) => h.tbAddr (k := 4) rfl h0)
  clear hv h5 hG
  unfold vrs at hS
  go_enter Tryz.func26, Tryz.ntmps26
  go_wp2_with ((first
    | (refine toList (by rfl) ?_; refine bx (show Sat W _ (Cs pv _ _ :: _) from hS) _ _ (by rfl) _ (by first | exact evC | exact evT (by rfl)) ?_; intro p4 w1 hS1; clear hS; have hS := (show Sat W w1 (Cs p4 27 [.int .i64 2, .int .i64 n, .slice ao nu c] :: Cs pv 74 [.pointer (some ⟨q0, 0, none⟩), .slice (some ⟨lb, 0, none⟩) G.N.length G.N.length] :: Cs lb 3 (il G.lab G.N.length) :: Cs q0 53 [.slice an G.N.length cn, .slice (ae) G.E.length ce] :: Tb 60 6 nv (.slice an G.N.length cn) G.N :: Tb 83 2 ev (.slice (ae) G.E.length ce) G.E :: M) from hS1); clear hS1)
    | (refine toList (by rfl) ?_; refine mk hS _ _ _ (by rfl) G.N.length G.N.length _ _ (by rfl) (by rfl) (elOf (by rfl)) (by omega) (by omega) (by omega) ?_; intro o w1 hS1; clear hS; have hS := hS1; clear hS1; rw [made_bool] at hS)
    | (refine toList (by rfl) ?_; refine ld hS _ _ (by rfl) _ _ (by rfl) (agOf (by rfl)) ((Has.s Has.z)) (by rfl) ?_)))
  rw [TF_zero G.E S] at hS
  have H0 := Lib.hid hS
  go_loopw [8] (fun v wz => ∃ i : Nat, v = .int .i64 i ∧ i ≤ G.E.length ∧ Sat W wz (Cs o 4 (bl (TF (G.E.take i) S) G.N.length) :: Cs p4 27 [.int .i64 2, .int .i64 n, .slice ao nu c] :: Cs pv 74 [.pointer (some ⟨q0, 0, none⟩), .slice (some ⟨lb, 0, none⟩) G.N.length G.N.length] :: Cs lb 3 (il G.lab G.N.length) :: Cs q0 53 [.slice an G.N.length cn, .slice (ae) G.E.length ce] :: Tb 60 6 nv (.slice an G.N.length cn) G.N :: Tb 83 2 ev (.slice (ae) G.E.length ce) G.E :: M)) (fun v _ => G.E.length - (intOf v).toNat)
  case atStart => exact ⟨0, rfl, by omega, H0.out⟩
  case round =>
    clear hS H0
    obtain ⟨i, rfl, hi, hS⟩ := hrel
    by_cases hlt : i < G.E.length
    · have k1 : (i : Int) < (G.E.length : Int) := by omega
      have HLT := Lib.hid hlt
      obtain ⟨⟨a, b⟩, he⟩ : ∃ e, G.E[i]? = some e := ⟨_, List.getElem?_eq_getElem hlt⟩
      have HE := Lib.hid he
      obtain ⟨haN, hbN⟩ := HLOW.out _ (List.mem_of_getElem? he)
      obtain ⟨be, oe, c', hve, _⟩ := HAE.out _ hS.drop.drop (by omega)
      simp only [Value.slice.injEq, true_and] at hve
      obtain ⟨rfl, rfl⟩ := hve
      obtain ⟨bv, ov, rfl⟩ := H5.out (by omega)
      have HYN := Lib.hid haN
      have a1 : (a : Int) < (G.N.length : Int) := by omega
      have b1 : (b : Int) < (G.N.length : Int) := by omega
      cases hs : S b with
      | true =>
        have HX := Lib.hid (show (bl S G.N.length)[b]? = some (.bool true) by rw [bl_at hbN, hs])
        have HPUT := Lib.hid (TF_yes he hs)
        clear he haN hbN hlt hi hs
        go_wp2_with ((first
          | (refine toList (by rfl) ?_; refine ld hS _ _ (by rfl) _ _ (by rfl) (agOf (by rfl)) ((Has.s (Has.s Has.z))) (by rfl) ?_)
          | (refine toList (by rfl) ?_; refine ld hS _ _ (by rfl) _ _ (by rfl) (agOf (by rfl)) ((Has.s (Has.s (Has.s (Has.s Has.z))))) (by rfl) ?_)
          | (refine toList (by rfl) ?_; refine ld hS _ _ (by rfl) _ _ (by rfl) (agOf (by rfl)) ((Has.s (Has.s (Has.s Has.z)))) (by rfl) ?_)
          | (refine toList (by rfl) ?_; refine ld hS _ _ (by rfl) _ _ (by rfl) (agOf (by rfl)) ((Has.s (Has.s (Has.s (Has.s (Has.s Has.z)))))) (by rfl) ?_)
          | (refine toList (by rfl) ?_; refine ld hS _ _ (by rfl) _ _ (by rfl) (agOf (by rfl)) ((Has.s Has.z)) (by rfl) ?_)
          | (refine toList (by rfl) ?_; refine ld hS _ _ (by rfl) _ _ (by rfl) (agOf (by rfl)) (Has.z) (by rfl) ?_)
          | (refine toList (by rfl) ?_; refine ldTbA hS _ _ (by rfl) _ _ (by rfl) (agOf (by rfl)) (szOf (by rfl)) (Has.s (Has.s (Has.s (Has.s (Has.s (Has.s Has.z)))))) i (by omega) HE.out ?_)
          | (refine toList (by rfl) ?_; refine al hS _ (by rfl) (zrOf (by rfl)) ?_; intro px w1 hS1; clear hS; have hS := hS1; clear hS1)
          | (refine toList (by rfl) ?_; refine stW hS _ _ _ (by rfl) (by rfl) (ev (a, b)) (by rfl) (by exact ev_all _) (szOf (by rfl)) Has.z rfl ?_; intro w1 hS1; clear hS; have hS := hS1; clear hS1; dsimp only [List.set_cons_zero] at hS)
          | (refine toList (by rfl) ?_; refine wp_of_reads (rLdRd1 (HV.out _ (_ :: _ :: _ :: _ :: _ :: _ :: _ :: [_]) hS) _ _ (by rfl) _ (by rfl) (agOf (by rfl)) (b) (by omega) HX.out (by omega)) ?_)
          | (refine toList (by rfl) ?_; refine Go.Sep.st hS _ _ _ (by rfl) _ _ (by rfl) (.bool true) (by rfl) (by rfl) (szOf (by rfl)) (Has.s Has.z) (by rw [bl_len]; exact HYN.out) ?_; intro w1 hS1; clear hS; have hS := hS1; clear hS1; simp only [List.set_cons_zero, List.set_cons_succ] at hS; rw [bl_set HYN.out, HPUT.out] at hS)))
        exact ⟨⟨i + 1, by go_num, HLT.out, hS.drop⟩, by simp [intOf]; have := HLT.out; omega⟩
      | false =>
        have HX := Lib.hid (show (bl S G.N.length)[b]? = some (.bool false) by rw [bl_at hbN, hs])
        have HPUT := Lib.hid (TF_no he hs)
        clear he haN hbN hlt hi hs
        go_wp2_with ((first
          | (refine toList (by rfl) ?_; refine ld hS _ _ (by rfl) _ _ (by rfl) (agOf (by rfl)) ((Has.s (Has.s Has.z))) (by rfl) ?_)
          | (refine toList (by rfl) ?_; refine ld hS _ _ (by rfl) _ _ (by rfl) (agOf (by rfl)) ((Has.s (Has.s (Has.s (Has.s Has.z))))) (by rfl) ?_)
          | (refine toList (by rfl) ?_; refine ld hS _ _ (by rfl) _ _ (by rfl) (agOf (by rfl)) ((Has.s (Has.s (Has.s Has.z)))) (by rfl) ?_)
          | (refine toList (by rfl) ?_; refine ld hS _ _ (by rfl) _ _ (by rfl) (agOf (by rfl)) ((Has.s (Has.s (Has.s (Has.s (Has.s Has.z)))))) (by rfl) ?_)
          | (refine toList (by rfl) ?_; refine ld hS _ _ (by rfl) _ _ (by rfl) (agOf (by rfl)) ((Has.s Has.z)) (by rfl) ?_)
          | (refine toList (by rfl) ?_; refine ld hS _ _ (by rfl) _ _ (by rfl) (agOf (by rfl)) (Has.z) (by rfl) ?_)
          | (refine toList (by rfl) ?_; refine ldTbA hS _ _ (by rfl) _ _ (by rfl) (agOf (by rfl)) (szOf (by rfl)) (Has.s (Has.s (Has.s (Has.s (Has.s (Has.s Has.z)))))) i (by omega) HE.out ?_)
          | (refine toList (by rfl) ?_; refine al hS _ (by rfl) (zrOf (by rfl)) ?_; intro px w1 hS1; clear hS; have hS := hS1; clear hS1)
          | (refine toList (by rfl) ?_; refine stW hS _ _ _ (by rfl) (by rfl) (ev (a, b)) (by rfl) (by exact ev_all _) (szOf (by rfl)) Has.z rfl ?_; intro w1 hS1; clear hS; have hS := hS1; clear hS1; dsimp only [List.set_cons_zero] at hS)
          | (refine toList (by rfl) ?_; refine wp_of_reads (rLdRd1 (HV.out _ (_ :: _ :: _ :: _ :: _ :: _ :: _ :: [_]) hS) _ _ (by rfl) _ (by rfl) (agOf (by rfl)) (b) (by omega) HX.out (by omega)) ?_)
          | (refine toList (by rfl) ?_; refine Go.Sep.st hS _ _ _ (by rfl) _ _ (by rfl) (.bool true) (by rfl) (by rfl) (szOf (by rfl)) (Has.s Has.z) (by rw [bl_len]; exact HYN.out) ?_; intro w1 hS1; clear hS; have hS := hS1; clear hS1; simp only [List.set_cons_zero, List.set_cons_succ] at hS; rw [bl_set HYN.out, HPUT.out] at hS)))
        exact ⟨⟨i + 1, by go_num, HLT.out, by rw [← HPUT.out]; exact hS.drop⟩, by simp [intOf]; have := HLT.out; omega⟩
    · obtain rfl : i = G.E.length := by omega
      have k1 : ¬ (G.E.length : Int) < (G.E.length : Int) := by omega
      rw [List.take_length] at hS
      clear hi hlt
      go_wp2_with (first
        | (refine toList (by rfl) ?_; refine ld hS _ _ (by rfl) _ _ (by rfl) (agOf (by rfl)) ((Has.s (Has.s Has.z))) (by rfl) ?_)
        | (refine toList (by rfl) ?_; refine ld hS _ _ (by rfl) _ _ (by rfl) (agOf (by rfl)) ((Has.s (Has.s (Has.s (Has.s Has.z))))) (by rfl) ?_))
      go_ret
      refine ⟨_, rfl, _, [Cs o _ _, Cs p4 _ _], HTO.out, hS.re [2, 3, 4, 5, 6], fun w L' h => ?_⟩
      exact h.csRd0 (n := G.N.length) (sz := 1) (has_app _ _ _) (by omega) (by rw [bl_len]; omega)
end Go.Proofs.YtpnbdnfgdiakhaaGreat
namespace Go.Proofs.YtpnbdnfgdiakhaaGreat
open Go.RowKit Go.Sep
set_option linter.unusedSimpArgs false
set_option linter.unusedVariables false
attribute [local irreducible] Go.Oper.wp Go.wpList Go.Calls Go.Code.wp Go.Sep.Reg
attribute [local irreducible] IsG
theorem keep_to {G : Gr} {d : Nat} {q : StepD} {S P : Nat → Bool} (h : ∀ m n, m < G.N.length → (Rel G d q m n ↔ m = n ∧ P m = true)) : IsTo G d q S fun t => S t && P t := fun k hk => by
  rw [Bool.and_eq_true]
  constructor
  · rintro ⟨h1, h2⟩; exact ⟨k, hk, h1, (h k k hk).2 ⟨rfl, h2⟩⟩
  · rintro ⟨m, hm, h1, h2⟩
    obtain ⟨rfl, h3⟩ := (h m k hm).1 h2
    exact ⟨h1, h3⟩
theorem live_rel {G : Gr} (d : Nat) (n : Int) (u : Value) (ks : List StepD) (m k : Nat) (hm : m < G.N.length) : Rel G (d + 1) (.mk 8 n u ks) m k ↔ m = k ∧ (!(G.nodeI (m : Int)).orph) = true := by
  rw [rel_live G d (q := .mk 8 n u ks) rfl]
  obtain ⟨x, hx⟩ : ∃ x, G.N[m]? = some x := ⟨_, List.getElem?_eq_getElem hm⟩
  rw [Gr.nodeI_at hx]
  constructor
  · rintro ⟨rfl, y, hy, h⟩
    rw [hx] at hy; cases hy
    exact ⟨rfl, by rw [h]; rfl⟩
  · rintro ⟨rfl, h⟩
    exact ⟨rfl, x, hx, by simpa using h⟩
theorem kind_rel {G : Gr} (d : Nat) (n : Int) (u : Value) (ks : List StepD) (m k : Nat) (hm : m < G.N.length) : Rel G (d + 1) (.mk 3 n u ks) m k ↔ m = k ∧ ((G.nodeI (m : Int)).kind == n) = true := by
  rw [rel_kind G d (q := .mk 3 n u ks) rfl]
  obtain ⟨x, hx⟩ : ∃ x, G.N[m]? = some x := ⟨_, List.getElem?_eq_getElem hm⟩
  rw [Gr.nodeI_at hx]
  constructor
  · rintro ⟨rfl, y, hy, h⟩
    rw [hx] at hy; cases hy
    exact ⟨rfl, beq_iff_eq.2 h⟩
  · rintro ⟨rfl, h⟩
    exact ⟨rfl, x, hx, beq_iff_eq.1 h⟩
theorem label_rel {G : Gr} (d : Nat) (t : Nat) (u : Value) (ks : List StepD) (m k : Nat) (_ : m < G.N.length) : Rel G (d + 1) (.mk 4 (t : Int) u ks) m k ↔ m = k ∧ (G.lab m).testBit t = true := by
  rw [rel_label G d (q := .mk 4 (t : Int) u ks) rfl]
  exact Iff.rfl
end Go.Proofs.YtpnbdnfgdiakhaaGreat
namespace Go.Proofs.YtpnbdnfgdiakhaaGreat
open Go.RowKit Go.Sep
set_option linter.unusedSimpArgs false
set_option linter.unusedVariables false
attribute [local irreducible] Go.Oper.wp Go.wpList Go.Calls Go.Code.wp Go.Sep.Reg
attribute [local irreducible] IsG
/-- Where the first of the kids lead, one behind another. -/
def ThenTo (G : Gr) (d : Nat) (ks : List StepD) (S T : Nat → Bool) : Prop := ∀ n, n < G.N.length → (T n = true ↔ ∃ m, m < G.N.length ∧ S m = true ∧ CompR (Rel G d) ks m n)
theorem ThenTo.start {G : Gr} {d : Nat} {S : Nat → Bool} : ThenTo G d [] S S := fun n hn => ⟨fun h => ⟨n, hn, h, rfl⟩, fun ⟨m, _, h, e⟩ => by cases e; exact h⟩
theorem ThenTo.next {G : Gr} (hG : G.Ok) {d : Nat} {ks : List StepD} {k : StepD} {S T T' : Nat → Bool} (h : ThenTo G d ks S T) (h2 : IsTo G d k T T') : ThenTo G d (ks ++ [k]) S T' := fun n hn => by
  rw [h2 n hn]
  constructor
  · rintro ⟨x, hx, h3, h4⟩
    obtain ⟨m, hm, h5, h6⟩ := (h x hx).1 h3
    exact ⟨m, hm, h5, (comp_snoc _ k ks m n).2 ⟨x, h6, h4⟩⟩
  · rintro ⟨m, hm, h5, h6⟩
    obtain ⟨x, h7, h8⟩ := (comp_snoc _ k ks m n).1 h6
    have hx := comp_lt (G := G) (fun k m n => rel_lt hG d k m n) ks m x hm h7
    exact ⟨x, hx, (h x hx).2 ⟨m, hm, h5, h7⟩, h8⟩
theorem ThenTo.done {G : Gr} {d : Nat} {n : Int} {u : Value} {ks : List StepD} {S T : Nat → Bool} (h : ThenTo G d ks S T) : IsTo G (d + 1) (.mk 7 n u ks) S T := fun k hk => by
  rw [rel_then G d (q := .mk 7 n u ks) rfl]
  exact h k hk
/-- Where one of the first kids leads. -/
def OrTo (G : Gr) (d : Nat) (ks : List StepD) (S T : Nat → Bool) : Prop := ∀ n, n < G.N.length → (T n = true ↔ ∃ m, m < G.N.length ∧ S m = true ∧ ∃ k ∈ ks, Rel G d k m n)
theorem OrTo.start {G : Gr} {d : Nat} {S : Nat → Bool} : OrTo G d [] S (fun _ => false) := fun n hn => ⟨(fun h => by cases h), (fun ⟨m, _, _, k, hk, _⟩ => nomatch hk)⟩
theorem OrTo.next {G : Gr} {d : Nat} {ks : List StepD} {k : StepD} {S T T' : Nat → Bool} (h : OrTo G d ks S T) (h2 : IsTo G d k S T') : OrTo G d (ks ++ [k]) S (fun t => T t || T' t) := fun n hn => by
  rw [Bool.or_eq_true, h n hn, h2 n hn]
  constructor
  · rintro (⟨m, hm, h3, k', hk, h4⟩ | ⟨m, hm, h3, h4⟩)
    · exact ⟨m, hm, h3, k', List.mem_append_left _ hk, h4⟩
    · exact ⟨m, hm, h3, k, List.mem_append_right _ (List.mem_singleton.2 rfl), h4⟩
  · rintro ⟨m, hm, h3, k', hk, h4⟩
    rcases List.mem_append.1 hk with hk | hk
    · exact .inl ⟨m, hm, h3, k', hk, h4⟩
    · rw [List.mem_singleton.1 hk] at h4
      exact .inr ⟨m, hm, h3, h4⟩
theorem OrTo.done {G : Gr} {d : Nat} {n : Int} {u : Value} {ks : List StepD} {S T : Nat → Bool} (h : OrTo G d ks S T) : IsTo G (d + 1) (.mk 6 n u ks) S T := fun k hk => by
  rw [rel_or G d (q := .mk 6 n u ks) rfl]
  exact h k hk
set_option maxRecDepth 20000 in
set_option maxHeartbeats 8000000 in
theorem to_then {W w : World} {M : List Asrt} {pv lb q0 : Nat} {G : Gr} {an : Option Addr} {cn : Nat} {ae : Option Addr} {ce d : Nat} (hG : G.Ok) (ih : ToC W pv lb q0 G an cn ae ce d) (n : Int) (u : Value) (ks : List StepD) (S : Nat → Bool) (va : Value) (hk0 : 0 < ks.length) (hok : ∀ k ∈ ks, k.ok d = true) (hq : ∀ w L', Sat W w (L' ++ M) → QRd w (d + 1) (.mk 7 n u ks)) (hv : ∀ w L', Sat W w (L' ++ M) → Rd w va G.N.length 1 (bl S G.N.length)) (hS : Sat W w (vrs pv lb q0 G an cn ae ce M)) :
    Calls Tryz.prog 26 #[.pointer (some ⟨pv, 0, none⟩), .agg #[.int .i64 7, .int .i64 n, u], va] w fun e w' => ∃ v, e = .returned v ∧ ToPost W pv lb q0 G an cn ae ce (d + 1) M (.mk 7 n u ks) S v w' := by
  obtain ⟨⟨au, cu, he, hlc, hcu, _, hub⟩, _⟩ := hq w [_, _, _, _, _] hS
  replace he : u = .slice au ks.length cu := he
  subst he
  replace hlc : ks.length ≤ cu := hlc
  obtain ⟨bu, ou, rfl, _⟩ := hub hk0
  have hnl : (G.N.length : Int) ≤ 4096 := by have := hG.len; omega
  have hkl : (ks.length : Int) ≤ 9223372036854775807 := by omega
  obtain ⟨av, cv, rfl, _, hcv, _, _⟩ := hv w [_, _, _, _, _] hS
  have HG := Lib.hid hG
  have HIH0 := Lib.hid ih
  have HOK := Lib.hid hok
  have HV := Lib.hid hv
  have HQ0 := Lib.hid hq
  clear hq hv hub hG hok ih
  unfold vrs at hS
  go_enter Tryz.func26, Tryz.ntmps26
  go_wp2_with (first
    | (refine toList (by rfl) ?_; refine bx (show Sat W _ (Cs pv _ _ :: _) from hS) _ _ (by rfl) _ (by first | exact evC | exact evT (by rfl)) ?_; intro p4 w1 hS1; clear hS; have hS := (show Sat W w1 (Cs p4 27 [.int .i64 7, .int .i64 n, .slice (some ⟨bu, ou, none⟩) ks.length cu] :: Cs pv 74 [.pointer (some ⟨q0, 0, none⟩), .slice (some ⟨lb, 0, none⟩) G.N.length G.N.length] :: Cs lb 3 (il G.lab G.N.length) :: Cs q0 53 [.slice an G.N.length cn, .slice (ae) G.E.length ce] :: Tb 60 6 nv (.slice an G.N.length cn) G.N :: Tb 83 2 ev (.slice (ae) G.E.length ce) G.E :: (M)) from hS1); clear hS1)
    | (refine toList (by rfl) ?_; refine mk hS _ _ _ (by rfl) G.N.length G.N.length _ _ (by rfl) (by rfl) (elOf (by rfl)) (by omega) (by omega) (by omega) ?_; intro o w1 hS1; clear hS; have hS := hS1; clear hS1; rw [made_bool] at hS)
    | (refine toList (by rfl) ?_; refine ld hS _ _ (by rfl) _ _ (by rfl) (agOf (by rfl)) ((Has.s Has.z)) (by rfl) ?_))
  obtain ⟨M0, hM0⟩ : ∃ M0, Cs o 4 (bl (fun _ => false) G.N.length) :: Cs p4 27 [.int .i64 7, .int .i64 n, .slice (some ⟨bu, ou, none⟩) ks.length cu] :: M = M0 := ⟨_, rfl⟩
  have HM0 := Lib.hid hM0
  have lift : ∀ (w : World) (L' : List Asrt), Sat W w (L' ++ M0) → ∃ L'', Sat W w (L'' ++ M) := fun w L' h => ⟨L' ++ [Cs o 4 (bl (fun _ => false) G.N.length), Cs p4 27 [.int .i64 7, .int .i64 n, .slice (some ⟨bu, ou, none⟩) ks.length cu]], by rw [List.append_assoc]; rw [← hM0] at h; exact h⟩
  have HP4 := Lib.hid (fun w L' (h : Sat W w (L' ++ M0)) => show Rd w (.slice (some ⟨p4, 0, none⟩) 3 3) 3 1 [.int .i64 7, .int .i64 n, .slice (some ⟨bu, ou, none⟩) ks.length cu] by
    rw [← hM0] at h
    exact h.csRd0 (k := L'.length + 1) (E := 27) (n := 3) (sz := 1) (by unfold Has; simp) (by decide) rfl)
  have HQ := Lib.hid (fun w L' (h : Sat W w (L' ++ M0)) => show Rd w (.slice (some ⟨bu, ou, none⟩) ks.length cu) ks.length 3 (ks.flatMap qv) by
    obtain ⟨L'', h2⟩ := lift w L' h
    exact (HQ0.out w L'' h2).1)
  have HQK := Lib.hid (fun w L' (h : Sat W w (L' ++ M0)) => show ∀ k ∈ ks, QRd w d k by
    obtain ⟨L'', h2⟩ := lift w L' h
    exact (HQ0.out w L'' h2).2)
  have HV0 := Lib.hid (fun w L' (h : Sat W w (L' ++ M0)) => by
    obtain ⟨L'', h2⟩ := lift w L' h
    exact HV.out w L'' h2)
  have h2 := (show Sat W _ (vrs pv lb q0 G an cn ae ce ([] ++ (Cs o 4 (bl (fun _ => false) G.N.length) :: Cs p4 27 [.int .i64 7, .int .i64 n, .slice (some ⟨bu, ou, none⟩) ks.length cu] :: M))) from hS.re [2, 3, 4, 5, 6])
  rw [hM0] at h2
  have H0 := Lib.hid h2
  clear hS h2 lift hM0 HQ0 HV
  go_loopw [7, 12] (fun v7 v12 wz => ∃ (i : Nat) (T : Nat → Bool) (M' : List Asrt), v12 = .int .i64 i ∧ i ≤ ks.length ∧ ThenTo G d (ks.take i) S T ∧ Sat W wz (vrs pv lb q0 G an cn ae ce (M' ++ M0)) ∧ ∀ w L', Sat W w (L' ++ (M' ++ M0)) → Rd w v7 G.N.length 1 (bl T G.N.length)) (fun _ v12 _ => ks.length - (intOf v12).toNat)
  case atStart => exact ⟨0, S, [], rfl, by omega, by rw [List.take_zero]; exact ThenTo.start, H0.out, HV0.out⟩
  case round =>
    clear H0 HV0
    obtain ⟨i, T, M', rfl, hi, hT, hS, hrv⟩ := hrel
    have HT := Lib.hid hT
    have HRV := Lib.hid hrv
    unfold vrs at hS
    by_cases hlt : i < ks.length
    · have k1 : (i : Int) < (ks.length : Int) := by omega
      have HLT := Lib.hid hlt
      obtain ⟨⟨ko, kn, ku, kk⟩, hx⟩ : ∃ x, ks[i]? = some x := ⟨_, List.getElem?_eq_getElem hlt⟩
      have hxm := List.mem_of_getElem? hx
      have HX := Lib.hid hx
      have HXM := Lib.hid hxm
      obtain ⟨av7, cv7, rfl, _⟩ := hrv _ [_, _, _, _, _] hS
      have HIH := Lib.hid (fun w va (hv : ∀ w L', Sat W w (L' ++ (M' ++ M0)) → Rd w va G.N.length 1 (bl T G.N.length)) (h : Sat W w (Cs pv 74 [.pointer (some ⟨q0, 0, none⟩), .slice (some ⟨lb, 0, none⟩) G.N.length G.N.length] :: Cs lb 3 (il G.lab G.N.length) :: Cs q0 53 [.slice an G.N.length cn, .slice (ae) G.E.length ce] :: Tb 60 6 nv (.slice an G.N.length cn) G.N :: Tb 83 2 ev (.slice (ae) G.E.length ce) G.E :: (M' ++ M0))) => show Calls Tryz.prog 26 #[.pointer (some ⟨pv, 0, none⟩), .agg (qv (.mk ko kn ku kk)).toArray, va] w (fun e w' => ∃ v, e = .returned v ∧ ToPost W pv lb q0 G an cn ae ce d (M' ++ M0) (.mk ko kn ku kk) T v w') from HIH0.out w (M' ++ M0) (.mk ko kn ku kk) T va (HOK.out _ hxm) (fun w L' h => HQK.out w (L' ++ M') (by rw [List.append_assoc]; exact h) _ hxm) hv h)
      clear hx hxm hlt hi hT hrv
      go_wp2_with ((first
        | (refine toList (by rfl) ?_; refine wp_of_reads (rLdRd1 (HP4.out _ (_ :: _ :: _ :: _ :: _ :: M') hS) _ _ (by rfl) _ (by rfl) (agOf (by rfl)) 2 (by omega) (by rfl) (by decide)) ?_)
        | (refine toList (by rfl) ?_; refine wp_of_reads (rLdRdA (f := qv) (x := .mk ko kn ku kk) (HQ.out _ (_ :: _ :: _ :: _ :: _ :: M') hS) (qv_len ks) _ _ (by rfl) _ (by rfl) (agOf (by rfl)) (szOf (by rfl)) i (by omega) HX.out (by omega)) ?_)
        | (go_at_call 26; refine (HIH.out _ _ HRV.out hS).mono ?_; rintro e w1 ⟨v2, rfl, hpo⟩; have HPO := Lib.hid hpo; clear hpo)))
      obtain ⟨T2, M2, hT2, hS2, hr2⟩ := HPO.out
      refine ⟨⟨i + 1, T2, M2 ++ M', by go_num, HLT.out, ?_, by rw [List.append_assoc]; exact hS2, fun w L' h => hr2 w L' (by rw [List.append_assoc] at h; exact h)⟩, by simp [intOf]; have := HLT.out; omega⟩
      rw [List.take_add_one, HX.out]
      exact HT.out.next HG.out hT2
    · obtain rfl : i = ks.length := by omega
      have k1 : ¬ (ks.length : Int) < (ks.length : Int) := by omega
      rw [List.take_length] at hT
      have HTD := Lib.hid (ThenTo.done (n := n) (u := .slice (some ⟨bu, ou, none⟩) ks.length cu) hT)
      clear hi hlt hT HT hrv
      go_wp2_with ((first
        | (refine toList (by rfl) ?_; refine wp_of_reads (rLdRd1 (HP4.out _ (_ :: _ :: _ :: _ :: _ :: M') hS) _ _ (by rfl) _ (by rfl) (agOf (by rfl)) 2 (by omega) (by rfl) (by decide)) ?_)
        | (refine toList (by rfl) ?_; refine wp_of_reads (rLdRdA (f := qv) (x := .mk ko kn ku kk) (HQ.out _ (_ :: _ :: _ :: _ :: _ :: M') hS) (qv_len ks) _ _ (by rfl) _ (by rfl) (agOf (by rfl)) (szOf (by rfl)) i (by omega) HX.out (by omega)) ?_)
        | (go_at_call 26; refine (HIH.out _ _ HRV.out hS).mono ?_; rintro e w1 ⟨v2, rfl, hpo⟩; have HPO := Lib.hid hpo; clear hpo)))
      go_ret
      refine ⟨_, rfl, _, M' ++ [_, _], HTD.out, by rw [List.append_assoc]; exact (HM0.out ▸ hS), fun w L' h => HRV.out w L' (by rw [List.append_assoc] at h; rw [← HM0.out]; exact h)⟩
end Go.Proofs.YtpnbdnfgdiakhaaGreat
namespace Go.Proofs.YtpnbdnfgdiakhaaGreat
open Go.RowKit Go.Sep
set_option linter.unusedSimpArgs false
set_option linter.unusedVariables false
attribute [local irreducible] Go.Oper.wp Go.wpList Go.Calls Go.Code.wp Go.Sep.Reg
attribute [local irreducible] IsG
theorem liftV {W : World} {P : World → Prop} {A B C D E : Asrt} {M2 X : List Asrt} (hr : ∀ w L', Sat W w (L' ++ X) → P w) : ∀ w L', Sat W w (L' ++ (A :: B :: C :: D :: E :: (M2 ++ X))) → P w := fun w L' h => hr w (L' ++ (A :: B :: C :: D :: E :: M2)) (by rw [List.append_assoc]; exact h)
theorem liftX {W : World} {P : World → Prop} {A B C D E : Asrt} {X : List Asrt} (hr : ∀ w L', Sat W w (L' ++ X) → P w) : ∀ w L', Sat W w (L' ++ (A :: B :: C :: D :: E :: X)) → P w := fun w L' h => hr w (L' ++ [A, B, C, D, E]) (by rw [List.append_assoc]; exact h)
set_option maxRecDepth 20000 in
set_option maxHeartbeats 8000000 in
theorem to_or {W w : World} {M : List Asrt} {pv lb q0 : Nat} {G : Gr} {an : Option Addr} {cn : Nat} {ae : Option Addr} {ce d : Nat} (hG : G.Ok) (ih : ToC W pv lb q0 G an cn ae ce d) (n : Int) (u : Value) (ks : List StepD) (S : Nat → Bool) (va : Value) (hk0 : 0 < ks.length) (hok : ∀ k ∈ ks, k.ok d = true) (hq : ∀ w L', Sat W w (L' ++ M) → QRd w (d + 1) (.mk 6 n u ks)) (hv : ∀ w L', Sat W w (L' ++ M) → Rd w va G.N.length 1 (bl S G.N.length)) (hS : Sat W w (vrs pv lb q0 G an cn ae ce M)) :
    Calls Tryz.prog 26 #[.pointer (some ⟨pv, 0, none⟩), .agg #[.int .i64 6, .int .i64 n, u], va] w fun e w' => ∃ v, e = .returned v ∧ ToPost W pv lb q0 G an cn ae ce (d + 1) M (.mk 6 n u ks) S v w' := by
  obtain ⟨⟨au, cu, he, hlc, hcu, _, hub⟩, _⟩ := hq w [_, _, _, _, _] hS
  replace he : u = .slice au ks.length cu := he
  subst he
  replace hlc : ks.length ≤ cu := hlc
  obtain ⟨bu, ou, rfl, _⟩ := hub hk0
  have hnl : (G.N.length : Int) ≤ 4096 := by have := hG.len; omega
  have hkl : (ks.length : Int) ≤ 9223372036854775807 := by omega
  obtain ⟨av, cv, rfl, _, hcv, _, _⟩ := hv w [_, _, _, _, _] hS
  have HG := Lib.hid hG
  have HN4 := Lib.hid (show G.N.length ≤ 4096 by omega)
  have HIH0 := Lib.hid ih
  have HOK := Lib.hid hok
  have HV := Lib.hid hv
  have HQ0 := Lib.hid hq
  clear hq hv hub hG hok ih
  unfold vrs at hS
  go_enter Tryz.func26, Tryz.ntmps26
  go_wp2_with (first
    | (refine toList (by rfl) ?_; refine bx (show Sat W _ (Cs pv _ _ :: _) from hS) _ _ (by rfl) _ (by first | exact evC | exact evT (by rfl)) ?_; intro p4 w1 hS1; clear hS; have hS := (show Sat W w1 (Cs p4 27 [.int .i64 6, .int .i64 n, .slice (some ⟨bu, ou, none⟩) ks.length cu] :: Cs pv 74 [.pointer (some ⟨q0, 0, none⟩), .slice (some ⟨lb, 0, none⟩) G.N.length G.N.length] :: Cs lb 3 (il G.lab G.N.length) :: Cs q0 53 [.slice an G.N.length cn, .slice (ae) G.E.length ce] :: Tb 60 6 nv (.slice an G.N.length cn) G.N :: Tb 83 2 ev (.slice (ae) G.E.length ce) G.E :: (M)) from hS1); clear hS1)
    | (refine toList (by rfl) ?_; refine mk hS _ _ _ (by rfl) G.N.length G.N.length _ _ (by rfl) (by rfl) (elOf (by rfl)) (by omega) (by omega) (by omega) ?_; intro o w1 hS1; clear hS; have hS := hS1; clear hS1; rw [made_bool] at hS)
    | (refine toList (by rfl) ?_; refine ld hS _ _ (by rfl) _ _ (by rfl) (agOf (by rfl)) ((Has.s Has.z)) (by rfl) ?_))
  obtain ⟨M0, hM0⟩ : ∃ M0, Cs o 4 (bl (fun _ => false) G.N.length) :: Cs p4 27 [.int .i64 6, .int .i64 n, .slice (some ⟨bu, ou, none⟩) ks.length cu] :: M = M0 := ⟨_, rfl⟩
  have HM0 := Lib.hid hM0
  have lift : ∀ (w : World) (L' : List Asrt), Sat W w (L' ++ M0) → ∃ L'', Sat W w (L'' ++ M) := fun w L' h => ⟨L' ++ [Cs o 4 (bl (fun _ => false) G.N.length), Cs p4 27 [.int .i64 6, .int .i64 n, .slice (some ⟨bu, ou, none⟩) ks.length cu]], by rw [List.append_assoc]; rw [← hM0] at h; exact h⟩
  have HP4 := Lib.hid (fun w L' (h : Sat W w (L' ++ M0)) => show Rd w (.slice (some ⟨p4, 0, none⟩) 3 3) 3 1 [.int .i64 6, .int .i64 n, .slice (some ⟨bu, ou, none⟩) ks.length cu] by
    rw [← hM0] at h
    exact h.csRd0 (k := L'.length + 1) (E := 27) (n := 3) (sz := 1) (by unfold Has; simp) (by decide) rfl)
  have HQ := Lib.hid (fun w L' (h : Sat W w (L' ++ M0)) => show Rd w (.slice (some ⟨bu, ou, none⟩) ks.length cu) ks.length 3 (ks.flatMap qv) by
    obtain ⟨L'', h2⟩ := lift w L' h
    exact (HQ0.out w L'' h2).1)
  have HQK := Lib.hid (fun w L' (h : Sat W w (L' ++ M0)) => show ∀ k ∈ ks, QRd w d k by
    obtain ⟨L'', h2⟩ := lift w L' h
    exact (HQ0.out w L'' h2).2)
  have HV0 := Lib.hid (fun w L' (h : Sat W w (L' ++ M0)) => by
    obtain ⟨L'', h2⟩ := lift w L' h
    exact HV.out w L'' h2)
  have HO0 := Lib.hid (fun w L' (h : Sat W w (L' ++ M0)) => show Rd w (.slice (some ⟨o, 0, none⟩) G.N.length G.N.length) G.N.length 1 (bl (fun _ => false) G.N.length) by
    rw [← hM0] at h
    exact h.csRd0 (n := G.N.length) (sz := 1) (has_app _ _ _) (by omega) (by rw [bl_len]; omega))
  have h2 := (show Sat W _ (vrs pv lb q0 G an cn ae ce ([] ++ (Cs o 4 (bl (fun _ => false) G.N.length) :: Cs p4 27 [.int .i64 6, .int .i64 n, .slice (some ⟨bu, ou, none⟩) ks.length cu] :: M))) from hS.re [2, 3, 4, 5, 6])
  rw [hM0] at h2
  have H0 := Lib.hid h2
  clear hS h2 lift hM0 HQ0 HV
  go_loopw [7, 13] (fun v7 v13 wz => ∃ (i : Nat) (T : Nat → Bool) (M' : List Asrt), v13 = .int .i64 i ∧ i ≤ ks.length ∧ OrTo G d (ks.take i) S T ∧ Sat W wz (vrs pv lb q0 G an cn ae ce (M' ++ M0)) ∧ ∀ w L', Sat W w (L' ++ (M' ++ M0)) → Rd w v7 G.N.length 1 (bl T G.N.length)) (fun _ v13 _ => ks.length - (intOf v13).toNat)
  case atStart => exact ⟨0, _, [], rfl, by omega, by rw [List.take_zero]; exact OrTo.start, H0.out, HO0.out⟩
  case round =>
    clear H0 HO0
    obtain ⟨i, T, M', rfl, hi, hT, hS, hrv⟩ := hrel
    have HT := Lib.hid hT
    have HRV := Lib.hid hrv
    unfold vrs at hS
    by_cases hlt : i < ks.length
    · have k1 : (i : Int) < (ks.length : Int) := by omega
      have HLT := Lib.hid hlt
      obtain ⟨⟨ko, kn, ku, kk⟩, hx⟩ : ∃ x, ks[i]? = some x := ⟨_, List.getElem?_eq_getElem hlt⟩
      have hxm := List.mem_of_getElem? hx
      have HX := Lib.hid hx
      have HXM := Lib.hid hxm
      obtain ⟨av7, cv7, rfl, _⟩ := hrv _ [_, _, _, _, _] hS
      have HIH := Lib.hid (fun w (h : Sat W w (Cs pv 74 [.pointer (some ⟨q0, 0, none⟩), .slice (some ⟨lb, 0, none⟩) G.N.length G.N.length] :: Cs lb 3 (il G.lab G.N.length) :: Cs q0 53 [.slice an G.N.length cn, .slice (ae) G.E.length ce] :: Tb 60 6 nv (.slice an G.N.length cn) G.N :: Tb 83 2 ev (.slice (ae) G.E.length ce) G.E :: (M' ++ M0))) => show Calls Tryz.prog 26 #[.pointer (some ⟨pv, 0, none⟩), .agg (qv (.mk ko kn ku kk)).toArray, .slice av G.N.length cv] w (fun e w' => ∃ v, e = .returned v ∧ ToPost W pv lb q0 G an cn ae ce d (M' ++ M0) (.mk ko kn ku kk) S v w') from HIH0.out w (M' ++ M0) (.mk ko kn ku kk) S (.slice av G.N.length cv) (HOK.out _ hxm) (fun w L' h => HQK.out w (L' ++ M') (by rw [List.append_assoc]; exact h) _ hxm) (fun w L' h => HV0.out w (L' ++ M') (by rw [List.append_assoc]; exact h)) h)
      clear hx hxm hlt hi hT hrv
      go_wp2_with ((first
        | (refine toList (by rfl) ?_; refine wp_of_reads (rLdRd1 (HP4.out _ (_ :: _ :: _ :: _ :: _ :: M') hS) _ _ (by rfl) _ (by rfl) (agOf (by rfl)) 2 (by omega) (by rfl) (by decide)) ?_)
        | (refine toList (by rfl) ?_; refine wp_of_reads (rLdRdA (f := qv) (x := .mk ko kn ku kk) (HQ.out _ (_ :: _ :: _ :: _ :: _ :: M') hS) (qv_len ks) _ _ (by rfl) _ (by rfl) (agOf (by rfl)) (szOf (by rfl)) i (by omega) HX.out (by omega)) ?_)
        | (go_at_call 26; refine (HIH.out _ hS).mono ?_; rintro e w1 ⟨v2, rfl, T2, M2, hT2, hS2, hr2⟩; have HT2 := Lib.hid hT2; have HR2 := Lib.hid hr2; clear hT2 hr2 hS; have hS := (show Sat W w1 (Cs pv 74 [.pointer (some ⟨q0, 0, none⟩), .slice (some ⟨lb, 0, none⟩) G.N.length G.N.length] :: Cs lb 3 (il G.lab G.N.length) :: Cs q0 53 [.slice an G.N.length cn, .slice (ae) G.E.length ce] :: Tb 60 6 nv (.slice an G.N.length cn) G.N :: Tb 83 2 ev (.slice (ae) G.E.length ce) G.E :: (M2 ++ (M' ++ M0))) from hS2); clear hS2)
        | (go_at_call 56; refine (rboth_any hS T T2 G.N.length HN4.out _ _ (liftV HRV.out) (liftX HR2.out)).mono ?_; rintro e w1 ⟨o2, rfl, hS1⟩; clear hS; have hS := hS1.re [1, 2, 3, 4, 5]; clear hS1)))
      refine ⟨⟨i + 1, _, Cs o2 4 (bl (fun t => T t || T2 t) G.N.length) :: (M2 ++ M'), by go_num, HLT.out, ?_, by rw [List.cons_append, List.append_assoc]; exact hS, fun w L' h => h.csRd0 (n := G.N.length) (sz := 1) (has_app _ _ _) (by have := HN4.out; omega) (by rw [bl_len]; omega)⟩, by simp [intOf]; have := HLT.out; omega⟩
      rw [List.take_add_one, HX.out]
      exact HT.out.next HT2.out
    · obtain rfl : i = ks.length := by omega
      have k1 : ¬ (ks.length : Int) < (ks.length : Int) := by omega
      rw [List.take_length] at hT
      have HTD := Lib.hid (OrTo.done (n := n) (u := .slice (some ⟨bu, ou, none⟩) ks.length cu) hT)
      clear hi hlt hT HT hrv
      go_wp2_with ((first
        | (refine toList (by rfl) ?_; refine wp_of_reads (rLdRd1 (HP4.out _ (_ :: _ :: _ :: _ :: _ :: M') hS) _ _ (by rfl) _ (by rfl) (agOf (by rfl)) 2 (by omega) (by rfl) (by decide)) ?_)
        | (refine toList (by rfl) ?_; refine wp_of_reads (rLdRdA (f := qv) (x := .mk ko kn ku kk) (HQ.out _ (_ :: _ :: _ :: _ :: _ :: M') hS) (qv_len ks) _ _ (by rfl) _ (by rfl) (agOf (by rfl)) (szOf (by rfl)) i (by omega) HX.out (by omega)) ?_)
        | (go_at_call 26; refine (HIH.out _ hS).mono ?_; rintro e w1 ⟨v2, rfl, T2, M2, hT2, hS2, hr2⟩; have HT2 := Lib.hid hT2; have HR2 := Lib.hid hr2; clear hT2 hr2 hS; have hS := (show Sat W w1 (Cs pv 74 [.pointer (some ⟨q0, 0, none⟩), .slice (some ⟨lb, 0, none⟩) G.N.length G.N.length] :: Cs lb 3 (il G.lab G.N.length) :: Cs q0 53 [.slice an G.N.length cn, .slice (ae) G.E.length ce] :: Tb 60 6 nv (.slice an G.N.length cn) G.N :: Tb 83 2 ev (.slice (ae) G.E.length ce) G.E :: (M2 ++ (M' ++ M0))) from hS2); clear hS2)
        | (go_at_call 56; refine (rboth_any hS T T2 G.N.length HN4.out _ _ (liftV HRV.out) (liftX HR2.out)).mono ?_; rintro e w1 ⟨o2, rfl, hS1⟩; clear hS; have hS := hS1.re [1, 2, 3, 4, 5]; clear hS1)))
      go_ret
      refine ⟨_, rfl, _, M' ++ [_, _], HTD.out, by rw [List.append_assoc]; exact (HM0.out ▸ hS), fun w L' h => HRV.out w L' (by rw [List.append_assoc] at h; rw [← HM0.out]; exact h)⟩
end Go.Proofs.YtpnbdnfgdiakhaaGreat
namespace Go.Proofs.YtpnbdnfgdiakhaaGreat
open Go.RowKit Go.Sep
set_option linter.unusedSimpArgs false
set_option linter.unusedVariables false
attribute [local irreducible] Go.Oper.wp Go.wpList Go.Calls Go.Code.wp Go.Sep.Reg
attribute [local irreducible] IsG
/-- What is found on the way. -/
structure StTo (N : Nat) (R : Nat → Nat → Prop) (S T : Nat → Bool) : Prop where
  sub : ∀ n, n < N → S n = true → T n = true
  src : ∀ n, n < N → T n = true → ∃ m, m < N ∧ S m = true ∧ StarR R m n
theorem StTo.start {N : Nat} {R : Nat → Nat → Prop} {S : Nat → Bool} : StTo N R S S := ⟨fun _ _ h => h, fun n hn h => ⟨n, hn, h, StarR.refl n⟩⟩
theorem StTo.next {G : Gr} {d : Nat} {k : StepD} {S T T2 : Nat → Bool} (h : StTo G.N.length (Rel G d k) S T) (h2 : IsTo G d k T T2) : StTo G.N.length (Rel G d k) S (fun t => T t || T2 t) where
  sub := fun n hn hs => by rw [h.sub n hn hs]; rfl
  src := fun n hn ht => by
    rcases Bool.or_eq_true _ _ ▸ ht with ht | ht
    · exact h.src n hn ht
    · obtain ⟨x, hx, h3, h4⟩ := (h2 n hn).1 ht
      obtain ⟨m, hm, h5, h6⟩ := h.src x hx h3
      exact ⟨m, hm, h5, h6.snoc h4⟩
theorem StTo.done {G : Gr} (hG : G.Ok) {d : Nat} {n : Int} {u : Value} {k : StepD} {S T T2 : Nat → Bool} (h : StTo G.N.length (Rel G d k) S T) (h2 : IsTo G d k T T2) (h3 : ∀ t, t < G.N.length → (T t || T2 t) = T t) : IsTo G (d + 1) (.mk 5 n u [k]) S T := fun x hx => by
  rw [rel_star G d (q := .mk 5 n u [k]) rfl (k := k) rfl]
  constructor
  · exact h.src x hx
  · rintro ⟨m, hm, h4, h5⟩
    have := h5 (fun y => y < G.N.length ∧ T y = true) ⟨hm, h.sub m hm h4⟩ fun y z ⟨hy, hy2⟩ hr => by
      have hz := rel_lt hG d k y z hy hr
      refine ⟨hz, ?_⟩
      rw [← h3 z hz, (h2 z hz).2 ⟨y, hy, hy2, hr⟩, Bool.or_true]
    exact this.2
/-- How many of the first so many are true. -/
def cntB (T : Nat → Bool) : Nat → Nat
  | 0 => 0
  | n + 1 => cntB T n + if T n = true then 1 else 0
theorem cntB_le (T : Nat → Bool) : ∀ n, cntB T n ≤ n
  | 0 => Nat.le_refl _
  | n + 1 => by
    have := cntB_le T n
    unfold cntB
    split <;> omega
theorem cntB_mono {T T' : Nat → Bool} : ∀ n, (∀ t, t < n → T t = true → T' t = true) → cntB T n ≤ cntB T' n
  | 0, _ => Nat.le_refl _
  | n + 1, h => by
    have ih := cntB_mono n fun t ht => h t (by omega)
    unfold cntB
    by_cases h1 : T n = true
    · rw [if_pos h1, if_pos (h n (by omega) h1)]; omega
    · rw [if_neg h1]; split <;> omega
theorem cntB_grow {T T' : Nat → Bool} : ∀ n, (∀ t, t < n → T t = true → T' t = true) → (∃ t, t < n ∧ T t = false ∧ T' t = true) → cntB T n < cntB T' n
  | 0, _, ⟨t, h, _⟩ => absurd h (Nat.not_lt_zero _)
  | n + 1, h, ⟨t, ht, h1, h2⟩ => by
    by_cases e : t = n
    · subst e
      have := cntB_mono (T := T) (T' := T') t fun x hx => h x (by omega)
      unfold cntB
      rw [if_neg (by rw [h1]; decide), if_pos h2]; omega
    · have ih := cntB_grow n (fun x hx => h x (by omega)) ⟨t, by omega, h1, h2⟩
      unfold cntB
      by_cases h3 : T n = true
      · rw [if_pos h3, if_pos (h n (by omega) h3)]; omega
      · rw [if_neg h3]; split <;> omega
theorem cntB_new {N : Nat} {T T2 : Nat → Bool} (h : ¬ ∀ t, t < N → (T t || T2 t) = T t) : cntB T N < cntB (fun t => T t || T2 t) N := by
  refine cntB_grow N (fun t _ h => by rw [h]; rfl) ?_
  by_cases hc : ∃ t, t < N ∧ T t = false ∧ (T t || T2 t) = true
  · exact hc
  · refine absurd (fun t ht => ?_) h
    cases h1 : T t
    · cases h2 : (false || T2 t)
      · rfl
      · exact absurd ⟨t, ht, h1, by rw [h1]; exact h2⟩ hc
    · rfl
set_option maxRecDepth 20000 in
set_option maxHeartbeats 8000000 in
theorem to_star {W w : World} {M : List Asrt} {pv lb q0 : Nat} {G : Gr} {an : Option Addr} {cn : Nat} {ae : Option Addr} {ce d : Nat} (hG : G.Ok) (ih : ToC W pv lb q0 G an cn ae ce d) (n : Int) (u : Value) (ko kn : Int) (ku : Value) (kk : List StepD) (S : Nat → Bool) (va : Value) (hok : (StepD.mk ko kn ku kk).ok d = true) (hq : ∀ w L', Sat W w (L' ++ M) → QRd w (d + 1) (.mk 5 n u [.mk ko kn ku kk])) (hv : ∀ w L', Sat W w (L' ++ M) → Rd w va G.N.length 1 (bl S G.N.length)) (hS : Sat W w (vrs pv lb q0 G an cn ae ce M)) :
    Calls Tryz.prog 26 #[.pointer (some ⟨pv, 0, none⟩), .agg #[.int .i64 5, .int .i64 n, u], va] w fun e w' => ∃ v, e = .returned v ∧ ToPost W pv lb q0 G an cn ae ce (d + 1) M (.mk 5 n u [.mk ko kn ku kk]) S v w' := by
  obtain ⟨⟨au, cu, he, hlc, hcu, _, hub⟩, _⟩ := hq w [_, _, _, _, _] hS
  replace he : u = .slice au 1 cu := he
  subst he
  replace hlc : 1 ≤ cu := hlc
  obtain ⟨bu, ou, rfl, _⟩ := hub (show 0 < 1 by decide)
  have hnl : (G.N.length : Int) ≤ 4096 := by have := hG.len; omega
  obtain ⟨av, cv, rfl, _, hcv, _, _⟩ := hv w [_, _, _, _, _] hS
  have HG := Lib.hid hG
  have HN4 := Lib.hid (show G.N.length ≤ 4096 by omega)
  have HIH0 := Lib.hid ih
  have HOK := Lib.hid hok
  have HV := Lib.hid hv
  have HQ0 := Lib.hid hq
  clear hq hv hub hG hok ih
  unfold vrs at hS
  go_enter Tryz.func26, Tryz.ntmps26
  go_wp2_with (first
    | (refine toList (by rfl) ?_; refine bx (show Sat W _ (Cs pv _ _ :: _) from hS) _ _ (by rfl) _ (by first | exact evC | exact evT (by rfl)) ?_; intro p4 w1 hS1; clear hS; have hS := (show Sat W w1 (Cs p4 27 [.int .i64 5, .int .i64 n, .slice (some ⟨bu, ou, none⟩) 1 cu] :: Cs pv 74 [.pointer (some ⟨q0, 0, none⟩), .slice (some ⟨lb, 0, none⟩) G.N.length G.N.length] :: Cs lb 3 (il G.lab G.N.length) :: Cs q0 53 [.slice an G.N.length cn, .slice (ae) G.E.length ce] :: Tb 60 6 nv (.slice an G.N.length cn) G.N :: Tb 83 2 ev (.slice (ae) G.E.length ce) G.E :: (M)) from hS1); clear hS1)
    | (refine toList (by rfl) ?_; refine mk hS _ _ _ (by rfl) G.N.length G.N.length _ _ (by rfl) (by rfl) (elOf (by rfl)) (by omega) (by omega) (by omega) ?_; intro o w1 hS1; clear hS; have hS := hS1; clear hS1; rw [made_bool] at hS)
    | (refine toList (by rfl) ?_; refine ld hS _ _ (by rfl) _ _ (by rfl) (agOf (by rfl)) ((Has.s Has.z)) (by rfl) ?_))
  obtain ⟨M0, hM0⟩ : ∃ M0, Cs o 4 (bl (fun _ => false) G.N.length) :: Cs p4 27 [.int .i64 5, .int .i64 n, .slice (some ⟨bu, ou, none⟩) 1 cu] :: M = M0 := ⟨_, rfl⟩
  have HM0 := Lib.hid hM0
  have lift : ∀ (w : World) (L' : List Asrt), Sat W w (L' ++ M0) → ∃ L'', Sat W w (L'' ++ M) := fun w L' h => ⟨L' ++ [Cs o 4 (bl (fun _ => false) G.N.length), Cs p4 27 [.int .i64 5, .int .i64 n, .slice (some ⟨bu, ou, none⟩) 1 cu]], by rw [List.append_assoc]; rw [← hM0] at h; exact h⟩
  have HP4 := Lib.hid (fun w L' (h : Sat W w (L' ++ M0)) => show Rd w (.slice (some ⟨p4, 0, none⟩) 3 3) 3 1 [.int .i64 5, .int .i64 n, .slice (some ⟨bu, ou, none⟩) 1 cu] by
    rw [← hM0] at h
    exact h.csRd0 (k := L'.length + 1) (E := 27) (n := 3) (sz := 1) (by unfold Has; simp) (by decide) rfl)
  have HQ := Lib.hid (fun w L' (h : Sat W w (L' ++ M0)) => show Rd w (.slice (some ⟨bu, ou, none⟩) 1 cu) 1 3 ([StepD.mk ko kn ku kk].flatMap qv) by
    obtain ⟨L'', h2⟩ := lift w L' h
    exact (HQ0.out w L'' h2).1)
  have HQK := Lib.hid (fun w L' (h : Sat W w (L' ++ M0)) => show QRd w d (.mk ko kn ku kk) by
    obtain ⟨L'', h2⟩ := lift w L' h
    exact (HQ0.out w L'' h2).2 _ (List.mem_singleton.2 rfl))
  have HV0 := Lib.hid (fun w L' (h : Sat W w (L' ++ M0)) => by
    obtain ⟨L'', h2⟩ := lift w L' h
    exact HV.out w L'' h2)
  have h2 := (show Sat W _ (vrs pv lb q0 G an cn ae ce ([] ++ (Cs o 4 (bl (fun _ => false) G.N.length) :: Cs p4 27 [.int .i64 5, .int .i64 n, .slice (some ⟨bu, ou, none⟩) 1 cu] :: M))) from hS.re [2, 3, 4, 5, 6])
  rw [hM0] at h2
  have H0 := Lib.hid h2
  clear hS h2 lift hM0 HQ0 HV
  go_loopw [7, 14] (fun v7 v14 wz => ∃ (i : Nat) (T : Nat → Bool) (M' : List Asrt), v14 = .int .i64 i ∧ i ≤ cntB T G.N.length ∧ StTo G.N.length (Rel G d (.mk ko kn ku kk)) S T ∧ Sat W wz (vrs pv lb q0 G an cn ae ce (M' ++ M0)) ∧ ∀ w L', Sat W w (L' ++ (M' ++ M0)) → Rd w v7 G.N.length 1 (bl T G.N.length)) (fun _ v14 _ => G.N.length + 1 - (intOf v14).toNat)
  case atStart => exact ⟨0, S, [], rfl, by omega, StTo.start, H0.out, HV0.out⟩
  case round =>
    clear H0 HV0
    obtain ⟨i, T, M', rfl, hi, hT, hS, hrv⟩ := hrel
    have HT := Lib.hid hT
    have HRV := Lib.hid hrv
    have HI := Lib.hid hi
    unfold vrs at hS
    have hiN : i ≤ G.N.length := by have := cntB_le T G.N.length; omega
    have k1 : (i : Int) ≤ (G.N.length : Int) := by omega
    obtain ⟨av7, cv7, rfl, _⟩ := hrv _ [_, _, _, _, _] hS
    have HIH := Lib.hid (fun w va (hv : ∀ w L', Sat W w (L' ++ (M' ++ M0)) → Rd w va G.N.length 1 (bl T G.N.length)) (h : Sat W w (Cs pv 74 [.pointer (some ⟨q0, 0, none⟩), .slice (some ⟨lb, 0, none⟩) G.N.length G.N.length] :: Cs lb 3 (il G.lab G.N.length) :: Cs q0 53 [.slice an G.N.length cn, .slice (ae) G.E.length ce] :: Tb 60 6 nv (.slice an G.N.length cn) G.N :: Tb 83 2 ev (.slice (ae) G.E.length ce) G.E :: (M' ++ M0))) => show Calls Tryz.prog 26 #[.pointer (some ⟨pv, 0, none⟩), .agg (qv (.mk ko kn ku kk)).toArray, va] w (fun e w' => ∃ v, e = .returned v ∧ ToPost W pv lb q0 G an cn ae ce d (M' ++ M0) (.mk ko kn ku kk) T v w') from HIH0.out w (M' ++ M0) (.mk ko kn ku kk) T va HOK.out (fun w L' h => HQK.out w (L' ++ M') (by rw [List.append_assoc]; exact h)) hv h)
    clear hi hT hrv
    go_wp2_with ((first
      | (refine toList (by rfl) ?_; refine wp_of_reads (rLdRd1 (HP4.out _ (_ :: _ :: _ :: _ :: _ :: M') hS) _ _ (by rfl) _ (by rfl) (agOf (by rfl)) 2 (by omega) (by rfl) (by decide)) ?_)
      | (refine toList (by rfl) ?_; refine wp_of_reads (rLdRdA (f := qv) (x := .mk ko kn ku kk) (HQ.out _ (_ :: _ :: _ :: _ :: _ :: M') hS) (qv_len _) _ _ (by rfl) _ (by rfl) (agOf (by rfl)) (szOf (by rfl)) 0 (by omega) (by rfl) (by decide)) ?_)
      | (go_at_call 26; refine (HIH.out _ _ HRV.out hS).mono ?_; rintro e w1 ⟨v2, rfl, T2, M2, hT2, hS2, hr2⟩; have HT2 := Lib.hid hT2; have HR2 := Lib.hid hr2; clear hT2 hr2 hS; have hS := (show Sat W w1 (Cs pv 74 [.pointer (some ⟨q0, 0, none⟩), .slice (some ⟨lb, 0, none⟩) G.N.length G.N.length] :: Cs lb 3 (il G.lab G.N.length) :: Cs q0 53 [.slice an G.N.length cn, .slice (ae) G.E.length ce] :: Tb 60 6 nv (.slice an G.N.length cn) G.N :: Tb 83 2 ev (.slice (ae) G.E.length ce) G.E :: (M2 ++ (M' ++ M0))) from hS2); clear hS2)
      | (go_at_call 56; refine (rboth_any hS T T2 G.N.length HN4.out _ _ (liftV HRV.out) (liftX HR2.out)).mono ?_; rintro e w1 ⟨o2, rfl, hS1⟩; clear hS; have hS := (show Sat W w1 (Cs pv 74 [.pointer (some ⟨q0, 0, none⟩), .slice (some ⟨lb, 0, none⟩) G.N.length G.N.length] :: Cs lb 3 (il G.lab G.N.length) :: Cs q0 53 [.slice an G.N.length cn, .slice (ae) G.E.length ce] :: Tb 60 6 nv (.slice an G.N.length cn) G.N :: Tb 83 2 ev (.slice (ae) G.E.length ce) G.E :: (Cs o2 4 (bl (fun t => T t || T2 t) G.N.length) :: (M2 ++ (M' ++ M0)))) from hS1.re [1, 2, 3, 4, 5]); clear hS1)
      | (go_at_call 57; refine (rsame_any hS (fun t => T t || T2 t) T G.N.length HN4.out _ _ (fun w h => h.csRd0 (k := 5) (n := G.N.length) (sz := 1) rfl (by have := HN4.out; omega) (by rw [bl_len]; omega)) (fun w h => HRV.out w (_ :: _ :: _ :: _ :: _ :: _ :: M2) h)).mono ?_; rintro e w1 ⟨v3, rfl, ⟨r, rfl, hr3⟩, hS1⟩; have HR3 := Lib.hid hr3; clear hr3; cases r <;> (clear hS; have hS := hS1; clear hS1))))
    · have HNS := Lib.hid (fun h => absurd (HR3.out.2 h) (by decide) : ¬ ∀ t, t < G.N.length → (T t || T2 t) = T t)
      exact ⟨⟨i + 1, _, Cs o2 4 (bl (fun t => T t || T2 t) G.N.length) :: (M2 ++ M'), by go_num, by have := cntB_new HNS.out; have := HI.out; omega, HT.out.next HT2.out, by rw [List.cons_append, List.append_assoc]; exact hS, fun w L' h => h.csRd0 (n := G.N.length) (sz := 1) (has_app _ _ _) (by have := HN4.out; omega) (by rw [bl_len]; omega)⟩, by simp [intOf]; omega⟩
    · have HDN := Lib.hid (HT.out.done HG.out (n := n) (u := .slice (some ⟨bu, ou, none⟩) 1 cu) HT2.out (HR3.out.1 (by first | exact rfl | trivial)))
      go_ret
      refine ⟨_, rfl, _, (Cs o2 4 (bl (fun t => T t || T2 t) G.N.length) :: (M2 ++ M')) ++ [_, _], HDN.out, by rw [List.append_assoc, List.cons_append, List.append_assoc]; exact (HM0.out ▸ hS), fun w L' h => HRV.out w (L' ++ (Cs o2 4 (bl (fun t => T t || T2 t) G.N.length) :: M2)) (by rw [List.append_assoc, List.cons_append, List.append_assoc] at h; rw [← HM0.out, List.append_assoc, List.cons_append]; exact h)⟩
end Go.Proofs.YtpnbdnfgdiakhaaGreat
