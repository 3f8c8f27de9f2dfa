/-
  Package graph: Mark, Clear, Lost.
-/
import Derived.Test.YtapodjhkpahdnaaGrRead
namespace Go.Proofs.Ytapodjhkpahdnaa
open Go.RowKit Go.Sep
set_option linter.unusedSimpArgs false
set_option linter.unusedVariables false
attribute [local irreducible] Go.Oper.wp Go.wpList Go.Calls Go.Code.wp Go.Sep.Reg
attribute [local irreducible] IsG
theorem map_lat : mapB Try.prog 76 = some (107, 3) := by kernel_rfl
theorem map_edg : mapB Try.prog 75 = some (85, 4) := by kernel_rfl
def Gr.latI (G : Gr) (k o : Int) : Int := ((G.latest k o).getD 0 : Nat)
theorem lastOf_congr (k o : Int) : ∀ (l m : List NodeD) (j : Nat), l.map (fun x => (x.kind, x.obj)) = m.map (fun x => (x.kind, x.obj)) → Gr.lastOf k o l j = Gr.lastOf k o m j
  | [], [], _, _ => rfl
  | [], _ :: _, _, h => by simp at h
  | _ :: _, [], _, h => by simp at h
  | x :: l, y :: m, j, h => by
    simp only [List.map_cons, List.cons.injEq, Prod.mk.injEq] at h
    unfold Gr.lastOf
    rw [lastOf_congr k o l m (j + 1) h.2]
    unfold Gr.same
    rw [h.1.1, h.1.2]
/-- Other things said of the nodes; the same objects. -/
def Gr.withN (G : Gr) (N : List NodeD) : Gr := ⟨N, G.E⟩
theorem Gr.withN_ups {G : Gr} {N : List NodeD} (h : N.length = G.N.length) : (G.withN N).upsL = G.upsL := by
  unfold Gr.upsL Gr.ups Gr.withN; simp only [h]
theorem Gr.withN_downs {G : Gr} {N : List NodeD} (h : N.length = G.N.length) : (G.withN N).downsL = G.downsL := by
  unfold Gr.downsL Gr.downs Gr.withN; simp only [h]
theorem Gr.withN_lat {G : Gr} {N : List NodeD} (h : N.map (fun x => (x.kind, x.obj)) = G.N.map (fun x => (x.kind, x.obj))) : (G.withN N).latF = G.latF := by
  funext e
  unfold Gr.latF Gr.latest
  rw [show (G.withN N).N = N from rfl, lastOf_congr e.1 e.2 N G.N 0 h]
theorem IsG.with {W w : World} {L : List Asrt} {p : Nat} {G : Gr} {N : List NodeD} {vn vu vd : Value} {me ml : Nat} (hN : N.map (fun x => (x.kind, x.obj)) = G.N.map (fun x => (x.kind, x.obj)))
    (h : Sat W w (Cs p 78 [vn, vu, vd, .map (some me), .map (some ml)] :: Tb 32 6 nv vn N :: Rws Irn vu G.upsL :: Rws Irn vd G.downsL :: Mp ek bw me G.edgesF :: Mp ek nw ml G.latF :: L)) : Sat W w (IsG p (G.withN N) :: L) := by
  refine IsG.mk (vn := vn) (vu := vu) (vd := vd) (me := me) (ml := ml) ?_
  have hl : N.length = G.N.length := by have := congrArg List.length hN; simpa using this
  rw [Gr.withN_ups hl, Gr.withN_downs hl, Gr.withN_lat hN]
  exact h
theorem map_set_same {N : List NodeD} {i : Nat} {x y : NodeD} (hx : N[i]? = some x) (hk : y.kind = x.kind) (ho : y.obj = x.obj) : (N.set i y).map (fun x => (x.kind, x.obj)) = N.map (fun x => (x.kind, x.obj)) := by
  apply List.ext_getElem?
  intro j
  simp only [List.getElem?_map, List.getElem?_set]
  by_cases h : i = j
  · subst h
    have := (List.getElem?_eq_some_iff.1 hx).1
    rw [if_pos rfl, if_pos this, hx]
    simp [hk, ho]
  · simp [h]
theorem or_small (x u : Nat) (hx : x < 256) (hu : u ≤ 128) : bits .or .i64 (x : Int) (IntKind.i64.wrap (u : Int)) = ((x ||| u : Nat) : Int) := by
  rw [IntWalk.i64_in _ (by omega)]
  have hx2 : x ||| u < 2 ^ 63 := Nat.or_lt_two_pow (by omega) (by omega)
  show IntKind.i64.wrap ((BitVec.ofInt 64 (x : Int) ||| BitVec.ofInt 64 (u : Int)).toNat : Int) = _
  have e : ∀ n : Nat, n < 9223372036854775808 → (BitVec.ofInt 64 (n : Int)).toNat = n := fun n hn => by
    rw [BitVec.ofInt_natCast, BitVec.toNat_ofNat]; exact Nat.mod_eq_of_lt (by omega)
  rw [BitVec.toNat_or, e x (by omega), e u (by omega), IntWalk.i64_in _ (by omega)]
theorem or_bit (x t : Nat) (hx : x < 256) (ht : t < 8) : bits .or .i64 (x : Int) (IntKind.i64.wrap (2 ^ t)) = ((x ||| 2 ^ t : Nat) : Int) := by
  have h2 : 2 ^ t ≤ 128 := by
    have : 2 ^ t ≤ 2 ^ 7 := Nat.pow_le_pow_right (by decide) (by omega)
    omega
  have := or_small x (2 ^ t) hx h2
  rw [show (2 : Int) ^ t = ((2 ^ t : Nat) : Int) by simp]
  exact this
def bitOk (G : Gr) (n s : Int) : Bool := G.is n && decide (0 ≤ s) && decide (s < 8)
def bitE (G : Gr) (n s : Int) : Int := if bitOk G n s then 0 else 1
theorem bitOk_no1 {G : Gr} {n s : Int} (h : G.is n = false) : bitOk G n s = false := by simp [bitOk, h]
theorem bitOk_no2 {G : Gr} {n s : Int} (h : s < 0 ∨ 8 ≤ s) : bitOk G n s = false := by
  unfold bitOk
  rcases h with h | h
  · rw [decide_eq_false (by omega : ¬ 0 ≤ s)]; simp
  · rw [decide_eq_false (by omega : ¬ s < 8)]; simp
theorem bitOk_yes {G : Gr} {k t : Nat} (hk : k < G.N.length) (ht : t < 8) : bitOk G (k : Int) (t : Int) = true := by
  unfold bitOk
  rw [Gr.is_mk hk]; simp; omega
def Gr.markG (G : Gr) (n s : Int) : Gr := if bitOk G n s then G.withN (G.N.set n.toNat { G.nodeI n with mark := (G.nodeI n).mark ||| 2 ^ s.toNat }) else G
set_option maxRecDepth 20000 in
theorem mark_any {W w : World} {L : List Asrt} {p : Nat} {G : Gr} (hS : Sat W w (IsG p G :: L)) (n s : Int) (hm : ∀ x ∈ G.N, x.mark < 256 ∧ x.clear < 256) :
    Calls Try.prog 48 #[.pointer (some ⟨p, 0, none⟩), .int .i64 n, .int .i64 s] w fun e w' => e = .returned (.int .i64 (bitE G n s)) ∧ Sat W w' (IsG p (G.markG n s) :: L) := by
  cases hb : G.is n
  · have HB := Lib.hid (show (!G.is n) = true by simp [hb])
    skip
    have HF := Lib.hid (bitOk_no1 (G := G) (n := n) (s := s) hb)
    unfold bitE Gr.markG
    rw [HF.out]
    go_enter Try.func48, Try.ntmps48
    go_wp2_with (go_at_call 41; refine (none_any hS n HB.out).mono ?_; rintro e w1 ⟨rfl, rfl⟩)
    go_ret
    exact ⟨rfl, hS⟩
  have HB := Lib.hid (show (!G.is n) = false by simp [hb])
  by_cases h1 : s < 0
  · skip
    skip
    have HF := Lib.hid (bitOk_no2 (G := G) (n := n) (s := s) (.inl h1))
    unfold bitE Gr.markG
    rw [HF.out]
    go_enter Try.func48, Try.ntmps48
    go_wp2_with (go_at_call 41; refine (none_any hS n HB.out).mono ?_; rintro e w1 ⟨rfl, rfl⟩)
    go_ret
    exact ⟨rfl, hS⟩
  by_cases h2 : 8 ≤ s
  · have e1 : decide (s < 0) = false := decide_eq_false h1
    skip
    have HF := Lib.hid (bitOk_no2 (G := G) (n := n) (s := s) (.inr h2))
    unfold bitE Gr.markG
    rw [HF.out]
    go_enter Try.func48, Try.ntmps48
    go_wp2_with (go_at_call 41; refine (none_any hS n HB.out).mono ?_; rintro e w1 ⟨rfl, rfl⟩)
    go_ret
    exact ⟨rfl, hS⟩
  obtain ⟨t, rfl⟩ := Int.eq_ofNat_of_zero_le (show 0 ≤ s by omega)
  obtain ⟨k, rfl, hk⟩ := Gr.is_nat hb
  have HOK := Lib.hid (bitOk_yes hk (show t < 8 by omega))
  obtain ⟨⟨x1, x2, x3, x4, x5, x6⟩, hx⟩ : ∃ x, G.N[k]? = some x := ⟨_, List.getElem?_eq_getElem hk⟩
  have HX := Lib.hid hx
  have hm := hm _ (List.mem_of_getElem? hx)
  dsimp only at hm
  have HBO := Lib.hid (or_bit x4 t (by omega) (by omega))
  have HNI := Lib.hid (Gr.nodeI_at hx)
  have j1 : (k : Int) < (G.N.length : Int) := by omega
  have j2 : (t : Int) < 8 := by omega
  have e1 : decide ((t : Int) < 0) = false := decide_eq_false (by omega)
  have e2 : decide (8 ≤ (t : Int)) = false := decide_eq_false (by omega)
  clear hb h1 h2 hm
  obtain ⟨vn, vu, vd, me, ml, hO⟩ := IsG.open hS
  obtain ⟨b, off, c, rfl, hc⟩ := hO.tbAddr (k := 1) rfl (by omega)
  unfold bitE Gr.markG
  rw [HOK.out, if_pos rfl, if_pos rfl, HNI.out]
  go_enter Try.func48, Try.ntmps48
  clear hS
  have hS := hO
  clear hO
  go_wp2_with (first
    | (go_at_call 41; refine (none_any (IsG.mk hS) k HB.out).mono ?_; rintro e w1 ⟨rfl, rfl⟩))
  refine regStart [13] hS (by kernel_rfl) rfl ?_
  intro w1 hS1
  clear hS; have hS := hS1; clear hS1
  (refine regP 0 hS (fun _ h => h) rfl (by kernel_rfl) (by kernel_rfl) (by kernel_rfl) (fun _ _ _ _ h => h) (by rfl) (by rfl) ?_; apply Exists.intro; apply And.intro; (intro w; go_simp; try with_reducible rfl); (simp only [Act.put, List.setIfInBounds_toArray, List.set_cons_zero, List.set_cons_succ]))
  (refine regP 1 hS (fun _ h => h) rfl (by kernel_rfl) (by kernel_rfl) (by kernel_rfl) (fun _ _ _ _ h => h) (by rfl) (by rfl) ?_; apply Exists.intro; apply And.intro; (intro w; go_simp; try with_reducible rfl); (simp only [Act.put, List.setIfInBounds_toArray, List.set_cons_zero, List.set_cons_succ]))
  (refine regP 2 hS (fun _ h => h) rfl (by kernel_rfl) (by kernel_rfl) (by kernel_rfl) (fun _ _ _ _ h => h) (by rfl) (by rfl) ?_; apply Exists.intro; apply And.intro; (intro w; go_simp; try with_reducible rfl); (simp only [Act.put, List.setIfInBounds_toArray, List.set_cons_zero, List.set_cons_succ]))
  (refine regR 3 hS (fun _ h => h) rfl (by kernel_rfl) (by kernel_rfl) (by kernel_rfl) (by kernel_rfl) (by kernel_rfl) (fun _ _ _ _ h => h) (by rfl) (by rfl) ?_; (first
        | refine ⟨_, yLd _ _ (by rfl) _ _ (by rfl) (agOf (by rfl)) (by first | exact Has.z | exact Has.s Has.z | exact Has.s (Has.s Has.z) | exact Has.s (Has.s (Has.s Has.z)) | exact Has.s (Has.s (Has.s (Has.s Has.z))) | exact Has.s (Has.s (Has.s (Has.s (Has.s Has.z))))) (by rfl), ?_⟩
        | refine ⟨_, yLdTb _ _ (by rfl) _ _ (by rfl) (agOf (by rfl)) (Has.s Has.z) k 3 (by omega) HX.out (by rfl), ?_⟩); (simp only [Act.put, List.setIfInBounds_toArray, List.set_cons_zero, List.set_cons_succ]))
  (refine regP 4 hS (fun _ h => h) rfl (by kernel_rfl) (by kernel_rfl) (by kernel_rfl) (fun _ _ _ _ h => h) (by rfl) (by rfl) ?_; apply Exists.intro; apply And.intro; (intro w; go_simp; try with_reducible rfl); (simp only [Act.put, List.setIfInBounds_toArray, List.set_cons_zero, List.set_cons_succ]))
  (refine regP 5 hS (fun _ h => h) rfl (by kernel_rfl) (by kernel_rfl) (by kernel_rfl) (fun _ _ _ _ h => h) (by rfl) (by rfl) ?_; apply Exists.intro; apply And.intro; (intro w; go_simp; try with_reducible rfl); (simp only [Act.put, List.setIfInBounds_toArray, List.set_cons_zero, List.set_cons_succ]))
  (refine regP 6 hS (fun _ h => h) rfl (by kernel_rfl) (by kernel_rfl) (by kernel_rfl) (fun _ _ _ _ h => h) (by rfl) (by rfl) ?_; apply Exists.intro; apply And.intro; (intro w; go_simp; try with_reducible rfl); (simp only [Act.put, List.setIfInBounds_toArray, List.set_cons_zero, List.set_cons_succ]))
  (refine regR 7 hS (fun _ h => h) rfl (by kernel_rfl) (by kernel_rfl) (by kernel_rfl) (by kernel_rfl) (by kernel_rfl) (fun _ _ _ _ h => h) (by rfl) (by rfl) ?_; (first
        | refine ⟨_, yLd _ _ (by rfl) _ _ (by rfl) (agOf (by rfl)) (by first | exact Has.z | exact Has.s Has.z | exact Has.s (Has.s Has.z) | exact Has.s (Has.s (Has.s Has.z)) | exact Has.s (Has.s (Has.s (Has.s Has.z))) | exact Has.s (Has.s (Has.s (Has.s (Has.s Has.z))))) (by rfl), ?_⟩
        | refine ⟨_, yLdTb _ _ (by rfl) _ _ (by rfl) (agOf (by rfl)) (Has.s Has.z) k 3 (by omega) HX.out (by rfl), ?_⟩); (simp only [Act.put, List.setIfInBounds_toArray, List.set_cons_zero, List.set_cons_succ]))
  (refine regP 8 hS (fun _ h => h) rfl (by kernel_rfl) (by kernel_rfl) (by kernel_rfl) (fun _ _ _ _ h => h) (by rfl) (by rfl) ?_; apply Exists.intro; apply And.intro; (intro w; go_simp; try with_reducible rfl); (simp only [Act.put, List.setIfInBounds_toArray, List.set_cons_zero, List.set_cons_succ]))
  (refine regP 9 hS (fun _ h => h) rfl (by kernel_rfl) (by kernel_rfl) (by kernel_rfl) (fun _ _ _ _ h => h) (by rfl) (by rfl) ?_; apply Exists.intro; apply And.intro; (intro w; go_simp; try with_reducible rfl); (simp only [Act.put, List.setIfInBounds_toArray, List.set_cons_zero, List.set_cons_succ]))
  (refine regP 10 hS (fun _ h => h) rfl (by kernel_rfl) (by kernel_rfl) (by kernel_rfl) (fun _ _ _ _ h => h) (by rfl) (by rfl) ?_; apply Exists.intro; apply And.intro; (intro w; go_simp; try with_reducible rfl); (simp only [Act.put, List.setIfInBounds_toArray, List.set_cons_zero, List.set_cons_succ]))
  (refine regP 11 hS (fun _ h => h) rfl (by kernel_rfl) (by kernel_rfl) (by kernel_rfl) (fun _ _ _ _ h => h) (by rfl) (by rfl) ?_; apply Exists.intro; apply And.intro; (intro w; go_simp; try with_reducible rfl); (simp only [Act.put, List.setIfInBounds_toArray, List.set_cons_zero, List.set_cons_succ]))
  (refine regP 12 hS (fun _ h => h) rfl (by kernel_rfl) (by kernel_rfl) (by kernel_rfl) (fun _ _ _ _ h => h) (by rfl) (by rfl) ?_; apply Exists.intro; apply And.intro; (intro w; go_simp; try with_reducible rfl); (simp only [Act.put, List.setIfInBounds_toArray, List.set_cons_zero, List.set_cons_succ]))
  (refine regA 13 rfl (by kernel_rfl) (by rfl) (by rfl) true (by kernel_rfl) (fun K hK => ?_); (refine stTbF hS _ _ _ (by rfl) _ _ (by rfl) (.int .i64 ((x4 ||| 2 ^ t : Nat) : Int)) (by rw [← HBO.out]; rfl) (by rfl) (szOf (by rfl)) (Has.s Has.z) rfl k 3 (by omega) HX.out ⟨x1, x2, x3, x4 ||| 2 ^ t, x5, x6⟩ (by rfl) (by decide) ?_; intro w1 hS1; clear hS; have hS := hS1; clear hS1; dsimp only [List.set_cons_zero, List.set_cons_succ] at hS); refine hK _ _ _ hS (by first | (intro h; cases h; done) | exact fun _ _ h => h | exact fun _ _ h => h.drop | exact fun _ _ h => h.drop.drop | exact fun _ _ h => h.drop.pull1 | exact fun _ _ h => h.take2 | exact fun _ _ h => h.one Has.z | exact fun _ _ h => h.one (Has.s Has.z) | exact fun _ _ h => h.one (Has.s (Has.s Has.z))) ?_; clear hK K; (simp only [Act.put, List.setIfInBounds_toArray, List.set_cons_zero, List.set_cons_succ]))
  refine regDone (by kernel_rfl) ?_
  go_wp2
  go_ret
  exact ⟨rfl, IsG.with (map_set_same HX.out rfl rfl) (by simpa using hS)⟩
def Gr.clearG (G : Gr) (n s : Int) : Gr := if bitOk G n s then G.withN (G.N.set n.toNat { G.nodeI n with clear := (G.nodeI n).clear ||| 2 ^ s.toNat }) else G
set_option maxRecDepth 20000 in
theorem clear_any {W w : World} {L : List Asrt} {p : Nat} {G : Gr} (hS : Sat W w (IsG p G :: L)) (n s : Int) (hm : ∀ x ∈ G.N, x.mark < 256 ∧ x.clear < 256) :
    Calls Try.prog 49 #[.pointer (some ⟨p, 0, none⟩), .int .i64 n, .int .i64 s] w fun e w' => e = .returned (.int .i64 (bitE G n s)) ∧ Sat W w' (IsG p (G.clearG n s) :: L) := by
  cases hb : G.is n
  · have HB := Lib.hid (show (!G.is n) = true by simp [hb])
    skip
    have HF := Lib.hid (bitOk_no1 (G := G) (n := n) (s := s) hb)
    unfold bitE Gr.clearG
    rw [HF.out]
    go_enter Try.func49, Try.ntmps49
    go_wp2_with (go_at_call 41; refine (none_any hS n HB.out).mono ?_; rintro e w1 ⟨rfl, rfl⟩)
    go_ret
    exact ⟨rfl, hS⟩
  have HB := Lib.hid (show (!G.is n) = false by simp [hb])
  by_cases h1 : s < 0
  · skip
    skip
    have HF := Lib.hid (bitOk_no2 (G := G) (n := n) (s := s) (.inl h1))
    unfold bitE Gr.clearG
    rw [HF.out]
    go_enter Try.func49, Try.ntmps49
    go_wp2_with (go_at_call 41; refine (none_any hS n HB.out).mono ?_; rintro e w1 ⟨rfl, rfl⟩)
    go_ret
    exact ⟨rfl, hS⟩
  by_cases h2 : 8 ≤ s
  · have e1 : decide (s < 0) = false := decide_eq_false h1
    skip
    have HF := Lib.hid (bitOk_no2 (G := G) (n := n) (s := s) (.inr h2))
    unfold bitE Gr.clearG
    rw [HF.out]
    go_enter Try.func49, Try.ntmps49
    go_wp2_with (go_at_call 41; refine (none_any hS n HB.out).mono ?_; rintro e w1 ⟨rfl, rfl⟩)
    go_ret
    exact ⟨rfl, hS⟩
  obtain ⟨t, rfl⟩ := Int.eq_ofNat_of_zero_le (show 0 ≤ s by omega)
  obtain ⟨k, rfl, hk⟩ := Gr.is_nat hb
  have HOK := Lib.hid (bitOk_yes hk (show t < 8 by omega))
  obtain ⟨⟨x1, x2, x3, x4, x5, x6⟩, hx⟩ : ∃ x, G.N[k]? = some x := ⟨_, List.getElem?_eq_getElem hk⟩
  have HX := Lib.hid hx
  have hm := hm _ (List.mem_of_getElem? hx)
  dsimp only at hm
  have HBO := Lib.hid (or_bit x5 t (by omega) (by omega))
  have HNI := Lib.hid (Gr.nodeI_at hx)
  have j1 : (k : Int) < (G.N.length : Int) := by omega
  have j2 : (t : Int) < 8 := by omega
  have e1 : decide ((t : Int) < 0) = false := decide_eq_false (by omega)
  have e2 : decide (8 ≤ (t : Int)) = false := decide_eq_false (by omega)
  clear hb h1 h2 hm
  obtain ⟨vn, vu, vd, me, ml, hO⟩ := IsG.open hS
  obtain ⟨b, off, c, rfl, hc⟩ := hO.tbAddr (k := 1) rfl (by omega)
  unfold bitE Gr.clearG
  rw [HOK.out, if_pos rfl, if_pos rfl, HNI.out]
  go_enter Try.func49, Try.ntmps49
  clear hS
  have hS := hO
  clear hO
  go_wp2_with (first
    | (go_at_call 41; refine (none_any (IsG.mk hS) k HB.out).mono ?_; rintro e w1 ⟨rfl, rfl⟩))
  refine regStart [13] hS (by kernel_rfl) rfl ?_
  intro w1 hS1
  clear hS; have hS := hS1; clear hS1
  (refine regP 0 hS (fun _ h => h) rfl (by kernel_rfl) (by kernel_rfl) (by kernel_rfl) (fun _ _ _ _ h => h) (by rfl) (by rfl) ?_; apply Exists.intro; apply And.intro; (intro w; go_simp; try with_reducible rfl); (simp only [Act.put, List.setIfInBounds_toArray, List.set_cons_zero, List.set_cons_succ]))
  (refine regP 1 hS (fun _ h => h) rfl (by kernel_rfl) (by kernel_rfl) (by kernel_rfl) (fun _ _ _ _ h => h) (by rfl) (by rfl) ?_; apply Exists.intro; apply And.intro; (intro w; go_simp; try with_reducible rfl); (simp only [Act.put, List.setIfInBounds_toArray, List.set_cons_zero, List.set_cons_succ]))
  (refine regP 2 hS (fun _ h => h) rfl (by kernel_rfl) (by kernel_rfl) (by kernel_rfl) (fun _ _ _ _ h => h) (by rfl) (by rfl) ?_; apply Exists.intro; apply And.intro; (intro w; go_simp; try with_reducible rfl); (simp only [Act.put, List.setIfInBounds_toArray, List.set_cons_zero, List.set_cons_succ]))
  (refine regR 3 hS (fun _ h => h) rfl (by kernel_rfl) (by kernel_rfl) (by kernel_rfl) (by kernel_rfl) (by kernel_rfl) (fun _ _ _ _ h => h) (by rfl) (by rfl) ?_; (first
        | refine ⟨_, yLd _ _ (by rfl) _ _ (by rfl) (agOf (by rfl)) (by first | exact Has.z | exact Has.s Has.z | exact Has.s (Has.s Has.z) | exact Has.s (Has.s (Has.s Has.z)) | exact Has.s (Has.s (Has.s (Has.s Has.z))) | exact Has.s (Has.s (Has.s (Has.s (Has.s Has.z))))) (by rfl), ?_⟩
        | refine ⟨_, yLdTb _ _ (by rfl) _ _ (by rfl) (agOf (by rfl)) (Has.s Has.z) k 4 (by omega) HX.out (by rfl), ?_⟩); (simp only [Act.put, List.setIfInBounds_toArray, List.set_cons_zero, List.set_cons_succ]))
  (refine regP 4 hS (fun _ h => h) rfl (by kernel_rfl) (by kernel_rfl) (by kernel_rfl) (fun _ _ _ _ h => h) (by rfl) (by rfl) ?_; apply Exists.intro; apply And.intro; (intro w; go_simp; try with_reducible rfl); (simp only [Act.put, List.setIfInBounds_toArray, List.set_cons_zero, List.set_cons_succ]))
  (refine regP 5 hS (fun _ h => h) rfl (by kernel_rfl) (by kernel_rfl) (by kernel_rfl) (fun _ _ _ _ h => h) (by rfl) (by rfl) ?_; apply Exists.intro; apply And.intro; (intro w; go_simp; try with_reducible rfl); (simp only [Act.put, List.setIfInBounds_toArray, List.set_cons_zero, List.set_cons_succ]))
  (refine regP 6 hS (fun _ h => h) rfl (by kernel_rfl) (by kernel_rfl) (by kernel_rfl) (fun _ _ _ _ h => h) (by rfl) (by rfl) ?_; apply Exists.intro; apply And.intro; (intro w; go_simp; try with_reducible rfl); (simp only [Act.put, List.setIfInBounds_toArray, List.set_cons_zero, List.set_cons_succ]))
  (refine regR 7 hS (fun _ h => h) rfl (by kernel_rfl) (by kernel_rfl) (by kernel_rfl) (by kernel_rfl) (by kernel_rfl) (fun _ _ _ _ h => h) (by rfl) (by rfl) ?_; (first
        | refine ⟨_, yLd _ _ (by rfl) _ _ (by rfl) (agOf (by rfl)) (by first | exact Has.z | exact Has.s Has.z | exact Has.s (Has.s Has.z) | exact Has.s (Has.s (Has.s Has.z)) | exact Has.s (Has.s (Has.s (Has.s Has.z))) | exact Has.s (Has.s (Has.s (Has.s (Has.s Has.z))))) (by rfl), ?_⟩
        | refine ⟨_, yLdTb _ _ (by rfl) _ _ (by rfl) (agOf (by rfl)) (Has.s Has.z) k 4 (by omega) HX.out (by rfl), ?_⟩); (simp only [Act.put, List.setIfInBounds_toArray, List.set_cons_zero, List.set_cons_succ]))
  (refine regP 8 hS (fun _ h => h) rfl (by kernel_rfl) (by kernel_rfl) (by kernel_rfl) (fun _ _ _ _ h => h) (by rfl) (by rfl) ?_; apply Exists.intro; apply And.intro; (intro w; go_simp; try with_reducible rfl); (simp only [Act.put, List.setIfInBounds_toArray, List.set_cons_zero, List.set_cons_succ]))
  (refine regP 9 hS (fun _ h => h) rfl (by kernel_rfl) (by kernel_rfl) (by kernel_rfl) (fun _ _ _ _ h => h) (by rfl) (by rfl) ?_; apply Exists.intro; apply And.intro; (intro w; go_simp; try with_reducible rfl); (simp only [Act.put, List.setIfInBounds_toArray, List.set_cons_zero, List.set_cons_succ]))
  (refine regP 10 hS (fun _ h => h) rfl (by kernel_rfl) (by kernel_rfl) (by kernel_rfl) (fun _ _ _ _ h => h) (by rfl) (by rfl) ?_; apply Exists.intro; apply And.intro; (intro w; go_simp; try with_reducible rfl); (simp only [Act.put, List.setIfInBounds_toArray, List.set_cons_zero, List.set_cons_succ]))
  (refine regP 11 hS (fun _ h => h) rfl (by kernel_rfl) (by kernel_rfl) (by kernel_rfl) (fun _ _ _ _ h => h) (by rfl) (by rfl) ?_; apply Exists.intro; apply And.intro; (intro w; go_simp; try with_reducible rfl); (simp only [Act.put, List.setIfInBounds_toArray, List.set_cons_zero, List.set_cons_succ]))
  (refine regP 12 hS (fun _ h => h) rfl (by kernel_rfl) (by kernel_rfl) (by kernel_rfl) (fun _ _ _ _ h => h) (by rfl) (by rfl) ?_; apply Exists.intro; apply And.intro; (intro w; go_simp; try with_reducible rfl); (simp only [Act.put, List.setIfInBounds_toArray, List.set_cons_zero, List.set_cons_succ]))
  (refine regA 13 rfl (by kernel_rfl) (by rfl) (by rfl) true (by kernel_rfl) (fun K hK => ?_); (refine stTbF hS _ _ _ (by rfl) _ _ (by rfl) (.int .i64 ((x5 ||| 2 ^ t : Nat) : Int)) (by rw [← HBO.out]; rfl) (by rfl) (szOf (by rfl)) (Has.s Has.z) rfl k 4 (by omega) HX.out ⟨x1, x2, x3, x4, x5 ||| 2 ^ t, x6⟩ (by rfl) (by decide) ?_; intro w1 hS1; clear hS; have hS := hS1; clear hS1; dsimp only [List.set_cons_zero, List.set_cons_succ] at hS); refine hK _ _ _ hS (by first | (intro h; cases h; done) | exact fun _ _ h => h | exact fun _ _ h => h.drop | exact fun _ _ h => h.drop.drop | exact fun _ _ h => h.drop.pull1 | exact fun _ _ h => h.take2 | exact fun _ _ h => h.one Has.z | exact fun _ _ h => h.one (Has.s Has.z) | exact fun _ _ h => h.one (Has.s (Has.s Has.z))) ?_; clear hK K; (simp only [Act.put, List.setIfInBounds_toArray, List.set_cons_zero, List.set_cons_succ]))
  refine regDone (by kernel_rfl) ?_
  go_wp2
  go_ret
  exact ⟨rfl, IsG.with (map_set_same HX.out rfl rfl) (by simpa using hS)⟩
/-- Nodes from one on, up to ahead of another, are orphans. -/
def orphN (N : List NodeD) (a b : Nat) : List NodeD := N.mapIdx fun i x => if a ≤ i ∧ i < b then { x with orph := true } else x
theorem orphN_at (N : List NodeD) (a b i : Nat) : (orphN N a b)[i]? = (N[i]?).map fun x => if a ≤ i ∧ i < b then { x with orph := true } else x := by simp [orphN]
theorem orphN_len (N : List NodeD) (a b : Nat) : (orphN N a b).length = N.length := by simp [orphN]
theorem orphN_none (N : List NodeD) (a : Nat) : orphN N a a = N := by
  apply List.ext_getElem?
  intro i
  rw [orphN_at]
  cases N[i]? with
  | none => rfl
  | some y => simp only [Option.map_some]; rw [if_neg (by omega)]
theorem orphN_step {N : List NodeD} {a b : Nat} {x : NodeD} (hx : (orphN N a b)[b]? = some x) (hab : a ≤ b) : (orphN N a b).set b { x with orph := true } = orphN N a (b + 1) := by
  apply List.ext_getElem?
  intro i
  have hb := (List.getElem?_eq_some_iff.1 hx).1
  rw [List.getElem?_set, orphN_at]
  rw [orphN_at] at hx
  by_cases h : b = i
  · subst h
    rw [if_pos rfl, if_pos (by simpa [orphN_len] using hb)]
    cases hN : N[b]? with
    | none => rw [hN] at hx; simp at hx
    | some y =>
      rw [hN] at hx
      simp only [Option.map_some, Option.some.injEq] at hx
      rw [if_neg (by omega)] at hx
      rw [orphN_at, hN]
      simp only [Option.map_some]
      rw [if_pos (by omega), hx]
  · rw [if_neg h, orphN_at]
    cases N[i]? with
    | none => rfl
    | some y =>
      simp only [Option.map_some]
      by_cases h2 : a ≤ i ∧ i < b
      · rw [if_pos h2, if_pos (by omega)]
      · rw [if_neg h2, if_neg (by omega)]
theorem orphN_same (N : List NodeD) (a b : Nat) : (orphN N a b).map (fun x => (x.kind, x.obj)) = N.map (fun x => (x.kind, x.obj)) := by
  apply List.ext_getElem?
  intro i
  rw [List.getElem?_map, orphN_at, List.getElem?_map]
  cases N[i]? with
  | none => rfl
  | some y => simp only [Option.map_some]; split <;> rfl
def lostOk (G : Gr) (a b : Int) : Bool := decide (0 ≤ a) && decide (a ≤ b) && decide (b ≤ G.N.length)
def lostE (G : Gr) (a b : Int) : Int := if lostOk G a b then 0 else 1
def Gr.lostG (G : Gr) (a b : Int) : Gr := if lostOk G a b then G.withN (orphN G.N a.toNat b.toNat) else G
set_option maxRecDepth 20000 in
set_option maxHeartbeats 1000000 in
theorem lost_any {W w : World} {L : List Asrt} {p : Nat} {G : Gr} (hS : Sat W w (IsG p G :: L)) (a b : Int) (hG : G.N.length ≤ 1000000) :
    Calls Try.prog 50 #[.pointer (some ⟨p, 0, none⟩), .int .i64 a, .int .i64 b] w fun e w' => e = .returned (.int .i64 (lostE G a b)) ∧ Sat W w' (IsG p (G.lostG a b) :: L) := by
  by_cases h1 : a < 0
  · have HF := Lib.hid (show lostOk G a b = false by unfold lostOk; rw [decide_eq_false (by omega : ¬ 0 ≤ a)]; rfl)
    unfold lostE Gr.lostG
    rw [HF.out]
    go_enter Try.func50, Try.ntmps50
    go_wp2
    go_ret
    exact ⟨rfl, hS⟩
  have e1 : decide (a < 0) = false := decide_eq_false h1
  by_cases h2 : b < a
  · have HF := Lib.hid (show lostOk G a b = false by unfold lostOk; rw [decide_eq_false (by omega : ¬ a ≤ b)]; simp)
    unfold lostE Gr.lostG
    rw [HF.out]
    go_enter Try.func50, Try.ntmps50
    go_wp2
    go_ret
    exact ⟨rfl, hS⟩
  have e2 : decide (b < a) = false := decide_eq_false h2
  obtain ⟨vn, vu, vd, me, ml, hO⟩ := IsG.open hS
  obtain ⟨aon, cn, rfl, _⟩ := hO.tbShape (k := 1) rfl
  by_cases h3 : (G.N.length : Int) < b
  · have HF := Lib.hid (show lostOk G a b = false by unfold lostOk; rw [decide_eq_false (by omega : ¬ b ≤ (G.N.length : Int))]; simp)
    unfold lostE Gr.lostG
    rw [HF.out]
    go_enter Try.func50, Try.ntmps50
    go_wp2_with (refine toList (by rfl) ?_; refine ld hO _ _ (by rfl) _ _ (by rfl) (agOf (by rfl)) Has.z (by rfl) ?_)
    go_ret
    exact ⟨rfl, hS⟩
  have HF := Lib.hid (show lostOk G a b = true by unfold lostOk; simp; omega)
  have e3 : decide ((G.N.length : Int) < b) = false := decide_eq_false h3
  unfold lostE Gr.lostG
  rw [HF.out, if_pos rfl, if_pos rfl]
  obtain ⟨i, rfl⟩ := Int.eq_ofNat_of_zero_le (show 0 ≤ a by omega)
  obtain ⟨j, rfl⟩ := Int.eq_ofNat_of_zero_le (show 0 ≤ b by omega)
  have hij : i ≤ j := by omega
  have hjl : j ≤ G.N.length := by omega
  have hji : (j : Int) ≤ 1000000 := by omega
  have e4 : decide (j < i) = false := decide_eq_false (by omega)
  have e5 : decide (G.N.length < j) = false := decide_eq_false (by omega)
  clear h1 h2 h3 HF
  have H0 := Lib.hid (show Sat W w (Cs p 78 [.slice aon G.N.length cn, vu, vd, .map (some me), .map (some ml)] :: Tb 32 6 nv (.slice aon G.N.length cn) (orphN G.N i i) :: Rws Irn vu G.upsL :: Rws Irn vd G.downsL :: Mp ek bw me G.edgesF :: Mp ek nw ml G.latF :: L) by rw [orphN_none]; exact hO)
  go_enter Try.func50, Try.ntmps50
  go_wp2_with (refine toList (by rfl) ?_; refine ld hO _ _ (by rfl) _ _ (by rfl) (agOf (by rfl)) Has.z (by rfl) ?_)
  clear hS hO
  go_loopw [7] (fun vi wz => ∃ k : Nat, i ≤ k ∧ k ≤ j ∧ vi = .int .i64 k ∧ Sat W wz (Cs p 78 [.slice aon G.N.length cn, vu, vd, .map (some me), .map (some ml)] :: Tb 32 6 nv (.slice aon G.N.length cn) (orphN G.N i k) :: Rws Irn vu G.upsL :: Rws Irn vd G.downsL :: Mp ek bw me G.edgesF :: Mp ek nw ml G.latF :: L)) (fun vi _ => j - (intOf vi).toNat)
  case atStart => exact ⟨i, Nat.le_refl _, hij, rfl, H0.out⟩
  case round =>
    clear H0
    obtain ⟨k, hik, hkj, rfl, hS⟩ := hrel
    by_cases hlt : k < j
    · have j1 : (k : Int) < (j : Int) := by omega
      have j2 : (k : Int) < (G.N.length : Int) := by omega
      obtain ⟨⟨x1, x2, x3, x4, x5, x6⟩, hx⟩ : ∃ x, (orphN G.N i k)[k]? = some x := ⟨_, List.getElem?_eq_getElem (by rw [orphN_len]; omega)⟩
      have HX := Lib.hid hx
      have HST := Lib.hid (orphN_step hx hik)
      obtain ⟨bb, off, c, he, _⟩ := hS.tbAddr (k := 1) rfl (by rw [orphN_len]; omega)
      simp only [Value.slice.injEq] at he
      obtain ⟨rfl, hjunk, rfl⟩ := he
      clear hjunk
      have HLN := Lib.hid (orphN_len G.N i k)
      clear hx
      go_wp2_with (first
        | (refine toList (by rfl) ?_; refine ld hS _ _ (by rfl) _ _ (by rfl) (agOf (by rfl)) (by first | exact Has.z | exact Has.s Has.z | exact Has.s (Has.s Has.z) | exact Has.s (Has.s (Has.s Has.z)) | exact Has.s (Has.s (Has.s (Has.s Has.z))) | exact Has.s (Has.s (Has.s (Has.s (Has.s Has.z))))) (by rfl) ?_)
        | (refine toList (by rfl) ?_; refine stTbF hS _ _ _ (by rfl) _ _ (by rfl) (.bool true) (by rfl) (by rfl) (szOf (by rfl)) (Has.s Has.z) HLN.out k 5 (by omega) HX.out ⟨x1, x2, x3, x4, x5, true⟩ (by rfl) (by decide) ?_; intro w1 hS1; clear hS; have hS := hS1; clear hS1; dsimp only [List.set_cons_zero, List.set_cons_succ] at hS; rw [HST.out] at hS))
      exact ⟨⟨k + 1, by omega, by omega, by go_num, hS⟩, by simp [intOf]; omega⟩
    · obtain rfl : k = j := by omega
      go_wp2
      go_ret
      exact ⟨rfl, IsG.with (orphN_same _ _ _) hS⟩
end Go.Proofs.Ytapodjhkpahdnaa
