/-
  The document's graph: Reaches, Edge, Mark, Clear, Lost.
-/
import Derived.Test.YtapodjhkpahdnaaGrRefM
namespace Go.Proofs.Ytapodjhkpahdnaa
open Go.RowKit Go.Sep
set_option linter.unusedSimpArgs false
set_option linter.unusedVariables false
attribute [local irreducible] Go.Oper.wp Go.wpList Go.Calls Go.Code.wp Go.Sep.Reg
theorem Gr.reaches_rB (G : Gr) (a b : Int) : G.reaches a b = (G.is a && (G.is b && G.rB a b.toNat)) := by
  unfold Gr.reaches Gr.aboveI
  cases ha : G.is a with
  | false => rfl
  | true =>
    obtain ⟨x, rfl, hx⟩ := Gr.is_nat ha
    rw [if_pos rfl, Int.toNat_natCast, Bool.true_and, Bool.eq_iff_iff, List.any_eq_true, Bool.and_eq_true]
    constructor
    · rintro ⟨y, hy, he⟩
      have he := of_decide_eq_true he
      obtain ⟨h1, h2⟩ := Gr.mem_above.1 hy
      subst he
      exact ⟨Gr.is_mk h1, by rw [Int.toNat_natCast]; exact (Gr.rB_nat hx).2 h2⟩
    · rintro ⟨h1, h2⟩
      obtain ⟨y, rfl, hy⟩ := Gr.is_nat h1
      rw [Int.toNat_natCast] at h2
      exact ⟨y, Gr.mem_above.2 ⟨hy, (Gr.rB_nat hx).1 h2⟩, by simp⟩
theorem rreaches_any {W w : World} {L : List Asrt} {p : Nat} {G : Gr} (hS : Sat W w (IsR p G :: L)) (hG : G.Ok) (a b : Int) {r : Bool} (hr : G.reaches a b = r) :
    Calls Try.prog 82 #[.pointer (some ⟨p, 0, none⟩), .int .i64 a, .int .i64 b] w fun e w' => e = .returned (.bool r) ∧ Sat W w' (IsR p G :: L) := by
  rw [Gr.reaches_rB] at hr
  cases ha : G.is a
  · have HA := Lib.hid (fun w L (h : Sat W w (IsR p G :: L)) => is_any h a ha)
    obtain rfl : r = false := by rw [← hr, ha]; rfl
    clear ha hr
    go_enter Try.func82, Try.ntmps82
    go_wp2_with (go_at_call 80; refine (HA.out _ _ hS).mono ?_; rintro e w1 ⟨rfl, rfl⟩)
    go_ret
    exact ⟨rfl, hS⟩
  have HA := Lib.hid (fun w L (h : Sat W w (IsR p G :: L)) => is_any h a ha)
  cases hb : G.is b
  · have HB := Lib.hid (fun w L (h : Sat W w (IsR p G :: L)) => is_any h b hb)
    obtain rfl : r = false := by rw [← hr, ha, hb]; rfl
    clear ha hb hr
    go_enter Try.func82, Try.ntmps82
    go_wp2_with (go_at_call 80; (first | with_reducible refine (HA.out _ _ hS).mono ?_ | with_reducible refine (HB.out _ _ hS).mono ?_); rintro e w1 ⟨rfl, rfl⟩)
    go_ret
    exact ⟨rfl, hS⟩
  have HB := Lib.hid (fun w L (h : Sat W w (IsR p G :: L)) => is_any h b hb)
  obtain ⟨y, rfl, hy⟩ := Gr.is_nat hb
  have hr2 : G.rB a y = r := by rw [← hr, ha, hb]; rfl
  have HV := Lib.hid (show (bl (G.rB a) G.N.length)[y]? = some (.bool r) by rw [bl_at hy, hr2])
  have j1 : (y : Int) < (G.N.length : Int) := by omega
  clear ha hb hr hr2 hy
  go_enter Try.func82, Try.ntmps82
  go_wp2_with (first
    | (go_at_call 80; (first | with_reducible refine (HA.out _ _ hS).mono ?_ | with_reducible refine (HB.out _ _ hS).mono ?_); rintro e w1 ⟨rfl, rfl⟩)
    | (go_at_call 110; refine (marks_any hS hG a).mono ?_; rintro e w1 ⟨bm, rfl, hS1⟩; clear hS; have hS := hS1; clear hS1)
    | (refine toList (by rfl) ?_; refine ld hS _ _ (by rfl) _ _ (by rfl) (agOf (by rfl)) Has.z HV.out ?_))
  go_ret
  exact ⟨rfl, hS.drop⟩
set_option maxRecDepth 20000 in
set_option maxHeartbeats 1000000 in
theorem redge_any {W w : World} {L : List Asrt} {p : Nat} {G : Gr} (hS : Sat W w (IsR p G :: L)) (hG : G.Ok) (hel : G.E.length < 1000000) (a b : Int) :
    Calls Try.prog 53 #[.pointer (some ⟨p, 0, none⟩), .int .i64 a, .int .i64 b] w fun e w' => e = .returned (.int .i64 (G.edgeE a b)) ∧ Sat W w' (IsR p (G.edgeG a b) :: L) := by
  cases ha : G.is a
  · have HE := Lib.hid (show G.edgeE a b = 1 by unfold Gr.edgeE; rw [if_pos (by simp [ha])])
    have HA := Lib.hid (fun w L (h : Sat W w (IsR p G :: L)) => is_any h a ha)
    unfold Gr.edgeG
    rw [HE.out, if_neg (by decide)]
    clear ha
    go_enter Try.func53, Try.ntmps53
    go_wp2_with (go_at_call 80; refine (HA.out _ _ hS).mono ?_; rintro e w1 ⟨rfl, rfl⟩)
    go_ret
    exact ⟨rfl, hS⟩
  have HA := Lib.hid (fun w L (h : Sat W w (IsR p G :: L)) => is_any h a ha)
  cases hb : G.is b
  · have HE := Lib.hid (show G.edgeE a b = 1 by unfold Gr.edgeE; rw [if_pos (by simp [hb])])
    have HB := Lib.hid (fun w L (h : Sat W w (IsR p G :: L)) => is_any h b hb)
    unfold Gr.edgeG
    rw [HE.out, if_neg (by decide)]
    clear ha hb
    go_enter Try.func53, Try.ntmps53
    go_wp2_with (go_at_call 80; (first | with_reducible refine (HA.out _ _ hS).mono ?_ | with_reducible refine (HB.out _ _ hS).mono ?_); rintro e w1 ⟨rfl, rfl⟩)
    go_ret
    exact ⟨rfl, hS⟩
  have HB := Lib.hid (fun w L (h : Sat W w (IsR p G :: L)) => is_any h b hb)
  by_cases hab : a = b
  · subst hab
    have HE := Lib.hid (show G.edgeE a a = 1 by unfold Gr.edgeE; rw [if_pos (by simp)])
    unfold Gr.edgeG
    rw [HE.out, if_neg (by decide)]
    clear ha hb HB
    go_enter Try.func53, Try.ntmps53
    go_wp2_with (go_at_call 80; refine (HA.out _ _ hS).mono ?_; rintro e w1 ⟨rfl, rfl⟩)
    go_ret
    exact ⟨rfl, hS⟩
  have f1 : (a == b) = false := beq_eq_false_iff_ne.2 hab
  have f2 : decide (a = b) = false := decide_eq_false hab
  have HT := show (!G.is a || !G.is b || decide (a = b)) = false by rw [ha, hb, f2]; rfl
  cases hh : G.has (a, b) with
  | true =>
    have HE := Lib.hid (show G.edgeE a b = 23 by unfold Gr.edgeE; rw [HT, hh]; rfl)
    have HH := Lib.hid (fun w L (h : Sat W w (IsR p G :: L)) => has_any h a b hG.edges hh)
    unfold Gr.edgeG
    rw [HE.out, if_neg (by decide)]
    clear ha hb HT hh
    go_enter Try.func53, Try.ntmps53
    go_wp2_with (first
      | (go_at_call 80; (first | with_reducible refine (HA.out _ _ hS).mono ?_ | with_reducible refine (HB.out _ _ hS).mono ?_); rintro e w1 ⟨rfl, rfl⟩)
      | (go_at_call 81; refine (HH.out _ _ hS).mono ?_; rintro e w1 ⟨rfl, rfl⟩))
    go_ret
    exact ⟨rfl, hS⟩
  | false =>
    have HH := Lib.hid (fun w L (h : Sat W w (IsR p G :: L)) => has_any h a b hG.edges hh)
    cases hr : G.reaches b a with
    | true =>
      have HE := Lib.hid (show G.edgeE a b = 11 by unfold Gr.edgeE; rw [HT, hh, hr]; rfl)
      have HRC := Lib.hid (fun w L (h : Sat W w (IsR p G :: L)) => rreaches_any h hG b a hr)
      unfold Gr.edgeG
      rw [HE.out, if_neg (by decide)]
      clear ha hb HT hh hr
      go_enter Try.func53, Try.ntmps53
      go_wp2_with (first
        | (go_at_call 80; (first | with_reducible refine (HA.out _ _ hS).mono ?_ | with_reducible refine (HB.out _ _ hS).mono ?_); rintro e w1 ⟨rfl, rfl⟩)
        | (go_at_call 81; refine (HH.out _ _ hS).mono ?_; rintro e w1 ⟨rfl, rfl⟩)
        | (go_at_call 82; refine (HRC.out _ _ hS).mono ?_; rintro e w1 ⟨rfl, hS1⟩; clear hS; have hS := hS1; clear hS1))
      go_ret
      exact ⟨rfl, hS⟩
    | false =>
      have hE : G.edgeE a b = 0 := by unfold Gr.edgeE; rw [HT, hh, hr]; rfl
      have HRC := Lib.hid (fun w L (h : Sat W w (IsR p G :: L)) => rreaches_any h hG b a hr)
      obtain ⟨x, y, rfl, rfl, hx, hy, _, _, _⟩ := Gr.edge_yes hE
      have HE := Lib.hid hE
      unfold Gr.edgeG
      rw [HE.out, if_pos rfl, Int.toNat_natCast, Int.toNat_natCast]
      have HEL := Lib.hid hel
      clear ha hb HT hh hr hE hx hy hab hel
      go_enter Try.func53, Try.ntmps53
      obtain ⟨q, hq⟩ : ∃ q, q = IsR p G := ⟨_, rfl⟩
      go_wp2_with (first
        | (go_at_call 80; (first | with_reducible refine (HA.out _ _ hS).mono ?_ | with_reducible refine (HB.out _ _ hS).mono ?_); rintro e w1 ⟨rfl, rfl⟩)
        | (go_at_call 81; refine (HH.out _ _ hS).mono ?_; rintro e w1 ⟨rfl, rfl⟩)
        | (go_at_call 82; refine (HRC.out _ _ hS).mono ?_; rintro e w1 ⟨rfl, hS1⟩; clear hS; have hS := hS1; clear hS1; obtain ⟨an, cn, ae, ce, hcn, hce, hO⟩ := IsR.open hS; clear hS)
        | (refine toList (by rfl) ?_; refine ld hO _ _ (by rfl) _ _ (by rfl) (agOf (by rfl)) (by first | exact Has.z | exact Has.s Has.z | exact Has.s (Has.s Has.z) | exact Has.s (Has.s (Has.s Has.z)) | exact Has.s (Has.s (Has.s (Has.s Has.z))) | exact Has.s (Has.s (Has.s (Has.s (Has.s Has.z))))) (by rfl) ?_)
        | (refine toList (by rfl) ?_; refine bsF hO _ _ _ (by rfl) (elOf (by rfl)) [.agg (ev (x, y)).toArray] (by rfl) (by rfl) (by decide) (by decide) (by intro v hv; rw [List.mem_singleton.1 hv]; rfl) ?_; intro b1 w1 hS1; clear hO; have hO := hS1; clear hS1; rw [agg1] at hO)
        | (refine toList (by rfl) ?_; refine apTbS (f := ev) hO _ _ _ _ (by rfl) _ _ (by rfl) (by rfl) (elOf (by rfl)) (by rfl) (by decide) (inOf (by rfl)) (Has.s (Has.s (Has.s Has.z))) [(x, y)] (by exact ev_len _) (by exact hO.src1 (f := ev) Has.z rfl) (by exact ev_one _) (by simp; have := HEL.out; omega) (by simp; have := HEL.out; omega) ?_; intro ao5 c5 w1 hcap5 hS1; clear hO; have hO := hS1; clear hS1; dsimp only [List.set_cons_zero, List.set_cons_succ] at hO)
        | (refine toList (by rfl) ?_; refine st hO _ _ _ (by rfl) _ _ (by rfl) _ (by first | exact evC | exact evT (by rfl)) (by rfl) (szOf (by rfl)) (Has.s Has.z) (by exact Nat.le_of_ble_eq_true rfl) ?_; intro w1 hS1; clear hO; have hO := hS1; clear hS1; dsimp only [List.set] at hO))
      go_ret
      have h2 := hO.drop
      simp only [List.length_append, List.length_singleton] at h2
      exact ⟨rfl, IsR.mk (G := G.link x y) h2⟩
theorem rbit_any {W w : World} {L : List Asrt} {p : Nat} {G : Gr} (hS : Sat W w (IsR p G :: L)) (n s : Int) {b : Bool} (hb : bitOk G n s = b) :
    Calls Try.prog 83 #[.pointer (some ⟨p, 0, none⟩), .int .i64 n, .int .i64 s] w fun e w' => e = .returned (.bool b) ∧ w = w' := by
  unfold bitOk at hb
  cases hn : G.is n
  · have HA := Lib.hid (is_any hS n hn)
    obtain rfl : b = false := by rw [← hb, hn]; rfl
    clear hn hb
    go_enter Try.func83, Try.ntmps83
    go_wp2_with (go_at_call 80; refine HA.out.mono ?_; rintro e w1 ⟨rfl, rfl⟩)
    go_ret
    exact ⟨rfl, rfl⟩
  have HA := Lib.hid (is_any hS n hn)
  by_cases h1 : 0 ≤ s
  · have e1 : decide (0 ≤ s) = true := decide_eq_true h1
    by_cases h2 : s < 8
    · have e2 : decide (s < 8) = true := decide_eq_true h2
      obtain rfl : b = true := by rw [← hb, hn, e1, e2]; rfl
      clear hn hb
      go_enter Try.func83, Try.ntmps83
      go_wp2_with (go_at_call 80; refine HA.out.mono ?_; rintro e w1 ⟨rfl, rfl⟩)
      go_ret
      exact ⟨rfl, rfl⟩
    · have e2 : decide (s < 8) = false := decide_eq_false h2
      obtain rfl : b = false := by rw [← hb, hn, e1, e2]; rfl
      clear hn hb
      go_enter Try.func83, Try.ntmps83
      go_wp2_with (go_at_call 80; refine HA.out.mono ?_; rintro e w1 ⟨rfl, rfl⟩)
      go_ret
      exact ⟨rfl, rfl⟩
  · have e1 : decide (0 ≤ s) = false := decide_eq_false h1
    obtain rfl : b = false := by rw [← hb, hn, e1]; rfl
    clear hn hb
    go_enter Try.func83, Try.ntmps83
    go_wp2_with (go_at_call 80; refine HA.out.mono ?_; rintro e w1 ⟨rfl, rfl⟩)
    go_ret
    exact ⟨rfl, rfl⟩
theorem IsR.with {W w : World} {L : List Asrt} {p : Nat} {G : Gr} {N : List NodeD} {vn ve : Value}
    (h : Sat W w (Cs p 50 [vn, ve] :: Tb 32 6 nv vn N :: Tb 85 2 ev ve G.E :: L)) : Sat W w (IsR p (G.withN N) :: L) := IsR.mk (G := G.withN N) h
set_option maxRecDepth 20000 in
theorem rmark_any {W w : World} {L : List Asrt} {p : Nat} {G : Gr} (hS : Sat W w (IsR p G :: L)) (n s : Int) (hm : ∀ x ∈ G.N, x.mark < 256 ∧ x.clear < 256) :
    Calls Try.prog 54 #[.pointer (some ⟨p, 0, none⟩), .int .i64 n, .int .i64 s] w fun e w' => e = .returned (.int .i64 (bitE G n s)) ∧ Sat W w' (IsR p (G.markG n s) :: L) := by
  cases hb : bitOk G n s
  · have HB := Lib.hid (rbit_any hS n s hb)
    unfold bitE Gr.markG
    rw [hb]
    clear hb
    go_enter Try.func54, Try.ntmps54
    go_wp2_with (go_at_call 83; refine HB.out.mono ?_; rintro e w1 ⟨rfl, rfl⟩)
    go_ret
    exact ⟨rfl, hS⟩
  have HB := Lib.hid (fun w L (h : Sat W w (IsR p G :: L)) => rbit_any h n s hb)
  obtain ⟨t, rfl, ht⟩ : ∃ t : Nat, s = t ∧ t < 8 := by
    unfold bitOk at hb
    simp only [Bool.and_eq_true, decide_eq_true_eq] at hb
    exact ⟨s.toNat, by omega, by omega⟩
  obtain ⟨k, rfl, hk⟩ := Gr.is_nat (bitOk_is hb).1
  have HOK := Lib.hid hb
  obtain ⟨⟨x1, x2, x3, x4, x5, x6⟩, hx⟩ : ∃ x, G.N[k]? = some x := ⟨_, List.getElem?_eq_getElem hk⟩
  have HX := Lib.hid hx
  have hm := hm _ (List.mem_of_getElem? hx)
  dsimp only at hm
  have hsh : min (IntKind.u64.wrap (t : Int)).toNat 64 = t := by rw [IntWalk.u64_in _ (by omega)]; omega
  have HBO := Lib.hid (show bits .or .i64 (x4 : Int) (IntKind.i64.wrap (2 ^ min (IntKind.u64.wrap (t : Int)).toNat 64)) = ((x4 ||| 2 ^ t : Nat) : Int) by rw [hsh]; exact or_bit x4 t (by omega) (by omega))
  clear hsh
  have HNI := Lib.hid (Gr.nodeI_at hx)
  have j1 : (k : Int) < (G.N.length : Int) := by omega
  have j2 : (t : Int) < 8 := by omega
  have j3 : t < 8 := ht
  clear hb hm
  obtain ⟨an, cn, ae, ce, hcn, hce, hO⟩ := IsR.open hS
  obtain ⟨b, off, c, hv, hc⟩ := hO.tbAddr (k := 1) rfl (by omega)
  simp only [Value.slice.injEq, true_and] at hv
  obtain ⟨rfl, rfl⟩ := hv
  unfold bitE Gr.markG
  rw [HOK.out, if_pos rfl, if_pos rfl, HNI.out]
  clear hx
  go_enter Try.func54, Try.ntmps54
  clear hS
  have hS := hO
  clear hO
  go_wp2_with (go_at_call 83; refine (HB.out _ _ (IsR.mk hS)).mono ?_; rintro e w1 ⟨rfl, rfl⟩)
  refine regStart [19] hS (by kernel_rfl) rfl ?_
  intro w1 hS1
  clear hS; have hS := hS1; clear hS1
  (refine regP 0 hS (fun _ h => h) rfl (by kernel_rfl) (by kernel_rfl) (by kernel_rfl) (fun _ _ _ _ h => h) (by rfl) (by rfl) ?_; apply Exists.intro; apply And.intro; (intro w; go_simp; try with_reducible rfl); (simp only [Act.put, List.setIfInBounds_toArray, List.set_cons_zero, List.set_cons_succ]))
  (refine regP 1 hS (fun _ h => h) rfl (by kernel_rfl) (by kernel_rfl) (by kernel_rfl) (fun _ _ _ _ h => h) (by rfl) (by rfl) ?_; apply Exists.intro; apply And.intro; (intro w; go_simp; try with_reducible rfl); (simp only [Act.put, List.setIfInBounds_toArray, List.set_cons_zero, List.set_cons_succ]))
  (refine regP 2 hS (fun _ h => h) rfl (by kernel_rfl) (by kernel_rfl) (by kernel_rfl) (fun _ _ _ _ h => h) (by rfl) (by rfl) ?_; apply Exists.intro; apply And.intro; (intro w; go_simp; try with_reducible rfl); (simp only [Act.put, List.setIfInBounds_toArray, List.set_cons_zero, List.set_cons_succ]))
  (refine regR 3 hS (fun _ h => h) rfl (by kernel_rfl) (by kernel_rfl) (by kernel_rfl) (by kernel_rfl) (by kernel_rfl) (fun _ _ _ _ h => h) (by rfl) (by rfl) ?_; (first
        | refine ⟨_, yLd _ _ (by rfl) _ _ (by rfl) (agOf (by rfl)) (by first | exact Has.z | exact Has.s Has.z | exact Has.s (Has.s Has.z) | exact Has.s (Has.s (Has.s Has.z)) | exact Has.s (Has.s (Has.s (Has.s Has.z))) | exact Has.s (Has.s (Has.s (Has.s (Has.s Has.z))))) (by rfl), ?_⟩
        | refine ⟨_, yLdTb _ _ (by rfl) _ _ (by rfl) (agOf (by rfl)) (Has.s Has.z) k 3 (by omega) HX.out (by rfl), ?_⟩); (simp only [Act.put, List.setIfInBounds_toArray, List.set_cons_zero, List.set_cons_succ]))
  (refine regP 4 hS (fun _ h => h) rfl (by kernel_rfl) (by kernel_rfl) (by kernel_rfl) (fun _ _ _ _ h => h) (by rfl) (by rfl) ?_; apply Exists.intro; apply And.intro; (intro w; go_simp; try with_reducible rfl); (simp only [Act.put, List.setIfInBounds_toArray, List.set_cons_zero, List.set_cons_succ]))
  (refine regP 5 hS (fun _ h => h) rfl (by kernel_rfl) (by kernel_rfl) (by kernel_rfl) (fun _ _ _ _ h => h) (by rfl) (by rfl) ?_; apply Exists.intro; apply And.intro; (intro w; go_simp; try with_reducible rfl); (simp only [Act.put, List.setIfInBounds_toArray, List.set_cons_zero, List.set_cons_succ]))
  (refine regP 6 hS (fun _ h => h) rfl (by kernel_rfl) (by kernel_rfl) (by kernel_rfl) (fun _ _ _ _ h => h) (by rfl) (by rfl) ?_; apply Exists.intro; apply And.intro; (intro w; go_simp; try with_reducible rfl); (simp only [Act.put, List.setIfInBounds_toArray, List.set_cons_zero, List.set_cons_succ]))
  (refine regP 7 hS (fun _ h => h) rfl (by kernel_rfl) (by kernel_rfl) (by kernel_rfl) (fun _ _ _ _ h => h) (by rfl) (by rfl) ?_; apply Exists.intro; apply And.intro; (intro w; go_simp; try with_reducible rfl); (simp only [Act.put, List.setIfInBounds_toArray, List.set_cons_zero, List.set_cons_succ]))
  (refine regR 8 hS (fun _ h => h) rfl (by kernel_rfl) (by kernel_rfl) (by kernel_rfl) (by kernel_rfl) (by kernel_rfl) (fun _ _ _ _ h => h) (by rfl) (by rfl) ?_; (first
        | refine ⟨_, yLd _ _ (by rfl) _ _ (by rfl) (agOf (by rfl)) (by first | exact Has.z | exact Has.s Has.z | exact Has.s (Has.s Has.z) | exact Has.s (Has.s (Has.s Has.z)) | exact Has.s (Has.s (Has.s (Has.s Has.z))) | exact Has.s (Has.s (Has.s (Has.s (Has.s Has.z))))) (by rfl), ?_⟩
        | refine ⟨_, yLdTb _ _ (by rfl) _ _ (by rfl) (agOf (by rfl)) (Has.s Has.z) k 3 (by omega) HX.out (by rfl), ?_⟩); (simp only [Act.put, List.setIfInBounds_toArray, List.set_cons_zero, List.set_cons_succ]))
  (refine regP 9 hS (fun _ h => h) rfl (by kernel_rfl) (by kernel_rfl) (by kernel_rfl) (fun _ _ _ _ h => h) (by rfl) (by rfl) ?_; apply Exists.intro; apply And.intro; (intro w; go_simp; try with_reducible rfl); (simp only [Act.put, List.setIfInBounds_toArray, List.set_cons_zero, List.set_cons_succ]))
  (refine regP 10 hS (fun _ h => h) rfl (by kernel_rfl) (by kernel_rfl) (by kernel_rfl) (fun _ _ _ _ h => h) (by rfl) (by rfl) ?_; apply Exists.intro; apply And.intro; (intro w; go_simp; try with_reducible rfl); (simp only [Act.put, List.setIfInBounds_toArray, List.set_cons_zero, List.set_cons_succ]))
  (refine regP 11 hS (fun _ h => h) rfl (by kernel_rfl) (by kernel_rfl) (by kernel_rfl) (fun _ _ _ _ h => h) (by rfl) (by rfl) ?_; apply Exists.intro; apply And.intro; (intro w; go_simp; try with_reducible rfl); (simp only [Act.put, List.setIfInBounds_toArray, List.set_cons_zero, List.set_cons_succ]))
  (refine regR 12 hS (fun _ h => h) rfl (by kernel_rfl) (by kernel_rfl) (by kernel_rfl) (by kernel_rfl) (by kernel_rfl) (fun _ _ _ _ h => h) (by rfl) (by rfl) ?_; (first
        | refine ⟨_, yLd _ _ (by rfl) _ _ (by rfl) (agOf (by rfl)) (by first | exact Has.z | exact Has.s Has.z | exact Has.s (Has.s Has.z) | exact Has.s (Has.s (Has.s Has.z)) | exact Has.s (Has.s (Has.s (Has.s Has.z))) | exact Has.s (Has.s (Has.s (Has.s (Has.s Has.z))))) (by rfl), ?_⟩
        | refine ⟨_, yLdTb _ _ (by rfl) _ _ (by rfl) (agOf (by rfl)) (Has.s Has.z) k 3 (by omega) HX.out (by rfl), ?_⟩); (simp only [Act.put, List.setIfInBounds_toArray, List.set_cons_zero, List.set_cons_succ]))
  (refine regP 13 hS (fun _ h => h) rfl (by kernel_rfl) (by kernel_rfl) (by kernel_rfl) (fun _ _ _ _ h => h) (by rfl) (by rfl) ?_; apply Exists.intro; apply And.intro; (intro w; go_simp; try with_reducible rfl); (simp only [Act.put, List.setIfInBounds_toArray, List.set_cons_zero, List.set_cons_succ]))
  (refine regP 14 hS (fun _ h => h) rfl (by kernel_rfl) (by kernel_rfl) (by kernel_rfl) (fun _ _ _ _ h => h) (by rfl) (by rfl) ?_; apply Exists.intro; apply And.intro; (intro w; go_simp; try with_reducible rfl); (simp only [Act.put, List.setIfInBounds_toArray, List.set_cons_zero, List.set_cons_succ]))
  (refine regP 15 hS (fun _ h => h) rfl (by kernel_rfl) (by kernel_rfl) (by kernel_rfl) (fun _ _ _ _ h => h) (by rfl) (by rfl) ?_; apply Exists.intro; apply And.intro; (intro w; go_simp; try with_reducible rfl); (simp only [Act.put, List.setIfInBounds_toArray, List.set_cons_zero, List.set_cons_succ]))
  (refine regP 16 hS (fun _ h => h) rfl (by kernel_rfl) (by kernel_rfl) (by kernel_rfl) (fun _ _ _ _ h => h) (by rfl) (by rfl) ?_; apply Exists.intro; apply And.intro; (intro w; go_simp; try with_reducible rfl); (simp only [Act.put, List.setIfInBounds_toArray, List.set_cons_zero, List.set_cons_succ]))
  (refine regP 17 hS (fun _ h => h) rfl (by kernel_rfl) (by kernel_rfl) (by kernel_rfl) (fun _ _ _ _ h => h) (by rfl) (by rfl) ?_; apply Exists.intro; apply And.intro; (intro w; go_simp; try with_reducible rfl); (simp only [Act.put, List.setIfInBounds_toArray, List.set_cons_zero, List.set_cons_succ]))
  (refine regP 18 hS (fun _ h => h) rfl (by kernel_rfl) (by kernel_rfl) (by kernel_rfl) (fun _ _ _ _ h => h) (by rfl) (by rfl) ?_; apply Exists.intro; apply And.intro; (intro w; go_simp; try with_reducible rfl); (simp only [Act.put, List.setIfInBounds_toArray, List.set_cons_zero, List.set_cons_succ]))
  (refine regA 19 rfl (by kernel_rfl) (by rfl) (by rfl) true (by kernel_rfl) (fun K hK => ?_); (refine stTbF hS _ _ _ (by rfl) _ _ (by rfl) (.int .i64 ((x4 ||| 2 ^ t : Nat) : Int)) (by rw [← HBO.out]; rfl) (by rfl) (szOf (by rfl)) (Has.s Has.z) rfl k 3 (by omega) HX.out ⟨x1, x2, x3, x4 ||| 2 ^ t, x5, x6⟩ (by rfl) (by decide) ?_; intro w1 hS1; clear hS; have hS := hS1; clear hS1; dsimp only [List.set_cons_zero, List.set_cons_succ] at hS); refine hK _ _ _ hS (by first | (intro h; cases h; done) | exact fun _ _ h => h | exact fun _ _ h => h.drop | exact fun _ _ h => h.drop.drop | exact fun _ _ h => h.drop.pull1 | exact fun _ _ h => h.take2 | exact fun _ _ h => h.one Has.z | exact fun _ _ h => h.one (Has.s Has.z) | exact fun _ _ h => h.one (Has.s (Has.s Has.z))) ?_; clear hK K; (simp only [Act.put, List.setIfInBounds_toArray, List.set_cons_zero, List.set_cons_succ]))
  refine regDone (by kernel_rfl) ?_
  go_wp2
  go_ret
  exact ⟨rfl, IsR.with (by simpa using hS)⟩
set_option maxRecDepth 20000 in
theorem rclear_any {W w : World} {L : List Asrt} {p : Nat} {G : Gr} (hS : Sat W w (IsR p G :: L)) (n s : Int) (hm : ∀ x ∈ G.N, x.mark < 256 ∧ x.clear < 256) :
    Calls Try.prog 55 #[.pointer (some ⟨p, 0, none⟩), .int .i64 n, .int .i64 s] w fun e w' => e = .returned (.int .i64 (bitE G n s)) ∧ Sat W w' (IsR p (G.clearG n s) :: L) := by
  cases hb : bitOk G n s
  · have HB := Lib.hid (rbit_any hS n s hb)
    unfold bitE Gr.clearG
    rw [hb]
    clear hb
    go_enter Try.func55, Try.ntmps55
    go_wp2_with (go_at_call 83; refine HB.out.mono ?_; rintro e w1 ⟨rfl, rfl⟩)
    go_ret
    exact ⟨rfl, hS⟩
  have HB := Lib.hid (fun w L (h : Sat W w (IsR p G :: L)) => rbit_any h n s hb)
  obtain ⟨t, rfl, ht⟩ : ∃ t : Nat, s = t ∧ t < 8 := by
    unfold bitOk at hb
    simp only [Bool.and_eq_true, decide_eq_true_eq] at hb
    exact ⟨s.toNat, by omega, by omega⟩
  obtain ⟨k, rfl, hk⟩ := Gr.is_nat (bitOk_is hb).1
  have HOK := Lib.hid hb
  obtain ⟨⟨x1, x2, x3, x4, x5, x6⟩, hx⟩ : ∃ x, G.N[k]? = some x := ⟨_, List.getElem?_eq_getElem hk⟩
  have HX := Lib.hid hx
  have hm := hm _ (List.mem_of_getElem? hx)
  dsimp only at hm
  have hsh : min (IntKind.u64.wrap (t : Int)).toNat 64 = t := by rw [IntWalk.u64_in _ (by omega)]; omega
  have HBO := Lib.hid (show bits .or .i64 (x5 : Int) (IntKind.i64.wrap (2 ^ min (IntKind.u64.wrap (t : Int)).toNat 64)) = ((x5 ||| 2 ^ t : Nat) : Int) by rw [hsh]; exact or_bit x5 t (by omega) (by omega))
  clear hsh
  have HNI := Lib.hid (Gr.nodeI_at hx)
  have j1 : (k : Int) < (G.N.length : Int) := by omega
  have j2 : (t : Int) < 8 := by omega
  have j3 : t < 8 := ht
  clear hb hm
  obtain ⟨an, cn, ae, ce, hcn, hce, hO⟩ := IsR.open hS
  obtain ⟨b, off, c, hv, hc⟩ := hO.tbAddr (k := 1) rfl (by omega)
  simp only [Value.slice.injEq, true_and] at hv
  obtain ⟨rfl, rfl⟩ := hv
  unfold bitE Gr.clearG
  rw [HOK.out, if_pos rfl, if_pos rfl, HNI.out]
  clear hx
  go_enter Try.func55, Try.ntmps55
  clear hS
  have hS := hO
  clear hO
  go_wp2_with (go_at_call 83; refine (HB.out _ _ (IsR.mk hS)).mono ?_; rintro e w1 ⟨rfl, rfl⟩)
  refine regStart [19] hS (by kernel_rfl) rfl ?_
  intro w1 hS1
  clear hS; have hS := hS1; clear hS1
  (refine regP 0 hS (fun _ h => h) rfl (by kernel_rfl) (by kernel_rfl) (by kernel_rfl) (fun _ _ _ _ h => h) (by rfl) (by rfl) ?_; apply Exists.intro; apply And.intro; (intro w; go_simp; try with_reducible rfl); (simp only [Act.put, List.setIfInBounds_toArray, List.set_cons_zero, List.set_cons_succ]))
  (refine regP 1 hS (fun _ h => h) rfl (by kernel_rfl) (by kernel_rfl) (by kernel_rfl) (fun _ _ _ _ h => h) (by rfl) (by rfl) ?_; apply Exists.intro; apply And.intro; (intro w; go_simp; try with_reducible rfl); (simp only [Act.put, List.setIfInBounds_toArray, List.set_cons_zero, List.set_cons_succ]))
  (refine regP 2 hS (fun _ h => h) rfl (by kernel_rfl) (by kernel_rfl) (by kernel_rfl) (fun _ _ _ _ h => h) (by rfl) (by rfl) ?_; apply Exists.intro; apply And.intro; (intro w; go_simp; try with_reducible rfl); (simp only [Act.put, List.setIfInBounds_toArray, List.set_cons_zero, List.set_cons_succ]))
  (refine regR 3 hS (fun _ h => h) rfl (by kernel_rfl) (by kernel_rfl) (by kernel_rfl) (by kernel_rfl) (by kernel_rfl) (fun _ _ _ _ h => h) (by rfl) (by rfl) ?_; (first
        | refine ⟨_, yLd _ _ (by rfl) _ _ (by rfl) (agOf (by rfl)) (by first | exact Has.z | exact Has.s Has.z | exact Has.s (Has.s Has.z) | exact Has.s (Has.s (Has.s Has.z)) | exact Has.s (Has.s (Has.s (Has.s Has.z))) | exact Has.s (Has.s (Has.s (Has.s (Has.s Has.z))))) (by rfl), ?_⟩
        | refine ⟨_, yLdTb _ _ (by rfl) _ _ (by rfl) (agOf (by rfl)) (Has.s Has.z) k 4 (by omega) HX.out (by rfl), ?_⟩); (simp only [Act.put, List.setIfInBounds_toArray, List.set_cons_zero, List.set_cons_succ]))
  (refine regP 4 hS (fun _ h => h) rfl (by kernel_rfl) (by kernel_rfl) (by kernel_rfl) (fun _ _ _ _ h => h) (by rfl) (by rfl) ?_; apply Exists.intro; apply And.intro; (intro w; go_simp; try with_reducible rfl); (simp only [Act.put, List.setIfInBounds_toArray, List.set_cons_zero, List.set_cons_succ]))
  (refine regP 5 hS (fun _ h => h) rfl (by kernel_rfl) (by kernel_rfl) (by kernel_rfl) (fun _ _ _ _ h => h) (by rfl) (by rfl) ?_; apply Exists.intro; apply And.intro; (intro w; go_simp; try with_reducible rfl); (simp only [Act.put, List.setIfInBounds_toArray, List.set_cons_zero, List.set_cons_succ]))
  (refine regP 6 hS (fun _ h => h) rfl (by kernel_rfl) (by kernel_rfl) (by kernel_rfl) (fun _ _ _ _ h => h) (by rfl) (by rfl) ?_; apply Exists.intro; apply And.intro; (intro w; go_simp; try with_reducible rfl); (simp only [Act.put, List.setIfInBounds_toArray, List.set_cons_zero, List.set_cons_succ]))
  (refine regP 7 hS (fun _ h => h) rfl (by kernel_rfl) (by kernel_rfl) (by kernel_rfl) (fun _ _ _ _ h => h) (by rfl) (by rfl) ?_; apply Exists.intro; apply And.intro; (intro w; go_simp; try with_reducible rfl); (simp only [Act.put, List.setIfInBounds_toArray, List.set_cons_zero, List.set_cons_succ]))
  (refine regR 8 hS (fun _ h => h) rfl (by kernel_rfl) (by kernel_rfl) (by kernel_rfl) (by kernel_rfl) (by kernel_rfl) (fun _ _ _ _ h => h) (by rfl) (by rfl) ?_; (first
        | refine ⟨_, yLd _ _ (by rfl) _ _ (by rfl) (agOf (by rfl)) (by first | exact Has.z | exact Has.s Has.z | exact Has.s (Has.s Has.z) | exact Has.s (Has.s (Has.s Has.z)) | exact Has.s (Has.s (Has.s (Has.s Has.z))) | exact Has.s (Has.s (Has.s (Has.s (Has.s Has.z))))) (by rfl), ?_⟩
        | refine ⟨_, yLdTb _ _ (by rfl) _ _ (by rfl) (agOf (by rfl)) (Has.s Has.z) k 4 (by omega) HX.out (by rfl), ?_⟩); (simp only [Act.put, List.setIfInBounds_toArray, List.set_cons_zero, List.set_cons_succ]))
  (refine regP 9 hS (fun _ h => h) rfl (by kernel_rfl) (by kernel_rfl) (by kernel_rfl) (fun _ _ _ _ h => h) (by rfl) (by rfl) ?_; apply Exists.intro; apply And.intro; (intro w; go_simp; try with_reducible rfl); (simp only [Act.put, List.setIfInBounds_toArray, List.set_cons_zero, List.set_cons_succ]))
  (refine regP 10 hS (fun _ h => h) rfl (by kernel_rfl) (by kernel_rfl) (by kernel_rfl) (fun _ _ _ _ h => h) (by rfl) (by rfl) ?_; apply Exists.intro; apply And.intro; (intro w; go_simp; try with_reducible rfl); (simp only [Act.put, List.setIfInBounds_toArray, List.set_cons_zero, List.set_cons_succ]))
  (refine regP 11 hS (fun _ h => h) rfl (by kernel_rfl) (by kernel_rfl) (by kernel_rfl) (fun _ _ _ _ h => h) (by rfl) (by rfl) ?_; apply Exists.intro; apply And.intro; (intro w; go_simp; try with_reducible rfl); (simp only [Act.put, List.setIfInBounds_toArray, List.set_cons_zero, List.set_cons_succ]))
  (refine regR 12 hS (fun _ h => h) rfl (by kernel_rfl) (by kernel_rfl) (by kernel_rfl) (by kernel_rfl) (by kernel_rfl) (fun _ _ _ _ h => h) (by rfl) (by rfl) ?_; (first
        | refine ⟨_, yLd _ _ (by rfl) _ _ (by rfl) (agOf (by rfl)) (by first | exact Has.z | exact Has.s Has.z | exact Has.s (Has.s Has.z) | exact Has.s (Has.s (Has.s Has.z)) | exact Has.s (Has.s (Has.s (Has.s Has.z))) | exact Has.s (Has.s (Has.s (Has.s (Has.s Has.z))))) (by rfl), ?_⟩
        | refine ⟨_, yLdTb _ _ (by rfl) _ _ (by rfl) (agOf (by rfl)) (Has.s Has.z) k 4 (by omega) HX.out (by rfl), ?_⟩); (simp only [Act.put, List.setIfInBounds_toArray, List.set_cons_zero, List.set_cons_succ]))
  (refine regP 13 hS (fun _ h => h) rfl (by kernel_rfl) (by kernel_rfl) (by kernel_rfl) (fun _ _ _ _ h => h) (by rfl) (by rfl) ?_; apply Exists.intro; apply And.intro; (intro w; go_simp; try with_reducible rfl); (simp only [Act.put, List.setIfInBounds_toArray, List.set_cons_zero, List.set_cons_succ]))
  (refine regP 14 hS (fun _ h => h) rfl (by kernel_rfl) (by kernel_rfl) (by kernel_rfl) (fun _ _ _ _ h => h) (by rfl) (by rfl) ?_; apply Exists.intro; apply And.intro; (intro w; go_simp; try with_reducible rfl); (simp only [Act.put, List.setIfInBounds_toArray, List.set_cons_zero, List.set_cons_succ]))
  (refine regP 15 hS (fun _ h => h) rfl (by kernel_rfl) (by kernel_rfl) (by kernel_rfl) (fun _ _ _ _ h => h) (by rfl) (by rfl) ?_; apply Exists.intro; apply And.intro; (intro w; go_simp; try with_reducible rfl); (simp only [Act.put, List.setIfInBounds_toArray, List.set_cons_zero, List.set_cons_succ]))
  (refine regP 16 hS (fun _ h => h) rfl (by kernel_rfl) (by kernel_rfl) (by kernel_rfl) (fun _ _ _ _ h => h) (by rfl) (by rfl) ?_; apply Exists.intro; apply And.intro; (intro w; go_simp; try with_reducible rfl); (simp only [Act.put, List.setIfInBounds_toArray, List.set_cons_zero, List.set_cons_succ]))
  (refine regP 17 hS (fun _ h => h) rfl (by kernel_rfl) (by kernel_rfl) (by kernel_rfl) (fun _ _ _ _ h => h) (by rfl) (by rfl) ?_; apply Exists.intro; apply And.intro; (intro w; go_simp; try with_reducible rfl); (simp only [Act.put, List.setIfInBounds_toArray, List.set_cons_zero, List.set_cons_succ]))
  (refine regP 18 hS (fun _ h => h) rfl (by kernel_rfl) (by kernel_rfl) (by kernel_rfl) (fun _ _ _ _ h => h) (by rfl) (by rfl) ?_; apply Exists.intro; apply And.intro; (intro w; go_simp; try with_reducible rfl); (simp only [Act.put, List.setIfInBounds_toArray, List.set_cons_zero, List.set_cons_succ]))
  (refine regA 19 rfl (by kernel_rfl) (by rfl) (by rfl) true (by kernel_rfl) (fun K hK => ?_); (refine stTbF hS _ _ _ (by rfl) _ _ (by rfl) (.int .i64 ((x5 ||| 2 ^ t : Nat) : Int)) (by rw [← HBO.out]; rfl) (by rfl) (szOf (by rfl)) (Has.s Has.z) rfl k 4 (by omega) HX.out ⟨x1, x2, x3, x4, x5 ||| 2 ^ t, x6⟩ (by rfl) (by decide) ?_; intro w1 hS1; clear hS; have hS := hS1; clear hS1; dsimp only [List.set_cons_zero, List.set_cons_succ] at hS); refine hK _ _ _ hS (by first | (intro h; cases h; done) | exact fun _ _ h => h | exact fun _ _ h => h.drop | exact fun _ _ h => h.drop.drop | exact fun _ _ h => h.drop.pull1 | exact fun _ _ h => h.take2 | exact fun _ _ h => h.one Has.z | exact fun _ _ h => h.one (Has.s Has.z) | exact fun _ _ h => h.one (Has.s (Has.s Has.z))) ?_; clear hK K; (simp only [Act.put, List.setIfInBounds_toArray, List.set_cons_zero, List.set_cons_succ]))
  refine regDone (by kernel_rfl) ?_
  go_wp2
  go_ret
  exact ⟨rfl, IsR.with (by simpa using hS)⟩
set_option maxRecDepth 20000 in
set_option maxHeartbeats 1000000 in
theorem rlost_any {W w : World} {L : List Asrt} {p : Nat} {G : Gr} (hS : Sat W w (IsR p G :: L)) (a b : Int) (hG : G.N.length ≤ 1000000) :
    Calls Try.prog 56 #[.pointer (some ⟨p, 0, none⟩), .int .i64 a, .int .i64 b] w fun e w' => e = .returned (.int .i64 (lostE G a b)) ∧ Sat W w' (IsR p (G.lostG a b) :: L) := by
  by_cases h1 : a < 0
  · have HF := Lib.hid (show lostOk G a b = false by unfold lostOk; rw [decide_eq_false (by omega : ¬ 0 ≤ a)]; rfl)
    unfold lostE Gr.lostG
    rw [HF.out]
    go_enter Try.func56, Try.ntmps56
    go_wp2
    go_ret
    exact ⟨rfl, hS⟩
  have e1 : decide (a < 0) = false := decide_eq_false h1
  by_cases h2 : b < a
  · have HF := Lib.hid (show lostOk G a b = false by unfold lostOk; rw [decide_eq_false (by omega : ¬ a ≤ b)]; simp)
    unfold lostE Gr.lostG
    rw [HF.out]
    go_enter Try.func56, Try.ntmps56
    go_wp2
    go_ret
    exact ⟨rfl, hS⟩
  have e2 : decide (b < a) = false := decide_eq_false h2
  obtain ⟨an, cn, ae, ce, hcn, hce, hO⟩ := IsR.open hS
  by_cases h3 : (G.N.length : Int) < b
  · have HF := Lib.hid (show lostOk G a b = false by unfold lostOk; rw [decide_eq_false (by omega : ¬ b ≤ (G.N.length : Int))]; simp)
    unfold lostE Gr.lostG
    rw [HF.out]
    go_enter Try.func56, Try.ntmps56
    go_wp2_with (refine toList (by rfl) ?_; refine ld hO _ _ (by rfl) _ _ (by rfl) (agOf (by rfl)) Has.z (by rfl) ?_)
    go_ret
    exact ⟨rfl, hS⟩
  have HF := Lib.hid (show lostOk G a b = true by unfold lostOk; simp; omega)
  have e3 : decide ((G.N.length : Int) < b) = false := decide_eq_false h3
  unfold lostE Gr.lostG
  rw [HF.out, if_pos rfl, if_pos rfl]
  obtain ⟨i, rfl⟩ := Int.eq_ofNat_of_zero_le (show 0 ≤ a by omega)
  obtain ⟨j, rfl⟩ := Int.eq_ofNat_of_zero_le (show 0 ≤ b by omega)
  have hij : i ≤ j := by omega
  have hjl : j ≤ G.N.length := by omega
  have hji : (j : Int) ≤ 1000000 := by omega
  have e4 : decide (j < i) = false := decide_eq_false (by omega)
  have e5 : decide (G.N.length < j) = false := decide_eq_false (by omega)
  clear h1 h2 h3 HF
  have H0 := Lib.hid (show Sat W w (Cs p 50 [.slice an G.N.length cn, .slice ae G.E.length ce] :: Tb 32 6 nv (.slice an G.N.length cn) (orphN G.N i i) :: Tb 85 2 ev (.slice ae G.E.length ce) G.E :: L) by rw [orphN_none]; exact hO)
  go_enter Try.func56, Try.ntmps56
  go_wp2_with (refine toList (by rfl) ?_; refine ld hO _ _ (by rfl) _ _ (by rfl) (agOf (by rfl)) Has.z (by rfl) ?_)
  clear hS hO
  go_loopw [7] (fun vi wz => ∃ k : Nat, i ≤ k ∧ k ≤ j ∧ vi = .int .i64 k ∧ Sat W wz (Cs p 50 [.slice an G.N.length cn, .slice ae G.E.length ce] :: Tb 32 6 nv (.slice an G.N.length cn) (orphN G.N i k) :: Tb 85 2 ev (.slice ae G.E.length ce) G.E :: L)) (fun vi _ => j - (intOf vi).toNat)
  case atStart => exact ⟨i, Nat.le_refl _, hij, rfl, H0.out⟩
  case round =>
    clear H0
    obtain ⟨k, hik, hkj, rfl, hS⟩ := hrel
    by_cases hlt : k < j
    · have j1 : (k : Int) < (j : Int) := by omega
      have j2 : (k : Int) < (G.N.length : Int) := by omega
      obtain ⟨⟨x1, x2, x3, x4, x5, x6⟩, hx⟩ : ∃ x, (orphN G.N i k)[k]? = some x := ⟨_, List.getElem?_eq_getElem (by rw [orphN_len]; omega)⟩
      have HX := Lib.hid hx
      have HST := Lib.hid (orphN_step hx hik)
      obtain ⟨bb, off, c, he, _⟩ := hS.tbAddr (k := 1) rfl (by rw [orphN_len]; omega)
      simp only [Value.slice.injEq] at he
      obtain ⟨rfl, hjunk, rfl⟩ := he
      clear hjunk
      have HLN := Lib.hid (orphN_len G.N i k)
      clear hx
      go_wp2_with (first
        | (refine toList (by rfl) ?_; refine ld hS _ _ (by rfl) _ _ (by rfl) (agOf (by rfl)) (by first | exact Has.z | exact Has.s Has.z | exact Has.s (Has.s Has.z) | exact Has.s (Has.s (Has.s Has.z)) | exact Has.s (Has.s (Has.s (Has.s Has.z))) | exact Has.s (Has.s (Has.s (Has.s (Has.s Has.z))))) (by rfl) ?_)
        | (refine toList (by rfl) ?_; refine stTbF hS _ _ _ (by rfl) _ _ (by rfl) (.bool true) (by rfl) (by rfl) (szOf (by rfl)) (Has.s Has.z) HLN.out k 5 (by omega) HX.out ⟨x1, x2, x3, x4, x5, true⟩ (by rfl) (by decide) ?_; intro w1 hS1; clear hS; have hS := hS1; clear hS1; dsimp only [List.set_cons_zero, List.set_cons_succ] at hS; rw [HST.out] at hS))
      exact ⟨⟨k + 1, by omega, by omega, by go_num, hS⟩, by simp [intOf]; omega⟩
    · obtain rfl : k = j := by omega
      go_wp2
      go_ret
      refine ⟨rfl, IsR.with (vn := .slice an G.N.length cn) (ve := .slice ae G.E.length ce) ?_⟩
      simp only [Int.toNat_natCast]
      exact hS
theorem latest_take {G : Gr} {k o : Int} {j : Nat} {x : NodeD} (hx : G.N[j]? = some x) : Gr.lastOf k o (G.N.take (j + 1)) 0 = if Gr.same k o x then some j else Gr.lastOf k o (G.N.take j) 0 := by
  rw [List.take_add_one, hx]
  show Gr.lastOf k o (G.N.take j ++ [x]) 0 = _
  rw [lastOf_snoc, List.length_take, Nat.min_eq_left (by have := (List.getElem?_eq_some_iff.1 hx).1; omega), Nat.zero_add]
def filR (R : Nat → Bool) (i : Nat) : List Nat := (List.range i).filter R
theorem filR_yes {R : Nat → Bool} {i : Nat} (h : R i = true) : filR R i ++ [i] = filR R (i + 1) := by
  unfold filR
  rw [List.range_succ, List.filter_append, List.filter_cons_of_pos h]; rfl
theorem filR_no {R : Nat → Bool} {i : Nat} (h : R i = false) : filR R i = filR R (i + 1) := by
  unfold filR
  rw [List.range_succ, List.filter_append, List.filter_cons_of_neg (by simp [h])]; simp
theorem filR_len (R : Nat → Bool) (i : Nat) : (filR R i).length ≤ i := by
  have := List.length_filter_le R (List.range i)
  simpa [filR] using this
theorem filR_above (G : Gr) (n : Int) : filR (G.rB n) G.N.length = G.aboveI n := by
  unfold filR Gr.aboveI
  cases h : G.is n with
  | false =>
    rw [Gr.rB_no h, if_neg (by decide)]
    exact List.filter_eq_nil_iff.2 fun x _ => by simp
  | true =>
    obtain ⟨k, rfl, hk⟩ := Gr.is_nat h
    rw [if_pos rfl]
    unfold Gr.above
    refine List.filter_congr fun x _ => ?_
    rw [Bool.eq_iff_iff, Gr.rB_nat hk]; simp
end Go.Proofs.Ytapodjhkpahdnaa
