/-
  pedigreeref21.GetSuper; SameRecords; the equality of structs of integers.
-/
import Derived.Test.YtcabgeljdgcdlaaRecGetSuper
namespace Go.Proofs.Ytcabgeljdgcdlaa
open Go.RowKit Go.Sep
set_option linter.unusedSimpArgs false
set_option linter.unusedVariables false
attribute [local irreducible] Go.Oper.wp Go.wpList Go.Calls Go.Code.wp Go.Sep.Reg
set_option maxRecDepth 20000 in
set_option maxHeartbeats 2000000 in
theorem ref_sget_any {W w : World} {L : List Asrt} (hS : Sat W w L) (b : List UInt8) (ao : Option Addr) (c : Nat) (hr : ∀ w, Sat W w L → Rd w (.slice ao b.length c) b.length 1 (bv b)) (hb : b.length ≤ 140737488355328) :
    Calls Try.prog 49 #[.slice ao b.length c] w fun e w' => e = .returned (.tuple #[.agg (sv (getS b)).toArray, .bool (getSOk b)]) ∧ Sat W w' L := by
  have HR : Hid (∀ w (A B : Asrt), Sat W w (A :: B :: L) → Rd w (.slice ao b.length c) b.length 1 (bv b)) := Lib.hid (fun w A B h => hr w h.drop.drop)
  have HR2 : Hid (∀ w (A B C : Asrt), Sat W w (A :: B :: C :: L) → Rd w (.slice ao b.length c) b.length 1 (bv b)) := Lib.hid (fun w A B C h => HR.out w B C h.drop)
  clear hr
  by_cases hlen : b.length = 128
  · have e8 : ((b.length : Int) != 128) = false := by simp; omega
    have j0 : (b.length : Int) ≤ 128 := by omega
    have j00 : 128 ≤ (b.length : Int) := by omega
    clear hlen
    cases hok : okSup (parseS b)
    · have HGO := Lib.hid (show getSOk b = false by unfold getSOk; rw [hok]; rfl)
      have HPB := Lib.hid (supB_no hok)
      clear hok
      go_enter Try.func49, Try.ntmps49
      go_wp2_with (first
        | (refine toList (by rfl) ?_; refine al (show Sat W _ L from hS) _ (by rfl) (zrOf (by rfl)) ?_; intro p2 w1 hS1; clear hS; have hS := hS1; clear hS1; rw [cells_agg] at hS)
        | (refine toList (by rfl) ?_; refine al hS _ (by rfl) (zrOf (by rfl)) ?_; intro p4 w1 hS1; clear hS; have hS := hS1; clear hS1; rw [cells_agg] at hS)
        | (go_at_call 68; refine (ref_getN_any hS _ _ b (HR.out · _ _) _ 4 2 (by rfl) (by omega) (by omega) hb).mono ?_; rintro e w1 ⟨ok1, rfl, rfl⟩)
        | (go_at_call 68; refine (ref_getN_any hS _ _ b (HR.out · _ _) _ 6 2 (by rfl) (by omega) (by omega) hb).mono ?_; rintro e w1 ⟨ok1, rfl, rfl⟩)
        | (go_at_call 68; refine (ref_getN_any hS _ _ b (HR.out · _ _) _ 8 2 (by rfl) (by omega) (by omega) hb).mono ?_; rintro e w1 ⟨ok1, rfl, rfl⟩)
        | (go_at_call 68; refine (ref_getN_any hS _ _ b (HR.out · _ _) _ 10 3 (by rfl) (by omega) (by omega) hb).mono ?_; rintro e w1 ⟨ok1, rfl, rfl⟩)
        | (go_at_call 68; refine (ref_getN_any hS _ _ b (HR.out · _ _) _ 13 3 (by rfl) (by omega) (by omega) hb).mono ?_; rintro e w1 ⟨ok1, rfl, rfl⟩)
        | (go_at_call 68; refine (ref_getN_any hS _ _ b (HR.out · _ _) _ 16 3 (by rfl) (by omega) (by omega) hb).mono ?_; rintro e w1 ⟨ok1, rfl, rfl⟩)
        | (go_at_call 68; refine (ref_getN_any hS _ _ b (HR.out · _ _) _ 19 3 (by rfl) (by omega) (by omega) hb).mono ?_; rintro e w1 ⟨ok1, rfl, rfl⟩)
        | (refine toList (by rfl) ?_; refine st hS _ _ _ (by rfl) _ _ (by rfl) _ (by first | exact evC | exact evT (by rfl)) (by rfl) (szOf (by rfl)) (by first | exact Has.z | exact Has.s Has.z | exact Has.s (Has.s Has.z) | exact Has.s (Has.s (Has.s Has.z)) | exact Has.s (Has.s (Has.s (Has.s Has.z))) | exact Has.s (Has.s (Has.s (Has.s (Has.s Has.z))))) (by exact Nat.le_of_ble_eq_true rfl) ?_; intro w1 hS1; clear hS; have hS := hS1; clear hS1; dsimp only [List.set] at hS)
        | (refine toList (by rfl) ?_; refine wp_of_reads (rLdA hS _ _ (by rfl) _ _ (by rfl) (agOf (by rfl)) (szOf (by rfl)) Has.z (vs := sv (parseS b)) (by rfl) (by rfl)) ?_)
        | (go_at_call 51; refine (ref_sput_s hS (parseS b)).mono ?_; rintro e w1 ⟨v2, rfl, hS1⟩; rw [HPB.out] at hS1; clear hS; have hS := hS1; clear hS1; obtain ⟨ao2, c2, rfl, _⟩ := hS.slShape (k := 0) rfl; dsimp only [List.length_nil] at hS ⊢)
        | (refine toList (by rfl) ?_; refine stW hS _ _ _ (by rfl) (by rfl) (sv zeroS) (by rfl) (sv_all _) (szOf (by rfl)) Has.z (by rfl) ?_; intro w1 hS1; clear hS; have hS := hS1; clear hS1; dsimp only [List.set_cons_zero, List.set_cons_succ] at hS)
        | (refine toList (by rfl) ?_; refine stW hS _ _ _ (by rfl) (by rfl) (sv zeroS) (by rfl) (sv_all _) (szOf (by rfl)) (Has.s (Has.s Has.z)) (by rfl) ?_; intro w1 hS1; clear hS; have hS := hS1; clear hS1; dsimp only [List.set_cons_zero, List.set_cons_succ] at hS))
      refine bodyPost_cell_tmp hS rfl (by rfl) (agOf (by rfl)) (szOf (by rfl)) (Has.s (Has.s Has.z)) (by rfl) rfl ?_
      rw [getS_no HGO.out, HGO.out]
      exact ⟨rfl, hS.drop.drop.drop⟩
    · have HOK := Lib.hid hok
      have hel := encS_len (parseS b)
      by_cases he : encS (parseS b) = b
      · have HE := Lib.hid he
        have HGO := Lib.hid (show getSOk b = true by unfold getSOk; rw [hok, he]; simp)
        have e10 : ((b.length : Int) == 0) = false := beq_eq_false_iff_ne.2 (by omega)
        clear hok he hel
        go_enter Try.func49, Try.ntmps49
        go_wp2_with (first
          | (refine toList (by rfl) ?_; refine al (show Sat W _ L from hS) _ (by rfl) (zrOf (by rfl)) ?_; intro p2 w1 hS1; clear hS; have hS := hS1; clear hS1; rw [cells_agg] at hS)
          | (refine toList (by rfl) ?_; refine al hS _ (by rfl) (zrOf (by rfl)) ?_; intro p4 w1 hS1; clear hS; have hS := hS1; clear hS1; rw [cells_agg] at hS)
          | (go_at_call 68; refine (ref_getN_any hS _ _ b (HR.out · _ _) _ 4 2 (by rfl) (by omega) (by omega) hb).mono ?_; rintro e w1 ⟨ok1, rfl, rfl⟩)
          | (go_at_call 68; refine (ref_getN_any hS _ _ b (HR.out · _ _) _ 6 2 (by rfl) (by omega) (by omega) hb).mono ?_; rintro e w1 ⟨ok1, rfl, rfl⟩)
          | (go_at_call 68; refine (ref_getN_any hS _ _ b (HR.out · _ _) _ 8 2 (by rfl) (by omega) (by omega) hb).mono ?_; rintro e w1 ⟨ok1, rfl, rfl⟩)
          | (go_at_call 68; refine (ref_getN_any hS _ _ b (HR.out · _ _) _ 10 3 (by rfl) (by omega) (by omega) hb).mono ?_; rintro e w1 ⟨ok1, rfl, rfl⟩)
          | (go_at_call 68; refine (ref_getN_any hS _ _ b (HR.out · _ _) _ 13 3 (by rfl) (by omega) (by omega) hb).mono ?_; rintro e w1 ⟨ok1, rfl, rfl⟩)
          | (go_at_call 68; refine (ref_getN_any hS _ _ b (HR.out · _ _) _ 16 3 (by rfl) (by omega) (by omega) hb).mono ?_; rintro e w1 ⟨ok1, rfl, rfl⟩)
          | (go_at_call 68; refine (ref_getN_any hS _ _ b (HR.out · _ _) _ 19 3 (by rfl) (by omega) (by omega) hb).mono ?_; rintro e w1 ⟨ok1, rfl, rfl⟩)
          | (refine toList (by rfl) ?_; refine st hS _ _ _ (by rfl) _ _ (by rfl) _ (by first | exact evC | exact evT (by rfl)) (by rfl) (szOf (by rfl)) (by first | exact Has.z | exact Has.s Has.z | exact Has.s (Has.s Has.z) | exact Has.s (Has.s (Has.s Has.z)) | exact Has.s (Has.s (Has.s (Has.s Has.z))) | exact Has.s (Has.s (Has.s (Has.s (Has.s Has.z))))) (by exact Nat.le_of_ble_eq_true rfl) ?_; intro w1 hS1; clear hS; have hS := hS1; clear hS1; dsimp only [List.set] at hS)
          | (refine toList (by rfl) ?_; refine wp_of_reads (rLdA hS _ _ (by rfl) _ _ (by rfl) (agOf (by rfl)) (szOf (by rfl)) Has.z (vs := sv (parseS b)) (by rfl) (by rfl)) ?_)
          | (go_at_call 51; refine (ref_sput_s hS (parseS b)).mono ?_; rintro e w1 ⟨v2, rfl, hS1⟩; rw [supB_yes HOK.out, HE.out] at hS1; clear hS; have hS := hS1; clear hS1; obtain ⟨ao2, c2, rfl, _⟩ := hS.slShape (k := 0) rfl)
          | (refine toList (by rfl) ?_; refine wp_of_reads (rLdA hS _ _ (by rfl) _ _ (by rfl) (agOf (by rfl)) (szOf (by rfl)) (Has.s Has.z) (vs := sv (parseS b)) (by rfl) (by rfl)) ?_)
          | (refine toList (by rfl) ?_; refine cvS _ _ _ (by rfl) _ (by rfl) strBytes (l := b) (by first | exact HR2.out _ _ _ _ hS | exact hS.slRd Has.z) ?_)
          | (refine toList (by rfl) ?_; refine stW hS _ _ _ (by rfl) (by rfl) (sv zeroS) (by rfl) (sv_all _) (szOf (by rfl)) Has.z (by rfl) ?_; intro w1 hS1; clear hS; have hS := hS1; clear hS1; dsimp only [List.set_cons_zero, List.set_cons_succ] at hS)
          | (refine toList (by rfl) ?_; refine stW hS _ _ _ (by rfl) (by rfl) (sv (parseS b)) (by rfl) (sv_all _) (szOf (by rfl)) (Has.s (Has.s Has.z)) (by rfl) ?_; intro w1 hS1; clear hS; have hS := hS1; clear hS1; dsimp only [List.set_cons_zero, List.set_cons_succ] at hS))
        refine bodyPost_cell_tmp hS rfl (by rfl) (agOf (by rfl)) (szOf (by rfl)) (Has.s (Has.s Has.z)) (by rfl) rfl ?_
        rw [getS_yes HGO.out, HGO.out]
        exact ⟨rfl, hS.drop.drop.drop⟩
      · have HGO := Lib.hid (show getSOk b = false by unfold getSOk; simp [he])
        have HPB := Lib.hid (show supB (parseS b) = encS (parseS b) from supB_yes hok)
        obtain ⟨d, hd⟩ : ∃ d, encS (parseS b) = d := ⟨_, rfl⟩
        rw [hd] at he HPB hel
        have e9 : (!d == b) = true := by simp [he]
        have hel2 : (d.length : Int) = 128 := by omega
        have e10 : ((d.length : Int) == 0) = false := beq_eq_false_iff_ne.2 (by omega)
        clear hok hd he hel
        go_enter Try.func49, Try.ntmps49
        go_wp2_with (first
          | (refine toList (by rfl) ?_; refine al (show Sat W _ L from hS) _ (by rfl) (zrOf (by rfl)) ?_; intro p2 w1 hS1; clear hS; have hS := hS1; clear hS1; rw [cells_agg] at hS)
          | (refine toList (by rfl) ?_; refine al hS _ (by rfl) (zrOf (by rfl)) ?_; intro p4 w1 hS1; clear hS; have hS := hS1; clear hS1; rw [cells_agg] at hS)
          | (go_at_call 68; refine (ref_getN_any hS _ _ b (HR.out · _ _) _ 4 2 (by rfl) (by omega) (by omega) hb).mono ?_; rintro e w1 ⟨ok1, rfl, rfl⟩)
          | (go_at_call 68; refine (ref_getN_any hS _ _ b (HR.out · _ _) _ 6 2 (by rfl) (by omega) (by omega) hb).mono ?_; rintro e w1 ⟨ok1, rfl, rfl⟩)
          | (go_at_call 68; refine (ref_getN_any hS _ _ b (HR.out · _ _) _ 8 2 (by rfl) (by omega) (by omega) hb).mono ?_; rintro e w1 ⟨ok1, rfl, rfl⟩)
          | (go_at_call 68; refine (ref_getN_any hS _ _ b (HR.out · _ _) _ 10 3 (by rfl) (by omega) (by omega) hb).mono ?_; rintro e w1 ⟨ok1, rfl, rfl⟩)
          | (go_at_call 68; refine (ref_getN_any hS _ _ b (HR.out · _ _) _ 13 3 (by rfl) (by omega) (by omega) hb).mono ?_; rintro e w1 ⟨ok1, rfl, rfl⟩)
          | (go_at_call 68; refine (ref_getN_any hS _ _ b (HR.out · _ _) _ 16 3 (by rfl) (by omega) (by omega) hb).mono ?_; rintro e w1 ⟨ok1, rfl, rfl⟩)
          | (go_at_call 68; refine (ref_getN_any hS _ _ b (HR.out · _ _) _ 19 3 (by rfl) (by omega) (by omega) hb).mono ?_; rintro e w1 ⟨ok1, rfl, rfl⟩)
          | (refine toList (by rfl) ?_; refine st hS _ _ _ (by rfl) _ _ (by rfl) _ (by first | exact evC | exact evT (by rfl)) (by rfl) (szOf (by rfl)) (by first | exact Has.z | exact Has.s Has.z | exact Has.s (Has.s Has.z) | exact Has.s (Has.s (Has.s Has.z)) | exact Has.s (Has.s (Has.s (Has.s Has.z))) | exact Has.s (Has.s (Has.s (Has.s (Has.s Has.z))))) (by exact Nat.le_of_ble_eq_true rfl) ?_; intro w1 hS1; clear hS; have hS := hS1; clear hS1; dsimp only [List.set] at hS)
          | (refine toList (by rfl) ?_; refine wp_of_reads (rLdA hS _ _ (by rfl) _ _ (by rfl) (agOf (by rfl)) (szOf (by rfl)) Has.z (vs := sv (parseS b)) (by rfl) (by rfl)) ?_)
          | (go_at_call 51; refine (ref_sput_s hS (parseS b)).mono ?_; rintro e w1 ⟨v2, rfl, hS1⟩; rw [HPB.out] at hS1; clear hS; have hS := hS1; clear hS1; obtain ⟨ao2, c2, rfl, _⟩ := hS.slShape (k := 0) rfl)
          | (refine toList (by rfl) ?_; refine cvS _ _ _ (by rfl) _ (by rfl) strBytes (l := b) (by exact HR2.out _ _ _ _ hS) ?_)
          | (refine toList (by rfl) ?_; refine cvS _ _ _ (by rfl) _ (by rfl) strBytes (l := d) (by exact hS.slRd Has.z) ?_)
          | (refine toList (by rfl) ?_; refine stW hS _ _ _ (by rfl) (by rfl) (sv zeroS) (by rfl) (sv_all _) (szOf (by rfl)) Has.z (by rfl) ?_; intro w1 hS1; clear hS; have hS := hS1; clear hS1; dsimp only [List.set_cons_zero, List.set_cons_succ] at hS)
          | (refine toList (by rfl) ?_; refine stW hS _ _ _ (by rfl) (by rfl) (sv zeroS) (by rfl) (sv_all _) (szOf (by rfl)) (Has.s (Has.s Has.z)) (by rfl) ?_; intro w1 hS1; clear hS; have hS := hS1; clear hS1; dsimp only [List.set_cons_zero, List.set_cons_succ] at hS))
        refine bodyPost_cell_tmp hS rfl (by rfl) (agOf (by rfl)) (szOf (by rfl)) (Has.s (Has.s Has.z)) (by rfl) rfl ?_
        rw [getS_no HGO.out, HGO.out]
        exact ⟨rfl, hS.drop.drop.drop⟩
  · have HGO := Lib.hid (bool_no (getSOk_len (b := b)) hlen)
    have e9 : ((b.length : Int) != 128) = true := bne_iff_ne.2 (by omega)
    clear hlen
    go_enter Try.func49, Try.ntmps49
    go_wp2_with (first
      | (refine toList (by rfl) ?_; refine al (show Sat W _ L from hS) _ (by rfl) (zrOf (by rfl)) ?_; intro p2 w1 hS1; clear hS; have hS := hS1; clear hS1; rw [cells_agg] at hS)
      | (refine toList (by rfl) ?_; refine stW hS _ _ _ (by rfl) (by rfl) (sv zeroS) (by rfl) (sv_all _) (szOf (by rfl)) Has.z (by rfl) ?_; intro w1 hS1; clear hS; have hS := hS1; clear hS1; dsimp only [List.set_cons_zero, List.set_cons_succ] at hS))
    refine bodyPost_cell_tmp hS rfl (by rfl) (agOf (by rfl)) (szOf (by rfl)) Has.z (by rfl) rfl ?_
    rw [getS_no HGO.out, HGO.out]
    exact ⟨rfl, hS.drop⟩
end Go.Proofs.Ytcabgeljdgcdlaa
