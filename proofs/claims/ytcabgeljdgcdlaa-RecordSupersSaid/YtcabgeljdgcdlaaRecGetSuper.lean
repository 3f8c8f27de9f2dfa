/-
  record.GetSuper.
-/
import Derived.Test.YtcabgeljdgcdlaaRecRefSuper
namespace Go.Proofs.Ytcabgeljdgcdlaa
open Go.RowKit Go.Sep
set_option linter.unusedSimpArgs false
set_option linter.unusedVariables false
attribute [local irreducible] Go.Oper.wp Go.wpList Go.Calls Go.Code.wp Go.Sep.Reg
def parseS (b : List UInt8) : SupD := ⟨(getN b 4 2 : Nat), (getN b 6 2 : Nat), (getN b 8 2 : Nat), (getN b 10 3 : Nat), (getN b 13 3 : Nat), (getN b 16 3 : Nat), (getN b 19 3 : Nat)⟩
def zeroS : SupD := ⟨0, 0, 0, 0, 0, 0, 0⟩
def getSOk (b : List UInt8) : Bool := okSup (parseS b) && decide (encS (parseS b) = b)
def getS (b : List UInt8) : SupD := if getSOk b then parseS b else zeroS
theorem getS_no {b : List UInt8} (h : getSOk b = false) : getS b = zeroS := by simp [getS, h]
theorem getS_yes {b : List UInt8} (h : getSOk b = true) : getS b = parseS b := by simp [getS, h]
theorem getSOk_len {b : List UInt8} (h : getSOk b = true) : b.length = 128 := by
  unfold getSOk at h
  simp only [Bool.and_eq_true, decide_eq_true_eq] at h
  have := encS_len (parseS b)
  rw [h.2] at this
  exact this
def svp (b : List UInt8) (k : Nat) : List Value := (sv (parseS b)).take k ++ (sv zeroS).drop k
theorem sput_s {W w : World} {L : List Asrt} (hS : Sat W w L) (s : SupD) :
    Calls Try.prog 50 #[.agg (sv s).toArray] w fun e w' => ∃ v', e = .returned (.tuple #[v', .bool (okSup s)]) ∧ Sat W w' (Sl 5 1 v' (supB s).length (bv (supB s)) :: L) := by
  cases s; exact sput_any hS _ _ _ _ _ _ _
theorem ref_sput_s {W w : World} {L : List Asrt} (hS : Sat W w L) (s : SupD) :
    Calls Try.prog 51 #[.agg (sv s).toArray] w fun e w' => ∃ v', e = .returned v' ∧ Sat W w' (Sl 5 1 v' (supB s).length (bv (supB s)) :: L) := by
  cases s; exact ref_sput_any hS _ _ _ _ _ _ _
set_option maxRecDepth 20000 in
set_option maxHeartbeats 2000000 in
theorem sget_any {W w : World} {L : List Asrt} (hS : Sat W w L) (b : List UInt8) (ao : Option Addr) (c : Nat) (hr : ∀ w, Sat W w L → Rd w (.slice ao b.length c) b.length 1 (bv b)) (hb : b.length ≤ 140737488355328) :
    Calls Try.prog 48 #[.slice ao b.length c] w fun e w' => e = .returned (.tuple #[.agg (sv (getS b)).toArray, .bool (getSOk b)]) ∧ Sat W w' L := by
  have HR : Hid (∀ w (A B : Asrt), Sat W w (A :: B :: L) → Rd w (.slice ao b.length c) b.length 1 (bv b)) := Lib.hid (fun w A B h => hr w h.drop.drop)
  clear hr
  go_enter Try.func48, Try.ntmps48
  go_wp2_with (first | (refine toList (by rfl) ?_; refine al (show Sat W _ L from hS) _ (by rfl) (zrOf (by rfl)) ?_; intro p2 w1 hS1; clear hS; have hS := hS1; clear hS1; rw [cells_agg] at hS) | (refine toList (by rfl) ?_; refine al hS _ (by rfl) (zrOf (by rfl)) ?_; intro p4 w1 hS1; clear hS; have hS := hS1; clear hS1; rw [cells_agg] at hS))
  have i00 : ∀ w, (Instr.index 113 (.agg #[.pointer (some ⟨p4, 0, none⟩), .pointer (some ⟨p4, 1, none⟩), .pointer (some ⟨p4, 2, none⟩)]) (.int .i64 0)).run Try.prog w = .ok (.pointer (some ⟨p4, 0, none⟩)) w := fun _ => by kernel_rfl
  have i01 : ∀ w, (Instr.index 113 (.agg #[.pointer (some ⟨p4, 0, none⟩), .pointer (some ⟨p4, 1, none⟩), .pointer (some ⟨p4, 2, none⟩)]) (.int .i64 1)).run Try.prog w = .ok (.pointer (some ⟨p4, 1, none⟩)) w := fun _ => by kernel_rfl
  have i02 : ∀ w, (Instr.index 113 (.agg #[.pointer (some ⟨p4, 0, none⟩), .pointer (some ⟨p4, 1, none⟩), .pointer (some ⟨p4, 2, none⟩)]) (.int .i64 2)).run Try.prog w = .ok (.pointer (some ⟨p4, 2, none⟩)) w := fun _ => by kernel_rfl
  have i10 : ∀ w, (Instr.index 114 (.agg #[.pointer (some ⟨p4, 3, none⟩), .pointer (some ⟨p4, 4, none⟩), .pointer (some ⟨p4, 5, none⟩), .pointer (some ⟨p4, 6, none⟩)]) (.int .i64 0)).run Try.prog w = .ok (.pointer (some ⟨p4, 3, none⟩)) w := fun _ => by kernel_rfl
  have i11 : ∀ w, (Instr.index 114 (.agg #[.pointer (some ⟨p4, 3, none⟩), .pointer (some ⟨p4, 4, none⟩), .pointer (some ⟨p4, 5, none⟩), .pointer (some ⟨p4, 6, none⟩)]) (.int .i64 1)).run Try.prog w = .ok (.pointer (some ⟨p4, 4, none⟩)) w := fun _ => by kernel_rfl
  have i12 : ∀ w, (Instr.index 114 (.agg #[.pointer (some ⟨p4, 3, none⟩), .pointer (some ⟨p4, 4, none⟩), .pointer (some ⟨p4, 5, none⟩), .pointer (some ⟨p4, 6, none⟩)]) (.int .i64 2)).run Try.prog w = .ok (.pointer (some ⟨p4, 5, none⟩)) w := fun _ => by kernel_rfl
  have i13 : ∀ w, (Instr.index 114 (.agg #[.pointer (some ⟨p4, 3, none⟩), .pointer (some ⟨p4, 4, none⟩), .pointer (some ⟨p4, 5, none⟩), .pointer (some ⟨p4, 6, none⟩)]) (.int .i64 3)).run Try.prog w = .ok (.pointer (some ⟨p4, 6, none⟩)) w := fun _ => by kernel_rfl
  have H0 : Hid (Sat W _ (Cs p4 80 (svp b 0) :: Cs p2 80 (sv zeroS) :: L)) := Lib.hid hS
  clear hS
  go_loopw [15] (fun vi wz => ∃ k : Nat, k ≤ 3 ∧ vi = .int .i64 k ∧ Sat W wz (Cs p4 80 (svp b k) :: Cs p2 80 (sv zeroS) :: L)) (fun vi _ => 3 - (intOf vi).toNat)
  case atStart => exact ⟨0, by omega, rfl, H0.out⟩
  case round =>
    clear H0
    obtain ⟨k, hk, rfl, hS⟩ := hrel
    rcases (show k = 0 ∨ k = 1 ∨ k = 2 ∨ k = 3 by omega) with rfl | rfl | rfl | rfl
    · go_wp2_with (first
        | (go_at_call 54; refine (getN_any hS _ _ b (HR.out · _ _) _ 4 2 (by rfl) (by omega) (by omega) hb).mono ?_; rintro e w1 ⟨ok1, rfl, rfl⟩)
        | (refine toList (by rfl) ?_; refine st hS _ _ _ (by rfl) _ _ (by rfl) _ (by first | exact evC | exact evT (by rfl)) (by rfl) (szOf (by rfl)) (by first | exact Has.z | exact Has.s Has.z | exact Has.s (Has.s Has.z) | exact Has.s (Has.s (Has.s Has.z)) | exact Has.s (Has.s (Has.s (Has.s Has.z))) | exact Has.s (Has.s (Has.s (Has.s (Has.s Has.z))))) (by exact Nat.le_of_ble_eq_true rfl) ?_; intro w1 hS1; clear hS; have hS := hS1; clear hS1; dsimp only [List.set] at hS))
      exact ⟨⟨1, by omega, rfl, hS⟩, by simp [intOf]⟩
    · go_wp2_with (first
        | (go_at_call 54; refine (getN_any hS _ _ b (HR.out · _ _) _ 6 2 (by rfl) (by omega) (by omega) hb).mono ?_; rintro e w1 ⟨ok1, rfl, rfl⟩)
        | (refine toList (by rfl) ?_; refine st hS _ _ _ (by rfl) _ _ (by rfl) _ (by first | exact evC | exact evT (by rfl)) (by rfl) (szOf (by rfl)) (by first | exact Has.z | exact Has.s Has.z | exact Has.s (Has.s Has.z) | exact Has.s (Has.s (Has.s Has.z)) | exact Has.s (Has.s (Has.s (Has.s Has.z))) | exact Has.s (Has.s (Has.s (Has.s (Has.s Has.z))))) (by exact Nat.le_of_ble_eq_true rfl) ?_; intro w1 hS1; clear hS; have hS := hS1; clear hS1; dsimp only [List.set] at hS))
      exact ⟨⟨2, by omega, rfl, hS⟩, by simp [intOf]⟩
    · go_wp2_with (first
        | (go_at_call 54; refine (getN_any hS _ _ b (HR.out · _ _) _ 8 2 (by rfl) (by omega) (by omega) hb).mono ?_; rintro e w1 ⟨ok1, rfl, rfl⟩)
        | (refine toList (by rfl) ?_; refine st hS _ _ _ (by rfl) _ _ (by rfl) _ (by first | exact evC | exact evT (by rfl)) (by rfl) (szOf (by rfl)) (by first | exact Has.z | exact Has.s Has.z | exact Has.s (Has.s Has.z) | exact Has.s (Has.s (Has.s Has.z)) | exact Has.s (Has.s (Has.s (Has.s Has.z))) | exact Has.s (Has.s (Has.s (Has.s (Has.s Has.z))))) (by exact Nat.le_of_ble_eq_true rfl) ?_; intro w1 hS1; clear hS; have hS := hS1; clear hS1; dsimp only [List.set] at hS))
      exact ⟨⟨3, by omega, rfl, hS⟩, by simp [intOf]⟩
    go_wp2
    have H1 := Lib.hid hS
    clear hS
    go_loopw [35] (fun vi wz => ∃ k : Nat, k ≤ 4 ∧ vi = .int .i64 k ∧ Sat W wz (Cs p4 80 (svp b (3 + k)) :: Cs p2 80 (sv zeroS) :: L)) (fun vi _ => 4 - (intOf vi).toNat)
    case atStart => exact ⟨0, by omega, rfl, H1.out⟩
    case round =>
      clear H1
      obtain ⟨k, hk, rfl, hS⟩ := hrel
      rcases (show k = 0 ∨ k = 1 ∨ k = 2 ∨ k = 3 ∨ k = 4 by omega) with rfl | rfl | rfl | rfl | rfl
      · go_wp2_with (first
          | (go_at_call 54; refine (getN_any hS _ _ b (HR.out · _ _) _ 10 3 (by rfl) (by omega) (by omega) hb).mono ?_; rintro e w1 ⟨ok1, rfl, rfl⟩)
          | (refine toList (by rfl) ?_; refine st hS _ _ _ (by rfl) _ _ (by rfl) _ (by first | exact evC | exact evT (by rfl)) (by rfl) (szOf (by rfl)) (by first | exact Has.z | exact Has.s Has.z | exact Has.s (Has.s Has.z) | exact Has.s (Has.s (Has.s Has.z)) | exact Has.s (Has.s (Has.s (Has.s Has.z))) | exact Has.s (Has.s (Has.s (Has.s (Has.s Has.z))))) (by exact Nat.le_of_ble_eq_true rfl) ?_; intro w1 hS1; clear hS; have hS := hS1; clear hS1; dsimp only [List.set] at hS))
        exact ⟨⟨_, _, _, _, _, _, _, _, _, _, _, _, _, _, _, _, _, ⟨1, by omega, rfl, hS⟩, rfl⟩, by simp [intOf]⟩
      · go_wp2_with (first
          | (go_at_call 54; refine (getN_any hS _ _ b (HR.out · _ _) _ 13 3 (by rfl) (by omega) (by omega) hb).mono ?_; rintro e w1 ⟨ok1, rfl, rfl⟩)
          | (refine toList (by rfl) ?_; refine st hS _ _ _ (by rfl) _ _ (by rfl) _ (by first | exact evC | exact evT (by rfl)) (by rfl) (szOf (by rfl)) (by first | exact Has.z | exact Has.s Has.z | exact Has.s (Has.s Has.z) | exact Has.s (Has.s (Has.s Has.z)) | exact Has.s (Has.s (Has.s (Has.s Has.z))) | exact Has.s (Has.s (Has.s (Has.s (Has.s Has.z))))) (by exact Nat.le_of_ble_eq_true rfl) ?_; intro w1 hS1; clear hS; have hS := hS1; clear hS1; dsimp only [List.set] at hS))
        exact ⟨⟨_, _, _, _, _, _, _, _, _, _, _, _, _, _, _, _, _, ⟨2, by omega, rfl, hS⟩, rfl⟩, by simp [intOf]⟩
      · go_wp2_with (first
          | (go_at_call 54; refine (getN_any hS _ _ b (HR.out · _ _) _ 16 3 (by rfl) (by omega) (by omega) hb).mono ?_; rintro e w1 ⟨ok1, rfl, rfl⟩)
          | (refine toList (by rfl) ?_; refine st hS _ _ _ (by rfl) _ _ (by rfl) _ (by first | exact evC | exact evT (by rfl)) (by rfl) (szOf (by rfl)) (by first | exact Has.z | exact Has.s Has.z | exact Has.s (Has.s Has.z) | exact Has.s (Has.s (Has.s Has.z)) | exact Has.s (Has.s (Has.s (Has.s Has.z))) | exact Has.s (Has.s (Has.s (Has.s (Has.s Has.z))))) (by exact Nat.le_of_ble_eq_true rfl) ?_; intro w1 hS1; clear hS; have hS := hS1; clear hS1; dsimp only [List.set] at hS))
        exact ⟨⟨_, _, _, _, _, _, _, _, _, _, _, _, _, _, _, _, _, ⟨3, by omega, rfl, hS⟩, rfl⟩, by simp [intOf]⟩
      · go_wp2_with (first
          | (go_at_call 54; refine (getN_any hS _ _ b (HR.out · _ _) _ 19 3 (by rfl) (by omega) (by omega) hb).mono ?_; rintro e w1 ⟨ok1, rfl, rfl⟩)
          | (refine toList (by rfl) ?_; refine st hS _ _ _ (by rfl) _ _ (by rfl) _ (by first | exact evC | exact evT (by rfl)) (by rfl) (szOf (by rfl)) (by first | exact Has.z | exact Has.s Has.z | exact Has.s (Has.s Has.z) | exact Has.s (Has.s (Has.s Has.z)) | exact Has.s (Has.s (Has.s (Has.s Has.z))) | exact Has.s (Has.s (Has.s (Has.s (Has.s Has.z))))) (by exact Nat.le_of_ble_eq_true rfl) ?_; intro w1 hS1; clear hS; have hS := hS1; clear hS1; dsimp only [List.set] at hS))
        exact ⟨⟨_, _, _, _, _, _, _, _, _, _, _, _, _, _, _, _, _, ⟨4, by omega, rfl, hS⟩, rfl⟩, by simp [intOf]⟩
      have h2 : Sat W wr (Cs p4 80 (sv (parseS b)) :: Cs p2 80 (sv zeroS) :: L) := hS
      clear hS
      have hS := h2
      clear h2
      have HR2 : Hid (∀ w (A B C : Asrt), Sat W w (A :: B :: C :: L) → Rd w (.slice ao b.length c) b.length 1 (bv b)) := Lib.hid (fun w A B C h => HR.out w B C h.drop)
      cases hok : okSup (parseS b)
      · have HGO := Lib.hid (show getSOk b = false by unfold getSOk; rw [hok]; rfl)
        have HOK := Lib.hid hok
        clear hok
        go_wp2_with (first
          | (refine toList (by rfl) ?_; refine wp_of_reads (rLdA hS _ _ (by rfl) _ _ (by rfl) (agOf (by rfl)) (szOf (by rfl)) Has.z (vs := sv (parseS b)) (by rfl) (by rfl)) ?_)
          | (go_at_call 50; refine (sput_s hS (parseS b)).mono ?_; rintro e w1 ⟨v2, rfl, hS1⟩; rw [HOK.out]; clear hS; have hS := hS1; clear hS1)
          | (refine toList (by rfl) ?_; refine stW hS _ _ _ (by rfl) (by rfl) (sv zeroS) (by rfl) (sv_all _) (szOf (by rfl)) (Has.s (Has.s Has.z)) (by rfl) ?_; intro w1 hS1; clear hS; have hS := hS1; clear hS1; dsimp only [List.set_cons_zero, List.set_cons_succ] at hS))
        refine bodyPost_cell_tmp hS rfl (by rfl) (agOf (by rfl)) (szOf (by rfl)) (Has.s (Has.s Has.z)) (by rfl) rfl ?_
        rw [getS_no HGO.out, HGO.out]
        exact ⟨rfl, hS.drop.drop.drop⟩
      · have HOK := Lib.hid hok
        by_cases he : encS (parseS b) = b
        · have HE := Lib.hid he
          have HGO := Lib.hid (show getSOk b = true by unfold getSOk; rw [hok, he]; simp)
          clear hok he
          go_wp2_with (first
            | (refine toList (by rfl) ?_; refine wp_of_reads (rLdA hS _ _ (by rfl) _ _ (by rfl) (agOf (by rfl)) (szOf (by rfl)) Has.z (vs := sv (parseS b)) (by rfl) (by rfl)) ?_)
            | (refine toList (by rfl) ?_; refine wp_of_reads (rLdA hS _ _ (by rfl) _ _ (by rfl) (agOf (by rfl)) (szOf (by rfl)) (Has.s Has.z) (vs := sv (parseS b)) (by rfl) (by rfl)) ?_)
            | (go_at_call 50; refine (sput_s hS (parseS b)).mono ?_; rintro e w1 ⟨v2, rfl, hS1⟩; rw [HOK.out]; rw [supB_yes HOK.out, HE.out] at hS1; clear hS; have hS := hS1; clear hS1)
            | (refine toList (by rfl) ?_; refine cvS _ _ _ (by rfl) _ (by rfl) strBytes (l := b) (by first | exact HR2.out _ _ _ _ hS | exact hS.slRd Has.z) ?_)
            | (refine toList (by rfl) ?_; refine stW hS _ _ _ (by rfl) (by rfl) (sv (parseS b)) (by rfl) (sv_all _) (szOf (by rfl)) (Has.s (Has.s Has.z)) (by rfl) ?_; intro w1 hS1; clear hS; have hS := hS1; clear hS1; dsimp only [List.set_cons_zero, List.set_cons_succ] at hS))
          refine bodyPost_cell_tmp hS rfl (by rfl) (agOf (by rfl)) (szOf (by rfl)) (Has.s (Has.s Has.z)) (by rfl) rfl ?_
          rw [getS_yes HGO.out, HGO.out]
          exact ⟨rfl, hS.drop.drop.drop⟩
        · have HGO := Lib.hid (show getSOk b = false by unfold getSOk; simp [he])
          have HPB := Lib.hid (show supB (parseS b) = encS (parseS b) from supB_yes hok)
          obtain ⟨d, hd⟩ : ∃ d, encS (parseS b) = d := ⟨_, rfl⟩
          rw [hd] at he HPB
          have e9 : (!d == b) = true := by simp [he]
          clear hok hd he
          go_wp2_with (first
            | (refine toList (by rfl) ?_; refine wp_of_reads (rLdA hS _ _ (by rfl) _ _ (by rfl) (agOf (by rfl)) (szOf (by rfl)) Has.z (vs := sv (parseS b)) (by rfl) (by rfl)) ?_)
            | (refine toList (by rfl) ?_; refine wp_of_reads (rLdA hS _ _ (by rfl) _ _ (by rfl) (agOf (by rfl)) (szOf (by rfl)) (Has.s Has.z) (vs := sv (parseS b)) (by rfl) (by rfl)) ?_)
            | (go_at_call 50; refine (sput_s hS (parseS b)).mono ?_; rintro e w1 ⟨v2, rfl, hS1⟩; rw [HOK.out]; rw [HPB.out] at hS1; clear hS; have hS := hS1; clear hS1)
            | (refine toList (by rfl) ?_; refine cvS _ _ _ (by rfl) _ (by rfl) strBytes (l := b) (by exact HR2.out _ _ _ _ hS) ?_)
            | (refine toList (by rfl) ?_; refine cvS _ _ _ (by rfl) _ (by rfl) strBytes (l := d) (by exact hS.slRd Has.z) ?_)
            | (refine toList (by rfl) ?_; refine stW hS _ _ _ (by rfl) (by rfl) (sv zeroS) (by rfl) (sv_all _) (szOf (by rfl)) (Has.s (Has.s Has.z)) (by rfl) ?_; intro w1 hS1; clear hS; have hS := hS1; clear hS1; dsimp only [List.set_cons_zero, List.set_cons_succ] at hS))
          refine bodyPost_cell_tmp hS rfl (by rfl) (agOf (by rfl)) (szOf (by rfl)) (Has.s (Has.s Has.z)) (by rfl) rfl ?_
          rw [getS_no HGO.out, HGO.out]
          exact ⟨rfl, hS.drop.drop.drop⟩
end Go.Proofs.Ytcabgeljdgcdlaa
