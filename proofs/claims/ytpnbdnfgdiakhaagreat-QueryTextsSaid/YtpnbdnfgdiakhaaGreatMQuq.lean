/-
  The document's reader: an atom.
  The document's reader: an atom with stars.
  The document's reader: some in a row; all.
  The document's Parse: a question that can be read, or none.
-/
import Derived.Test.YtpnbdnfgdiakhaaGreatMQup
import Derived.Test.YtpnbdnfgdiakhaaGreatQuLookC
namespace Go.Proofs.YtpnbdnfgdiakhaaGreat
open Go.RowKit Go.Sep
set_option linter.unusedSimpArgs false
set_option linter.unusedVariables false
attribute [local irreducible] Go.Oper.wp Go.wpList Go.Calls Go.Code.wp Go.Sep.Reg
set_option maxRecDepth 20000 in
set_option maxHeartbeats 8000000 in
theorem atom_any {W : World} {s : ByteArray} (hs : s.size ≤ 200) {f : Nat} (ih : ∀ f', f' < f → StC W 47 s 14 #[] f') : StC W 47 s 89 #[] f := by
  intro w px I B L hI hf hS
  have HSG := Lib.hid (fun w L (I : Nat) (B : Int) c (hS : Sat W w (Cs px 47 [.string s, .int .i64 (I : Int), .int .i64 B] :: L)) (hI : I ≤ s.size) => sign_any hS hI hs c)
  have HWR := Lib.hid (fun w L (I : Nat) (B : Int) (hS : Sat W w (Cs px 47 [.string s, .int .i64 (I : Int), .int .i64 B] :: L)) (hI : I ≤ s.size) => wrong_any hS hI hs)
  have HRU := Lib.hid (fun w L (I : Nat) (B : Int) fr to (hS : Sat W w (Cs px 47 [.string s, .int .i64 (I : Int), .int .i64 B] :: L)) (hI : I ≤ s.size) => run_any hS hI hs fr to)
  have HNU := Lib.hid (fun w L (I : Nat) (B : Int) (hS : Sat W w (Cs px 47 [.string s, .int .i64 (I : Int), .int .i64 B] :: L)) (hI : I ≤ s.size) => number_any hS hI hs)
  have HOR := Lib.hid (fun w L (I' : Nat) (B : Int) (hS : Sat W w (Cs px 47 [.string s, .int .i64 (I' : Int), .int .i64 B] :: L)) (hI' : I' ≤ s.size) (hlt : I < I') => show Calls Tryz.prog 14 #[.pointer (some ⟨px, 0, none⟩)] w _ from ih (s.size - I') (by omega) w px I' B L hI' (Nat.le_refl _) hS)
  have HB : Hid (I ≤ I ∧ I ≤ s.size) := Lib.hid ⟨Nat.le_refl _, hI⟩
  have hsi : (s.size : Int) ≤ 200 := by omega
  clear hI hs ih hf
  show Calls Tryz.prog 89 #[.pointer (some ⟨px, 0, none⟩)] w _
  go_enter Tryz.func89, Tryz.ntmps89
  go_wp2_with (first
    | (refine toList (by rfl) ?_; refine al (show Sat W _ (Cs px 47 _ :: L) from hS) _ (by rfl) (zrOf (T := 27) (by rfl)) ?_; intro p2 w1 hS1; clear hS; have hS := (show Sat W w1 (Cs px 47 _ :: Cs p2 27 [.int .i64 0, .int .i64 0, .slice none 0 0] :: L) from hS1.re [1]); clear hS1)
    | (go_at_call 66; refine (HSG.out _ _ _ _ _ hS HB.out.2).mono ?_; rintro e w1 ⟨v, rfl, J, b, rfl, h1, h2, h3, hS1⟩; have HL := Lib.hid h3; have HB1 := Lib.hid (And.intro (Nat.le_trans HB.out.1 h1) h2); clear HB; have HB := HB1; clear HB1; clear h1 h2 h3; cases b <;> (clear hS; have hS := hS1; clear hS1))
    | (go_at_call 14; refine (HOR.out _ _ _ _ hS HB.out.2 (HL.out (by first | rfl | trivial))).mono ?_; rintro e w1 ⟨v, rfl, op, n, ao, m, c, ks, J, B, rfl, h1, h2, hS1⟩; have HB1 := Lib.hid (And.intro (Nat.le_trans HB.out.1 h1) h2); clear HB; have HB := HB1; clear HB1; clear h1 h2; clear hS; have hS := (show Sat W w1 (Cs px 47 _ :: Cs p2 27 _ :: Qq _ :: L) from hS1.re [0, 2]); clear hS1)
    | (refine toList (by rfl) ?_; refine al (show Sat W _ (Cs px 47 _ :: Cs p2 _ _ :: Qq _ :: L) from hS) _ (by rfl) (zrOf (T := 27) (by rfl)) ?_; intro p3 w1 hS1; clear hS; have hS := (show Sat W w1 (Cs px 47 _ :: Cs p2 27 _ :: Cs p3 27 [.int .i64 0, .int .i64 0, .slice none 0 0] :: Qq _ :: L) from hS1.re [1, 2]); clear hS1)
    | (refine toList (by rfl) ?_; refine stW hS _ _ _ (by rfl) (by rfl) [.int .i64 op, .int .i64 n, .slice ao m c] (by rfl) (stp_all _ _ _ _ _) (szOf (by rfl)) (by repeat first | exact Has.z | apply Has.s) (by rfl) ?_; intro w1 hS1; clear hS; have hS := hS1; clear hS1; dsimp only [List.set_cons_zero, List.set_cons_succ] at hS)
    | (go_at_call 16; refine (HWR.out _ _ _ _ hS HB.out.2).mono ?_; rintro e w1 ⟨u, rfl, J, B, h1, h2, hS1⟩; have HB1 := Lib.hid (And.intro (Nat.le_trans HB.out.1 h1) h2); clear HB; have HB := HB1; clear HB1; clear h1 h2; clear hS; have hS := hS1; clear hS1)
    | (refine toList (by rfl) ?_; refine wp_of_reads (rLdA hS _ _ (by rfl) _ _ (by rfl) (agOf (by rfl)) (szOf (by rfl)) (Has.s (Has.s Has.z)) (vs := [.int .i64 op, .int .i64 n, .slice ao m c]) (by rfl) (by rfl)) ?_))
  rotate_left
  · refine bodyPost_cell (b := p2) (vs := [.int .i64 op, .int .i64 n, .slice ao m c]) hS rfl (by rfl) (agOf (by rfl)) (szOf (by rfl)) (by repeat first | exact Has.z | apply Has.s) (by rfl) rfl ?_
    exact ⟨_, rfl, op, n, ao, m, c, ks, J, B, rfl, HB.out.1, HB.out.2, (show Sat W _ (Cs px 47 _ :: Qq (.mk op n (.slice ao m c) ks) :: L) from (hS.re [1, 2]).drop.drop)⟩
  · refine bodyPost_cell (b := p2) (vs := [.int .i64 op, .int .i64 n, .slice ao m c]) hS rfl (by rfl) (agOf (by rfl)) (szOf (by rfl)) (by repeat first | exact Has.z | apply Has.s) (by rfl) rfl ?_
    exact ⟨_, rfl, op, n, ao, m, c, ks, J, _, rfl, HB.out.1, HB.out.2, (show Sat W _ (Cs px 47 _ :: Qq (.mk op n (.slice ao m c) ks) :: L) from (hS.re [1, 2]).drop.drop)⟩
  · go_wp2_with (first
      | (go_at_call 100; refine (HRU.out _ _ _ _ _ _ hS HB.out.2).mono ?_; rintro e w1 ⟨v, rfl, J, t, rfl, h1, h2, hS1⟩; have HB1 := Lib.hid (And.intro (Nat.le_trans HB.out.1 h1) (Nat.le_trans (Nat.le_add_right _ _) h2)); clear HB; have HB := HB1; clear HB1; have HT := Lib.hid h2; have hti : (t.size : Int) ≤ 200 := (by omega); have hJi : (J : Int) + (t.size : Int) ≤ 200 := (by omega); clear h1 h2; clear hS; have hS := hS1; clear hS1)
      | (go_at_call 16; refine (HWR.out _ _ _ _ hS HB.out.2).mono ?_; rintro e w1 ⟨u, rfl, J, B, h1, h2, hS1⟩; have HB1 := Lib.hid (And.intro (Nat.le_trans HB.out.1 h1) h2); clear HB; have HB := HB1; clear HB1; clear h1 h2; clear hS; have hS := hS1; clear hS1)
      | (refine toList (by rfl) ?_; refine ld hS _ _ (by rfl) _ _ (by rfl) (agOf (by rfl)) (by repeat first | exact Has.z | apply Has.s) (by rfl) ?_)
      | (refine toList (by rfl) ?_; refine st hS _ _ _ (by rfl) _ _ (by rfl) _ (by first | exact evC | exact evT (by rfl)) (by rfl) (szOf (by rfl)) (by repeat first | exact Has.z | apply Has.s) (by exact Nat.le_of_ble_eq_true rfl) ?_; intro w1 hS1; clear hS; have hS := hS1; clear hS1; dsimp only [List.set] at hS)
      | (refine toList (by rfl) ?_; refine stW hS _ _ _ (by rfl) (by rfl) [.int .i64 0, .int .i64 0, .slice none 0 0] (by rfl) (stp_all _ _ _ _ _) (szOf (by rfl)) (by repeat first | exact Has.z | apply Has.s) (by rfl) ?_; intro w1 hS1; clear hS; have hS := hS1; clear hS1; dsimp only [List.set_cons_zero, List.set_cons_succ] at hS)
      | (refine toList (by rfl) ?_; refine stW hS _ _ _ (by rfl) (by rfl) [.int .i64 1, .int .i64 0, .slice none 0 0] (by rfl) (stp_all _ _ _ _ _) (szOf (by rfl)) (by repeat first | exact Has.z | apply Has.s) (by rfl) ?_; intro w1 hS1; clear hS; have hS := hS1; clear hS1; dsimp only [List.set_cons_zero, List.set_cons_succ] at hS)
      | (refine toList (by rfl) ?_; refine stW hS _ _ _ (by rfl) (by rfl) [.int .i64 2, .int .i64 0, .slice none 0 0] (by rfl) (stp_all _ _ _ _ _) (szOf (by rfl)) (by repeat first | exact Has.z | apply Has.s) (by rfl) ?_; intro w1 hS1; clear hS; have hS := hS1; clear hS1; dsimp only [List.set_cons_zero, List.set_cons_succ] at hS)
      | (refine toList (by rfl) ?_; refine stW hS _ _ _ (by rfl) (by rfl) [.int .i64 8, .int .i64 0, .slice none 0 0] (by rfl) (stp_all _ _ _ _ _) (szOf (by rfl)) (by repeat first | exact Has.z | apply Has.s) (by rfl) ?_; intro w1 hS1; clear hS; have hS := hS1; clear hS1; dsimp only [List.set_cons_zero, List.set_cons_succ] at hS)
      | (go_at_call 101; refine (HNU.out _ _ (J + t.size) _ (by rw [show ((J + t.size : Nat) : Int) = (J : Int) + (t.size : Int) from Int.natCast_add _ _]; exact hS) HT.out).mono ?_; rintro e w1 ⟨v, rfl, n, J5, B5, rfl, h1, h2, hS1⟩; have HN5 := Lib.hid (And.intro h1 h2); clear h1 h2; clear hS; have hS := hS1; clear hS1)
      | (refine toList (by rfl) ?_; refine stW hS _ _ _ (by rfl) (by rfl) [.int .i64 3, .int .i64 n, .slice none 0 0] (by rfl) (stp_all _ _ _ _ _) (szOf (by rfl)) (by repeat first | exact Has.z | apply Has.s) (by rfl) ?_; intro w1 hS1; clear hS; have hS := hS1; clear hS1; dsimp only [List.set_cons_zero, List.set_cons_succ] at hS)
      | (refine toList (by rfl) ?_; refine stW hS _ _ _ (by rfl) (by rfl) [.int .i64 4, .int .i64 n, .slice none 0 0] (by rfl) (stp_all _ _ _ _ _) (szOf (by rfl)) (by repeat first | exact Has.z | apply Has.s) (by rfl) ?_; intro w1 hS1; clear hS; have hS := hS1; clear hS1; dsimp only [List.set_cons_zero, List.set_cons_succ] at hS))
    all_goals
      refine bodyPost_cell (b := p2) hS rfl (by rfl) (agOf (by rfl)) (szOf (by rfl)) (Has.s Has.z) (by rfl) rfl ?_
      first
        | exact ⟨_, rfl, stp_done hS (by have := HN5.out; have := HB.out; omega) (by have := HN5.out; omega)⟩
        | exact ⟨_, rfl, stp_done hS (by have := HB.out; omega) (by have := HB.out; omega)⟩
        | exact ⟨_, rfl, stp_done hS (by have := HB.out; omega) (by have := HT.out; omega)⟩
end Go.Proofs.YtpnbdnfgdiakhaaGreat
namespace Go.Proofs.YtpnbdnfgdiakhaaGreat
open Go.RowKit Go.Sep
set_option linter.unusedSimpArgs false
set_option linter.unusedVariables false
attribute [local irreducible] Go.Oper.wp Go.wpList Go.Calls Go.Code.wp Go.Sep.Reg
set_option maxRecDepth 20000 in
set_option maxHeartbeats 8000000 in
theorem star_rd {W : World} {s : ByteArray} (hs : s.size ≤ 200) {f : Nat} (hat : StC W 47 s 89 #[] f) : StC W 47 s 67 #[] f := by
  intro w px I B L hI hf hS
  have HSG := Lib.hid (fun w L (I : Nat) (B : Int) c (hS : Sat W w (Cs px 47 [.string s, .int .i64 (I : Int), .int .i64 B] :: L)) (hI : I ≤ s.size) => sign_any hS hI hs c)
  have HAT := Lib.hid (fun w L (hS : Sat W w (Cs px 47 [.string s, .int .i64 (I : Int), .int .i64 B] :: L)) => show Calls Tryz.prog 89 #[.pointer (some ⟨px, 0, none⟩)] w _ from hat w px I B L hI hf hS)
  clear hI hs hat hf
  show Calls Tryz.prog 67 #[.pointer (some ⟨px, 0, none⟩)] w _
  go_enter Tryz.func67, Tryz.ntmps67
  go_wp2_with (first
    | (refine toList (by rfl) ?_; refine al (show Sat W _ (Cs px 47 _ :: L) from hS) _ (by rfl) (zrOf (T := 27) (by rfl)) ?_; intro p2 w1 hS1; clear hS; have hS := (show Sat W w1 (Cs px 47 _ :: Cs p2 27 [.int .i64 0, .int .i64 0, .slice none 0 0] :: L) from hS1.re [1]); clear hS1)
    | (go_at_call 89; refine (HAT.out _ _ hS).mono ?_; rintro e w1 ⟨v, rfl, op, n, ao, m, c, ks, J, B1, rfl, h1, h2, hS1⟩; have HB := Lib.hid (And.intro h1 h2); clear h1 h2; clear hS; have hS := (show Sat W w1 (Cs px 47 _ :: Cs p2 27 _ :: Qq _ :: L) from hS1.re [0, 2]); clear hS1)
    | (refine toList (by rfl) ?_; refine al (show Sat W _ (Cs px 47 _ :: Cs p2 _ _ :: Qq _ :: L) from hS) _ (by rfl) (zrOf (T := 27) (by rfl)) ?_; intro p3 w1 hS1; clear hS; have hS := (show Sat W w1 (Cs px 47 _ :: Cs p2 27 _ :: Cs p3 27 [.int .i64 0, .int .i64 0, .slice none 0 0] :: Qq _ :: L) from hS1.re [1, 2]); clear hS1)
    | (refine toList (by rfl) ?_; refine stW hS _ _ _ (by rfl) (by rfl) [.int .i64 op, .int .i64 n, .slice ao m c] (by rfl) (stp_all _ _ _ _ _) (szOf (by rfl)) (Has.s (Has.s Has.z)) (by rfl) ?_; intro w1 hS1; clear hS; have hS := hS1; clear hS1; dsimp only [List.set_cons_zero, List.set_cons_succ] at hS))
  have H0 := Lib.hid hS
  try go_frame
  try go_wp2
  go_loopw [] (fun wz => ∃ (op n : Int) (ao : Option Addr) (m c : Nat) (ks : List StepD) (J : Nat) (B : Int), I ≤ J ∧ J ≤ s.size ∧ Sat W wz (Cs px 47 [.string s, .int .i64 (J : Int), .int .i64 B] :: Cs p2 27 [.int .i64 0, .int .i64 0, .slice none 0 0] :: Cs p3 27 [.int .i64 op, .int .i64 n, .slice ao m c] :: Qq (.mk op n (.slice ao m c) ks) :: L)) (fun wz => s.size - cellN wz px 1)
  case atStart => exact ⟨op, n, ao, m, c, ks, J, B1, HB.out.1, HB.out.2, H0.out⟩
  case round =>
    clear hS H0 HB
    obtain ⟨op, n, ao, m, c, ks, J, B, h1, h2, hS⟩ := hrel
    have HB := Lib.hid (And.intro h1 h2)
    have HJ := Lib.hid (cellN_eq (hS.cell (k := 0) (off := 1) Has.z rfl))
    clear h1 h2
    go_wp2_with (first
      | (go_at_call 66; refine (HSG.out _ _ _ _ _ hS HB.out.2).mono ?_; rintro e w1 ⟨v, rfl, J2, b, rfl, h1, h2, h3, hS1⟩; have HL := Lib.hid (And.intro h1 h2); cases b <;> (have H3 := Lib.hid (fun (_ : True) => h3); clear h1 h2 h3; clear hS; have hS := hS1; clear hS1))
      | (refine toList (by rfl) ?_; refine wp_of_reads (rLdA hS _ _ (by rfl) _ _ (by rfl) (agOf (by rfl)) (szOf (by rfl)) (Has.s (Has.s Has.z)) (vs := [.int .i64 op, .int .i64 n, .slice ao m c]) (by rfl) (by rfl)) ?_)
      | (refine toList (by rfl) ?_; refine bsF hS _ _ _ (by rfl) (elOf (by rfl)) [.agg #[.int .i64 op, .int .i64 n, .slice ao m c]] (by rfl) (by rfl) (by decide) (by decide) (by simp [Value.cells]) ?_; intro b1 w1 hS1; clear hS; have hS := (show Sat W w1 (Cs b1 27 (qv (.mk op n (.slice ao m c) ks)) :: Cs px 47 _ :: Cs p2 27 _ :: Cs p3 27 _ :: Qq (.mk op n (.slice ao m c) ks) :: L) from hS1); clear hS1)
      | (refine toList (by rfl) ?_; refine stW hS _ _ _ (by rfl) (by rfl) [.int .i64 5, .int .i64 0, .slice (some ⟨b1, 0, none⟩) 1 1] (by rfl) (stp_all _ _ _ _ _) (szOf (by rfl)) (Has.s (Has.s (Has.s Has.z))) (by rfl) ?_; intro w1 hS1; clear hS; have hS := hS1; clear hS1; dsimp only [List.set_cons_zero, List.set_cons_succ] at hS)
      | (refine toList (by rfl) ?_; refine stW hS _ _ _ (by rfl) (by rfl) [.int .i64 op, .int .i64 n, .slice ao m c] (by rfl) (stp_all _ _ _ _ _) (szOf (by rfl)) (Has.s Has.z) (by rfl) ?_; intro w1 hS1; clear hS; have hS := hS1; clear hS1; dsimp only [List.set_cons_zero, List.set_cons_succ] at hS))
    rotate_left
    · have hQ := (Qq.one 5 0 (hS.re [0, 4])).re [1, 2, 3]
      have e := cellN_eq (hS.cell (k := 1) (off := 1) (Has.s Has.z) rfl)
      have h4 := HL.out
      have h5 : J < J2 := by have := H3.out; simp at this; exact this
      have h6 := HB.out
      exact ⟨⟨_, _, _, _, _, ⟨5, 0, some ⟨b1, 0, none⟩, 1, 1, _, J2, B, by omega, by omega, hQ⟩, rfl⟩, by rw [HJ.out, e]; omega⟩
    · refine bodyPost_cell (b := p2) (vs := [.int .i64 op, .int .i64 n, .slice ao m c]) hS rfl (by rfl) (agOf (by rfl)) (szOf (by rfl)) (Has.s Has.z) (by rfl) rfl ?_
      exact ⟨_, rfl, op, n, ao, m, c, ks, J2, B, rfl, by have := HB.out; have := HL.out; omega, HL.out.2, (show Sat W _ (Cs px 47 _ :: Qq (.mk op n (.slice ao m c) ks) :: L) from (hS.re [1, 2]).drop.drop)⟩
end Go.Proofs.YtpnbdnfgdiakhaaGreat
namespace Go.Proofs.YtpnbdnfgdiakhaaGreat
open Go.RowKit Go.Sep
set_option linter.unusedSimpArgs false
set_option linter.unusedVariables false
attribute [local irreducible] Go.Oper.wp Go.wpList Go.Calls Go.Code.wp Go.Sep.Reg
def rowN : Value → Nat
  | .bool true => 1
  | _ => 0
/-- What the loop of row keeps. -/
def RowI (W : World) (T : TypeId) (px p4 : Nat) (s : ByteArray) (I : Nat) (L : List Asrt) (v5 v7 : Value) (wz : World) : Prop :=
  ∃ (l : List StepD) (b : Bool) (J : Nat) (B : Int), v7 = .bool b ∧ I ≤ J ∧ J ≤ s.size ∧ l.length ≤ J + 1 ∧ (b = true → l.length ≤ J) ∧
    Sat W wz (Cs px T [.string s, .int .i64 (J : Int), .int .i64 B] :: Cs p4 27 [.int .i64 0, .int .i64 0, .slice none 0 0] :: Tb 27 3 qv v5 l :: St (l.map Qq) :: L)
set_option maxRecDepth 20000 in
set_option maxHeartbeats 8000000 in
theorem row7_rd {W : World} {s : ByteArray} (hs : s.size ≤ 200) {f : Nat} (hst : StC W 47 s 67 #[] f) : StC W 47 s 33 #[.int .i64 7] f := by
  intro w px I B L hI hf hS
  have HSG := Lib.hid (fun w L (I : Nat) (B : Int) c (hS : Sat W w (Cs px 47 [.string s, .int .i64 (I : Int), .int .i64 B] :: L)) (hI : I ≤ s.size) => sign_any hS hI hs c)
  have HSUB := Lib.hid (fun w L (J : Nat) (B : Int) (hS : Sat W w (Cs px 47 [.string s, .int .i64 (J : Int), .int .i64 B] :: L)) (h1 : I ≤ J) (h2 : J ≤ s.size) => show Calls Tryz.prog 67 #[.pointer (some ⟨px, 0, none⟩)] w _ from hst w px J B L h2 (by omega) hS)
  have HI := Lib.hid hI
  clear hI hst hf
  show Calls Tryz.prog 33 #[.pointer (some ⟨px, 0, none⟩), .int .i64 7] w _
  go_enter Tryz.func33, Tryz.ntmps33
  go_wp2_with (refine toList (by rfl) ?_; refine al (show Sat W _ (Cs px 47 _ :: L) from hS) _ (by rfl) (zrOf (T := 27) (by rfl)) ?_; intro p4 w1 hS1; clear hS; have hS := (show Sat W w1 (Cs px 47 _ :: Cs p4 27 [.int .i64 0, .int .i64 0, .slice none 0 0] :: L) from hS1.re [1]); clear hS1)
  have H0 : Hid (Sat W w1 (Cs px 47 [.string s, .int .i64 (I : Int), .int .i64 B] :: Cs p4 27 [.int .i64 0, .int .i64 0, .slice none 0 0] :: Tb 27 3 qv (.slice none 0 0) [] :: St [] :: L)) := Lib.hid (((hS.stNil).tbNil).re [2, 3])
  go_loopw [5, 7] (fun v5 v7 wz => RowI W 47 px p4 s I L v5 v7 wz) (fun _ v7 wz => 2 * (s.size - cellN wz px 1) + rowN v7)
  case atStart => exact ⟨[], true, I, B, rfl, Nat.le_refl _, HI.out, by simp, (fun _ => by simp), H0.out⟩
  case round =>
    clear hS H0
    obtain ⟨l, b, J, B, rfl, h1, h2, h3, h4, hS⟩ := hrel
    have HB := Lib.hid (And.intro h1 h2)
    have HJ := Lib.hid (cellN_eq (hS.cell (k := 0) (off := 1) Has.z rfl))
    obtain ⟨a5, c5, rfl, hc5⟩ := hS.tbShape (k := 2) rfl
    have hl5 : (l.length : Int) ≤ 201 := by omega
    have HL5 := Lib.hid h3
    cases b with
    | true =>
      have HL6 := Lib.hid (h4 rfl)
      clear h1 h2 h3 h4 hc5
      go_wp2_with (first
        | (refine toList (by rfl) ?_; refine al (show Sat W _ (Cs px 47 _ :: Cs p4 _ _ :: Tb _ 3 qv _ l :: St (l.map Qq) :: L) from hS) _ (by rfl) (zrOf (T := 27) (by rfl)) ?_; intro p8 w1 hS1; clear hS; have hS := (show Sat W w1 (Cs px 47 _ :: Cs p8 27 [.int .i64 0, .int .i64 0, .slice none 0 0] :: Cs p4 _ _ :: Tb _ 3 qv _ l :: St (l.map Qq) :: L) from hS1.re [1]); clear hS1)
        | (refine toList (by rfl) ?_; refine stW hS _ _ _ (by rfl) (by rfl) [.int .i64 0, .int .i64 0, .slice none 0 0] (by rfl) (stp_all _ _ _ _ _) (szOf (by rfl)) (Has.s Has.z) (by rfl) ?_; intro w1 hS1; clear hS; have hS := hS1; clear hS1; dsimp only [List.set_cons_zero, List.set_cons_succ] at hS)
        | (go_at_call 67; refine (HSUB.out _ _ J B hS HB.out.1 HB.out.2).mono ?_; rintro e w1 ⟨v, rfl, op, n, ao, m, c, ks, J2, B2, rfl, h1, h2, hS1⟩; have HB2 := Lib.hid (And.intro h1 h2); clear h1 h2; clear hS; have hS := (show Sat W w1 (Cs px 47 _ :: Cs p8 27 _ :: Cs p4 27 _ :: Tb 27 3 qv _ l :: St (l.map Qq) :: Qq (.mk op n (.slice ao m c) ks) :: L) from hS1.re [0, 2, 3, 4, 5]); clear hS1)
        | (refine toList (by rfl) ?_; refine stW hS _ _ _ (by rfl) (by rfl) [.int .i64 op, .int .i64 n, .slice ao m c] (by rfl) (stp_all _ _ _ _ _) (szOf (by rfl)) (Has.s Has.z) (by rfl) ?_; intro w1 hS1; clear hS; have hS := hS1; clear hS1; dsimp only [List.set_cons_zero, List.set_cons_succ] at hS)
        | (refine toList (by rfl) ?_; refine wp_of_reads (rLdA hS _ _ (by rfl) _ _ (by rfl) (agOf (by rfl)) (szOf (by rfl)) (Has.s Has.z) (vs := [.int .i64 op, .int .i64 n, .slice ao m c]) (by rfl) (by rfl)) ?_)
        | (refine toList (by rfl) ?_; refine bsF hS _ _ _ (by rfl) (elOf (by rfl)) [.agg #[.int .i64 op, .int .i64 n, .slice ao m c]] (by rfl) (by rfl) (by decide) (by decide) (by simp [Value.cells]) ?_; intro b1 w1 hS1; clear hS; have hS := (show Sat W w1 (Tb 27 3 qv _ l :: Cs b1 27 ([StepD.mk op n (.slice ao m c) ks].flatMap qv) :: Cs px 47 _ :: Cs p4 27 _ :: St (l.map Qq) :: Qq (.mk op n (.slice ao m c) ks) :: L) from (((show Sat W w1 (Cs b1 27 _ :: Cs px 47 _ :: Cs p8 27 _ :: Cs p4 27 _ :: Tb 27 3 qv _ l :: St (l.map Qq) :: Qq (.mk op n (.slice ao m c) ks) :: L) from hS1).re [2]).drop.re [3])); clear hS1)
        | (refine toList (by rfl) ?_; refine apTb (f := qv) (xs := l) hS _ _ _ _ (by rfl) _ _ (by rfl) (by rfl) (elOf (by rfl)) (by rfl) (by decide) (inOf (by rfl)) Has.z [StepD.mk op n (.slice ao m c) ks] (qv_len _) (by exact .inl (hS.csRd0 (n := 1) (sz := 3) (Has.s Has.z) (by decide) rfl)) (by exact (show ∀ u ∈ [Value.int .i64 op, .int .i64 n, .slice ao m c], u.oneCell' = true from stp_all op n ao m c)) (by simp; omega) (by simp; omega) ?_; intro v5 w1 hS1; clear hS; have hS := (show Sat W w1 (Tb 27 3 qv v5 (l ++ [StepD.mk op n (.slice ao m c) ks]) :: Cs b1 27 _ :: Cs px 47 _ :: Cs p4 27 _ :: St (l.map Qq) :: Qq (.mk op n (.slice ao m c) ks) :: L) from hS1); clear hS1; have hS2 := (show Sat W w1 (Cs px 47 _ :: Cs p4 27 _ :: Tb 27 3 qv v5 (l ++ [StepD.mk op n (.slice ao m c) ks]) :: St (l.map Qq ++ [Qq (.mk op n (.slice ao m c) ks)]) :: L) from (((hS.re [1]).drop.re [4, 3]).stSnoc).re [2, 3, 1]); clear hS; have hS := hS2; clear hS2; obtain ⟨a6, c6, rfl, _⟩ := hS.tbShape (k := 2) rfl)
        | (go_at_call 66; refine (HSG.out _ _ _ _ _ hS HB2.out.2).mono ?_; rintro e w1 ⟨v, rfl, J3, b3, rfl, h1, h2, h3, hS1⟩; have HB3 := Lib.hid (And.intro h1 (And.intro h2 (fun (_ : True) => h3))); clear h1 h2 h3; clear hS; have hS := hS1; clear hS1))
      have e := cellN_eq (hS.cell (k := 0) (off := 1) Has.z rfl)
      have q1 := HB.out
      have q2 := HB2.out
      obtain ⟨q3, q4, q5⟩ := HB3.out
      have q6 := HL6.out
      refine ⟨⟨l ++ [.mk op n (.slice ao m c) ks], b3, J3, B2, rfl, by omega, q4, by simp; omega, (fun hb => ?_), by simpa using hS⟩, ?_⟩
      · have := q5 trivial hb
        simp; omega
      · rw [HJ.out, e]
        cases b3 with
        | true =>
          have := q5 trivial rfl
          show 2 * (s.size - J3) + 1 < 2 * (s.size - J) + 1
          omega
        | false =>
          show 2 * (s.size - J3) + 0 < 2 * (s.size - J) + 1
          omega
    | false =>
      clear h4 h1 h2 h3
      by_cases h1 : l.length = 1
      · obtain ⟨q, rfl⟩ : ∃ q, l = [q] := List.length_eq_one_iff.1 h1
        clear h1
        have h6 : Sat W wr (Qq q :: Cs px 47 _ :: Cs p4 27 _ :: Tb 27 3 qv _ [q] :: L) := (show Sat W wr (Qq q :: ([] ++ (Cs px 47 _ :: Cs p4 27 _ :: Tb 27 3 qv _ [q] :: L))) from (hS.re [3]).open)
        obtain ⟨ao, m, c, hu⟩ := (Qq.read h6 (k := 0) rfl 0).shape
        obtain ⟨op, n, u, ks⟩ := q
        replace hu : u = .slice ao m c := hu
        subst hu
        clear hS
        have hS := h6
        clear h6
        obtain ⟨b5, o5, c6, he, _⟩ := hS.tbAddr (k := 3) rfl (by simp)
        simp only [List.length_cons, List.length_nil, Nat.zero_add, Value.slice.injEq, true_and] at he hS
        obtain ⟨rfl, rfl⟩ := he
        go_wp2_with (first
          | (refine toList (by rfl) ?_; refine wp_of_reads (rLdTbA (f := qv) (xs := [.mk op n (.slice ao m c) ks]) (x := .mk op n (.slice ao m c) ks) (off := o5) hS _ _ (by rfl) _ _ (by rfl) (agOf (by rfl)) (szOf (by rfl)) (Has.s (Has.s (Has.s Has.z))) 0 (by rfl) (by rfl)) ?_)
          | (refine toList (by rfl) ?_; refine stW hS _ _ _ (by rfl) (by rfl) [.int .i64 op, .int .i64 n, .slice ao m c] (by rfl) (stp_all _ _ _ _ _) (szOf (by rfl)) (Has.s (Has.s Has.z)) (by rfl) ?_; intro w1 hS1; clear hS; have hS := hS1; clear hS1; dsimp only [List.set_cons_zero, List.set_cons_succ] at hS))
        refine bodyPost_cell (b := p4) (vs := [.int .i64 op, .int .i64 n, .slice ao m c]) hS rfl (by rfl) (agOf (by rfl)) (szOf (by rfl)) (Has.s (Has.s Has.z)) (by rfl) rfl ?_
        exact ⟨_, rfl, op, n, ao, m, c, ks, J, B, rfl, HB.out.1, HB.out.2, ((hS.re [2, 3]).drop.drop.re [1])⟩
      · have k1 : ¬ (l.length : Int) = 1 := by omega
        have k2 : ((l.length : Int) == 1) = false := beq_eq_false_iff_ne.2 k1
        have k3 : (l.length == 1) = false := beq_eq_false_iff_ne.2 h1
        clear h1
        go_wp2_with (refine toList (by rfl) ?_; refine stW hS _ _ _ (by rfl) (by rfl) [.int .i64 7, .int .i64 0, .slice a5 l.length c5] (by rfl) (stp_all _ _ _ _ _) (szOf (by rfl)) (Has.s Has.z) (by rfl) ?_; intro w1 hS1; clear hS; have hS := hS1; clear hS1; dsimp only [List.set_cons_zero, List.set_cons_succ] at hS)
        refine bodyPost_cell (b := p4) (vs := [.int .i64 7, .int .i64 0, .slice a5 l.length c5]) hS rfl (by rfl) (agOf (by rfl)) (szOf (by rfl)) (Has.s Has.z) (by rfl) rfl ?_
        have hQ := Qq.row 7 0 (hS.re [2, 3])
        exact ⟨_, rfl, 7, 0, a5, l.length, c5, l, J, B, rfl, HB.out.1, HB.out.2, ((hQ.re [2]).drop.re [1])⟩
set_option maxRecDepth 20000 in
set_option maxHeartbeats 8000000 in
theorem row6_rd {W : World} {s : ByteArray} (hs : s.size ≤ 200) {f : Nat} (hst : StC W 47 s 33 #[.int .i64 7] f) : StC W 47 s 33 #[.int .i64 6] f := by
  intro w px I B L hI hf hS
  have HSG := Lib.hid (fun w L (I : Nat) (B : Int) c (hS : Sat W w (Cs px 47 [.string s, .int .i64 (I : Int), .int .i64 B] :: L)) (hI : I ≤ s.size) => sign_any hS hI hs c)
  have HSUB := Lib.hid (fun w L (J : Nat) (B : Int) (hS : Sat W w (Cs px 47 [.string s, .int .i64 (J : Int), .int .i64 B] :: L)) (h1 : I ≤ J) (h2 : J ≤ s.size) => show Calls Tryz.prog 33 #[.pointer (some ⟨px, 0, none⟩), .int .i64 7] w _ from hst w px J B L h2 (by omega) hS)
  have HI := Lib.hid hI
  clear hI hst hf
  show Calls Tryz.prog 33 #[.pointer (some ⟨px, 0, none⟩), .int .i64 6] w _
  go_enter Tryz.func33, Tryz.ntmps33
  go_wp2_with (refine toList (by rfl) ?_; refine al (show Sat W _ (Cs px 47 _ :: L) from hS) _ (by rfl) (zrOf (T := 27) (by rfl)) ?_; intro p4 w1 hS1; clear hS; have hS := (show Sat W w1 (Cs px 47 _ :: Cs p4 27 [.int .i64 0, .int .i64 0, .slice none 0 0] :: L) from hS1.re [1]); clear hS1)
  have H0 : Hid (Sat W w1 (Cs px 47 [.string s, .int .i64 (I : Int), .int .i64 B] :: Cs p4 27 [.int .i64 0, .int .i64 0, .slice none 0 0] :: Tb 27 3 qv (.slice none 0 0) [] :: St [] :: L)) := Lib.hid (((hS.stNil).tbNil).re [2, 3])
  go_loopw [5, 7] (fun v5 v7 wz => RowI W 47 px p4 s I L v5 v7 wz) (fun _ v7 wz => 2 * (s.size - cellN wz px 1) + rowN v7)
  case atStart => exact ⟨[], true, I, B, rfl, Nat.le_refl _, HI.out, by simp, (fun _ => by simp), H0.out⟩
  case round =>
    clear hS H0
    obtain ⟨l, b, J, B, rfl, h1, h2, h3, h4, hS⟩ := hrel
    have HB := Lib.hid (And.intro h1 h2)
    have HJ := Lib.hid (cellN_eq (hS.cell (k := 0) (off := 1) Has.z rfl))
    obtain ⟨a5, c5, rfl, hc5⟩ := hS.tbShape (k := 2) rfl
    have hl5 : (l.length : Int) ≤ 201 := by omega
    have HL5 := Lib.hid h3
    cases b with
    | true =>
      have HL6 := Lib.hid (h4 rfl)
      clear h1 h2 h3 h4 hc5
      go_wp2_with (first
        | (refine toList (by rfl) ?_; refine al (show Sat W _ (Cs px 47 _ :: Cs p4 _ _ :: Tb _ 3 qv _ l :: St (l.map Qq) :: L) from hS) _ (by rfl) (zrOf (T := 27) (by rfl)) ?_; intro p8 w1 hS1; clear hS; have hS := (show Sat W w1 (Cs px 47 _ :: Cs p8 27 [.int .i64 0, .int .i64 0, .slice none 0 0] :: Cs p4 _ _ :: Tb _ 3 qv _ l :: St (l.map Qq) :: L) from hS1.re [1]); clear hS1)
        | (refine toList (by rfl) ?_; refine stW hS _ _ _ (by rfl) (by rfl) [.int .i64 0, .int .i64 0, .slice none 0 0] (by rfl) (stp_all _ _ _ _ _) (szOf (by rfl)) (Has.s Has.z) (by rfl) ?_; intro w1 hS1; clear hS; have hS := hS1; clear hS1; dsimp only [List.set_cons_zero, List.set_cons_succ] at hS)
        | (go_at_call 33; refine (HSUB.out _ _ J B hS HB.out.1 HB.out.2).mono ?_; rintro e w1 ⟨v, rfl, op, n, ao, m, c, ks, J2, B2, rfl, h1, h2, hS1⟩; have HB2 := Lib.hid (And.intro h1 h2); clear h1 h2; clear hS; have hS := (show Sat W w1 (Cs px 47 _ :: Cs p8 27 _ :: Cs p4 27 _ :: Tb 27 3 qv _ l :: St (l.map Qq) :: Qq (.mk op n (.slice ao m c) ks) :: L) from hS1.re [0, 2, 3, 4, 5]); clear hS1)
        | (refine toList (by rfl) ?_; refine stW hS _ _ _ (by rfl) (by rfl) [.int .i64 op, .int .i64 n, .slice ao m c] (by rfl) (stp_all _ _ _ _ _) (szOf (by rfl)) (Has.s Has.z) (by rfl) ?_; intro w1 hS1; clear hS; have hS := hS1; clear hS1; dsimp only [List.set_cons_zero, List.set_cons_succ] at hS)
        | (refine toList (by rfl) ?_; refine wp_of_reads (rLdA hS _ _ (by rfl) _ _ (by rfl) (agOf (by rfl)) (szOf (by rfl)) (Has.s Has.z) (vs := [.int .i64 op, .int .i64 n, .slice ao m c]) (by rfl) (by rfl)) ?_)
        | (refine toList (by rfl) ?_; refine bsF hS _ _ _ (by rfl) (elOf (by rfl)) [.agg #[.int .i64 op, .int .i64 n, .slice ao m c]] (by rfl) (by rfl) (by decide) (by decide) (by simp [Value.cells]) ?_; intro b1 w1 hS1; clear hS; have hS := (show Sat W w1 (Tb 27 3 qv _ l :: Cs b1 27 ([StepD.mk op n (.slice ao m c) ks].flatMap qv) :: Cs px 47 _ :: Cs p4 27 _ :: St (l.map Qq) :: Qq (.mk op n (.slice ao m c) ks) :: L) from (((show Sat W w1 (Cs b1 27 _ :: Cs px 47 _ :: Cs p8 27 _ :: Cs p4 27 _ :: Tb 27 3 qv _ l :: St (l.map Qq) :: Qq (.mk op n (.slice ao m c) ks) :: L) from hS1).re [2]).drop.re [3])); clear hS1)
        | (refine toList (by rfl) ?_; refine apTb (f := qv) (xs := l) hS _ _ _ _ (by rfl) _ _ (by rfl) (by rfl) (elOf (by rfl)) (by rfl) (by decide) (inOf (by rfl)) Has.z [StepD.mk op n (.slice ao m c) ks] (qv_len _) (by exact .inl (hS.csRd0 (n := 1) (sz := 3) (Has.s Has.z) (by decide) rfl)) (by exact (show ∀ u ∈ [Value.int .i64 op, .int .i64 n, .slice ao m c], u.oneCell' = true from stp_all op n ao m c)) (by simp; omega) (by simp; omega) ?_; intro v5 w1 hS1; clear hS; have hS := (show Sat W w1 (Tb 27 3 qv v5 (l ++ [StepD.mk op n (.slice ao m c) ks]) :: Cs b1 27 _ :: Cs px 47 _ :: Cs p4 27 _ :: St (l.map Qq) :: Qq (.mk op n (.slice ao m c) ks) :: L) from hS1); clear hS1; have hS2 := (show Sat W w1 (Cs px 47 _ :: Cs p4 27 _ :: Tb 27 3 qv v5 (l ++ [StepD.mk op n (.slice ao m c) ks]) :: St (l.map Qq ++ [Qq (.mk op n (.slice ao m c) ks)]) :: L) from (((hS.re [1]).drop.re [4, 3]).stSnoc).re [2, 3, 1]); clear hS; have hS := hS2; clear hS2; obtain ⟨a6, c6, rfl, _⟩ := hS.tbShape (k := 2) rfl)
        | (go_at_call 66; refine (HSG.out _ _ _ _ _ hS HB2.out.2).mono ?_; rintro e w1 ⟨v, rfl, J3, b3, rfl, h1, h2, h3, hS1⟩; have HB3 := Lib.hid (And.intro h1 (And.intro h2 (fun (_ : True) => h3))); clear h1 h2 h3; clear hS; have hS := hS1; clear hS1))
      have e := cellN_eq (hS.cell (k := 0) (off := 1) Has.z rfl)
      have q1 := HB.out
      have q2 := HB2.out
      obtain ⟨q3, q4, q5⟩ := HB3.out
      have q6 := HL6.out
      refine ⟨⟨l ++ [.mk op n (.slice ao m c) ks], b3, J3, B2, rfl, by omega, q4, by simp; omega, (fun hb => ?_), by simpa using hS⟩, ?_⟩
      · have := q5 trivial hb
        simp; omega
      · rw [HJ.out, e]
        cases b3 with
        | true =>
          have := q5 trivial rfl
          show 2 * (s.size - J3) + 1 < 2 * (s.size - J) + 1
          omega
        | false =>
          show 2 * (s.size - J3) + 0 < 2 * (s.size - J) + 1
          omega
    | false =>
      clear h4 h1 h2 h3
      by_cases h1 : l.length = 1
      · obtain ⟨q, rfl⟩ : ∃ q, l = [q] := List.length_eq_one_iff.1 h1
        clear h1
        have h6 : Sat W wr (Qq q :: Cs px 47 _ :: Cs p4 27 _ :: Tb 27 3 qv _ [q] :: L) := (show Sat W wr (Qq q :: ([] ++ (Cs px 47 _ :: Cs p4 27 _ :: Tb 27 3 qv _ [q] :: L))) from (hS.re [3]).open)
        obtain ⟨ao, m, c, hu⟩ := (Qq.read h6 (k := 0) rfl 0).shape
        obtain ⟨op, n, u, ks⟩ := q
        replace hu : u = .slice ao m c := hu
        subst hu
        clear hS
        have hS := h6
        clear h6
        obtain ⟨b5, o5, c6, he, _⟩ := hS.tbAddr (k := 3) rfl (by simp)
        simp only [List.length_cons, List.length_nil, Nat.zero_add, Value.slice.injEq, true_and] at he hS
        obtain ⟨rfl, rfl⟩ := he
        go_wp2_with (first
          | (refine toList (by rfl) ?_; refine wp_of_reads (rLdTbA (f := qv) (xs := [.mk op n (.slice ao m c) ks]) (x := .mk op n (.slice ao m c) ks) (off := o5) hS _ _ (by rfl) _ _ (by rfl) (agOf (by rfl)) (szOf (by rfl)) (Has.s (Has.s (Has.s Has.z))) 0 (by rfl) (by rfl)) ?_)
          | (refine toList (by rfl) ?_; refine stW hS _ _ _ (by rfl) (by rfl) [.int .i64 op, .int .i64 n, .slice ao m c] (by rfl) (stp_all _ _ _ _ _) (szOf (by rfl)) (Has.s (Has.s Has.z)) (by rfl) ?_; intro w1 hS1; clear hS; have hS := hS1; clear hS1; dsimp only [List.set_cons_zero, List.set_cons_succ] at hS))
        refine bodyPost_cell (b := p4) (vs := [.int .i64 op, .int .i64 n, .slice ao m c]) hS rfl (by rfl) (agOf (by rfl)) (szOf (by rfl)) (Has.s (Has.s Has.z)) (by rfl) rfl ?_
        exact ⟨_, rfl, op, n, ao, m, c, ks, J, B, rfl, HB.out.1, HB.out.2, ((hS.re [2, 3]).drop.drop.re [1])⟩
      · have k1 : ¬ (l.length : Int) = 1 := by omega
        have k2 : ((l.length : Int) == 1) = false := beq_eq_false_iff_ne.2 k1
        have k3 : (l.length == 1) = false := beq_eq_false_iff_ne.2 h1
        clear h1
        go_wp2_with (refine toList (by rfl) ?_; refine stW hS _ _ _ (by rfl) (by rfl) [.int .i64 6, .int .i64 0, .slice a5 l.length c5] (by rfl) (stp_all _ _ _ _ _) (szOf (by rfl)) (Has.s Has.z) (by rfl) ?_; intro w1 hS1; clear hS; have hS := hS1; clear hS1; dsimp only [List.set_cons_zero, List.set_cons_succ] at hS)
        refine bodyPost_cell (b := p4) (vs := [.int .i64 6, .int .i64 0, .slice a5 l.length c5]) hS rfl (by rfl) (agOf (by rfl)) (szOf (by rfl)) (Has.s Has.z) (by rfl) rfl ?_
        have hQ := Qq.row 6 0 (hS.re [2, 3])
        exact ⟨_, rfl, 6, 0, a5, l.length, c5, l, J, B, rfl, HB.out.1, HB.out.2, ((hQ.re [2]).drop.re [1])⟩
set_option maxRecDepth 20000 in
set_option maxHeartbeats 2000000 in
theorem or_rd {W : World} {s : ByteArray} {f : Nat} (hst : StC W 47 s 33 #[.int .i64 6] f) : StC W 47 s 14 #[] f := by
  intro w px I B L hI hf hS
  have HSUB := Lib.hid (fun w L (hS : Sat W w (Cs px 47 [.string s, .int .i64 (I : Int), .int .i64 B] :: L)) => show Calls Tryz.prog 33 #[.pointer (some ⟨px, 0, none⟩), .int .i64 6] w _ from hst w px I B L hI hf hS)
  clear hI hst hf
  show Calls Tryz.prog 14 #[.pointer (some ⟨px, 0, none⟩)] w _
  go_enter Tryz.func14, Tryz.ntmps14
  go_wp2_with (first
    | (refine toList (by rfl) ?_; refine al (show Sat W _ (Cs px 47 _ :: L) from hS) _ (by rfl) (zrOf (T := 27) (by rfl)) ?_; intro p2 w1 hS1; clear hS; have hS := (show Sat W w1 (Cs px 47 _ :: Cs p2 27 [.int .i64 0, .int .i64 0, .slice none 0 0] :: L) from hS1.re [1]); clear hS1)
    | (go_at_call 33; refine (HSUB.out _ _ hS).mono ?_; rintro e w1 ⟨v, rfl, op, n, ao, m, c, ks, J, B1, rfl, h1, h2, hS1⟩; have HB := Lib.hid (And.intro h1 h2); clear h1 h2; clear hS; have hS := (show Sat W w1 (Cs px 47 _ :: Cs p2 27 _ :: Qq _ :: L) from hS1.re [0, 2]); clear hS1)
    | (refine toList (by rfl) ?_; refine stW hS _ _ _ (by rfl) (by rfl) [.int .i64 op, .int .i64 n, .slice ao m c] (by rfl) (stp_all _ _ _ _ _) (szOf (by rfl)) (Has.s Has.z) (by rfl) ?_; intro w1 hS1; clear hS; have hS := hS1; clear hS1; dsimp only [List.set_cons_zero, List.set_cons_succ] at hS))
  refine bodyPost_cell (b := p2) (vs := [.int .i64 op, .int .i64 n, .slice ao m c]) hS rfl (by rfl) (agOf (by rfl)) (szOf (by rfl)) (Has.s Has.z) (by rfl) rfl ?_
  exact ⟨_, rfl, op, n, ao, m, c, ks, J, B1, rfl, HB.out.1, HB.out.2, ((hS.re [1]).drop)⟩
/-- The reader reads, wherever it stands. -/
theorem or_any {W : World} {s : ByteArray} (hs : s.size ≤ 200) : ∀ f, StC W 47 s 14 #[] f := by
  intro f
  induction f using Nat.strongRecOn with
  | _ f ih => exact or_rd (row6_rd hs (row7_rd hs (star_rd hs (atom_any hs ih))))
end Go.Proofs.YtpnbdnfgdiakhaaGreat
namespace Go.Proofs.YtpnbdnfgdiakhaaGreat
open Go.RowKit Go.Sep
set_option linter.unusedSimpArgs false
set_option linter.unusedVariables false
attribute [local irreducible] Go.Oper.wp Go.wpList Go.Calls Go.Code.wp Go.Sep.Reg
theorem bodyPost_ctt {P : Program} {W w : World} {L : List Asrt} {a : Act} {fn : Func} {R : Ending → World → Prop} {p u t : Tmp} {ty : TypeId} {k b E n : Nat} {vs : List Value} (hS : Sat W w L) (h : fn.results = #[.cell p ty, .tmp u, .tmp t]) (ha : a.tmps.getD p undef = .pointer (some ⟨b, 0, none⟩))
    (hT : aggB P ty = some true) (hn : szB P ty = some n) (hk : Has L k (Cs b E vs)) (hl : vs.length = n) (hd : a.defers = []) (hR : R (.returned (.tuple #[.agg vs.toArray, a.tmps.getD u undef, a.tmps.getD t undef])) w) : bodyPost P fn R .ret a w := by
  refine bodyPost_ret ?_ hd hR
  have := run_loadAgg (P := P) (w := w) (b := b) (off := 0) hT hn hl (fun j v hv => by rw [Nat.zero_add]; exact hS.cell hk hv)
  have ha' : a.tmps[p]?.getD undef = .pointer (some ⟨b, 0, none⟩) := by rw [← ha]; simp
  simp [results, h, ha', asAddr, this]
theorem hasA2 (L' M : List Asrt) (A B : Asrt) : Has (L' ++ A :: B :: M) (L'.length + 1) B := by
  unfold Has
  rw [List.getElem?_append_right (by omega)]
  simp
def PrsP (W : World) (L : List Asrt) (v : Value) (w' : World) : Prop :=
  ∃ (op n : Int) (ao : Option Addr) (m c : Nat) (ks : List StepD) (x y : Int), v = .tuple #[.agg #[.int .i64 op, .int .i64 n, .slice ao m c], .int .i64 x, .int .i64 y] ∧ Sat W w' (Qq (.mk op n (.slice ao m c) ks) :: L)
set_option maxRecDepth 20000 in
set_option maxHeartbeats 8000000 in
theorem parse_any {W w : World} {L : List Asrt} (hS : Sat W w L) (s : ByteArray) (hsm : s.size ≤ 9223372036854775807) :
    Calls Tryz.prog 5 #[.string s] w fun e w' => ∃ v, e = .returned v ∧ PrsP W L v w' := by
  have hsl : (s.size : Int) ≤ 9223372036854775807 := by omega
  by_cases hs : s.size ≤ 200
  · have k1 : ¬ (200 : Int) < (s.size : Int) := by omega
    have k2 : decide ((200 : Int) < (s.size : Int)) = false := decide_eq_false k1
    have k3 : decide (200 < s.size) = false := decide_eq_false (by omega)
    have HOR := Lib.hid (fun w px L (hS : Sat W w (Cs px 47 [.string s, .int .i64 ((0 : Nat) : Int), .int .i64 (-1)] :: L)) => show Calls Tryz.prog 14 #[.pointer (some ⟨px, 0, none⟩)] w _ from or_any hs s.size w px 0 (-1) L (Nat.zero_le _) (Nat.sub_le _ _) hS)
    have HBL := Lib.hid (fun w px L (J : Nat) (B : Int) (hS : Sat W w (Cs px 47 [.string s, .int .i64 (J : Int), .int .i64 B] :: L)) (hJ : J ≤ s.size) => blanks_any hS hJ hs)
    have HWR := Lib.hid (fun w px L (J : Nat) (B : Int) (hS : Sat W w (Cs px 47 [.string s, .int .i64 (J : Int), .int .i64 B] :: L)) (hJ : J ≤ s.size) => wrong_any hS hJ hs)
    have HCK := Lib.hid (fun w (A : Asrt) L op n ao m c ks (hS : Sat W w (A :: Qq (.mk op n (.slice ao m c) ks) :: L)) => show Calls Tryz.prog 17 #[.agg #[.int .i64 op, .int .i64 n, .slice ao m c]] w _ from rcheck_any hS (.mk op n (.slice ao m c) ks) (fun w L' h => Qq.read h (hasA2 L' _ _ _) 12))
    clear hs
    go_enter Tryz.func5, Tryz.ntmps5
    go_wp2_with (first
      | (refine toList (by rfl) ?_; refine al (show Sat W _ L from hS) _ (by rfl) (zrOf (T := 27) (by rfl)) ?_; intro p2 w1 hS1; clear hS; have hS := (show Sat W w1 (Cs p2 27 [.int .i64 0, .int .i64 0, .slice none 0 0] :: L) from hS1); clear hS1)
      | (refine toList (by rfl) ?_; refine bx (show Sat W _ (Cs p2 _ _ :: L) from hS) _ _ (by rfl) _ (by first | exact evC | exact evT (by rfl)) ?_; intro px w1 hS1; clear hS; have hS := (show Sat W w1 (Cs px 47 [.string s, .int .i64 ((0 : Nat) : Int), .int .i64 (-1)] :: Cs p2 27 [.int .i64 0, .int .i64 0, .slice none 0 0] :: L) from hS1); clear hS1)
      | (go_at_call 14; refine (HOR.out _ _ _ hS).mono ?_; rintro e w1 ⟨v, rfl, op, n, ao, m, c, ks, J, B, rfl, h1, h2, hS1⟩; have HB := Lib.hid h2; clear h1 h2; clear hS; have hS := (show Sat W w1 (Cs px 47 _ :: Qq _ :: Cs p2 27 _ :: L) from hS1); clear hS1)
      | (refine toList (by rfl) ?_; refine al (show Sat W _ (Cs px 47 _ :: Qq _ :: Cs p2 27 _ :: L) from hS) _ (by rfl) (zrOf (T := 27) (by rfl)) ?_; intro p6 w1 hS1; clear hS; have hS := (show Sat W w1 (Cs px 47 _ :: Qq _ :: Cs p2 27 _ :: Cs p6 27 [.int .i64 0, .int .i64 0, .slice none 0 0] :: L) from hS1.re [1, 2, 3]); clear hS1)
      | (refine toList (by rfl) ?_; refine stW hS _ _ _ (by rfl) (by rfl) [.int .i64 op, .int .i64 n, .slice ao m c] (by rfl) (stp_all _ _ _ _ _) (szOf (by rfl)) (Has.s (Has.s (Has.s Has.z))) (by rfl) ?_; intro w1 hS1; clear hS; have hS := hS1; clear hS1; dsimp only [List.set_cons_zero, List.set_cons_succ] at hS)
      | (refine toList (by rfl) ?_; refine stW hS _ _ _ (by rfl) (by rfl) [.int .i64 op, .int .i64 n, .slice ao m c] (by rfl) (stp_all _ _ _ _ _) (szOf (by rfl)) (Has.s (Has.s Has.z)) (by rfl) ?_; intro w1 hS1; clear hS; have hS := hS1; clear hS1; dsimp only [List.set_cons_zero, List.set_cons_succ] at hS)
      | (refine toList (by rfl) ?_; refine stW hS _ _ _ (by rfl) (by rfl) [.int .i64 0, .int .i64 0, .slice none 0 0] (by rfl) (stp_all _ _ _ _ _) (szOf (by rfl)) (Has.s (Has.s Has.z)) (by rfl) ?_; intro w1 hS1; clear hS; have hS := hS1; clear hS1; dsimp only [List.set_cons_zero, List.set_cons_succ] at hS)
      | (go_at_call 15; refine (HBL.out _ _ _ _ _ hS HB.out).mono ?_; rintro e w1 ⟨u, rfl, J2, h1, h2, hS1⟩; have HB2 := Lib.hid h2; clear h1 h2; clear hS; have hS := hS1; clear hS1)
      | (go_at_call 16; refine (HWR.out _ _ _ _ _ hS HB2.out).mono ?_; rintro e w1 ⟨u, rfl, J3, B3, h1, h2, hS1⟩; clear h1 h2; clear hS; have hS := hS1; clear hS1)
      | (refine toList (by rfl) ?_; refine ld hS _ _ (by rfl) _ _ (by rfl) (agOf (by rfl)) (by repeat first | exact Has.z | apply Has.s) (by rfl) ?_)
      | (refine toList (by rfl) ?_; refine wp_of_reads (rLdA hS _ _ (by rfl) _ _ (by rfl) (agOf (by rfl)) (szOf (by rfl)) (Has.s (Has.s (Has.s Has.z))) (vs := [.int .i64 op, .int .i64 n, .slice ao m c]) (by rfl) (by rfl)) ?_)
      | (go_at_call 17; refine (HCK.out _ _ _ _ _ _ _ _ _ hS).mono ?_; rintro e w1 ⟨rfl, hS1⟩; clear hS; have hS := hS1; clear hS1))
    all_goals first
      | (skip
         refine bodyPost_ctt (b := p2) hS rfl (by rfl) (agOf (by rfl)) (szOf (by rfl)) (Has.s (Has.s Has.z)) (by rfl) rfl ?_
         first
         | exact ⟨_, rfl, op, n, ao, m, c, ks, 0, 0, rfl, (hS.re [0, 2, 3]).drop.drop.drop⟩
         | exact ⟨_, rfl, 0, 0, none, 0, 0, [], _, _, rfl, Qq.nil (hS.drop.drop.drop.drop) 0 0⟩)
      | (skip
         refine regStart [] hS (by kernel_rfl) rfl ?_
         intro w1 hS1
         clear hS; have hS := hS1; clear hS1
         (refine rgP 0 hS (fun _ h => h) ?_; go_frame)
         (refine rgP 1 hS (fun _ h => h) ?_; go_frame)
         (refine rgP 2 hS (fun _ h => h) ?_; go_frame)
         (refine rgP 3 hS (fun _ h => h) ?_; go_frame)
         (refine rgR 4 hS (fun _ h => h) ?_; (refine ⟨_, yLd _ _ (by rfl) _ _ (by rfl) (agOf (by rfl)) (by repeat first | exact Has.z | apply Has.s) (by rfl), ?_⟩); go_frame)
         (refine rgA 5 false fun K hK => ?_; (refine stW hS _ _ _ (by rfl) (by rfl) [.int .i64 0, .int .i64 0, .slice none 0 0] (by rfl) (stp_all _ _ _ _ _) (szOf (by rfl)) (Has.s (Has.s Has.z)) (by rfl) ?_; intro w1 hS1; clear hS; have hS := hS1; clear hS1; dsimp only [List.set_cons_zero, List.set_cons_succ] at hS); refine hK _ _ _ hS (by first | (intro h; cases h; done) | exact fun _ _ h => h | exact fun _ _ h => h.drop | exact fun _ _ h => h.drop.drop | exact fun _ _ h => h.drop.pull1 | exact fun _ _ h => h.take2 | exact fun _ _ h => h.one Has.z | exact fun _ _ h => h.one (Has.s Has.z) | exact fun _ _ h => h.one (Has.s (Has.s Has.z))) ?_; clear hK K; go_frame)
         (refine rgP 6 hS (fun _ h => h) ?_; go_frame)
         (refine rgP 7 hS (fun _ h => h) ?_; go_frame)
         refine regDone (by kernel_rfl) ?_
         go_wp2
         refine bodyPost_ctt (b := p2) hS rfl (by rfl) (agOf (by rfl)) (szOf (by rfl)) (Has.s (Has.s Has.z)) (by rfl) rfl ?_
         exact ⟨_, rfl, 0, 0, none, 0, 0, [], _, _, rfl, Qq.nil (hS.drop.drop.drop.drop) 0 0⟩)
  · have k1 : (200 : Int) < (s.size : Int) := by omega
    have k2 : decide ((200 : Int) < (s.size : Int)) = true := decide_eq_true k1
    have k3 : decide (200 < s.size) = true := decide_eq_true (by omega)
    clear hs
    go_enter Tryz.func5, Tryz.ntmps5
    go_wp2_with (first
      | (refine toList (by rfl) ?_; refine al (show Sat W _ L from hS) _ (by rfl) (zrOf (T := 27) (by rfl)) ?_; intro p2 w1 hS1; clear hS; have hS := hS1; clear hS1)
      | (refine toList (by rfl) ?_; refine stW hS _ _ _ (by rfl) (by rfl) [.int .i64 0, .int .i64 0, .slice none 0 0] (by rfl) (stp_all _ _ _ _ _) (szOf (by rfl)) Has.z (by rfl) ?_; intro w1 hS1; clear hS; have hS := hS1; clear hS1; dsimp only [List.set_cons_zero, List.set_cons_succ] at hS))
    refine bodyPost_ctt (b := p2) hS rfl (by rfl) (agOf (by rfl)) (szOf (by rfl)) Has.z (by rfl) rfl ?_
    exact ⟨_, rfl, 0, 0, none, 0, 0, [], 0, 14, rfl, Qq.nil hS.drop 0 0⟩
end Go.Proofs.YtpnbdnfgdiakhaaGreat
