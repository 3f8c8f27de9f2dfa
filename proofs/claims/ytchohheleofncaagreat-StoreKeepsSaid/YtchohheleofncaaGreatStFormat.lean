/-
 Package store: Format.
-/
import Derived.Test.YtchohheleofncaaGreatMIng
import Derived.Test.YtchohheleofncaaGreatMGrc
import Derived.Test.YtchohheleofncaaGreatMReg
set_option linter.unusedSimpArgs false
set_option linter.unusedVariables false
namespace Go.Proofs.YtchohheleofncaaGreat
open Go.RowKit Go.Sep
attribute [local irreducible] Go.Oper.wp Go.wpList Go.Calls Go.Code.wp Go.Sep.Reg
theorem rdNilR (w : World) : Rd w (.slice none 0 0) 0 3 (([] : List RecD).flatMap rv) := ⟨none, 0, rfl, Nat.le_refl _, by decide, rfl, fun h => absurd h (Nat.lt_irrefl 0)⟩
theorem okPut0 : okPut [] 0 = true := by decide
theorem putB0 : putB [] 0 = encB [] 0 := putB_yes okPut0
def FmtI (W : World) (L : List Asrt) (p n : Nat) (v6 v8 : Value) (w' : World) : Prop :=
 ∃ (i : Nat) (D : DiskS), v6 = .int .i64 (i : Int) ∧ i ≤ 48 ∧ Lv D (fmtN n i) (3 + i) ∧ Sat W w' (IsDisk p D :: Sl 5 1 v8 128 (bv (encS (sup0 n))) :: L)
set_option maxRecDepth 100000 in
def fmtJ (W : World) (L : List Asrt) (p n : Nat) : Act → World → Prop := (fun (a' : Act) (w' : World) => (FmtI W L p n (a'.tmps.getD 6 undef) (a'.tmps.getD 8 undef) w') ∧ a' = ⟨#[.pointer (some ⟨p, 0, none⟩), (a'.tmps.getD 1 undef), .int .i64 0, (a'.tmps.getD 3 undef), (a'.tmps.getD 4 undef), (a'.tmps.getD 5 undef), (a'.tmps.getD 6 undef), .int .i64 0, (a'.tmps.getD 8 undef), (a'.tmps.getD 9 undef), (a'.tmps.getD 10 undef), (a'.tmps.getD 11 undef), (a'.tmps.getD 12 undef), (a'.tmps.getD 13 undef), (a'.tmps.getD 14 undef), (a'.tmps.getD 15 undef), (a'.tmps.getD 16 undef), (a'.tmps.getD 17 undef), (a'.tmps.getD 18 undef), (a'.tmps.getD 19 undef), (a'.tmps.getD 20 undef), (a'.tmps.getD 21 undef), (a'.tmps.getD 22 undef), (a'.tmps.getD 23 undef), (a'.tmps.getD 24 undef), (a'.tmps.getD 25 undef), (a'.tmps.getD 26 undef), (a'.tmps.getD 27 undef), (a'.tmps.getD 28 undef), (a'.tmps.getD 29 undef), (a'.tmps.getD 30 undef), (a'.tmps.getD 31 undef), (a'.tmps.getD 32 undef), (a'.tmps.getD 33 undef), (a'.tmps.getD 34 undef), (a'.tmps.getD 35 undef), (a'.tmps.getD 36 undef), (a'.tmps.getD 37 undef), (a'.tmps.getD 38 undef), (a'.tmps.getD 39 undef), (a'.tmps.getD 40 undef), (a'.tmps.getD 41 undef), (a'.tmps.getD 42 undef), (a'.tmps.getD 43 undef), (a'.tmps.getD 44 undef), (a'.tmps.getD 45 undef), (a'.tmps.getD 46 undef), (a'.tmps.getD 47 undef), (a'.tmps.getD 48 undef), (a'.tmps.getD 49 undef), (a'.tmps.getD 50 undef), (a'.tmps.getD 51 undef), (a'.tmps.getD 52 undef), (a'.tmps.getD 53 undef), (a'.tmps.getD 54 undef), (a'.tmps.getD 55 undef), (a'.tmps.getD 56 undef), (a'.tmps.getD 57 undef), (a'.tmps.getD 58 undef), (a'.tmps.getD 59 undef), (a'.tmps.getD 60 undef), (a'.tmps.getD 61 undef), (a'.tmps.getD 62 undef), (a'.tmps.getD 63 undef), undef, undef, undef, undef, undef, undef], []⟩)
def FmtE (W : World) (L : List Asrt) (p n : Nat) (w' : World) : Prop := ∃ D, Lv D (fmtB n) 52 ∧ Sat W w' (IsDisk p D :: L)
set_option maxRecDepth 20000 in
set_option maxHeartbeats 4000000 in
theorem format_any {W w : World} {L : List Asrt} {p n : Nat} {D : DiskS} (hS : Sat W w (IsDisk p D :: L)) (hD : Lv D (List.replicate n (zeros 128)) 0) (h1 : 160 ≤ n) (h2 : n ≤ 1024) :
  Calls Tryz.prog 22 #[.pointer (some ⟨p, 0, none⟩)] w fun e w' => e = .returned (.int .i64 0) ∧ FmtE W L p n w' := by
 have HD := Lib.hid hD
 have HDB := Lib.hid (show (D.blocks.length : Int) = (n : Int) by rw [hD.bl, List.length_replicate])
 have n1 : (160 : Int) ≤ (n : Int) := by omega
 have n2 : (n : Int) ≤ 1024 := by omega
 have HN1 := Lib.hid h1
 have HN2 := Lib.hid h2
 have HOS := Lib.hid (okSup0 h1 h2)
 have HES := Lib.hid (supB_yes (okSup0 h1 h2))
 have HW1 := Lib.hid (hD.wrote (n := 2) (by rw [List.length_replicate]; omega) (zeros 128))
 have HW2 := Lib.hid (HW1.out.wrote (n := 1) (by rw [List.length_set, List.length_replicate]; omega) (mapB (U0 n)))
 have HW3 := Lib.hid (HW2.out.wrote (n := 74) (by rw [List.length_set, List.length_set, List.length_replicate]; omega) (encB [] 0))
 have HDB2 := Lib.hid (show ((D.wrote 2 (zeros 128)).blocks.length : Int) = (n : Int) by rw [HW1.out.bl, List.length_set, List.length_replicate])
 clear hD h1 h2
 go_enter Tryz.func22, Tryz.ntmps22
 go_wp2
 refine wp_scope_jumps3 0 (fmtJ W L p n) (fun a' _ => 48 - (intOf (a'.tmps.getD 6 undef)).toNat) rfl ?_ ?_
 ·clear hS
  intro a w hinv
  unfold fmtJ at hinv
  obtain ⟨hrel, ha⟩ := hinv
  obtain ⟨z, hz⟩ : ∃ z : Nat → Value, ∀ i, a.tmps.getD i undef = z i := ⟨_, fun _ => rfl⟩
  simp only [hz] at hrel ha
  clear hz
  subst ha
  obtain ⟨i, D', h6, hi, hl, hS⟩ := hrel
  rw [h6]
  have HL := Lib.hid hl
  obtain ⟨v8, hv8⟩ : ∃ v, z 8 = v := ⟨_, rfl⟩
  rw [hv8] at hS ⊢
  clear h6 hl hv8
  by_cases hlt : i < 48
  ·have j1 : (i : Int) < 48 := by omega
   have HLT := Lib.hid hlt
   have HN := Lib.hid (show fmtN n (i + 1) = (fmtN n i).set (26 + i) (encI (inoAt i)) from rfl)
   have HZ := Lib.hid (show zeroB Tryz.prog 33 = some (some (.agg (inv zeroI).toArray)) by kernel_rfl)
   have HB0 := Lib.hid (show ∀ u : World, (Instr.build 33 #[]).run Tryz.prog u = .ok (.agg (inv zeroI).toArray) u from fun u => run_build u _ _ _ (by kernel_rfl))
   have HBR := Lib.hid (show ∀ u : World, (Instr.build 33 #[(0, .int .i64 2), (2, .int .i64 1), (3, .int .i64 1)]).run Tryz.prog u = .ok (.agg (inv rootI).toArray) u from fun u => run_build u _ _ _ (by kernel_rfl))
   by_cases h0 : i = 0
   ·subst h0
    clear hlt hi
    go_wp2_with (first
     | (refine toList (by rfl) ?_; refine bd _ _ (by rfl) (by simp only [List.map_toArray, List.map_cons, List.map_nil]; rfl) HB0.out ?_)
     | (refine toList (by rfl) ?_; refine bd _ _ (by rfl) (by simp only [List.map_toArray, List.map_cons, List.map_nil]; rfl) HBR.out ?_)
     | (refine toList (by rfl) ?_; refine al hS _ (by rfl) HZ.out ?_; clear hS; intro px w1 hS; rw [cells_agg] at hS)
     | (refine toList (by rfl) ?_; refine stA hS _ _ _ (by rfl) _ _ (by rfl) (inv zeroI) (by rfl) (inv_one _) (by exact szOf (by rfl)) Has.z (by decide) ?_; clear hS; intro w1 hS; rw [List.set_cons_zero, show (List.take 0 (inv zeroI) ++ inv zeroI ++ List.drop (0 + (inv zeroI).length) (inv zeroI)) = inv zeroI from rfl] at hS)
     | (refine toList (by rfl) ?_; refine stA hS _ _ _ (by rfl) _ _ (by rfl) (inv rootI) (by rfl) (inv_one _) (by exact szOf (by rfl)) Has.z (by decide) ?_; clear hS; intro w1 hS; rw [List.set_cons_zero, show (List.take 0 (inv zeroI) ++ inv rootI ++ List.drop (0 + (inv rootI).length) (inv zeroI)) = inv rootI from rfl] at hS)
     | (refine toList (by rfl) ?_; refine ldA hS _ _ (by rfl) _ _ (by rfl) (agOf (by rfl)) (szOf (by rfl)) Has.z (by decide) ?_)
     | (go_at_call 39; refine (iput_any hS rootI okI_root).mono ?_; rintro e w1 ⟨v11, rfl, hS1⟩; clear hS; have hS := hS1.re [2, 0, 1]; clear hS1)
     | (go_at_call 37; refine (dwrite_any hS HL.out (by omega) (n := 26 + 0) (by omega) (by rw [fmtN_len]; have := HN1.out; omega) _ (encI rootI) (fun w h => h.slRd (k := 0) rfl)).mono ?_; clear hS; rintro e w1 ⟨rfl, hS⟩))
    go_step3
    refine And.intro rfl (And.intro ⟨⟨0 + 1, _, rfl, HLT.out, HL.out.wrote (n := 26 + 0) (by rw [fmtN_len]; have := HN1.out; omega) _, (hS.re [1, 2]).drop.drop⟩, rfl⟩ ?_)
    have := HLT.out
    simp [intOf]
    try omega
   ·have e0 : ((i : Int) == 0) = false := beq_eq_false_iff_ne.2 (by omega)
    have HA := Lib.hid (show inoAt i = zeroI from if_neg h0)
    clear hlt hi h0
    go_wp2_with (first
     | (refine toList (by rfl) ?_; refine bd _ _ (by rfl) (by simp only [List.map_toArray, List.map_cons, List.map_nil]; rfl) HB0.out ?_)
     | (refine toList (by rfl) ?_; refine bd _ _ (by rfl) (by simp only [List.map_toArray, List.map_cons, List.map_nil]; rfl) HBR.out ?_)
     | (refine toList (by rfl) ?_; refine al hS _ (by rfl) HZ.out ?_; clear hS; intro px w1 hS; rw [cells_agg] at hS)
     | (refine toList (by rfl) ?_; refine stA hS _ _ _ (by rfl) _ _ (by rfl) (inv zeroI) (by rfl) (inv_one _) (by exact szOf (by rfl)) Has.z (by decide) ?_; clear hS; intro w1 hS; rw [List.set_cons_zero, show (List.take 0 (inv zeroI) ++ inv zeroI ++ List.drop (0 + (inv zeroI).length) (inv zeroI)) = inv zeroI from rfl] at hS)
     | (refine toList (by rfl) ?_; refine stA hS _ _ _ (by rfl) _ _ (by rfl) (inv rootI) (by rfl) (inv_one _) (by exact szOf (by rfl)) Has.z (by decide) ?_; clear hS; intro w1 hS; rw [List.set_cons_zero, show (List.take 0 (inv zeroI) ++ inv rootI ++ List.drop (0 + (inv rootI).length) (inv zeroI)) = inv rootI from rfl] at hS)
     | (refine toList (by rfl) ?_; refine ldA hS _ _ (by rfl) _ _ (by rfl) (agOf (by rfl)) (szOf (by rfl)) Has.z (by decide) ?_)
     | (go_at_call 39; refine (iput_any hS zeroI okI_zero).mono ?_; rintro e w1 ⟨v11, rfl, hS1⟩; clear hS; have hS := hS1.re [2, 0, 1]; clear hS1)
     | (go_at_call 37; refine (dwrite_any hS HL.out (by omega) (n := 26 + i) (by omega) (by rw [fmtN_len]; have := HN1.out; omega) _ (encI zeroI) (fun w h => h.slRd (k := 0) rfl)).mono ?_; clear hS; rintro e w1 ⟨rfl, hS⟩))
    go_step3
    refine And.intro rfl (And.intro ⟨⟨i + 1, _, by go_num, HLT.out, by rw [HN.out, HA.out]; exact HL.out.wrote (by rw [fmtN_len]; have := HN1.out; have := HLT.out; omega) _, (hS.re [1, 2]).drop.drop⟩, rfl⟩ ?_)
    have := HLT.out
    simp [intOf]
    try omega
  ·obtain rfl : i = 48 := by omega
   clear hlt hi
   go_wp2_with (go_at_call 37; refine (dwrite_any hS HL.out (by decide) (a := 0) (n := 0) rfl (by rw [fmtN_len]; have := HN1.out; omega) _ (encS (sup0 n)) (fun w h => h.slRd (k := 0) rfl)).mono ?_; clear hS; rintro e w1 ⟨rfl, hS⟩)
   simp only [Exit.jump]
   go_ret
   exact ⟨rfl, _, HL.out.wrote (by rw [fmtN_len]; have := HN1.out; omega) _, (hS.pull1).drop⟩
 ·intro HP
  go_wp2_with (first
   | (go_at_call 46; refine (blocks_any hS HDB.out).mono ?_; rintro e w1 ⟨rfl, rfl⟩)
   | (go_at_call 47; refine (bnew_any hS n (by omega)).mono ?_; clear hS; rintro e w1 ⟨v3, rfl, hS⟩)
   | (go_at_call 56; refine (bset_any hS 74 (by omega) true).mono ?_; clear hS; rintro e w1 ⟨rfl, hS⟩)
   | (go_at_call 55; refine (rput_any hS [] none 0 (fun w h => rdNilR w) (by decide) 0).mono ?_; rintro e w1 ⟨v4, rfl, hS1⟩; rw [okPut0]; rw [putB0, encB_len 0 (by decide)] at hS1; clear hS; have hS := hS1; clear hS1)
   | (refine toList (by rfl) ?_; refine mk hS _ _ _ (by rfl) 128 128 _ _ (by rfl) (by rfl) (elOf (by rfl)) (by omega) (by omega) (by omega) ?_; intro pz w1 hS1; clear hS; rw [made_u8] at hS1; have hS : Sat W w1 (IsDisk p D :: Cs pz 5 (bv (zeros 128)) :: Sl 5 1 v4 128 (bv (encB [] 0)) :: IsMap v3 (U0 n) :: L) := hS1.re [3, 0, 1, 2]; clear hS1)
   | (go_at_call 37; refine (dwrite_any hS HD.out (by decide) (a := 2) (n := 2) rfl (by rw [List.length_replicate]; have := HN1.out; omega) _ (zeros 128) (fun w h => h.csRd0 (n := 128) (sz := 1) Has.z (by decide) (by simp [bv_length, zeros]))).mono ?_; clear hS; rintro e w1 ⟨rfl, hS⟩)
   | (go_at_call 46; refine (blocks_any hS HDB2.out).mono ?_; rintro e w1 ⟨rfl, rfl⟩)
   | (go_at_call 57; refine (sput_s hS (sup0 n)).mono ?_; rintro e w1 ⟨v8, rfl, hS1⟩; rw [HOS.out]; rw [HES.out, encS_len] at hS1; clear hS; have hS := hS1.pull1; clear hS1)
   | (go_at_call 37; refine (dwrite_any hS HW1.out (by decide) (a := 1) (n := 1) rfl (by rw [List.length_set, List.length_replicate]; have := HN1.out; omega) _ (mapB (U0 n)) (fun w h => by unfold IsMap at h; exact h.slRd (k := 3) rfl)).mono ?_; clear hS; rintro e w1 ⟨rfl, hS⟩)
   | (go_at_call 37; refine (dwrite_any hS HW2.out (by decide) (a := 74) (n := 74) rfl (by rw [List.length_set, List.length_set, List.length_replicate]; have := HN1.out; omega) _ (encB [] 0) (fun w h => h.slRd (k := 2) rfl)).mono ?_; clear hS; rintro e w1 ⟨rfl, hS⟩))
  go_step3
  rename_i K hK
  exact hK _ _ (HP _ _ ⟨⟨0, _, rfl, Nat.zero_le _, HW3.out, (hS.re [2, 3, 4, 0, 1]).drop.drop.drop⟩, rfl⟩)
end Go.Proofs.YtchohheleofncaaGreat
