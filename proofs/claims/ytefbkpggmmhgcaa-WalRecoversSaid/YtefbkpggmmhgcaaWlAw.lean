/-
  Package pedigreelaw07: awake, blocks.
-/
import Derived.Test.YtefbkpggmmhgcaaWlArg
import Derived.Laws.Concat
namespace Go.Proofs.Ytefbkpggmmhgcaa
open Go.RowKit Go.Sep
set_option linter.unusedSimpArgs false
set_option linter.unusedVariables false
attribute [local irreducible] Go.Oper.wp Go.wpList Go.Calls Go.Code.wp Go.Sep.Reg
theorem StW.zero {B0 B : List (List UInt8)} {g : G2} (h : StW B0 g 0 B) : B[2]? = some (zeros 128) ∧ SameOut B (putL B0 g) := by
  rcases h with ⟨h1, h2 | ⟨h2, _⟩⟩ | ⟨h2, _⟩
  · exact ⟨h1, h2⟩
  · exact absurd rfl h2
  · exact absurd rfl h2
/-- What a disk is like that was never cut. -/
structure Free (D : DiskS) : Prop where
  inv : Inv D
  dead : D.dead = false
  left : D.left = -1
  len : D.blocks.length = 160
  zero : D.blocks[2]? = some (zeros 128)
def disk0 : DiskS := { blocks := List.replicate 160 (zeros 128), base := [], writes := [], left := -1, dead := false }
theorem free0 : Free disk0 := ⟨Inv.new 160 (by decide), rfl, rfl, by simp [disk0], by simp [disk0]⟩
theorem Free.dg {D : DiskS} (h : Free D) {k : Nat} (hk : D.writes.length ≤ k) : DG D k := ⟨h.inv.ok, by rw [h.left]; decide, by rw [h.left]; decide, hk⟩
theorem commit_free {D : DiskS} {g : G2} (h : Free D) (hg : okG 160 g = true) : (commitR D g).1 = 0 ∧ (commitR D g).2.writes.length = D.writes.length + (2 * g.length + 2) ∧
    (∀ (i : Nat) (x : Int × List UInt8), g[i]? = some x → (commitR D g).2.blocks[x.1.toNat]? = some x.2) ∧ Free (commitR D g).2 ∧ SameOut (commitR D g).2.blocks (putL D.blocks g) := by
  have hg' : okG D.blocks.length g = true := by rw [h.len]; exact hg
  have e : commitR D g = runW D (commitL g) := by unfold commitR; rw [hg', if_pos rfl]
  rw [e]
  obtain ⟨j, hj, hb, hw, hc, hf⟩ := run_any (commitL g) D h.dead (good_commitL hg' (by rw [h.len]; decide))
  obtain ⟨f1, f2, f3⟩ := hf h.left
  have hz := hc.2 f1
  have hs := StW.commit h.dead hg' (by rw [h.len]; decide) h.zero
  rw [hz] at hs
  obtain ⟨z1, z2⟩ := hs.zero
  have hcl : (commitL g).length = 2 * g.length + 2 := by unfold commitL doneL; simp [logL_len]; omega
  refine ⟨hz, by rw [hw, f1, hcl], fun i x hx => ?_, ⟨Inv.run _ h.inv, f2, f3, by rw [run_len, h.len], z1⟩, z2⟩
  rw [z2 _ (okG_out hg' (List.mem_of_getElem? hx))]
  exact putL_at hg' D.blocks rfl hx
theorem Free.reco {D : DiskS} (h : Free D) : recB D = false ∧ recR D = (0, D) := by
  obtain ⟨h1, h2⟩ := rec_zero h.zero
  exact ⟨by unfold recB; rw [h1]; rfl, h2⟩
theorem g1_ok : okG 160 [((100 : Int), zeros 128)] = true := by decide +kernel
theorem one_rdg {W w : World} {L : List Asrt} {b1 pb : Nat} (h : Sat W w (Cs b1 40 (gw ⟨100, .slice (some ⟨pb, 0, none⟩) 128 128, zeros 128⟩) :: Cs pb 5 (bv (zeros 128)) :: L)) : RdG w (.slice (some ⟨b1, 0, none⟩) 1 1) [⟨100, .slice (some ⟨pb, 0, none⟩) 128 128, zeros 128⟩] := by
  refine ⟨h.csRd0 (n := 1) (sz := 2) Has.z (by decide) rfl, fun x hx => ?_⟩
  rw [List.mem_singleton.1 hx]
  have hz : (zeros 128).length = 128 := by simp [zeros]
  show Rd w (.slice (some ⟨pb, 0, none⟩) 128 128) (zeros 128).length 1 (bv (zeros 128))
  rw [hz]
  exact h.csRd0 (n := 128) (sz := 1) (Has.s Has.z) (by decide) (by rw [bv_length, hz])
set_option maxRecDepth 20000 in
set_option maxHeartbeats 2000000 in
theorem wawake_any {W w : World} {L : List Asrt} (hS : Sat W w L) : Calls Try.prog 9 #[] w fun e w' => e = .returned (.bool true) ∧ Sat W w' L := by
  obtain ⟨c1, c2, c3, c4, c5⟩ := commit_free free0 g1_ok
  have HCM := Lib.hid (fun (p b1 pb : Nat) w (h : Sat W w (IsDisk p disk0 :: Cs b1 40 (gw ⟨100, .slice (some ⟨pb, 0, none⟩) 128 128, zeros 128⟩) :: Cs pb 5 (bv (zeros 128)) :: L)) => (show Calls Try.prog 13 #[.pointer (some ⟨p, 0, none⟩), .slice (some ⟨b1, 0, none⟩) 1 1] w fun e w' => e = .returned (.int .i64 0) ∧ Sat W w' (IsDisk p (commitR disk0 [((100 : Int), zeros 128)]).2 :: Cs b1 40 (gw ⟨100, .slice (some ⟨pb, 0, none⟩) 128 128, zeros 128⟩) :: Cs pb 5 (bv (zeros 128)) :: L) by
    have := wcommit_any h (free0.dg (k := 0) (Nat.le_refl _)) (by decide) [⟨100, .slice (some ⟨pb, 0, none⟩) 128 128, zeros 128⟩] (some ⟨b1, 0, none⟩) 1 (fun w h => one_rdg h) (by simp)
    rw [show g2 [⟨100, .slice (some ⟨pb, 0, none⟩) 128 128, zeros 128⟩] = [((100 : Int), zeros 128)] from rfl, c1] at this
    exact this))
  have c2' : ((commitR disk0 [((100 : Int), zeros 128)]).2.writes.length : Int) = 4 := by rw [c2]; rfl
  have HRC := Lib.hid c4.reco
  have HDG := Lib.hid (c4.dg (k := 4) (by omega))
  have HLN := Lib.hid c4.len
  have HW4 := Lib.hid c2'
  obtain ⟨D1, hD1⟩ : ∃ D1, (commitR disk0 [((100 : Int), zeros 128)]).2 = D1 := ⟨_, rfl⟩
  rw [hD1] at HCM HRC HDG HLN HW4
  clear c1 c2 c3 c4 c5 c2' hD1
  have HREC := Lib.hid (fun (p : Nat) w (M : List Asrt) (h : Sat W w (IsDisk p D1 :: M)) => (show Calls Try.prog 16 #[.pointer (some ⟨p, 0, none⟩)] w fun e w' => e = .returned (.tuple #[.bool false, .int .i64 0]) ∧ Sat W w' (IsDisk p D1 :: M) by
    have := wrecover_any h HDG.out (by decide) (by rw [HLN.out]; decide)
    rw [HRC.out.1, HRC.out.2] at this
    exact this))
  go_enter Try.func9, Try.ntmps9
  go_wp2_with (first
    | (go_at_call 12; refine (new_okN hS 160 (by decide) (by decide)).mono ?_; rintro e w1 ⟨p, rfl, hS1⟩; clear hS; have hS := hS1; clear hS1)
    | (refine toList (by rfl) ?_; refine mk hS _ _ _ (by rfl) 128 128 _ _ (by rfl) (by rfl) (elOf (by rfl)) (by omega) (by omega) (by omega) ?_; intro pb w1 hS1; clear hS; have hS := hS1; clear hS1; rw [made_u8] at hS)
    | (refine toList (by rfl) ?_; refine bsF hS _ _ _ (by rfl) (elOf (by rfl)) [.agg (gw ⟨100, .slice (some ⟨pb, 0, none⟩) 128 128, zeros 128⟩).toArray] (by rfl) (by rfl) (by decide) (by decide) (by intro v hv; rw [List.mem_singleton.1 hv]; rfl) ?_; intro b1 w1 hS1; clear hS; have hS := hS1; clear hS1; rw [agg1] at hS)
    | (go_at_call 13; refine (HCM.out p b1 pb _ (hS.re [2])).mono ?_; rintro e w1 ⟨rfl, hS1⟩; clear hS; have hS := hS1; clear hS1)
    | (go_at_call 14; refine (writes_any hS HW4.out).mono ?_; rintro e w1 ⟨rfl, rfl⟩)
    | (go_at_call 16; refine (HREC.out _ _ _ hS).mono ?_; rintro e w1 ⟨rfl, hS1⟩; clear hS; have hS := hS1; clear hS1))
  go_ret
  exact ⟨rfl, hS.drop.drop.drop⟩
/-! ### all blocks but the log's -/
def outP (B : List (List UInt8)) (i : Nat) : List UInt8 := (List.range i).flatMap fun i => if decide (i < 2) || decide (26 ≤ i) then B[i]?.getD [] else []
theorem outP_succ (B : List (List UInt8)) (i : Nat) : outP B (i + 1) = outP B i ++ (if decide (i < 2) || decide (26 ≤ i) then B[i]?.getD [] else []) := by simp [outP, List.range_succ]
theorem add_strv (a b : List UInt8) (w : World) (h : a.length + b.length ≤ 8000000) : (binOp .add 9 (strv a) (.string ⟨b.toArray⟩)).run Try.prog w = .ok (strv (a ++ b)) w := by
  exact run_string_add_lists w a b (by omega) (by omega)
theorem eq_strv (a b : List UInt8) (w : World) : (binOp .eql 9 (strv a) (strv b)).run Try.prog w = .ok (.bool (a == b)) w := by simp [binOp, Op.stringOp, strv]
theorem eqg_strv (a b : List UInt8) (x y : Operand) (w : World) : (eqGuard .eql 9 x y (strv a) (strv b)).run Try.prog w = .ok () w := by simp [eqGuard, strv]
theorem ne_strv (a b : List UInt8) (w : World) : (binOp .neq 9 (strv a) (strv b)).run Try.prog w = .ok (.bool (!(a == b))) w := by simp [binOp, Op.stringOp, strv]
theorem outP_len (B : List (List UInt8)) (hB : ∀ b ∈ B, b.length ≤ 128) : ∀ i, i ≤ B.length → (outP B i).length ≤ i * 128
  | 0, _ => by simp [outP]
  | i + 1, h => by
    have := outP_len B hB i (by omega)
    rw [outP_succ, List.length_append]
    have h2 : (if decide (i < 2) || decide (26 ≤ i) then B[i]?.getD [] else []).length ≤ 128 := by
      split
      · rw [List.getElem?_eq_getElem (show i < B.length by omega)]; exact hB _ (List.getElem_mem _)
      · exact Nat.zero_le _
    omega
theorem outP_all (B : List (List UInt8)) : outP B B.length = outS B := rfl
theorem IsDisk.b128 {W w : World} {L : List Asrt} {p : Nat} {D : DiskS} (h : Sat W w (IsDisk p D :: L)) : ∀ b ∈ D.blocks, b.length = 128 := fun b hb => by
  obtain ⟨u1, u2, u3, hq⟩ := IsDisk.open h
  simpa [bv_length] using hq.tbLen (k := 1) rfl b hb
set_option maxRecDepth 20000 in
set_option maxHeartbeats 2000000 in
theorem wblocks_any {W w : World} {L : List Asrt} {p : Nat} {D : DiskS} (hS : Sat W w (IsDisk p D :: L)) (hl : D.blocks.length ≤ 1024) :
    Calls Try.prog 30 #[.pointer (some ⟨p, 0, none⟩)] w fun e w' => e = .returned (strv (outS D.blocks)) ∧ Sat W w' (IsDisk p D :: L) := by
  have HL := Lib.hid hl
  have n1 : (D.blocks.length : Int) ≤ 1024 := by omega
  have HB8 := Lib.hid (IsDisk.b128 hS)
  have HPL := Lib.hid (outP_len D.blocks (fun b hb => by rw [HB8.out b hb]; exact Nat.le_refl _))
  clear hl
  go_enter Try.func30, Try.ntmps30
  go_wp2
  have H0 := Lib.hid hS
  go_loopw [3, 4] (fun v3 v4 wz => ∃ k : Nat, v4 = .int .i64 k ∧ v3 = strv (outP D.blocks k) ∧ k ≤ D.blocks.length ∧ Sat W wz (IsDisk p D :: L)) (fun _ v4 _ => D.blocks.length - (intOf v4).toNat)
  case atStart => exact ⟨0, rfl, rfl, by omega, H0.out⟩
  case round =>
    clear hS H0
    obtain ⟨k, rfl, rfl, hk, hS⟩ := hrel
    by_cases hlt : k < D.blocks.length
    · have k1 : (k : Int) < (D.blocks.length : Int) := by omega
      have HLT := Lib.hid hlt
      have HB := Lib.hid (atB_at hlt)
      have hsu := outP_succ D.blocks k
      clear hlt
      have hadd := fun w => add_strv (outP D.blocks k) (atB D k) w (by
        have h1 := HPL.out k (Nat.le_of_lt HLT.out)
        have h2 := HB8.out _ (List.mem_of_getElem? HB.out)
        have := HL.out
        omega)
      obtain ⟨x, hx⟩ : ∃ x, outP D.blocks k = x := ⟨_, rfl⟩
      rw [hx] at hsu hadd ⊢
      clear hx
      by_cases hlow : k < 2
      · have e1 : decide ((k : Int) < 2) = true := decide_eq_true (by omega)
        have HSU := Lib.hid (show outP D.blocks (k + 1) = x ++ atB D k by rw [hsu, decide_eq_true hlow]; rfl)
        clear hsu hlow
        go_wp2_with (first
          | (go_at_call 33; refine (blocks_any hS (n := D.blocks.length) rfl).mono ?_; rintro e w1 ⟨rfl, rfl⟩)
          | (go_at_call 15; refine (read_ok hS k _ HB.out HL.out).mono ?_; rintro e w1 ⟨q, rfl, hb128, hS1⟩; clear hS; have hS := hS1; clear hS1; have HB128 := Lib.hid hb128; clear hb128)
          | (refine toList (by rfl) ?_; refine cvS _ _ _ (by rfl) _ (by rfl) strBytes (by exact hS.csRd0 (n := 128) Has.z (by decide) (by rw [bv_length, HB128.out])) ?_))
        exact ⟨⟨k + 1, by go_num, by rw [HSU.out], HLT.out, hS.drop⟩, by simp [intOf]; have := HLT.out; omega⟩
      · have e1 : decide ((k : Int) < 2) = false := decide_eq_false (by omega)
        by_cases hhi : 26 ≤ k
        · have e2 : decide ((26 : Int) ≤ (k : Int)) = true := decide_eq_true (by omega)
          have HSU := Lib.hid (show outP D.blocks (k + 1) = x ++ atB D k by rw [hsu, decide_eq_true hhi, Bool.or_true]; rfl)
          clear hsu hlow hhi
          go_wp2_with (first
            | (go_at_call 33; refine (blocks_any hS (n := D.blocks.length) rfl).mono ?_; rintro e w1 ⟨rfl, rfl⟩)
            | (go_at_call 15; refine (read_ok hS k _ HB.out HL.out).mono ?_; rintro e w1 ⟨q, rfl, hb128, hS1⟩; clear hS; have hS := hS1; clear hS1; have HB128 := Lib.hid hb128; clear hb128)
            | (refine toList (by rfl) ?_; refine cvS _ _ _ (by rfl) _ (by rfl) strBytes (by exact hS.csRd0 (n := 128) Has.z (by decide) (by rw [bv_length, HB128.out])) ?_))
          exact ⟨⟨k + 1, by go_num, by rw [HSU.out], HLT.out, hS.drop⟩, by simp [intOf]; have := HLT.out; omega⟩
        · have e2 : decide ((26 : Int) ≤ (k : Int)) = false := decide_eq_false (by omega)
          have HSU := Lib.hid (show outP D.blocks (k + 1) = x by rw [hsu, decide_eq_false hlow, decide_eq_false hhi]; simp)
          clear hsu hlow hhi hadd
          go_wp2_with (first
            | (go_at_call 33; refine (blocks_any hS (n := D.blocks.length) rfl).mono ?_; rintro e w1 ⟨rfl, rfl⟩)
            | (go_at_call 15; refine (read_ok hS k _ HB.out HL.out).mono ?_; rintro e w1 ⟨q, rfl, hb128, hS1⟩; clear hS; have hS := hS1; clear hS1; have HB128 := Lib.hid hb128; clear hb128)
            | (refine toList (by rfl) ?_; refine cvS _ _ _ (by rfl) _ (by rfl) strBytes (by exact hS.csRd0 (n := 128) Has.z (by decide) (by rw [bv_length, HB128.out])) ?_))
          exact ⟨⟨k + 1, by go_num, by rw [HSU.out], HLT.out, hS⟩, by simp [intOf]; have := HLT.out; omega⟩
    · have k1 : ¬ (k : Int) < (D.blocks.length : Int) := by omega
      obtain rfl : k = D.blocks.length := by omega
      clear hlt
      go_wp2_with (first
        | (go_at_call 33; refine (blocks_any hS (n := D.blocks.length) rfl).mono ?_; rintro e w1 ⟨rfl, rfl⟩))
      go_ret
      rw [outP_all]
      exact ⟨rfl, hS⟩
end Go.Proofs.Ytefbkpggmmhgcaa
