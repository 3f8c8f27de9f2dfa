/-
  For every number, StoreMounts answers true: no condition.
-/
import Derived.Test.YtnjhlloonhamlaaGreatMMad
import Derived.Test.YtnjhlloonhamlaaGreatMSep
import Derived.Test.YtnjhlloonhamlaaGreatMReg
namespace Go.Proofs.YtnjhlloonhamlaaGreat
open Go.RowKit Go.Sep Go.ChangeShapes Go.WideShapes Go.ChangeAt
set_option linter.unusedSimpArgs false
set_option linter.unusedVariables false
attribute [local irreducible] Go.Oper.wp Go.wpList Go.Calls Go.Code.wp Go.Sep.Reg
theorem mount_live {S : StD} {D : DiskS} {B : List (List UInt8)} {gs : List Nat} {k : Nat} (hok : SOk B S gs) (hl : Lv D B k) (hm : S.sup.mounts < 16777215) :
    ∃ D' B', mountR S D = (0, { S with sup := supM S.sup }, D') ∧ Lv D' B' (k + 42) ∧ SOk B' { S with sup := supM S.sup } gs ∧ B'.length = B.length := by
  have hs := supM_ok hok.sup hm
  have hn := hok.n1
  obtain ⟨D', h1, h2⟩ := commit_live hl (by omega) (hok.cmt1 (supM S.sup))
  refine ⟨D', cmtB B [(0, encS (supM S.sup))], ?_, h2, hok.put0 hs rfl rfl rfl rfl, cmtB_len _ _⟩
  unfold mountR
  rw [if_neg (by omega), h1]
  rfl
def StM (i : Nat) : StD := { S0 200 with sup := ⟨200, 74, 74, 0, 0, 1, (i : Int)⟩ }
theorem stM_next (i : Nat) : ({ StM i with sup := supM (StM i).sup } : StD) = StM (i + 1) := rfl
def MtI (W : World) (L : List Asrt) (pd p6 k : Nat) (v4 v7 : Value) (wz : World) : Prop :=
  ∃ (i ps : Nat) (D : DiskS) (B : List (List UInt8)), v7 = .int .i64 (i : Int) ∧ v4 = .pointer (some ⟨ps, 0, none⟩) ∧ i ≤ k ∧ Lv D B (60 + 42 * i) ∧ SOk B (StM i) [74] ∧ Sat W wz (IsSt ps pd (StM i) :: IsDisk pd D :: Cs p6 28 [.int .i64 200, .int .i64 74, .int .i64 74, .int .i64 0, .int .i64 0, .int .i64 1, .int .i64 0] :: L)
def mtM (k : Nat) (v : Value) : Nat := k - (intOf v).toNat
theorem mtM_lt {k i : Nat} (h : i < k) : mtM k (.int .i64 ((i + 1 : Nat) : Int)) < mtM k (.int .i64 (i : Int)) := by
  unfold mtM
  show k - (((i + 1 : Nat) : Int)).toNat < k - ((i : Int)).toNat
  rw [Int.toNat_natCast, Int.toNat_natCast]
  omega
theorem fldM (w : World) (i : Int) : (Instr.field 28 (.agg #[.int .i64 200, .int .i64 74, .int .i64 74, .int .i64 0, .int .i64 0, .int .i64 1, .int .i64 i]) 6).run Tryz.prog w = .ok (.int .i64 i) w := by kernel_rfl
set_option maxRecDepth 20000 in
set_option maxHeartbeats 4000000 in
theorem Mounts.walk (n : Int) (W : World) :
    Calls Tryz.prog 3 #[.int .i64 n] W fun e w' => e = .returned (.bool true) ∧ Sat W w' [] := by
  have hS := Sat.start W
  have HP := Lib.hid (fun w => place_any n 12 (by decide) (by decide) w)
  obtain ⟨k, hk⟩ : ∃ k : Nat, n % 12 = (k : Int) := ⟨(n % 12).toNat, by omega⟩
  rw [hk] at HP
  have k12 : (k : Int) < 12 := by omega
  have HK := Lib.hid (show k < 12 by omega)
  have HMD := Lib.hid (made_any hS (n := 200) (by decide) (by decide))
  have HSU := Lib.hid (fun w ps pd i L (h : Sat W w (IsSt ps pd (StM i) :: L)) => ssuper_any h (sok_fmt (n := 200) (by decide) (by decide)).x)
  have HSU : Hid (∀ w ps pd i L, Sat W w (IsSt ps pd (StM i) :: L) → Calls Tryz.prog 10 #[.pointer (some ⟨ps, 0, none⟩)] w fun e w' => e = .returned (.agg #[.int .i64 200, .int .i64 74, .int .i64 74, .int .i64 0, .int .i64 0, .int .i64 1, .int .i64 (i : Int)]) ∧ Sat W w' (IsSt ps pd (StM i) :: L)) := HSU
  have HFR := Lib.hid (fun w ps pd i L (h : Sat W w (IsSt ps pd (StM i) :: L)) => sfree_any (n := 200) h rfl (by decide) (by decide))
  have HFR : Hid (∀ w ps pd i L, Sat W w (IsSt ps pd (StM i) :: L) → Calls Tryz.prog 13 #[.pointer (some ⟨ps, 0, none⟩)] w fun e w' => e = .returned (.int .i64 125) ∧ Sat W w' (IsSt ps pd (StM i) :: L)) := Lib.hid (fun w ps pd i L h => by
    have := HFR.out w ps pd i L h
    rw [show (freeL (StM i).U 200).length = 125 from free0 (n := 200) (by decide) (by decide)] at this
    exact this)
  have HRC := Lib.hid (fun w ps pd i L (h : Sat W w (IsSt ps pd (StM i) :: L)) => srecs_any h (sok_fmt (n := 200) (by decide) (by decide)).x (Nat.zero_le _))
  have HMT := Lib.hid (fun w ps pd i k D B L (hok : SOk B (StM i) [74]) (hl : Lv D B k) (hk : k ≤ 90000) (h : Sat W w (IsSt ps pd (StM i) :: IsDisk pd D :: L)) => smounted_any h hok.x hl.ok hk hok.sup)
  clear hk
  go_enter Tryz.func3, Tryz.ntmps3
  go_wp2_with (first
    | (go_at_call 8; refine HMD.out.mono ?_; rintro e w1 hE; obtain ⟨pd, ps, D, rfl, hl, hS1⟩ := hE; have HL := Lib.hid hl; clear hl; clear hS; have hS := hS1; clear hS1)
    | (go_at_call 9; refine (HP.out _).mono ?_; rintro e w1 ⟨rfl, rfl⟩)
    | (go_at_call 10; refine (HSU.out _ _ _ 0 _ hS).mono ?_; rintro e w1 ⟨rfl, hS1⟩; clear hS; have hS := hS1; clear hS1)
    | (refine toList (by rfl) ?_; refine al hS _ (by rfl) (zrOf (by rfl)) ?_; intro p6 w1 hS1; clear hS; have hS := hS1; clear hS1; rw [cells_agg] at hS)
    | (refine toList (by rfl) ?_; refine stW hS _ _ _ (by rfl) (by rfl) [.int .i64 200, .int .i64 74, .int .i64 74, .int .i64 0, .int .i64 0, .int .i64 1, .int .i64 0] (by rfl) (by intro v hv; simp only [List.mem_cons, List.not_mem_nil, or_false] at hv; rcases hv with rfl | rfl | rfl | rfl | rfl | rfl | rfl <;> rfl) (szOf (by rfl)) Has.z (by rfl) ?_; intro w1 hS1; clear hS; have hS := hS1; clear hS1; dsimp only [List.set_cons_zero] at hS))
  have H0 := Lib.hid (hS.re [1, 2, 0])
  clear hS
  go_loopw [4, 7] (fun v4 v7 wz => MtI W [] pd p6 k v4 v7 wz) (fun _ v7 _ => mtM k v7)
  case atStart => exact ⟨0, ps, D, fmtB 200, rfl, rfl, Nat.zero_le _, HL.out, sok_fmt (n := 200) (by decide) (by decide), H0.out⟩
  case round =>
    clear H0 HL
    obtain ⟨i, ps, D, B, rfl, rfl, hi, hl, hok, hS⟩ := hrel
    by_cases hlt : i < k
    · have k1 : (i : Int) < (k : Int) := by omega
      have HLT := Lib.hid hlt
      have hk12 := HK.out
      obtain ⟨D', B', hm1, hm2, hm3, _⟩ := mount_live hok hl (show (i : Int) < 16777215 by omega)
      have HM1 := Lib.hid (HMT.out _ _ _ _ _ _ _ _ hok hl (by omega) hS)
      rw [hm1, stM_next] at HM1
      have HM2 := Lib.hid hm2
      have HM3 := Lib.hid hm3
      have HO := Lib.hid (fun w L (h : Sat W w (IsDisk pd D' :: L)) => open_live HM3.out HM2.out (by omega) h)
      rw [stM_next] at HO HM3
      have hfd := fun w => fldM w ((i : Int) + 1)
      clear hlt hi hl hok hm1 hm2 hm3 hk12
      go_wp2_with (first
        | (go_at_call 11; refine HM1.out.mono ?_; rintro e w1 ⟨rfl, hS1⟩; clear hS; have hS := hS1; clear hS1)
        | (go_at_call 10; refine (HSU.out _ _ _ (i + 1) _ hS).mono ?_; rintro e w1 ⟨rfl, hS1⟩; clear hS; have hS := hS1; clear hS1)
        | (go_at_call 12; refine (HO.out _ _ hS.pull1).mono ?_; rintro e w1 hE; obtain ⟨ps2, rfl, hS1⟩ := hE; clear hS; have hS := hS1; clear hS1))
      exact ⟨⟨i + 1, ps2, D', B', by go_num, rfl, HLT.out, HM2.out, HM3.out, (hS.re [2, 0, 1]).drop⟩, mtM_lt HLT.out⟩
    · obtain rfl : i = k := by omega
      have k1 : ¬ (i : Int) < (i : Int) := by omega
      clear hlt hi hl hok
      go_wp2_with (refine toList (by rfl) ?_; refine Go.Sep.st hS _ _ _ (by rfl) _ _ (by rfl) _ (by first | exact evC | exact evT (by rfl)) (by rfl) (szOf (by rfl)) (Has.s (Has.s Has.z)) (by decide) ?_; intro w1 hS1; clear hS; have hS := hS1; clear hS1; dsimp only [List.set_cons_zero, List.set_cons_succ] at hS)
      refine regStart [6] hS (by kernel_rfl) rfl ?_
      intro w1 hS1
      clear hS; have hS := hS1; clear hS1
      (refine regP 0 hS (fun _ h => h) rfl (by kernel_rfl) (by kernel_rfl) (by kernel_rfl) (fun _ _ _ _ h => h) (by rfl) (by rfl) ?_; apply Exists.intro; apply And.intro; (intro w; go_simp; try with_reducible rfl); go_frame)
      (refine regR 2 hS (fun _ h => h) rfl (by kernel_rfl) (by kernel_rfl) (by kernel_rfl) (by kernel_rfl) (by kernel_rfl) (fun _ _ _ _ h => h) (by rfl) (by rfl) ?_; (refine ⟨_, yLdA _ _ (by rfl) _ _ (by rfl) (agOf (by rfl)) (szOf (by rfl)) (Has.s (Has.s Has.z)) (vs := [.int .i64 200, .int .i64 74, .int .i64 74, .int .i64 0, .int .i64 0, .int .i64 1, .int .i64 (i : Int)]) (by rfl) (by rfl), ?_⟩); go_frame)
      (refine regA 1 rfl (by kernel_rfl) (by rfl) (by rfl) false (by kernel_rfl) (fun K hK => ?_); (first
                    | (refine Go.Sep.cl 10 _ _ (by rfl) (by rfl) (by kernel_rfl) (HSU.out _ _ _ i _ hS) ?_; rintro e w1 ⟨rfl, hS1⟩; clear hS; have hS := hS1; clear hS1; refine ⟨_, rfl, ?_⟩)
                    | (refine Go.Sep.cl 13 _ _ (by rfl) (by rfl) (by kernel_rfl) (HFR.out _ _ _ i _ hS) ?_; rintro e w1 ⟨rfl, hS1⟩; clear hS; have hS := hS1; clear hS1; refine ⟨_, rfl, ?_⟩)
                    | (refine Go.Sep.cl 14 _ _ (by rfl) (by rfl) (by kernel_rfl) (HRC.out _ _ _ i _ hS) ?_; rintro e w1 ⟨vr, rfl, hS1⟩; clear hS; have hS := hS1; clear hS1; obtain ⟨aor, cr, rfl, _⟩ := hS.tbShape (k := 0) rfl; refine ⟨_, rfl, ?_⟩)
                    | (refine Go.Sep.cl 15 _ _ (by rfl) (by rfl) (by kernel_rfl) (awake_any hS) ?_; rintro e w1 ⟨rfl, hS1⟩; clear hS; have hS := hS1; clear hS1; refine ⟨_, rfl, ?_⟩)); refine hK _ _ _ hS (by first | (intro h; cases h; done) | exact fun _ _ h => h | exact fun _ _ h => h.drop | exact fun _ _ h => h.drop.drop | exact fun _ _ h => h.drop.pull1 | exact fun _ _ h => h.take2 | exact fun _ _ h => h.one Has.z | exact fun _ _ h => h.one (Has.s Has.z) | exact fun _ _ h => h.one (Has.s (Has.s Has.z))) ?_; clear hK K; go_frame)
      (refine regP 3 hS (fun _ h => h) rfl (by kernel_rfl) (by kernel_rfl) (by kernel_rfl) (fun _ _ _ _ h => h) (by rfl) (by rfl) ?_; apply Exists.intro; apply And.intro; (intro w; go_simp; try with_reducible rfl); go_frame)
      (refine regP 4 hS (fun _ h => h) rfl (by kernel_rfl) (by kernel_rfl) (by kernel_rfl) (fun _ _ _ _ h => h) (by rfl) (by rfl) ?_; apply Exists.intro; apply And.intro; (intro w; go_simp; try with_reducible rfl); go_frame)
      (first | (refine regP 5 hS (fun _ h => h) rfl (by kernel_rfl) (by kernel_rfl) (by kernel_rfl) (fun _ _ _ _ h => h) (by rfl) (by rfl) ?_; apply Exists.intro; apply And.intro; (intro w; go_simp; try with_reducible rfl); go_frame) | (refine regN 5 hS (fun _ h => h) rfl (by kernel_rfl) (by kernel_rfl) (by kernel_rfl) (fun _ _ _ h => h) (by rfl) (by rfl) ?_; go_frame))
      (first | (refine regA 6 rfl (by kernel_rfl) (by rfl) (by rfl) true (by kernel_rfl) (fun K hK => ?_); (first
                    | (refine Go.Sep.cl 10 _ _ (by rfl) (by rfl) (by kernel_rfl) (HSU.out _ _ _ i _ hS) ?_; rintro e w1 ⟨rfl, hS1⟩; clear hS; have hS := hS1; clear hS1; refine ⟨_, rfl, ?_⟩)
                    | (refine Go.Sep.cl 13 _ _ (by rfl) (by rfl) (by kernel_rfl) (HFR.out _ _ _ i _ hS) ?_; rintro e w1 ⟨rfl, hS1⟩; clear hS; have hS := hS1; clear hS1; refine ⟨_, rfl, ?_⟩)
                    | (refine Go.Sep.cl 14 _ _ (by rfl) (by rfl) (by kernel_rfl) (HRC.out _ _ _ i _ hS) ?_; rintro e w1 ⟨vr, rfl, hS1⟩; clear hS; have hS := hS1; clear hS1; obtain ⟨aor, cr, rfl, _⟩ := hS.tbShape (k := 0) rfl; refine ⟨_, rfl, ?_⟩)
                    | (refine Go.Sep.cl 15 _ _ (by rfl) (by rfl) (by kernel_rfl) (awake_any hS) ?_; rintro e w1 ⟨rfl, hS1⟩; clear hS; have hS := hS1; clear hS1; refine ⟨_, rfl, ?_⟩)); refine hK _ _ _ hS (by first | (intro h; cases h; done) | exact fun _ _ h => h | exact fun _ _ h => h.drop | exact fun _ _ h => h.drop.drop | exact fun _ _ h => h.drop.pull1 | exact fun _ _ h => h.take2 | exact fun _ _ h => h.one Has.z | exact fun _ _ h => h.one (Has.s Has.z) | exact fun _ _ h => h.one (Has.s (Has.s Has.z))) ?_; clear hK K; go_frame) | (refine regN 6 hS (fun _ h => h) rfl (by kernel_rfl) (by kernel_rfl) (by kernel_rfl) (fun _ _ _ h => h) (by rfl) (by rfl) ?_; go_frame))
      (first | (refine regP 7 hS (fun _ h => h) rfl (by kernel_rfl) (by kernel_rfl) (by kernel_rfl) (fun _ _ _ _ h => h) (by rfl) (by rfl) ?_; apply Exists.intro; apply And.intro; (intro w; go_simp; try with_reducible rfl); go_frame) | (refine regN 7 hS (fun _ h => h) rfl (by kernel_rfl) (by kernel_rfl) (by kernel_rfl) (fun _ _ _ h => h) (by rfl) (by rfl) ?_; go_frame))
      (refine regP 8 hS (fun _ h => h) rfl (by kernel_rfl) (by kernel_rfl) (by kernel_rfl) (fun _ _ _ _ h => h) (by rfl) (by rfl) ?_; apply Exists.intro; apply And.intro; (intro w; go_simp; try with_reducible rfl); go_frame)
      (refine regP 9 hS (fun _ h => h) rfl (by kernel_rfl) (by kernel_rfl) (by kernel_rfl) (fun _ _ _ _ h => h) (by rfl) (by rfl) ?_; apply Exists.intro; apply And.intro; (intro w; go_simp; try with_reducible rfl); go_frame)
      (first | (refine regP 10 hS (fun _ h => h) rfl (by kernel_rfl) (by kernel_rfl) (by kernel_rfl) (fun _ _ _ _ h => h) (by rfl) (by rfl) ?_; apply Exists.intro; apply And.intro; (intro w; go_simp; try with_reducible rfl); go_frame) | (refine regN 10 hS (fun _ h => h) rfl (by kernel_rfl) (by kernel_rfl) (by kernel_rfl) (fun _ _ _ h => h) (by rfl) (by rfl) ?_; go_frame))
      (first | (refine regA 11 rfl (by kernel_rfl) (by rfl) (by rfl) false (by kernel_rfl) (fun K hK => ?_); (first
                    | (refine Go.Sep.cl 10 _ _ (by rfl) (by rfl) (by kernel_rfl) (HSU.out _ _ _ i _ hS) ?_; rintro e w1 ⟨rfl, hS1⟩; clear hS; have hS := hS1; clear hS1; refine ⟨_, rfl, ?_⟩)
                    | (refine Go.Sep.cl 13 _ _ (by rfl) (by rfl) (by kernel_rfl) (HFR.out _ _ _ i _ hS) ?_; rintro e w1 ⟨rfl, hS1⟩; clear hS; have hS := hS1; clear hS1; refine ⟨_, rfl, ?_⟩)
                    | (refine Go.Sep.cl 14 _ _ (by rfl) (by rfl) (by kernel_rfl) (HRC.out _ _ _ i _ hS) ?_; rintro e w1 ⟨vr, rfl, hS1⟩; clear hS; have hS := hS1; clear hS1; obtain ⟨aor, cr, rfl, _⟩ := hS.tbShape (k := 0) rfl; refine ⟨_, rfl, ?_⟩)
                    | (refine Go.Sep.cl 15 _ _ (by rfl) (by rfl) (by kernel_rfl) (awake_any hS) ?_; rintro e w1 ⟨rfl, hS1⟩; clear hS; have hS := hS1; clear hS1; refine ⟨_, rfl, ?_⟩)); refine hK _ _ _ hS (by first | (intro h; cases h; done) | exact fun _ _ h => h | exact fun _ _ h => h.drop | exact fun _ _ h => h.drop.drop | exact fun _ _ h => h.drop.pull1 | exact fun _ _ h => h.take2 | exact fun _ _ h => h.one Has.z | exact fun _ _ h => h.one (Has.s Has.z) | exact fun _ _ h => h.one (Has.s (Has.s Has.z))) ?_; clear hK K; go_frame) | (refine regN 11 hS (fun _ h => h) rfl (by kernel_rfl) (by kernel_rfl) (by kernel_rfl) (fun _ _ _ h => h) (by rfl) (by rfl) ?_; go_frame))
      (first | (refine regP 12 hS (fun _ h => h) rfl (by kernel_rfl) (by kernel_rfl) (by kernel_rfl) (fun _ _ _ _ h => h) (by rfl) (by rfl) ?_; apply Exists.intro; apply And.intro; (intro w; go_simp; try with_reducible rfl); go_frame) | (refine regN 12 hS (fun _ h => h) rfl (by kernel_rfl) (by kernel_rfl) (by kernel_rfl) (fun _ _ _ h => h) (by rfl) (by rfl) ?_; go_frame))
      (first | (refine regP 13 hS (fun _ h => h) rfl (by kernel_rfl) (by kernel_rfl) (by kernel_rfl) (fun _ _ _ _ h => h) (by rfl) (by rfl) ?_; apply Exists.intro; apply And.intro; (intro w; go_simp; try with_reducible rfl); go_frame) | (refine regN 13 hS (fun _ h => h) rfl (by kernel_rfl) (by kernel_rfl) (by kernel_rfl) (fun _ _ _ h => h) (by rfl) (by rfl) ?_; go_frame))
      (refine regP 14 hS (fun _ h => h) rfl (by kernel_rfl) (by kernel_rfl) (by kernel_rfl) (fun _ _ _ _ h => h) (by rfl) (by rfl) ?_; apply Exists.intro; apply And.intro; (intro w; go_simp; try with_reducible rfl); go_frame)
      (refine regP 15 hS (fun _ h => h) rfl (by kernel_rfl) (by kernel_rfl) (by kernel_rfl) (fun _ _ _ _ h => h) (by rfl) (by rfl) ?_; apply Exists.intro; apply And.intro; (intro w; go_simp; try with_reducible rfl); go_frame)
      (first | (refine regA 16 rfl (by kernel_rfl) (by rfl) (by rfl) false (by kernel_rfl) (fun K hK => ?_); (first
                    | (refine Go.Sep.cl 10 _ _ (by rfl) (by rfl) (by kernel_rfl) (HSU.out _ _ _ i _ hS) ?_; rintro e w1 ⟨rfl, hS1⟩; clear hS; have hS := hS1; clear hS1; refine ⟨_, rfl, ?_⟩)
                    | (refine Go.Sep.cl 13 _ _ (by rfl) (by rfl) (by kernel_rfl) (HFR.out _ _ _ i _ hS) ?_; rintro e w1 ⟨rfl, hS1⟩; clear hS; have hS := hS1; clear hS1; refine ⟨_, rfl, ?_⟩)
                    | (refine Go.Sep.cl 14 _ _ (by rfl) (by rfl) (by kernel_rfl) (HRC.out _ _ _ i _ hS) ?_; rintro e w1 ⟨vr, rfl, hS1⟩; clear hS; have hS := hS1; clear hS1; obtain ⟨aor, cr, rfl, _⟩ := hS.tbShape (k := 0) rfl; refine ⟨_, rfl, ?_⟩)
                    | (refine Go.Sep.cl 15 _ _ (by rfl) (by rfl) (by kernel_rfl) (awake_any hS) ?_; rintro e w1 ⟨rfl, hS1⟩; clear hS; have hS := hS1; clear hS1; refine ⟨_, rfl, ?_⟩)); refine hK _ _ _ hS (by first | (intro h; cases h; done) | exact fun _ _ h => h | exact fun _ _ h => h.drop | exact fun _ _ h => h.drop.drop | exact fun _ _ h => h.drop.pull1 | exact fun _ _ h => h.take2 | exact fun _ _ h => h.one Has.z | exact fun _ _ h => h.one (Has.s Has.z) | exact fun _ _ h => h.one (Has.s (Has.s Has.z))) ?_; clear hK K; go_frame) | (refine regN 16 hS (fun _ h => h) rfl (by kernel_rfl) (by kernel_rfl) (by kernel_rfl) (fun _ _ _ h => h) (by rfl) (by rfl) ?_; go_frame))
      (refine regP 17 hS (fun _ h => h) rfl (by kernel_rfl) (by kernel_rfl) (by kernel_rfl) (fun _ _ _ _ h => h) (by rfl) (by rfl) ?_; apply Exists.intro; apply And.intro; (intro w; go_simp; try with_reducible rfl); go_frame)
      (refine regP 18 hS (fun _ h => h) rfl (by kernel_rfl) (by kernel_rfl) (by kernel_rfl) (fun _ _ _ _ h => h) (by rfl) (by rfl) ?_; apply Exists.intro; apply And.intro; (intro w; go_simp; try with_reducible rfl); go_frame)
      refine regDone (by kernel_rfl) ?_
      go_wp2
      go_ret
      exact ⟨rfl, hS.map fun _ _ => trivial⟩

set_option maxRecDepth 100000 in
theorem Mounts.contract (H : Type) (enc : TypeId × Value → H) (W : World) (base : Nat) (args : Array Value) (ds gs : List (DataW H)) (before : List MemPlace)
    (hval : ∀ (j : Nat) t v, Tryz.f3.params[j]? = some t → args[j]? = some v → Value.okWide Tryz.prog W .any base t v)
    (hW : DataW.Whole enc Tryz.prog Tryz.f3.params.toList Rows.storeMountsSpec.vars false W args.toList ds gs before)
    (hreach : (DataW.weightsEach Tryz.prog (Tryz.f3.params.toList ++ Rows.storeMountsSpec.plain.varTypes Tryz.prog) (ds ++ gs)).all (· ≤ reachBytes) = true) :
    Calls Tryz.prog 3 args W fun e W' => ∃ v, e = .returned v ∧ Rows.storeMountsSpec.post enc Tryz.prog Tryz.f3 false true false false W args v W' := by
  have hW' := hW
  obtain ⟨p, q, hA, hV, rfl, hfz, hnd⟩ := hW
  rw [Tryz.params3] at hA hval hreach
  obtain ⟨v1, vs1, d1, ds1, p1, q1, hargs, rfl, rfl, h1, r1⟩ := trodAll_cons hA
  obtain ⟨rfl, rfl, rfl⟩ := trodAll_nil r1
  obtain rfl : args = #[v1] := by cases args; simp_all
  obtain ⟨rfl, rfl⟩ := trodVars_none hV
  obtain ⟨a1, rfl, rfl, rfl, w1⟩ := open_int Tryz.underlying3 (hval 0 3 v1 rfl rfl) h1
  refine (Mounts.walk a1 W).mono ?_
  refine fun e W' ⟨he, hS⟩ => ?_
  subst he
  exact ⟨_, rfl, law_post (tb := 4) (by kernel_rfl) (by kernel_rfl) rfl Tryz.underlying4 rfl hW' rfl hS⟩

theorem Mounts.own : ownKnob Tryz.prog.godebug = none := by kernel_rfl
set_option maxRecDepth 100000 in
theorem Mounts.lifted (os : Os) (started : os.Started) (H : Type) (enc : TypeId × Value → H) :
    ReturnsInHanded {} Tryz.checked os 3 .any (Rows.storeMountsSpec.pre6 enc Tryz.prog Tryz.f3 Rows.storeMountsRow.domain false) (Rows.storeMountsSpec.post enc Tryz.prog Tryz.f3 false true false false) := by
  refine returnsInHanded_of_change_shaped (C := Tryz.checked) Mounts.own started (by kernel_rfl) Tryz.func3
    (ChangeSpec.witness6 (enc := enc) (C := Tryz.checked) false ⟨#[], #[.int .i64 0], []⟩ 8 (by kernel_rfl) (by kernel_rfl) (by kernel_rfl) (by kernel_rfl)) ?_
  intro W base args ds gs before hval hW _ hreach _ _
  exact Mounts.contract H enc W base args ds gs before hval hW hreach

theorem Mounts.holds : Rows.StoreMountsSaid :=
  OpenClaim.holds_of_wide 3 Tryz.f3 rfl rfl rfl rfl rfl rfl rfl ⟨rfl, rfl, rfl, rfl, rfl⟩ rfl rfl rfl rfl rfl (by kernel_rfl) Tryz.func3 (by kernel_rfl)
    (of_decide_eq_true (by kernel_rfl)) (by unfold Func.isWrapper; first | (rw [if_pos (by decide +kernel)]; kernel_rfl) | (rw [if_neg (by decide +kernel)]; exact ⟨rfl, rfl⟩))
    (fun os started H enc _ => Mounts.lifted os started H enc)
end Go.Proofs.YtnjhlloonhamlaaGreat
