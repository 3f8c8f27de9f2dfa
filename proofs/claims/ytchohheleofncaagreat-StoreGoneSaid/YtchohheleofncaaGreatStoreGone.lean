/-
 For every numbers and byte, StoreGone answers true: no condition.
-/
import Derived.Test.YtchohheleofncaaGreatMSet
import Derived.Test.YtchohheleofncaaGreatMSep
import Derived.Test.YtchohheleofncaaGreatMCal
import Derived.Laws.BitsAllLaws
set_option linter.unusedSimpArgs false
set_option linter.unusedVariables false
namespace Go.Proofs.YtchohheleofncaaGreat
open Go.RowKit Go.Sep Go.ChangeShapes Go.WideShapes Go.ChangeAt
attribute [local irreducible] Go.Oper.wp Go.wpList Go.Calls Go.Code.wp Go.Sep.Reg
theorem zero_eq (w : World) : (binOp .eql 33 (.agg (inv zeroI).toArray) (.agg #[.int .i64 0, .int .i64 0, .int .i64 0, .int .i64 0, .int .i64 0, .int .i64 0, .int .i64 0, .int .i64 0, .int .i64 0, .int .i64 0, .int .i64 0, .int .i64 0, .int .i64 0, .int .i64 0, .int .i64 0, .int .i64 0, .int .i64 0, .int .i64 0, .int .i64 0, .int .i64 0, .int .i64 0, .int .i64 0, .int .i64 0, .int .i64 0, .int .i64 0, .int .i64 0, .int .i64 0, .int .i64 0, .int .i64 0, .int .i64 0, .int .i64 0, .int .i64 0, .int .i64 0, .int .i64 0, .int .i64 0, .int .i64 0, .int .i64 0])).run Tryz.prog w = .ok (.bool true) w := by kernel_rfl
theorem gfree_any {W w : World} {L : List Asrt} {ps pd k c : Nat} {D : DiskS} {B : List (List UInt8)} {S : StD} (hS : Sat W w (IsSt ps pd S :: L)) (hA : StAt k 300 c [74] D B S) (v : Int) (hv : v = 225 - (c : Int)) :
  Calls Tryz.prog 13 #[.pointer (some ⟨ps, 0, none⟩)] w fun e w' => e = .returned (.int .i64 v) ∧ Sat W w' (IsSt ps pd S :: L) := by
 have h1 := hA.free
 rw [show v = ((((freeL S.U 300).length : Nat)) : Int) by rw [hv, h1.1]; have := h1.2; simp at this ⊢; omega]
 exact sfree_any (n := 300) hS hA.sup (by decide) (by decide)
theorem sets_none {w : World} {M : List Asrt} {W : World} {E b i : Nat} (h : Sat W w M) (a : Int) (h1 : Has M i (Cs b E (setv ⟨a, zeroI, [], [], .slice none 0 0, .slice none 0 0, []⟩))) : SetsRd w (.slice (some ⟨b, 0, none⟩) 1 1) [⟨a, zeroI, [], [], .slice none 0 0, .slice none 0 0, []⟩] := by
 refine ⟨?_, ?_⟩
 ·show Rd w _ 1 40 _
  rw [show [(⟨a, zeroI, [], [], .slice none 0 0, .slice none 0 0, []⟩ : SetD)].flatMap setv = setv ⟨a, zeroI, [], [], .slice none 0 0, .slice none 0 0, []⟩ by simp]
  exact h.csRd0 (n := 1) (sz := 40) h1 (by decide) (setv_len rfl)
 ·intro z hz
  rw [List.mem_singleton.1 hz]
  exact { pl := rfl, s1 := (by decide : (-9223372036854775808 : Int) ≤ 0), s2 := (by decide : (0 : Int) ≤ 9223372036854775807), p := rdNilI w, dl := rfl, d := rdNilI w, b := fun n v c hv _ => by simp at hv }
theorem gn4 {n : Nat} {d : List UInt8} {B B' : List (List UInt8)} {S' : StD} (h : PutB (S0 300) 3 n d 50 B B' S') : S'.inos[4]? = some zeroI := by
 obtain ⟨f, h1, _⟩ := h.inos
 rw [h1, List.getElem?_set_ne (by decide)]
 rfl
def GnI (W : World) (L : List Asrt) (p13 pb ps pd m : Nat) (S : StD) (D : DiskS) (v15 : Value) (wz : World) : Prop :=
 ∃ j : Nat, v15 = .int .i64 (j : Int) ∧ j ≤ m ∧ Sat W wz (Cs p13 33 (inv zeroI) :: IsSt ps pd S :: IsDisk pd D :: Cs pb 25 [.pointer (some ⟨ps, 0, none⟩)] :: L)
set_option maxRecDepth 20000 in
set_option maxHeartbeats 8000000 in
theorem Gone.walk (a b : Int) (d : UInt8) (W : World) :
  Calls Tryz.prog 4 #[.int .i64 a, .int .i64 b, .int .u8 (d.toNat : Int)] W fun e w' => e = .returned (.bool true) ∧ Sat W w' [] := by
 have hS := Sat.start W
 have HMD := Lib.hid (made_any hS (n := 300) (by decide) (by decide))
 obtain ⟨n, hn⟩ : ∃ n : Nat, a % 33 = (n : Int) := ⟨(a % 33).toNat, by omega⟩
 obtain ⟨m, hm⟩ : ∃ m : Nat, b % 33 = (m : Int) := ⟨(b % 33).toNat, by omega⟩
 have n32 : n ≤ 32 := by omega
 have m32 : m ≤ 32 := by omega
 have HP1 := Lib.hid (fun w => place_any a 33 (by decide) (by decide) w)
 have HP2 := Lib.hid (fun w => place_any b 33 (by decide) (by decide) w)
 rw [hn] at HP1
 rw [hm] at HP2
 have hxr : bits .xor .u8 (d.toNat : Int) 255 = ((d ^^^ 255).toNat : Int) := by
  rw [show (255 : Int) = ((255 : Nat) : Int) from rfl, u8_xor_nat _ _ (UInt8.toNat_lt _) (by decide), UInt8.toNat_xor]
  rfl
 have HA0 := Lib.hid (fun D (hl : Lv D (fmtB 300) 60) => StAt.new (nb := 300) (by decide) (by decide) hl)
 have HPA := Lib.hid (fun w L ps pd pb D (hl : Lv D (fmtB 300) 60) (h : Sat W w (Cs pb 25 [.pointer (some ⟨ps, 0, none⟩)] :: IsSt ps pd (S0 300) :: IsDisk pd D :: L)) => gput_any (n := 3) (m := n) h (HA0.out D hl) (by decide) (by decide) rfl n32 (by simp; omega) (by decide) d)
 have HPB := Lib.hid (fun w L ps pd pb D B S1 (hA : StAt (60 + n + 42) 300 (0 + n) [74] D B S1) (hz : S1.inos[4]? = some zeroI) (h5 : S1.sup.next = 50) (h : Sat W w (Cs pb 25 [.pointer (some ⟨ps, 0, none⟩)] :: IsSt ps pd S1 :: IsDisk pd D :: L)) => (show Calls Tryz.prog 16 #[.int .i64 4, .int .i64 (m : Int), .int .u8 (bits .xor .u8 (d.toNat : Int) 255), .pointer (some ⟨pb, 0, none⟩)] w fun e w' => PuE W L ps pd pb (60 + n + 42) 300 (0 + n) 4 m [74] ((d ^^^ 255) :: zeros 127) B S1 e w' from by
  have h9 := gput_any (n := 4) (m := m) h hA (by omega) (by decide) hz m32 (by simp; omega) (by rw [h5]; decide) (d ^^^ 255)
  unfold u8 at h9
  rw [← hxr] at h9
  exact h9))
 have HFR := Lib.hid (fun w L ps pd k c D B S (hA : StAt k 300 c [74] D B S) (h : Sat W w (IsSt ps pd S :: L)) => sfree_any (n := 300) h hA.sup (by decide) (by decide))
 have n33 : (n : Int) ≤ 32 := by omega
 have m33 : (m : Int) ≤ 32 := by omega
 have HN32 := Lib.hid n32
 have HM32 := Lib.hid m32
 clear hn hm n32 m32 hxr
 have HZP := Lib.hid (show zeroB Tryz.prog 25 = some (some (.pointer none)) by kernel_rfl)
 have HPZ := Lib.hid (show (Value.pointer none).cells.toList = [Value.pointer none] from rfl)
 go_enter Tryz.func4, Tryz.ntmps4
 go_wp2_with (first
  | (go_at_call 8; refine HMD.out.mono ?_; rintro e w1 hE; obtain ⟨pd, ps, D, rfl, hl, hS1⟩ := hE; have HL := Lib.hid hl; clear hl; clear hS; have hS := hS1; clear hS1)
  | (refine toList (by rfl) ?_; refine Go.Sep.al hS _ (by rfl) HZP.out ?_; clear hS; intro pb w1 hS; rw [HPZ.out] at hS)
  | (refine toList (by rfl) ?_; refine Go.Sep.st hS _ _ _ (by rfl) _ _ (by rfl) _ (by first | exact evC | exact evT (by rfl)) (by rfl) (szOf (by rfl)) Has.z (by decide) ?_; clear hS; intro w1 hS; rw [List.set_cons_zero] at hS)
  | (refine toList (by rfl) ?_; refine ld hS _ _ (by rfl) _ _ (by rfl) (agOf (by rfl)) Has.z (by rfl) ?_)
  | (go_at_call 9; refine (HP1.out _).mono ?_; rintro e w1 ⟨rfl, rfl⟩)
  | (go_at_call 9; refine (HP2.out _).mono ?_; rintro e w1 ⟨rfl, rfl⟩)
  | (go_at_call 13; refine (gfree_any hS.pull1 (HA0.out _ HL.out) 225 (by decide)).mono ?_; clear hS; rintro e w1 ⟨rfl, hS⟩; replace hS := hS.pull1)
  | (refine toList (by rfl) ?_; refine clV _ _ _ _ (by rfl) (by rfl) (by rfl) (by kernel_rfl) (HPA.out _ _ _ _ _ _ HL.out hS) ?_; rintro e w1 hE; obtain ⟨D1, B1, S1, rfl, hA1, hP1, hS1⟩ := hE; have HA1 := Lib.hid hA1; have HQ1 := Lib.hid hP1; clear hA1 hP1; clear hS; have hS := hS1; clear hS1; refine ⟨_, rfl, ?_⟩)
  | (refine toList (by rfl) ?_; refine clV _ _ _ _ (by rfl) (by rfl) (by rfl) (by kernel_rfl) (HPB.out _ _ _ _ _ _ _ _ HA1.out (gn4 HQ1.out) HQ1.out.next hS) ?_; rintro e w1 hE; obtain ⟨D2, B2, S2, rfl, hA2, hP2, hS1⟩ := hE; have HA2 := Lib.hid hA2; have HQ2 := Lib.hid hP2; clear hA2 hP2; clear hS; have hS := hS1; clear hS1; refine ⟨_, rfl, ?_⟩)
  | (go_at_call 13; refine (gfree_any hS.pull1 HA2.out (225 - (n : Int) - (m : Int)) (by omega)).mono ?_; clear hS; rintro e w1 ⟨rfl, hS⟩; replace hS := hS.pull1)
  | (refine toList (by rfl) ?_; refine bsF hS _ _ _ (by rfl) (elOf (by rfl)) [.agg (setv ⟨3, zeroI, [], [], .slice none 0 0, .slice none 0 0, []⟩).toArray] (by rfl) (by rfl) (by decide) (by decide) (by simp [Value.cells, setv, inv, pv, zeroI]) ?_; clear hS; intro b1 w1 hS; rw [agg1] at hS))
 obtain ⟨f3, q1, q2, q3⟩ := HQ1.out.inos
 obtain ⟨f4, r1, r2, r3⟩ := HQ2.out.inos
 have hi3 : S2.inos[3]? = some f3 := by
  rw [r1, List.getElem?_set_ne (by decide), q1, List.getElem?_set_self (by decide)]
 have hi4 : S2.inos[4]? = some f4 := by
  rw [r1, List.getElem?_set_self (by rw [q1, List.length_set]; decide)]
 obtain ⟨S3, D3, B3, e1, hA3, e3, e4⟩ := HA2.out.gone (x := ⟨3, zeroI, [], [], .slice none 0 0, .slice none 0 0, []⟩) (n := 3) (next := 50) rfl (by decide) hi3 q2 rfl rfl rfl (by rw [HQ2.out.next]; decide) (by decide) false
 have HCM := Lib.hid (fun w b1 (h : Sat W w (Cs b1 36 (setv ⟨3, zeroI, [], [], .slice none 0 0, .slice none 0 0, []⟩) :: Cs pb 25 [.pointer (some ⟨ps, 0, none⟩)] :: IsSt ps pd S2 :: IsDisk pd D2 :: [])) =>
  scommit_any (h.re [2, 3]) HA2.out.ok' HA2.out.lv.ok [⟨3, zeroI, [], [], .slice none 0 0, .slice none 0 0, []⟩] (by show 60 + n + 42 + m + 42 + 0 ≤ 80000; have := HN32.out; have := HM32.out; omega) 50 false (some ⟨b1, 0, none⟩) 1 (fun w L' h => sets_none h 3 (has_add Has.z L')))
 rw [e1] at HCM
 have HA3 := Lib.hid hA3
 have h30 : S3.inos[3]? = some zeroI := by rw [e3, List.getElem?_set_self (by rw [HA2.out.ok.x.len]; decide)]
 have h34 : S3.inos[4]? = some f4 := by rw [e3, List.getElem?_set_ne (by decide), hi4]
 have HIN := Lib.hid (fun w L (h : Sat W w (IsSt ps pd S3 :: L)) => sinode_any h HA3.out.ok.x 3 h30)
 have HBK := Lib.hid (fun w L j (hj : j < m) (h : Sat W w (IsSt ps pd S3 :: IsDisk pd D3 :: L)) => (show Calls Tryz.prog 12 #[.pointer (some ⟨ps, 0, none⟩), .int .i64 4, .int .i64 (j : Int)] w fun e w' => ∃ q, e = .returned (.tuple #[.slice (some ⟨q, 0, none⟩) 128 128, .bool true]) ∧ ∃ E, Sat W w' (Cs q E (bv ((d ^^^ 255) :: zeros 127)) :: IsSt ps pd S3 :: IsDisk pd D3 :: L) from by
  obtain ⟨p, a1, a2, a3⟩ := r3 j hj
  have hrg := HA2.out.ok.rng p (List.mem_append_left _ a2)
  have h9 := sblock_any h HA3.out.ok.x (by rw [HA3.out.lv.bl, HA3.out.bl]; decide) 4 j h34 a1 (fun _ => by rw [HA3.out.lv.bl, HA3.out.bl]; rw [HA2.out.bl] at hrg; omega)
  rw [show blkOf D3.blocks (p : Int) = (d ^^^ 255) :: zeros 127 by unfold blkOf; rw [if_neg (by omega), HA3.out.lv.bl, Int.toNat_natCast, e4 p a2, a3]; rfl] at h9
  exact h9))
 have hx0 : bits .xor .u8 (d.toNat : Int) 255 = ((d ^^^ 255).toNat : Int) := by
  rw [show (255 : Int) = ((255 : Nat) : Int) from rfl, u8_xor_nat _ _ (UInt8.toNat_lt _) (by decide), UInt8.toNat_xor]
  rfl
 have HB0 := Lib.hid (show (bv ((d ^^^ 255) :: zeros 127))[0]? = some (.int .u8 (bits .xor .u8 (d.toNat : Int) 255)) by rw [hx0]; rfl)
 have HZ1 := Lib.hid (inv_one zeroI)
 have HZL := Lib.hid (show (inv zeroI).length = 37 from rfl)
 clear q1 q2 q3 r1 r2 r3 hi3 hi4 e1 hA3 e3 e4 h30 h34 hx0
 go_wp2_with (first
  | (go_at_call 10; refine (HCM.out _ _ hS).mono ?_; clear hS; rintro e w1 ⟨rfl, hS⟩; dsimp only at hS ⊢; replace hS := (show Sat W _ (_ :: _ :: _ :: _ :: []) from hS.re [2, 3, 0, 1]).drop)
  | (refine toList (by rfl) ?_; refine ld hS _ _ (by rfl) _ _ (by rfl) (agOf (by rfl)) Has.z (by rfl) ?_)
  | (go_at_call 13; refine (gfree_any hS.pull1 HA3.out (225 - (m : Int)) (by omega)).mono ?_; clear hS; rintro e w1 ⟨rfl, hS⟩; replace hS := hS.pull1)
  | (go_at_call 11; refine (HIN.out _ _ hS.pull1).mono ?_; clear hS; rintro e w1 ⟨rfl, hS⟩; replace hS := hS.pull1)
  | (refine toList (by rfl) ?_; refine Go.Sep.al hS _ (by rfl) (zrOf (by rfl)) ?_; clear hS; intro p13 w1 hS; rw [cells_agg] at hS)
  | (refine toList (by rfl) ?_; refine stW hS _ _ _ (by rfl) (by rfl) (inv zeroI) (by rfl) HZ1.out (by rw [HZL.out]; exact szOf (by rfl)) Has.z (by rw [HZL.out]; rfl) ?_; clear hS; intro w1 hS; rw [List.set_cons_zero] at hS))
 have H0 := Lib.hid (show GnI W [] p13 pb ps pd m S3 D3 (.int .i64 0) _ from ⟨0, rfl, Nat.zero_le _, hS.re [0, 2, 3, 1]⟩)
 clear hS
 go_loopw [15] (fun v15 wz => GnI W [] p13 pb ps pd m S3 D3 v15 wz) (fun v15 _ => lpM m v15)
 case atStart => exact H0.out
 case round =>
  clear H0
  obtain ⟨j, rfl, hj, hS⟩ := hrel
  by_cases hlt : j < m
  ·have k1 : (j : Int) < (m : Int) := by omega
   have HLT := Lib.hid hlt
   clear hlt hj
   go_wp2_with (first
    | (refine toList (by rfl) ?_; refine ld hS _ _ (by rfl) _ _ (by rfl) (agOf (by rfl)) (Has.s (Has.s (Has.s Has.z))) (by rfl) ?_)
    | (go_at_call 12; refine (HBK.out _ _ _ HLT.out (hS.re [1, 2])).mono ?_; clear hS; rintro e w1 ⟨q, rfl, E, hS⟩)
    | (refine toList (by rfl) ?_; refine ld hS _ _ (by rfl) _ _ (by rfl) (agOf (by rfl)) Has.z HB0.out ?_))
   exact ⟨⟨j + 1, by go_num, HLT.out, (hS.drop.re [2, 0, 1])⟩, lpM_lt HLT.out⟩
  ·obtain rfl : j = m := by omega
   have k1 : ¬ (j : Int) < (j : Int) := by omega
   clear hlt hj
   have hze := fun w => zero_eq w
   have HZT := Lib.hid (show ((inv zeroI).drop 0).take 37 = inv zeroI from rfl)
   go_wp2_with (first
    | (refine toList (by rfl) ?_; refine wp_of_reads (rLdA hS _ _ (by rfl) _ _ (by rfl) (agOf (by rfl)) (szOf (by rfl)) Has.z (vs := inv zeroI) HZT.out HZL.out) ?_)
    | (go_at_call 15; refine (awake_any hS).mono ?_; clear hS; rintro e w1 ⟨rfl, hS⟩))
   go_ret
   exact ⟨rfl, hS.map fun _ _ => trivial⟩

set_option maxRecDepth 100000 in
theorem Gone.contract (H : Type) (enc : TypeId × Value → H) (W : World) (base : Nat) (args : Array Value) (ds gs : List (DataW H)) (before : List MemPlace)
  (hval : ∀ (j : Nat) t v, Tryz.f4.params[j]? = some t → args[j]? = some v → Value.okWide Tryz.prog W .any base t v)
  (hW : DataW.Whole enc Tryz.prog Tryz.f4.params.toList Rows.storeGoneSpec.vars false W args.toList ds gs before)
  (hreach : (DataW.weightsEach Tryz.prog (Tryz.f4.params.toList ++ Rows.storeGoneSpec.plain.varTypes Tryz.prog) (ds ++ gs)).all (· ≤ reachBytes) = true) :
  Calls Tryz.prog 4 args W fun e W' => ∃ v, e = .returned v ∧ Rows.storeGoneSpec.post enc Tryz.prog Tryz.f4 false true false false W args v W' := by
 have hW' := hW
 obtain ⟨p, q, hA, hV, rfl, hfz, hnd⟩ := hW
 rw [Tryz.params4] at hA hval hreach
 obtain ⟨v1, vs1, d1, ds1, p1, q1, hargs, rfl, rfl, h1, r1⟩ := trodAll_cons hA
 obtain ⟨v2, vs2, d2, ds2, p2, q2, hargs2, rfl, rfl, h2, r2⟩ := trodAll_cons r1
 obtain ⟨v3, vs3, d3, ds3, p3, q3, hargs3, rfl, rfl, h3, r3⟩ := trodAll_cons r2
 obtain ⟨rfl, rfl, rfl⟩ := trodAll_nil r3
 obtain rfl : args = #[v1, v2, v3] := by cases args; simp_all
 obtain ⟨rfl, rfl⟩ := trodVars_none hV
 obtain ⟨a1, rfl, rfl, rfl, w1⟩ := open_int Tryz.underlying3 (hval 0 3 v1 rfl rfl) h1
 obtain ⟨a2, rfl, rfl, rfl, w2⟩ := open_int Tryz.underlying3 (hval 1 3 v2 rfl rfl) h2
 obtain ⟨a3, rfl, rfl, rfl, w3⟩ := open_int Tryz.underlying5 (hval 2 5 v3 rfl rfl) h3
 obtain ⟨y, rfl⟩ := u8_of w3
 refine (Gone.walk a1 a2 y W).mono ?_
 refine fun e W' ⟨he, hS⟩ => ?_
 subst he
 exact ⟨_, rfl, law_post (tb := 4) (by kernel_rfl) (by kernel_rfl) rfl Tryz.underlying4 rfl hW' rfl hS⟩

theorem Gone.own : ownKnob Tryz.prog.godebug = none := by kernel_rfl
set_option maxRecDepth 100000 in
theorem Gone.lifted (os : Os) (started : os.Started) (H : Type) (enc : TypeId × Value → H) :
  ReturnsInHanded {} Tryz.checked os 4 .any (Rows.storeGoneSpec.pre6 enc Tryz.prog Tryz.f4 Rows.storeGoneRow.domain false) (Rows.storeGoneSpec.post enc Tryz.prog Tryz.f4 false true false false) := by
 refine returnsInHanded_of_change_shaped (C := Tryz.checked) Gone.own started (by kernel_rfl) Tryz.func4
  (ChangeSpec.witness6 (enc := enc) (C := Tryz.checked) false ⟨#[], #[.int .i64 0, .int .i64 0, .int .u8 0], []⟩ 8 (by kernel_rfl) (by kernel_rfl) (by kernel_rfl) (by kernel_rfl)) ?_
 intro W base args ds gs before hval hW _ hreach _ _
 exact Gone.contract H enc W base args ds gs before hval hW hreach

theorem Gone.holds : Rows.StoreGoneSaid :=
 OpenClaim.holds_of_wide 4 Tryz.f4 rfl rfl rfl rfl rfl rfl rfl ⟨rfl, rfl, rfl, rfl, rfl⟩ rfl rfl rfl rfl rfl (by kernel_rfl) Tryz.func4 (by kernel_rfl)
  (of_decide_eq_true (by kernel_rfl)) (by unfold Func.isWrapper; first | (rw [if_pos (by decide +kernel)]; kernel_rfl) | (rw [if_neg (by decide +kernel)]; exact ⟨rfl, rfl⟩))
  (fun os started H enc _ => Gone.lifted os started H enc)
end Go.Proofs.YtchohheleofncaaGreat
