/-
 Package alloc: Next, of any inode.
-/
import Derived.Test.YtchohheleofncaaGreatMNxt
import Derived.Test.YtchohheleofncaaGreatMGrw
import Derived.Test.YtchohheleofncaaGreatMIno
import Derived.Test.YtchohheleofncaaGreatMReg
set_option linter.unusedSimpArgs false
set_option linter.unusedVariables false
namespace Go.Sep
open Go
theorem bodyPost_cell_tmp2 {P : Program} {W w : World} {L : List Asrt} {a : Act} {fn : Func} {R : Ending → World → Prop} {p u x : Tmp} {ty : TypeId} {k b E n : Nat} {vs : List Value} (hS : Sat W w L) (h : fn.results = #[.cell p ty, .tmp u, .tmp x]) (ha : a.tmps.getD p undef = .pointer (some ⟨b, 0, none⟩))
  (hT : aggB P ty = some true) (hn : szB P ty = some n) (hk : Has L k (Cs b E vs)) (hl : vs.length = n) (hd : a.defers = []) (hR : R (.returned (.tuple #[.agg vs.toArray, a.tmps.getD u undef, a.tmps.getD x undef])) w) : bodyPost P fn R .ret a w := by
 refine bodyPost_ret ?_ hd hR
 have := run_loadAgg (P := P) (w := w) (b := b) (off := 0) hT hn hl (fun j v hv => by rw [Nat.zero_add]; exact hS.cell hk hv)
 have ha' : a.tmps[p]?.getD undef = .pointer (some ⟨b, 0, none⟩) := by rw [← ha]; simp
 simp [results, h, ha', asAddr, this, Result.andThen]
end Go.Sep
namespace Go.Proofs.YtchohheleofncaaGreat
open Go.RowKit Go.Sep
attribute [local irreducible] Go.Oper.wp Go.wpList Go.Calls Go.Code.wp Go.Sep.Reg
def NxA (W : World) (L : List Asrt) (p4 p5 p8 p11 : Nat) (ov : List Value) (x : InoD) (wz : World) : Prop :=
 Sat W wz (Cs p11 33 (inv zeroI) :: Cs p8 33 (inv zeroI) :: Cs p5 33 (inv x) :: Cs p4 33 ov :: L)
def NxR1 (W : World) (L : List Asrt) (p4 p5 p8 p11 : Nat) (ov : List Value) (old now : InoD) (v44 : Value) (wz : World) : Prop :=
 ∃ k : Nat, v44 = .int .i64 (k : Int) ∧ k ≤ 32 ∧ NxA W L p4 p5 p8 p11 ov (withP (nx0 now) (nxKs old now k)) wz
def NxR2 (W : World) (L : List Asrt) (p4 p5 p8 p11 : Nat) (ov : List Value) (x0 : InoD) (K : List Int) (b : Int) (pieces : List Int) (taken : List Nat) (v72 v14 : Value) (wz : World) : Prop :=
 ∃ i : Nat, v72 = .int .i64 (i : Int) ∧ v14 = .int .i64 (pcLast pieces i) ∧ i ≤ pieces.length ∧ (∀ j, j < i → pcOk b pieces j = true) ∧ NxA W L p4 p5 p8 p11 ov (withP x0 (putP K pieces taken i)) wz
def NxR4 (W : World) (L : List Asrt) (p4 p5 p8 p11 p17 : Nat) (ov : List Value) (x : InoD) (v105 : Value) (wz : World) : Prop :=
 ∃ k : Nat, v105 = .int .i64 (k : Int) ∧ k ≤ 32 ∧ Sat W wz (Cs p17 161 (mb (seenA x.ptrs k)) :: Cs p11 33 (inv zeroI) :: Cs p8 33 (inv zeroI) :: Cs p5 33 (inv x) :: Cs p4 33 ov :: L)
def NxR5 (W : World) (L : List Asrt) (p4 p5 p8 p11 p17 : Nat) (ov : List Value) (old x : InoD) (v113 v20 : Value) (wz : World) : Prop :=
 ∃ k : Nat, v113 = .int .i64 (k : Int) ∧ k ≤ 32 ∧ Sat W wz (Ir v20 (goneP old x k) :: Cs p17 161 (mb (seenA x.ptrs 32)) :: Cs p11 33 (inv zeroI) :: Cs p8 33 (inv zeroI) :: Cs p5 33 (inv x) :: Cs p4 33 ov :: L)
def NxE (W : World) (L : List Asrt) (old now : InoD) (pieces : List Int) (taken : List Nat) (e : Ending) (w' : World) : Prop :=
 (nextOk old now pieces taken = true ∧ ∃ v, e = .returned (.tuple #[.agg (inv (nxI old now pieces taken)).toArray, v, .bool true]) ∧ Sat W w' (Ir v (goneP old (nxI old now pieces taken) 32) :: L)) ∨
 (nextOk old now pieces taken = false ∧ e = .returned (.tuple #[.agg (inv zeroI).toArray, .slice none 0 0, .bool false]) ∧ Sat W w' L)
def NxA' (W : World) (L : List Asrt) (p4 p5 p8 p11 : Nat) (ov xv : List Value) (wz : World) : Prop :=
 Sat W wz (Cs p11 33 (inv zeroI) :: Cs p8 33 (inv zeroI) :: Cs p5 33 xv :: Cs p4 33 ov :: L)
def nxJ (W : World) (L : List Asrt) (ov nv : List Value) (x0 : InoD) (ap at_ : Option Addr) (n cp ct p4 p5 p8 p11 : Nat) (b : Int) : Act → World → Prop := (fun (a' : Act) (w' : World) => (NxA' W L p4 p5 p8 p11 ov (inv x0) w') ∧ a' = ⟨#[.agg ov.toArray, .agg nv.toArray, .slice ap n cp, .slice at_ n ct, .pointer (some ⟨p4, 0, none⟩), .pointer (some ⟨p5, 0, none⟩), undef, undef, .pointer (some ⟨p8, 0, none⟩), .slice none 0 0, .bool false, .pointer (some ⟨p11, 0, none⟩), .int .i64 b, undef, undef, undef, undef, undef, undef, undef, undef, undef, undef, (a'.tmps.getD 23 undef), (a'.tmps.getD 24 undef), (a'.tmps.getD 25 undef), (a'.tmps.getD 26 undef), (a'.tmps.getD 27 undef), (a'.tmps.getD 28 undef), (a'.tmps.getD 29 undef), (a'.tmps.getD 30 undef), (a'.tmps.getD 31 undef), (a'.tmps.getD 32 undef), (a'.tmps.getD 33 undef), (a'.tmps.getD 34 undef), (a'.tmps.getD 35 undef), (a'.tmps.getD 36 undef), (a'.tmps.getD 37 undef), (a'.tmps.getD 38 undef), (a'.tmps.getD 39 undef), (a'.tmps.getD 40 undef), undef, undef, undef, undef, undef, undef, undef, undef, undef, undef, undef, undef, undef, undef, undef, undef, undef, undef, undef, undef, undef, undef, undef, undef, undef, undef, undef, undef, undef, undef, undef, undef, undef, undef, undef, undef, undef, undef, undef, undef, undef, undef, undef, undef, undef, undef, undef, undef, undef, undef, undef, undef, undef, undef, undef, undef, undef, undef, undef, undef, undef, undef, undef, undef, undef, undef, undef, undef, undef, undef, undef, undef, undef, undef, undef, undef, undef, undef, undef, undef, undef, undef, undef, undef, undef, undef, undef, undef, undef, undef], []⟩)
set_option maxRecDepth 20000 in
set_option maxHeartbeats 8000000 in
theorem next_any {W w : World} {L : List Asrt} (hS : Sat W w L) (old now : InoD) (ho : OkI old) (hn : now.ptrs.length = 32) (hs1 : -9223372036854775808 ≤ now.size) (hs2 : now.size ≤ 9223372036854775807) (pieces : List Int) (taken : List Nat) (ap at_ : Option Addr) (cp ct : Nat)
  (hrp : ∀ w L', Sat W w (L' ++ L) → Rd w (.slice ap pieces.length cp) pieces.length 1 (pv pieces)) (hrt : ∀ w L', Sat W w (L' ++ L) → Rd w (.slice at_ taken.length ct) taken.length 1 (iv taken)) :
  Calls Tryz.prog 38 #[.agg (inv old).toArray, .agg (inv now).toArray, .slice ap pieces.length cp, .slice at_ taken.length ct] w fun e w' => NxE W L old now pieces taken e w' := by
 have hzl : (inv zeroI).length = 37 := rfl
 have HZL := Lib.hid hzl
 have HZ1 := Lib.hid (inv_one zeroI)
 have HZT := Lib.hid (show ((inv zeroI).drop 0).take 37 = inv zeroI from rfl)
 have HZ := Lib.hid (show zeroB Tryz.prog 33 = some (some (.agg (inv zeroI).toArray)) by kernel_rfl)
 have HZP := Lib.hid (show ((inv zeroI).drop 5).take 32 = pv (List.replicate 32 0) from rfl)
 have HZPL := Lib.hid (show (pv (List.replicate 32 0)).length = 32 by rw [pv_len]; simp)
 have HPL := Lib.hid (fun l => pv_len l)
 have HP1 := Lib.hid pv_one
 have HOL := Lib.hid (show (inv old).length = 37 by rw [inv_len, ho.pl])
 have HOT := Lib.hid (show ((inv old).drop 0).take 37 = inv old by rw [List.drop_zero, List.take_of_length_le (by rw [inv_len, ho.pl]; decide)])
 have HO := Lib.hid ho
 have HCK := Lib.hid (fun w L (h : Sat W w L) => icheck_any h old ho)
 have HCB := Lib.hid (fun w => chunk_any w now.size hs1 hs2)
 have HRP := Lib.hid hrp
 have HRT := Lib.hid hrt
 have HNL := Lib.hid hn
 obtain ⟨ov, hov⟩ : ∃ ov, inv old = ov := ⟨_, rfl⟩
 have HGP := Lib.hid (show ∀ (k : Nat) p, old.ptrs[k]? = some p → ov[5 + k]? = some (.int .i64 p) from fun k p h => by rw [← hov]; exact inv_ptr h)
 have G40 := Lib.hid (show ov[0]? = some (.int .i64 old.kind) by rw [← hov]; rfl)
 have G43 := Lib.hid (show ov[3]? = some (.int .i64 old.obj) by rw [← hov]; rfl)
 have HPT := Lib.hid (show (ov.drop 5).take 32 = pv old.ptrs by
  rw [← hov]
  show ((pv old.ptrs)).take 32 = _
  rw [List.take_of_length_le (by rw [pv_len, ho.pl]; decide)])
 obtain ⟨nv, hnv⟩ : ∃ nv, inv now = nv := ⟨_, rfl⟩
 have G50 := Lib.hid (show nv[0]? = some (.int .i64 now.kind) by rw [← hnv]; rfl)
 have G51 := Lib.hid (show nv[1]? = some (.int .i64 now.size) by rw [← hnv]; rfl)
 have HNT := Lib.hid (show nv.length = 37 by rw [← hnv, inv_len, hn])
 obtain ⟨x0, hx0⟩ : ∃ x0, nx0 now = x0 := ⟨_, rfl⟩
 have HK0 := Lib.hid hx0
 have hxl : x0.ptrs.length = 32 := by
  rw [← hx0]
  unfold nx0
  split
  ·rfl
  ·exact hn
 have HXL0 := Lib.hid (show (inv x0).length = 37 by rw [inv_len, hxl])
 have HBA := Lib.hid (show (inv x0).take 5 ++ pv (List.replicate 32 0) ++ (inv x0).drop (5 + (pv (List.replicate 32 0)).length) = inv (withP x0 (nxKs old now 0)) by
  rw [nxKs_zero]; exact inv_setPs _ _ hxl (by simp))
 obtain ⟨b, hb⟩ : ∃ b, nxB now = b := ⟨_, rfl⟩
 have HBB := Lib.hid hb
 have HNV := Lib.hid hnv
 rw [hov] at HOL HOT HCK ⊢
 rw [hnv]
 obtain ⟨_, _, he, hc1, hc2, _, h5⟩ := hrp w [] hS
 simp only [Value.slice.injEq, true_and] at he
 obtain ⟨rfl, rfl⟩ := he
 have H5 := Lib.hid h5
 obtain ⟨_, _, he, hd1, hd2, _, h6⟩ := hrt w [] hS
 simp only [Value.slice.injEq, true_and] at he
 obtain ⟨rfl, rfl⟩ := he
 have H6 := Lib.hid h6
 have HMLN := Lib.hid (show (pieces.length : Int) ≤ 9223372036854775807 by omega)
 clear hov hnv ho hrp hrt hn h5 h6 hc1 hc2 hd1 hd2 hzl hs1 hs2 hx0 hxl hb
 by_cases hll : taken.length = pieces.length
 ·have HLL := Lib.hid hll
  rw [hll]
  clear hll
  go_enter Tryz.func38, Tryz.ntmps38
  refine sep_part (fun KX HKX => ?_)
  go_wp2_with (first
   | (refine toList (by rfl) ?_; refine bx (show Sat W _ L from hS) _ _ (by rfl) _ (by first | exact evC | exact evT (by rfl)) ?_; clear hS; intro p4 w1 hS; rw [cells_agg] at hS)
   | (refine toList (by rfl) ?_; refine bx (show Sat W _ (_ :: L) from hS) _ _ (by rfl) _ (by first | exact evC | exact evT (by rfl)) ?_; clear hS; intro p5 w1 hS; rw [cells_agg] at hS)
   | (refine toList (by rfl) ?_; refine al (show Sat W _ (_ :: _ :: L) from hS) _ (by rfl) HZ.out ?_; clear hS; intro p8 w1 hS; rw [cells_agg] at hS))
  refine HKX.out _ _ ?_
  clear HKX KX
  refine sep_part (fun KX HKX => ?_)
  go_wp2_with (refine toList (by rfl) ?_; refine al (show Sat W _ (_ :: _ :: _ :: L) from hS) _ (by rfl) HZ.out ?_; clear hS; intro p11 w1 hS; rw [cells_agg] at hS)
  refine HKX.out _ _ ?_
  clear HKX KX
  refine sep_part (fun KX HKX => ?_)
  go_wp2_with (first
   | (refine toList (by rfl) ?_; refine wp_of_reads (rLdA hS _ _ (by rfl) _ _ (by rfl) (agOf (by rfl)) (szOf (by rfl)) (Has.s (Has.s (Has.s Has.z))) (vs := ov) HOT.out HOL.out) ?_)
   | (go_at_call 82; refine (HCK.out _ _ hS).mono ?_; clear hS; rintro e w1 ⟨rfl, hS⟩))
  refine HKX.out _ _ ?_
  clear HKX KX
  refine sep_part (fun KX HKX => ?_)
  go_wp2_with (first
   | (refine toList (by rfl) ?_; refine ld hS _ _ (by rfl) _ _ (by rfl) (agOf (by rfl)) (Has.s (Has.s Has.z)) G51.out ?_)
   | (go_at_call 83; refine (HCB.out _).mono ?_; rintro e w1 ⟨rfl, rfl⟩))
  refine HKX.out _ _ ?_
  clear HKX KX
  refine sep_cut (nxJ W L ov nv x0 ap at_ pieces.length cp ct p4 p5 p8 p11 b) (fun KX HKX => ?_) ?_
  ·by_cases hk : now.kind = 0
   ·have hxz : x0 = zeroI := by rw [← HK0.out]; exact if_pos hk
    have hbz : b = 0 := by rw [← HBB.out]; exact if_pos hk
    subst hxz hbz
    rw [hk] at G50
    clear hk
    go_wp2_with (first
     | (refine toList (by rfl) ?_; refine ld hS _ _ (by rfl) _ _ (by rfl) (agOf (by rfl)) (Has.s (Has.s Has.z)) G50.out ?_)
     | (refine toList (by rfl) ?_; refine wp_of_reads (rLdA hS _ _ (by rfl) _ _ (by rfl) (agOf (by rfl)) (szOf (by rfl)) Has.z (vs := inv zeroI) HZT.out HZL.out) ?_)
     | (refine toList (by rfl) ?_; refine stW hS _ _ _ (by rfl) (by rfl) (inv zeroI) (by rfl) HZ1.out (by rw [HZL.out]; exact szOf (by rfl)) (Has.s (Has.s Has.z)) (by rw [HZL.out, HNT.out]) ?_; clear hS; intro w1 hS; dsimp only [List.set_cons_zero, List.set_cons_succ] at hS))
    refine HKX.out _ _ ?_
    unfold nxJ
    refine ⟨hS, rfl⟩
   ·have hxz : inv x0 = nv := by rw [← HK0.out, ← HNV.out, show nx0 now = now from if_neg hk]
    have hbz : chunkB now.size = b := by rw [← HBB.out]; exact (if_neg hk).symm
    have e1 : (now.kind == 0) = false := beq_eq_false_iff_ne.2 hk
    have HXZ := Lib.hid hxz
    rw [hbz]
    clear hk hxz hbz
    go_wp2_with (refine toList (by rfl) ?_; refine ld hS _ _ (by rfl) _ _ (by rfl) (agOf (by rfl)) (Has.s (Has.s Has.z)) G50.out ?_)
    refine HKX.out _ _ ?_
    unfold nxJ
    rw [← HXZ.out] at hS
    refine ⟨hS, rfl⟩
  clear hS HCK HCB G50 G51 HNT
  rintro a wz hinv
  unfold nxJ at hinv
  obtain ⟨hrel, ha⟩ := hinv
  obtain ⟨z, hz⟩ : ∃ z : Nat → Value, ∀ i, a.tmps.getD i undef = z i := ⟨_, fun _ => rfl⟩
  simp only [hz] at hrel ha
  clear hz
  subst ha
  have hS := hrel
  unfold NxA' at hS
  clear hrel
  go_wp2_with (first
   | (refine toList (by rfl) ?_; refine wp_of_reads (rLdA hS _ _ (by rfl) _ _ (by rfl) (agOf (by rfl)) (szOf (by rfl)) Has.z (vs := pv (List.replicate 32 0)) HZP.out HZPL.out) ?_)
   | (refine toList (by rfl) ?_; refine stA hS _ _ _ (by rfl) _ _ (by rfl) (pv (List.replicate 32 0)) (by rfl) (HP1.out _) (by rw [HZPL.out]; exact szOf (by rfl)) (Has.s (Has.s Has.z)) (by rw [HZPL.out, HXL0.out]; decide) ?_; clear hS; intro w1 hS; dsimp only [List.set_cons_zero, List.set_cons_succ] at hS; rw [HBA.out] at hS))
  have H0 := Lib.hid hS
  clear hS HZ HBA
  go_loopw [44] (fun v44 wz => NxR1 W L p4 p5 p8 p11 ov old now v44 wz) (fun v44 _ => lpM 32 v44)
  case atStart => exact ⟨0, rfl, by decide, by unfold NxA; rw [HK0.out]; exact H0.out⟩
  case round =>
   clear H0
   obtain ⟨k, rfl, hk, hS⟩ := hrel
   unfold NxA at hS
   rw [HK0.out] at hS
   by_cases hlt : k < 32
   ·have k1 : (k : Int) < 32 := by omega
    have HLT := Lib.hid hlt
    have G53 := Lib.hid (show (inv (withP x0 (nxKs old now k)))[3]? = some (.int .i64 x0.obj) from rfl)
    obtain ⟨q, hq⟩ : ∃ q, old.ptrs[k]? = some q := ⟨_, List.getElem?_eq_getElem (by rw [HO.out.pl]; exact hlt)⟩
    have GQ := Lib.hid (HGP.out k q hq)
    have hkp : nxKeep old now k = (decide ((k : Int) < b) && (old.kind != 0 && old.obj == x0.obj)) := by unfold nxKeep; rw [HBB.out, HK0.out]
    have hkv : nxK old now k = if nxKeep old now k then q else 0 := by unfold nxK; rw [hq]; rfl
    have HSP := Lib.hid (fun h => nxKs_skip old now hlt h)
    have HST := Lib.hid (nxKs_set old now hlt)
    have HSL := Lib.hid (show 5 + k < (inv (withP x0 (nxKs old now k))).length by rw [inv_len]; show 5 + k < 5 + (nxKs old now k).length; rw [nxKs_len _ _ hk]; omega)
    obtain ⟨c1, hc1⟩ : ∃ c, decide ((k : Int) < b) = c := ⟨_, rfl⟩
    obtain ⟨c2, hc2⟩ : ∃ c, (old.kind != 0) = c := ⟨_, rfl⟩
    obtain ⟨c3, hc3⟩ : ∃ c, (old.obj == x0.obj) = c := ⟨_, rfl⟩
    rw [hc1, hc2, hc3] at hkp
    have HKP := Lib.hid hkp
    have HKV := Lib.hid hkv
    clear hkp hkv hq hlt hk
    cases c1 with
    | false =>
     go_wp2
     have hz : nxK old now k = 0 := by rw [HKV.out, HKP.out]; rfl
     rw [HSP.out hz] at hS
     exact ⟨⟨k + 1, by go_num, HLT.out, by unfold NxA; rw [HK0.out]; exact hS⟩, lpM_lt HLT.out⟩
    | true =>
     cases c2 with
     | false =>
      go_wp2_with (refine toList (by rfl) ?_; refine ld hS _ _ (by rfl) _ _ (by rfl) (agOf (by rfl)) (Has.s (Has.s (Has.s Has.z))) G40.out ?_)
      have hz : nxK old now k = 0 := by rw [HKV.out, HKP.out]; rfl
      rw [HSP.out hz] at hS
      exact ⟨⟨k + 1, by go_num, HLT.out, by unfold NxA; rw [HK0.out]; exact hS⟩, lpM_lt HLT.out⟩
     | true =>
      cases c3 with
      | false =>
       go_wp2_with (first
        | (refine toList (by rfl) ?_; refine ld hS _ _ (by rfl) _ _ (by rfl) (agOf (by rfl)) (Has.s (Has.s (Has.s Has.z))) G40.out ?_)
        | (refine toList (by rfl) ?_; refine ld hS _ _ (by rfl) _ _ (by rfl) (agOf (by rfl)) (Has.s (Has.s (Has.s Has.z))) G43.out ?_)
        | (refine toList (by rfl) ?_; refine ld hS _ _ (by rfl) _ _ (by rfl) (agOf (by rfl)) (Has.s (Has.s Has.z)) G53.out ?_))
       have hz : nxK old now k = 0 := by rw [HKV.out, HKP.out]; rfl
       rw [HSP.out hz] at hS
       exact ⟨⟨k + 1, by go_num, HLT.out, by unfold NxA; rw [HK0.out]; exact hS⟩, lpM_lt HLT.out⟩
      | true =>
       have hz : nxK old now k = q := by rw [HKV.out, HKP.out]; rfl
       rw [hz] at HST
       have HSE := Lib.hid ((inv_setP x0 (nxKs old now k) k q).trans (by rw [HST.out]))
       clear hz
       go_wp2_with (first
        | (refine toList (by rfl) ?_; refine ld hS _ _ (by rfl) _ _ (by rfl) (agOf (by rfl)) (Has.s (Has.s (Has.s Has.z))) G40.out ?_)
        | (refine toList (by rfl) ?_; refine ld hS _ _ (by rfl) _ _ (by rfl) (agOf (by rfl)) (Has.s (Has.s (Has.s Has.z))) G43.out ?_)
        | (refine toList (by rfl) ?_; refine ld hS _ _ (by rfl) _ _ (by rfl) (agOf (by rfl)) (Has.s (Has.s Has.z)) G53.out ?_)
        | (refine toList (by rfl) ?_; refine ld hS _ _ (by rfl) _ _ (by rfl) (agOf (by rfl)) (Has.s (Has.s (Has.s Has.z))) GQ.out ?_)
        | (refine toList (by rfl) ?_; refine Go.Sep.st hS _ _ _ (by rfl) _ _ (by rfl) _ (by first | exact evC | exact evT (by rfl)) (by rfl) (szOf (by rfl)) (Has.s (Has.s Has.z)) HSL.out ?_; clear hS; intro w1 hS; dsimp only [List.set_cons_zero, List.set_cons_succ] at hS; rw [HSE.out] at hS))
       exact ⟨⟨k + 1, by go_num, HLT.out, by unfold NxA; rw [HK0.out]; exact hS⟩, lpM_lt HLT.out⟩
   ·obtain rfl : k = 32 := by omega
    obtain ⟨K, hK⟩ : ∃ K, nxKs old now 32 = K := ⟨_, rfl⟩
    have HKL := Lib.hid (show K.length = 32 by rw [← hK]; exact nxKs_len _ _ (Nat.le_refl _))
    have HXI := Lib.hid (show nxI old now pieces taken = withP x0 (putP K pieces taken pieces.length) by unfold nxI; rw [HK0.out, hK])
    rw [hK] at hS
    have H1 := Lib.hid hS
    have hml := HMLN.out
    clear hlt hk hK hS
    go_wp2
    go_loopw [72, 14] (fun v72 v14 wz => NxR2 W L p4 p5 p8 p11 ov x0 K b pieces taken v72 v14 wz) (fun v72 _ _ => lpM pieces.length v72)
    case atStart => exact ⟨0, rfl, rfl, Nat.zero_le _, fun j hj => absurd hj (Nat.not_lt_zero _), H1.out⟩
    case round =>
     clear H1
     obtain ⟨i, rfl, rfl, hi, hall, hS⟩ := hrel
     unfold NxA at hS
     have HALL := Lib.hid hall
     have HLO := Lib.hid (pcLast_lo hall)
     clear hall
     by_cases hlt : i < pieces.length
     ·have k1 : (i : Int) < (pieces.length : Int) := by omega
      have HLT := Lib.hid hlt
      obtain ⟨pb, po, rfl, _⟩ := H5.out (by omega)
      obtain ⟨tb, to_, rfl, _⟩ := H6.out (by rw [HLL.out]; omega)
      obtain ⟨l, hl⟩ : ∃ l, pieces[i]? = some l := ⟨_, List.getElem?_eq_getElem hlt⟩
      obtain ⟨t, ht⟩ : ∃ t, taken[i]? = some t := ⟨_, List.getElem?_eq_getElem (by rw [HLL.out]; exact hlt)⟩
      have HGL := Lib.hid (show (pv pieces)[i]? = some (.int .i64 l) by simp [pv, hl])
      have HGT := Lib.hid (iv_at ht)
      have hpc : pcOk b pieces i = (!decide (l ≤ pcLast pieces i) && (!decide (b ≤ l) && !decide (32 ≤ l))) := by unfold pcOk; rw [hl]; rfl
      obtain ⟨z, hz⟩ : ∃ z, pcLast pieces i = z := ⟨_, rfl⟩
      have HPN := Lib.hid (show pcLast pieces (i + 1) = l by show pieces[i]?.getD 0 = l; rw [hl]; rfl)
      have HPS := Lib.hid (show putP K pieces taken (i + 1) = (putP K pieces taken i).set l.toNat ((t : Nat) : Int) by rw [putP, hl, ht]; rfl)
      have HPK := Lib.hid (show (putP K pieces taken i).length = 32 by rw [putP_len]; exact HKL.out)
      have HRR := Lib.hid (HRP.out _ [_, _, _, _] hS)
      have HRS := Lib.hid (HRT.out _ [_, _, _, _] hS)
      obtain ⟨c1, hc1⟩ : ∃ c, decide (l ≤ z) = c := ⟨_, rfl⟩
      obtain ⟨c2, hc2⟩ : ∃ c, decide (b ≤ l) = c := ⟨_, rfl⟩
      obtain ⟨c3, hc3⟩ : ∃ c, decide (32 ≤ l) = c := ⟨_, rfl⟩
      rw [hz] at hpc HLO ⊢
      rw [hc1, hc2, hc3] at hpc
      have HPC := Lib.hid hpc
      clear hl ht hpc hi hlt hz
      cases c1 with
      | true =>
       go_wp2_with (first
        | (refine toList (by rfl) ?_; refine wp_of_reads (rLdRd1 HRR.out _ _ (by rfl) _ (by rfl) (agOf (by rfl)) i (by omega) HGL.out (by have := HLT.out; omega)) ?_)
        | (refine toList (by rfl) ?_; refine stW hS _ _ _ (by rfl) (by rfl) (inv zeroI) (by rfl) HZ1.out (by rw [HZL.out]; exact szOf (by rfl)) (Has.s Has.z) rfl ?_; clear hS; intro w1 hS; dsimp only [List.set_cons_zero, List.set_cons_succ] at hS)
        | (refine toList (by rfl) ?_; refine wp_of_reads (rLdA hS _ _ (by rfl) _ _ (by rfl) (agOf (by rfl)) (szOf (by rfl)) Has.z (vs := inv zeroI) (by rfl) HZL.out) ?_))
       ((try simp only [Exit.inBlock, Exit.then]); refine bodyPost_cell_tmp2 hS rfl (by rfl) (agOf (by rfl)) (szOf (by rfl)) (k := 1) rfl HZL.out rfl ?_; exact Or.inr ⟨by unfold nextOk; rw [HBB.out, pcAll_no HLT.out (HPC.out.trans rfl), Bool.false_and, Bool.and_false], rfl, hS.drop.drop.drop.drop⟩)
      | false =>
       cases c2 with
       | true =>
        go_wp2_with (first
         | (refine toList (by rfl) ?_; refine wp_of_reads (rLdRd1 HRR.out _ _ (by rfl) _ (by rfl) (agOf (by rfl)) i (by omega) HGL.out (by have := HLT.out; omega)) ?_)
         | (refine toList (by rfl) ?_; refine stW hS _ _ _ (by rfl) (by rfl) (inv zeroI) (by rfl) HZ1.out (by rw [HZL.out]; exact szOf (by rfl)) (Has.s Has.z) rfl ?_; clear hS; intro w1 hS; dsimp only [List.set_cons_zero, List.set_cons_succ] at hS)
         | (refine toList (by rfl) ?_; refine wp_of_reads (rLdA hS _ _ (by rfl) _ _ (by rfl) (agOf (by rfl)) (szOf (by rfl)) Has.z (vs := inv zeroI) (by rfl) HZL.out) ?_))
        ((try simp only [Exit.inBlock, Exit.then]); refine bodyPost_cell_tmp2 hS rfl (by rfl) (agOf (by rfl)) (szOf (by rfl)) (k := 1) rfl HZL.out rfl ?_; exact Or.inr ⟨by unfold nextOk; rw [HBB.out, pcAll_no HLT.out (HPC.out.trans rfl), Bool.false_and, Bool.and_false], rfl, hS.drop.drop.drop.drop⟩)
       | false =>
        cases c3 with
        | true =>
         go_wp2_with (first
          | (refine toList (by rfl) ?_; refine wp_of_reads (rLdRd1 HRR.out _ _ (by rfl) _ (by rfl) (agOf (by rfl)) i (by omega) HGL.out (by have := HLT.out; omega)) ?_)
          | (refine toList (by rfl) ?_; refine stW hS _ _ _ (by rfl) (by rfl) (inv zeroI) (by rfl) HZ1.out (by rw [HZL.out]; exact szOf (by rfl)) (Has.s Has.z) rfl ?_; clear hS; intro w1 hS; dsimp only [List.set_cons_zero, List.set_cons_succ] at hS)
          | (refine toList (by rfl) ?_; refine wp_of_reads (rLdA hS _ _ (by rfl) _ _ (by rfl) (agOf (by rfl)) (szOf (by rfl)) Has.z (vs := inv zeroI) (by rfl) HZL.out) ?_))
         ((try simp only [Exit.inBlock, Exit.then]); refine bodyPost_cell_tmp2 hS rfl (by rfl) (agOf (by rfl)) (szOf (by rfl)) (k := 1) rfl HZL.out rfl ?_; exact Or.inr ⟨by unfold nextOk; rw [HBB.out, pcAll_no HLT.out (HPC.out.trans rfl), Bool.false_and, Bool.and_false], rfl, hS.drop.drop.drop.drop⟩)
        | false =>
         have hlr : 0 ≤ l ∧ l < 32 := by
          have h1 := of_decide_eq_false hc1
          have h3 := of_decide_eq_false hc3
          have := HLO.out
          omega
         obtain ⟨m, rfl⟩ : ∃ m : Nat, l = (m : Int) := ⟨l.toNat, by omega⟩
         have m1 : (m : Int) < 32 := by omega
         rw [Int.toNat_natCast] at HPS
         have HSL := Lib.hid (show 5 + m < (inv (withP x0 (putP K pieces taken i))).length by rw [inv_len]; show 5 + m < 5 + (putP K pieces taken i).length; rw [HPK.out]; omega)
         have HSE := Lib.hid ((inv_setP x0 (putP K pieces taken i) m ((t : Nat) : Int)).trans (by rw [← HPS.out]))
         clear hlr
         go_wp2_with (first
          | (refine toList (by rfl) ?_; refine wp_of_reads (rLdRd1 HRR.out _ _ (by rfl) _ (by rfl) (agOf (by rfl)) i (by omega) HGL.out (by have := HLT.out; omega)) ?_)
          | (refine toList (by rfl) ?_; refine wp_of_reads (rLdRd1 HRS.out _ _ (by rfl) _ (by rfl) (agOf (by rfl)) i (by omega) HGT.out (by rw [HLL.out]; have := HLT.out; omega)) ?_)
          | (refine toList (by rfl) ?_; refine Go.Sep.st hS _ _ _ (by rfl) _ _ (by rfl) _ (by first | exact evC | exact evT (by rfl)) (by rfl) (szOf (by rfl)) (Has.s (Has.s Has.z)) HSL.out ?_; clear hS; intro w1 hS; dsimp only [List.set_cons_zero, List.set_cons_succ] at hS; rw [HSE.out] at hS))
         exact ⟨⟨_, _, _, _, _, _, _, _, _, _, _, _, _, _, _, _, _, _, _, _, _, _, _, _, _, _, _, _, _, _, _, _, ⟨i + 1, by go_num, by rw [HPN.out], HLT.out, pcUp HALL.out (HPC.out.trans rfl), hS⟩, rfl⟩, lpM_lt HLT.out⟩
     ·obtain rfl : i = pieces.length := by omega
      have k1 : ¬ (pieces.length : Int) < (pieces.length : Int) := by omega
      have HPA := Lib.hid (show pcAll (nxB now) pieces = true by rw [HBB.out]; exact pcAll_yes HALL.out)
      have hxl : (nxI old now pieces taken).ptrs.length = 32 := nxI_len
      have HXZ := Lib.hid (fun h => nxI_zero (old := old) (taken := taken) HPA.out h)
      rw [← HXI.out] at hS
      obtain ⟨x, hx⟩ : ∃ x, nxI old now pieces taken = x := ⟨_, rfl⟩
      have HX := Lib.hid hx
      rw [hx] at hS hxl HXZ
      have HXT := Lib.hid (show ((inv x).drop 0).take 37 = inv x by rw [List.drop_zero, List.take_of_length_le (by rw [inv_len, hxl]; decide)])
      have HXL := Lib.hid (show (inv x).length = 37 by rw [inv_len, hxl])
      have HXP := Lib.hid hxl
      have HX1 := Lib.hid (inv_one x)
      have HIC := Lib.hid (fun w L (h : Sat W w L) => icheck_gen h x hxl HXZ.out)
      obtain ⟨r, hr⟩ : ∃ r, okIb x = r := ⟨_, rfl⟩
      have HR := Lib.hid hr
      have HNK := Lib.hid (show nextOk old now pieces taken = r by unfold nextOk; rw [HPA.out, hx, hr, decide_eq_true HLL.out.symm]; rfl)
      rw [hr] at HIC
      clear hlt hi hx hr
      cases r with
      | false =>
       clear hxl
       go_wp2_with (first
        | (refine toList (by rfl) ?_; refine wp_of_reads (rLdA hS _ _ (by rfl) _ _ (by rfl) (agOf (by rfl)) (szOf (by rfl)) (Has.s (Has.s Has.z)) (vs := inv x) HXT.out HXL.out) ?_)
        | (go_at_call 82; refine (HIC.out _ _ hS).mono ?_; clear hS; rintro e w1 ⟨rfl, hS⟩)
        | (refine toList (by rfl) ?_; refine stW hS _ _ _ (by rfl) (by rfl) (inv zeroI) (by rfl) HZ1.out (by rw [HZL.out]; exact szOf (by rfl)) (Has.s Has.z) rfl ?_; clear hS; intro w1 hS; dsimp only [List.set_cons_zero, List.set_cons_succ] at hS)
        | (refine toList (by rfl) ?_; refine wp_of_reads (rLdA hS _ _ (by rfl) _ _ (by rfl) (agOf (by rfl)) (szOf (by rfl)) Has.z (vs := inv zeroI) (by rfl) HZL.out) ?_))
       ((try simp only [Exit.inBlock, Exit.then]); refine bodyPost_cell_tmp2 hS rfl (by rfl) (agOf (by rfl)) (szOf (by rfl)) (k := 1) rfl HZL.out rfl ?_; exact Or.inr ⟨HNK.out, rfl, hS.drop.drop.drop.drop⟩)
      | true =>
       have HOX := Lib.hid (okIb_ok hxl HXZ.out HR.out)
       have HZB := Lib.hid (show zeroB Tryz.prog 161 = some (some (.agg (mb fun _ => false).toArray)) by kernel_rfl)
       have HXPT := Lib.hid (show ((inv x).drop 5).take 32 = pv x.ptrs by
        show (pv x.ptrs).take 32 = _
        rw [List.take_of_length_le (by rw [pv_len, hxl]; decide)])
       have HXPL := Lib.hid (show (pv x.ptrs).length = 32 by rw [pv_len, hxl])
       clear hxl
       go_wp2_with (first
        | (refine toList (by rfl) ?_; refine wp_of_reads (rLdA hS _ _ (by rfl) _ _ (by rfl) (agOf (by rfl)) (szOf (by rfl)) (Has.s (Has.s Has.z)) (vs := inv x) HXT.out HXL.out) ?_)
        | (go_at_call 82; refine (HIC.out _ _ hS).mono ?_; clear hS; rintro e w1 ⟨rfl, hS⟩)
        | (refine toList (by rfl) ?_; refine al hS _ (by rfl) HZB.out ?_; clear hS; intro p17 w1 hS; rw [cells_agg, ← seenA_zero x.ptrs] at hS)
        | (refine toList (by rfl) ?_; refine wp_of_reads (rLdA hS _ _ (by rfl) _ _ (by rfl) (agOf (by rfl)) (szOf (by rfl)) (Has.s (Has.s (Has.s Has.z))) (vs := pv x.ptrs) HXPT.out HXPL.out) ?_))
       have H2 := Lib.hid hS
       clear hS HZB
       go_loopw [105] (fun v105 wz => NxR4 W L p4 p5 p8 p11 p17 ov x v105 wz) (fun v105 _ => lpM 32 v105)
       case atStart => exact ⟨0, rfl, by decide, H2.out⟩
       case round =>
        clear H2
        obtain ⟨k, rfl, hk, hS⟩ := hrel
        by_cases hlt : k < 32
        ·have k2 : (k : Int) < 32 := by omega
         have HLT := Lib.hid hlt
         obtain ⟨p, hp⟩ : ∃ p, x.ptrs[k]? = some p := ⟨_, List.getElem?_eq_getElem (by rw [HXP.out]; exact hlt)⟩
         obtain ⟨h1, h2⟩ := okI_ptr HOX.out hp
         obtain ⟨q, rfl⟩ : ∃ q : Nat, p = (q : Int) := ⟨p.toNat, by omega⟩
         have hix := fun w => idx_ptr hlt hp w
         have q1 : (q : Int) < 1024 := by omega
         have HSL := Lib.hid (show q < (mb (seenA x.ptrs k)).length by rw [mb_len]; omega)
         have HSE := Lib.hid ((mb_set (seenA x.ptrs k) true (show q < 1024 by omega)).trans (by rw [seenA_set hp]))
         clear hlt hk hp h1 h2
         go_wp2_with (refine toList (by rfl) ?_; refine Go.Sep.st hS _ _ _ (by rfl) _ _ (by rfl) _ (by first | exact evC | exact evT (by rfl)) (by rfl) (szOf (by rfl)) Has.z HSL.out ?_; clear hS; intro w1 hS; dsimp only [List.set_cons_zero, List.set_cons_succ] at hS; rw [HSE.out] at hS)
         exact ⟨⟨k + 1, by go_num, HLT.out, hS⟩, lpM_lt HLT.out⟩
        ·obtain rfl : k = 32 := by omega
         have HOPL := Lib.hid (show (pv old.ptrs).length = 32 by rw [pv_len, HO.out.pl])
         clear hlt hk
         go_wp2_with (refine toList (by rfl) ?_; refine wp_of_reads (rLdA hS _ _ (by rfl) _ _ (by rfl) (agOf (by rfl)) (szOf (by rfl)) (Has.s (Has.s (Has.s (Has.s Has.z)))) (vs := pv old.ptrs) HPT.out HOPL.out) ?_)
         have H3 := Lib.hid (by have := hS.irNil; rw [← goneP_zero old x] at this; exact this)
         clear hS
         go_loopw [113, 20] (fun v113 v20 wz => NxR5 W L p4 p5 p8 p11 p17 ov old x v113 v20 wz) (fun v113 _ _ => lpM 32 v113)
         case atStart => exact ⟨0, rfl, by decide, H3.out⟩
         case round =>
          clear H3
          obtain ⟨k, rfl, hk, hS⟩ := hrel
          by_cases hlt : k < 32
          ·have k2 : (k : Int) < 32 := by omega
           have HLT := Lib.hid hlt
           obtain ⟨p, hp⟩ : ∃ p, old.ptrs[k]? = some p := ⟨_, List.getElem?_eq_getElem (by rw [HO.out.pl]; exact hlt)⟩
           obtain ⟨h1, h2⟩ := okI_ptr HO.out hp
           obtain ⟨q, rfl⟩ : ∃ q : Nat, p = (q : Int) := ⟨p.toNat, by omega⟩
           have hix := fun w => idx_ptr hlt hp w
           by_cases h0 : q = 0
           ·subst h0
            have HG := Lib.hid (goneP_skip0 (x := x) hp)
            clear hlt hk hp h1 h2
            go_wp2
            rw [HG.out] at hS
            exact ⟨⟨k + 1, by go_num, HLT.out, hS⟩, lpM_lt HLT.out⟩
           ·have q1 : (q : Int) < 1024 := by omega
            have e1 : ((q : Int) != 0) = true := bne_iff_ne.2 (by omega)
            have HQ := Lib.hid (mb_at (seenA x.ptrs 32) (show q < 1024 by omega))
            rw [seenA_all HXP.out] at HQ
            obtain ⟨s, hs⟩ : ∃ s, x.ptrs.contains (q : Int) = s := ⟨_, rfl⟩
            rw [hs] at HQ
            cases s with
            | true =>
             have HG := Lib.hid (goneP_skip hp hs)
             clear hlt hk hp h1 h2 h0 hs
             go_wp2_with (refine toList (by rfl) ?_; refine ld hS _ _ (by rfl) _ _ (by rfl) (agOf (by rfl)) (Has.s Has.z) HQ.out ?_)
             rw [HG.out] at hS
             exact ⟨⟨k + 1, by go_num, HLT.out, hS⟩, lpM_lt HLT.out⟩
            | false =>
             have HG := Lib.hid (goneP_snoc hp h0 hs)
             have HGL2 := Lib.hid (show (goneP old x k).length ≤ 32 by unfold goneP; rw [List.length_map]; exact Nat.le_trans (List.length_filter_le _ _) (by rw [List.length_take]; omega))
             clear hlt hk hp h1 h2 h0 hs
             go_wp2_with (first
              | (refine toList (by rfl) ?_; refine ld hS _ _ (by rfl) _ _ (by rfl) (agOf (by rfl)) (Has.s Has.z) HQ.out ?_)
              | (refine toList (by rfl) ?_; refine bsF hS _ _ _ (by rfl) (elOf (by rfl)) [.int .i64 ((q : Nat) : Int)] (by rfl) (by rfl) (by decide) (by decide) (by simp [Value.cells]) ?_; clear hS; intro b1 w1 hS; rw [sca1 rfl] at hS)
              | (at_builtin; refine toList (by rfl) ?_; refine apI hS _ _ _ _ (by rfl) (by rfl) (by rfl) (elOf (by rfl)) (by rfl) (by rfl) (by rfl) (inOf (by rfl)) (Has.s Has.z) (m := [q]) (by exact hS.csRd0 (sz := 1) Has.z (by decide) rfl) (by have := HGL2.out; simp; omega) ?_; intro v' w1 hS1; clear hS; have hS := hS1; clear hS1; dsimp only [List.set_cons_zero, List.set_cons_succ] at hS; rw [HG.out] at hS))
             exact ⟨⟨k + 1, by go_num, HLT.out, hS.drop⟩, lpM_lt HLT.out⟩
          ·obtain rfl : k = 32 := by omega
           clear hlt hk
           go_wp2_with (first
            | (refine toList (by rfl) ?_; refine wp_of_reads (rLdA hS _ _ (by rfl) _ _ (by rfl) (agOf (by rfl)) (szOf (by rfl)) (Has.s (Has.s (Has.s (Has.s Has.z)))) (vs := inv x) HXT.out HXL.out) ?_)
            | (refine toList (by rfl) ?_; refine stW hS _ _ _ (by rfl) (by rfl) (inv x) (by rfl) HX1.out (by rw [HXL.out]; exact szOf (by rfl)) (Has.s (Has.s (Has.s Has.z))) (by rw [HXL.out, HZL.out]) ?_; clear hS; intro w1 hS; dsimp only [List.set_cons_zero, List.set_cons_succ] at hS))
           (try simp only [Exit.inBlock, Exit.then])
           refine bodyPost_cell_tmp2 hS rfl (by rfl) (agOf (by rfl)) (szOf (by rfl)) (k := 3) rfl HXL.out rfl ?_
           refine Or.inl ⟨HNK.out, ?_⟩
           rw [HX.out]
           exact ⟨_, rfl, (hS.re [1, 2, 3, 4, 5, 0]).drop.drop.drop.drop.drop⟩
 ·have e1 : ((pieces.length : Int) != (taken.length : Int)) = true := bne_iff_ne.2 (by omega)
  have HNK := Lib.hid (show nextOk old now pieces taken = false by unfold nextOk; rw [decide_eq_false (fun h => hll h.symm)]; rfl)
  clear hll
  go_enter Tryz.func38, Tryz.ntmps38
  go_wp2_with (first
   | (refine toList (by rfl) ?_; refine bx (show Sat W _ L from hS) _ _ (by rfl) _ (by first | exact evC | exact evT (by rfl)) ?_; clear hS; intro p4 w1 hS; rw [cells_agg] at hS)
   | (refine toList (by rfl) ?_; refine bx (show Sat W _ (_ :: L) from hS) _ _ (by rfl) _ (by first | exact evC | exact evT (by rfl)) ?_; clear hS; intro p5 w1 hS; rw [cells_agg] at hS)
   | (refine toList (by rfl) ?_; refine al (show Sat W _ (_ :: _ :: L) from hS) _ (by rfl) HZ.out ?_; clear hS; intro p8 w1 hS; rw [cells_agg] at hS)
   | (refine toList (by rfl) ?_; refine al (show Sat W _ (_ :: _ :: _ :: L) from hS) _ (by rfl) HZ.out ?_; clear hS; intro p11 w1 hS; rw [cells_agg] at hS)
   | (refine toList (by rfl) ?_; refine wp_of_reads (rLdA hS _ _ (by rfl) _ _ (by rfl) (agOf (by rfl)) (szOf (by rfl)) (Has.s (Has.s (Has.s Has.z))) (vs := ov) HOT.out HOL.out) ?_)
   | (go_at_call 82; refine (HCK.out _ _ hS).mono ?_; clear hS; rintro e w1 ⟨rfl, hS⟩)
   | (refine toList (by rfl) ?_; refine stW hS _ _ _ (by rfl) (by rfl) (inv zeroI) (by rfl) HZ1.out (by rw [HZL.out]; exact szOf (by rfl)) (Has.s Has.z) rfl ?_; clear hS; intro w1 hS; dsimp only [List.set_cons_zero, List.set_cons_succ] at hS)
   | (refine toList (by rfl) ?_; refine wp_of_reads (rLdA hS _ _ (by rfl) _ _ (by rfl) (agOf (by rfl)) (szOf (by rfl)) Has.z (vs := inv zeroI) (by rfl) HZL.out) ?_))
  ((try simp only [Exit.inBlock, Exit.then]); refine bodyPost_cell_tmp2 hS rfl (by rfl) (agOf (by rfl)) (szOf (by rfl)) (k := 1) rfl HZL.out rfl ?_; exact Or.inr ⟨HNK.out, rfl, hS.drop.drop.drop.drop⟩)
end Go.Proofs.YtchohheleofncaaGreat
