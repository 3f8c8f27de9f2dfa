/-
  For all writes, places, bytes and cuts, WalRecovers answers true: no condition.
-/
import Derived.Test.YtefbkpggmmhgcaaWlSame
import Derived.Test.YtefbkpggmmhgcaaWlFlip
import Derived.Test.YtefbkpggmmhgcaaSepRows
namespace Go.Proofs.Ytefbkpggmmhgcaa
open Go.RowKit Go.Sep Go.ChangeShapes Go.WideShapes Go.ChangeAt
set_option linter.unusedSimpArgs false
set_option linter.unusedVariables false
attribute [local irreducible] Go.Oper.wp Go.wpList Go.Calls Go.Code.wp Go.Sep.Reg
set_option maxRecDepth 20000 in
/-- The closure put: both disks are written. -/
theorem put2_any {W w : World} {L : List Asrt} {p q pd pr k : Nat} {D : DiskS} {R : RefS} (hS : Sat W w (Cs pd 30 [.pointer (some ⟨p, 0, none⟩)] :: Cs pr 47 [.pointer (some ⟨q, 0, none⟩)] :: IsDisk p D :: IsRef q R :: L)) (hR : Rel D R) (hw : D.writes.length ≤ k) (hk : k ≤ 1000) (n : Int) (v : Value) (b : List UInt8) {m : Nat} (hm : b.length = m) (hb : ∀ w, Sat W w L → Rd w v m 1 (bv b)) :
    Calls Try.prog 26 #[.int .i64 n, v, .pointer (some ⟨pd, 0, none⟩), .pointer (some ⟨pr, 0, none⟩)] w fun e w' => e = .returned (.bool true) ∧ Sat W w' (Cs pd 30 [.pointer (some ⟨p, 0, none⟩)] :: Cs pr 47 [.pointer (some ⟨q, 0, none⟩)] :: IsDisk p (wnext D n b) :: IsRef q (rnext D R n b) :: L) := by
  have HW1 := Lib.hid (fun w (h : Sat W w (IsDisk p D :: Cs pd 30 [.pointer (some ⟨p, 0, none⟩)] :: Cs pr 47 [.pointer (some ⟨q, 0, none⟩)] :: IsRef q R :: L)) => writeD_any h (hR.dg hw) hk n v b hm (fun w h => hb w h.drop.drop.drop))
  have HW2 := Lib.hid (fun w (h : Sat W w (IsRef q R :: Cs pd 30 [.pointer (some ⟨p, 0, none⟩)] :: Cs pr 47 [.pointer (some ⟨q, 0, none⟩)] :: IsDisk p (wnext D n b) :: L)) => rwriteR_any h hR (hR.dg hw) hk n v b hm (fun w h => hb w h.drop.drop.drop))
  obtain ⟨z, hz⟩ : ∃ z, wcode D n b.length = z := ⟨_, rfl⟩
  obtain ⟨D2, hD2⟩ : ∃ D2, wnext D n b = D2 := ⟨_, rfl⟩
  rw [hz, hD2] at HW1 HW2
  rw [hD2]
  clear hz hD2
  go_enter Try.func26, Try.ntmps26
  go_wp2
  refine regStart2 [7] hS (fun _ h => h.take2) (by kernel_rfl) rfl ?_
  intro w1 hS1
  clear hS; have hS := hS1; clear hS1
  (refine regR 0 hS (fun _ h => h.take2) rfl (by kernel_rfl) (by kernel_rfl) (by kernel_rfl) (by kernel_rfl) (by kernel_rfl) (fun _ _ _ _ h => h) (by rfl) (by rfl) ?_; (first
        | refine ⟨_, yLd _ _ (by rfl) _ _ (by rfl) (agOf (by rfl)) Has.z (by rfl), ?_⟩
        | refine ⟨_, yLd _ _ (by rfl) _ _ (by rfl) (agOf (by rfl)) (Has.s Has.z) (by rfl), ?_⟩); (simp only [Act.put, List.setIfInBounds_toArray, List.set_cons_zero, List.set_cons_succ]))
  (refine regP 1 hS (fun _ h => h.take2) rfl (by kernel_rfl) (by kernel_rfl) (by kernel_rfl) (fun _ _ _ _ h => h) (by rfl) (by rfl) ?_; apply Exists.intro; apply And.intro; (intro w; go_simp; try with_reducible rfl); (simp only [Act.put, List.setIfInBounds_toArray, List.set_cons_zero, List.set_cons_succ]))
  (refine regP 2 hS (fun _ h => h.take2) rfl (by kernel_rfl) (by kernel_rfl) (by kernel_rfl) (fun _ _ _ _ h => h) (by rfl) (by rfl) ?_; apply Exists.intro; apply And.intro; (intro w; go_simp; try with_reducible rfl); (simp only [Act.put, List.setIfInBounds_toArray, List.set_cons_zero, List.set_cons_succ]))
  (refine regR 4 hS (fun _ h => h.take2) rfl (by kernel_rfl) (by kernel_rfl) (by kernel_rfl) (by kernel_rfl) (by kernel_rfl) (fun _ _ _ _ h => h) (by rfl) (by rfl) ?_; (first
        | refine ⟨_, yLd _ _ (by rfl) _ _ (by rfl) (agOf (by rfl)) Has.z (by rfl), ?_⟩
        | refine ⟨_, yLd _ _ (by rfl) _ _ (by rfl) (agOf (by rfl)) (Has.s Has.z) (by rfl), ?_⟩); (simp only [Act.put, List.setIfInBounds_toArray, List.set_cons_zero, List.set_cons_succ]))
  (refine regP 5 hS (fun _ h => h.take2) rfl (by kernel_rfl) (by kernel_rfl) (by kernel_rfl) (fun _ _ _ _ h => h) (by rfl) (by rfl) ?_; apply Exists.intro; apply And.intro; (intro w; go_simp; try with_reducible rfl); (simp only [Act.put, List.setIfInBounds_toArray, List.set_cons_zero, List.set_cons_succ]))
  (refine regP 6 hS (fun _ h => h.take2) rfl (by kernel_rfl) (by kernel_rfl) (by kernel_rfl) (fun _ _ _ _ h => h) (by rfl) (by rfl) ?_; apply Exists.intro; apply And.intro; (intro w; go_simp; try with_reducible rfl); (simp only [Act.put, List.setIfInBounds_toArray, List.set_cons_zero, List.set_cons_succ]))
  (refine regA 3 rfl (by kernel_rfl) (by rfl) (by rfl) false (by kernel_rfl) (fun K hK => ?_); (first
        | (refine Go.Sep.cl 18 _ _ (by rfl) (by rfl) (by kernel_rfl) (HW1.out _ (hS.re [2])) ?_; rintro e w1 ⟨rfl, hS1⟩; clear hS; have hS := hS1; clear hS1; replace hS := hS.re [1, 2, 0]; refine ⟨_, rfl, ?_⟩)
        | (refine Go.Sep.cl 27 _ _ (by rfl) (by rfl) (by kernel_rfl) (HW2.out _ (hS.re [3])) ?_; rintro e w1 ⟨rfl, hS1⟩; clear hS; have hS := hS1; clear hS1; replace hS := hS.re [1, 2, 3, 0]; refine ⟨_, rfl, ?_⟩)); refine hK _ _ _ (hS.upTo (fun _ h => by exact h.take2)) (fun _ _ h => h) ?_; clear hK K; (simp only [Act.put, List.setIfInBounds_toArray, List.set_cons_zero, List.set_cons_succ]))
  (refine regA 7 rfl (by kernel_rfl) (by rfl) (by rfl) true (by kernel_rfl) (fun K hK => ?_); (first
        | (refine Go.Sep.cl 18 _ _ (by rfl) (by rfl) (by kernel_rfl) (HW1.out _ (hS.re [2])) ?_; rintro e w1 ⟨rfl, hS1⟩; clear hS; have hS := hS1; clear hS1; replace hS := hS.re [1, 2, 0]; refine ⟨_, rfl, ?_⟩)
        | (refine Go.Sep.cl 27 _ _ (by rfl) (by rfl) (by kernel_rfl) (HW2.out _ (hS.re [3])) ?_; rintro e w1 ⟨rfl, hS1⟩; clear hS; have hS := hS1; clear hS1; replace hS := hS.re [1, 2, 3, 0]; refine ⟨_, rfl, ?_⟩)); refine hK _ _ _ hS (by first | (intro h; cases h; done) | exact fun _ _ h => h | exact fun _ _ h => h.drop | exact fun _ _ h => h.drop.drop | exact fun _ _ h => h.drop.pull1 | exact fun _ _ h => h.take2 | exact fun _ _ h => h.one Has.z | exact fun _ _ h => h.one (Has.s Has.z) | exact fun _ _ h => h.one (Has.s (Has.s Has.z))) ?_; clear hK K; (simp only [Act.put, List.setIfInBounds_toArray, List.set_cons_zero, List.set_cons_succ]))
  (refine regP 8 hS (fun _ h => h) rfl (by kernel_rfl) (by kernel_rfl) (by kernel_rfl) (fun _ _ _ _ h => h) (by rfl) (by rfl) ?_; apply Exists.intro; apply And.intro; (intro w; go_simp; try with_reducible rfl); (simp only [Act.put, List.setIfInBounds_toArray, List.set_cons_zero, List.set_cons_succ]))
  (refine regP 9 hS (fun _ h => h) rfl (by kernel_rfl) (by kernel_rfl) (by kernel_rfl) (fun _ _ _ _ h => h) (by rfl) (by rfl) ?_; apply Exists.intro; apply And.intro; (intro w; go_simp; try with_reducible rfl); (simp only [Act.put, List.setIfInBounds_toArray, List.set_cons_zero, List.set_cons_succ]))
  refine regDone (by kernel_rfl) ?_
  go_wp2
  go_ret
  exact ⟨rfl, hS⟩
theorem inw_slice {W : World} {l : List WD} {v : Value} (h : InW W v l) {i : Nat} {x : WD} (hx : l[i]? = some x) : ∃ a c, x.v = .slice a x.b.length c := by
  obtain ⟨_, a, c, he, _⟩ := h.2 x (List.mem_of_getElem? hx)
  exact ⟨a, c, he⟩
set_option maxRecDepth 20000 in
set_option maxHeartbeats 8000000 in
theorem Recovers.walk (l m : List WD) (ao bo : Option Addr) (c c' : Nat) (at_ : Int) (y : UInt8) (cut : Int) (hcut : cut ≤ 9223372036854775807) (W : World) (hr : InW W (.slice ao l.length c) l) (hr2 : InW W (.slice bo m.length c') m) :
    Calls Try.prog 6 #[.slice ao l.length c, .int .i64 at_, .int .u8 (y.toNat : Int), .slice bo m.length c', .int .i64 cut] W fun e w' => e = .returned (.bool true) ∧ Sat W w' [] := by
  have hS := Sat.start W
  have HR := Lib.hid hr
  have HR2 := Lib.hid hr2
  have HCUT := Lib.hid hcut
  obtain ⟨_, _, he, hc1, hc2, _, h5⟩ := hr2.1
  simp only [Value.slice.injEq, true_and] at he
  obtain ⟨rfl, rfl⟩ := he
  have H5 := Lib.hid h5
  clear hr hr2 h5 hcut
  have HSM := Lib.hid (fun w (h : Sat W w []) => small_any h l ao c HR.out)
  have HSM2 := Lib.hid (fun w (h : Sat W w []) => small_any h m bo c' HR2.out)
  cases hsm : smallW l
  · rw [hsm] at HSM
    clear hsm
    go_enter Try.func6, Try.ntmps6
    go_wp2_with (first
      | (go_at_call 8; refine (HSM.out _ hS).mono ?_; rintro e w1 ⟨rfl, hS1⟩; clear hS; have hS := hS1; clear hS1)
      | (go_at_call 9; refine (wawake_any hS).mono ?_; rintro e w1 ⟨rfl, hS1⟩; clear hS; have hS := hS1; clear hS1))
    go_ret
    exact ⟨rfl, hS⟩
  cases hsm2 : smallW m
  · rw [hsm] at HSM
    rw [hsm2] at HSM2
    clear hsm hsm2
    go_enter Try.func6, Try.ntmps6
    go_wp2_with (first
      | (go_at_call 8; with_reducible refine (HSM.out _ hS).mono ?_; rintro e w1 ⟨rfl, hS1⟩; clear hS; have hS := hS1; clear hS1)
      | (go_at_call 8; with_reducible refine (HSM2.out _ hS).mono ?_; rintro e w1 ⟨rfl, hS1⟩; clear hS; have hS := hS1; clear hS1)
      | (go_at_call 9; refine (wawake_any hS).mono ?_; rintro e w1 ⟨rfl, hS1⟩; clear hS; have hS := hS1; clear hS1))
    go_ret
    exact ⟨rfl, hS⟩
  rw [hsm] at HSM
  rw [hsm2] at HSM2
  have HSB := Lib.hid (smallW_b hsm)
  have HSB2 := Lib.hid (smallW_b hsm2)
  clear hsm hsm2
  go_enter Try.func6, Try.ntmps6
  go_wp2_with (first
    | (go_at_call 8; with_reducible refine (HSM.out _ hS).mono ?_; rintro e w1 ⟨rfl, hS1⟩; clear hS; have hS := hS1; clear hS1)
    | (go_at_call 8; with_reducible refine (HSM2.out _ hS).mono ?_; rintro e w1 ⟨rfl, hS1⟩; clear hS; have hS := hS1; clear hS1)
    | (go_at_call 10; refine (group_any hS l ao c HR.out HSB.out.2).mono ?_; rintro e w1 ⟨v1, v2, rfl, xs, hgx, hS1⟩; clear hS; have hS := hS1; clear hS1; have HGX := Lib.hid hgx; obtain ⟨a1, c1, rfl, _⟩ := hS.tbShape (k := 0) rfl; obtain ⟨a2, c2, rfl, _⟩ := hS.tbShape (k := 2) rfl; clear hgx))
  have hgl : (g2 xs).length ≤ 60 := by rw [HGX.out, grpW_len (by unfold grpN; omega)]; unfold grpN; have := HSB.out.1; omega
  by_cases h20 : (g2 xs).length ≤ 20
  · have g1 : ((g2 xs).length : Int) ≤ 20 := by omega
    have e20 : decide (((g2 xs).length : Int) ≤ 20) = true := decide_eq_true g1
    have HCK := Lib.hid (fun (pq : Nat × Nat × Nat × Nat) w (h : Sat W w (Cs pq.1 30 [.pointer (some ⟨pq.2.1, 0, none⟩)] :: Cs pq.2.2.1 47 [.pointer (some ⟨pq.2.2.2, 0, none⟩)] :: IsDisk pq.2.1 disk0 :: IsRef pq.2.2.2 (.new 160) :: Tb 40 2 gw (.slice a1 xs.length c1) xs :: St (xs.map grow) :: Tb 56 2 wvI (.slice a2 (g2 xs).length c2) (g2 xs) :: [])) => rcheck_any h (g2 xs) a2 c2 (fun w h => h.tbRd (Has.s (Has.s (Has.s (Has.s (Has.s (Has.s Has.z))))))) (by omega) 160)
    cases hok : okG 160 (g2 xs)
    · rw [hok] at HCK
      clear hok h20
      go_wp2_with (first
        | (go_at_call 12; refine (new_okN hS 160 (by decide) (by decide)).mono ?_; rintro e w1 ⟨p, rfl, hS1⟩; clear hS; have hS := hS1; clear hS1)
        | (refine toList (by rfl) ?_; refine al hS 30 (by rfl) (zrOf (by rfl)) ?_; intro pd w1 hS1; clear hS; have hS := hS1; clear hS1; rw [cells_agg] at hS)
        | (refine toList (by rfl) ?_; refine al hS 30 (by rfl) (zrOf (by rfl)) ?_; intro pd w1 hS1; clear hS; have hS := hS1; clear hS1)
        | (refine toList (by rfl) ?_; refine st hS 30 _ _ (by rfl) _ _ (by rfl) _ (by first | exact evC | exact evT (by rfl)) (by rfl) (szOf (by rfl)) Has.z (by exact Nat.le_of_ble_eq_true rfl) ?_; intro w1 hS1; clear hS; have hS := hS1; clear hS1; dsimp only [List.set] at hS)
        | (go_at_call 20; refine (ref_new_ok hS 160 (by decide) (by decide)).mono ?_; rintro e w1 ⟨q, rfl, hS1⟩; clear hS; have hS := hS1; clear hS1)
        | (refine toList (by rfl) ?_; refine al hS 47 (by rfl) (zrOf (by rfl)) ?_; intro pr w1 hS1; clear hS; have hS := hS1; clear hS1)
        | (refine toList (by rfl) ?_; refine st hS 47 _ _ (by rfl) _ _ (by rfl) _ (by first | exact evC | exact evT (by rfl)) (by rfl) (szOf (by rfl)) Has.z (by exact Nat.le_of_ble_eq_true rfl) ?_; intro w1 hS1; clear hS; have hS := hS1; clear hS1; dsimp only [List.set] at hS; replace hS := hS.re [2, 0, 3, 1])
        | (refine toList (by rfl) ?_; refine ld hS _ _ (by rfl) _ _ (by rfl) (agOf (by rfl)) (Has.s Has.z) (by rfl) ?_)
        | (go_at_call 11; refine (HCK.out (pd, p, pr, q) _ hS).mono ?_; rintro e w1 ⟨rfl, hS1⟩; clear hS; have hS := hS1; clear hS1))
      have H0 := Lib.hid (hS.re [4, 5, 6]).drop.drop.drop
      clear hS
      go_loopw [19] (fun v wz => ∃ (i : Nat) (D : DiskS) (R : RefS), v = .int .i64 i ∧ i ≤ 10 ∧ i ≤ m.length ∧ Rel D R ∧ D.writes.length ≤ 21 + i ∧ D.blocks.length = 160 ∧ Sat W wz (Cs pd 30 [.pointer (some ⟨p, 0, none⟩)] :: Cs pr 47 [.pointer (some ⟨q, 0, none⟩)] :: IsDisk p D :: IsRef q R :: [])) (fun v _ => 10 - (intOf v).toNat)
      case atStart => exact ⟨0, _, _, rfl, by omega, by omega, rel0, (by simp [disk0]), free0.len, H0.out⟩
      case round =>
        clear H0
        obtain ⟨i, D, R, rfl, hi10, hi, hrl, hwr, hln, hS⟩ := hrel
        have HRL := Lib.hid hrl
        have HWR := Lib.hid (show D.writes.length ≤ 31 by omega)
        have HWR1 := Lib.hid hwr
        have HLN := Lib.hid hln
        clear hrl hwr hln
        by_cases hl : i < m.length
        · have n1 : (i : Int) < (m.length : Int) := by omega
          have e1 : decide ((i : Int) < (m.length : Int)) = true := decide_eq_true n1
          by_cases h10 : i < 10
          · have n2 : (i : Int) < 10 := by omega
            have e2 : decide ((i : Int) < 10) = true := decide_eq_true n2
            obtain ⟨bm, om, hbm, _⟩ := H5.out (by omega)
            obtain ⟨⟨xa, xv, xb, xsh⟩, hx⟩ : ∃ x, m[i]? = some x := ⟨_, List.getElem?_eq_getElem hl⟩
            obtain ⟨_, hxr⟩ := HR2.out.2 _ (List.mem_of_getElem? hx)
            dsimp only at hxr
            have HXR := Lib.hid hxr
            obtain ⟨ax, cx, he⟩ := inw_slice HR2.out hx
            dsimp only at he
            subst he
            have HX := Lib.hid hx
            have HL := Lib.hid hl
            have HP := Lib.hid (pad_copy xb)
            have HPL := Lib.hid (pad_length xb)
            obtain ⟨j, hj⟩ : ∃ j, xa % 160 = j := ⟨_, rfl⟩
            have HPJ := Lib.hid (fun w => (show Calls Try.prog 28 #[.int .i64 xa, .int .i64 160] w fun e w' => e = .returned (.int .i64 j) ∧ w = w' by rw [← hj]; exact place_any xa 160 (by decide) (by decide) w))
            have HPUT := Lib.hid (fun (pb : Nat) w (h : Sat W w (Cs pd 30 [.pointer (some ⟨p, 0, none⟩)] :: Cs pr 47 [.pointer (some ⟨q, 0, none⟩)] :: IsDisk p D :: IsRef q R :: Cs pb 5 (bv (pad xb)) :: [])) => put2_any h HRL.out HWR.out (by decide) j (.slice (some ⟨pb, 0, none⟩) 128 128) (pad xb) (m := 128) HPL.out (fun w h => h.csRd0 (n := 128) (sz := 1) Has.z (by decide) (by rw [bv_length, HPL.out])))
            have HRN := Lib.hid (HRL.out.next j (pad xb))
            have HWN := Lib.hid (show (wnext D j (pad xb)).writes.length ≤ 21 + (i + 1) by have := wnext_writes D j (pad xb); have := HWR1.out; omega)
            have HLN2 := Lib.hid (show (wnext D j (pad xb)).blocks.length = 160 by rw [wnext_len]; exact HLN.out)
            have H10 := Lib.hid h10
            subst hbm
            clear hx hl hj hxr h10
            go_wp2_with (first
              | (refine toList (by rfl) ?_; refine mk hS _ _ _ (by rfl) 128 128 _ _ (by rfl) (by rfl) (elOf (by rfl)) (by omega) (by omega) (by omega) ?_; intro pb w1 hS1; clear hS; have hS := hS1; clear hS1; rw [made_u8] at hS)
              | (refine toList (by rfl) ?_; refine wp_of_reads (rLdRd (HR2.out.1.old hS) (wdv_len m) _ _ (by rfl) _ (by rfl) (agOf (by rfl)) i 1 (by omega) HX.out (by rfl) (by omega)) ?_)
              | (refine toList (by rfl) ?_; refine wp_of_reads (rLdRd (HR2.out.1.old hS) (wdv_len m) _ _ (by rfl) _ (by rfl) (agOf (by rfl)) i 0 (by omega) HX.out (by rfl) (by omega)) ?_)
              | (refine toList (by rfl) ?_; refine cp hS _ _ _ _ (by rfl) _ _ _ _ _ (by rfl) (by rfl) (elOf (by rfl)) (by omega) Has.z (by exact HXR.out.old hS) (bv_one _) (by simp [bv, zeros]) ?_; intro w1 hS1; clear hS; have hS := hS1; clear hS1; rw [HP.out] at hS; dsimp only [List.set_cons_zero] at hS)
              | (go_at_call 28; refine (HPJ.out _).mono ?_; rintro e w1 ⟨rfl, rfl⟩)
              | (go_at_call 26; refine (HPUT.out pb _ (hS.re [1, 2, 3, 4])).mono ?_; rintro e w1 ⟨rfl, hS1⟩; clear hS; have hS := hS1; clear hS1))
            exact ⟨⟨i + 1, _, _, by go_num, H10.out, HL.out, HRN.out, HWN.out, HLN2.out, (hS.re [4]).drop⟩, by simp [intOf]; have := H10.out; omega⟩
          · have e2 : decide ((i : Int) < 10) = false := decide_eq_false (by omega)
            clear hl h10
            obtain ⟨D', R', cb, hC⟩ := cut2 HRL.out cut HCUT.out
            have HC := Lib.hid hC
            have HRL3 := Lib.hid hC.rel.recover
            have hl3 : D'.blocks.length = 160 := by rw [hC.len]; exact HLN.out
            have hdg : DG D' 40 := hC.rel.dg (by rw [hC.wr]; have := HWR.out; omega)
            have HRA := Lib.hid (fun w (h : Sat W w (IsDisk p D' :: Cs pd 30 [.pointer (some ⟨p, 0, none⟩)] :: Cs pr 47 [.pointer (some ⟨q, 0, none⟩)] :: IsRef q R' :: [])) => wrecover_any h hdg (by decide) (by rw [hl3]; decide))
            have HRB := Lib.hid (fun (hb : ∀ b ∈ D'.blocks, b.length = 128) w (h : Sat W w (IsRef q R' :: Cs pd 30 [.pointer (some ⟨p, 0, none⟩)] :: Cs pr 47 [.pointer (some ⟨q, 0, none⟩)] :: IsDisk p (recR D').2 :: [])) => rrecover_any h hC.rel hdg (by decide) (by rw [hl3]; decide) hb)
            obtain ⟨rb, hrb⟩ : ∃ rb, recB D' = rb := ⟨_, rfl⟩
            obtain ⟨rc, hrc⟩ : ∃ rc, (recR D').1 = rc := ⟨_, rfl⟩
            obtain ⟨D3, hD3⟩ : ∃ D3, (recR D').2 = D3 := ⟨_, rfl⟩
            obtain ⟨R3, hR3⟩ : ∃ R3, recRf D' R' = R3 := ⟨_, rfl⟩
            rw [hrb, hrc, hD3] at HRA
            rw [hrb, hrc, hD3, hR3] at HRB
            rw [hD3, hR3] at HRL3
            clear hC hl3 hdg hrb hrc hD3 hR3
            go_wp2
            refine regStart2 [5] hS (fun _ h => h.take2) (by kernel_rfl) rfl ?_
            intro w1 hS1
            clear hS; have hS := hS1; clear hS1
            (refine regR 0 hS (fun _ h => h.take2) rfl (by kernel_rfl) (by kernel_rfl) (by kernel_rfl) (by kernel_rfl) (by kernel_rfl) (fun _ _ _ _ h => h) (by rfl) (by rfl) ?_; (first
                                      | refine ⟨_, yLd _ _ (by rfl) _ _ (by rfl) (agOf (by rfl)) Has.z (by rfl), ?_⟩
                                      | refine ⟨_, yLd _ _ (by rfl) _ _ (by rfl) (agOf (by rfl)) (Has.s Has.z) (by rfl), ?_⟩); (simp only [Act.put, List.setIfInBounds_toArray, List.set_cons_zero, List.set_cons_succ]))
            (refine regP 1 hS (fun _ h => h.take2) rfl (by kernel_rfl) (by kernel_rfl) (by kernel_rfl) (fun _ _ _ _ h => h) (by rfl) (by rfl) ?_; apply Exists.intro; apply And.intro; (intro w; go_simp; try with_reducible rfl); (simp only [Act.put, List.setIfInBounds_toArray, List.set_cons_zero, List.set_cons_succ]))
            (refine regR 3 hS (fun _ h => h.take2) rfl (by kernel_rfl) (by kernel_rfl) (by kernel_rfl) (by kernel_rfl) (by kernel_rfl) (fun _ _ _ _ h => h) (by rfl) (by rfl) ?_; (first
                                      | refine ⟨_, yLd _ _ (by rfl) _ _ (by rfl) (agOf (by rfl)) Has.z (by rfl), ?_⟩
                                      | refine ⟨_, yLd _ _ (by rfl) _ _ (by rfl) (agOf (by rfl)) (Has.s Has.z) (by rfl), ?_⟩); (simp only [Act.put, List.setIfInBounds_toArray, List.set_cons_zero, List.set_cons_succ]))
            (refine regP 4 hS (fun _ h => h.take2) rfl (by kernel_rfl) (by kernel_rfl) (by kernel_rfl) (fun _ _ _ _ h => h) (by rfl) (by rfl) ?_; apply Exists.intro; apply And.intro; (intro w; go_simp; try with_reducible rfl); (simp only [Act.put, List.setIfInBounds_toArray, List.set_cons_zero, List.set_cons_succ]))
            (refine regA 2 rfl (by kernel_rfl) (by rfl) (by rfl) false (by kernel_rfl) (fun K hK => ?_); (first
                                      | (refine Go.Sep.cl 21 _ _ (by rfl) (by rfl) (by kernel_rfl) (HC.out.c1 _ _ _ p (hS.re [2])) ?_; rintro e w1 ⟨rfl, hS1⟩; clear hS; have hS := hS1; clear hS1; replace hS := hS.re [1, 2, 0]; refine ⟨_, rfl, ?_⟩)
                                      | (refine Go.Sep.cl 22 _ _ (by rfl) (by rfl) (by kernel_rfl) (HC.out.c2 _ _ _ q (hS.re [3])) ?_; rintro e w1 ⟨rfl, hS1⟩; clear hS; have hS := hS1; clear hS1; replace hS := hS.re [1, 2, 3, 0]; refine ⟨_, rfl, ?_⟩)); refine hK _ _ _ (hS.upTo (fun _ h => by exact h.take2)) (fun _ _ h => h) ?_; clear hK K; (simp only [Act.put, List.setIfInBounds_toArray, List.set_cons_zero, List.set_cons_succ]))
            (refine regA 5 rfl (by kernel_rfl) (by rfl) (by rfl) true (by kernel_rfl) (fun K hK => ?_); (first
                                      | (refine Go.Sep.cl 21 _ _ (by rfl) (by rfl) (by kernel_rfl) (HC.out.c1 _ _ _ p (hS.re [2])) ?_; rintro e w1 ⟨rfl, hS1⟩; clear hS; have hS := hS1; clear hS1; replace hS := hS.re [1, 2, 0]; refine ⟨_, rfl, ?_⟩)
                                      | (refine Go.Sep.cl 22 _ _ (by rfl) (by rfl) (by kernel_rfl) (HC.out.c2 _ _ _ q (hS.re [3])) ?_; rintro e w1 ⟨rfl, hS1⟩; clear hS; have hS := hS1; clear hS1; replace hS := hS.re [1, 2, 3, 0]; refine ⟨_, rfl, ?_⟩)); refine hK _ _ _ hS (by first | (intro h; cases h; done) | exact fun _ _ h => h | exact fun _ _ h => h.drop | exact fun _ _ h => h.drop.drop | exact fun _ _ h => h.drop.pull1 | exact fun _ _ h => h.take2 | exact fun _ _ h => h.one Has.z | exact fun _ _ h => h.one (Has.s Has.z) | exact fun _ _ h => h.one (Has.s (Has.s Has.z))) ?_; clear hK K; (simp only [Act.put, List.setIfInBounds_toArray, List.set_cons_zero, List.set_cons_succ]))
            (refine regP 6 hS (fun _ h => h) rfl (by kernel_rfl) (by kernel_rfl) (by kernel_rfl) (fun _ _ _ _ h => h) (by rfl) (by rfl) ?_; apply Exists.intro; apply And.intro; (intro w; go_simp; try with_reducible rfl); (simp only [Act.put, List.setIfInBounds_toArray, List.set_cons_zero, List.set_cons_succ]))
            refine regDone (by kernel_rfl) ?_
            have HB8 := Lib.hid (IsDisk.b128 (hS.re [2]))
            go_wp2_with (first
              | (refine toList (by rfl) ?_; refine ld hS _ _ (by rfl) _ _ (by rfl) (agOf (by rfl)) Has.z (by rfl) ?_)
              | (refine toList (by rfl) ?_; refine ld hS _ _ (by rfl) _ _ (by rfl) (agOf (by rfl)) (Has.s Has.z) (by rfl) ?_)
              | (go_at_call 16; refine (HRA.out _ (hS.re [2])).mono ?_; rintro e w1 ⟨rfl, hS1⟩; clear hS; have hS := hS1; clear hS1; replace hS := hS.re [1, 2, 0])
              | (go_at_call 29; refine (HRB.out HB8.out _ (hS.re [3])).mono ?_; rintro e w1 ⟨rfl, hS1⟩; clear hS; have hS := hS1; clear hS1; replace hS := hS.re [1, 2, 3, 0])
              | (go_at_call 25; refine (wsame_any (hS.re [2, 3]) HRL3.out).mono ?_; rintro e w1 ⟨rfl, hS1⟩; clear hS; have hS := hS1; clear hS1)
              | (go_at_call 9; refine (wawake_any hS).mono ?_; rintro e w1 ⟨rfl, hS1⟩; clear hS; have hS := hS1; clear hS1))
            go_ret
            exact ⟨rfl, hS.clear⟩
        · have n1 : ¬ (i : Int) < (m.length : Int) := by omega
          have e1 : decide ((i : Int) < (m.length : Int)) = false := decide_eq_false n1
          have e3 : decide (i < m.length) = false := decide_eq_false hl
          clear hl
          obtain ⟨D', R', cb, hC⟩ := cut2 HRL.out cut HCUT.out
          have HC := Lib.hid hC
          have HRL3 := Lib.hid hC.rel.recover
          have hl3 : D'.blocks.length = 160 := by rw [hC.len]; exact HLN.out
          have hdg : DG D' 40 := hC.rel.dg (by rw [hC.wr]; have := HWR.out; omega)
          have HRA := Lib.hid (fun w (h : Sat W w (IsDisk p D' :: Cs pd 30 [.pointer (some ⟨p, 0, none⟩)] :: Cs pr 47 [.pointer (some ⟨q, 0, none⟩)] :: IsRef q R' :: [])) => wrecover_any h hdg (by decide) (by rw [hl3]; decide))
          have HRB := Lib.hid (fun (hb : ∀ b ∈ D'.blocks, b.length = 128) w (h : Sat W w (IsRef q R' :: Cs pd 30 [.pointer (some ⟨p, 0, none⟩)] :: Cs pr 47 [.pointer (some ⟨q, 0, none⟩)] :: IsDisk p (recR D').2 :: [])) => rrecover_any h hC.rel hdg (by decide) (by rw [hl3]; decide) hb)
          obtain ⟨rb, hrb⟩ : ∃ rb, recB D' = rb := ⟨_, rfl⟩
          obtain ⟨rc, hrc⟩ : ∃ rc, (recR D').1 = rc := ⟨_, rfl⟩
          obtain ⟨D3, hD3⟩ : ∃ D3, (recR D').2 = D3 := ⟨_, rfl⟩
          obtain ⟨R3, hR3⟩ : ∃ R3, recRf D' R' = R3 := ⟨_, rfl⟩
          rw [hrb, hrc, hD3] at HRA
          rw [hrb, hrc, hD3, hR3] at HRB
          rw [hD3, hR3] at HRL3
          clear hC hl3 hdg hrb hrc hD3 hR3
          go_wp2
          refine regStart2 [5] hS (fun _ h => h.take2) (by kernel_rfl) rfl ?_
          intro w1 hS1
          clear hS; have hS := hS1; clear hS1
          (refine regR 0 hS (fun _ h => h.take2) rfl (by kernel_rfl) (by kernel_rfl) (by kernel_rfl) (by kernel_rfl) (by kernel_rfl) (fun _ _ _ _ h => h) (by rfl) (by rfl) ?_; (first
                                | refine ⟨_, yLd _ _ (by rfl) _ _ (by rfl) (agOf (by rfl)) Has.z (by rfl), ?_⟩
                                | refine ⟨_, yLd _ _ (by rfl) _ _ (by rfl) (agOf (by rfl)) (Has.s Has.z) (by rfl), ?_⟩); (simp only [Act.put, List.setIfInBounds_toArray, List.set_cons_zero, List.set_cons_succ]))
          (refine regP 1 hS (fun _ h => h.take2) rfl (by kernel_rfl) (by kernel_rfl) (by kernel_rfl) (fun _ _ _ _ h => h) (by rfl) (by rfl) ?_; apply Exists.intro; apply And.intro; (intro w; go_simp; try with_reducible rfl); (simp only [Act.put, List.setIfInBounds_toArray, List.set_cons_zero, List.set_cons_succ]))
          (refine regR 3 hS (fun _ h => h.take2) rfl (by kernel_rfl) (by kernel_rfl) (by kernel_rfl) (by kernel_rfl) (by kernel_rfl) (fun _ _ _ _ h => h) (by rfl) (by rfl) ?_; (first
                                | refine ⟨_, yLd _ _ (by rfl) _ _ (by rfl) (agOf (by rfl)) Has.z (by rfl), ?_⟩
                                | refine ⟨_, yLd _ _ (by rfl) _ _ (by rfl) (agOf (by rfl)) (Has.s Has.z) (by rfl), ?_⟩); (simp only [Act.put, List.setIfInBounds_toArray, List.set_cons_zero, List.set_cons_succ]))
          (refine regP 4 hS (fun _ h => h.take2) rfl (by kernel_rfl) (by kernel_rfl) (by kernel_rfl) (fun _ _ _ _ h => h) (by rfl) (by rfl) ?_; apply Exists.intro; apply And.intro; (intro w; go_simp; try with_reducible rfl); (simp only [Act.put, List.setIfInBounds_toArray, List.set_cons_zero, List.set_cons_succ]))
          (refine regA 2 rfl (by kernel_rfl) (by rfl) (by rfl) false (by kernel_rfl) (fun K hK => ?_); (first
                                | (refine Go.Sep.cl 21 _ _ (by rfl) (by rfl) (by kernel_rfl) (HC.out.c1 _ _ _ p (hS.re [2])) ?_; rintro e w1 ⟨rfl, hS1⟩; clear hS; have hS := hS1; clear hS1; replace hS := hS.re [1, 2, 0]; refine ⟨_, rfl, ?_⟩)
                                | (refine Go.Sep.cl 22 _ _ (by rfl) (by rfl) (by kernel_rfl) (HC.out.c2 _ _ _ q (hS.re [3])) ?_; rintro e w1 ⟨rfl, hS1⟩; clear hS; have hS := hS1; clear hS1; replace hS := hS.re [1, 2, 3, 0]; refine ⟨_, rfl, ?_⟩)); refine hK _ _ _ (hS.upTo (fun _ h => by exact h.take2)) (fun _ _ h => h) ?_; clear hK K; (simp only [Act.put, List.setIfInBounds_toArray, List.set_cons_zero, List.set_cons_succ]))
          (refine regA 5 rfl (by kernel_rfl) (by rfl) (by rfl) true (by kernel_rfl) (fun K hK => ?_); (first
                                | (refine Go.Sep.cl 21 _ _ (by rfl) (by rfl) (by kernel_rfl) (HC.out.c1 _ _ _ p (hS.re [2])) ?_; rintro e w1 ⟨rfl, hS1⟩; clear hS; have hS := hS1; clear hS1; replace hS := hS.re [1, 2, 0]; refine ⟨_, rfl, ?_⟩)
                                | (refine Go.Sep.cl 22 _ _ (by rfl) (by rfl) (by kernel_rfl) (HC.out.c2 _ _ _ q (hS.re [3])) ?_; rintro e w1 ⟨rfl, hS1⟩; clear hS; have hS := hS1; clear hS1; replace hS := hS.re [1, 2, 3, 0]; refine ⟨_, rfl, ?_⟩)); refine hK _ _ _ hS (by first | (intro h; cases h; done) | exact fun _ _ h => h | exact fun _ _ h => h.drop | exact fun _ _ h => h.drop.drop | exact fun _ _ h => h.drop.pull1 | exact fun _ _ h => h.take2 | exact fun _ _ h => h.one Has.z | exact fun _ _ h => h.one (Has.s Has.z) | exact fun _ _ h => h.one (Has.s (Has.s Has.z))) ?_; clear hK K; (simp only [Act.put, List.setIfInBounds_toArray, List.set_cons_zero, List.set_cons_succ]))
          (refine regP 6 hS (fun _ h => h) rfl (by kernel_rfl) (by kernel_rfl) (by kernel_rfl) (fun _ _ _ _ h => h) (by rfl) (by rfl) ?_; apply Exists.intro; apply And.intro; (intro w; go_simp; try with_reducible rfl); (simp only [Act.put, List.setIfInBounds_toArray, List.set_cons_zero, List.set_cons_succ]))
          refine regDone (by kernel_rfl) ?_
          have HB8 := Lib.hid (IsDisk.b128 (hS.re [2]))
          go_wp2_with (first
            | (refine toList (by rfl) ?_; refine ld hS _ _ (by rfl) _ _ (by rfl) (agOf (by rfl)) Has.z (by rfl) ?_)
            | (refine toList (by rfl) ?_; refine ld hS _ _ (by rfl) _ _ (by rfl) (agOf (by rfl)) (Has.s Has.z) (by rfl) ?_)
            | (go_at_call 16; refine (HRA.out _ (hS.re [2])).mono ?_; rintro e w1 ⟨rfl, hS1⟩; clear hS; have hS := hS1; clear hS1; replace hS := hS.re [1, 2, 0])
            | (go_at_call 29; refine (HRB.out HB8.out _ (hS.re [3])).mono ?_; rintro e w1 ⟨rfl, hS1⟩; clear hS; have hS := hS1; clear hS1; replace hS := hS.re [1, 2, 3, 0])
            | (go_at_call 25; refine (wsame_any (hS.re [2, 3]) HRL3.out).mono ?_; rintro e w1 ⟨rfl, hS1⟩; clear hS; have hS := hS1; clear hS1)
            | (go_at_call 9; refine (wawake_any hS).mono ?_; rintro e w1 ⟨rfl, hS1⟩; clear hS; have hS := hS1; clear hS1))
          go_ret
          exact ⟨rfl, hS.clear⟩
    · rw [hok] at HCK
      have HHL := Lib.hid (hdr_len (okG_len hok).2)
      have HD9 := Lib.hid (okG_d9 hok)
      have HRG := Lib.hid (okG_range2 (by decide) hok)
      have HL20 := Lib.hid (okG_len hok).2
      clear hok h20
      go_wp2_with (first
        | (go_at_call 12; refine (new_okN hS 160 (by decide) (by decide)).mono ?_; rintro e w1 ⟨p, rfl, hS1⟩; clear hS; have hS := hS1; clear hS1)
        | (refine toList (by rfl) ?_; refine al hS 30 (by rfl) (zrOf (by rfl)) ?_; intro pd w1 hS1; clear hS; have hS := hS1; clear hS1; rw [cells_agg] at hS)
        | (refine toList (by rfl) ?_; refine al hS 30 (by rfl) (zrOf (by rfl)) ?_; intro pd w1 hS1; clear hS; have hS := hS1; clear hS1)
        | (refine toList (by rfl) ?_; refine st hS 30 _ _ (by rfl) _ _ (by rfl) _ (by first | exact evC | exact evT (by rfl)) (by rfl) (szOf (by rfl)) Has.z (by exact Nat.le_of_ble_eq_true rfl) ?_; intro w1 hS1; clear hS; have hS := hS1; clear hS1; dsimp only [List.set] at hS)
        | (go_at_call 20; refine (ref_new_ok hS 160 (by decide) (by decide)).mono ?_; rintro e w1 ⟨q, rfl, hS1⟩; clear hS; have hS := hS1; clear hS1)
        | (refine toList (by rfl) ?_; refine al hS 47 (by rfl) (zrOf (by rfl)) ?_; intro pr w1 hS1; clear hS; have hS := hS1; clear hS1)
        | (refine toList (by rfl) ?_; refine st hS 47 _ _ (by rfl) _ _ (by rfl) _ (by first | exact evC | exact evT (by rfl)) (by rfl) (szOf (by rfl)) Has.z (by exact Nat.le_of_ble_eq_true rfl) ?_; intro w1 hS1; clear hS; have hS := hS1; clear hS1; dsimp only [List.set] at hS; replace hS := hS.re [2, 0, 3, 1])
        | (refine toList (by rfl) ?_; refine ld hS _ _ (by rfl) _ _ (by rfl) (agOf (by rfl)) (Has.s Has.z) (by rfl) ?_)
        | (go_at_call 11; refine (HCK.out (pd, p, pr, q) _ hS).mono ?_; rintro e w1 ⟨rfl, hS1⟩; clear hS; have hS := hS1; clear hS1))
      have H1 : Hid (Sat W _ (Cs pd 30 [.pointer (some ⟨p, 0, none⟩)] :: Cs pr 47 [.pointer (some ⟨q, 0, none⟩)] :: IsDisk p disk0 :: IsRef q (.new 160) :: Tb 40 2 gw (.slice a1 xs.length c1) xs :: St (xs.map grow) :: Tb 56 2 wvI (.slice a2 (g2 xs).length c2) (g2 xs) :: [])) := Lib.hid hS
      clear hS
      go_loopw [17] (fun v wz => ∃ (i : Nat) (D : DiskS) (R : RefS), v = .int .i64 i ∧ i ≤ (g2 xs).length ∧ Rel D R ∧ D.writes.length ≤ i ∧ D.blocks.length = 160 ∧ Sat W wz (Cs pd 30 [.pointer (some ⟨p, 0, none⟩)] :: Cs pr 47 [.pointer (some ⟨q, 0, none⟩)] :: IsDisk p D :: IsRef q R :: Tb 40 2 gw (.slice a1 xs.length c1) xs :: St (xs.map grow) :: Tb 56 2 wvI (.slice a2 (g2 xs).length c2) (g2 xs) :: [])) (fun v _ => (g2 xs).length - (intOf v).toNat)
      case atStart => exact ⟨0, _, _, rfl, by omega, rel0, (by simp [disk0]), free0.len, H1.out⟩
      case round =>
        clear H1
        obtain ⟨i, D, R, rfl, hi, hrl, hwr, hln, hS⟩ := hrel
        have HRL := Lib.hid hrl
        have HWR := Lib.hid hwr
        have HLN := Lib.hid hln
        clear hrl hwr hln
        by_cases hl : i < (g2 xs).length
        · have n1 : (i : Int) < ((g2 xs).length : Int) := by omega
          have n2 : (i : Int) < 60 := by omega
          obtain ⟨⟨xa, xd⟩, hx⟩ : ∃ x, (g2 xs)[i]? = some x := ⟨_, List.getElem?_eq_getElem hl⟩
          have HDL := Lib.hid (show xd.length ≤ 1000000 from HD9.out _ (List.mem_of_getElem? hx))
          have HX := Lib.hid hx
          have HL := Lib.hid hl
          obtain ⟨ba, oa, ca', hv, _⟩ := hS.tbAddr (k := 6) rfl (by omega)
          simp only [Value.slice.injEq, true_and] at hv
          obtain ⟨rfl, rfl⟩ := hv
          have HPUT := Lib.hid (fun (qc : Nat × Nat) w (M : List Asrt) (h : Sat W w (Cs pd 30 [.pointer (some ⟨p, 0, none⟩)] :: Cs pr 47 [.pointer (some ⟨q, 0, none⟩)] :: IsDisk p D :: IsRef q R :: Sl 5 1 (.slice (some ⟨qc.1, 0, none⟩) xd.length qc.2) xd.length (bv xd) :: M)) => put2_any h HRL.out HWR.out (by omega) (3 + (i : Int)) (.slice (some ⟨qc.1, 0, none⟩) xd.length qc.2) xd rfl (fun w h => h.slRd Has.z))
          have HRN := Lib.hid (HRL.out.next (3 + (i : Int)) xd)
          have HWN := Lib.hid (show (wnext D (3 + (i : Int)) xd).writes.length ≤ i + 1 by have := wnext_writes D (3 + (i : Int)) xd; have := HWR.out; omega)
          have HLN2 := Lib.hid (show (wnext D (3 + (i : Int)) xd).blocks.length = 160 by rw [wnext_len]; exact HLN.out)
          clear hx hl
          go_wp2_with (first
            | (refine toList (by rfl) ?_; refine wp_of_reads (rLdRd (hS.tbRd (Has.s (Has.s (Has.s (Has.s (Has.s (Has.s Has.z))))))) (wvI_len (g2 xs)) _ _ (by rfl) _ (by rfl) (agOf (by rfl)) i 1 (by omega) HX.out (by rfl) (by omega)) ?_)
            | (refine toList (by rfl) ?_; refine cvB hS _ _ _ (by rfl) xd (by rfl) bstr (by have := HDL.out; omega) ?_; intro qb cb w1 hS1; clear hS; have hS := hS1; clear hS1)
            | (go_at_call 26; refine (HPUT.out (qb, cb) _ _ (hS.re [1, 2, 3, 4])).mono ?_; rintro e w1 ⟨rfl, hS1⟩; clear hS; have hS := hS1; clear hS1))
          exact ⟨⟨i + 1, _, _, by go_num, HL.out, HRN.out, HWN.out, HLN2.out, (hS.re [4]).drop⟩, by simp [intOf]; have := HL.out; omega⟩
        · have n1 : ¬ (i : Int) < ((g2 xs).length : Int) := by omega
          have HW20 := Lib.hid (show D.writes.length ≤ 20 by have := HWR.out; have := HL20.out; omega)
          obtain ⟨hd, hhd⟩ : ∃ hd, hdr (g2 xs) = hd := ⟨_, rfl⟩
          have HHD := Lib.hid (fun w (h : Sat W w (Cs pd 30 [.pointer (some ⟨p, 0, none⟩)] :: Cs pr 47 [.pointer (some ⟨q, 0, none⟩)] :: IsDisk p D :: IsRef q R :: Tb 40 2 gw (.slice a1 xs.length c1) xs :: St (xs.map grow) :: Tb 56 2 wvI (.slice a2 (g2 xs).length c2) (g2 xs) :: [])) => rheader_any h (g2 xs) a2 c2 (fun w h => h.tbRd (Has.s (Has.s (Has.s (Has.s (Has.s (Has.s Has.z))))))) HL20.out HRG.out HD9.out)
          rw [hhd] at HHD HHL
          obtain ⟨kk, hkk⟩ : ∃ kk : Nat, at_ % 128 = kk := ⟨(at_ % 128).toNat, by omega⟩
          have hk128 : kk < 128 := by omega
          have HPK := Lib.hid (fun w => (show Calls Try.prog 28 #[.int .i64 at_, .int .i64 128] w fun e w' => e = .returned (.int .i64 (kk : Int)) ∧ w = w' by rw [← hkk]; exact place_any at_ 128 (by decide) (by decide) w))
          have HKD := Lib.hid (show kk < hd.length by rw [HHL.out]; exact hk128)
          have hfs := flip_set y HKD.out
          have HAT := bv_at HKD.out
          have HFS := Lib.hid hfs
          have HBA := Lib.hid HAT
          have HFL := Lib.hid (show (flip hd kk y).length = 128 by rw [flip_len]; exact HHL.out)
          have HPUT := Lib.hid (fun (bc : Nat × Nat × Nat) w (M : List Asrt) (h : Sat W w (Cs pd 30 [.pointer (some ⟨p, 0, none⟩)] :: Cs pr 47 [.pointer (some ⟨q, 0, none⟩)] :: IsDisk p D :: IsRef q R :: Sl 5 1 (.slice (some ⟨bc.1, bc.2.1, none⟩) 128 bc.2.2) 128 (bv (flip hd kk y)) :: M)) => put2_any h HRL.out HW20.out (by decide) 2 (.slice (some ⟨bc.1, bc.2.1, none⟩) 128 bc.2.2) (flip hd kk y) (m := 128) HFL.out (fun w h => h.slRd Has.z))
          have HRN := Lib.hid (HRL.out.next 2 (flip hd kk y))
          have HWN := Lib.hid (show (wnext D 2 (flip hd kk y)).writes.length ≤ 21 + 0 by have := wnext_writes D 2 (flip hd kk y); have := HW20.out; omega)
          have HLN2 := Lib.hid (show (wnext D 2 (flip hd kk y)).blocks.length = 160 by rw [wnext_len]; exact HLN.out)
          clear hl hhd hkk hfs HAT
          go_wp2_with (first
            | (go_at_call 23; refine (HHD.out _ hS).mono ?_; rintro e w1 ⟨vh, rfl, hS1⟩; clear hS; have hS := hS1; clear hS1; obtain ⟨bh, oh, ch, rfl, _⟩ := hS.slAddr (k := 0) rfl (by decide))
            | (go_at_call 28; refine (HPK.out _).mono ?_; rintro e w1 ⟨rfl, rfl⟩)
            | (refine toList (by rfl) ?_; refine ldSl (E := 5) (sz := 1) (vs := bv hd) hS _ _ (by rfl) _ _ (by rfl) (agOf (by rfl)) Has.z kk (by omega) HBA.out ?_)
            | (refine toList (by rfl) ?_; refine stSl (E := 5) (sz := 1) (vs := bv hd) hS _ _ _ (by rfl) _ _ (by rfl) _ (by first | exact evC | exact evT (by rfl)) (by rfl) (szOf (by rfl)) Has.z kk (by omega) (by rw [bv_length]; exact HKD.out) ?_; intro w1 hS1; clear hS; have hS := hS1; clear hS1; simp only [List.set_cons_zero] at hS; rw [HFS.out] at hS)
            | (go_at_call 26; refine (HPUT.out (bh, oh, ch) _ _ (hS.re [1, 2, 3, 4])).mono ?_; rintro e w1 ⟨rfl, hS1⟩; clear hS; have hS := hS1; clear hS1))
          have H0 := Lib.hid (hS.re [4, 5, 6, 7]).drop.drop.drop.drop
          clear hS
          go_loopw [19] (fun v wz => ∃ (i : Nat) (D : DiskS) (R : RefS), v = .int .i64 i ∧ i ≤ 10 ∧ i ≤ m.length ∧ Rel D R ∧ D.writes.length ≤ 21 + i ∧ D.blocks.length = 160 ∧ Sat W wz (Cs pd 30 [.pointer (some ⟨p, 0, none⟩)] :: Cs pr 47 [.pointer (some ⟨q, 0, none⟩)] :: IsDisk p D :: IsRef q R :: [])) (fun v _ => 10 - (intOf v).toNat)
          case atStart => exact ⟨0, _, _, rfl, by omega, by omega, HRN.out, HWN.out, HLN2.out, H0.out⟩
          case round =>
            clear H0
            obtain ⟨i, D, R, rfl, hi10, hi, hrl, hwr, hln, hS⟩ := hrel
            have HRL := Lib.hid hrl
            have HWR := Lib.hid (show D.writes.length ≤ 31 by omega)
            have HWR1 := Lib.hid hwr
            have HLN := Lib.hid hln
            clear hrl hwr hln
            by_cases hl : i < m.length
            · have n1 : (i : Int) < (m.length : Int) := by omega
              have e1 : decide ((i : Int) < (m.length : Int)) = true := decide_eq_true n1
              by_cases h10 : i < 10
              · have n2 : (i : Int) < 10 := by omega
                have e2 : decide ((i : Int) < 10) = true := decide_eq_true n2
                obtain ⟨bm, om, hbm, _⟩ := H5.out (by omega)
                obtain ⟨⟨xa, xv, xb, xsh⟩, hx⟩ : ∃ x, m[i]? = some x := ⟨_, List.getElem?_eq_getElem hl⟩
                obtain ⟨_, hxr⟩ := HR2.out.2 _ (List.mem_of_getElem? hx)
                dsimp only at hxr
                have HXR := Lib.hid hxr
                obtain ⟨ax, cx, he⟩ := inw_slice HR2.out hx
                dsimp only at he
                subst he
                have HX := Lib.hid hx
                have HL := Lib.hid hl
                have HP := Lib.hid (pad_copy xb)
                have HPL := Lib.hid (pad_length xb)
                obtain ⟨j, hj⟩ : ∃ j, xa % 160 = j := ⟨_, rfl⟩
                have HPJ := Lib.hid (fun w => (show Calls Try.prog 28 #[.int .i64 xa, .int .i64 160] w fun e w' => e = .returned (.int .i64 j) ∧ w = w' by rw [← hj]; exact place_any xa 160 (by decide) (by decide) w))
                have HPUT := Lib.hid (fun (pb : Nat) w (h : Sat W w (Cs pd 30 [.pointer (some ⟨p, 0, none⟩)] :: Cs pr 47 [.pointer (some ⟨q, 0, none⟩)] :: IsDisk p D :: IsRef q R :: Cs pb 5 (bv (pad xb)) :: [])) => put2_any h HRL.out HWR.out (by decide) j (.slice (some ⟨pb, 0, none⟩) 128 128) (pad xb) (m := 128) HPL.out (fun w h => h.csRd0 (n := 128) (sz := 1) Has.z (by decide) (by rw [bv_length, HPL.out])))
                have HRN := Lib.hid (HRL.out.next j (pad xb))
                have HWN := Lib.hid (show (wnext D j (pad xb)).writes.length ≤ 21 + (i + 1) by have := wnext_writes D j (pad xb); have := HWR1.out; omega)
                have HLN2 := Lib.hid (show (wnext D j (pad xb)).blocks.length = 160 by rw [wnext_len]; exact HLN.out)
                have H10 := Lib.hid h10
                subst hbm
                clear hx hl hj hxr h10
                go_wp2_with (first
                  | (refine toList (by rfl) ?_; refine mk hS _ _ _ (by rfl) 128 128 _ _ (by rfl) (by rfl) (elOf (by rfl)) (by omega) (by omega) (by omega) ?_; intro pb w1 hS1; clear hS; have hS := hS1; clear hS1; rw [made_u8] at hS)
                  | (refine toList (by rfl) ?_; refine wp_of_reads (rLdRd (HR2.out.1.old hS) (wdv_len m) _ _ (by rfl) _ (by rfl) (agOf (by rfl)) i 1 (by omega) HX.out (by rfl) (by omega)) ?_)
                  | (refine toList (by rfl) ?_; refine wp_of_reads (rLdRd (HR2.out.1.old hS) (wdv_len m) _ _ (by rfl) _ (by rfl) (agOf (by rfl)) i 0 (by omega) HX.out (by rfl) (by omega)) ?_)
                  | (refine toList (by rfl) ?_; refine cp hS _ _ _ _ (by rfl) _ _ _ _ _ (by rfl) (by rfl) (elOf (by rfl)) (by omega) Has.z (by exact HXR.out.old hS) (bv_one _) (by simp [bv, zeros]) ?_; intro w1 hS1; clear hS; have hS := hS1; clear hS1; rw [HP.out] at hS; dsimp only [List.set_cons_zero] at hS)
                  | (go_at_call 28; refine (HPJ.out _).mono ?_; rintro e w1 ⟨rfl, rfl⟩)
                  | (go_at_call 26; refine (HPUT.out pb _ (hS.re [1, 2, 3, 4])).mono ?_; rintro e w1 ⟨rfl, hS1⟩; clear hS; have hS := hS1; clear hS1))
                exact ⟨⟨i + 1, _, _, by go_num, H10.out, HL.out, HRN.out, HWN.out, HLN2.out, (hS.re [4]).drop⟩, by simp [intOf]; have := H10.out; omega⟩
              · have e2 : decide ((i : Int) < 10) = false := decide_eq_false (by omega)
                clear hl h10
                obtain ⟨D', R', cb, hC⟩ := cut2 HRL.out cut HCUT.out
                have HC := Lib.hid hC
                have HRL3 := Lib.hid hC.rel.recover
                have hl3 : D'.blocks.length = 160 := by rw [hC.len]; exact HLN.out
                have hdg : DG D' 40 := hC.rel.dg (by rw [hC.wr]; have := HWR.out; omega)
                have HRA := Lib.hid (fun w (h : Sat W w (IsDisk p D' :: Cs pd 30 [.pointer (some ⟨p, 0, none⟩)] :: Cs pr 47 [.pointer (some ⟨q, 0, none⟩)] :: IsRef q R' :: [])) => wrecover_any h hdg (by decide) (by rw [hl3]; decide))
                have HRB := Lib.hid (fun (hb : ∀ b ∈ D'.blocks, b.length = 128) w (h : Sat W w (IsRef q R' :: Cs pd 30 [.pointer (some ⟨p, 0, none⟩)] :: Cs pr 47 [.pointer (some ⟨q, 0, none⟩)] :: IsDisk p (recR D').2 :: [])) => rrecover_any h hC.rel hdg (by decide) (by rw [hl3]; decide) hb)
                obtain ⟨rb, hrb⟩ : ∃ rb, recB D' = rb := ⟨_, rfl⟩
                obtain ⟨rc, hrc⟩ : ∃ rc, (recR D').1 = rc := ⟨_, rfl⟩
                obtain ⟨D3, hD3⟩ : ∃ D3, (recR D').2 = D3 := ⟨_, rfl⟩
                obtain ⟨R3, hR3⟩ : ∃ R3, recRf D' R' = R3 := ⟨_, rfl⟩
                rw [hrb, hrc, hD3] at HRA
                rw [hrb, hrc, hD3, hR3] at HRB
                rw [hD3, hR3] at HRL3
                clear hC hl3 hdg hrb hrc hD3 hR3
                go_wp2
                refine regStart2 [5] hS (fun _ h => h.take2) (by kernel_rfl) rfl ?_
                intro w1 hS1
                clear hS; have hS := hS1; clear hS1
                (refine regR 0 hS (fun _ h => h.take2) rfl (by kernel_rfl) (by kernel_rfl) (by kernel_rfl) (by kernel_rfl) (by kernel_rfl) (fun _ _ _ _ h => h) (by rfl) (by rfl) ?_; (first
                                                  | refine ⟨_, yLd _ _ (by rfl) _ _ (by rfl) (agOf (by rfl)) Has.z (by rfl), ?_⟩
                                                  | refine ⟨_, yLd _ _ (by rfl) _ _ (by rfl) (agOf (by rfl)) (Has.s Has.z) (by rfl), ?_⟩); (simp only [Act.put, List.setIfInBounds_toArray, List.set_cons_zero, List.set_cons_succ]))
                (refine regP 1 hS (fun _ h => h.take2) rfl (by kernel_rfl) (by kernel_rfl) (by kernel_rfl) (fun _ _ _ _ h => h) (by rfl) (by rfl) ?_; apply Exists.intro; apply And.intro; (intro w; go_simp; try with_reducible rfl); (simp only [Act.put, List.setIfInBounds_toArray, List.set_cons_zero, List.set_cons_succ]))
                (refine regR 3 hS (fun _ h => h.take2) rfl (by kernel_rfl) (by kernel_rfl) (by kernel_rfl) (by kernel_rfl) (by kernel_rfl) (fun _ _ _ _ h => h) (by rfl) (by rfl) ?_; (first
                                                  | refine ⟨_, yLd _ _ (by rfl) _ _ (by rfl) (agOf (by rfl)) Has.z (by rfl), ?_⟩
                                                  | refine ⟨_, yLd _ _ (by rfl) _ _ (by rfl) (agOf (by rfl)) (Has.s Has.z) (by rfl), ?_⟩); (simp only [Act.put, List.setIfInBounds_toArray, List.set_cons_zero, List.set_cons_succ]))
                (refine regP 4 hS (fun _ h => h.take2) rfl (by kernel_rfl) (by kernel_rfl) (by kernel_rfl) (fun _ _ _ _ h => h) (by rfl) (by rfl) ?_; apply Exists.intro; apply And.intro; (intro w; go_simp; try with_reducible rfl); (simp only [Act.put, List.setIfInBounds_toArray, List.set_cons_zero, List.set_cons_succ]))
                (refine regA 2 rfl (by kernel_rfl) (by rfl) (by rfl) false (by kernel_rfl) (fun K hK => ?_); (first
                                                  | (refine Go.Sep.cl 21 _ _ (by rfl) (by rfl) (by kernel_rfl) (HC.out.c1 _ _ _ p (hS.re [2])) ?_; rintro e w1 ⟨rfl, hS1⟩; clear hS; have hS := hS1; clear hS1; replace hS := hS.re [1, 2, 0]; refine ⟨_, rfl, ?_⟩)
                                                  | (refine Go.Sep.cl 22 _ _ (by rfl) (by rfl) (by kernel_rfl) (HC.out.c2 _ _ _ q (hS.re [3])) ?_; rintro e w1 ⟨rfl, hS1⟩; clear hS; have hS := hS1; clear hS1; replace hS := hS.re [1, 2, 3, 0]; refine ⟨_, rfl, ?_⟩)); refine hK _ _ _ (hS.upTo (fun _ h => by exact h.take2)) (fun _ _ h => h) ?_; clear hK K; (simp only [Act.put, List.setIfInBounds_toArray, List.set_cons_zero, List.set_cons_succ]))
                (refine regA 5 rfl (by kernel_rfl) (by rfl) (by rfl) true (by kernel_rfl) (fun K hK => ?_); (first
                                                  | (refine Go.Sep.cl 21 _ _ (by rfl) (by rfl) (by kernel_rfl) (HC.out.c1 _ _ _ p (hS.re [2])) ?_; rintro e w1 ⟨rfl, hS1⟩; clear hS; have hS := hS1; clear hS1; replace hS := hS.re [1, 2, 0]; refine ⟨_, rfl, ?_⟩)
                                                  | (refine Go.Sep.cl 22 _ _ (by rfl) (by rfl) (by kernel_rfl) (HC.out.c2 _ _ _ q (hS.re [3])) ?_; rintro e w1 ⟨rfl, hS1⟩; clear hS; have hS := hS1; clear hS1; replace hS := hS.re [1, 2, 3, 0]; refine ⟨_, rfl, ?_⟩)); refine hK _ _ _ hS (by first | (intro h; cases h; done) | exact fun _ _ h => h | exact fun _ _ h => h.drop | exact fun _ _ h => h.drop.drop | exact fun _ _ h => h.drop.pull1 | exact fun _ _ h => h.take2 | exact fun _ _ h => h.one Has.z | exact fun _ _ h => h.one (Has.s Has.z) | exact fun _ _ h => h.one (Has.s (Has.s Has.z))) ?_; clear hK K; (simp only [Act.put, List.setIfInBounds_toArray, List.set_cons_zero, List.set_cons_succ]))
                (refine regP 6 hS (fun _ h => h) rfl (by kernel_rfl) (by kernel_rfl) (by kernel_rfl) (fun _ _ _ _ h => h) (by rfl) (by rfl) ?_; apply Exists.intro; apply And.intro; (intro w; go_simp; try with_reducible rfl); (simp only [Act.put, List.setIfInBounds_toArray, List.set_cons_zero, List.set_cons_succ]))
                refine regDone (by kernel_rfl) ?_
                have HB8 := Lib.hid (IsDisk.b128 (hS.re [2]))
                go_wp2_with (first
                  | (refine toList (by rfl) ?_; refine ld hS _ _ (by rfl) _ _ (by rfl) (agOf (by rfl)) Has.z (by rfl) ?_)
                  | (refine toList (by rfl) ?_; refine ld hS _ _ (by rfl) _ _ (by rfl) (agOf (by rfl)) (Has.s Has.z) (by rfl) ?_)
                  | (go_at_call 16; refine (HRA.out _ (hS.re [2])).mono ?_; rintro e w1 ⟨rfl, hS1⟩; clear hS; have hS := hS1; clear hS1; replace hS := hS.re [1, 2, 0])
                  | (go_at_call 29; refine (HRB.out HB8.out _ (hS.re [3])).mono ?_; rintro e w1 ⟨rfl, hS1⟩; clear hS; have hS := hS1; clear hS1; replace hS := hS.re [1, 2, 3, 0])
                  | (go_at_call 25; refine (wsame_any (hS.re [2, 3]) HRL3.out).mono ?_; rintro e w1 ⟨rfl, hS1⟩; clear hS; have hS := hS1; clear hS1)
                  | (go_at_call 9; refine (wawake_any hS).mono ?_; rintro e w1 ⟨rfl, hS1⟩; clear hS; have hS := hS1; clear hS1))
                go_ret
                exact ⟨rfl, hS.clear⟩
            · have n1 : ¬ (i : Int) < (m.length : Int) := by omega
              have e1 : decide ((i : Int) < (m.length : Int)) = false := decide_eq_false n1
              have e3 : decide (i < m.length) = false := decide_eq_false hl
              clear hl
              obtain ⟨D', R', cb, hC⟩ := cut2 HRL.out cut HCUT.out
              have HC := Lib.hid hC
              have HRL3 := Lib.hid hC.rel.recover
              have hl3 : D'.blocks.length = 160 := by rw [hC.len]; exact HLN.out
              have hdg : DG D' 40 := hC.rel.dg (by rw [hC.wr]; have := HWR.out; omega)
              have HRA := Lib.hid (fun w (h : Sat W w (IsDisk p D' :: Cs pd 30 [.pointer (some ⟨p, 0, none⟩)] :: Cs pr 47 [.pointer (some ⟨q, 0, none⟩)] :: IsRef q R' :: [])) => wrecover_any h hdg (by decide) (by rw [hl3]; decide))
              have HRB := Lib.hid (fun (hb : ∀ b ∈ D'.blocks, b.length = 128) w (h : Sat W w (IsRef q R' :: Cs pd 30 [.pointer (some ⟨p, 0, none⟩)] :: Cs pr 47 [.pointer (some ⟨q, 0, none⟩)] :: IsDisk p (recR D').2 :: [])) => rrecover_any h hC.rel hdg (by decide) (by rw [hl3]; decide) hb)
              obtain ⟨rb, hrb⟩ : ∃ rb, recB D' = rb := ⟨_, rfl⟩
              obtain ⟨rc, hrc⟩ : ∃ rc, (recR D').1 = rc := ⟨_, rfl⟩
              obtain ⟨D3, hD3⟩ : ∃ D3, (recR D').2 = D3 := ⟨_, rfl⟩
              obtain ⟨R3, hR3⟩ : ∃ R3, recRf D' R' = R3 := ⟨_, rfl⟩
              rw [hrb, hrc, hD3] at HRA
              rw [hrb, hrc, hD3, hR3] at HRB
              rw [hD3, hR3] at HRL3
              clear hC hl3 hdg hrb hrc hD3 hR3
              go_wp2
              refine regStart2 [5] hS (fun _ h => h.take2) (by kernel_rfl) rfl ?_
              intro w1 hS1
              clear hS; have hS := hS1; clear hS1
              (refine regR 0 hS (fun _ h => h.take2) rfl (by kernel_rfl) (by kernel_rfl) (by kernel_rfl) (by kernel_rfl) (by kernel_rfl) (fun _ _ _ _ h => h) (by rfl) (by rfl) ?_; (first
                                            | refine ⟨_, yLd _ _ (by rfl) _ _ (by rfl) (agOf (by rfl)) Has.z (by rfl), ?_⟩
                                            | refine ⟨_, yLd _ _ (by rfl) _ _ (by rfl) (agOf (by rfl)) (Has.s Has.z) (by rfl), ?_⟩); (simp only [Act.put, List.setIfInBounds_toArray, List.set_cons_zero, List.set_cons_succ]))
              (refine regP 1 hS (fun _ h => h.take2) rfl (by kernel_rfl) (by kernel_rfl) (by kernel_rfl) (fun _ _ _ _ h => h) (by rfl) (by rfl) ?_; apply Exists.intro; apply And.intro; (intro w; go_simp; try with_reducible rfl); (simp only [Act.put, List.setIfInBounds_toArray, List.set_cons_zero, List.set_cons_succ]))
              (refine regR 3 hS (fun _ h => h.take2) rfl (by kernel_rfl) (by kernel_rfl) (by kernel_rfl) (by kernel_rfl) (by kernel_rfl) (fun _ _ _ _ h => h) (by rfl) (by rfl) ?_; (first
                                            | refine ⟨_, yLd _ _ (by rfl) _ _ (by rfl) (agOf (by rfl)) Has.z (by rfl), ?_⟩
                                            | refine ⟨_, yLd _ _ (by rfl) _ _ (by rfl) (agOf (by rfl)) (Has.s Has.z) (by rfl), ?_⟩); (simp only [Act.put, List.setIfInBounds_toArray, List.set_cons_zero, List.set_cons_succ]))
              (refine regP 4 hS (fun _ h => h.take2) rfl (by kernel_rfl) (by kernel_rfl) (by kernel_rfl) (fun _ _ _ _ h => h) (by rfl) (by rfl) ?_; apply Exists.intro; apply And.intro; (intro w; go_simp; try with_reducible rfl); (simp only [Act.put, List.setIfInBounds_toArray, List.set_cons_zero, List.set_cons_succ]))
              (refine regA 2 rfl (by kernel_rfl) (by rfl) (by rfl) false (by kernel_rfl) (fun K hK => ?_); (first
                                            | (refine Go.Sep.cl 21 _ _ (by rfl) (by rfl) (by kernel_rfl) (HC.out.c1 _ _ _ p (hS.re [2])) ?_; rintro e w1 ⟨rfl, hS1⟩; clear hS; have hS := hS1; clear hS1; replace hS := hS.re [1, 2, 0]; refine ⟨_, rfl, ?_⟩)
                                            | (refine Go.Sep.cl 22 _ _ (by rfl) (by rfl) (by kernel_rfl) (HC.out.c2 _ _ _ q (hS.re [3])) ?_; rintro e w1 ⟨rfl, hS1⟩; clear hS; have hS := hS1; clear hS1; replace hS := hS.re [1, 2, 3, 0]; refine ⟨_, rfl, ?_⟩)); refine hK _ _ _ (hS.upTo (fun _ h => by exact h.take2)) (fun _ _ h => h) ?_; clear hK K; (simp only [Act.put, List.setIfInBounds_toArray, List.set_cons_zero, List.set_cons_succ]))
              (refine regA 5 rfl (by kernel_rfl) (by rfl) (by rfl) true (by kernel_rfl) (fun K hK => ?_); (first
                                            | (refine Go.Sep.cl 21 _ _ (by rfl) (by rfl) (by kernel_rfl) (HC.out.c1 _ _ _ p (hS.re [2])) ?_; rintro e w1 ⟨rfl, hS1⟩; clear hS; have hS := hS1; clear hS1; replace hS := hS.re [1, 2, 0]; refine ⟨_, rfl, ?_⟩)
                                            | (refine Go.Sep.cl 22 _ _ (by rfl) (by rfl) (by kernel_rfl) (HC.out.c2 _ _ _ q (hS.re [3])) ?_; rintro e w1 ⟨rfl, hS1⟩; clear hS; have hS := hS1; clear hS1; replace hS := hS.re [1, 2, 3, 0]; refine ⟨_, rfl, ?_⟩)); refine hK _ _ _ hS (by first | (intro h; cases h; done) | exact fun _ _ h => h | exact fun _ _ h => h.drop | exact fun _ _ h => h.drop.drop | exact fun _ _ h => h.drop.pull1 | exact fun _ _ h => h.take2 | exact fun _ _ h => h.one Has.z | exact fun _ _ h => h.one (Has.s Has.z) | exact fun _ _ h => h.one (Has.s (Has.s Has.z))) ?_; clear hK K; (simp only [Act.put, List.setIfInBounds_toArray, List.set_cons_zero, List.set_cons_succ]))
              (refine regP 6 hS (fun _ h => h) rfl (by kernel_rfl) (by kernel_rfl) (by kernel_rfl) (fun _ _ _ _ h => h) (by rfl) (by rfl) ?_; apply Exists.intro; apply And.intro; (intro w; go_simp; try with_reducible rfl); (simp only [Act.put, List.setIfInBounds_toArray, List.set_cons_zero, List.set_cons_succ]))
              refine regDone (by kernel_rfl) ?_
              have HB8 := Lib.hid (IsDisk.b128 (hS.re [2]))
              go_wp2_with (first
                | (refine toList (by rfl) ?_; refine ld hS _ _ (by rfl) _ _ (by rfl) (agOf (by rfl)) Has.z (by rfl) ?_)
                | (refine toList (by rfl) ?_; refine ld hS _ _ (by rfl) _ _ (by rfl) (agOf (by rfl)) (Has.s Has.z) (by rfl) ?_)
                | (go_at_call 16; refine (HRA.out _ (hS.re [2])).mono ?_; rintro e w1 ⟨rfl, hS1⟩; clear hS; have hS := hS1; clear hS1; replace hS := hS.re [1, 2, 0])
                | (go_at_call 29; refine (HRB.out HB8.out _ (hS.re [3])).mono ?_; rintro e w1 ⟨rfl, hS1⟩; clear hS; have hS := hS1; clear hS1; replace hS := hS.re [1, 2, 3, 0])
                | (go_at_call 25; refine (wsame_any (hS.re [2, 3]) HRL3.out).mono ?_; rintro e w1 ⟨rfl, hS1⟩; clear hS; have hS := hS1; clear hS1)
                | (go_at_call 9; refine (wawake_any hS).mono ?_; rintro e w1 ⟨rfl, hS1⟩; clear hS; have hS := hS1; clear hS1))
              go_ret
              exact ⟨rfl, hS.clear⟩
  · have g1 : ¬ ((g2 xs).length : Int) ≤ 20 := by omega
    have e20 : decide (((g2 xs).length : Int) ≤ 20) = false := decide_eq_false g1
    clear h20
    go_wp2_with (first
      | (go_at_call 12; refine (new_okN hS 160 (by decide) (by decide)).mono ?_; rintro e w1 ⟨p, rfl, hS1⟩; clear hS; have hS := hS1; clear hS1)
      | (refine toList (by rfl) ?_; refine al hS 30 (by rfl) (zrOf (by rfl)) ?_; intro pd w1 hS1; clear hS; have hS := hS1; clear hS1; rw [cells_agg] at hS)
      | (refine toList (by rfl) ?_; refine al hS 30 (by rfl) (zrOf (by rfl)) ?_; intro pd w1 hS1; clear hS; have hS := hS1; clear hS1)
      | (refine toList (by rfl) ?_; refine st hS 30 _ _ (by rfl) _ _ (by rfl) _ (by first | exact evC | exact evT (by rfl)) (by rfl) (szOf (by rfl)) Has.z (by exact Nat.le_of_ble_eq_true rfl) ?_; intro w1 hS1; clear hS; have hS := hS1; clear hS1; dsimp only [List.set] at hS)
      | (go_at_call 20; refine (ref_new_ok hS 160 (by decide) (by decide)).mono ?_; rintro e w1 ⟨q, rfl, hS1⟩; clear hS; have hS := hS1; clear hS1)
      | (refine toList (by rfl) ?_; refine al hS 47 (by rfl) (zrOf (by rfl)) ?_; intro pr w1 hS1; clear hS; have hS := hS1; clear hS1)
      | (refine toList (by rfl) ?_; refine st hS 47 _ _ (by rfl) _ _ (by rfl) _ (by first | exact evC | exact evT (by rfl)) (by rfl) (szOf (by rfl)) Has.z (by exact Nat.le_of_ble_eq_true rfl) ?_; intro w1 hS1; clear hS; have hS := hS1; clear hS1; dsimp only [List.set] at hS; replace hS := hS.re [2, 0, 3, 1])
      | (refine toList (by rfl) ?_; refine ld hS _ _ (by rfl) _ _ (by rfl) (agOf (by rfl)) (Has.s Has.z) (by rfl) ?_))
    have H0 := Lib.hid (hS.re [4, 5, 6]).drop.drop.drop
    clear hS
    go_loopw [19] (fun v wz => ∃ (i : Nat) (D : DiskS) (R : RefS), v = .int .i64 i ∧ i ≤ 10 ∧ i ≤ m.length ∧ Rel D R ∧ D.writes.length ≤ 21 + i ∧ D.blocks.length = 160 ∧ Sat W wz (Cs pd 30 [.pointer (some ⟨p, 0, none⟩)] :: Cs pr 47 [.pointer (some ⟨q, 0, none⟩)] :: IsDisk p D :: IsRef q R :: [])) (fun v _ => 10 - (intOf v).toNat)
    case atStart => exact ⟨0, _, _, rfl, by omega, by omega, rel0, (by simp [disk0]), free0.len, H0.out⟩
    case round =>
      clear H0
      obtain ⟨i, D, R, rfl, hi10, hi, hrl, hwr, hln, hS⟩ := hrel
      have HRL := Lib.hid hrl
      have HWR := Lib.hid (show D.writes.length ≤ 31 by omega)
      have HWR1 := Lib.hid hwr
      have HLN := Lib.hid hln
      clear hrl hwr hln
      by_cases hl : i < m.length
      · have n1 : (i : Int) < (m.length : Int) := by omega
        have e1 : decide ((i : Int) < (m.length : Int)) = true := decide_eq_true n1
        by_cases h10 : i < 10
        · have n2 : (i : Int) < 10 := by omega
          have e2 : decide ((i : Int) < 10) = true := decide_eq_true n2
          obtain ⟨bm, om, hbm, _⟩ := H5.out (by omega)
          obtain ⟨⟨xa, xv, xb, xsh⟩, hx⟩ : ∃ x, m[i]? = some x := ⟨_, List.getElem?_eq_getElem hl⟩
          obtain ⟨_, hxr⟩ := HR2.out.2 _ (List.mem_of_getElem? hx)
          dsimp only at hxr
          have HXR := Lib.hid hxr
          obtain ⟨ax, cx, he⟩ := inw_slice HR2.out hx
          dsimp only at he
          subst he
          have HX := Lib.hid hx
          have HL := Lib.hid hl
          have HP := Lib.hid (pad_copy xb)
          have HPL := Lib.hid (pad_length xb)
          obtain ⟨j, hj⟩ : ∃ j, xa % 160 = j := ⟨_, rfl⟩
          have HPJ := Lib.hid (fun w => (show Calls Try.prog 28 #[.int .i64 xa, .int .i64 160] w fun e w' => e = .returned (.int .i64 j) ∧ w = w' by rw [← hj]; exact place_any xa 160 (by decide) (by decide) w))
          have HPUT := Lib.hid (fun (pb : Nat) w (h : Sat W w (Cs pd 30 [.pointer (some ⟨p, 0, none⟩)] :: Cs pr 47 [.pointer (some ⟨q, 0, none⟩)] :: IsDisk p D :: IsRef q R :: Cs pb 5 (bv (pad xb)) :: [])) => put2_any h HRL.out HWR.out (by decide) j (.slice (some ⟨pb, 0, none⟩) 128 128) (pad xb) (m := 128) HPL.out (fun w h => h.csRd0 (n := 128) (sz := 1) Has.z (by decide) (by rw [bv_length, HPL.out])))
          have HRN := Lib.hid (HRL.out.next j (pad xb))
          have HWN := Lib.hid (show (wnext D j (pad xb)).writes.length ≤ 21 + (i + 1) by have := wnext_writes D j (pad xb); have := HWR1.out; omega)
          have HLN2 := Lib.hid (show (wnext D j (pad xb)).blocks.length = 160 by rw [wnext_len]; exact HLN.out)
          have H10 := Lib.hid h10
          subst hbm
          clear hx hl hj hxr h10
          go_wp2_with (first
            | (refine toList (by rfl) ?_; refine mk hS _ _ _ (by rfl) 128 128 _ _ (by rfl) (by rfl) (elOf (by rfl)) (by omega) (by omega) (by omega) ?_; intro pb w1 hS1; clear hS; have hS := hS1; clear hS1; rw [made_u8] at hS)
            | (refine toList (by rfl) ?_; refine wp_of_reads (rLdRd (HR2.out.1.old hS) (wdv_len m) _ _ (by rfl) _ (by rfl) (agOf (by rfl)) i 1 (by omega) HX.out (by rfl) (by omega)) ?_)
            | (refine toList (by rfl) ?_; refine wp_of_reads (rLdRd (HR2.out.1.old hS) (wdv_len m) _ _ (by rfl) _ (by rfl) (agOf (by rfl)) i 0 (by omega) HX.out (by rfl) (by omega)) ?_)
            | (refine toList (by rfl) ?_; refine cp hS _ _ _ _ (by rfl) _ _ _ _ _ (by rfl) (by rfl) (elOf (by rfl)) (by omega) Has.z (by exact HXR.out.old hS) (bv_one _) (by simp [bv, zeros]) ?_; intro w1 hS1; clear hS; have hS := hS1; clear hS1; rw [HP.out] at hS; dsimp only [List.set_cons_zero] at hS)
            | (go_at_call 28; refine (HPJ.out _).mono ?_; rintro e w1 ⟨rfl, rfl⟩)
            | (go_at_call 26; refine (HPUT.out pb _ (hS.re [1, 2, 3, 4])).mono ?_; rintro e w1 ⟨rfl, hS1⟩; clear hS; have hS := hS1; clear hS1))
          exact ⟨⟨i + 1, _, _, by go_num, H10.out, HL.out, HRN.out, HWN.out, HLN2.out, (hS.re [4]).drop⟩, by simp [intOf]; have := H10.out; omega⟩
        · have e2 : decide ((i : Int) < 10) = false := decide_eq_false (by omega)
          clear hl h10
          obtain ⟨D', R', cb, hC⟩ := cut2 HRL.out cut HCUT.out
          have HC := Lib.hid hC
          have HRL3 := Lib.hid hC.rel.recover
          have hl3 : D'.blocks.length = 160 := by rw [hC.len]; exact HLN.out
          have hdg : DG D' 40 := hC.rel.dg (by rw [hC.wr]; have := HWR.out; omega)
          have HRA := Lib.hid (fun w (h : Sat W w (IsDisk p D' :: Cs pd 30 [.pointer (some ⟨p, 0, none⟩)] :: Cs pr 47 [.pointer (some ⟨q, 0, none⟩)] :: IsRef q R' :: [])) => wrecover_any h hdg (by decide) (by rw [hl3]; decide))
          have HRB := Lib.hid (fun (hb : ∀ b ∈ D'.blocks, b.length = 128) w (h : Sat W w (IsRef q R' :: Cs pd 30 [.pointer (some ⟨p, 0, none⟩)] :: Cs pr 47 [.pointer (some ⟨q, 0, none⟩)] :: IsDisk p (recR D').2 :: [])) => rrecover_any h hC.rel hdg (by decide) (by rw [hl3]; decide) hb)
          obtain ⟨rb, hrb⟩ : ∃ rb, recB D' = rb := ⟨_, rfl⟩
          obtain ⟨rc, hrc⟩ : ∃ rc, (recR D').1 = rc := ⟨_, rfl⟩
          obtain ⟨D3, hD3⟩ : ∃ D3, (recR D').2 = D3 := ⟨_, rfl⟩
          obtain ⟨R3, hR3⟩ : ∃ R3, recRf D' R' = R3 := ⟨_, rfl⟩
          rw [hrb, hrc, hD3] at HRA
          rw [hrb, hrc, hD3, hR3] at HRB
          rw [hD3, hR3] at HRL3
          clear hC hl3 hdg hrb hrc hD3 hR3
          go_wp2
          refine regStart2 [5] hS (fun _ h => h.take2) (by kernel_rfl) rfl ?_
          intro w1 hS1
          clear hS; have hS := hS1; clear hS1
          (refine regR 0 hS (fun _ h => h.take2) rfl (by kernel_rfl) (by kernel_rfl) (by kernel_rfl) (by kernel_rfl) (by kernel_rfl) (fun _ _ _ _ h => h) (by rfl) (by rfl) ?_; (first
                                | refine ⟨_, yLd _ _ (by rfl) _ _ (by rfl) (agOf (by rfl)) Has.z (by rfl), ?_⟩
                                | refine ⟨_, yLd _ _ (by rfl) _ _ (by rfl) (agOf (by rfl)) (Has.s Has.z) (by rfl), ?_⟩); (simp only [Act.put, List.setIfInBounds_toArray, List.set_cons_zero, List.set_cons_succ]))
          (refine regP 1 hS (fun _ h => h.take2) rfl (by kernel_rfl) (by kernel_rfl) (by kernel_rfl) (fun _ _ _ _ h => h) (by rfl) (by rfl) ?_; apply Exists.intro; apply And.intro; (intro w; go_simp; try with_reducible rfl); (simp only [Act.put, List.setIfInBounds_toArray, List.set_cons_zero, List.set_cons_succ]))
          (refine regR 3 hS (fun _ h => h.take2) rfl (by kernel_rfl) (by kernel_rfl) (by kernel_rfl) (by kernel_rfl) (by kernel_rfl) (fun _ _ _ _ h => h) (by rfl) (by rfl) ?_; (first
                                | refine ⟨_, yLd _ _ (by rfl) _ _ (by rfl) (agOf (by rfl)) Has.z (by rfl), ?_⟩
                                | refine ⟨_, yLd _ _ (by rfl) _ _ (by rfl) (agOf (by rfl)) (Has.s Has.z) (by rfl), ?_⟩); (simp only [Act.put, List.setIfInBounds_toArray, List.set_cons_zero, List.set_cons_succ]))
          (refine regP 4 hS (fun _ h => h.take2) rfl (by kernel_rfl) (by kernel_rfl) (by kernel_rfl) (fun _ _ _ _ h => h) (by rfl) (by rfl) ?_; apply Exists.intro; apply And.intro; (intro w; go_simp; try with_reducible rfl); (simp only [Act.put, List.setIfInBounds_toArray, List.set_cons_zero, List.set_cons_succ]))
          (refine regA 2 rfl (by kernel_rfl) (by rfl) (by rfl) false (by kernel_rfl) (fun K hK => ?_); (first
                                | (refine Go.Sep.cl 21 _ _ (by rfl) (by rfl) (by kernel_rfl) (HC.out.c1 _ _ _ p (hS.re [2])) ?_; rintro e w1 ⟨rfl, hS1⟩; clear hS; have hS := hS1; clear hS1; replace hS := hS.re [1, 2, 0]; refine ⟨_, rfl, ?_⟩)
                                | (refine Go.Sep.cl 22 _ _ (by rfl) (by rfl) (by kernel_rfl) (HC.out.c2 _ _ _ q (hS.re [3])) ?_; rintro e w1 ⟨rfl, hS1⟩; clear hS; have hS := hS1; clear hS1; replace hS := hS.re [1, 2, 3, 0]; refine ⟨_, rfl, ?_⟩)); refine hK _ _ _ (hS.upTo (fun _ h => by exact h.take2)) (fun _ _ h => h) ?_; clear hK K; (simp only [Act.put, List.setIfInBounds_toArray, List.set_cons_zero, List.set_cons_succ]))
          (refine regA 5 rfl (by kernel_rfl) (by rfl) (by rfl) true (by kernel_rfl) (fun K hK => ?_); (first
                                | (refine Go.Sep.cl 21 _ _ (by rfl) (by rfl) (by kernel_rfl) (HC.out.c1 _ _ _ p (hS.re [2])) ?_; rintro e w1 ⟨rfl, hS1⟩; clear hS; have hS := hS1; clear hS1; replace hS := hS.re [1, 2, 0]; refine ⟨_, rfl, ?_⟩)
                                | (refine Go.Sep.cl 22 _ _ (by rfl) (by rfl) (by kernel_rfl) (HC.out.c2 _ _ _ q (hS.re [3])) ?_; rintro e w1 ⟨rfl, hS1⟩; clear hS; have hS := hS1; clear hS1; replace hS := hS.re [1, 2, 3, 0]; refine ⟨_, rfl, ?_⟩)); refine hK _ _ _ hS (by first | (intro h; cases h; done) | exact fun _ _ h => h | exact fun _ _ h => h.drop | exact fun _ _ h => h.drop.drop | exact fun _ _ h => h.drop.pull1 | exact fun _ _ h => h.take2 | exact fun _ _ h => h.one Has.z | exact fun _ _ h => h.one (Has.s Has.z) | exact fun _ _ h => h.one (Has.s (Has.s Has.z))) ?_; clear hK K; (simp only [Act.put, List.setIfInBounds_toArray, List.set_cons_zero, List.set_cons_succ]))
          (refine regP 6 hS (fun _ h => h) rfl (by kernel_rfl) (by kernel_rfl) (by kernel_rfl) (fun _ _ _ _ h => h) (by rfl) (by rfl) ?_; apply Exists.intro; apply And.intro; (intro w; go_simp; try with_reducible rfl); (simp only [Act.put, List.setIfInBounds_toArray, List.set_cons_zero, List.set_cons_succ]))
          refine regDone (by kernel_rfl) ?_
          have HB8 := Lib.hid (IsDisk.b128 (hS.re [2]))
          go_wp2_with (first
            | (refine toList (by rfl) ?_; refine ld hS _ _ (by rfl) _ _ (by rfl) (agOf (by rfl)) Has.z (by rfl) ?_)
            | (refine toList (by rfl) ?_; refine ld hS _ _ (by rfl) _ _ (by rfl) (agOf (by rfl)) (Has.s Has.z) (by rfl) ?_)
            | (go_at_call 16; refine (HRA.out _ (hS.re [2])).mono ?_; rintro e w1 ⟨rfl, hS1⟩; clear hS; have hS := hS1; clear hS1; replace hS := hS.re [1, 2, 0])
            | (go_at_call 29; refine (HRB.out HB8.out _ (hS.re [3])).mono ?_; rintro e w1 ⟨rfl, hS1⟩; clear hS; have hS := hS1; clear hS1; replace hS := hS.re [1, 2, 3, 0])
            | (go_at_call 25; refine (wsame_any (hS.re [2, 3]) HRL3.out).mono ?_; rintro e w1 ⟨rfl, hS1⟩; clear hS; have hS := hS1; clear hS1)
            | (go_at_call 9; refine (wawake_any hS).mono ?_; rintro e w1 ⟨rfl, hS1⟩; clear hS; have hS := hS1; clear hS1))
          go_ret
          exact ⟨rfl, hS.clear⟩
      · have n1 : ¬ (i : Int) < (m.length : Int) := by omega
        have e1 : decide ((i : Int) < (m.length : Int)) = false := decide_eq_false n1
        have e3 : decide (i < m.length) = false := decide_eq_false hl
        clear hl
        obtain ⟨D', R', cb, hC⟩ := cut2 HRL.out cut HCUT.out
        have HC := Lib.hid hC
        have HRL3 := Lib.hid hC.rel.recover
        have hl3 : D'.blocks.length = 160 := by rw [hC.len]; exact HLN.out
        have hdg : DG D' 40 := hC.rel.dg (by rw [hC.wr]; have := HWR.out; omega)
        have HRA := Lib.hid (fun w (h : Sat W w (IsDisk p D' :: Cs pd 30 [.pointer (some ⟨p, 0, none⟩)] :: Cs pr 47 [.pointer (some ⟨q, 0, none⟩)] :: IsRef q R' :: [])) => wrecover_any h hdg (by decide) (by rw [hl3]; decide))
        have HRB := Lib.hid (fun (hb : ∀ b ∈ D'.blocks, b.length = 128) w (h : Sat W w (IsRef q R' :: Cs pd 30 [.pointer (some ⟨p, 0, none⟩)] :: Cs pr 47 [.pointer (some ⟨q, 0, none⟩)] :: IsDisk p (recR D').2 :: [])) => rrecover_any h hC.rel hdg (by decide) (by rw [hl3]; decide) hb)
        obtain ⟨rb, hrb⟩ : ∃ rb, recB D' = rb := ⟨_, rfl⟩
        obtain ⟨rc, hrc⟩ : ∃ rc, (recR D').1 = rc := ⟨_, rfl⟩
        obtain ⟨D3, hD3⟩ : ∃ D3, (recR D').2 = D3 := ⟨_, rfl⟩
        obtain ⟨R3, hR3⟩ : ∃ R3, recRf D' R' = R3 := ⟨_, rfl⟩
        rw [hrb, hrc, hD3] at HRA
        rw [hrb, hrc, hD3, hR3] at HRB
        rw [hD3, hR3] at HRL3
        clear hC hl3 hdg hrb hrc hD3 hR3
        go_wp2
        refine regStart2 [5] hS (fun _ h => h.take2) (by kernel_rfl) rfl ?_
        intro w1 hS1
        clear hS; have hS := hS1; clear hS1
        (refine regR 0 hS (fun _ h => h.take2) rfl (by kernel_rfl) (by kernel_rfl) (by kernel_rfl) (by kernel_rfl) (by kernel_rfl) (fun _ _ _ _ h => h) (by rfl) (by rfl) ?_; (first
                          | refine ⟨_, yLd _ _ (by rfl) _ _ (by rfl) (agOf (by rfl)) Has.z (by rfl), ?_⟩
                          | refine ⟨_, yLd _ _ (by rfl) _ _ (by rfl) (agOf (by rfl)) (Has.s Has.z) (by rfl), ?_⟩); (simp only [Act.put, List.setIfInBounds_toArray, List.set_cons_zero, List.set_cons_succ]))
        (refine regP 1 hS (fun _ h => h.take2) rfl (by kernel_rfl) (by kernel_rfl) (by kernel_rfl) (fun _ _ _ _ h => h) (by rfl) (by rfl) ?_; apply Exists.intro; apply And.intro; (intro w; go_simp; try with_reducible rfl); (simp only [Act.put, List.setIfInBounds_toArray, List.set_cons_zero, List.set_cons_succ]))
        (refine regR 3 hS (fun _ h => h.take2) rfl (by kernel_rfl) (by kernel_rfl) (by kernel_rfl) (by kernel_rfl) (by kernel_rfl) (fun _ _ _ _ h => h) (by rfl) (by rfl) ?_; (first
                          | refine ⟨_, yLd _ _ (by rfl) _ _ (by rfl) (agOf (by rfl)) Has.z (by rfl), ?_⟩
                          | refine ⟨_, yLd _ _ (by rfl) _ _ (by rfl) (agOf (by rfl)) (Has.s Has.z) (by rfl), ?_⟩); (simp only [Act.put, List.setIfInBounds_toArray, List.set_cons_zero, List.set_cons_succ]))
        (refine regP 4 hS (fun _ h => h.take2) rfl (by kernel_rfl) (by kernel_rfl) (by kernel_rfl) (fun _ _ _ _ h => h) (by rfl) (by rfl) ?_; apply Exists.intro; apply And.intro; (intro w; go_simp; try with_reducible rfl); (simp only [Act.put, List.setIfInBounds_toArray, List.set_cons_zero, List.set_cons_succ]))
        (refine regA 2 rfl (by kernel_rfl) (by rfl) (by rfl) false (by kernel_rfl) (fun K hK => ?_); (first
                          | (refine Go.Sep.cl 21 _ _ (by rfl) (by rfl) (by kernel_rfl) (HC.out.c1 _ _ _ p (hS.re [2])) ?_; rintro e w1 ⟨rfl, hS1⟩; clear hS; have hS := hS1; clear hS1; replace hS := hS.re [1, 2, 0]; refine ⟨_, rfl, ?_⟩)
                          | (refine Go.Sep.cl 22 _ _ (by rfl) (by rfl) (by kernel_rfl) (HC.out.c2 _ _ _ q (hS.re [3])) ?_; rintro e w1 ⟨rfl, hS1⟩; clear hS; have hS := hS1; clear hS1; replace hS := hS.re [1, 2, 3, 0]; refine ⟨_, rfl, ?_⟩)); refine hK _ _ _ (hS.upTo (fun _ h => by exact h.take2)) (fun _ _ h => h) ?_; clear hK K; (simp only [Act.put, List.setIfInBounds_toArray, List.set_cons_zero, List.set_cons_succ]))
        (refine regA 5 rfl (by kernel_rfl) (by rfl) (by rfl) true (by kernel_rfl) (fun K hK => ?_); (first
                          | (refine Go.Sep.cl 21 _ _ (by rfl) (by rfl) (by kernel_rfl) (HC.out.c1 _ _ _ p (hS.re [2])) ?_; rintro e w1 ⟨rfl, hS1⟩; clear hS; have hS := hS1; clear hS1; replace hS := hS.re [1, 2, 0]; refine ⟨_, rfl, ?_⟩)
                          | (refine Go.Sep.cl 22 _ _ (by rfl) (by rfl) (by kernel_rfl) (HC.out.c2 _ _ _ q (hS.re [3])) ?_; rintro e w1 ⟨rfl, hS1⟩; clear hS; have hS := hS1; clear hS1; replace hS := hS.re [1, 2, 3, 0]; refine ⟨_, rfl, ?_⟩)); refine hK _ _ _ hS (by first | (intro h; cases h; done) | exact fun _ _ h => h | exact fun _ _ h => h.drop | exact fun _ _ h => h.drop.drop | exact fun _ _ h => h.drop.pull1 | exact fun _ _ h => h.take2 | exact fun _ _ h => h.one Has.z | exact fun _ _ h => h.one (Has.s Has.z) | exact fun _ _ h => h.one (Has.s (Has.s Has.z))) ?_; clear hK K; (simp only [Act.put, List.setIfInBounds_toArray, List.set_cons_zero, List.set_cons_succ]))
        (refine regP 6 hS (fun _ h => h) rfl (by kernel_rfl) (by kernel_rfl) (by kernel_rfl) (fun _ _ _ _ h => h) (by rfl) (by rfl) ?_; apply Exists.intro; apply And.intro; (intro w; go_simp; try with_reducible rfl); (simp only [Act.put, List.setIfInBounds_toArray, List.set_cons_zero, List.set_cons_succ]))
        refine regDone (by kernel_rfl) ?_
        have HB8 := Lib.hid (IsDisk.b128 (hS.re [2]))
        go_wp2_with (first
          | (refine toList (by rfl) ?_; refine ld hS _ _ (by rfl) _ _ (by rfl) (agOf (by rfl)) Has.z (by rfl) ?_)
          | (refine toList (by rfl) ?_; refine ld hS _ _ (by rfl) _ _ (by rfl) (agOf (by rfl)) (Has.s Has.z) (by rfl) ?_)
          | (go_at_call 16; refine (HRA.out _ (hS.re [2])).mono ?_; rintro e w1 ⟨rfl, hS1⟩; clear hS; have hS := hS1; clear hS1; replace hS := hS.re [1, 2, 0])
          | (go_at_call 29; refine (HRB.out HB8.out _ (hS.re [3])).mono ?_; rintro e w1 ⟨rfl, hS1⟩; clear hS; have hS := hS1; clear hS1; replace hS := hS.re [1, 2, 3, 0])
          | (go_at_call 25; refine (wsame_any (hS.re [2, 3]) HRL3.out).mono ?_; rintro e w1 ⟨rfl, hS1⟩; clear hS; have hS := hS1; clear hS1)
          | (go_at_call 9; refine (wawake_any hS).mono ?_; rintro e w1 ⟨rfl, hS1⟩; clear hS; have hS := hS1; clear hS1))
        go_ret
        exact ⟨rfl, hS.clear⟩

set_option maxRecDepth 100000 in
theorem Recovers.contract (H : Type) (enc : TypeId × Value → H) (W : World) (base : Nat) (args : Array Value) (ds gs : List (DataW H)) (before : List MemPlace)
    (hval : ∀ (j : Nat) t v, Try.f6.params[j]? = some t → args[j]? = some v → Value.okWide Try.prog W .any base t v)
    (hW : DataW.Whole enc Try.prog Try.f6.params.toList Rows.walRecoversSpec.vars false W args.toList ds gs before)
    (hreach : (DataW.weightsEach Try.prog (Try.f6.params.toList ++ Rows.walRecoversSpec.plain.varTypes Try.prog) (ds ++ gs)).all (· ≤ reachBytes) = true) :
    Calls Try.prog 6 args W fun e W' => ∃ v, e = .returned v ∧ Rows.walRecoversSpec.post enc Try.prog Try.f6 false true false false W args v W' := by
  have hW' := hW
  obtain ⟨p, q, hA, hV, rfl, hfz, hnd⟩ := hW
  rw [Try.params6] at hA hval hreach
  obtain ⟨v1, vs1, d1, ds1, p1, q1, hargs, rfl, rfl, h1, r1⟩ := trodAll_cons hA
  obtain ⟨v2, vs2, d2, ds2, p2, q2, rfl, rfl, rfl, h2, r2⟩ := trodAll_cons r1
  obtain ⟨v3, vs3, d3, ds3, p3, q3, rfl, rfl, rfl, h3, r3⟩ := trodAll_cons r2
  obtain ⟨v4, vs4, d4, ds4, p4, q4, rfl, rfl, rfl, h4, r4⟩ := trodAll_cons r3
  obtain ⟨v5, vs5, d5, ds5, p5, q5, rfl, rfl, rfl, h5, r5⟩ := trodAll_cons r4
  obtain ⟨rfl, rfl, rfl⟩ := trodAll_nil r5
  obtain rfl : args = #[v1, v2, v3, v4, v5] := by cases args; simp_all
  obtain ⟨rfl, rfl⟩ := trodVars_none hV
  obtain ⟨ao1, l1, c1, rfl⟩ := okWide_slice Try.underlying22 (hval 0 22 v1 rfl rfl)
  obtain ⟨a2, rfl, rfl, rfl, w2⟩ := open_int Try.underlying3 (hval 1 3 v2 rfl rfl) h2
  obtain ⟨a3, rfl, rfl, rfl, w3⟩ := open_int Try.underlying5 (hval 2 5 v3 rfl rfl) h3
  obtain ⟨ao4, l4, c4, rfl⟩ := okWide_slice Try.underlying22 (hval 3 22 v4 rfl rfl)
  obtain ⟨a5, rfl, rfl, rfl, w5⟩ := open_int Try.underlying3 (hval 4 3 v5 rfl rfl) h5
  obtain ⟨l, rfl, hr, hro⟩ := open_wds h1
  obtain ⟨m, rfl, hr2, hro2⟩ := open_wds h4
  obtain ⟨y, rfl⟩ := u8_of w3
  refine (Recovers.walk l m ao1 ao4 c1 c4 a2 y a5 (i64_of w5).2 W ⟨hr, hro⟩ ⟨hr2, hro2⟩).mono ?_
  refine fun e W' ⟨he, hS⟩ => ?_
  subst he
  exact ⟨_, rfl, law_post (tb := 4) (by kernel_rfl) (by kernel_rfl) rfl Try.underlying4 rfl hW' rfl hS⟩

theorem Recovers.own : ownKnob Try.prog.godebug = none := by kernel_rfl
set_option maxRecDepth 100000 in
theorem Recovers.lifted (os : Os) (started : os.Started) (H : Type) (enc : TypeId × Value → H) :
    ReturnsInHanded {} Try.checked os 6 .any (Rows.walRecoversSpec.pre6 enc Try.prog Try.f6 Rows.walRecoversRow.domain false) (Rows.walRecoversSpec.post enc Try.prog Try.f6 false true false false) := by
  refine returnsInHanded_of_change_shaped (C := Try.checked) Recovers.own started (by kernel_rfl) Try.func6
    (ChangeSpec.witness6 (enc := enc) (C := Try.checked) false ⟨#[], #[.slice none 0 0, .int .i64 0, .int .u8 0, .slice none 0 0, .int .i64 0], []⟩ 8 (by kernel_rfl) (by kernel_rfl) (by kernel_rfl) (by kernel_rfl)) ?_
  intro W base args ds gs before hval hW _ hreach _ _
  exact Recovers.contract H enc W base args ds gs before hval hW hreach

theorem Recovers.holds : Rows.WalRecoversSaid :=
  OpenClaim.holds_of_wide 6 Try.f6 rfl rfl rfl rfl rfl rfl rfl ⟨rfl, rfl, rfl, rfl, rfl⟩ rfl rfl rfl rfl rfl (by kernel_rfl) Try.func6 (by kernel_rfl)
    (of_decide_eq_true (by kernel_rfl)) (by unfold Func.isWrapper; first | (rw [if_pos (by decide +kernel)]; kernel_rfl) | (rw [if_neg (by decide +kernel)]; exact ⟨rfl, rfl⟩))
    (fun os started H enc _ => Recovers.lifted os started H enc)
end Go.Proofs.Ytefbkpggmmhgcaa
