/-
  For all calls and nodes, QueryWaysGo answers true: no condition.
-/
import Derived.Test.YtpnbdnfgdiakhaaQuLess
import Derived.Test.YtpnbdnfgdiakhaaMReg
namespace Go.Proofs.Ytpnbdnfgdiakhaa
open Go.RowKit Go.Sep Go.ChangeShapes Go.WideShapes Go.ChangeAt
set_option linter.unusedSimpArgs false
set_option linter.unusedVariables false
attribute [local irreducible] Go.Oper.wp Go.wpList Go.Calls Go.Code.wp Go.Sep.Reg
attribute [local irreducible] IsG
theorem sat_nilG {W w : World} : ∀ {L : List Asrt}, Sat W w L → Sat W w []
  | [], h => h
  | _ :: _, h => sat_nilG h.drop
def qgJ1 (W : World) (ao : Option Addr) (c : Nat) (xa xb : Int) : Act → World → Prop := (fun (a' : Act) (w' : World) => ((∃ l' : List GOpD, (a'.tmps.getD 0 undef) = .slice ao l'.length c ∧ Rd W (.slice ao l'.length c) l'.length 3 (l'.flatMap gov)) ∧ Sat W w' []) ∧ a' = ⟨#[(a'.tmps.getD 0 undef), .int .i64 xa, .int .i64 xb, (a'.tmps.getD 3 undef), (a'.tmps.getD 4 undef), (a'.tmps.getD 5 undef), .bool false, (a'.tmps.getD 7 undef), (a'.tmps.getD 8 undef), (a'.tmps.getD 9 undef), (a'.tmps.getD 10 undef), (a'.tmps.getD 11 undef), (a'.tmps.getD 12 undef), (a'.tmps.getD 13 undef), (a'.tmps.getD 14 undef), (a'.tmps.getD 15 undef), (a'.tmps.getD 16 undef), (a'.tmps.getD 17 undef), (a'.tmps.getD 18 undef), (a'.tmps.getD 19 undef), (a'.tmps.getD 20 undef), (a'.tmps.getD 21 undef), (a'.tmps.getD 22 undef), (a'.tmps.getD 23 undef), undef, undef, undef, undef, undef, undef, undef, undef, undef, undef, undef, undef, undef, undef, undef, undef, undef, undef, undef, undef, undef, undef, undef, undef, undef, undef, undef, undef, undef, undef, undef, undef, undef, undef, undef, undef, undef, undef, undef, undef, undef, undef, undef, undef, undef, undef, undef, undef, undef, undef, undef, undef, undef, undef, undef, undef, undef, undef, undef, undef, undef, undef, undef, undef, undef, undef, undef, undef, undef, undef, undef, undef, undef, undef, undef, undef, undef, undef, undef, undef, undef, undef, undef, undef, undef, undef, undef, undef, undef, undef, undef, undef, undef, undef, undef, undef, undef, undef, undef, undef, undef, undef, undef, undef, undef, undef, undef, undef, undef, undef, undef, undef, undef, undef, undef, undef, undef, undef, undef, undef, undef, undef, undef, undef, undef, undef], []⟩)
set_option maxRecDepth 20000 in
set_option maxHeartbeats 8000000 in
theorem WaysGo.walk (l : List GOpD) (ao : Option Addr) (c : Nat) (xa xb : Int) (W : World) (hr : Rd W (.slice ao l.length c) l.length 3 (l.flatMap gov)) :
    Calls Try.prog 6 #[.slice ao l.length c, .int .i64 xa, .int .i64 xb] W fun e W' => e = .returned (.bool true) ∧ Sat W W' [] := by
  have hS := Sat.start W
  have HR := Lib.hid hr
  obtain ⟨_, _, he, hc1, hc2, _⟩ := hr
  simp only [Value.slice.injEq, true_and] at he
  obtain ⟨rfl, rfl⟩ := he
  have hli : (l.length : Int) ≤ 9223372036854775807 := by omega
  go_enter Try.func6, Try.ntmps6
  refine sep_part (fun K HK => ?_)
  go_wp2
  refine HK.out _ _ ?_
  clear HK K
  refine sep_cut (qgJ1 W ao c xa xb) (fun K HK => ?_) ?_
  · by_cases h40 : 35 < l.length
    · have k1 : (35 : Int) < (l.length : Int) := by omega
      have k2 : decide ((35 : Int) < (l.length : Int)) = true := decide_eq_true k1
      have k3 : decide (35 < l.length) = true := decide_eq_true h40
      have H40 := Lib.hid (show 35 ≤ c by omega)
      have HL := Lib.hid (show (l.take 35).length = 35 by rw [List.length_take]; omega)
      have HR2 := Lib.hid (show Rd W (.slice ao (l.take 35).length c) (l.take 35).length 3 ((l.take 35).flatMap gov) by
        have := HR.out.cutH 35 (by omega)
        rw [fm_take (sz := 3) l 35 (gov_len l)] at this
        rw [HL.out]; exact this)
      clear h40 hc1
      go_wp2_with (refine toList (by rfl) ?_; refine wp_of_reads (rCutH (hi := 35) (by rfl) (by rfl) (by rfl) (by rfl) H40.out (elOf (by rfl)) _) ?_)
      refine HK.out _ _ ?_
      clear HK K
      unfold qgJ1
      exact ⟨⟨⟨l.take 35, by rw [HL.out]; rfl, HR2.out⟩, hS⟩, rfl⟩
    · have k1 : ¬ (35 : Int) < (l.length : Int) := by omega
      have k2 : decide ((35 : Int) < (l.length : Int)) = false := decide_eq_false k1
      have k3 : decide (35 < l.length) = false := decide_eq_false h40
      clear h40
      go_wp2
      refine HK.out _ _ ?_
      clear HK K
      unfold qgJ1
      exact ⟨⟨⟨l, rfl, HR.out⟩, hS⟩, rfl⟩
  · clear hS HR hli hc1
    intro a w0 hinv
    unfold qgJ1 at hinv
    obtain ⟨hrel, ha⟩ := hinv
    obtain ⟨z, hz⟩ : ∃ z : Nat → Value, ∀ i, a.tmps.getD i undef = z i := ⟨_, fun _ => rfl⟩
    simp only [hz] at hrel ha
    clear hz
    subst ha
    obtain ⟨⟨l', h0, hr⟩, hS⟩ := hrel
    generalize z 0 = z0 at h0 ⊢
    subst h0
    have HGR := Lib.hid (fun w L (h : Sat W w L) => graphsI_any h l' ao c (I := fun _ => True) trivial (fun _ _ _ _ _ => trivial) (fun u hu => hr.old hu))
    clear hr
    refine sep_part (fun K HK => ?_)
    go_wp2_with (go_at_call 16; refine (HGR.out _ _ hS).mono ?_; rintro e w1 ⟨p, q, G, rfl, hG, hA, _, _, hn80, hS1⟩; have HG := Lib.hid hG; have HA := Lib.hid hA; clear hG hA; clear hS; have hS := hS1; clear hS1)
    refine HK.out _ _ ?_
    clear HK K
    have hni : (G.N.length : Int) ≤ 80 := by omega
    have HLEN := Lib.hid (fun w L (h : Sat W w (IsG p G :: L)) => len_any h rfl)
    refine sep_part (fun K HK => ?_)
    go_wp2
    refine HK.out _ _ ?_
    clear HK K
    clear HGR hc2
    refine sep_part (fun K HK => ?_)
    by_cases h0 : G.N.length = 0
    · have k1 : ((G.N.length : Int) == 0) = true := by rw [h0]; rfl
      have k4 : G.N = [] := List.eq_nil_of_length_eq_zero h0
      go_wp2_with (first
        | (go_at_call 19; refine (HLEN.out _ _ hS).mono ?_; rintro e w1 ⟨rfl, rfl⟩)
        | (go_at_call 15; refine (awake_any hS).mono ?_; rintro e w1 ⟨rfl, hS1⟩; clear hS; have hS := hS1; clear hS1))
      go_ret
      exact ⟨rfl, sat_nilG hS⟩
    · obtain ⟨N, hN⟩ : ∃ N, G.N.length = N := ⟨_, rfl⟩
      rw [hN] at h0 hn80 hni HLEN
      have HN := Lib.hid hN
      clear hN
      have k1 : ((N : Int) == 0) = false := beq_eq_false_iff_ne.2 (by omega)
      have k2 : ¬ (N : Int) = 0 := by omega
      by_cases h12 : 12 < N
      · have k4 : (12 : Int) < (N : Int) := by omega
        have k5 : decide ((12 : Int) < (N : Int)) = true := decide_eq_true k4
        have k6 : decide (12 < N) = true := decide_eq_true h12
        go_wp2_with (first
          | (go_at_call 19; refine (HLEN.out _ _ hS).mono ?_; rintro e w1 ⟨rfl, rfl⟩)
          | (go_at_call 15; refine (awake_any hS).mono ?_; rintro e w1 ⟨rfl, hS1⟩; clear hS; have hS := hS1; clear hS1))
        go_ret
        exact ⟨rfl, sat_nilG hS⟩
      · have k4 : ¬ (12 : Int) < (N : Int) := by omega
        have k5 : decide ((12 : Int) < (N : Int)) = false := decide_eq_false k4
        have k6 : decide (12 < N) = false := decide_eq_false h12
        go_wp2_with (go_at_call 19; refine (HLEN.out _ _ hS).mono ?_; rintro e w1 ⟨rfl, rfl⟩)
        refine HK.out _ _ ?_
        clear HK K
        have HPA := Lib.hid (fun w => place_any xa (N : Int) (by omega) (by omega) w)
        have HPB := Lib.hid (fun w => place_any xb (N : Int) (by omega) (by omega) w)
        obtain ⟨a, ha⟩ : ∃ a : Nat, xa % (N : Int) = (a : Int) := ⟨(xa % (N : Int)).toNat, by have := Int.emod_nonneg xa (b := (N : Int)) (by omega); omega⟩
        obtain ⟨b, hb⟩ : ∃ b : Nat, xb % (N : Int) = (b : Int) := ⟨(xb % (N : Int)).toNat, by have := Int.emod_nonneg xb (b := (N : Int)) (by omega); omega⟩
        have haN : a < G.N.length := by have := Int.emod_lt_of_pos xa (b := (N : Int)) (by omega); have := HN.out; omega
        have hbN : b < G.N.length := by have := Int.emod_lt_of_pos xb (b := (N : Int)) (by omega); have := HN.out; omega
        rw [ha] at HPA
        rw [hb] at HPB
        have HOK := Lib.hid (told_ok haN hbN)
        have HRC := Lib.hid (told_reaches HG.out HA.out haN hbN)
        have HRE := Lib.hid (fun w L (h : Sat W w (IsG p G :: L)) => reaches_any h HG.out (a : Int) (b : Int))
        have HW1 := Lib.hid (fun w L (h : Sat W w (IsG p G :: L)) => lways_any h HG.out HA.out (a : Int) (b : Int) (most := 2000) (K := 1000) ⟨by decide, by decide, .inr rfl⟩ (by decide))
        obtain ⟨T, hT⟩ : ∃ T, told G (a : Int) (b : Int) 1000 = T := ⟨_, rfl⟩
        rw [hT] at HW1 HOK HRC
        obtain ⟨r, hr⟩ : ∃ r, G.reaches (a : Int) (b : Int) = r := ⟨_, rfl⟩
        rw [hr] at HRC HRE
        have r1 : decide (0 < T.length) = r := HRC.out.symm
        have r2 : decide (0 < (T.length : Int)) = r := by rw [← r1]; congr 1; exact propext ⟨fun h => by omega, fun h => by omega⟩
        have htl : (T.length : Int) ≤ 1000 := by have := HOK.out.len; omega
        have r3 : (r != r) = false := bne_self_eq_false _
        have r4 : (r == r) = true := beq_self_eq_true _
        clear hT hr haN hbN ha hb HRC h12
        refine sep_part (fun K HK => ?_)
        go_wp2_with (first
          | (go_at_call 19; refine (HLEN.out _ _ hS).mono ?_; rintro e w1 ⟨rfl, rfl⟩)
          | (go_at_call 10; with_reducible refine (HPA.out _).mono ?_; rintro e w1 ⟨rfl, rfl⟩)
          | (go_at_call 10; with_reducible refine (HPB.out _).mono ?_; rintro e w1 ⟨rfl, rfl⟩))
        refine HK.out _ _ ?_
        clear HK K
        refine sep_part (fun K HK => ?_)
        go_wp2_with (go_at_call 14; refine (HW1.out _ _ hS).mono ?_; rintro e w1 ⟨v1, rfl, hS1⟩; clear hS; have hS := hS1; clear hS1; obtain ⟨a1, c1, rfl, _⟩ := hS.rwsShape (k := 0) rfl)
        refine HK.out _ _ ?_
        clear HK K
        refine sep_part (fun K HK => ?_)
        go_wp2_with (go_at_call 23; refine (HRE.out _ _ hS.pull1).mono ?_; rintro e w1 ⟨rfl, hS1⟩; clear hS; have hS := hS1.pull1; clear hS1)
        refine HK.out _ _ ?_
        clear HK K
        obtain ⟨vs1, hl1, h3⟩ := (show Sat W _ (Rws Ir _ T :: [IsG p G, IsR q G]) from hS).rwsOpen
        clear hS
        have hS := h3
        clear h3 HLEN HPA HPB HRE HW1
        have HL1 := Lib.hid hl1
        have HT1 := Lib.hid (fun w (h : Sat W w [Tb 0 1 one1 (.slice (a1) T.length c1) vs1, St (List.zipWith Ir vs1 T), IsG p G, IsR q G]) => show Rd w (.slice a1 T.length c1) T.length 1 vs1 by
          have := h.tbRd (k := 0) rfl
          rwa [one1_fm, hl1] at this)
        clear hl1
        have H0 := Lib.hid hS
        go_wp2
        go_loopw [13] (fun v wz => ∃ i : Nat, v = .int .i64 i ∧ i ≤ T.length ∧ Sat W wz [Tb 0 1 one1 (.slice (a1) T.length c1) vs1, St (List.zipWith Ir vs1 T), IsG p G, IsR q G]) (fun v _ => T.length - (intOf v).toNat)
        case atStart => exact ⟨0, rfl, by omega, H0.out⟩
        case round =>
          clear hS H0
          obtain ⟨i, rfl, hi, hS⟩ := hrel
          by_cases hlt : i < T.length
          · have k7 : (i : Int) < (T.length : Int) := by omega
            have HLT := Lib.hid hlt
            obtain ⟨_, _, e1, _, _, _, h5⟩ := HT1.out _ hS
            simp only [Value.slice.injEq, true_and] at e1
            obtain ⟨rfl, rfl⟩ := e1
            obtain ⟨b1, o1, rfl, _⟩ := h5 (by omega)
            obtain ⟨x, hx⟩ : ∃ x, T[i]? = some x := ⟨_, List.getElem?_eq_getElem hlt⟩
            obtain ⟨u1, hu1⟩ : ∃ u, vs1[i]? = some u := ⟨_, List.getElem?_eq_getElem (by rw [HL1.out]; exact hlt)⟩
            obtain ⟨M1, hm1⟩ := hS.stRow (k := 1) rfl hu1 hx
            obtain ⟨d1, f1, rfl, _⟩ := hm1.irShape (k := 0) rfl
            obtain ⟨g1, g2, g3, g4, g5⟩ := HOK.out.row x (List.mem_of_getElem? hx)
            have HX := Lib.hid hx
            have HXR := Lib.hid (fun w (h : Sat W w [Tb 0 1 one1 (.slice (some ⟨b1, o1, none⟩) T.length c1) vs1, St (List.zipWith Ir vs1 T), IsG p G, IsR q G]) => show Rd w (.slice d1 x.length f1) x.length 1 (iv x) by
              obtain ⟨M1, hm1⟩ := h.stRow (k := 1) rfl hu1 HX.out
              exact hm1.irRd (k := 0) rfl)
            obtain ⟨_, _, e2, hf1, hf2, _, h6⟩ := HXR.out _ hS
            simp only [Value.slice.injEq, true_and] at e2
            obtain ⟨rfl, rfl⟩ := e2
            obtain ⟨b2, o2, rfl, _⟩ := h6 g1
            have HXL := Lib.hid (show x.length ≤ 1000000 by have := HN.out; omega)
            have HXR2 := Lib.hid HXR.out
            have HUF := Lib.hid hu1
            obtain ⟨n, hn⟩ : ∃ n, x.length = n := ⟨_, rfl⟩
            have HNL := Lib.hid hn
            rw [hn] at HXR g1 g2 g4 hf1 hu1
            obtain ⟨m, hm⟩ : ∃ m, n = m + 1 := ⟨n - 1, by omega⟩
            have HA0 := Lib.hid (iv_at g3)
            have HB0 := Lib.hid (iv_at (show x[m]? = some b from by rw [← g4]; congr 1; omega))
            have HU1 := Lib.hid hu1
            have HST := Lib.hid g5
            have n1 : ¬ (n : Int) < 1 := by omega
            have n2 : (n : Int) - 1 = (m : Int) := by omega
            have n3 : decide ((n : Int) < 1) = false := decide_eq_false n1
            have n4 : decide (n < 1) = false := decide_eq_false (by omega)
            have n5 : (m : Int) < (n : Int) := by omega
            have n6 : (0 : Int) < (n : Int) := by omega
            have hnN : (n : Int) ≤ 80 := by have := HN.out; omega
            have HM := Lib.hid hm
            clear hx hu1 hm1 hlt h5 h6 g3 g4 g5 hn hm hf1 hf2 hi
            go_wp2_with (first
              | (refine toList (by rfl) ?_; refine wp_of_reads (rLdRd1 (HT1.out _ hS) _ _ (by rfl) _ (by rfl) (agOf (by rfl)) i (by omega) HU1.out (by omega)) ?_)
              | (refine toList (by rfl) ?_; refine wp_of_reads (rLdRd1 (HXR.out _ hS) _ _ (by rfl) _ (by rfl) (agOf (by rfl)) 0 (by omega) HA0.out (by omega)) ?_)
              | (refine toList (by rfl) ?_; refine wp_of_reads (rLdRd1 (HXR.out _ hS) _ _ (by rfl) _ (by rfl) (agOf (by rfl)) m (by omega) HB0.out (by omega)) ?_))
            have H1 := Lib.hid hS
            go_loopw [15] (fun v wz => ∃ j : Nat, v = .int .i64 j ∧ 1 ≤ j ∧ j ≤ n ∧ Sat W wz [Tb 0 1 one1 (.slice (some ⟨b1, o1, none⟩) T.length c1) vs1, St (List.zipWith Ir vs1 T), IsG p G, IsR q G]) (fun v _ => n - (intOf v).toNat)
            case atStart => exact ⟨1, rfl, by omega, by omega, H1.out⟩
            case round =>
              clear hS H1
              obtain ⟨j, rfl, hj1, hj2, hS⟩ := hrel
              by_cases hjl : j < n
              · have j1 : (j : Int) < (n : Int) := by omega
                obtain ⟨jj, hjj⟩ : ∃ jj, j = jj + 1 := ⟨j - 1, by omega⟩
                have j2 : (j : Int) - 1 = (jj : Int) := by omega
                obtain ⟨u, hu⟩ : ∃ u, x[jj]? = some u := ⟨_, List.getElem?_eq_getElem (by rw [HNL.out]; omega)⟩
                obtain ⟨y, hy⟩ : ∃ y, x[j]? = some y := ⟨_, List.getElem?_eq_getElem (by rw [HNL.out]; omega)⟩
                obtain ⟨huN, hyu⟩ := HST.out jj u y hu (by rw [← hjj]; exact hy)
                have HUP := Lib.hid (fun w L (h : Sat W w (IsG p G :: L)) => show Calls Try.prog 24 #[.pointer (some ⟨p, 0, none⟩), .int .i64 (u : Int)] w fun e w' => ∃ v, e = .returned v ∧ Sat W w' (Ir v (G.ups u) :: IsG p G :: L) by
                  have := ups_any h (u : Int) (by have := HN.out; omega)
                  rw [Gr.upsI_nat huN] at this
                  exact this)
                have husl : ((G.ups u).length : Int) ≤ 80 := by
                  have : (G.ups u).length ≤ G.N.length := by
                    have := List.length_filter_le (fun k => decide ((u, k) ∈ G.E)) (List.range G.N.length)
                    rwa [List.length_range] at this
                  have := HN.out; omega
                obtain ⟨us, hus⟩ : ∃ us, G.ups u = us := ⟨_, rfl⟩
                rw [hus] at HUP hyu husl
                have HYU := Lib.hid hyu
                have HYJ := Lib.hid (iv_at hy)
                have HUJ := Lib.hid (iv_at hu)
                have HJ := Lib.hid (show 1 ≤ j ∧ j < n from ⟨hj1, hjl⟩)
                clear hu hy huN hyu hus hj1 hj2 hjl hjj
                go_wp2_with (first
                  | (refine toList (by rfl) ?_; refine wp_of_reads (rLdRd1 (HT1.out _ hS) _ _ (by rfl) _ (by rfl) (agOf (by rfl)) i (by omega) HU1.out (by omega)) ?_)
                  | (refine toList (by rfl) ?_; refine wp_of_reads (rLdRd1 (HXR.out _ hS) _ _ (by rfl) _ (by rfl) (agOf (by rfl)) jj (by omega) HUJ.out (by omega)) ?_)
                  | (go_at_call 24; refine (HUP.out _ _ (hS.re [2])).mono ?_; rintro e w1 ⟨vu, rfl, hS1⟩; clear hS; have hS := (show Sat W w1 [Ir vu us, IsG p G, Tb 0 1 one1 _ vs1, St _, IsR q G] from hS1).re [0, 2, 3, 1, 4]; clear hS1; obtain ⟨au, cu, rfl, _⟩ := hS.irShape (k := 0) rfl))
                have H2 := Lib.hid (show Sat W _ (Ir (.slice au us.length cu) us :: [Tb 0 1 one1 (.slice (some ⟨b1, o1, none⟩) T.length c1) vs1, St (List.zipWith Ir vs1 T), IsG p G, IsR q G]) from hS)
                go_loopw [17, 18] (fun v17 v18 wz => ∃ k : Nat, v18 = .int .i64 k ∧ v17 = .bool (decide (y ∈ us.take k)) ∧ k ≤ us.length ∧ Sat W wz (Ir (.slice au us.length cu) us :: [Tb 0 1 one1 (.slice (some ⟨b1, o1, none⟩) T.length c1) vs1, St (List.zipWith Ir vs1 T), IsG p G, IsR q G])) (fun _ v18 _ => us.length - (intOf v18).toNat)
                case atStart => exact ⟨0, rfl, by simp, by omega, H2.out⟩
                case round =>
                  clear hS H2
                  obtain ⟨k, rfl, rfl, hk, hS⟩ := hrel
                  by_cases hkl : k < us.length
                  · have q1 : (k : Int) < (us.length : Int) := by omega
                    obtain ⟨z, hz⟩ : ∃ z, us[k]? = some z := ⟨_, List.getElem?_eq_getElem hkl⟩
                    obtain ⟨bu, ou, rfl⟩ := Sat.irAddr (k := 0) hS rfl rfl (by omega)
                    have HZ := Lib.hid (iv_at hz)
                    have HK := Lib.hid hkl
                    have htk : decide (y ∈ us.take (k + 1)) = (decide (y ∈ us.take k) || decide (z = y)) := by
                      rw [List.take_add_one, hz, ← Bool.decide_or]
                      congr 1
                      simp only [Option.toList_some, List.mem_append, List.mem_singleton]
                      exact propext ⟨fun h => h.imp id Eq.symm, fun h => h.imp id Eq.symm⟩
                    obtain ⟨f, hf⟩ : ∃ f, decide (y ∈ us.take k) = f := ⟨_, rfl⟩
                    rw [hf] at htk ⊢
                    clear hz hkl hk hf
                    cases f with
                    | true =>
                      have HTK := Lib.hid (show decide (y ∈ us.take (k + 1)) = true by rw [htk]; rfl)
                      clear htk
                      go_wp2
                      refine regStart [] hS (by kernel_rfl) rfl ?_
                      intro w1 hS1
                      clear hS; have hS := hS1; clear hS1
                      (refine regP 0 hS (fun _ h => h) rfl (by kernel_rfl) (by kernel_rfl) (by kernel_rfl) (fun _ _ _ _ h => h) (by rfl) (by rfl) ?_; apply Exists.intro; apply And.intro; (intro w; go_simp; try with_reducible rfl); go_frame)
                      (refine regP 1 hS (fun _ h => h) rfl (by kernel_rfl) (by kernel_rfl) (by kernel_rfl) (fun _ _ _ _ h => h) (by rfl) (by rfl) ?_; apply Exists.intro; apply And.intro; (intro w; go_simp; try with_reducible rfl); go_frame)
                      (first | (refine regP 2 hS (fun _ h => h) rfl (by kernel_rfl) (by kernel_rfl) (by kernel_rfl) (fun _ _ _ _ h => h) (by rfl) (by rfl) ?_; apply Exists.intro; apply And.intro; (intro w; go_simp; try with_reducible rfl); go_frame) | (refine regN 2 hS (fun _ h => h) rfl (by kernel_rfl) (by kernel_rfl) (by kernel_rfl) (fun _ _ _ h => h) (by rfl) (by rfl) ?_; go_frame))
                      (first | (refine regP 3 hS (fun _ h => h) rfl (by kernel_rfl) (by kernel_rfl) (by kernel_rfl) (fun _ _ _ _ h => h) (by rfl) (by rfl) ?_; apply Exists.intro; apply And.intro; (intro w; go_simp; try with_reducible rfl); go_frame) | (refine regN 3 hS (fun _ h => h) rfl (by kernel_rfl) (by kernel_rfl) (by kernel_rfl) (fun _ _ _ h => h) (by rfl) (by rfl) ?_; go_frame))
                      (first | (refine regP 4 hS (fun _ h => h) rfl (by kernel_rfl) (by kernel_rfl) (by kernel_rfl) (fun _ _ _ _ h => h) (by rfl) (by rfl) ?_; apply Exists.intro; apply And.intro; (intro w; go_simp; try with_reducible rfl); go_frame) | (refine regN 4 hS (fun _ h => h) rfl (by kernel_rfl) (by kernel_rfl) (by kernel_rfl) (fun _ _ _ h => h) (by rfl) (by rfl) ?_; go_frame))
                      (first | (refine regR 5 hS (fun _ h => h) rfl (by kernel_rfl) (by kernel_rfl) (by kernel_rfl) (by kernel_rfl) (by kernel_rfl) (fun _ _ _ _ h => h) (by rfl) (by rfl) ?_; ((first
                                                                    | refine ⟨_, yLdSl _ _ (by rfl) _ _ (by rfl) (agOf (by rfl)) Has.z k (by omega) HZ.out, ?_⟩
                                                                    | refine ⟨_, fun u hu => rLdRd1 (HT1.out u hu.drop) _ _ (by rfl) _ (by rfl) (agOf (by rfl)) i (by omega) HU1.out (by omega), ?_⟩
                                                                    | refine ⟨_, fun u hu => rLdRd1 (HXR.out u hu.drop) _ _ (by rfl) _ (by rfl) (agOf (by rfl)) j (by omega) HYJ.out (by omega), ?_⟩)); go_frame) | (refine regN 5 hS (fun _ h => h) rfl (by kernel_rfl) (by kernel_rfl) (by kernel_rfl) (fun _ _ _ h => h) (by rfl) (by rfl) ?_; go_frame))
                      (first | (refine regP 6 hS (fun _ h => h) rfl (by kernel_rfl) (by kernel_rfl) (by kernel_rfl) (fun _ _ _ _ h => h) (by rfl) (by rfl) ?_; apply Exists.intro; apply And.intro; (intro w; go_simp; try with_reducible rfl); go_frame) | (refine regN 6 hS (fun _ h => h) rfl (by kernel_rfl) (by kernel_rfl) (by kernel_rfl) (fun _ _ _ h => h) (by rfl) (by rfl) ?_; go_frame))
                      (first | (refine regP 7 hS (fun _ h => h) rfl (by kernel_rfl) (by kernel_rfl) (by kernel_rfl) (fun _ _ _ _ h => h) (by rfl) (by rfl) ?_; apply Exists.intro; apply And.intro; (intro w; go_simp; try with_reducible rfl); go_frame) | (refine regN 7 hS (fun _ h => h) rfl (by kernel_rfl) (by kernel_rfl) (by kernel_rfl) (fun _ _ _ h => h) (by rfl) (by rfl) ?_; go_frame))
                      (first | (refine regP 8 hS (fun _ h => h) rfl (by kernel_rfl) (by kernel_rfl) (by kernel_rfl) (fun _ _ _ _ h => h) (by rfl) (by rfl) ?_; apply Exists.intro; apply And.intro; (intro w; go_simp; try with_reducible rfl); go_frame) | (refine regN 8 hS (fun _ h => h) rfl (by kernel_rfl) (by kernel_rfl) (by kernel_rfl) (fun _ _ _ h => h) (by rfl) (by rfl) ?_; go_frame))
                      (first | (refine regR 9 hS (fun _ h => h) rfl (by kernel_rfl) (by kernel_rfl) (by kernel_rfl) (by kernel_rfl) (by kernel_rfl) (fun _ _ _ _ h => h) (by rfl) (by rfl) ?_; ((first
                                                                    | refine ⟨_, yLdSl _ _ (by rfl) _ _ (by rfl) (agOf (by rfl)) Has.z k (by omega) HZ.out, ?_⟩
                                                                    | refine ⟨_, fun u hu => rLdRd1 (HT1.out u hu.drop) _ _ (by rfl) _ (by rfl) (agOf (by rfl)) i (by omega) HU1.out (by omega), ?_⟩
                                                                    | refine ⟨_, fun u hu => rLdRd1 (HXR.out u hu.drop) _ _ (by rfl) _ (by rfl) (agOf (by rfl)) j (by omega) HYJ.out (by omega), ?_⟩)); go_frame) | (refine regN 9 hS (fun _ h => h) rfl (by kernel_rfl) (by kernel_rfl) (by kernel_rfl) (fun _ _ _ h => h) (by rfl) (by rfl) ?_; go_frame))
                      (first | (refine regP 10 hS (fun _ h => h) rfl (by kernel_rfl) (by kernel_rfl) (by kernel_rfl) (fun _ _ _ _ h => h) (by rfl) (by rfl) ?_; apply Exists.intro; apply And.intro; (intro w; go_simp; try with_reducible rfl); go_frame) | (refine regN 10 hS (fun _ h => h) rfl (by kernel_rfl) (by kernel_rfl) (by kernel_rfl) (fun _ _ _ h => h) (by rfl) (by rfl) ?_; go_frame))
                      (first | (refine regP 11 hS (fun _ h => h) rfl (by kernel_rfl) (by kernel_rfl) (by kernel_rfl) (fun _ _ _ _ h => h) (by rfl) (by rfl) ?_; apply Exists.intro; apply And.intro; (intro w; go_simp; try with_reducible rfl); go_frame) | (refine regN 11 hS (fun _ h => h) rfl (by kernel_rfl) (by kernel_rfl) (by kernel_rfl) (fun _ _ _ h => h) (by rfl) (by rfl) ?_; go_frame))
                      (first | (refine regR 12 hS (fun _ h => h) rfl (by kernel_rfl) (by kernel_rfl) (by kernel_rfl) (by kernel_rfl) (by kernel_rfl) (fun _ _ _ _ h => h) (by rfl) (by rfl) ?_; ((first
                                                                    | refine ⟨_, yLdSl _ _ (by rfl) _ _ (by rfl) (agOf (by rfl)) Has.z k (by omega) HZ.out, ?_⟩
                                                                    | refine ⟨_, fun u hu => rLdRd1 (HT1.out u hu.drop) _ _ (by rfl) _ (by rfl) (agOf (by rfl)) i (by omega) HU1.out (by omega), ?_⟩
                                                                    | refine ⟨_, fun u hu => rLdRd1 (HXR.out u hu.drop) _ _ (by rfl) _ (by rfl) (agOf (by rfl)) j (by omega) HYJ.out (by omega), ?_⟩)); go_frame) | (refine regN 12 hS (fun _ h => h) rfl (by kernel_rfl) (by kernel_rfl) (by kernel_rfl) (fun _ _ _ h => h) (by rfl) (by rfl) ?_; go_frame))
                      (first | (refine regP 13 hS (fun _ h => h) rfl (by kernel_rfl) (by kernel_rfl) (by kernel_rfl) (fun _ _ _ _ h => h) (by rfl) (by rfl) ?_; apply Exists.intro; apply And.intro; (intro w; go_simp; try with_reducible rfl); go_frame) | (refine regN 13 hS (fun _ h => h) rfl (by kernel_rfl) (by kernel_rfl) (by kernel_rfl) (fun _ _ _ h => h) (by rfl) (by rfl) ?_; go_frame))
                      (refine regP 14 hS (fun _ h => h) rfl (by kernel_rfl) (by kernel_rfl) (by kernel_rfl) (fun _ _ _ _ h => h) (by rfl) (by rfl) ?_; apply Exists.intro; apply And.intro; (intro w; go_simp; try with_reducible rfl); go_frame)
                      (refine regP 15 hS (fun _ h => h) rfl (by kernel_rfl) (by kernel_rfl) (by kernel_rfl) (fun _ _ _ _ h => h) (by rfl) (by rfl) ?_; apply Exists.intro; apply And.intro; (intro w; go_simp; try with_reducible rfl); go_frame)
                      refine regDone (by kernel_rfl) ?_
                      go_wp2
                      exact ⟨⟨k + 1, by go_num, by rw [HTK.out], HK.out, hS⟩, by simp [intOf]; have := HK.out; omega⟩
                    | false =>
                      by_cases hzy : z = y
                      · subst hzy
                        have HTK := Lib.hid (show decide (z ∈ us.take (k + 1)) = true by rw [htk]; simp)
                        have q2 : ((z : Int) == (z : Int)) = true := beq_self_eq_true _
                        have q3 : (z == z) = true := beq_self_eq_true _
                        clear htk
                        go_wp2
                        refine regStart [] hS (by kernel_rfl) rfl ?_
                        intro w1 hS1
                        clear hS; have hS := hS1; clear hS1
                        (refine regP 0 hS (fun _ h => h) rfl (by kernel_rfl) (by kernel_rfl) (by kernel_rfl) (fun _ _ _ _ h => h) (by rfl) (by rfl) ?_; apply Exists.intro; apply And.intro; (intro w; go_simp; try with_reducible rfl); go_frame)
                        (refine regP 1 hS (fun _ h => h) rfl (by kernel_rfl) (by kernel_rfl) (by kernel_rfl) (fun _ _ _ _ h => h) (by rfl) (by rfl) ?_; apply Exists.intro; apply And.intro; (intro w; go_simp; try with_reducible rfl); go_frame)
                        (first | (refine regP 2 hS (fun _ h => h) rfl (by kernel_rfl) (by kernel_rfl) (by kernel_rfl) (fun _ _ _ _ h => h) (by rfl) (by rfl) ?_; apply Exists.intro; apply And.intro; (intro w; go_simp; try with_reducible rfl); go_frame) | (refine regN 2 hS (fun _ h => h) rfl (by kernel_rfl) (by kernel_rfl) (by kernel_rfl) (fun _ _ _ h => h) (by rfl) (by rfl) ?_; go_frame))
                        (first | (refine regP 3 hS (fun _ h => h) rfl (by kernel_rfl) (by kernel_rfl) (by kernel_rfl) (fun _ _ _ _ h => h) (by rfl) (by rfl) ?_; apply Exists.intro; apply And.intro; (intro w; go_simp; try with_reducible rfl); go_frame) | (refine regN 3 hS (fun _ h => h) rfl (by kernel_rfl) (by kernel_rfl) (by kernel_rfl) (fun _ _ _ h => h) (by rfl) (by rfl) ?_; go_frame))
                        (first | (refine regP 4 hS (fun _ h => h) rfl (by kernel_rfl) (by kernel_rfl) (by kernel_rfl) (fun _ _ _ _ h => h) (by rfl) (by rfl) ?_; apply Exists.intro; apply And.intro; (intro w; go_simp; try with_reducible rfl); go_frame) | (refine regN 4 hS (fun _ h => h) rfl (by kernel_rfl) (by kernel_rfl) (by kernel_rfl) (fun _ _ _ h => h) (by rfl) (by rfl) ?_; go_frame))
                        (first | (refine regR 5 hS (fun _ h => h) rfl (by kernel_rfl) (by kernel_rfl) (by kernel_rfl) (by kernel_rfl) (by kernel_rfl) (fun _ _ _ _ h => h) (by rfl) (by rfl) ?_; ((first
                                                                          | refine ⟨_, yLdSl _ _ (by rfl) _ _ (by rfl) (agOf (by rfl)) Has.z k (by omega) HZ.out, ?_⟩
                                                                          | refine ⟨_, fun u hu => rLdRd1 (HT1.out u hu.drop) _ _ (by rfl) _ (by rfl) (agOf (by rfl)) i (by omega) HU1.out (by omega), ?_⟩
                                                                          | refine ⟨_, fun u hu => rLdRd1 (HXR.out u hu.drop) _ _ (by rfl) _ (by rfl) (agOf (by rfl)) j (by omega) HYJ.out (by omega), ?_⟩)); go_frame) | (refine regN 5 hS (fun _ h => h) rfl (by kernel_rfl) (by kernel_rfl) (by kernel_rfl) (fun _ _ _ h => h) (by rfl) (by rfl) ?_; go_frame))
                        (first | (refine regP 6 hS (fun _ h => h) rfl (by kernel_rfl) (by kernel_rfl) (by kernel_rfl) (fun _ _ _ _ h => h) (by rfl) (by rfl) ?_; apply Exists.intro; apply And.intro; (intro w; go_simp; try with_reducible rfl); go_frame) | (refine regN 6 hS (fun _ h => h) rfl (by kernel_rfl) (by kernel_rfl) (by kernel_rfl) (fun _ _ _ h => h) (by rfl) (by rfl) ?_; go_frame))
                        (first | (refine regP 7 hS (fun _ h => h) rfl (by kernel_rfl) (by kernel_rfl) (by kernel_rfl) (fun _ _ _ _ h => h) (by rfl) (by rfl) ?_; apply Exists.intro; apply And.intro; (intro w; go_simp; try with_reducible rfl); go_frame) | (refine regN 7 hS (fun _ h => h) rfl (by kernel_rfl) (by kernel_rfl) (by kernel_rfl) (fun _ _ _ h => h) (by rfl) (by rfl) ?_; go_frame))
                        (first | (refine regP 8 hS (fun _ h => h) rfl (by kernel_rfl) (by kernel_rfl) (by kernel_rfl) (fun _ _ _ _ h => h) (by rfl) (by rfl) ?_; apply Exists.intro; apply And.intro; (intro w; go_simp; try with_reducible rfl); go_frame) | (refine regN 8 hS (fun _ h => h) rfl (by kernel_rfl) (by kernel_rfl) (by kernel_rfl) (fun _ _ _ h => h) (by rfl) (by rfl) ?_; go_frame))
                        (first | (refine regR 9 hS (fun _ h => h) rfl (by kernel_rfl) (by kernel_rfl) (by kernel_rfl) (by kernel_rfl) (by kernel_rfl) (fun _ _ _ _ h => h) (by rfl) (by rfl) ?_; ((first
                                                                          | refine ⟨_, yLdSl _ _ (by rfl) _ _ (by rfl) (agOf (by rfl)) Has.z k (by omega) HZ.out, ?_⟩
                                                                          | refine ⟨_, fun u hu => rLdRd1 (HT1.out u hu.drop) _ _ (by rfl) _ (by rfl) (agOf (by rfl)) i (by omega) HU1.out (by omega), ?_⟩
                                                                          | refine ⟨_, fun u hu => rLdRd1 (HXR.out u hu.drop) _ _ (by rfl) _ (by rfl) (agOf (by rfl)) j (by omega) HYJ.out (by omega), ?_⟩)); go_frame) | (refine regN 9 hS (fun _ h => h) rfl (by kernel_rfl) (by kernel_rfl) (by kernel_rfl) (fun _ _ _ h => h) (by rfl) (by rfl) ?_; go_frame))
                        (first | (refine regP 10 hS (fun _ h => h) rfl (by kernel_rfl) (by kernel_rfl) (by kernel_rfl) (fun _ _ _ _ h => h) (by rfl) (by rfl) ?_; apply Exists.intro; apply And.intro; (intro w; go_simp; try with_reducible rfl); go_frame) | (refine regN 10 hS (fun _ h => h) rfl (by kernel_rfl) (by kernel_rfl) (by kernel_rfl) (fun _ _ _ h => h) (by rfl) (by rfl) ?_; go_frame))
                        (first | (refine regP 11 hS (fun _ h => h) rfl (by kernel_rfl) (by kernel_rfl) (by kernel_rfl) (fun _ _ _ _ h => h) (by rfl) (by rfl) ?_; apply Exists.intro; apply And.intro; (intro w; go_simp; try with_reducible rfl); go_frame) | (refine regN 11 hS (fun _ h => h) rfl (by kernel_rfl) (by kernel_rfl) (by kernel_rfl) (fun _ _ _ h => h) (by rfl) (by rfl) ?_; go_frame))
                        (first | (refine regR 12 hS (fun _ h => h) rfl (by kernel_rfl) (by kernel_rfl) (by kernel_rfl) (by kernel_rfl) (by kernel_rfl) (fun _ _ _ _ h => h) (by rfl) (by rfl) ?_; ((first
                                                                          | refine ⟨_, yLdSl _ _ (by rfl) _ _ (by rfl) (agOf (by rfl)) Has.z k (by omega) HZ.out, ?_⟩
                                                                          | refine ⟨_, fun u hu => rLdRd1 (HT1.out u hu.drop) _ _ (by rfl) _ (by rfl) (agOf (by rfl)) i (by omega) HU1.out (by omega), ?_⟩
                                                                          | refine ⟨_, fun u hu => rLdRd1 (HXR.out u hu.drop) _ _ (by rfl) _ (by rfl) (agOf (by rfl)) j (by omega) HYJ.out (by omega), ?_⟩)); go_frame) | (refine regN 12 hS (fun _ h => h) rfl (by kernel_rfl) (by kernel_rfl) (by kernel_rfl) (fun _ _ _ h => h) (by rfl) (by rfl) ?_; go_frame))
                        (first | (refine regP 13 hS (fun _ h => h) rfl (by kernel_rfl) (by kernel_rfl) (by kernel_rfl) (fun _ _ _ _ h => h) (by rfl) (by rfl) ?_; apply Exists.intro; apply And.intro; (intro w; go_simp; try with_reducible rfl); go_frame) | (refine regN 13 hS (fun _ h => h) rfl (by kernel_rfl) (by kernel_rfl) (by kernel_rfl) (fun _ _ _ h => h) (by rfl) (by rfl) ?_; go_frame))
                        (refine regP 14 hS (fun _ h => h) rfl (by kernel_rfl) (by kernel_rfl) (by kernel_rfl) (fun _ _ _ _ h => h) (by rfl) (by rfl) ?_; apply Exists.intro; apply And.intro; (intro w; go_simp; try with_reducible rfl); go_frame)
                        (refine regP 15 hS (fun _ h => h) rfl (by kernel_rfl) (by kernel_rfl) (by kernel_rfl) (fun _ _ _ _ h => h) (by rfl) (by rfl) ?_; apply Exists.intro; apply And.intro; (intro w; go_simp; try with_reducible rfl); go_frame)
                        refine regDone (by kernel_rfl) ?_
                        go_wp2
                        exact ⟨⟨k + 1, by go_num, by rw [HTK.out], HK.out, hS⟩, by simp [intOf]; have := HK.out; omega⟩
                      · have HTK := Lib.hid (show decide (y ∈ us.take (k + 1)) = false by rw [htk]; simp [hzy])
                        have q2 : ((z : Int) == (y : Int)) = false := beq_eq_false_iff_ne.2 (by omega)
                        have q3 : (z == y) = false := beq_eq_false_iff_ne.2 hzy
                        have q4 : ¬ (z : Int) = (y : Int) := by omega
                        clear htk
                        go_wp2
                        refine regStart [] hS (by kernel_rfl) rfl ?_
                        intro w1 hS1
                        clear hS; have hS := hS1; clear hS1
                        (refine regP 0 hS (fun _ h => h) rfl (by kernel_rfl) (by kernel_rfl) (by kernel_rfl) (fun _ _ _ _ h => h) (by rfl) (by rfl) ?_; apply Exists.intro; apply And.intro; (intro w; go_simp; try with_reducible rfl); go_frame)
                        (refine regP 1 hS (fun _ h => h) rfl (by kernel_rfl) (by kernel_rfl) (by kernel_rfl) (fun _ _ _ _ h => h) (by rfl) (by rfl) ?_; apply Exists.intro; apply And.intro; (intro w; go_simp; try with_reducible rfl); go_frame)
                        (first | (refine regP 2 hS (fun _ h => h) rfl (by kernel_rfl) (by kernel_rfl) (by kernel_rfl) (fun _ _ _ _ h => h) (by rfl) (by rfl) ?_; apply Exists.intro; apply And.intro; (intro w; go_simp; try with_reducible rfl); go_frame) | (refine regN 2 hS (fun _ h => h) rfl (by kernel_rfl) (by kernel_rfl) (by kernel_rfl) (fun _ _ _ h => h) (by rfl) (by rfl) ?_; go_frame))
                        (first | (refine regP 3 hS (fun _ h => h) rfl (by kernel_rfl) (by kernel_rfl) (by kernel_rfl) (fun _ _ _ _ h => h) (by rfl) (by rfl) ?_; apply Exists.intro; apply And.intro; (intro w; go_simp; try with_reducible rfl); go_frame) | (refine regN 3 hS (fun _ h => h) rfl (by kernel_rfl) (by kernel_rfl) (by kernel_rfl) (fun _ _ _ h => h) (by rfl) (by rfl) ?_; go_frame))
                        (first | (refine regP 4 hS (fun _ h => h) rfl (by kernel_rfl) (by kernel_rfl) (by kernel_rfl) (fun _ _ _ _ h => h) (by rfl) (by rfl) ?_; apply Exists.intro; apply And.intro; (intro w; go_simp; try with_reducible rfl); go_frame) | (refine regN 4 hS (fun _ h => h) rfl (by kernel_rfl) (by kernel_rfl) (by kernel_rfl) (fun _ _ _ h => h) (by rfl) (by rfl) ?_; go_frame))
                        (first | (refine regR 5 hS (fun _ h => h) rfl (by kernel_rfl) (by kernel_rfl) (by kernel_rfl) (by kernel_rfl) (by kernel_rfl) (fun _ _ _ _ h => h) (by rfl) (by rfl) ?_; ((first
                                                                          | refine ⟨_, yLdSl _ _ (by rfl) _ _ (by rfl) (agOf (by rfl)) Has.z k (by omega) HZ.out, ?_⟩
                                                                          | refine ⟨_, fun u hu => rLdRd1 (HT1.out u hu.drop) _ _ (by rfl) _ (by rfl) (agOf (by rfl)) i (by omega) HU1.out (by omega), ?_⟩
                                                                          | refine ⟨_, fun u hu => rLdRd1 (HXR.out u hu.drop) _ _ (by rfl) _ (by rfl) (agOf (by rfl)) j (by omega) HYJ.out (by omega), ?_⟩)); go_frame) | (refine regN 5 hS (fun _ h => h) rfl (by kernel_rfl) (by kernel_rfl) (by kernel_rfl) (fun _ _ _ h => h) (by rfl) (by rfl) ?_; go_frame))
                        (first | (refine regP 6 hS (fun _ h => h) rfl (by kernel_rfl) (by kernel_rfl) (by kernel_rfl) (fun _ _ _ _ h => h) (by rfl) (by rfl) ?_; apply Exists.intro; apply And.intro; (intro w; go_simp; try with_reducible rfl); go_frame) | (refine regN 6 hS (fun _ h => h) rfl (by kernel_rfl) (by kernel_rfl) (by kernel_rfl) (fun _ _ _ h => h) (by rfl) (by rfl) ?_; go_frame))
                        (first | (refine regP 7 hS (fun _ h => h) rfl (by kernel_rfl) (by kernel_rfl) (by kernel_rfl) (fun _ _ _ _ h => h) (by rfl) (by rfl) ?_; apply Exists.intro; apply And.intro; (intro w; go_simp; try with_reducible rfl); go_frame) | (refine regN 7 hS (fun _ h => h) rfl (by kernel_rfl) (by kernel_rfl) (by kernel_rfl) (fun _ _ _ h => h) (by rfl) (by rfl) ?_; go_frame))
                        (first | (refine regP 8 hS (fun _ h => h) rfl (by kernel_rfl) (by kernel_rfl) (by kernel_rfl) (fun _ _ _ _ h => h) (by rfl) (by rfl) ?_; apply Exists.intro; apply And.intro; (intro w; go_simp; try with_reducible rfl); go_frame) | (refine regN 8 hS (fun _ h => h) rfl (by kernel_rfl) (by kernel_rfl) (by kernel_rfl) (fun _ _ _ h => h) (by rfl) (by rfl) ?_; go_frame))
                        (first | (refine regR 9 hS (fun _ h => h) rfl (by kernel_rfl) (by kernel_rfl) (by kernel_rfl) (by kernel_rfl) (by kernel_rfl) (fun _ _ _ _ h => h) (by rfl) (by rfl) ?_; ((first
                                                                          | refine ⟨_, yLdSl _ _ (by rfl) _ _ (by rfl) (agOf (by rfl)) Has.z k (by omega) HZ.out, ?_⟩
                                                                          | refine ⟨_, fun u hu => rLdRd1 (HT1.out u hu.drop) _ _ (by rfl) _ (by rfl) (agOf (by rfl)) i (by omega) HU1.out (by omega), ?_⟩
                                                                          | refine ⟨_, fun u hu => rLdRd1 (HXR.out u hu.drop) _ _ (by rfl) _ (by rfl) (agOf (by rfl)) j (by omega) HYJ.out (by omega), ?_⟩)); go_frame) | (refine regN 9 hS (fun _ h => h) rfl (by kernel_rfl) (by kernel_rfl) (by kernel_rfl) (fun _ _ _ h => h) (by rfl) (by rfl) ?_; go_frame))
                        (first | (refine regP 10 hS (fun _ h => h) rfl (by kernel_rfl) (by kernel_rfl) (by kernel_rfl) (fun _ _ _ _ h => h) (by rfl) (by rfl) ?_; apply Exists.intro; apply And.intro; (intro w; go_simp; try with_reducible rfl); go_frame) | (refine regN 10 hS (fun _ h => h) rfl (by kernel_rfl) (by kernel_rfl) (by kernel_rfl) (fun _ _ _ h => h) (by rfl) (by rfl) ?_; go_frame))
                        (first | (refine regP 11 hS (fun _ h => h) rfl (by kernel_rfl) (by kernel_rfl) (by kernel_rfl) (fun _ _ _ _ h => h) (by rfl) (by rfl) ?_; apply Exists.intro; apply And.intro; (intro w; go_simp; try with_reducible rfl); go_frame) | (refine regN 11 hS (fun _ h => h) rfl (by kernel_rfl) (by kernel_rfl) (by kernel_rfl) (fun _ _ _ h => h) (by rfl) (by rfl) ?_; go_frame))
                        (first | (refine regR 12 hS (fun _ h => h) rfl (by kernel_rfl) (by kernel_rfl) (by kernel_rfl) (by kernel_rfl) (by kernel_rfl) (fun _ _ _ _ h => h) (by rfl) (by rfl) ?_; ((first
                                                                          | refine ⟨_, yLdSl _ _ (by rfl) _ _ (by rfl) (agOf (by rfl)) Has.z k (by omega) HZ.out, ?_⟩
                                                                          | refine ⟨_, fun u hu => rLdRd1 (HT1.out u hu.drop) _ _ (by rfl) _ (by rfl) (agOf (by rfl)) i (by omega) HU1.out (by omega), ?_⟩
                                                                          | refine ⟨_, fun u hu => rLdRd1 (HXR.out u hu.drop) _ _ (by rfl) _ (by rfl) (agOf (by rfl)) j (by omega) HYJ.out (by omega), ?_⟩)); go_frame) | (refine regN 12 hS (fun _ h => h) rfl (by kernel_rfl) (by kernel_rfl) (by kernel_rfl) (fun _ _ _ h => h) (by rfl) (by rfl) ?_; go_frame))
                        (first | (refine regP 13 hS (fun _ h => h) rfl (by kernel_rfl) (by kernel_rfl) (by kernel_rfl) (fun _ _ _ _ h => h) (by rfl) (by rfl) ?_; apply Exists.intro; apply And.intro; (intro w; go_simp; try with_reducible rfl); go_frame) | (refine regN 13 hS (fun _ h => h) rfl (by kernel_rfl) (by kernel_rfl) (by kernel_rfl) (fun _ _ _ h => h) (by rfl) (by rfl) ?_; go_frame))
                        (refine regP 14 hS (fun _ h => h) rfl (by kernel_rfl) (by kernel_rfl) (by kernel_rfl) (fun _ _ _ _ h => h) (by rfl) (by rfl) ?_; apply Exists.intro; apply And.intro; (intro w; go_simp; try with_reducible rfl); go_frame)
                        (refine regP 15 hS (fun _ h => h) rfl (by kernel_rfl) (by kernel_rfl) (by kernel_rfl) (fun _ _ _ _ h => h) (by rfl) (by rfl) ?_; apply Exists.intro; apply And.intro; (intro w; go_simp; try with_reducible rfl); go_frame)
                        refine regDone (by kernel_rfl) ?_
                        go_wp2
                        exact ⟨⟨k + 1, by go_num, by rw [HTK.out], HK.out, hS⟩, by simp [intOf]; have := HK.out; omega⟩
                  · obtain rfl : k = us.length := by omega
                    have q1 : ¬ (us.length : Int) < (us.length : Int) := by omega
                    have HTK := Lib.hid (show decide (y ∈ us.take us.length) = true by rw [List.take_length]; exact decide_eq_true HYU.out)
                    rw [HTK.out]
                    clear hk hkl
                    go_wp2
                    exact ⟨⟨j + 1, by go_num, by omega, HJ.out.2, hS.drop⟩, by simp [intOf]; have := HJ.out; omega⟩
              · obtain rfl : j = n := by omega
                have j1 : ¬ (j : Int) < (j : Int) := by omega
                have hup : i = 0 ∨ ∃ i0, i = i0 + 1 := by cases i with | zero => exact .inl rfl | succ i0 => exact .inr ⟨i0, rfl⟩
                clear hj1 hj2 hjl
                rcases hup with rfl | ⟨i0, hi0⟩
                · go_wp2
                  refine regStart [12] hS (by kernel_rfl) rfl ?_
                  intro w1 hS1
                  clear hS; have hS := hS1; clear hS1
                  (refine regP 0 hS (fun _ h => h) rfl (by kernel_rfl) (by kernel_rfl) (by kernel_rfl) (fun _ _ _ _ h => h) (by rfl) (by rfl) ?_; apply Exists.intro; apply And.intro; (intro w; go_simp; try with_reducible rfl); go_frame)
                  (refine regP 1 hS (fun _ h => h) rfl (by kernel_rfl) (by kernel_rfl) (by kernel_rfl) (fun _ _ _ _ h => h) (by rfl) (by rfl) ?_; apply Exists.intro; apply And.intro; (intro w; go_simp; try with_reducible rfl); go_frame)
                  (refine regP 2 hS (fun _ h => h) rfl (by kernel_rfl) (by kernel_rfl) (by kernel_rfl) (fun _ _ _ _ h => h) (by rfl) (by rfl) ?_; apply Exists.intro; apply And.intro; (intro w; go_simp; try with_reducible rfl); go_frame)
                  (first | (refine regP 3 hS (fun _ h => h) rfl (by kernel_rfl) (by kernel_rfl) (by kernel_rfl) (fun _ _ _ _ h => h) (by rfl) (by rfl) ?_; apply Exists.intro; apply And.intro; (intro w; go_simp; try with_reducible rfl); go_frame) | (refine regN 3 hS (fun _ h => h) rfl (by kernel_rfl) (by kernel_rfl) (by kernel_rfl) (fun _ _ _ h => h) (by rfl) (by rfl) ?_; go_frame))
                  (first | (refine regP 4 hS (fun _ h => h) rfl (by kernel_rfl) (by kernel_rfl) (by kernel_rfl) (fun _ _ _ _ h => h) (by rfl) (by rfl) ?_; apply Exists.intro; apply And.intro; (intro w; go_simp; try with_reducible rfl); go_frame) | (refine regN 4 hS (fun _ h => h) rfl (by kernel_rfl) (by kernel_rfl) (by kernel_rfl) (fun _ _ _ h => h) (by rfl) (by rfl) ?_; go_frame))
                  (first | (refine regP 5 hS (fun _ h => h) rfl (by kernel_rfl) (by kernel_rfl) (by kernel_rfl) (fun _ _ _ _ h => h) (by rfl) (by rfl) ?_; apply Exists.intro; apply And.intro; (intro w; go_simp; try with_reducible rfl); go_frame; try simp (disch := omega) only [IntWalk.i64_in]) | (refine regN 5 hS (fun _ h => h) rfl (by kernel_rfl) (by kernel_rfl) (by kernel_rfl) (fun _ _ _ h => h) (by rfl) (by rfl) ?_; go_frame))
                  (first | (refine regP 6 hS (fun _ h => h) rfl (by kernel_rfl) (by kernel_rfl) (by kernel_rfl) (fun _ _ _ _ h => h) (by rfl) (by rfl) ?_; apply Exists.intro; apply And.intro; (intro w; go_simp; try with_reducible rfl); go_frame) | (refine regN 6 hS (fun _ h => h) rfl (by kernel_rfl) (by kernel_rfl) (by kernel_rfl) (fun _ _ _ h => h) (by rfl) (by rfl) ?_; go_frame))
                  (first | (refine regR 7 hS (fun _ h => h) rfl (by kernel_rfl) (by kernel_rfl) (by kernel_rfl) (by kernel_rfl) (by kernel_rfl) (fun _ _ _ _ h => h) (by rfl) (by rfl) ?_; (fail); go_frame) | (refine regN 7 hS (fun _ h => h) rfl (by kernel_rfl) (by kernel_rfl) (by kernel_rfl) (fun _ _ _ h => h) (by rfl) (by rfl) ?_; go_frame))
                  (first | (refine regP 8 hS (fun _ h => h) rfl (by kernel_rfl) (by kernel_rfl) (by kernel_rfl) (fun _ _ _ _ h => h) (by rfl) (by rfl) ?_; apply Exists.intro; apply And.intro; (intro w; go_simp; try with_reducible rfl); go_frame) | (refine regN 8 hS (fun _ h => h) rfl (by kernel_rfl) (by kernel_rfl) (by kernel_rfl) (fun _ _ _ h => h) (by rfl) (by rfl) ?_; go_frame))
                  (first | (refine regP 9 hS (fun _ h => h) rfl (by kernel_rfl) (by kernel_rfl) (by kernel_rfl) (fun _ _ _ _ h => h) (by rfl) (by rfl) ?_; apply Exists.intro; apply And.intro; (intro w; go_simp; try with_reducible rfl); go_frame) | (refine regN 9 hS (fun _ h => h) rfl (by kernel_rfl) (by kernel_rfl) (by kernel_rfl) (fun _ _ _ h => h) (by rfl) (by rfl) ?_; go_frame))
                  (first | (refine regP 10 hS (fun _ h => h) rfl (by kernel_rfl) (by kernel_rfl) (by kernel_rfl) (fun _ _ _ _ h => h) (by rfl) (by rfl) ?_; apply Exists.intro; apply And.intro; (intro w; go_simp; try with_reducible rfl); go_frame) | (refine regN 10 hS (fun _ h => h) rfl (by kernel_rfl) (by kernel_rfl) (by kernel_rfl) (fun _ _ _ h => h) (by rfl) (by rfl) ?_; go_frame))
                  (first | (refine regR 11 hS (fun _ h => h) rfl (by kernel_rfl) (by kernel_rfl) (by kernel_rfl) (by kernel_rfl) (by kernel_rfl) (fun _ _ _ _ h => h) (by rfl) (by rfl) ?_; (fail); go_frame) | (refine regN 11 hS (fun _ h => h) rfl (by kernel_rfl) (by kernel_rfl) (by kernel_rfl) (fun _ _ _ h => h) (by rfl) (by rfl) ?_; go_frame))
                  (first | (refine regA 12 rfl (by kernel_rfl) (by rfl) (by rfl) true (by kernel_rfl) (fun K hK => ?_); (fail); refine hK _ _ _ hS (by first | (intro h; cases h; done) | exact fun _ _ h => h | exact fun _ _ h => h.drop | exact fun _ _ h => h.drop.drop | exact fun _ _ h => h.drop.pull1 | exact fun _ _ h => h.take2 | exact fun _ _ h => h.one Has.z | exact fun _ _ h => h.one (Has.s Has.z) | exact fun _ _ h => h.one (Has.s (Has.s Has.z))) ?_; clear hK K; go_frame) | (refine regN 12 hS (fun _ h => h) rfl (by kernel_rfl) (by kernel_rfl) (by kernel_rfl) (fun _ _ _ h => h) (by rfl) (by rfl) ?_; go_frame))
                  (first | (refine regP 13 hS (fun _ h => h) rfl (by kernel_rfl) (by kernel_rfl) (by kernel_rfl) (fun _ _ _ _ h => h) (by rfl) (by rfl) ?_; apply Exists.intro; apply And.intro; (intro w; go_simp; try with_reducible rfl); go_frame) | (refine regN 13 hS (fun _ h => h) rfl (by kernel_rfl) (by kernel_rfl) (by kernel_rfl) (fun _ _ _ h => h) (by rfl) (by rfl) ?_; go_frame))
                  (refine regP 14 hS (fun _ h => h) rfl (by kernel_rfl) (by kernel_rfl) (by kernel_rfl) (fun _ _ _ _ h => h) (by rfl) (by rfl) ?_; apply Exists.intro; apply And.intro; (intro w; go_simp; try with_reducible rfl); go_frame)
                  refine regDone (by kernel_rfl) ?_
                  go_wp2
                  exact ⟨⟨0 + 1, by go_num, HLT.out, hS⟩, by simp [intOf]; have := HLT.out; omega⟩
                · have p1 : (0 : Int) < (i : Int) := by omega
                  have p1n : 0 < i := by omega
                  have p1b : decide (0 < i) = true := decide_eq_true p1n
                  have p1c : decide ((0 : Int) < (i : Int)) = true := decide_eq_true p1
                  have p2 : (i : Int) - 1 = (i0 : Int) := by omega
                  have p3 : (i0 : Int) < (T.length : Int) := by omega
                  have hi0T : i0 < T.length := by omega
                  obtain ⟨x0, hx0⟩ : ∃ x, T[i0]? = some x := ⟨_, List.getElem?_eq_getElem hi0T⟩
                  obtain ⟨u0, hu0⟩ : ∃ u, vs1[i0]? = some u := ⟨_, List.getElem?_eq_getElem (by rw [HL1.out]; exact hi0T)⟩
                  obtain ⟨M0, hm0⟩ := hS.stRow (k := 1) rfl hu0 hx0
                  obtain ⟨d0, f0, rfl, _⟩ := hm0.irShape (k := 0) rfl
                  have HU0 := Lib.hid hu0
                  have HLS := Lib.hid (fun w (h : Sat W w [Tb 0 1 one1 (.slice (some ⟨b1, o1, none⟩) T.length c1) vs1, St (List.zipWith Ir vs1 T), IsG p G, IsR q G]) => show Calls Try.prog 25 #[.slice d0 x0.length f0, .slice (some ⟨b2, o2, none⟩) j f1] w fun e w' => e = .returned (.bool true) ∧ Sat W w' [Tb 0 1 one1 (.slice (some ⟨b1, o1, none⟩) T.length c1) vs1, St (List.zipWith Ir vs1 T), IsG p G, IsR q G] by
                    have := less_any h x0 x d0 (some ⟨b2, o2, none⟩) f0 f1 (fun w h => by obtain ⟨M1, hm1⟩ := h.stRow (k := 1) rfl hu0 hx0; exact hm1.irRd (k := 0) rfl) HXR2.out (by have := (HOK.out.row x0 (List.mem_of_getElem? hx0)).2.1; have := HN.out; omega) HXL.out
                    rw [HNL.out, HOK.out.next hx0 (by rw [← hi0]; exact HX.out)] at this
                    exact this)
                  clear hx0 hu0 hm0 hi0 hi0T
                  go_wp2
                  refine regStart [12] hS (by kernel_rfl) rfl ?_
                  intro w1 hS1
                  clear hS; have hS := hS1; clear hS1
                  (refine regP 0 hS (fun _ h => h) rfl (by kernel_rfl) (by kernel_rfl) (by kernel_rfl) (fun _ _ _ _ h => h) (by rfl) (by rfl) ?_; apply Exists.intro; apply And.intro; (intro w; go_simp; try with_reducible rfl); go_frame)
                  (refine regP 1 hS (fun _ h => h) rfl (by kernel_rfl) (by kernel_rfl) (by kernel_rfl) (fun _ _ _ _ h => h) (by rfl) (by rfl) ?_; apply Exists.intro; apply And.intro; (intro w; go_simp; try with_reducible rfl); go_frame)
                  (refine regP 2 hS (fun _ h => h) rfl (by kernel_rfl) (by kernel_rfl) (by kernel_rfl) (fun _ _ _ _ h => h) (by rfl) (by rfl) ?_; apply Exists.intro; apply And.intro; (intro w; go_simp; try with_reducible rfl); go_frame)
                  (first | (refine regP 3 hS (fun _ h => h) rfl (by kernel_rfl) (by kernel_rfl) (by kernel_rfl) (fun _ _ _ _ h => h) (by rfl) (by rfl) ?_; apply Exists.intro; apply And.intro; (intro w; go_simp; try with_reducible rfl); go_frame) | (refine regN 3 hS (fun _ h => h) rfl (by kernel_rfl) (by kernel_rfl) (by kernel_rfl) (fun _ _ _ h => h) (by rfl) (by rfl) ?_; go_frame))
                  (first | (refine regP 4 hS (fun _ h => h) rfl (by kernel_rfl) (by kernel_rfl) (by kernel_rfl) (fun _ _ _ _ h => h) (by rfl) (by rfl) ?_; apply Exists.intro; apply And.intro; (intro w; go_simp; try with_reducible rfl); go_frame) | (refine regN 4 hS (fun _ h => h) rfl (by kernel_rfl) (by kernel_rfl) (by kernel_rfl) (fun _ _ _ h => h) (by rfl) (by rfl) ?_; go_frame))
                  (first | (refine regP 5 hS (fun _ h => h) rfl (by kernel_rfl) (by kernel_rfl) (by kernel_rfl) (fun _ _ _ _ h => h) (by rfl) (by rfl) ?_; apply Exists.intro; apply And.intro; (intro w; go_simp; try with_reducible rfl); go_frame; try simp (disch := omega) only [IntWalk.i64_in]) | (refine regN 5 hS (fun _ h => h) rfl (by kernel_rfl) (by kernel_rfl) (by kernel_rfl) (fun _ _ _ h => h) (by rfl) (by rfl) ?_; go_frame))
                  (first | (refine regP 6 hS (fun _ h => h) rfl (by kernel_rfl) (by kernel_rfl) (by kernel_rfl) (fun _ _ _ _ h => h) (by rfl) (by rfl) ?_; apply Exists.intro; apply And.intro; (intro w; go_simp; try with_reducible rfl); go_frame) | (refine regN 6 hS (fun _ h => h) rfl (by kernel_rfl) (by kernel_rfl) (by kernel_rfl) (fun _ _ _ h => h) (by rfl) (by rfl) ?_; go_frame))
                  (first | (refine regR 7 hS (fun _ h => h) rfl (by kernel_rfl) (by kernel_rfl) (by kernel_rfl) (by kernel_rfl) (by kernel_rfl) (fun _ _ _ _ h => h) (by rfl) (by rfl) ?_; (refine ⟨_, fun u hu => (by first | exact rLdRd1 (HT1.out u hu) _ _ (by rfl) _ (by rfl) (agOf (by rfl)) i0 (by omega) HU0.out (by omega) | exact rLdRd1 (HT1.out u hu) _ _ (by rfl) _ (by rfl) (agOf (by rfl)) i (by omega) HU1.out (by omega)), ?_⟩); go_frame) | (refine regN 7 hS (fun _ h => h) rfl (by kernel_rfl) (by kernel_rfl) (by kernel_rfl) (fun _ _ _ h => h) (by rfl) (by rfl) ?_; go_frame))
                  (first | (refine regP 8 hS (fun _ h => h) rfl (by kernel_rfl) (by kernel_rfl) (by kernel_rfl) (fun _ _ _ _ h => h) (by rfl) (by rfl) ?_; apply Exists.intro; apply And.intro; (intro w; go_simp; try with_reducible rfl); go_frame) | (refine regN 8 hS (fun _ h => h) rfl (by kernel_rfl) (by kernel_rfl) (by kernel_rfl) (fun _ _ _ h => h) (by rfl) (by rfl) ?_; go_frame))
                  (first | (refine regP 9 hS (fun _ h => h) rfl (by kernel_rfl) (by kernel_rfl) (by kernel_rfl) (fun _ _ _ _ h => h) (by rfl) (by rfl) ?_; apply Exists.intro; apply And.intro; (intro w; go_simp; try with_reducible rfl); go_frame) | (refine regN 9 hS (fun _ h => h) rfl (by kernel_rfl) (by kernel_rfl) (by kernel_rfl) (fun _ _ _ h => h) (by rfl) (by rfl) ?_; go_frame))
                  (first | (refine regP 10 hS (fun _ h => h) rfl (by kernel_rfl) (by kernel_rfl) (by kernel_rfl) (fun _ _ _ _ h => h) (by rfl) (by rfl) ?_; apply Exists.intro; apply And.intro; (intro w; go_simp; try with_reducible rfl); go_frame) | (refine regN 10 hS (fun _ h => h) rfl (by kernel_rfl) (by kernel_rfl) (by kernel_rfl) (fun _ _ _ h => h) (by rfl) (by rfl) ?_; go_frame))
                  (first | (refine regR 11 hS (fun _ h => h) rfl (by kernel_rfl) (by kernel_rfl) (by kernel_rfl) (by kernel_rfl) (by kernel_rfl) (fun _ _ _ _ h => h) (by rfl) (by rfl) ?_; (refine ⟨_, fun u hu => (by first | exact rLdRd1 (HT1.out u hu) _ _ (by rfl) _ (by rfl) (agOf (by rfl)) i0 (by omega) HU0.out (by omega) | exact rLdRd1 (HT1.out u hu) _ _ (by rfl) _ (by rfl) (agOf (by rfl)) i (by omega) HU1.out (by omega)), ?_⟩); go_frame) | (refine regN 11 hS (fun _ h => h) rfl (by kernel_rfl) (by kernel_rfl) (by kernel_rfl) (fun _ _ _ h => h) (by rfl) (by rfl) ?_; go_frame))
                  (first | (refine regA 12 rfl (by kernel_rfl) (by rfl) (by rfl) true (by kernel_rfl) (fun K hK => ?_); ((refine Go.Sep.cl 25 _ _ (by rfl) (by rfl) (by kernel_rfl) (HLS.out _ hS) ?_; rintro e w1 ⟨rfl, hS1⟩; clear hS; have hS := hS1; clear hS1; refine ⟨_, rfl, ?_⟩)); refine hK _ _ _ hS (by first | (intro h; cases h; done) | exact fun _ _ h => h | exact fun _ _ h => h.drop | exact fun _ _ h => h.drop.drop | exact fun _ _ h => h.drop.pull1 | exact fun _ _ h => h.take2 | exact fun _ _ h => h.one Has.z | exact fun _ _ h => h.one (Has.s Has.z) | exact fun _ _ h => h.one (Has.s (Has.s Has.z))) ?_; clear hK K; go_frame) | (refine regN 12 hS (fun _ h => h) rfl (by kernel_rfl) (by kernel_rfl) (by kernel_rfl) (fun _ _ _ h => h) (by rfl) (by rfl) ?_; go_frame))
                  (first | (refine regP 13 hS (fun _ h => h) rfl (by kernel_rfl) (by kernel_rfl) (by kernel_rfl) (fun _ _ _ _ h => h) (by rfl) (by rfl) ?_; apply Exists.intro; apply And.intro; (intro w; go_simp; try with_reducible rfl); go_frame) | (refine regN 13 hS (fun _ h => h) rfl (by kernel_rfl) (by kernel_rfl) (by kernel_rfl) (fun _ _ _ h => h) (by rfl) (by rfl) ?_; go_frame))
                  (refine regP 14 hS (fun _ h => h) rfl (by kernel_rfl) (by kernel_rfl) (by kernel_rfl) (fun _ _ _ _ h => h) (by rfl) (by rfl) ?_; apply Exists.intro; apply And.intro; (intro w; go_simp; try with_reducible rfl); go_frame)
                  refine regDone (by kernel_rfl) ?_
                  go_wp2
                  exact ⟨⟨i + 1, by go_num, HLT.out, hS⟩, by simp [intOf]; have := HLT.out; omega⟩
          · obtain rfl : i = T.length := by omega
            have k7 : ¬ (T.length : Int) < (T.length : Int) := by omega
            clear hi hlt
            go_wp2_with (go_at_call 15; refine (awake_any hS).mono ?_; rintro e w1 ⟨rfl, hS1⟩; clear hS; have hS := hS1; clear hS1)
            go_ret
            exact ⟨rfl, sat_nilG hS⟩

set_option maxRecDepth 100000 in
theorem WaysGo.contract (H : Type) (enc : TypeId × Value → H) (W : World) (base : Nat) (args : Array Value) (ds gs : List (DataW H)) (before : List MemPlace)
    (hval : ∀ (j : Nat) t v, Try.f6.params[j]? = some t → args[j]? = some v → Value.okWide Try.prog W .any base t v)
    (hW : DataW.Whole enc Try.prog Try.f6.params.toList Rows.queryWaysGoSpec.vars false W args.toList ds gs before)
    (hreach : (DataW.weightsEach Try.prog (Try.f6.params.toList ++ Rows.queryWaysGoSpec.plain.varTypes Try.prog) (ds ++ gs)).all (· ≤ reachBytes) = true) :
    Calls Try.prog 6 args W fun e W' => ∃ v, e = .returned v ∧ Rows.queryWaysGoSpec.post enc Try.prog Try.f6 false true false false W args v W' := by
  have hW' := hW
  obtain ⟨p, q, hA, hV, rfl, hfz, hnd⟩ := hW
  rw [Try.params6] at hA hval hreach
  obtain ⟨v0, vs0, d0, ds0, p0, q0, hargs, rfl, rfl, h0, r0⟩ := trodAll_cons hA
  obtain ⟨v1, vs1, d1, ds1, p1, q1, rfl, rfl, rfl, h1, r1⟩ := trodAll_cons r0
  obtain ⟨v2, vs2, d2, ds2, p2, q2, rfl, rfl, rfl, h2, r2⟩ := trodAll_cons r1
  obtain ⟨rfl, rfl, rfl⟩ := trodAll_nil r2
  obtain rfl : args = #[v0, v1, v2] := by cases args; simp_all
  obtain ⟨rfl, rfl⟩ := trodVars_none hV
  obtain ⟨ao0, l0, c0, rfl⟩ := okWide_slice Try.underlying35 (hval 0 35 v0 rfl rfl)
  obtain ⟨a1, rfl, rfl, rfl, w1⟩ := open_int Try.underlying3 (hval 1 3 v1 rfl rfl) h1
  obtain ⟨a2, rfl, rfl, rfl, w2⟩ := open_int Try.underlying3 (hval 2 3 v2 rfl rfl) h2
  obtain ⟨l, rfl, hr, _⟩ := open_gops h0
  refine (WaysGo.walk l ao0 c0 a1 a2 W hr).mono ?_
  refine fun e W' ⟨he, hS⟩ => ?_
  subst he
  exact ⟨_, rfl, law_post (tb := 4) (by kernel_rfl) (by kernel_rfl) rfl Try.underlying4 rfl hW' rfl hS⟩

theorem WaysGo.own : ownKnob Try.prog.godebug = none := by kernel_rfl
set_option maxRecDepth 100000 in
theorem WaysGo.lifted (os : Os) (started : os.Started) (H : Type) (enc : TypeId × Value → H) :
    ReturnsInHanded {} Try.checked os 6 .any (Rows.queryWaysGoSpec.pre6 enc Try.prog Try.f6 Rows.queryWaysGoRow.domain false) (Rows.queryWaysGoSpec.post enc Try.prog Try.f6 false true false false) := by
  refine returnsInHanded_of_change_shaped (C := Try.checked) WaysGo.own started (by kernel_rfl) Try.func6
    (ChangeSpec.witness6 (enc := enc) (C := Try.checked) false ⟨#[], #[.slice none 0 0, .int .i64 0, .int .i64 0], []⟩ 8 (by kernel_rfl) (by kernel_rfl) (by kernel_rfl) (by kernel_rfl)) ?_
  intro W base args ds gs before hval hW _ hreach _ _
  exact WaysGo.contract H enc W base args ds gs before hval hW hreach

theorem WaysGo.holds : Rows.QueryWaysGoSaid :=
  OpenClaim.holds_of_wide 6 Try.f6 rfl rfl rfl rfl rfl rfl rfl ⟨rfl, rfl, rfl, rfl, rfl⟩ rfl rfl rfl rfl rfl (by kernel_rfl) Try.func6 (by kernel_rfl)
    (of_decide_eq_true (by kernel_rfl)) (by unfold Func.isWrapper; first | (rw [if_pos (by decide +kernel)]; kernel_rfl) | (rw [if_neg (by decide +kernel)]; exact ⟨rfl, rfl⟩))
    (fun os started H enc _ => WaysGo.lifted os started H enc)
end Go.Proofs.Ytpnbdnfgdiakhaa
