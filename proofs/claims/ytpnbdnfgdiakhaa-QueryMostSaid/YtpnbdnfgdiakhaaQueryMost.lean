/-
  For all numbers of steps, QueryMost answers true: no condition.
-/
import Derived.Test.YtpnbdnfgdiakhaaQuMostP
import Derived.Test.YtpnbdnfgdiakhaaMQuf
import Derived.Test.YtpnbdnfgdiakhaaMReg
namespace Go.Proofs.Ytpnbdnfgdiakhaa
open Go.RowKit Go.Sep Go.ChangeShapes Go.WideShapes Go.ChangeAt
set_option linter.unusedSimpArgs false
set_option linter.unusedVariables false
attribute [local irreducible] Go.Oper.wp Go.wpList Go.Calls Go.Code.wp Go.Sep.Reg
attribute [local irreducible] IsG
theorem sat_nilM {W w : World} : ∀ {L : List Asrt}, Sat W w L → Sat W w []
  | [], h => h
  | _ :: _, h => sat_nilM h.drop
theorem ldN_ok : ∀ i, i ≤ 4096 → (⟨ldN i, []⟩ : Gr).Ok
  | 0, _ => Gr.new_ok
  | i + 1, h => ld_add (show i < 4096 by omega) ▸ Gr.addG_ok (ldN_ok i (by omega)) 2 (1 + (i : Int))
theorem ld_addS {W w : World} {L : List Asrt} {p i : Nat} (hi : i < 4096) (h : Sat W w (IsG p ⟨ldN i, []⟩ :: L)) : Calls Try.prog 12 #[.pointer (some ⟨p, 0, none⟩), .int .i64 2, .int .i64 (1 + (i : Int))] w fun e w' => ∃ v, e = .returned v ∧ Sat W w' (IsG p ⟨ldN (i + 1), []⟩ :: L) := by
  have := add_any h (ldN_ok i (by omega)) 2 (1 + (i : Int))
  rw [ld_add hi] at this
  exact this.mono fun e w' ⟨he, hs⟩ => ⟨_, he, hs⟩
theorem rise_step {W w : World} {L : List Asrt} {p : Nat} {G : Gr} (hR : Rise G) (hG : G.Ok) (hl : G.E.length < 1000000) {a b : Nat} (ha : a < G.N.length) (hb : b < G.N.length) (hab : a < b) (hn : (a, b) ∉ G.E) {x y : Int} (hx : x = (a : Int)) (hy : y = (b : Int)) (h : Sat W w (IsG p G :: L)) :
    Calls Try.prog 13 #[.pointer (some ⟨p, 0, none⟩), .int .i64 x, .int .i64 y] w fun e w' => e = .returned (.int .i64 0) ∧ Sat W w' (IsG p (G.link a b) :: L) := by
  subst hx; subst hy
  have := edge_any h hG (a : Int) (b : Int)
  rw [(hR.edge ha hb hab hn).1, (hR.edge ha hb hab hn).2] at this
  exact this
structure LdOk (G : Gr) (n e : Nat) : Prop where
  rise : Rise G
  ok : G.Ok
  n : G.N.length = n
  e : G.E.length = e
theorem LdOk.link {G : Gr} {n e a b : Nat} (h : LdOk G n e) (ha : a < n) (hb : b < n) (hab : a < b) (hn : (a, b) ∉ G.E) (he : e < 1000000) : LdOk (G.link a b) n (e + 1) where
  rise := h.rise.link hab
  ok := Gr.link_ok h.ok (by rw [h.n]; exact ha) (by rw [h.n]; exact hb) hn (by rw [h.e]; exact he)
  n := h.n
  e := by show (G.E ++ [(a, b)]).length = _; rw [List.length_append, h.e]; rfl
theorem ld_chain {n i : Nat} (hi : 3 * i + 3 < n) (hb : i < 1000) (h : LdOk (ldG n i) n (4 * i)) : LdOk (ld1 n i) n (4 * i + 1) ∧ LdOk (ld2 n i) n (4 * i + 2) ∧ LdOk (ld3 n i) n (4 * i + 3) ∧ LdOk (ldG n (i + 1)) n (4 * (i + 1)) ∧
    (3 * i, 3 * i + 1) ∉ (ldG n i).E ∧ (3 * i, 3 * i + 2) ∉ (ld1 n i).E ∧ (3 * i + 1, 3 * i + 3) ∉ (ld2 n i).E ∧ (3 * i + 2, 3 * i + 3) ∉ (ld3 n i).E := by
  have n1 : (3 * i, 3 * i + 1) ∉ (ldG n i).E := ld_no (Nat.le_refl _)
  have n2 : (3 * i, 3 * i + 2) ∉ (ld1 n i).E := fun hm => by
    rcases Gr.mem_link.1 hm with h1 | ⟨_, h1⟩
    · exact ld_no (Nat.le_refl _) h1
    · omega
  have n3 : (3 * i + 1, 3 * i + 3) ∉ (ld2 n i).E := fun hm => by
    rcases Gr.mem_link.1 hm with h1 | ⟨_, h1⟩
    · rcases Gr.mem_link.1 h1 with h1 | ⟨_, h1⟩
      · exact ld_no (by omega) h1
      · omega
    · omega
  have n4 : (3 * i + 2, 3 * i + 3) ∉ (ld3 n i).E := fun hm => by
    rcases Gr.mem_link.1 hm with h1 | ⟨h1, _⟩
    · rcases Gr.mem_link.1 h1 with h1 | ⟨h1, _⟩
      · rcases Gr.mem_link.1 h1 with h1 | ⟨h1, _⟩
        · exact ld_no (by omega) h1
        · omega
      · omega
    · omega
  have h1 := h.link (a := 3 * i) (b := 3 * i + 1) (by omega) (by omega) (by omega) n1 (by omega)
  have h2 := LdOk.link (G := ld1 n i) h1 (a := 3 * i) (b := 3 * i + 2) (by omega) (by omega) (by omega) n2 (by omega)
  have h3 := LdOk.link (G := ld2 n i) h2 (a := 3 * i + 1) (b := 3 * i + 3) (by omega) (by omega) (by omega) n3 (by omega)
  have h4 := LdOk.link (G := ld3 n i) h3 (a := 3 * i + 2) (b := 3 * i + 3) (by omega) (by omega) (by omega) n4 (by omega)
  rw [ld4] at h4
  exact ⟨h1, h2, h3, h4, n1, n2, n3, n4⟩
set_option maxRecDepth 20000 in
set_option maxHeartbeats 8000000 in
theorem Most.walk (steps : Int) (W : World) : Calls Try.prog 3 #[.int .i64 steps] W fun e W' => e = .returned (.bool true) ∧ Sat W W' [] := by
  have hS := Sat.start W
  obtain ⟨kn, hkn⟩ : ∃ kn : Nat, 1 + steps % 12 = (kn : Int) := ⟨(1 + steps % 12).toNat, by omega⟩
  have hk1 : 1 ≤ kn := by omega
  have hk12 : kn ≤ 12 := by omega
  have HK1 := Lib.hid hk1
  have HK12 := Lib.hid hk12
  have hki : (kn : Int) ≤ 12 := by omega
  have HPL := Lib.hid (fun w => place_any steps 12 (by decide) (by decide) w)
  clear hk1 hk12
  go_enter Try.func3, Try.ntmps3
  go_wp2_with (first
    | (go_at_call 10; refine (HPL.out _).mono ?_; rintro e w1 ⟨rfl, rfl⟩)
    | (go_at_call 11; refine (new_any hS).mono ?_; rintro e w1 ⟨p, rfl, hS1⟩; clear hS; have hS := hS1; clear hS1))
  have H0 := Lib.hid (show Sat W _ [IsG p ⟨ldN 0, []⟩] from hS)
  go_loopw [5] (fun v wz => ∃ i : Nat, v = .int .i64 i ∧ i ≤ 3 * kn + 1 ∧ Sat W wz [IsG p ⟨ldN i, []⟩]) (fun v _ => 3 * kn + 1 - (intOf v).toNat)
  case atStart => exact ⟨0, rfl, by omega, H0.out⟩
  case round =>
    clear hS H0
    obtain ⟨i, rfl, hi, hS⟩ := hrel
    by_cases hlt : i < 3 * kn + 1
    · have k1 : (i : Int) ≤ 3 * (kn : Int) := by omega
      have k2 : decide ((i : Int) ≤ 3 * (kn : Int)) = true := decide_eq_true k1
      have k4 : (i : Int) ≤ 36 := by omega
      have HLT := Lib.hid hlt
      have HAD := Lib.hid (fun w (h : Sat W w [IsG p ⟨ldN i, []⟩]) => ld_addS (by have := HK12.out; omega) h)
      clear hlt hi
      go_wp2_with (go_at_call 12; refine (HAD.out _ hS).mono ?_; rintro e w1 ⟨v, rfl, hS1⟩; clear hS; have hS := hS1; clear hS1)
      exact ⟨⟨i + 1, by go_num, HLT.out, hS⟩, by simp [intOf]; have := HLT.out; omega⟩
    · obtain rfl : i = 3 * kn + 1 := by omega
      have k1 : ¬ ((3 * kn + 1 : Nat) : Int) ≤ 3 * (kn : Int) := by omega
      have k2 : decide (((3 * kn + 1 : Nat) : Int) ≤ 3 * (kn : Int)) = false := decide_eq_false k1
      have HLD0 := Lib.hid (show LdOk (ldG (3 * kn + 1) 0) (3 * kn + 1) (4 * 0) from ⟨ld_rise _ _, ldN_ok _ (by have := HK12.out; omega), ldN_len _, ldE_len 0⟩)
      clear hi hlt
      go_wp2
      obtain ⟨N, hN⟩ : ∃ N, 3 * kn + 1 = N := ⟨_, rfl⟩
      have HN := Lib.hid hN
      rw [hN] at HLD0
      have H1 := Lib.hid (show Sat W _ [IsG p (ldG N 0)] by rw [← hN]; exact hS)
      clear k1 k2 hN
      go_loopw [6] (fun v wz => ∃ i : Nat, v = .int .i64 i ∧ i ≤ kn ∧ LdOk (ldG N i) N (4 * i) ∧ Sat W wz [IsG p (ldG N i)]) (fun v _ => kn - (intOf v).toNat)
      case atStart => exact ⟨0, rfl, by omega, HLD0.out, H1.out⟩
      case round =>
        clear hS H1 HLD0
        obtain ⟨i, rfl, hi, hld, hS⟩ := hrel
        have HLD := Lib.hid hld
        clear hld
        by_cases hlt : i < kn
        · have k1 : (i : Int) < (kn : Int) := by omega
          have HLT := Lib.hid hlt
          have hi12 : (i : Int) ≤ 12 := by omega
          obtain ⟨g1, g2, g3, g4, n1, n2, n3, n4⟩ := ld_chain (n := N) (i := i) (by have := HN.out; omega) (by omega) HLD.out
          have E1 := Lib.hid (fun w (h : Sat W w [IsG p (ldG N i)]) => rise_step HLD.out.rise HLD.out.ok (by rw [HLD.out.e]; omega) (a := 3 * i) (b := 3 * i + 1) (by rw [HLD.out.n]; have := HN.out; omega) (by rw [HLD.out.n]; have := HN.out; omega) (by omega) n1 (x := 3 * (i : Int)) (y := 3 * (i : Int) + 1) (by omega) (by omega) h)
          have E2 := Lib.hid (fun w (h : Sat W w [IsG p (ld1 N i)]) => rise_step g1.rise g1.ok (by rw [g1.e]; omega) (a := 3 * i) (b := 3 * i + 2) (by rw [g1.n]; have := HN.out; omega) (by rw [g1.n]; have := HN.out; omega) (by omega) n2 (x := 3 * (i : Int)) (y := 3 * (i : Int) + 2) (by omega) (by omega) h)
          have E3 := Lib.hid (fun w (h : Sat W w [IsG p (ld2 N i)]) => rise_step g2.rise g2.ok (by rw [g2.e]; omega) (a := 3 * i + 1) (b := 3 * i + 3) (by rw [g2.n]; have := HN.out; omega) (by rw [g2.n]; have := HN.out; omega) (by omega) n3 (x := 3 * (i : Int) + 1) (y := 3 * (i : Int) + 3) (by omega) (by omega) h)
          have E4 := Lib.hid (fun w (h : Sat W w [IsG p (ld3 N i)]) => rise_step g3.rise g3.ok (by rw [g3.e]; omega) (a := 3 * i + 2) (b := 3 * i + 3) (by rw [g3.n]; have := HN.out; omega) (by rw [g3.n]; have := HN.out; omega) (by omega) n4 (x := 3 * (i : Int) + 2) (y := 3 * (i : Int) + 3) (by omega) (by omega) h)
          have HG4 := Lib.hid g4
          clear hlt hi g1 g2 g3 g4 n1 n2 n3 n4
          go_wp2_with (first
            | (go_at_call 13; (with_reducible refine (E1.out _ hS).mono ?_); rintro e w1 ⟨rfl, hS1⟩; clear hS; have hS := (show Sat W w1 [IsG p (ld1 N i)] from hS1); clear hS1)
            | (go_at_call 13; (with_reducible refine (E2.out _ hS).mono ?_); rintro e w1 ⟨rfl, hS1⟩; clear hS; have hS := (show Sat W w1 [IsG p (ld2 N i)] from hS1); clear hS1)
            | (go_at_call 13; (with_reducible refine (E3.out _ hS).mono ?_); rintro e w1 ⟨rfl, hS1⟩; clear hS; have hS := (show Sat W w1 [IsG p (ld3 N i)] from hS1); clear hS1)
            | (go_at_call 13; (with_reducible refine (E4.out _ hS).mono ?_); rintro e w1 ⟨rfl, hS1⟩; clear hS; have hS := (show Sat W w1 [IsG p (ldG N (i + 1))] by rw [← ld4]; exact hS1); clear hS1))
          exact ⟨⟨i + 1, by go_num, HLT.out, HG4.out, hS⟩, by simp [intOf]; have := HLT.out; omega⟩
        · obtain rfl : i = kn := by omega
          have k1 : ¬ (i : Int) < (i : Int) := by omega
          have hN := HN.out
          subst hN
          have HW := Lib.hid (fun w (h : Sat W w [IsG p (ldG (3 * i + 1) i)]) => lways_any h HLD.out.ok HLD.out.rise.acyc 0 (3 * (i : Int)) (most := 5000) (K := 1000) ⟨by decide, by decide, .inr rfl⟩ (by decide))
          have HT := Lib.hid (show told (ldG (3 * i + 1) i) 0 (3 * (i : Int)) 1000 = ((ldG (3 * i + 1) i).wy (3 * i) 0).take 1000 by
            unfold told
            rw [if_pos ⟨Gr.is_mk (k := 0) (by rw [HLD.out.n]; omega), by
              have := Gr.is_mk (G := ldG (3 * i + 1) i) (k := 3 * i) (by rw [HLD.out.n]; omega)
              rwa [show ((3 * i : Nat) : Int) = 3 * (i : Int) by omega] at this⟩]
            rw [show (3 * (i : Int)).toNat = 3 * i by omega]; rfl)
          obtain ⟨w1, w2⟩ := ld_wy HLD.out.ok i (Nat.le_refl _)
          rw [Nat.sub_self, Nat.mul_zero] at w1 w2
          obtain ⟨T, hT⟩ : ∃ T, told (ldG (3 * i + 1) i) 0 (3 * (i : Int)) 1000 = T := ⟨_, rfl⟩
          obtain ⟨n, hn⟩ : ∃ n, T.length = n := ⟨_, rfl⟩
          have HTN := Lib.hid hn
          have HN2 := Lib.hid (show n = min 1000 (2 ^ i) by rw [← hn, ← hT, HT.out, List.length_take, w1])
          have HX := Lib.hid (show ∀ x ∈ T, x.length = 2 * i + 1 ∧ x[0]? = some 0 ∧ x[2 * i]? = some (3 * i) from fun x hx => by
            rw [← hT, HT.out] at hx
            exact w2 x (List.mem_of_mem_take hx))
          rw [hT] at HW
          clear hi hlt hT w1 w2 HT hn
          obtain ⟨G, hG⟩ : ∃ G, ldG (3 * i + 1) i = G := ⟨_, rfl⟩
          rw [hG] at hS HW
          clear HN HLD hG
          have htest : ((n : Int) != min 1000 (wrap64 (2 ^ i))) = false := by
            have hcs : i = 1 ∨ i = 2 ∨ i = 3 ∨ i = 4 ∨ i = 5 ∨ i = 6 ∨ i = 7 ∨ i = 8 ∨ i = 9 ∨ i = 10 ∨ i = 11 ∨ i = 12 := by have := HK1.out; have := HK12.out; omega
            rw [HN2.out]
            clear HN2 HTN HX HW hS HK1 HK12 hki hkn k1
            rcases hcs with rfl | rfl | rfl | rfl | rfl | rfl | rfl | rfl | rfl | rfl | rfl | rfl <;> decide +kernel
          go_wp2_with (go_at_call 14; refine (HW.out _ hS).mono ?_; rintro e w1 ⟨v1, rfl, hS1⟩; clear hS; have hS := hS1; clear hS1; obtain ⟨a1, c1, rfl, _⟩ := hS.rwsShape (k := 0) rfl; obtain ⟨vs, hl1, hS1⟩ := hS.rwsOpen; clear hS; have hS := hS1; clear hS1; rw [HTN.out] at hS ⊢)
          · have HL := Lib.hid (show vs.length = n by rw [hl1, HTN.out])
            have HRT := Lib.hid (fun w (h : Sat W w [Tb 0 1 one1 (.slice a1 n c1) vs, St (List.zipWith Ir vs T), IsG p G]) => show Rd w (.slice a1 n c1) n 1 vs by
              have := h.tbRd (k := 0) rfl
              rwa [one1_fm, HL.out] at this)
            clear HW hl1 k1 htest
            have hnb : n ≤ 1000 := by rw [HN2.out]; exact Nat.min_le_left _ _
            have H2 := Lib.hid hS
            go_loopw [8] (fun v wz => ∃ j : Nat, v = .int .i64 j ∧ j ≤ n ∧ Sat W wz [Tb 0 1 one1 (.slice a1 n c1) vs, St (List.zipWith Ir vs T), IsG p G]) (fun v _ => n - (intOf v).toNat)
            case atStart => exact ⟨0, rfl, by omega, H2.out⟩
            case round =>
              clear hS H2
              obtain ⟨j, rfl, hj, hS⟩ := hrel
              by_cases hlt : j < n
              · have k1 : (j : Int) < (n : Int) := by omega
                have HLT := Lib.hid hlt
                obtain ⟨_, _, e1, _, _, _, h5⟩ := HRT.out _ hS
                simp only [Value.slice.injEq, true_and] at e1
                obtain ⟨rfl, rfl⟩ := e1
                obtain ⟨b1, o1, rfl, _⟩ := h5 (by omega)
                obtain ⟨x, hx⟩ : ∃ x, T[j]? = some x := ⟨_, List.getElem?_eq_getElem (by rw [HTN.out]; exact hlt)⟩
                obtain ⟨u1, hu1⟩ : ∃ u, vs[j]? = some u := ⟨_, List.getElem?_eq_getElem (by rw [HL.out]; exact hlt)⟩
                obtain ⟨M1, hm1⟩ := hS.stRow (k := 1) rfl hu1 hx
                obtain ⟨x1, x2, x3⟩ := HX.out x (List.mem_of_getElem? hx)
                obtain ⟨d1, f1, rfl, _⟩ := hm1.irShape (k := 0) rfl
                obtain ⟨bd, od, rfl⟩ := Sat.irAddr (k := 0) hm1 rfl rfl (by omega)
                have HRU := Lib.hid (show ∀ w, Sat W w [Tb 0 1 one1 (.slice (some ⟨b1, o1, none⟩) n c1) vs, St (List.zipWith Ir vs T), IsG p G] → Rd w (.slice (some ⟨bd, od, none⟩) (2 * i + 1) f1) (2 * i + 1) 1 (iv x) from fun w h => by
                  obtain ⟨M1, hm1⟩ := h.stRow (k := 1) rfl hu1 hx
                  have := hm1.irRd (k := 0) rfl
                  rwa [x1] at this)
                rw [x1] at hu1
                have HU1 := Lib.hid hu1
                have HX0 := Lib.hid (iv_at x2)
                have HX2 := Lib.hid (iv_at x3)
                clear hx hu1 hm1 x1 x2 x3 hlt hj h5
                go_wp2_with (first
                  | (refine toList (by rfl) ?_; refine wp_of_reads (rLdRd1 (HRT.out _ hS) _ _ (by rfl) _ (by rfl) (agOf (by rfl)) j (by omega) HU1.out (by omega)) ?_)
                  | (refine toList (by rfl) ?_; refine wp_of_reads (rLdRd1 (HRU.out _ hS) _ _ (by rfl) _ (by rfl) (agOf (by rfl)) 0 (by omega) HX0.out (by omega)) ?_)
                  | (refine toList (by rfl) ?_; refine wp_of_reads (rLdRd1 (HRU.out _ hS) _ _ (by rfl) _ (by rfl) (agOf (by rfl)) (2 * i) (by omega) HX2.out (by omega)) ?_))
                exact ⟨⟨j + 1, by go_num, HLT.out, hS⟩, by simp [intOf]; have := HLT.out; omega⟩
              · obtain rfl : j = n := by omega
                have k1 : ¬ (j : Int) < (j : Int) := by omega
                clear hj hlt
                go_wp2_with (go_at_call 15; refine (awake_any hS).mono ?_; rintro e w1 ⟨rfl, hS1⟩; clear hS; have hS := hS1; clear hS1)
                go_ret
                exact ⟨rfl, sat_nilM hS⟩

set_option maxRecDepth 100000 in
theorem Most.contract (H : Type) (enc : TypeId × Value → H) (W : World) (base : Nat) (args : Array Value) (ds gs : List (DataW H)) (before : List MemPlace)
    (hval : ∀ (j : Nat) t v, Try.f3.params[j]? = some t → args[j]? = some v → Value.okWide Try.prog W .any base t v)
    (hW : DataW.Whole enc Try.prog Try.f3.params.toList Rows.queryMostSpec.vars false W args.toList ds gs before)
    (hreach : (DataW.weightsEach Try.prog (Try.f3.params.toList ++ Rows.queryMostSpec.plain.varTypes Try.prog) (ds ++ gs)).all (· ≤ reachBytes) = true) :
    Calls Try.prog 3 args W fun e W' => ∃ v, e = .returned v ∧ Rows.queryMostSpec.post enc Try.prog Try.f3 false true false false W args v W' := by
  have hW' := hW
  obtain ⟨p, q, hA, hV, rfl, hfz, hnd⟩ := hW
  rw [Try.params3] at hA hval hreach
  obtain ⟨v0, vs0, d0, ds0, p0, q0, hargs, rfl, rfl, h0, r0⟩ := trodAll_cons hA
  obtain ⟨rfl, rfl, rfl⟩ := trodAll_nil r0
  obtain rfl : args = #[v0] := by cases args; simp_all
  obtain ⟨rfl, rfl⟩ := trodVars_none hV
  obtain ⟨a0, rfl, rfl, rfl, w0⟩ := open_int Try.underlying3 (hval 0 3 v0 rfl rfl) h0
  refine (Most.walk a0 W).mono ?_
  refine fun e W' ⟨he, hS⟩ => ?_
  subst he
  exact ⟨_, rfl, law_post (tb := 4) (by kernel_rfl) (by kernel_rfl) rfl Try.underlying4 rfl hW' rfl hS⟩

theorem Most.own : ownKnob Try.prog.godebug = none := by kernel_rfl
set_option maxRecDepth 100000 in
theorem Most.lifted (os : Os) (started : os.Started) (H : Type) (enc : TypeId × Value → H) :
    ReturnsInHanded {} Try.checked os 3 .any (Rows.queryMostSpec.pre6 enc Try.prog Try.f3 Rows.queryMostRow.domain false) (Rows.queryMostSpec.post enc Try.prog Try.f3 false true false false) := by
  refine returnsInHanded_of_change_shaped (C := Try.checked) Most.own started (by kernel_rfl) Try.func3
    (ChangeSpec.witness6 (enc := enc) (C := Try.checked) false ⟨#[], #[.int .i64 0], []⟩ 8 (by kernel_rfl) (by kernel_rfl) (by kernel_rfl) (by kernel_rfl)) ?_
  intro W base args ds gs before hval hW _ hreach _ _
  exact Most.contract H enc W base args ds gs before hval hW hreach

theorem Most.holds : Rows.QueryMostSaid :=
  OpenClaim.holds_of_wide 3 Try.f3 rfl rfl rfl rfl rfl rfl rfl ⟨rfl, rfl, rfl, rfl, rfl⟩ rfl rfl rfl rfl rfl (by kernel_rfl) Try.func3 (by kernel_rfl)
    (of_decide_eq_true (by kernel_rfl)) (by unfold Func.isWrapper; first | (rw [if_pos (by decide +kernel)]; kernel_rfl) | (rw [if_neg (by decide +kernel)]; exact ⟨rfl, rfl⟩))
    (fun os started H enc _ => Most.lifted os started H enc)
end Go.Proofs.Ytpnbdnfgdiakhaa
