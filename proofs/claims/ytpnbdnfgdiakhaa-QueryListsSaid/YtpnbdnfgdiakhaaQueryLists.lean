/-
  For all calls, questions, nodes and numbers, QueryLists answers true: no condition.
-/
import Derived.Test.YtpnbdnfgdiakhaaMQui
import Derived.Test.YtpnbdnfgdiakhaaMQuh
import Derived.Test.YtpnbdnfgdiakhaaMReg
namespace Go.Proofs.Ytpnbdnfgdiakhaa
open Go.RowKit Go.Sep Go.ChangeShapes Go.WideShapes Go.ChangeAt
set_option linter.unusedSimpArgs false
set_option linter.unusedVariables false
attribute [local irreducible] Go.Oper.wp Go.wpList Go.Calls Go.Code.wp Go.Sep.Reg
attribute [local irreducible] IsG IsR
theorem sat_nilL {W w : World} : ∀ {L : List Asrt}, Sat W w L → Sat W w []
  | [], h => h
  | _ :: _, h => sat_nilL h.drop
theorem iv_take' (l : List Nat) (k : Nat) : iv (l.take k) = (iv l).take ((l.take k).length * 1) := by
  unfold iv
  rw [Nat.mul_one, List.length_take, List.map_take, ← List.take_take, List.take_of_length_le (l := List.map _ l) (i := l.length) (by simp)]
set_option maxRecDepth 20000 in
set_option maxHeartbeats 8000000 in
theorem Lists.walk (l : List GOpD) (ao : Option Addr) (c : Nat) (q : StepD) (fl : List Int) (af : Option Addr) (cf : Nat) (most : Int) (W : World) (hr : Rd W (.slice ao l.length c) l.length 3 (l.flatMap gov)) (hq : ∀ d, QRd W d q) (hf : Rd W (.slice af fl.length cf) fl.length 1 (ivz fl)) :
    Calls Try.prog 9 #[.slice ao l.length c, .agg (qv q).toArray, .slice af fl.length cf, .int .i64 most] W fun e W' => e = .returned (.bool true) ∧ Sat W W' [] := by
  have hS := Sat.start W
  have HTY := Lib.hid (fun w pn L (h : Sat W w (Cs pn 3 [.int .i64 ((0 : Nat) : Int)] :: L)) => tiny_any 15 q 0 0 h (by decide) (by decide) (by decide) (fun w L' h => (hq 15).old h))
  have HGR := Lib.hid (fun w L (h : Sat W w L) => graphsI_any h l ao c (I := fun _ => True) trivial (fun _ _ _ _ _ => trivial) (fun u hu => hr.old hu))
  have HF := Lib.hid (fun w L (h : Sat W w L) => hf.old h)
  have HLI := Lib.hid (fun w L p G fl fv (h : Sat W w (IsG p G :: L)) (hG : G.Ok) (hA : G.Acyc) hf => listO_any h hG hA q hq fl fv hf)
  obtain ⟨kn, hkn⟩ : ∃ kn : Nat, 1 + most % 30 = (kn : Int) := ⟨(1 + most % 30).toNat, by omega⟩
  have HKN := Lib.hid (show 0 < kn ∧ kn ≤ 30 by omega)
  have hkb : (kn : Int) ≤ 30 := by omega
  have HPL := Lib.hid (fun w => place_any most 30 (by decide) (by decide) w)
  have HAL := Lib.hid (fun w L p G fv (h : Sat W w (IsG p G :: L)) (hG : G.Ok) (hA : G.Acyc) hf => lall_any (fl := fl) (fv := fv) h hG hA hq hf HKN.out.1 (by have := HKN.out.2; omega))
  have HRL := Lib.hid (fun w L p G (h : Sat W w (IsR p G :: L)) (hG : G.Ok) => rlist_any h hG (fun _ _ _ _ _ _ => to_any hG 12) q (fun w L' h => (hq 12).old h) fl (.slice af fl.length cf) (fun w L' h => HF.out _ _ h))
  obtain ⟨_, _, _, hc1, hc2, _⟩ := hf
  have hfi : (fl.length : Int) ≤ 9223372036854775807 := by omega
  obtain ⟨QL, hQL⟩ : ∃ QL, qlist = QL := ⟨_, rfl⟩
  have HQL := Lib.hid (fun G => qlist_len G q fl)
  rw [hQL] at HLI HAL HRL HQL
  clear hr hq hc1 hQL
  obtain ⟨qo, qn, qu, qk⟩ := q
  replace HTY := Lib.hid (fun w pn L (h : Sat W w (Cs pn 3 [.int .i64 0] :: L)) => show Calls Try.prog 26 #[.agg #[.int .i64 qo, .int .i64 qn, qu], .int .i64 0, .pointer (some ⟨pn, 0, none⟩)] w _ from HTY.out w pn L h)
  replace HLI := Lib.hid (fun w L p G fl fv h hG hA hf => show Calls Try.prog 20 #[.pointer (some ⟨p, 0, none⟩), .agg #[.int .i64 qo, .int .i64 qn, qu], fv] w _ from HLI.out w L p G fl fv h hG hA hf)
  replace HAL := Lib.hid (fun w L p G fv h hG hA hf => show Calls Try.prog 29 #[.pointer (some ⟨p, 0, none⟩), .agg #[.int .i64 qo, .int .i64 qn, qu], fv, .int .i64 (kn : Int)] w _ from HAL.out w L p G fv h hG hA hf)
  replace HRL := Lib.hid (fun w L p G h hG => show Calls Try.prog 28 #[.pointer (some ⟨p, 0, none⟩), .agg #[.int .i64 qo, .int .i64 qn, qu], .slice af fl.length cf] w _ from HRL.out w L p G h hG)
  show Calls Try.prog 9 #[.slice ao l.length c, .agg #[.int .i64 qo, .int .i64 qn, qu], .slice af fl.length cf, .int .i64 most] W _
  by_cases h50 : 50 < fl.length
  · have k1 : (50 : Int) < (fl.length : Int) := by omega
    have k2 : decide ((50 : Int) < (fl.length : Int)) = true := decide_eq_true k1
    have k3 : decide (50 < fl.length) = true := decide_eq_true h50
    clear h50
    go_enter Try.func9, Try.ntmps9
    go_wp2_with (first
      | (refine toList (by rfl) ?_; refine bx hS _ _ (by rfl) _ (by first | exact evC | exact evT (by rfl)) ?_; intro px w1 hS1; clear hS; have hS := (show Sat W w1 [Cs px 49 [.int .i64 qo, .int .i64 qn, qu]] from hS1); clear hS1)
      | (refine toList (by rfl) ?_; refine al hS _ (by rfl) (zrOf (T := 3) (by rfl)) ?_; intro pn w1 hS1; clear hS; have hS := (show Sat W w1 [Cs pn 3 [.int .i64 0], Cs px 49 [.int .i64 qo, .int .i64 qn, qu]] from hS1); clear hS1)
      | (refine toList (by rfl) ?_; refine st hS _ _ _ (by rfl) _ _ (by rfl) _ (by first | exact evC | exact evT (by rfl)) (by rfl) (szOf (by rfl)) (by repeat first | exact Has.z | apply Has.s) (by exact Nat.le_of_ble_eq_true rfl) ?_; intro w1 hS1; clear hS; have hS := hS1; clear hS1; dsimp only [List.set] at hS)
      | (refine toList (by rfl) ?_; refine wp_of_reads (rLdA hS _ _ (by rfl) _ _ (by rfl) (agOf (by rfl)) (szOf (by rfl)) (Has.s Has.z) (vs := [.int .i64 qo, .int .i64 qn, qu]) (by rfl) (by rfl)) ?_)
      | (refine toList (by rfl) ?_; refine wp_of_reads (rLdA hS _ _ (by rfl) _ _ (by rfl) (agOf (by rfl)) (szOf (by rfl)) (Has.s (Has.s (Has.s Has.z))) (vs := [.int .i64 qo, .int .i64 qn, qu]) (by rfl) (by rfl)) ?_)
      | (go_at_call 26; refine (HTY.out _ _ _ hS).mono ?_; rintro e w1 ⟨v, rfl, f, m, rfl, _, _, hS1⟩; cases f <;> (clear hS; have hS := hS1; clear hS1))
      | (go_at_call 15; refine (awake_any hS).mono ?_; rintro e w1 ⟨rfl, hS1⟩; clear hS; have hS := hS1; clear hS1)
      | (go_at_call 16; refine (HGR.out _ _ hS).mono ?_; rintro e w1 ⟨p, q2, G, rfl, hG, hA, _, _, hn80, hS1⟩; have HG := Lib.hid hG; have HA := Lib.hid hA; clear hG hA; clear hS; have hS := hS1; clear hS1))
    all_goals
      go_ret
      exact ⟨rfl, sat_nilL hS⟩
  · have k1 : ¬ (50 : Int) < (fl.length : Int) := by omega
    have k2 : decide ((50 : Int) < (fl.length : Int)) = false := decide_eq_false k1
    have k3 : decide (50 < fl.length) = false := decide_eq_false h50
    have HFL := Lib.hid (show fl.length ≤ 50 by omega)
    clear h50
    go_enter Try.func9, Try.ntmps9
    go_wp2_with (first
      | (refine toList (by rfl) ?_; refine bx hS _ _ (by rfl) _ (by first | exact evC | exact evT (by rfl)) ?_; intro px w1 hS1; clear hS; have hS := (show Sat W w1 [Cs px 49 [.int .i64 qo, .int .i64 qn, qu]] from hS1); clear hS1)
      | (refine toList (by rfl) ?_; refine al hS _ (by rfl) (zrOf (T := 3) (by rfl)) ?_; intro pn w1 hS1; clear hS; have hS := (show Sat W w1 [Cs pn 3 [.int .i64 0], Cs px 49 [.int .i64 qo, .int .i64 qn, qu]] from hS1); clear hS1)
      | (refine toList (by rfl) ?_; refine st hS _ _ _ (by rfl) _ _ (by rfl) _ (by first | exact evC | exact evT (by rfl)) (by rfl) (szOf (by rfl)) (by repeat first | exact Has.z | apply Has.s) (by exact Nat.le_of_ble_eq_true rfl) ?_; intro w1 hS1; clear hS; have hS := hS1; clear hS1; dsimp only [List.set] at hS)
      | (refine toList (by rfl) ?_; refine wp_of_reads (rLdA hS _ _ (by rfl) _ _ (by rfl) (agOf (by rfl)) (szOf (by rfl)) (Has.s Has.z) (vs := [.int .i64 qo, .int .i64 qn, qu]) (by rfl) (by rfl)) ?_)
      | (refine toList (by rfl) ?_; refine wp_of_reads (rLdA hS _ _ (by rfl) _ _ (by rfl) (agOf (by rfl)) (szOf (by rfl)) (Has.s (Has.s (Has.s Has.z))) (vs := [.int .i64 qo, .int .i64 qn, qu]) (by rfl) (by rfl)) ?_)
      | (go_at_call 26; refine (HTY.out _ _ _ hS).mono ?_; rintro e w1 ⟨v, rfl, f, m, rfl, _, _, hS1⟩; cases f <;> (clear hS; have hS := hS1; clear hS1))
      | (go_at_call 15; refine (awake_any hS).mono ?_; rintro e w1 ⟨rfl, hS1⟩; clear hS; have hS := hS1; clear hS1)
      | (go_at_call 16; refine (HGR.out _ _ hS).mono ?_; rintro e w1 ⟨p, q2, G, rfl, hG, hA, _, _, hn80, hS1⟩; have HG := Lib.hid hG; have HA := Lib.hid hA; clear hG hA; clear hS; have hS := hS1; clear hS1))
    · go_ret
      exact ⟨rfl, sat_nilL hS⟩
    · have HZL := Lib.hid (show (QL G (.mk qo qn qu qk) fl).length ≤ 80 from Nat.le_trans (HQL.out G) hn80)
      have HL1 := Lib.hid (fun w L fv h hf => HLI.out w L p G fl fv h HG.out HA.out hf)
      have HL2 := Lib.hid (fun w L fv h hf => HAL.out w L p G fv h HG.out HA.out hf)
      have HL3 := Lib.hid (fun w L h => HRL.out w L q2 G h HG.out)
      obtain ⟨zs, hzs⟩ : ∃ zs, QL G (.mk qo qn qu qk) fl = zs := ⟨_, rfl⟩
      rw [hzs] at HL1 HL2 HL3 HZL
      obtain ⟨T, hT⟩ : ∃ T, zs.take kn = T := ⟨_, rfl⟩
      have hTL : T.length = min kn zs.length := by rw [← hT, List.length_take]
      have HTI := Lib.hid (show iv T = (iv zs).take (T.length * 1) by rw [← hT]; exact iv_take' zs kn)
      have HTZ := Lib.hid (show T.length ≤ zs.length by omega)
      have hmin : min (kn : Int) (zs.length : Int) = (T.length : Int) := by omega
      rw [hT] at HL2
      have hzi : (zs.length : Int) ≤ 80 := by have := HZL.out; omega
      clear hzs hT hTL HLI HAL HRL HQL HTY HGR
      go_wp2_with (first
        | (go_at_call 28; refine (HL3.out _ _ (hS.re [1])).mono ?_; rintro e w1 ⟨wv, rfl, _, L2, hS1⟩; clear hS; have hS := (show Sat W w1 (Cs px 49 [.int .i64 qo, .int .i64 qn, qu] :: IsG p G :: Ir wv zs :: Cs pn _ _ :: IsR q2 G :: L2) from (hS1.perm (List.perm_append_comm (l₁ := _ :: _ :: L2) (l₂ := [_, _, _]))).re [2, 0, 3]); clear hS1; obtain ⟨aw, cw, rfl, hcw⟩ := hS.irShape (k := 2) rfl)
        | (go_at_call 10; refine (HPL.out _).mono ?_; rintro e w1 ⟨rfl, rfl⟩))
      obtain ⟨L3, hS⟩ : ∃ L3, Sat W _ (Cs px 49 [.int .i64 qo, .int .i64 qn, qu] :: IsG p G :: Ir (.slice aw zs.length cw) zs :: L3) := ⟨_, hS⟩
      refine regStart2 [4, 6] hS (fun _ h => h.one Has.z) (by kernel_rfl) rfl ?_
      intro w1 hS1
      clear hS; have hS := hS1; clear hS1
      (refine rgP 0 hS (fun _ h => h.one Has.z) ?_; go_frame)
      (refine rgR 1 hS (fun _ h => h.one Has.z) ?_; (refine ⟨.agg #[.int .i64 qo, .int .i64 qn, qu], yLdA _ _ (by rfl) _ _ (by rfl) (agOf (by rfl)) (szOf (by rfl)) Has.z (vs := [.int .i64 qo, .int .i64 qn, qu]) (by rfl) (by rfl), ?_⟩); go_frame)
      (refine rgP 2 hS (fun _ h => h.one Has.z) ?_; go_frame)
      (refine rgP 5 hS (fun _ h => h.one Has.z) ?_; go_frame)
      (refine rgA 3 false fun K hK => ?_; (first
                    | (refine Go.Sep.cl 27 _ _ (by rfl) (by rfl) (by kernel_rfl) (intsZ_any (show Sat W _ (Cs px _ _ :: IsG p G :: Ir _ zs :: L3) from hS) (HF.out _ _ hS) (by have := HFL.out; omega)) ?_; rintro e w1 ⟨v1, rfl, hS1⟩; clear hS; have hS := hS1; clear hS1; refine ⟨_, rfl, ?_⟩)
                    | (refine Go.Sep.cl 27 _ _ (by rfl) (by rfl) (by kernel_rfl) (intsZ_any hS (HF.out _ _ hS) (by have := HFL.out; omega)) ?_; rintro e w1 ⟨v2, rfl, hS1⟩; clear hS; have hS := hS1; clear hS1; refine ⟨_, rfl, ?_⟩)
                    | (refine Go.Sep.cl 20 _ _ (by rfl) (by rfl) (by kernel_rfl) (HL1.out _ _ _ (hS.re [2]) (fun w L' h => Sat.izRd h (has_app _ _ _))) ?_; rintro e w1 ⟨lv, rfl, hS1⟩; clear hS; have hS := (show Sat W w1 (Cs px 49 [.int .i64 qo, .int .i64 qn, qu] :: IsG p G :: Ir (.slice aw zs.length cw) zs :: Ir lv zs :: Iz v1 fl :: L3) from (irnOpen hS1).2.re [3, 1, 4, 0]); clear hS1; obtain ⟨al, cl, rfl, _⟩ := hS.irShape (k := 3) rfl; refine ⟨_, rfl, ?_⟩)
                    | (refine Go.Sep.cl 29 _ _ (by rfl) (by rfl) (by kernel_rfl) (HL2.out _ _ _ (hS.re [2]) (fun w L' h => Sat.izRd h (has_app _ _ _))) ?_; rintro e w1 ⟨tv, rfl, hS1⟩; clear hS; have hS := (show Sat W w1 (Cs px 49 [.int .i64 qo, .int .i64 qn, qu] :: IsG p G :: Ir (.slice aw zs.length cw) zs :: Ir tv T :: Iz v2 fl :: Ir (.slice al zs.length cl) zs :: Iz v1 fl :: L3) from hS1.re [3, 1, 4, 0]); clear hS1; obtain ⟨aa, ca, rfl, _⟩ := hS.irShape (k := 3) rfl; refine ⟨_, rfl, ?_⟩)
                    | (refine Go.Sep.cl 18 _ _ (by rfl) (by rfl) (by kernel_rfl) (same_any hS zs _ _ _ _ (fun w h => h.irRd (k := 3) rfl) (fun w h => h.irRd (k := 2) rfl) (by have := HZL.out; omega)) ?_; rintro e w1 ⟨rfl, hS1⟩; clear hS; have hS := hS1; clear hS1; refine ⟨_, rfl, ?_⟩)
                    | (refine Go.Sep.cl 18 _ _ (by rfl) (by rfl) (by kernel_rfl) (same_any hS T _ _ _ _ (fun w h => h.irRd (k := 3) rfl) (fun w h => by rw [HTI.out]; exact (h.irRd (k := 2) rfl).cutH T.length HTZ.out) (by have := HZL.out; have := HTZ.out; omega)) ?_; rintro e w1 ⟨rfl, hS1⟩; clear hS; have hS := hS1; clear hS1; refine ⟨_, rfl, ?_⟩)
                    | (refine Go.Sep.cl 15 _ _ (by rfl) (by rfl) (by kernel_rfl) (awake_any hS) ?_; rintro e w1 ⟨rfl, hS1⟩; clear hS; have hS := hS1; clear hS1; refine ⟨_, rfl, ?_⟩)); refine hK _ _ _ (hS.upTo (fun _ h => by first | exact h.drop | exact (h.re [3, 4]).drop.drop | exact h.one Has.z | exact h.one (Has.s Has.z) | exact h.one (Has.s (Has.s Has.z)) | exact h.one (Has.s (Has.s (Has.s Has.z))) | exact h.one (Has.s (Has.s (Has.s (Has.s Has.z)))))) (fun _ _ h => h) ?_; clear hK K; go_frame)
      (refine rgA 4 true fun K hK => ?_; (first
                    | (refine Go.Sep.cl 27 _ _ (by rfl) (by rfl) (by kernel_rfl) (intsZ_any (show Sat W _ (Cs px _ _ :: IsG p G :: Ir _ zs :: L3) from hS) (HF.out _ _ hS) (by have := HFL.out; omega)) ?_; rintro e w1 ⟨v1, rfl, hS1⟩; clear hS; have hS := hS1; clear hS1; refine ⟨_, rfl, ?_⟩)
                    | (refine Go.Sep.cl 27 _ _ (by rfl) (by rfl) (by kernel_rfl) (intsZ_any hS (HF.out _ _ hS) (by have := HFL.out; omega)) ?_; rintro e w1 ⟨v2, rfl, hS1⟩; clear hS; have hS := hS1; clear hS1; refine ⟨_, rfl, ?_⟩)
                    | (refine Go.Sep.cl 20 _ _ (by rfl) (by rfl) (by kernel_rfl) (HL1.out _ _ _ (hS.re [2]) (fun w L' h => Sat.izRd h (has_app _ _ _))) ?_; rintro e w1 ⟨lv, rfl, hS1⟩; clear hS; have hS := (show Sat W w1 (Cs px 49 [.int .i64 qo, .int .i64 qn, qu] :: IsG p G :: Ir (.slice aw zs.length cw) zs :: Ir lv zs :: Iz v1 fl :: L3) from (irnOpen hS1).2.re [3, 1, 4, 0]); clear hS1; obtain ⟨al, cl, rfl, _⟩ := hS.irShape (k := 3) rfl; refine ⟨_, rfl, ?_⟩)
                    | (refine Go.Sep.cl 29 _ _ (by rfl) (by rfl) (by kernel_rfl) (HL2.out _ _ _ (hS.re [2]) (fun w L' h => Sat.izRd h (has_app _ _ _))) ?_; rintro e w1 ⟨tv, rfl, hS1⟩; clear hS; have hS := (show Sat W w1 (Cs px 49 [.int .i64 qo, .int .i64 qn, qu] :: IsG p G :: Ir (.slice aw zs.length cw) zs :: Ir tv T :: Iz v2 fl :: Ir (.slice al zs.length cl) zs :: Iz v1 fl :: L3) from hS1.re [3, 1, 4, 0]); clear hS1; obtain ⟨aa, ca, rfl, _⟩ := hS.irShape (k := 3) rfl; refine ⟨_, rfl, ?_⟩)
                    | (refine Go.Sep.cl 18 _ _ (by rfl) (by rfl) (by kernel_rfl) (same_any hS zs _ _ _ _ (fun w h => h.irRd (k := 3) rfl) (fun w h => h.irRd (k := 2) rfl) (by have := HZL.out; omega)) ?_; rintro e w1 ⟨rfl, hS1⟩; clear hS; have hS := hS1; clear hS1; refine ⟨_, rfl, ?_⟩)
                    | (refine Go.Sep.cl 18 _ _ (by rfl) (by rfl) (by kernel_rfl) (same_any hS T _ _ _ _ (fun w h => h.irRd (k := 3) rfl) (fun w h => by rw [HTI.out]; exact (h.irRd (k := 2) rfl).cutH T.length HTZ.out) (by have := HZL.out; have := HTZ.out; omega)) ?_; rintro e w1 ⟨rfl, hS1⟩; clear hS; have hS := hS1; clear hS1; refine ⟨_, rfl, ?_⟩)
                    | (refine Go.Sep.cl 15 _ _ (by rfl) (by rfl) (by kernel_rfl) (awake_any hS) ?_; rintro e w1 ⟨rfl, hS1⟩; clear hS; have hS := hS1; clear hS1; refine ⟨_, rfl, ?_⟩)); refine hK _ _ _ hS (by first | (intro h; cases h; done) | exact fun _ _ h => h | exact fun _ _ h => h.drop | exact fun _ _ h => h.drop.drop | exact fun _ _ h => h.drop.pull1 | exact fun _ _ h => h.take2 | exact fun _ _ h => h.one Has.z | exact fun _ _ h => h.one (Has.s Has.z) | exact fun _ _ h => h.one (Has.s (Has.s Has.z))) ?_; clear hK K; go_frame)
      (refine rgA 6 true fun K hK => ?_; (first
                    | (refine Go.Sep.cl 27 _ _ (by rfl) (by rfl) (by kernel_rfl) (intsZ_any (show Sat W _ (Cs px _ _ :: IsG p G :: Ir _ zs :: L3) from hS) (HF.out _ _ hS) (by have := HFL.out; omega)) ?_; rintro e w1 ⟨v1, rfl, hS1⟩; clear hS; have hS := hS1; clear hS1; refine ⟨_, rfl, ?_⟩)
                    | (refine Go.Sep.cl 27 _ _ (by rfl) (by rfl) (by kernel_rfl) (intsZ_any hS (HF.out _ _ hS) (by have := HFL.out; omega)) ?_; rintro e w1 ⟨v2, rfl, hS1⟩; clear hS; have hS := hS1; clear hS1; refine ⟨_, rfl, ?_⟩)
                    | (refine Go.Sep.cl 20 _ _ (by rfl) (by rfl) (by kernel_rfl) (HL1.out _ _ _ (hS.re [2]) (fun w L' h => Sat.izRd h (has_app _ _ _))) ?_; rintro e w1 ⟨lv, rfl, hS1⟩; clear hS; have hS := (show Sat W w1 (Cs px 49 [.int .i64 qo, .int .i64 qn, qu] :: IsG p G :: Ir (.slice aw zs.length cw) zs :: Ir lv zs :: Iz v1 fl :: L3) from (irnOpen hS1).2.re [3, 1, 4, 0]); clear hS1; obtain ⟨al, cl, rfl, _⟩ := hS.irShape (k := 3) rfl; refine ⟨_, rfl, ?_⟩)
                    | (refine Go.Sep.cl 29 _ _ (by rfl) (by rfl) (by kernel_rfl) (HL2.out _ _ _ (hS.re [2]) (fun w L' h => Sat.izRd h (has_app _ _ _))) ?_; rintro e w1 ⟨tv, rfl, hS1⟩; clear hS; have hS := (show Sat W w1 (Cs px 49 [.int .i64 qo, .int .i64 qn, qu] :: IsG p G :: Ir (.slice aw zs.length cw) zs :: Ir tv T :: Iz v2 fl :: Ir (.slice al zs.length cl) zs :: Iz v1 fl :: L3) from hS1.re [3, 1, 4, 0]); clear hS1; obtain ⟨aa, ca, rfl, _⟩ := hS.irShape (k := 3) rfl; refine ⟨_, rfl, ?_⟩)
                    | (refine Go.Sep.cl 18 _ _ (by rfl) (by rfl) (by kernel_rfl) (same_any hS zs _ _ _ _ (fun w h => h.irRd (k := 3) rfl) (fun w h => h.irRd (k := 2) rfl) (by have := HZL.out; omega)) ?_; rintro e w1 ⟨rfl, hS1⟩; clear hS; have hS := hS1; clear hS1; refine ⟨_, rfl, ?_⟩)
                    | (refine Go.Sep.cl 18 _ _ (by rfl) (by rfl) (by kernel_rfl) (same_any hS T _ _ _ _ (fun w h => h.irRd (k := 3) rfl) (fun w h => by rw [HTI.out]; exact (h.irRd (k := 2) rfl).cutH T.length HTZ.out) (by have := HZL.out; have := HTZ.out; omega)) ?_; rintro e w1 ⟨rfl, hS1⟩; clear hS; have hS := hS1; clear hS1; refine ⟨_, rfl, ?_⟩)
                    | (refine Go.Sep.cl 15 _ _ (by rfl) (by rfl) (by kernel_rfl) (awake_any hS) ?_; rintro e w1 ⟨rfl, hS1⟩; clear hS; have hS := hS1; clear hS1; refine ⟨_, rfl, ?_⟩)); refine hK _ _ _ hS (by first | (intro h; cases h; done) | exact fun _ _ h => h | exact fun _ _ h => h.drop | exact fun _ _ h => h.drop.drop | exact fun _ _ h => h.drop.pull1 | exact fun _ _ h => h.take2 | exact fun _ _ h => h.one Has.z | exact fun _ _ h => h.one (Has.s Has.z) | exact fun _ _ h => h.one (Has.s (Has.s Has.z))) ?_; clear hK K; go_frame)
      (refine rgP 7 hS (fun _ h => h) ?_; go_frame)
      (first | (refine rgP 8 hS (fun _ h => h) ?_; go_frame) | (refine rgN 8 hS (fun _ h => h) ?_; go_frame))
      (first | (refine rgR 9 hS (fun _ h => h) ?_; (refine ⟨.agg #[.int .i64 qo, .int .i64 qn, qu], yLdA _ _ (by rfl) _ _ (by rfl) (agOf (by rfl)) (szOf (by rfl)) Has.z (vs := [.int .i64 qo, .int .i64 qn, qu]) (by rfl) (by rfl), ?_⟩); go_frame) | (refine rgN 9 hS (fun _ h => h) ?_; go_frame))
      (first | (refine rgP 10 hS (fun _ h => h) ?_; go_frame) | (refine rgN 10 hS (fun _ h => h) ?_; go_frame))
      (first | (refine rgP 12 hS (fun _ h => h) ?_; go_frame) | (refine rgN 12 hS (fun _ h => h) ?_; go_frame))
      (first | (refine rgP 14 hS (fun _ h => h) ?_; go_frame) | (refine rgN 14 hS (fun _ h => h) ?_; go_frame))
      (first | (refine rgP 15 hS (fun _ h => h) ?_; go_frame) | (refine rgN 15 hS (fun _ h => h) ?_; go_frame))
      (first | (refine rgP 16 hS (fun _ h => h) ?_; go_frame) | (refine rgN 16 hS (fun _ h => h) ?_; go_frame))
      (first | (refine rgP 17 hS (fun _ h => h) ?_; go_frame) | (refine rgN 17 hS (fun _ h => h) ?_; go_frame))
      (first | (refine rgP 18 hS (fun _ h => h) ?_; go_frame) | (refine rgN 18 hS (fun _ h => h) ?_; go_frame))
      (first | (refine regP 19 hS (fun _ h => h) rfl (by kernel_rfl) (by kernel_rfl) (by kernel_rfl) (fun _ _ _ _ h => h) (by rfl) (by rfl) ?_; apply Exists.intro; apply And.intro; (intro w; first | exact rCutH (hi := T.length) (by rfl) (by rfl) (by rfl) (by first | rfl | exact hmin | (go_simp; exact hmin)) (by have := HTZ.out; omega) (elOf (by rfl)) w | (go_simp; try with_reducible rfl)); go_frame) | (refine rgN 19 hS (fun _ h => h) ?_; go_frame))
      (first | (refine rgA 11 false fun K hK => ?_; (first
                    | (refine Go.Sep.cl 27 _ _ (by rfl) (by rfl) (by kernel_rfl) (intsZ_any (show Sat W _ (Cs px _ _ :: IsG p G :: Ir _ zs :: L3) from hS) (HF.out _ _ hS) (by have := HFL.out; omega)) ?_; rintro e w1 ⟨v1, rfl, hS1⟩; clear hS; have hS := hS1; clear hS1; refine ⟨_, rfl, ?_⟩)
                    | (refine Go.Sep.cl 27 _ _ (by rfl) (by rfl) (by kernel_rfl) (intsZ_any hS (HF.out _ _ hS) (by have := HFL.out; omega)) ?_; rintro e w1 ⟨v2, rfl, hS1⟩; clear hS; have hS := hS1; clear hS1; refine ⟨_, rfl, ?_⟩)
                    | (refine Go.Sep.cl 20 _ _ (by rfl) (by rfl) (by kernel_rfl) (HL1.out _ _ _ (hS.re [2]) (fun w L' h => Sat.izRd h (has_app _ _ _))) ?_; rintro e w1 ⟨lv, rfl, hS1⟩; clear hS; have hS := (show Sat W w1 (Cs px 49 [.int .i64 qo, .int .i64 qn, qu] :: IsG p G :: Ir (.slice aw zs.length cw) zs :: Ir lv zs :: Iz v1 fl :: L3) from (irnOpen hS1).2.re [3, 1, 4, 0]); clear hS1; obtain ⟨al, cl, rfl, _⟩ := hS.irShape (k := 3) rfl; refine ⟨_, rfl, ?_⟩)
                    | (refine Go.Sep.cl 29 _ _ (by rfl) (by rfl) (by kernel_rfl) (HL2.out _ _ _ (hS.re [2]) (fun w L' h => Sat.izRd h (has_app _ _ _))) ?_; rintro e w1 ⟨tv, rfl, hS1⟩; clear hS; have hS := (show Sat W w1 (Cs px 49 [.int .i64 qo, .int .i64 qn, qu] :: IsG p G :: Ir (.slice aw zs.length cw) zs :: Ir tv T :: Iz v2 fl :: Ir (.slice al zs.length cl) zs :: Iz v1 fl :: L3) from hS1.re [3, 1, 4, 0]); clear hS1; obtain ⟨aa, ca, rfl, _⟩ := hS.irShape (k := 3) rfl; refine ⟨_, rfl, ?_⟩)
                    | (refine Go.Sep.cl 18 _ _ (by rfl) (by rfl) (by kernel_rfl) (same_any hS zs _ _ _ _ (fun w h => h.irRd (k := 3) rfl) (fun w h => h.irRd (k := 2) rfl) (by have := HZL.out; omega)) ?_; rintro e w1 ⟨rfl, hS1⟩; clear hS; have hS := hS1; clear hS1; refine ⟨_, rfl, ?_⟩)
                    | (refine Go.Sep.cl 18 _ _ (by rfl) (by rfl) (by kernel_rfl) (same_any hS T _ _ _ _ (fun w h => h.irRd (k := 3) rfl) (fun w h => by rw [HTI.out]; exact (h.irRd (k := 2) rfl).cutH T.length HTZ.out) (by have := HZL.out; have := HTZ.out; omega)) ?_; rintro e w1 ⟨rfl, hS1⟩; clear hS; have hS := hS1; clear hS1; refine ⟨_, rfl, ?_⟩)
                    | (refine Go.Sep.cl 15 _ _ (by rfl) (by rfl) (by kernel_rfl) (awake_any hS) ?_; rintro e w1 ⟨rfl, hS1⟩; clear hS; have hS := hS1; clear hS1; refine ⟨_, rfl, ?_⟩)); refine hK _ _ _ (hS.upTo (fun _ h => by first | exact h.drop | exact (h.re [3, 4]).drop.drop | exact h.one Has.z | exact h.one (Has.s Has.z) | exact h.one (Has.s (Has.s Has.z)) | exact h.one (Has.s (Has.s (Has.s Has.z))) | exact h.one (Has.s (Has.s (Has.s (Has.s Has.z)))))) (fun _ _ h => h) ?_; clear hK K; go_frame) | (refine rgN 11 hS (fun _ h => h) ?_; go_frame))
      (first | (refine rgA 13 false fun K hK => ?_; (first
                    | (refine Go.Sep.cl 27 _ _ (by rfl) (by rfl) (by kernel_rfl) (intsZ_any (show Sat W _ (Cs px _ _ :: IsG p G :: Ir _ zs :: L3) from hS) (HF.out _ _ hS) (by have := HFL.out; omega)) ?_; rintro e w1 ⟨v1, rfl, hS1⟩; clear hS; have hS := hS1; clear hS1; refine ⟨_, rfl, ?_⟩)
                    | (refine Go.Sep.cl 27 _ _ (by rfl) (by rfl) (by kernel_rfl) (intsZ_any hS (HF.out _ _ hS) (by have := HFL.out; omega)) ?_; rintro e w1 ⟨v2, rfl, hS1⟩; clear hS; have hS := hS1; clear hS1; refine ⟨_, rfl, ?_⟩)
                    | (refine Go.Sep.cl 20 _ _ (by rfl) (by rfl) (by kernel_rfl) (HL1.out _ _ _ (hS.re [2]) (fun w L' h => Sat.izRd h (has_app _ _ _))) ?_; rintro e w1 ⟨lv, rfl, hS1⟩; clear hS; have hS := (show Sat W w1 (Cs px 49 [.int .i64 qo, .int .i64 qn, qu] :: IsG p G :: Ir (.slice aw zs.length cw) zs :: Ir lv zs :: Iz v1 fl :: L3) from (irnOpen hS1).2.re [3, 1, 4, 0]); clear hS1; obtain ⟨al, cl, rfl, _⟩ := hS.irShape (k := 3) rfl; refine ⟨_, rfl, ?_⟩)
                    | (refine Go.Sep.cl 29 _ _ (by rfl) (by rfl) (by kernel_rfl) (HL2.out _ _ _ (hS.re [2]) (fun w L' h => Sat.izRd h (has_app _ _ _))) ?_; rintro e w1 ⟨tv, rfl, hS1⟩; clear hS; have hS := (show Sat W w1 (Cs px 49 [.int .i64 qo, .int .i64 qn, qu] :: IsG p G :: Ir (.slice aw zs.length cw) zs :: Ir tv T :: Iz v2 fl :: Ir (.slice al zs.length cl) zs :: Iz v1 fl :: L3) from hS1.re [3, 1, 4, 0]); clear hS1; obtain ⟨aa, ca, rfl, _⟩ := hS.irShape (k := 3) rfl; refine ⟨_, rfl, ?_⟩)
                    | (refine Go.Sep.cl 18 _ _ (by rfl) (by rfl) (by kernel_rfl) (same_any hS zs _ _ _ _ (fun w h => h.irRd (k := 3) rfl) (fun w h => h.irRd (k := 2) rfl) (by have := HZL.out; omega)) ?_; rintro e w1 ⟨rfl, hS1⟩; clear hS; have hS := hS1; clear hS1; refine ⟨_, rfl, ?_⟩)
                    | (refine Go.Sep.cl 18 _ _ (by rfl) (by rfl) (by kernel_rfl) (same_any hS T _ _ _ _ (fun w h => h.irRd (k := 3) rfl) (fun w h => by rw [HTI.out]; exact (h.irRd (k := 2) rfl).cutH T.length HTZ.out) (by have := HZL.out; have := HTZ.out; omega)) ?_; rintro e w1 ⟨rfl, hS1⟩; clear hS; have hS := hS1; clear hS1; refine ⟨_, rfl, ?_⟩)
                    | (refine Go.Sep.cl 15 _ _ (by rfl) (by rfl) (by kernel_rfl) (awake_any hS) ?_; rintro e w1 ⟨rfl, hS1⟩; clear hS; have hS := hS1; clear hS1; refine ⟨_, rfl, ?_⟩)); refine hK _ _ _ (hS.upTo (fun _ h => by first | exact h.drop | exact (h.re [3, 4]).drop.drop | exact h.one Has.z | exact h.one (Has.s Has.z) | exact h.one (Has.s (Has.s Has.z)) | exact h.one (Has.s (Has.s (Has.s Has.z))) | exact h.one (Has.s (Has.s (Has.s (Has.s Has.z)))))) (fun _ _ h => h) ?_; clear hK K; go_frame) | (refine regN 13 hS (fun _ h => by first | exact h.drop | exact (h.re [3, 4]).drop.drop | exact h.one Has.z | exact h.one (Has.s Has.z) | exact h.one (Has.s (Has.s Has.z)) | exact h.one (Has.s (Has.s (Has.s Has.z))) | exact h.one (Has.s (Has.s (Has.s (Has.s Has.z))))) rfl (by kernel_rfl) (by kernel_rfl) (by kernel_rfl) (fun _ _ _ h => h) (by rfl) (by rfl) ?_; go_frame))
      (first | (refine rgA 20 false fun K hK => ?_; (first
                    | (refine Go.Sep.cl 27 _ _ (by rfl) (by rfl) (by kernel_rfl) (intsZ_any (show Sat W _ (Cs px _ _ :: IsG p G :: Ir _ zs :: L3) from hS) (HF.out _ _ hS) (by have := HFL.out; omega)) ?_; rintro e w1 ⟨v1, rfl, hS1⟩; clear hS; have hS := hS1; clear hS1; refine ⟨_, rfl, ?_⟩)
                    | (refine Go.Sep.cl 27 _ _ (by rfl) (by rfl) (by kernel_rfl) (intsZ_any hS (HF.out _ _ hS) (by have := HFL.out; omega)) ?_; rintro e w1 ⟨v2, rfl, hS1⟩; clear hS; have hS := hS1; clear hS1; refine ⟨_, rfl, ?_⟩)
                    | (refine Go.Sep.cl 20 _ _ (by rfl) (by rfl) (by kernel_rfl) (HL1.out _ _ _ (hS.re [2]) (fun w L' h => Sat.izRd h (has_app _ _ _))) ?_; rintro e w1 ⟨lv, rfl, hS1⟩; clear hS; have hS := (show Sat W w1 (Cs px 49 [.int .i64 qo, .int .i64 qn, qu] :: IsG p G :: Ir (.slice aw zs.length cw) zs :: Ir lv zs :: Iz v1 fl :: L3) from (irnOpen hS1).2.re [3, 1, 4, 0]); clear hS1; obtain ⟨al, cl, rfl, _⟩ := hS.irShape (k := 3) rfl; refine ⟨_, rfl, ?_⟩)
                    | (refine Go.Sep.cl 29 _ _ (by rfl) (by rfl) (by kernel_rfl) (HL2.out _ _ _ (hS.re [2]) (fun w L' h => Sat.izRd h (has_app _ _ _))) ?_; rintro e w1 ⟨tv, rfl, hS1⟩; clear hS; have hS := (show Sat W w1 (Cs px 49 [.int .i64 qo, .int .i64 qn, qu] :: IsG p G :: Ir (.slice aw zs.length cw) zs :: Ir tv T :: Iz v2 fl :: Ir (.slice al zs.length cl) zs :: Iz v1 fl :: L3) from hS1.re [3, 1, 4, 0]); clear hS1; obtain ⟨aa, ca, rfl, _⟩ := hS.irShape (k := 3) rfl; refine ⟨_, rfl, ?_⟩)
                    | (refine Go.Sep.cl 18 _ _ (by rfl) (by rfl) (by kernel_rfl) (same_any hS zs _ _ _ _ (fun w h => h.irRd (k := 3) rfl) (fun w h => h.irRd (k := 2) rfl) (by have := HZL.out; omega)) ?_; rintro e w1 ⟨rfl, hS1⟩; clear hS; have hS := hS1; clear hS1; refine ⟨_, rfl, ?_⟩)
                    | (refine Go.Sep.cl 18 _ _ (by rfl) (by rfl) (by kernel_rfl) (same_any hS T _ _ _ _ (fun w h => h.irRd (k := 3) rfl) (fun w h => by rw [HTI.out]; exact (h.irRd (k := 2) rfl).cutH T.length HTZ.out) (by have := HZL.out; have := HTZ.out; omega)) ?_; rintro e w1 ⟨rfl, hS1⟩; clear hS; have hS := hS1; clear hS1; refine ⟨_, rfl, ?_⟩)
                    | (refine Go.Sep.cl 15 _ _ (by rfl) (by rfl) (by kernel_rfl) (awake_any hS) ?_; rintro e w1 ⟨rfl, hS1⟩; clear hS; have hS := hS1; clear hS1; refine ⟨_, rfl, ?_⟩)); refine hK _ _ _ (hS.upTo (fun _ h => by first | exact h.drop | exact (h.re [3, 4]).drop.drop | exact h.one Has.z | exact h.one (Has.s Has.z) | exact h.one (Has.s (Has.s Has.z)) | exact h.one (Has.s (Has.s (Has.s Has.z))) | exact h.one (Has.s (Has.s (Has.s (Has.s Has.z)))))) (fun _ _ h => h) ?_; clear hK K; go_frame) | (refine regN 20 hS (fun _ h => by first | exact h.drop | exact (h.re [3, 4]).drop.drop | exact h.one Has.z | exact h.one (Has.s Has.z) | exact h.one (Has.s (Has.s Has.z)) | exact h.one (Has.s (Has.s (Has.s Has.z))) | exact h.one (Has.s (Has.s (Has.s (Has.s Has.z))))) rfl (by kernel_rfl) (by kernel_rfl) (by kernel_rfl) (fun _ _ _ h => h) (by rfl) (by rfl) ?_; go_frame))
      (refine regP 21 hS (fun _ h => by first | exact h.drop | exact (h.re [3, 4]).drop.drop | exact h.one Has.z | exact h.one (Has.s Has.z) | exact h.one (Has.s (Has.s Has.z)) | exact h.one (Has.s (Has.s (Has.s Has.z))) | exact h.one (Has.s (Has.s (Has.s (Has.s Has.z))))) rfl (by kernel_rfl) (by kernel_rfl) (by kernel_rfl) (fun _ _ _ _ h => h) (by rfl) (by rfl) ?_; apply Exists.intro; apply And.intro; (intro w; go_simp; try with_reducible rfl); go_frame)
      (refine regP 22 hS (fun _ h => by first | exact h.drop | exact (h.re [3, 4]).drop.drop | exact h.one Has.z | exact h.one (Has.s Has.z) | exact h.one (Has.s (Has.s Has.z)) | exact h.one (Has.s (Has.s (Has.s Has.z))) | exact h.one (Has.s (Has.s (Has.s (Has.s Has.z))))) rfl (by kernel_rfl) (by kernel_rfl) (by kernel_rfl) (fun _ _ _ _ h => h) (by rfl) (by rfl) ?_; apply Exists.intro; apply And.intro; (intro w; go_simp; try with_reducible rfl); go_frame)
      (first | (refine rgA 23 false fun K hK => ?_; (first
                    | (refine Go.Sep.cl 27 _ _ (by rfl) (by rfl) (by kernel_rfl) (intsZ_any (show Sat W _ (Cs px _ _ :: IsG p G :: Ir _ zs :: L3) from hS) (HF.out _ _ hS) (by have := HFL.out; omega)) ?_; rintro e w1 ⟨v1, rfl, hS1⟩; clear hS; have hS := hS1; clear hS1; refine ⟨_, rfl, ?_⟩)
                    | (refine Go.Sep.cl 27 _ _ (by rfl) (by rfl) (by kernel_rfl) (intsZ_any hS (HF.out _ _ hS) (by have := HFL.out; omega)) ?_; rintro e w1 ⟨v2, rfl, hS1⟩; clear hS; have hS := hS1; clear hS1; refine ⟨_, rfl, ?_⟩)
                    | (refine Go.Sep.cl 20 _ _ (by rfl) (by rfl) (by kernel_rfl) (HL1.out _ _ _ (hS.re [2]) (fun w L' h => Sat.izRd h (has_app _ _ _))) ?_; rintro e w1 ⟨lv, rfl, hS1⟩; clear hS; have hS := (show Sat W w1 (Cs px 49 [.int .i64 qo, .int .i64 qn, qu] :: IsG p G :: Ir (.slice aw zs.length cw) zs :: Ir lv zs :: Iz v1 fl :: L3) from (irnOpen hS1).2.re [3, 1, 4, 0]); clear hS1; obtain ⟨al, cl, rfl, _⟩ := hS.irShape (k := 3) rfl; refine ⟨_, rfl, ?_⟩)
                    | (refine Go.Sep.cl 29 _ _ (by rfl) (by rfl) (by kernel_rfl) (HL2.out _ _ _ (hS.re [2]) (fun w L' h => Sat.izRd h (has_app _ _ _))) ?_; rintro e w1 ⟨tv, rfl, hS1⟩; clear hS; have hS := (show Sat W w1 (Cs px 49 [.int .i64 qo, .int .i64 qn, qu] :: IsG p G :: Ir (.slice aw zs.length cw) zs :: Ir tv T :: Iz v2 fl :: Ir (.slice al zs.length cl) zs :: Iz v1 fl :: L3) from hS1.re [3, 1, 4, 0]); clear hS1; obtain ⟨aa, ca, rfl, _⟩ := hS.irShape (k := 3) rfl; refine ⟨_, rfl, ?_⟩)
                    | (refine Go.Sep.cl 18 _ _ (by rfl) (by rfl) (by kernel_rfl) (same_any hS zs _ _ _ _ (fun w h => h.irRd (k := 3) rfl) (fun w h => h.irRd (k := 2) rfl) (by have := HZL.out; omega)) ?_; rintro e w1 ⟨rfl, hS1⟩; clear hS; have hS := hS1; clear hS1; refine ⟨_, rfl, ?_⟩)
                    | (refine Go.Sep.cl 18 _ _ (by rfl) (by rfl) (by kernel_rfl) (same_any hS T _ _ _ _ (fun w h => h.irRd (k := 3) rfl) (fun w h => by rw [HTI.out]; exact (h.irRd (k := 2) rfl).cutH T.length HTZ.out) (by have := HZL.out; have := HTZ.out; omega)) ?_; rintro e w1 ⟨rfl, hS1⟩; clear hS; have hS := hS1; clear hS1; refine ⟨_, rfl, ?_⟩)
                    | (refine Go.Sep.cl 15 _ _ (by rfl) (by rfl) (by kernel_rfl) (awake_any hS) ?_; rintro e w1 ⟨rfl, hS1⟩; clear hS; have hS := hS1; clear hS1; refine ⟨_, rfl, ?_⟩)); refine hK _ _ _ (hS.upTo (fun _ h => by first | exact h.drop | exact (h.re [3, 4]).drop.drop | exact h.one Has.z | exact h.one (Has.s Has.z) | exact h.one (Has.s (Has.s Has.z)) | exact h.one (Has.s (Has.s (Has.s Has.z))) | exact h.one (Has.s (Has.s (Has.s (Has.s Has.z)))))) (fun _ _ h => h) ?_; clear hK K; go_frame) | (refine regN 23 hS (fun _ h => by first | exact h.drop | exact (h.re [3, 4]).drop.drop | exact h.one Has.z | exact h.one (Has.s Has.z) | exact h.one (Has.s (Has.s Has.z)) | exact h.one (Has.s (Has.s (Has.s Has.z))) | exact h.one (Has.s (Has.s (Has.s (Has.s Has.z))))) rfl (by kernel_rfl) (by kernel_rfl) (by kernel_rfl) (fun _ _ _ h => h) (by rfl) (by rfl) ?_; go_frame))
      (refine regP 24 hS (fun _ h => by first | exact h.drop | exact (h.re [3, 4]).drop.drop | exact h.one Has.z | exact h.one (Has.s Has.z) | exact h.one (Has.s (Has.s Has.z)) | exact h.one (Has.s (Has.s (Has.s Has.z))) | exact h.one (Has.s (Has.s (Has.s (Has.s Has.z))))) rfl (by kernel_rfl) (by kernel_rfl) (by kernel_rfl) (fun _ _ _ _ h => h) (by rfl) (by rfl) ?_; apply Exists.intro; apply And.intro; (intro w; go_simp; try with_reducible rfl); go_frame)
      (refine regP 25 hS (fun _ h => by first | exact h.drop | exact (h.re [3, 4]).drop.drop | exact h.one Has.z | exact h.one (Has.s Has.z) | exact h.one (Has.s (Has.s Has.z)) | exact h.one (Has.s (Has.s (Has.s Has.z))) | exact h.one (Has.s (Has.s (Has.s (Has.s Has.z))))) rfl (by kernel_rfl) (by kernel_rfl) (by kernel_rfl) (fun _ _ _ _ h => h) (by rfl) (by rfl) ?_; apply Exists.intro; apply And.intro; (intro w; go_simp; try with_reducible rfl); go_frame)
      refine regDone (by kernel_rfl) ?_
      go_wp2
      go_ret
      exact ⟨rfl, sat_nilL hS⟩

set_option maxRecDepth 100000 in
theorem Lists.contract (H : Type) (enc : TypeId × Value → H) (W : World) (base : Nat) (args : Array Value) (ds gs : List (DataW H)) (before : List MemPlace)
    (hval : ∀ (j : Nat) t v, Try.f9.params[j]? = some t → args[j]? = some v → Value.okWide Try.prog W .any base t v)
    (hW : DataW.Whole enc Try.prog Try.f9.params.toList Rows.queryListsSpec.vars false W args.toList ds gs before)
    (hreach : (DataW.weightsEach Try.prog (Try.f9.params.toList ++ Rows.queryListsSpec.plain.varTypes Try.prog) (ds ++ gs)).all (· ≤ reachBytes) = true) :
    Calls Try.prog 9 args W fun e W' => ∃ v, e = .returned v ∧ Rows.queryListsSpec.post enc Try.prog Try.f9 false true false false W args v W' := by
  have hW' := hW
  obtain ⟨p, q, hA, hV, rfl, hfz, hnd⟩ := hW
  rw [Try.params9] at hA hval hreach
  obtain ⟨v0, vs0, d0, ds0, p0, q0, hargs, rfl, rfl, h0, r0⟩ := trodAll_cons hA
  obtain ⟨v1, vs1, d1, ds1, p1, q1, rfl, rfl, rfl, h1, r1⟩ := trodAll_cons r0
  obtain ⟨v2, vs2, d2, ds2, p2, q2, rfl, rfl, rfl, h2, r2⟩ := trodAll_cons r1
  obtain ⟨v3, vs3, d3, ds3, p3, q3, rfl, rfl, rfl, h3, r3⟩ := trodAll_cons r2
  obtain ⟨rfl, rfl, rfl⟩ := trodAll_nil r3
  obtain rfl : args = #[v0, v1, v2, v3] := by cases args; simp_all
  obtain ⟨rfl, rfl⟩ := trodVars_none hV
  obtain ⟨ao0, l0, c0, rfl⟩ := okWide_slice Try.underlying35 (hval 0 35 v0 rfl rfl)
  obtain ⟨ao2, l2, c2, rfl⟩ := okWide_slice Try.underlying32 (hval 2 32 v2 rfl rfl)
  obtain ⟨a3, rfl, rfl, rfl, w3⟩ := open_int Try.underlying3 (hval 3 3 v3 rfl rfl) h3
  obtain ⟨l, rfl, hr, _⟩ := open_gops h0
  obtain ⟨q, rfl, hq⟩ := open_q (hval 1 49 v1 rfl rfl) h1
  obtain ⟨fl, rfl, hf, _, _⟩ := open_nums Try.underlying32 Try.underlying3 (by kernel_rfl) h2
  refine (Lists.walk l ao0 c0 q fl ao2 c2 a3 W hr hq hf).mono ?_
  refine fun e W' ⟨he, hS⟩ => ?_
  subst he
  exact ⟨_, rfl, law_post (tb := 4) (by kernel_rfl) (by kernel_rfl) rfl Try.underlying4 rfl hW' rfl hS⟩

theorem Lists.own : ownKnob Try.prog.godebug = none := by kernel_rfl
set_option maxRecDepth 100000 in
theorem Lists.lifted (os : Os) (started : os.Started) (H : Type) (enc : TypeId × Value → H) :
    ReturnsInHanded {} Try.checked os 9 .any (Rows.queryListsSpec.pre6 enc Try.prog Try.f9 Rows.queryListsRow.domain false) (Rows.queryListsSpec.post enc Try.prog Try.f9 false true false false) := by
  refine returnsInHanded_of_change_shaped (C := Try.checked) Lists.own started (by kernel_rfl) Try.func9
    (ChangeSpec.witness6 (enc := enc) (C := Try.checked) false ⟨#[], #[.slice none 0 0, .agg #[.int .i64 0, .int .i64 0, .slice none 0 0], .slice none 0 0, .int .i64 0], []⟩ 8 (by kernel_rfl) (by kernel_rfl) (by kernel_rfl) (by kernel_rfl)) ?_
  intro W base args ds gs before hval hW _ hreach _ _
  exact Lists.contract H enc W base args ds gs before hval hW hreach

theorem Lists.holds : Rows.QueryListsSaid :=
  OpenClaim.holds_of_wide 9 Try.f9 rfl rfl rfl rfl rfl rfl rfl ⟨rfl, rfl, rfl, rfl, rfl⟩ rfl rfl rfl rfl rfl (by kernel_rfl) Try.func9 (by kernel_rfl)
    (of_decide_eq_true (by kernel_rfl)) (by unfold Func.isWrapper; first | (rw [if_pos (by decide +kernel)]; kernel_rfl) | (rw [if_neg (by decide +kernel)]; exact ⟨rfl, rfl⟩))
    (fun os started H enc _ => Lists.lifted os started H enc)
end Go.Proofs.Ytpnbdnfgdiakhaa
