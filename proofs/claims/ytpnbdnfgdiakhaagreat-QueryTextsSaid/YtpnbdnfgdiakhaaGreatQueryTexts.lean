/-
  For all calls, texts and nodes, QueryTexts answers true: no condition.
-/
import Derived.Test.YtpnbdnfgdiakhaaGreatMQuq
import Derived.Test.YtpnbdnfgdiakhaaGreatMQuf
import Derived.Test.YtpnbdnfgdiakhaaGreatMQuh
import Derived.ChangeMaps5
namespace Go.Proofs.YtpnbdnfgdiakhaaGreat
open Go.RowKit Go.Sep Go.ChangeShapes Go.WideShapes Go.ChangeAt Go.ChangeMaps
set_option linter.unusedSimpArgs false
set_option linter.unusedVariables false
attribute [local irreducible] Go.Oper.wp Go.wpList Go.Calls Go.Code.wp Go.Sep.Reg
attribute [local irreducible] IsG IsR
theorem sat_nilL {W w : World} : ∀ {L : List Asrt}, Sat W w L → Sat W w []
  | [], h => h
  | _ :: _, h => sat_nilL h.drop
set_option maxRecDepth 20000 in
set_option maxHeartbeats 8000000 in
theorem Texts.walk (l : List GOpD) (ao : Option Addr) (c : Nat) (s : ByteArray) (hsm : s.size ≤ 9223372036854775807) (fl : List Int) (af : Option Addr) (cf : Nat) (W : World) (hr : Rd W (.slice ao l.length c) l.length 3 (l.flatMap gov)) (hf : Rd W (.slice af fl.length cf) fl.length 1 (ivz fl)) :
    Calls Tryz.prog 3 #[.slice ao l.length c, .string s, .slice af fl.length cf] W fun e W' => e = .returned (.bool true) ∧ Sat W W' [] := by
  have hS := Sat.start W
  have HGR := Lib.hid (fun w L (h : Sat W w L) => graphsI_any h l ao c (I := fun _ => True) trivial (fun _ _ _ _ _ => trivial) (fun u hu => hr.old hu))
  have HPA := Lib.hid (fun w L (h : Sat W w L) => parse_any h s hsm)
  have HF := Lib.hid (fun w L (h : Sat W w L) => hf.old h)
  have HLI := Lib.hid (fun w L p G (h : Sat W w (IsG p G :: L)) (hG : G.Ok) (hA : G.Acyc) (q : StepD) hq => list_any h hG hA q hq fl (.slice af fl.length cf) (fun w L' h => HF.out _ _ h))
  have HRL := Lib.hid (fun w L p G (h : Sat W w (IsR p G :: L)) (hG : G.Ok) (q : StepD) hq => rlist_any h hG (fun _ _ _ _ _ _ => to_any hG 12) q hq fl (.slice af fl.length cf) (fun w L' h => HF.out _ _ h))
  obtain ⟨_, _, _, hc1, hc2, _⟩ := hf
  have hfi : (fl.length : Int) ≤ 9223372036854775807 := by omega
  have hsi : (s.size : Int) ≤ 9223372036854775807 := by omega
  obtain ⟨QL, hQL⟩ : ∃ QL, qlist = QL := ⟨_, rfl⟩
  have HQL := Lib.hid (fun G q => qlist_len G q fl)
  rw [hQL] at HLI HRL HQL
  clear hr hc1 hQL
  by_cases h200 : 200 < s.size
  · have k1 : (200 : Int) < (s.size : Int) := by omega
    have k2 : decide ((200 : Int) < (s.size : Int)) = true := decide_eq_true k1
    have k3 : decide (200 < s.size) = true := decide_eq_true h200
    clear h200
    go_enter Tryz.func3, Tryz.ntmps3
    go_wp2_with (first
      | (go_at_call 4; refine (awake_any hS).mono ?_; rintro e w1 ⟨rfl, hS1⟩; clear hS; have hS := hS1; clear hS1)
      | (go_at_call 5; refine (HPA.out _ _ hS).mono ?_; rintro e w1 ⟨v, rfl, op, n, qa, qm, qc, ks, x, y, rfl, hS1⟩; clear hS; have hS := hS1; clear hS1)
      | (refine toList (by rfl) ?_; refine al (show Sat W _ [Qq _] from hS) _ (by rfl) (zrOf (T := 27) (by rfl)) ?_; intro p7 w1 hS1; clear hS; have hS := (show Sat W w1 [Cs p7 27 [.int .i64 0, .int .i64 0, .slice none 0 0], Qq _] from hS1); clear hS1)
      | (refine toList (by rfl) ?_; refine stW hS _ _ _ (by rfl) (by rfl) [.int .i64 op, .int .i64 n, .slice qa qm qc] (by rfl) (stp_all _ _ _ _ _) (szOf (by rfl)) Has.z (by rfl) ?_; intro w1 hS1; clear hS; have hS := hS1; clear hS1; dsimp only [List.set_cons_zero, List.set_cons_succ] at hS)
      | (go_at_call 6; refine (HGR.out _ _ hS).mono ?_; rintro e w1 ⟨p, q2, G, rfl, hG, hA, _, _, hn80, hS1⟩; have HG := Lib.hid hG; have HA := Lib.hid hA; clear hG hA; clear hS; have hS := hS1; clear hS1))
    go_ret
    exact ⟨rfl, sat_nilL hS⟩
  · have j1 : ¬ (200 : Int) < (s.size : Int) := by omega
    have j2 : decide ((200 : Int) < (s.size : Int)) = false := decide_eq_false j1
    have j3 : decide (200 < s.size) = false := decide_eq_false h200
    clear h200
    by_cases h50 : 50 < fl.length
    · have k1 : (50 : Int) < (fl.length : Int) := by omega
      have k2 : decide ((50 : Int) < (fl.length : Int)) = true := decide_eq_true k1
      have k3 : decide (50 < fl.length) = true := decide_eq_true h50
      clear h50
      go_enter Tryz.func3, Tryz.ntmps3
      go_wp2_with (first
        | (go_at_call 4; refine (awake_any hS).mono ?_; rintro e w1 ⟨rfl, hS1⟩; clear hS; have hS := hS1; clear hS1)
        | (go_at_call 5; refine (HPA.out _ _ hS).mono ?_; rintro e w1 ⟨v, rfl, op, n, qa, qm, qc, ks, x, y, rfl, hS1⟩; clear hS; have hS := hS1; clear hS1)
        | (refine toList (by rfl) ?_; refine al (show Sat W _ [Qq _] from hS) _ (by rfl) (zrOf (T := 27) (by rfl)) ?_; intro p7 w1 hS1; clear hS; have hS := (show Sat W w1 [Cs p7 27 [.int .i64 0, .int .i64 0, .slice none 0 0], Qq _] from hS1); clear hS1)
        | (refine toList (by rfl) ?_; refine stW hS _ _ _ (by rfl) (by rfl) [.int .i64 op, .int .i64 n, .slice qa qm qc] (by rfl) (stp_all _ _ _ _ _) (szOf (by rfl)) Has.z (by rfl) ?_; intro w1 hS1; clear hS; have hS := hS1; clear hS1; dsimp only [List.set_cons_zero, List.set_cons_succ] at hS)
        | (go_at_call 6; refine (HGR.out _ _ hS).mono ?_; rintro e w1 ⟨p, q2, G, rfl, hG, hA, _, _, hn80, hS1⟩; have HG := Lib.hid hG; have HA := Lib.hid hA; clear hG hA; clear hS; have hS := hS1; clear hS1))
      go_ret
      exact ⟨rfl, sat_nilL hS⟩
    · have k1 : ¬ (50 : Int) < (fl.length : Int) := by omega
      have k2 : decide ((50 : Int) < (fl.length : Int)) = false := decide_eq_false k1
      have k3 : decide (50 < fl.length) = false := decide_eq_false h50
      clear h50
      go_enter Tryz.func3, Tryz.ntmps3
      go_wp2_with (first
        | (go_at_call 4; refine (awake_any hS).mono ?_; rintro e w1 ⟨rfl, hS1⟩; clear hS; have hS := hS1; clear hS1)
        | (go_at_call 5; refine (HPA.out _ _ hS).mono ?_; rintro e w1 ⟨v, rfl, op, n, qa, qm, qc, ks, x, y, rfl, hS1⟩; clear hS; have hS := hS1; clear hS1)
        | (refine toList (by rfl) ?_; refine al (show Sat W _ [Qq _] from hS) _ (by rfl) (zrOf (T := 27) (by rfl)) ?_; intro p7 w1 hS1; clear hS; have hS := (show Sat W w1 [Cs p7 27 [.int .i64 0, .int .i64 0, .slice none 0 0], Qq _] from hS1); clear hS1)
        | (refine toList (by rfl) ?_; refine stW hS _ _ _ (by rfl) (by rfl) [.int .i64 op, .int .i64 n, .slice qa qm qc] (by rfl) (stp_all _ _ _ _ _) (szOf (by rfl)) Has.z (by rfl) ?_; intro w1 hS1; clear hS; have hS := hS1; clear hS1; dsimp only [List.set_cons_zero, List.set_cons_succ] at hS)
        | (go_at_call 6; refine (HGR.out _ _ hS).mono ?_; rintro e w1 ⟨p, q2, G, rfl, hG, hA, _, _, hn80, hS1⟩; have HG := Lib.hid hG; have HA := Lib.hid hA; clear hG hA; clear hS; have hS := hS1; clear hS1))
      all_goals try (go_ret; exact ⟨rfl, sat_nilL hS⟩)
      have HZL := Lib.hid (show (QL G (.mk op n (.slice qa qm qc) ks) fl).length ≤ 80 from Nat.le_trans (HQL.out G _) hn80)
      have HL1 := Lib.hid (fun w M (h : Sat W w (IsG p G :: Qq (.mk op n (.slice qa qm qc) ks) :: M)) => show Calls Tryz.prog 8 #[.pointer (some ⟨p, 0, none⟩), .agg #[.int .i64 op, .int .i64 n, .slice qa qm qc], .slice af fl.length cf] w _ from HLI.out w _ p G h HG.out HA.out (.mk op n (.slice qa qm qc) ks) (fun w L' h => Qq.read h (has_app L' _ _) 12))
      have HL3 := Lib.hid (fun w M (h : Sat W w (IsR q2 G :: Qq (.mk op n (.slice qa qm qc) ks) :: M)) => show Calls Tryz.prog 9 #[.pointer (some ⟨q2, 0, none⟩), .agg #[.int .i64 op, .int .i64 n, .slice qa qm qc], .slice af fl.length cf] w _ from HRL.out w _ q2 G h HG.out (.mk op n (.slice qa qm qc) ks) (fun w L' h => Qq.read h (has_app L' _ _) 12))
      obtain ⟨zs, hzs⟩ : ∃ zs, QL G (.mk op n (.slice qa qm qc) ks) fl = zs := ⟨_, rfl⟩
      rw [hzs] at HL1 HL3 HZL
      clear hzs HLI HRL HQL HGR HPA
      have hS2 : Sat W w1 [Cs p7 27 [.int .i64 op, .int .i64 n, .slice qa qm qc], Qq (.mk op n (.slice qa qm qc) ks), IsG p G, IsR q2 G] := hS.re [2, 3]
      clear hS
      have hS := hS2
      clear hS2
      refine regStart2 [9, 10] hS (fun _ h => h.one Has.z) (by kernel_rfl) rfl ?_
      intro w1 hS1
      clear hS; have hS := hS1; clear hS1
      (refine rgP 0 hS (fun _ h => h.one Has.z) ?_; go_frame)
      (refine rgP 1 hS (fun _ h => h.one Has.z) ?_; go_frame)
      (first | (refine rgP 2 hS (fun _ h => h.one Has.z) ?_; go_frame) | (refine rgN 2 hS (fun _ h => h.one Has.z) ?_; go_frame))
      (first | (refine rgR 3 hS (fun _ h => h.one Has.z) ?_; (refine ⟨.agg #[.int .i64 op, .int .i64 n, .slice qa qm qc], yLdA _ _ (by rfl) _ _ (by rfl) (agOf (by rfl)) (szOf (by rfl)) Has.z (vs := [.int .i64 op, .int .i64 n, .slice qa qm qc]) (by rfl) (by rfl), ?_⟩); go_frame) | (refine rgN 3 hS (fun _ h => h.one Has.z) ?_; go_frame))
      (first | (refine rgP 4 hS (fun _ h => h.one Has.z) ?_; go_frame) | (refine rgN 4 hS (fun _ h => h.one Has.z) ?_; go_frame))
      (first | (refine rgP 6 hS (fun _ h => h.one Has.z) ?_; go_frame) | (refine rgN 6 hS (fun _ h => h.one Has.z) ?_; go_frame))
      (first | (refine rgR 7 hS (fun _ h => h.one Has.z) ?_; (refine ⟨.agg #[.int .i64 op, .int .i64 n, .slice qa qm qc], yLdA _ _ (by rfl) _ _ (by rfl) (agOf (by rfl)) (szOf (by rfl)) Has.z (vs := [.int .i64 op, .int .i64 n, .slice qa qm qc]) (by rfl) (by rfl), ?_⟩); go_frame) | (refine rgN 7 hS (fun _ h => h.one Has.z) ?_; go_frame))
      (first | (refine rgP 8 hS (fun _ h => h.one Has.z) ?_; go_frame) | (refine rgN 8 hS (fun _ h => h.one Has.z) ?_; go_frame))
      (first | (refine rgA 5 false fun K hK => ?_; (first
                    | (refine Go.Sep.cl 8 _ _ (by rfl) (by rfl) (by kernel_rfl) (HL1.out _ _ (hS.re [2, 1])) ?_; rintro e w1 ⟨lv, rfl, hS1⟩; clear hS; have hS := (show Sat W w1 (Cs p7 27 _ :: Qq _ :: IsR q2 G :: Ir lv zs :: IsG p G :: []) from (irnOpen hS1).2.re [3, 2, 4]); clear hS1; obtain ⟨al, cl, rfl, _⟩ := hS.irShape (k := 3) rfl; refine ⟨_, rfl, ?_⟩)
                    | (refine Go.Sep.cl 9 _ _ (by rfl) (by rfl) (by kernel_rfl) (HL3.out _ _ (hS.re [2, 1])) ?_; rintro e w1 ⟨wv, rfl, _, L2, hS1⟩; clear hS; have hS := (show Sat W w1 (Cs p7 27 _ :: Qq _ :: Ir (.slice al zs.length cl) zs :: Ir wv zs :: IsG p G :: IsR q2 G :: L2) from (hS1.perm (List.perm_append_comm (l₁ := _ :: _ :: L2) (l₂ := [_, _, _, _]))).re [1, 0, 2, 4]); clear hS1; obtain ⟨aw, cw, rfl, _⟩ := hS.irShape (k := 3) rfl; refine ⟨_, rfl, ?_⟩)
                    | (refine Go.Sep.cl 7 _ _ (by rfl) (by rfl) (by kernel_rfl) (same_any hS zs _ _ _ _ (fun w h => h.irRd (k := 2) rfl) (fun w h => h.irRd (k := 3) rfl) (by have := HZL.out; omega)) ?_; rintro e w1 ⟨rfl, hS1⟩; clear hS; have hS := hS1; clear hS1; refine ⟨_, rfl, ?_⟩)
                    | (refine Go.Sep.cl 4 _ _ (by rfl) (by rfl) (by kernel_rfl) (awake_any hS) ?_; rintro e w1 ⟨rfl, hS1⟩; clear hS; have hS := hS1; clear hS1; refine ⟨_, rfl, ?_⟩)); refine hK _ _ _ (hS.upTo (fun _ h => by first | exact h.one Has.z | exact h.one (Has.s Has.z) | exact h.one (Has.s (Has.s Has.z)) | exact h.one (Has.s (Has.s (Has.s Has.z))) | exact h)) (fun _ _ h => h) ?_; clear hK K; go_frame) | (refine rgN 5 hS (fun _ h => h.one Has.z) ?_; go_frame))
      (first | (refine rgA 9 true fun K hK => ?_; (first
                    | (refine Go.Sep.cl 8 _ _ (by rfl) (by rfl) (by kernel_rfl) (HL1.out _ _ (hS.re [2, 1])) ?_; rintro e w1 ⟨lv, rfl, hS1⟩; clear hS; have hS := (show Sat W w1 (Cs p7 27 _ :: Qq _ :: IsR q2 G :: Ir lv zs :: IsG p G :: []) from (irnOpen hS1).2.re [3, 2, 4]); clear hS1; obtain ⟨al, cl, rfl, _⟩ := hS.irShape (k := 3) rfl; refine ⟨_, rfl, ?_⟩)
                    | (refine Go.Sep.cl 9 _ _ (by rfl) (by rfl) (by kernel_rfl) (HL3.out _ _ (hS.re [2, 1])) ?_; rintro e w1 ⟨wv, rfl, _, L2, hS1⟩; clear hS; have hS := (show Sat W w1 (Cs p7 27 _ :: Qq _ :: Ir (.slice al zs.length cl) zs :: Ir wv zs :: IsG p G :: IsR q2 G :: L2) from (hS1.perm (List.perm_append_comm (l₁ := _ :: _ :: L2) (l₂ := [_, _, _, _]))).re [1, 0, 2, 4]); clear hS1; obtain ⟨aw, cw, rfl, _⟩ := hS.irShape (k := 3) rfl; refine ⟨_, rfl, ?_⟩)
                    | (refine Go.Sep.cl 7 _ _ (by rfl) (by rfl) (by kernel_rfl) (same_any hS zs _ _ _ _ (fun w h => h.irRd (k := 2) rfl) (fun w h => h.irRd (k := 3) rfl) (by have := HZL.out; omega)) ?_; rintro e w1 ⟨rfl, hS1⟩; clear hS; have hS := hS1; clear hS1; refine ⟨_, rfl, ?_⟩)
                    | (refine Go.Sep.cl 4 _ _ (by rfl) (by rfl) (by kernel_rfl) (awake_any hS) ?_; rintro e w1 ⟨rfl, hS1⟩; clear hS; have hS := hS1; clear hS1; refine ⟨_, rfl, ?_⟩)); refine hK _ _ _ hS (by first | (intro h; cases h; done) | exact fun _ _ h => h | exact fun _ _ h => h.drop | exact fun _ _ h => h.drop.drop | exact fun _ _ h => h.drop.pull1 | exact fun _ _ h => h.take2 | exact fun _ _ h => h.one Has.z | exact fun _ _ h => h.one (Has.s Has.z) | exact fun _ _ h => h.one (Has.s (Has.s Has.z))) ?_; clear hK K; go_frame) | (refine rgN 9 hS (fun _ h => by first | exact h.one Has.z | exact h.one (Has.s Has.z) | exact h.one (Has.s (Has.s Has.z)) | exact h.one (Has.s (Has.s (Has.s Has.z))) | exact h) ?_; go_frame))
      (first | (refine rgA 10 true fun K hK => ?_; (first
                    | (refine Go.Sep.cl 8 _ _ (by rfl) (by rfl) (by kernel_rfl) (HL1.out _ _ (hS.re [2, 1])) ?_; rintro e w1 ⟨lv, rfl, hS1⟩; clear hS; have hS := (show Sat W w1 (Cs p7 27 _ :: Qq _ :: IsR q2 G :: Ir lv zs :: IsG p G :: []) from (irnOpen hS1).2.re [3, 2, 4]); clear hS1; obtain ⟨al, cl, rfl, _⟩ := hS.irShape (k := 3) rfl; refine ⟨_, rfl, ?_⟩)
                    | (refine Go.Sep.cl 9 _ _ (by rfl) (by rfl) (by kernel_rfl) (HL3.out _ _ (hS.re [2, 1])) ?_; rintro e w1 ⟨wv, rfl, _, L2, hS1⟩; clear hS; have hS := (show Sat W w1 (Cs p7 27 _ :: Qq _ :: Ir (.slice al zs.length cl) zs :: Ir wv zs :: IsG p G :: IsR q2 G :: L2) from (hS1.perm (List.perm_append_comm (l₁ := _ :: _ :: L2) (l₂ := [_, _, _, _]))).re [1, 0, 2, 4]); clear hS1; obtain ⟨aw, cw, rfl, _⟩ := hS.irShape (k := 3) rfl; refine ⟨_, rfl, ?_⟩)
                    | (refine Go.Sep.cl 7 _ _ (by rfl) (by rfl) (by kernel_rfl) (same_any hS zs _ _ _ _ (fun w h => h.irRd (k := 2) rfl) (fun w h => h.irRd (k := 3) rfl) (by have := HZL.out; omega)) ?_; rintro e w1 ⟨rfl, hS1⟩; clear hS; have hS := hS1; clear hS1; refine ⟨_, rfl, ?_⟩)
                    | (refine Go.Sep.cl 4 _ _ (by rfl) (by rfl) (by kernel_rfl) (awake_any hS) ?_; rintro e w1 ⟨rfl, hS1⟩; clear hS; have hS := hS1; clear hS1; refine ⟨_, rfl, ?_⟩)); refine hK _ _ _ hS (by first | (intro h; cases h; done) | exact fun _ _ h => h | exact fun _ _ h => h.drop | exact fun _ _ h => h.drop.drop | exact fun _ _ h => h.drop.pull1 | exact fun _ _ h => h.take2 | exact fun _ _ h => h.one Has.z | exact fun _ _ h => h.one (Has.s Has.z) | exact fun _ _ h => h.one (Has.s (Has.s Has.z))) ?_; clear hK K; go_frame) | (refine rgN 10 hS (fun _ h => h) ?_; go_frame))
      (refine rgP 11 hS (fun _ h => h) ?_; go_frame)
      (refine rgP 12 hS (fun _ h => h) ?_; go_frame)
      (first | (refine rgA 13 false fun K hK => ?_; (first
                    | (refine Go.Sep.cl 8 _ _ (by rfl) (by rfl) (by kernel_rfl) (HL1.out _ _ (hS.re [2, 1])) ?_; rintro e w1 ⟨lv, rfl, hS1⟩; clear hS; have hS := (show Sat W w1 (Cs p7 27 _ :: Qq _ :: IsR q2 G :: Ir lv zs :: IsG p G :: []) from (irnOpen hS1).2.re [3, 2, 4]); clear hS1; obtain ⟨al, cl, rfl, _⟩ := hS.irShape (k := 3) rfl; refine ⟨_, rfl, ?_⟩)
                    | (refine Go.Sep.cl 9 _ _ (by rfl) (by rfl) (by kernel_rfl) (HL3.out _ _ (hS.re [2, 1])) ?_; rintro e w1 ⟨wv, rfl, _, L2, hS1⟩; clear hS; have hS := (show Sat W w1 (Cs p7 27 _ :: Qq _ :: Ir (.slice al zs.length cl) zs :: Ir wv zs :: IsG p G :: IsR q2 G :: L2) from (hS1.perm (List.perm_append_comm (l₁ := _ :: _ :: L2) (l₂ := [_, _, _, _]))).re [1, 0, 2, 4]); clear hS1; obtain ⟨aw, cw, rfl, _⟩ := hS.irShape (k := 3) rfl; refine ⟨_, rfl, ?_⟩)
                    | (refine Go.Sep.cl 7 _ _ (by rfl) (by rfl) (by kernel_rfl) (same_any hS zs _ _ _ _ (fun w h => h.irRd (k := 2) rfl) (fun w h => h.irRd (k := 3) rfl) (by have := HZL.out; omega)) ?_; rintro e w1 ⟨rfl, hS1⟩; clear hS; have hS := hS1; clear hS1; refine ⟨_, rfl, ?_⟩)
                    | (refine Go.Sep.cl 4 _ _ (by rfl) (by rfl) (by kernel_rfl) (awake_any hS) ?_; rintro e w1 ⟨rfl, hS1⟩; clear hS; have hS := hS1; clear hS1; refine ⟨_, rfl, ?_⟩)); refine hK _ _ _ (hS.upTo (fun _ h => by first | exact h.one Has.z | exact h.one (Has.s Has.z) | exact h.one (Has.s (Has.s Has.z)) | exact h.one (Has.s (Has.s (Has.s Has.z))) | exact h)) (fun _ _ h => h) ?_; clear hK K; go_frame) | (refine rgN 13 hS (fun _ h => h) ?_; go_frame))
      (refine rgP 14 hS (fun _ h => by first | exact h.one Has.z | exact h.one (Has.s Has.z) | exact h.one (Has.s (Has.s Has.z)) | exact h.one (Has.s (Has.s (Has.s Has.z))) | exact h) ?_; go_frame)
      (refine rgP 15 hS (fun _ h => by first | exact h.one Has.z | exact h.one (Has.s Has.z) | exact h.one (Has.s (Has.s Has.z)) | exact h.one (Has.s (Has.s (Has.s Has.z))) | exact h) ?_; go_frame)
      refine regDone (by kernel_rfl) ?_
      go_wp2
      go_ret
      exact ⟨rfl, sat_nilL hS⟩

set_option maxRecDepth 100000 in
theorem Texts.contract (H : Type) (enc : TypeId × Value → H) (W : World) (base : Nat) (args : Array Value) (ds gs : List (DataW H)) (before : List MemPlace)
    (hval : ∀ (j : Nat) t v, Tryz.f3.params[j]? = some t → args[j]? = some v → Value.okWide Tryz.prog W .any base t v)
    (hW : DataW.Whole enc Tryz.prog Tryz.f3.params.toList Rows.queryTextsSpec.vars false W args.toList ds gs before)
    (hreach : (DataW.weightsEach Tryz.prog (Tryz.f3.params.toList ++ Rows.queryTextsSpec.plain.varTypes Tryz.prog) (ds ++ gs)).all (· ≤ reachBytes) = true) :
    Calls Tryz.prog 3 args W fun e W' => ∃ v, e = .returned v ∧ Rows.queryTextsSpec.post enc Tryz.prog Tryz.f3 false true false false W args v W' := by
  have hW' := hW
  obtain ⟨p, q, hA, hV, rfl, hfz, hnd⟩ := hW
  rw [Tryz.params3] at hA hval hreach
  obtain ⟨v0, vs0, d0, ds0, p0, q0, hargs, rfl, rfl, h0, r0⟩ := trodAll_cons hA
  obtain ⟨v1, vs1, d1, ds1, p1, q1, rfl, rfl, rfl, h1, r1⟩ := trodAll_cons r0
  obtain ⟨v2, vs2, d2, ds2, p2, q2, rfl, rfl, rfl, h2, r2⟩ := trodAll_cons r1
  obtain ⟨rfl, rfl, rfl⟩ := trodAll_nil r2
  obtain rfl : args = #[v0, v1, v2] := by cases args; simp_all
  obtain ⟨rfl, rfl⟩ := trodVars_none hV
  obtain ⟨ao0, l0, c0, rfl⟩ := okWide_slice Tryz.underlying22 (hval 0 22 v0 rfl rfl)
  obtain ⟨ao2, l2, c2, rfl⟩ := okWide_slice Tryz.underlying23 (hval 2 23 v2 rfl rfl)
  obtain ⟨s, rfl, rfl, rfl, hsm⟩ := open_string Tryz.underlying9 (hval 1 9 v1 rfl rfl) h1
  obtain ⟨l, rfl, hr, _⟩ := open_gops h0
  obtain ⟨fl, rfl, hf, _, _⟩ := open_nums Tryz.underlying23 Tryz.underlying3 (by kernel_rfl) h2
  refine (Texts.walk l ao0 c0 s hsm fl ao2 c2 W hr hf).mono ?_
  refine fun e W' ⟨he, hS⟩ => ?_
  subst he
  exact ⟨_, rfl, law_post (tb := 4) (by kernel_rfl) (by kernel_rfl) rfl Tryz.underlying4 rfl hW' rfl hS⟩

theorem Texts.own : ownKnob Tryz.prog.godebug = none := by kernel_rfl
set_option maxRecDepth 100000 in
theorem Texts.lifted (os : Os) (started : os.Started) (H : Type) (enc : TypeId × Value → H) :
    ReturnsInHanded {} Tryz.checked os 3 .any (Rows.queryTextsSpec.pre6 enc Tryz.prog Tryz.f3 Rows.queryTextsRow.domain false) (Rows.queryTextsSpec.post enc Tryz.prog Tryz.f3 false true false false) := by
  refine returnsInHanded_of_change_shaped (C := Tryz.checked) Texts.own started (by kernel_rfl) Tryz.func3
    (ChangeSpec.witness6 (enc := enc) (C := Tryz.checked) false ⟨#[], #[.slice none 0 0, .string ⟨#[]⟩, .slice none 0 0], []⟩ 8 (by kernel_rfl) (by kernel_rfl) (by kernel_rfl) (by kernel_rfl)) ?_
  intro W base args ds gs before hval hW _ hreach _ _
  exact Texts.contract H enc W base args ds gs before hval hW hreach

theorem Texts.holds : Rows.QueryTextsSaid :=
  OpenClaim.holds_of_wide 3 Tryz.f3 rfl rfl rfl rfl rfl rfl rfl ⟨rfl, rfl, rfl, rfl, rfl⟩ rfl rfl rfl rfl rfl (by kernel_rfl) Tryz.func3 (by kernel_rfl)
    (of_decide_eq_true (by kernel_rfl)) (by unfold Func.isWrapper; first | (rw [if_pos (by decide +kernel)]; kernel_rfl) | (rw [if_neg (by decide +kernel)]; exact ⟨rfl, rfl⟩))
    (fun os started H enc _ => Texts.lifted os started H enc)
end Go.Proofs.YtpnbdnfgdiakhaaGreat
