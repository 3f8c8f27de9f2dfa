/-
  The document's to: those of a label.
-/
import Derived.Test.YtpnbdnfgdiakhaaGreatMQug
namespace Go.Proofs.YtpnbdnfgdiakhaaGreat
open Go.RowKit Go.Sep
set_option linter.unusedSimpArgs false
set_option linter.unusedVariables false
attribute [local irreducible] Go.Oper.wp Go.wpList Go.Calls Go.Code.wp Go.Sep.Reg
attribute [local irreducible] IsG
set_option maxRecDepth 20000 in
set_option maxHeartbeats 8000000 in
theorem to_label {W w : World} {M : List Asrt} {pv lb q0 : Nat} {G : Gr} {an : Option Addr} {cn : Nat} {ae : Option Addr} {ce d : Nat} (hG : G.Ok) (n : Nat) (u : Value) (ks : List StepD) (S : Nat → Bool) (va : Value) (hn8 : n < 8) (hu : ∃ ao n c, u = .slice ao n c) (hv : ∀ w L', Sat W w (L' ++ M) → Rd w va G.N.length 1 (bl S G.N.length)) (hS : Sat W w (vrs pv lb q0 G an cn ae ce M)) :
    Calls Tryz.prog 26 #[.pointer (some ⟨pv, 0, none⟩), .agg #[.int .i64 4, .int .i64 (n : Int), u], va] w fun e w' => ∃ v, e = .returned v ∧ ToPost W pv lb q0 G an cn ae ce (d + 1) M (.mk 4 (n : Int) u ks) S v w' := by
  obtain ⟨ao, nu, c, rfl⟩ := hu
  have hti : (n : Int) < 8 := by omega
  have hnl : (G.N.length : Int) ≤ 4096 := by have := hG.len; omega
  have HTO := Lib.hid (keep_to (S := S) (label_rel d (G := G) n (.slice ao nu c) ks))
  obtain ⟨av, cv, rfl, _, hcv, _, h5⟩ := hv w [_, _, _, _, _] hS
  have HV := Lib.hid hv
  have H5 := Lib.hid (show 0 < G.N.length → ∃ b off, av = some ⟨b, off, none⟩ from fun h => by obtain ⟨b, off, h1, _⟩ := h5 h; exact ⟨b, off, h1⟩)
  have HAN := Lib.hid (fun (w : World) (h : Sat W w (Cs pv 74 [.pointer (some ⟨q0, 0, none⟩), .slice (some ⟨lb, 0, none⟩) G.N.length G.N.length] :: Cs lb 3 (il G.lab G.N.length) :: Cs q0 53 [.slice an G.N.length cn, .slice (ae) G.E.length ce] :: Tb 60 6 nv (.slice an G.N.length cn) G.N :: Tb 83 2 ev (.slice (ae) G.E.length ce) G.E :: M)) (h0 : 0 < G.N.length) => h.tbAddr (k := 3) rfl h0)
  obtain ⟨B, hB⟩ : ∃ B, (fun t => S t && ((G.lab t).testBit n)) = B := ⟨_, rfl⟩
  have HB := Lib.hid hB
  rw [hB] at HTO
  clear hv h5 hG hB
  unfold vrs at hS
  go_enter Tryz.func26, Tryz.ntmps26
  go_wp2_with ((first
    | (refine toList (by rfl) ?_; refine bx (show Sat W _ (Cs pv _ _ :: _) from hS) _ _ (by rfl) _ (by first | exact evC | exact evT (by rfl)) ?_; intro p4 w1 hS1; clear hS; have hS := (show Sat W w1 (Cs p4 27 [.int .i64 4, .int .i64 (n : Int), .slice ao nu c] :: Cs pv 74 [.pointer (some ⟨q0, 0, none⟩), .slice (some ⟨lb, 0, none⟩) G.N.length G.N.length] :: Cs lb 3 (il G.lab G.N.length) :: Cs q0 53 [.slice an G.N.length cn, .slice (ae) G.E.length ce] :: Tb 60 6 nv (.slice an G.N.length cn) G.N :: Tb 83 2 ev (.slice (ae) G.E.length ce) G.E :: M) from hS1); clear hS1)
    | (refine toList (by rfl) ?_; refine mk hS _ _ _ (by rfl) G.N.length G.N.length _ _ (by rfl) (by rfl) (elOf (by rfl)) (by omega) (by omega) (by omega) ?_; intro o w1 hS1; clear hS; have hS := hS1; clear hS1; rw [made_bool] at hS)
    | (refine toList (by rfl) ?_; refine ld hS _ _ (by rfl) _ _ (by rfl) (agOf (by rfl)) ((Has.s Has.z)) (by rfl) ?_)))
  rw [upB_zero B] at hS
  have H0 := Lib.hid hS
  go_loopw [10] (fun v wz => ∃ i : Nat, v = .int .i64 i ∧ i ≤ G.N.length ∧ Sat W wz (Cs o 4 (bl (upB B i) G.N.length) :: Cs p4 27 [.int .i64 4, .int .i64 (n : Int), .slice ao nu c] :: Cs pv 74 [.pointer (some ⟨q0, 0, none⟩), .slice (some ⟨lb, 0, none⟩) G.N.length G.N.length] :: Cs lb 3 (il G.lab G.N.length) :: Cs q0 53 [.slice an G.N.length cn, .slice (ae) G.E.length ce] :: Tb 60 6 nv (.slice an G.N.length cn) G.N :: Tb 83 2 ev (.slice (ae) G.E.length ce) G.E :: M)) (fun v _ => G.N.length - (intOf v).toNat)
  case atStart => exact ⟨0, rfl, by omega, H0.out⟩
  case round =>
    clear hS H0
    obtain ⟨i, rfl, hi, hS⟩ := hrel
    by_cases hlt : i < G.N.length
    · have k1 : (i : Int) < (G.N.length : Int) := by omega
      have HLT := Lib.hid hlt
      obtain ⟨⟨x1, x2, x3, x4, x5, x6⟩, he⟩ : ∃ e, G.N[i]? = some e := ⟨_, List.getElem?_eq_getElem hlt⟩
      have HE := Lib.hid he
      have HA := Lib.hid (il_at (f := G.lab) hlt)
      obtain ⟨be, oe, c', hve, _⟩ := HAN.out _ hS.drop.drop (by omega)
      simp only [Value.slice.injEq, true_and] at hve
      obtain ⟨rfl, rfl⟩ := hve
      obtain ⟨bv, ov, rfl⟩ := H5.out (by omega)
      have hnd := Gr.nodeI_at he
      cases hs : S i with
      | false =>
        have HX := Lib.hid (show (bl S G.N.length)[i]? = some (.bool false) by rw [bl_at hlt, hs])
        have HPUT := Lib.hid (upB_put (S := B) (v := false) hlt (by rw [← HB.out]; simp [hs]))
        clear he hlt hi hs hnd
        as_aux_lemma =>
          go_wp2_with ((first
            | (refine toList (by rfl) ?_; refine ld hS _ _ (by rfl) _ _ (by rfl) (agOf (by rfl)) ((Has.s (Has.s Has.z))) (by rfl) ?_)
            | (refine toList (by rfl) ?_; refine ld hS _ _ (by rfl) _ _ (by rfl) (agOf (by rfl)) ((Has.s (Has.s (Has.s (Has.s Has.z))))) (by rfl) ?_)
            | (refine toList (by rfl) ?_; refine ldTbA hS _ _ (by rfl) _ _ (by rfl) (agOf (by rfl)) (szOf (by rfl)) (Has.s (Has.s (Has.s (Has.s (Has.s Has.z))))) i (by omega) HE.out ?_)
            | (refine toList (by rfl) ?_; refine al hS _ (by rfl) (zrOf (by rfl)) ?_; intro px w1 hS1; clear hS; have hS := hS1; clear hS1)
            | (refine toList (by rfl) ?_; refine stW hS _ _ _ (by rfl) (by rfl) (nv ⟨x1, x2, x3, x4, x5, x6⟩) (by rfl) (by exact nv_all _) (szOf (by rfl)) Has.z rfl ?_; intro w1 hS1; clear hS; have hS := hS1; clear hS1; dsimp only [List.set_cons_zero] at hS)))
          refine regStart [49] hS (by kernel_rfl) rfl ?_
          intro w1 hS1
          clear hS; have hS := hS1; clear hS1
          (refine rgP 0 hS (fun _ h => h) ?_; go_frame)
          (refine rgP 1 hS (fun _ h => h) ?_; go_frame)
          (refine rgP 2 hS (fun _ h => h) ?_; go_frame)
          (refine rgP 3 hS (fun _ h => h) ?_; go_frame)
          (refine rgP 4 hS (fun _ h => h) ?_; go_frame)
          (refine rgR 5 hS (fun _ h => h) ?_; ((first
                                | refine ⟨_, fun u hu => rLdRd1 (HV.out u (_ :: _ :: _ :: _ :: _ :: _ :: _ :: [_]) hu) _ _ (by rfl) _ (by rfl) (agOf (by rfl)) i (by omega) HX.out (by omega), ?_⟩
                                | refine ⟨_, yLd _ _ (by rfl) _ _ (by rfl) (agOf (by rfl)) (Has.s (Has.s Has.z)) (by rfl), ?_⟩
                                | refine ⟨_, yLd _ _ (by rfl) _ _ (by rfl) (agOf (by rfl)) Has.z (by rfl), ?_⟩
                                | refine ⟨_, yLd _ _ (by rfl) _ _ (by rfl) (agOf (by rfl)) (Has.s (Has.s (Has.s Has.z))) (by rfl), ?_⟩
                                | refine ⟨_, yLd _ _ (by rfl) _ _ (by rfl) (agOf (by rfl)) (Has.s (Has.s (Has.s (Has.s Has.z)))) (by exact HA.out), ?_⟩)); go_frame)
          (refine rgP 6 hS (fun _ h => h) ?_; go_frame)
          (first | (refine rgP 7 hS (fun _ h => h) ?_; go_frame) | (refine rgN 7 hS (fun _ h => h) ?_; go_frame))
          (first | (refine rgR 8 hS (fun _ h => h) ?_; ((first
                                | refine ⟨_, fun u hu => rLdRd1 (HV.out u (_ :: _ :: _ :: _ :: _ :: _ :: _ :: [_]) hu) _ _ (by rfl) _ (by rfl) (agOf (by rfl)) i (by omega) HX.out (by omega), ?_⟩
                                | refine ⟨_, yLd _ _ (by rfl) _ _ (by rfl) (agOf (by rfl)) (Has.s (Has.s Has.z)) (by rfl), ?_⟩
                                | refine ⟨_, yLd _ _ (by rfl) _ _ (by rfl) (agOf (by rfl)) Has.z (by rfl), ?_⟩
                                | refine ⟨_, yLd _ _ (by rfl) _ _ (by rfl) (agOf (by rfl)) (Has.s (Has.s (Has.s Has.z))) (by rfl), ?_⟩
                                | refine ⟨_, yLd _ _ (by rfl) _ _ (by rfl) (agOf (by rfl)) (Has.s (Has.s (Has.s (Has.s Has.z)))) (by exact HA.out), ?_⟩)); go_frame) | (refine rgN 8 hS (fun _ h => h) ?_; go_frame))
          (first | (refine rgP 9 hS (fun _ h => h) ?_; go_frame) | (refine rgN 9 hS (fun _ h => h) ?_; go_frame))
          (first | (refine rgP 10 hS (fun _ h => h) ?_; go_frame) | (refine rgN 10 hS (fun _ h => h) ?_; go_frame))
          (first | (refine rgP 11 hS (fun _ h => h) ?_; go_frame) | (refine rgN 11 hS (fun _ h => h) ?_; go_frame))
          (first | (refine rgR 12 hS (fun _ h => h) ?_; ((first
                                | refine ⟨_, fun u hu => rLdRd1 (HV.out u (_ :: _ :: _ :: _ :: _ :: _ :: _ :: [_]) hu) _ _ (by rfl) _ (by rfl) (agOf (by rfl)) i (by omega) HX.out (by omega), ?_⟩
                                | refine ⟨_, yLd _ _ (by rfl) _ _ (by rfl) (agOf (by rfl)) (Has.s (Has.s Has.z)) (by rfl), ?_⟩
                                | refine ⟨_, yLd _ _ (by rfl) _ _ (by rfl) (agOf (by rfl)) Has.z (by rfl), ?_⟩
                                | refine ⟨_, yLd _ _ (by rfl) _ _ (by rfl) (agOf (by rfl)) (Has.s (Has.s (Has.s Has.z))) (by rfl), ?_⟩
                                | refine ⟨_, yLd _ _ (by rfl) _ _ (by rfl) (agOf (by rfl)) (Has.s (Has.s (Has.s (Has.s Has.z)))) (by exact HA.out), ?_⟩)); go_frame) | (refine rgN 12 hS (fun _ h => h) ?_; go_frame))
          (first | (refine rgP 13 hS (fun _ h => h) ?_; go_frame) | (refine rgN 13 hS (fun _ h => h) ?_; go_frame))
          (first | (refine rgR 14 hS (fun _ h => h) ?_; ((first
                                | refine ⟨_, fun u hu => rLdRd1 (HV.out u (_ :: _ :: _ :: _ :: _ :: _ :: _ :: [_]) hu) _ _ (by rfl) _ (by rfl) (agOf (by rfl)) i (by omega) HX.out (by omega), ?_⟩
                                | refine ⟨_, yLd _ _ (by rfl) _ _ (by rfl) (agOf (by rfl)) (Has.s (Has.s Has.z)) (by rfl), ?_⟩
                                | refine ⟨_, yLd _ _ (by rfl) _ _ (by rfl) (agOf (by rfl)) Has.z (by rfl), ?_⟩
                                | refine ⟨_, yLd _ _ (by rfl) _ _ (by rfl) (agOf (by rfl)) (Has.s (Has.s (Has.s Has.z))) (by rfl), ?_⟩
                                | refine ⟨_, yLd _ _ (by rfl) _ _ (by rfl) (agOf (by rfl)) (Has.s (Has.s (Has.s (Has.s Has.z)))) (by exact HA.out), ?_⟩)); go_frame) | (refine rgN 14 hS (fun _ h => h) ?_; go_frame))
          (first | (refine rgP 15 hS (fun _ h => h) ?_; go_frame) | (refine rgN 15 hS (fun _ h => h) ?_; go_frame))
          (first | (refine rgP 16 hS (fun _ h => h) ?_; go_frame) | (refine rgN 16 hS (fun _ h => h) ?_; go_frame))
          (first | (refine rgP 17 hS (fun _ h => h) ?_; go_frame) | (refine rgN 17 hS (fun _ h => h) ?_; go_frame))
          (first | (refine rgP 18 hS (fun _ h => h) ?_; go_frame) | (refine rgN 18 hS (fun _ h => h) ?_; go_frame))
          (first | (refine rgR 19 hS (fun _ h => h) ?_; ((first
                                | refine ⟨_, fun u hu => rLdRd1 (HV.out u (_ :: _ :: _ :: _ :: _ :: _ :: _ :: [_]) hu) _ _ (by rfl) _ (by rfl) (agOf (by rfl)) i (by omega) HX.out (by omega), ?_⟩
                                | refine ⟨_, yLd _ _ (by rfl) _ _ (by rfl) (agOf (by rfl)) (Has.s (Has.s Has.z)) (by rfl), ?_⟩
                                | refine ⟨_, yLd _ _ (by rfl) _ _ (by rfl) (agOf (by rfl)) Has.z (by rfl), ?_⟩
                                | refine ⟨_, yLd _ _ (by rfl) _ _ (by rfl) (agOf (by rfl)) (Has.s (Has.s (Has.s Has.z))) (by rfl), ?_⟩
                                | refine ⟨_, yLd _ _ (by rfl) _ _ (by rfl) (agOf (by rfl)) (Has.s (Has.s (Has.s (Has.s Has.z)))) (by exact HA.out), ?_⟩)); go_frame) | (refine rgN 19 hS (fun _ h => h) ?_; go_frame))
          (first | (refine rgP 20 hS (fun _ h => h) ?_; go_frame) | (refine rgN 20 hS (fun _ h => h) ?_; go_frame))
          (first | (refine rgP 21 hS (fun _ h => h) ?_; go_frame) | (refine rgN 21 hS (fun _ h => h) ?_; go_frame))
          (first | (refine rgP 22 hS (fun _ h => h) ?_; go_frame) | (refine rgN 22 hS (fun _ h => h) ?_; go_frame))
          (first | (refine rgP 23 hS (fun _ h => h) ?_; go_frame) | (refine rgN 23 hS (fun _ h => h) ?_; go_frame))
          (first | (refine rgP 24 hS (fun _ h => h) ?_; go_frame) | (refine rgN 24 hS (fun _ h => h) ?_; go_frame))
          (first | (refine rgR 25 hS (fun _ h => h) ?_; ((first
                                | refine ⟨_, fun u hu => rLdRd1 (HV.out u (_ :: _ :: _ :: _ :: _ :: _ :: _ :: [_]) hu) _ _ (by rfl) _ (by rfl) (agOf (by rfl)) i (by omega) HX.out (by omega), ?_⟩
                                | refine ⟨_, yLd _ _ (by rfl) _ _ (by rfl) (agOf (by rfl)) (Has.s (Has.s Has.z)) (by rfl), ?_⟩
                                | refine ⟨_, yLd _ _ (by rfl) _ _ (by rfl) (agOf (by rfl)) Has.z (by rfl), ?_⟩
                                | refine ⟨_, yLd _ _ (by rfl) _ _ (by rfl) (agOf (by rfl)) (Has.s (Has.s (Has.s Has.z))) (by rfl), ?_⟩
                                | refine ⟨_, yLd _ _ (by rfl) _ _ (by rfl) (agOf (by rfl)) (Has.s (Has.s (Has.s (Has.s Has.z)))) (by exact HA.out), ?_⟩)); go_frame) | (refine rgN 25 hS (fun _ h => h) ?_; go_frame))
          (first | (refine rgP 26 hS (fun _ h => h) ?_; go_frame) | (refine rgN 26 hS (fun _ h => h) ?_; go_frame))
          (first | (refine rgP 27 hS (fun _ h => h) ?_; go_frame) | (refine rgN 27 hS (fun _ h => h) ?_; go_frame))
          (first | (refine rgR 28 hS (fun _ h => h) ?_; ((first
                                | refine ⟨_, fun u hu => rLdRd1 (HV.out u (_ :: _ :: _ :: _ :: _ :: _ :: _ :: [_]) hu) _ _ (by rfl) _ (by rfl) (agOf (by rfl)) i (by omega) HX.out (by omega), ?_⟩
                                | refine ⟨_, yLd _ _ (by rfl) _ _ (by rfl) (agOf (by rfl)) (Has.s (Has.s Has.z)) (by rfl), ?_⟩
                                | refine ⟨_, yLd _ _ (by rfl) _ _ (by rfl) (agOf (by rfl)) Has.z (by rfl), ?_⟩
                                | refine ⟨_, yLd _ _ (by rfl) _ _ (by rfl) (agOf (by rfl)) (Has.s (Has.s (Has.s Has.z))) (by rfl), ?_⟩
                                | refine ⟨_, yLd _ _ (by rfl) _ _ (by rfl) (agOf (by rfl)) (Has.s (Has.s (Has.s (Has.s Has.z)))) (by exact HA.out), ?_⟩)); go_frame) | (refine rgN 28 hS (fun _ h => h) ?_; go_frame))
          (first | (refine rgP 29 hS (fun _ h => h) ?_; go_frame) | (refine rgN 29 hS (fun _ h => h) ?_; go_frame))
          (first | (refine rgR 30 hS (fun _ h => h) ?_; ((first
                                | refine ⟨_, fun u hu => rLdRd1 (HV.out u (_ :: _ :: _ :: _ :: _ :: _ :: _ :: [_]) hu) _ _ (by rfl) _ (by rfl) (agOf (by rfl)) i (by omega) HX.out (by omega), ?_⟩
                                | refine ⟨_, yLd _ _ (by rfl) _ _ (by rfl) (agOf (by rfl)) (Has.s (Has.s Has.z)) (by rfl), ?_⟩
                                | refine ⟨_, yLd _ _ (by rfl) _ _ (by rfl) (agOf (by rfl)) Has.z (by rfl), ?_⟩
                                | refine ⟨_, yLd _ _ (by rfl) _ _ (by rfl) (agOf (by rfl)) (Has.s (Has.s (Has.s Has.z))) (by rfl), ?_⟩
                                | refine ⟨_, yLd _ _ (by rfl) _ _ (by rfl) (agOf (by rfl)) (Has.s (Has.s (Has.s (Has.s Has.z)))) (by exact HA.out), ?_⟩)); go_frame) | (refine rgN 30 hS (fun _ h => h) ?_; go_frame))
          (first | (refine rgP 31 hS (fun _ h => h) ?_; go_frame) | (refine rgN 31 hS (fun _ h => h) ?_; go_frame))
          (first | (refine rgP 32 hS (fun _ h => h) ?_; go_frame) | (refine rgN 32 hS (fun _ h => h) ?_; go_frame))
          (first | (refine rgP 33 hS (fun _ h => h) ?_; go_frame) | (refine rgN 33 hS (fun _ h => h) ?_; go_frame))
          (first | (refine rgP 34 hS (fun _ h => h) ?_; go_frame) | (refine rgN 34 hS (fun _ h => h) ?_; go_frame))
          (first | (refine rgP 35 hS (fun _ h => h) ?_; go_frame) | (refine rgN 35 hS (fun _ h => h) ?_; go_frame))
          (first | (refine rgP 36 hS (fun _ h => h) ?_; go_frame) | (refine rgN 36 hS (fun _ h => h) ?_; go_frame))
          (first | (refine rgP 37 hS (fun _ h => h) ?_; go_frame) | (refine rgN 37 hS (fun _ h => h) ?_; go_frame))
          (first | (refine rgP 38 hS (fun _ h => h) ?_; go_frame) | (refine rgN 38 hS (fun _ h => h) ?_; go_frame))
          (first | (refine rgR 39 hS (fun _ h => h) ?_; ((first
                                | refine ⟨_, fun u hu => rLdRd1 (HV.out u (_ :: _ :: _ :: _ :: _ :: _ :: _ :: [_]) hu) _ _ (by rfl) _ (by rfl) (agOf (by rfl)) i (by omega) HX.out (by omega), ?_⟩
                                | refine ⟨_, yLd _ _ (by rfl) _ _ (by rfl) (agOf (by rfl)) (Has.s (Has.s Has.z)) (by rfl), ?_⟩
                                | refine ⟨_, yLd _ _ (by rfl) _ _ (by rfl) (agOf (by rfl)) Has.z (by rfl), ?_⟩
                                | refine ⟨_, yLd _ _ (by rfl) _ _ (by rfl) (agOf (by rfl)) (Has.s (Has.s (Has.s Has.z))) (by rfl), ?_⟩
                                | refine ⟨_, yLd _ _ (by rfl) _ _ (by rfl) (agOf (by rfl)) (Has.s (Has.s (Has.s (Has.s Has.z)))) (by exact HA.out), ?_⟩)); go_frame) | (refine rgN 39 hS (fun _ h => h) ?_; go_frame))
          (first | (refine rgP 40 hS (fun _ h => h) ?_; go_frame) | (refine rgN 40 hS (fun _ h => h) ?_; go_frame))
          (first | (refine rgP 41 hS (fun _ h => h) ?_; go_frame) | (refine rgN 41 hS (fun _ h => h) ?_; go_frame))
          (first | (refine rgP 42 hS (fun _ h => h) ?_; go_frame) | (refine rgN 42 hS (fun _ h => h) ?_; go_frame))
          (first | (refine rgR 43 hS (fun _ h => h) ?_; ((first
                                | refine ⟨_, fun u hu => rLdRd1 (HV.out u (_ :: _ :: _ :: _ :: _ :: _ :: _ :: [_]) hu) _ _ (by rfl) _ (by rfl) (agOf (by rfl)) i (by omega) HX.out (by omega), ?_⟩
                                | refine ⟨_, yLd _ _ (by rfl) _ _ (by rfl) (agOf (by rfl)) (Has.s (Has.s Has.z)) (by rfl), ?_⟩
                                | refine ⟨_, yLd _ _ (by rfl) _ _ (by rfl) (agOf (by rfl)) Has.z (by rfl), ?_⟩
                                | refine ⟨_, yLd _ _ (by rfl) _ _ (by rfl) (agOf (by rfl)) (Has.s (Has.s (Has.s Has.z))) (by rfl), ?_⟩
                                | refine ⟨_, yLd _ _ (by rfl) _ _ (by rfl) (agOf (by rfl)) (Has.s (Has.s (Has.s (Has.s Has.z)))) (by exact HA.out), ?_⟩)); go_frame) | (refine rgN 43 hS (fun _ h => h) ?_; go_frame))
          (first | (refine rgP 44 hS (fun _ h => h) ?_; go_frame) | (refine rgN 44 hS (fun _ h => h) ?_; go_frame))
          (first | (refine rgP 45 hS (fun _ h => h) ?_; go_frame) | (refine rgN 45 hS (fun _ h => h) ?_; go_frame))
          (first | (refine rgP 46 hS (fun _ h => h) ?_; go_frame) | (refine rgN 46 hS (fun _ h => h) ?_; go_frame))
          (refine rgP 47 hS (fun _ h => h) ?_; go_frame)
          (refine rgP 48 hS (fun _ h => h) ?_; go_frame)
          (refine rgA 49 true fun K hK => ?_; ((refine Go.Sep.st hS _ _ _ (by rfl) _ _ (by rfl) (.bool false) (by rfl) (by rfl) (szOf (by rfl)) (Has.s Has.z) (by rw [bl_len]; exact HLT.out) ?_; intro w1 hS1; clear hS; have hS := hS1; clear hS1; simp only [List.set_cons_zero, List.set_cons_succ] at hS; rw [HPUT.out] at hS)); refine hK _ _ _ hS (by first | (intro h; cases h; done) | exact fun _ _ h => h | exact fun _ _ h => h.drop | exact fun _ _ h => h.drop.drop | exact fun _ _ h => h.drop.pull1 | exact fun _ _ h => h.take2 | exact fun _ _ h => h.one Has.z | exact fun _ _ h => h.one (Has.s Has.z) | exact fun _ _ h => h.one (Has.s (Has.s Has.z))) ?_; clear hK K; go_frame)
          refine regDone (by kernel_rfl) ?_
          go_wp2
          exact ⟨⟨i + 1, by go_num, HLT.out, hS.drop⟩, by simp [intOf]; have := HLT.out; omega⟩
      | true =>
        have HX := Lib.hid (show (bl S G.N.length)[i]? = some (.bool true) by rw [bl_at hlt, hs])
        have hsh : min (IntKind.u64.wrap (n : Int)).toNat 64 = n := by rw [IntWalk.u64_in _ (by omega)]; omega
        have ha := and_one (G.lab i) n (G.lab_lt i)
        have htb := Lib.hid (show B i = (G.lab i).testBit n by rw [← HB.out]; simp only [hs]; rfl)
        obtain ⟨y, hy⟩ : ∃ y, G.lab i = y := ⟨_, rfl⟩
        rw [hy] at HA ha htb
        have HY := Lib.hid (show y < 256 from hy ▸ G.lab_lt i)
        clear hy
        cases hr : y.testBit n with
        | true =>
          rw [hr, if_pos rfl] at ha
          have HPUT := Lib.hid (upB_put (S := B) (v := true) hlt (by rw [htb.out, hr]))
          clear he hlt hi hs hnd hr
          as_aux_lemma =>
            go_wp2_with ((first
              | (refine toList (by rfl) ?_; refine ld hS _ _ (by rfl) _ _ (by rfl) (agOf (by rfl)) ((Has.s (Has.s Has.z))) (by rfl) ?_)
              | (refine toList (by rfl) ?_; refine ld hS _ _ (by rfl) _ _ (by rfl) (agOf (by rfl)) ((Has.s (Has.s (Has.s (Has.s Has.z))))) (by rfl) ?_)
              | (refine toList (by rfl) ?_; refine ldTbA hS _ _ (by rfl) _ _ (by rfl) (agOf (by rfl)) (szOf (by rfl)) (Has.s (Has.s (Has.s (Has.s (Has.s Has.z))))) i (by omega) HE.out ?_)
              | (refine toList (by rfl) ?_; refine al hS _ (by rfl) (zrOf (by rfl)) ?_; intro px w1 hS1; clear hS; have hS := hS1; clear hS1)
              | (refine toList (by rfl) ?_; refine stW hS _ _ _ (by rfl) (by rfl) (nv ⟨x1, x2, x3, x4, x5, x6⟩) (by rfl) (by exact nv_all _) (szOf (by rfl)) Has.z rfl ?_; intro w1 hS1; clear hS; have hS := hS1; clear hS1; dsimp only [List.set_cons_zero] at hS)))
            refine regStart [49] hS (by kernel_rfl) rfl ?_
            intro w1 hS1
            clear hS; have hS := hS1; clear hS1
            (refine rgP 0 hS (fun _ h => h) ?_; go_frame)
            (refine rgP 1 hS (fun _ h => h) ?_; go_frame)
            (refine rgP 2 hS (fun _ h => h) ?_; go_frame)
            (refine rgP 3 hS (fun _ h => h) ?_; go_frame)
            (refine rgP 4 hS (fun _ h => h) ?_; go_frame)
            (refine rgR 5 hS (fun _ h => h) ?_; ((first
                                      | refine ⟨_, fun u hu => rLdRd1 (HV.out u (_ :: _ :: _ :: _ :: _ :: _ :: _ :: [_]) hu) _ _ (by rfl) _ (by rfl) (agOf (by rfl)) i (by omega) HX.out (by omega), ?_⟩
                                      | refine ⟨_, yLd _ _ (by rfl) _ _ (by rfl) (agOf (by rfl)) (Has.s (Has.s Has.z)) (by rfl), ?_⟩
                                      | refine ⟨_, yLd _ _ (by rfl) _ _ (by rfl) (agOf (by rfl)) Has.z (by rfl), ?_⟩
                                      | refine ⟨_, yLd _ _ (by rfl) _ _ (by rfl) (agOf (by rfl)) (Has.s (Has.s (Has.s Has.z))) (by rfl), ?_⟩
                                      | refine ⟨_, yLd _ _ (by rfl) _ _ (by rfl) (agOf (by rfl)) (Has.s (Has.s (Has.s (Has.s Has.z)))) (by exact HA.out), ?_⟩)); go_frame)
            (refine rgP 6 hS (fun _ h => h) ?_; go_frame)
            (first | (refine rgP 7 hS (fun _ h => h) ?_; go_frame) | (refine rgN 7 hS (fun _ h => h) ?_; go_frame))
            (first | (refine rgR 8 hS (fun _ h => h) ?_; ((first
                                      | refine ⟨_, fun u hu => rLdRd1 (HV.out u (_ :: _ :: _ :: _ :: _ :: _ :: _ :: [_]) hu) _ _ (by rfl) _ (by rfl) (agOf (by rfl)) i (by omega) HX.out (by omega), ?_⟩
                                      | refine ⟨_, yLd _ _ (by rfl) _ _ (by rfl) (agOf (by rfl)) (Has.s (Has.s Has.z)) (by rfl), ?_⟩
                                      | refine ⟨_, yLd _ _ (by rfl) _ _ (by rfl) (agOf (by rfl)) Has.z (by rfl), ?_⟩
                                      | refine ⟨_, yLd _ _ (by rfl) _ _ (by rfl) (agOf (by rfl)) (Has.s (Has.s (Has.s Has.z))) (by rfl), ?_⟩
                                      | refine ⟨_, yLd _ _ (by rfl) _ _ (by rfl) (agOf (by rfl)) (Has.s (Has.s (Has.s (Has.s Has.z)))) (by exact HA.out), ?_⟩)); go_frame) | (refine rgN 8 hS (fun _ h => h) ?_; go_frame))
            (first | (refine rgP 9 hS (fun _ h => h) ?_; go_frame) | (refine rgN 9 hS (fun _ h => h) ?_; go_frame))
            (first | (refine rgP 10 hS (fun _ h => h) ?_; go_frame) | (refine rgN 10 hS (fun _ h => h) ?_; go_frame))
            (first | (refine rgP 11 hS (fun _ h => h) ?_; go_frame) | (refine rgN 11 hS (fun _ h => h) ?_; go_frame))
            (first | (refine rgR 12 hS (fun _ h => h) ?_; ((first
                                      | refine ⟨_, fun u hu => rLdRd1 (HV.out u (_ :: _ :: _ :: _ :: _ :: _ :: _ :: [_]) hu) _ _ (by rfl) _ (by rfl) (agOf (by rfl)) i (by omega) HX.out (by omega), ?_⟩
                                      | refine ⟨_, yLd _ _ (by rfl) _ _ (by rfl) (agOf (by rfl)) (Has.s (Has.s Has.z)) (by rfl), ?_⟩
                                      | refine ⟨_, yLd _ _ (by rfl) _ _ (by rfl) (agOf (by rfl)) Has.z (by rfl), ?_⟩
                                      | refine ⟨_, yLd _ _ (by rfl) _ _ (by rfl) (agOf (by rfl)) (Has.s (Has.s (Has.s Has.z))) (by rfl), ?_⟩
                                      | refine ⟨_, yLd _ _ (by rfl) _ _ (by rfl) (agOf (by rfl)) (Has.s (Has.s (Has.s (Has.s Has.z)))) (by exact HA.out), ?_⟩)); go_frame) | (refine rgN 12 hS (fun _ h => h) ?_; go_frame))
            (first | (refine rgP 13 hS (fun _ h => h) ?_; go_frame) | (refine rgN 13 hS (fun _ h => h) ?_; go_frame))
            (first | (refine rgR 14 hS (fun _ h => h) ?_; ((first
                                      | refine ⟨_, fun u hu => rLdRd1 (HV.out u (_ :: _ :: _ :: _ :: _ :: _ :: _ :: [_]) hu) _ _ (by rfl) _ (by rfl) (agOf (by rfl)) i (by omega) HX.out (by omega), ?_⟩
                                      | refine ⟨_, yLd _ _ (by rfl) _ _ (by rfl) (agOf (by rfl)) (Has.s (Has.s Has.z)) (by rfl), ?_⟩
                                      | refine ⟨_, yLd _ _ (by rfl) _ _ (by rfl) (agOf (by rfl)) Has.z (by rfl), ?_⟩
                                      | refine ⟨_, yLd _ _ (by rfl) _ _ (by rfl) (agOf (by rfl)) (Has.s (Has.s (Has.s Has.z))) (by rfl), ?_⟩
                                      | refine ⟨_, yLd _ _ (by rfl) _ _ (by rfl) (agOf (by rfl)) (Has.s (Has.s (Has.s (Has.s Has.z)))) (by exact HA.out), ?_⟩)); go_frame) | (refine rgN 14 hS (fun _ h => h) ?_; go_frame))
            (first | (refine rgP 15 hS (fun _ h => h) ?_; go_frame) | (refine rgN 15 hS (fun _ h => h) ?_; go_frame))
            (first | (refine rgP 16 hS (fun _ h => h) ?_; go_frame) | (refine rgN 16 hS (fun _ h => h) ?_; go_frame))
            (first | (refine rgP 17 hS (fun _ h => h) ?_; go_frame) | (refine rgN 17 hS (fun _ h => h) ?_; go_frame))
            (first | (refine rgP 18 hS (fun _ h => h) ?_; go_frame) | (refine rgN 18 hS (fun _ h => h) ?_; go_frame))
            (first | (refine rgR 19 hS (fun _ h => h) ?_; ((first
                                      | refine ⟨_, fun u hu => rLdRd1 (HV.out u (_ :: _ :: _ :: _ :: _ :: _ :: _ :: [_]) hu) _ _ (by rfl) _ (by rfl) (agOf (by rfl)) i (by omega) HX.out (by omega), ?_⟩
                                      | refine ⟨_, yLd _ _ (by rfl) _ _ (by rfl) (agOf (by rfl)) (Has.s (Has.s Has.z)) (by rfl), ?_⟩
                                      | refine ⟨_, yLd _ _ (by rfl) _ _ (by rfl) (agOf (by rfl)) Has.z (by rfl), ?_⟩
                                      | refine ⟨_, yLd _ _ (by rfl) _ _ (by rfl) (agOf (by rfl)) (Has.s (Has.s (Has.s Has.z))) (by rfl), ?_⟩
                                      | refine ⟨_, yLd _ _ (by rfl) _ _ (by rfl) (agOf (by rfl)) (Has.s (Has.s (Has.s (Has.s Has.z)))) (by exact HA.out), ?_⟩)); go_frame) | (refine rgN 19 hS (fun _ h => h) ?_; go_frame))
            (first | (refine rgP 20 hS (fun _ h => h) ?_; go_frame) | (refine rgN 20 hS (fun _ h => h) ?_; go_frame))
            (first | (refine rgP 21 hS (fun _ h => h) ?_; go_frame) | (refine rgN 21 hS (fun _ h => h) ?_; go_frame))
            (first | (refine rgP 22 hS (fun _ h => h) ?_; go_frame) | (refine rgN 22 hS (fun _ h => h) ?_; go_frame))
            (first | (refine rgP 23 hS (fun _ h => h) ?_; go_frame) | (refine rgN 23 hS (fun _ h => h) ?_; go_frame))
            (first | (refine rgP 24 hS (fun _ h => h) ?_; go_frame) | (refine rgN 24 hS (fun _ h => h) ?_; go_frame))
            (first | (refine rgR 25 hS (fun _ h => h) ?_; ((first
                                      | refine ⟨_, fun u hu => rLdRd1 (HV.out u (_ :: _ :: _ :: _ :: _ :: _ :: _ :: [_]) hu) _ _ (by rfl) _ (by rfl) (agOf (by rfl)) i (by omega) HX.out (by omega), ?_⟩
                                      | refine ⟨_, yLd _ _ (by rfl) _ _ (by rfl) (agOf (by rfl)) (Has.s (Has.s Has.z)) (by rfl), ?_⟩
                                      | refine ⟨_, yLd _ _ (by rfl) _ _ (by rfl) (agOf (by rfl)) Has.z (by rfl), ?_⟩
                                      | refine ⟨_, yLd _ _ (by rfl) _ _ (by rfl) (agOf (by rfl)) (Has.s (Has.s (Has.s Has.z))) (by rfl), ?_⟩
                                      | refine ⟨_, yLd _ _ (by rfl) _ _ (by rfl) (agOf (by rfl)) (Has.s (Has.s (Has.s (Has.s Has.z)))) (by exact HA.out), ?_⟩)); go_frame) | (refine rgN 25 hS (fun _ h => h) ?_; go_frame))
            (first | (refine rgP 26 hS (fun _ h => h) ?_; go_frame) | (refine rgN 26 hS (fun _ h => h) ?_; go_frame))
            (first | (refine rgP 27 hS (fun _ h => h) ?_; go_frame) | (refine rgN 27 hS (fun _ h => h) ?_; go_frame))
            (first | (refine rgR 28 hS (fun _ h => h) ?_; ((first
                                      | refine ⟨_, fun u hu => rLdRd1 (HV.out u (_ :: _ :: _ :: _ :: _ :: _ :: _ :: [_]) hu) _ _ (by rfl) _ (by rfl) (agOf (by rfl)) i (by omega) HX.out (by omega), ?_⟩
                                      | refine ⟨_, yLd _ _ (by rfl) _ _ (by rfl) (agOf (by rfl)) (Has.s (Has.s Has.z)) (by rfl), ?_⟩
                                      | refine ⟨_, yLd _ _ (by rfl) _ _ (by rfl) (agOf (by rfl)) Has.z (by rfl), ?_⟩
                                      | refine ⟨_, yLd _ _ (by rfl) _ _ (by rfl) (agOf (by rfl)) (Has.s (Has.s (Has.s Has.z))) (by rfl), ?_⟩
                                      | refine ⟨_, yLd _ _ (by rfl) _ _ (by rfl) (agOf (by rfl)) (Has.s (Has.s (Has.s (Has.s Has.z)))) (by exact HA.out), ?_⟩)); go_frame) | (refine rgN 28 hS (fun _ h => h) ?_; go_frame))
            (first | (refine rgP 29 hS (fun _ h => h) ?_; go_frame) | (refine rgN 29 hS (fun _ h => h) ?_; go_frame))
            (first | (refine rgR 30 hS (fun _ h => h) ?_; ((first
                                      | refine ⟨_, fun u hu => rLdRd1 (HV.out u (_ :: _ :: _ :: _ :: _ :: _ :: _ :: [_]) hu) _ _ (by rfl) _ (by rfl) (agOf (by rfl)) i (by omega) HX.out (by omega), ?_⟩
                                      | refine ⟨_, yLd _ _ (by rfl) _ _ (by rfl) (agOf (by rfl)) (Has.s (Has.s Has.z)) (by rfl), ?_⟩
                                      | refine ⟨_, yLd _ _ (by rfl) _ _ (by rfl) (agOf (by rfl)) Has.z (by rfl), ?_⟩
                                      | refine ⟨_, yLd _ _ (by rfl) _ _ (by rfl) (agOf (by rfl)) (Has.s (Has.s (Has.s Has.z))) (by rfl), ?_⟩
                                      | refine ⟨_, yLd _ _ (by rfl) _ _ (by rfl) (agOf (by rfl)) (Has.s (Has.s (Has.s (Has.s Has.z)))) (by exact HA.out), ?_⟩)); go_frame) | (refine rgN 30 hS (fun _ h => h) ?_; go_frame))
            (first | (refine rgP 31 hS (fun _ h => h) ?_; go_frame) | (refine rgN 31 hS (fun _ h => h) ?_; go_frame))
            (first | (refine rgP 32 hS (fun _ h => h) ?_; go_frame) | (refine rgN 32 hS (fun _ h => h) ?_; go_frame))
            (first | (refine rgP 33 hS (fun _ h => h) ?_; go_frame) | (refine rgN 33 hS (fun _ h => h) ?_; go_frame))
            (first | (refine rgP 34 hS (fun _ h => h) ?_; go_frame) | (refine rgN 34 hS (fun _ h => h) ?_; go_frame))
            (first | (refine rgP 35 hS (fun _ h => h) ?_; go_frame) | (refine rgN 35 hS (fun _ h => h) ?_; go_frame))
            (first | (refine rgP 36 hS (fun _ h => h) ?_; go_frame) | (refine rgN 36 hS (fun _ h => h) ?_; go_frame))
            (first | (refine rgP 37 hS (fun _ h => h) ?_; go_frame) | (refine rgN 37 hS (fun _ h => h) ?_; go_frame))
            (first | (refine rgP 38 hS (fun _ h => h) ?_; go_frame) | (refine rgN 38 hS (fun _ h => h) ?_; go_frame))
            (first | (refine rgR 39 hS (fun _ h => h) ?_; ((first
                                      | refine ⟨_, fun u hu => rLdRd1 (HV.out u (_ :: _ :: _ :: _ :: _ :: _ :: _ :: [_]) hu) _ _ (by rfl) _ (by rfl) (agOf (by rfl)) i (by omega) HX.out (by omega), ?_⟩
                                      | refine ⟨_, yLd _ _ (by rfl) _ _ (by rfl) (agOf (by rfl)) (Has.s (Has.s Has.z)) (by rfl), ?_⟩
                                      | refine ⟨_, yLd _ _ (by rfl) _ _ (by rfl) (agOf (by rfl)) Has.z (by rfl), ?_⟩
                                      | refine ⟨_, yLd _ _ (by rfl) _ _ (by rfl) (agOf (by rfl)) (Has.s (Has.s (Has.s Has.z))) (by rfl), ?_⟩
                                      | refine ⟨_, yLd _ _ (by rfl) _ _ (by rfl) (agOf (by rfl)) (Has.s (Has.s (Has.s (Has.s Has.z)))) (by exact HA.out), ?_⟩)); go_frame) | (refine rgN 39 hS (fun _ h => h) ?_; go_frame))
            (first | (refine rgP 40 hS (fun _ h => h) ?_; go_frame) | (refine rgN 40 hS (fun _ h => h) ?_; go_frame))
            (first | (refine rgP 41 hS (fun _ h => h) ?_; go_frame) | (refine rgN 41 hS (fun _ h => h) ?_; go_frame))
            (first | (refine rgP 42 hS (fun _ h => h) ?_; go_frame) | (refine rgN 42 hS (fun _ h => h) ?_; go_frame))
            (first | (refine rgR 43 hS (fun _ h => h) ?_; ((first
                                      | refine ⟨_, fun u hu => rLdRd1 (HV.out u (_ :: _ :: _ :: _ :: _ :: _ :: _ :: [_]) hu) _ _ (by rfl) _ (by rfl) (agOf (by rfl)) i (by omega) HX.out (by omega), ?_⟩
                                      | refine ⟨_, yLd _ _ (by rfl) _ _ (by rfl) (agOf (by rfl)) (Has.s (Has.s Has.z)) (by rfl), ?_⟩
                                      | refine ⟨_, yLd _ _ (by rfl) _ _ (by rfl) (agOf (by rfl)) Has.z (by rfl), ?_⟩
                                      | refine ⟨_, yLd _ _ (by rfl) _ _ (by rfl) (agOf (by rfl)) (Has.s (Has.s (Has.s Has.z))) (by rfl), ?_⟩
                                      | refine ⟨_, yLd _ _ (by rfl) _ _ (by rfl) (agOf (by rfl)) (Has.s (Has.s (Has.s (Has.s Has.z)))) (by exact HA.out), ?_⟩)); go_frame) | (refine rgN 43 hS (fun _ h => h) ?_; go_frame))
            (first | (refine rgP 44 hS (fun _ h => h) ?_; go_frame) | (refine rgN 44 hS (fun _ h => h) ?_; go_frame))
            (first | (refine rgP 45 hS (fun _ h => h) ?_; go_frame) | (refine rgN 45 hS (fun _ h => h) ?_; go_frame))
            (first | (refine rgP 46 hS (fun _ h => h) ?_; go_frame) | (refine rgN 46 hS (fun _ h => h) ?_; go_frame))
            (refine rgP 47 hS (fun _ h => h) ?_; go_frame)
            (refine rgP 48 hS (fun _ h => h) ?_; go_frame)
            (refine rgA 49 true fun K hK => ?_; ((refine Go.Sep.st hS _ _ _ (by rfl) _ _ (by rfl) (.bool true) (by rfl) (by rfl) (szOf (by rfl)) (Has.s Has.z) (by rw [bl_len]; exact HLT.out) ?_; intro w1 hS1; clear hS; have hS := hS1; clear hS1; simp only [List.set_cons_zero, List.set_cons_succ] at hS; rw [HPUT.out] at hS)); refine hK _ _ _ hS (by first | (intro h; cases h; done) | exact fun _ _ h => h | exact fun _ _ h => h.drop | exact fun _ _ h => h.drop.drop | exact fun _ _ h => h.drop.pull1 | exact fun _ _ h => h.take2 | exact fun _ _ h => h.one Has.z | exact fun _ _ h => h.one (Has.s Has.z) | exact fun _ _ h => h.one (Has.s (Has.s Has.z))) ?_; clear hK K; go_frame)
            refine regDone (by kernel_rfl) ?_
            go_wp2
            exact ⟨⟨i + 1, by go_num, HLT.out, hS.drop⟩, by simp [intOf]; have := HLT.out; omega⟩
        | false =>
          rw [hr, if_neg (by decide)] at ha
          have HPUT := Lib.hid (upB_put (S := B) (v := false) hlt (by rw [htb.out, hr]))
          clear he hlt hi hs hnd hr
          as_aux_lemma =>
            go_wp2_with ((first
              | (refine toList (by rfl) ?_; refine ld hS _ _ (by rfl) _ _ (by rfl) (agOf (by rfl)) ((Has.s (Has.s Has.z))) (by rfl) ?_)
              | (refine toList (by rfl) ?_; refine ld hS _ _ (by rfl) _ _ (by rfl) (agOf (by rfl)) ((Has.s (Has.s (Has.s (Has.s Has.z))))) (by rfl) ?_)
              | (refine toList (by rfl) ?_; refine ldTbA hS _ _ (by rfl) _ _ (by rfl) (agOf (by rfl)) (szOf (by rfl)) (Has.s (Has.s (Has.s (Has.s (Has.s Has.z))))) i (by omega) HE.out ?_)
              | (refine toList (by rfl) ?_; refine al hS _ (by rfl) (zrOf (by rfl)) ?_; intro px w1 hS1; clear hS; have hS := hS1; clear hS1)
              | (refine toList (by rfl) ?_; refine stW hS _ _ _ (by rfl) (by rfl) (nv ⟨x1, x2, x3, x4, x5, x6⟩) (by rfl) (by exact nv_all _) (szOf (by rfl)) Has.z rfl ?_; intro w1 hS1; clear hS; have hS := hS1; clear hS1; dsimp only [List.set_cons_zero] at hS)))
            refine regStart [49] hS (by kernel_rfl) rfl ?_
            intro w1 hS1
            clear hS; have hS := hS1; clear hS1
            (refine rgP 0 hS (fun _ h => h) ?_; go_frame)
            (refine rgP 1 hS (fun _ h => h) ?_; go_frame)
            (refine rgP 2 hS (fun _ h => h) ?_; go_frame)
            (refine rgP 3 hS (fun _ h => h) ?_; go_frame)
            (refine rgP 4 hS (fun _ h => h) ?_; go_frame)
            (refine rgR 5 hS (fun _ h => h) ?_; ((first
                                      | refine ⟨_, fun u hu => rLdRd1 (HV.out u (_ :: _ :: _ :: _ :: _ :: _ :: _ :: [_]) hu) _ _ (by rfl) _ (by rfl) (agOf (by rfl)) i (by omega) HX.out (by omega), ?_⟩
                                      | refine ⟨_, yLd _ _ (by rfl) _ _ (by rfl) (agOf (by rfl)) (Has.s (Has.s Has.z)) (by rfl), ?_⟩
                                      | refine ⟨_, yLd _ _ (by rfl) _ _ (by rfl) (agOf (by rfl)) Has.z (by rfl), ?_⟩
                                      | refine ⟨_, yLd _ _ (by rfl) _ _ (by rfl) (agOf (by rfl)) (Has.s (Has.s (Has.s Has.z))) (by rfl), ?_⟩
                                      | refine ⟨_, yLd _ _ (by rfl) _ _ (by rfl) (agOf (by rfl)) (Has.s (Has.s (Has.s (Has.s Has.z)))) (by exact HA.out), ?_⟩)); go_frame)
            (refine rgP 6 hS (fun _ h => h) ?_; go_frame)
            (first | (refine rgP 7 hS (fun _ h => h) ?_; go_frame) | (refine rgN 7 hS (fun _ h => h) ?_; go_frame))
            (first | (refine rgR 8 hS (fun _ h => h) ?_; ((first
                                      | refine ⟨_, fun u hu => rLdRd1 (HV.out u (_ :: _ :: _ :: _ :: _ :: _ :: _ :: [_]) hu) _ _ (by rfl) _ (by rfl) (agOf (by rfl)) i (by omega) HX.out (by omega), ?_⟩
                                      | refine ⟨_, yLd _ _ (by rfl) _ _ (by rfl) (agOf (by rfl)) (Has.s (Has.s Has.z)) (by rfl), ?_⟩
                                      | refine ⟨_, yLd _ _ (by rfl) _ _ (by rfl) (agOf (by rfl)) Has.z (by rfl), ?_⟩
                                      | refine ⟨_, yLd _ _ (by rfl) _ _ (by rfl) (agOf (by rfl)) (Has.s (Has.s (Has.s Has.z))) (by rfl), ?_⟩
                                      | refine ⟨_, yLd _ _ (by rfl) _ _ (by rfl) (agOf (by rfl)) (Has.s (Has.s (Has.s (Has.s Has.z)))) (by exact HA.out), ?_⟩)); go_frame) | (refine rgN 8 hS (fun _ h => h) ?_; go_frame))
            (first | (refine rgP 9 hS (fun _ h => h) ?_; go_frame) | (refine rgN 9 hS (fun _ h => h) ?_; go_frame))
            (first | (refine rgP 10 hS (fun _ h => h) ?_; go_frame) | (refine rgN 10 hS (fun _ h => h) ?_; go_frame))
            (first | (refine rgP 11 hS (fun _ h => h) ?_; go_frame) | (refine rgN 11 hS (fun _ h => h) ?_; go_frame))
            (first | (refine rgR 12 hS (fun _ h => h) ?_; ((first
                                      | refine ⟨_, fun u hu => rLdRd1 (HV.out u (_ :: _ :: _ :: _ :: _ :: _ :: _ :: [_]) hu) _ _ (by rfl) _ (by rfl) (agOf (by rfl)) i (by omega) HX.out (by omega), ?_⟩
                                      | refine ⟨_, yLd _ _ (by rfl) _ _ (by rfl) (agOf (by rfl)) (Has.s (Has.s Has.z)) (by rfl), ?_⟩
                                      | refine ⟨_, yLd _ _ (by rfl) _ _ (by rfl) (agOf (by rfl)) Has.z (by rfl), ?_⟩
                                      | refine ⟨_, yLd _ _ (by rfl) _ _ (by rfl) (agOf (by rfl)) (Has.s (Has.s (Has.s Has.z))) (by rfl), ?_⟩
                                      | refine ⟨_, yLd _ _ (by rfl) _ _ (by rfl) (agOf (by rfl)) (Has.s (Has.s (Has.s (Has.s Has.z)))) (by exact HA.out), ?_⟩)); go_frame) | (refine rgN 12 hS (fun _ h => h) ?_; go_frame))
            (first | (refine rgP 13 hS (fun _ h => h) ?_; go_frame) | (refine rgN 13 hS (fun _ h => h) ?_; go_frame))
            (first | (refine rgR 14 hS (fun _ h => h) ?_; ((first
                                      | refine ⟨_, fun u hu => rLdRd1 (HV.out u (_ :: _ :: _ :: _ :: _ :: _ :: _ :: [_]) hu) _ _ (by rfl) _ (by rfl) (agOf (by rfl)) i (by omega) HX.out (by omega), ?_⟩
                                      | refine ⟨_, yLd _ _ (by rfl) _ _ (by rfl) (agOf (by rfl)) (Has.s (Has.s Has.z)) (by rfl), ?_⟩
                                      | refine ⟨_, yLd _ _ (by rfl) _ _ (by rfl) (agOf (by rfl)) Has.z (by rfl), ?_⟩
                                      | refine ⟨_, yLd _ _ (by rfl) _ _ (by rfl) (agOf (by rfl)) (Has.s (Has.s (Has.s Has.z))) (by rfl), ?_⟩
                                      | refine ⟨_, yLd _ _ (by rfl) _ _ (by rfl) (agOf (by rfl)) (Has.s (Has.s (Has.s (Has.s Has.z)))) (by exact HA.out), ?_⟩)); go_frame) | (refine rgN 14 hS (fun _ h => h) ?_; go_frame))
            (first | (refine rgP 15 hS (fun _ h => h) ?_; go_frame) | (refine rgN 15 hS (fun _ h => h) ?_; go_frame))
            (first | (refine rgP 16 hS (fun _ h => h) ?_; go_frame) | (refine rgN 16 hS (fun _ h => h) ?_; go_frame))
            (first | (refine rgP 17 hS (fun _ h => h) ?_; go_frame) | (refine rgN 17 hS (fun _ h => h) ?_; go_frame))
            (first | (refine rgP 18 hS (fun _ h => h) ?_; go_frame) | (refine rgN 18 hS (fun _ h => h) ?_; go_frame))
            (first | (refine rgR 19 hS (fun _ h => h) ?_; ((first
                                      | refine ⟨_, fun u hu => rLdRd1 (HV.out u (_ :: _ :: _ :: _ :: _ :: _ :: _ :: [_]) hu) _ _ (by rfl) _ (by rfl) (agOf (by rfl)) i (by omega) HX.out (by omega), ?_⟩
                                      | refine ⟨_, yLd _ _ (by rfl) _ _ (by rfl) (agOf (by rfl)) (Has.s (Has.s Has.z)) (by rfl), ?_⟩
                                      | refine ⟨_, yLd _ _ (by rfl) _ _ (by rfl) (agOf (by rfl)) Has.z (by rfl), ?_⟩
                                      | refine ⟨_, yLd _ _ (by rfl) _ _ (by rfl) (agOf (by rfl)) (Has.s (Has.s (Has.s Has.z))) (by rfl), ?_⟩
                                      | refine ⟨_, yLd _ _ (by rfl) _ _ (by rfl) (agOf (by rfl)) (Has.s (Has.s (Has.s (Has.s Has.z)))) (by exact HA.out), ?_⟩)); go_frame) | (refine rgN 19 hS (fun _ h => h) ?_; go_frame))
            (first | (refine rgP 20 hS (fun _ h => h) ?_; go_frame) | (refine rgN 20 hS (fun _ h => h) ?_; go_frame))
            (first | (refine rgP 21 hS (fun _ h => h) ?_; go_frame) | (refine rgN 21 hS (fun _ h => h) ?_; go_frame))
            (first | (refine rgP 22 hS (fun _ h => h) ?_; go_frame) | (refine rgN 22 hS (fun _ h => h) ?_; go_frame))
            (first | (refine rgP 23 hS (fun _ h => h) ?_; go_frame) | (refine rgN 23 hS (fun _ h => h) ?_; go_frame))
            (first | (refine rgP 24 hS (fun _ h => h) ?_; go_frame) | (refine rgN 24 hS (fun _ h => h) ?_; go_frame))
            (first | (refine rgR 25 hS (fun _ h => h) ?_; ((first
                                      | refine ⟨_, fun u hu => rLdRd1 (HV.out u (_ :: _ :: _ :: _ :: _ :: _ :: _ :: [_]) hu) _ _ (by rfl) _ (by rfl) (agOf (by rfl)) i (by omega) HX.out (by omega), ?_⟩
                                      | refine ⟨_, yLd _ _ (by rfl) _ _ (by rfl) (agOf (by rfl)) (Has.s (Has.s Has.z)) (by rfl), ?_⟩
                                      | refine ⟨_, yLd _ _ (by rfl) _ _ (by rfl) (agOf (by rfl)) Has.z (by rfl), ?_⟩
                                      | refine ⟨_, yLd _ _ (by rfl) _ _ (by rfl) (agOf (by rfl)) (Has.s (Has.s (Has.s Has.z))) (by rfl), ?_⟩
                                      | refine ⟨_, yLd _ _ (by rfl) _ _ (by rfl) (agOf (by rfl)) (Has.s (Has.s (Has.s (Has.s Has.z)))) (by exact HA.out), ?_⟩)); go_frame) | (refine rgN 25 hS (fun _ h => h) ?_; go_frame))
            (first | (refine rgP 26 hS (fun _ h => h) ?_; go_frame) | (refine rgN 26 hS (fun _ h => h) ?_; go_frame))
            (first | (refine rgP 27 hS (fun _ h => h) ?_; go_frame) | (refine rgN 27 hS (fun _ h => h) ?_; go_frame))
            (first | (refine rgR 28 hS (fun _ h => h) ?_; ((first
                                      | refine ⟨_, fun u hu => rLdRd1 (HV.out u (_ :: _ :: _ :: _ :: _ :: _ :: _ :: [_]) hu) _ _ (by rfl) _ (by rfl) (agOf (by rfl)) i (by omega) HX.out (by omega), ?_⟩
                                      | refine ⟨_, yLd _ _ (by rfl) _ _ (by rfl) (agOf (by rfl)) (Has.s (Has.s Has.z)) (by rfl), ?_⟩
                                      | refine ⟨_, yLd _ _ (by rfl) _ _ (by rfl) (agOf (by rfl)) Has.z (by rfl), ?_⟩
                                      | refine ⟨_, yLd _ _ (by rfl) _ _ (by rfl) (agOf (by rfl)) (Has.s (Has.s (Has.s Has.z))) (by rfl), ?_⟩
                                      | refine ⟨_, yLd _ _ (by rfl) _ _ (by rfl) (agOf (by rfl)) (Has.s (Has.s (Has.s (Has.s Has.z)))) (by exact HA.out), ?_⟩)); go_frame) | (refine rgN 28 hS (fun _ h => h) ?_; go_frame))
            (first | (refine rgP 29 hS (fun _ h => h) ?_; go_frame) | (refine rgN 29 hS (fun _ h => h) ?_; go_frame))
            (first | (refine rgR 30 hS (fun _ h => h) ?_; ((first
                                      | refine ⟨_, fun u hu => rLdRd1 (HV.out u (_ :: _ :: _ :: _ :: _ :: _ :: _ :: [_]) hu) _ _ (by rfl) _ (by rfl) (agOf (by rfl)) i (by omega) HX.out (by omega), ?_⟩
                                      | refine ⟨_, yLd _ _ (by rfl) _ _ (by rfl) (agOf (by rfl)) (Has.s (Has.s Has.z)) (by rfl), ?_⟩
                                      | refine ⟨_, yLd _ _ (by rfl) _ _ (by rfl) (agOf (by rfl)) Has.z (by rfl), ?_⟩
                                      | refine ⟨_, yLd _ _ (by rfl) _ _ (by rfl) (agOf (by rfl)) (Has.s (Has.s (Has.s Has.z))) (by rfl), ?_⟩
                                      | refine ⟨_, yLd _ _ (by rfl) _ _ (by rfl) (agOf (by rfl)) (Has.s (Has.s (Has.s (Has.s Has.z)))) (by exact HA.out), ?_⟩)); go_frame) | (refine rgN 30 hS (fun _ h => h) ?_; go_frame))
            (first | (refine rgP 31 hS (fun _ h => h) ?_; go_frame) | (refine rgN 31 hS (fun _ h => h) ?_; go_frame))
            (first | (refine rgP 32 hS (fun _ h => h) ?_; go_frame) | (refine rgN 32 hS (fun _ h => h) ?_; go_frame))
            (first | (refine rgP 33 hS (fun _ h => h) ?_; go_frame) | (refine rgN 33 hS (fun _ h => h) ?_; go_frame))
            (first | (refine rgP 34 hS (fun _ h => h) ?_; go_frame) | (refine rgN 34 hS (fun _ h => h) ?_; go_frame))
            (first | (refine rgP 35 hS (fun _ h => h) ?_; go_frame) | (refine rgN 35 hS (fun _ h => h) ?_; go_frame))
            (first | (refine rgP 36 hS (fun _ h => h) ?_; go_frame) | (refine rgN 36 hS (fun _ h => h) ?_; go_frame))
            (first | (refine rgP 37 hS (fun _ h => h) ?_; go_frame) | (refine rgN 37 hS (fun _ h => h) ?_; go_frame))
            (first | (refine rgP 38 hS (fun _ h => h) ?_; go_frame) | (refine rgN 38 hS (fun _ h => h) ?_; go_frame))
            (first | (refine rgR 39 hS (fun _ h => h) ?_; ((first
                                      | refine ⟨_, fun u hu => rLdRd1 (HV.out u (_ :: _ :: _ :: _ :: _ :: _ :: _ :: [_]) hu) _ _ (by rfl) _ (by rfl) (agOf (by rfl)) i (by omega) HX.out (by omega), ?_⟩
                                      | refine ⟨_, yLd _ _ (by rfl) _ _ (by rfl) (agOf (by rfl)) (Has.s (Has.s Has.z)) (by rfl), ?_⟩
                                      | refine ⟨_, yLd _ _ (by rfl) _ _ (by rfl) (agOf (by rfl)) Has.z (by rfl), ?_⟩
                                      | refine ⟨_, yLd _ _ (by rfl) _ _ (by rfl) (agOf (by rfl)) (Has.s (Has.s (Has.s Has.z))) (by rfl), ?_⟩
                                      | refine ⟨_, yLd _ _ (by rfl) _ _ (by rfl) (agOf (by rfl)) (Has.s (Has.s (Has.s (Has.s Has.z)))) (by exact HA.out), ?_⟩)); go_frame) | (refine rgN 39 hS (fun _ h => h) ?_; go_frame))
            (first | (refine rgP 40 hS (fun _ h => h) ?_; go_frame) | (refine rgN 40 hS (fun _ h => h) ?_; go_frame))
            (first | (refine rgP 41 hS (fun _ h => h) ?_; go_frame) | (refine rgN 41 hS (fun _ h => h) ?_; go_frame))
            (first | (refine rgP 42 hS (fun _ h => h) ?_; go_frame) | (refine rgN 42 hS (fun _ h => h) ?_; go_frame))
            (first | (refine rgR 43 hS (fun _ h => h) ?_; ((first
                                      | refine ⟨_, fun u hu => rLdRd1 (HV.out u (_ :: _ :: _ :: _ :: _ :: _ :: _ :: [_]) hu) _ _ (by rfl) _ (by rfl) (agOf (by rfl)) i (by omega) HX.out (by omega), ?_⟩
                                      | refine ⟨_, yLd _ _ (by rfl) _ _ (by rfl) (agOf (by rfl)) (Has.s (Has.s Has.z)) (by rfl), ?_⟩
                                      | refine ⟨_, yLd _ _ (by rfl) _ _ (by rfl) (agOf (by rfl)) Has.z (by rfl), ?_⟩
                                      | refine ⟨_, yLd _ _ (by rfl) _ _ (by rfl) (agOf (by rfl)) (Has.s (Has.s (Has.s Has.z))) (by rfl), ?_⟩
                                      | refine ⟨_, yLd _ _ (by rfl) _ _ (by rfl) (agOf (by rfl)) (Has.s (Has.s (Has.s (Has.s Has.z)))) (by exact HA.out), ?_⟩)); go_frame) | (refine rgN 43 hS (fun _ h => h) ?_; go_frame))
            (first | (refine rgP 44 hS (fun _ h => h) ?_; go_frame) | (refine rgN 44 hS (fun _ h => h) ?_; go_frame))
            (first | (refine rgP 45 hS (fun _ h => h) ?_; go_frame) | (refine rgN 45 hS (fun _ h => h) ?_; go_frame))
            (first | (refine rgP 46 hS (fun _ h => h) ?_; go_frame) | (refine rgN 46 hS (fun _ h => h) ?_; go_frame))
            (refine rgP 47 hS (fun _ h => h) ?_; go_frame)
            (refine rgP 48 hS (fun _ h => h) ?_; go_frame)
            (refine rgA 49 true fun K hK => ?_; ((refine Go.Sep.st hS _ _ _ (by rfl) _ _ (by rfl) (.bool false) (by rfl) (by rfl) (szOf (by rfl)) (Has.s Has.z) (by rw [bl_len]; exact HLT.out) ?_; intro w1 hS1; clear hS; have hS := hS1; clear hS1; simp only [List.set_cons_zero, List.set_cons_succ] at hS; rw [HPUT.out] at hS)); refine hK _ _ _ hS (by first | (intro h; cases h; done) | exact fun _ _ h => h | exact fun _ _ h => h.drop | exact fun _ _ h => h.drop.drop | exact fun _ _ h => h.drop.pull1 | exact fun _ _ h => h.take2 | exact fun _ _ h => h.one Has.z | exact fun _ _ h => h.one (Has.s Has.z) | exact fun _ _ h => h.one (Has.s (Has.s Has.z))) ?_; clear hK K; go_frame)
            refine regDone (by kernel_rfl) ?_
            go_wp2
            exact ⟨⟨i + 1, by go_num, HLT.out, hS.drop⟩, by simp [intOf]; have := HLT.out; omega⟩
    · obtain rfl : i = G.N.length := by omega
      have k1 : ¬ (G.N.length : Int) < (G.N.length : Int) := by omega
      rw [upB_all] at hS
      clear hi hlt
      go_wp2
      go_ret
      refine ⟨_, rfl, _, [Cs o _ _, Cs p4 _ _], HTO.out, hS.re [2, 3, 4, 5, 6], fun w L' h => ?_⟩
      exact h.csRd0 (n := G.N.length) (sz := 1) (has_app _ _ _) (by omega) (by rw [bl_len]; omega)
end Go.Proofs.YtpnbdnfgdiakhaaGreat
