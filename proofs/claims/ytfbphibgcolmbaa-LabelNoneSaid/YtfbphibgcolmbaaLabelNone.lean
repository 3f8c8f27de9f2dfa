/-
  For all calls and every source, LabelNone answers true: no condition.
-/
import Derived.Test.YtfbphibgcolmbaaLbLaw
namespace Go.Proofs.Ytfbphibgcolmbaa
open Go.RowKit Go.Sep Go.ChangeShapes Go.WideShapes Go.ChangeAt
set_option linter.unusedSimpArgs false
set_option linter.unusedVariables false
attribute [local irreducible] Go.Oper.wp Go.wpList Go.Calls Go.Code.wp Go.Sep.Reg
attribute [local irreducible] IsG
def NoMark (k : Nat) (G : Gr) : Prop := ∀ y ∈ G.N, y.mark.testBit k = false
theorem NoMark.src {k : Nat} {G : Gr} (h : NoMark k G) (n : Nat) : ¬ G.Src k n := fun hs => hs (fun _ => False) (fun m x hx h1 _ => by rw [h x (List.mem_of_getElem? hx)] at h1; cases h1) (fun _ _ _ _ _ _ h => h)
theorem NoMark.lab {k : Nat} {G : Gr} (h : NoMark k G) (n : Nat) : (G.lab n).testBit k = false := by
  rw [Gr.lab_test]
  cases hb : G.srcB n k with
  | false => simp
  | true => exact absurd (Gr.srcB_iff.1 hb) (h.src n)
theorem NoMark.step {k : Nat} {G : Gr} {x : GOpD} (h : NoMark k G) (hG : G.Ok) (hx : ¬ (x.kind % 9 = 6 ∧ x.b = k)) : NoMark k (G.step x) := by
  unfold Gr.step
  split
  · unfold Gr.addG
    split
    · intro y hy
      simp only [Gr.plus, List.mem_append, List.mem_singleton] at hy
      rcases hy with hy | rfl
      · exact h y hy
      · simp [Gr.newN]
    · exact h
  · split
    · rename_i hk
      unfold Gr.markG
      split
      · rename_i hb
        intro y hy
        rcases List.mem_or_eq_of_mem_set hy with hy | rfl
        · exact h y hy
        · have h1 := h _ (Gr.nodeI_mem (bitOk_is hb).1)
          have h2 : 0 ≤ x.b := by
            unfold bitOk at hb
            simp only [Bool.and_eq_true, decide_eq_true_eq] at hb
            exact hb.1.2
          show ((G.nodeI x.a).mark ||| 2 ^ x.b.toNat).testBit k = false
          rw [Nat.testBit_or, h1, Bool.false_or, Nat.testBit_two_pow]
          have : ¬ x.b.toNat = k := fun e => hx ⟨hk, by omega⟩
          simp [this]
      · exact h
    · split
      · unfold Gr.clearG
        split
        · rename_i hb
          intro y hy
          rcases List.mem_or_eq_of_mem_set hy with hy | rfl
          · exact h y hy
          · show (G.nodeI x.a).mark.testBit k = false
            exact h _ (Gr.nodeI_mem (bitOk_is hb).1)
        · exact h
      · split
        · unfold Gr.lostG
          split
          · intro y hy
            obtain ⟨j, hj⟩ := List.mem_iff_getElem?.1 hy
            simp only [Gr.withN] at hj
            rw [orphN_at] at hj
            cases hz : G.N[j]? with
            | none => rw [hz] at hj; cases hj
            | some z =>
              rw [hz] at hj
              simp only [Option.map_some, Option.some.injEq] at hj
              have := h z (List.mem_of_getElem? hz)
              rw [← hj]
              split <;> exact this
          · exact h
        · intro y hy
          rw [Gr.edgeG_N] at hy
          exact h y hy
theorem gov_one (l : List GOpD) : ∀ u ∈ l.flatMap gov, u.oneCell' = true := fun u hu => by
  obtain ⟨x, _, hu⟩ := List.mem_flatMap.1 hu
  exact gov_all x u hu
set_option maxRecDepth 20000 in
set_option maxHeartbeats 4000000 in
theorem None.walk (l : List GOpD) (ao : Option Addr) (c : Nat) (s : Int) (W : World) (hr : Rd W (.slice ao l.length c) l.length 3 (l.flatMap gov)) :
    Calls Try.prog 12 #[.slice ao l.length c, .int .i64 s] W fun e w' => e = .returned (.bool true) ∧ Sat W w' [] := by
  have hS := Sat.start W
  have HR := Lib.hid hr
  obtain ⟨_, _, he, hc1, hc2, _, h5⟩ := hr
  simp only [Value.slice.injEq, true_and] at he
  obtain ⟨rfl, rfl⟩ := he
  have H5 := Lib.hid h5
  clear h5
  obtain ⟨k, hk⟩ : ∃ k : Nat, s % 8 = k := ⟨(s % 8).toNat, by omega⟩
  have hk8 : (k : Int) < 8 := by omega
  have HP := Lib.hid (fun w => (show Calls Try.prog 15 #[.int .i64 s, .int .i64 8] w fun e w' => e = .returned (.int .i64 (k : Int)) ∧ w = w' by rw [← hk]; exact place_any s 8 (by decide) (by decide) w))
  clear hk
  go_enter Try.func12, Try.ntmps12
  go_wp2_with (go_at_call 15; refine (HP.out _).mono ?_; rintro e w1 ⟨rfl, rfl⟩)
  have H0 := Lib.hid (hS.tbNil (α := GOpD) (f := gov) (E := 26) (sz := 3))
  go_loopw [6, 7] (fun v6 v7 wz => ∃ (i : Nat) (ml : List GOpD), v7 = .int .i64 i ∧ i ≤ 60 ∧ (∀ x ∈ ml, ¬ (x.kind % 9 = 6 ∧ x.b = (k : Int))) ∧ ml.length ≤ i ∧ Sat W wz [Tb 26 3 gov v6 ml]) (fun _ v7 _ => 60 - (intOf v7).toNat)
  case atStart => exact ⟨0, [], rfl, by omega, (fun x hx => by cases hx), Nat.le_refl _, H0.out⟩
  case round =>
    clear hS H0
    obtain ⟨i, ml, rfl, hi, hno, hml, hS⟩ := hrel
    have HNO := Lib.hid hno
    clear hno
    by_cases hf : i < l.length
    · have i1 : (i : Int) < (l.length : Int) := by omega
      have e1 : decide ((i : Int) < (l.length : Int)) = true := decide_eq_true i1
      by_cases h60 : i < 60
      · have i3 : (i : Int) < 60 := by omega
        have e3 : decide ((i : Int) < 60) = true := decide_eq_true i3
        obtain ⟨⟨xk, xa, xb⟩, hx⟩ : ∃ x, l[i]? = some x := ⟨_, List.getElem?_eq_getElem hf⟩
        have HX := Lib.hid hx
        obtain ⟨b0, off, rfl, _⟩ := H5.out (by omega)
        obtain ⟨t, ht⟩ : ∃ t, xk % 9 = t := ⟨_, rfl⟩
        have HK := Lib.hid (fun w => (show Calls Try.prog 15 #[.int .i64 xk, .int .i64 9] w fun e w' => e = .returned (.int .i64 t) ∧ w = w' by rw [← ht]; exact place_any xk 9 (by decide) (by decide) w))
        clear hx
        by_cases h6 : t = 6
        · subst h6
          by_cases hbk : xb = (k : Int)
          · have f2 : (xb == (k : Int)) = true := by simp [hbk]
            have f3 : decide (xb = (k : Int)) = true := decide_eq_true hbk
            clear ht
            go_wp2_with (first
              | (refine toList (by rfl) ?_; refine wp_of_reads (rLdRdA (HR.out.old hS) (gov_len l) _ _ (by rfl) _ (by rfl) (agOf (by rfl)) (szOf (by rfl)) i (by rfl) HX.out (by omega)) ?_)
              | (refine toList (by rfl) ?_; refine al hS _ (by rfl) (zrOf (by rfl)) ?_; intro px w1 hS1; clear hS; have hS := hS1; clear hS1; rw [cells_agg] at hS)
              | (refine toList (by rfl) ?_; refine stW hS _ _ _ (by rfl) (by rfl) [.int .i64 xk, .int .i64 xa, .int .i64 xb] (by rfl) (by simp [Value.oneCell']) (szOf (by rfl)) Has.z rfl ?_; intro w1 hS1; clear hS; have hS := hS1; clear hS1; dsimp only [List.set_cons_zero] at hS)
              | (go_at_call 15; refine (HK.out _).mono ?_; rintro e w1 ⟨rfl, rfl⟩)
              | (refine toList (by rfl) ?_; refine ld hS _ _ (by rfl) _ _ (by rfl) (agOf (by rfl)) Has.z (by rfl) ?_))
            exact ⟨⟨i + 1, ml, by go_num, by omega, HNO.out, by omega, hS.drop⟩, by simp [intOf]; omega⟩
          · have HNE := Lib.hid (show ¬ ((⟨xk, xa, xb⟩ : GOpD).kind % 9 = 6 ∧ (⟨xk, xa, xb⟩ : GOpD).b = (k : Int)) from fun h => hbk h.2)
            have f2 : (xb == (k : Int)) = false := by simp [hbk]
            have f3 : decide (xb = (k : Int)) = false := decide_eq_false hbk
            clear ht
            have HCAP := Lib.hid hml
            clear hml
            go_wp2_with (first
              | (refine toList (by rfl) ?_; refine wp_of_reads (rLdRdA (HR.out.old hS) (gov_len l) _ _ (by rfl) _ (by rfl) (agOf (by rfl)) (szOf (by rfl)) i (by rfl) HX.out (by omega)) ?_)
              | (refine toList (by rfl) ?_; refine al hS _ (by rfl) (zrOf (by rfl)) ?_; intro px w1 hS1; clear hS; have hS := hS1; clear hS1; rw [cells_agg] at hS)
              | (refine toList (by rfl) ?_; refine stW hS _ _ _ (by rfl) (by rfl) [.int .i64 xk, .int .i64 xa, .int .i64 xb] (by rfl) (by simp [Value.oneCell']) (szOf (by rfl)) Has.z rfl ?_; intro w1 hS1; clear hS; have hS := hS1; clear hS1; dsimp only [List.set_cons_zero] at hS)
              | (go_at_call 15; refine (HK.out _).mono ?_; rintro e w1 ⟨rfl, rfl⟩)
              | (refine toList (by rfl) ?_; refine ld hS _ _ (by rfl) _ _ (by rfl) (agOf (by rfl)) Has.z (by rfl) ?_)
              | (refine toList (by rfl) ?_; refine wp_of_reads (rLdA hS _ _ (by rfl) _ _ (by rfl) (agOf (by rfl)) (szOf (by rfl)) Has.z (vs := [.int .i64 xk, .int .i64 xa, .int .i64 xb]) (by rfl) (by rfl)) ?_)
              | (refine toList (by rfl) ?_; refine bsF hS _ _ _ (by rfl) (elOf (by rfl)) [.agg (gov ⟨xk, xa, xb⟩).toArray] (by rfl) (by rfl) (by decide) (by decide) (by intro v hv; rw [List.mem_singleton.1 hv]; rfl) ?_; intro b1 w1 hS1; clear hS; have hS := hS1; clear hS1; rw [agg1] at hS)
              | (refine toList (by rfl) ?_; refine apTbS (f := gov) hS _ _ _ _ (by rfl) _ _ (by rfl) (by rfl) (elOf (by rfl)) (by rfl) (by decide) (inOf (by rfl)) (Has.s (Has.s Has.z)) [⟨xk, xa, xb⟩] (by exact gov_len _) (by exact hS.src1 (f := gov) Has.z rfl) (by exact gov_one _) (by simp; have := HCAP.out; omega) (by simp; have := HCAP.out; omega) ?_; intro ao5 c5 w1 hcap5 hS1; clear hS; have hS := hS1; clear hS1; dsimp only [List.set_cons_zero, List.set_cons_succ] at hS))
            simp only [List.length_append, List.length_singleton] at hS
            refine ⟨⟨i + 1, ml ++ [⟨xk, xa, xb⟩], by go_num, by omega, fun y hy => ?_, by simp; have := HCAP.out; omega, hS.drop.drop⟩, by simp [intOf]; omega⟩
            rcases List.mem_append.1 hy with hy | hy
            · exact HNO.out y hy
            · rw [List.mem_singleton.1 hy]; exact HNE.out
        · have HNE := Lib.hid (show ¬ ((⟨xk, xa, xb⟩ : GOpD).kind % 9 = 6 ∧ (⟨xk, xa, xb⟩ : GOpD).b = (k : Int)) from fun h => h6 (by rw [← ht]; exact h.1))
          have f2 : (t == 6) = false := by simp [h6]
          have f3 : decide (t = 6) = false := decide_eq_false h6
          clear ht
          have HCAP := Lib.hid hml
          clear hml
          go_wp2_with (first
            | (refine toList (by rfl) ?_; refine wp_of_reads (rLdRdA (HR.out.old hS) (gov_len l) _ _ (by rfl) _ (by rfl) (agOf (by rfl)) (szOf (by rfl)) i (by rfl) HX.out (by omega)) ?_)
            | (refine toList (by rfl) ?_; refine al hS _ (by rfl) (zrOf (by rfl)) ?_; intro px w1 hS1; clear hS; have hS := hS1; clear hS1; rw [cells_agg] at hS)
            | (refine toList (by rfl) ?_; refine stW hS _ _ _ (by rfl) (by rfl) [.int .i64 xk, .int .i64 xa, .int .i64 xb] (by rfl) (by simp [Value.oneCell']) (szOf (by rfl)) Has.z rfl ?_; intro w1 hS1; clear hS; have hS := hS1; clear hS1; dsimp only [List.set_cons_zero] at hS)
            | (go_at_call 15; refine (HK.out _).mono ?_; rintro e w1 ⟨rfl, rfl⟩)
            | (refine toList (by rfl) ?_; refine ld hS _ _ (by rfl) _ _ (by rfl) (agOf (by rfl)) Has.z (by rfl) ?_)
            | (refine toList (by rfl) ?_; refine wp_of_reads (rLdA hS _ _ (by rfl) _ _ (by rfl) (agOf (by rfl)) (szOf (by rfl)) Has.z (vs := [.int .i64 xk, .int .i64 xa, .int .i64 xb]) (by rfl) (by rfl)) ?_)
            | (refine toList (by rfl) ?_; refine bsF hS _ _ _ (by rfl) (elOf (by rfl)) [.agg (gov ⟨xk, xa, xb⟩).toArray] (by rfl) (by rfl) (by decide) (by decide) (by intro v hv; rw [List.mem_singleton.1 hv]; rfl) ?_; intro b1 w1 hS1; clear hS; have hS := hS1; clear hS1; rw [agg1] at hS)
            | (refine toList (by rfl) ?_; refine apTbS (f := gov) hS _ _ _ _ (by rfl) _ _ (by rfl) (by rfl) (elOf (by rfl)) (by rfl) (by decide) (inOf (by rfl)) (Has.s (Has.s Has.z)) [⟨xk, xa, xb⟩] (by exact gov_len _) (by exact hS.src1 (f := gov) Has.z rfl) (by exact gov_one _) (by simp; have := HCAP.out; omega) (by simp; have := HCAP.out; omega) ?_; intro ao5 c5 w1 hcap5 hS1; clear hS; have hS := hS1; clear hS1; dsimp only [List.set_cons_zero, List.set_cons_succ] at hS))
          simp only [List.length_append, List.length_singleton] at hS
          refine ⟨⟨i + 1, ml ++ [⟨xk, xa, xb⟩], by go_num, by omega, fun y hy => ?_, by simp; have := HCAP.out; omega, hS.drop.drop⟩, by simp [intOf]; omega⟩
          rcases List.mem_append.1 hy with hy | hy
          · exact HNO.out y hy
          · rw [List.mem_singleton.1 hy]; exact HNE.out
      · have e3 : decide ((i : Int) < 60) = false := decide_eq_false (by omega)
        have e4 : ¬ (i : Int) < 60 := by omega
        clear h60
        have HCAP := Lib.hid hml
        clear hml
        obtain ⟨ao6, c6, rfl, _⟩ := hS.tbShape (k := 0) rfl
        go_wp2_with (go_at_call 25; refine (graphsI_any hS ml ao6 c6 (I := NoMark k) (fun y hy => by cases hy) (fun G x hx hG hI => hI.step hG (HNO.out x hx)) (fun u h => h.tbRd Has.z)).mono ?_; rintro e w1 ⟨p, q, G, rfl, hok, hac, hnm, hel, hnl, hS1⟩; clear hS; have hS := hS1; clear hS1)
        have HOK := Lib.hid hok
        have HAC := Lib.hid hac
        have HNM := Lib.hid hnm
        obtain ⟨m, hm⟩ : ∃ m, G.N.length = m := ⟨_, rfl⟩
        have HM := Lib.hid hm
        have HMI := Lib.hid (show (G.N.length : Int) = (m : Int) by rw [hm])
        have hm80 : (m : Int) ≤ 80 := by omega
        clear hok hac hnm hel hnl hm
        have H2 := Lib.hid hS
        go_loopw [12] (fun v wz => ∃ n : Nat, v = .int .i64 n ∧ n ≤ m ∧ Sat W wz [IsG p G, IsR q G, Tb 26 3 gov (.slice ao6 ml.length c6) ml]) (fun v _ => m - (intOf v).toNat)
        case atStart => exact ⟨0, rfl, by omega, H2.out⟩
        case round =>
          clear hS H2
          obtain ⟨n, rfl, hn, hS⟩ := hrel
          by_cases hl : n < m
          · have n1 : (n : Int) < (m : Int) := by omega
            have HOF := Lib.hid (by have := of_any hS HOK.out HAC.out (n : Int); rw [Gr.labI_nat (by rw [HM.out]; exact hl)] at this; exact this)
            have hbit := HNM.out.lab n
            have hlt := G.lab_lt n
            obtain ⟨y, hy⟩ : ∃ y, G.lab n = y := ⟨_, rfl⟩
            rw [hy] at HOF hbit hlt
            have HL := Lib.hid hl
            have hand := and_one y k hlt
            rw [hbit, if_neg (by decide)] at hand
            clear hl hy hbit
            go_wp2_with (first
              | (go_at_call 16; refine (len_any hS HMI.out).mono ?_; rintro e w1 ⟨rfl, rfl⟩)
              | (go_at_call 36; refine HOF.out.mono ?_; rintro e w1 ⟨rfl, hS1⟩; clear hS; have hS := hS1; clear hS1))
            exact ⟨⟨n + 1, by go_num, HL.out, hS⟩, by simp [intOf]; have := HL.out; omega⟩
          · have n1 : ¬ (n : Int) < (m : Int) := by omega
            clear hl
            go_wp2_with (first
              | (go_at_call 16; refine (len_any hS HMI.out).mono ?_; rintro e w1 ⟨rfl, rfl⟩)
              | (go_at_call 37; refine (wake_any hS).mono ?_; rintro e w1 ⟨rfl, hS1⟩; clear hS; have hS := hS1; clear hS1))
            go_ret
            exact ⟨rfl, hS.drop.drop.drop⟩
    · have e1 : decide ((i : Int) < (l.length : Int)) = false := decide_eq_false (by omega)
      have e1b : decide (i < l.length) = false := decide_eq_false hf
      have e4 : ¬ (i : Int) < (l.length : Int) := by omega
      clear hf
      have HCAP := Lib.hid hml
      clear hml
      obtain ⟨ao6, c6, rfl, _⟩ := hS.tbShape (k := 0) rfl
      go_wp2_with (go_at_call 25; refine (graphsI_any hS ml ao6 c6 (I := NoMark k) (fun y hy => by cases hy) (fun G x hx hG hI => hI.step hG (HNO.out x hx)) (fun u h => h.tbRd Has.z)).mono ?_; rintro e w1 ⟨p, q, G, rfl, hok, hac, hnm, hel, hnl, hS1⟩; clear hS; have hS := hS1; clear hS1)
      have HOK := Lib.hid hok
      have HAC := Lib.hid hac
      have HNM := Lib.hid hnm
      obtain ⟨m, hm⟩ : ∃ m, G.N.length = m := ⟨_, rfl⟩
      have HM := Lib.hid hm
      have HMI := Lib.hid (show (G.N.length : Int) = (m : Int) by rw [hm])
      have hm80 : (m : Int) ≤ 80 := by omega
      clear hok hac hnm hel hnl hm
      have H2 := Lib.hid hS
      go_loopw [12] (fun v wz => ∃ n : Nat, v = .int .i64 n ∧ n ≤ m ∧ Sat W wz [IsG p G, IsR q G, Tb 26 3 gov (.slice ao6 ml.length c6) ml]) (fun v _ => m - (intOf v).toNat)
      case atStart => exact ⟨0, rfl, by omega, H2.out⟩
      case round =>
        clear hS H2
        obtain ⟨n, rfl, hn, hS⟩ := hrel
        by_cases hl : n < m
        · have n1 : (n : Int) < (m : Int) := by omega
          have HOF := Lib.hid (by have := of_any hS HOK.out HAC.out (n : Int); rw [Gr.labI_nat (by rw [HM.out]; exact hl)] at this; exact this)
          have hbit := HNM.out.lab n
          have hlt := G.lab_lt n
          obtain ⟨y, hy⟩ : ∃ y, G.lab n = y := ⟨_, rfl⟩
          rw [hy] at HOF hbit hlt
          have HL := Lib.hid hl
          have hand := and_one y k hlt
          rw [hbit, if_neg (by decide)] at hand
          clear hl hy hbit
          go_wp2_with (first
            | (go_at_call 16; refine (len_any hS HMI.out).mono ?_; rintro e w1 ⟨rfl, rfl⟩)
            | (go_at_call 36; refine HOF.out.mono ?_; rintro e w1 ⟨rfl, hS1⟩; clear hS; have hS := hS1; clear hS1))
          exact ⟨⟨n + 1, by go_num, HL.out, hS⟩, by simp [intOf]; have := HL.out; omega⟩
        · have n1 : ¬ (n : Int) < (m : Int) := by omega
          clear hl
          go_wp2_with (first
            | (go_at_call 16; refine (len_any hS HMI.out).mono ?_; rintro e w1 ⟨rfl, rfl⟩)
            | (go_at_call 37; refine (wake_any hS).mono ?_; rintro e w1 ⟨rfl, hS1⟩; clear hS; have hS := hS1; clear hS1))
          go_ret
          exact ⟨rfl, hS.drop.drop.drop⟩

set_option maxRecDepth 100000 in
theorem None.contract (H : Type) (enc : TypeId × Value → H) (W : World) (base : Nat) (args : Array Value) (ds gs : List (DataW H)) (before : List MemPlace)
    (hval : ∀ (j : Nat) t v, Try.f12.params[j]? = some t → args[j]? = some v → Value.okWide Try.prog W .any base t v)
    (hW : DataW.Whole enc Try.prog Try.f12.params.toList Rows.labelNoneSpec.vars false W args.toList ds gs before)
    (hreach : (DataW.weightsEach Try.prog (Try.f12.params.toList ++ Rows.labelNoneSpec.plain.varTypes Try.prog) (ds ++ gs)).all (· ≤ reachBytes) = true) :
    Calls Try.prog 12 args W fun e W' => ∃ v, e = .returned v ∧ Rows.labelNoneSpec.post enc Try.prog Try.f12 false true false false W args v W' := by
  have hW' := hW
  obtain ⟨p, q, hA, hV, rfl, hfz, hnd⟩ := hW
  rw [Try.params12] at hA hval hreach
  obtain ⟨v1, vs1, d1, ds1, p1, q1, hargs, rfl, rfl, h1, r1⟩ := trodAll_cons hA
  obtain ⟨v2, vs2, d2, ds2, p2, q2, rfl, rfl, rfl, h2, r2⟩ := trodAll_cons r1
  obtain ⟨rfl, rfl, rfl⟩ := trodAll_nil r2
  obtain rfl : args = #[v1, v2] := by cases args; simp_all
  obtain ⟨rfl, rfl⟩ := trodVars_none hV
  obtain ⟨ao1, l1, c1, rfl⟩ := okWide_slice Try.underlying22 (hval 0 22 v1 rfl rfl)
  obtain ⟨a2, rfl, rfl, rfl, _⟩ := open_int Try.underlying3 (hval 1 3 v2 rfl rfl) h2
  obtain ⟨l, rfl, hr, _⟩ := open_gops h1
  refine (None.walk l ao1 c1 a2 W hr).mono ?_
  refine fun e W' ⟨he, hS⟩ => ?_
  subst he
  exact ⟨_, rfl, law_post (tb := 4) (by kernel_rfl) (by kernel_rfl) rfl Try.underlying4 rfl hW' rfl hS⟩

theorem None.own : ownKnob Try.prog.godebug = none := by kernel_rfl
set_option maxRecDepth 100000 in
theorem None.lifted (os : Os) (started : os.Started) (H : Type) (enc : TypeId × Value → H) :
    ReturnsInHanded {} Try.checked os 12 .any (Rows.labelNoneSpec.pre6 enc Try.prog Try.f12 Rows.labelNoneRow.domain false) (Rows.labelNoneSpec.post enc Try.prog Try.f12 false true false false) := by
  refine returnsInHanded_of_change_shaped (C := Try.checked) None.own started (by kernel_rfl) Try.func12
    (ChangeSpec.witness6 (enc := enc) (C := Try.checked) false ⟨#[], #[.slice none 0 0, .int .i64 0], []⟩ 8 (by kernel_rfl) (by kernel_rfl) (by kernel_rfl) (by kernel_rfl)) ?_
  intro W base args ds gs before hval hW _ hreach _ _
  exact None.contract H enc W base args ds gs before hval hW hreach

theorem None.holds : Rows.LabelNoneSaid :=
  OpenClaim.holds_of_wide 12 Try.f12 rfl rfl rfl rfl rfl rfl rfl ⟨rfl, rfl, rfl, rfl, rfl⟩ rfl rfl rfl rfl rfl (by kernel_rfl) Try.func12 (by kernel_rfl)
    (of_decide_eq_true (by kernel_rfl)) (by unfold Func.isWrapper; first | (rw [if_pos (by decide +kernel)]; kernel_rfl) | (rw [if_neg (by decide +kernel)]; exact ⟨rfl, rfl⟩))
    (fun os started H enc _ => None.lifted os started H enc)
end Go.Proofs.Ytfbphibgcolmbaa
