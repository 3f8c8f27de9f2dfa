/-
  For all records and every next block, RecordPuts answers true: no condition.
-/
import Derived.Test.YtcabgeljdgcdlaaRecLaw
namespace Go.Proofs.Ytcabgeljdgcdlaa
open Go.RowKit Go.Sep Go.ChangeShapes Go.WideShapes Go.ChangeAt
set_option linter.unusedSimpArgs false
set_option linter.unusedVariables false
attribute [local irreducible] Go.Oper.wp Go.wpList Go.Calls Go.Code.wp Go.Sep.Reg
def RecD.Ok (x : RecD) : Prop := (-9223372036854775808 ≤ x.k ∧ x.k ≤ 9223372036854775807) ∧ (-9223372036854775808 ≤ x.a ∧ x.a ≤ 9223372036854775807) ∧ (-9223372036854775808 ≤ x.b ∧ x.b ≤ 9223372036854775807)
theorem open_recs {H : Type} {enc : TypeId × Value → H} {W : World} {ao : Option Addr} {len cap : Nat} {d : DataW H} {ps : List MemPlace}
    (h : DataW.Trod enc Try.prog W 0 (fun _ => true) true 65 (.slice ao len cap) d ps) :
    ∃ l : List RecD, l.length = len ∧ Rd W (.slice ao len cap) len 3 (l.flatMap rv) ∧ ∀ x ∈ l, x.Ok := by
  have c3 : Try.prog.cellsOf 3 = 1 := by kernel_rfl
  obtain ⟨l, h1, h2, h3, _⟩ := open_enc (f := rv) (Q := RecD.Ok) Try.underlying65 (sz := 3) (by kernel_rfl) (by decide) h (fun r n x hl h => by
    obtain ⟨xs, m, _, _, _, hlen, hf⟩ := DataW.trod_struct Try.underlying68 h
    have hlen : xs.length = 3 := hlen
    have f0 : DataW.trod enc Try.prog W 0 (fun _ => true) true m 3 ((r.drop 0).take (Try.prog.cellsOf 3)) = xs[0]? := hf 0 _ rfl
    have f1 : DataW.trod enc Try.prog W 0 (fun _ => true) true m 3 ((r.drop 1).take (Try.prog.cellsOf 3)) = xs[1]? := hf 1 _ rfl
    have f2 : DataW.trod enc Try.prog W 0 (fun _ => true) true m 3 ((r.drop 2).take (Try.prog.cellsOf 3)) = xs[2]? := hf 2 _ rfl
    rw [c3, List.getElem?_eq_getElem (by omega)] at f0 f1 f2
    obtain ⟨k0, e0, _, w0⟩ := DataW.trod_int Try.underlying3 f0
    obtain ⟨k1, e1, _, w1⟩ := DataW.trod_int Try.underlying3 f1
    obtain ⟨k2, e2, _, w2⟩ := DataW.trod_int Try.underlying3 f2
    exact ⟨⟨k0, k1, k2⟩, cells3 hl e0 e1 e2, i64_of w0, i64_of w1, i64_of w2⟩)
  exact ⟨l, h1, h2, h3⟩
set_option maxRecDepth 20000 in
set_option maxHeartbeats 4000000 in
theorem Puts.walk (l : List RecD) (ao : Option Addr) (c : Nat) (next : Int) (W : World) (hr : Rd W (.slice ao l.length c) l.length 3 (l.flatMap rv)) :
    Calls Try.prog 8 #[.slice ao l.length c, .int .i64 next] W fun e w' => e = .returned (.bool true) ∧ Sat W w' [] := by
  have hS := Sat.start W
  have HR := Lib.hid hr
  obtain ⟨_, _, he, hc1, hc2, _, h5⟩ := hr
  simp only [Value.slice.injEq, true_and] at he
  obtain ⟨rfl, rfl⟩ := he
  by_cases hlen : 40 < l.length
  · have j1 : (40 : Int) < (l.length : Int) := by omega
    clear h5
    go_enter Try.func8, Try.ntmps8
    go_wp2_with (go_at_call 36; refine (awake_any hS).mono ?_; rintro e w1 ⟨rfl, hS1⟩; clear hS; have hS := hS1; clear hS1)
    go_ret
    exact ⟨rfl, hS⟩
  have i5 : (l.length : Int) ≤ 40 := by omega
  have HB := Lib.hid (show l.length ≤ 1000000 by omega)
  have HS := Lib.hid hS
  have HRL : Hid (∀ (L : List Asrt) w, Sat W w L → Rd w (.slice ao l.length c) l.length 3 (l.flatMap rv)) := Lib.hid (fun L w h => HR.out.old h)
  clear hlen
  go_enter Try.func8, Try.ntmps8
  go_wp2
  go_loopw [5] (fun vi wz => ∃ k : Nat, k ≤ l.length ∧ vi = .int .i64 k ∧ Sat W wz []) (fun vi _ => l.length - (intOf vi).toNat)
  case atStart => exact ⟨0, by omega, rfl, HS.out⟩
  case round =>
    clear hS HS
    obtain ⟨k, hk, rfl, hS⟩ := hrel
    by_cases hlt : k < l.length
    · obtain ⟨b, off, rfl, _⟩ := h5 (by omega)
      obtain ⟨⟨xk, xa, xb⟩, hx⟩ : ∃ x, l[k]? = some x := ⟨_, List.getElem?_eq_getElem hlt⟩
      have j1 : (k : Int) < (l.length : Int) := by omega
      have HX := Lib.hid hx
      clear hx h5
      go_wp2
      refine regStart [9] hS (by kernel_rfl) rfl ?_
      intro w1 hS1
      clear hS; have hS := hS1; clear hS1
      (refine regP 0 hS (fun _ h => h) rfl (by kernel_rfl) (by kernel_rfl) (by kernel_rfl) (fun _ _ _ _ h => h) (by rfl) (by rfl) ?_; apply Exists.intro; apply And.intro; (intro w; go_simp; try with_reducible rfl); (simp only [Act.put, List.setIfInBounds_toArray, List.set_cons_zero, List.set_cons_succ]))
      (refine regP 1 hS (fun _ h => h) rfl (by kernel_rfl) (by kernel_rfl) (by kernel_rfl) (fun _ _ _ _ h => h) (by rfl) (by rfl) ?_; apply Exists.intro; apply And.intro; (intro w; go_simp; try with_reducible rfl); (simp only [Act.put, List.setIfInBounds_toArray, List.set_cons_zero, List.set_cons_succ]))
      (refine regP 2 hS (fun _ h => h) rfl (by kernel_rfl) (by kernel_rfl) (by kernel_rfl) (fun _ _ _ _ h => h) (by rfl) (by rfl) ?_; apply Exists.intro; apply And.intro; (intro w; go_simp; try with_reducible rfl); (simp only [Act.put, List.setIfInBounds_toArray, List.set_cons_zero, List.set_cons_succ]))
      (refine regR 3 hS (fun _ h => h) rfl (by kernel_rfl) (by kernel_rfl) (by kernel_rfl) (by kernel_rfl) (by kernel_rfl) (fun _ _ _ _ h => h) (by rfl) (by rfl) ?_; (first
                    | refine ⟨.agg #[.int .i64 xk, .int .i64 xa, .int .i64 xb], fun u hu => rLdRdA (f := rv) (x := ⟨xk, xa, xb⟩) (HRL.out _ _ hu) (rv_len l) _ _ (by rfl) _ (by rfl) (agOf (by rfl)) (szOf (by rfl)) k (by omega) HX.out (by omega), ?_⟩); (simp only [Act.put, List.setIfInBounds_toArray, List.set_cons_zero, List.set_cons_succ]))
      (refine regP 5 hS (fun _ h => h) rfl (by kernel_rfl) (by kernel_rfl) (by kernel_rfl) (fun _ _ _ _ h => h) (by rfl) (by rfl) ?_; apply Exists.intro; apply And.intro; (intro w; go_simp; try with_reducible rfl); (simp only [Act.put, List.setIfInBounds_toArray, List.set_cons_zero, List.set_cons_succ]))
      (refine regP 6 hS (fun _ h => h) rfl (by kernel_rfl) (by kernel_rfl) (by kernel_rfl) (fun _ _ _ _ h => h) (by rfl) (by rfl) ?_; apply Exists.intro; apply And.intro; (intro w; go_simp; try with_reducible rfl); (simp only [Act.put, List.setIfInBounds_toArray, List.set_cons_zero, List.set_cons_succ]))
      (refine regP 7 hS (fun _ h => h) rfl (by kernel_rfl) (by kernel_rfl) (by kernel_rfl) (fun _ _ _ _ h => h) (by rfl) (by rfl) ?_; apply Exists.intro; apply And.intro; (intro w; go_simp; try with_reducible rfl); (simp only [Act.put, List.setIfInBounds_toArray, List.set_cons_zero, List.set_cons_succ]))
      (refine regR 8 hS (fun _ h => h) rfl (by kernel_rfl) (by kernel_rfl) (by kernel_rfl) (by kernel_rfl) (by kernel_rfl) (fun _ _ _ _ h => h) (by rfl) (by rfl) ?_; (first
                    | refine ⟨.agg #[.int .i64 xk, .int .i64 xa, .int .i64 xb], fun u hu => rLdRdA (f := rv) (x := ⟨xk, xa, xb⟩) (HRL.out _ _ hu) (rv_len l) _ _ (by rfl) _ (by rfl) (agOf (by rfl)) (szOf (by rfl)) k (by omega) HX.out (by omega), ?_⟩); (simp only [Act.put, List.setIfInBounds_toArray, List.set_cons_zero, List.set_cons_succ]))
      (refine regA 4 rfl (by kernel_rfl) (by rfl) (by rfl) false (by kernel_rfl) (fun K hK => ?_); (first
                    | (refine Go.Sep.cl 37 _ _ (by rfl) (by rfl) (by kernel_rfl) (check_any _ W _ hS xk xa xb) ?_; rintro e w1 ⟨rfl, hS1⟩; clear hS; have hS := hS1; clear hS1; refine ⟨_, rfl, ?_⟩)
                    | (refine Go.Sep.cl 38 _ _ (by rfl) (by rfl) (by kernel_rfl) (ref_check_any _ W _ hS xk xa xb) ?_; rintro e w1 ⟨rfl, hS1⟩; clear hS; have hS := hS1; clear hS1; refine ⟨_, rfl, ?_⟩)); refine hK _ _ _ hS (by first | (intro h; cases h; done) | exact fun _ _ h => h | exact fun _ _ h => h.drop | exact fun _ _ h => h.drop.drop | exact fun _ _ h => h.one Has.z | exact fun _ _ h => h.one (Has.s Has.z) | exact fun _ _ h => h.one (Has.s (Has.s Has.z))) ?_; clear hK K; (simp only [Act.put, List.setIfInBounds_toArray, List.set_cons_zero, List.set_cons_succ]))
      (refine regA 9 rfl (by kernel_rfl) (by rfl) (by rfl) true (by kernel_rfl) (fun K hK => ?_); (first
                    | (refine Go.Sep.cl 37 _ _ (by rfl) (by rfl) (by kernel_rfl) (check_any _ W _ hS xk xa xb) ?_; rintro e w1 ⟨rfl, hS1⟩; clear hS; have hS := hS1; clear hS1; refine ⟨_, rfl, ?_⟩)
                    | (refine Go.Sep.cl 38 _ _ (by rfl) (by rfl) (by kernel_rfl) (ref_check_any _ W _ hS xk xa xb) ?_; rintro e w1 ⟨rfl, hS1⟩; clear hS; have hS := hS1; clear hS1; refine ⟨_, rfl, ?_⟩)); refine hK _ _ _ hS (by first | (intro h; cases h; done) | exact fun _ _ h => h | exact fun _ _ h => h.drop | exact fun _ _ h => h.drop.drop | exact fun _ _ h => h.one Has.z | exact fun _ _ h => h.one (Has.s Has.z) | exact fun _ _ h => h.one (Has.s (Has.s Has.z))) ?_; clear hK K; (simp only [Act.put, List.setIfInBounds_toArray, List.set_cons_zero, List.set_cons_succ]))
      (refine regP 10 hS (fun _ h => h) rfl (by kernel_rfl) (by kernel_rfl) (by kernel_rfl) (fun _ _ _ _ h => h) (by rfl) (by rfl) ?_; apply Exists.intro; apply And.intro; (intro w; go_simp; try with_reducible rfl); (simp only [Act.put, List.setIfInBounds_toArray, List.set_cons_zero, List.set_cons_succ]))
      refine regDone (by kernel_rfl) ?_
      cases hok : okRec xk xa xb
      all_goals
        go_wp2
        exact ⟨⟨k + 1, by omega, by go_num, hS⟩, by simp [intOf]; omega⟩
    · obtain rfl : k = l.length := by omega
      clear h5
      cases hok : okPut l next
      · have HOK := Lib.hid hok
        have HPB := Lib.hid (putB_no hok)
        clear hok
        go_wp2_with (first
          | (go_at_call 40; refine (records_any hS l _ (HRL.out _ _ hS) HB.out).mono ?_; rintro e w1 ⟨v1, rfl, hS1⟩; clear hS; have hS := hS1; clear hS1; obtain ⟨ao1, c1, rfl, _⟩ := hS.tbShape (k := 0) rfl)
          | (go_at_call 39; refine (rput_any hS l _ _ (fun w h => h.tbRd Has.z) HB.out next).mono ?_; rintro e w1 ⟨v2, rfl, hS1⟩; rw [HOK.out]; rw [HPB.out] at hS1; clear hS; have hS := hS1; clear hS1)
          | (go_at_call 41; refine (ref_rput_any hS l _ _ (HRL.out _) HB.out next).mono ?_; rintro e w1 ⟨v3, rfl, hS1⟩; rw [HPB.out] at hS1; clear hS; have hS := hS1; clear hS1; obtain ⟨ao3, c3, rfl, _⟩ := hS.slShape (k := 0) rfl; dsimp only [List.length_nil] at hS ⊢)
          | (refine toList (by rfl) ?_; refine cvS _ _ _ (by rfl) _ (by rfl) strBytes (l := []) (by first | exact hS.slRd Has.z | exact hS.slRd (Has.s Has.z)) ?_)
          | (go_at_call 42; refine (nodes_any hS l _ _ (HRL.out _) HB.out).mono ?_; rintro e w1 ⟨rfl, hS1⟩; clear hS; have hS := hS1; clear hS1)
          | (go_at_call 43; refine (ref_nodes_any hS l _ _ (HRL.out _ _ hS) HB.out).mono ?_; rintro e w1 ⟨rfl, rfl⟩)
          | (go_at_call 36; refine (awake_any hS).mono ?_; rintro e w1 ⟨rfl, hS1⟩; clear hS; have hS := hS1; clear hS1))
        go_ret
        exact ⟨rfl, hS.drop.drop.drop⟩
      · have HOK := Lib.hid hok
        have HPB := Lib.hid (putB_yes hok)
        have HG := Lib.hid (getOk_enc hok)
        have hel := encB_len next (okPut_15 hok)
        obtain ⟨d, hd⟩ : ∃ d, encB l next = d := ⟨_, rfl⟩
        rw [hd] at hel HPB HG
        have hdi : 0 < (d.length : Int) := by omega
        have HDL := Lib.hid (show d.length ≤ 140737488355328 by omega)
        clear hok hd hel
        go_wp2_with (first
          | (go_at_call 40; refine (records_any hS l _ (HRL.out _ _ hS) HB.out).mono ?_; rintro e w1 ⟨v1, rfl, hS1⟩; clear hS; have hS := hS1; clear hS1; obtain ⟨ao1, c1, rfl, _⟩ := hS.tbShape (k := 0) rfl)
          | (go_at_call 39; refine (rput_any hS l _ _ (fun w h => h.tbRd Has.z) HB.out next).mono ?_; rintro e w1 ⟨v2, rfl, hS1⟩; rw [HOK.out]; rw [HPB.out] at hS1; clear hS; have hS := hS1; clear hS1; obtain ⟨ao2, c2, rfl, _⟩ := hS.slShape (k := 0) rfl)
          | (go_at_call 41; refine (ref_rput_any hS l _ _ (HRL.out _) HB.out next).mono ?_; rintro e w1 ⟨v3, rfl, hS1⟩; rw [HPB.out] at hS1; clear hS; have hS := hS1; clear hS1; obtain ⟨ao3, c3, rfl, _⟩ := hS.slShape (k := 0) rfl)
          | (refine toList (by rfl) ?_; refine cvS _ _ _ (by rfl) _ (by rfl) strBytes (l := d) (by first | exact hS.slRd Has.z | exact hS.slRd (Has.s Has.z)) ?_)
          | (go_at_call 42; refine (nodes_any hS l _ _ (HRL.out _) HB.out).mono ?_; rintro e w1 ⟨rfl, hS1⟩; clear hS; have hS := hS1; clear hS1)
          | (go_at_call 43; refine (ref_nodes_any hS l _ _ (HRL.out _ _ hS) HB.out).mono ?_; rintro e w1 ⟨rfl, rfl⟩)
          | (go_at_call 44; refine (rget_any hS d _ _ (fun w h => h.slRd (Has.s Has.z)) HDL.out).mono ?_; rintro e w1 ⟨v4, rfl, hS1⟩; rw [HG.out.2.1] at hS1; rw [HG.out.1, HG.out.2.2]; clear hS; have hS := hS1; clear hS1; obtain ⟨ao4, c4, rfl, _⟩ := hS.tbShape (k := 0) rfl)
          | (go_at_call 45; refine (same_recs hS l l _ _ _ _ (fun w h => h.tbRd Has.z) (HRL.out _) HB.out).mono ?_; rintro e w1 ⟨rfl, hS1⟩; rw [decide_eq_true (rfl : l = l)]; clear hS; have hS := hS1; clear hS1)
          | (go_at_call 36; refine (awake_any hS).mono ?_; rintro e w1 ⟨rfl, hS1⟩; clear hS; have hS := hS1; clear hS1))
        go_ret
        exact ⟨rfl, hS.drop.drop.drop.drop⟩

set_option maxRecDepth 100000 in
theorem Puts.contract (H : Type) (enc : TypeId × Value → H) (W : World) (base : Nat) (args : Array Value) (ds gs : List (DataW H)) (before : List MemPlace)
    (hval : ∀ (j : Nat) t v, Try.f8.params[j]? = some t → args[j]? = some v → Value.okWide Try.prog W .any base t v)
    (hW : DataW.Whole enc Try.prog Try.f8.params.toList Rows.recordPutsSpec.vars false W args.toList ds gs before)
    (hreach : (DataW.weightsEach Try.prog (Try.f8.params.toList ++ Rows.recordPutsSpec.plain.varTypes Try.prog) (ds ++ gs)).all (· ≤ reachBytes) = true) :
    Calls Try.prog 8 args W fun e W' => ∃ v, e = .returned v ∧ Rows.recordPutsSpec.post enc Try.prog Try.f8 false true false false W args v W' := by
  have hW' := hW
  obtain ⟨p, q, hA, hV, rfl, hfz, hnd⟩ := hW
  rw [Try.params8] at hA hval hreach
  obtain ⟨v0, vs0, d0, ds0, p0, q0, hargs, rfl, rfl, h0, r0⟩ := trodAll_cons hA
  obtain ⟨v1, vs1, d1, ds1, p1, q1, rfl, rfl, rfl, h1, r1⟩ := trodAll_cons r0
  obtain ⟨rfl, rfl, rfl⟩ := trodAll_nil r1
  obtain rfl : args = #[v0, v1] := by cases args; simp_all
  obtain ⟨rfl, rfl⟩ := trodVars_none hV
  obtain ⟨ao0, len0, cap0, rfl⟩ := okWide_slice Try.underlying65 (hval 0 65 v0 rfl rfl)
  obtain ⟨a1, rfl, rfl, rfl, w1⟩ := open_int Try.underlying3 (hval 1 3 v1 rfl rfl) h1
  obtain ⟨l, rfl, hr0, hl0⟩ := open_recs h0
  refine (Puts.walk l ao0 cap0 a1 W hr0).mono ?_
  refine fun e W' ⟨he, hS⟩ => ?_
  subst he
  exact ⟨_, rfl, law_post (tb := 4) (by kernel_rfl) (by kernel_rfl) rfl Try.underlying4 rfl hW' rfl hS⟩

theorem Puts.own : ownKnob Try.prog.godebug = none := by kernel_rfl
set_option maxRecDepth 100000 in
theorem Puts.lifted (os : Os) (started : os.Started) (H : Type) (enc : TypeId × Value → H) :
    ReturnsInHanded {} Try.checked os 8 .any (Rows.recordPutsSpec.pre6 enc Try.prog Try.f8 Rows.recordPutsRow.domain false) (Rows.recordPutsSpec.post enc Try.prog Try.f8 false true false false) := by
  refine returnsInHanded_of_change_shaped (C := Try.checked) Puts.own started (by kernel_rfl) Try.func8
    (ChangeSpec.witness6 (enc := enc) (C := Try.checked) false ⟨#[], #[.slice none 0 0, .int .i64 0], []⟩ 8 (by kernel_rfl) (by kernel_rfl) (by kernel_rfl) (by kernel_rfl)) ?_
  intro W base args ds gs before hval hW _ hreach _ _
  exact Puts.contract H enc W base args ds gs before hval hW hreach

theorem Puts.holds : Rows.RecordPutsSaid :=
  OpenClaim.holds_of_wide 8 Try.f8 rfl rfl rfl rfl rfl rfl rfl ⟨rfl, rfl, rfl, rfl, rfl⟩ rfl rfl rfl rfl rfl (by kernel_rfl) Try.func8 (by kernel_rfl)
    (of_decide_eq_true (by kernel_rfl)) (by unfold Func.isWrapper; first | (rw [if_pos (by decide +kernel)]; kernel_rfl) | (rw [if_neg (by decide +kernel)]; exact ⟨rfl, rfl⟩))
    (fun os started H enc _ => Puts.lifted os started H enc)
end Go.Proofs.Ytcabgeljdgcdlaa
