/-
  For all kinds and entries, TreeLoads answers true: no condition.
-/
import Derived.Test.YtiieicdhkcikpaaTrLoad4
import Derived.Test.YtiieicdhkcikpaaMAwk
import Derived.Test.YtiieicdhkcikpaaTrSame
import Derived.Test.YtiieicdhkcikpaaMSep
import Derived.Test.YtiieicdhkcikpaaMReg
namespace Go.Proofs.Ytiieicdhkcikpaa
open Go.RowKit Go.Sep Go.ChangeShapes Go.WideShapes Go.ChangeAt
set_option linter.unusedSimpArgs false
set_option linter.unusedVariables false
attribute [local irreducible] Go.Oper.wp Go.wpList Go.Calls Go.Code.wp Go.Sep.Reg
attribute [local irreducible] IsT IsW
theorem inv1_one (l : List Int) : ∀ u ∈ l.flatMap inv1, u.oneCell' = true := fun u hu => by
  rw [inv1_fm] at hu
  obtain ⟨x, _, rfl⟩ := List.mem_map.1 hu
  rfl
set_option maxRecDepth 20000 in
theorem ints_any {W w : World} {L : List Asrt} (hS : Sat W w L) (l : List Int) (v : Value) (hr : ∀ w, Sat W w L → Rd w v l.length 1 (l.flatMap inv1)) (hl : l.length ≤ 1000000) :
    Calls Try.prog 31 #[v] w fun e w' => ∃ v', e = .returned v' ∧ Sat W w' (Tb 3 1 inv1 v' l :: L) := by
  have HR := Lib.hid hr
  obtain ⟨ao, c, rfl, _⟩ := hr w hS
  clear hr
  go_enter Try.func31, Try.ntmps31
  go_wp2_with (refine toList (by rfl) ?_; refine apTb (f := inv1) (xs := []) (hS.tbNil (E := 3) (sz := 1)) _ _ _ _ (by rfl) _ _ (by rfl) (by rfl) (elOf (by rfl)) (by rfl) (by decide) (inOf (by rfl)) Has.z l (inv1_len _) (by exact .inl (HR.out _ hS)) (inv1_one _) (by simp; omega) (by simp; omega) ?_; intro v' w1 hS1; clear hS; have hS := hS1; clear hS1; dsimp only [List.set_cons_zero, List.nil_append] at hS)
  go_ret
  exact ⟨_, rfl, hS⟩
theorem lst_last {T : TrD} (h : T.last = []) : T.lst [] = T := by
  cases T
  cases h
  rfl
set_option maxRecDepth 20000 in
set_option maxHeartbeats 4000000 in
theorem Loads.walk (ks : List Int) (ao : Option Addr) (c : Nat) (ds : List DArg) (ao2 : Option Addr) (c2 : Nat) (W : World) (hr : Rd W (.slice ao ks.length c) ks.length 1 (ks.flatMap inv1)) (hd : Rd W (.slice ao2 ds.length c2) ds.length 1 (ds.flatMap dav)) (hx : ∀ x ∈ ds, Rd W x.v x.l.length 2 (x.l.flatMap ev2)) :
    Calls Try.prog 8 #[.slice ao ks.length c, .slice ao2 ds.length c2] W fun e w' => e = .returned (.bool true) ∧ Sat W w' [] := by
  have hS := Sat.start W
  have HR := Lib.hid (fun u (L : List Asrt) (h : Sat W u L) => hr.old h)
  have HD := Lib.hid (fun u (L : List Asrt) (h : Sat W u L) => hd.old h)
  have HX := Lib.hid (fun u (L : List Asrt) (h : Sat W u L) (x : DArg) (hm : x ∈ ds) => (hx x hm).old h)
  obtain ⟨_, _, he, hc1, hc2, _, hk5⟩ := hr
  simp only [Value.slice.injEq, true_and] at he
  obtain ⟨rfl, rfl⟩ := he
  obtain ⟨_, _, he, hc3, hc4, _, hd5⟩ := hd
  simp only [Value.slice.injEq, true_and] at he
  obtain ⟨rfl, rfl⟩ := he
  have HD5 := Lib.hid hd5
  have HSH := Lib.hid hx
  clear hk5 hd5 hx
  by_cases h60 : 60 < ks.length
  · have e1 : decide ((60 : Int) < (ks.length : Int)) = true := decide_eq_true (by omega)
    have e2 : decide (60 < ks.length) = true := decide_eq_true h60
    clear h60
    go_enter Try.func8, Try.ntmps8
    go_wp2_with (go_at_call 18; refine (wake_any hS).mono ?_; rintro e w1 ⟨rfl, hS1⟩; clear hS; have hS := hS1; clear hS1)
    go_ret
    exact ⟨rfl, hS.map fun _ _ => trivial⟩
  have e1 : decide ((60 : Int) < (ks.length : Int)) = false := decide_eq_false (by omega)
  have e2 : decide (60 < ks.length) = false := decide_eq_false h60
  by_cases h602 : 60 < ds.length
  · have e3 : decide ((60 : Int) < (ds.length : Int)) = true := decide_eq_true (by omega)
    have e4 : decide (60 < ds.length) = true := decide_eq_true h602
    clear h60 h602
    go_enter Try.func8, Try.ntmps8
    go_wp2_with (go_at_call 18; refine (wake_any hS).mono ?_; rintro e w1 ⟨rfl, hS1⟩; clear hS; have hS := hS1; clear hS1)
    go_ret
    exact ⟨rfl, hS.map fun _ _ => trivial⟩
  have e3 : decide ((60 : Int) < (ds.length : Int)) = false := decide_eq_false (by omega)
  have e4 : decide (60 < ds.length) = false := decide_eq_false h602
  have n1 : (ks.length : Int) ≤ 1000 := by omega
  have n2 : (ds.length : Int) ≤ 1000 := by omega
  have HN := Lib.hid (show ks.length ≤ 60 ∧ ds.length ≤ 60 by omega)
  clear h60 h602
  have H0 := Lib.hid hS
  clear hS
  go_enter Try.func8, Try.ntmps8
  go_wp2
  go_loopw [5] (fun v5 wz => ∃ j : Nat, v5 = .int .i64 j ∧ j ≤ ds.length ∧ (∀ x ∈ ds.take j, x.l.length ≤ 70) ∧ Sat W wz []) (fun v5 _ => ds.length - (intOf v5).toNat)
  case atStart => exact ⟨0, rfl, by omega, by simp, H0.out⟩
  case round =>
    clear H0
    obtain ⟨j, rfl, hj, h70, hS⟩ := hrel
    have H70 := Lib.hid h70
    clear h70
    by_cases hlt : j < ds.length
    · obtain ⟨⟨xv, d⟩, hx⟩ : ∃ x, ds[j]? = some x := ⟨_, List.getElem?_eq_getElem hlt⟩
      have hxm := List.mem_of_getElem? hx
      obtain ⟨b2, off2, rfl, _⟩ := HD5.out (by omega)
      have HXJ := Lib.hid hx
      obtain ⟨aod, cd, he, hcd1, hcd2, _, hd5⟩ := HSH.out _ hxm
      dsimp only at he
      subst he
      have HXD := Lib.hid (fun w L' (h : Sat W w L') => show Rd w (.slice aod d.length cd) d.length 2 (d.flatMap ev2) from HX.out w L' h _ hxm)
      have HD5' := Lib.hid hd5
      have HLT := Lib.hid hlt
      have k1 : (j : Int) < (ds.length : Int) := by omega
      dsimp only at hcd1
      have n3 : (d.length : Int) ≤ (cd : Int) := by omega
      by_cases h7 : 70 < d.length
      · have d1 : decide ((70 : Int) < (d.length : Int)) = true := decide_eq_true (by omega)
        have d2 : decide (70 < d.length) = true := decide_eq_true h7
        clear hx hxm hlt hj h7 hd5
        go_wp2_with (first
          | (refine toList (by rfl) ?_; refine wp_of_reads (rLdRd (f := dav) (x := ⟨.slice (_) d.length cd, d⟩) (u := .slice (_) d.length cd) (HD.out _ _ hS) (dav_len ds) _ _ (by rfl) _ (by rfl) (agOf (by rfl)) j 0 (by omega) HXJ.out (by rfl) (by omega)) ?_)
          | (go_at_call 18; refine (wake_any hS).mono ?_; rintro e w1 ⟨rfl, hS1⟩; clear hS; have hS := hS1; clear hS1))
        go_ret
        exact ⟨rfl, hS.map fun _ _ => trivial⟩
      · have d1 : decide ((70 : Int) < (d.length : Int)) = false := decide_eq_false (by omega)
        have d2 : decide (70 < d.length) = false := decide_eq_false h7
        have H702 := Lib.hid (show ∀ x ∈ ds.take (j + 1), x.l.length ≤ 70 from fun x hx2 => by
          rw [List.take_add_one, hx] at hx2
          rcases List.mem_append.1 hx2 with h | h
          · exact H70.out x h
          · rw [show x = ⟨.slice aod d.length cd, d⟩ by simpa using h]
            show d.length ≤ 70
            omega)
        clear hx hxm hlt hj h7 hd5
        go_wp2_with (first
          | (refine toList (by rfl) ?_; refine wp_of_reads (rLdRd (f := dav) (x := ⟨.slice (_) d.length cd, d⟩) (u := .slice (_) d.length cd) (HD.out _ _ hS) (dav_len ds) _ _ (by rfl) _ (by rfl) (agOf (by rfl)) j 0 (by omega) HXJ.out (by rfl) (by omega)) ?_))
        have H0 := Lib.hid hS
        go_loopw [6] (fun v6 wz => ∃ m : Nat, v6 = .int .i64 m ∧ m ≤ d.length ∧ Sat W wz []) (fun v6 _ => d.length - (intOf v6).toNat)
        case atStart => exact ⟨0, rfl, by omega, H0.out⟩
        case round =>
          clear hS H0
          obtain ⟨m, rfl, hm, hS⟩ := hrel
          by_cases hlt : m < d.length
          · obtain ⟨⟨en, ei⟩, hx⟩ : ∃ e, d[m]? = some e := ⟨_, List.getElem?_eq_getElem hlt⟩
            have HXM := Lib.hid hx
            obtain ⟨bx, ofx, rfl⟩ : ∃ bx ofx, aod = some ⟨bx, ofx, none⟩ := by
              obtain ⟨b', o', h6, _⟩ := HD5'.out (by omega)
              exact ⟨b', o', h6⟩
            have p1 : (m : Int) < (d.length : Int) := by omega
            have HLM := Lib.hid hlt
            by_cases h1 : 100 < en.length
            · have g1 : decide ((100 : Int) < (en.length : Int)) = true := decide_eq_true (by omega)
              have g2 : decide (100 < en.length) = true := decide_eq_true h1
              clear hx hlt hm h1
              go_wp2_with (first
                | (refine toList (by rfl) ?_; refine wp_of_reads (rLdRd (f := dav) (x := ⟨.slice (some ⟨bx, ofx, none⟩) d.length cd, d⟩) (u := .slice (some ⟨bx, ofx, none⟩) d.length cd) (HD.out _ _ hS) (dav_len ds) _ _ (by rfl) _ (by rfl) (agOf (by rfl)) j 0 (by omega) HXJ.out (by rfl) (by omega)) ?_)
                | (refine toList (by rfl) ?_; refine wp_of_reads (rLdRd (f := ev2) (x := ⟨en, ei⟩) (u := .string ⟨en.toArray⟩) (HXD.out _ _ hS) (ev2_len d) _ _ (by rfl) _ (by rfl) (agOf (by rfl)) m 0 (by omega) HXM.out (by rfl) (by omega)) ?_)
                | (go_at_call 18; refine (wake_any hS).mono ?_; rintro e w1 ⟨rfl, hS1⟩; clear hS; have hS := hS1; clear hS1))
              go_ret
              exact ⟨rfl, hS.map fun _ _ => trivial⟩
            · have g1 : decide ((100 : Int) < (en.length : Int)) = false := decide_eq_false (by omega)
              have g2 : decide (100 < en.length) = false := decide_eq_false h1
              clear hx hlt hm h1
              go_wp2_with (first
                | (refine toList (by rfl) ?_; refine wp_of_reads (rLdRd (f := dav) (x := ⟨.slice (some ⟨bx, ofx, none⟩) d.length cd, d⟩) (u := .slice (some ⟨bx, ofx, none⟩) d.length cd) (HD.out _ _ hS) (dav_len ds) _ _ (by rfl) _ (by rfl) (agOf (by rfl)) j 0 (by omega) HXJ.out (by rfl) (by omega)) ?_)
                | (refine toList (by rfl) ?_; refine wp_of_reads (rLdRd (f := ev2) (x := ⟨en, ei⟩) (u := .string ⟨en.toArray⟩) (HXD.out _ _ hS) (ev2_len d) _ _ (by rfl) _ (by rfl) (agOf (by rfl)) m 0 (by omega) HXM.out (by rfl) (by omega)) ?_))
              exact ⟨⟨m + 1, by go_num, HLM.out, hS⟩, by simp [intOf]; have := HLM.out; omega⟩
          · obtain rfl : m = d.length := by omega
            have p1 : ¬ (d.length : Int) < (d.length : Int) := by omega
            clear hlt hm
            go_wp2_with (first
              | (refine toList (by rfl) ?_; refine wp_of_reads (rLdRd (f := dav) (x := ⟨.slice (_) d.length cd, d⟩) (u := .slice (_) d.length cd) (HD.out _ _ hS) (dav_len ds) _ _ (by rfl) _ (by rfl) (agOf (by rfl)) j 0 (by omega) HXJ.out (by rfl) (by omega)) ?_))
            exact ⟨⟨j + 1, by go_num, HLT.out, H702.out, hS⟩, by simp [intOf]; have := HLT.out; omega⟩
    · obtain rfl : j = ds.length := by omega
      have h70 : ∀ x ∈ ds, x.l.length ≤ 1000 := fun x hx => by
        have := H70.out x (by rw [List.take_length]; exact hx); omega
      have k1 : ¬ (ds.length : Int) < (ds.length : Int) := by omega
      have HTL := Lib.hid (fun w (ao' : Option Addr) (c' : Nat) (h : Sat W w [Tb 3 1 inv1 (.slice ao' ks.length c') ks]) => tload_any h ks ao' c' (fun w L' h => Sat.tbRd h (has_at (L' := L') (k := 0) rfl)) (by have := HN.out; omega) ds ao2 c2 (fun w L' h => HD.out _ _ h) (by have := HN.out; omega) (fun w L' h x hm => HX.out _ _ h x hm) h70)
      have HRL := Lib.hid (fun w L' (h : Sat W w L') => rload_any h ks ao c (fun w L' h => HR.out _ _ h) (by have := HN.out; omega) ds ao2 c2 (fun w L' h => HD.out _ _ h) (by have := HN.out; omega) (fun w L' h x hm => HX.out _ _ h x hm) h70)
      by_cases hok : TrD.LoadOk ks (ds.map DArg.l)
      · have hT := hok.ok
        have hl2 : (TrD.padT ks (ds.map DArg.l)).lst [] = TrD.padT ks (ds.map DArg.l) := lst_last rfl
        have HSM := Lib.hid (fun w p q (L' : List Asrt) (h : Sat W w (IsT p (TrD.padT ks (ds.map DArg.l)) :: IsW q (TrD.padT ks (ds.map DArg.l)) :: L')) => by
          rw [← hl2] at h
          have := same_tree (T := TrD.padT ks (ds.map DArg.l)) (l2 := []) (by rw [hl2] at h; rw [hl2]; exact h) hT (by simp)
          rw [hl2] at this; exact this)
        clear hlt hj h70
        go_wp2_with (first
          | (go_at_call 31; refine (ints_any hS ks _ (fun w h => HR.out _ _ h) (by have := HN.out; omega)).mono ?_; rintro e w1 ⟨v1, rfl, hS1⟩; clear hS; have hS := hS1; clear hS1; obtain ⟨ao1, c1, rfl, _⟩ := hS.tbShape (k := 0) rfl)
          | (go_at_call 30; refine (HTL.out _ _ _ hS).mono ?_; rintro e w1 ⟨v, rfl, hP⟩; obtain ⟨p, rfl, hS1⟩ : ∃ p, v = .tuple #[.pointer (some ⟨p, 0, none⟩), .bool true] ∧ Sat W w1 (IsT p (TrD.padT ks (ds.map DArg.l)) :: [Tb 3 1 inv1 (.slice ao1 ks.length c1) ks]) := hP.elim (fun ⟨p, h1, _, h2⟩ => ⟨p, h1, h2⟩) (fun h => absurd hok h.2.1); clear hS; have hS := hS1; clear hS1)
          | (go_at_call 32; refine (HRL.out _ _ hS).mono ?_; rintro e w1 ⟨v, rfl, hP⟩; obtain ⟨q, rfl, hS1⟩ : ∃ q, v = .pointer (some ⟨q, 0, none⟩) ∧ Sat W w1 (IsW q (TrD.padT ks (ds.map DArg.l)) :: IsT p (TrD.padT ks (ds.map DArg.l)) :: [Tb 3 1 inv1 (.slice ao1 ks.length c1) ks]) := hP.elim (fun ⟨p, h1, _, h2⟩ => ⟨p, h1, h2⟩) (fun h => absurd hok h.2.1); clear hS; have hS := hS1; clear hS1; replace hS := hS.pull1)
          | (go_at_call 23; refine (HSM.out _ _ _ _ hS).mono ?_; rintro e w1 ⟨rfl, hS1⟩; clear hS; have hS := hS1; clear hS1)
          | (go_at_call 18; refine (wake_any hS).mono ?_; rintro e w1 ⟨rfl, hS1⟩; clear hS; have hS := hS1; clear hS1))
        go_ret
        exact ⟨rfl, hS.map fun _ _ => trivial⟩
      · clear hlt hj h70
        go_wp2_with (first
          | (go_at_call 31; refine (ints_any hS ks _ (fun w h => HR.out _ _ h) (by have := HN.out; omega)).mono ?_; rintro e w1 ⟨v1, rfl, hS1⟩; clear hS; have hS := hS1; clear hS1; obtain ⟨ao1, c1, rfl, _⟩ := hS.tbShape (k := 0) rfl)
          | (go_at_call 30; refine (HTL.out _ _ _ hS).mono ?_; rintro e w1 ⟨v, rfl, hP⟩; obtain ⟨rfl, hS1⟩ : v = .tuple #[.pointer none, .bool false] ∧ Sat W w1 [Tb 3 1 inv1 (.slice ao1 ks.length c1) ks] := hP.elim (fun ⟨p, _, h1, h2⟩ => absurd h1 hok) (fun h => ⟨h.1, h.2.2⟩); clear hS; have hS := hS1; clear hS1)
          | (go_at_call 32; refine (HRL.out _ _ hS).mono ?_; rintro e w1 ⟨v, rfl, hP⟩; obtain ⟨rfl, hS1⟩ : v = .pointer none ∧ Sat W w1 [Tb 3 1 inv1 (.slice ao1 ks.length c1) ks] := hP.elim (fun ⟨p, _, h1, h2⟩ => absurd h1 hok) (fun h => ⟨h.1, h.2.2⟩); clear hS; have hS := hS1; clear hS1)
          | (go_at_call 18; refine (wake_any hS).mono ?_; rintro e w1 ⟨rfl, hS1⟩; clear hS; have hS := hS1; clear hS1))
        go_ret
        exact ⟨rfl, hS.map fun _ _ => trivial⟩

set_option maxRecDepth 100000 in
theorem Loads.contract (H : Type) (enc : TypeId × Value → H) (W : World) (base : Nat) (args : Array Value) (ds gs : List (DataW H)) (before : List MemPlace)
    (hval : ∀ (j : Nat) t v, Try.f8.params[j]? = some t → args[j]? = some v → Value.okWide Try.prog W .any base t v)
    (hW : DataW.Whole enc Try.prog Try.f8.params.toList Rows.treeLoadsSpec.vars false W args.toList ds gs before)
    (hreach : (DataW.weightsEach Try.prog (Try.f8.params.toList ++ Rows.treeLoadsSpec.plain.varTypes Try.prog) (ds ++ gs)).all (· ≤ reachBytes) = true) :
    Calls Try.prog 8 args W fun e W' => ∃ v, e = .returned v ∧ Rows.treeLoadsSpec.post enc Try.prog Try.f8 false true false false W args v W' := by
  have hW' := hW
  obtain ⟨p, q, hA, hV, rfl, hfz, hnd⟩ := hW
  rw [Try.params8] at hA hval hreach
  obtain ⟨v0, vs0, d0, ds0, p0, q0, hargs, rfl, rfl, h0, r0⟩ := trodAll_cons hA
  obtain ⟨v1, vs1, d1, ds1, p1, q1, hargs1, rfl, rfl, h1, r1⟩ := trodAll_cons r0
  obtain ⟨rfl, rfl, rfl⟩ := trodAll_nil r1
  obtain rfl : args = #[v0, v1] := by cases args; simp_all
  obtain ⟨rfl, rfl⟩ := trodVars_none hV
  obtain ⟨ao0, len0, cap0, rfl⟩ := okWide_slice Try.underlying36 (hval 0 36 v0 rfl rfl)
  obtain ⟨ao1, len1, cap1, rfl⟩ := okWide_slice Try.underlying57 (hval 1 57 v1 rfl rfl)
  obtain ⟨ks, rfl, hr0, hb0, _⟩ := open_nums Try.underlying36 Try.underlying3 (by kernel_rfl) h0
  obtain ⟨ds, rfl, hr1, hx1⟩ := open_dargs h1
  refine (Loads.walk ks ao0 cap0 ds ao1 cap1 W (by rw [inv1_fm]; exact hr0) hr1 hx1).mono ?_
  refine fun e W' ⟨he, hS⟩ => ?_
  subst he
  exact ⟨_, rfl, law_post (tb := 4) (by kernel_rfl) (by kernel_rfl) rfl Try.underlying4 rfl hW' rfl hS⟩

theorem Loads.own : ownKnob Try.prog.godebug = none := by kernel_rfl
set_option maxRecDepth 100000 in
theorem Loads.lifted (os : Os) (started : os.Started) (H : Type) (enc : TypeId × Value → H) :
    ReturnsInHanded {} Try.checked os 8 .any (Rows.treeLoadsSpec.pre6 enc Try.prog Try.f8 Rows.treeLoadsRow.domain false) (Rows.treeLoadsSpec.post enc Try.prog Try.f8 false true false false) := by
  refine returnsInHanded_of_change_shaped (C := Try.checked) Loads.own started (by kernel_rfl) Try.func8
    (ChangeSpec.witness6 (enc := enc) (C := Try.checked) false ⟨#[], #[.slice none 0 0, .slice none 0 0], []⟩ 8 (by kernel_rfl) (by kernel_rfl) (by kernel_rfl) (by kernel_rfl)) ?_
  intro W base args ds gs before hval hW _ hreach _ _
  exact Loads.contract H enc W base args ds gs before hval hW hreach

theorem Loads.holds : Rows.TreeLoadsSaid :=
  OpenClaim.holds_of_wide 8 Try.f8 rfl rfl rfl rfl rfl rfl rfl ⟨rfl, rfl, rfl, rfl, rfl⟩ rfl rfl rfl rfl rfl (by kernel_rfl) Try.func8 (by kernel_rfl)
    (of_decide_eq_true (by kernel_rfl)) (by unfold Func.isWrapper; first | (rw [if_pos (by decide +kernel)]; kernel_rfl) | (rw [if_neg (by decide +kernel)]; exact ⟨rfl, rfl⟩))
    (fun os started H enc _ => Loads.lifted os started H enc)
end Go.Proofs.Ytiieicdhkcikpaa
