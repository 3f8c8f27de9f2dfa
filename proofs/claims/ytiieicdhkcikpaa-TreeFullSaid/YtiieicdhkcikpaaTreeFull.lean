/-
  For every number, TreeFull answers true: no condition.
-/
import Derived.Test.YtiieicdhkcikpaaTrFullP
import Derived.Test.YtiieicdhkcikpaaMUnl
import Derived.Test.YtiieicdhkcikpaaMAwk
import Derived.Test.YtiieicdhkcikpaaMSep
import Derived.Test.YtiieicdhkcikpaaMReg
namespace Go.Proofs.Ytiieicdhkcikpaa
open Go.RowKit Go.Sep Go.ChangeShapes Go.WideShapes Go.ChangeAt
set_option linter.unusedSimpArgs false
set_option linter.unusedVariables false
attribute [local irreducible] Go.Oper.wp Go.wpList Go.Calls Go.Code.wp Go.Sep.Reg
attribute [local irreducible] IsT
theorem fbA : ∀ i : Nat, i < 47 → (97 + ((i : Int) + 1) / 26) = ((UInt8.ofNat (97 + (i + 1) / 26)).toNat : Int) := by decide +kernel
theorem fbB : ∀ i : Nat, i < 47 → (97 + ((i : Int) + 1) % 26) = ((UInt8.ofNat (97 + (i + 1) % 26)).toNat : Int) := by decide +kernel
theorem fbC : ∀ i : Nat, i < 47 → (97 + (1 + (i : Int)) / 26) = ((UInt8.ofNat (97 + (i + 1) / 26)).toNat : Int) := by decide +kernel
theorem fbD : ∀ i : Nat, i < 47 → (97 + (1 + (i : Int)) % 26) = ((UInt8.ofNat (97 + (i + 1) % 26)).toNat : Int) := by decide +kernel
theorem full_mk {W w : World} {L : List Asrt} {p b : Nat} {T : TrD} (hT : T.Ok) (n : List UInt8) (k : Int) (h : Sat W w (Cs b 9 [sv n] :: IsT p T :: L)) :
    Calls Try.prog 11 #[.pointer (some ⟨p, 0, none⟩), .slice (some ⟨b, 0, none⟩) 1 1, .int .i64 k] w fun r w' => r = .returned (.tuple #[.int .i64 (T.mkI [n] k : Nat), .int .i64 (T.mkE [n] k)]) ∧ Sat W w' (IsT p (T.mk' [n] k) :: L) := by
  refine (tmake_any h.pull1 hT [n] (some ⟨b, 0, none⟩) 1 (fun w L' h => cs_names (L := Cs b 9 [sv n] :: L) (E := 9) (l := [n]) (k := 0) rfl (by simp) h) (by simp) k).mono ?_
  rintro r w1 ⟨rfl, h1⟩
  exact ⟨rfl, h1.pull1.drop⟩
theorem full_ul {W w : World} {L : List Asrt} {p b : Nat} {T : TrD} (hT : T.Ok) (n : List UInt8) (h : Sat W w (Cs b 9 [sv n] :: IsT p T :: L)) :
    Calls Try.prog 14 #[.pointer (some ⟨p, 0, none⟩), .slice (some ⟨b, 0, none⟩) 1 1] w fun r w' => r = .returned (.tuple #[.int .i64 (T.ulI [n] : Nat), .int .i64 (T.ulE [n])]) ∧ Sat W w' (IsT p (T.ul [n]) :: L) := by
  refine (tunlink_any h.pull1 hT [n] (some ⟨b, 0, none⟩) 1 (fun w L' h => cs_names (L := Cs b 9 [sv n] :: L) (E := 9) (l := [n]) (k := 0) rfl (by simp) h) (by simp)).mono ?_
  rintro r w1 ⟨rfl, h1⟩
  exact ⟨rfl, h1.pull1.drop⟩
theorem TrD.fT_next (i : Nat) : (TrD.fT i).mk' [fnm (i + 1)] 1 = TrD.fT (i + 1) := rfl
theorem TrD.fT_0 : TrD.new = TrD.fT 0 := rfl
attribute [local irreducible] TrD.fT
set_option maxRecDepth 20000 in
set_option maxHeartbeats 4000000 in
theorem Full.walk (n : Int) (W : World) :
    Calls Try.prog 3 #[.int .i64 n] W fun e w' => e = .returned (.bool true) ∧ Sat W w' [] := by
  have hS := Sat.start W
  go_enter Try.func3, Try.ntmps3
  go_wp2_with (first
    | (go_at_call 10; refine (tnew_any hS).mono ?_; rintro r w1 ⟨p, rfl, hS1⟩; clear hS; have hS := hS1; clear hS1))
  have H0 := Lib.hid (show Sat W _ [IsT p (TrD.fT 0)] by rw [← TrD.fT_0]; exact hS)
  go_loopw [4] (fun v wz => ∃ i : Nat, v = .int .i64 ((i : Int) + 1) ∧ i ≤ 47 ∧ Sat W wz [IsT p (TrD.fT i)]) (fun v _ => 48 - (intOf v).toNat)
  case atStart => exact ⟨0, rfl, by omega, H0.out⟩
  case round =>
    clear hS H0
    obtain ⟨i, rfl, hi, hS⟩ := hrel
    by_cases hlt : i < 47
    · have g1 : (i : Int) + 1 < 48 := by omega
      have q0 : 0 ≤ (i : Int) := by omega
      have q1 : (i : Int) < 47 := by omega
      have eA := Lib.hid (fbA i hlt)
      have eB := Lib.hid (fbB i hlt)
      obtain ⟨m1, m2⟩ := TrD.fT_mk i hlt
      have HMK := Lib.hid (fun w b (h : Sat W w (Cs b 9 [sv (fnm (i + 1))] :: [IsT p (TrD.fT i)])) => show Calls Try.prog 11 #[.pointer (some ⟨p, 0, none⟩), .slice (some ⟨b, 0, none⟩) 1 1, .int .i64 1] w (fun r w' => r = .returned (.tuple #[.int .i64 ((i : Int) + 1), .int .i64 0]) ∧ Sat W w' [IsT p (TrD.fT (i + 1))]) by
        have := full_mk (TrD.fT_ok i) _ 1 h
        rw [m1, m2] at this
        have e : (TrD.fT i).mk' [fnm (i + 1)] 1 = TrD.fT (i + 1) := TrD.fT_next i
        rw [e] at this
        exact this)
      have HLT := Lib.hid hlt
      obtain ⟨xa, hxa⟩ : ∃ x, UInt8.ofNat (97 + (i + 1) / 26) = x := ⟨_, rfl⟩
      obtain ⟨xb, hxb⟩ : ∃ x, UInt8.ofNat (97 + (i + 1) % 26) = x := ⟨_, rfl⟩
      have hf : fnm (i + 1) = [102, xa, xb] := by unfold fnm; rw [hxa, hxb]
      rw [hf] at HMK
      rw [hxa] at eA
      rw [hxb] at eB
      clear m1 m2 hlt hi hxa hxb hf
      go_wp2_with (first
        | (refine toList (by rfl) ?_; refine bsF hS _ _ _ (by rfl) (elOf (by rfl)) [.int .u8 (97 + ((i : Int) + 1) / 26), .int .u8 (97 + ((i : Int) + 1) % 26)] (by rfl) (by rfl) (by decide) (by decide) (by intro v hv; simp only [List.mem_cons, List.not_mem_nil, or_false] at hv; rcases hv with rfl | rfl <;> rfl) ?_; intro b1 w1 hS1; clear hS; have hS := (show Sat W w1 (Cs b1 5 [.int .u8 (97 + ((i : Int) + 1) / 26), .int .u8 (97 + ((i : Int) + 1) % 26)] :: _) from hS1); clear hS1; rw [eA.out, eB.out] at hS)
              | (refine toList (by rfl) ?_; refine cvS _ _ _ (by rfl) _ (by rfl) strBytes (l := [xa, xb]) (by exact hS.csRd0 (n := 2) Has.z (by decide) rfl) ?_; replace hS := hS.drop)
        | (refine toList (by rfl) ?_; refine bsF hS _ _ _ (by rfl) (elOf (by rfl)) [sv ([102, xa, xb])] (by rfl) (by rfl) (by decide) (by decide) (by intro v hv; rw [List.mem_singleton.1 hv]; rfl) ?_; intro b2 w1 hS1; clear hS; have hS := (show Sat W w1 (Cs b2 9 [sv ([102, xa, xb])] :: _) from hS1); clear hS1)
        | (go_at_call 11; refine (HMK.out _ _ hS).mono ?_; rintro r w1 ⟨rfl, hS1⟩; clear hS; have hS := hS1; clear hS1))
      exact ⟨⟨i + 1, by go_num, HLT.out, hS⟩, by simp [intOf]; have := HLT.out; omega⟩
    · obtain rfl : i = 47 := by omega
      clear hlt hi
      obtain ⟨k, hk, hk47⟩ : ∃ k : Nat, n % 47 = (k : Int) ∧ k < 47 := ⟨(n % 47).toNat, by omega, by omega⟩
      have HPL := Lib.hid (fun w => by have := place_any n 47 (by decide) (by decide) w; rw [hk] at this; exact this)
      have q0 : 0 ≤ (k : Int) := by omega
      have q1 : (k : Int) < 47 := by omega
      have eC := Lib.hid (fbC k hk47)
      have eD := Lib.hid (fbD k hk47)
      have ec : ((k + 1 : Nat) : Int) = 1 + (k : Int) := by omega
      obtain ⟨n1, n2⟩ := TrD.fT_more
      obtain ⟨u1, u2, u3, u4⟩ := TrD.fT_un k hk47
      obtain ⟨v1, v2, v3, v4⟩ := TrD.fT_dr k hk47
      have e0 : (TrD.fT 47).mkI [more4] 2 = 0 := by unfold TrD.mkI; rw [n1]; rfl
      have e1 : (TrD.fT 47).mk' [more4] 2 = TrD.fT 47 := by unfold TrD.mk'; rw [n1]; rfl
      have hok := TrD.fT_ok 47
      obtain ⟨T, hT⟩ : ∃ T, TrD.fT 47 = T := ⟨_, rfl⟩
      rw [hT] at hS n1 n2 u1 u2 u3 u4 v1 v2 v3 v4 e0 e1 hok
      have hok1 := hok.ul [fnm (k + 1)]
      rw [ec] at u3 u4 v1 v2 v3 v4
      have HMK := Lib.hid (fun w b (h : Sat W w (Cs b 9 [sv more4] :: [IsT p T])) => by have := full_mk hok _ 2 h; rw [n1, e0, e1] at this; exact this)
      have HFR := Lib.hid (fun w (h : Sat W w [IsT p T]) => by have := tfree_any h hok; rw [n2] at this; exact this)
      have HUL := Lib.hid (fun w b (h : Sat W w (Cs b 9 [sv (fnm (k + 1))] :: [IsT p T])) => by have := full_ul hok _ h; rw [u1, u2, ec] at this; exact this)
      obtain ⟨T1, hT1⟩ : ∃ T1, T.ul [fnm (k + 1)] = T1 := ⟨_, rfl⟩
      rw [hT1] at u3 u4 v1 v2 v3 v4 hok1 HUL
      have hok2 := hok1.dr (1 + (k : Int))
      have HLN := Lib.hid (fun w (h : Sat W w [IsT p T1]) => by have := tlinks_any h (1 + (k : Int)); rw [u3] at this; exact this)
      have HKD := Lib.hid (fun w (h : Sat W w [IsT p T1]) => by have := tkind_any h (1 + (k : Int)); rw [u4] at this; exact this)
      have HD1 := Lib.hid (fun w (h : Sat W w [IsT p T1]) => by have := tdrop_any h hok1 (1 + (k : Int)); rw [v1] at this; exact this)
      obtain ⟨T2, hT2⟩ : ∃ T2, T1.dr (1 + (k : Int)) = T2 := ⟨_, rfl⟩
      rw [hT2] at v2 v3 v4 hok2 HD1
      have hd2 : T2.dr (1 + (k : Int)) = T2 := by unfold TrD.dr; rw [v2]; rfl
      have HD2 := Lib.hid (fun w (h : Sat W w [IsT p T2]) => by have := tdrop_any h hok2 (1 + (k : Int)); rw [v2, hd2] at this; exact this)
      have HM2 := Lib.hid (fun w b (h : Sat W w (Cs b 9 [sv more4] :: [IsT p T2])) => by have := full_mk hok2 _ 2 h; rw [v3, v4, ec] at this; exact this)
      obtain ⟨xa, hxa⟩ : ∃ x, UInt8.ofNat (97 + (k + 1) / 26) = x := ⟨_, rfl⟩
      obtain ⟨xb, hxb⟩ : ∃ x, UInt8.ofNat (97 + (k + 1) % 26) = x := ⟨_, rfl⟩
      have hf : fnm (k + 1) = [102, xa, xb] := by unfold fnm; rw [hxa, hxb]
      rw [hf] at HUL
      rw [hxa] at eC
      rw [hxb] at eD
      clear hxa hxb hf
      clear n1 n2 u1 u2 u3 u4 v1 v2 v3 v4 e0 e1 hok hok1 hok2 hT hT1 hT2 hd2 hk ec
      go_wp2_with (first
        | (refine toList (by rfl) ?_; refine bsF hS _ _ _ (by rfl) (elOf (by rfl)) [sv (more4)] (by rfl) (by rfl) (by decide) (by decide) (by intro v hv; rw [List.mem_singleton.1 hv]; rfl) ?_; intro b2 w1 hS1; clear hS; have hS := (show Sat W w1 (Cs b2 9 [sv (more4)] :: _) from hS1); clear hS1)
        | (go_at_call 11; refine (HMK.out _ _ hS).mono ?_; rintro r w1 ⟨rfl, hS1⟩; clear hS; have hS := hS1; clear hS1)
        | (go_at_call 12; refine (HFR.out _ hS).mono ?_; rintro r w1 ⟨rfl, hS1⟩; clear hS; have hS := hS1; clear hS1)
        | (go_at_call 13; refine (HPL.out _).mono ?_; rintro r w1 ⟨rfl, rfl⟩)
        | (refine toList (by rfl) ?_; refine bsF hS _ _ _ (by rfl) (elOf (by rfl)) [.int .u8 (97 + (1 + (k : Int)) / 26), .int .u8 (97 + (1 + (k : Int)) % 26)] (by rfl) (by rfl) (by decide) (by decide) (by intro v hv; simp only [List.mem_cons, List.not_mem_nil, or_false] at hv; rcases hv with rfl | rfl <;> rfl) ?_; intro b1 w1 hS1; clear hS; have hS := (show Sat W w1 (Cs b1 5 [.int .u8 (97 + (1 + (k : Int)) / 26), .int .u8 (97 + (1 + (k : Int)) % 26)] :: _) from hS1); clear hS1; rw [eC.out, eD.out] at hS)
              | (refine toList (by rfl) ?_; refine cvS _ _ _ (by rfl) _ (by rfl) strBytes (l := [xa, xb]) (by exact hS.csRd0 (n := 2) Has.z (by decide) rfl) ?_; replace hS := hS.drop)
        | (refine toList (by rfl) ?_; refine bsF hS _ _ _ (by rfl) (elOf (by rfl)) [sv ([102, xa, xb])] (by rfl) (by rfl) (by decide) (by decide) (by intro v hv; rw [List.mem_singleton.1 hv]; rfl) ?_; intro b2 w1 hS1; clear hS; have hS := (show Sat W w1 (Cs b2 9 [sv ([102, xa, xb])] :: _) from hS1); clear hS1)
        | (go_at_call 14; refine (HUL.out _ _ hS).mono ?_; rintro r w1 ⟨rfl, hS1⟩; clear hS; have hS := hS1; clear hS1)
        | (go_at_call 15; refine (HLN.out _ hS).mono ?_; rintro r w1 ⟨rfl, rfl⟩)
        | (go_at_call 16; refine (HKD.out _ hS).mono ?_; rintro r w1 ⟨rfl, rfl⟩)
        | (go_at_call 17; refine (HD1.out _ hS).mono ?_; rintro r w1 ⟨rfl, hS1⟩; clear hS; have hS := hS1; clear hS1)
        | (go_at_call 17; refine (HD2.out _ hS).mono ?_; rintro r w1 ⟨rfl, hS1⟩; clear hS; have hS := hS1; clear hS1)
        | (go_at_call 11; refine (HM2.out _ _ hS).mono ?_; rintro r w1 ⟨rfl, hS1⟩; clear hS; have hS := hS1; clear hS1)
        | (go_at_call 18; refine (wake_any hS).mono ?_; rintro r w1 ⟨rfl, hS1⟩; clear hS; have hS := hS1; clear hS1))
      go_ret
      exact ⟨rfl, hS.map fun _ _ => trivial⟩

set_option maxRecDepth 100000 in
theorem Full.contract (H : Type) (enc : TypeId × Value → H) (W : World) (base : Nat) (args : Array Value) (ds gs : List (DataW H)) (before : List MemPlace)
    (hval : ∀ (j : Nat) t v, Try.f3.params[j]? = some t → args[j]? = some v → Value.okWide Try.prog W .any base t v)
    (hW : DataW.Whole enc Try.prog Try.f3.params.toList Rows.treeFullSpec.vars false W args.toList ds gs before)
    (hreach : (DataW.weightsEach Try.prog (Try.f3.params.toList ++ Rows.treeFullSpec.plain.varTypes Try.prog) (ds ++ gs)).all (· ≤ reachBytes) = true) :
    Calls Try.prog 3 args W fun e W' => ∃ v, e = .returned v ∧ Rows.treeFullSpec.post enc Try.prog Try.f3 false true false false W args v W' := by
  have hW' := hW
  obtain ⟨p, q, hA, hV, rfl, hfz, hnd⟩ := hW
  rw [Try.params3] at hA hval hreach
  obtain ⟨v1, vs1, d1, ds1, p1, q1, hargs, rfl, rfl, h1, r1⟩ := trodAll_cons hA
  obtain ⟨rfl, rfl, rfl⟩ := trodAll_nil r1
  obtain rfl : args = #[v1] := by cases args; simp_all
  obtain ⟨rfl, rfl⟩ := trodVars_none hV
  obtain ⟨a1, rfl, rfl, rfl, w1⟩ := open_int Try.underlying3 (hval 0 3 v1 rfl rfl) h1
  refine (Full.walk a1 W).mono ?_
  refine fun e W' ⟨he, hS⟩ => ?_
  subst he
  exact ⟨_, rfl, law_post (tb := 4) (by kernel_rfl) (by kernel_rfl) rfl Try.underlying4 rfl hW' rfl hS⟩

theorem Full.own : ownKnob Try.prog.godebug = none := by kernel_rfl
set_option maxRecDepth 100000 in
theorem Full.lifted (os : Os) (started : os.Started) (H : Type) (enc : TypeId × Value → H) :
    ReturnsInHanded {} Try.checked os 3 .any (Rows.treeFullSpec.pre6 enc Try.prog Try.f3 Rows.treeFullRow.domain false) (Rows.treeFullSpec.post enc Try.prog Try.f3 false true false false) := by
  refine returnsInHanded_of_change_shaped (C := Try.checked) Full.own started (by kernel_rfl) Try.func3
    (ChangeSpec.witness6 (enc := enc) (C := Try.checked) false ⟨#[], #[.int .i64 0], []⟩ 8 (by kernel_rfl) (by kernel_rfl) (by kernel_rfl) (by kernel_rfl)) ?_
  intro W base args ds gs before hval hW _ hreach _ _
  exact Full.contract H enc W base args ds gs before hval hW hreach

theorem Full.holds : Rows.TreeFullSaid :=
  OpenClaim.holds_of_wide 3 Try.f3 rfl rfl rfl rfl rfl rfl rfl ⟨rfl, rfl, rfl, rfl, rfl⟩ rfl rfl rfl rfl rfl (by kernel_rfl) Try.func3 (by kernel_rfl)
    (of_decide_eq_true (by kernel_rfl)) (by unfold Func.isWrapper; first | (rw [if_pos (by decide +kernel)]; kernel_rfl) | (rw [if_neg (by decide +kernel)]; exact ⟨rfl, rfl⟩))
    (fun os started H enc _ => Full.lifted os started H enc)
end Go.Proofs.Ytiieicdhkcikpaa
