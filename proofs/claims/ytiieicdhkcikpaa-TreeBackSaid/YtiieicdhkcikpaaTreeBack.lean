/-
  For all scripts, TreeBack answers true: no condition.
-/
import Derived.Test.YtiieicdhkcikpaaMDo
import Derived.Test.YtiieicdhkcikpaaMLaw
import Derived.Test.YtiieicdhkcikpaaMPth
import Derived.Test.YtiieicdhkcikpaaTrSame
import Derived.Test.YtiieicdhkcikpaaTrLoad3
namespace Go.Proofs.Ytiieicdhkcikpaa
open Go.RowKit Go.Sep Go.ChangeShapes Go.WideShapes Go.ChangeAt
set_option linter.unusedSimpArgs false
set_option linter.unusedVariables false
attribute [local irreducible] Go.Oper.wp Go.wpList Go.Calls Go.Code.wp Go.Sep.Reg
attribute [local irreducible] IsT IsW
theorem dz_l : ∀ {vs : List Value} {ds : List (List EntD)}, vs.length = ds.length → (List.zipWith DArg.mk vs ds).map DArg.l = ds
  | [], [], _ => rfl
  | v :: vs, d :: ds, h => by
    rw [List.zipWith_cons_cons, List.map_cons, dz_l (vs := vs) (ds := ds) (by simpa using h)]
theorem dz_v : ∀ {vs : List Value} {ds : List (List EntD)}, vs.length = ds.length → (List.zipWith DArg.mk vs ds).flatMap dav = vs
  | [], [], _ => rfl
  | v :: vs, d :: ds, h => by
    rw [List.zipWith_cons_cons, List.flatMap_cons, dz_v (vs := vs) (ds := ds) (by simpa using h)]; rfl
theorem dz_mem {vs : List Value} {ds : List (List EntD)} {x : DArg} (h : x ∈ List.zipWith DArg.mk vs ds) : ∃ i : Nat, vs[i]? = some x.v ∧ ds[i]? = some x.l := by
  obtain ⟨i, hi⟩ := List.getElem?_of_mem h
  rw [List.getElem?_zipWith] at hi
  cases h1 : vs[i]? with
  | none => rw [h1] at hi; simp at hi
  | some v =>
    cases h2 : ds[i]? with
    | none => rw [h1, h2] at hi; simp at hi
    | some d =>
      rw [h1, h2] at hi
      cases hi
      exact ⟨i, h1, h2⟩
theorem inR_nat {m : Nat} (hm : m < 48) : inR (m : Int) = true := by unfold inR; rw [decide_eq_true (by omega : (0 : Int) ≤ m), decide_eq_true (by omega : (m : Int) < 48)]; rfl
theorem TrD.lst_lst (T : TrD) (l : List Nat) : (T.lst l).lst T.last = T := rfl
theorem int_one (x : Int) : ∀ u ∈ [x].flatMap inv1, u.oneCell' = true := fun u hu => by
  simp only [List.flatMap_cons, List.flatMap_nil, inv1, List.append_nil, List.mem_singleton] at hu
  rw [hu]; rfl
set_option maxRecDepth 20000 in
set_option maxHeartbeats 4000000 in
theorem Back.walk (l : List TOp) (ao : Option Addr) (c : Nat) (W : World) (hr : Rd W (.slice ao l.length c) l.length 5 (l.flatMap opv)) (hx : ∀ x ∈ l, x.Ok W) :
    Calls Try.prog 9 #[.slice ao l.length c] W fun e w' => e = .returned (.bool true) ∧ Sat W w' [] := by
  have hS := Sat.start W
  have HR := Lib.hid (fun u (L : List Asrt) (h : Sat W u L) => hr.old h)
  obtain ⟨_, _, he, hc1, hc2, _, h5⟩ := hr
  simp only [Value.slice.injEq, true_and] at he
  obtain ⟨rfl, rfl⟩ := he
  have H5 := Lib.hid h5
  have HOX := Lib.hid hx
  clear h5 hx
  go_enter Try.func9, Try.ntmps9
  go_wp2_with (first
    | (go_at_call 10; refine (tnew_any hS).mono ?_; rintro r w1 ⟨p, rfl, hS1⟩; clear hS; have hS := hS1; clear hS1)
    | (go_at_call 21; refine (rnew_any hS).mono ?_; rintro r w1 ⟨q, rfl, hS1⟩; clear hS; have hS := hS1; clear hS1; replace hS := hS.pull1))
  have H0 := Lib.hid hS
  go_loopw [5] (fun v wz => ∃ (i : Nat) (T : TrD), v = .int .i64 i ∧ i ≤ l.length ∧ i ≤ 60 ∧ T.Ok ∧ T.Tre ∧ Sat W wz [IsT p T, IsW q T]) (fun v _ => 60 - (intOf v).toNat)
  case atStart => exact ⟨0, TrD.new, rfl, by omega, by omega, TrD.new_ok, TrD.new_tre, H0.out⟩
  case round =>
    clear hS H0
    obtain ⟨i, T, rfl, hi, hi5, hok, htre, hS⟩ := hrel
    by_cases hgo : i < l.length ∧ i < 60
    · obtain ⟨hlt, hl5⟩ := hgo
      obtain ⟨bb, off, rfl, _⟩ := H5.out (by omega)
      obtain ⟨x, hx⟩ : ∃ x, l[i]? = some x := ⟨_, List.getElem?_eq_getElem hlt⟩
      have j1 : (i : Int) < (l.length : Int) := by omega
      have j2 : (i : Int) < 60 := by omega
      have HX := Lib.hid hx
      have HLT := Lib.hid hlt
      have HL5 := Lib.hid hl5
      have hok2 := hok.stepO x
      have htre2 := htre.stepO hok x
      have HDO := Lib.hid (fun w (h2 : Sat W w [IsT p T, IsW q T]) => do_any h2 hok x (HOX.out x (List.mem_of_getElem? hx)))
      obtain ⟨T2, hT2⟩ : ∃ T2, T.step x = T2 := ⟨_, rfl⟩
      rw [hT2] at HDO hok2 htre2
      have HOK2 := Lib.hid hok2
      have HTR2 := Lib.hid htre2
      obtain ⟨xk, lv, xl, tv, to, xw, rv, raw⟩ := x
      clear hx hlt hl5 hT2 hi hi5 hok hok2 htre htre2
      go_wp2_with (first
        | (refine toList (by rfl) ?_; refine wp_of_reads (rLdRdA (f := opv) (x := ⟨xk, lv, xl, tv, to, xw, rv, raw⟩) (HR.out _ _ hS) (opv_len l) _ _ (by rfl) _ (by rfl) (agOf (by rfl)) (szOf (by rfl)) i (by omega) HX.out (by omega)) ?_)
        | (go_at_call 22; refine (HDO.out _ hS).mono ?_; rintro e w1 ⟨rfl, hS1⟩; clear hS; have hS := hS1; clear hS1))
      exact ⟨⟨i + 1, T2, by go_num, HLT.out, HL5.out, HOK2.out, HTR2.out, hS⟩, by simp [intOf]; have := HL5.out; omega⟩
    · have hcase : (decide ((i : Int) < (l.length : Int)) = false ∧ decide (i < l.length) = false ∧ ¬ (i : Int) < (l.length : Int)) ∨ ((decide ((i : Int) < (l.length : Int)) = true ∧ decide (i < l.length) = true ∧ (i : Int) < (l.length : Int)) ∧ decide ((i : Int) < 60) = false ∧ decide (i < 60) = false ∧ ¬ (i : Int) < 60) := by
        by_cases h : i < l.length
        · exact .inr ⟨⟨decide_eq_true (by omega), decide_eq_true h, by omega⟩, decide_eq_false (by omega), decide_eq_false (by omega), by omega⟩
        · exact .inl ⟨decide_eq_false (by omega), decide_eq_false h, by omega⟩
      have HOK := Lib.hid hok
      have HTR := Lib.hid htre
      have hlo : (T.lst []).Ok := ⟨hok.kl, hok.dl, hok.srt, hok.ent, hok.len, hok.k0, hok.kk, by simp [TrD.lst]⟩
      have HSM := Lib.hid (fun w u (L' : List Asrt) (h : Sat W w (IsT u (T.lst []) :: IsW q T :: L')) => show Calls Try.prog 23 #[.pointer (some ⟨u, 0, none⟩), .pointer (some ⟨q, 0, none⟩)] w (fun r w' => r = .returned (.bool true) ∧ Sat W w' (IsT u (T.lst []) :: IsW q T :: L')) from by
        have := same_tree (T := T.lst []) (l2 := T.last) (by rw [TrD.lst_lst]; exact h) hlo hok.lst
        rw [TrD.lst_lst] at this; exact this)
      have HKD := Lib.hid (fun w (L' : List Asrt) (h : Sat W w (IsT p T :: L')) (m : Nat) (hm : m < 48) => show Calls Try.prog 16 #[.pointer (some ⟨p, 0, none⟩), .int .i64 (m : Int)] w (fun r w' => r = .returned (.int .i64 (T.kind m)) ∧ w = w') from by
        have := tkind_any h (m : Int)
        have e : T.kindI (m : Int) = T.kind m := by unfold TrD.kindI; rw [inR_nat hm, if_pos rfl, Int.toNat_natCast]
        rw [e] at this; exact this)
      have HEN := Lib.hid (fun w (L' : List Asrt) (h : Sat W w (IsT p T :: L')) (m : Nat) (hm : m < 48) => show Calls Try.prog 27 #[.pointer (some ⟨p, 0, none⟩), .int .i64 (m : Int)] w (fun r w' => ∃ v, r = .returned v ∧ Sat W w' (Er v (T.dir m) :: IsT p T :: L')) from by
        have := tentries_any h hok (m : Int)
        have e : T.dirI (m : Int) = T.dir m := by unfold TrD.dirI; rw [inR_nat hm, if_pos rfl, Int.toNat_natCast]
        rw [e] at this; exact this)
      clear hgo hi hi5 hok htre hlo
      rcases hcase with ⟨k1, k2, k3⟩ | ⟨⟨k1, k2, k3⟩, k4, k5, k6⟩
      all_goals
        go_wp2
        have H0 := Lib.hid (show Sat W _ (Tb 3 1 inv1 (.slice none 0 0) [] :: Tb 51 1 one1 (.slice none 0 0) [] :: St (List.zipWith Er [] []) :: [IsT p T, IsW q T]) from (Sat.stNil hS).tbNil.tbNil)
        go_loopw [6, 7, 8] (fun v6 v7 v8 wz => ∃ (m : Nat) (vs : List Value), v8 = .int .i64 m ∧ m ≤ 48 ∧ vs.length = m ∧ Sat W wz (Tb 3 1 inv1 v6 (T.kinds.take m) :: Tb 51 1 one1 v7 vs :: St (List.zipWith Er vs (T.dirs.take m)) :: [IsT p T, IsW q T])) (fun _ _ v8 _ => 48 - (intOf v8).toNat)
        case atStart => exact ⟨0, [], rfl, by omega, rfl, H0.out⟩
        case round =>
          clear hS H0
          obtain ⟨m, vs, rfl, hm, hvl, hS⟩ := hrel
          by_cases hlt : m < 48
          · have q1 : (m : Int) < 48 := by omega
            have HLT := Lib.hid hlt
            have HVL := Lib.hid hvl
            have HKT := Lib.hid (show T.kinds.take (m + 1) = T.kinds.take m ++ [T.kind m] by rw [List.take_add_one, HOK.out.kind_at hlt]; rfl)
            have HDT := Lib.hid (show T.dirs.take (m + 1) = T.dirs.take m ++ [T.dir m] by rw [List.take_add_one, HOK.out.dir_at hlt]; rfl)
            have HDL := Lib.hid (show vs.length = (T.dirs.take m).length by rw [hvl, List.length_take, HOK.out.dl]; omega)
            have HKL := Lib.hid (show (T.kinds.take m).length ≤ 48 by rw [List.length_take]; omega)
            obtain ⟨kk, hkk⟩ : ∃ kk, T.kind m = kk := ⟨_, rfl⟩
            have HK2 := Lib.hid (fun w (L' : List Asrt) (h : Sat W w (IsT p T :: L')) => by have := HKD.out w L' h m hlt; rw [hkk] at this; exact this)
            have HE2 := Lib.hid (fun w (L' : List Asrt) (h : Sat W w (IsT p T :: L')) => HEN.out w L' h m hlt)
            rw [hkk] at HKT
            clear hlt hm hkk hvl
            go_wp2_with (first
              | (go_at_call 16; refine (HK2.out _ _ (hS.re [3])).mono ?_; rintro r w1 ⟨rfl, rfl⟩)
              | (refine toList (by rfl) ?_; refine bsF hS _ _ _ (by rfl) (elOf (by rfl)) [.int .i64 kk] (by rfl) (by rfl) (by decide) (by decide) (by intro v hv; rw [List.mem_singleton.1 hv]; rfl) ?_; intro b1 w1 hS1; clear hS; have hS := (show Sat W w1 (Cs b1 3 [.int .i64 kk] :: _) from hS1); clear hS1)
              | (refine toList (by rfl) ?_; refine apTb (f := inv1) hS _ _ _ _ (by rfl) _ _ (by rfl) (by rfl) (elOf (by rfl)) (by rfl) (by decide) (inOf (by rfl)) (Has.s Has.z) [kk] (inv1_len _) (by exact .inl (hS.csRd0 (n := 1) Has.z (by decide) rfl)) (int_one _) (by have := HKL.out; simp; omega) (by have := HKL.out; simp; omega) ?_; intro v6' w1 hS1; clear hS; have hS := hS1; clear hS1; dsimp only [List.set_cons_zero, List.set_cons_succ] at hS; replace hS := hS.drop)
              | (go_at_call 27; refine (HE2.out _ _ (hS.re [3])).mono ?_; rintro r w1 ⟨ve, rfl, hS1⟩; clear hS; have hS := hS1.re [2, 3, 4, 0, 1]; clear hS1; obtain ⟨aoe, ce, rfl, _⟩ := Sat.tbShape (k := 3) (show Sat _ _ (_ :: _ :: _ :: Tb 59 2 ev2 ve (T.dir m) :: _) from hS) rfl)
              | (refine toList (by rfl) ?_; refine bsF hS _ _ _ (by rfl) (elOf (by rfl)) [.slice aoe (T.dir m).length ce] (by rfl) (by rfl) (by decide) (by decide) (by intro v hv; rw [List.mem_singleton.1 hv]; rfl) ?_; intro b2 w1 hS1; clear hS; have hS := (show Sat W w1 (Cs b2 51 [.slice aoe (T.dir m).length ce] :: _) from hS1); clear hS1)
              | (refine toList (by rfl) ?_; refine apTb (f := one1) hS _ _ _ _ (by rfl) _ _ (by rfl) (by rfl) (elOf (by rfl)) (by rfl) (by decide) (inOf (by rfl)) (Has.s (Has.s Has.z)) [.slice aoe (T.dir m).length ce] (one1_len _) (by exact .inl (hS.csRd0 (n := 1) Has.z (by decide) rfl)) (by intro u hu; rw [one1_fm] at hu; rw [List.mem_singleton.1 hu]; rfl) (by have := HVL.out; simp; omega) (by have := HVL.out; simp; omega) ?_; intro v7' w1 hS1; clear hS; have hS := hS1; clear hS1; dsimp only [List.set_cons_zero, List.set_cons_succ] at hS; replace hS := hS.drop))
            have h2 := Sat.stSnoc (hS.re [3, 2])
            rw [← zipWith_snoc Er HDL.out, ← HDT.out] at h2
            have h3 := h2.re [1, 2, 0]
            rw [← HKT.out] at h3
            exact ⟨⟨m + 1, _, by go_num, HLT.out, by simp [HVL.out], h3⟩, by simp [intOf]; have := HLT.out; omega⟩
          · obtain rfl : m = 48 := by omega
            rw [List.take_of_length_le (by rw [HOK.out.kl]; exact Nat.le_refl _), List.take_of_length_le (by rw [HOK.out.dl]; exact Nat.le_refl _)] at hS
            obtain ⟨hlo, hpad⟩ := HTR.out.load HOK.out
            have hvd : vs.length = T.dirs.length := by rw [hvl, HOK.out.dl]
            have hzl : (List.zipWith DArg.mk vs T.dirs).length = vs.length := by rw [List.length_zipWith, hvd, Nat.min_self]
            obtain ⟨ao6, c6, rfl, _⟩ := hS.tbShape (k := 0) rfl
            obtain ⟨ao7, c7, rfl, _⟩ := hS.tbShape (k := 1) rfl
            have HLD := Lib.hid (fun w (h : Sat W w (Tb 3 1 inv1 (.slice ao6 T.kinds.length c6) T.kinds :: Tb 51 1 one1 (.slice ao7 vs.length c7) vs :: St (List.zipWith Er vs T.dirs) :: [IsT p T, IsW q T])) => show Calls Try.prog 30 #[.slice ao6 T.kinds.length c6, .slice ao7 vs.length c7] w (fun r w' => ∃ u, r = .returned (.tuple #[.pointer (some ⟨u, 0, none⟩), .bool true]) ∧ Sat W w' (IsT u (T.lst []) :: Tb 3 1 inv1 (.slice ao6 T.kinds.length c6) T.kinds :: Tb 51 1 one1 (.slice ao7 vs.length c7) vs :: St (List.zipWith Er vs T.dirs) :: [IsT p T, IsW q T])) from by
              have := tload_any h T.kinds ao6 c6 (fun w L' h => Sat.tbRd h (has_at (L' := L') (k := 0) rfl)) (by rw [HOK.out.kl]; decide) (List.zipWith DArg.mk vs T.dirs) ao7 c7 (fun w L' h => by
                rw [hzl, dz_v hvd]
                have := Sat.tbRd h (has_at (L' := L') (k := 1) rfl)
                rw [one1_fm] at this; exact this) (by rw [hzl, hvl]; decide) (fun w L' h x hx => by
                obtain ⟨i, h1, h2⟩ := dz_mem hx
                obtain ⟨L2, h3⟩ := h.stRow (has_at (L' := L') (k := 2) rfl) h1 h2
                exact Sat.tbRd h3 (k := 0) rfl) (fun x hx => by
                obtain ⟨i, h1, h2⟩ := dz_mem hx
                have := HOK.out.len _ (List.mem_of_getElem? h2)
                omega)
              rw [hzl, dz_l hvd] at this
              refine this.mono ?_
              rintro r w1 ⟨v, rfl, hP⟩
              refine hP.elim (fun ⟨u, h1, _, h2⟩ => ⟨u, by rw [h1], ?_⟩) (fun h => absurd hlo h.2.1)
              rw [hpad] at h2; exact h2)
            have hkl := HOK.out.kl
            clear hlt hm hlo hpad hvd hzl hvl hkl
            go_wp2_with (first
              | (go_at_call 30; refine (HLD.out _ hS).mono ?_; rintro r w1 ⟨u, rfl, hS1⟩; clear hS; have hS := hS1.re [0, 5]; clear hS1)
              | (go_at_call 23; refine (HSM.out _ _ _ hS).mono ?_; rintro e w1 ⟨rfl, hS1⟩; clear hS; have hS := hS1; clear hS1)
              | (go_at_call 18; refine (wake_any hS).mono ?_; rintro e w1 ⟨rfl, hS1⟩; clear hS; have hS := hS1; clear hS1))
            go_ret
            exact ⟨rfl, hS.map fun _ _ => trivial⟩

set_option maxRecDepth 100000 in
theorem Back.contract (H : Type) (enc : TypeId × Value → H) (W : World) (base : Nat) (args : Array Value) (ds gs : List (DataW H)) (before : List MemPlace)
    (hval : ∀ (j : Nat) t v, Try.f9.params[j]? = some t → args[j]? = some v → Value.okWide Try.prog W .any base t v)
    (hW : DataW.Whole enc Try.prog Try.f9.params.toList Rows.treeBackSpec.vars false W args.toList ds gs before)
    (hreach : (DataW.weightsEach Try.prog (Try.f9.params.toList ++ Rows.treeBackSpec.plain.varTypes Try.prog) (ds ++ gs)).all (· ≤ reachBytes) = true) :
    Calls Try.prog 9 args W fun e W' => ∃ v, e = .returned v ∧ Rows.treeBackSpec.post enc Try.prog Try.f9 false true false false W args v W' := by
  have hW' := hW
  obtain ⟨p, q, hA, hV, rfl, hfz, hnd⟩ := hW
  rw [Try.params9] at hA hval hreach
  obtain ⟨v0, vs0, d0, ds0, p0, q0, hargs, rfl, rfl, h0, r0⟩ := trodAll_cons hA
  obtain ⟨rfl, rfl, rfl⟩ := trodAll_nil r0
  obtain rfl : args = #[v0] := by cases args; simp_all
  obtain ⟨rfl, rfl⟩ := trodVars_none hV
  obtain ⟨ao0, len0, cap0, rfl⟩ := okWide_slice Try.underlying41 (hval 0 41 v0 rfl rfl)
  obtain ⟨l, rfl, hr0, hl0⟩ := open_tops h0
  refine (Back.walk l ao0 cap0 W hr0 hl0).mono ?_
  refine fun e W' ⟨he, hS⟩ => ?_
  subst he
  exact ⟨_, rfl, law_post (tb := 4) (by kernel_rfl) (by kernel_rfl) rfl Try.underlying4 rfl hW' rfl hS⟩

theorem Back.own : ownKnob Try.prog.godebug = none := by kernel_rfl
set_option maxRecDepth 100000 in
theorem Back.lifted (os : Os) (started : os.Started) (H : Type) (enc : TypeId × Value → H) :
    ReturnsInHanded {} Try.checked os 9 .any (Rows.treeBackSpec.pre6 enc Try.prog Try.f9 Rows.treeBackRow.domain false) (Rows.treeBackSpec.post enc Try.prog Try.f9 false true false false) := by
  refine returnsInHanded_of_change_shaped (C := Try.checked) Back.own started (by kernel_rfl) Try.func9
    (ChangeSpec.witness6 (enc := enc) (C := Try.checked) false ⟨#[], #[.slice none 0 0], []⟩ 8 (by kernel_rfl) (by kernel_rfl) (by kernel_rfl) (by kernel_rfl)) ?_
  intro W base args ds gs before hval hW _ hreach _ _
  exact Back.contract H enc W base args ds gs before hval hW hreach

theorem Back.holds : Rows.TreeBackSaid :=
  OpenClaim.holds_of_wide 9 Try.f9 rfl rfl rfl rfl rfl rfl rfl ⟨rfl, rfl, rfl, rfl, rfl⟩ rfl rfl rfl rfl rfl (by kernel_rfl) Try.func9 (by kernel_rfl)
    (of_decide_eq_true (by kernel_rfl)) (by unfold Func.isWrapper; first | (rw [if_pos (by decide +kernel)]; kernel_rfl) | (rw [if_neg (by decide +kernel)]; exact ⟨rfl, rfl⟩))
    (fun os started H enc _ => Back.lifted os started H enc)
end Go.Proofs.Ytiieicdhkcikpaa
