/-
  The document's tree: Load.
-/
import Derived.Test.YtiieicdhkcikpaaTrLoad3
import Derived.Test.YtiieicdhkcikpaaMRfa
import Derived.Test.YtiieicdhkcikpaaMUnl
namespace Go.Proofs.Ytiieicdhkcikpaa
open Go.RowKit Go.Sep
set_option linter.unusedSimpArgs false
set_option linter.unusedVariables false
attribute [local irreducible] Go.Oper.wp Go.wpList Go.Calls Go.Code.wp Go.Sep.Reg
attribute [local irreducible] IsT IsW
def kfr (ks : List Int) (i : Nat) (j : Nat) : Int := if j < i then (ks[j]?).getD 0 else 0
theorem kfr_set {ks : List Int} {i : Nat} {x : Int} (hx : ks[i]? = some x) : upd (kfr ks i) i x = kfr ks (i + 1) := by
  funext j
  unfold kfr
  by_cases h : j = i
  · subst h
    rw [upd_at, if_pos (by omega), hx]; rfl
  · rw [upd_no _ _ h]
    by_cases h2 : j < i
    · rw [if_pos h2, if_pos (show j < i + 1 by omega)]
    · rw [if_neg h2, if_neg (show ¬ j < i + 1 by omega)]
theorem kfr_end (ks : List Int) : kfr ks ks.length = fun j => (ks[j]?).getD 0 := by
  funext j
  unfold kfr
  by_cases h : j < ks.length
  · rw [if_pos h]
  · rw [if_neg h, List.getElem?_eq_none (by omega)]; rfl
theorem TrD.LoadOk.ent {ks : List Int} {ds : List (List EntD)} (h : TrD.LoadOk ks ds) {d : List EntD} {e : EntD} (hd : d ∈ ds) (he : e ∈ d) : (ks[e.ino.toNat]?).getD 0 ≠ 0 := ((TrD.right_iff h.k0 h.chk).1 h.right).1 d hd e he
def RdPost (W : World) (L : List Asrt) (ks : List Int) (ds : List (List EntD)) (v : Value) (w' : World) : Prop :=
  (∃ p, v = .pointer (some ⟨p, 0, none⟩) ∧ TrD.LoadOk ks ds ∧ Sat W w' (IsW p (TrD.padT ks ds) :: L)) ∨ (v = .pointer none ∧ ¬ TrD.LoadOk ks ds ∧ Sat W w' L)
set_option maxRecDepth 20000 in
set_option maxHeartbeats 4000000 in
theorem rload_any {W w : World} {L : List Asrt} (hS : Sat W w L) (ks : List Int) (ao : Option Addr) (c : Nat) (hk : ∀ w L', Sat W w (L' ++ L) → Rd w (.slice ao ks.length c) ks.length 1 (ks.flatMap inv1)) (hkl : ks.length ≤ 1000)
    (ds : List DArg) (ao2 : Option Addr) (c2 : Nat) (hd : ∀ w L', Sat W w (L' ++ L) → Rd w (.slice ao2 ds.length c2) ds.length 1 (ds.flatMap dav)) (hdl : ds.length ≤ 1000) (hx : ∀ w L', Sat W w (L' ++ L) → ∀ x ∈ ds, Rd w x.v x.l.length 2 (x.l.flatMap ev2)) (hxl : ∀ x ∈ ds, x.l.length ≤ 1000) :
    Calls Try.prog 32 #[.slice ao ks.length c, .slice ao2 ds.length c2] w fun r w' => ∃ v, r = .returned v ∧ RdPost W L ks (ds.map DArg.l) v w' := by
  have HK := Lib.hid hk
  have HD := Lib.hid hd
  have HXR := Lib.hid hx
  have HXL := Lib.hid hxl
  obtain ⟨_, _, he, hc1, hc2, _, hk5⟩ := hk w [] hS
  simp only [Value.slice.injEq, true_and] at he
  obtain ⟨rfl, rfl⟩ := he
  obtain ⟨_, _, he, hc3, hc4, _, hd5⟩ := hd w [] hS
  simp only [Value.slice.injEq, true_and] at he
  obtain ⟨rfl, rfl⟩ := he
  have HK5 := Lib.hid hk5
  have HD5 := Lib.hid hd5
  have n1 : (ks.length : Int) ≤ 1000 := by omega
  have n2 : (ds.length : Int) ≤ 1000 := by omega
  clear hk hd hx hxl hk5 hd5
  by_cases h48 : 48 < ks.length
  · have e1 : decide ((48 : Int) < (ks.length : Int)) = true := decide_eq_true (by omega)
    have e2 : decide (48 < ks.length) = true := decide_eq_true h48
    have HN := Lib.hid (show ¬ TrD.LoadOk ks (ds.map DArg.l) from fun h => by have := h.k48; omega)
    clear h48
    go_enter Try.func32, Try.ntmps32
    go_wp2_with (refine toList (by rfl) ?_; refine bx hS _ _ (by rfl) _ (by first | exact evC | exact evT (by rfl)) ?_; intro p w1 hS1; clear hS; have hS := (show Sat W w1 (Cs p _ (wl (fun _ => 0) (fun _ => .slice none 0 0) (.slice none 0 0)) :: L) from hS1); clear hS1)
    go_ret
    exact ⟨_, rfl, .inr ⟨rfl, HN.out, hS.drop⟩⟩
  have e1 : decide ((48 : Int) < (ks.length : Int)) = false := decide_eq_false (by omega)
  have e2 : decide (48 < ks.length) = false := decide_eq_false h48
  by_cases h482 : 48 < ds.length
  · have e3 : decide ((48 : Int) < (ds.length : Int)) = true := decide_eq_true (by omega)
    have e4 : decide (48 < ds.length) = true := decide_eq_true h482
    have HN := Lib.hid (show ¬ TrD.LoadOk ks (ds.map DArg.l) from fun h => by have := h.d48; rw [List.length_map] at this; omega)
    clear h48 h482
    go_enter Try.func32, Try.ntmps32
    go_wp2_with (refine toList (by rfl) ?_; refine bx hS _ _ (by rfl) _ (by first | exact evC | exact evT (by rfl)) ?_; intro p w1 hS1; clear hS; have hS := (show Sat W w1 (Cs p _ (wl (fun _ => 0) (fun _ => .slice none 0 0) (.slice none 0 0)) :: L) from hS1); clear hS1)
    go_ret
    exact ⟨_, rfl, .inr ⟨rfl, HN.out, hS.drop⟩⟩
  have e3 : decide ((48 : Int) < (ds.length : Int)) = false := decide_eq_false (by omega)
  have e4 : decide (48 < ds.length) = false := decide_eq_false h482
  have HDE := Lib.hid (dfi_end (ds.map DArg.l))
  have H48 := Lib.hid (show ks.length ≤ 48 ∧ ds.length ≤ 48 by omega)
  clear h48 h482
  go_enter Try.func32, Try.ntmps32
  go_wp2_with (refine toList (by rfl) ?_; refine bx hS _ _ (by rfl) _ (by first | exact evC | exact evT (by rfl)) ?_; intro p w1 hS1; clear hS; have hS := (show Sat W w1 (Cs p _ (wl (fun _ => 0) (fun _ => .slice none 0 0) (.slice none 0 0)) :: L) from hS1); clear hS1)
  have hO := (rws_nil (hS.irNil)).re [2, 0, 1]
  have hO2 : Sat W _ (Cs p 79 (wl (kfr ks 0) (fun _ => .slice none 0 0) (.slice none 0 0)) :: rws (fun _ => .slice none 0 0) (dfi (ds.map DArg.l) 0) :: Ir (.slice none 0 0) [] :: L) := hO
  have H0 := Lib.hid hO2
  clear hO hO2 hS
  go_loopw [6] (fun v6 wz => ∃ i : Nat, v6 = .int .i64 i ∧ i ≤ ks.length ∧ (∀ k ∈ ks.take i, 0 ≤ k ∧ k ≤ 2) ∧ Sat W wz (Cs p 79 (wl (kfr ks i) (fun _ => .slice none 0 0) (.slice none 0 0)) :: rws (fun _ => .slice none 0 0) (dfi (ds.map DArg.l) 0) :: Ir (.slice none 0 0) [] :: L)) (fun v6 _ => ks.length - (intOf v6).toNat)
  case atStart => exact ⟨0, rfl, by omega, by simp, H0.out⟩
  case round =>
    clear H0
    obtain ⟨i, rfl, hi, hkk, hS⟩ := hrel
    have HKK := Lib.hid hkk
    clear hkk
    by_cases hlt : i < ks.length
    · obtain ⟨x, hx⟩ : ∃ x, ks[i]? = some x := ⟨_, List.getElem?_eq_getElem hlt⟩
      obtain ⟨b, off, rfl, _⟩ := HK5.out (by omega)
      have HX := Lib.hid hx
      have HLT := Lib.hid hlt
      have k1 : (i : Int) < (ks.length : Int) := by omega
      have k2 : (i : Int) < 48 := by have := H48.out; omega
      by_cases hb : 0 ≤ x ∧ x ≤ 2
      · have d1 : decide (x < 0) = false := decide_eq_false (by omega)
        have d2 : decide ((2 : Int) < x) = false := decide_eq_false (by omega)
        have HK2 := Lib.hid (show ∀ k ∈ ks.take (i + 1), 0 ≤ k ∧ k ≤ 2 from fun k hk => by
          rw [List.take_add_one, hx] at hk
          rcases List.mem_append.1 hk with h | h
          · exact HKK.out k h
          · rw [show k = x by simpa using h]; exact hb)
        have HST := Lib.hid (kfr_set (i := i) hx)
        have HTL := Lib.hid (fun (k : Nat → Int) (v : Nat → Value) (vt : Value) a (ha : a = i) => wl_setK (k := k) (v := v) (vt := vt) x (show i < 48 by omega) ha)
        clear hx hlt hi hb
        go_wp2_with (refine toList (by rfl) ?_; refine wp_of_reads (rLdRd (f := inv1) (x := x) (u := .int .i64 x) (HK.out _ [_, _, _] hS) (inv1_len ks) _ _ (by rfl) _ (by rfl) (agOf (by rfl)) i 0 (by omega) HX.out (by rfl) (by omega)) ?_)
        refine regStart [9] hS (by kernel_rfl) rfl ?_
        intro w1 hS1
        clear hS; have hS := hS1; clear hS1
        (refine regP 0 hS (fun _ h => h) rfl (by kernel_rfl) (by kernel_rfl) (by kernel_rfl) (fun _ _ _ _ h => h) (by rfl) (by rfl) ?_; apply Exists.intro; apply And.intro; (intro w; go_simp; try with_reducible rfl); (simp only [Act.put, List.setIfInBounds_toArray, List.set_cons_zero, List.set_cons_succ]))
        (refine regP 1 hS (fun _ h => h) rfl (by kernel_rfl) (by kernel_rfl) (by kernel_rfl) (fun _ _ _ _ h => h) (by rfl) (by rfl) ?_; apply Exists.intro; apply And.intro; (intro w; go_simp; try with_reducible rfl); (simp only [Act.put, List.setIfInBounds_toArray, List.set_cons_zero, List.set_cons_succ]))
        (refine regP 2 hS (fun _ h => h) rfl (by kernel_rfl) (by kernel_rfl) (by kernel_rfl) (fun _ _ _ _ h => h) (by rfl) (by rfl) ?_; apply Exists.intro; apply And.intro; (intro w; go_simp; try with_reducible rfl); (simp only [Act.put, List.setIfInBounds_toArray, List.set_cons_zero, List.set_cons_succ]))
        (refine regP 3 hS (fun _ h => h) rfl (by kernel_rfl) (by kernel_rfl) (by kernel_rfl) (fun _ _ _ _ h => h) (by rfl) (by rfl) ?_; apply Exists.intro; apply And.intro; (intro w; go_simp; try with_reducible rfl); (simp only [Act.put, List.setIfInBounds_toArray, List.set_cons_zero, List.set_cons_succ]))
        (refine regP 4 hS (fun _ h => h) rfl (by kernel_rfl) (by kernel_rfl) (by kernel_rfl) (fun _ _ _ _ h => h) (by rfl) (by rfl) ?_; apply Exists.intro; apply And.intro; (intro w; go_simp; try with_reducible rfl); (simp only [Act.put, List.setIfInBounds_toArray, List.set_cons_zero, List.set_cons_succ]))
        (refine regR 5 hS (fun _ h => h) rfl (by kernel_rfl) (by kernel_rfl) (by kernel_rfl) (by kernel_rfl) (by kernel_rfl) (fun _ _ _ _ h => h) (by rfl) (by rfl) ?_; (refine ⟨.int .i64 x, fun u hu => rLdRd (f := inv1) (x := x) (u := .int .i64 x) (HK.out _ [_, _, _] hu) (inv1_len ks) _ _ (by rfl) _ (by rfl) (agOf (by rfl)) i 0 (by omega) HX.out (by rfl) (by omega), ?_⟩); (simp only [Act.put, List.setIfInBounds_toArray, List.set_cons_zero, List.set_cons_succ]))
        (refine regP 6 hS (fun _ h => h) rfl (by kernel_rfl) (by kernel_rfl) (by kernel_rfl) (fun _ _ _ _ h => h) (by rfl) (by rfl) ?_; apply Exists.intro; apply And.intro; (intro w; go_simp; try with_reducible rfl); (simp only [Act.put, List.setIfInBounds_toArray, List.set_cons_zero, List.set_cons_succ]))
        (refine regP 7 hS (fun _ h => h) rfl (by kernel_rfl) (by kernel_rfl) (by kernel_rfl) (fun _ _ _ _ h => h) (by rfl) (by rfl) ?_; apply Exists.intro; apply And.intro; (intro w; go_simp; try with_reducible rfl); (simp only [Act.put, List.setIfInBounds_toArray, List.set_cons_zero, List.set_cons_succ]))
        (refine regP 8 hS (fun _ h => h) rfl (by kernel_rfl) (by kernel_rfl) (by kernel_rfl) (fun _ _ _ _ h => h) (by rfl) (by rfl) ?_; apply Exists.intro; apply And.intro; (intro w; go_simp; try with_reducible rfl); (simp only [Act.put, List.setIfInBounds_toArray, List.set_cons_zero, List.set_cons_succ]))
        (refine regA 9 rfl (by kernel_rfl) (by rfl) (by rfl) true (by kernel_rfl) (fun K hK => ?_); (refine st hS _ _ _ (by rfl) _ _ (by rfl) _ (by first | exact evC | exact evT (by rfl)) (by rfl) (szOf (by rfl)) Has.z (by rw [wl_len]; omega) ?_; intro w1 hS1; clear hS; have hS := hS1; clear hS1; simp only [List.set_cons_zero] at hS; rw [HTL.out _ _ _ _ (by omega), HST.out] at hS); refine hK _ _ _ hS (by first | (intro h; cases h; done) | exact fun _ _ h => h | exact fun _ _ h => h.drop | exact fun _ _ h => h.drop.drop | exact fun _ _ h => h.drop.pull1 | exact fun _ _ h => h.take2 | exact fun _ _ h => h.one Has.z | exact fun _ _ h => h.one (Has.s Has.z) | exact fun _ _ h => h.one (Has.s (Has.s Has.z))) ?_; clear hK K; (simp only [Act.put, List.setIfInBounds_toArray, List.set_cons_zero, List.set_cons_succ]))
        refine regDone (by kernel_rfl) ?_
        go_wp2
        exact ⟨⟨i + 1, by go_num, HLT.out, HK2.out, hS⟩, by simp [intOf]; have := HLT.out; omega⟩
      · have HN := Lib.hid (show ¬ TrD.LoadOk ks (ds.map DArg.l) from fun h => hb (h.kk x (List.mem_of_getElem? hx)))
        have hcs : (decide (x < 0) = true) ∨ (decide (x < 0) = false ∧ decide ((2 : Int) < x) = true) := by
          by_cases h : x < 0
          · exact .inl (decide_eq_true h)
          · exact .inr ⟨decide_eq_false h, decide_eq_true (by omega)⟩
        clear hx hlt hi hb
        rcases hcs with d1 | ⟨d1, d2⟩
        all_goals
          go_wp2_with (refine toList (by rfl) ?_; refine wp_of_reads (rLdRd (f := inv1) (x := x) (u := .int .i64 x) (HK.out _ [_, _, _] hS) (inv1_len ks) _ _ (by rfl) _ (by rfl) (agOf (by rfl)) i 0 (by omega) HX.out (by rfl) (by omega)) ?_)
          go_ret
          exact ⟨_, rfl, .inr ⟨rfl, HN.out, hS.drop.drop.drop⟩⟩
    · obtain rfl : i = ks.length := by omega
      have HKB := Lib.hid (show ∀ k ∈ ks, 0 ≤ k ∧ k ≤ 2 by have := HKK.out; rwa [List.take_length] at this)
      rw [kfr_end] at hS
      obtain ⟨KF, hKF⟩ : ∃ KF : Nat → Int, (fun j => (ks[j]?).getD 0) = KF := ⟨_, rfl⟩
      rw [hKF] at hS
      have HKF := Lib.hid hKF
      have k1 : ¬ (ks.length : Int) < (ks.length : Int) := by omega
      obtain ⟨k0, hk0⟩ : ∃ k0, KF 0 = k0 := ⟨_, rfl⟩
      have HW0 := Lib.hid (show ∀ (v : Nat → Value) (vt : Value), (wl KF v vt)[0]? = some (.int .i64 k0) from fun v vt => by rw [← hk0]; exact wl_k (by omega) rfl)
      by_cases hk2 : k0 = 2
      rotate_left
      · have HN := Lib.hid (show ¬ TrD.LoadOk ks (ds.map DArg.l) from fun h => hk2 (by have := h.k0; rw [← hk0, ← hKF]; exact this))
        have d1 : (k0 != 2) = true := bne_iff_ne.2 hk2
        clear hlt hi hKF HKK hk0 hk2
        go_wp2_with (refine toList (by rfl) ?_; refine ld hS _ _ (by rfl) _ _ (by rfl) (agOf (by rfl)) Has.z (HW0.out _ _) ?_)
        go_ret
        exact ⟨_, rfl, .inr ⟨rfl, HN.out, hS.drop.drop.drop⟩⟩
      subst hk2
      have HK0 := Lib.hid (show (ks[0]?).getD 0 = 2 by rw [← hk0, ← hKF])
      clear hlt hi hKF HKK
      go_wp2_with (refine toList (by rfl) ?_; refine ld hS _ _ (by rfl) _ _ (by rfl) (agOf (by rfl)) Has.z (HW0.out _ _) ?_)
      have H0 := Lib.hid hS
      go_loopw [7] (fun v7 wz => ∃ (j : Nat) (v : Nat → Value), v7 = .int .i64 j ∧ j ≤ ds.length ∧ (∀ d ∈ (ds.map DArg.l).take j, ChkD d ∧ ∀ e ∈ d, KF e.ino.toNat ≠ 0) ∧ (∀ (i : Nat) (d : List EntD), i < j → (ds.map DArg.l)[i]? = some d → d ≠ [] → KF i = 2) ∧ Sat W wz (Cs p 79 (wl KF v (.slice none 0 0)) :: rws v (dfi (ds.map DArg.l) j) :: Ir (.slice none 0 0) [] :: L)) (fun v7 _ => ds.length - (intOf v7).toNat)
      case atStart => exact ⟨0, _, rfl, by omega, by simp, fun i d h => absurd h (Nat.not_lt_zero _), H0.out⟩
      case round =>
        clear hS H0
        obtain ⟨j, v, rfl, hj, hck, hnd, hS⟩ := hrel
        have HCK := Lib.hid hck
        have HND := Lib.hid hnd
        clear hck hnd
        by_cases hlt : j < ds.length
        · obtain ⟨⟨xv, d⟩, hx⟩ : ∃ x, ds[j]? = some x := ⟨_, List.getElem?_eq_getElem hlt⟩
          have hxm := List.mem_of_getElem? hx
          have hdm : (ds.map DArg.l)[j]? = some d := by rw [List.getElem?_map, hx]; rfl
          obtain ⟨b2, off2, rfl, _⟩ := HD5.out (by omega)
          have HX := Lib.hid hx
          have HXD := Lib.hid (fun w L' (h : Sat W w (L' ++ L)) => HXR.out w L' h _ hxm)
          have hdl := HXL.out _ hxm
          dsimp only at hdl
          obtain ⟨aod, cd, he, hcd1, hcd2, _, hd5⟩ := HXD.out _ [_, _, _] hS
          dsimp only at he
          subst he
          have HXD := Lib.hid (fun w L' (h : Sat W w (L' ++ L)) => show Rd w (.slice aod d.length cd) d.length 2 (d.flatMap ev2) from HXD.out w L' h)
          have HCH := Lib.hid (fun w L' (h : Sat W w (L' ++ L)) => rcheck_any h d aod cd (fun w h => HXD.out w L' h) hdl)
          have HLT := Lib.hid hlt
          have k1 : (j : Int) < (ds.length : Int) := by omega
          have k2 : (j : Int) < 48 := by have := H48.out; omega
          have n3 : (d.length : Int) ≤ 1000 := by omega
          have HJ48 := Lib.hid (show j < 48 by have := H48.out; omega)
          obtain ⟨kj, hkj⟩ : ∃ kj, KF j = kj := ⟨_, rfl⟩
          have HKJ := Lib.hid (show ∀ (v : Nat → Value) (vt : Value) (a : Nat), a = j → (wl KF v vt)[a]? = some (.int .i64 kj) from fun v vt a ha => by rw [← hkj]; exact wl_k HJ48.out ha)
          have HTV := Lib.hid (fun (k : Nat → Int) (v : Nat → Value) (vt x : Value) a (ha : a = 48 + j) => wl_setV (k := k) (v := v) (vt := vt) x HJ48.out ha)
          have HTK := Lib.hid (show (ds.map DArg.l).take (j + 1) = (ds.map DArg.l).take j ++ [d] by rw [List.take_add_one, hdm]; rfl)
          have HDS := Lib.hid (dfi_set hdm)
          have HDM := Lib.hid hdm
          by_cases hbad : d ≠ [] ∧ kj ≠ 2
          · have HN := Lib.hid (show ¬ TrD.LoadOk ks (ds.map DArg.l) from fun h => hbad.2 (by have := h.nd j d HDM.out hbad.1; rw [← hkj, ← HKF.out]; exact this))
            have d1 : decide ((0 : Int) < (d.length : Int)) = true := decide_eq_true (by have := List.length_pos_iff.2 hbad.1; omega)
            have d2 : decide (0 < d.length) = true := decide_eq_true (List.length_pos_iff.2 hbad.1)
            have d3 : (kj != 2) = true := bne_iff_ne.2 hbad.2
            clear hx hlt hj hbad hdm hd5 hkj
            go_wp2_with (first
              | (refine toList (by rfl) ?_; refine wp_of_reads (rLdRd (f := dav) (x := ⟨_, d⟩) (HD.out _ [_, _, _] hS) (dav_len ds) _ _ (by rfl) _ (by rfl) (agOf (by rfl)) j 0 (by omega) HX.out (by rfl) (by omega)) ?_)
              | (go_at_call 57; refine (HCH.out _ [_, _, _] hS).mono ?_; rintro r w1 ⟨rfl, hS1⟩; clear hS; have hS := (show Sat W w1 (Cs p _ _ :: rws _ _ :: Ir _ _ :: L) from hS1); clear hS1)
              | (refine toList (by rfl) ?_; refine ld hS _ _ (by rfl) _ _ (by rfl) (agOf (by rfl)) Has.z (HKJ.out _ _ _ (by omega)) ?_))
            go_ret
            exact ⟨_, rfl, .inr ⟨rfl, HN.out, hS.drop.drop.drop⟩⟩
          have hnd : d ≠ [] → kj = 2 := fun h => Decidable.byContradiction fun h2 => hbad ⟨h, h2⟩
          have hcs : (decide ((0 : Int) < (d.length : Int)) = false ∧ decide (0 < d.length) = false) ∨ ((decide ((0 : Int) < (d.length : Int)) = true ∧ decide (0 < d.length) = true) ∧ kj = 2) := by
            by_cases h : 0 < d.length
            · exact .inr ⟨⟨decide_eq_true (by omega), decide_eq_true h⟩, hnd (List.length_pos_iff.1 h)⟩
            · exact .inl ⟨decide_eq_false (by omega), decide_eq_false h⟩
          have HND2 := Lib.hid (show ∀ (i : Nat) (e : List EntD), i < j + 1 → (ds.map DArg.l)[i]? = some e → e ≠ [] → KF i = 2 from fun i e hi he hne => by
            rcases Nat.lt_or_ge i j with h | h
            · exact HND.out i e h he hne
            · obtain rfl : i = j := by omega
              rw [HDM.out] at he
              cases he
              rw [hkj]; exact hnd hne)
          by_cases hc : ChkD d
          rotate_left
          · have HCH := Lib.hid (fun w L' (h : Sat W w (L' ++ L)) => show Calls Try.prog 57 #[.slice aod d.length cd] w (fun r w' => r = .returned (.bool false) ∧ Sat W w' (L' ++ L)) from (HCH.out w L' h).mono fun r w' ⟨v, h1, h2, h4⟩ => ⟨by rw [h1, h2.no hc], h4⟩)
            have HN := Lib.hid (show ¬ TrD.LoadOk ks (ds.map DArg.l) from fun h => hc (h.chk d (List.mem_of_getElem? HDM.out)))
            clear hx hlt hj hc hdm hd5 hnd hbad
            rcases hcs with ⟨d1, d2⟩ | ⟨⟨d1, d2⟩, hk⟩
            · clear hkj
              go_wp2_with (first
                | (refine toList (by rfl) ?_; refine wp_of_reads (rLdRd (f := dav) (x := ⟨_, d⟩) (HD.out _ [_, _, _] hS) (dav_len ds) _ _ (by rfl) _ (by rfl) (agOf (by rfl)) j 0 (by omega) HX.out (by rfl) (by omega)) ?_)
                | (go_at_call 57; refine (HCH.out _ [_, _, _] hS).mono ?_; rintro r w1 ⟨rfl, hS1⟩; clear hS; have hS := (show Sat W w1 (Cs p _ _ :: rws _ _ :: Ir _ _ :: L) from hS1); clear hS1)
                | (refine toList (by rfl) ?_; refine ld hS _ _ (by rfl) _ _ (by rfl) (agOf (by rfl)) Has.z (HKJ.out _ _ _ (by omega)) ?_))
              go_ret
              exact ⟨_, rfl, .inr ⟨rfl, HN.out, hS.drop.drop.drop⟩⟩
            · subst hk
              clear hkj
              go_wp2_with (first
                | (refine toList (by rfl) ?_; refine wp_of_reads (rLdRd (f := dav) (x := ⟨_, d⟩) (HD.out _ [_, _, _] hS) (dav_len ds) _ _ (by rfl) _ (by rfl) (agOf (by rfl)) j 0 (by omega) HX.out (by rfl) (by omega)) ?_)
                | (go_at_call 57; refine (HCH.out _ [_, _, _] hS).mono ?_; rintro r w1 ⟨rfl, hS1⟩; clear hS; have hS := (show Sat W w1 (Cs p _ _ :: rws _ _ :: Ir _ _ :: L) from hS1); clear hS1)
                | (refine toList (by rfl) ?_; refine ld hS _ _ (by rfl) _ _ (by rfl) (agOf (by rfl)) Has.z (HKJ.out _ _ _ (by omega)) ?_))
              go_ret
              exact ⟨_, rfl, .inr ⟨rfl, HN.out, hS.drop.drop.drop⟩⟩
          have HCH := Lib.hid (fun w L' (h : Sat W w (L' ++ L)) => show Calls Try.prog 57 #[.slice aod d.length cd] w (fun r w' => r = .returned (.bool true) ∧ Sat W w' (L' ++ L)) from (HCH.out w L' h).mono fun r w' ⟨v, h1, h2, h4⟩ => ⟨by rw [h1, h2.yes hc], h4⟩)
          have HINO := Lib.hid (fun (m : Nat) (e : EntD) (hx : d[m]? = some e) => show ∃ a : Nat, e.ino = (a : Int) ∧ 1 ≤ a ∧ a < 48 by
            have hent := hc.ent e (List.mem_of_getElem? hx)
            unfold entOk at hent
            simp only [Bool.and_eq_true, decide_eq_true_eq] at hent
            exact ⟨e.ino.toNat, by omega, by omega, by omega⟩)
          have HC := Lib.hid hc
          have HD5' := Lib.hid hd5
          clear hx hlt hj hc hdm hd5 hnd hbad
          rcases hcs with ⟨d1, d2⟩ | ⟨⟨d1, d2⟩, hk⟩
          · clear hkj
            go_wp2_with (first
              | (refine toList (by rfl) ?_; refine wp_of_reads (rLdRd (f := dav) (x := ⟨_, d⟩) (HD.out _ [_, _, _] hS) (dav_len ds) _ _ (by rfl) _ (by rfl) (agOf (by rfl)) j 0 (by omega) HX.out (by rfl) (by omega)) ?_)
              | (go_at_call 57; refine (HCH.out _ [_, _, _] hS).mono ?_; rintro r w1 ⟨rfl, hS1⟩; clear hS; have hS := (show Sat W w1 (Cs p _ _ :: rws _ _ :: Ir _ _ :: L) from hS1); clear hS1)
              | (refine toList (by rfl) ?_; refine ld hS _ _ (by rfl) _ _ (by rfl) (agOf (by rfl)) Has.z (HKJ.out _ _ _ (by omega)) ?_))
            have H0 := Lib.hid hS
            go_loopw [8] (fun v8 wz => ∃ m : Nat, v8 = .int .i64 m ∧ m ≤ d.length ∧ (∀ e ∈ d.take m, KF e.ino.toNat ≠ 0) ∧ Sat W wz (Cs p 79 (wl KF v (.slice none 0 0)) :: rws v (dfi (ds.map DArg.l) j) :: Ir (.slice none 0 0) [] :: L)) (fun v8 _ => d.length - (intOf v8).toNat)
            case atStart => exact ⟨0, rfl, by omega, by simp, H0.out⟩
            case round =>
              clear hS H0
              obtain ⟨m, rfl, hm, hke, hS⟩ := hrel
              have HKE := Lib.hid hke
              clear hke
              by_cases hlt : m < d.length
              · obtain ⟨⟨en, ei⟩, hx⟩ : ∃ e, d[m]? = some e := ⟨_, List.getElem?_eq_getElem hlt⟩
                obtain ⟨a, ha, h1, h2⟩ := HINO.out m _ hx
                dsimp only at ha
                subst ha
                have HXM := Lib.hid hx
                obtain ⟨bx, ofx, rfl⟩ : ∃ bx ofx, aod = some ⟨bx, ofx, none⟩ := by
                  obtain ⟨b', o', h6, _⟩ := HD5'.out (by omega)
                  exact ⟨b', o', h6⟩
                have p1 : (m : Int) < (d.length : Int) := by omega
                have p2 : (a : Int) < 48 := by omega
                have HLT2 := Lib.hid hlt
                obtain ⟨ka, hka⟩ : ∃ ka, KF a = ka := ⟨_, rfl⟩
                have HKA := Lib.hid (show ∀ (v : Nat → Value) (vt : Value) (b : Nat), b = a → (wl KF v vt)[b]? = some (.int .i64 ka) from fun v vt b hb => by rw [← hka]; exact wl_k h2 hb)
                by_cases h0 : ka = 0
                · have HN := Lib.hid (show ¬ TrD.LoadOk ks (ds.map DArg.l) from fun h => h.ent (List.mem_of_getElem? HDM.out) (List.mem_of_getElem? hx) (by have h3 : KF a = 0 := hka.trans h0; rw [← HKF.out] at h3; exact h3))
                  subst h0
                  clear hx hlt hm h1 h2 hka
                  go_wp2_with (first
                    | (refine toList (by rfl) ?_; refine wp_of_reads (rLdRd (f := dav) (x := ⟨_, d⟩) (HD.out _ [_, _, _] hS) (dav_len ds) _ _ (by rfl) _ (by rfl) (agOf (by rfl)) j 0 (by omega) HX.out (by rfl) (by omega)) ?_)
                    | (go_at_call 57; refine (HCH.out _ [_, _, _] hS).mono ?_; rintro r w1 ⟨rfl, hS1⟩; clear hS; have hS := (show Sat W w1 (Cs p _ _ :: rws _ _ :: Ir _ _ :: L) from hS1); clear hS1)
                    | (refine toList (by rfl) ?_; refine ld hS _ _ (by rfl) _ _ (by rfl) (agOf (by rfl)) Has.z (HKJ.out _ _ _ (by omega)) ?_))
                  refine regStart [] hS (by kernel_rfl) rfl ?_
                  intro w1 hS1
                  clear hS; have hS := hS1; clear hS1
                  (refine regP 0 hS (fun _ h => h) rfl (by kernel_rfl) (by kernel_rfl) (by kernel_rfl) (fun _ _ _ _ h => h) (by rfl) (by rfl) ?_; apply Exists.intro; apply And.intro; (intro w; go_simp; try with_reducible rfl); (simp only [Act.put, List.setIfInBounds_toArray, List.set_cons_zero, List.set_cons_succ]))
                  (refine regP 1 hS (fun _ h => h) rfl (by kernel_rfl) (by kernel_rfl) (by kernel_rfl) (fun _ _ _ _ h => h) (by rfl) (by rfl) ?_; apply Exists.intro; apply And.intro; (intro w; go_simp; try with_reducible rfl); (simp only [Act.put, List.setIfInBounds_toArray, List.set_cons_zero, List.set_cons_succ]))
                  (refine regP 2 hS (fun _ h => h) rfl (by kernel_rfl) (by kernel_rfl) (by kernel_rfl) (fun _ _ _ _ h => h) (by rfl) (by rfl) ?_; apply Exists.intro; apply And.intro; (intro w; go_simp; try with_reducible rfl); (simp only [Act.put, List.setIfInBounds_toArray, List.set_cons_zero, List.set_cons_succ]))
                  (refine regP 3 hS (fun _ h => h) rfl (by kernel_rfl) (by kernel_rfl) (by kernel_rfl) (fun _ _ _ _ h => h) (by rfl) (by rfl) ?_; apply Exists.intro; apply And.intro; (intro w; go_simp; try with_reducible rfl); (simp only [Act.put, List.setIfInBounds_toArray, List.set_cons_zero, List.set_cons_succ]))
                  (refine regR 4 hS (fun _ h => h) rfl (by kernel_rfl) (by kernel_rfl) (by kernel_rfl) (by kernel_rfl) (by kernel_rfl) (fun _ _ _ _ h => h) (by rfl) (by rfl) ?_; (first
                                                        | refine ⟨.slice aod d.length cd, fun u hu => rLdRd (f := dav) (x := ⟨.slice aod d.length cd, d⟩) (u := .slice aod d.length cd) (HD.out _ [_, _, _] hu) (dav_len ds) _ _ (by rfl) _ (by rfl) (agOf (by rfl)) j 0 (by omega) HX.out (by rfl) (by omega), ?_⟩
                                                        | refine ⟨.slice (some ⟨bx, ofx, none⟩) d.length cd, fun u hu => rLdRd (f := dav) (x := ⟨.slice (some ⟨bx, ofx, none⟩) d.length cd, d⟩) (u := .slice (some ⟨bx, ofx, none⟩) d.length cd) (HD.out _ [_, _, _] hu) (dav_len ds) _ _ (by rfl) _ (by rfl) (agOf (by rfl)) j 0 (by omega) HX.out (by rfl) (by omega), ?_⟩
                                                        | refine ⟨.int .i64 (a : Int), fun u hu => rLdRd (f := ev2) (x := ⟨en, (a : Int)⟩) (u := .int .i64 (a : Int)) (HXD.out _ [_, _, _] hu) (ev2_len d) _ _ (by rfl) _ (by rfl) (agOf (by rfl)) m 1 (by omega) HXM.out (by rfl) (by omega), ?_⟩
                                                        | refine ⟨_, yLd _ _ (by rfl) _ _ (by rfl) (agOf (by rfl)) Has.z (HKA.out _ _ _ (by omega)), ?_⟩); (simp only [Act.put, List.setIfInBounds_toArray, List.set_cons_zero, List.set_cons_succ]))
                  (refine regP 5 hS (fun _ h => h) rfl (by kernel_rfl) (by kernel_rfl) (by kernel_rfl) (fun _ _ _ _ h => h) (by rfl) (by rfl) ?_; apply Exists.intro; apply And.intro; (intro w; go_simp; try with_reducible rfl); (simp only [Act.put, List.setIfInBounds_toArray, List.set_cons_zero, List.set_cons_succ]))
                  (refine regP 6 hS (fun _ h => h) rfl (by kernel_rfl) (by kernel_rfl) (by kernel_rfl) (fun _ _ _ _ h => h) (by rfl) (by rfl) ?_; apply Exists.intro; apply And.intro; (intro w; go_simp; try with_reducible rfl); (simp only [Act.put, List.setIfInBounds_toArray, List.set_cons_zero, List.set_cons_succ]))
                  (refine regP 7 hS (fun _ h => h) rfl (by kernel_rfl) (by kernel_rfl) (by kernel_rfl) (fun _ _ _ _ h => h) (by rfl) (by rfl) ?_; apply Exists.intro; apply And.intro; (intro w; go_simp; try with_reducible rfl); (simp only [Act.put, List.setIfInBounds_toArray, List.set_cons_zero, List.set_cons_succ]))
                  (refine regR 8 hS (fun _ h => h) rfl (by kernel_rfl) (by kernel_rfl) (by kernel_rfl) (by kernel_rfl) (by kernel_rfl) (fun _ _ _ _ h => h) (by rfl) (by rfl) ?_; (first
                                                        | refine ⟨.slice aod d.length cd, fun u hu => rLdRd (f := dav) (x := ⟨.slice aod d.length cd, d⟩) (u := .slice aod d.length cd) (HD.out _ [_, _, _] hu) (dav_len ds) _ _ (by rfl) _ (by rfl) (agOf (by rfl)) j 0 (by omega) HX.out (by rfl) (by omega), ?_⟩
                                                        | refine ⟨.slice (some ⟨bx, ofx, none⟩) d.length cd, fun u hu => rLdRd (f := dav) (x := ⟨.slice (some ⟨bx, ofx, none⟩) d.length cd, d⟩) (u := .slice (some ⟨bx, ofx, none⟩) d.length cd) (HD.out _ [_, _, _] hu) (dav_len ds) _ _ (by rfl) _ (by rfl) (agOf (by rfl)) j 0 (by omega) HX.out (by rfl) (by omega), ?_⟩
                                                        | refine ⟨.int .i64 (a : Int), fun u hu => rLdRd (f := ev2) (x := ⟨en, (a : Int)⟩) (u := .int .i64 (a : Int)) (HXD.out _ [_, _, _] hu) (ev2_len d) _ _ (by rfl) _ (by rfl) (agOf (by rfl)) m 1 (by omega) HXM.out (by rfl) (by omega), ?_⟩
                                                        | refine ⟨_, yLd _ _ (by rfl) _ _ (by rfl) (agOf (by rfl)) Has.z (HKA.out _ _ _ (by omega)), ?_⟩); (simp only [Act.put, List.setIfInBounds_toArray, List.set_cons_zero, List.set_cons_succ]))
                  (refine regP 9 hS (fun _ h => h) rfl (by kernel_rfl) (by kernel_rfl) (by kernel_rfl) (fun _ _ _ _ h => h) (by rfl) (by rfl) ?_; apply Exists.intro; apply And.intro; (intro w; go_simp; try with_reducible rfl); (simp only [Act.put, List.setIfInBounds_toArray, List.set_cons_zero, List.set_cons_succ]))
                  (refine regP 10 hS (fun _ h => h) rfl (by kernel_rfl) (by kernel_rfl) (by kernel_rfl) (fun _ _ _ _ h => h) (by rfl) (by rfl) ?_; apply Exists.intro; apply And.intro; (intro w; go_simp; try with_reducible rfl); (simp only [Act.put, List.setIfInBounds_toArray, List.set_cons_zero, List.set_cons_succ]))
                  (refine regP 11 hS (fun _ h => h) rfl (by kernel_rfl) (by kernel_rfl) (by kernel_rfl) (fun _ _ _ _ h => h) (by rfl) (by rfl) ?_; apply Exists.intro; apply And.intro; (intro w; go_simp; try with_reducible rfl); (simp only [Act.put, List.setIfInBounds_toArray, List.set_cons_zero, List.set_cons_succ]))
                  (refine regR 12 hS (fun _ h => h) rfl (by kernel_rfl) (by kernel_rfl) (by kernel_rfl) (by kernel_rfl) (by kernel_rfl) (fun _ _ _ _ h => h) (by rfl) (by rfl) ?_; (first
                                                        | refine ⟨.slice aod d.length cd, fun u hu => rLdRd (f := dav) (x := ⟨.slice aod d.length cd, d⟩) (u := .slice aod d.length cd) (HD.out _ [_, _, _] hu) (dav_len ds) _ _ (by rfl) _ (by rfl) (agOf (by rfl)) j 0 (by omega) HX.out (by rfl) (by omega), ?_⟩
                                                        | refine ⟨.slice (some ⟨bx, ofx, none⟩) d.length cd, fun u hu => rLdRd (f := dav) (x := ⟨.slice (some ⟨bx, ofx, none⟩) d.length cd, d⟩) (u := .slice (some ⟨bx, ofx, none⟩) d.length cd) (HD.out _ [_, _, _] hu) (dav_len ds) _ _ (by rfl) _ (by rfl) (agOf (by rfl)) j 0 (by omega) HX.out (by rfl) (by omega), ?_⟩
                                                        | refine ⟨.int .i64 (a : Int), fun u hu => rLdRd (f := ev2) (x := ⟨en, (a : Int)⟩) (u := .int .i64 (a : Int)) (HXD.out _ [_, _, _] hu) (ev2_len d) _ _ (by rfl) _ (by rfl) (agOf (by rfl)) m 1 (by omega) HXM.out (by rfl) (by omega), ?_⟩
                                                        | refine ⟨_, yLd _ _ (by rfl) _ _ (by rfl) (agOf (by rfl)) Has.z (HKA.out _ _ _ (by omega)), ?_⟩); (simp only [Act.put, List.setIfInBounds_toArray, List.set_cons_zero, List.set_cons_succ]))
                  (refine regP 13 hS (fun _ h => h) rfl (by kernel_rfl) (by kernel_rfl) (by kernel_rfl) (fun _ _ _ _ h => h) (by rfl) (by rfl) ?_; apply Exists.intro; apply And.intro; (intro w; go_simp; try with_reducible rfl); (simp only [Act.put, List.setIfInBounds_toArray, List.set_cons_zero, List.set_cons_succ]))
                  refine regDone (by kernel_rfl) ?_
                  go_wp2
                  go_ret
                  exact ⟨_, rfl, .inr ⟨rfl, HN.out, hS.drop.drop.drop⟩⟩
                · have HKE2 := Lib.hid (show ∀ e ∈ d.take (m + 1), KF e.ino.toNat ≠ 0 from fun e he => by
                    rw [List.take_add_one, hx] at he
                    rcases List.mem_append.1 he with h | h
                    · exact HKE.out e h
                    · rw [show e = ⟨en, (a : Int)⟩ by simpa using h]
                      show KF ((a : Int)).toNat ≠ 0
                      rw [Int.toNat_natCast, hka]; exact h0)
                  have g1 : (ka == 0) = false := beq_eq_false_iff_ne.2 h0
                  clear hx hlt hm h1 h2 hka h0
                  go_wp2_with (first
                    | (refine toList (by rfl) ?_; refine wp_of_reads (rLdRd (f := dav) (x := ⟨_, d⟩) (HD.out _ [_, _, _] hS) (dav_len ds) _ _ (by rfl) _ (by rfl) (agOf (by rfl)) j 0 (by omega) HX.out (by rfl) (by omega)) ?_)
                    | (go_at_call 57; refine (HCH.out _ [_, _, _] hS).mono ?_; rintro r w1 ⟨rfl, hS1⟩; clear hS; have hS := (show Sat W w1 (Cs p _ _ :: rws _ _ :: Ir _ _ :: L) from hS1); clear hS1)
                    | (refine toList (by rfl) ?_; refine ld hS _ _ (by rfl) _ _ (by rfl) (agOf (by rfl)) Has.z (HKJ.out _ _ _ (by omega)) ?_))
                  refine regStart [] hS (by kernel_rfl) rfl ?_
                  intro w1 hS1
                  clear hS; have hS := hS1; clear hS1
                  (refine regP 0 hS (fun _ h => h) rfl (by kernel_rfl) (by kernel_rfl) (by kernel_rfl) (fun _ _ _ _ h => h) (by rfl) (by rfl) ?_; apply Exists.intro; apply And.intro; (intro w; go_simp; try with_reducible rfl); (simp only [Act.put, List.setIfInBounds_toArray, List.set_cons_zero, List.set_cons_succ]))
                  (refine regP 1 hS (fun _ h => h) rfl (by kernel_rfl) (by kernel_rfl) (by kernel_rfl) (fun _ _ _ _ h => h) (by rfl) (by rfl) ?_; apply Exists.intro; apply And.intro; (intro w; go_simp; try with_reducible rfl); (simp only [Act.put, List.setIfInBounds_toArray, List.set_cons_zero, List.set_cons_succ]))
                  (refine regP 2 hS (fun _ h => h) rfl (by kernel_rfl) (by kernel_rfl) (by kernel_rfl) (fun _ _ _ _ h => h) (by rfl) (by rfl) ?_; apply Exists.intro; apply And.intro; (intro w; go_simp; try with_reducible rfl); (simp only [Act.put, List.setIfInBounds_toArray, List.set_cons_zero, List.set_cons_succ]))
                  (refine regP 3 hS (fun _ h => h) rfl (by kernel_rfl) (by kernel_rfl) (by kernel_rfl) (fun _ _ _ _ h => h) (by rfl) (by rfl) ?_; apply Exists.intro; apply And.intro; (intro w; go_simp; try with_reducible rfl); (simp only [Act.put, List.setIfInBounds_toArray, List.set_cons_zero, List.set_cons_succ]))
                  (refine regR 4 hS (fun _ h => h) rfl (by kernel_rfl) (by kernel_rfl) (by kernel_rfl) (by kernel_rfl) (by kernel_rfl) (fun _ _ _ _ h => h) (by rfl) (by rfl) ?_; (first
                                                        | refine ⟨.slice aod d.length cd, fun u hu => rLdRd (f := dav) (x := ⟨.slice aod d.length cd, d⟩) (u := .slice aod d.length cd) (HD.out _ [_, _, _] hu) (dav_len ds) _ _ (by rfl) _ (by rfl) (agOf (by rfl)) j 0 (by omega) HX.out (by rfl) (by omega), ?_⟩
                                                        | refine ⟨.slice (some ⟨bx, ofx, none⟩) d.length cd, fun u hu => rLdRd (f := dav) (x := ⟨.slice (some ⟨bx, ofx, none⟩) d.length cd, d⟩) (u := .slice (some ⟨bx, ofx, none⟩) d.length cd) (HD.out _ [_, _, _] hu) (dav_len ds) _ _ (by rfl) _ (by rfl) (agOf (by rfl)) j 0 (by omega) HX.out (by rfl) (by omega), ?_⟩
                                                        | refine ⟨.int .i64 (a : Int), fun u hu => rLdRd (f := ev2) (x := ⟨en, (a : Int)⟩) (u := .int .i64 (a : Int)) (HXD.out _ [_, _, _] hu) (ev2_len d) _ _ (by rfl) _ (by rfl) (agOf (by rfl)) m 1 (by omega) HXM.out (by rfl) (by omega), ?_⟩
                                                        | refine ⟨_, yLd _ _ (by rfl) _ _ (by rfl) (agOf (by rfl)) Has.z (HKA.out _ _ _ (by omega)), ?_⟩); (simp only [Act.put, List.setIfInBounds_toArray, List.set_cons_zero, List.set_cons_succ]))
                  (refine regP 5 hS (fun _ h => h) rfl (by kernel_rfl) (by kernel_rfl) (by kernel_rfl) (fun _ _ _ _ h => h) (by rfl) (by rfl) ?_; apply Exists.intro; apply And.intro; (intro w; go_simp; try with_reducible rfl); (simp only [Act.put, List.setIfInBounds_toArray, List.set_cons_zero, List.set_cons_succ]))
                  (refine regP 6 hS (fun _ h => h) rfl (by kernel_rfl) (by kernel_rfl) (by kernel_rfl) (fun _ _ _ _ h => h) (by rfl) (by rfl) ?_; apply Exists.intro; apply And.intro; (intro w; go_simp; try with_reducible rfl); (simp only [Act.put, List.setIfInBounds_toArray, List.set_cons_zero, List.set_cons_succ]))
                  (refine regP 7 hS (fun _ h => h) rfl (by kernel_rfl) (by kernel_rfl) (by kernel_rfl) (fun _ _ _ _ h => h) (by rfl) (by rfl) ?_; apply Exists.intro; apply And.intro; (intro w; go_simp; try with_reducible rfl); (simp only [Act.put, List.setIfInBounds_toArray, List.set_cons_zero, List.set_cons_succ]))
                  (refine regR 8 hS (fun _ h => h) rfl (by kernel_rfl) (by kernel_rfl) (by kernel_rfl) (by kernel_rfl) (by kernel_rfl) (fun _ _ _ _ h => h) (by rfl) (by rfl) ?_; (first
                                                        | refine ⟨.slice aod d.length cd, fun u hu => rLdRd (f := dav) (x := ⟨.slice aod d.length cd, d⟩) (u := .slice aod d.length cd) (HD.out _ [_, _, _] hu) (dav_len ds) _ _ (by rfl) _ (by rfl) (agOf (by rfl)) j 0 (by omega) HX.out (by rfl) (by omega), ?_⟩
                                                        | refine ⟨.slice (some ⟨bx, ofx, none⟩) d.length cd, fun u hu => rLdRd (f := dav) (x := ⟨.slice (some ⟨bx, ofx, none⟩) d.length cd, d⟩) (u := .slice (some ⟨bx, ofx, none⟩) d.length cd) (HD.out _ [_, _, _] hu) (dav_len ds) _ _ (by rfl) _ (by rfl) (agOf (by rfl)) j 0 (by omega) HX.out (by rfl) (by omega), ?_⟩
                                                        | refine ⟨.int .i64 (a : Int), fun u hu => rLdRd (f := ev2) (x := ⟨en, (a : Int)⟩) (u := .int .i64 (a : Int)) (HXD.out _ [_, _, _] hu) (ev2_len d) _ _ (by rfl) _ (by rfl) (agOf (by rfl)) m 1 (by omega) HXM.out (by rfl) (by omega), ?_⟩
                                                        | refine ⟨_, yLd _ _ (by rfl) _ _ (by rfl) (agOf (by rfl)) Has.z (HKA.out _ _ _ (by omega)), ?_⟩); (simp only [Act.put, List.setIfInBounds_toArray, List.set_cons_zero, List.set_cons_succ]))
                  (refine regP 9 hS (fun _ h => h) rfl (by kernel_rfl) (by kernel_rfl) (by kernel_rfl) (fun _ _ _ _ h => h) (by rfl) (by rfl) ?_; apply Exists.intro; apply And.intro; (intro w; go_simp; try with_reducible rfl); (simp only [Act.put, List.setIfInBounds_toArray, List.set_cons_zero, List.set_cons_succ]))
                  (refine regP 10 hS (fun _ h => h) rfl (by kernel_rfl) (by kernel_rfl) (by kernel_rfl) (fun _ _ _ _ h => h) (by rfl) (by rfl) ?_; apply Exists.intro; apply And.intro; (intro w; go_simp; try with_reducible rfl); (simp only [Act.put, List.setIfInBounds_toArray, List.set_cons_zero, List.set_cons_succ]))
                  (refine regP 11 hS (fun _ h => h) rfl (by kernel_rfl) (by kernel_rfl) (by kernel_rfl) (fun _ _ _ _ h => h) (by rfl) (by rfl) ?_; apply Exists.intro; apply And.intro; (intro w; go_simp; try with_reducible rfl); (simp only [Act.put, List.setIfInBounds_toArray, List.set_cons_zero, List.set_cons_succ]))
                  (refine regR 12 hS (fun _ h => h) rfl (by kernel_rfl) (by kernel_rfl) (by kernel_rfl) (by kernel_rfl) (by kernel_rfl) (fun _ _ _ _ h => h) (by rfl) (by rfl) ?_; (first
                                                        | refine ⟨.slice aod d.length cd, fun u hu => rLdRd (f := dav) (x := ⟨.slice aod d.length cd, d⟩) (u := .slice aod d.length cd) (HD.out _ [_, _, _] hu) (dav_len ds) _ _ (by rfl) _ (by rfl) (agOf (by rfl)) j 0 (by omega) HX.out (by rfl) (by omega), ?_⟩
                                                        | refine ⟨.slice (some ⟨bx, ofx, none⟩) d.length cd, fun u hu => rLdRd (f := dav) (x := ⟨.slice (some ⟨bx, ofx, none⟩) d.length cd, d⟩) (u := .slice (some ⟨bx, ofx, none⟩) d.length cd) (HD.out _ [_, _, _] hu) (dav_len ds) _ _ (by rfl) _ (by rfl) (agOf (by rfl)) j 0 (by omega) HX.out (by rfl) (by omega), ?_⟩
                                                        | refine ⟨.int .i64 (a : Int), fun u hu => rLdRd (f := ev2) (x := ⟨en, (a : Int)⟩) (u := .int .i64 (a : Int)) (HXD.out _ [_, _, _] hu) (ev2_len d) _ _ (by rfl) _ (by rfl) (agOf (by rfl)) m 1 (by omega) HXM.out (by rfl) (by omega), ?_⟩
                                                        | refine ⟨_, yLd _ _ (by rfl) _ _ (by rfl) (agOf (by rfl)) Has.z (HKA.out _ _ _ (by omega)), ?_⟩); (simp only [Act.put, List.setIfInBounds_toArray, List.set_cons_zero, List.set_cons_succ]))
                  (refine regP 13 hS (fun _ h => h) rfl (by kernel_rfl) (by kernel_rfl) (by kernel_rfl) (fun _ _ _ _ h => h) (by rfl) (by rfl) ?_; apply Exists.intro; apply And.intro; (intro w; go_simp; try with_reducible rfl); (simp only [Act.put, List.setIfInBounds_toArray, List.set_cons_zero, List.set_cons_succ]))
                  refine regDone (by kernel_rfl) ?_
                  go_wp2
                  exact ⟨⟨m + 1, by go_num, HLT2.out, HKE2.out, hS⟩, by simp [intOf]; have := HLT2.out; omega⟩
              · obtain rfl : m = d.length := by omega
                have HKA := Lib.hid (show ∀ e ∈ d, KF e.ino.toNat ≠ 0 by have := HKE.out; rwa [List.take_length] at this)
                have p1 : ¬ (d.length : Int) < (d.length : Int) := by omega
                clear hlt hm HKE
                have HCK2 := Lib.hid (show ∀ d ∈ (ds.map DArg.l).take (j + 1), ChkD d ∧ ∀ e ∈ d, KF e.ino.toNat ≠ 0 from fun e he => by
                  rw [HTK.out] at he
                  rcases List.mem_append.1 he with h | h
                  · exact HCK.out e h
                  · rw [show e = d by simpa using h]; exact ⟨HC.out, HKA.out⟩)
                go_wp2_with (first
                  | (refine toList (by rfl) ?_; refine wp_of_reads (rLdRd (f := dav) (x := ⟨_, d⟩) (HD.out _ [_, _, _] hS) (dav_len ds) _ _ (by rfl) _ (by rfl) (agOf (by rfl)) j 0 (by omega) HX.out (by rfl) (by omega)) ?_)
                  | (go_at_call 57; refine (HCH.out _ [_, _, _] hS).mono ?_; rintro r w1 ⟨rfl, hS1⟩; clear hS; have hS := (show Sat W w1 (Cs p _ _ :: rws _ _ :: Ir _ _ :: L) from hS1); clear hS1)
                  | (refine toList (by rfl) ?_; refine ld hS _ _ (by rfl) _ _ (by rfl) (agOf (by rfl)) Has.z (HKJ.out _ _ _ (by omega)) ?_))
                refine regStart [6, 10] hS (by kernel_rfl) rfl ?_
                intro w1 hS1
                clear hS; have hS := hS1; clear hS1
                (refine regP 0 hS (fun _ h => h) rfl (by kernel_rfl) (by kernel_rfl) (by kernel_rfl) (fun _ _ _ _ h => h) (by rfl) (by rfl) ?_; apply Exists.intro; apply And.intro; (intro w; go_simp; try with_reducible rfl); (simp only [Act.put, List.setIfInBounds_toArray, List.set_cons_zero, List.set_cons_succ]))
                (refine regP 1 hS (fun _ h => h) rfl (by kernel_rfl) (by kernel_rfl) (by kernel_rfl) (fun _ _ _ _ h => h) (by rfl) (by rfl) ?_; apply Exists.intro; apply And.intro; (intro w; go_simp; try with_reducible rfl); (simp only [Act.put, List.setIfInBounds_toArray, List.set_cons_zero, List.set_cons_succ]))
                (refine regP 2 hS (fun _ h => h) rfl (by kernel_rfl) (by kernel_rfl) (by kernel_rfl) (fun _ _ _ _ h => h) (by rfl) (by rfl) ?_; apply Exists.intro; apply And.intro; (intro w; go_simp; try with_reducible rfl); (simp only [Act.put, List.setIfInBounds_toArray, List.set_cons_zero, List.set_cons_succ]))
                (refine regP 3 hS (fun _ h => h) rfl (by kernel_rfl) (by kernel_rfl) (by kernel_rfl) (fun _ _ _ _ h => h) (by rfl) (by rfl) ?_; apply Exists.intro; apply And.intro; (intro w; go_simp; try with_reducible rfl); (simp only [Act.put, List.setIfInBounds_toArray, List.set_cons_zero, List.set_cons_succ]))
                (refine regP 4 hS (fun _ h => h) rfl (by kernel_rfl) (by kernel_rfl) (by kernel_rfl) (fun _ _ _ _ h => h) (by rfl) (by rfl) ?_; apply Exists.intro; apply And.intro; (intro w; go_simp; try with_reducible rfl); (simp only [Act.put, List.setIfInBounds_toArray, List.set_cons_zero, List.set_cons_succ]))
                (refine regR 5 hS (fun _ h => h) rfl (by kernel_rfl) (by kernel_rfl) (by kernel_rfl) (by kernel_rfl) (by kernel_rfl) (fun _ _ _ _ h => h) (by rfl) (by rfl) ?_; (refine ⟨.slice aod d.length cd, fun u hu => rLdRd (f := dav) (x := ⟨.slice aod d.length cd, d⟩) (u := .slice aod d.length cd) (HD.out _ [_, _, _] hu) (dav_len ds) _ _ (by rfl) _ (by rfl) (agOf (by rfl)) j 0 (by omega) HX.out (by rfl) (by omega), ?_⟩); (simp only [Act.put, List.setIfInBounds_toArray, List.set_cons_zero, List.set_cons_succ]))
                (refine regP 7 hS (fun _ h => h) rfl (by kernel_rfl) (by kernel_rfl) (by kernel_rfl) (fun _ _ _ _ h => h) (by rfl) (by rfl) ?_; apply Exists.intro; apply And.intro; (intro w; go_simp; try with_reducible rfl); (simp only [Act.put, List.setIfInBounds_toArray, List.set_cons_zero, List.set_cons_succ]))
                (refine regP 8 hS (fun _ h => h) rfl (by kernel_rfl) (by kernel_rfl) (by kernel_rfl) (fun _ _ _ _ h => h) (by rfl) (by rfl) ?_; apply Exists.intro; apply And.intro; (intro w; go_simp; try with_reducible rfl); (simp only [Act.put, List.setIfInBounds_toArray, List.set_cons_zero, List.set_cons_succ]))
                (refine regA 6 rfl (by kernel_rfl) (by rfl) (by rfl) true (by kernel_rfl) (fun K hK => ?_); (first
                                                  | (refine apTb (f := ev2) (xs := []) (hS.tbNil (E := 59) (sz := 2)) _ _ _ _ (by rfl) _ _ (by rfl) (by rfl) (elOf (by rfl)) (by rfl) (by decide) (inOf (by rfl)) Has.z d (ev2_len _) (by exact .inl (HXD.out _ [_, _, _] hS)) (ev2_one _) (by simp; omega) (by simp; omega) ?_; intro v' w1 hS1; clear hS; have hS := hS1; clear hS1; dsimp only [List.set_cons_zero, List.nil_append] at hS; obtain ⟨aoe, ce, rfl, _⟩ := Sat.tbShape (k := 0) (show Sat _ _ (Tb 59 2 ev2 v' d :: _) from hS) rfl; replace hS := hS.pull1)
                                                  | (refine st hS _ _ _ (by rfl) _ _ (by rfl) _ (by first | exact evC | exact evT (by rfl)) (by rfl) (szOf (by rfl)) Has.z (by rw [wl_len]; omega) ?_; intro w1 hS1; clear hS; have hS := hS1; clear hS1; simp only [List.set_cons_zero] at hS; rw [HTV.out _ _ _ _ _ (by omega)] at hS)); refine hK _ _ _ hS (by first | (intro h; cases h; done) | exact fun _ _ h => h | exact fun _ _ h => h.drop | exact fun _ _ h => h.drop.drop | exact fun _ _ h => h.drop.pull1 | exact fun _ _ h => h.take2 | exact fun _ _ h => h.one Has.z | exact fun _ _ h => h.one (Has.s Has.z) | exact fun _ _ h => h.one (Has.s (Has.s Has.z))) ?_; clear hK K; (simp only [Act.put, List.setIfInBounds_toArray, List.set_cons_zero, List.set_cons_succ]))
                (refine regP 9 hS (fun _ h => h) rfl (by kernel_rfl) (by kernel_rfl) (by kernel_rfl) (fun _ _ _ _ h => h) (by rfl) (by rfl) ?_; apply Exists.intro; apply And.intro; (intro w; go_simp; try with_reducible rfl); (simp only [Act.put, List.setIfInBounds_toArray, List.set_cons_zero, List.set_cons_succ]))
                (refine regA 10 rfl (by kernel_rfl) (by rfl) (by rfl) true (by kernel_rfl) (fun K hK => ?_); (first
                                                  | (refine apTb (f := ev2) (xs := []) (hS.tbNil (E := 59) (sz := 2)) _ _ _ _ (by rfl) _ _ (by rfl) (by rfl) (elOf (by rfl)) (by rfl) (by decide) (inOf (by rfl)) Has.z d (ev2_len _) (by exact .inl (HXD.out _ [_, _, _] hS)) (ev2_one _) (by simp; omega) (by simp; omega) ?_; intro v' w1 hS1; clear hS; have hS := hS1; clear hS1; dsimp only [List.set_cons_zero, List.nil_append] at hS; obtain ⟨aoe, ce, rfl, _⟩ := Sat.tbShape (k := 0) (show Sat _ _ (Tb 59 2 ev2 v' d :: _) from hS) rfl; replace hS := hS.pull1)
                                                  | (refine st hS _ _ _ (by rfl) _ _ (by rfl) _ (by first | exact evC | exact evT (by rfl)) (by rfl) (szOf (by rfl)) Has.z (by rw [wl_len]; omega) ?_; intro w1 hS1; clear hS; have hS := hS1; clear hS1; simp only [List.set_cons_zero] at hS; rw [HTV.out _ _ _ _ _ (by omega)] at hS)); refine hK _ _ _ hS (by first | (intro h; cases h; done) | exact fun _ _ h => h | exact fun _ _ h => h.drop | exact fun _ _ h => h.drop.drop | exact fun _ _ h => h.drop.pull1 | exact fun _ _ h => h.take2 | exact fun _ _ h => h.one Has.z | exact fun _ _ h => h.one (Has.s Has.z) | exact fun _ _ h => h.one (Has.s (Has.s Has.z))) ?_; clear hK K; (simp only [Act.put, List.setIfInBounds_toArray, List.set_cons_zero, List.set_cons_succ]))
                refine regDone (by kernel_rfl) ?_
                replace hS := (rws_put (show Sat W _ (Er (.slice aoe d.length ce) d :: rws v (dfi (ds.map DArg.l) j) :: _) from hS.re [1, 2]) HJ48.out).pull1
                rw [HDS.out] at hS
                go_wp2
                exact ⟨⟨j + 1, _, by go_num, HLT.out, HCK2.out, HND2.out, hS⟩, by simp [intOf]; have := HLT.out; omega⟩
          · subst hk
            clear hkj
            go_wp2_with (first
              | (refine toList (by rfl) ?_; refine wp_of_reads (rLdRd (f := dav) (x := ⟨_, d⟩) (HD.out _ [_, _, _] hS) (dav_len ds) _ _ (by rfl) _ (by rfl) (agOf (by rfl)) j 0 (by omega) HX.out (by rfl) (by omega)) ?_)
              | (go_at_call 57; refine (HCH.out _ [_, _, _] hS).mono ?_; rintro r w1 ⟨rfl, hS1⟩; clear hS; have hS := (show Sat W w1 (Cs p _ _ :: rws _ _ :: Ir _ _ :: L) from hS1); clear hS1)
              | (refine toList (by rfl) ?_; refine ld hS _ _ (by rfl) _ _ (by rfl) (agOf (by rfl)) Has.z (HKJ.out _ _ _ (by omega)) ?_))
            have H0 := Lib.hid hS
            go_loopw [8] (fun v8 wz => ∃ m : Nat, v8 = .int .i64 m ∧ m ≤ d.length ∧ (∀ e ∈ d.take m, KF e.ino.toNat ≠ 0) ∧ Sat W wz (Cs p 79 (wl KF v (.slice none 0 0)) :: rws v (dfi (ds.map DArg.l) j) :: Ir (.slice none 0 0) [] :: L)) (fun v8 _ => d.length - (intOf v8).toNat)
            case atStart => exact ⟨0, rfl, by omega, by simp, H0.out⟩
            case round =>
              clear hS H0
              obtain ⟨m, rfl, hm, hke, hS⟩ := hrel
              have HKE := Lib.hid hke
              clear hke
              by_cases hlt : m < d.length
              · obtain ⟨⟨en, ei⟩, hx⟩ : ∃ e, d[m]? = some e := ⟨_, List.getElem?_eq_getElem hlt⟩
                obtain ⟨a, ha, h1, h2⟩ := HINO.out m _ hx
                dsimp only at ha
                subst ha
                have HXM := Lib.hid hx
                obtain ⟨bx, ofx, rfl⟩ : ∃ bx ofx, aod = some ⟨bx, ofx, none⟩ := by
                  obtain ⟨b', o', h6, _⟩ := HD5'.out (by omega)
                  exact ⟨b', o', h6⟩
                have p1 : (m : Int) < (d.length : Int) := by omega
                have p2 : (a : Int) < 48 := by omega
                have HLT2 := Lib.hid hlt
                obtain ⟨ka, hka⟩ : ∃ ka, KF a = ka := ⟨_, rfl⟩
                have HKA := Lib.hid (show ∀ (v : Nat → Value) (vt : Value) (b : Nat), b = a → (wl KF v vt)[b]? = some (.int .i64 ka) from fun v vt b hb => by rw [← hka]; exact wl_k h2 hb)
                by_cases h0 : ka = 0
                · have HN := Lib.hid (show ¬ TrD.LoadOk ks (ds.map DArg.l) from fun h => h.ent (List.mem_of_getElem? HDM.out) (List.mem_of_getElem? hx) (by have h3 : KF a = 0 := hka.trans h0; rw [← HKF.out] at h3; exact h3))
                  subst h0
                  clear hx hlt hm h1 h2 hka
                  go_wp2_with (first
                    | (refine toList (by rfl) ?_; refine wp_of_reads (rLdRd (f := dav) (x := ⟨_, d⟩) (HD.out _ [_, _, _] hS) (dav_len ds) _ _ (by rfl) _ (by rfl) (agOf (by rfl)) j 0 (by omega) HX.out (by rfl) (by omega)) ?_)
                    | (go_at_call 57; refine (HCH.out _ [_, _, _] hS).mono ?_; rintro r w1 ⟨rfl, hS1⟩; clear hS; have hS := (show Sat W w1 (Cs p _ _ :: rws _ _ :: Ir _ _ :: L) from hS1); clear hS1)
                    | (refine toList (by rfl) ?_; refine ld hS _ _ (by rfl) _ _ (by rfl) (agOf (by rfl)) Has.z (HKJ.out _ _ _ (by omega)) ?_))
                  refine regStart [] hS (by kernel_rfl) rfl ?_
                  intro w1 hS1
                  clear hS; have hS := hS1; clear hS1
                  (refine regP 0 hS (fun _ h => h) rfl (by kernel_rfl) (by kernel_rfl) (by kernel_rfl) (fun _ _ _ _ h => h) (by rfl) (by rfl) ?_; apply Exists.intro; apply And.intro; (intro w; go_simp; try with_reducible rfl); (simp only [Act.put, List.setIfInBounds_toArray, List.set_cons_zero, List.set_cons_succ]))
                  (refine regP 1 hS (fun _ h => h) rfl (by kernel_rfl) (by kernel_rfl) (by kernel_rfl) (fun _ _ _ _ h => h) (by rfl) (by rfl) ?_; apply Exists.intro; apply And.intro; (intro w; go_simp; try with_reducible rfl); (simp only [Act.put, List.setIfInBounds_toArray, List.set_cons_zero, List.set_cons_succ]))
                  (refine regP 2 hS (fun _ h => h) rfl (by kernel_rfl) (by kernel_rfl) (by kernel_rfl) (fun _ _ _ _ h => h) (by rfl) (by rfl) ?_; apply Exists.intro; apply And.intro; (intro w; go_simp; try with_reducible rfl); (simp only [Act.put, List.setIfInBounds_toArray, List.set_cons_zero, List.set_cons_succ]))
                  (refine regP 3 hS (fun _ h => h) rfl (by kernel_rfl) (by kernel_rfl) (by kernel_rfl) (fun _ _ _ _ h => h) (by rfl) (by rfl) ?_; apply Exists.intro; apply And.intro; (intro w; go_simp; try with_reducible rfl); (simp only [Act.put, List.setIfInBounds_toArray, List.set_cons_zero, List.set_cons_succ]))
                  (refine regR 4 hS (fun _ h => h) rfl (by kernel_rfl) (by kernel_rfl) (by kernel_rfl) (by kernel_rfl) (by kernel_rfl) (fun _ _ _ _ h => h) (by rfl) (by rfl) ?_; (first
                                                        | refine ⟨.slice aod d.length cd, fun u hu => rLdRd (f := dav) (x := ⟨.slice aod d.length cd, d⟩) (u := .slice aod d.length cd) (HD.out _ [_, _, _] hu) (dav_len ds) _ _ (by rfl) _ (by rfl) (agOf (by rfl)) j 0 (by omega) HX.out (by rfl) (by omega), ?_⟩
                                                        | refine ⟨.slice (some ⟨bx, ofx, none⟩) d.length cd, fun u hu => rLdRd (f := dav) (x := ⟨.slice (some ⟨bx, ofx, none⟩) d.length cd, d⟩) (u := .slice (some ⟨bx, ofx, none⟩) d.length cd) (HD.out _ [_, _, _] hu) (dav_len ds) _ _ (by rfl) _ (by rfl) (agOf (by rfl)) j 0 (by omega) HX.out (by rfl) (by omega), ?_⟩
                                                        | refine ⟨.int .i64 (a : Int), fun u hu => rLdRd (f := ev2) (x := ⟨en, (a : Int)⟩) (u := .int .i64 (a : Int)) (HXD.out _ [_, _, _] hu) (ev2_len d) _ _ (by rfl) _ (by rfl) (agOf (by rfl)) m 1 (by omega) HXM.out (by rfl) (by omega), ?_⟩
                                                        | refine ⟨_, yLd _ _ (by rfl) _ _ (by rfl) (agOf (by rfl)) Has.z (HKA.out _ _ _ (by omega)), ?_⟩); (simp only [Act.put, List.setIfInBounds_toArray, List.set_cons_zero, List.set_cons_succ]))
                  (refine regP 5 hS (fun _ h => h) rfl (by kernel_rfl) (by kernel_rfl) (by kernel_rfl) (fun _ _ _ _ h => h) (by rfl) (by rfl) ?_; apply Exists.intro; apply And.intro; (intro w; go_simp; try with_reducible rfl); (simp only [Act.put, List.setIfInBounds_toArray, List.set_cons_zero, List.set_cons_succ]))
                  (refine regP 6 hS (fun _ h => h) rfl (by kernel_rfl) (by kernel_rfl) (by kernel_rfl) (fun _ _ _ _ h => h) (by rfl) (by rfl) ?_; apply Exists.intro; apply And.intro; (intro w; go_simp; try with_reducible rfl); (simp only [Act.put, List.setIfInBounds_toArray, List.set_cons_zero, List.set_cons_succ]))
                  (refine regP 7 hS (fun _ h => h) rfl (by kernel_rfl) (by kernel_rfl) (by kernel_rfl) (fun _ _ _ _ h => h) (by rfl) (by rfl) ?_; apply Exists.intro; apply And.intro; (intro w; go_simp; try with_reducible rfl); (simp only [Act.put, List.setIfInBounds_toArray, List.set_cons_zero, List.set_cons_succ]))
                  (refine regR 8 hS (fun _ h => h) rfl (by kernel_rfl) (by kernel_rfl) (by kernel_rfl) (by kernel_rfl) (by kernel_rfl) (fun _ _ _ _ h => h) (by rfl) (by rfl) ?_; (first
                                                        | refine ⟨.slice aod d.length cd, fun u hu => rLdRd (f := dav) (x := ⟨.slice aod d.length cd, d⟩) (u := .slice aod d.length cd) (HD.out _ [_, _, _] hu) (dav_len ds) _ _ (by rfl) _ (by rfl) (agOf (by rfl)) j 0 (by omega) HX.out (by rfl) (by omega), ?_⟩
                                                        | refine ⟨.slice (some ⟨bx, ofx, none⟩) d.length cd, fun u hu => rLdRd (f := dav) (x := ⟨.slice (some ⟨bx, ofx, none⟩) d.length cd, d⟩) (u := .slice (some ⟨bx, ofx, none⟩) d.length cd) (HD.out _ [_, _, _] hu) (dav_len ds) _ _ (by rfl) _ (by rfl) (agOf (by rfl)) j 0 (by omega) HX.out (by rfl) (by omega), ?_⟩
                                                        | refine ⟨.int .i64 (a : Int), fun u hu => rLdRd (f := ev2) (x := ⟨en, (a : Int)⟩) (u := .int .i64 (a : Int)) (HXD.out _ [_, _, _] hu) (ev2_len d) _ _ (by rfl) _ (by rfl) (agOf (by rfl)) m 1 (by omega) HXM.out (by rfl) (by omega), ?_⟩
                                                        | refine ⟨_, yLd _ _ (by rfl) _ _ (by rfl) (agOf (by rfl)) Has.z (HKA.out _ _ _ (by omega)), ?_⟩); (simp only [Act.put, List.setIfInBounds_toArray, List.set_cons_zero, List.set_cons_succ]))
                  (refine regP 9 hS (fun _ h => h) rfl (by kernel_rfl) (by kernel_rfl) (by kernel_rfl) (fun _ _ _ _ h => h) (by rfl) (by rfl) ?_; apply Exists.intro; apply And.intro; (intro w; go_simp; try with_reducible rfl); (simp only [Act.put, List.setIfInBounds_toArray, List.set_cons_zero, List.set_cons_succ]))
                  (refine regP 10 hS (fun _ h => h) rfl (by kernel_rfl) (by kernel_rfl) (by kernel_rfl) (fun _ _ _ _ h => h) (by rfl) (by rfl) ?_; apply Exists.intro; apply And.intro; (intro w; go_simp; try with_reducible rfl); (simp only [Act.put, List.setIfInBounds_toArray, List.set_cons_zero, List.set_cons_succ]))
                  (refine regP 11 hS (fun _ h => h) rfl (by kernel_rfl) (by kernel_rfl) (by kernel_rfl) (fun _ _ _ _ h => h) (by rfl) (by rfl) ?_; apply Exists.intro; apply And.intro; (intro w; go_simp; try with_reducible rfl); (simp only [Act.put, List.setIfInBounds_toArray, List.set_cons_zero, List.set_cons_succ]))
                  (refine regR 12 hS (fun _ h => h) rfl (by kernel_rfl) (by kernel_rfl) (by kernel_rfl) (by kernel_rfl) (by kernel_rfl) (fun _ _ _ _ h => h) (by rfl) (by rfl) ?_; (first
                                                        | refine ⟨.slice aod d.length cd, fun u hu => rLdRd (f := dav) (x := ⟨.slice aod d.length cd, d⟩) (u := .slice aod d.length cd) (HD.out _ [_, _, _] hu) (dav_len ds) _ _ (by rfl) _ (by rfl) (agOf (by rfl)) j 0 (by omega) HX.out (by rfl) (by omega), ?_⟩
                                                        | refine ⟨.slice (some ⟨bx, ofx, none⟩) d.length cd, fun u hu => rLdRd (f := dav) (x := ⟨.slice (some ⟨bx, ofx, none⟩) d.length cd, d⟩) (u := .slice (some ⟨bx, ofx, none⟩) d.length cd) (HD.out _ [_, _, _] hu) (dav_len ds) _ _ (by rfl) _ (by rfl) (agOf (by rfl)) j 0 (by omega) HX.out (by rfl) (by omega), ?_⟩
                                                        | refine ⟨.int .i64 (a : Int), fun u hu => rLdRd (f := ev2) (x := ⟨en, (a : Int)⟩) (u := .int .i64 (a : Int)) (HXD.out _ [_, _, _] hu) (ev2_len d) _ _ (by rfl) _ (by rfl) (agOf (by rfl)) m 1 (by omega) HXM.out (by rfl) (by omega), ?_⟩
                                                        | refine ⟨_, yLd _ _ (by rfl) _ _ (by rfl) (agOf (by rfl)) Has.z (HKA.out _ _ _ (by omega)), ?_⟩); (simp only [Act.put, List.setIfInBounds_toArray, List.set_cons_zero, List.set_cons_succ]))
                  (refine regP 13 hS (fun _ h => h) rfl (by kernel_rfl) (by kernel_rfl) (by kernel_rfl) (fun _ _ _ _ h => h) (by rfl) (by rfl) ?_; apply Exists.intro; apply And.intro; (intro w; go_simp; try with_reducible rfl); (simp only [Act.put, List.setIfInBounds_toArray, List.set_cons_zero, List.set_cons_succ]))
                  refine regDone (by kernel_rfl) ?_
                  go_wp2
                  go_ret
                  exact ⟨_, rfl, .inr ⟨rfl, HN.out, hS.drop.drop.drop⟩⟩
                · have HKE2 := Lib.hid (show ∀ e ∈ d.take (m + 1), KF e.ino.toNat ≠ 0 from fun e he => by
                    rw [List.take_add_one, hx] at he
                    rcases List.mem_append.1 he with h | h
                    · exact HKE.out e h
                    · rw [show e = ⟨en, (a : Int)⟩ by simpa using h]
                      show KF ((a : Int)).toNat ≠ 0
                      rw [Int.toNat_natCast, hka]; exact h0)
                  have g1 : (ka == 0) = false := beq_eq_false_iff_ne.2 h0
                  clear hx hlt hm h1 h2 hka h0
                  go_wp2_with (first
                    | (refine toList (by rfl) ?_; refine wp_of_reads (rLdRd (f := dav) (x := ⟨_, d⟩) (HD.out _ [_, _, _] hS) (dav_len ds) _ _ (by rfl) _ (by rfl) (agOf (by rfl)) j 0 (by omega) HX.out (by rfl) (by omega)) ?_)
                    | (go_at_call 57; refine (HCH.out _ [_, _, _] hS).mono ?_; rintro r w1 ⟨rfl, hS1⟩; clear hS; have hS := (show Sat W w1 (Cs p _ _ :: rws _ _ :: Ir _ _ :: L) from hS1); clear hS1)
                    | (refine toList (by rfl) ?_; refine ld hS _ _ (by rfl) _ _ (by rfl) (agOf (by rfl)) Has.z (HKJ.out _ _ _ (by omega)) ?_))
                  refine regStart [] hS (by kernel_rfl) rfl ?_
                  intro w1 hS1
                  clear hS; have hS := hS1; clear hS1
                  (refine regP 0 hS (fun _ h => h) rfl (by kernel_rfl) (by kernel_rfl) (by kernel_rfl) (fun _ _ _ _ h => h) (by rfl) (by rfl) ?_; apply Exists.intro; apply And.intro; (intro w; go_simp; try with_reducible rfl); (simp only [Act.put, List.setIfInBounds_toArray, List.set_cons_zero, List.set_cons_succ]))
                  (refine regP 1 hS (fun _ h => h) rfl (by kernel_rfl) (by kernel_rfl) (by kernel_rfl) (fun _ _ _ _ h => h) (by rfl) (by rfl) ?_; apply Exists.intro; apply And.intro; (intro w; go_simp; try with_reducible rfl); (simp only [Act.put, List.setIfInBounds_toArray, List.set_cons_zero, List.set_cons_succ]))
                  (refine regP 2 hS (fun _ h => h) rfl (by kernel_rfl) (by kernel_rfl) (by kernel_rfl) (fun _ _ _ _ h => h) (by rfl) (by rfl) ?_; apply Exists.intro; apply And.intro; (intro w; go_simp; try with_reducible rfl); (simp only [Act.put, List.setIfInBounds_toArray, List.set_cons_zero, List.set_cons_succ]))
                  (refine regP 3 hS (fun _ h => h) rfl (by kernel_rfl) (by kernel_rfl) (by kernel_rfl) (fun _ _ _ _ h => h) (by rfl) (by rfl) ?_; apply Exists.intro; apply And.intro; (intro w; go_simp; try with_reducible rfl); (simp only [Act.put, List.setIfInBounds_toArray, List.set_cons_zero, List.set_cons_succ]))
                  (refine regR 4 hS (fun _ h => h) rfl (by kernel_rfl) (by kernel_rfl) (by kernel_rfl) (by kernel_rfl) (by kernel_rfl) (fun _ _ _ _ h => h) (by rfl) (by rfl) ?_; (first
                                                        | refine ⟨.slice aod d.length cd, fun u hu => rLdRd (f := dav) (x := ⟨.slice aod d.length cd, d⟩) (u := .slice aod d.length cd) (HD.out _ [_, _, _] hu) (dav_len ds) _ _ (by rfl) _ (by rfl) (agOf (by rfl)) j 0 (by omega) HX.out (by rfl) (by omega), ?_⟩
                                                        | refine ⟨.slice (some ⟨bx, ofx, none⟩) d.length cd, fun u hu => rLdRd (f := dav) (x := ⟨.slice (some ⟨bx, ofx, none⟩) d.length cd, d⟩) (u := .slice (some ⟨bx, ofx, none⟩) d.length cd) (HD.out _ [_, _, _] hu) (dav_len ds) _ _ (by rfl) _ (by rfl) (agOf (by rfl)) j 0 (by omega) HX.out (by rfl) (by omega), ?_⟩
                                                        | refine ⟨.int .i64 (a : Int), fun u hu => rLdRd (f := ev2) (x := ⟨en, (a : Int)⟩) (u := .int .i64 (a : Int)) (HXD.out _ [_, _, _] hu) (ev2_len d) _ _ (by rfl) _ (by rfl) (agOf (by rfl)) m 1 (by omega) HXM.out (by rfl) (by omega), ?_⟩
                                                        | refine ⟨_, yLd _ _ (by rfl) _ _ (by rfl) (agOf (by rfl)) Has.z (HKA.out _ _ _ (by omega)), ?_⟩); (simp only [Act.put, List.setIfInBounds_toArray, List.set_cons_zero, List.set_cons_succ]))
                  (refine regP 5 hS (fun _ h => h) rfl (by kernel_rfl) (by kernel_rfl) (by kernel_rfl) (fun _ _ _ _ h => h) (by rfl) (by rfl) ?_; apply Exists.intro; apply And.intro; (intro w; go_simp; try with_reducible rfl); (simp only [Act.put, List.setIfInBounds_toArray, List.set_cons_zero, List.set_cons_succ]))
                  (refine regP 6 hS (fun _ h => h) rfl (by kernel_rfl) (by kernel_rfl) (by kernel_rfl) (fun _ _ _ _ h => h) (by rfl) (by rfl) ?_; apply Exists.intro; apply And.intro; (intro w; go_simp; try with_reducible rfl); (simp only [Act.put, List.setIfInBounds_toArray, List.set_cons_zero, List.set_cons_succ]))
                  (refine regP 7 hS (fun _ h => h) rfl (by kernel_rfl) (by kernel_rfl) (by kernel_rfl) (fun _ _ _ _ h => h) (by rfl) (by rfl) ?_; apply Exists.intro; apply And.intro; (intro w; go_simp; try with_reducible rfl); (simp only [Act.put, List.setIfInBounds_toArray, List.set_cons_zero, List.set_cons_succ]))
                  (refine regR 8 hS (fun _ h => h) rfl (by kernel_rfl) (by kernel_rfl) (by kernel_rfl) (by kernel_rfl) (by kernel_rfl) (fun _ _ _ _ h => h) (by rfl) (by rfl) ?_; (first
                                                        | refine ⟨.slice aod d.length cd, fun u hu => rLdRd (f := dav) (x := ⟨.slice aod d.length cd, d⟩) (u := .slice aod d.length cd) (HD.out _ [_, _, _] hu) (dav_len ds) _ _ (by rfl) _ (by rfl) (agOf (by rfl)) j 0 (by omega) HX.out (by rfl) (by omega), ?_⟩
                                                        | refine ⟨.slice (some ⟨bx, ofx, none⟩) d.length cd, fun u hu => rLdRd (f := dav) (x := ⟨.slice (some ⟨bx, ofx, none⟩) d.length cd, d⟩) (u := .slice (some ⟨bx, ofx, none⟩) d.length cd) (HD.out _ [_, _, _] hu) (dav_len ds) _ _ (by rfl) _ (by rfl) (agOf (by rfl)) j 0 (by omega) HX.out (by rfl) (by omega), ?_⟩
                                                        | refine ⟨.int .i64 (a : Int), fun u hu => rLdRd (f := ev2) (x := ⟨en, (a : Int)⟩) (u := .int .i64 (a : Int)) (HXD.out _ [_, _, _] hu) (ev2_len d) _ _ (by rfl) _ (by rfl) (agOf (by rfl)) m 1 (by omega) HXM.out (by rfl) (by omega), ?_⟩
                                                        | refine ⟨_, yLd _ _ (by rfl) _ _ (by rfl) (agOf (by rfl)) Has.z (HKA.out _ _ _ (by omega)), ?_⟩); (simp only [Act.put, List.setIfInBounds_toArray, List.set_cons_zero, List.set_cons_succ]))
                  (refine regP 9 hS (fun _ h => h) rfl (by kernel_rfl) (by kernel_rfl) (by kernel_rfl) (fun _ _ _ _ h => h) (by rfl) (by rfl) ?_; apply Exists.intro; apply And.intro; (intro w; go_simp; try with_reducible rfl); (simp only [Act.put, List.setIfInBounds_toArray, List.set_cons_zero, List.set_cons_succ]))
                  (refine regP 10 hS (fun _ h => h) rfl (by kernel_rfl) (by kernel_rfl) (by kernel_rfl) (fun _ _ _ _ h => h) (by rfl) (by rfl) ?_; apply Exists.intro; apply And.intro; (intro w; go_simp; try with_reducible rfl); (simp only [Act.put, List.setIfInBounds_toArray, List.set_cons_zero, List.set_cons_succ]))
                  (refine regP 11 hS (fun _ h => h) rfl (by kernel_rfl) (by kernel_rfl) (by kernel_rfl) (fun _ _ _ _ h => h) (by rfl) (by rfl) ?_; apply Exists.intro; apply And.intro; (intro w; go_simp; try with_reducible rfl); (simp only [Act.put, List.setIfInBounds_toArray, List.set_cons_zero, List.set_cons_succ]))
                  (refine regR 12 hS (fun _ h => h) rfl (by kernel_rfl) (by kernel_rfl) (by kernel_rfl) (by kernel_rfl) (by kernel_rfl) (fun _ _ _ _ h => h) (by rfl) (by rfl) ?_; (first
                                                        | refine ⟨.slice aod d.length cd, fun u hu => rLdRd (f := dav) (x := ⟨.slice aod d.length cd, d⟩) (u := .slice aod d.length cd) (HD.out _ [_, _, _] hu) (dav_len ds) _ _ (by rfl) _ (by rfl) (agOf (by rfl)) j 0 (by omega) HX.out (by rfl) (by omega), ?_⟩
                                                        | refine ⟨.slice (some ⟨bx, ofx, none⟩) d.length cd, fun u hu => rLdRd (f := dav) (x := ⟨.slice (some ⟨bx, ofx, none⟩) d.length cd, d⟩) (u := .slice (some ⟨bx, ofx, none⟩) d.length cd) (HD.out _ [_, _, _] hu) (dav_len ds) _ _ (by rfl) _ (by rfl) (agOf (by rfl)) j 0 (by omega) HX.out (by rfl) (by omega), ?_⟩
                                                        | refine ⟨.int .i64 (a : Int), fun u hu => rLdRd (f := ev2) (x := ⟨en, (a : Int)⟩) (u := .int .i64 (a : Int)) (HXD.out _ [_, _, _] hu) (ev2_len d) _ _ (by rfl) _ (by rfl) (agOf (by rfl)) m 1 (by omega) HXM.out (by rfl) (by omega), ?_⟩
                                                        | refine ⟨_, yLd _ _ (by rfl) _ _ (by rfl) (agOf (by rfl)) Has.z (HKA.out _ _ _ (by omega)), ?_⟩); (simp only [Act.put, List.setIfInBounds_toArray, List.set_cons_zero, List.set_cons_succ]))
                  (refine regP 13 hS (fun _ h => h) rfl (by kernel_rfl) (by kernel_rfl) (by kernel_rfl) (fun _ _ _ _ h => h) (by rfl) (by rfl) ?_; apply Exists.intro; apply And.intro; (intro w; go_simp; try with_reducible rfl); (simp only [Act.put, List.setIfInBounds_toArray, List.set_cons_zero, List.set_cons_succ]))
                  refine regDone (by kernel_rfl) ?_
                  go_wp2
                  exact ⟨⟨m + 1, by go_num, HLT2.out, HKE2.out, hS⟩, by simp [intOf]; have := HLT2.out; omega⟩
              · obtain rfl : m = d.length := by omega
                have HKA := Lib.hid (show ∀ e ∈ d, KF e.ino.toNat ≠ 0 by have := HKE.out; rwa [List.take_length] at this)
                have p1 : ¬ (d.length : Int) < (d.length : Int) := by omega
                clear hlt hm HKE
                have HCK2 := Lib.hid (show ∀ d ∈ (ds.map DArg.l).take (j + 1), ChkD d ∧ ∀ e ∈ d, KF e.ino.toNat ≠ 0 from fun e he => by
                  rw [HTK.out] at he
                  rcases List.mem_append.1 he with h | h
                  · exact HCK.out e h
                  · rw [show e = d by simpa using h]; exact ⟨HC.out, HKA.out⟩)
                go_wp2_with (first
                  | (refine toList (by rfl) ?_; refine wp_of_reads (rLdRd (f := dav) (x := ⟨_, d⟩) (HD.out _ [_, _, _] hS) (dav_len ds) _ _ (by rfl) _ (by rfl) (agOf (by rfl)) j 0 (by omega) HX.out (by rfl) (by omega)) ?_)
                  | (go_at_call 57; refine (HCH.out _ [_, _, _] hS).mono ?_; rintro r w1 ⟨rfl, hS1⟩; clear hS; have hS := (show Sat W w1 (Cs p _ _ :: rws _ _ :: Ir _ _ :: L) from hS1); clear hS1)
                  | (refine toList (by rfl) ?_; refine ld hS _ _ (by rfl) _ _ (by rfl) (agOf (by rfl)) Has.z (HKJ.out _ _ _ (by omega)) ?_))
                refine regStart [6, 10] hS (by kernel_rfl) rfl ?_
                intro w1 hS1
                clear hS; have hS := hS1; clear hS1
                (refine regP 0 hS (fun _ h => h) rfl (by kernel_rfl) (by kernel_rfl) (by kernel_rfl) (fun _ _ _ _ h => h) (by rfl) (by rfl) ?_; apply Exists.intro; apply And.intro; (intro w; go_simp; try with_reducible rfl); (simp only [Act.put, List.setIfInBounds_toArray, List.set_cons_zero, List.set_cons_succ]))
                (refine regP 1 hS (fun _ h => h) rfl (by kernel_rfl) (by kernel_rfl) (by kernel_rfl) (fun _ _ _ _ h => h) (by rfl) (by rfl) ?_; apply Exists.intro; apply And.intro; (intro w; go_simp; try with_reducible rfl); (simp only [Act.put, List.setIfInBounds_toArray, List.set_cons_zero, List.set_cons_succ]))
                (refine regP 2 hS (fun _ h => h) rfl (by kernel_rfl) (by kernel_rfl) (by kernel_rfl) (fun _ _ _ _ h => h) (by rfl) (by rfl) ?_; apply Exists.intro; apply And.intro; (intro w; go_simp; try with_reducible rfl); (simp only [Act.put, List.setIfInBounds_toArray, List.set_cons_zero, List.set_cons_succ]))
                (refine regP 3 hS (fun _ h => h) rfl (by kernel_rfl) (by kernel_rfl) (by kernel_rfl) (fun _ _ _ _ h => h) (by rfl) (by rfl) ?_; apply Exists.intro; apply And.intro; (intro w; go_simp; try with_reducible rfl); (simp only [Act.put, List.setIfInBounds_toArray, List.set_cons_zero, List.set_cons_succ]))
                (refine regP 4 hS (fun _ h => h) rfl (by kernel_rfl) (by kernel_rfl) (by kernel_rfl) (fun _ _ _ _ h => h) (by rfl) (by rfl) ?_; apply Exists.intro; apply And.intro; (intro w; go_simp; try with_reducible rfl); (simp only [Act.put, List.setIfInBounds_toArray, List.set_cons_zero, List.set_cons_succ]))
                (refine regR 5 hS (fun _ h => h) rfl (by kernel_rfl) (by kernel_rfl) (by kernel_rfl) (by kernel_rfl) (by kernel_rfl) (fun _ _ _ _ h => h) (by rfl) (by rfl) ?_; (refine ⟨.slice aod d.length cd, fun u hu => rLdRd (f := dav) (x := ⟨.slice aod d.length cd, d⟩) (u := .slice aod d.length cd) (HD.out _ [_, _, _] hu) (dav_len ds) _ _ (by rfl) _ (by rfl) (agOf (by rfl)) j 0 (by omega) HX.out (by rfl) (by omega), ?_⟩); (simp only [Act.put, List.setIfInBounds_toArray, List.set_cons_zero, List.set_cons_succ]))
                (refine regP 7 hS (fun _ h => h) rfl (by kernel_rfl) (by kernel_rfl) (by kernel_rfl) (fun _ _ _ _ h => h) (by rfl) (by rfl) ?_; apply Exists.intro; apply And.intro; (intro w; go_simp; try with_reducible rfl); (simp only [Act.put, List.setIfInBounds_toArray, List.set_cons_zero, List.set_cons_succ]))
                (refine regP 8 hS (fun _ h => h) rfl (by kernel_rfl) (by kernel_rfl) (by kernel_rfl) (fun _ _ _ _ h => h) (by rfl) (by rfl) ?_; apply Exists.intro; apply And.intro; (intro w; go_simp; try with_reducible rfl); (simp only [Act.put, List.setIfInBounds_toArray, List.set_cons_zero, List.set_cons_succ]))
                (refine regA 6 rfl (by kernel_rfl) (by rfl) (by rfl) true (by kernel_rfl) (fun K hK => ?_); (first
                                                  | (refine apTb (f := ev2) (xs := []) (hS.tbNil (E := 59) (sz := 2)) _ _ _ _ (by rfl) _ _ (by rfl) (by rfl) (elOf (by rfl)) (by rfl) (by decide) (inOf (by rfl)) Has.z d (ev2_len _) (by exact .inl (HXD.out _ [_, _, _] hS)) (ev2_one _) (by simp; omega) (by simp; omega) ?_; intro v' w1 hS1; clear hS; have hS := hS1; clear hS1; dsimp only [List.set_cons_zero, List.nil_append] at hS; obtain ⟨aoe, ce, rfl, _⟩ := Sat.tbShape (k := 0) (show Sat _ _ (Tb 59 2 ev2 v' d :: _) from hS) rfl; replace hS := hS.pull1)
                                                  | (refine st hS _ _ _ (by rfl) _ _ (by rfl) _ (by first | exact evC | exact evT (by rfl)) (by rfl) (szOf (by rfl)) Has.z (by rw [wl_len]; omega) ?_; intro w1 hS1; clear hS; have hS := hS1; clear hS1; simp only [List.set_cons_zero] at hS; rw [HTV.out _ _ _ _ _ (by omega)] at hS)); refine hK _ _ _ hS (by first | (intro h; cases h; done) | exact fun _ _ h => h | exact fun _ _ h => h.drop | exact fun _ _ h => h.drop.drop | exact fun _ _ h => h.drop.pull1 | exact fun _ _ h => h.take2 | exact fun _ _ h => h.one Has.z | exact fun _ _ h => h.one (Has.s Has.z) | exact fun _ _ h => h.one (Has.s (Has.s Has.z))) ?_; clear hK K; (simp only [Act.put, List.setIfInBounds_toArray, List.set_cons_zero, List.set_cons_succ]))
                (refine regP 9 hS (fun _ h => h) rfl (by kernel_rfl) (by kernel_rfl) (by kernel_rfl) (fun _ _ _ _ h => h) (by rfl) (by rfl) ?_; apply Exists.intro; apply And.intro; (intro w; go_simp; try with_reducible rfl); (simp only [Act.put, List.setIfInBounds_toArray, List.set_cons_zero, List.set_cons_succ]))
                (refine regA 10 rfl (by kernel_rfl) (by rfl) (by rfl) true (by kernel_rfl) (fun K hK => ?_); (first
                                                  | (refine apTb (f := ev2) (xs := []) (hS.tbNil (E := 59) (sz := 2)) _ _ _ _ (by rfl) _ _ (by rfl) (by rfl) (elOf (by rfl)) (by rfl) (by decide) (inOf (by rfl)) Has.z d (ev2_len _) (by exact .inl (HXD.out _ [_, _, _] hS)) (ev2_one _) (by simp; omega) (by simp; omega) ?_; intro v' w1 hS1; clear hS; have hS := hS1; clear hS1; dsimp only [List.set_cons_zero, List.nil_append] at hS; obtain ⟨aoe, ce, rfl, _⟩ := Sat.tbShape (k := 0) (show Sat _ _ (Tb 59 2 ev2 v' d :: _) from hS) rfl; replace hS := hS.pull1)
                                                  | (refine st hS _ _ _ (by rfl) _ _ (by rfl) _ (by first | exact evC | exact evT (by rfl)) (by rfl) (szOf (by rfl)) Has.z (by rw [wl_len]; omega) ?_; intro w1 hS1; clear hS; have hS := hS1; clear hS1; simp only [List.set_cons_zero] at hS; rw [HTV.out _ _ _ _ _ (by omega)] at hS)); refine hK _ _ _ hS (by first | (intro h; cases h; done) | exact fun _ _ h => h | exact fun _ _ h => h.drop | exact fun _ _ h => h.drop.drop | exact fun _ _ h => h.drop.pull1 | exact fun _ _ h => h.take2 | exact fun _ _ h => h.one Has.z | exact fun _ _ h => h.one (Has.s Has.z) | exact fun _ _ h => h.one (Has.s (Has.s Has.z))) ?_; clear hK K; (simp only [Act.put, List.setIfInBounds_toArray, List.set_cons_zero, List.set_cons_succ]))
                refine regDone (by kernel_rfl) ?_
                replace hS := (rws_put (show Sat W _ (Er (.slice aoe d.length ce) d :: rws v (dfi (ds.map DArg.l) j) :: _) from hS.re [1, 2]) HJ48.out).pull1
                rw [HDS.out] at hS
                go_wp2
                exact ⟨⟨j + 1, _, by go_num, HLT.out, HCK2.out, HND2.out, hS⟩, by simp [intOf]; have := HLT.out; omega⟩
        · obtain rfl : j = ds.length := by omega
          have hl : (ds.map DArg.l).take ds.length = ds.map DArg.l := List.take_of_length_le (by rw [List.length_map]; exact Nat.le_refl _)
          have hck := HCK.out
          have hnd := HND.out
          rw [hl] at hck
          have hdfi : dfi (ds.map DArg.l) ds.length = fun j => ((ds.map DArg.l)[j]?).getD [] := by have := HDE.out; rwa [List.length_map] at this
          rw [hdfi] at hS
          have hok := TrD.pad_ok H48.out.1 (by rw [List.length_map]; exact H48.out.2) HK0.out HKB.out fun d hd => (hck d hd).1
          have HRI := Lib.hid (TrD.right_iff (ks := ks) (ds := ds.map DArg.l) HK0.out fun d hd => (hck d hd).1)
          have HYES := Lib.hid (fun (h : TrD.Right (TrD.padT ks (ds.map DArg.l))) => show TrD.LoadOk ks (ds.map DArg.l) from
            { k48 := H48.out.1
              d48 := by rw [List.length_map]; exact H48.out.2
              k0 := HK0.out
              kk := HKB.out
              chk := fun d hd => (hck d hd).1
              nd := fun i d hd hne => by
                have hi := (List.getElem?_eq_some_iff.1 hd).1
                rw [List.length_map] at hi
                have := hnd i d hi hd hne
                rw [← HKF.out] at this; exact this
              right := h })
          have hentk : ∀ d ∈ ds.map DArg.l, ∀ e ∈ d, (ks[e.ino.toNat]?).getD 0 ≠ 0 := fun d hd e he => by
            have := (hck d hd).2 e he
            rw [← HKF.out] at this; exact this
          have HENT := Lib.hid hentk
          have hkF : (TrD.padT ks (ds.map DArg.l)).kind = KF := by rw [pad_kindF, HKF.out]
          have hdF := pad_dirF ks (ds.map DArg.l)
          have hlF := fun i => TrD.pad_links ks (ds.map DArg.l) i
          obtain ⟨T, hPT⟩ : ∃ T, TrD.padT ks (ds.map DArg.l) = T := ⟨_, rfl⟩
          obtain ⟨DF, hDF⟩ : ∃ DF : Nat → List EntD, (fun j => ((ds.map DArg.l)[j]?).getD []) = DF := ⟨_, rfl⟩
          have hlast : T.last = [] := by rw [← hPT]; rfl
          rw [hPT] at hok HRI HYES hkF hdF hlF
          rw [hDF] at hS hdF
          rw [hdF] at HRI
          have hEB := hok.entB
          rw [hdF] at hEB
          have HEB := Lib.hid hEB
          have HOKT := Lib.hid hok
          have HPT := Lib.hid hPT
          have HKT := Lib.hid hkF
          have HLT := Lib.hid hlF
          have HMK := Lib.hid (fun w (v : Nat → Value) (L' : List Asrt) (h : Sat W w (Cs p 79 (wl KF v (.slice none 0 0)) :: rws v DF :: Ir (.slice none 0 0) [] :: L')) => show Sat W w (IsW p T :: L') from IsW.mk (v := v) (vt := .slice none 0 0) (by rw [hkF, hdF, hlast]; exact h))
          have HOP := Lib.hid (fun w (L' : List Asrt) (h : Sat W w (IsW p T :: L')) => show ∃ v vt, Sat W w (Cs p 79 (wl KF v vt) :: rws v T.dir :: Ir vt T.last :: L') from by have := IsW.open h; rw [hkF] at this; exact this)
          have HDL := Lib.hid (fun i (hi : i < 48) => show (DF i).length ≤ 64 by rw [← hdF]; exact hok.len _ (hok.dir_mem hi))
          have HINO := Lib.hid (fun (i j : Nat) (hi : i < 48) (e : EntD) (hx : (DF i)[j]? = some e) => show ∃ a : Nat, e.ino = (a : Int) ∧ 1 ≤ a ∧ a < 48 from inoN hok hi (by rw [hdF]; exact hx))
          have p1 : ¬ (ds.length : Int) < (ds.length : Int) := by omega
          have HB0 := Lib.hid (bl_set (fun _ => false) (c := 0) (by decide))
          clear hl hck hnd hdfi hok hentk hkF hdF hlF hPT hDF hlast hEB hlt hj HDE HCK HND
          go_wp2_with (first
            | (refine toList (by rfl) ?_; refine al hS _ (by rfl) (zrOf (by rfl)) ?_; intro bs w1 hS1; clear hS; have hS := (show Sat W w1 (Cs bs 88 (bl fun _ => false) :: _) from hS1); clear hS1)
            | (refine toList (by rfl) ?_; refine st hS _ _ _ (by rfl) _ _ (by rfl) _ (by first | exact evC | exact evT (by rfl)) (by rfl) (szOf (by rfl)) Has.z (by rw [bl_len]; decide) ?_; intro w1 hS1; clear hS; have hS := hS1; clear hS1; simp only [List.set_cons_zero] at hS; rw [HB0.out] at hS))
          have H0 := Lib.hid hS
          go_loopw [10] (fun v10 wz => ∃ (r : Nat) (S : Nat → Bool), v10 = .int .i64 r ∧ r ≤ 48 ∧ RI DF r S ∧ Sat W wz (Cs bs 88 (bl S) :: Cs p 79 (wl KF v (.slice none 0 0)) :: rws v DF :: Ir (.slice none 0 0) [] :: L)) (fun v10 _ => 48 - (intOf v10).toNat)
          case atStart => exact ⟨0, _, rfl, by omega, RI.start _, H0.out⟩
          case round =>
            clear hS H0
            obtain ⟨r, S0, rfl, hr, hRI, hS⟩ := hrel
            have HRI0 := Lib.hid hRI
            clear hRI
            by_cases hlt : r < 48
            · have q1 : (r : Int) < 48 := by omega
              have HR48 := Lib.hid hlt
              clear hlt hr
              go_wp2
              have H0 := Lib.hid hS
              go_loopw [11] (fun v11 wz => ∃ (i : Nat) (S : Nat → Bool), v11 = .int .i64 i ∧ i ≤ 48 ∧ RM DF S0 S i [] ∧ Sat W wz (Cs bs 88 (bl S) :: Cs p 79 (wl KF v (.slice none 0 0)) :: rws v DF :: Ir (.slice none 0 0) [] :: L)) (fun v11 _ => 48 - (intOf v11).toNat)
              case atStart => exact ⟨0, _, rfl, by omega, HRI0.out.mid, H0.out⟩
              case round =>
                clear hS H0
                obtain ⟨i, S1, rfl, hi, hRM, hS⟩ := hrel
                have HRM1 := Lib.hid hRM
                clear hRM
                by_cases hlt : i < 48
                · have q2 : (i : Int) < 48 := by omega
                  have HI48 := Lib.hid hlt
                  have hdl := HDL.out i hlt
                  have q3 : ((DF i).length : Int) ≤ 64 := by omega
                  obtain ⟨aoi, ci, hvi, hci⟩ := rws_shape hS (k := 2) rfl hlt
                  have HVI := Lib.hid (show ∀ (a : Nat), a = 48 + i → (wl KF v (.slice none 0 0))[a]? = some (.slice aoi (DF i).length ci) from fun a ha => by rw [← hvi]; exact wl_v hlt ha)
                  have HROW := Lib.hid (fun w L' (h : Sat W w (rws v DF :: L')) => show Rd w (.slice aoi (DF i).length ci) (DF i).length 2 ((DF i).flatMap ev2) by rw [← hvi]; exact rws_rd h (k := 0) rfl hlt)
                  have HINI := Lib.hid (fun (j : Nat) (e : EntD) (hx : (DF i)[j]? = some e) => HINO.out i j hlt e hx)
                  have HDM := Lib.hid (fun (j : Nat) (e : EntD) (hx : (DF i)[j]? = some e) => List.mem_of_getElem? hx)
                  clear hlt hi hvi hdl
                  go_wp2
                  have H0 := Lib.hid hS
                  go_loopw [12] (fun v12 wz => ∃ (k : Nat) (S : Nat → Bool), v12 = .int .i64 k ∧ k ≤ (DF i).length ∧ (k = 0 ∨ S i = true) ∧ RM DF S0 S i ((DF i).take k) ∧ Sat W wz (Cs bs 88 (bl S) :: Cs p 79 (wl KF v (.slice none 0 0)) :: rws v DF :: Ir (.slice none 0 0) [] :: L)) (fun v12 _ => (DF i).length - (intOf v12).toNat)
                  case atStart => exact ⟨0, _, rfl, by omega, .inl rfl, HRM1.out, H0.out⟩
                  case round =>
                    clear hS H0
                    obtain ⟨k, S, rfl, hk, hks, hRM, hS⟩ := hrel
                    have HRM := Lib.hid hRM
                    have HBA := Lib.hid (bl_at S HI48.out)
                    obtain ⟨sx, hsx⟩ : ∃ b, S i = b := ⟨_, rfl⟩
                    rw [hsx] at HBA hks
                    have HSX := Lib.hid hsx
                    clear hRM
                    cases sx with
                    | false =>
                      obtain rfl : k = 0 := by
                        rcases hks with h | h
                        · exact h
                        · cases h
                      have HP := Lib.hid (show RM DF S0 S (i + 1) [] from HRM.out.pass hsx)
                      have HI := HI48
                      clear hk hks hsx
                      go_wp2_with (first
                        | (refine toList (by rfl) ?_; refine ld hS _ _ (by rfl) _ _ (by rfl) (agOf (by rfl)) Has.z HBA.out ?_))
                      exact ⟨⟨i + 1, S, by go_num, HI.out, HP.out, hS⟩, by simp [intOf]; have := HI.out; omega⟩
                    | true =>
                      by_cases hlt : k < (DF i).length
                      · obtain ⟨⟨en, ei⟩, hx⟩ : ∃ e, (DF i)[k]? = some e := ⟨_, List.getElem?_eq_getElem hlt⟩
                        obtain ⟨a, ha, h1, h2⟩ := HINI.out k _ hx
                        dsimp only at ha
                        subst ha
                        have HXK := Lib.hid hx
                        have HNX := Lib.hid (show RM DF S0 (upd S a true) i ((DF i).take (k + 1)) by
                          have := HRM.out.ent hsx (HDM.out k _ hx)
                          rw [List.take_add_one, hx]
                          exact this)
                        have HSI := Lib.hid (show upd S a true i = true by
                          by_cases h : i = a
                          · subst h; exact upd_at ..
                          · rw [upd_no _ _ h]; exact hsx)
                        have HBS := Lib.hid (bl_set S h2)
                        have HBL := Lib.hid (show a < (bl S).length by rw [bl_len]; exact h2)
                        obtain ⟨bx, ofx, rfl⟩ : ∃ bx ofx, aoi = some ⟨bx, ofx, none⟩ := by
                          obtain ⟨_, _, he, h1, h2, h3, h5⟩ := HROW.out _ _ (hS.re [2])
                          obtain ⟨b', o', h6, _⟩ := h5 (by omega)
                          simp only [Value.slice.injEq] at he
                          exact ⟨b', o', by rw [he.1, h6]⟩
                        have q4 : (k : Int) < ((DF i).length : Int) := by omega
                        have q5 : (a : Int) < 48 := by omega
                        have HLK := Lib.hid hlt
                        clear hx hlt hk hks hsx h1 h2
                        go_wp2_with (first
                          | (refine toList (by rfl) ?_; refine ld hS _ _ (by rfl) _ _ (by rfl) (agOf (by rfl)) Has.z HBA.out ?_)
                          | (refine toList (by rfl) ?_; refine ld hS _ _ (by rfl) _ _ (by rfl) (agOf (by rfl)) (Has.s Has.z) (HVI.out _ (by omega)) ?_)
                          | (refine toList (by rfl) ?_; refine wp_of_reads (rLdRd (f := ev2) (x := ⟨en, (a : Int)⟩) (u := .int .i64 (a : Int)) (HROW.out _ _ (hS.re [2])) (ev2_len _) _ _ (by rfl) _ (by rfl) (agOf (by rfl)) k 1 (by omega) HXK.out (by rfl) (by omega)) ?_)
                          | (refine toList (by rfl) ?_; refine st hS _ _ _ (by rfl) _ _ (by rfl) _ (by first | exact evC | exact evT (by rfl)) (by rfl) (szOf (by rfl)) Has.z HBL.out ?_; intro w1 hS1; clear hS; have hS := hS1; clear hS1; simp only [List.set_cons_zero] at hS; rw [HBS.out] at hS))
                        exact ⟨⟨k + 1, _, by go_num, HLK.out, .inr HSI.out, HNX.out, hS⟩, by simp [intOf]; have := HLK.out; omega⟩
                      · obtain rfl : k = (DF i).length := by omega
                        have HP := Lib.hid (show RM DF S0 S (i + 1) [] by have := HRM.out; rw [List.take_length] at this; exact this.all)
                        have q4 : ¬ ((DF i).length : Int) < ((DF i).length : Int) := by omega
                        have HI := HI48
                        clear hlt hk hks hsx
                        go_wp2_with (first
                          | (refine toList (by rfl) ?_; refine ld hS _ _ (by rfl) _ _ (by rfl) (agOf (by rfl)) Has.z HBA.out ?_)
                          | (refine toList (by rfl) ?_; refine ld hS _ _ (by rfl) _ _ (by rfl) (agOf (by rfl)) (Has.s Has.z) (HVI.out _ (by omega)) ?_))
                        exact ⟨⟨i + 1, S, by go_num, HI.out, HP.out, hS⟩, by simp [intOf]; have := HI.out; omega⟩
                · obtain rfl : i = 48 := by omega
                  have HN := Lib.hid (HRI0.out.next HEB.out HRM1.out)
                  have HI := HR48
                  clear hlt hi
                  go_wp2
                  exact ⟨⟨r + 1, S1, by go_num, HI.out, HN.out, hS⟩, by simp [intOf]; have := HI.out; omega⟩
            · obtain rfl : r = 48 := by omega
              have HDN := Lib.hid (fun i => HRI0.out.done i)
              replace hS := HMK.out _ _ _ (hS.re [1, 2, 3, 0])
              clear hlt hr HRI0
              go_wp2
              have H0 := Lib.hid hS
              go_loopw [13] (fun v13 wz => ∃ (i : Nat), v13 = .int .i64 i ∧ 1 ≤ i ∧ i ≤ 48 ∧ (∀ j, 1 ≤ j → j < i → KF j = 2 → T.links j = 1 ∧ S0 j = true) ∧ Sat W wz (IsW p T :: Cs bs 88 (bl S0) :: L)) (fun v13 _ => 48 - (intOf v13).toNat)
              case atStart => exact ⟨1, rfl, by omega, by omega, (fun j h1 h2 => by omega), H0.out⟩
              case round =>
                clear hS H0
                obtain ⟨i, rfl, hi1, hi, hgd, hS⟩ := hrel
                have HGD := Lib.hid hgd
                clear hgd
                by_cases hlt : i < 48
                · obtain ⟨v', vt', hO⟩ := HOP.out _ _ hS
                  clear hS
                  have hS := hO
                  clear hO
                  have q2 : (i : Int) < 48 := by omega
                  obtain ⟨kk, hkk⟩ : ∃ kk, KF i = kk := ⟨_, rfl⟩
                  obtain ⟨nn, hnn⟩ : ∃ nn, T.links i = nn := ⟨_, rfl⟩
                  obtain ⟨sx, hsx⟩ : ∃ sx, S0 i = sx := ⟨_, rfl⟩
                  have HKI := Lib.hid (show ∀ (v : Nat → Value) (vt : Value) (a : Nat), a = i → (wl KF v vt)[a]? = some (.int .i64 kk) from fun v vt a ha => by rw [← hkk]; exact wl_k hlt ha)
                  have HLN := Lib.hid (fun w L' (h : Sat W w (IsW p T :: L')) => by have := rlinks_any h HOKT.out i hlt; rw [hnn] at this; exact this)
                  have HBA := Lib.hid (bl_at S0 hlt)
                  rw [hsx] at HBA
                  have HMK2 := Lib.hid (fun w (v : Nat → Value) vt (L' : List Asrt) (h : Sat W w (Cs p 79 (wl KF v vt) :: rws v T.dir :: Ir vt T.last :: L')) => show Sat W w (IsW p T :: L') from IsW.mk (v := v) (vt := vt) (by rw [HKT.out]; exact h))
                  have HNX := Lib.hid (fun (h : kk = 2 → nn = 1 ∧ sx = true) => show ∀ j, 1 ≤ j → j < i + 1 → KF j = 2 → T.links j = 1 ∧ S0 j = true from fun j h1 h2 h3 => by
                    rcases Nat.lt_or_ge j i with h4 | h4
                    · exact HGD.out j h1 h4 h3
                    · obtain rfl : j = i := by omega
                      rw [hkk] at h3
                      rw [hnn, hsx]; exact h h3)
                  have HNO := Lib.hid (fun (hk : kk = 2) (h : ¬ (nn = 1 ∧ sx = true)) => show ¬ TrD.LoadOk ks (ds.map DArg.l) from fun hl => h (by
                    have h1 := hl.right
                    rw [HPT.out] at h1
                    have h2 := (HRI.out.1 h1).2 i hi1 hlt (by
                      have h3 : KF i = 2 := hkk.trans hk
                      rw [← HKF.out] at h3; exact h3)
                    have h3 := HLT.out i
                    rw [if_neg (by omega), h2.1, hnn] at h3
                    exact ⟨h3, by rw [← hsx]; exact (HDN.out i).2 h2.2⟩))
                  have HI48 := Lib.hid hlt
                  have HI1 := Lib.hid hi1
                  clear hlt hi hi1 hkk hnn hsx
                  by_cases hk : kk = 2
                  · subst hk
                    by_cases hn : nn = 1
                    · subst hn
                      cases sx with
                      | true =>
                        have HG := Lib.hid (HNX.out fun _ => ⟨rfl, rfl⟩)
                        go_wp2_with (first
                          | (refine toList (by rfl) ?_; refine ld hS _ _ (by rfl) _ _ (by rfl) (agOf (by rfl)) Has.z (HKI.out _ _ _ (by omega)) ?_)
                          | (go_at_call 50; refine (HLN.out _ _ (HMK2.out _ _ _ _ hS)).mono ?_; rintro r w1 ⟨rfl, hS1⟩; clear hS; have hS := hS1; clear hS1)
                          | (refine toList (by rfl) ?_; refine ld hS _ _ (by rfl) _ _ (by rfl) (agOf (by rfl)) (Has.s Has.z) HBA.out ?_))
                        exact ⟨⟨i + 1, by go_num, by omega, HI48.out, HG.out, hS⟩, by simp [intOf]; have := HI48.out; omega⟩
                      | false =>
                        have HG := Lib.hid (HNO.out rfl fun h => nomatch h.2)
                        go_wp2_with (first
                          | (refine toList (by rfl) ?_; refine ld hS _ _ (by rfl) _ _ (by rfl) (agOf (by rfl)) Has.z (HKI.out _ _ _ (by omega)) ?_)
                          | (go_at_call 50; refine (HLN.out _ _ (HMK2.out _ _ _ _ hS)).mono ?_; rintro r w1 ⟨rfl, hS1⟩; clear hS; have hS := hS1; clear hS1)
                          | (refine toList (by rfl) ?_; refine ld hS _ _ (by rfl) _ _ (by rfl) (agOf (by rfl)) (Has.s Has.z) HBA.out ?_))
                        go_ret
                        exact ⟨_, rfl, .inr ⟨rfl, HG.out, hS.drop.drop⟩⟩
                    · have HG := Lib.hid (HNO.out rfl fun h => hn h.1)
                      have g1 : ((nn : Int) != 1) = true := bne_iff_ne.2 (by omega)
                      clear hn
                      go_wp2_with (first
                        | (refine toList (by rfl) ?_; refine ld hS _ _ (by rfl) _ _ (by rfl) (agOf (by rfl)) Has.z (HKI.out _ _ _ (by omega)) ?_)
                        | (go_at_call 50; refine (HLN.out _ _ (HMK2.out _ _ _ _ hS)).mono ?_; rintro r w1 ⟨rfl, hS1⟩; clear hS; have hS := hS1; clear hS1)
                        | (refine toList (by rfl) ?_; refine ld hS _ _ (by rfl) _ _ (by rfl) (agOf (by rfl)) (Has.s Has.z) HBA.out ?_))
                      go_ret
                      exact ⟨_, rfl, .inr ⟨rfl, HG.out, hS.drop.drop⟩⟩
                  · have HG := Lib.hid (HNX.out fun h => absurd h hk)
                    have g1 : (kk == 2) = false := beq_eq_false_iff_ne.2 hk
                    clear hk
                    go_wp2_with (first
                      | (refine toList (by rfl) ?_; refine ld hS _ _ (by rfl) _ _ (by rfl) (agOf (by rfl)) Has.z (HKI.out _ _ _ (by omega)) ?_)
                      | (go_at_call 50; refine (HLN.out _ _ (HMK2.out _ _ _ _ hS)).mono ?_; rintro r w1 ⟨rfl, hS1⟩; clear hS; have hS := hS1; clear hS1)
                      | (refine toList (by rfl) ?_; refine ld hS _ _ (by rfl) _ _ (by rfl) (agOf (by rfl)) (Has.s Has.z) HBA.out ?_))
                    exact ⟨⟨i + 1, by go_num, by omega, HI48.out, HG.out, HMK2.out _ _ _ _ hS⟩, by simp [intOf]; have := HI48.out; omega⟩
                · obtain rfl : i = 48 := by omega
                  have HY := Lib.hid (HYES.out (HRI.out.2 ⟨HENT.out, fun j h1 h2 h3 => by
                    have h4 : KF j = 2 := by rw [← HKF.out]; exact h3
                    obtain ⟨h5, h6⟩ := HGD.out j h1 h2 h4
                    have h7 := HLT.out j
                    rw [if_neg (by omega), h5] at h7
                    exact ⟨h7.symm, (HDN.out j).1 h6⟩⟩))
                  clear hlt hi hi1
                  go_wp2
                  go_ret
                  exact ⟨_, rfl, .inl ⟨p, rfl, HY.out, by rw [HPT.out]; exact hS.pull1.drop⟩⟩
end Go.Proofs.Ytiieicdhkcikpaa
