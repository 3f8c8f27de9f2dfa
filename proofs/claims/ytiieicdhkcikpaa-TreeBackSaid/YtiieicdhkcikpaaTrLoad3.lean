/-
  Package tree: Load.
-/
import Derived.Test.YtiieicdhkcikpaaTrLoad2
import Derived.Test.YtiieicdhkcikpaaTrLoad1
import Derived.Test.YtiieicdhkcikpaaTrLoadO
import Derived.Test.YtiieicdhkcikpaaMUnl
namespace Go.Proofs.Ytiieicdhkcikpaa
open Go.RowKit Go.Sep
set_option linter.unusedSimpArgs false
set_option linter.unusedVariables false
attribute [local irreducible] Go.Oper.wp Go.wpList Go.Calls Go.Code.wp Go.Sep.Reg
attribute [local irreducible] IsT IsW
def kfi (ks : List Int) (i : Nat) (j : Nat) : Int := if j < i then (ks[j]?).getD 0 else if j = 0 then 2 else 0
def dfi (ds : List (List EntD)) (i j : Nat) : List EntD := if j < i then (ds[j]?).getD [] else []
theorem kfi_set {ks : List Int} {i : Nat} {x : Int} (hx : ks[i]? = some x) : upd (kfi ks i) i x = kfi ks (i + 1) := by
  funext j
  unfold kfi
  by_cases h : j = i
  · subst h
    rw [upd_at, if_pos (by omega), hx]; rfl
  · rw [upd_no _ _ h]
    by_cases h2 : j < i
    · rw [if_pos h2, if_pos (show j < i + 1 by omega)]
    · rw [if_neg h2, if_neg (show ¬ j < i + 1 by omega)]
theorem kfi_end {ks : List Int} (h1 : 0 < ks.length) : kfi ks ks.length = fun j => (ks[j]?).getD 0 := by
  funext j
  unfold kfi
  by_cases h : j < ks.length
  · rw [if_pos h]
  · rw [if_neg h, if_neg (by omega), List.getElem?_eq_none (by omega)]; rfl
theorem dfi_set {ds : List (List EntD)} {i : Nat} {x : List EntD} (hx : ds[i]? = some x) : upd (dfi ds i) i x = dfi ds (i + 1) := by
  funext j
  unfold dfi
  by_cases h : j = i
  · subst h
    rw [upd_at, if_pos (by omega), hx]; rfl
  · rw [upd_no _ _ h]
    by_cases h2 : j < i
    · rw [if_pos h2, if_pos (by omega)]
    · rw [if_neg h2, if_neg (by omega)]
theorem dfi_end (ds : List (List EntD)) : dfi ds ds.length = fun j => (ds[j]?).getD [] := by
  funext j
  unfold dfi
  by_cases h : j < ds.length
  · rw [if_pos h]
  · rw [if_neg h, List.getElem?_eq_none (by omega)]; rfl
theorem new_kind (ks : List Int) : TrD.new.kind = kfi ks 0 := by
  funext j
  unfold kfi TrD.kind TrD.new
  rw [if_neg (by omega)]
  show (((List.replicate 48 (0 : Int)).set 0 2)[j]?).getD 0 = _
  rw [List.getElem?_set]
  by_cases h : j = 0
  · subst h; rfl
  · rw [if_neg (fun e => h e.symm), if_neg h, List.getElem?_replicate]
    split <;> rfl
theorem new_dfi (ds : List (List EntD)) : TrD.new.dir = dfi ds 0 := by
  funext j
  unfold dfi TrD.dir TrD.new
  rw [if_neg (by omega)]
  show ((List.replicate 48 ([] : List EntD))[j]?).getD [] = _
  rw [List.getElem?_replicate]
  split <;> rfl
theorem new_lnk : TrD.new.lnk = TrD.lk0 [] [] := by
  funext j
  unfold TrD.lnk TrD.lk0 TrD.links
  split
  · rfl
  · rfl
theorem flat_len64 : ∀ {ds : List (List EntD)}, (∀ d ∈ ds, d.length ≤ 1000) → ds.flatten.length ≤ ds.length * 1000
  | [], _ => Nat.le_refl _
  | d :: ds, h => by
    have h1 := flat_len64 (ds := ds) fun e he => h e (List.mem_cons_of_mem _ he)
    have h2 := h d (List.mem_cons_self ..)
    rw [List.flatten_cons, List.length_append, List.length_cons]; omega
theorem lk0_le {ds : List (List EntD)} {l : List EntD} (h1 : ds.length ≤ 48) (h2 : ∀ d ∈ ds, d.length ≤ 1000) (h3 : l.length ≤ 1000) (a : Nat) : ∃ N : Nat, TrD.lk0 ds l a = (N : Int) ∧ N ≤ 100000 := by
  unfold TrD.lk0
  split
  · exact ⟨1, rfl, by omega⟩
  · refine ⟨_, rfl, ?_⟩
    have h4 := flat_len64 h2
    have h5 : TrD.cnt ds a ≤ ds.flatten.length := List.length_filter_le _ _
    have h6 : cnt1 l a ≤ l.length := List.length_filter_le _ _
    omega
theorem pad_kindF (ks : List Int) (ds : List (List EntD)) : (TrD.padT ks ds).kind = fun j => (ks[j]?).getD 0 := funext fun j => TrD.pad_kind ks ds j
theorem pad_dirF (ks : List Int) (ds : List (List EntD)) : (TrD.padT ks ds).dir = fun j => (ds[j]?).getD [] := funext fun j => TrD.pad_dir ks ds j
theorem BoolIs.yes {p : Prop} {v : Value} (h : BoolIs p v) (hp : p) : v = .bool true := by
  obtain ⟨b, rfl, h⟩ := h
  rw [h.2 hp]
theorem BoolIs.no {p : Prop} {v : Value} (h : BoolIs p v) (hp : ¬ p) : v = .bool false := by
  obtain ⟨b, rfl, h⟩ := h
  cases b with
  | false => rfl
  | true => exact absurd (h.1 rfl) hp
def LdPost (W : World) (L : List Asrt) (ks : List Int) (ds : List (List EntD)) (v : Value) (w' : World) : Prop :=
  (∃ p, v = .tuple #[.pointer (some ⟨p, 0, none⟩), .bool true] ∧ TrD.LoadOk ks ds ∧ Sat W w' (IsT p (TrD.padT ks ds) :: L)) ∨ (v = .tuple #[.pointer none, .bool false] ∧ ¬ TrD.LoadOk ks ds ∧ Sat W w' L)
set_option maxRecDepth 20000 in
set_option maxHeartbeats 4000000 in
theorem tload_any {W w : World} {L : List Asrt} (hS : Sat W w L) (ks : List Int) (ao : Option Addr) (c : Nat) (hk : ∀ w L', Sat W w (L' ++ L) → Rd w (.slice ao ks.length c) ks.length 1 (ks.flatMap inv1)) (hkl : ks.length ≤ 1000)
    (ds : List DArg) (ao2 : Option Addr) (c2 : Nat) (hd : ∀ w L', Sat W w (L' ++ L) → Rd w (.slice ao2 ds.length c2) ds.length 1 (ds.flatMap dav)) (hdl : ds.length ≤ 1000) (hx : ∀ w L', Sat W w (L' ++ L) → ∀ x ∈ ds, Rd w x.v x.l.length 2 (x.l.flatMap ev2)) (hxl : ∀ x ∈ ds, x.l.length ≤ 1000) :
    Calls Try.prog 30 #[.slice ao ks.length c, .slice ao2 ds.length c2] w fun r w' => ∃ v, r = .returned v ∧ LdPost W L ks (ds.map DArg.l) v w' := by
  have HK := Lib.hid hk
  have HD := Lib.hid hd
  have HXR := Lib.hid hx
  have HXL := Lib.hid hxl
  have HS0 := Lib.hid hS
  obtain ⟨_, _, he, hc1, hc2, _, hk5⟩ := hk w [] hS
  simp only [Value.slice.injEq, true_and] at he
  obtain ⟨rfl, rfl⟩ := he
  obtain ⟨_, _, he, hc3, hc4, _, hd5⟩ := hd w [] hS
  simp only [Value.slice.injEq, true_and] at he
  obtain ⟨rfl, rfl⟩ := he
  have HK5 := Lib.hid hk5
  have HD5 := Lib.hid hd5
  have n1 : (ks.length : Int) ≤ 1000 := by omega
  have n2 : (ds.length : Int) ≤ 1000 := by omega
  clear hk hd hx hxl hk5 hd5
  by_cases h48 : 48 < ks.length
  · have e1 : decide ((48 : Int) < (ks.length : Int)) = true := decide_eq_true (by omega)
    have e2 : decide (48 < ks.length) = true := decide_eq_true h48
    have HN := Lib.hid (show ¬ TrD.LoadOk ks (ds.map DArg.l) from fun h => by have := h.k48; omega)
    clear h48
    go_enter Try.func30, Try.ntmps30
    go_wp2
    go_ret2
    exact ⟨_, rfl, .inr ⟨rfl, HN.out, hS⟩⟩
  have e1 : decide ((48 : Int) < (ks.length : Int)) = false := decide_eq_false (by omega)
  have e2 : decide (48 < ks.length) = false := decide_eq_false h48
  by_cases h482 : 48 < ds.length
  · have e3 : decide ((48 : Int) < (ds.length : Int)) = true := decide_eq_true (by omega)
    have e4 : decide (48 < ds.length) = true := decide_eq_true h482
    have HN := Lib.hid (show ¬ TrD.LoadOk ks (ds.map DArg.l) from fun h => by have := h.d48; rw [List.length_map] at this; omega)
    clear h48 h482
    go_enter Try.func30, Try.ntmps30
    go_wp2
    go_ret2
    exact ⟨_, rfl, .inr ⟨rfl, HN.out, hS⟩⟩
  have e3 : decide ((48 : Int) < (ds.length : Int)) = false := decide_eq_false (by omega)
  have e4 : decide (48 < ds.length) = false := decide_eq_false h482
  by_cases h0 : ks.length = 0
  · have HN := Lib.hid (show ¬ TrD.LoadOk ks (ds.map DArg.l) from fun h => by have := h.k1; omega)
    have e5 : ((ks.length : Int) == 0) = true := beq_iff_eq.2 (by omega)
    have e6 : (ks.length == 0) = true := beq_iff_eq.2 h0
    clear h48 h482 h0
    go_enter Try.func30, Try.ntmps30
    go_wp2
    go_ret2
    exact ⟨_, rfl, .inr ⟨rfl, HN.out, hS⟩⟩
  have e5 : ((ks.length : Int) == 0) = false := beq_eq_false_iff_ne.2 (by omega)
  have e6 : (ks.length == 0) = false := beq_eq_false_iff_ne.2 h0
  have hkp : 0 < ks.length := by omega
  obtain ⟨b, off, rfl, _⟩ := HK5.out hkp
  obtain ⟨k0, hk0⟩ : ∃ k0, ks[0]? = some k0 := ⟨_, List.getElem?_eq_getElem hkp⟩
  have HK0 := Lib.hid hk0
  by_cases hk2 : k0 = 2
  rotate_left
  · have HN := Lib.hid (show ¬ TrD.LoadOk ks (ds.map DArg.l) from fun h => by have := h.k0; rw [hk0] at this; exact hk2 this)
    have e7 : (k0 != 2) = true := bne_iff_ne.2 hk2
    clear h48 h482 h0 hk0 hk2
    go_enter Try.func30, Try.ntmps30
    go_wp2_with (refine toList (by rfl) ?_; refine wp_of_reads (rLdRd (f := inv1) (x := k0) (u := .int .i64 k0) (HK.out _ [] hS) (inv1_len ks) _ _ (by rfl) _ (by rfl) (agOf (by rfl)) 0 0 (by omega) HK0.out (by rfl) (by omega)) ?_)
    go_ret2
    exact ⟨_, rfl, .inr ⟨rfl, HN.out, hS⟩⟩
  subst hk2
  have HKE := Lib.hid (kfi_end hkp)
  have HDE := Lib.hid (dfi_end (ds.map DArg.l))
  have H48 := Lib.hid (show ks.length ≤ 48 ∧ ds.length ≤ 48 by omega)
  clear h48 h482 h0 hk0 HS0
  go_enter Try.func30, Try.ntmps30
  go_wp2_with (first
    | (refine toList (by rfl) ?_; refine wp_of_reads (rLdRd (f := inv1) (x := 2) (u := .int .i64 2) (HK.out _ [] hS) (inv1_len ks) _ _ (by rfl) _ (by rfl) (agOf (by rfl)) 0 0 (by omega) HK0.out (by rfl) (by omega)) ?_)
    | (go_at_call 10; refine (tnew_any hS).mono ?_; rintro r w1 ⟨p, rfl, hS1⟩; clear hS; have hS := hS1; clear hS1))
  obtain ⟨v, vt, hO⟩ := IsT.open hS
  rw [new_kind ks, new_lnk, new_dfi (ds.map DArg.l), show TrD.new.last = [] from rfl] at hO
  have H0 := Lib.hid hO
  clear hO hS
  go_loopw [35] (fun v35 wz => ∃ i : Nat, v35 = .int .i64 i ∧ i ≤ ks.length ∧ (∀ k ∈ ks.take i, 0 ≤ k ∧ k ≤ 2) ∧ Sat W wz (Cs p 69 (tl (kfi ks i) (TrD.lk0 [] []) v vt) :: rws v (dfi (ds.map DArg.l) 0) :: Ir vt [] :: L)) (fun v35 _ => ks.length - (intOf v35).toNat)
  case atStart => exact ⟨0, rfl, by omega, by simp, H0.out⟩
  case round =>
    clear H0
    obtain ⟨i, rfl, hi, hkk, hS⟩ := hrel
    have HKK := Lib.hid hkk
    clear hkk
    by_cases hlt : i < ks.length
    · obtain ⟨x, hx⟩ : ∃ x, ks[i]? = some x := ⟨_, List.getElem?_eq_getElem hlt⟩
      have HX := Lib.hid hx
      have HLT := Lib.hid hlt
      have k1 : (i : Int) < (ks.length : Int) := by omega
      have k2 : (i : Int) < 48 := by have := H48.out; omega
      by_cases hb : 0 ≤ x ∧ x ≤ 2
      · have d1 : decide (x < 0) = false := decide_eq_false (by omega)
        have d2 : decide ((2 : Int) < x) = false := decide_eq_false (by omega)
        have HK2 := Lib.hid (show ∀ k ∈ ks.take (i + 1), 0 ≤ k ∧ k ≤ 2 from fun k hk => by
          rw [List.take_add_one, hx] at hk
          rcases List.mem_append.1 hk with h | h
          · exact HKK.out k h
          · rw [show k = x by simpa using h]; exact hb)
        have HST := Lib.hid (kfi_set (i := i) hx)
        have HTL := Lib.hid (fun (k n : Nat → Int) (v : Nat → Value) (vt : Value) a (ha : a = i * 3) => tl_setK (k := k) (n := n) (v := v) (vt := vt) x (show i < 48 by omega) ha)
        clear hx hlt hi hb
        go_wp2_with (first
          | (refine toList (by rfl) ?_; refine wp_of_reads (rLdRd (f := inv1) (x := x) (u := .int .i64 x) (HK.out _ [_, _, _] hS) (inv1_len ks) _ _ (by rfl) _ (by rfl) (agOf (by rfl)) i 0 (by omega) HX.out (by rfl) (by omega)) ?_)
          | (refine toList (by rfl) ?_; refine st hS _ _ _ (by rfl) _ _ (by rfl) _ (by first | exact evC | exact evT (by rfl)) (by rfl) (szOf (by rfl)) Has.z (by rw [tl_len]; omega) ?_; intro w1 hS1; clear hS; have hS := hS1; clear hS1; dsimp only [List.set_cons_zero] at hS; rw [HTL.out _ _ _ _ _ (by omega), HST.out] at hS))
        exact ⟨⟨i + 1, by go_num, HLT.out, HK2.out, hS⟩, by simp [intOf]; have := HLT.out; omega⟩
      · have HN := Lib.hid (show ¬ TrD.LoadOk ks (ds.map DArg.l) from fun h => hb (h.kk x (List.mem_of_getElem? hx)))
        have hcs : (decide (x < 0) = true) ∨ (decide (x < 0) = false ∧ decide ((2 : Int) < x) = true) := by
          by_cases h : x < 0
          · exact .inl (decide_eq_true h)
          · exact .inr ⟨decide_eq_false h, decide_eq_true (by omega)⟩
        clear hx hlt hi hb
        rcases hcs with d1 | ⟨d1, d2⟩
        all_goals
          go_wp2_with (first
            | (refine toList (by rfl) ?_; refine wp_of_reads (rLdRd (f := inv1) (x := x) (u := .int .i64 x) (HK.out _ [_, _, _] hS) (inv1_len ks) _ _ (by rfl) _ (by rfl) (agOf (by rfl)) i 0 (by omega) HX.out (by rfl) (by omega)) ?_))
          go_ret2
          exact ⟨_, rfl, .inr ⟨rfl, HN.out, hS.drop.drop.drop⟩⟩
    · obtain rfl : i = ks.length := by omega
      have HKB := Lib.hid (show ∀ k ∈ ks, 0 ≤ k ∧ k ≤ 2 by have := HKK.out; rwa [List.take_length] at this)
      rw [HKE.out] at hS
      obtain ⟨KF, hKF⟩ : ∃ KF : Nat → Int, (fun j => (ks[j]?).getD 0) = KF := ⟨_, rfl⟩
      rw [hKF] at hS
      have HKF := Lib.hid hKF
      have k1 : ¬ (ks.length : Int) < (ks.length : Int) := by omega
      clear hlt hi hKF HKK
      go_wp2
      have H0 := Lib.hid hS
      go_loopw [56] (fun v56 wz => ∃ (j : Nat) (v : Nat → Value), v56 = .int .i64 j ∧ j ≤ ds.length ∧ (∀ d ∈ (ds.map DArg.l).take j, ChkD d) ∧ (∀ (i : Nat) (d : List EntD), i < j → (ds.map DArg.l)[i]? = some d → d ≠ [] → KF i = 2) ∧ Sat W wz (Cs p 69 (tl KF (TrD.lk0 ((ds.map DArg.l).take j) []) v vt) :: rws v (dfi (ds.map DArg.l) j) :: Ir vt [] :: L)) (fun v56 _ => ds.length - (intOf v56).toNat)
      case atStart => exact ⟨0, v, rfl, by omega, by simp, fun i d h => absurd h (Nat.not_lt_zero _), H0.out⟩
      case round =>
        clear hS H0
        obtain ⟨j, v, rfl, hj, hck, hnd, hS⟩ := hrel
        have HCK := Lib.hid hck
        have HND := Lib.hid hnd
        clear hck hnd
        by_cases hlt : j < ds.length
        · obtain ⟨⟨xv, d⟩, hx⟩ : ∃ x, ds[j]? = some x := ⟨_, List.getElem?_eq_getElem hlt⟩
          have hxm := List.mem_of_getElem? hx
          have hdm : (ds.map DArg.l)[j]? = some d := by rw [List.getElem?_map, hx]; rfl
          obtain ⟨b2, off2, rfl, _⟩ := HD5.out (by omega)
          have HX := Lib.hid hx
          have HXD := Lib.hid (fun w L' (h : Sat W w (L' ++ L)) => HXR.out w L' h _ hxm)
          have hdl := HXL.out _ hxm
          dsimp only at hdl
          obtain ⟨aod, cd, he, hcd1, hcd2, _, hd5⟩ := HXD.out _ [_, _, _] hS
          dsimp only at he
          subst he
          have HXD := Lib.hid (fun w L' (h : Sat W w (L' ++ L)) => show Rd w (.slice aod d.length cd) d.length 2 (d.flatMap ev2) from HXD.out w L' h)
          have HCH := Lib.hid (fun w L' (h : Sat W w (L' ++ L)) => dcheck_any h d aod cd (fun w h => HXD.out w L' h) hdl)
          have HCL := Lib.hid (fun w L' (h : Sat W w (L' ++ L)) => eclone_any h d aod cd (fun w L2 h => by rw [← List.append_assoc] at h; exact HXD.out w _ h) hdl)
          have HLT := Lib.hid hlt
          have k1 : (j : Int) < (ds.length : Int) := by omega
          have k2 : (j : Int) < 48 := by have := H48.out; omega
          have n3 : (d.length : Int) ≤ 1000 := by omega
          have HJ48 := Lib.hid (show j < 48 by have := H48.out; omega)
          have HKJ := Lib.hid (show ∀ (n : Nat → Int) (v : Nat → Value) (vt : Value) (a : Nat), a = j * 3 → (tl KF n v vt)[a]? = some (.int .i64 (KF j)) from fun n v vt a ha => tl_at (j := 0) HJ48.out (by omega) (by rfl))
          have HTV := Lib.hid (fun (k n : Nat → Int) (v : Nat → Value) (vt x : Value) a (ha : a = j * 3 + 2) => tl_setV (k := k) (n := n) (v := v) (vt := vt) x HJ48.out ha)
          have HTK := Lib.hid (show (ds.map DArg.l).take (j + 1) = (ds.map DArg.l).take j ++ [d] by rw [List.take_add_one, hdm]; rfl)
          have HDS := Lib.hid (dfi_set hdm)
          have HDM := Lib.hid hdm
          by_cases hc : ChkD d
          · have HCH := Lib.hid (fun w L' (h : Sat W w (L' ++ L)) => show Calls Try.prog 54 #[.slice aod d.length cd] w (fun r w' => r = .returned (.bool true) ∧ Sat W w' (L' ++ L)) from (HCH.out w L' h).mono fun r w' ⟨v, h1, h2, h4⟩ => ⟨by rw [h1, h2.yes hc], h4⟩)
            have HCK2 := Lib.hid (show ∀ e ∈ (ds.map DArg.l).take (j + 1), ChkD e from fun e he => by
              rw [HTK.out] at he
              rcases List.mem_append.1 he with h | h
              · exact HCK.out e h
              · rw [show e = d by simpa using h]; exact hc)
            by_cases hnd : d ≠ [] → KF j = 2
            · have HND2 := Lib.hid (show ∀ (i : Nat) (e : List EntD), i < j + 1 → (ds.map DArg.l)[i]? = some e → e ≠ [] → KF i = 2 from fun i e hi he hne => by
                rcases Nat.lt_or_ge i j with h | h
                · exact HND.out i e h he hne
                · obtain rfl : i = j := by omega
                  rw [HDM.out] at he
                  cases he
                  exact hnd hne)
              have HINO := Lib.hid (fun (m : Nat) (e : EntD) (hx : d[m]? = some e) => show ∃ a : Nat, e.ino = (a : Int) ∧ 1 ≤ a ∧ a < 48 by
                have hent := hc.ent e (List.mem_of_getElem? hx)
                unfold entOk at hent
                simp only [Bool.and_eq_true, decide_eq_true_eq] at hent
                exact ⟨e.ino.toNat, by omega, by omega, by omega⟩)
              have hcs : (decide ((0 : Int) < (d.length : Int)) = false ∧ decide (0 < d.length) = false) ∨ ((decide ((0 : Int) < (d.length : Int)) = true ∧ decide (0 < d.length) = true) ∧ KF j = 2) := by
                by_cases h : 0 < d.length
                · exact .inr ⟨⟨decide_eq_true (by omega), decide_eq_true h⟩, hnd (List.length_pos_iff.1 h)⟩
                · exact .inl ⟨decide_eq_false (by omega), decide_eq_false h⟩
              clear hx hlt hj hc hnd hdm hd5
              rcases hcs with ⟨d1, d2⟩ | ⟨⟨d1, d2⟩, hk⟩
              · go_wp2_with (first
                  | (refine toList (by rfl) ?_; refine wp_of_reads (rLdRd (f := dav) (x := ⟨.slice aod d.length cd, d⟩) (u := .slice aod d.length cd) (HD.out _ [_, _, _] hS) (dav_len ds) _ _ (by rfl) _ (by rfl) (agOf (by rfl)) j 0 (by omega) HX.out (by rfl) (by omega)) ?_)
                  | (go_at_call 54; refine (HCH.out _ [_, _, _] hS).mono ?_; rintro r w1 ⟨rfl, hS1⟩; clear hS; have hS := (show Sat W w1 (Cs p _ _ :: rws _ _ :: Ir _ _ :: L) from hS1); clear hS1)
                  | (refine toList (by rfl) ?_; refine ld hS _ _ (by rfl) _ _ (by rfl) (agOf (by rfl)) Has.z (HKJ.out _ _ _ _ (by omega)) ?_))
                refine regStart [3, 8] hS (by kernel_rfl) rfl ?_
                intro w1 hS1
                clear hS; have hS := hS1; clear hS1
                (refine regP 0 hS (fun _ h => h) rfl (by kernel_rfl) (by kernel_rfl) (by kernel_rfl) (fun _ _ _ _ h => h) (by rfl) (by rfl) ?_; apply Exists.intro; apply And.intro; (intro w; go_simp; try with_reducible rfl); go_frame)
                (refine regP 1 hS (fun _ h => h) rfl (by kernel_rfl) (by kernel_rfl) (by kernel_rfl) (fun _ _ _ _ h => h) (by rfl) (by rfl) ?_; apply Exists.intro; apply And.intro; (intro w; go_simp; try with_reducible rfl); go_frame)
                (refine regP 2 hS (fun _ h => h) rfl (by kernel_rfl) (by kernel_rfl) (by kernel_rfl) (fun _ _ _ _ h => h) (by rfl) (by rfl) ?_; apply Exists.intro; apply And.intro; (intro w; go_simp; try with_reducible rfl); go_frame)
                (refine regP 4 hS (fun _ h => h) rfl (by kernel_rfl) (by kernel_rfl) (by kernel_rfl) (fun _ _ _ _ h => h) (by rfl) (by rfl) ?_; apply Exists.intro; apply And.intro; (intro w; go_simp; try with_reducible rfl); go_frame)
                (refine regP 5 hS (fun _ h => h) rfl (by kernel_rfl) (by kernel_rfl) (by kernel_rfl) (fun _ _ _ _ h => h) (by rfl) (by rfl) ?_; apply Exists.intro; apply And.intro; (intro w; go_simp; try with_reducible rfl); go_frame)
                (refine regA 3 rfl (by kernel_rfl) (by rfl) (by rfl) true (by kernel_rfl) (fun K hK => ?_); (first
                                                  | (refine Go.Sep.cl 55 _ _ (by rfl) (by rfl) (by kernel_rfl) (HCL.out _ [_, _, _] hS) ?_; rintro r w1 ⟨v', rfl, hS1⟩; clear hS; have hS := (show Sat W w1 (Er v' d :: Cs p _ _ :: rws _ _ :: Ir _ _ :: L) from hS1); clear hS1; obtain ⟨aoe, ce, rfl, _⟩ := Sat.tbShape (k := 0) (show Sat _ _ (Tb 59 2 ev2 v' d :: _) from hS) rfl; replace hS := hS.pull1; refine ⟨_, rfl, ?_⟩)
                                                  | (refine st hS _ _ _ (by rfl) _ _ (by rfl) _ (by first | exact evC | exact evT (by rfl)) (by rfl) (szOf (by rfl)) Has.z (by rw [tl_len]; omega) ?_; intro w1 hS1; clear hS; have hS := hS1; clear hS1; simp only [List.set_cons_zero] at hS; rw [HTV.out _ _ _ _ _ _ (by omega)] at hS)); refine hK _ _ _ hS (by first | (intro h; cases h; done) | exact fun _ _ h => h | exact fun _ _ h => h.drop | exact fun _ _ h => h.drop.drop | exact fun _ _ h => h.drop.pull1 | exact fun _ _ h => h.take2 | exact fun _ _ h => h.one Has.z | exact fun _ _ h => h.one (Has.s Has.z) | exact fun _ _ h => h.one (Has.s (Has.s Has.z))) ?_; clear hK K; go_frame)
                (refine regP 6 hS (fun _ h => h) rfl (by kernel_rfl) (by kernel_rfl) (by kernel_rfl) (fun _ _ _ _ h => h) (by rfl) (by rfl) ?_; apply Exists.intro; apply And.intro; (intro w; go_simp; try with_reducible rfl); go_frame)
                (refine regP 7 hS (fun _ h => h) rfl (by kernel_rfl) (by kernel_rfl) (by kernel_rfl) (fun _ _ _ _ h => h) (by rfl) (by rfl) ?_; apply Exists.intro; apply And.intro; (intro w; go_simp; try with_reducible rfl); go_frame)
                (refine regA 8 rfl (by kernel_rfl) (by rfl) (by rfl) true (by kernel_rfl) (fun K hK => ?_); (first
                                                  | (refine Go.Sep.cl 55 _ _ (by rfl) (by rfl) (by kernel_rfl) (HCL.out _ [_, _, _] hS) ?_; rintro r w1 ⟨v', rfl, hS1⟩; clear hS; have hS := (show Sat W w1 (Er v' d :: Cs p _ _ :: rws _ _ :: Ir _ _ :: L) from hS1); clear hS1; obtain ⟨aoe, ce, rfl, _⟩ := Sat.tbShape (k := 0) (show Sat _ _ (Tb 59 2 ev2 v' d :: _) from hS) rfl; replace hS := hS.pull1; refine ⟨_, rfl, ?_⟩)
                                                  | (refine st hS _ _ _ (by rfl) _ _ (by rfl) _ (by first | exact evC | exact evT (by rfl)) (by rfl) (szOf (by rfl)) Has.z (by rw [tl_len]; omega) ?_; intro w1 hS1; clear hS; have hS := hS1; clear hS1; simp only [List.set_cons_zero] at hS; rw [HTV.out _ _ _ _ _ _ (by omega)] at hS)); refine hK _ _ _ hS (by first | (intro h; cases h; done) | exact fun _ _ h => h | exact fun _ _ h => h.drop | exact fun _ _ h => h.drop.drop | exact fun _ _ h => h.drop.pull1 | exact fun _ _ h => h.take2 | exact fun _ _ h => h.one Has.z | exact fun _ _ h => h.one (Has.s Has.z) | exact fun _ _ h => h.one (Has.s (Has.s Has.z))) ?_; clear hK K; go_frame)
                refine regDone (by kernel_rfl) ?_
                replace hS := (rws_put (hS.re [1, 2]) HJ48.out).pull1
                rw [HDS.out] at hS
                generalize (upd v j (Value.slice aoe d.length ce)) = v2 at hS
                go_wp2
                have H0 := Lib.hid hS
                go_loopw [89] (fun v89 wz => ∃ m : Nat, v89 = .int .i64 m ∧ m ≤ d.length ∧ Sat W wz (Cs p 69 (tl KF (TrD.lk0 ((ds.map DArg.l).take j) (d.take m)) v2 vt) :: rws v2 (dfi (ds.map DArg.l) (j + 1)) :: Ir vt [] :: L)) (fun v89 _ => d.length - (intOf v89).toNat)
                case atStart => exact ⟨0, rfl, by omega, H0.out⟩
                case round =>
                  clear hS H0
                  obtain ⟨m, rfl, hm, hS⟩ := hrel
                  by_cases hlt : m < d.length
                  · obtain ⟨⟨en, ei⟩, hx⟩ : ∃ e, d[m]? = some e := ⟨_, List.getElem?_eq_getElem hlt⟩
                    obtain ⟨a, ha, h1, h2⟩ := HINO.out m _ hx
                    dsimp only at ha
                    subst ha
                    have HXM := Lib.hid hx
                    obtain ⟨N, hN, hNb⟩ := lk0_le (ds := (ds.map DArg.l).take j) (l := d.take m) (by rw [List.length_take]; have := HJ48.out; omega) (fun e he => by
                      obtain ⟨y, hy, rfl⟩ := List.mem_map.1 (List.mem_of_mem_take he)
                      exact HXL.out y hy) (by rw [List.length_take]; omega) a
                    have HLE := Lib.hid (show upd (TrD.lk0 ((ds.map DArg.l).take j) (d.take m)) a ((N : Int) + 1) = TrD.lk0 ((ds.map DArg.l).take j) (d.take (m + 1)) by
                      rw [← hN, ← TrD.lk0_ent _ _ ⟨en, (a : Int)⟩ a rfl h1, List.take_add_one, hx]; rfl)
                    have HLA := Lib.hid (show ∀ b, b = a * 3 + 1 → (tl KF (TrD.lk0 ((ds.map DArg.l).take j) (d.take m)) v2 vt)[b]? = some (.int .i64 (N : Int)) from fun b hb => tl_at (j := 1) h2 hb (by rw [← hN]; rfl))
                    have HTN := Lib.hid (fun (k n : Nat → Int) (v : Nat → Value) (vt : Value) (x : Int) b (hb : b = a * 3 + 1) => tl_setN (k := k) (n := n) (v := v) (vt := vt) x h2 hb)
                    obtain ⟨bx, ofx, rfl⟩ : ∃ bx ofx, aod = some ⟨bx, ofx, none⟩ := by
                      obtain ⟨_, _, he, h1, h2, h3, h5⟩ := HXD.out _ [_, _, _] hS
                      obtain ⟨b', o', h6, _⟩ := h5 (by omega)
                      simp only [Value.slice.injEq] at he
                      exact ⟨b', o', by rw [he.1, h6]⟩
                    have p1 : (m : Int) < (d.length : Int) := by omega
                    have p2 : (a : Int) < 48 := by omega
                    have p3 : (N : Int) ≤ 100000 := by omega
                    have HLT2 := Lib.hid hlt
                    generalize TrD.lk0 ((ds.map DArg.l).take j) (d.take m) = nf at hS HLE HLA
                    clear hx hlt hm hN hNb h1 h2
                    go_wp2_with (first
                      | (refine toList (by rfl) ?_; refine wp_of_reads (rLdRdA (f := ev2) (x := ⟨en, (a : Int)⟩) (HXD.out _ [_, _, _] hS) (ev2_len d) _ _ (by rfl) _ (by rfl) (agOf (by rfl)) (szOf (by rfl)) m (by omega) HXM.out (by omega)) ?_)
                      | (refine toList (by rfl) ?_; refine al hS _ (by rfl) (zrOf (by rfl)) ?_; intro px w1 hS1; clear hS; have hS := hS1; clear hS1; rw [cells_agg] at hS)
                      | (refine toList (by rfl) ?_; refine stW hS _ _ _ (by rfl) (by rfl) [sv en, .int .i64 (a : Int)] (by rfl) (by simp [Value.oneCell', sv]) (szOf (by rfl)) Has.z (by rfl) ?_; intro w1 hS1; clear hS; have hS := hS1; clear hS1; dsimp only [List.set_cons_zero] at hS))
                    refine regStart [13] hS (by kernel_rfl) rfl ?_
                    intro w1 hS1
                    clear hS; have hS := hS1; clear hS1
                    (refine regP 0 hS (fun _ h => h) rfl (by kernel_rfl) (by kernel_rfl) (by kernel_rfl) (fun _ _ _ _ h => h) (by rfl) (by rfl) ?_; apply Exists.intro; apply And.intro; (intro w; go_simp; try with_reducible rfl); go_frame)
                    (refine regP 1 hS (fun _ h => h) rfl (by kernel_rfl) (by kernel_rfl) (by kernel_rfl) (fun _ _ _ _ h => h) (by rfl) (by rfl) ?_; apply Exists.intro; apply And.intro; (intro w; go_simp; try with_reducible rfl); go_frame)
                    (refine regR 2 hS (fun _ h => h) rfl (by kernel_rfl) (by kernel_rfl) (by kernel_rfl) (by kernel_rfl) (by kernel_rfl) (fun _ _ _ _ h => h) (by rfl) (by rfl) ?_; (first
                                                              | refine ⟨.int .i64 (a : Int), yLd _ _ (by rfl) _ _ (by rfl) (agOf (by rfl)) Has.z (by rfl), ?_⟩
                                                              | refine ⟨.int .i64 (N : Int), yLd _ _ (by rfl) _ _ (by rfl) (agOf (by rfl)) (Has.s Has.z) (HLA.out _ (by omega)), ?_⟩); go_frame)
                    (refine regP 3 hS (fun _ h => h) rfl (by kernel_rfl) (by kernel_rfl) (by kernel_rfl) (fun _ _ _ _ h => h) (by rfl) (by rfl) ?_; apply Exists.intro; apply And.intro; (intro w; go_simp; try with_reducible rfl); go_frame)
                    (refine regP 4 hS (fun _ h => h) rfl (by kernel_rfl) (by kernel_rfl) (by kernel_rfl) (fun _ _ _ _ h => h) (by rfl) (by rfl) ?_; apply Exists.intro; apply And.intro; (intro w; go_simp; try with_reducible rfl); go_frame)
                    (refine regP 5 hS (fun _ h => h) rfl (by kernel_rfl) (by kernel_rfl) (by kernel_rfl) (fun _ _ _ _ h => h) (by rfl) (by rfl) ?_; apply Exists.intro; apply And.intro; (intro w; go_simp; try with_reducible rfl); go_frame)
                    (refine regP 6 hS (fun _ h => h) rfl (by kernel_rfl) (by kernel_rfl) (by kernel_rfl) (fun _ _ _ _ h => h) (by rfl) (by rfl) ?_; apply Exists.intro; apply And.intro; (intro w; go_simp; try with_reducible rfl); go_frame)
                    (refine regR 7 hS (fun _ h => h) rfl (by kernel_rfl) (by kernel_rfl) (by kernel_rfl) (by kernel_rfl) (by kernel_rfl) (fun _ _ _ _ h => h) (by rfl) (by rfl) ?_; (first
                                                              | refine ⟨.int .i64 (a : Int), yLd _ _ (by rfl) _ _ (by rfl) (agOf (by rfl)) Has.z (by rfl), ?_⟩
                                                              | refine ⟨.int .i64 (N : Int), yLd _ _ (by rfl) _ _ (by rfl) (agOf (by rfl)) (Has.s Has.z) (HLA.out _ (by omega)), ?_⟩); go_frame)
                    (refine regP 8 hS (fun _ h => h) rfl (by kernel_rfl) (by kernel_rfl) (by kernel_rfl) (fun _ _ _ _ h => h) (by rfl) (by rfl) ?_; apply Exists.intro; apply And.intro; (intro w; go_simp; try with_reducible rfl); go_frame; try simp (disch := omega) only [IntWalk.i64_in])
                    (refine regP 9 hS (fun _ h => h) rfl (by kernel_rfl) (by kernel_rfl) (by kernel_rfl) (fun _ _ _ _ h => h) (by rfl) (by rfl) ?_; apply Exists.intro; apply And.intro; (intro w; go_simp; try with_reducible rfl); go_frame)
                    (refine regP 10 hS (fun _ h => h) rfl (by kernel_rfl) (by kernel_rfl) (by kernel_rfl) (fun _ _ _ _ h => h) (by rfl) (by rfl) ?_; apply Exists.intro; apply And.intro; (intro w; go_simp; try with_reducible rfl); go_frame)
                    (refine regP 11 hS (fun _ h => h) rfl (by kernel_rfl) (by kernel_rfl) (by kernel_rfl) (fun _ _ _ _ h => h) (by rfl) (by rfl) ?_; apply Exists.intro; apply And.intro; (intro w; go_simp; try with_reducible rfl); go_frame)
                    (refine regP 12 hS (fun _ h => h) rfl (by kernel_rfl) (by kernel_rfl) (by kernel_rfl) (fun _ _ _ _ h => h) (by rfl) (by rfl) ?_; apply Exists.intro; apply And.intro; (intro w; go_simp; try with_reducible rfl); go_frame)
                    (refine regA 13 rfl (by kernel_rfl) (by rfl) (by rfl) true (by kernel_rfl) (fun K hK => ?_); (refine st hS _ _ _ (by rfl) _ _ (by rfl) _ (by first | exact evC | exact evT (by rfl)) (by rfl) (szOf (by rfl)) (Has.s Has.z) (by rw [tl_len]; omega) ?_; intro w1 hS1; clear hS; have hS := hS1; clear hS1; simp only [List.set_cons_zero, List.set_cons_succ] at hS; rw [HTN.out _ _ _ _ _ _ (by omega), HLE.out] at hS); refine hK _ _ _ hS (by first | (intro h; cases h; done) | exact fun _ _ h => h | exact fun _ _ h => h.drop | exact fun _ _ h => h.drop.drop | exact fun _ _ h => h.drop.pull1 | exact fun _ _ h => h.take2 | exact fun _ _ h => h.one Has.z | exact fun _ _ h => h.one (Has.s Has.z) | exact fun _ _ h => h.one (Has.s (Has.s Has.z))) ?_; clear hK K; go_frame)
                    refine regDone (by kernel_rfl) ?_
                    go_wp2
                    exact ⟨⟨m + 1, by go_num, HLT2.out, hS.drop⟩, by simp [intOf]; have := HLT2.out; omega⟩
                  · obtain rfl : m = d.length := by omega
                    rw [List.take_length, ← TrD.lk0_snoc, ← HTK.out] at hS
                    have p1 : ¬ (d.length : Int) < (d.length : Int) := by omega
                    clear hlt hm
                    go_wp2
                    exact ⟨⟨j + 1, v2, by go_num, HLT.out, HCK2.out, HND2.out, hS⟩, by simp [intOf]; have := HLT.out; omega⟩
              · have HKJ := Lib.hid (show ∀ (n : Nat → Int) (v : Nat → Value) (vt : Value) (a : Nat), a = j * 3 → (tl KF n v vt)[a]? = some (.int .i64 2) from fun n v vt a ha => by rw [← hk]; exact HKJ.out n v vt a ha)
                clear hk
                go_wp2_with (first
                  | (refine toList (by rfl) ?_; refine wp_of_reads (rLdRd (f := dav) (x := ⟨.slice aod d.length cd, d⟩) (u := .slice aod d.length cd) (HD.out _ [_, _, _] hS) (dav_len ds) _ _ (by rfl) _ (by rfl) (agOf (by rfl)) j 0 (by omega) HX.out (by rfl) (by omega)) ?_)
                  | (go_at_call 54; refine (HCH.out _ [_, _, _] hS).mono ?_; rintro r w1 ⟨rfl, hS1⟩; clear hS; have hS := (show Sat W w1 (Cs p _ _ :: rws _ _ :: Ir _ _ :: L) from hS1); clear hS1)
                  | (refine toList (by rfl) ?_; refine ld hS _ _ (by rfl) _ _ (by rfl) (agOf (by rfl)) Has.z (HKJ.out _ _ _ _ (by omega)) ?_))
                refine regStart [3, 8] hS (by kernel_rfl) rfl ?_
                intro w1 hS1
                clear hS; have hS := hS1; clear hS1
                (refine regP 0 hS (fun _ h => h) rfl (by kernel_rfl) (by kernel_rfl) (by kernel_rfl) (fun _ _ _ _ h => h) (by rfl) (by rfl) ?_; apply Exists.intro; apply And.intro; (intro w; go_simp; try with_reducible rfl); go_frame)
                (refine regP 1 hS (fun _ h => h) rfl (by kernel_rfl) (by kernel_rfl) (by kernel_rfl) (fun _ _ _ _ h => h) (by rfl) (by rfl) ?_; apply Exists.intro; apply And.intro; (intro w; go_simp; try with_reducible rfl); go_frame)
                (refine regP 2 hS (fun _ h => h) rfl (by kernel_rfl) (by kernel_rfl) (by kernel_rfl) (fun _ _ _ _ h => h) (by rfl) (by rfl) ?_; apply Exists.intro; apply And.intro; (intro w; go_simp; try with_reducible rfl); go_frame)
                (refine regP 4 hS (fun _ h => h) rfl (by kernel_rfl) (by kernel_rfl) (by kernel_rfl) (fun _ _ _ _ h => h) (by rfl) (by rfl) ?_; apply Exists.intro; apply And.intro; (intro w; go_simp; try with_reducible rfl); go_frame)
                (refine regP 5 hS (fun _ h => h) rfl (by kernel_rfl) (by kernel_rfl) (by kernel_rfl) (fun _ _ _ _ h => h) (by rfl) (by rfl) ?_; apply Exists.intro; apply And.intro; (intro w; go_simp; try with_reducible rfl); go_frame)
                (refine regA 3 rfl (by kernel_rfl) (by rfl) (by rfl) true (by kernel_rfl) (fun K hK => ?_); (first
                                                  | (refine Go.Sep.cl 55 _ _ (by rfl) (by rfl) (by kernel_rfl) (HCL.out _ [_, _, _] hS) ?_; rintro r w1 ⟨v', rfl, hS1⟩; clear hS; have hS := (show Sat W w1 (Er v' d :: Cs p _ _ :: rws _ _ :: Ir _ _ :: L) from hS1); clear hS1; obtain ⟨aoe, ce, rfl, _⟩ := Sat.tbShape (k := 0) (show Sat _ _ (Tb 59 2 ev2 v' d :: _) from hS) rfl; replace hS := hS.pull1; refine ⟨_, rfl, ?_⟩)
                                                  | (refine st hS _ _ _ (by rfl) _ _ (by rfl) _ (by first | exact evC | exact evT (by rfl)) (by rfl) (szOf (by rfl)) Has.z (by rw [tl_len]; omega) ?_; intro w1 hS1; clear hS; have hS := hS1; clear hS1; simp only [List.set_cons_zero] at hS; rw [HTV.out _ _ _ _ _ _ (by omega)] at hS)); refine hK _ _ _ hS (by first | (intro h; cases h; done) | exact fun _ _ h => h | exact fun _ _ h => h.drop | exact fun _ _ h => h.drop.drop | exact fun _ _ h => h.drop.pull1 | exact fun _ _ h => h.take2 | exact fun _ _ h => h.one Has.z | exact fun _ _ h => h.one (Has.s Has.z) | exact fun _ _ h => h.one (Has.s (Has.s Has.z))) ?_; clear hK K; go_frame)
                (refine regP 6 hS (fun _ h => h) rfl (by kernel_rfl) (by kernel_rfl) (by kernel_rfl) (fun _ _ _ _ h => h) (by rfl) (by rfl) ?_; apply Exists.intro; apply And.intro; (intro w; go_simp; try with_reducible rfl); go_frame)
                (refine regP 7 hS (fun _ h => h) rfl (by kernel_rfl) (by kernel_rfl) (by kernel_rfl) (fun _ _ _ _ h => h) (by rfl) (by rfl) ?_; apply Exists.intro; apply And.intro; (intro w; go_simp; try with_reducible rfl); go_frame)
                (refine regA 8 rfl (by kernel_rfl) (by rfl) (by rfl) true (by kernel_rfl) (fun K hK => ?_); (first
                                                  | (refine Go.Sep.cl 55 _ _ (by rfl) (by rfl) (by kernel_rfl) (HCL.out _ [_, _, _] hS) ?_; rintro r w1 ⟨v', rfl, hS1⟩; clear hS; have hS := (show Sat W w1 (Er v' d :: Cs p _ _ :: rws _ _ :: Ir _ _ :: L) from hS1); clear hS1; obtain ⟨aoe, ce, rfl, _⟩ := Sat.tbShape (k := 0) (show Sat _ _ (Tb 59 2 ev2 v' d :: _) from hS) rfl; replace hS := hS.pull1; refine ⟨_, rfl, ?_⟩)
                                                  | (refine st hS _ _ _ (by rfl) _ _ (by rfl) _ (by first | exact evC | exact evT (by rfl)) (by rfl) (szOf (by rfl)) Has.z (by rw [tl_len]; omega) ?_; intro w1 hS1; clear hS; have hS := hS1; clear hS1; simp only [List.set_cons_zero] at hS; rw [HTV.out _ _ _ _ _ _ (by omega)] at hS)); refine hK _ _ _ hS (by first | (intro h; cases h; done) | exact fun _ _ h => h | exact fun _ _ h => h.drop | exact fun _ _ h => h.drop.drop | exact fun _ _ h => h.drop.pull1 | exact fun _ _ h => h.take2 | exact fun _ _ h => h.one Has.z | exact fun _ _ h => h.one (Has.s Has.z) | exact fun _ _ h => h.one (Has.s (Has.s Has.z))) ?_; clear hK K; go_frame)
                refine regDone (by kernel_rfl) ?_
                replace hS := (rws_put (hS.re [1, 2]) HJ48.out).pull1
                rw [HDS.out] at hS
                generalize (upd v j (Value.slice aoe d.length ce)) = v2 at hS
                go_wp2
                have H0 := Lib.hid hS
                go_loopw [89] (fun v89 wz => ∃ m : Nat, v89 = .int .i64 m ∧ m ≤ d.length ∧ Sat W wz (Cs p 69 (tl KF (TrD.lk0 ((ds.map DArg.l).take j) (d.take m)) v2 vt) :: rws v2 (dfi (ds.map DArg.l) (j + 1)) :: Ir vt [] :: L)) (fun v89 _ => d.length - (intOf v89).toNat)
                case atStart => exact ⟨0, rfl, by omega, H0.out⟩
                case round =>
                  clear hS H0
                  obtain ⟨m, rfl, hm, hS⟩ := hrel
                  by_cases hlt : m < d.length
                  · obtain ⟨⟨en, ei⟩, hx⟩ : ∃ e, d[m]? = some e := ⟨_, List.getElem?_eq_getElem hlt⟩
                    obtain ⟨a, ha, h1, h2⟩ := HINO.out m _ hx
                    dsimp only at ha
                    subst ha
                    have HXM := Lib.hid hx
                    obtain ⟨N, hN, hNb⟩ := lk0_le (ds := (ds.map DArg.l).take j) (l := d.take m) (by rw [List.length_take]; have := HJ48.out; omega) (fun e he => by
                      obtain ⟨y, hy, rfl⟩ := List.mem_map.1 (List.mem_of_mem_take he)
                      exact HXL.out y hy) (by rw [List.length_take]; omega) a
                    have HLE := Lib.hid (show upd (TrD.lk0 ((ds.map DArg.l).take j) (d.take m)) a ((N : Int) + 1) = TrD.lk0 ((ds.map DArg.l).take j) (d.take (m + 1)) by
                      rw [← hN, ← TrD.lk0_ent _ _ ⟨en, (a : Int)⟩ a rfl h1, List.take_add_one, hx]; rfl)
                    have HLA := Lib.hid (show ∀ b, b = a * 3 + 1 → (tl KF (TrD.lk0 ((ds.map DArg.l).take j) (d.take m)) v2 vt)[b]? = some (.int .i64 (N : Int)) from fun b hb => tl_at (j := 1) h2 hb (by rw [← hN]; rfl))
                    have HTN := Lib.hid (fun (k n : Nat → Int) (v : Nat → Value) (vt : Value) (x : Int) b (hb : b = a * 3 + 1) => tl_setN (k := k) (n := n) (v := v) (vt := vt) x h2 hb)
                    obtain ⟨bx, ofx, rfl⟩ : ∃ bx ofx, aod = some ⟨bx, ofx, none⟩ := by
                      obtain ⟨_, _, he, h1, h2, h3, h5⟩ := HXD.out _ [_, _, _] hS
                      obtain ⟨b', o', h6, _⟩ := h5 (by omega)
                      simp only [Value.slice.injEq] at he
                      exact ⟨b', o', by rw [he.1, h6]⟩
                    have p1 : (m : Int) < (d.length : Int) := by omega
                    have p2 : (a : Int) < 48 := by omega
                    have p3 : (N : Int) ≤ 100000 := by omega
                    have HLT2 := Lib.hid hlt
                    generalize TrD.lk0 ((ds.map DArg.l).take j) (d.take m) = nf at hS HLE HLA
                    clear hx hlt hm hN hNb h1 h2
                    go_wp2_with (first
                      | (refine toList (by rfl) ?_; refine wp_of_reads (rLdRdA (f := ev2) (x := ⟨en, (a : Int)⟩) (HXD.out _ [_, _, _] hS) (ev2_len d) _ _ (by rfl) _ (by rfl) (agOf (by rfl)) (szOf (by rfl)) m (by omega) HXM.out (by omega)) ?_)
                      | (refine toList (by rfl) ?_; refine al hS _ (by rfl) (zrOf (by rfl)) ?_; intro px w1 hS1; clear hS; have hS := hS1; clear hS1; rw [cells_agg] at hS)
                      | (refine toList (by rfl) ?_; refine stW hS _ _ _ (by rfl) (by rfl) [sv en, .int .i64 (a : Int)] (by rfl) (by simp [Value.oneCell', sv]) (szOf (by rfl)) Has.z (by rfl) ?_; intro w1 hS1; clear hS; have hS := hS1; clear hS1; dsimp only [List.set_cons_zero] at hS))
                    refine regStart [13] hS (by kernel_rfl) rfl ?_
                    intro w1 hS1
                    clear hS; have hS := hS1; clear hS1
                    (refine regP 0 hS (fun _ h => h) rfl (by kernel_rfl) (by kernel_rfl) (by kernel_rfl) (fun _ _ _ _ h => h) (by rfl) (by rfl) ?_; apply Exists.intro; apply And.intro; (intro w; go_simp; try with_reducible rfl); go_frame)
                    (refine regP 1 hS (fun _ h => h) rfl (by kernel_rfl) (by kernel_rfl) (by kernel_rfl) (fun _ _ _ _ h => h) (by rfl) (by rfl) ?_; apply Exists.intro; apply And.intro; (intro w; go_simp; try with_reducible rfl); go_frame)
                    (refine regR 2 hS (fun _ h => h) rfl (by kernel_rfl) (by kernel_rfl) (by kernel_rfl) (by kernel_rfl) (by kernel_rfl) (fun _ _ _ _ h => h) (by rfl) (by rfl) ?_; (first
                                                              | refine ⟨.int .i64 (a : Int), yLd _ _ (by rfl) _ _ (by rfl) (agOf (by rfl)) Has.z (by rfl), ?_⟩
                                                              | refine ⟨.int .i64 (N : Int), yLd _ _ (by rfl) _ _ (by rfl) (agOf (by rfl)) (Has.s Has.z) (HLA.out _ (by omega)), ?_⟩); go_frame)
                    (refine regP 3 hS (fun _ h => h) rfl (by kernel_rfl) (by kernel_rfl) (by kernel_rfl) (fun _ _ _ _ h => h) (by rfl) (by rfl) ?_; apply Exists.intro; apply And.intro; (intro w; go_simp; try with_reducible rfl); go_frame)
                    (refine regP 4 hS (fun _ h => h) rfl (by kernel_rfl) (by kernel_rfl) (by kernel_rfl) (fun _ _ _ _ h => h) (by rfl) (by rfl) ?_; apply Exists.intro; apply And.intro; (intro w; go_simp; try with_reducible rfl); go_frame)
                    (refine regP 5 hS (fun _ h => h) rfl (by kernel_rfl) (by kernel_rfl) (by kernel_rfl) (fun _ _ _ _ h => h) (by rfl) (by rfl) ?_; apply Exists.intro; apply And.intro; (intro w; go_simp; try with_reducible rfl); go_frame)
                    (refine regP 6 hS (fun _ h => h) rfl (by kernel_rfl) (by kernel_rfl) (by kernel_rfl) (fun _ _ _ _ h => h) (by rfl) (by rfl) ?_; apply Exists.intro; apply And.intro; (intro w; go_simp; try with_reducible rfl); go_frame)
                    (refine regR 7 hS (fun _ h => h) rfl (by kernel_rfl) (by kernel_rfl) (by kernel_rfl) (by kernel_rfl) (by kernel_rfl) (fun _ _ _ _ h => h) (by rfl) (by rfl) ?_; (first
                                                              | refine ⟨.int .i64 (a : Int), yLd _ _ (by rfl) _ _ (by rfl) (agOf (by rfl)) Has.z (by rfl), ?_⟩
                                                              | refine ⟨.int .i64 (N : Int), yLd _ _ (by rfl) _ _ (by rfl) (agOf (by rfl)) (Has.s Has.z) (HLA.out _ (by omega)), ?_⟩); go_frame)
                    (refine regP 8 hS (fun _ h => h) rfl (by kernel_rfl) (by kernel_rfl) (by kernel_rfl) (fun _ _ _ _ h => h) (by rfl) (by rfl) ?_; apply Exists.intro; apply And.intro; (intro w; go_simp; try with_reducible rfl); go_frame; try simp (disch := omega) only [IntWalk.i64_in])
                    (refine regP 9 hS (fun _ h => h) rfl (by kernel_rfl) (by kernel_rfl) (by kernel_rfl) (fun _ _ _ _ h => h) (by rfl) (by rfl) ?_; apply Exists.intro; apply And.intro; (intro w; go_simp; try with_reducible rfl); go_frame)
                    (refine regP 10 hS (fun _ h => h) rfl (by kernel_rfl) (by kernel_rfl) (by kernel_rfl) (fun _ _ _ _ h => h) (by rfl) (by rfl) ?_; apply Exists.intro; apply And.intro; (intro w; go_simp; try with_reducible rfl); go_frame)
                    (refine regP 11 hS (fun _ h => h) rfl (by kernel_rfl) (by kernel_rfl) (by kernel_rfl) (fun _ _ _ _ h => h) (by rfl) (by rfl) ?_; apply Exists.intro; apply And.intro; (intro w; go_simp; try with_reducible rfl); go_frame)
                    (refine regP 12 hS (fun _ h => h) rfl (by kernel_rfl) (by kernel_rfl) (by kernel_rfl) (fun _ _ _ _ h => h) (by rfl) (by rfl) ?_; apply Exists.intro; apply And.intro; (intro w; go_simp; try with_reducible rfl); go_frame)
                    (refine regA 13 rfl (by kernel_rfl) (by rfl) (by rfl) true (by kernel_rfl) (fun K hK => ?_); (refine st hS _ _ _ (by rfl) _ _ (by rfl) _ (by first | exact evC | exact evT (by rfl)) (by rfl) (szOf (by rfl)) (Has.s Has.z) (by rw [tl_len]; omega) ?_; intro w1 hS1; clear hS; have hS := hS1; clear hS1; simp only [List.set_cons_zero, List.set_cons_succ] at hS; rw [HTN.out _ _ _ _ _ _ (by omega), HLE.out] at hS); refine hK _ _ _ hS (by first | (intro h; cases h; done) | exact fun _ _ h => h | exact fun _ _ h => h.drop | exact fun _ _ h => h.drop.drop | exact fun _ _ h => h.drop.pull1 | exact fun _ _ h => h.take2 | exact fun _ _ h => h.one Has.z | exact fun _ _ h => h.one (Has.s Has.z) | exact fun _ _ h => h.one (Has.s (Has.s Has.z))) ?_; clear hK K; go_frame)
                    refine regDone (by kernel_rfl) ?_
                    go_wp2
                    exact ⟨⟨m + 1, by go_num, HLT2.out, hS.drop⟩, by simp [intOf]; have := HLT2.out; omega⟩
                  · obtain rfl : m = d.length := by omega
                    rw [List.take_length, ← TrD.lk0_snoc, ← HTK.out] at hS
                    have p1 : ¬ (d.length : Int) < (d.length : Int) := by omega
                    clear hlt hm
                    go_wp2
                    exact ⟨⟨j + 1, v2, by go_num, HLT.out, HCK2.out, HND2.out, hS⟩, by simp [intOf]; have := HLT.out; omega⟩
            · have HN := Lib.hid (show ¬ TrD.LoadOk ks (ds.map DArg.l) from fun h => hnd fun hne => by have := h.nd j d HDM.out hne; rw [← HKF.out]; exact this)
              obtain ⟨hne, hk2⟩ : d ≠ [] ∧ KF j ≠ 2 := by
                refine Decidable.byContradiction fun h => hnd fun hne => ?_
                exact Decidable.byContradiction fun h2 => h ⟨hne, h2⟩
              have d1 : decide ((0 : Int) < (d.length : Int)) = true := decide_eq_true (by have := List.length_pos_iff.2 hne; omega)
              have d2 : decide (0 < d.length) = true := decide_eq_true (List.length_pos_iff.2 hne)
              obtain ⟨kj, hkj⟩ : ∃ kj, KF j = kj := ⟨_, rfl⟩
              rw [hkj] at HKJ hk2
              have d3 : (kj != 2) = true := bne_iff_ne.2 hk2
              clear hx hlt hj hc hnd hdm hd5 hne hk2 hkj
              go_wp2_with (first
                | (refine toList (by rfl) ?_; refine wp_of_reads (rLdRd (f := dav) (x := ⟨.slice aod d.length cd, d⟩) (u := .slice aod d.length cd) (HD.out _ [_, _, _] hS) (dav_len ds) _ _ (by rfl) _ (by rfl) (agOf (by rfl)) j 0 (by omega) HX.out (by rfl) (by omega)) ?_)
                | (go_at_call 54; refine (HCH.out _ [_, _, _] hS).mono ?_; rintro r w1 ⟨rfl, hS1⟩; clear hS; have hS := (show Sat W w1 (Cs p _ _ :: rws _ _ :: Ir _ _ :: L) from hS1); clear hS1)
                | (refine toList (by rfl) ?_; refine ld hS _ _ (by rfl) _ _ (by rfl) (agOf (by rfl)) Has.z (HKJ.out _ _ _ _ (by omega)) ?_))
              go_ret2
              exact ⟨_, rfl, .inr ⟨rfl, HN.out, hS.drop.drop.drop⟩⟩
          · have HCH := Lib.hid (fun w L' (h : Sat W w (L' ++ L)) => show Calls Try.prog 54 #[.slice aod d.length cd] w (fun r w' => r = .returned (.bool false) ∧ Sat W w' (L' ++ L)) from (HCH.out w L' h).mono fun r w' ⟨v, h1, h2, h4⟩ => ⟨by rw [h1, h2.no hc], h4⟩)
            have HN := Lib.hid (show ¬ TrD.LoadOk ks (ds.map DArg.l) from fun h => hc (h.chk d (List.mem_of_getElem? HDM.out)))
            clear hx hlt hj hc hdm hd5
            go_wp2_with (first
              | (refine toList (by rfl) ?_; refine wp_of_reads (rLdRd (f := dav) (x := ⟨.slice aod d.length cd, d⟩) (u := .slice aod d.length cd) (HD.out _ [_, _, _] hS) (dav_len ds) _ _ (by rfl) _ (by rfl) (agOf (by rfl)) j 0 (by omega) HX.out (by rfl) (by omega)) ?_)
              | (go_at_call 54; refine (HCH.out _ [_, _, _] hS).mono ?_; rintro r w1 ⟨rfl, hS1⟩; clear hS; have hS := (show Sat W w1 (Cs p _ _ :: rws _ _ :: Ir _ _ :: L) from hS1); clear hS1)
              | (refine toList (by rfl) ?_; refine ld hS _ _ (by rfl) _ _ (by rfl) (agOf (by rfl)) Has.z (HKJ.out _ _ _ _ (by omega)) ?_))
            go_ret2
            exact ⟨_, rfl, .inr ⟨rfl, HN.out, hS.drop.drop.drop⟩⟩
        · obtain rfl : j = ds.length := by omega
          have hl : (ds.map DArg.l).take ds.length = ds.map DArg.l := List.take_of_length_le (by rw [List.length_map]; exact Nat.le_refl _)
          have hck := HCK.out
          have hnd := HND.out
          rw [hl] at hS hck
          have hdfi : dfi (ds.map DArg.l) ds.length = fun j => ((ds.map DArg.l)[j]?).getD [] := by have := HDE.out; rwa [List.length_map] at this
          rw [hdfi] at hS
          have hk0 : (ks[0]?).getD 0 = 2 := by rw [HK0.out]; rfl
          have hok := TrD.pad_ok H48.out.1 (by rw [List.length_map]; exact H48.out.2) hk0 HKB.out hck
          have hT : Sat W _ (IsT p (TrD.padT ks (ds.map DArg.l)) :: L) := IsT.mk (T := TrD.padT ks (ds.map DArg.l)) (v := v) (vt := vt) (by
            rw [pad_kindF, pad_dirF, TrD.pad_lnk, HKF.out]; exact hS)
          have HYES := Lib.hid (fun (h : TrD.Right (TrD.padT ks (ds.map DArg.l))) => show TrD.LoadOk ks (ds.map DArg.l) from
            { k48 := H48.out.1
              d48 := by rw [List.length_map]; exact H48.out.2
              k0 := hk0
              kk := HKB.out
              chk := hck
              nd := fun i d hd hne => by
                have hi := (List.getElem?_eq_some_iff.1 hd).1
                rw [List.length_map] at hi
                have := hnd i d hi hd hne
                rw [← HKF.out] at this; exact this
              right := h })
          have HRT := Lib.hid (fun w (h : Sat W w (IsT p (TrD.padT ks (ds.map DArg.l)) :: L)) => right_any h hok)
          clear hS hl hck hnd hdfi hok hlt hj HDE
          replace hS := hT
          clear hT
          obtain ⟨T, hPT⟩ : ∃ T, TrD.padT ks (ds.map DArg.l) = T := ⟨_, rfl⟩
          rw [hPT] at hS HYES HRT
          have HPT := Lib.hid hPT
          clear hPT
          have p1 : ¬ (ds.length : Int) < (ds.length : Int) := by omega
          by_cases hr : TrD.Right T
          · have HRT := Lib.hid (fun w (h : Sat W w (IsT p T :: L)) => show Calls Try.prog 56 #[.pointer (some ⟨p, 0, none⟩)] w (fun r w' => r = .returned (.bool true) ∧ Sat W w' (IsT p T :: L)) from (HRT.out w h).mono fun r w' ⟨v, h1, h2, h4⟩ => ⟨by rw [h1, h2.yes hr], h4⟩)
            have HY := Lib.hid (HYES.out hr)
            clear hr
            go_wp2_with (first
              | (go_at_call 56; refine (HRT.out _ hS).mono ?_; rintro r w1 ⟨rfl, hS1⟩; clear hS; have hS := hS1; clear hS1))
            go_ret2
            exact ⟨_, rfl, .inl ⟨p, rfl, HY.out, by rw [HPT.out]; exact hS⟩⟩
          · have HRT := Lib.hid (fun w (h : Sat W w (IsT p T :: L)) => show Calls Try.prog 56 #[.pointer (some ⟨p, 0, none⟩)] w (fun r w' => r = .returned (.bool false) ∧ Sat W w' (IsT p T :: L)) from (HRT.out w h).mono fun r w' ⟨v, h1, h2, h4⟩ => ⟨by rw [h1, h2.no hr], h4⟩)
            have HN := Lib.hid (show ¬ TrD.LoadOk ks (ds.map DArg.l) from fun h => hr (by have := h.right; rw [HPT.out] at this; exact this))
            clear hr
            go_wp2_with (first
              | (go_at_call 56; refine (HRT.out _ hS).mono ?_; rintro r w1 ⟨rfl, hS1⟩; clear hS; have hS := hS1; clear hS1))
            go_ret2
            exact ⟨_, rfl, .inr ⟨rfl, HN.out, hS.drop⟩⟩
end Go.Proofs.Ytiieicdhkcikpaa
