/-
  Package tree: Drop, Unlink.
  Package tree: Link; New.
  Package tree: Rmdir.
  Package tree: New.
-/
import Derived.Test.YtiieicdhkcikpaaMTou
import Derived.Test.YtiieicdhkcikpaaMWlk
namespace Go.Proofs.Ytiieicdhkcikpaa
open Go.RowKit Go.Sep
set_option linter.unusedSimpArgs false
set_option linter.unusedVariables false
attribute [local irreducible] Go.Oper.wp Go.wpList Go.Calls Go.Code.wp Go.Sep.Reg
attribute [local irreducible] IsT IsW
set_option maxRecDepth 20000 in
set_option maxHeartbeats 1000000 in
theorem tdrop_any {W w : World} {L : List Asrt} {p : Nat} {T : TrD} (hS : Sat W w (IsT p T :: L)) (hT : T.Ok) (i : Int) :
    Calls Try.prog 17 #[.pointer (some ⟨p, 0, none⟩), .int .i64 i] w fun r w' => r = .returned (.bool (T.drOk i)) ∧ Sat W w' (IsT p (T.dr i) :: L) := by
  have HNO := Lib.hid (fun w => none_any i w)
  unfold TrD.dr
  have hdr : T.drOk i = (inR i && decide (T.kind i.toNat = 1) && decide (T.links i.toNat = 0)) := rfl
  rw [hdr]
  cases hb : inR i with
  | false =>
    rw [hb] at HNO
    rw [Bool.false_and, Bool.false_and, if_neg (by decide)]
    clear hb hdr
    go_enter Try.func17, Try.ntmps17
    go_wp2_with (go_at_call 38; refine (HNO.out _).mono ?_; rintro r w1 ⟨rfl, rfl⟩)
    go_ret
    exact ⟨rfl, hS⟩
  | true =>
    rw [hb] at HNO
    obtain ⟨m, rfl, hm⟩ := inR_yes hb
    rw [Int.toNat_natCast, Bool.true_and]
    have k1 : (m : Int) < 48 := by omega
    obtain ⟨v, vt, hO⟩ := IsT.open hS
    clear hS
    have hS := hO
    clear hO
    clear hb hdr
    obtain ⟨kk, hkk⟩ : ∃ kk, T.kind m = kk := ⟨_, rfl⟩
    obtain ⟨nn, hnn⟩ : ∃ nn, T.links m = nn := ⟨_, rfl⟩
    rw [hkk, hnn]
    by_cases h1 : kk = 1
    · have e1 : (kk != 1) = false := by rw [h1]; rfl
      by_cases h2 : nn = 0
      · rw [decide_eq_true h1, decide_eq_true h2, Bool.and_true, if_pos rfl]
        have HKK := Lib.hid (TrD.setK_kind hT hm 0)
        have HTO := Lib.hid (fun w v (L' : List Asrt) (h : Sat W w (IsT p (T.setK m 0) :: Ir v [m] :: L')) => ttouch_any h (by simp) (by intro x hx; simp only [List.mem_cons, List.not_mem_nil, or_false] at hx; omega))
        subst h2
        clear h1 hT
        go_enter Try.func17, Try.ntmps17
        go_wp2_with (first
          | (go_at_call 38; refine (HNO.out _).mono ?_; rintro r w1 ⟨rfl, rfl⟩)
          | (refine toList (by rfl) ?_; refine ld hS _ _ (by rfl) _ _ (by rfl) (agOf (by rfl)) Has.z (tl_at (i := m) (j := 0) (u := .int .i64 kk) hm (by omega) (by rw [← hkk]; rfl)) ?_)
          | (refine toList (by rfl) ?_; refine ld hS _ _ (by rfl) _ _ (by rfl) (agOf (by rfl)) Has.z (tl_at (i := m) (j := 1) (u := .int .i64 0) hm (by omega) (by unfold tr3 TrD.lnk; rw [hnn]; rfl)) ?_)
          | (refine toList (by rfl) ?_; refine st hS _ _ _ (by rfl) _ _ (by rfl) _ (by first | exact evC | exact evT (by rfl)) (by rfl) (szOf (by rfl)) Has.z (by rw [tl_len]; omega) ?_; intro w1 hS1; clear hS; have hS := hS1; clear hS1; simp only [List.set_cons_zero] at hS; rw [tl_setK _ hm (by omega)] at hS; replace hS := IsT.mk (T := (T.setK m 0)) (v := v) (vt := vt) (by rw [HKK.out]; exact hS))
          | (refine toList (by rfl) ?_; refine bsF hS _ _ _ (by rfl) (elOf (by rfl)) [.int .i64 (m : Int)] (by rfl) (by rfl) (by decide) (by decide) (by intro v hv; simp only [List.mem_cons, List.not_mem_nil, or_false] at hv; rcases hv with rfl <;> rfl) ?_; intro b1 w1 hS1; clear hS; have hS := csIr (l := [m]) (by simp) (show Sat W w1 (Cs b1 _ (iv [m]) :: _) from hS1); clear hS1)
          | (go_at_call 36; refine (HTO.out _ _ _ hS.pull1).mono ?_; rintro r w1 ⟨rfl, hS1⟩; clear hS; have hS := hS1; clear hS1))
        go_ret
        exact ⟨rfl, hS⟩
      · rw [decide_eq_true h1, decide_eq_false h2, Bool.and_false, if_neg (by decide)]
        have e2 : decide ((0 : Int) < (nn : Int)) = true := decide_eq_true (by omega)
        have e3 : decide (0 < nn) = true := decide_eq_true (by omega)
        have e4 : 0 < nn := by omega
        clear h1 h2
        go_enter Try.func17, Try.ntmps17
        go_wp2_with (first
          | (go_at_call 38; refine (HNO.out _).mono ?_; rintro r w1 ⟨rfl, rfl⟩)
          | (refine toList (by rfl) ?_; refine ld hS _ _ (by rfl) _ _ (by rfl) (agOf (by rfl)) Has.z (tl_at (i := m) (j := 0) (u := .int .i64 kk) hm (by omega) (by rw [← hkk]; rfl)) ?_)
          | (refine toList (by rfl) ?_; refine ld hS _ _ (by rfl) _ _ (by rfl) (agOf (by rfl)) Has.z (tl_at (i := m) (j := 1) (u := .int .i64 (nn : Int)) hm (by omega) (by unfold tr3 TrD.lnk; rw [hnn]; rfl)) ?_))
        go_ret
        exact ⟨rfl, IsT.mk hS⟩
    · rw [decide_eq_false h1, Bool.false_and, if_neg (by decide)]
      have e1 : (kk != 1) = true := bne_iff_ne.2 h1
      clear h1
      go_enter Try.func17, Try.ntmps17
      go_wp2_with (first
        | (go_at_call 38; refine (HNO.out _).mono ?_; rintro r w1 ⟨rfl, rfl⟩)
        | (refine toList (by rfl) ?_; refine ld hS _ _ (by rfl) _ _ (by rfl) (agOf (by rfl)) Has.z (tl_at (i := m) (j := 0) (u := .int .i64 kk) hm (by omega) (by rw [← hkk]; rfl)) ?_))
      go_ret
      exact ⟨rfl, IsT.mk hS⟩
set_option maxRecDepth 20000 in
set_option maxHeartbeats 1000000 in
theorem tunlink_any {W w : World} {L : List Asrt} {p : Nat} {T : TrD} (hS : Sat W w (IsT p T :: L)) (hT : T.Ok) (l : List (List UInt8)) (ao : Option Addr) (c : Nat) (hr : ∀ w L', Sat W w (L' ++ L) → Rd w (.slice ao l.length c) l.length 1 (l.flatMap sv1)) (hl : l.length ≤ 1000000) :
    Calls Try.prog 14 #[.pointer (some ⟨p, 0, none⟩), .slice ao l.length c] w fun r w' => r = .returned (.tuple #[.int .i64 (T.ulI l : Nat), .int .i64 (T.ulE l)]) ∧ Sat W w' (IsT p (T.ul l) :: L) := by
  have HPL := Lib.hid (fun w (h : Sat W w (IsT p T :: L)) => tplace_any h hT l ao c hr hl)
  have HWK := Lib.hid (fun w (h : Sat W w (IsT p T :: L)) => twalk_any h hT l ao c hr hl)
  have HT := Lib.hid hT
  clear hr hT
  by_cases h0 : l = []
  · have hE : T.ulE l = 1 := by unfold TrD.ulE; rw [if_pos h0]
    have hI : T.ulI l = 0 := by unfold TrD.ulI; rw [hE, if_neg (by decide)]
    have hM : T.ul l = T := by unfold TrD.ul; rw [hE, if_neg (by decide)]
    rw [hI, hM, hE]
    have e0 : ((l.length : Int) == 0) = true := by rw [h0]; rfl
    have e1 : l.length ≤ 0 := by rw [h0]; exact Nat.le_refl _
    clear hE hI hM
    subst h0
    go_enter Try.func14, Try.ntmps14
    go_wp2
    go_ret2
    exact ⟨rfl, hS⟩
  · have e0 : ((l.length : Int) == 0) = false := beq_eq_false_iff_ne.2 (by have := List.length_pos_iff.2 h0; omega)
    obtain ⟨i, hi, hi48⟩ := HT.out.walk_lt l 0 (by omega)
    by_cases hw : (T.walk 0 l).2 = 0
    · obtain ⟨p1, p2, _, p4, p5, p6⟩ := HT.out.parent h0 hw
      have HP := Lib.hid (fun w (h : Sat W w (IsT p T :: L)) => (show Calls Try.prog 33 #[.pointer (some ⟨p, 0, none⟩), .slice ao l.length c] w fun r w' => r = .returned (.tuple #[.int .i64 (T.pD l : Nat), sv (TrD.lastN l), .int .i64 0]) ∧ Sat W w' (IsT p T :: L) from
        (HPL.out w h).mono fun r w' ⟨dd, nm, h1, h2, h3⟩ => by obtain ⟨rfl, rfl⟩ := h2 p1; rw [p1] at h1; exact ⟨h1, h3⟩))
      rw [hi, hw] at HWK
      rw [hi] at p5
      have HRE := Lib.hid (fun w (h : Sat W w (IsT p T :: L)) => tremove_any h HT.out p2 p5)
      have k1 : (i : Int) < 48 := by omega
      obtain ⟨kk, hkk⟩ : ∃ kk, T.kind i = kk := ⟨_, rfl⟩
      by_cases h2 : kk = 2
      · have hE : T.ulE l = 7 := by unfold TrD.ulE; rw [if_neg h0, if_pos hw, hi, Int.toNat_natCast, hkk, if_pos h2]
        have hI : T.ulI l = 0 := by unfold TrD.ulI; rw [hE, if_neg (by decide)]
        have hM : T.ul l = T := by unfold TrD.ul; rw [hE, if_neg (by decide)]
        rw [hI, hM, hE]
        have e1 : (kk == 2) = true := by rw [h2]; rfl
        clear hE hI hM h0 hw hi h2 p1 p4 p5 p6 HPL HP HRE
        go_enter Try.func14, Try.ntmps14
        go_wp2_with (first
          | (go_at_call 26; refine (HWK.out _ hS).mono ?_; rintro r w1 ⟨rfl, hS1⟩; clear hS; have hS := hS1; clear hS1; obtain ⟨v, vt, hO⟩ := IsT.open hS; clear hS; have hS := hO; clear hO)
          | (refine toList (by rfl) ?_; refine ld hS _ _ (by rfl) _ _ (by rfl) (agOf (by rfl)) Has.z (tl_at (i := i) (j := 0) (u := .int .i64 kk) hi48 (by omega) (by rw [← hkk]; rfl)) ?_))
        go_ret2
        exact ⟨rfl, IsT.mk hS⟩
      · have hE : T.ulE l = 0 := by unfold TrD.ulE; rw [if_neg h0, if_pos hw, hi, Int.toNat_natCast, hkk, if_neg h2]
        have hI : T.ulI l = i := by unfold TrD.ulI; rw [hE, if_pos rfl, hi, Int.toNat_natCast]
        have hM : T.ul l = (T.del (T.pD l) (TrD.lastN l)).tch [T.pD l, i] := by unfold TrD.ul; rw [hE, if_pos rfl, hI]
        rw [hI, hM, hE]
        have e1 : (kk == 2) = false := beq_eq_false_iff_ne.2 h2
        obtain ⟨d, hdd⟩ : ∃ d, T.pD l = d := ⟨_, rfl⟩
        obtain ⟨n, hnn⟩ : ∃ n, TrD.lastN l = n := ⟨_, rfl⟩
        rw [hdd, hnn] at HP HRE ⊢
        rw [hdd] at p2
        obtain ⟨T2, hT2⟩ : ∃ T2, T.del d n = T2 := ⟨_, rfl⟩
        rw [hT2] at HRE ⊢
        have HTO := Lib.hid (fun w v (L' : List Asrt) (h : Sat W w (IsT p T2 :: Ir v [d, i] :: L')) => ttouch_any h (by simp) (by intro x hx; simp only [List.mem_cons, List.not_mem_nil, or_false] at hx; omega))
        clear hE hI hM h0 hw hi h2 p1 p4 p5 p6 HPL hdd hnn hT2
        go_enter Try.func14, Try.ntmps14
        go_wp2_with (first
          | (go_at_call 26; refine (HWK.out _ hS).mono ?_; rintro r w1 ⟨rfl, hS1⟩; clear hS; have hS := hS1; clear hS1; obtain ⟨v, vt, hO⟩ := IsT.open hS; clear hS; have hS := hO; clear hO)
          | (refine toList (by rfl) ?_; refine ld hS _ _ (by rfl) _ _ (by rfl) (agOf (by rfl)) Has.z (tl_at (i := i) (j := 0) (u := .int .i64 kk) hi48 (by omega) (by rw [← hkk]; rfl)) ?_)
          | (go_at_call 33; refine (HP.out _ (IsT.mk hS)).mono ?_; rintro r w1 ⟨rfl, hS1⟩; clear hS; have hS := hS1; clear hS1)
          | (go_at_call 37; refine (HRE.out _ hS).mono ?_; rintro r w1 ⟨rfl, hS1⟩; clear hS; have hS := hS1; clear hS1)
          | (refine toList (by rfl) ?_; refine bsF hS _ _ _ (by rfl) (elOf (by rfl)) [.int .i64 (d : Int), .int .i64 (i : Int)] (by rfl) (by rfl) (by decide) (by decide) (by intro v hv; simp only [List.mem_cons, List.not_mem_nil, or_false] at hv; rcases hv with rfl | rfl <;> rfl) ?_; intro b1 w1 hS1; clear hS; have hS := csIr (l := [d, i]) (by simp) (show Sat W w1 (Cs b1 _ (iv [d, i]) :: _) from hS1); clear hS1)
          | (go_at_call 36; refine (HTO.out _ _ _ hS.pull1).mono ?_; rintro r w1 ⟨rfl, hS1⟩; clear hS; have hS := hS1; clear hS1))
        go_ret2
        exact ⟨rfl, hS⟩
    · have hE : T.ulE l = (T.walk 0 l).2 := by unfold TrD.ulE; rw [if_neg h0, if_neg hw]
      have hE0 : T.ulE l ≠ 0 := by rw [hE]; exact hw
      have hI : T.ulI l = 0 := by unfold TrD.ulI; rw [if_neg hE0]
      have hM : T.ul l = T := by unfold TrD.ul; rw [if_neg hE0]
      rw [hI, hM, hE]
      obtain ⟨we, hwe⟩ : ∃ we, (T.walk 0 l).2 = we := ⟨_, rfl⟩
      rw [hi, hwe] at HWK
      rw [hwe] at hw ⊢
      have e1 : (we != 0) = true := bne_iff_ne.2 hw
      clear hE hE0 hI hM h0 hw hi hwe HPL
      go_enter Try.func14, Try.ntmps14
      go_wp2_with (go_at_call 26; refine (HWK.out _ hS).mono ?_; rintro r w1 ⟨rfl, hS1⟩; clear hS; have hS := hS1; clear hS1)
      go_ret2
      exact ⟨rfl, hS⟩
end Go.Proofs.Ytiieicdhkcikpaa
namespace Go.Proofs.Ytiieicdhkcikpaa
open Go.RowKit Go.Sep
set_option linter.unusedSimpArgs false
set_option linter.unusedVariables false
attribute [local irreducible] Go.Oper.wp Go.wpList Go.Calls Go.Code.wp Go.Sep.Reg
attribute [local irreducible] IsT IsW
set_option maxRecDepth 20000 in
set_option maxHeartbeats 2000000 in
theorem tlink_any {W w : World} {L : List Asrt} {p : Nat} {T : TrD} (hS : Sat W w (IsT p T :: L)) (hT : T.Ok) (l to : List (List UInt8)) (ao ao' : Option Addr) (c c' : Nat) (hr : ∀ w L', Sat W w (L' ++ L) → Rd w (.slice ao l.length c) l.length 1 (l.flatMap sv1)) (hl : l.length ≤ 1000000)
    (hr' : ∀ w L', Sat W w (L' ++ L) → Rd w (.slice ao' to.length c') to.length 1 (to.flatMap sv1)) (hl' : to.length ≤ 1000000) :
    Calls Try.prog 20 #[.pointer (some ⟨p, 0, none⟩), .slice ao l.length c, .slice ao' to.length c'] w fun r w' => r = .returned (.tuple #[.int .i64 (T.lkI l to : Nat), .int .i64 (T.lkE l to)]) ∧ Sat W w' (IsT p (T.lk l to) :: L) := by
  have HPL := Lib.hid (fun w (h : Sat W w (IsT p T :: L)) => tplace_any h hT to ao' c' hr' hl')
  have HWK := Lib.hid (fun w (h : Sat W w (IsT p T :: L)) => twalk_any h hT l ao c hr hl)
  have HT := Lib.hid hT
  clear hr hr' hT
  obtain ⟨i, hi, hi48⟩ := HT.out.walk_lt l 0 (by omega)
  by_cases hw : (T.walk 0 l).2 = 0
  · rw [hi, hw] at HWK
    have k1 : (i : Int) < 48 := by omega
    obtain ⟨kk, hkk⟩ : ∃ kk, T.kind i = kk := ⟨_, rfl⟩
    by_cases h2 : kk = 2
    · have hE : T.lkE l to = 7 := by unfold TrD.lkE; rw [if_pos hw, hi, Int.toNat_natCast, hkk, if_pos h2]
      have hI : T.lkI l to = 0 := by unfold TrD.lkI; rw [hE, if_neg (by decide)]
      have hM : T.lk l to = T := by unfold TrD.lk; rw [hE, if_neg (by decide)]
      rw [hI, hM, hE]
      have e1 : (kk == 2) = true := by rw [h2]; rfl
      clear hE hI hM hw hi h2 HPL
      go_enter Try.func20, Try.ntmps20
      go_wp2_with (first
        | (go_at_call 26; refine (HWK.out _ hS).mono ?_; rintro r w1 ⟨rfl, hS1⟩; clear hS; have hS := hS1; clear hS1; obtain ⟨v, vt, hO⟩ := IsT.open hS; clear hS; have hS := hO; clear hO)
        | (refine toList (by rfl) ?_; refine ld hS _ _ (by rfl) _ _ (by rfl) (agOf (by rfl)) Has.z (tl_at (i := i) (j := 0) (u := .int .i64 kk) hi48 (by omega) (by rw [← hkk]; rfl)) ?_)
        )
      go_ret2
      exact ⟨rfl, IsT.mk hS⟩
    · have e1 : (kk == 2) = false := beq_eq_false_iff_ne.2 h2
      by_cases hp : T.pE to = 0
      · obtain ⟨hne, hn, hd, hkd, _⟩ := HT.out.pE_zero hp
        have HP := Lib.hid (fun w (h : Sat W w (IsT p T :: L)) => (show Calls Try.prog 33 #[.pointer (some ⟨p, 0, none⟩), .slice ao' to.length c'] w fun r w' => r = .returned (.tuple #[.int .i64 (T.pD to : Nat), sv (TrD.lastN to), .int .i64 0]) ∧ Sat W w' (IsT p T :: L) from
          (HPL.out w h).mono fun r w' ⟨dd, nm, h1, h2, h3⟩ => by obtain ⟨rfl, rfl⟩ := h2 hp; rw [hp] at h1; exact ⟨h1, h3⟩))
        have hi1 : 1 ≤ i := by
          rcases Nat.eq_zero_or_pos i with e | e
          · subst e; rw [HT.out.k0] at hkk; exact absurd hkk.symm h2
          · exact e
        have hE0 : T.lkE l to = if hasE (T.dir (T.pD to)) (TrD.lastN to) = true then 6 else if 64 ≤ (T.dir (T.pD to)).length then 5 else 0 := by
          unfold TrD.lkE; rw [if_pos hw, hi, Int.toNat_natCast, hkk, if_neg h2, if_pos hp]
        have hC0 : addC (T.dir (T.pD to)) ⟨TrD.lastN to, (i : Int)⟩ = T.lkE l to := by
          rw [hE0]; unfold addC
          have hok : entOk ⟨TrD.lastN to, (i : Int)⟩ = true := by unfold entOk; rw [hn]; simp; omega
          rw [hok, if_pos rfl]
        have HAD := Lib.hid (fun w (h : Sat W w (IsT p T :: L)) => tadd_any h HT.out (d := T.pD to) (i := i) hd (TrD.lastN to))
        unfold TrD.addT at HAD
        rw [hC0] at HAD
        by_cases h0 : T.lkE l to = 0
        · have hI : T.lkI l to = i := by unfold TrD.lkI; rw [if_pos h0, hi, Int.toNat_natCast]
          have hM : T.lk l to = (T.put (T.pD to) i (TrD.lastN to)).tch [T.pD to, i] := by unfold TrD.lk; rw [if_pos h0, hI]
          rw [hI, hM]
          rw [h0] at HAD ⊢
          rw [if_pos rfl] at HAD
          obtain ⟨d, hdd⟩ : ∃ d, T.pD to = d := ⟨_, rfl⟩
          obtain ⟨n, hnn⟩ : ∃ n, TrD.lastN to = n := ⟨_, rfl⟩
          rw [hdd, hnn] at HP HAD ⊢
          rw [hdd] at hd
          obtain ⟨T2, hT2⟩ : ∃ T2, T.put d i n = T2 := ⟨_, rfl⟩
          rw [hT2] at HAD ⊢
          have HTO := Lib.hid (fun w v (L' : List Asrt) (h : Sat W w (IsT p T2 :: Ir v [d, i] :: L')) => ttouch_any h (by simp) (by intro x hx; simp only [List.mem_cons, List.not_mem_nil, or_false] at hx; omega))
          clear h0 hI hM hE0 hC0 hw hi h2 hp hne hn hkd hdd hnn hT2 HPL
          go_enter Try.func20, Try.ntmps20
          go_wp2_with (first
            | (go_at_call 26; refine (HWK.out _ hS).mono ?_; rintro r w1 ⟨rfl, hS1⟩; clear hS; have hS := hS1; clear hS1; obtain ⟨v, vt, hO⟩ := IsT.open hS; clear hS; have hS := hO; clear hO)
            | (refine toList (by rfl) ?_; refine ld hS _ _ (by rfl) _ _ (by rfl) (agOf (by rfl)) Has.z (tl_at (i := i) (j := 0) (u := .int .i64 kk) hi48 (by omega) (by rw [← hkk]; rfl)) ?_)
            | (go_at_call 33; refine (HP.out _ (IsT.mk hS)).mono ?_; rintro r w1 ⟨rfl, hS1⟩; clear hS; have hS := hS1; clear hS1)
                      | (go_at_call 35; refine (HAD.out _ hS).mono ?_; rintro r w1 ⟨rfl, hS1⟩; clear hS; have hS := hS1; clear hS1)
                      | (refine toList (by rfl) ?_; refine bsF hS _ _ _ (by rfl) (elOf (by rfl)) [.int .i64 (d : Int), .int .i64 (i : Int)] (by rfl) (by rfl) (by decide) (by decide) (by intro v hv; simp only [List.mem_cons, List.not_mem_nil, or_false] at hv; rcases hv with rfl | rfl <;> rfl) ?_; intro b1 w1 hS1; clear hS; have hS := csIr (l := [d, i]) (by simp) (show Sat W w1 (Cs b1 _ (iv [d, i]) :: _) from hS1); clear hS1)
                      | (go_at_call 36; refine (HTO.out _ _ _ hS.pull1).mono ?_; rintro r w1 ⟨rfl, hS1⟩; clear hS; have hS := hS1; clear hS1))
          go_ret2
          exact ⟨rfl, hS⟩
        · have hI : T.lkI l to = 0 := by unfold TrD.lkI; rw [if_neg h0]
          have hM : T.lk l to = T := by unfold TrD.lk; rw [if_neg h0]
          rw [hI, hM]
          obtain ⟨ee, hee⟩ : ∃ ee, T.lkE l to = ee := ⟨_, rfl⟩
          rw [hee] at HAD h0 ⊢
          rw [if_neg h0] at HAD
          have e2 : (ee != 0) = true := bne_iff_ne.2 h0
          obtain ⟨d, hdd⟩ : ∃ d, T.pD to = d := ⟨_, rfl⟩
          obtain ⟨n, hnn⟩ : ∃ n, TrD.lastN to = n := ⟨_, rfl⟩
          rw [hdd, hnn] at HP HAD
          clear h0 hI hM hE0 hC0 hw hi h2 hp hne hn hkd hdd hnn hee HPL
          go_enter Try.func20, Try.ntmps20
          go_wp2_with (first
            | (go_at_call 26; refine (HWK.out _ hS).mono ?_; rintro r w1 ⟨rfl, hS1⟩; clear hS; have hS := hS1; clear hS1; obtain ⟨v, vt, hO⟩ := IsT.open hS; clear hS; have hS := hO; clear hO)
            | (refine toList (by rfl) ?_; refine ld hS _ _ (by rfl) _ _ (by rfl) (agOf (by rfl)) Has.z (tl_at (i := i) (j := 0) (u := .int .i64 kk) hi48 (by omega) (by rw [← hkk]; rfl)) ?_)
            | (go_at_call 33; refine (HP.out _ (IsT.mk hS)).mono ?_; rintro r w1 ⟨rfl, hS1⟩; clear hS; have hS := hS1; clear hS1)
                      | (go_at_call 35; refine (HAD.out _ hS).mono ?_; rintro r w1 ⟨rfl, hS1⟩; clear hS; have hS := hS1; clear hS1))
          go_ret2
          exact ⟨rfl, hS⟩
      · have hE : T.lkE l to = T.pE to := by unfold TrD.lkE; rw [if_pos hw, hi, Int.toNat_natCast, hkk, if_neg h2, if_neg hp]
        have hE0 : T.lkE l to ≠ 0 := by rw [hE]; exact hp
        have hI : T.lkI l to = 0 := by unfold TrD.lkI; rw [if_neg hE0]
        have hM : T.lk l to = T := by unfold TrD.lk; rw [if_neg hE0]
        rw [hI, hM, hE]
        obtain ⟨ee, hee⟩ : ∃ ee, T.pE to = ee := ⟨_, rfl⟩
        rw [hee] at HPL hp ⊢
        have e2 : (ee != 0) = true := bne_iff_ne.2 hp
        have e3 : (ee == 0) = false := beq_eq_false_iff_ne.2 hp
        clear hE hE0 hI hM hw hi h2 hp hee
        go_enter Try.func20, Try.ntmps20
        go_wp2_with (first
          | (go_at_call 26; refine (HWK.out _ hS).mono ?_; rintro r w1 ⟨rfl, hS1⟩; clear hS; have hS := hS1; clear hS1; obtain ⟨v, vt, hO⟩ := IsT.open hS; clear hS; have hS := hO; clear hO)
          | (refine toList (by rfl) ?_; refine ld hS _ _ (by rfl) _ _ (by rfl) (agOf (by rfl)) Has.z (tl_at (i := i) (j := 0) (u := .int .i64 kk) hi48 (by omega) (by rw [← hkk]; rfl)) ?_)
          | (go_at_call 33; refine (HPL.out _ (IsT.mk hS)).mono ?_; rintro r w1 ⟨dd, nm, rfl, _, hS1⟩; clear hS; have hS := hS1; clear hS1))
        go_ret2
        exact ⟨rfl, hS⟩
  · have hE : T.lkE l to = (T.walk 0 l).2 := by unfold TrD.lkE; rw [if_neg hw]
    have hE0 : T.lkE l to ≠ 0 := by rw [hE]; exact hw
    have hI : T.lkI l to = 0 := by unfold TrD.lkI; rw [if_neg hE0]
    have hM : T.lk l to = T := by unfold TrD.lk; rw [if_neg hE0]
    rw [hI, hM, hE]
    obtain ⟨we, hwe⟩ : ∃ we, (T.walk 0 l).2 = we := ⟨_, rfl⟩
    rw [hi, hwe] at HWK
    rw [hwe] at hw ⊢
    have e1 : (we != 0) = true := bne_iff_ne.2 hw
    clear hE hE0 hI hM hw hi hwe HPL
    go_enter Try.func20, Try.ntmps20
    go_wp2_with (go_at_call 26; refine (HWK.out _ hS).mono ?_; rintro r w1 ⟨rfl, hS1⟩; clear hS; have hS := hS1; clear hS1)
    go_ret2
    exact ⟨rfl, hS⟩
end Go.Proofs.Ytiieicdhkcikpaa
namespace Go.Proofs.Ytiieicdhkcikpaa
open Go.RowKit Go.Sep
set_option linter.unusedSimpArgs false
set_option linter.unusedVariables false
attribute [local irreducible] Go.Oper.wp Go.wpList Go.Calls Go.Code.wp Go.Sep.Reg
attribute [local irreducible] IsT IsW
set_option maxRecDepth 20000 in
set_option maxHeartbeats 2000000 in
theorem trmdir_any {W w : World} {L : List Asrt} {p : Nat} {T : TrD} (hS : Sat W w (IsT p T :: L)) (hT : T.Ok) (l : List (List UInt8)) (ao : Option Addr) (c : Nat) (hr : ∀ w L', Sat W w (L' ++ L) → Rd w (.slice ao l.length c) l.length 1 (l.flatMap sv1)) (hl : l.length ≤ 1000000) :
    Calls Try.prog 43 #[.pointer (some ⟨p, 0, none⟩), .slice ao l.length c] w fun r w' => r = .returned (.tuple #[.int .i64 (T.rdI l : Nat), .int .i64 (T.rdE l)]) ∧ Sat W w' (IsT p (T.rd l) :: L) := by
  have HPL := Lib.hid (fun w (h : Sat W w (IsT p T :: L)) => tplace_any h hT l ao c hr hl)
  have HWK := Lib.hid (fun w (h : Sat W w (IsT p T :: L)) => twalk_any h hT l ao c hr hl)
  have HT := Lib.hid hT
  clear hr hT
  by_cases h0 : l = []
  · have hE : T.rdE l = 10 := by unfold TrD.rdE; rw [if_pos h0]
    have hI : T.rdI l = 0 := by unfold TrD.rdI; rw [hE, if_neg (by decide)]
    have hM : T.rd l = T := by unfold TrD.rd; rw [hE, if_neg (by decide)]
    rw [hI, hM, hE]
    clear hE hI hM
    subst h0
    go_enter Try.func43, Try.ntmps43
    go_wp2
    go_ret2
    exact ⟨rfl, hS⟩
  · have e0 : ((l.length : Int) == 0) = false := beq_eq_false_iff_ne.2 (by have := List.length_pos_iff.2 h0; omega)
    obtain ⟨i, hi, hi48⟩ := HT.out.walk_lt l 0 (by omega)
    by_cases hw : (T.walk 0 l).2 = 0
    · obtain ⟨p1, p2, _, p4, p5, p6⟩ := HT.out.parent h0 hw
      have HP := Lib.hid (fun w (h : Sat W w (IsT p T :: L)) => (show Calls Try.prog 33 #[.pointer (some ⟨p, 0, none⟩), .slice ao l.length c] w fun r w' => r = .returned (.tuple #[.int .i64 (T.pD l : Nat), sv (TrD.lastN l), .int .i64 0]) ∧ Sat W w' (IsT p T :: L) from
        (HPL.out w h).mono fun r w' ⟨dd, nm, h1, h2, h3⟩ => by obtain ⟨rfl, rfl⟩ := h2 p1; rw [p1] at h1; exact ⟨h1, h3⟩))
      rw [hi, hw] at HWK
      rw [hi] at p5
      have HRE := Lib.hid (fun w (h : Sat W w (IsT p T :: L)) => tremove_any h HT.out p2 p5)
      have hi1 : 1 ≤ i := by
        obtain ⟨_, j1, _⟩ := HT.out.find_ino p2 p5
        omega
      have k1 : (i : Int) < 48 := by omega
      obtain ⟨kk, hkk⟩ : ∃ kk, T.kind i = kk := ⟨_, rfl⟩
      obtain ⟨dl, hdl⟩ : ∃ dl, (T.dir i).length = dl := ⟨_, rfl⟩
      by_cases h2 : kk = 2
      · have e1 : (kk != 2) = false := by rw [h2]; rfl
        by_cases h3 : 0 < dl
        · have hE : T.rdE l = 9 := by unfold TrD.rdE; rw [if_neg h0, if_pos hw, hi, Int.toNat_natCast, hkk, if_pos h2, hdl, if_pos h3]
          have hI : T.rdI l = 0 := by unfold TrD.rdI; rw [hE, if_neg (by decide)]
          have hM : T.rd l = T := by unfold TrD.rd; rw [hE, if_neg (by decide)]
          rw [hI, hM, hE]
          have e2 : decide ((0 : Int) < (dl : Int)) = true := decide_eq_true (by omega)
          have e3 : decide (0 < dl) = true := decide_eq_true h3
          clear hE hI hM h0 hw hi h2 p1 p4 p5 p6 HPL HP HRE
          go_enter Try.func43, Try.ntmps43
          go_wp2_with (first
            | (go_at_call 26; refine (HWK.out _ hS).mono ?_; rintro r w1 ⟨rfl, hS1⟩; clear hS; have hS := hS1; clear hS1; obtain ⟨v, vt, hO⟩ := IsT.open hS; clear hS; have hS := hO; clear hO; obtain ⟨ao1, c1, hv, _⟩ := rws_shape hS (k := 1) rfl hi48)
            | (refine toList (by rfl) ?_; refine ld hS _ _ (by rfl) _ _ (by rfl) (agOf (by rfl)) Has.z (tl_at (i := i) (j := 0) (u := .int .i64 kk) hi48 (by omega) (by rw [← hkk]; rfl)) ?_)
            | (refine toList (by rfl) ?_; refine ld hS _ _ (by rfl) _ _ (by rfl) (agOf (by rfl)) Has.z (tl_at (i := i) (j := 2) (u := .slice ao1 dl c1) hi48 (by omega) (by rw [← hdl, ← hv]; rfl)) ?_)
            )
          go_ret2
          exact ⟨rfl, IsT.mk hS⟩
        · have hE : T.rdE l = 0 := by unfold TrD.rdE; rw [if_neg h0, if_pos hw, hi, Int.toNat_natCast, hkk, if_pos h2, hdl, if_neg h3]
          have hI : T.rdI l = i := by unfold TrD.rdI; rw [hE, if_pos rfl, hi, Int.toNat_natCast]
          have hM : T.rd l = ((T.del (T.pD l) (TrD.lastN l)).setK i 0).tch [T.pD l, i] := by unfold TrD.rd; rw [hE, if_pos rfl, hI]
          rw [hI, hM, hE]
          have e2 : decide ((0 : Int) < (dl : Int)) = false := decide_eq_false (by omega)
          have e3 : decide (0 < dl) = false := decide_eq_false h3
          have e4 : ¬ 0 < dl := h3
          have hOK2 := HT.out.del p2 (TrD.lastN l)
          obtain ⟨d, hdd⟩ : ∃ d, T.pD l = d := ⟨_, rfl⟩
          obtain ⟨n, hnn⟩ : ∃ n, TrD.lastN l = n := ⟨_, rfl⟩
          rw [hdd, hnn] at HP HRE hOK2 ⊢
          rw [hdd] at p2
          obtain ⟨T2, hT2⟩ : ∃ T2, T.del d n = T2 := ⟨_, rfl⟩
          rw [hT2] at HRE hOK2 ⊢
          have HKK := Lib.hid (TrD.setK_kind hOK2 hi48 0)
          have HTO := Lib.hid (fun w v (L' : List Asrt) (h : Sat W w (IsT p (T2.setK i 0) :: Ir v [d, i] :: L')) => ttouch_any h (by simp) (by intro x hx; simp only [List.mem_cons, List.not_mem_nil, or_false] at hx; omega))
          clear hE hI hM h0 hw hi h2 h3 p1 p4 p5 p6 HPL hdd hnn hT2 hOK2
          go_enter Try.func43, Try.ntmps43
          go_wp2_with (first
            | (go_at_call 26; refine (HWK.out _ hS).mono ?_; rintro r w1 ⟨rfl, hS1⟩; clear hS; have hS := hS1; clear hS1; obtain ⟨v, vt, hO⟩ := IsT.open hS; clear hS; have hS := hO; clear hO; obtain ⟨ao1, c1, hv, _⟩ := rws_shape hS (k := 1) rfl hi48)
            | (refine toList (by rfl) ?_; refine ld hS _ _ (by rfl) _ _ (by rfl) (agOf (by rfl)) Has.z (tl_at (i := i) (j := 0) (u := .int .i64 kk) hi48 (by omega) (by rw [← hkk]; rfl)) ?_)
            | (refine toList (by rfl) ?_; refine ld hS _ _ (by rfl) _ _ (by rfl) (agOf (by rfl)) Has.z (tl_at (i := i) (j := 2) (u := .slice ao1 dl c1) hi48 (by omega) (by rw [← hdl, ← hv]; rfl)) ?_)
            | (go_at_call 33; refine (HP.out _ (IsT.mk hS)).mono ?_; rintro r w1 ⟨rfl, hS1⟩; clear hS; have hS := hS1; clear hS1)
                      | (go_at_call 37; refine (HRE.out _ hS).mono ?_; rintro r w1 ⟨rfl, hS1⟩; clear hS; have hS := hS1; clear hS1; obtain ⟨v2, vt2, hO⟩ := IsT.open hS; clear hS; have hS := hO; clear hO)
                      | (refine toList (by rfl) ?_; refine st hS _ _ _ (by rfl) _ _ (by rfl) _ (by first | exact evC | exact evT (by rfl)) (by rfl) (szOf (by rfl)) Has.z (by rw [tl_len]; omega) ?_; intro w1 hS1; clear hS; have hS := hS1; clear hS1; simp only [List.set_cons_zero] at hS; rw [tl_setK _ hi48 (by omega)] at hS; replace hS := IsT.mk (T := (T2.setK i 0)) (v := v2) (vt := vt2) (by rw [HKK.out]; exact hS))
                      | (refine toList (by rfl) ?_; refine bsF hS _ _ _ (by rfl) (elOf (by rfl)) [.int .i64 (d : Int), .int .i64 (i : Int)] (by rfl) (by rfl) (by decide) (by decide) (by intro v hv; simp only [List.mem_cons, List.not_mem_nil, or_false] at hv; rcases hv with rfl | rfl <;> rfl) ?_; intro b1 w1 hS1; clear hS; have hS := csIr (l := [d, i]) (by simp) (show Sat W w1 (Cs b1 _ (iv [d, i]) :: _) from hS1); clear hS1)
                      | (go_at_call 36; refine (HTO.out _ _ _ hS.pull1).mono ?_; rintro r w1 ⟨rfl, hS1⟩; clear hS; have hS := hS1; clear hS1))
          go_ret2
          exact ⟨rfl, hS⟩
      · have hE : T.rdE l = 8 := by unfold TrD.rdE; rw [if_neg h0, if_pos hw, hi, Int.toNat_natCast, hkk, if_neg h2]
        have hI : T.rdI l = 0 := by unfold TrD.rdI; rw [hE, if_neg (by decide)]
        have hM : T.rd l = T := by unfold TrD.rd; rw [hE, if_neg (by decide)]
        rw [hI, hM, hE]
        have e1 : (kk != 2) = true := bne_iff_ne.2 h2
        clear hE hI hM h0 hw hi h2 p1 p4 p5 p6 HPL HP HRE
        go_enter Try.func43, Try.ntmps43
        go_wp2_with (first
          | (go_at_call 26; refine (HWK.out _ hS).mono ?_; rintro r w1 ⟨rfl, hS1⟩; clear hS; have hS := hS1; clear hS1; obtain ⟨v, vt, hO⟩ := IsT.open hS; clear hS; have hS := hO; clear hO; obtain ⟨ao1, c1, hv, _⟩ := rws_shape hS (k := 1) rfl hi48)
          | (refine toList (by rfl) ?_; refine ld hS _ _ (by rfl) _ _ (by rfl) (agOf (by rfl)) Has.z (tl_at (i := i) (j := 0) (u := .int .i64 kk) hi48 (by omega) (by rw [← hkk]; rfl)) ?_)
          | (refine toList (by rfl) ?_; refine ld hS _ _ (by rfl) _ _ (by rfl) (agOf (by rfl)) Has.z (tl_at (i := i) (j := 2) (u := .slice ao1 dl c1) hi48 (by omega) (by rw [← hdl, ← hv]; rfl)) ?_)
          )
        go_ret2
        exact ⟨rfl, IsT.mk hS⟩
    · have hE : T.rdE l = (T.walk 0 l).2 := by unfold TrD.rdE; rw [if_neg h0, if_neg hw]
      have hE0 : T.rdE l ≠ 0 := by rw [hE]; exact hw
      have hI : T.rdI l = 0 := by unfold TrD.rdI; rw [if_neg hE0]
      have hM : T.rd l = T := by unfold TrD.rd; rw [if_neg hE0]
      rw [hI, hM, hE]
      obtain ⟨we, hwe⟩ : ∃ we, (T.walk 0 l).2 = we := ⟨_, rfl⟩
      rw [hi, hwe] at HWK
      rw [hwe] at hw ⊢
      have e1 : (we != 0) = true := bne_iff_ne.2 hw
      clear hE hE0 hI hM h0 hw hi hwe HPL
      go_enter Try.func43, Try.ntmps43
      go_wp2_with (go_at_call 26; refine (HWK.out _ hS).mono ?_; rintro r w1 ⟨rfl, hS1⟩; clear hS; have hS := hS1; clear hS1)
      go_ret2
      exact ⟨rfl, hS⟩
end Go.Proofs.Ytiieicdhkcikpaa
namespace Go.Proofs.Ytiieicdhkcikpaa
open Go.RowKit Go.Sep
set_option linter.unusedSimpArgs false
set_option linter.unusedVariables false
attribute [local irreducible] Go.Oper.wp Go.wpList Go.Calls Go.Code.wp Go.Sep.Reg
theorem rws_nil {W w : World} {L : List Asrt} (h : Sat W w L) : Sat W w (rws (fun _ => .slice none 0 0) (fun _ => []) :: L) := by
  have key : ∀ n : Nat, Sat W w (St ((List.range n).map fun _ => Er (.slice none 0 0) []) :: L) := by
    intro n
    induction n with
    | zero => exact h.stNil
    | succ n ih =>
      rw [List.range_succ, List.map_append]
      exact Sat.stSnoc (A := Er (.slice none 0 0) []) ih.tbNil
  exact key 48
theorem new_dir : TrD.new.dir = fun _ => [] := by
  funext i
  unfold TrD.dir TrD.new
  dsimp only
  rw [List.getElem?_replicate]
  split <;> rfl
theorem new_tl : ([.int .i64 2, .int .i64 1, .slice none 0 0] : List Value) ++ (tl (fun _ => 0) (fun _ => 0) (fun _ => .slice none 0 0) (.slice none 0 0)).drop 3 = tl TrD.new.kind TrD.new.lnk (fun _ => .slice none 0 0) (.slice none 0 0) := by
  have hl : TrD.new.lnk = fun j => if j = 0 then 1 else 0 := by
    funext j
    unfold TrD.lnk TrD.links
    split
    · rfl
    · have : TrD.cnt TrD.new.dirs j = 0 := rfl
      rw [this]; rfl
  have hk : TrD.new.kind = fun j => if j = 0 then 2 else 0 := by
    funext j
    unfold TrD.kind TrD.new
    dsimp only
    rw [List.getElem?_set]
    by_cases h : j = 0
    · subst h; rfl
    · rw [if_neg (fun e => h e.symm), if_neg h, List.getElem?_replicate]
      split <;> rfl
  rw [hl, hk]
  rfl
attribute [local irreducible] IsT IsW
set_option maxRecDepth 20000 in
set_option maxHeartbeats 1000000 in
theorem tnew_any {W w : World} {L : List Asrt} (hS : Sat W w L) :
    Calls Try.prog 10 #[] w fun r w' => ∃ p, r = .returned (.pointer (some ⟨p, 0, none⟩)) ∧ Sat W w' (IsT p TrD.new :: L) := by
  go_enter Try.func10, Try.ntmps10
  go_wp2_with (first
    | (refine toList (by rfl) ?_; refine bx hS _ _ (by rfl) _ (by first | exact evC | exact evT (by rfl)) ?_; intro p w1 hS1; clear hS; have hS := (show Sat W w1 (Cs p _ (tl (fun _ => 0) (fun _ => 0) (fun _ => .slice none 0 0) (.slice none 0 0)) :: L) from hS1); clear hS1)
    | (refine toList (by rfl) ?_; refine stA hS _ _ _ (by rfl) _ 0 (by rfl) [.int .i64 2, .int .i64 1, .slice none 0 0] (by rfl) (by simp [Value.oneCell']) (by rw [szOf (by rfl : szTab _ = some _)]; rfl) Has.z (by rw [tl_len]; decide) ?_; intro w1 hS1; clear hS; have hS := (show Sat W w1 (Cs p _ ([.int .i64 2, .int .i64 1, .slice none 0 0] ++ (tl (fun _ => 0) (fun _ => 0) (fun _ => .slice none 0 0) (.slice none 0 0)).drop 3) :: L) from hS1); clear hS1; rw [new_tl] at hS))
  go_ret
  have h1 := rws_nil (hS.irNil)
  refine ⟨p, rfl, IsT.mk (T := TrD.new) (v := fun _ => .slice none 0 0) (vt := .slice none 0 0) ?_⟩
  rw [new_dir]
  exact h1.re [2, 0, 1]
end Go.Proofs.Ytiieicdhkcikpaa
