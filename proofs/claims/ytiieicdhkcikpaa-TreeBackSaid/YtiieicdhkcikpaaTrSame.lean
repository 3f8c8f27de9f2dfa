/-
  Package pedigreelaw11: same.
-/
import Derived.Test.YtiieicdhkcikpaaMLaw
namespace Go.Proofs.Ytiieicdhkcikpaa
open Go.RowKit Go.Sep
set_option linter.unusedSimpArgs false
set_option linter.unusedVariables false
attribute [local irreducible] Go.Oper.wp Go.wpList Go.Calls Go.Code.wp Go.Sep.Reg
set_option maxRecDepth 20000 in
set_option maxHeartbeats 1000000 in
theorem rlinks_open {W w : World} {L : List Asrt} {p : Nat} {T : TrD} {v : Nat → Value} {vt : Value} {l2 : List Nat} (hO : Sat W w (Cs p 79 (wl T.kind v vt) :: rws v T.dir :: Ir vt l2 :: L)) (hT : T.Ok) (i : Nat) (hi48 : i < 48) :
    Calls Try.prog 50 #[.pointer (some ⟨p, 0, none⟩), .int .i64 (i : Int)] w fun r w' => r = .returned (.int .i64 (T.links i : Nat)) ∧ Sat W w' (Cs p 79 (wl T.kind v vt) :: rws v T.dir :: Ir vt l2 :: L) := by
  unfold TrD.links
  by_cases h0 : i = 0
  · subst h0
    rw [if_pos rfl]
    go_enter Try.func50, Try.ntmps50
    go_wp2
    go_ret
    exact ⟨rfl, hO⟩
  · rw [if_neg h0]
    have e0 : ((i : Int) == 0) = false := beq_eq_false_iff_ne.2 (by omega)
    have HT := Lib.hid hT
    clear hT
    have H0 := Lib.hid hO
    have HB := Lib.hid (fun k (hk : k ≤ 48) => show TrD.cnt (T.dirs.take k) i ≤ k * 64 by
      have := cnt_le (ds := T.dirs.take k) (fun d hd => HT.out.len d (List.mem_of_mem_take hd)) i
      rw [List.length_take, HT.out.dl] at this
      have e : min k 48 = k := by omega
      rw [e] at this; exact this)
    clear hO h0
    go_enter Try.func50, Try.ntmps50
    go_wp2
    go_loopw [5, 6] (fun v5 v6 wz => ∃ k : Nat, v6 = .int .i64 k ∧ v5 = .int .i64 (TrD.cnt (T.dirs.take k) i : Nat) ∧ k ≤ 48 ∧ Sat W wz (Cs p 79 (wl T.kind v vt) :: rws v T.dir :: Ir vt l2 :: L)) (fun _ v6 _ => 48 - (intOf v6).toNat)
    case atStart => exact ⟨0, rfl, rfl, by omega, H0.out⟩
    case round =>
      clear H0
      obtain ⟨k, rfl, rfl, hk, hS⟩ := hrel
      by_cases hlt : k < 48
      · have k1 : (k : Int) < 48 := by omega
        have HLT := Lib.hid hlt
        obtain ⟨ao1, c1, hv, _⟩ := rws_shape hS (k := 1) rfl hlt
        have hlen := HT.out.len _ (HT.out.dir_mem hlt)
        have HCN := Lib.hid (cnt_upto (HT.out.dir_at hlt) i)
        have hbk := HB.out k (by omega)
        obtain ⟨cc, hcc⟩ : ∃ cc, TrD.cnt (T.dirs.take k) i = cc := ⟨_, rfl⟩
        rw [hcc] at HCN hbk
        have HCC := Lib.hid hcc
        clear hcc
        have H1 := Lib.hid hS
        go_wp2
        go_loopw [5, 7] (fun v5 v7 wz => ∃ j : Nat, v7 = .int .i64 j ∧ v5 = .int .i64 ((cc + cnt1 ((T.dir k).take j) i : Nat) : Int) ∧ j ≤ (T.dir k).length ∧ Sat W wz (Cs p 79 (wl T.kind v vt) :: rws v T.dir :: Ir vt l2 :: L)) (fun _ v7 _ => (T.dir k).length - (intOf v7).toNat)
        case atStart => exact ⟨0, rfl, by rw [HCC.out]; rfl, by omega, H1.out⟩
        case round =>
          clear hS H1
          obtain ⟨j, rfl, rfl, hj, hS⟩ := hrel
          by_cases hjl : j < (T.dir k).length
          · have k2 : (j : Int) < ((T.dir k).length : Int) := by omega
            have HJL := Lib.hid hjl
            obtain ⟨e, he⟩ : ∃ e, (T.dir k)[j]? = some e := ⟨_, List.getElem?_eq_getElem hjl⟩
            have HE := Lib.hid he
            have hc1 := cnt1_le ((T.dir k).take j) i
            rw [List.length_take] at hc1
            have HC1 := Lib.hid (cnt1_upto he i)
            obtain ⟨c2, hc2⟩ : ∃ c2, cc + cnt1 ((T.dir k).take j) i = c2 := ⟨_, rfl⟩
            rw [hc2]
            have hb2 : (c2 : Int) ≤ 10000 := by omega
            obtain ⟨b, off, c3, hv3, _⟩ : ∃ b off c3, v k = .slice (some ⟨b, off, none⟩) (T.dir k).length c3 ∧ (T.dir k).length ≤ c3 := by
              obtain ⟨L', h2⟩ := rws_at hS (k := 1) rfl hlt
              exact Sat.tbAddr h2 (k := 0) rfl (by omega)
            have HRD := Lib.hid (fun w (h : Sat W w (Cs p 79 (wl T.kind v vt) :: rws v T.dir :: Ir vt l2 :: L)) => by have := rws_rd h (k := 1) rfl hlt; rw [hv3] at this; exact this)
            have HC2 := Lib.hid hc2
            clear he hjl hc2
            by_cases hq : e.ino = (i : Int)
            · have HN := Lib.hid (show cc + cnt1 ((T.dir k).take (j + 1)) i = c2 + 1 by have h1 := HC1.out; have h2 := HC2.out; rw [if_pos hq] at h1; omega)
              have e1 : (e.ino == (i : Int)) = true := beq_iff_eq.2 hq
              clear hq
              go_wp2_with (first
                | (refine toList (by rfl) ?_; refine ld hS _ _ (by rfl) _ _ (by rfl) (agOf (by rfl)) Has.z (wl_vu (u := .slice (some ⟨b, off, none⟩) (T.dir k).length c3) hlt (by omega) hv3) ?_)
                | (refine toList (by rfl) ?_; refine wp_of_reads (rLdRd (f := ev2) (x := e) (u := .int .i64 e.ino) (HRD.out _ hS) (ev2_len _) _ _ (by rfl) _ (by rfl) (agOf (by rfl)) j 1 (by omega) HE.out (by rfl) (by omega)) ?_))
              exact ⟨⟨j + 1, by go_num, by rw [HN.out]; go_num, HJL.out, hS⟩, by simp [intOf]; have := HJL.out; omega⟩
            · have HN := Lib.hid (show cc + cnt1 ((T.dir k).take (j + 1)) i = c2 by have h1 := HC1.out; have h2 := HC2.out; rw [if_neg hq] at h1; omega)
              have e1 : (e.ino == (i : Int)) = false := beq_eq_false_iff_ne.2 hq
              clear hq
              go_wp2_with (first
                | (refine toList (by rfl) ?_; refine ld hS _ _ (by rfl) _ _ (by rfl) (agOf (by rfl)) Has.z (wl_vu (u := .slice (some ⟨b, off, none⟩) (T.dir k).length c3) hlt (by omega) hv3) ?_)
                | (refine toList (by rfl) ?_; refine wp_of_reads (rLdRd (f := ev2) (x := e) (u := .int .i64 e.ino) (HRD.out _ hS) (ev2_len _) _ _ (by rfl) _ (by rfl) (agOf (by rfl)) j 1 (by omega) HE.out (by rfl) (by omega)) ?_))
              exact ⟨⟨j + 1, by go_num, by rw [HN.out], HJL.out, hS⟩, by simp [intOf]; have := HJL.out; omega⟩
          · have k2 : ¬ (j : Int) < ((T.dir k).length : Int) := by omega
            have HN := Lib.hid (show cc + cnt1 ((T.dir k).take j) i = TrD.cnt (T.dirs.take (k + 1)) i by rw [HCN.out, List.take_of_length_le (by omega)])
            have hb3 : cc + cnt1 ((T.dir k).take j) i ≤ 10000 := by have := cnt1_le ((T.dir k).take j) i; rw [List.length_take] at this; omega
            clear hjl
            go_wp2_with (refine toList (by rfl) ?_; refine ld hS _ _ (by rfl) _ _ (by rfl) (agOf (by rfl)) Has.z (wl_vu (u := .slice ao1 (T.dir k).length c1) hlt (by omega) hv) ?_)
            exact ⟨⟨k + 1, by go_num, by rw [← HN.out]; simp, HLT.out, hS⟩, by simp [intOf]; have := HLT.out; omega⟩
      · have k1 : ¬ (k : Int) < 48 := by omega
        have HE := Lib.hid (show T.dirs.take k = T.dirs from List.take_of_length_le (by rw [HT.out.dl]; omega))
        clear hlt
        go_wp2
        go_ret
        rw [HE.out]
        exact ⟨rfl, hS⟩
attribute [local irreducible] IsT IsW
/-- The same tree; other inodes were turned last. -/
def TrD.lst (T : TrD) (l : List Nat) : TrD := ⟨T.kinds, T.dirs, l⟩
theorem inR_no {z : Int} (h : z < 0 ∨ 48 ≤ z) : inR z = false := by
  unfold inR
  rcases h with h | h
  · rw [decide_eq_false (by omega : ¬ 0 ≤ z)]; rfl
  · rw [decide_eq_false (by omega : ¬ z < 48)]; simp
set_option maxRecDepth 20000 in
set_option maxHeartbeats 2000000 in
theorem same_tree {W w : World} {L : List Asrt} {p q : Nat} {T : TrD} {l2 : List Nat} (hS : Sat W w (IsT p T :: IsW q (T.lst l2) :: L)) (hT : T.Ok) (hl2 : l2.length ≤ 48) :
    Calls Try.prog 23 #[.pointer (some ⟨p, 0, none⟩), .pointer (some ⟨q, 0, none⟩)] w fun r w' => r = .returned (.bool true) ∧ Sat W w' (IsT p T :: IsW q (T.lst l2) :: L) := by
  have hT2 : (T.lst l2).Ok := ⟨hT.kl, hT.dl, hT.srt, hT.ent, hT.len, hT.k0, hT.kk, hl2⟩
  obtain ⟨v, vt, hO⟩ := IsW.open hS.pull1
  clear hS
  have H0 := Lib.hid (show Sat W w (Cs q 79 (wl T.kind v vt) :: rws v T.dir :: Ir vt l2 :: IsT p T :: L) from hO)
  clear hO
  have HT := Lib.hid hT
  go_enter Try.func23, Try.ntmps23
  go_wp2
  go_loopw [5] (fun v5 wz => ∃ z : Int, v5 = .int .i64 z ∧ -1 ≤ z ∧ z ≤ 49 ∧ Sat W wz (Cs q 79 (wl T.kind v vt) :: rws v T.dir :: Ir vt l2 :: IsT p T :: L)) (fun v5 _ => (50 - intOf v5).toNat)
  case atStart => exact ⟨-1, rfl, by omega, by omega, H0.out⟩
  case round =>
    clear H0
    obtain ⟨z, rfl, hz1, hz2, hS⟩ := hrel
    by_cases h48 : z ≤ 48
    · have e0 : decide (z ≤ 48) = true := decide_eq_true h48
      by_cases hout : z < 0 ∨ 48 ≤ z
      · have hin := inR_no hout
        have hk0 : T.kindI z = 0 := by unfold TrD.kindI; rw [hin]; rfl
        have hl0 : T.linksI z = 0 := by unfold TrD.linksI; rw [hin]; rfl
        have hd0 : T.dirI z = [] := by unfold TrD.dirI; rw [hin]; rfl
        have HKD := Lib.hid (fun w (h : Sat W w (IsT p T :: Cs q 79 (wl T.kind v vt) :: rws v T.dir :: Ir vt l2 :: L)) => by have := tkind_any h z; rw [hk0] at this; exact this)
        have HLN := Lib.hid (fun w (h : Sat W w (IsT p T :: Cs q 79 (wl T.kind v vt) :: rws v T.dir :: Ir vt l2 :: L)) => by have := tlinks_any h z; rw [hl0] at this; exact this)
        have HEN := Lib.hid (fun w (h : Sat W w (IsT p T :: Cs q 79 (wl T.kind v vt) :: rws v T.dir :: Ir vt l2 :: L)) => by have := tentries_any h HT.out z; rw [hd0] at this; exact this)
        replace hS := (show Sat W _ (IsT p T :: Cs q 79 (wl T.kind v vt) :: rws v T.dir :: Ir vt l2 :: L) from hS.re [3, 0, 1, 2])
        clear hin hk0 hl0 hd0
        rcases hout with h | h
        · have e1 : decide (z < 0) = true := decide_eq_true h
          go_wp2_with (first
            | (go_at_call 16; refine (HKD.out _ hS).mono ?_; rintro e w1 ⟨rfl, rfl⟩)
            | (go_at_call 27; refine (HEN.out _ hS).mono ?_; rintro e w1 ⟨ve, rfl, hS1⟩; clear hS; have hS := hS1; clear hS1; obtain ⟨aoe, ce, rfl, _⟩ := Sat.tbShape (k := 0) (show Sat _ _ (Tb 59 2 ev2 ve [] :: _) from hS) rfl; replace hS := hS.drop)
            | (go_at_call 15; refine (HLN.out _ hS).mono ?_; rintro e w1 ⟨rfl, rfl⟩))
          exact ⟨⟨z + 1, by go_num, by omega, by omega, hS.re [1, 2, 3, 0]⟩, by simp [intOf]; omega⟩
        · have e1 : decide (z < 0) = false := decide_eq_false (by omega)
          have e2 : decide ((48 : Int) ≤ z) = true := decide_eq_true h
          go_wp2_with (first
            | (go_at_call 16; refine (HKD.out _ hS).mono ?_; rintro e w1 ⟨rfl, rfl⟩)
            | (go_at_call 27; refine (HEN.out _ hS).mono ?_; rintro e w1 ⟨ve, rfl, hS1⟩; clear hS; have hS := hS1; clear hS1; obtain ⟨aoe, ce, rfl, _⟩ := Sat.tbShape (k := 0) (show Sat _ _ (Tb 59 2 ev2 ve [] :: _) from hS) rfl; replace hS := hS.drop)
            | (go_at_call 15; refine (HLN.out _ hS).mono ?_; rintro e w1 ⟨rfl, rfl⟩))
          exact ⟨⟨z + 1, by go_num, by omega, by omega, hS.re [1, 2, 3, 0]⟩, by simp [intOf]; omega⟩
      · obtain ⟨m, rfl⟩ := Int.eq_ofNat_of_zero_le (show 0 ≤ z by omega)
        have hm : m < 48 := by omega
        have e1 : decide ((m : Int) < 0) = false := decide_eq_false (by omega)
        have e2 : decide ((48 : Int) ≤ (m : Int)) = false := decide_eq_false (by omega)
        have e3 : decide (48 ≤ m) = false := decide_eq_false (by omega)
        have e4 : (m : Int) < 48 := by omega
        have hin : inR (m : Int) = true := by unfold inR; rw [decide_eq_true (by omega : (0 : Int) ≤ (m : Int)), decide_eq_true (by omega : (m : Int) < 48)]; rfl
        have hk0 : T.kindI (m : Int) = T.kind m := by unfold TrD.kindI; rw [hin, if_pos rfl, Int.toNat_natCast]
        have hl0 : T.linksI (m : Int) = T.links m := by unfold TrD.linksI; rw [hin, if_pos rfl, Int.toNat_natCast]
        have hd0 : T.dirI (m : Int) = T.dir m := by unfold TrD.dirI; rw [hin, if_pos rfl, Int.toNat_natCast]
        obtain ⟨kk, hkk⟩ : ∃ kk, T.kind m = kk := ⟨_, rfl⟩
        obtain ⟨nn, hnn⟩ : ∃ nn, T.links m = nn := ⟨_, rfl⟩
        have hlen := HT.out.len _ (HT.out.dir_mem hm)
        obtain ⟨aod, cd, hvd, _⟩ := rws_shape hS (k := 1) rfl hm
        have HKD := Lib.hid (fun w Lc (h : Sat W w (IsT p T :: Lc)) => by have := tkind_any h (m : Int); rw [hk0, hkk] at this; exact this)
        have HLN := Lib.hid (fun w Lc (h : Sat W w (IsT p T :: Lc)) => by have := tlinks_any h (m : Int); rw [hl0, hnn] at this; exact this)
        have HEN := Lib.hid (fun w Lc (h : Sat W w (IsT p T :: Lc)) => by have := tentries_any h HT.out (m : Int); rw [hd0] at this; exact this)
        have HRL := Lib.hid (fun w Lc (h : Sat W w (Cs q 79 (wl T.kind v vt) :: rws v T.dir :: Ir vt l2 :: Lc)) => by have := rlinks_open h HT.out m hm; rw [hnn] at this; exact this)
        have HSE := Lib.hid (fun w Lc ao ao' c c' (h : Sat W w Lc) hr hr' => sameE_any h (T.dir m) ao ao' c c' hr hr' (by omega))
        clear hin hk0 hl0 hd0 hnn hout
        go_wp2
        refine regStart2 [13, 16] hS (fun _ h => h.one Has.z) (by kernel_rfl) rfl ?_
        intro w1 hS1
        clear hS; have hS := hS1; clear hS1
        (refine regP 0 hS (fun _ h => h.one Has.z) rfl (by kernel_rfl) (by kernel_rfl) (by kernel_rfl) (fun _ _ _ _ h => h) (by rfl) (by rfl) ?_; apply Exists.intro; apply And.intro; (intro w; go_simp; try with_reducible rfl); go_frame)
        (refine regP 1 hS (fun _ h => h.one Has.z) rfl (by kernel_rfl) (by kernel_rfl) (by kernel_rfl) (fun _ _ _ _ h => h) (by rfl) (by rfl) ?_; apply Exists.intro; apply And.intro; (intro w; go_simp; try with_reducible rfl); go_frame)
        (refine regP 3 hS (fun _ h => h.one Has.z) rfl (by kernel_rfl) (by kernel_rfl) (by kernel_rfl) (fun _ _ _ _ h => h) (by rfl) (by rfl) ?_; apply Exists.intro; apply And.intro; (intro w; go_simp; try with_reducible rfl); go_frame)
        (refine regP 4 hS (fun _ h => h.one Has.z) rfl (by kernel_rfl) (by kernel_rfl) (by kernel_rfl) (fun _ _ _ _ h => h) (by rfl) (by rfl) ?_; apply Exists.intro; apply And.intro; (intro w; go_simp; try with_reducible rfl); go_frame)
        (refine regP 5 hS (fun _ h => h.one Has.z) rfl (by kernel_rfl) (by kernel_rfl) (by kernel_rfl) (fun _ _ _ _ h => h) (by rfl) (by rfl) ?_; apply Exists.intro; apply And.intro; (intro w; go_simp; try with_reducible rfl); go_frame)
        (refine regP 6 hS (fun _ h => h.one Has.z) rfl (by kernel_rfl) (by kernel_rfl) (by kernel_rfl) (fun _ _ _ _ h => h) (by rfl) (by rfl) ?_; apply Exists.intro; apply And.intro; (intro w; go_simp; try with_reducible rfl); go_frame)
        (refine regP 7 hS (fun _ h => h.one Has.z) rfl (by kernel_rfl) (by kernel_rfl) (by kernel_rfl) (fun _ _ _ _ h => h) (by rfl) (by rfl) ?_; apply Exists.intro; apply And.intro; (intro w; go_simp; try with_reducible rfl); go_frame)
        (refine regR 8 hS (fun _ h => h.one Has.z) rfl (by kernel_rfl) (by kernel_rfl) (by kernel_rfl) (by kernel_rfl) (by kernel_rfl) (fun _ _ _ _ h => h) (by rfl) (by rfl) ?_; (first
                          | refine ⟨.int .i64 kk, yLd _ _ (by rfl) _ _ (by rfl) (agOf (by rfl)) Has.z (wl_ku (z := kk) hm (by omega) hkk), ?_⟩
                          | refine ⟨.slice aod (T.dir m).length cd, yLd _ _ (by rfl) _ _ (by rfl) (agOf (by rfl)) Has.z (wl_vu (u := .slice aod (T.dir m).length cd) hm (by omega) hvd), ?_⟩); go_frame)
        (refine regA 2 rfl (by kernel_rfl) (by rfl) (by rfl) false (by kernel_rfl) (fun K hK => ?_); (first
                          | (refine Go.Sep.cl 16 _ _ (by rfl) (by rfl) (by kernel_rfl) (HKD.out _ _ (hS.re [3])) ?_; rintro e w1 ⟨rfl, rfl⟩; refine ⟨_, rfl, ?_⟩)
                          | (refine Go.Sep.cl 15 _ _ (by rfl) (by rfl) (by kernel_rfl) (HLN.out _ _ (hS.re [3])) ?_; rintro e w1 ⟨rfl, rfl⟩; refine ⟨_, rfl, ?_⟩)
                          | (refine Go.Sep.cl 50 _ _ (by rfl) (by rfl) (by kernel_rfl) (HRL.out _ _ hS) ?_; rintro e w1 ⟨rfl, hS1⟩; clear hS; have hS := hS1; clear hS1; refine ⟨_, rfl, ?_⟩)
                          | (refine Go.Sep.cl 29 _ _ (by rfl) (by rfl) (by kernel_rfl) (HSE.out _ _ _ _ _ _ hS (fun w h => Sat.tbRd (k := 1) (show Sat _ _ (_ :: Tb 59 2 ev2 _ (T.dir m) :: _) from h) rfl) (fun w h => by rw [← hvd]; exact rws_rd h (k := 3) rfl hm)) ?_; rintro e w1 ⟨rfl, hS1⟩; clear hS; have hS := hS1; clear hS1; refine ⟨_, rfl, ?_⟩)
                          | (refine Go.Sep.cl 27 _ _ (by rfl) (by rfl) (by kernel_rfl) (HEN.out _ _ (hS.re [3])) ?_; rintro e w1 ⟨ve, rfl, hS1⟩; clear hS; have hS := (show Sat W w1 (Cs q 79 (wl T.kind v vt) :: Er ve (T.dir m) :: IsT p T :: rws v T.dir :: Ir vt l2 :: L) from hS1.re [2, 0, 1]); clear hS1; obtain ⟨aoe, ce, rfl, _⟩ := Sat.tbShape (k := 1) (show Sat _ _ (_ :: Tb 59 2 ev2 ve (T.dir m) :: _) from hS) rfl; refine ⟨_, rfl, ?_⟩)); refine hK _ _ _ (hS.upTo (fun _ h => by first | exact h.one Has.z | exact h | exact (h.re [1]).drop.re [0, 2, 3, 1])) (fun _ _ h => h) ?_; clear hK K; go_frame)
        (refine regP 9 hS (fun _ h => by first | exact h.one Has.z | exact h | exact (h.re [1]).drop.re [0, 2, 3, 1]) rfl (by kernel_rfl) (by kernel_rfl) (by kernel_rfl) (fun _ _ _ _ h => h) (by rfl) (by rfl) ?_; apply Exists.intro; apply And.intro; (intro w; go_simp; try with_reducible rfl); go_frame)
        (refine regP 10 hS (fun _ h => by first | exact h.one Has.z | exact h | exact (h.re [1]).drop.re [0, 2, 3, 1]) rfl (by kernel_rfl) (by kernel_rfl) (by kernel_rfl) (fun _ _ _ _ h => h) (by rfl) (by rfl) ?_; apply Exists.intro; apply And.intro; (intro w; go_simp; try with_reducible rfl); go_frame)
        (first | (refine regP 11 hS (fun _ h => by first | exact h.one Has.z | exact h | exact (h.re [1]).drop.re [0, 2, 3, 1]) rfl (by kernel_rfl) (by kernel_rfl) (by kernel_rfl) (fun _ _ _ _ h => h) (by rfl) (by rfl) ?_; apply Exists.intro; apply And.intro; (intro w; go_simp; try with_reducible rfl); go_frame) | (refine regN 11 hS (fun _ h => by first | exact h.one Has.z | exact h | exact (h.re [1]).drop.re [0, 2, 3, 1]) rfl (by kernel_rfl) (by kernel_rfl) (by kernel_rfl) (fun _ _ _ h => h) (by rfl) (by rfl) ?_; go_frame))
        (first | (refine regP 12 hS (fun _ h => by first | exact h.one Has.z | exact h | exact (h.re [1]).drop.re [0, 2, 3, 1]) rfl (by kernel_rfl) (by kernel_rfl) (by kernel_rfl) (fun _ _ _ _ h => h) (by rfl) (by rfl) ?_; apply Exists.intro; apply And.intro; (intro w; go_simp; try with_reducible rfl); go_frame) | (refine regN 12 hS (fun _ h => by first | exact h.one Has.z | exact h | exact (h.re [1]).drop.re [0, 2, 3, 1]) rfl (by kernel_rfl) (by kernel_rfl) (by kernel_rfl) (fun _ _ _ h => h) (by rfl) (by rfl) ?_; go_frame))
        (first | (refine regP 14 hS (fun _ h => by first | exact h.one Has.z | exact h | exact (h.re [1]).drop.re [0, 2, 3, 1]) rfl (by kernel_rfl) (by kernel_rfl) (by kernel_rfl) (fun _ _ _ _ h => h) (by rfl) (by rfl) ?_; apply Exists.intro; apply And.intro; (intro w; go_simp; try with_reducible rfl); go_frame) | (refine regN 14 hS (fun _ h => by first | exact h.one Has.z | exact h | exact (h.re [1]).drop.re [0, 2, 3, 1]) rfl (by kernel_rfl) (by kernel_rfl) (by kernel_rfl) (fun _ _ _ h => h) (by rfl) (by rfl) ?_; go_frame))
        (first | (refine regP 15 hS (fun _ h => by first | exact h.one Has.z | exact h | exact (h.re [1]).drop.re [0, 2, 3, 1]) rfl (by kernel_rfl) (by kernel_rfl) (by kernel_rfl) (fun _ _ _ _ h => h) (by rfl) (by rfl) ?_; apply Exists.intro; apply And.intro; (intro w; go_simp; try with_reducible rfl); go_frame) | (refine regN 15 hS (fun _ h => by first | exact h.one Has.z | exact h | exact (h.re [1]).drop.re [0, 2, 3, 1]) rfl (by kernel_rfl) (by kernel_rfl) (by kernel_rfl) (fun _ _ _ h => h) (by rfl) (by rfl) ?_; go_frame))
        (first | (refine regA 13 rfl (by kernel_rfl) (by rfl) (by rfl) true (by kernel_rfl) (fun K hK => ?_); (first
                          | (refine Go.Sep.cl 16 _ _ (by rfl) (by rfl) (by kernel_rfl) (HKD.out _ _ (hS.re [3])) ?_; rintro e w1 ⟨rfl, rfl⟩; refine ⟨_, rfl, ?_⟩)
                          | (refine Go.Sep.cl 15 _ _ (by rfl) (by rfl) (by kernel_rfl) (HLN.out _ _ (hS.re [3])) ?_; rintro e w1 ⟨rfl, rfl⟩; refine ⟨_, rfl, ?_⟩)
                          | (refine Go.Sep.cl 50 _ _ (by rfl) (by rfl) (by kernel_rfl) (HRL.out _ _ hS) ?_; rintro e w1 ⟨rfl, hS1⟩; clear hS; have hS := hS1; clear hS1; refine ⟨_, rfl, ?_⟩)
                          | (refine Go.Sep.cl 29 _ _ (by rfl) (by rfl) (by kernel_rfl) (HSE.out _ _ _ _ _ _ hS (fun w h => Sat.tbRd (k := 1) (show Sat _ _ (_ :: Tb 59 2 ev2 _ (T.dir m) :: _) from h) rfl) (fun w h => by rw [← hvd]; exact rws_rd h (k := 3) rfl hm)) ?_; rintro e w1 ⟨rfl, hS1⟩; clear hS; have hS := hS1; clear hS1; refine ⟨_, rfl, ?_⟩)
                          | (refine Go.Sep.cl 27 _ _ (by rfl) (by rfl) (by kernel_rfl) (HEN.out _ _ (hS.re [3])) ?_; rintro e w1 ⟨ve, rfl, hS1⟩; clear hS; have hS := (show Sat W w1 (Cs q 79 (wl T.kind v vt) :: Er ve (T.dir m) :: IsT p T :: rws v T.dir :: Ir vt l2 :: L) from hS1.re [2, 0, 1]); clear hS1; obtain ⟨aoe, ce, rfl, _⟩ := Sat.tbShape (k := 1) (show Sat _ _ (_ :: Tb 59 2 ev2 ve (T.dir m) :: _) from hS) rfl; refine ⟨_, rfl, ?_⟩)); refine hK _ _ _ hS (by first | (intro h; cases h; done) | exact fun _ _ h => h | exact fun _ _ h => h.drop | exact fun _ _ h => h.drop.drop | exact fun _ _ h => h.drop.pull1 | exact fun _ _ h => h.take2 | exact fun _ _ h => h.one Has.z | exact fun _ _ h => h.one (Has.s Has.z) | exact fun _ _ h => h.one (Has.s (Has.s Has.z))) ?_; clear hK K; go_frame) | (refine regN 13 hS (fun _ h => by first | exact h.one Has.z | exact h | exact (h.re [1]).drop.re [0, 2, 3, 1]) rfl (by kernel_rfl) (by kernel_rfl) (by kernel_rfl) (fun _ _ _ h => h) (by rfl) (by rfl) ?_; go_frame))
        (first | (refine regA 16 rfl (by kernel_rfl) (by rfl) (by rfl) true (by kernel_rfl) (fun K hK => ?_); (first
                          | (refine Go.Sep.cl 16 _ _ (by rfl) (by rfl) (by kernel_rfl) (HKD.out _ _ (hS.re [3])) ?_; rintro e w1 ⟨rfl, rfl⟩; refine ⟨_, rfl, ?_⟩)
                          | (refine Go.Sep.cl 15 _ _ (by rfl) (by rfl) (by kernel_rfl) (HLN.out _ _ (hS.re [3])) ?_; rintro e w1 ⟨rfl, rfl⟩; refine ⟨_, rfl, ?_⟩)
                          | (refine Go.Sep.cl 50 _ _ (by rfl) (by rfl) (by kernel_rfl) (HRL.out _ _ hS) ?_; rintro e w1 ⟨rfl, hS1⟩; clear hS; have hS := hS1; clear hS1; refine ⟨_, rfl, ?_⟩)
                          | (refine Go.Sep.cl 29 _ _ (by rfl) (by rfl) (by kernel_rfl) (HSE.out _ _ _ _ _ _ hS (fun w h => Sat.tbRd (k := 1) (show Sat _ _ (_ :: Tb 59 2 ev2 _ (T.dir m) :: _) from h) rfl) (fun w h => by rw [← hvd]; exact rws_rd h (k := 3) rfl hm)) ?_; rintro e w1 ⟨rfl, hS1⟩; clear hS; have hS := hS1; clear hS1; refine ⟨_, rfl, ?_⟩)
                          | (refine Go.Sep.cl 27 _ _ (by rfl) (by rfl) (by kernel_rfl) (HEN.out _ _ (hS.re [3])) ?_; rintro e w1 ⟨ve, rfl, hS1⟩; clear hS; have hS := (show Sat W w1 (Cs q 79 (wl T.kind v vt) :: Er ve (T.dir m) :: IsT p T :: rws v T.dir :: Ir vt l2 :: L) from hS1.re [2, 0, 1]); clear hS1; obtain ⟨aoe, ce, rfl, _⟩ := Sat.tbShape (k := 1) (show Sat _ _ (_ :: Tb 59 2 ev2 ve (T.dir m) :: _) from hS) rfl; refine ⟨_, rfl, ?_⟩)); refine hK _ _ _ hS (by first | (intro h; cases h; done) | exact fun _ _ h => h | exact fun _ _ h => h.drop | exact fun _ _ h => h.drop.drop | exact fun _ _ h => h.drop.pull1 | exact fun _ _ h => h.take2 | exact fun _ _ h => h.one Has.z | exact fun _ _ h => h.one (Has.s Has.z) | exact fun _ _ h => h.one (Has.s (Has.s Has.z))) ?_; clear hK K; go_frame) | (refine regN 16 hS (fun _ h => h) rfl (by kernel_rfl) (by kernel_rfl) (by kernel_rfl) (fun _ _ _ h => h) (by rfl) (by rfl) ?_; go_frame))
        (first | (refine regP 17 hS (fun _ h => h) rfl (by kernel_rfl) (by kernel_rfl) (by kernel_rfl) (fun _ _ _ _ h => h) (by rfl) (by rfl) ?_; apply Exists.intro; apply And.intro; (intro w; go_simp; try with_reducible rfl); go_frame) | (refine regN 17 hS (fun _ h => h) rfl (by kernel_rfl) (by kernel_rfl) (by kernel_rfl) (fun _ _ _ h => h) (by rfl) (by rfl) ?_; go_frame))
        (refine regP 18 hS (fun _ h => h) rfl (by kernel_rfl) (by kernel_rfl) (by kernel_rfl) (fun _ _ _ _ h => h) (by rfl) (by rfl) ?_; apply Exists.intro; apply And.intro; (intro w; go_simp; try with_reducible rfl); go_frame)
        (refine regP 19 hS (fun _ h => h) rfl (by kernel_rfl) (by kernel_rfl) (by kernel_rfl) (fun _ _ _ _ h => h) (by rfl) (by rfl) ?_; apply Exists.intro; apply And.intro; (intro w; go_simp; try with_reducible rfl); go_frame)
        (first | (refine regP 20 hS (fun _ h => h) rfl (by kernel_rfl) (by kernel_rfl) (by kernel_rfl) (fun _ _ _ _ h => h) (by rfl) (by rfl) ?_; apply Exists.intro; apply And.intro; (intro w; go_simp; try with_reducible rfl); go_frame) | (refine regN 20 hS (fun _ h => h) rfl (by kernel_rfl) (by kernel_rfl) (by kernel_rfl) (fun _ _ _ h => h) (by rfl) (by rfl) ?_; go_frame))
        (first | (refine regP 21 hS (fun _ h => h) rfl (by kernel_rfl) (by kernel_rfl) (by kernel_rfl) (fun _ _ _ _ h => h) (by rfl) (by rfl) ?_; apply Exists.intro; apply And.intro; (intro w; go_simp; try with_reducible rfl); go_frame) | (refine regN 21 hS (fun _ h => h) rfl (by kernel_rfl) (by kernel_rfl) (by kernel_rfl) (fun _ _ _ h => h) (by rfl) (by rfl) ?_; go_frame))
        (first | (refine regP 23 hS (fun _ h => h) rfl (by kernel_rfl) (by kernel_rfl) (by kernel_rfl) (fun _ _ _ _ h => h) (by rfl) (by rfl) ?_; apply Exists.intro; apply And.intro; (intro w; go_simp; try with_reducible rfl); go_frame) | (refine regN 23 hS (fun _ h => h) rfl (by kernel_rfl) (by kernel_rfl) (by kernel_rfl) (fun _ _ _ h => h) (by rfl) (by rfl) ?_; go_frame))
        (first | (refine regP 24 hS (fun _ h => h) rfl (by kernel_rfl) (by kernel_rfl) (by kernel_rfl) (fun _ _ _ _ h => h) (by rfl) (by rfl) ?_; apply Exists.intro; apply And.intro; (intro w; go_simp; try with_reducible rfl); go_frame) | (refine regN 24 hS (fun _ h => h) rfl (by kernel_rfl) (by kernel_rfl) (by kernel_rfl) (fun _ _ _ h => h) (by rfl) (by rfl) ?_; go_frame))
        (first | (refine regP 25 hS (fun _ h => h) rfl (by kernel_rfl) (by kernel_rfl) (by kernel_rfl) (fun _ _ _ _ h => h) (by rfl) (by rfl) ?_; apply Exists.intro; apply And.intro; (intro w; go_simp; try with_reducible rfl); go_frame) | (refine regN 25 hS (fun _ h => h) rfl (by kernel_rfl) (by kernel_rfl) (by kernel_rfl) (fun _ _ _ h => h) (by rfl) (by rfl) ?_; go_frame))
        (first | (refine regP 26 hS (fun _ h => h) rfl (by kernel_rfl) (by kernel_rfl) (by kernel_rfl) (fun _ _ _ _ h => h) (by rfl) (by rfl) ?_; apply Exists.intro; apply And.intro; (intro w; go_simp; try with_reducible rfl); go_frame) | (refine regN 26 hS (fun _ h => h) rfl (by kernel_rfl) (by kernel_rfl) (by kernel_rfl) (fun _ _ _ h => h) (by rfl) (by rfl) ?_; go_frame))
        (first | (refine regP 27 hS (fun _ h => h) rfl (by kernel_rfl) (by kernel_rfl) (by kernel_rfl) (fun _ _ _ _ h => h) (by rfl) (by rfl) ?_; apply Exists.intro; apply And.intro; (intro w; go_simp; try with_reducible rfl); go_frame) | (refine regN 27 hS (fun _ h => h) rfl (by kernel_rfl) (by kernel_rfl) (by kernel_rfl) (fun _ _ _ h => h) (by rfl) (by rfl) ?_; go_frame))
        (first | (refine regR 28 hS (fun _ h => h) rfl (by kernel_rfl) (by kernel_rfl) (by kernel_rfl) (by kernel_rfl) (by kernel_rfl) (fun _ _ _ _ h => h) (by rfl) (by rfl) ?_; (first
                          | refine ⟨.int .i64 kk, yLd _ _ (by rfl) _ _ (by rfl) (agOf (by rfl)) Has.z (wl_ku (z := kk) hm (by omega) hkk), ?_⟩
                          | refine ⟨.slice aod (T.dir m).length cd, yLd _ _ (by rfl) _ _ (by rfl) (agOf (by rfl)) Has.z (wl_vu (u := .slice aod (T.dir m).length cd) hm (by omega) hvd), ?_⟩); go_frame) | (refine regN 28 hS (fun _ h => h) rfl (by kernel_rfl) (by kernel_rfl) (by kernel_rfl) (fun _ _ _ h => h) (by rfl) (by rfl) ?_; go_frame))
        (first | (refine regA 22 rfl (by kernel_rfl) (by rfl) (by rfl) false (by kernel_rfl) (fun K hK => ?_); (first
                          | (refine Go.Sep.cl 16 _ _ (by rfl) (by rfl) (by kernel_rfl) (HKD.out _ _ (hS.re [3])) ?_; rintro e w1 ⟨rfl, rfl⟩; refine ⟨_, rfl, ?_⟩)
                          | (refine Go.Sep.cl 15 _ _ (by rfl) (by rfl) (by kernel_rfl) (HLN.out _ _ (hS.re [3])) ?_; rintro e w1 ⟨rfl, rfl⟩; refine ⟨_, rfl, ?_⟩)
                          | (refine Go.Sep.cl 50 _ _ (by rfl) (by rfl) (by kernel_rfl) (HRL.out _ _ hS) ?_; rintro e w1 ⟨rfl, hS1⟩; clear hS; have hS := hS1; clear hS1; refine ⟨_, rfl, ?_⟩)
                          | (refine Go.Sep.cl 29 _ _ (by rfl) (by rfl) (by kernel_rfl) (HSE.out _ _ _ _ _ _ hS (fun w h => Sat.tbRd (k := 1) (show Sat _ _ (_ :: Tb 59 2 ev2 _ (T.dir m) :: _) from h) rfl) (fun w h => by rw [← hvd]; exact rws_rd h (k := 3) rfl hm)) ?_; rintro e w1 ⟨rfl, hS1⟩; clear hS; have hS := hS1; clear hS1; refine ⟨_, rfl, ?_⟩)
                          | (refine Go.Sep.cl 27 _ _ (by rfl) (by rfl) (by kernel_rfl) (HEN.out _ _ (hS.re [3])) ?_; rintro e w1 ⟨ve, rfl, hS1⟩; clear hS; have hS := (show Sat W w1 (Cs q 79 (wl T.kind v vt) :: Er ve (T.dir m) :: IsT p T :: rws v T.dir :: Ir vt l2 :: L) from hS1.re [2, 0, 1]); clear hS1; obtain ⟨aoe, ce, rfl, _⟩ := Sat.tbShape (k := 1) (show Sat _ _ (_ :: Tb 59 2 ev2 ve (T.dir m) :: _) from hS) rfl; refine ⟨_, rfl, ?_⟩)); refine hK _ _ _ (hS.upTo (fun _ h => by first | exact h.one Has.z | exact h | exact (h.re [1]).drop.re [0, 2, 3, 1])) (fun _ _ h => h) ?_; clear hK K; go_frame) | (refine regN 22 hS (fun _ h => h) rfl (by kernel_rfl) (by kernel_rfl) (by kernel_rfl) (fun _ _ _ h => h) (by rfl) (by rfl) ?_; go_frame))
        (first | (refine regA 29 rfl (by kernel_rfl) (by rfl) (by rfl) false (by kernel_rfl) (fun K hK => ?_); (first
                          | (refine Go.Sep.cl 16 _ _ (by rfl) (by rfl) (by kernel_rfl) (HKD.out _ _ (hS.re [3])) ?_; rintro e w1 ⟨rfl, rfl⟩; refine ⟨_, rfl, ?_⟩)
                          | (refine Go.Sep.cl 15 _ _ (by rfl) (by rfl) (by kernel_rfl) (HLN.out _ _ (hS.re [3])) ?_; rintro e w1 ⟨rfl, rfl⟩; refine ⟨_, rfl, ?_⟩)
                          | (refine Go.Sep.cl 50 _ _ (by rfl) (by rfl) (by kernel_rfl) (HRL.out _ _ hS) ?_; rintro e w1 ⟨rfl, hS1⟩; clear hS; have hS := hS1; clear hS1; refine ⟨_, rfl, ?_⟩)
                          | (refine Go.Sep.cl 29 _ _ (by rfl) (by rfl) (by kernel_rfl) (HSE.out _ _ _ _ _ _ hS (fun w h => Sat.tbRd (k := 1) (show Sat _ _ (_ :: Tb 59 2 ev2 _ (T.dir m) :: _) from h) rfl) (fun w h => by rw [← hvd]; exact rws_rd h (k := 3) rfl hm)) ?_; rintro e w1 ⟨rfl, hS1⟩; clear hS; have hS := hS1; clear hS1; refine ⟨_, rfl, ?_⟩)
                          | (refine Go.Sep.cl 27 _ _ (by rfl) (by rfl) (by kernel_rfl) (HEN.out _ _ (hS.re [3])) ?_; rintro e w1 ⟨ve, rfl, hS1⟩; clear hS; have hS := (show Sat W w1 (Cs q 79 (wl T.kind v vt) :: Er ve (T.dir m) :: IsT p T :: rws v T.dir :: Ir vt l2 :: L) from hS1.re [2, 0, 1]); clear hS1; obtain ⟨aoe, ce, rfl, _⟩ := Sat.tbShape (k := 1) (show Sat _ _ (_ :: Tb 59 2 ev2 ve (T.dir m) :: _) from hS) rfl; refine ⟨_, rfl, ?_⟩)); refine hK _ _ _ (hS.upTo (fun _ h => by first | exact h.one Has.z | exact h | exact (h.re [1]).drop.re [0, 2, 3, 1])) (fun _ _ h => h) ?_; clear hK K; go_frame) | (refine regN 29 hS (fun _ h => by first | exact h.one Has.z | exact h | exact (h.re [1]).drop.re [0, 2, 3, 1]) rfl (by kernel_rfl) (by kernel_rfl) (by kernel_rfl) (fun _ _ _ h => h) (by rfl) (by rfl) ?_; go_frame))
        (first | (refine regP 30 hS (fun _ h => by first | exact h.one Has.z | exact h | exact (h.re [1]).drop.re [0, 2, 3, 1]) rfl (by kernel_rfl) (by kernel_rfl) (by kernel_rfl) (fun _ _ _ _ h => h) (by rfl) (by rfl) ?_; apply Exists.intro; apply And.intro; (intro w; go_simp; try with_reducible rfl); go_frame) | (refine regN 30 hS (fun _ h => by first | exact h.one Has.z | exact h | exact (h.re [1]).drop.re [0, 2, 3, 1]) rfl (by kernel_rfl) (by kernel_rfl) (by kernel_rfl) (fun _ _ _ h => h) (by rfl) (by rfl) ?_; go_frame))
        (refine regP 31 hS (fun _ h => by first | exact h.one Has.z | exact h | exact (h.re [1]).drop.re [0, 2, 3, 1]) rfl (by kernel_rfl) (by kernel_rfl) (by kernel_rfl) (fun _ _ _ _ h => h) (by rfl) (by rfl) ?_; apply Exists.intro; apply And.intro; (intro w; go_simp; try with_reducible rfl); go_frame)
        refine regDone (by kernel_rfl) ?_
        go_wp2
        exact ⟨⟨(m : Int) + 1, by go_num, by omega, by omega, (hS.re [1]).drop.re [0, 2, 3, 1]⟩, by simp [intOf]; omega⟩
    · have e0 : decide (z ≤ 48) = false := decide_eq_false h48
      have HF := Lib.hid (fun w (h : Sat W w (IsT p T :: IsW q (T.lst l2) :: L)) => tfree_any h HT.out)
      have HG := Lib.hid (fun w (h : Sat W w (IsW q (T.lst l2) :: IsT p T :: L)) => (show Calls Try.prog 51 #[.pointer (some ⟨q, 0, none⟩)] w fun r w' => r = .returned (.tuple #[.int .i64 ((T.free.getD 0 : Nat) : Int), .bool T.free.isSome]) ∧ Sat W w' (IsW q (T.lst l2) :: IsT p T :: L) from rfree_any h hT2))
      obtain ⟨ff, hff⟩ : ∃ ff, T.free.getD 0 = ff := ⟨_, rfl⟩
      obtain ⟨fb, hfb⟩ : ∃ fb, T.free.isSome = fb := ⟨_, rfl⟩
      rw [hff, hfb] at HF HG
      have hS2 : Sat W _ (IsT p T :: IsW q (T.lst l2) :: L) := (IsW.mk (T := T.lst l2) (v := v) (vt := vt) hS).pull1
      clear hS
      have hS := hS2
      clear hS2 hff hfb
      go_wp2_with (first
        | (go_at_call 12; refine (HF.out _ hS).mono ?_; rintro e w1 ⟨rfl, hS1⟩; clear hS; have hS := hS1; clear hS1)
        | (go_at_call 51; refine (HG.out _ hS.pull1).mono ?_; rintro e w1 ⟨rfl, hS1⟩; clear hS; have hS := hS1.pull1; clear hS1))
      go_ret
      exact ⟨by simp, hS⟩
end Go.Proofs.Ytiieicdhkcikpaa
