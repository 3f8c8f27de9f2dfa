/-
  For all writes, places, bytes, WalTurned answers true: no condition.
-/
import Derived.Test.YtefbkpggmmhgcaaWlAw
import Derived.Test.YtefbkpggmmhgcaaWlTurnP
namespace Go.Proofs.Ytefbkpggmmhgcaa
open Go.RowKit Go.Sep Go.ChangeShapes Go.WideShapes Go.ChangeAt
set_option linter.unusedSimpArgs false
set_option linter.unusedVariables false
attribute [local irreducible] Go.Oper.wp Go.wpList Go.Calls Go.Code.wp Go.Sep.Reg
theorem tb_congr {α : Type} {E sz : Nat} {f : α → List Value} {v : Value} {xs ys : List α} (h1 : xs.length = ys.length) (h2 : xs.flatMap f = ys.flatMap f) (h3 : ∀ x ∈ ys, (f x).length = sz) {W w : World} {L : List Asrt} (h : Sat W w (Tb E sz f v xs :: L)) : Sat W w (Tb E sz f v ys :: L) := by
  have h5 := h.tbOpen.2
  rw [h1, h2] at h5
  exact Sat.tbMk h3 h5
theorem _root_.Go.Sep.Sat.tbRdN {W w : World} {L : List Asrt} {k E sz n : Nat} {α : Type} {f : α → List Value} {v : Value} {xs : List α} (h : Sat W w L) (hk : Has L k (Tb E sz f v xs)) (hn : xs.length = n) : Rd w v n sz (xs.flatMap f) := hn ▸ h.tbRd hk
theorem st_cons {W w : World} {L M : List Asrt} {A : Asrt} (h : Sat W w (St (A :: M) :: L)) : Sat W w (A :: St M :: L) := by
  have h1 : Sat W w (A :: (M ++ L)) := h.open
  exact h1.map fun k ⟨x, y, s1, s2, ha, hd, r⟩ => ⟨x, y, s1, s2, ha, hd, Stars.append.2 r⟩
theorem st_uncons {W w : World} {L M : List Asrt} {A : Asrt} (h : Sat W w (A :: St M :: L)) : Sat W w (St (A :: M) :: L) :=
  Sat.mkSt (M := A :: M) (h.map fun k ⟨x, y, s1, s2, ha, hd, r⟩ => ⟨x, y, s1, s2, ha, hd, Stars.append.1 r⟩)
theorem rowTb {W w : World} {L : List Asrt} {xs : List GW} {v : Value} (h : Sat W w (Tb 40 2 gw v xs :: St (xs.map grow) :: L)) {i : Nat} {x : GW} (hx : xs[i]? = some x) : Rd w x.val x.data.length 1 (bv x.data) := (grows_rd h).2 x (List.mem_of_getElem? hx)
theorem st_map {W w : World} {L M : List Asrt} {ys : List GW} {x : GW} (e : ys.map grow = grow x :: M) (h : Sat W w (grow x :: St M :: L)) : Sat W w (St (ys.map grow) :: L) := by rw [e]; exact st_uncons h
theorem gen9 {W w : World} {L : List Asrt} {A B : Asrt} {v : Value} {xs ys : List GW} (e : xs = ys) (h : Sat W w (A :: B :: Tb 40 2 gw v xs :: St (xs.map grow) :: L)) : Sat W w (A :: B :: Tb 40 2 gw v ys :: St (ys.map grow) :: L) := by subst e; exact h
/-- From the loop on: the log is written, with what stands in memory; nothing is recovered. -/
def TurnOk (xs : List GW) (h : List UInt8) : Prop := (∀ x ∈ g2 xs, x.2.length = 128) ∧ xs.length ≤ 20 ∧ h.length = 128 ∧ recOk (runW disk0 (logH (g2 xs) h)).2 = false
theorem TurnOk.code {xs : List GW} {h : List UInt8} (k : TurnOk xs h) (i : Nat) : (runW disk0 ((logH (g2 xs) h).take i)).1 = 0 :=
  run_zero free0.dead free0.left ((logH_good (by rw [free0.len]; decide) (by rw [g2_len]; exact k.2.1) k.1 k.2.2.1).take i)
theorem TurnOk.of {xs : List GW} {h : List UInt8} (h1 : ∀ x ∈ g2 xs, x.2.length = 128) (h2 : xs.length ≤ 20) (h3 : h.length = 128)
    (h4 : ∀ D : DiskS, D.blocks[2]? = some h → (∀ (i : Nat) (x : Int × List UInt8), (g2 xs)[i]? = some x → D.blocks[3 + i]? = some x.2) → recOk D = false) : TurnOk xs h := by
  refine ⟨h1, h2, h3, ?_⟩
  have hg : (g2 xs).length ≤ 20 := by rw [g2_len]; exact h2
  have hG := logH_good (n := disk0.blocks.length) (by rw [free0.len]; decide) hg h1 h3
  obtain ⟨j, hj, hb, _, _, hf⟩ := run_any _ disk0 free0.dead hG
  obtain ⟨e, _, _⟩ := hf free0.left
  rw [List.take_of_length_le (by omega)] at hb
  have hB := logH_blocks (B := disk0.blocks) (g := g2 xs) (h := h) (by rw [free0.len]; decide) hg
  rw [← hb] at hB
  exact h4 _ hB.1 hB.2
set_option maxRecDepth 20000 in
set_option maxHeartbeats 8000000 in
theorem Turned.walk (l : List WD) (ao : Option Addr) (c : Nat) (at_ : Int) (y : UInt8) (inH : Bool) (W : World) (hr : InW W (.slice ao l.length c) l) :
    Calls Try.prog 4 #[.slice ao l.length c, .int .i64 at_, .int .u8 (y.toNat : Int), .bool inH] W fun e w' => e = .returned (.bool true) ∧ Sat W w' [] := by
  have hS := Sat.start W
  have HR := Lib.hid hr
  clear hr
  have HSM := Lib.hid (fun w (h : Sat W w []) => small_any h l ao c HR.out)
  cases hsm : smallW l
  · rw [hsm] at HSM
    clear hsm
    go_enter Try.func4, Try.ntmps4
    go_wp2_with (first
      | (go_at_call 8; refine (HSM.out _ hS).mono ?_; rintro e w1 ⟨rfl, hS1⟩; clear hS; have hS := hS1; clear hS1)
      | (go_at_call 9; refine (wawake_any hS).mono ?_; rintro e w1 ⟨rfl, hS1⟩; clear hS; have hS := hS1; clear hS1))
    go_ret
    exact ⟨rfl, hS⟩
  · rw [hsm] at HSM
    have HSB := Lib.hid (smallW_b hsm)
    clear hsm
    by_cases hy : y = 0
    · subst hy
      go_enter Try.func4, Try.ntmps4
      go_wp2_with (first
        | (go_at_call 8; refine (HSM.out _ hS).mono ?_; rintro e w1 ⟨rfl, hS1⟩; clear hS; have hS := hS1; clear hS1)
        | (go_at_call 9; refine (wawake_any hS).mono ?_; rintro e w1 ⟨rfl, hS1⟩; clear hS; have hS := hS1; clear hS1))
      go_ret
      exact ⟨rfl, hS⟩
    · have HY := Lib.hid hy
      have y1 : ((y.toNat : Int) == 0) = false := by
        rw [beq_eq_false_iff_ne]; intro e; exact hy (UInt8.toNat_inj.1 (by simpa using e))
      have y2 : decide ((y.toNat : Int) = 0) = false := decide_eq_false (by intro e; exact hy (UInt8.toNat_inj.1 (by simpa using e)))
      clear hy
      go_enter Try.func4, Try.ntmps4
      go_wp2_with (first
        | (go_at_call 8; refine (HSM.out _ hS).mono ?_; rintro e w1 ⟨rfl, hS1⟩; clear hS; have hS := hS1; clear hS1)
        | (go_at_call 10; refine (group_any hS l ao c HR.out HSB.out.2).mono ?_; rintro e w1 ⟨v1, v2, rfl, xs, hgx, hS1⟩; clear hS; have hS := hS1; clear hS1; have HGX := Lib.hid hgx; obtain ⟨a1, c1, rfl, _⟩ := hS.tbShape (k := 0) rfl; obtain ⟨a2, c2, rfl, _⟩ := hS.tbShape (k := 2) rfl; clear hgx))
      have hgl : (g2 xs).length ≤ 60 := by rw [HGX.out, grpW_len (by unfold grpN; omega)]; unfold grpN; have := HSB.out.1; omega
      have HCH := Lib.hid (fun w (h : Sat W w (Tb 40 2 gw (.slice a1 xs.length c1) xs :: St (xs.map grow) :: Tb 56 2 wvI (.slice a2 (g2 xs).length c2) (g2 xs) :: [])) => rcheck_any h (g2 xs) a2 c2 (fun w h => h.tbRd (Has.s (Has.s Has.z))) (by omega) 160)
      cases hok : okG 160 (g2 xs)
      · rw [hok] at HCH
        clear hok
        go_wp2_with (first
          | (go_at_call 11; refine (HCH.out _ hS).mono ?_; rintro e w1 ⟨rfl, hS1⟩; clear hS; have hS := hS1; clear hS1)
          | (go_at_call 9; refine (wawake_any hS).mono ?_; rintro e w1 ⟨rfl, hS1⟩; clear hS; have hS := hS1; clear hS1))
        go_ret
        exact ⟨rfl, hS.clear⟩
      · rw [hok] at HCH
        have HOK := Lib.hid hok
        have hx20 : xs.length ≤ 20 := by have := (okG_len hok).2; rwa [g2_len] at this
        have hx1 : 1 ≤ xs.length := by have := (okG_len hok).1; rwa [g2_len] at this
        have HHD := Lib.hid (fun (p : Nat) w (h : Sat W w (IsDisk p disk0 :: Tb 40 2 gw (.slice a1 xs.length c1) xs :: St (xs.map grow) :: Tb 56 2 wvI (.slice a2 (g2 xs).length c2) (g2 xs) :: [])) => wheader_any h xs a1 c1 (fun w h => grows_rd h.drop) hx20 (okG_range (by decide) HOK.out))
        have HGD := Lib.hid (show ∀ x ∈ g2 xs, x.2.length = 128 from fun x hx => by
          obtain ⟨i, hi⟩ := List.mem_iff_getElem?.1 hx
          exact okW_data (okG_at HOK.out hi).1)
        have HHL := Lib.hid (hdr_len (okG_len hok).2)
        obtain ⟨q, hq⟩ : ∃ q, at_.tmod 128 = q := ⟨_, rfl⟩
        have hq1 : q < 128 := by rw [← hq]; exact Int.tmod_lt_of_pos at_ (by decide)
        have hq2 : -128 < q := by
          have := Int.tmod_lt_of_pos (-at_) (show (0 : Int) < 128 by decide)
          rw [Int.neg_tmod] at this; omega
        obtain ⟨hd, hhd⟩ : ∃ hd, hdr (g2 xs) = hd := ⟨_, rfl⟩
        rw [hhd] at HHD HHL
        have HHE := Lib.hid hhd
        have HN20 := Lib.hid hx20
        clear hok hhd
        cases inH
        · have hk0 : ∃ kk : Nat, kk < 128 ∧ ((decide (q < 0) = true ∧ (kk : Int) = q + 128) ∨ (decide (q < 0) = false ∧ (kk : Int) = q)) := by
            by_cases h0 : q < 0
            · exact ⟨(q + 128).toNat, by omega, .inl ⟨decide_eq_true h0, by omega⟩⟩
            · exact ⟨q.toNat, by omega, .inr ⟨decide_eq_false h0, by omega⟩⟩
          obtain ⟨kk, hkk, hcase⟩ := hk0
          obtain ⟨⟨xa, xv, d⟩, hx0⟩ : ∃ x, xs[0]? = some x := ⟨_, List.getElem?_eq_getElem hx1⟩
          have hxs : xs = ⟨xa, xv, d⟩ :: xs.tail := by
            cases xs with
            | nil => simp at hx0
            | cons z zs => simp at hx0; rw [hx0]; rfl
          have hd128 : d.length = 128 := okW_data (okG_at HOK.out (g2_at hx0)).1
          have hxm : xs.map grow = grow ⟨xa, xv, d⟩ :: xs.tail.map grow := congrArg (List.map grow) hxs
          obtain ⟨ad, cd, rfl⟩ : ∃ ad cd, xv = .slice ad d.length cd := (grows_rd hS).slice hx0
          have h1 := hS.re [1]
          rw [hxm] at h1
          have h2 := st_cons h1
          obtain ⟨bd, od, cd', hv, _⟩ := Sat.slAddr (k := 0) (E := 5) (sz := 1) h2 rfl (by rw [hd128]; decide)
          simp only [Value.slice.injEq, true_and] at hv
          obtain ⟨rfl, rfl⟩ := hv
          obtain ⟨ba, oa, ca', hv2, _⟩ := hS.tbAddr (k := 0) rfl hx1
          simp only [Value.slice.injEq, true_and] at hv2
          obtain ⟨rfl, rfl⟩ := hv2
          have HX0 := Lib.hid hx0
          have HXM := Lib.hid hxm
          have HKD := Lib.hid (show kk < d.length by rw [hd128]; exact hkk)
          have hfs := flip_set y HKD.out
          have HAT := bv_at HKD.out
          have HFS := Lib.hid hfs
          have HBA := Lib.hid HAT
          have d1 : (128 : Int) ≤ (d.length : Int) := by omega
          have x1 : (0 : Int) < (xs.length : Int) := by omega
          have HYL := Lib.hid (show (⟨xa, .slice (some ⟨bd, od, none⟩) d.length cd, flip d kk y⟩ :: xs.tail : List GW).length = xs.length from (congrArg List.length hxs).symm)
          have hyf0 := congrArg (List.flatMap gw) hxs
          have HYF := Lib.hid (show xs.flatMap gw = (⟨xa, .slice (some ⟨bd, od, none⟩) d.length cd, flip d kk y⟩ :: xs.tail : List GW).flatMap gw from hyf0)
          have hgx : g2 xs = (xa, d) :: g2 xs.tail := congrArg g2 hxs
          have HT := Lib.hid (show TurnOk (⟨xa, .slice (some ⟨bd, od, none⟩) d.length cd, flip d kk y⟩ :: xs.tail) hd from TurnOk.of (fun x hx => by
              rcases List.mem_cons.1 hx with rfl | hx
              · show (flip d kk y).length = 128; rw [flip_len]; exact hd128
              · exact HGD.out x (by rw [hgx]; exact List.mem_cons_of_mem _ hx)) (by rw [HYL.out]; exact HN20.out) HHL.out
            (fun D h2 h3 => turned_content hgx (by rw [g2_len]; exact HN20.out) HKD.out HY.out (by rw [HHE.out]; exact h2) h3))
          obtain ⟨ys, hys⟩ : ∃ ys, (⟨xa, .slice (some ⟨bd, od, none⟩) d.length cd, flip d kk y⟩ :: xs.tail : List GW) = ys := ⟨_, rfl⟩
          have HYM := Lib.hid (show ys.map grow = grow ⟨xa, .slice (some ⟨bd, od, none⟩) d.length cd, flip d kk y⟩ :: xs.tail.map grow by rw [← hys]; rfl)
          rw [hys] at HYL HYF HT
          clear hys hyf0 hx0 hxs hd128 hxm h1 h2 hgx hfs HAT
          rcases hcase with ⟨e1, hq⟩ | ⟨e1, hq⟩
          all_goals
            go_wp2_with (first
              | (go_at_call 11; refine (HCH.out _ hS).mono ?_; rintro e w1 ⟨rfl, hS1⟩; clear hS; have hS := hS1; clear hS1)
              | (go_at_call 12; refine (new_okN hS 160 (by decide) (by decide)).mono ?_; rintro e w1 ⟨p, rfl, hS1⟩; clear hS; have hS := hS1; clear hS1)
              | (go_at_call 17; refine (HHD.out _ _ hS).mono ?_; rintro e w1 ⟨vh, rfl, hS1⟩; clear hS; have hS := hS1; clear hS1; obtain ⟨bh, oh, ch, rfl, _⟩ := hS.slAddr (k := 0) rfl (by decide); replace hS := hS.re [3]; rw [HXM.out] at hS; replace hS := st_cons hS)
              | (refine toList (by rfl) ?_; refine ldTb (f := gw) hS _ _ (by rfl) _ _ (by rfl) (agOf (by rfl)) (Has.s (Has.s (Has.s (Has.s Has.z)))) 0 1 (by omega) HX0.out (by rfl) ?_)
              | (refine toList (by rfl) ?_; refine ldSl (E := 5) (sz := 1) (vs := bv d) hS _ _ (by rfl) _ _ (by rfl) (agOf (by rfl)) Has.z kk (by omega) HBA.out ?_)
              | (refine toList (by rfl) ?_; refine stSl (E := 5) (sz := 1) (vs := bv d) hS _ _ _ (by rfl) _ _ (by rfl) _ (by first | exact evC | exact evT (by rfl)) (by rfl) (szOf (by rfl)) Has.z kk (by omega) (by rw [bv_length]; exact HKD.out) ?_; intro w1 hS1; clear hS; have hS := hS1; clear hS1; simp only [List.set_cons_zero] at hS; rw [HFS.out] at hS))
            have h3 := st_map (x := ⟨xa, .slice (some ⟨bd, od, none⟩) d.length cd, flip d kk y⟩) HYM.out (sl_len hS (flip_len d kk y))
            have h4 := tb_congr HYL.out.symm HYF.out (gw_len ys) (h3.re [3])
            generalize (some (⟨ba, oa, none⟩ : Addr)) = a1 at h4 ⊢
            have H0 : Hid (Sat W _ (IsDisk p disk0 :: Sl 5 1 (.slice (some ⟨bh, oh, none⟩) 128 ch) 128 (bv (hd)) :: Tb 40 2 gw (.slice a1 xs.length c1) ys :: St (ys.map grow) :: [])) := Lib.hid ((h4.re [4]).drop.re [3, 2])
            clear hS
            go_loopw [15] (fun v wz => ∃ (i : Nat) (D' : DiskS), v = .int .i64 i ∧ i ≤ xs.length ∧ runW disk0 ((logH (g2 ys) (hd)).take i) = (0, D') ∧ Sat W wz (IsDisk p D' :: Sl 5 1 (.slice (some ⟨bh, oh, none⟩) 128 ch) 128 (bv (hd)) :: Tb 40 2 gw (.slice a1 xs.length c1) ys :: St (ys.map grow) :: [])) (fun v _ => xs.length - (intOf v).toNat)
            case atStart => exact ⟨0, disk0, rfl, by omega, rfl, H0.out⟩
            case round =>
              clear H0
              obtain ⟨i, D', rfl, hi, hrun, hS⟩ := hrel
              have HRUN := Lib.hid hrun
              clear hrun
              by_cases hlt : i < xs.length
              · have n1 : (i : Int) < (xs.length : Int) := by omega
                obtain ⟨⟨xa, xv, xd⟩, hx⟩ : ∃ x, ys[i]? = some x := ⟨_, List.getElem?_eq_getElem (by rw [HYL.out]; exact hlt)⟩
                obtain ⟨ad, cd, rfl⟩ : ∃ ad cd, xv = .slice ad xd.length cd := (grows_rd (hS.drop.drop)).slice hx
                have HX := Lib.hid hx
                have HLT := Lib.hid hlt
                have HN := Lib.hid (runW_next HRUN.out (logH_at (hd) (g2_at hx)))
                have HC := Lib.hid (HT.out.code (i + 1))
                rw [HN.out] at HC
                have HWR := Lib.hid (fun w (h : Sat W w (IsDisk p D' :: Sl 5 1 (.slice (some ⟨bh, oh, none⟩) 128 ch) 128 (bv (hd)) :: Tb 40 2 gw (.slice a1 xs.length c1) ys :: St (ys.map grow) :: [])) => (show Calls Try.prog 18 #[.pointer (some ⟨p, 0, none⟩), .int .i64 (3 + (i : Int)), .slice ad xd.length cd] w fun e w' => e = .returned (.int .i64 0) ∧ Sat W w' (IsDisk p (wnext D' ((3 + i : Nat) : Int) xd) :: Sl 5 1 (.slice (some ⟨bh, oh, none⟩) 128 ch) 128 (bv (hd)) :: Tb 40 2 gw (.slice a1 xs.length c1) ys :: St (ys.map grow) :: []) by
                  have := writeD_any h ((free0.dg (k := 0) (Nat.le_refl _)).step HRUN.out) (by omega) ((3 + i : Nat) : Int) (.slice ad xd.length cd) xd rfl (fun w h => rowTb h.drop HX.out)
                  have hc := HC.out
                  dsimp only at hc
                  rw [hc] at this
                  rw [show (((3 + i : Nat) : Int)) = 3 + (i : Int) by omega] at this ⊢
                  exact this))
                obtain ⟨bn, on, c', hv, _⟩ := hS.tbAddr (k := 2) rfl (by rw [HYL.out]; omega)
                rw [HYL.out] at hv
                simp only [Value.slice.injEq, true_and] at hv
                obtain ⟨rfl, rfl⟩ := hv
                have hc := HC.out
                dsimp only at hc
                dsimp only at HN
                rw [hc] at HN
                have HN2 := HN
                clear hx hlt hc HN
                go_wp2_with (first
                  | (refine toList (by rfl) ?_; refine wp_of_reads (rLdRd (n := xs.length) (hS.drop.drop.tbRdN Has.z HYL.out) (gw_len ys) _ _ (by rfl) _ (by rfl) (agOf (by rfl)) i 1 (by omega) HX.out (by rfl) (by omega)) ?_)
                  | (go_at_call 18; refine (HWR.out _ hS).mono ?_; rintro e w1 ⟨rfl, hS1⟩; clear hS; have hS := hS1; clear hS1))
                exact ⟨⟨i + 1, _, by go_num, HLT.out, HN2.out, hS⟩, by simp [intOf]; have := HLT.out; omega⟩
              · have n1 : ¬ (i : Int) < (xs.length : Int) := by omega
                obtain rfl : i = xs.length := by omega
                have hlast := logH_last (g2 ys) (hd)
                rw [g2_len, HYL.out] at hlast
                have HN := Lib.hid (runW_next HRUN.out hlast)
                have HC := Lib.hid (HT.out.code (xs.length + 1))
                rw [HN.out] at HC
                have hDG := ((free0.dg (k := 0) (Nat.le_refl _)).step HRUN.out)
                have HWR := Lib.hid (fun w (h : Sat W w (IsDisk p D' :: Sl 5 1 (.slice (some ⟨bh, oh, none⟩) 128 ch) 128 (bv (hd)) :: Tb 40 2 gw (.slice a1 xs.length c1) ys :: St (ys.map grow) :: [])) => writeD_any h hDG (by omega) 2 (.slice (some ⟨bh, oh, none⟩) 128 ch) (hd) (m := 128) HT.out.2.2.1 (fun w h => h.slRd Has.z))
                have hfull : (logH (g2 ys) (hd)).take (xs.length + 1) = logH (g2 ys) (hd) := List.take_of_length_le (by rw [logH_len, g2_len, HYL.out]; exact Nat.le_refl _)
                have hD2 : (runW disk0 (logH (g2 ys) (hd))).2 = wnext D' 2 (hd) := by rw [← hfull, HN.out]
                have HRO := Lib.hid (show recOk (wnext D' 2 (hd)) = false by rw [← hD2]; exact HT.out.2.2.2)
                have HDG2 := Lib.hid (hDG.next 2 (hd))
                have HLN2 := Lib.hid (show 26 ≤ (wnext D' 2 (hd)).blocks.length by rw [← hD2, run_len, free0.len]; decide)
                obtain ⟨q, hq⟩ : ∃ q, wcode D' 2 (hd).length = q := ⟨_, rfl⟩
                rw [hq] at HWR
                obtain ⟨D2, hd2⟩ : ∃ D2, wnext D' 2 (hd) = D2 := ⟨_, rfl⟩
                rw [hd2] at HWR HRO HDG2 HLN2
                have HREC := Lib.hid (fun w (M : List Asrt) (h : Sat W w (IsDisk p D2 :: M)) => (show Calls Try.prog 16 #[.pointer (some ⟨p, 0, none⟩)] w fun e w' => e = .returned (.tuple #[.bool false, .int .i64 0]) ∧ Sat W w' (IsDisk p D2 :: M) by
                  have := wrecover_any h HDG2.out (by omega) HLN2.out
                  rw [(recR_no HRO.out).1, (recR_no HRO.out).2] at this
                  exact this))
                clear hlt hlast HN HC hDG hfull hD2 hq hd2
                go_wp2_with (first
                  | (go_at_call 18; refine (HWR.out _ hS).mono ?_; rintro e w1 ⟨rfl, hS1⟩; clear hS; have hS := hS1; clear hS1)
                  | (go_at_call 14; refine (writes_any hS rfl).mono ?_; rintro e w1 ⟨rfl, rfl⟩)
                  | (go_at_call 16; refine (HREC.out _ _ hS).mono ?_; rintro e w1 ⟨rfl, hS1⟩; clear hS; have hS := hS1; clear hS1)
                  | (go_at_call 9; refine (wawake_any hS).mono ?_; rintro e w1 ⟨rfl, hS1⟩; clear hS; have hS := hS1; clear hS1))
                go_ret
                exact ⟨rfl, hS.clear⟩
        · have hk0 : ∃ kk : Nat, 1 ≤ kk ∧ kk < 64 ∧ ((decide (q < 0) = true ∧ (q + 128 == 0) = false ∧ decide (64 ≤ q + 128) = true ∧ (kk : Int) = 61) ∨ (decide (q < 0) = true ∧ (q + 128 == 0) = false ∧ decide (64 ≤ q + 128) = false ∧ (kk : Int) = q + 128) ∨
              (decide (q < 0) = false ∧ (q == 0) = true ∧ decide (64 ≤ q) = false ∧ (kk : Int) = 61) ∨ (decide (q < 0) = false ∧ (q == 0) = false ∧ decide (64 ≤ q) = true ∧ (kk : Int) = 61) ∨ (decide (q < 0) = false ∧ (q == 0) = false ∧ decide (64 ≤ q) = false ∧ (kk : Int) = q)) := by
            simp only [decide_eq_true_eq, decide_eq_false_iff_not, beq_iff_eq, beq_eq_false_iff_ne]
            by_cases h0 : q < 0
            · by_cases h1 : 64 ≤ q + 128
              · exact ⟨61, by omega, by omega, .inl ⟨h0, by omega, h1, rfl⟩⟩
              · exact ⟨(q + 128).toNat, by omega, by omega, .inr (.inl ⟨h0, by omega, h1, by omega⟩)⟩
            · by_cases h1 : q = 0
              · exact ⟨61, by omega, by omega, .inr (.inr (.inl ⟨h0, h1, by omega, rfl⟩))⟩
              · by_cases h2 : 64 ≤ q
                · exact ⟨61, by omega, by omega, .inr (.inr (.inr (.inl ⟨h0, h1, h2, rfl⟩)))⟩
                · exact ⟨q.toNat, by omega, by omega, .inr (.inr (.inr (.inr ⟨h0, h1, h2, by omega⟩)))⟩
          obtain ⟨kk, hk1, hk64, hcase⟩ := hk0
          have HKD := Lib.hid (show kk < hd.length by rw [HHL.out]; omega)
          have hfs := flip_set y HKD.out
          have HAT := bv_at HKD.out
          have HFS := Lib.hid hfs
          have HBA := Lib.hid HAT
          have HK64 := Lib.hid hk64
          have HYL := Lib.hid (rfl : xs.length = xs.length)
          have HT := Lib.hid (show TurnOk xs (flip hd kk y) from TurnOk.of HGD.out HN20.out (by rw [flip_len]; exact HHL.out)
            (fun D h2 h3 => turned_header (by rw [g2_len]; exact HN20.out) hk1 HK64.out HY.out (by rw [HHE.out]; exact h2) h3))
          clear hfs HAT
          rcases hcase with ⟨e1, e2, e3, hkq⟩ | ⟨e1, e2, e3, hkq⟩ | ⟨e1, e2, e3, hkq⟩ | ⟨e1, e2, e3, hkq⟩ | ⟨e1, e2, e3, hkq⟩
          all_goals
            go_wp2_with (first
              | (go_at_call 11; refine (HCH.out _ hS).mono ?_; rintro e w1 ⟨rfl, hS1⟩; clear hS; have hS := hS1; clear hS1)
              | (go_at_call 12; refine (new_okN hS 160 (by decide) (by decide)).mono ?_; rintro e w1 ⟨p, rfl, hS1⟩; clear hS; have hS := hS1; clear hS1)
              | (go_at_call 17; refine (HHD.out _ _ hS).mono ?_; rintro e w1 ⟨vh, rfl, hS1⟩; clear hS; have hS := hS1; clear hS1; obtain ⟨bh, oh, ch, rfl, _⟩ := hS.slAddr (k := 0) rfl (by decide))
              | (refine toList (by rfl) ?_; refine ldSl (E := 5) (sz := 1) (vs := bv hd) hS _ _ (by rfl) _ _ (by rfl) (agOf (by rfl)) Has.z kk (by omega) HBA.out ?_)
              | (refine toList (by rfl) ?_; refine stSl (E := 5) (sz := 1) (vs := bv hd) hS _ _ _ (by rfl) _ _ (by rfl) _ (by first | exact evC | exact evT (by rfl)) (by rfl) (szOf (by rfl)) Has.z kk (by omega) (by rw [bv_length]; exact HKD.out) ?_; intro w1 hS1; clear hS; have hS := hS1; clear hS1; simp only [List.set_cons_zero] at hS; rw [HFS.out] at hS))
            obtain ⟨ys, hys⟩ : ∃ ys, xs = ys := ⟨_, rfl⟩
            have HYL := Lib.hid (show ys.length = xs.length by rw [hys])
            rw [hys] at HT
            have h9 := gen9 hys (((hS.re [4]).drop).pull1)
            clear hys
            have H0 : Hid (Sat W _ (IsDisk p disk0 :: Sl 5 1 (.slice (some ⟨bh, oh, none⟩) 128 ch) 128 (bv (flip hd kk y)) :: Tb 40 2 gw (.slice a1 xs.length c1) ys :: St (ys.map grow) :: [])) := Lib.hid h9
            clear hS
            go_loopw [15] (fun v wz => ∃ (i : Nat) (D' : DiskS), v = .int .i64 i ∧ i ≤ xs.length ∧ runW disk0 ((logH (g2 ys) (flip hd kk y)).take i) = (0, D') ∧ Sat W wz (IsDisk p D' :: Sl 5 1 (.slice (some ⟨bh, oh, none⟩) 128 ch) 128 (bv (flip hd kk y)) :: Tb 40 2 gw (.slice a1 xs.length c1) ys :: St (ys.map grow) :: [])) (fun v _ => xs.length - (intOf v).toNat)
            case atStart => exact ⟨0, disk0, rfl, by omega, rfl, H0.out⟩
            case round =>
              clear H0
              obtain ⟨i, D', rfl, hi, hrun, hS⟩ := hrel
              have HRUN := Lib.hid hrun
              clear hrun
              by_cases hlt : i < xs.length
              · have n1 : (i : Int) < (xs.length : Int) := by omega
                obtain ⟨⟨xa, xv, xd⟩, hx⟩ : ∃ x, ys[i]? = some x := ⟨_, List.getElem?_eq_getElem (by rw [HYL.out]; exact hlt)⟩
                obtain ⟨ad, cd, rfl⟩ : ∃ ad cd, xv = .slice ad xd.length cd := (grows_rd (hS.drop.drop)).slice hx
                have HX := Lib.hid hx
                have HLT := Lib.hid hlt
                have HN := Lib.hid (runW_next HRUN.out (logH_at (flip hd kk y) (g2_at hx)))
                have HC := Lib.hid (HT.out.code (i + 1))
                rw [HN.out] at HC
                have HWR := Lib.hid (fun w (h : Sat W w (IsDisk p D' :: Sl 5 1 (.slice (some ⟨bh, oh, none⟩) 128 ch) 128 (bv (flip hd kk y)) :: Tb 40 2 gw (.slice a1 xs.length c1) ys :: St (ys.map grow) :: [])) => (show Calls Try.prog 18 #[.pointer (some ⟨p, 0, none⟩), .int .i64 (3 + (i : Int)), .slice ad xd.length cd] w fun e w' => e = .returned (.int .i64 0) ∧ Sat W w' (IsDisk p (wnext D' ((3 + i : Nat) : Int) xd) :: Sl 5 1 (.slice (some ⟨bh, oh, none⟩) 128 ch) 128 (bv (flip hd kk y)) :: Tb 40 2 gw (.slice a1 xs.length c1) ys :: St (ys.map grow) :: []) by
                  have := writeD_any h ((free0.dg (k := 0) (Nat.le_refl _)).step HRUN.out) (by omega) ((3 + i : Nat) : Int) (.slice ad xd.length cd) xd rfl (fun w h => rowTb h.drop HX.out)
                  have hc := HC.out
                  dsimp only at hc
                  rw [hc] at this
                  rw [show (((3 + i : Nat) : Int)) = 3 + (i : Int) by omega] at this ⊢
                  exact this))
                obtain ⟨bn, on, c', hv, _⟩ := hS.tbAddr (k := 2) rfl (by rw [HYL.out]; omega)
                rw [HYL.out] at hv
                simp only [Value.slice.injEq, true_and] at hv
                obtain ⟨rfl, rfl⟩ := hv
                have hc := HC.out
                dsimp only at hc
                dsimp only at HN
                rw [hc] at HN
                have HN2 := HN
                clear hx hlt hc HN
                go_wp2_with (first
                  | (refine toList (by rfl) ?_; refine wp_of_reads (rLdRd (n := xs.length) (hS.drop.drop.tbRdN Has.z HYL.out) (gw_len ys) _ _ (by rfl) _ (by rfl) (agOf (by rfl)) i 1 (by omega) HX.out (by rfl) (by omega)) ?_)
                  | (go_at_call 18; refine (HWR.out _ hS).mono ?_; rintro e w1 ⟨rfl, hS1⟩; clear hS; have hS := hS1; clear hS1))
                exact ⟨⟨i + 1, _, by go_num, HLT.out, HN2.out, hS⟩, by simp [intOf]; have := HLT.out; omega⟩
              · have n1 : ¬ (i : Int) < (xs.length : Int) := by omega
                obtain rfl : i = xs.length := by omega
                have hlast := logH_last (g2 ys) (flip hd kk y)
                rw [g2_len, HYL.out] at hlast
                have HN := Lib.hid (runW_next HRUN.out hlast)
                have HC := Lib.hid (HT.out.code (xs.length + 1))
                rw [HN.out] at HC
                have hDG := ((free0.dg (k := 0) (Nat.le_refl _)).step HRUN.out)
                have HWR := Lib.hid (fun w (h : Sat W w (IsDisk p D' :: Sl 5 1 (.slice (some ⟨bh, oh, none⟩) 128 ch) 128 (bv (flip hd kk y)) :: Tb 40 2 gw (.slice a1 xs.length c1) ys :: St (ys.map grow) :: [])) => writeD_any h hDG (by omega) 2 (.slice (some ⟨bh, oh, none⟩) 128 ch) (flip hd kk y) (m := 128) HT.out.2.2.1 (fun w h => h.slRd Has.z))
                have hfull : (logH (g2 ys) (flip hd kk y)).take (xs.length + 1) = logH (g2 ys) (flip hd kk y) := List.take_of_length_le (by rw [logH_len, g2_len, HYL.out]; exact Nat.le_refl _)
                have hD2 : (runW disk0 (logH (g2 ys) (flip hd kk y))).2 = wnext D' 2 (flip hd kk y) := by rw [← hfull, HN.out]
                have HRO := Lib.hid (show recOk (wnext D' 2 (flip hd kk y)) = false by rw [← hD2]; exact HT.out.2.2.2)
                have HDG2 := Lib.hid (hDG.next 2 (flip hd kk y))
                have HLN2 := Lib.hid (show 26 ≤ (wnext D' 2 (flip hd kk y)).blocks.length by rw [← hD2, run_len, free0.len]; decide)
                obtain ⟨q, hq⟩ : ∃ q, wcode D' 2 (flip hd kk y).length = q := ⟨_, rfl⟩
                rw [hq] at HWR
                obtain ⟨D2, hd2⟩ : ∃ D2, wnext D' 2 (flip hd kk y) = D2 := ⟨_, rfl⟩
                rw [hd2] at HWR HRO HDG2 HLN2
                have HREC := Lib.hid (fun w (M : List Asrt) (h : Sat W w (IsDisk p D2 :: M)) => (show Calls Try.prog 16 #[.pointer (some ⟨p, 0, none⟩)] w fun e w' => e = .returned (.tuple #[.bool false, .int .i64 0]) ∧ Sat W w' (IsDisk p D2 :: M) by
                  have := wrecover_any h HDG2.out (by omega) HLN2.out
                  rw [(recR_no HRO.out).1, (recR_no HRO.out).2] at this
                  exact this))
                clear hlt hlast HN HC hDG hfull hD2 hq hd2
                go_wp2_with (first
                  | (go_at_call 18; refine (HWR.out _ hS).mono ?_; rintro e w1 ⟨rfl, hS1⟩; clear hS; have hS := hS1; clear hS1)
                  | (go_at_call 14; refine (writes_any hS rfl).mono ?_; rintro e w1 ⟨rfl, rfl⟩)
                  | (go_at_call 16; refine (HREC.out _ _ hS).mono ?_; rintro e w1 ⟨rfl, hS1⟩; clear hS; have hS := hS1; clear hS1)
                  | (go_at_call 9; refine (wawake_any hS).mono ?_; rintro e w1 ⟨rfl, hS1⟩; clear hS; have hS := hS1; clear hS1))
                go_ret
                exact ⟨rfl, hS.clear⟩

set_option maxRecDepth 100000 in
theorem Turned.contract (H : Type) (enc : TypeId × Value → H) (W : World) (base : Nat) (args : Array Value) (ds gs : List (DataW H)) (before : List MemPlace)
    (hval : ∀ (j : Nat) t v, Try.f4.params[j]? = some t → args[j]? = some v → Value.okWide Try.prog W .any base t v)
    (hW : DataW.Whole enc Try.prog Try.f4.params.toList Rows.walTurnedSpec.vars false W args.toList ds gs before)
    (hreach : (DataW.weightsEach Try.prog (Try.f4.params.toList ++ Rows.walTurnedSpec.plain.varTypes Try.prog) (ds ++ gs)).all (· ≤ reachBytes) = true) :
    Calls Try.prog 4 args W fun e W' => ∃ v, e = .returned v ∧ Rows.walTurnedSpec.post enc Try.prog Try.f4 false true false false W args v W' := by
  have hW' := hW
  obtain ⟨p, q, hA, hV, rfl, hfz, hnd⟩ := hW
  rw [Try.params4] at hA hval hreach
  obtain ⟨v1, vs1, d1, ds1, p1, q1, hargs, rfl, rfl, h1, r1⟩ := trodAll_cons hA
  obtain ⟨v2, vs2, d2, ds2, p2, q2, rfl, rfl, rfl, h2, r2⟩ := trodAll_cons r1
  obtain ⟨v3, vs3, d3, ds3, p3, q3, rfl, rfl, rfl, h3, r3⟩ := trodAll_cons r2
  obtain ⟨v4, vs4, d4, ds4, p4, q4, rfl, rfl, rfl, h4, r4⟩ := trodAll_cons r3
  obtain ⟨rfl, rfl, rfl⟩ := trodAll_nil r4
  obtain rfl : args = #[v1, v2, v3, v4] := by cases args; simp_all
  obtain ⟨rfl, rfl⟩ := trodVars_none hV
  obtain ⟨ao1, l1, c1, rfl⟩ := okWide_slice Try.underlying22 (hval 0 22 v1 rfl rfl)
  obtain ⟨a2, rfl, rfl, rfl, _⟩ := open_int Try.underlying3 (hval 1 3 v2 rfl rfl) h2
  obtain ⟨a3, rfl, rfl, rfl, w3⟩ := open_int Try.underlying5 (hval 2 5 v3 rfl rfl) h3
  obtain ⟨y, rfl⟩ := u8_of w3
  obtain ⟨b4, rfl, rfl, rfl⟩ := open_bool Try.underlying4 (hval 3 4 v4 rfl rfl) h4
  obtain ⟨l, rfl, hr, hro⟩ := open_wds h1
  refine (Turned.walk l ao1 c1 a2 y b4 W ⟨hr, hro⟩).mono ?_
  refine fun e W' ⟨he, hS⟩ => ?_
  subst he
  exact ⟨_, rfl, law_post (tb := 4) (by kernel_rfl) (by kernel_rfl) rfl Try.underlying4 rfl hW' rfl hS⟩

theorem Turned.own : ownKnob Try.prog.godebug = none := by kernel_rfl
set_option maxRecDepth 100000 in
theorem Turned.lifted (os : Os) (started : os.Started) (H : Type) (enc : TypeId × Value → H) :
    ReturnsInHanded {} Try.checked os 4 .any (Rows.walTurnedSpec.pre6 enc Try.prog Try.f4 Rows.walTurnedRow.domain false) (Rows.walTurnedSpec.post enc Try.prog Try.f4 false true false false) := by
  refine returnsInHanded_of_change_shaped (C := Try.checked) Turned.own started (by kernel_rfl) Try.func4
    (ChangeSpec.witness6 (enc := enc) (C := Try.checked) false ⟨#[], #[.slice none 0 0, .int .i64 0, .int .u8 0, .bool false], []⟩ 8 (by kernel_rfl) (by kernel_rfl) (by kernel_rfl) (by kernel_rfl)) ?_
  intro W base args ds gs before hval hW _ hreach _ _
  exact Turned.contract H enc W base args ds gs before hval hW hreach

theorem Turned.holds : Rows.WalTurnedSaid :=
  OpenClaim.holds_of_wide 4 Try.f4 rfl rfl rfl rfl rfl rfl rfl ⟨rfl, rfl, rfl, rfl, rfl⟩ rfl rfl rfl rfl rfl (by kernel_rfl) Try.func4 (by kernel_rfl)
    (of_decide_eq_true (by kernel_rfl)) (by unfold Func.isWrapper; first | (rw [if_pos (by decide +kernel)]; kernel_rfl) | (rw [if_neg (by decide +kernel)]; exact ⟨rfl, rfl⟩))
    (fun os started H enc _ => Turned.lifted os started H enc)
end Go.Proofs.Ytefbkpggmmhgcaa
