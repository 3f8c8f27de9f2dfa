/-
  For all calls and nodes, QueryWays answers true: no condition.
-/
import Derived.Test.YtpnbdnfgdiakhaaMQuf
import Derived.Test.YtpnbdnfgdiakhaaQuRefW
import Derived.Test.YtpnbdnfgdiakhaaMReg
namespace Go.Proofs.Ytpnbdnfgdiakhaa
open Go.RowKit Go.Sep Go.ChangeShapes Go.WideShapes Go.ChangeAt
set_option linter.unusedSimpArgs false
set_option linter.unusedVariables false
attribute [local irreducible] Go.Oper.wp Go.wpList Go.Calls Go.Code.wp Go.Sep.Reg
attribute [local irreducible] IsG
theorem pth_len {G : Gr} (b : Nat) : ∀ (d a : Nat) (p : List Nat), p ∈ Gr.pth G b d a → p.length ≤ d
  | 0, _, _, h => nomatch h
  | d + 1, a, p, h => by
    unfold Gr.pth at h
    split at h
    · rw [List.mem_singleton.1 h]; simp
    · obtain ⟨u, hu, h2⟩ := List.mem_flatMap.1 h
      obtain ⟨q, hq, rfl⟩ := List.mem_map.1 h2
      have := pth_len b d u q hq
      rw [List.length_cons]; omega
theorem sat_nilW {W w : World} : ∀ {L : List Asrt}, Sat W w L → Sat W w []
  | [], h => h
  | _ :: _, h => sat_nilW h.drop
set_option maxRecDepth 20000 in
theorem rways_any {W w : World} {M : List Asrt} {p : Nat} {G : Gr} (hS : Sat W w (IsR p G :: M)) (hG : G.Ok) (hA : G.Acyc) (a b : Int) {m : Nat} (hm0 : 0 < m) (hm : m ≤ 1000) :
    Calls Try.prog 17 #[.pointer (some ⟨p, 0, none⟩), .int .i64 a, .int .i64 b, .int .i64 (m : Int)] w fun e w' => ∃ v, e = .returned v ∧ Sat W w' (Rws Ir v (told G a b m) :: IsR p G :: M) := by
  have HIA := Lib.hid (fun w L r (hr : G.is a = r) (h : Sat W w (IsR p G :: L)) => is_any h a hr)
  have HIB := Lib.hid (fun w L r (hr : G.is b = r) (h : Sat W w (IsR p G :: L)) => is_any h b hr)
  have m1 : ¬ (m : Int) < 1 := by omega
  have m2 : decide ((m : Int) < 1) = false := decide_eq_false m1
  have m3 : decide (m < 1) = false := decide_eq_false (by omega)
  have HM := Lib.hid hm0
  have HM2 := Lib.hid hm
  cases ha : G.is a with
  | false =>
    have HT := Lib.hid (show told G a b m = [] by unfold told; rw [if_neg (by rw [ha]; simp)])
    rw [HT.out]
    have HI := Lib.hid (fun w L (h : Sat W w (IsR p G :: L)) => HIA.out w L false ha h)
    clear ha HIA hm0 hm
    go_enter Try.func17, Try.ntmps17
    go_wp2_with (go_at_call 35; refine (HI.out _ _ hS).mono ?_; rintro e w1 ⟨rfl, rfl⟩)
    go_ret
    exact ⟨_, rfl, hS.rwsNil⟩
  | true =>
    have HI := Lib.hid (fun w L (h : Sat W w (IsR p G :: L)) => HIA.out w L true ha h)
    cases hb : G.is b with
    | false =>
      have HT := Lib.hid (show told G a b m = [] by unfold told; rw [if_neg (by rw [hb]; simp)])
      rw [HT.out]
      have HJ := Lib.hid (fun w L (h : Sat W w (IsR p G :: L)) => HIB.out w L false hb h)
      clear ha hb HIA HIB hm0 hm
      go_enter Try.func17, Try.ntmps17
      go_wp2_with (first
        | (go_at_call 35; with_reducible refine (HI.out _ _ hS).mono ?_; rintro e w1 ⟨rfl, rfl⟩)
        | (go_at_call 35; with_reducible refine (HJ.out _ _ hS).mono ?_; rintro e w1 ⟨rfl, rfl⟩))
      go_ret
      exact ⟨_, rfl, hS.rwsNil⟩
    | true =>
      have HJ := Lib.hid (fun w L (h : Sat W w (IsR p G :: L)) => HIB.out w L true hb h)
      have HT := Lib.hid (show told G a b m = (G.wy b.toNat a.toNat).take m by unfold told; rw [if_pos ⟨ha, hb⟩])
      rw [HT.out]
      obtain ⟨an, rfl, han⟩ := Gr.is_nat ha
      obtain ⟨bn, rfl, hbn⟩ := Gr.is_nat hb
      simp only [Int.toNat_natCast]
      have HW := Lib.hid (fun w b1 M (h : Sat W w (IsR p G :: Cs b1 3 [.int .i64 (an : Int)] :: M)) => show Calls Try.prog 36 #[.pointer (some ⟨p, 0, none⟩), .slice (some ⟨b1, 0, none⟩) 1 1, .int .i64 (bn : Int), .int .i64 (m : Int)] w (fun e w' => ∃ v, e = .returned v ∧ Sat W w' (Rws Ir v ((G.wy bn an).take m) :: IsR p G :: Cs b1 3 [.int .i64 (an : Int)] :: M)) by
        have h2 := rway_any (W := W) (p := p) hG hA hbn (G.rk an) w (Cs b1 3 [.int .i64 (an : Int)] :: M) [] an (.slice (some ⟨b1, 0, none⟩) 1 1) m (Nat.le_refl _) han (by have := G.above_len an; have := hG.len; unfold Gr.rk; rw [List.length_nil]; omega) hm0 hm (fun w L' h => h.csRd0 (n := 1) (sz := 1) (has_app _ _ _) (by decide) rfl) h
        have e : G.tell bn [] an = G.wy bn an := by unfold Gr.tell; simp
        rw [e] at h2
        exact h2)
      clear ha hb HIA HIB hm0 hm han hbn
      go_enter Try.func17, Try.ntmps17
      go_wp2_with (first
        | (go_at_call 35; with_reducible refine (HI.out _ _ hS).mono ?_; rintro e w1 ⟨rfl, rfl⟩)
        | (go_at_call 35; with_reducible refine (HJ.out _ _ hS).mono ?_; rintro e w1 ⟨rfl, rfl⟩)
        | (refine toList (by rfl) ?_; refine bsF hS _ _ _ (by rfl) (elOf (by rfl)) [.int .i64 (an : Int)] (by rfl) (by rfl) (by decide) (by decide) (by simp [Value.cells]) ?_; intro b1 w1 hS1; clear hS; have hS := hS1; clear hS1; rw [sca1 rfl] at hS)
        | (go_at_call 36; refine (HW.out _ _ _ hS.pull1).mono ?_; rintro e w1 ⟨v, rfl, hS1⟩; clear hS; have hS := hS1; clear hS1))
      go_ret
      exact ⟨_, rfl, (hS.re [2]).drop⟩
def qwJ1 (W : World) (ao : Option Addr) (c : Nat) (xa xb most : Int) : Act → World → Prop := (fun (a' : Act) (w' : World) => ((∃ l' : List GOpD, (a'.tmps.getD 0 undef) = .slice ao l'.length c ∧ Rd W (.slice ao l'.length c) l'.length 3 (l'.flatMap gov)) ∧ Sat W w' []) ∧ a' = ⟨#[(a'.tmps.getD 0 undef), .int .i64 xa, .int .i64 xb, .int .i64 most, (a'.tmps.getD 4 undef), (a'.tmps.getD 5 undef), (a'.tmps.getD 6 undef), (a'.tmps.getD 7 undef), .bool false, (a'.tmps.getD 9 undef), (a'.tmps.getD 10 undef), (a'.tmps.getD 11 undef), (a'.tmps.getD 12 undef), (a'.tmps.getD 13 undef), (a'.tmps.getD 14 undef), (a'.tmps.getD 15 undef), (a'.tmps.getD 16 undef), (a'.tmps.getD 17 undef), (a'.tmps.getD 18 undef), (a'.tmps.getD 19 undef), (a'.tmps.getD 20 undef), undef, undef, undef, undef, undef, undef, undef, undef, undef, undef, undef, undef, undef, undef, undef, undef, undef, undef, undef, undef, undef, undef, undef, undef, undef, undef, undef, undef, undef, undef, undef, undef, undef, undef, undef, undef, undef, undef, undef, undef, undef, undef, undef, undef, undef, undef, undef, undef, undef, undef, undef, undef, undef, undef, undef, undef, undef, undef, undef, undef, undef, undef, undef, undef, undef, undef, undef, undef, undef, undef, undef, undef, undef, undef, undef], []⟩)
def qwJ2 (W : World) (p q : Nat) (G : Gr) (most : Int) : Act → World → Prop := (fun (a' : Act) (w' : World) => ((∃ a b : Int, (a'.tmps.getD 1 undef) = .int .i64 a ∧ (a'.tmps.getD 2 undef) = .int .i64 b) ∧ Sat W w' [IsG p G, IsR q G]) ∧ a' = ⟨#[(a'.tmps.getD 0 undef), (a'.tmps.getD 1 undef), (a'.tmps.getD 2 undef), .int .i64 most, (a'.tmps.getD 4 undef), (a'.tmps.getD 5 undef), (a'.tmps.getD 6 undef), (a'.tmps.getD 7 undef), .bool false, .pointer (some ⟨p, 0, none⟩), .pointer (some ⟨q, 0, none⟩), .bool true, (a'.tmps.getD 12 undef), (a'.tmps.getD 13 undef), (a'.tmps.getD 14 undef), (a'.tmps.getD 15 undef), (a'.tmps.getD 16 undef), (a'.tmps.getD 17 undef), (a'.tmps.getD 18 undef), (a'.tmps.getD 19 undef), (a'.tmps.getD 20 undef), (a'.tmps.getD 21 undef), (a'.tmps.getD 22 undef), (a'.tmps.getD 23 undef), (a'.tmps.getD 24 undef), (a'.tmps.getD 25 undef), (a'.tmps.getD 26 undef), (a'.tmps.getD 27 undef), (a'.tmps.getD 28 undef), (a'.tmps.getD 29 undef), (a'.tmps.getD 30 undef), (a'.tmps.getD 31 undef), (a'.tmps.getD 32 undef), (a'.tmps.getD 33 undef), (a'.tmps.getD 34 undef), (a'.tmps.getD 35 undef), (a'.tmps.getD 36 undef), (a'.tmps.getD 37 undef), (a'.tmps.getD 38 undef), (a'.tmps.getD 39 undef), (a'.tmps.getD 40 undef), (a'.tmps.getD 41 undef), (a'.tmps.getD 42 undef), (a'.tmps.getD 43 undef), (a'.tmps.getD 44 undef), (a'.tmps.getD 45 undef), (a'.tmps.getD 46 undef), (a'.tmps.getD 47 undef), (a'.tmps.getD 48 undef), (a'.tmps.getD 49 undef), (a'.tmps.getD 50 undef), (a'.tmps.getD 51 undef), (a'.tmps.getD 52 undef), (a'.tmps.getD 53 undef), (a'.tmps.getD 54 undef), (a'.tmps.getD 55 undef), (a'.tmps.getD 56 undef), (a'.tmps.getD 57 undef), (a'.tmps.getD 58 undef), (a'.tmps.getD 59 undef), (a'.tmps.getD 60 undef), undef, undef, undef, undef, undef, undef, undef, undef, undef, undef, undef, undef, undef, undef, undef, undef, undef, undef, undef, undef, undef, undef, undef, undef, undef, undef, undef, undef, undef, undef, undef, undef, undef, undef, undef], []⟩)
set_option maxRecDepth 20000 in
set_option maxHeartbeats 8000000 in
theorem Ways.walk (l : List GOpD) (ao : Option Addr) (c : Nat) (xa xb most : Int) (W : World) (hr : Rd W (.slice ao l.length c) l.length 3 (l.flatMap gov)) :
    Calls Try.prog 4 #[.slice ao l.length c, .int .i64 xa, .int .i64 xb, .int .i64 most] W fun e W' => e = .returned (.bool true) ∧ Sat W W' [] := by
  have hS := Sat.start W
  have HR := Lib.hid hr
  obtain ⟨_, _, he, hc1, hc2, _⟩ := hr
  simp only [Value.slice.injEq, true_and] at he
  obtain ⟨rfl, rfl⟩ := he
  have hli : (l.length : Int) ≤ 9223372036854775807 := by omega
  go_enter Try.func4, Try.ntmps4
  refine sep_part (fun K HK => ?_)
  go_wp2
  refine HK.out _ _ ?_
  clear HK K
  refine sep_cut (qwJ1 W ao c xa xb most) (fun K HK => ?_) ?_
  · by_cases h40 : 40 < l.length
    · have k1 : (40 : Int) < (l.length : Int) := by omega
      have k2 : decide ((40 : Int) < (l.length : Int)) = true := decide_eq_true k1
      have k3 : decide (40 < l.length) = true := decide_eq_true h40
      have H40 := Lib.hid (show 40 ≤ c by omega)
      have HL := Lib.hid (show (l.take 40).length = 40 by rw [List.length_take]; omega)
      have HR2 := Lib.hid (show Rd W (.slice ao (l.take 40).length c) (l.take 40).length 3 ((l.take 40).flatMap gov) by
        have := HR.out.cutH 40 (by omega)
        rw [fm_take (sz := 3) l 40 (gov_len l)] at this
        rw [HL.out]; exact this)
      clear h40 hc1
      go_wp2_with (refine toList (by rfl) ?_; refine wp_of_reads (rCutH (hi := 40) (by rfl) (by rfl) (by rfl) (by rfl) H40.out (elOf (by rfl)) _) ?_)
      refine HK.out _ _ ?_
      clear HK K
      unfold qwJ1
      exact ⟨⟨⟨l.take 40, by rw [HL.out]; rfl, HR2.out⟩, hS⟩, rfl⟩
    · have k1 : ¬ (40 : Int) < (l.length : Int) := by omega
      have k2 : decide ((40 : Int) < (l.length : Int)) = false := decide_eq_false k1
      have k3 : decide (40 < l.length) = false := decide_eq_false h40
      clear h40
      go_wp2
      refine HK.out _ _ ?_
      clear HK K
      unfold qwJ1
      exact ⟨⟨⟨l, rfl, HR.out⟩, hS⟩, rfl⟩
  · clear hS HR hli hc1
    intro a w0 hinv
    unfold qwJ1 at hinv
    obtain ⟨hrel, ha⟩ := hinv
    obtain ⟨z, hz⟩ : ∃ z : Nat → Value, ∀ i, a.tmps.getD i undef = z i := ⟨_, fun _ => rfl⟩
    simp only [hz] at hrel ha
    clear hz
    subst ha
    obtain ⟨⟨l', h0, hr⟩, hS⟩ := hrel
    generalize z 0 = z0 at h0 ⊢
    subst h0
    have HGR := Lib.hid (fun w L (h : Sat W w L) => graphsI_any h l' ao c (I := fun _ => True) trivial (fun _ _ _ _ _ => trivial) (fun u hu => hr.old hu))
    clear hr
    refine sep_part (fun K HK => ?_)
    go_wp2_with (go_at_call 16; refine (HGR.out _ _ hS).mono ?_; rintro e w1 ⟨p, q, G, rfl, hG, hA, _, _, hn80, hS1⟩; have HG := Lib.hid hG; have HA := Lib.hid hA; clear hG hA; clear hS; have hS := hS1; clear hS1)
    refine HK.out _ _ ?_
    clear HK K
    obtain ⟨an, cn, ae, ce, hcn, hce, hO⟩ := IsR.open (hS.re [1])
    have hni : (G.N.length : Int) ≤ 80 := by omega
    refine sep_part (fun K HK => ?_)
    go_wp2
    refine HK.out _ _ ?_
    clear HK K
    refine sep_part (fun K HK => ?_)
    by_cases h14 : 14 < G.N.length
    · have k1 : (14 : Int) < (G.N.length : Int) := by omega
      have k2 : decide ((14 : Int) < (G.N.length : Int)) = true := decide_eq_true k1
      have k3 : decide (14 < G.N.length) = true := decide_eq_true h14
      clear h14
      go_wp2_with (first
        | (refine toList (by rfl) ?_; refine ld hO _ _ (by rfl) _ _ (by rfl) (agOf (by rfl)) Has.z (by rfl) ?_)
        | (go_at_call 15; refine (awake_any hO).mono ?_; rintro e w1 ⟨rfl, hS1⟩; clear hS hO; have hS := hS1; clear hS1))
      go_ret
      exact ⟨rfl, sat_nilW hS⟩
    · have k1 : ¬ (14 : Int) < (G.N.length : Int) := by omega
      have k2 : decide ((14 : Int) < (G.N.length : Int)) = false := decide_eq_false k1
      have k3 : decide (14 < G.N.length) = false := decide_eq_false h14
      go_wp2_with (refine toList (by rfl) ?_; refine ld hO _ _ (by rfl) _ _ (by rfl) (agOf (by rfl)) Has.z (by rfl) ?_)
      refine HK.out _ _ ?_
      clear HK K
      refine sep_cut (qwJ2 W p q G most) (fun K HK => ?_) ?_
      · clear hS
        have hS := hO
        clear hO
        by_cases h0 : G.N.length = 0
        · have k4 : ¬ (0 : Int) < (G.N.length : Int) := by omega
          have k5 : decide ((0 : Int) < (G.N.length : Int)) = false := decide_eq_false k4
          have k6 : decide (0 < G.N.length) = false := decide_eq_false (by omega)
          clear h0 h14
          go_wp2_with (refine toList (by rfl) ?_; refine ld hS _ _ (by rfl) _ _ (by rfl) (agOf (by rfl)) (by first | exact Has.z | exact Has.s Has.z | exact Has.s (Has.s Has.z) | exact Has.s (Has.s (Has.s Has.z)) | exact Has.s (Has.s (Has.s (Has.s Has.z))) | exact Has.s (Has.s (Has.s (Has.s (Has.s Has.z))))) (by rfl) ?_)
          refine HK.out _ _ ?_
          clear HK K
          unfold qwJ2
          exact ⟨⟨⟨_, _, rfl, rfl⟩, (IsR.mk hS).pull1⟩, rfl⟩
        · have k4 : (0 : Int) < (G.N.length : Int) := by omega
          have k4n : 0 < G.N.length := by omega
          have k5 : decide ((0 : Int) < (G.N.length : Int)) = true := decide_eq_true k4
          have k6 : decide (0 < G.N.length) = true := decide_eq_true k4n
          have HPA := Lib.hid (fun w => place_any xa (G.N.length : Int) (by omega) (by omega) w)
          have HPB := Lib.hid (fun w => place_any xb (G.N.length : Int) (by omega) (by omega) w)
          clear h0 h14
          go_wp2_with (refine toList (by rfl) ?_; refine ld hS _ _ (by rfl) _ _ (by rfl) (agOf (by rfl)) (by first | exact Has.z | exact Has.s Has.z | exact Has.s (Has.s Has.z) | exact Has.s (Has.s (Has.s Has.z)) | exact Has.s (Has.s (Has.s (Has.s Has.z))) | exact Has.s (Has.s (Has.s (Has.s (Has.s Has.z))))) (by rfl) ?_)
          · refine regStart [13] hS (by kernel_rfl) rfl ?_
            intro w1 hS1
            clear hS; have hS := hS1; clear hS1
            (refine regP 0 hS (fun _ h => h) rfl (by kernel_rfl) (by kernel_rfl) (by kernel_rfl) (fun _ _ _ _ h => h) (by rfl) (by rfl) ?_; apply Exists.intro; apply And.intro; (intro w; go_simp; try with_reducible rfl); go_frame)
            (refine regP 1 hS (fun _ h => h) rfl (by kernel_rfl) (by kernel_rfl) (by kernel_rfl) (fun _ _ _ _ h => h) (by rfl) (by rfl) ?_; apply Exists.intro; apply And.intro; (intro w; go_simp; try with_reducible rfl); go_frame)
            (refine regP 2 hS (fun _ h => h) rfl (by kernel_rfl) (by kernel_rfl) (by kernel_rfl) (fun _ _ _ _ h => h) (by rfl) (by rfl) ?_; apply Exists.intro; apply And.intro; (intro w; go_simp; try with_reducible rfl); go_frame)
            (refine regP 3 hS (fun _ h => h) rfl (by kernel_rfl) (by kernel_rfl) (by kernel_rfl) (fun _ _ _ _ h => h) (by rfl) (by rfl) ?_; apply Exists.intro; apply And.intro; (intro w; go_simp; try with_reducible rfl); go_frame)
            (refine regR 4 hS (fun _ h => h) rfl (by kernel_rfl) (by kernel_rfl) (by kernel_rfl) (by kernel_rfl) (by kernel_rfl) (fun _ _ _ _ h => h) (by rfl) (by rfl) ?_; (refine ⟨_, yLd _ _ (by rfl) _ _ (by rfl) (agOf (by rfl)) (by first | exact Has.z | exact Has.s Has.z | exact Has.s (Has.s Has.z) | exact Has.s (Has.s (Has.s Has.z)) | exact Has.s (Has.s (Has.s (Has.s Has.z))) | exact Has.s (Has.s (Has.s (Has.s (Has.s Has.z))))) (by rfl), ?_⟩); go_frame)
            (refine regP 5 hS (fun _ h => h) rfl (by kernel_rfl) (by kernel_rfl) (by kernel_rfl) (fun _ _ _ _ h => h) (by rfl) (by rfl) ?_; apply Exists.intro; apply And.intro; (intro w; go_simp; try with_reducible rfl); go_frame)
            (refine regP 7 hS (fun _ h => h) rfl (by kernel_rfl) (by kernel_rfl) (by kernel_rfl) (fun _ _ _ _ h => h) (by rfl) (by rfl) ?_; apply Exists.intro; apply And.intro; (intro w; go_simp; try with_reducible rfl); go_frame)
            (refine regP 8 hS (fun _ h => h) rfl (by kernel_rfl) (by kernel_rfl) (by kernel_rfl) (fun _ _ _ _ h => h) (by rfl) (by rfl) ?_; apply Exists.intro; apply And.intro; (intro w; go_simp; try with_reducible rfl); go_frame)
            (refine regP 9 hS (fun _ h => h) rfl (by kernel_rfl) (by kernel_rfl) (by kernel_rfl) (fun _ _ _ _ h => h) (by rfl) (by rfl) ?_; apply Exists.intro; apply And.intro; (intro w; go_simp; try with_reducible rfl); go_frame)
            (refine regP 10 hS (fun _ h => h) rfl (by kernel_rfl) (by kernel_rfl) (by kernel_rfl) (fun _ _ _ _ h => h) (by rfl) (by rfl) ?_; apply Exists.intro; apply And.intro; (intro w; go_simp; try with_reducible rfl); go_frame)
            (refine regR 11 hS (fun _ h => h) rfl (by kernel_rfl) (by kernel_rfl) (by kernel_rfl) (by kernel_rfl) (by kernel_rfl) (fun _ _ _ _ h => h) (by rfl) (by rfl) ?_; (refine ⟨_, yLd _ _ (by rfl) _ _ (by rfl) (agOf (by rfl)) (by first | exact Has.z | exact Has.s Has.z | exact Has.s (Has.s Has.z) | exact Has.s (Has.s (Has.s Has.z)) | exact Has.s (Has.s (Has.s (Has.s Has.z))) | exact Has.s (Has.s (Has.s (Has.s (Has.s Has.z))))) (by rfl), ?_⟩); go_frame)
            (refine regP 12 hS (fun _ h => h) rfl (by kernel_rfl) (by kernel_rfl) (by kernel_rfl) (fun _ _ _ _ h => h) (by rfl) (by rfl) ?_; apply Exists.intro; apply And.intro; (intro w; go_simp; try with_reducible rfl); go_frame)
            (refine regA 6 rfl (by kernel_rfl) (by rfl) (by rfl) false (by kernel_rfl) (fun K hK => ?_); (first
                                      | (refine Go.Sep.cl 10 _ _ (by rfl) (by rfl) (by kernel_rfl) (HPA.out _) ?_; rintro e w1 ⟨rfl, rfl⟩; refine ⟨_, rfl, ?_⟩)
                                      | (refine Go.Sep.cl 10 _ _ (by rfl) (by rfl) (by kernel_rfl) (HPB.out _) ?_; rintro e w1 ⟨rfl, rfl⟩; refine ⟨_, rfl, ?_⟩)); refine hK _ _ _ hS (by first | (intro h; cases h; done) | exact fun _ _ h => h | exact fun _ _ h => h.drop | exact fun _ _ h => h.drop.drop | exact fun _ _ h => h.drop.pull1 | exact fun _ _ h => h.take2 | exact fun _ _ h => h.one Has.z | exact fun _ _ h => h.one (Has.s Has.z) | exact fun _ _ h => h.one (Has.s (Has.s Has.z))) ?_; clear hK K; go_frame)
            (refine regA 13 rfl (by kernel_rfl) (by rfl) (by rfl) true (by kernel_rfl) (fun K hK => ?_); (first
                                      | (refine Go.Sep.cl 10 _ _ (by rfl) (by rfl) (by kernel_rfl) (HPA.out _) ?_; rintro e w1 ⟨rfl, rfl⟩; refine ⟨_, rfl, ?_⟩)
                                      | (refine Go.Sep.cl 10 _ _ (by rfl) (by rfl) (by kernel_rfl) (HPB.out _) ?_; rintro e w1 ⟨rfl, rfl⟩; refine ⟨_, rfl, ?_⟩)); refine hK _ _ _ hS (by first | (intro h; cases h; done) | exact fun _ _ h => h | exact fun _ _ h => h.drop | exact fun _ _ h => h.drop.drop | exact fun _ _ h => h.drop.pull1 | exact fun _ _ h => h.take2 | exact fun _ _ h => h.one Has.z | exact fun _ _ h => h.one (Has.s Has.z) | exact fun _ _ h => h.one (Has.s (Has.s Has.z))) ?_; clear hK K; go_frame)
            (refine regP 14 hS (fun _ h => h) rfl (by kernel_rfl) (by kernel_rfl) (by kernel_rfl) (fun _ _ _ _ h => h) (by rfl) (by rfl) ?_; apply Exists.intro; apply And.intro; (intro w; go_simp; try with_reducible rfl); go_frame)
            (refine regP 15 hS (fun _ h => h) rfl (by kernel_rfl) (by kernel_rfl) (by kernel_rfl) (fun _ _ _ _ h => h) (by rfl) (by rfl) ?_; apply Exists.intro; apply And.intro; (intro w; go_simp; try with_reducible rfl); go_frame)
            refine regDone (by kernel_rfl) ?_
            go_wp2
            refine HK.out _ _ ?_
            clear HK K
            unfold qwJ2
            exact ⟨⟨⟨_, _, rfl, rfl⟩, (IsR.mk hS).pull1⟩, rfl⟩
          · refine HK.out _ _ ?_
            clear HK K
            unfold qwJ2
            exact ⟨⟨⟨_, _, rfl, rfl⟩, (IsR.mk hS).pull1⟩, rfl⟩
      · clear hS hO h14 k1 k2 k3 hcn hce
        intro a w0 hinv
        unfold qwJ2 at hinv
        obtain ⟨hrel, ha⟩ := hinv
        obtain ⟨z, hz⟩ : ∃ z : Nat → Value, ∀ i, a.tmps.getD i undef = z i := ⟨_, fun _ => rfl⟩
        simp only [hz] at hrel ha
        clear hz
        subst ha
        obtain ⟨⟨ya, yb, h1, h2⟩, hS⟩ := hrel
        generalize z 1 = z1 at h1 ⊢
        generalize z 2 = z2 at h2 ⊢
        subst h1
        subst h2
        obtain ⟨kn, hkn⟩ : ∃ kn : Nat, 1 + most % 40 = (kn : Int) := ⟨(1 + most % 40).toNat, by omega⟩
        have HKN := Lib.hid (show 0 < kn ∧ kn ≤ 40 by omega)
        have hkb : (kn : Int) ≤ 40 := by omega
        have HPL := Lib.hid (fun w => place_any most 40 (by decide) (by decide) w)
        have HW1 := Lib.hid (fun w L (h : Sat W w (IsG p G :: L)) => lways_any h HG.out HA.out ya yb (most := (kn : Int)) (K := kn) ⟨Int.le_refl _, by have := HKN.out.2; omega, .inl rfl⟩ HKN.out.1)
        have HW2 := Lib.hid (fun w L (h : Sat W w (IsR q G :: L)) => rways_any h HG.out HA.out ya yb HKN.out.1 (by have := HKN.out.2; omega))
        have HTL := Lib.hid (show (told G ya yb kn).length ≤ 40 ∧ ∀ x ∈ told G ya yb kn, x.length ≤ 1000000 by
          unfold told
          split
          · rename_i hab
            refine ⟨by rw [List.length_take]; have := HKN.out.2; omega, fun x hx => ?_⟩
            have h1 := pth_len _ _ _ _ (List.mem_of_mem_take hx)
            have h2 := G.above_len ya.toNat
            unfold Gr.rk at h1
            omega
          · exact ⟨Nat.zero_le _, fun x hx => nomatch hx⟩)
        obtain ⟨T, hT⟩ : ∃ T, told G ya yb kn = T := ⟨_, rfl⟩
        rw [hT] at HW1 HW2 HTL
        have htl : (T.length : Int) ≤ 40 := by have := HTL.out.1; omega
        clear hT
        go_wp2_with (first
          | (go_at_call 10; refine (HPL.out _).mono ?_; rintro e w1 ⟨rfl, rfl⟩)
          | (go_at_call 14; refine (HW1.out _ _ hS).mono ?_; rintro e w1 ⟨v1, rfl, hS1⟩; clear hS; have hS := hS1; clear hS1; obtain ⟨a1, c1, rfl, _⟩ := hS.rwsShape (k := 0) rfl)
          | (go_at_call 17; refine (HW2.out _ _ (hS.re [2])).mono ?_; rintro e w1 ⟨v2, rfl, hS1⟩; clear hS; have hS := (show Sat W w1 [Rws Ir v2 T, IsR q G, Rws Ir _ T, IsG p G] from hS1); clear hS1; obtain ⟨a2, c2, rfl, _⟩ := hS.rwsShape (k := 0) rfl))
        obtain ⟨vs2, hl2, h2⟩ := hS.rwsOpen
        obtain ⟨vs1, hl1, h3⟩ := (show Sat W _ (Rws Ir _ T :: Tb 0 1 one1 _ vs2 :: St (List.zipWith Ir vs2 T) :: IsR q G :: IsG p G :: []) from h2.re [3, 0, 1]).rwsOpen
        clear hS h2
        have hS := h3
        clear h3
        have HL1 := Lib.hid hl1
        have HL2 := Lib.hid hl2
        have HT1 := Lib.hid (fun w (h : Sat W w [Tb 0 1 one1 (.slice a1 T.length c1) vs1, St (List.zipWith Ir vs1 T), Tb 0 1 one1 (.slice a2 T.length c2) vs2, St (List.zipWith Ir vs2 T), IsR q G, IsG p G]) => show Rd w (.slice a1 T.length c1) T.length 1 vs1 by
          have := h.tbRd (k := 0) rfl
          rwa [one1_fm, hl1] at this)
        have HT2 := Lib.hid (fun w (h : Sat W w [Tb 0 1 one1 (.slice a1 T.length c1) vs1, St (List.zipWith Ir vs1 T), Tb 0 1 one1 (.slice a2 T.length c2) vs2, St (List.zipWith Ir vs2 T), IsR q G, IsG p G]) => show Rd w (.slice a2 T.length c2) T.length 1 vs2 by
          have := h.tbRd (k := 2) rfl
          rwa [one1_fm, hl2] at this)
        clear hl1 hl2
        have H0 := Lib.hid hS
        go_loopw [15] (fun v wz => ∃ i : Nat, v = .int .i64 i ∧ i ≤ T.length ∧ Sat W wz [Tb 0 1 one1 (.slice a1 T.length c1) vs1, St (List.zipWith Ir vs1 T), Tb 0 1 one1 (.slice a2 T.length c2) vs2, St (List.zipWith Ir vs2 T), IsR q G, IsG p G]) (fun v _ => T.length - (intOf v).toNat)
        case atStart => exact ⟨0, rfl, by omega, H0.out⟩
        case round =>
          clear hS H0
          obtain ⟨i, rfl, hi, hS⟩ := hrel
          by_cases hlt : i < T.length
          · have k1 : (i : Int) < (T.length : Int) := by omega
            have HLT := Lib.hid hlt
            obtain ⟨_, _, e1, _, _, _, h5⟩ := HT1.out _ hS
            simp only [Value.slice.injEq, true_and] at e1
            obtain ⟨rfl, rfl⟩ := e1
            obtain ⟨b1, o1, rfl, _⟩ := h5 (by omega)
            obtain ⟨_, _, e2, _, _, _, h6⟩ := HT2.out _ hS
            simp only [Value.slice.injEq, true_and] at e2
            obtain ⟨rfl, rfl⟩ := e2
            obtain ⟨b2, o2, rfl, _⟩ := h6 (by omega)
            obtain ⟨x, hx⟩ : ∃ x, T[i]? = some x := ⟨_, List.getElem?_eq_getElem hlt⟩
            obtain ⟨u1, hu1⟩ : ∃ u, vs1[i]? = some u := ⟨_, List.getElem?_eq_getElem (by rw [HL1.out]; exact hlt)⟩
            obtain ⟨u2, hu2⟩ : ∃ u, vs2[i]? = some u := ⟨_, List.getElem?_eq_getElem (by rw [HL2.out]; exact hlt)⟩
            obtain ⟨M1, hm1⟩ := hS.stRow (k := 1) rfl hu1 hx
            obtain ⟨d1, f1, rfl, _⟩ := hm1.irShape (k := 0) rfl
            obtain ⟨M2, hm2⟩ := hS.stRow (k := 3) rfl hu2 hx
            obtain ⟨d2, f2, rfl, _⟩ := hm2.irShape (k := 0) rfl
            have HU1 := Lib.hid hu1
            have HU2 := Lib.hid hu2
            have HX := Lib.hid hx
            have HXL := Lib.hid (HTL.out.2 x (List.mem_of_getElem? hx))
            clear hx hu1 hu2 hm1 hm2 hlt hi h5 h6
            go_wp2
            refine regStart [8] hS (by kernel_rfl) rfl ?_
            intro w1 hS1
            clear hS; have hS := hS1; clear hS1
            (refine regP 0 hS (fun _ h => h) rfl (by kernel_rfl) (by kernel_rfl) (by kernel_rfl) (fun _ _ _ _ h => h) (by rfl) (by rfl) ?_; apply Exists.intro; apply And.intro; (intro w; go_simp; try with_reducible rfl); go_frame)
            (refine regP 1 hS (fun _ h => h) rfl (by kernel_rfl) (by kernel_rfl) (by kernel_rfl) (fun _ _ _ _ h => h) (by rfl) (by rfl) ?_; apply Exists.intro; apply And.intro; (intro w; go_simp; try with_reducible rfl); go_frame)
            (refine regP 2 hS (fun _ h => h) rfl (by kernel_rfl) (by kernel_rfl) (by kernel_rfl) (fun _ _ _ _ h => h) (by rfl) (by rfl) ?_; apply Exists.intro; apply And.intro; (intro w; go_simp; try with_reducible rfl); go_frame)
            (refine regR 3 hS (fun _ h => h) rfl (by kernel_rfl) (by kernel_rfl) (by kernel_rfl) (by kernel_rfl) (by kernel_rfl) (fun _ _ _ _ h => h) (by rfl) (by rfl) ?_; (refine ⟨_, fun u hu => (by first | exact rLdRd1 (HT1.out u hu) _ _ (by rfl) _ (by rfl) (agOf (by rfl)) i (by omega) HU1.out (by omega) | exact rLdRd1 (HT2.out u hu) _ _ (by rfl) _ (by rfl) (agOf (by rfl)) i (by omega) HU2.out (by omega)), ?_⟩); go_frame)
            (refine regP 4 hS (fun _ h => h) rfl (by kernel_rfl) (by kernel_rfl) (by kernel_rfl) (fun _ _ _ _ h => h) (by rfl) (by rfl) ?_; apply Exists.intro; apply And.intro; (intro w; go_simp; try with_reducible rfl); go_frame)
            (refine regP 5 hS (fun _ h => h) rfl (by kernel_rfl) (by kernel_rfl) (by kernel_rfl) (fun _ _ _ _ h => h) (by rfl) (by rfl) ?_; apply Exists.intro; apply And.intro; (intro w; go_simp; try with_reducible rfl); go_frame)
            (refine regP 6 hS (fun _ h => h) rfl (by kernel_rfl) (by kernel_rfl) (by kernel_rfl) (fun _ _ _ _ h => h) (by rfl) (by rfl) ?_; apply Exists.intro; apply And.intro; (intro w; go_simp; try with_reducible rfl); go_frame)
            (refine regR 7 hS (fun _ h => h) rfl (by kernel_rfl) (by kernel_rfl) (by kernel_rfl) (by kernel_rfl) (by kernel_rfl) (fun _ _ _ _ h => h) (by rfl) (by rfl) ?_; (refine ⟨_, fun u hu => (by first | exact rLdRd1 (HT1.out u hu) _ _ (by rfl) _ (by rfl) (agOf (by rfl)) i (by omega) HU1.out (by omega) | exact rLdRd1 (HT2.out u hu) _ _ (by rfl) _ (by rfl) (agOf (by rfl)) i (by omega) HU2.out (by omega)), ?_⟩); go_frame)
            (refine regA 8 rfl (by kernel_rfl) (by rfl) (by rfl) true (by kernel_rfl) (fun K hK => ?_); ((refine Go.Sep.cl 18 _ _ (by rfl) (by rfl) (by kernel_rfl) (same_any hS x d1 d2 f1 f2 (fun w h => by obtain ⟨M1, hm1⟩ := h.stRow (k := 1) rfl HU1.out HX.out; exact hm1.irRd (k := 0) rfl) (fun w h => by obtain ⟨M2, hm2⟩ := h.stRow (k := 3) rfl HU2.out HX.out; exact hm2.irRd (k := 0) rfl) HXL.out) ?_; rintro e w1 ⟨rfl, hS1⟩; clear hS; have hS := hS1; clear hS1; refine ⟨_, rfl, ?_⟩)); refine hK _ _ _ hS (by first | (intro h; cases h; done) | exact fun _ _ h => h | exact fun _ _ h => h.drop | exact fun _ _ h => h.drop.drop | exact fun _ _ h => h.drop.pull1 | exact fun _ _ h => h.take2 | exact fun _ _ h => h.one Has.z | exact fun _ _ h => h.one (Has.s Has.z) | exact fun _ _ h => h.one (Has.s (Has.s Has.z))) ?_; clear hK K; go_frame)
            (refine regP 9 hS (fun _ h => h) rfl (by kernel_rfl) (by kernel_rfl) (by kernel_rfl) (fun _ _ _ _ h => h) (by rfl) (by rfl) ?_; apply Exists.intro; apply And.intro; (intro w; go_simp; try with_reducible rfl); go_frame)
            refine regDone (by kernel_rfl) ?_
            go_wp2
            exact ⟨⟨i + 1, by go_num, HLT.out, hS⟩, by simp [intOf]; have := HLT.out; omega⟩
          · obtain rfl : i = T.length := by omega
            have k1 : ¬ (T.length : Int) < (T.length : Int) := by omega
            clear hi hlt
            go_wp2_with (go_at_call 15; refine (awake_any hS).mono ?_; rintro e w1 ⟨rfl, hS1⟩; clear hS; have hS := hS1; clear hS1)
            go_ret
            exact ⟨rfl, sat_nilW hS⟩

set_option maxRecDepth 100000 in
theorem Ways.contract (H : Type) (enc : TypeId × Value → H) (W : World) (base : Nat) (args : Array Value) (ds gs : List (DataW H)) (before : List MemPlace)
    (hval : ∀ (j : Nat) t v, Try.f4.params[j]? = some t → args[j]? = some v → Value.okWide Try.prog W .any base t v)
    (hW : DataW.Whole enc Try.prog Try.f4.params.toList Rows.queryWaysSpec.vars false W args.toList ds gs before)
    (hreach : (DataW.weightsEach Try.prog (Try.f4.params.toList ++ Rows.queryWaysSpec.plain.varTypes Try.prog) (ds ++ gs)).all (· ≤ reachBytes) = true) :
    Calls Try.prog 4 args W fun e W' => ∃ v, e = .returned v ∧ Rows.queryWaysSpec.post enc Try.prog Try.f4 false true false false W args v W' := by
  have hW' := hW
  obtain ⟨p, q, hA, hV, rfl, hfz, hnd⟩ := hW
  rw [Try.params4] at hA hval hreach
  obtain ⟨v0, vs0, d0, ds0, p0, q0, hargs, rfl, rfl, h0, r0⟩ := trodAll_cons hA
  obtain ⟨v1, vs1, d1, ds1, p1, q1, rfl, rfl, rfl, h1, r1⟩ := trodAll_cons r0
  obtain ⟨v2, vs2, d2, ds2, p2, q2, rfl, rfl, rfl, h2, r2⟩ := trodAll_cons r1
  obtain ⟨v3, vs3, d3, ds3, p3, q3, rfl, rfl, rfl, h3, r3⟩ := trodAll_cons r2
  obtain ⟨rfl, rfl, rfl⟩ := trodAll_nil r3
  obtain rfl : args = #[v0, v1, v2, v3] := by cases args; simp_all
  obtain ⟨rfl, rfl⟩ := trodVars_none hV
  obtain ⟨ao0, l0, c0, rfl⟩ := okWide_slice Try.underlying35 (hval 0 35 v0 rfl rfl)
  obtain ⟨a1, rfl, rfl, rfl, w1⟩ := open_int Try.underlying3 (hval 1 3 v1 rfl rfl) h1
  obtain ⟨a2, rfl, rfl, rfl, w2⟩ := open_int Try.underlying3 (hval 2 3 v2 rfl rfl) h2
  obtain ⟨a3, rfl, rfl, rfl, w3⟩ := open_int Try.underlying3 (hval 3 3 v3 rfl rfl) h3
  obtain ⟨l, rfl, hr, _⟩ := open_gops h0
  refine (Ways.walk l ao0 c0 a1 a2 a3 W hr).mono ?_
  refine fun e W' ⟨he, hS⟩ => ?_
  subst he
  exact ⟨_, rfl, law_post (tb := 4) (by kernel_rfl) (by kernel_rfl) rfl Try.underlying4 rfl hW' rfl hS⟩

theorem Ways.own : ownKnob Try.prog.godebug = none := by kernel_rfl
set_option maxRecDepth 100000 in
theorem Ways.lifted (os : Os) (started : os.Started) (H : Type) (enc : TypeId × Value → H) :
    ReturnsInHanded {} Try.checked os 4 .any (Rows.queryWaysSpec.pre6 enc Try.prog Try.f4 Rows.queryWaysRow.domain false) (Rows.queryWaysSpec.post enc Try.prog Try.f4 false true false false) := by
  refine returnsInHanded_of_change_shaped (C := Try.checked) Ways.own started (by kernel_rfl) Try.func4
    (ChangeSpec.witness6 (enc := enc) (C := Try.checked) false ⟨#[], #[.slice none 0 0, .int .i64 0, .int .i64 0, .int .i64 0], []⟩ 8 (by kernel_rfl) (by kernel_rfl) (by kernel_rfl) (by kernel_rfl)) ?_
  intro W base args ds gs before hval hW _ hreach _ _
  exact Ways.contract H enc W base args ds gs before hval hW hreach

theorem Ways.holds : Rows.QueryWaysSaid :=
  OpenClaim.holds_of_wide 4 Try.f4 rfl rfl rfl rfl rfl rfl rfl ⟨rfl, rfl, rfl, rfl, rfl⟩ rfl rfl rfl rfl rfl (by kernel_rfl) Try.func4 (by kernel_rfl)
    (of_decide_eq_true (by kernel_rfl)) (by unfold Func.isWrapper; first | (rw [if_pos (by decide +kernel)]; kernel_rfl) | (rw [if_neg (by decide +kernel)]; exact ⟨rfl, rfl⟩))
    (fun os started H enc _ => Ways.lifted os started H enc)
end Go.Proofs.Ytpnbdnfgdiakhaa
