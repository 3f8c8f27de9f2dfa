/-
  pedigreeref21.Get: the records of a block.
-/
import Derived.Test.YtcabgeljdgcdlaaRecGet
namespace Go.Proofs.Ytcabgeljdgcdlaa
open Go.RowKit Go.Sep
set_option linter.unusedSimpArgs false
set_option linter.unusedVariables false
attribute [local irreducible] Go.Oper.wp Go.wpList Go.Calls Go.Code.wp Go.Sep.Reg
theorem okPut_15 {l : List RecD} {next : Int} (h : okPut l next = true) : l.length ≤ 15 := by
  unfold okPut at h
  simp only [Bool.and_eq_true, decide_eq_true_eq] at h
  exact h.1.1
theorem getOk_len {b : List UInt8} (h : getOk b = true) : b.length = 128 := by
  unfold getOk at h
  simp only [Bool.and_eq_true, decide_eq_true_eq] at h
  have := encB_len (nextOf b) (okPut_15 h.1)
  rw [h.2] at this
  exact this
theorem getOk_cnt {b : List UInt8} (h : getOk b = true) : getN b 0 1 ≤ 15 := by
  unfold getOk at h
  simp only [Bool.and_eq_true, decide_eq_true_eq] at h
  have := okPut_15 h.1
  rw [parse, recsAt_len, cntOf] at this
  omega
theorem getN_first {b : List UInt8} {x : UInt8} (h : b[0]? = some x) : getN b 0 1 = x.toNat := by
  cases b with
  | nil => simp at h
  | cons y b => simp at h; subst h; simp [getN, un]
theorem bool_no {p : Prop} {b : Bool} (h : b = true → p) (hp : ¬ p) : b = false := by cases b <;> simp_all
set_option maxRecDepth 20000 in
set_option maxHeartbeats 2000000 in
theorem ref_rget_any {W w : World} {L : List Asrt} (hS : Sat W w L) (b : List UInt8) (ao : Option Addr) (c : Nat) (hr : ∀ w, Sat W w L → Rd w (.slice ao b.length c) b.length 1 (bv b)) (hb : b.length ≤ 140737488355328) :
    Calls Try.prog 47 #[.slice ao b.length c] w fun e w' => ∃ v', e = .returned (.tuple #[v', .int .i64 (getX b), .bool (getOk b)]) ∧ Sat W w' (Tb 68 3 rv v' (getL b) :: L) := by
  by_cases hlen : b.length = 128
  · obtain ⟨x0, hx0⟩ : ∃ x, b[0]? = some x := ⟨_, List.getElem?_eq_getElem (by omega)⟩
    have hg := getN_first hx0
    have hbv : (bv b)[0]? = some (.int .u8 (x0.toNat : Int)) := by rw [bv, List.getElem?_map, hx0]; rfl
    obtain ⟨g, hgg⟩ : ∃ g, x0.toNat = g := ⟨_, rfl⟩
    have hgb := x0.toNat_lt
    rw [hgg] at hg hbv hgb
    have HBV := Lib.hid hbv
    have HR : Hid (∀ w, Sat W w L → Rd w (.slice ao b.length c) b.length 1 (bv b)) := Lib.hid hr
    obtain ⟨_, _, he, hc1, hc2, _, h5⟩ := hr w hS
    simp only [Value.slice.injEq, true_and] at he
    obtain ⟨rfl, rfl⟩ := he
    obtain ⟨bb, off, rfl, _⟩ := h5 (by omega)
    have j0 : (b.length : Int) ≤ 128 := by omega
    have j00 : 128 ≤ (b.length : Int) := by omega
    have e8 : ((b.length : Int) != 128) = false := by simp; omega
    have hne : b ≠ [] := by intro h; subst h; simp at j00
    clear hlen
    by_cases hc : 15 < g
    · have HGO := Lib.hid (bool_no (getOk_cnt (b := b)) (by rw [hg]; omega))
      have j1 : (15 : Int) < (g : Int) := by omega
      clear hr hgg hx0 hbv hg
      go_enter Try.func47, Try.ntmps47
      go_wp2_with (refine toList (by rfl) ?_; refine wp_of_reads (rLdRd1 (HR.out _ hS) _ _ (by rfl) _ (by rfl) (agOf (by rfl)) 0 (by omega) HBV.out (by omega)) ?_)
      go_ret3
      rw [getL_no HGO.out, getX_no HGO.out, HGO.out]
      exact ⟨_, rfl, hS.tbNil⟩
    have HPM := Lib.hid (show parse b = recsAt b g by rw [parse, cntOf, hg, Nat.min_eq_left (by omega)])
    have HNIL := Lib.hid (hS.tbNil (α := RecD) (f := rv) (E := 68) (sz := 3))
    have j1 : (g : Int) ≤ 15 := by omega
    have H0 : Hid (Sat W w (Tb 68 3 rv (.slice none 0 0) (recsAt b 0) :: L)) := Lib.hid HNIL.out
    clear hr hgg hx0 hbv hg
    go_enter Try.func47, Try.ntmps47
    go_wp2_with (first
      | (refine toList (by rfl) ?_; refine wp_of_reads (rLdRd1 (HR.out _ hS) _ _ (by rfl) _ (by rfl) (agOf (by rfl)) 0 (by omega) HBV.out (by omega)) ?_)
      | (go_at_call 68; refine (ref_getN_any hS _ _ b HR.out _ 1 2 (by rfl) (by omega) (by omega) hb).mono ?_; rintro e w1 ⟨ok2, rfl, rfl⟩))
    go_loopw [8, 7] (fun vi vl wz => ∃ k : Nat, k ≤ g ∧ vi = .int .i64 k ∧ Sat W wz (Tb 68 3 rv vl (recsAt b k) :: L)) (fun vi _ _ => g - (intOf vi).toNat)
    case atStart => exact ⟨0, by omega, rfl, H0.out⟩
    case round =>
      clear H0 hS
      obtain ⟨k, hk, rfl, hS⟩ := hrel
      have HRW : Hid (∀ w (A : Asrt), Sat W w (A :: L) → Rd w (.slice (some ⟨bb, off, none⟩) b.length c) b.length 1 (bv b)) := Lib.hid (fun w A h => HR.out w h.drop)
      by_cases hlt : k < g
      · have j1 : (k : Int) < (g : Int) := by omega
        have j2 : (k : Int) < 16 := by omega
        have HSU := Lib.hid (recsAt_succ b k)
        have HLN := Lib.hid (recsAt_len b k)
        go_wp2_with (first
          | (refine toList (by rfl) ?_; refine wp_of_reads (rLdRd1 (HRW.out _ _ hS) _ _ (by rfl) _ (by rfl) (agOf (by rfl)) 0 (by omega) HBV.out (by omega)) ?_)
          | (go_at_call 68; refine (ref_getN_any hS _ _ b (HRW.out · _) _ (3 + 7 * k) 1 (by omega) (by omega) (by omega) hb).mono ?_; rintro e w1 ⟨ok1, rfl, rfl⟩)
          | (go_at_call 68; refine (ref_getN_any hS _ _ b (HRW.out · _) _ (4 + 7 * k) 3 (by omega) (by omega) (by omega) hb).mono ?_; rintro e w1 ⟨ok1, rfl, rfl⟩)
          | (go_at_call 68; refine (ref_getN_any hS _ _ b (HRW.out · _) _ (7 + 7 * k) 3 (by omega) (by omega) (by omega) hb).mono ?_; rintro e w1 ⟨ok1, rfl, rfl⟩)
          | (refine toList (by rfl) ?_; refine bsF hS _ _ _ (by rfl) (elOf (by rfl)) [.agg (rv (recAt b k)).toArray] (by rfl) (by rfl) (by decide) (by decide) (by intro v hv; rw [List.mem_singleton.1 hv]; rfl) ?_; intro b1 w1 hS1; clear hS; have hS := hS1; clear hS1; rw [agg1] at hS)
          | (refine toList (by rfl) ?_; refine apTbS (f := rv) hS _ _ _ _ (by rfl) _ _ (by rfl) (by rfl) (elOf (by rfl)) (by rfl) (by decide) (inOf (by rfl)) (by first | exact Has.z | exact Has.s Has.z | exact Has.s (Has.s Has.z) | exact Has.s (Has.s (Has.s Has.z)) | exact Has.s (Has.s (Has.s (Has.s Has.z))) | exact Has.s (Has.s (Has.s (Has.s (Has.s Has.z))))) [(recAt b k)] (by exact rv_len _) (by exact hS.src1 (f := rv) Has.z rfl) (by exact rv_one _) (by rw [HLN.out]; simp; omega) (by rw [HLN.out]; simp; omega) ?_; intro ao5 c5 w1 hcap5 hS1; clear hS; have hS := hS1; clear hS1; dsimp only [List.set_cons_zero, List.set_cons_succ] at hS))
        exact ⟨⟨k + 1, by omega, by go_num, by rw [HSU.out]; simpa only [List.length_append, List.length_cons, List.length_nil] using hS.drop⟩, by simp [intOf]; omega⟩
      · obtain rfl : k = g := by omega
        clear hlt
        obtain ⟨ao9, c9, rfl, _⟩ := hS.tbShape (k := 0) rfl
        rw [← HPM.out] at hS ⊢
        have HPL := Lib.hid (parse_len b)
        cases hok : okPut (parse b) (nextOf b)
        · have HOK := Lib.hid hok
          have HPB := Lib.hid (putB_no hok)
          have HGO := Lib.hid (show getOk b = false by unfold getOk; rw [hok]; rfl)
          clear hok
          go_wp2_with (first
            | (refine toList (by rfl) ?_; refine wp_of_reads (rLdRd1 (HRW.out _ _ hS) _ _ (by rfl) _ (by rfl) (agOf (by rfl)) 0 (by omega) HBV.out (by omega)) ?_)
            | (go_at_call 41; refine (ref_rput_any hS (parse b) _ _ (fun w h => h.tbRd Has.z) (by have := HPL.out; omega) (nextOf b)).mono ?_; rintro e w1 ⟨v2, rfl, hS1⟩; rw [HPB.out] at hS1; clear hS; have hS := hS1; clear hS1; obtain ⟨ao2, c2, rfl, _⟩ := hS.slShape (k := 0) rfl; dsimp only [List.length_nil] at hS ⊢))
          go_ret3
          rw [getL_no HGO.out, getX_no HGO.out, HGO.out]
          exact ⟨_, rfl, hS.drop.drop.tbNil⟩
        · have HOK := Lib.hid hok
          have hel := encB_len (nextOf b) (okPut_15 hok)
          by_cases he : encB (parse b) (nextOf b) = b
          · have HE := Lib.hid he
            have HGO := Lib.hid (show getOk b = true by unfold getOk; rw [hok, he]; simp)
            clear hok he hel
            have e10 : ((b.length : Int) == 0) = false := beq_eq_false_iff_ne.2 (by omega)
            clear hne
            go_wp2_with (first
              | (refine toList (by rfl) ?_; refine wp_of_reads (rLdRd1 (HRW.out _ _ hS) _ _ (by rfl) _ (by rfl) (agOf (by rfl)) 0 (by omega) HBV.out (by omega)) ?_)
              | (go_at_call 41; refine (ref_rput_any hS (parse b) _ _ (fun w h => h.tbRd Has.z) (by have := HPL.out; omega) (nextOf b)).mono ?_; rintro e w1 ⟨v2, rfl, hS1⟩; rw [putB_yes HOK.out, HE.out] at hS1; clear hS; have hS := hS1; clear hS1; obtain ⟨ao2, c2, rfl, _⟩ := hS.slShape (k := 0) rfl)
              | (refine toList (by rfl) ?_; refine cvS _ _ _ (by rfl) _ (by rfl) strBytes (l := b) (by first | exact HR.out _ hS.drop.drop | exact hS.slRd Has.z) ?_))
            go_ret3
            rw [getL_yes HGO.out, getX_yes HGO.out, HGO.out]
            exact ⟨_, rfl, hS.drop⟩
          · have HGO := Lib.hid (show getOk b = false by unfold getOk; simp [he])
            have HPB := Lib.hid (show putB (parse b) (nextOf b) = encB (parse b) (nextOf b) from putB_yes hok)
            obtain ⟨d, hd⟩ : ∃ d, encB (parse b) (nextOf b) = d := ⟨_, rfl⟩
            rw [hd] at he HPB hel
            have e9 : (!d == b) = true := by simp [he]
            have hel2 : (d.length : Int) = 128 := by omega
            clear hok hd he hel
            have e10 : ((d.length : Int) == 0) = false := beq_eq_false_iff_ne.2 (by omega)
            go_wp2_with (first
              | (refine toList (by rfl) ?_; refine wp_of_reads (rLdRd1 (HRW.out _ _ hS) _ _ (by rfl) _ (by rfl) (agOf (by rfl)) 0 (by omega) HBV.out (by omega)) ?_)
              | (go_at_call 41; refine (ref_rput_any hS (parse b) _ _ (fun w h => h.tbRd Has.z) (by have := HPL.out; omega) (nextOf b)).mono ?_; rintro e w1 ⟨v2, rfl, hS1⟩; rw [HPB.out] at hS1; clear hS; have hS := hS1; clear hS1; obtain ⟨ao2, c2, rfl, _⟩ := hS.slShape (k := 0) rfl)
              | (refine toList (by rfl) ?_; refine cvS _ _ _ (by rfl) _ (by rfl) strBytes (l := b) (by exact HR.out _ hS.drop.drop) ?_)
              | (refine toList (by rfl) ?_; refine cvS _ _ _ (by rfl) _ (by rfl) strBytes (l := d) (by exact hS.slRd Has.z) ?_))
            go_ret3
            rw [getL_no HGO.out, getX_no HGO.out, HGO.out]
            exact ⟨_, rfl, hS.drop.drop.tbNil⟩
  · have HGO := Lib.hid (bool_no (getOk_len (b := b)) hlen)
    have j0 : (b.length : Int) < 128 ∨ 128 < (b.length : Int) := by omega
    have e9 : ((b.length : Int) != 128) = true := bne_iff_ne.2 (by omega)
    clear hr hlen
    go_enter Try.func47, Try.ntmps47
    go_wp2
    go_ret3
    rw [getL_no HGO.out, getX_no HGO.out, HGO.out]
    exact ⟨_, rfl, hS.tbNil⟩
end Go.Proofs.Ytcabgeljdgcdlaa
