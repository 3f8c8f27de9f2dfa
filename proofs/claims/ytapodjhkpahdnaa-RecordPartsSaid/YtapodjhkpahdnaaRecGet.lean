/-
  Package record: Get.
-/
import Derived.Test.YtapodjhkpahdnaaRecPut
import Derived.OwnWalk
namespace Go.Proofs.Ytapodjhkpahdnaa
open Go.RowKit Go.Sep
set_option linter.unusedSimpArgs false
set_option linter.unusedVariables false
attribute [local irreducible] Go.Oper.wp Go.wpList Go.Calls Go.Code.wp Go.Sep.Reg
def getN (b : List UInt8) (t n : Nat) : Nat := if t + n ≤ b.length then un ((b.drop t).take n) else 0
theorem getN_any {W w : World} {L : List Asrt} (hS : Sat W w L) (ao : Option Addr) (c : Nat) (l : List UInt8) (hr : ∀ w, Sat W w L → Rd w (.slice ao l.length c) l.length 1 (bv l)) (a : Int) (t n : Nat) (ha : a = (t : Nat)) (hn : 1 ≤ n) (hn2 : n ≤ 7) (hl : l.length ≤ 140737488355328) :
    Calls Try.prog 86 #[.slice ao l.length c, .int .i64 a, .int .i64 n] w fun e w' => ∃ ok, e = .returned (.tuple #[.int .i64 (getN l t n : Nat), .bool ok]) ∧ w = w' := by
  subst ha
  unfold getN
  by_cases h : t + n ≤ l.length
  · rw [if_pos h]
    exact (get_ok hS ao c l hr t n hn hn2 h hl).mono fun e w' ⟨h1, h2⟩ => ⟨_, h1, h2⟩
  · rw [if_neg h]
    exact (get_no w ao l.length c t n (by omega) (by omega)).mono fun e w' ⟨h1, h2⟩ => ⟨_, h1, h2⟩
def recAt (b : List UInt8) (i : Nat) : RecD := ⟨getN b (3 + 7 * i) 1, getN b (4 + 7 * i) 3, getN b (7 + 7 * i) 3⟩
def recsAt (b : List UInt8) (n : Nat) : List RecD := (List.range n).map (recAt b)
def cntOf (b : List UInt8) : Nat := min (getN b 0 1) 16
def parse (b : List UInt8) : List RecD := recsAt b (cntOf b)
def nextOf (b : List UInt8) : Int := (getN b 1 2 : Nat)
def getOk (b : List UInt8) : Bool := okPut (parse b) (nextOf b) && decide (encB (parse b) (nextOf b) = b)
def getL (b : List UInt8) : List RecD := if getOk b then parse b else []
def getX (b : List UInt8) : Int := if getOk b then nextOf b else 0
theorem getL_no {b : List UInt8} (h : getOk b = false) : getL b = [] := by simp [getL, h]
theorem getX_no {b : List UInt8} (h : getOk b = false) : getX b = 0 := by simp [getX, h]
theorem getL_yes {b : List UInt8} (h : getOk b = true) : getL b = parse b := by simp [getL, h]
theorem getX_yes {b : List UInt8} (h : getOk b = true) : getX b = nextOf b := by simp [getX, h]
theorem recsAt_succ (b : List UInt8) (n : Nat) : recsAt b (n + 1) = recsAt b n ++ [recAt b n] := by simp [recsAt, List.range_succ]
theorem recsAt_len (b : List UInt8) (n : Nat) : (recsAt b n).length = n := by simp [recsAt]
theorem parse_len (b : List UInt8) : (parse b).length ≤ 16 := by rw [parse, recsAt_len]; exact Nat.min_le_right _ _
theorem un_lt_pow (l : List UInt8) {n : Nat} (h : l.length ≤ n) : un l < 256 ^ n := Nat.lt_of_lt_of_le (un_lt l) (Nat.pow_le_pow_right (by decide) h)
theorem getN_lt (b : List UInt8) (t n : Nat) : getN b t n < 256 ^ n := by
  unfold getN
  split
  · exact un_lt_pow _ (List.length_take_le _ _)
  · exact Nat.pow_pos (by decide)
set_option maxRecDepth 20000 in
set_option maxHeartbeats 2000000 in
theorem rget_any {W w : World} {L : List Asrt} (hS : Sat W w L) (b : List UInt8) (ao : Option Addr) (c : Nat) (hr : ∀ w, Sat W w L → Rd w (.slice ao b.length c) b.length 1 (bv b)) (hb : b.length ≤ 140737488355328) :
    Calls Try.prog 58 #[.slice ao b.length c] w fun e w' => ∃ v', e = .returned (.tuple #[v', .int .i64 (getX b), .bool (getOk b)]) ∧ Sat W w' (Tb 53 3 rv v' (getL b) :: L) := by
  have HR : Hid (∀ w, Sat W w L → Rd w (.slice ao b.length c) b.length 1 (bv b)) := Lib.hid hr
  have hg0 := getN_lt b 0 1
  have hcd : cntOf b = min (getN b 0 1) 16 := rfl
  obtain ⟨m, hm⟩ : ∃ m, cntOf b = m := ⟨_, rfl⟩
  obtain ⟨g, hg⟩ : ∃ g, getN b 0 1 = g := ⟨_, rfl⟩
  have HPM := Lib.hid (show parse b = recsAt b m by rw [parse, hm])
  have hcase : ((g : Int) ≤ 16 ∧ (m : Int) = g) ∨ ((16 : Int) < g ∧ (m : Int) = 16) := by rw [hm, hg] at hcd; omega
  have hm16 : m ≤ 16 := by rw [hm, hg] at hcd; omega
  have HG := Lib.hid hg
  have HNIL := Lib.hid (hS.tbNil (α := RecD) (f := rv) (E := 53) (sz := 3))
  clear hg0 hcd hm hg hr
  rcases hcase with ⟨c1, c2⟩ | ⟨c1, c2⟩
  all_goals
    go_enter Try.func58, Try.ntmps58
    go_wp2_with (first
      | (go_at_call 86; refine (getN_any hS _ _ b HR.out _ 0 1 (by rfl) (by omega) (by omega) hb).mono ?_; rintro e w1 ⟨ok1, rfl, rfl⟩; rw [HG.out])
      | (go_at_call 86; refine (getN_any hS _ _ b HR.out _ 1 2 (by rfl) (by omega) (by omega) hb).mono ?_; rintro e w1 ⟨ok2, rfl, rfl⟩))
    have H0 : Hid (Sat W _ (Tb 53 3 rv (.slice none 0 0) (recsAt b 0) :: L)) := Lib.hid HNIL.out
    go_loopw [32, 9] (fun vi vl wz => ∃ k : Nat, k ≤ m ∧ vi = .int .i64 k ∧ Sat W wz (Tb 53 3 rv vl (recsAt b k) :: L)) (fun vi _ _ => m - (intOf vi).toNat)
    case atStart => exact ⟨0, by omega, rfl, H0.out⟩
    case round =>
      clear H0 hS
      obtain ⟨k, hk, rfl, hS⟩ := hrel
      by_cases hlt : k < m
      · have j1 : (k : Int) < (m : Int) := by omega
        have j2 : (k : Int) < 16 := by omega
        have HSU := Lib.hid (recsAt_succ b k)
        have HLN := Lib.hid (recsAt_len b k)
        have HRW : Hid (∀ w (A : Asrt), Sat W w (A :: L) → Rd w (.slice ao b.length c) b.length 1 (bv b)) := Lib.hid (fun w A h => HR.out w h.drop)
        go_wp2_with (first
          | (go_at_call 86; refine (getN_any hS _ _ b (HRW.out · _) _ (3 + 7 * k) 1 (by omega) (by omega) (by omega) hb).mono ?_; rintro e w1 ⟨ok1, rfl, rfl⟩)
          | (go_at_call 86; refine (getN_any hS _ _ b (HRW.out · _) _ (4 + 7 * k) 3 (by omega) (by omega) (by omega) hb).mono ?_; rintro e w1 ⟨ok1, rfl, rfl⟩)
          | (go_at_call 86; refine (getN_any hS _ _ b (HRW.out · _) _ (7 + 7 * k) 3 (by omega) (by omega) (by omega) hb).mono ?_; rintro e w1 ⟨ok1, rfl, rfl⟩)
          | (refine toList (by rfl) ?_; refine bsF hS _ _ _ (by rfl) (elOf (by rfl)) [.agg (rv (recAt b k)).toArray] (by rfl) (by rfl) (by decide) (by decide) (by intro v hv; rw [List.mem_singleton.1 hv]; rfl) ?_; intro b1 w1 hS1; clear hS; have hS := hS1; clear hS1; rw [agg1] at hS)
          | (refine toList (by rfl) ?_; refine apTbS (f := rv) hS _ _ _ _ (by rfl) _ _ (by rfl) (by rfl) (elOf (by rfl)) (by rfl) (by decide) (inOf (by rfl)) (by first | exact Has.z | exact Has.s Has.z | exact Has.s (Has.s Has.z) | exact Has.s (Has.s (Has.s Has.z)) | exact Has.s (Has.s (Has.s (Has.s Has.z))) | exact Has.s (Has.s (Has.s (Has.s (Has.s Has.z))))) [(recAt b k)] (by exact rv_len _) (by exact hS.src1 (f := rv) Has.z rfl) (by exact rv_one _) (by rw [HLN.out]; simp; omega) (by rw [HLN.out]; simp; omega) ?_; intro ao5 c5 w1 hcap5 hS1; clear hS; have hS := hS1; clear hS1; dsimp only [List.set_cons_zero, List.set_cons_succ] at hS))
        exact ⟨⟨k + 1, by omega, by go_num, by rw [HSU.out]; simpa only [List.length_append, List.length_cons, List.length_nil] using hS.drop⟩, by simp [intOf]; omega⟩
      · obtain rfl : k = m := by omega
        clear hlt
        obtain ⟨ao9, c9, rfl, _⟩ := hS.tbShape (k := 0) rfl
        rw [← HPM.out] at hS ⊢
        have HPL := Lib.hid (parse_len b)
        have HRW : Hid (∀ w (A : Asrt), Sat W w (A :: L) → Rd w (.slice ao b.length c) b.length 1 (bv b)) := Lib.hid (fun w A h => HR.out w h.drop)
        cases hok : okPut (parse b) (nextOf b)
        · have HOK := Lib.hid hok
          have HGO := Lib.hid (show getOk b = false by unfold getOk; rw [hok]; rfl)
          clear hok
          go_wp2_with (first
            | (go_at_call 57; refine (rput_any hS (parse b) _ _ (fun w h => h.tbRd Has.z) (by have := HPL.out; omega) (nextOf b)).mono ?_; rintro e w1 ⟨v2, rfl, hS1⟩; rw [HOK.out]; clear hS; have hS := hS1; clear hS1))
          go_ret3
          rw [getL_no HGO.out, getX_no HGO.out, HGO.out]
          exact ⟨_, rfl, hS.drop.drop.tbNil⟩
        · have HOK := Lib.hid hok
          by_cases he : encB (parse b) (nextOf b) = b
          · have HE := Lib.hid he
            have HGO := Lib.hid (show getOk b = true by unfold getOk; rw [hok, he]; simp)
            clear hok he
            go_wp2_with (first
              | (go_at_call 57; refine (rput_any hS (parse b) _ _ (fun w h => h.tbRd Has.z) (by have := HPL.out; omega) (nextOf b)).mono ?_; rintro e w1 ⟨v2, rfl, hS1⟩; rw [HOK.out]; rw [putB_yes HOK.out, HE.out] at hS1; clear hS; have hS := hS1; clear hS1)
              | (refine toList (by rfl) ?_; refine cvS _ _ _ (by rfl) _ (by rfl) strBytes (l := b) (by first | exact HR.out _ hS.drop.drop | exact hS.slRd Has.z) ?_))
            go_ret3
            rw [getL_yes HGO.out, getX_yes HGO.out, HGO.out]
            exact ⟨_, rfl, hS.drop⟩
          · have HGO := Lib.hid (show getOk b = false by unfold getOk; simp [he])
            have HPB := Lib.hid (show putB (parse b) (nextOf b) = encB (parse b) (nextOf b) from putB_yes hok)
            obtain ⟨d, hd⟩ : ∃ d, encB (parse b) (nextOf b) = d := ⟨_, rfl⟩
            rw [hd] at he HPB
            have e9 : (!d == b) = true := by simp [he]
            clear hok hd he
            go_wp2_with (first
              | (go_at_call 57; refine (rput_any hS (parse b) _ _ (fun w h => h.tbRd Has.z) (by have := HPL.out; omega) (nextOf b)).mono ?_; rintro e w1 ⟨v2, rfl, hS1⟩; rw [HOK.out]; rw [HPB.out] at hS1; clear hS; have hS := hS1; clear hS1)
              | (refine toList (by rfl) ?_; refine cvS _ _ _ (by rfl) _ (by rfl) strBytes (l := b) (by exact HR.out _ hS.drop.drop) ?_)
              | (refine toList (by rfl) ?_; refine cvS _ _ _ (by rfl) _ (by rfl) strBytes (l := d) (by exact hS.slRd Has.z) ?_))
            go_ret3
            rw [getL_no HGO.out, getX_no HGO.out, HGO.out]
            exact ⟨_, rfl, hS.drop.drop.tbNil⟩
end Go.Proofs.Ytapodjhkpahdnaa
