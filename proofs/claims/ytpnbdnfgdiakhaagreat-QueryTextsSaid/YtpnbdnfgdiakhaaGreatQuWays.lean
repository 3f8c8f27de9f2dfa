/-
  Package query: Ways.
-/
import Derived.Test.YtpnbdnfgdiakhaaGreatMQue
namespace Go.Proofs.YtpnbdnfgdiakhaaGreat
open Go.RowKit Go.Sep
set_option linter.unusedSimpArgs false
set_option linter.unusedVariables false
attribute [local irreducible] Go.Oper.wp Go.wpList Go.Calls Go.Code.wp Go.Sep.Reg
attribute [local irreducible] IsG
theorem irCut' {W w : World} {L : List Asrt} {ao : Option Addr} {c : Nat} {l : List Nat} (h : Sat W w (Ir (.slice ao l.length c) l :: L)) (h0 : 1 ≤ l.length) : Sat W w (Ir (.slice (cutA ao c 1 1) (l.length - 1) (c - 1)) (l.drop 1) :: L) := by
  cases l with
  | nil => simp at h0
  | cons x r => exact h.irCut
def TdP (W : World) (pa pm pg pA pb p ml pd py : Nat) (G : Gr) (v : Value) (most a b : Int) (bn : Nat) (M : List Asrt) (st : List Nat × List Nat) (vt : Value) (wz : World) : Prop :=
  LdI G bn st.1 st.2 ∧ Sat W wz (Ir vt st.2 :: Ms ml st.1 :: Cs pd 57 [.map (some ml)] :: Cs py 90 [.func (.func 31) #[] #[.pointer (some ⟨pa, 0, none⟩), .pointer (some ⟨pm, 0, none⟩)]] :: Cs pa 43 [v] :: Rws Ir v [] :: Cs pm 3 [.int .i64 most] :: Cs pg 31 [.pointer (some ⟨p, 0, none⟩)] :: Cs pA 3 [.int .i64 a] :: Cs pb 3 [.int .i64 b] :: IsG p G :: M)
set_option maxRecDepth 20000 in
set_option maxHeartbeats 4000000 in
theorem ways1_any {W w : World} {M : List Asrt} {pa pm pg pA pb p : Nat} {G : Gr} (hG : G.Ok) (hA : G.Acyc) {a b most : Int} {v : Value} {K : Nat} (hK : (K : Int) ≤ most ∧ K ≤ 1000 ∧ ((K : Int) = most ∨ K = 1000)) (hK0 : 0 < K)
    (hS : Sat W w (Cs pa 43 [v] :: Rws Ir v [] :: Cs pm 3 [.int .i64 most] :: Cs pg 31 [.pointer (some ⟨p, 0, none⟩)] :: Cs pA 3 [.int .i64 a] :: Cs pb 3 [.int .i64 b] :: IsG p G :: M)) :
    Calls Tryz.prog 64 #[.func (.func 31) #[] #[.pointer (some ⟨pa, 0, none⟩), .pointer (some ⟨pm, 0, none⟩)], .pointer (some ⟨pg, 0, none⟩), .pointer (some ⟨pA, 0, none⟩), .pointer (some ⟨pb, 0, none⟩)] w fun e w' => ∃ v', e = .returned (.tuple #[]) ∧ Sat W w' (Cs pa 43 [v'] :: Rws Ir v' (told G a b K) :: Cs pm 3 [.int .i64 most] :: IsG p G :: M) := by
  obtain ⟨⟨x1, x2, x3, x4, x5, x6⟩, hx⟩ : ∃ x, G.nodeI a = x := ⟨_, rfl⟩
  obtain ⟨⟨y1, y2, y3, y4, y5, y6⟩, hy⟩ : ∃ x, G.nodeI b = x := ⟨_, rfl⟩
  have HNA := Lib.hid (show ∀ w M, Sat W w (IsG p G :: M) → Calls Tryz.prog 20 #[.pointer (some ⟨p, 0, none⟩), .int .i64 a] w fun e w' => e = .returned (.tuple #[.agg (nv ⟨x1, x2, x3, x4, x5, x6⟩).toArray, .bool (G.is a)]) ∧ Sat W w' (IsG p G :: M) from fun w M h => by
    have := node_any h a
    rwa [hx] at this)
  have HNB := Lib.hid (show ∀ w M, Sat W w (IsG p G :: M) → Calls Tryz.prog 20 #[.pointer (some ⟨p, 0, none⟩), .int .i64 b] w fun e w' => e = .returned (.tuple #[.agg (nv ⟨y1, y2, y3, y4, y5, y6⟩).toArray, .bool (G.is b)]) ∧ Sat W w' (IsG p G :: M) from fun w M h => by
    have := node_any h b
    rwa [hy] at this)
  have HG := Lib.hid hG
  have HA := Lib.hid hA
  have HK := Lib.hid hK
  have HK0 := Lib.hid hK0
  clear hx hy hG hA hK hK0
  cases ha : G.is a with
  | false =>
    have HT := Lib.hid (show told G a b K = [] by unfold told; rw [if_neg (by rw [ha]; simp)])
    rw [HT.out]
    rw [ha] at HNA
    clear ha
    cases hb : G.is b with
    | false =>
      rw [hb] at HNB
      clear hb
      go_enter Tryz.func64, Tryz.ntmps64
      go_wp2_with (first
        | (refine toList (by rfl) ?_; refine bx (show Sat W _ (Cs pa 43 [v] :: Rws Ir v [] :: Cs pm 3 [.int .i64 most] :: Cs pg 31 [.pointer (some ⟨p, 0, none⟩)] :: Cs pA 3 [.int .i64 a] :: Cs pb 3 [.int .i64 b] :: IsG p G :: M) from hS) _ _ (by rfl) _ (by first | exact evC | exact evT (by rfl)) ?_; intro py w1 hS1; clear hS; have hS := (show Sat W w1 (Cs py 90 [.func (.func 31) #[] #[.pointer (some ⟨pa, 0, none⟩), .pointer (some ⟨pm, 0, none⟩)]] :: Cs pa 43 [v] :: Rws Ir v [] :: Cs pm 3 [.int .i64 most] :: Cs pg 31 [.pointer (some ⟨p, 0, none⟩)] :: Cs pA 3 [.int .i64 a] :: Cs pb 3 [.int .i64 b] :: IsG p G :: M) from hS1); clear hS1)
        | (refine toList (by rfl) ?_; refine ld hS _ _ (by rfl) _ _ (by rfl) (agOf (by rfl)) (by repeat (first | exact Has.z | apply Has.s)) (by rfl) ?_)
        | (go_at_call 20; refine (HNA.out _ _ (show Sat W _ (IsG p G :: Cs py _ _ :: Cs pa _ _ :: Rws Ir v [] :: Cs pm _ _ :: Cs pg _ _ :: Cs pA _ _ :: Cs pb _ _ :: M) from hS.re [7])).mono ?_; rintro e w1 ⟨rfl, hS1⟩; clear hS; have hS := (show Sat W w1 (Cs py 90 [.func (.func 31) #[] #[.pointer (some ⟨pa, 0, none⟩), .pointer (some ⟨pm, 0, none⟩)]] :: Cs pa 43 [v] :: Rws Ir v [] :: Cs pm 3 [.int .i64 most] :: Cs pg 31 [.pointer (some ⟨p, 0, none⟩)] :: Cs pA 3 [.int .i64 a] :: Cs pb 3 [.int .i64 b] :: IsG p G :: M) from hS1.re [1, 2, 3, 4, 5, 6, 7, 0]); clear hS1)
        | (go_at_call 20; refine (HNB.out _ _ (show Sat W _ (IsG p G :: Cs py _ _ :: Cs pa _ _ :: Rws Ir v [] :: Cs pm _ _ :: Cs pg _ _ :: Cs pA _ _ :: Cs pb _ _ :: M) from hS.re [7])).mono ?_; rintro e w1 ⟨rfl, hS1⟩; clear hS; have hS := (show Sat W w1 (Cs py 90 [.func (.func 31) #[] #[.pointer (some ⟨pa, 0, none⟩), .pointer (some ⟨pm, 0, none⟩)]] :: Cs pa 43 [v] :: Rws Ir v [] :: Cs pm 3 [.int .i64 most] :: Cs pg 31 [.pointer (some ⟨p, 0, none⟩)] :: Cs pA 3 [.int .i64 a] :: Cs pb 3 [.int .i64 b] :: IsG p G :: M) from hS1.re [1, 2, 3, 4, 5, 6, 7, 0]); clear hS1)
        | (refine toList (by rfl) ?_; refine al (show Sat W _ (Cs py _ _ :: Cs pa 43 [v] :: Rws Ir v [] :: Cs pm 3 [.int .i64 most] :: Cs pg 31 [.pointer (some ⟨p, 0, none⟩)] :: Cs pA 3 [.int .i64 a] :: Cs pb 3 [.int .i64 b] :: IsG p G :: M) from hS) _ (by rfl) (zrOf (T := 60) (by rfl)) ?_; intro px w1 hS1; clear hS; have hS := hS1; clear hS1; rw [cells_agg] at hS)
        | (refine toList (by rfl) ?_; refine stW hS _ _ _ (by rfl) (by rfl) (nv ⟨x1, x2, x3, x4, x5, x6⟩) (by rfl) (nv_all _) (szOf (by rfl)) Has.z (by rfl) ?_; intro w1 hS1; clear hS; have hS := hS1.drop; clear hS1)
        | (refine toList (by rfl) ?_; refine stW hS _ _ _ (by rfl) (by rfl) (nv ⟨y1, y2, y3, y4, y5, y6⟩) (by rfl) (nv_all _) (szOf (by rfl)) Has.z (by rfl) ?_; intro w1 hS1; clear hS; have hS := hS1.drop; clear hS1))
      (try simp only [Exit.inBlock, Exit.then]); refine bodyPost_ret (results_none rfl _ _ _) rfl ?_
      exact ⟨v, rfl, (hS.re [1, 2, 3, 7, 0, 4, 5, 6]).re [4, 5, 6, 7] |>.drop.drop.drop.drop⟩
    | true =>
      rw [hb] at HNB
      clear hb
      go_enter Tryz.func64, Tryz.ntmps64
      go_wp2_with (first
        | (refine toList (by rfl) ?_; refine bx (show Sat W _ (Cs pa 43 [v] :: Rws Ir v [] :: Cs pm 3 [.int .i64 most] :: Cs pg 31 [.pointer (some ⟨p, 0, none⟩)] :: Cs pA 3 [.int .i64 a] :: Cs pb 3 [.int .i64 b] :: IsG p G :: M) from hS) _ _ (by rfl) _ (by first | exact evC | exact evT (by rfl)) ?_; intro py w1 hS1; clear hS; have hS := (show Sat W w1 (Cs py 90 [.func (.func 31) #[] #[.pointer (some ⟨pa, 0, none⟩), .pointer (some ⟨pm, 0, none⟩)]] :: Cs pa 43 [v] :: Rws Ir v [] :: Cs pm 3 [.int .i64 most] :: Cs pg 31 [.pointer (some ⟨p, 0, none⟩)] :: Cs pA 3 [.int .i64 a] :: Cs pb 3 [.int .i64 b] :: IsG p G :: M) from hS1); clear hS1)
        | (refine toList (by rfl) ?_; refine ld hS _ _ (by rfl) _ _ (by rfl) (agOf (by rfl)) (by repeat (first | exact Has.z | apply Has.s)) (by rfl) ?_)
        | (go_at_call 20; refine (HNA.out _ _ (show Sat W _ (IsG p G :: Cs py _ _ :: Cs pa _ _ :: Rws Ir v [] :: Cs pm _ _ :: Cs pg _ _ :: Cs pA _ _ :: Cs pb _ _ :: M) from hS.re [7])).mono ?_; rintro e w1 ⟨rfl, hS1⟩; clear hS; have hS := (show Sat W w1 (Cs py 90 [.func (.func 31) #[] #[.pointer (some ⟨pa, 0, none⟩), .pointer (some ⟨pm, 0, none⟩)]] :: Cs pa 43 [v] :: Rws Ir v [] :: Cs pm 3 [.int .i64 most] :: Cs pg 31 [.pointer (some ⟨p, 0, none⟩)] :: Cs pA 3 [.int .i64 a] :: Cs pb 3 [.int .i64 b] :: IsG p G :: M) from hS1.re [1, 2, 3, 4, 5, 6, 7, 0]); clear hS1)
        | (go_at_call 20; refine (HNB.out _ _ (show Sat W _ (IsG p G :: Cs py _ _ :: Cs pa _ _ :: Rws Ir v [] :: Cs pm _ _ :: Cs pg _ _ :: Cs pA _ _ :: Cs pb _ _ :: M) from hS.re [7])).mono ?_; rintro e w1 ⟨rfl, hS1⟩; clear hS; have hS := (show Sat W w1 (Cs py 90 [.func (.func 31) #[] #[.pointer (some ⟨pa, 0, none⟩), .pointer (some ⟨pm, 0, none⟩)]] :: Cs pa 43 [v] :: Rws Ir v [] :: Cs pm 3 [.int .i64 most] :: Cs pg 31 [.pointer (some ⟨p, 0, none⟩)] :: Cs pA 3 [.int .i64 a] :: Cs pb 3 [.int .i64 b] :: IsG p G :: M) from hS1.re [1, 2, 3, 4, 5, 6, 7, 0]); clear hS1)
        | (refine toList (by rfl) ?_; refine al (show Sat W _ (Cs py _ _ :: Cs pa 43 [v] :: Rws Ir v [] :: Cs pm 3 [.int .i64 most] :: Cs pg 31 [.pointer (some ⟨p, 0, none⟩)] :: Cs pA 3 [.int .i64 a] :: Cs pb 3 [.int .i64 b] :: IsG p G :: M) from hS) _ (by rfl) (zrOf (T := 60) (by rfl)) ?_; intro px w1 hS1; clear hS; have hS := hS1; clear hS1; rw [cells_agg] at hS)
        | (refine toList (by rfl) ?_; refine stW hS _ _ _ (by rfl) (by rfl) (nv ⟨x1, x2, x3, x4, x5, x6⟩) (by rfl) (nv_all _) (szOf (by rfl)) Has.z (by rfl) ?_; intro w1 hS1; clear hS; have hS := hS1.drop; clear hS1)
        | (refine toList (by rfl) ?_; refine stW hS _ _ _ (by rfl) (by rfl) (nv ⟨y1, y2, y3, y4, y5, y6⟩) (by rfl) (nv_all _) (szOf (by rfl)) Has.z (by rfl) ?_; intro w1 hS1; clear hS; have hS := hS1.drop; clear hS1))
      (try simp only [Exit.inBlock, Exit.then]); refine bodyPost_ret (results_none rfl _ _ _) rfl ?_
      exact ⟨v, rfl, (hS.re [1, 2, 3, 7, 0, 4, 5, 6]).re [4, 5, 6, 7] |>.drop.drop.drop.drop⟩
  | true =>
    rw [ha] at HNA
    cases hb : G.is b with
    | false =>
      have HT := Lib.hid (show told G a b K = [] by unfold told; rw [if_neg (by rw [hb]; simp)])
      rw [HT.out]
      rw [hb] at HNB
      clear hb ha
      go_enter Tryz.func64, Tryz.ntmps64
      go_wp2_with (first
        | (refine toList (by rfl) ?_; refine bx (show Sat W _ (Cs pa 43 [v] :: Rws Ir v [] :: Cs pm 3 [.int .i64 most] :: Cs pg 31 [.pointer (some ⟨p, 0, none⟩)] :: Cs pA 3 [.int .i64 a] :: Cs pb 3 [.int .i64 b] :: IsG p G :: M) from hS) _ _ (by rfl) _ (by first | exact evC | exact evT (by rfl)) ?_; intro py w1 hS1; clear hS; have hS := (show Sat W w1 (Cs py 90 [.func (.func 31) #[] #[.pointer (some ⟨pa, 0, none⟩), .pointer (some ⟨pm, 0, none⟩)]] :: Cs pa 43 [v] :: Rws Ir v [] :: Cs pm 3 [.int .i64 most] :: Cs pg 31 [.pointer (some ⟨p, 0, none⟩)] :: Cs pA 3 [.int .i64 a] :: Cs pb 3 [.int .i64 b] :: IsG p G :: M) from hS1); clear hS1)
        | (refine toList (by rfl) ?_; refine ld hS _ _ (by rfl) _ _ (by rfl) (agOf (by rfl)) (by repeat (first | exact Has.z | apply Has.s)) (by rfl) ?_)
        | (go_at_call 20; refine (HNA.out _ _ (show Sat W _ (IsG p G :: Cs py _ _ :: Cs pa _ _ :: Rws Ir v [] :: Cs pm _ _ :: Cs pg _ _ :: Cs pA _ _ :: Cs pb _ _ :: M) from hS.re [7])).mono ?_; rintro e w1 ⟨rfl, hS1⟩; clear hS; have hS := (show Sat W w1 (Cs py 90 [.func (.func 31) #[] #[.pointer (some ⟨pa, 0, none⟩), .pointer (some ⟨pm, 0, none⟩)]] :: Cs pa 43 [v] :: Rws Ir v [] :: Cs pm 3 [.int .i64 most] :: Cs pg 31 [.pointer (some ⟨p, 0, none⟩)] :: Cs pA 3 [.int .i64 a] :: Cs pb 3 [.int .i64 b] :: IsG p G :: M) from hS1.re [1, 2, 3, 4, 5, 6, 7, 0]); clear hS1)
        | (go_at_call 20; refine (HNB.out _ _ (show Sat W _ (IsG p G :: Cs py _ _ :: Cs pa _ _ :: Rws Ir v [] :: Cs pm _ _ :: Cs pg _ _ :: Cs pA _ _ :: Cs pb _ _ :: M) from hS.re [7])).mono ?_; rintro e w1 ⟨rfl, hS1⟩; clear hS; have hS := (show Sat W w1 (Cs py 90 [.func (.func 31) #[] #[.pointer (some ⟨pa, 0, none⟩), .pointer (some ⟨pm, 0, none⟩)]] :: Cs pa 43 [v] :: Rws Ir v [] :: Cs pm 3 [.int .i64 most] :: Cs pg 31 [.pointer (some ⟨p, 0, none⟩)] :: Cs pA 3 [.int .i64 a] :: Cs pb 3 [.int .i64 b] :: IsG p G :: M) from hS1.re [1, 2, 3, 4, 5, 6, 7, 0]); clear hS1)
        | (refine toList (by rfl) ?_; refine al (show Sat W _ (Cs py _ _ :: Cs pa 43 [v] :: Rws Ir v [] :: Cs pm 3 [.int .i64 most] :: Cs pg 31 [.pointer (some ⟨p, 0, none⟩)] :: Cs pA 3 [.int .i64 a] :: Cs pb 3 [.int .i64 b] :: IsG p G :: M) from hS) _ (by rfl) (zrOf (T := 60) (by rfl)) ?_; intro px w1 hS1; clear hS; have hS := hS1; clear hS1; rw [cells_agg] at hS)
        | (refine toList (by rfl) ?_; refine stW hS _ _ _ (by rfl) (by rfl) (nv ⟨x1, x2, x3, x4, x5, x6⟩) (by rfl) (nv_all _) (szOf (by rfl)) Has.z (by rfl) ?_; intro w1 hS1; clear hS; have hS := hS1.drop; clear hS1)
        | (refine toList (by rfl) ?_; refine stW hS _ _ _ (by rfl) (by rfl) (nv ⟨y1, y2, y3, y4, y5, y6⟩) (by rfl) (nv_all _) (szOf (by rfl)) Has.z (by rfl) ?_; intro w1 hS1; clear hS; have hS := hS1.drop; clear hS1))
      (try simp only [Exit.inBlock, Exit.then]); refine bodyPost_ret (results_none rfl _ _ _) rfl ?_
      exact ⟨v, rfl, (hS.re [1, 2, 3, 7, 0, 4, 5, 6]).re [4, 5, 6, 7] |>.drop.drop.drop.drop⟩
    | true =>
      rw [hb] at HNB
      have HT := Lib.hid (show told G a b K = (G.wy b.toNat a.toNat).take K by unfold told; rw [if_pos ⟨ha, hb⟩])
      rw [HT.out]
      obtain ⟨an, rfl, han⟩ := Gr.is_nat ha
      obtain ⟨bn, rfl, hbn⟩ := Gr.is_nat hb
      have HAN := Lib.hid han
      have HBN := Lib.hid hbn
      simp only [Int.toNat_natCast]
      clear ha hb han hbn
      go_enter Tryz.func64, Tryz.ntmps64
      go_wp2_with (first
        | (refine toList (by rfl) ?_; refine bx (show Sat W _ (Cs pa 43 [v] :: Rws Ir v [] :: Cs pm 3 [.int .i64 most] :: Cs pg 31 [.pointer (some ⟨p, 0, none⟩)] :: Cs pA 3 [.int .i64 (an : Int)] :: Cs pb 3 [.int .i64 (bn : Int)] :: IsG p G :: M) from hS) _ _ (by rfl) _ (by first | exact evC | exact evT (by rfl)) ?_; intro py w1 hS1; clear hS; have hS := (show Sat W w1 (Cs py 90 [.func (.func 31) #[] #[.pointer (some ⟨pa, 0, none⟩), .pointer (some ⟨pm, 0, none⟩)]] :: Cs pa 43 [v] :: Rws Ir v [] :: Cs pm 3 [.int .i64 most] :: Cs pg 31 [.pointer (some ⟨p, 0, none⟩)] :: Cs pA 3 [.int .i64 (an : Int)] :: Cs pb 3 [.int .i64 (bn : Int)] :: IsG p G :: M) from hS1); clear hS1)
        | (refine toList (by rfl) ?_; refine ld hS _ _ (by rfl) _ _ (by rfl) (agOf (by rfl)) (by repeat (first | exact Has.z | apply Has.s)) (by rfl) ?_)
        | (go_at_call 20; refine (HNA.out _ _ (show Sat W _ (IsG p G :: Cs py _ _ :: Cs pa _ _ :: Rws Ir v [] :: Cs pm _ _ :: Cs pg _ _ :: Cs pA _ _ :: Cs pb _ _ :: M) from hS.re [7])).mono ?_; rintro e w1 ⟨rfl, hS1⟩; clear hS; have hS := (show Sat W w1 (Cs py 90 [.func (.func 31) #[] #[.pointer (some ⟨pa, 0, none⟩), .pointer (some ⟨pm, 0, none⟩)]] :: Cs pa 43 [v] :: Rws Ir v [] :: Cs pm 3 [.int .i64 most] :: Cs pg 31 [.pointer (some ⟨p, 0, none⟩)] :: Cs pA 3 [.int .i64 (an : Int)] :: Cs pb 3 [.int .i64 (bn : Int)] :: IsG p G :: M) from hS1.re [1, 2, 3, 4, 5, 6, 7, 0]); clear hS1)
        | (go_at_call 20; refine (HNB.out _ _ (show Sat W _ (IsG p G :: Cs py _ _ :: Cs pa _ _ :: Rws Ir v [] :: Cs pm _ _ :: Cs pg _ _ :: Cs pA _ _ :: Cs pb _ _ :: M) from hS.re [7])).mono ?_; rintro e w1 ⟨rfl, hS1⟩; clear hS; have hS := (show Sat W w1 (Cs py 90 [.func (.func 31) #[] #[.pointer (some ⟨pa, 0, none⟩), .pointer (some ⟨pm, 0, none⟩)]] :: Cs pa 43 [v] :: Rws Ir v [] :: Cs pm 3 [.int .i64 most] :: Cs pg 31 [.pointer (some ⟨p, 0, none⟩)] :: Cs pA 3 [.int .i64 (an : Int)] :: Cs pb 3 [.int .i64 (bn : Int)] :: IsG p G :: M) from hS1.re [1, 2, 3, 4, 5, 6, 7, 0]); clear hS1)
        | (refine toList (by rfl) ?_; refine al (show Sat W _ (Cs py _ _ :: Cs pa 43 [v] :: Rws Ir v [] :: Cs pm 3 [.int .i64 most] :: Cs pg 31 [.pointer (some ⟨p, 0, none⟩)] :: Cs pA 3 [.int .i64 (an : Int)] :: Cs pb 3 [.int .i64 (bn : Int)] :: IsG p G :: M) from hS) _ (by rfl) (zrOf (T := 60) (by rfl)) ?_; intro px w1 hS1; clear hS; have hS := hS1; clear hS1; rw [cells_agg] at hS)
        | (refine toList (by rfl) ?_; refine stW hS _ _ _ (by rfl) (by rfl) (nv ⟨x1, x2, x3, x4, x5, x6⟩) (by rfl) (nv_all _) (szOf (by rfl)) Has.z (by rfl) ?_; intro w1 hS1; clear hS; have hS := hS1.drop; clear hS1)
        | (refine toList (by rfl) ?_; refine stW hS _ _ _ (by rfl) (by rfl) (nv ⟨y1, y2, y3, y4, y5, y6⟩) (by rfl) (nv_all _) (szOf (by rfl)) Has.z (by rfl) ?_; intro w1 hS1; clear hS; have hS := hS1.drop; clear hS1)
        | (refine toList (by rfl) ?_; refine msMake hS _ (by rfl) ?_; intro ml w1 hS1; clear hS; have hS := hS1; clear hS1)
        | (refine toList (by rfl) ?_; refine al (show Sat W _ (Ms ml [] :: _) from hS) _ (by rfl) (zrOf (T := 57) (by rfl)) ?_; intro pd w1 hS1; clear hS; have hS := (show Sat W w1 (Cs pd 57 [.map none] :: Ms ml [] :: _) from hS1); clear hS1)
        | (refine toList (by rfl) ?_; refine st hS _ _ _ (by rfl) _ _ (by rfl) _ (by first | exact evC | exact evT (by rfl)) (by rfl) (szOf (by rfl)) (by repeat first | exact Has.z | apply Has.s) (by exact Nat.le_of_ble_eq_true rfl) ?_; intro w1 hS1; clear hS; have hS := hS1; clear hS1; dsimp only [List.set] at hS)
        | (refine toList (by rfl) ?_; refine bsF hS _ _ _ (by rfl) (elOf (by rfl)) [.int .i64 (bn : Int)] (by rfl) (by rfl) (by decide) (by decide) (by simp [Value.cells]) ?_; intro b1 w1 hS1; clear hS; have hS := hS1; clear hS1; rw [sca1 rfl] at hS))
      have HIR : Hid (Sat W _ (Ir (.slice (some ⟨b1, 0, none⟩) 1 1) [bn] :: Ms ml [] :: Cs pd 57 [.map (some ml)] :: Cs py 90 [.func (.func 31) #[] #[.pointer (some ⟨pa, 0, none⟩), .pointer (some ⟨pm, 0, none⟩)]] :: Cs pa 43 [v] :: Rws Ir v [] :: Cs pm 3 [.int .i64 most] :: Cs pg 31 [.pointer (some ⟨p, 0, none⟩)] :: Cs pA 3 [.int .i64 (an : Int)] :: Cs pb 3 [.int .i64 (bn : Int)] :: IsG p G :: M)) := Lib.hid (by
        have h := hS.re [0, 2, 1, 3, 4, 5, 6, 7, 8, 9, 10]
        exact ir_of_cs (l := [bn]) (c := 1) (rest := []) h (by simp) (by decide) (by simp))
      go_loopw [10] (fun v10 wz => ∃ st, TdP W pa pm pg pA pb p ml pd py G v most an bn bn M st v10 wz) (fun v10 wz => minT (fun st => TdP W pa pm pg pA pb p ml pd py G v most an bn bn M st v10 wz) (ldM G))
      case atStart => exact ⟨([], [bn]), LdI.start HBN.out, HIR.out⟩
      case round =>
        clear hS HIR
        obtain ⟨⟨ks, T⟩, ⟨hld, hS⟩, hmin⟩ := minT_get (T := ldM G) hrel
        dsimp only at hld hS
        clear hrel
        have HLD := Lib.hid hld
        have HMIN := Lib.hid hmin
        obtain ⟨at_, ct, rfl, hct⟩ := hS.irShape (k := 0) rfl
        have hcs : T = [] ∨ ∃ n td, n :: td = T := by
          cases T with
          | nil => exact .inl rfl
          | cons n td => exact .inr ⟨n, td, rfl⟩
        rcases hcs with hT | ⟨n, td, hT⟩
        · subst hT
          have HDN := Lib.hid (fun n => hld.done n)
          clear hld hmin HMIN
          have HWK := Lib.hid (fun pl pw => walk_any (W := W) (pa := pa) (pm := pm) (pb := pb) (pl := pl) (py := py) (pg := pg) (pd := pd) (ml := ml) (pw := pw) (p := p) HG.out HA.out HBN.out (lds := ks) (fun n _ => HDN.out n) HK.out (G.rk an))
          have HRK := Lib.hid (show G.rk an ≤ 4096 from by have := G.above_len an; have := HG.out.len; unfold Gr.rk; omega)
          have HTL := Lib.hid (show G.tell bn [] an = G.wy bn an by unfold Gr.tell; simp)
          by_cases hin : an ∈ ks
          · have HIN := Lib.hid (show decide (an ∈ ks) = true from decide_eq_true hin)
            have HCV := Lib.hid (fun w b1 E1 pl pw (h : Sat W w (Cs b1 E1 [.int .i64 (an : Int)] :: Cs pw 90 [.func (.func 65) #[] #[.pointer (some ⟨pb, 0, none⟩), .pointer (some ⟨pl, 0, none⟩), .pointer (some ⟨py, 0, none⟩), .pointer (some ⟨pg, 0, none⟩), .pointer (some ⟨pd, 0, none⟩), .pointer (some ⟨pw, 0, none⟩)]] :: Cs pl 3 [.int .i64 1000] :: Ir (.slice at_ ([] : List Nat).length ct) [] :: Ms ml ks :: Cs pd 57 [.map (some ml)] :: Cs py 90 [.func (.func 31) #[] #[.pointer (some ⟨pa, 0, none⟩), .pointer (some ⟨pm, 0, none⟩)]] :: Cs pa 43 [v] :: Rws Ir v [] :: Cs pm 3 [.int .i64 most] :: Cs pg 31 [.pointer (some ⟨p, 0, none⟩)] :: Cs pA 3 [.int .i64 (an : Int)] :: Cs pb 3 [.int .i64 (bn : Int)] :: IsG p G :: M)) =>
                show Calls Tryz.prog 65 #[.slice (some ⟨b1, 0, none⟩) 1 1, .pointer (some ⟨pb, 0, none⟩), .pointer (some ⟨pl, 0, none⟩), .pointer (some ⟨py, 0, none⟩), .pointer (some ⟨pg, 0, none⟩), .pointer (some ⟨pd, 0, none⟩), .pointer (some ⟨pw, 0, none⟩)] w (fun e w' => ∃ r v', e = .returned (.bool r) ∧ Sat W w' (Cs pa 43 [v'] :: Rws Ir v' ((G.wy bn an).take K) :: Cs pm 3 [.int .i64 most] :: IsG p G :: M)) by
              have h2 := HWK.out pl pw w (Cs b1 E1 [.int .i64 (an : Int)] :: Ir (.slice at_ ([] : List Nat).length ct) [] :: Cs pA 3 [.int .i64 (an : Int)] :: M) [] v [] an (.slice (some ⟨b1, 0, none⟩) 1 1) (Nat.le_refl _) HAN.out (by have := HRK.out; simpa using this) (by simpa using HK0.out)
                (fun w L' h => h.csRd0 (n := 1) (sz := 1) (has_app _ _ _) (by decide) rfl) (h.re [7, 8, 9, 12, 2, 6, 10, 5, 4, 1, 13])
              rw [List.nil_append, HTL.out] at h2
              exact h2.mono fun e w' ⟨v', he, hs⟩ => ⟨_, v', he, (hs.re [3, 4, 5, 6, 7, 8, 9, 11, 12, 13]).drop.drop.drop.drop.drop.drop.drop.drop.drop.drop⟩)
            clear hin
            go_wp2_with (first
              | (refine toList (by rfl) ?_; refine ld hS _ _ (by rfl) _ _ (by rfl) (agOf (by rfl)) (by repeat (first | exact Has.z | apply Has.s)) (by rfl) ?_)
              | (refine toList (by rfl) ?_; refine clV _ _ _ _ (by rfl) (by rfl) (by rfl) (by kernel_rfl) (HCV.out _ _ _ _ _ hS) ?_; rintro e w1 ⟨r, v', rfl, hS1⟩; clear hS; have hS := hS1; clear hS1; refine ⟨_, rfl, ?_⟩)
              | (refine toList (by rfl) ?_; refine wp_of_reads (rMsLkp hS _ _ _ (by rfl) (by rfl) an (by rfl) map_seen key_nat (by kernel_rfl) (by repeat (first | exact Has.z | apply Has.s))) ?_; rw [HIN.out])
              | (refine toList (by rfl) ?_; refine al (show Sat W _ (Ir _ [] :: _) from hS) _ (by rfl) (zrOf (T := 3) (by rfl)) ?_; intro pl w1 hS1; clear hS; have hS := (show Sat W w1 (Cs pl 3 [.int .i64 0] :: Ir _ [] :: _) from hS1); clear hS1)
              | (refine toList (by rfl) ?_; refine al hS _ (by rfl) (zrOf (T := 90) (by rfl)) ?_; intro pw w1 hS1; clear hS; have hS := (show Sat W w1 (Cs pw 90 [.nilFunc] :: Cs pl _ _ :: _) from hS1); clear hS1)
              | (refine toList (by rfl) ?_; refine st hS _ _ _ (by rfl) _ _ (by rfl) _ (by first | exact evC | exact evT (by rfl)) (by rfl) (szOf (by rfl)) (by repeat first | exact Has.z | apply Has.s) (by exact Nat.le_of_ble_eq_true rfl) ?_; intro w1 hS1; clear hS; have hS := hS1; clear hS1; dsimp only [List.set] at hS)
              | (refine toList (by rfl) ?_; refine bsF hS _ _ _ (by rfl) (elOf (by rfl)) [.int .i64 (an : Int)] (by rfl) (by rfl) (by decide) (by decide) (by simp [Value.cells]) ?_; intro b1 w1 hS1; clear hS; have hS := hS1; clear hS1; rw [sca1 rfl] at hS))
            go_end0
            exact ⟨rfl, v', hS⟩
          · have HIN := Lib.hid (show decide (an ∈ ks) = false from decide_eq_false hin)
            have HNO := Lib.hid (show (G.wy bn an).take K = [] by rw [Gr.wy_none (fun h => hin ((HDN.out an).2 h)), List.take_nil])
            clear hin
            go_wp2_with (first
              | (refine toList (by rfl) ?_; refine ld hS _ _ (by rfl) _ _ (by rfl) (agOf (by rfl)) (by repeat (first | exact Has.z | apply Has.s)) (by rfl) ?_)
              | (refine toList (by rfl) ?_; refine wp_of_reads (rMsLkp hS _ _ _ (by rfl) (by rfl) an (by rfl) map_seen key_nat (by kernel_rfl) (by repeat (first | exact Has.z | apply Has.s))) ?_; rw [HIN.out])
              | (refine toList (by rfl) ?_; refine al (show Sat W _ (Ir _ [] :: _) from hS) _ (by rfl) (zrOf (T := 3) (by rfl)) ?_; intro pl w1 hS1; clear hS; have hS := (show Sat W w1 (Cs pl 3 [.int .i64 0] :: Ir _ [] :: _) from hS1); clear hS1)
              | (refine toList (by rfl) ?_; refine al hS _ (by rfl) (zrOf (T := 90) (by rfl)) ?_; intro pw w1 hS1; clear hS; have hS := (show Sat W w1 (Cs pw 90 [.nilFunc] :: Cs pl _ _ :: _) from hS1); clear hS1)
              | (refine toList (by rfl) ?_; refine st hS _ _ _ (by rfl) _ _ (by rfl) _ (by first | exact evC | exact evT (by rfl)) (by rfl) (szOf (by rfl)) (by repeat first | exact Has.z | apply Has.s) (by exact Nat.le_of_ble_eq_true rfl) ?_; intro w1 hS1; clear hS; have hS := hS1; clear hS1; dsimp only [List.set] at hS))
            go_end0
            rw [HNO.out]
            exact ⟨v, rfl, (hS.re [0, 1, 2, 3, 4, 5, 9, 10, 11]).drop.drop.drop.drop.drop.drop.drop.drop.drop⟩
        · rw [← hT] at hld HLD
          have hno := hld.open_ n (List.mem_cons_self ..)
          have hlen := hld.len
          have hkl := nodup_len hld.one hld.low
          have hn4 := HG.out.len
          have htd : td.length ≤ 16781312 := by
            rw [List.length_cons] at hlen
            have : ks.length * 4096 ≤ 4096 * 4096 := Nat.mul_le_mul_right _ (by omega)
            omega
          have HOLD := Lib.hid (fun h => hld.old h)
          have HNEW := Lib.hid (fun h => (⟨hld.new HG.out h, ldM_new HG.out hld h⟩ : _ ∧ _))
          obtain ⟨D, hD⟩ : ∃ D, G.downs n = D := ⟨_, rfl⟩
          have hdl : D.length ≤ 4096 := by rw [← hD]; have := G.downs_len n; omega
          have HDW := Lib.hid (fun w L (h : Sat W w (IsG p G :: L)) => (show Calls Tryz.prog 48 #[.pointer (some ⟨p, 0, none⟩), .int .i64 (n : Int)] w fun e w' => ∃ v, e = .returned v ∧ Sat W w' (Ir v D :: IsG p G :: L) by
            have := downs_any h (n : Int) HG.out.len
            rw [Gr.downsI_nat hno.1, hD] at this
            exact this))
          rw [hD] at HNEW
          obtain ⟨bt, ot, rfl⟩ := Sat.irAddr (k := 0) hS rfl rfl (by rw [← hT]; simp)
          have HTL := Lib.hid (show T.length = td.length + 1 by rw [← hT]; rfl)
          have HT0 := Lib.hid (show (iv T)[0]? = some (.int .i64 (n : Int)) by rw [← hT]; rfl)
          have HT1 := Lib.hid (show T.drop 1 = td by rw [← hT]; rfl)
          have k0 : 0 < T.length := by have := HTL.out; omega
          have k1 : (0 : Int) < (T.length : Int) := by omega
          have k2 : (1 : Int) ≤ (T.length : Int) := by omega
          have k3 : (T.length : Int) ≤ (ct : Int) := by omega
          have HT := Lib.hid hT
          have HCT := Lib.hid (show T.length ≤ ct from hct)
          have HK1 := Lib.hid (show 1 ≤ T.length by omega)
          clear hld hmin hno hlen hkl hT hD
          by_cases hin : n ∈ ks
          · have HIN := Lib.hid (show decide (n ∈ ks) = true from decide_eq_true hin)
            have HOLD2 := Lib.hid (HOLD.out hin)
            clear hin HOLD HNEW
            go_wp2_with (first
              | (refine toList (by rfl) ?_; refine ldSl hS _ _ (by rfl) _ _ (by rfl) (agOf (by rfl)) Has.z 0 (by rfl) HT0.out ?_)
              | (refine toList (by rfl) ?_; refine wp_of_reads (rCutL (lo := 1) (by rfl) (by rfl) (by rfl) (by rfl) HK1.out HCT.out (elOf (by rfl)) _) ?_; replace hS := irCut' hS HK1.out; rw [HT1.out] at hS; generalize cutA (some ⟨bt, ot, none⟩) ct 1 1 = ac at hS ⊢)
              | (refine toList (by rfl) ?_; refine ld hS _ _ (by rfl) _ _ (by rfl) (agOf (by rfl)) (by repeat (first | exact Has.z | apply Has.s)) (by rfl) ?_)
              | (refine toList (by rfl) ?_; refine wp_of_reads (rMsLkp hS _ _ _ (by rfl) (by rfl) n (by rfl) map_seen key_nat (by kernel_rfl) (Has.s Has.z)) ?_; rw [HIN.out]))
            have hst : TdP W pa pm pg pA pb p ml pd py G v most an bn bn M (ks, td) _ _ := ⟨HOLD2.out, hS⟩
            refine ⟨⟨_, hst⟩, Nat.lt_of_le_of_lt (minT_le hst) (HMIN.out ▸ (show ldM G (ks, td) < ldM G (ks, T) from ?_))⟩
            unfold ldM
            dsimp only
            have := HTL.out
            omega
          · have HIN := Lib.hid (show decide (n ∈ ks) = false from decide_eq_false hin)
            have HN2 := Lib.hid (HNEW.out hin)
            clear hin HOLD HNEW
            go_wp2_with (first
              | (refine toList (by rfl) ?_; refine ldSl hS _ _ (by rfl) _ _ (by rfl) (agOf (by rfl)) Has.z 0 (by rfl) HT0.out ?_)
              | (refine toList (by rfl) ?_; refine wp_of_reads (rCutL (lo := 1) (by rfl) (by rfl) (by rfl) (by rfl) HK1.out HCT.out (elOf (by rfl)) _) ?_; replace hS := irCut' hS HK1.out; rw [HT1.out] at hS; generalize cutA (some ⟨bt, ot, none⟩) ct 1 1 = ac at hS ⊢)
              | (refine toList (by rfl) ?_; refine ld hS _ _ (by rfl) _ _ (by rfl) (agOf (by rfl)) (by repeat (first | exact Has.z | apply Has.s)) (by rfl) ?_)
              | (refine toList (by rfl) ?_; refine wp_of_reads (rMsLkp hS _ _ _ (by rfl) (by rfl) n (by rfl) map_seen key_nat (by kernel_rfl) (Has.s Has.z)) ?_; rw [HIN.out])
              | (refine toList (by rfl) ?_; refine msSt hS _ _ _ _ (.inl (by rfl)) (by rfl) n (by rfl) (by rfl) map_seen key_nat (Has.s Has.z) ?_; intro w1 hS1; clear hS; have hS := hS1; clear hS1; dsimp only [List.set_cons_zero, List.set_cons_succ] at hS)
              | (go_at_call 48; refine (HDW.out _ _ (hS.re [10])).mono ?_; rintro e w1 ⟨vd, rfl, hS1⟩; clear hS; have hS := hS1; clear hS1; obtain ⟨ad, cd, rfl, _⟩ := hS.irShape (k := 0) rfl)
              | (refine toList (by rfl) ?_; refine apI (l := td) (m := D) hS _ _ _ _ (by rfl) (by rfl) (by rfl) (elOf (by rfl)) (by rfl) (by rfl) (by rfl) (inOf (by rfl)) (Has.s (Has.s Has.z)) (hS.irRd (k := 0) rfl) (by omega) ?_; intro v1 w1 hS1; clear hS; have hS := hS1; clear hS1; dsimp only [List.set_cons_zero, List.set_cons_succ] at hS))
            have hS2 : Sat W w1 (Ir v1 (td ++ D) :: Ms ml (addK ks n) :: Cs pd 57 [.map (some ml)] :: Cs py 90 [.func (.func 31) #[] #[.pointer (some ⟨pa, 0, none⟩), .pointer (some ⟨pm, 0, none⟩)]] :: Cs pa 43 [v] :: Rws Ir v [] :: Cs pm 3 [.int .i64 most] :: Cs pg 31 [.pointer (some ⟨p, 0, none⟩)] :: Cs pA 3 [.int .i64 (an : Int)] :: Cs pb 3 [.int .i64 (bn : Int)] :: IsG p G :: M) := (Sat.drop hS).re [1, 2, 3, 4, 5, 6, 7, 8, 9, 10, 0]
            have hst : TdP W pa pm pg pA pb p ml pd py G v most an bn bn M (addK ks n, td ++ D) _ _ := ⟨HN2.out.1, hS2⟩
            exact ⟨⟨_, hst⟩, Nat.lt_of_le_of_lt (minT_le hst) (HMIN.out ▸ (show ldM G (addK ks n, td ++ D) < ldM G (ks, T) from by rw [← HT.out]; exact HN2.out.2))⟩
end Go.Proofs.YtpnbdnfgdiakhaaGreat
