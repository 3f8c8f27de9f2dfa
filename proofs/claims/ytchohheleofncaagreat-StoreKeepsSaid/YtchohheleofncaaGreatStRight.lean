/-
 Package store: right.
-/
import Derived.Test.YtchohheleofncaaGreatMRig
import Derived.Test.YtchohheleofncaaGreatMMad
set_option linter.unusedSimpArgs false
set_option linter.unusedVariables false
namespace Go.Proofs.YtchohheleofncaaGreat
open Go.RowKit Go.Sep
attribute [local irreducible] Go.Oper.wp Go.wpList Go.Calls Go.Code.wp Go.Sep.Reg
theorem Rd_one {w : World} {v : Value} {n sz : Nat} {vs : List Value} (h : Rd w v n sz vs) : v.oneCell' = true := by
 obtain ⟨ao, c, rfl, _⟩ := h
 rfl
theorem setv_one {w : World} {x : SetD} (h : SetRd w x) : ∀ u ∈ setv x, u.oneCell' = true := by
 intro u hu
 unfold setv at hu
 rcases List.mem_cons.1 hu with rfl | hu
 ·rfl
 ·rcases List.mem_append.1 hu with hu | hu
  ·exact inv_one _ u hu
  ·simp only [List.mem_cons, List.not_mem_nil, or_false] at hu
   rcases hu with rfl | rfl
   ·exact Rd_one h.p
   ·exact Rd_one h.d
theorem nextS_any {W w : World} {L : List Asrt} (hS : Sat W w L) (old now : InoD) (ho : OkI old) (hn : now.ptrs.length = 32) (hs1 : -9223372036854775808 ≤ now.size) (hs2 : now.size ≤ 9223372036854775807) (pieces : List Int) (taken : List Nat) (ap : Option Addr) (tv : Value) (cp : Nat) {np : Nat} (hnp : pieces.length = np)
  (hrp : ∀ w L', Sat W w (L' ++ L) → Rd w (.slice ap np cp) np 1 (pv pieces)) (hrt : ∀ w L', Sat W w (L' ++ L) → Rd w tv taken.length 1 (iv taken)) :
  Calls Tryz.prog 38 #[.agg (inv old).toArray, .agg (inv now).toArray, .slice ap np cp, tv] w fun e w' => NxE W L old now pieces taken e w' := by
 subst hnp
 obtain ⟨at_, ct, rfl, _⟩ := hrt w [] hS
 exact next_any hS old now ho hn hs1 hs2 pieces taken ap at_ cp ct hrp hrt
def RgI (W : World) (L : List Asrt) (ps pd p5 : Nat) (S : StD) (l : List SetD) (v18 : Value) (wz : World) : Prop :=
 ∃ i : Nat, v18 = .int .i64 (i : Int) ∧ i ≤ l.length ∧ (∀ j x, j < i → l[j]? = some x → setOk S l j x = true) ∧ Sat W wz (Cs p5 151 (mbn 48 (seenS l i)) :: IsSt ps pd S :: L)
def RgD (W : World) (L : List Asrt) (p7 : Nat) (R : List Asrt) (x : SetD) (v51 : Value) (wz : World) : Prop :=
 ∃ k : Nat, v51 = .int .i64 (k : Int) ∧ k ≤ x.data.length ∧ (∀ j c, j < k → x.data[j]? = some c → c.length = 128) ∧ Sat W wz (Cs p7 36 (setv x) :: R)
set_option maxRecDepth 20000 in
set_option maxHeartbeats 8000000 in
theorem right_any {W w : World} {L : List Asrt} {ps pd : Nat} {S : StD} (hS : Sat W w (IsSt ps pd S :: L)) (hX : XOk S.inos) (l : List SetD) (aq : Option Addr) (cq : Nat) (hr : ∀ w L', Sat W w (L' ++ L) → SetsRd w (.slice aq l.length cq) l) :
  Calls Tryz.prog 35 #[.pointer (some ⟨ps, 0, none⟩), .slice aq l.length cq] w fun e w' => e = .returned (.bool (rightB S l)) ∧ Sat W w' (IsSt ps pd S :: L) := by
 have HR := Lib.hid hr
 have HX := Lib.hid hX
 obtain ⟨_, _, he, hc1, hc2, _, h5⟩ := (hr w [_] hS).1
 simp only [Value.slice.injEq, true_and] at he
 obtain ⟨rfl, rfl⟩ := he
 have H5 := Lib.hid h5
 have HS40 := Lib.hid (show ∀ x ∈ l, (setv x).length = 40 from fun x hx => setv_len ((hr w [_] hS).2 x hx).pl)
 have HPL := Lib.hid (show ∀ x ∈ l, x.ino.ptrs.length = 32 from fun x hx => ((hr w [_] hS).2 x hx).pl)
 have HZB := Lib.hid (show zeroB Tryz.prog 151 = some (some (.agg (mbn 48 fun _ => false).toArray)) by kernel_rfl)
 obtain ⟨ln, hln⟩ : ∃ n, l.length = n := ⟨_, rfl⟩
 have HLN := Lib.hid hln
 have hli : (ln : Int) ≤ 9223372036854775807 := by omega
 clear hr hX h5
 rw [hln]
 by_cases h8 : 8 < ln
 ·have HBD := Lib.hid (show rightB S l = false by unfold rightB; rw [hln, decide_eq_false (by omega)]; rfl)
  have h8i : (8 : Int) < (ln : Int) := by omega
  clear hln hc1 hc2 h8
  go_enter Tryz.func35, Tryz.ntmps35
  go_wp2
  go_ret
  rw [HBD.out]
  exact ⟨rfl, hS⟩
 have h8i : ¬ ((8 : Int) < (ln : Int)) := by omega
 have H8 := Lib.hid (show l.length ≤ 8 by omega)
 clear hln hc1 hc2 h8
 go_enter Tryz.func35, Tryz.ntmps35
 go_wp2_with (refine toList (by rfl) ?_; refine al hS _ (by rfl) HZB.out ?_; clear hS; intro p5 w1 hS; rw [cells_agg, ← seenS_zero l] at hS)
 have H0 := Lib.hid hS
 clear hS HZB
 go_loopw [18] (fun v18 wz => RgI W L ps pd p5 S l v18 wz) (fun v18 _ => lpM ln v18)
 case atStart => exact ⟨0, rfl, Nat.zero_le _, fun j x hj => absurd hj (Nat.not_lt_zero _), H0.out⟩
 case round =>
  clear H0
  obtain ⟨i, rfl, hi, hall, hS⟩ := hrel
  rw [HLN.out] at hi
  have HALL := Lib.hid hall
  clear hall
  by_cases hlt : i < ln
  ·have k1 : (i : Int) < (ln : Int) := by omega
   have HLT := Lib.hid hlt
   obtain ⟨pb, po, rfl, _⟩ := H5.out (by have := HLN.out; omega)
   obtain ⟨x, hx⟩ : ∃ x, l[i]? = some x := ⟨_, List.getElem?_eq_getElem (by have := HLN.out; omega)⟩
   have HXX := Lib.hid hx
   have hxm := List.mem_of_getElem? hx
   have HRX := Lib.hid (HR.out _ [_, _] hS).1
   have hpl := HPL.out x hxm
   have HXL := Lib.hid (HS40.out x hxm)
   have HXM := Lib.hid hxm
   have HX1 := Lib.hid (show ∀ u ∈ setv x, u.oneCell' = true from setv_one ((HR.out _ [_, _] hS).2 x hxm))
   have G0 := Lib.hid (show (setv x)[0]? = some (.int .i64 x.at_) from rfl)
   have G38 := Lib.hid (setv_p hpl)
   have G39 := Lib.hid (setv_d hpl)
   have GIN := Lib.hid (setv_ino hpl)
   have hso : setOk S l i x = ((!decide (x.at_ < 0) && !decide (48 ≤ x.at_)) && (!seenS l i x.at_.toNat && (x.data.length == x.pieces.length && (x.data.all (fun c => c.length == 128) && nextOk (inoS S x) x.ino x.pieces (othersL (inoS S x).ptrs x.pieces.length))))) := rfl
   obtain ⟨sv_, hsv⟩ : ∃ v, setv x = v := ⟨_, rfl⟩
   rw [hsv] at HXL HX1 G0 G38 G39 GIN
   have HSV := Lib.hid hsv
   obtain ⟨q, hq⟩ : ∃ q, x.at_ = q := ⟨_, rfl⟩
   rw [hq] at hso G0
   have HQ := Lib.hid hq
   obtain ⟨c1, hc1⟩ : ∃ c, decide (q < 0) = c := ⟨_, rfl⟩
   obtain ⟨c2, hc2⟩ : ∃ c, decide (48 ≤ q) = c := ⟨_, rfl⟩
   rw [hc1, hc2] at hso
   have HSO := Lib.hid hso
   clear hx hxm hpl hso hsv hq hlt hi
   cases c1 with
   | true =>
    go_wp2_with (first | (refine toList (by rfl) ?_; refine wp_of_reads (v := .agg sv_.toArray) ((rLdRdA (f := setv) (x := x) HRX.out HS40.out _ _ (by rfl) _ (by rfl) (agOf (by rfl)) (szOf (by rfl)) i (by omega) HXX.out (by have := HLT.out; have := HLN.out; omega)).trans (by rw [HSV.out])) ?_) | (refine toList (by rfl) ?_; refine al hS _ (by rfl) (zrOf (by rfl)) ?_; clear hS; intro p7 w1 hS; rw [cells_agg] at hS) | (refine toList (by rfl) ?_; refine stW hS _ _ _ (by rfl) (by rfl) sv_ (by rfl) HX1.out (by rw [HXL.out]; exact szOf (by rfl)) Has.z (by rw [HXL.out]; rfl) ?_; clear hS; intro w1 hS; rw [List.set_cons_zero] at hS) | (refine toList (by rfl) ?_; refine ld hS _ _ (by rfl) _ _ (by rfl) (agOf (by rfl)) Has.z G0.out ?_))
    go_ret
    rw [rightB_no HXX.out (HSO.out.trans rfl)]
    exact ⟨rfl, hS.drop.drop⟩
   | false =>
   cases c2 with
   | true =>
    go_wp2_with (first | (refine toList (by rfl) ?_; refine wp_of_reads (v := .agg sv_.toArray) ((rLdRdA (f := setv) (x := x) HRX.out HS40.out _ _ (by rfl) _ (by rfl) (agOf (by rfl)) (szOf (by rfl)) i (by omega) HXX.out (by have := HLT.out; have := HLN.out; omega)).trans (by rw [HSV.out])) ?_) | (refine toList (by rfl) ?_; refine al hS _ (by rfl) (zrOf (by rfl)) ?_; clear hS; intro p7 w1 hS; rw [cells_agg] at hS) | (refine toList (by rfl) ?_; refine stW hS _ _ _ (by rfl) (by rfl) sv_ (by rfl) HX1.out (by rw [HXL.out]; exact szOf (by rfl)) Has.z (by rw [HXL.out]; rfl) ?_; clear hS; intro w1 hS; rw [List.set_cons_zero] at hS) | (refine toList (by rfl) ?_; refine ld hS _ _ (by rfl) _ _ (by rfl) (agOf (by rfl)) Has.z G0.out ?_))
    go_ret
    rw [rightB_no HXX.out (HSO.out.trans rfl)]
    exact ⟨rfl, hS.drop.drop⟩
   | false =>
   have hq0 := of_decide_eq_false hc1
   have hq48 := of_decide_eq_false hc2
   obtain ⟨n, rfl⟩ : ∃ n : Nat, q = (n : Int) := ⟨q.toNat, by omega⟩
   rw [Int.toNat_natCast] at HSO
   have HN48 := Lib.hid (show n < 48 by omega)
   have n48 : (n : Int) < 48 := by omega
   have HMA := Lib.hid (mbn_at (seenS l i) (show n < 48 by omega))
   obtain ⟨s, hs⟩ : ∃ s, seenS l i n = s := ⟨_, rfl⟩
   rw [hs] at HSO HMA
   clear hs hq0 hq48
   cases s with
   | true =>
    go_wp2_with (first | (refine toList (by rfl) ?_; refine wp_of_reads (v := .agg sv_.toArray) ((rLdRdA (f := setv) (x := x) HRX.out HS40.out _ _ (by rfl) _ (by rfl) (agOf (by rfl)) (szOf (by rfl)) i (by omega) HXX.out (by have := HLT.out; have := HLN.out; omega)).trans (by rw [HSV.out])) ?_) | (refine toList (by rfl) ?_; refine al hS _ (by rfl) (zrOf (by rfl)) ?_; clear hS; intro p7 w1 hS; rw [cells_agg] at hS) | (refine toList (by rfl) ?_; refine stW hS _ _ _ (by rfl) (by rfl) sv_ (by rfl) HX1.out (by rw [HXL.out]; exact szOf (by rfl)) Has.z (by rw [HXL.out]; rfl) ?_; clear hS; intro w1 hS; rw [List.set_cons_zero] at hS) | (refine toList (by rfl) ?_; refine ld hS _ _ (by rfl) _ _ (by rfl) (agOf (by rfl)) Has.z G0.out ?_) | (refine toList (by rfl) ?_; refine ld hS _ _ (by rfl) _ _ (by rfl) (agOf (by rfl)) (Has.s Has.z) HMA.out ?_) | (refine toList (by rfl) ?_; refine ld hS _ _ (by rfl) _ _ (by rfl) (agOf (by rfl)) Has.z G38.out ?_) | (refine toList (by rfl) ?_; refine ld hS _ _ (by rfl) _ _ (by rfl) (agOf (by rfl)) Has.z G39.out ?_))
    go_ret
    rw [rightB_no HXX.out (HSO.out.trans rfl)]
    exact ⟨rfl, hS.drop.drop⟩
   | false =>
   have hsr := (HR.out _ [_, _] hS).2 x HXM.out
   have HSR := Lib.hid hsr
   obtain ⟨ap, cp, hpv⟩ : ∃ ao c, x.pval = .slice ao x.pieces.length c := by obtain ⟨ao, c, he, _⟩ := hsr.p; exact ⟨ao, c, he⟩
   obtain ⟨ad, cd, hdv⟩ : ∃ ao c, x.dval = .slice ao x.data.length c := by obtain ⟨ao, c, he, _⟩ := hsr.d; exact ⟨ao, c, he⟩
   obtain ⟨np, hnp⟩ : ∃ n, x.pieces.length = n := ⟨_, rfl⟩
   obtain ⟨nd, hnd⟩ : ∃ n, x.data.length = n := ⟨_, rfl⟩
   rw [hpv, hnp] at G38
   rw [hdv, hnd] at G39
   rw [hnp, hnd] at HSO
   have HNP := Lib.hid hnp
   have HND := Lib.hid hnd
   have HPV := Lib.hid hpv
   have HDV := Lib.hid hdv
   clear hnp hnd hpv hdv hsr
   by_cases hdp : nd = np
   ·have e5 : ((nd : Int) != (np : Int)) = false := by rw [hdp]; simp
    have e6 : (nd == np) = true := beq_iff_eq.2 hdp
    rw [e6] at HSO
    have HSL := Lib.hid (show n < (mbn 48 (seenS l i)).length by rw [mbn_len]; exact HN48.out)
    have HSE := Lib.hid ((mbn_set (seenS l i) true HN48.out).trans (by rw [seenS_succ HXX.out HQ.out]))
    have HDP := Lib.hid hdp
    have ndi : (nd : Int) ≤ 9223372036854775807 := by
     obtain ⟨_, _, he, h1, h2, _⟩ := HSR.out.d
     have := HND.out
     omega
    clear e6 hdp
    go_wp2_with (first | (refine toList (by rfl) ?_; refine wp_of_reads (v := .agg sv_.toArray) ((rLdRdA (f := setv) (x := x) HRX.out HS40.out _ _ (by rfl) _ (by rfl) (agOf (by rfl)) (szOf (by rfl)) i (by omega) HXX.out (by have := HLT.out; have := HLN.out; omega)).trans (by rw [HSV.out])) ?_) | (refine toList (by rfl) ?_; refine al hS _ (by rfl) (zrOf (by rfl)) ?_; clear hS; intro p7 w1 hS; rw [cells_agg] at hS) | (refine toList (by rfl) ?_; refine stW hS _ _ _ (by rfl) (by rfl) sv_ (by rfl) HX1.out (by rw [HXL.out]; exact szOf (by rfl)) Has.z (by rw [HXL.out]; rfl) ?_; clear hS; intro w1 hS; rw [List.set_cons_zero] at hS) | (refine toList (by rfl) ?_; refine ld hS _ _ (by rfl) _ _ (by rfl) (agOf (by rfl)) Has.z G0.out ?_) | (refine toList (by rfl) ?_; refine ld hS _ _ (by rfl) _ _ (by rfl) (agOf (by rfl)) (Has.s Has.z) HMA.out ?_) | (refine toList (by rfl) ?_; refine ld hS _ _ (by rfl) _ _ (by rfl) (agOf (by rfl)) Has.z G38.out ?_) | (refine toList (by rfl) ?_; refine ld hS _ _ (by rfl) _ _ (by rfl) (agOf (by rfl)) Has.z G39.out ?_) | (refine toList (by rfl) ?_; refine Go.Sep.st hS _ _ _ (by rfl) _ _ (by rfl) _ (by first | exact evC | exact evT (by rfl)) (by rfl) (szOf (by rfl)) (Has.s Has.z) HSL.out ?_; clear hS; intro w1 hS; rw [List.set_cons_succ, List.set_cons_zero, HSE.out] at hS))
    have H1 := Lib.hid hS
    clear hS
    go_loopw [51] (fun v51 wz => RgD W L p7 (Cs p5 151 (mbn 48 (seenS l (i + 1))) :: IsSt ps pd S :: L) x v51 wz) (fun v51 _ => lpM nd v51)
    case atStart => exact ⟨0, rfl, Nat.zero_le _, fun j c hj => absurd hj (Nat.not_lt_zero _), by rw [HSV.out]; exact H1.out⟩
    case round =>
     clear H1
     obtain ⟨k, rfl, hk, hda, hS⟩ := hrel
     rw [HSV.out] at hS
     rw [HND.out] at hk
     have HDA := Lib.hid hda
     clear hda
     by_cases hkl : k < nd
     ·have k2 : (k : Int) < (nd : Int) := by omega
      have HKL := Lib.hid hkl
      have hsr := (HR.out _ [_, _, _] hS).2 x HXM.out
      have hrd := hsr.d
      rw [HDV.out, HND.out] at hrd
      obtain ⟨_, _, he, _, _, _, h7⟩ := id hrd
      simp only [Value.slice.injEq, true_and] at he
      obtain ⟨rfl, rfl⟩ := he
      obtain ⟨db, dbo, rfl, _⟩ := h7 (by omega)
      have HRD := Lib.hid hrd
      obtain ⟨c, hc⟩ : ∃ c, x.data[k]? = some c := ⟨_, List.getElem?_eq_getElem (by rw [HND.out]; exact hkl)⟩
      obtain ⟨v, hv⟩ : ∃ v, x.dvs[k]? = some v := ⟨_, List.getElem?_eq_getElem (by rw [hsr.dl, HND.out]; exact hkl)⟩
      obtain ⟨vc, vcc, rfl, _⟩ := hsr.b k v c hv hc
      obtain ⟨lc, hlc⟩ : ∃ n, c.length = n := ⟨_, rfl⟩
      rw [hlc] at hv
      have HV := Lib.hid hv
      have HC := Lib.hid hc
      have HLC := Lib.hid hlc
      clear hk hkl hsr hrd h7 hc hv hlc
      by_cases h128 : lc = 128
      ·subst h128
       go_wp2_with (refine toList (by rfl) ?_; refine wp_of_reads (rLdRd1 HRD.out _ _ (by rfl) _ (by rfl) (agOf (by rfl)) k (by omega) HV.out (by have := HKL.out; omega)) ?_)
       exact ⟨⟨k + 1, by go_num, by rw [HND.out]; exact HKL.out, fun j d hj hd => by
        by_cases e : j = k
        ·subst e
         rw [HC.out] at hd
         rw [← Option.some.inj hd]
         exact HLC.out
        ·exact HDA.out j d (by omega) hd, by rw [HSV.out]; exact hS⟩, lpM_lt HKL.out⟩
      ·have e7 : ((lc : Int) != 128) = true := bne_iff_ne.2 (by omega)
       have hall : x.data.all (fun c => c.length == 128) = false := by
        rw [List.all_eq_false]
        exact ⟨c, List.mem_of_getElem? HC.out, by rw [HLC.out, beq_eq_false_iff_ne.2 h128]; decide⟩
       rw [hall] at HSO
       clear hall h128
       go_wp2_with (refine toList (by rfl) ?_; refine wp_of_reads (rLdRd1 HRD.out _ _ (by rfl) _ (by rfl) (agOf (by rfl)) k (by omega) HV.out (by have := HKL.out; omega)) ?_)
       go_ret
       rw [rightB_no HXX.out (HSO.out.trans rfl)]
       exact ⟨rfl, hS.drop.drop⟩
     ·obtain rfl : k = nd := by omega
      have k2 : ¬ (k : Int) < (k : Int) := by omega
      have hall : x.data.all (fun c => c.length == 128) = true := by
       rw [List.all_eq_true]
       intro c hc
       obtain ⟨j, hj⟩ := List.getElem?_of_mem hc
       rw [HDA.out j c (by have := (List.getElem?_eq_some_iff.1 hj).1; have := HND.out; omega) hj]
       rfl
      rw [hall] at HSO
      have hino : ∃ y, S.inos[n]? = some y := ⟨_, List.getElem?_eq_getElem (by rw [HX.out.len]; exact HN48.out)⟩
      obtain ⟨y, hy⟩ := hino
      have hyo := HX.out.ok y (List.mem_of_getElem? hy)
      have hyv : inoS S x = y := by unfold inoS; rw [HQ.out, Int.toNat_natCast, hy]; rfl
      rw [hyv] at HSO
      have HY := Lib.hid hy
      have HYO := Lib.hid hyo
      have hsr := (HR.out _ [_, _, _] hS).2 x HXM.out
      have HS1 := Lib.hid hsr.s1
      have HS2 := Lib.hid hsr.s2
      have HPX := Lib.hid hsr.pl
      have HRP := Lib.hid (show ∀ w M, Sat W w (M ++ L) → Rd w (.slice ap np cp) np 1 (pv x.pieces) from fun w M h => by
       have := ((HR.out w M h).2 x HXM.out).p
       rw [HPV.out, HNP.out] at this
       exact this)
      have hnpb : np ≤ 9223372036854775807 := by
       obtain ⟨_, _, he, h1, h2, _⟩ := hsr.p
       have := HNP.out
       omega
      obtain ⟨fv, r, hS1⟩ := IsSt.open (hS.re [2, 0, 1])
      have HMK := Lib.hid (fun w M h => IsSt.mk (W := W) (w := w) (L := M) (ps := ps) (pd := pd) (S := S) (fv := fv) (r := r) h)
      have HSI := Lib.hid (stv_ino (pd := pd) (s := S.sup) (fv := fv) (r := r) (last := S.last) HX.out hy)
      have hS2 := hS1.re [3, 0, 4, 1, 2]
      clear hS hS1
      have hS := hS2
      clear hS2
      have HOT := Lib.hid (fun w M (h : Sat W w M) => others_any h y hyo np hnpb)
      have HNX := Lib.hid (fun w vo (M : List Asrt) (h : Sat W w (Ir vo (othersL y.ptrs np) :: (M ++ L))) => nextS_any h y x.ino hyo HPX.out HS1.out HS2.out x.pieces (othersL y.ptrs np) ap vo cp HNP.out (fun w L' h => HRP.out w (L' ++ (Ir vo (othersL y.ptrs np) :: M)) (by rw [List.append_assoc]; exact h)) (fun w L' h => h.irRd (has_add Has.z L')))
      have HIY := Lib.hid (show (inv y).length = 37 by rw [inv_len, hyo.pl])
      have HIX := Lib.hid (show (inv x.ino).length = 37 by rw [inv_len, HPX.out])
      obtain ⟨iy, hiy⟩ : ∃ v, inv y = v := ⟨_, rfl⟩
      obtain ⟨ix, hix⟩ : ∃ v, inv x.ino = v := ⟨_, rfl⟩
      rw [hiy] at HSI HOT HIY
      rw [hix] at GIN HIX
      obtain ⟨ok, hok⟩ : ∃ b, nextOk y x.ino x.pieces (othersL y.ptrs np) = b := ⟨_, rfl⟩
      rw [hok] at HSO
      have HOKN := Lib.hid hok
      have HNI1 := Lib.hid (inv_one (nxI y x.ino x.pieces (othersL y.ptrs np)))
      have HNIL := Lib.hid (show (inv (nxI y x.ino x.pieces (othersL y.ptrs np))).length = 37 by rw [inv_len, nxI_len])
      have HZ1 := Lib.hid (inv_one zeroI)
      have HZL := Lib.hid (show (inv zeroI).length = 37 from rfl)
      have HNXT := Lib.hid (fun (ht : ok = true) w vo M (h : Sat W w (Ir vo (othersL y.ptrs np) :: (M ++ L))) => (HNX.out w vo M h).mono (fun e w' (hE : NxE W _ _ _ _ _ e w') => (show ∃ vg, e = .returned (.tuple #[.agg (inv (nxI y x.ino x.pieces (othersL y.ptrs np))).toArray, vg, .bool true]) ∧ Sat W w' (Ir vg (goneP y (nxI y x.ino x.pieces (othersL y.ptrs np)) 32) :: Ir vo (othersL y.ptrs np) :: (M ++ L)) from by
       rcases hE with ⟨_, h⟩ | ⟨hn, _⟩
       ·exact h
       ·rw [hok, ht] at hn
        exact absurd hn (by decide))))
      have HNXF := Lib.hid (fun (ht : ok = false) w vo M (h : Sat W w (Ir vo (othersL y.ptrs np) :: (M ++ L))) => (HNX.out w vo M h).mono (fun e w' (hE : NxE W _ _ _ _ _ e w') => (show e = .returned (.tuple #[.agg (inv zeroI).toArray, .slice none 0 0, .bool false]) ∧ Sat W w' (Ir vo (othersL y.ptrs np) :: (M ++ L)) from by
       rcases hE with ⟨hn, _⟩ | ⟨_, h⟩
       ·rw [hok, ht] at hn
        exact absurd hn (by decide)
       ·exact h)))
      obtain ⟨gone, hgone⟩ : ∃ g, goneP y (nxI y x.ino x.pieces (othersL y.ptrs np)) 32 = g := ⟨_, rfl⟩
      obtain ⟨ni, hni⟩ : ∃ v, inv (nxI y x.ino x.pieces (othersL y.ptrs np)) = v := ⟨_, rfl⟩
      obtain ⟨zi, hzi⟩ : ∃ v, inv zeroI = v := ⟨_, rfl⟩
      rw [hni] at HNXT HNI1 HNIL
      rw [hgone] at HNXT
      rw [hzi] at HNXF HZ1 HZL
      rw [hiy, hix] at HNXT HNXF
      clear hall hk hkl hy hyo hyv hsr hiy hix hok hni hzi hnpb hgone HNX
      cases ok with
      | true =>
       have HNX := Lib.hid (HNXT.out rfl)
       clear HNXT HNXF
       go_wp2
       refine regStart2 [28] hS (fun _ h => h.take2) (by kernel_rfl) rfl ?_
       intro w1 hS1
       clear hS; have hS := hS1; clear hS1
       (refine rgP 0 hS (fun _ h => h.take2) ?_; go_frame)
       (refine rgP 1 hS (fun _ h => h.take2) ?_; go_frame)
       (refine rgR 2 hS (fun _ h => h.take2) ?_; (first
                      | refine ⟨_, yLd _ _ (by rfl) _ _ (by rfl) (agOf (by rfl)) Has.z G0.out, ?_⟩
                      | refine ⟨_, yLd _ _ (by rfl) _ _ (by rfl) (agOf (by rfl)) Has.z G38.out, ?_⟩
                      | refine ⟨_, yLdA _ _ (by rfl) _ _ (by rfl) (agOf (by rfl)) (szOf (by rfl)) (Has.s Has.z) (vs := iy) HSI.out HIY.out, ?_⟩
                      | refine ⟨_, yLdA _ _ (by rfl) _ _ (by rfl) (agOf (by rfl)) (szOf (by rfl)) Has.z (vs := ix) GIN.out HIX.out, ?_⟩); go_frame)
       (refine rgP 3 hS (fun _ h => h.take2) ?_; go_frame)
       (refine rgP 4 hS (fun _ h => h.take2) ?_; go_frame)
       (refine rgP 5 hS (fun _ h => h.take2) ?_; go_frame)
       (refine rgR 6 hS (fun _ h => h.take2) ?_; (first
                      | refine ⟨_, yLd _ _ (by rfl) _ _ (by rfl) (agOf (by rfl)) Has.z G0.out, ?_⟩
                      | refine ⟨_, yLd _ _ (by rfl) _ _ (by rfl) (agOf (by rfl)) Has.z G38.out, ?_⟩
                      | refine ⟨_, yLdA _ _ (by rfl) _ _ (by rfl) (agOf (by rfl)) (szOf (by rfl)) (Has.s Has.z) (vs := iy) HSI.out HIY.out, ?_⟩
                      | refine ⟨_, yLdA _ _ (by rfl) _ _ (by rfl) (agOf (by rfl)) (szOf (by rfl)) Has.z (vs := ix) GIN.out HIX.out, ?_⟩); go_frame)
       (refine rgP 7 hS (fun _ h => h.take2) ?_; go_frame)
       (refine rgR 8 hS (fun _ h => h.take2) ?_; (first
                      | refine ⟨_, yLd _ _ (by rfl) _ _ (by rfl) (agOf (by rfl)) Has.z G0.out, ?_⟩
                      | refine ⟨_, yLd _ _ (by rfl) _ _ (by rfl) (agOf (by rfl)) Has.z G38.out, ?_⟩
                      | refine ⟨_, yLdA _ _ (by rfl) _ _ (by rfl) (agOf (by rfl)) (szOf (by rfl)) (Has.s Has.z) (vs := iy) HSI.out HIY.out, ?_⟩
                      | refine ⟨_, yLdA _ _ (by rfl) _ _ (by rfl) (agOf (by rfl)) (szOf (by rfl)) Has.z (vs := ix) GIN.out HIX.out, ?_⟩); go_frame)
       (refine rgP 9 hS (fun _ h => h.take2) ?_; go_frame)
       (refine rgR 10 hS (fun _ h => h.take2) ?_; (first
                      | refine ⟨_, yLd _ _ (by rfl) _ _ (by rfl) (agOf (by rfl)) Has.z G0.out, ?_⟩
                      | refine ⟨_, yLd _ _ (by rfl) _ _ (by rfl) (agOf (by rfl)) Has.z G38.out, ?_⟩
                      | refine ⟨_, yLdA _ _ (by rfl) _ _ (by rfl) (agOf (by rfl)) (szOf (by rfl)) (Has.s Has.z) (vs := iy) HSI.out HIY.out, ?_⟩
                      | refine ⟨_, yLdA _ _ (by rfl) _ _ (by rfl) (agOf (by rfl)) (szOf (by rfl)) Has.z (vs := ix) GIN.out HIX.out, ?_⟩); go_frame)
       (refine rgP 11 hS (fun _ h => h.take2) ?_; go_frame)
       (refine rgP 12 hS (fun _ h => h.take2) ?_; go_frame)
       (refine rgR 13 hS (fun _ h => h.take2) ?_; (first
                      | refine ⟨_, yLd _ _ (by rfl) _ _ (by rfl) (agOf (by rfl)) Has.z G0.out, ?_⟩
                      | refine ⟨_, yLd _ _ (by rfl) _ _ (by rfl) (agOf (by rfl)) Has.z G38.out, ?_⟩
                      | refine ⟨_, yLdA _ _ (by rfl) _ _ (by rfl) (agOf (by rfl)) (szOf (by rfl)) (Has.s Has.z) (vs := iy) HSI.out HIY.out, ?_⟩
                      | refine ⟨_, yLdA _ _ (by rfl) _ _ (by rfl) (agOf (by rfl)) (szOf (by rfl)) Has.z (vs := ix) GIN.out HIX.out, ?_⟩); go_frame)
       (refine rgP 14 hS (fun _ h => h.take2) ?_; go_frame)
       (refine rgP 15 hS (fun _ h => h.take2) ?_; go_frame)
       (refine rgP 16 hS (fun _ h => h.take2) ?_; go_frame)
       (refine rgR 17 hS (fun _ h => h.take2) ?_; (first
                      | refine ⟨_, yLd _ _ (by rfl) _ _ (by rfl) (agOf (by rfl)) Has.z G0.out, ?_⟩
                      | refine ⟨_, yLd _ _ (by rfl) _ _ (by rfl) (agOf (by rfl)) Has.z G38.out, ?_⟩
                      | refine ⟨_, yLdA _ _ (by rfl) _ _ (by rfl) (agOf (by rfl)) (szOf (by rfl)) (Has.s Has.z) (vs := iy) HSI.out HIY.out, ?_⟩
                      | refine ⟨_, yLdA _ _ (by rfl) _ _ (by rfl) (agOf (by rfl)) (szOf (by rfl)) Has.z (vs := ix) GIN.out HIX.out, ?_⟩); go_frame)
       (refine rgP 18 hS (fun _ h => h.take2) ?_; go_frame)
       (refine rgR 19 hS (fun _ h => h.take2) ?_; (first
                      | refine ⟨_, yLd _ _ (by rfl) _ _ (by rfl) (agOf (by rfl)) Has.z G0.out, ?_⟩
                      | refine ⟨_, yLd _ _ (by rfl) _ _ (by rfl) (agOf (by rfl)) Has.z G38.out, ?_⟩
                      | refine ⟨_, yLdA _ _ (by rfl) _ _ (by rfl) (agOf (by rfl)) (szOf (by rfl)) (Has.s Has.z) (vs := iy) HSI.out HIY.out, ?_⟩
                      | refine ⟨_, yLdA _ _ (by rfl) _ _ (by rfl) (agOf (by rfl)) (szOf (by rfl)) Has.z (vs := ix) GIN.out HIX.out, ?_⟩); go_frame)
       (refine rgP 20 hS (fun _ h => h.take2) ?_; go_frame)
       revert hS
       apply regJoin (fun (p10 _b2 _b3 : Nat) (vo vg _v3 : Value) w' => Sat W w' (Cs p10 33 (List.replicate 37 (.int .i64 0)) :: Ir vg gone :: Ir vo (othersL y.ptrs np) :: Cs p7 36 sv_ :: Cs ps 85 (stv pd S.sup fv S.inos r S.last) :: Cs p5 151 (mbn 48 (seenS l (i + 1))) :: IsMap fv S.U :: Tb 53 3 rv r S.recs :: L)) ([Cs p7 36 sv_, Cs ps 85 (stv pd S.sup fv S.inos r S.last)])
       case h1 =>
        intro hJ hS
        refine regM2 21 27 rfl rfl (by kernel_rfl) (by rfl) (by rfl) (by rfl) (by rfl) ?_ ?_
        ·intro K hK; (refine Go.Sep.cl 78 _ _ (by rfl) (by rfl) (by kernel_rfl) (HOT.out _ _ hS) ?_; clear hS; rintro e w1 ⟨vo, rfl, hS⟩; refine ⟨_, rfl, ?_⟩); refine hK _ _ _ (hS.upTo (fun _ h => by first | exact h.take2 | exact h.drop.take2 | exact h.drop.drop.take2 | exact h.drop.drop.drop.take2)) (fun _ h => h) ?_; clear hK K; go_frame
         refine regM2 22 27 rfl rfl (by kernel_rfl) (by rfl) (by rfl) (by rfl) (by rfl) ?_ ?_
         ·intro K hK; ((first | refine Go.Sep.cl 38 _ _ (by rfl) (by rfl) (by kernel_rfl) (HNX.out _ _ [_, _, _, _, _] hS) ?_ | refine Go.Sep.cl 38 _ _ (by rfl) (by rfl) (by kernel_rfl) (HNX.out _ _ [_, _, _, _, _, _] hS.pull1) ?_ | refine Go.Sep.cl 38 _ _ (by rfl) (by rfl) (by kernel_rfl) (HNX.out _ _ [_, _, _, _, _, _] hS) ?_); clear hS; rintro e w1 ⟨vg, rfl, hS⟩; refine ⟨_, rfl, ?_⟩); refine hK _ _ _ (hS.upTo (fun _ h => by first | exact h.take2 | exact h.drop.take2 | exact h.drop.drop.take2 | exact h.drop.drop.drop.take2)) (fun _ h => h) ?_; clear hK K; go_frame
          (refine rgP 23 hS (fun _ h => by first | exact h.take2 | exact h.drop.take2 | exact h.drop.drop.take2 | exact h.drop.drop.drop.take2) ?_; go_frame)
          (refine rgP 24 hS (fun _ h => by first | exact h.take2 | exact h.drop.take2 | exact h.drop.drop.take2 | exact h.drop.drop.drop.take2) ?_; go_frame)
          (refine rgP 25 hS (fun _ h => by first | exact h.take2 | exact h.drop.take2 | exact h.drop.drop.take2 | exact h.drop.drop.drop.take2) ?_; go_frame)
          (refine rgP 26 hS (fun _ h => by first | exact h.take2 | exact h.drop.take2 | exact h.drop.drop.take2 | exact h.drop.drop.drop.take2) ?_; go_frame)
          (refine rgA 27 false fun K hK => ?_; (refine al hS _ (by rfl) (zrOf (by rfl)) ?_; clear hS; intro p10 w1 hS; rw [cells_agg] at hS); refine hK _ _ _ (hS.upTo (fun _ h => by first | exact h.take2 | exact h.drop.take2 | exact h.drop.drop.take2 | exact h.drop.drop.drop.take2)) (fun _ _ h => h) ?_; clear hK K; go_frame)
          refine (fun (g : Nat → Nat → Value → Value → _) => g 0 0 (.slice none 0 0) (.slice none 0 0)) ?_; intro x2 x3 y2 y3; first | exact hJ p10 x2 x3 vo vg y3 _ hS | exact hJ p10 x2 x3 vo vg y3 _ (hS.re [2, 0, 1]) | exact hJ p10 x2 x3 vo vg y3 _ (hS.re [1, 0])
         ·intro K hK; (refine al hS _ (by rfl) (zrOf (by rfl)) ?_; clear hS; intro p10 w1 hS; rw [cells_agg] at hS); refine hK _ _ _ (hS.upTo (fun _ h => by first | exact h.take2 | exact h.drop.take2 | exact h.drop.drop.take2 | exact h.drop.drop.drop.take2)) (fun _ h => h) ?_; clear hK K; go_frame
          (refine rgA 22 false fun K hK => ?_; ((first | refine Go.Sep.cl 38 _ _ (by rfl) (by rfl) (by kernel_rfl) (HNX.out _ _ [_, _, _, _, _] hS) ?_ | refine Go.Sep.cl 38 _ _ (by rfl) (by rfl) (by kernel_rfl) (HNX.out _ _ [_, _, _, _, _, _] hS.pull1) ?_ | refine Go.Sep.cl 38 _ _ (by rfl) (by rfl) (by kernel_rfl) (HNX.out _ _ [_, _, _, _, _, _] hS) ?_); clear hS; rintro e w1 ⟨vg, rfl, hS⟩; refine ⟨_, rfl, ?_⟩); refine hK _ _ _ (hS.upTo (fun _ h => by first | exact h.take2 | exact h.drop.take2 | exact h.drop.drop.take2 | exact h.drop.drop.drop.take2)) (fun _ _ h => h) ?_; clear hK K; go_frame)
          (refine rgP 23 hS (fun _ h => by first | exact h.take2 | exact h.drop.take2 | exact h.drop.drop.take2 | exact h.drop.drop.drop.take2) ?_; go_frame)
          (refine rgP 24 hS (fun _ h => by first | exact h.take2 | exact h.drop.take2 | exact h.drop.drop.take2 | exact h.drop.drop.drop.take2) ?_; go_frame)
          (refine rgP 25 hS (fun _ h => by first | exact h.take2 | exact h.drop.take2 | exact h.drop.drop.take2 | exact h.drop.drop.drop.take2) ?_; go_frame)
          (refine rgP 26 hS (fun _ h => by first | exact h.take2 | exact h.drop.take2 | exact h.drop.drop.take2 | exact h.drop.drop.drop.take2) ?_; go_frame)
          refine (fun (g : Nat → Nat → Value → Value → _) => g 0 0 (.slice none 0 0) (.slice none 0 0)) ?_; intro x2 x3 y2 y3; first | exact hJ p10 x2 x3 vo vg y3 _ hS | exact hJ p10 x2 x3 vo vg y3 _ (hS.re [2, 0, 1]) | exact hJ p10 x2 x3 vo vg y3 _ (hS.re [1, 0])
        ·intro K hK; (refine al hS _ (by rfl) (zrOf (by rfl)) ?_; clear hS; intro p10 w1 hS; rw [cells_agg] at hS); refine hK _ _ _ (hS.upTo (fun _ h => by first | exact h.take2 | exact h.drop.take2 | exact h.drop.drop.take2 | exact h.drop.drop.drop.take2)) (fun _ h => h) ?_; clear hK K; go_frame
         (refine rgA 21 false fun K hK => ?_; (refine Go.Sep.cl 78 _ _ (by rfl) (by rfl) (by kernel_rfl) (HOT.out _ _ hS) ?_; clear hS; rintro e w1 ⟨vo, rfl, hS⟩; refine ⟨_, rfl, ?_⟩); refine hK _ _ _ (hS.upTo (fun _ h => by first | exact h.take2 | exact h.drop.take2 | exact h.drop.drop.take2 | exact h.drop.drop.drop.take2)) (fun _ _ h => h) ?_; clear hK K; go_frame)
         (refine rgA 22 false fun K hK => ?_; ((first | refine Go.Sep.cl 38 _ _ (by rfl) (by rfl) (by kernel_rfl) (HNX.out _ _ [_, _, _, _, _] hS) ?_ | refine Go.Sep.cl 38 _ _ (by rfl) (by rfl) (by kernel_rfl) (HNX.out _ _ [_, _, _, _, _, _] hS.pull1) ?_ | refine Go.Sep.cl 38 _ _ (by rfl) (by rfl) (by kernel_rfl) (HNX.out _ _ [_, _, _, _, _, _] hS) ?_); clear hS; rintro e w1 ⟨vg, rfl, hS⟩; refine ⟨_, rfl, ?_⟩); refine hK _ _ _ (hS.upTo (fun _ h => by first | exact h.take2 | exact h.drop.take2 | exact h.drop.drop.take2 | exact h.drop.drop.drop.take2)) (fun _ _ h => h) ?_; clear hK K; go_frame)
         (refine rgP 23 hS (fun _ h => by first | exact h.take2 | exact h.drop.take2 | exact h.drop.drop.take2 | exact h.drop.drop.drop.take2) ?_; go_frame)
         (refine rgP 24 hS (fun _ h => by first | exact h.take2 | exact h.drop.take2 | exact h.drop.drop.take2 | exact h.drop.drop.drop.take2) ?_; go_frame)
         (refine rgP 25 hS (fun _ h => by first | exact h.take2 | exact h.drop.take2 | exact h.drop.drop.take2 | exact h.drop.drop.drop.take2) ?_; go_frame)
         (refine rgP 26 hS (fun _ h => by first | exact h.take2 | exact h.drop.take2 | exact h.drop.drop.take2 | exact h.drop.drop.drop.take2) ?_; go_frame)
         refine (fun (g : Nat → Nat → Value → Value → _) => g 0 0 (.slice none 0 0) (.slice none 0 0)) ?_; intro x2 x3 y2 y3; first | exact hJ p10 x2 x3 vo vg y3 _ hS | exact hJ p10 x2 x3 vo vg y3 _ (hS.re [2, 0, 1]) | exact hJ p10 x2 x3 vo vg y3 _ (hS.re [1, 0])
       intro p10 _ _ vo vg _ w1 hS
       (refine rgA 28 true fun K hK => ?_; (refine stW hS _ _ _ (by rfl) (by rfl) ni (by rfl) HNI1.out (by rw [HNIL.out]; exact szOf (by rfl)) Has.z (by rw [HNIL.out]; rfl) ?_; clear hS; intro w1 hS; dsimp only [List.set_cons_zero, List.set_cons_succ] at hS); refine hK _ _ _ hS (by first | (intro h; cases h; done) | exact fun _ _ h => h | exact fun _ _ h => h.drop | exact fun _ _ h => h.drop.drop | exact fun _ _ h => h.drop.pull1 | exact fun _ _ h => h.take2 | exact fun _ _ h => h.one Has.z | exact fun _ _ h => h.one (Has.s Has.z) | exact fun _ _ h => h.one (Has.s (Has.s Has.z))) ?_; clear hK K; go_frame)
       (refine rgP 29 hS (fun _ h => h) ?_; go_frame)
       (refine rgP 30 hS (fun _ h => h) ?_; go_frame)
       refine regDone (by kernel_rfl) ?_
       go_wp2
       have h9 := HMK.out _ _ (hS.re [4, 6, 7, 5, 0, 1, 2, 3])
       exact ⟨⟨i + 1, by go_num, by rw [HLN.out]; exact HLT.out, fun j z hj hz => by
        by_cases e : j = i
        ·subst e
         rw [HXX.out] at hz
         rw [← Option.some.inj hz]
         exact HSO.out.trans rfl
        ·exact HALL.out j z (by omega) hz, (h9.re [2, 3, 4, 5, 1, 0]).drop.drop.drop.drop⟩, lpM_lt HLT.out⟩
      | false =>
       have HNX := Lib.hid (HNXF.out rfl)
       clear HNXT HNXF
       go_wp2
       refine regStart2 [28] hS (fun _ h => h.take2) (by kernel_rfl) rfl ?_
       intro w1 hS1
       clear hS; have hS := hS1; clear hS1
       (refine rgP 0 hS (fun _ h => h.take2) ?_; go_frame)
       (refine rgP 1 hS (fun _ h => h.take2) ?_; go_frame)
       (refine rgR 2 hS (fun _ h => h.take2) ?_; (first
                      | refine ⟨_, yLd _ _ (by rfl) _ _ (by rfl) (agOf (by rfl)) Has.z G0.out, ?_⟩
                      | refine ⟨_, yLd _ _ (by rfl) _ _ (by rfl) (agOf (by rfl)) Has.z G38.out, ?_⟩
                      | refine ⟨_, yLdA _ _ (by rfl) _ _ (by rfl) (agOf (by rfl)) (szOf (by rfl)) (Has.s Has.z) (vs := iy) HSI.out HIY.out, ?_⟩
                      | refine ⟨_, yLdA _ _ (by rfl) _ _ (by rfl) (agOf (by rfl)) (szOf (by rfl)) Has.z (vs := ix) GIN.out HIX.out, ?_⟩); go_frame)
       (refine rgP 3 hS (fun _ h => h.take2) ?_; go_frame)
       (refine rgP 4 hS (fun _ h => h.take2) ?_; go_frame)
       (refine rgP 5 hS (fun _ h => h.take2) ?_; go_frame)
       (refine rgR 6 hS (fun _ h => h.take2) ?_; (first
                      | refine ⟨_, yLd _ _ (by rfl) _ _ (by rfl) (agOf (by rfl)) Has.z G0.out, ?_⟩
                      | refine ⟨_, yLd _ _ (by rfl) _ _ (by rfl) (agOf (by rfl)) Has.z G38.out, ?_⟩
                      | refine ⟨_, yLdA _ _ (by rfl) _ _ (by rfl) (agOf (by rfl)) (szOf (by rfl)) (Has.s Has.z) (vs := iy) HSI.out HIY.out, ?_⟩
                      | refine ⟨_, yLdA _ _ (by rfl) _ _ (by rfl) (agOf (by rfl)) (szOf (by rfl)) Has.z (vs := ix) GIN.out HIX.out, ?_⟩); go_frame)
       (refine rgP 7 hS (fun _ h => h.take2) ?_; go_frame)
       (refine rgR 8 hS (fun _ h => h.take2) ?_; (first
                      | refine ⟨_, yLd _ _ (by rfl) _ _ (by rfl) (agOf (by rfl)) Has.z G0.out, ?_⟩
                      | refine ⟨_, yLd _ _ (by rfl) _ _ (by rfl) (agOf (by rfl)) Has.z G38.out, ?_⟩
                      | refine ⟨_, yLdA _ _ (by rfl) _ _ (by rfl) (agOf (by rfl)) (szOf (by rfl)) (Has.s Has.z) (vs := iy) HSI.out HIY.out, ?_⟩
                      | refine ⟨_, yLdA _ _ (by rfl) _ _ (by rfl) (agOf (by rfl)) (szOf (by rfl)) Has.z (vs := ix) GIN.out HIX.out, ?_⟩); go_frame)
       (refine rgP 9 hS (fun _ h => h.take2) ?_; go_frame)
       (refine rgR 10 hS (fun _ h => h.take2) ?_; (first
                      | refine ⟨_, yLd _ _ (by rfl) _ _ (by rfl) (agOf (by rfl)) Has.z G0.out, ?_⟩
                      | refine ⟨_, yLd _ _ (by rfl) _ _ (by rfl) (agOf (by rfl)) Has.z G38.out, ?_⟩
                      | refine ⟨_, yLdA _ _ (by rfl) _ _ (by rfl) (agOf (by rfl)) (szOf (by rfl)) (Has.s Has.z) (vs := iy) HSI.out HIY.out, ?_⟩
                      | refine ⟨_, yLdA _ _ (by rfl) _ _ (by rfl) (agOf (by rfl)) (szOf (by rfl)) Has.z (vs := ix) GIN.out HIX.out, ?_⟩); go_frame)
       (refine rgP 11 hS (fun _ h => h.take2) ?_; go_frame)
       (refine rgP 12 hS (fun _ h => h.take2) ?_; go_frame)
       (refine rgR 13 hS (fun _ h => h.take2) ?_; (first
                      | refine ⟨_, yLd _ _ (by rfl) _ _ (by rfl) (agOf (by rfl)) Has.z G0.out, ?_⟩
                      | refine ⟨_, yLd _ _ (by rfl) _ _ (by rfl) (agOf (by rfl)) Has.z G38.out, ?_⟩
                      | refine ⟨_, yLdA _ _ (by rfl) _ _ (by rfl) (agOf (by rfl)) (szOf (by rfl)) (Has.s Has.z) (vs := iy) HSI.out HIY.out, ?_⟩
                      | refine ⟨_, yLdA _ _ (by rfl) _ _ (by rfl) (agOf (by rfl)) (szOf (by rfl)) Has.z (vs := ix) GIN.out HIX.out, ?_⟩); go_frame)
       (refine rgP 14 hS (fun _ h => h.take2) ?_; go_frame)
       (refine rgP 15 hS (fun _ h => h.take2) ?_; go_frame)
       (refine rgP 16 hS (fun _ h => h.take2) ?_; go_frame)
       (refine rgR 17 hS (fun _ h => h.take2) ?_; (first
                      | refine ⟨_, yLd _ _ (by rfl) _ _ (by rfl) (agOf (by rfl)) Has.z G0.out, ?_⟩
                      | refine ⟨_, yLd _ _ (by rfl) _ _ (by rfl) (agOf (by rfl)) Has.z G38.out, ?_⟩
                      | refine ⟨_, yLdA _ _ (by rfl) _ _ (by rfl) (agOf (by rfl)) (szOf (by rfl)) (Has.s Has.z) (vs := iy) HSI.out HIY.out, ?_⟩
                      | refine ⟨_, yLdA _ _ (by rfl) _ _ (by rfl) (agOf (by rfl)) (szOf (by rfl)) Has.z (vs := ix) GIN.out HIX.out, ?_⟩); go_frame)
       (refine rgP 18 hS (fun _ h => h.take2) ?_; go_frame)
       (refine rgR 19 hS (fun _ h => h.take2) ?_; (first
                      | refine ⟨_, yLd _ _ (by rfl) _ _ (by rfl) (agOf (by rfl)) Has.z G0.out, ?_⟩
                      | refine ⟨_, yLd _ _ (by rfl) _ _ (by rfl) (agOf (by rfl)) Has.z G38.out, ?_⟩
                      | refine ⟨_, yLdA _ _ (by rfl) _ _ (by rfl) (agOf (by rfl)) (szOf (by rfl)) (Has.s Has.z) (vs := iy) HSI.out HIY.out, ?_⟩
                      | refine ⟨_, yLdA _ _ (by rfl) _ _ (by rfl) (agOf (by rfl)) (szOf (by rfl)) Has.z (vs := ix) GIN.out HIX.out, ?_⟩); go_frame)
       (refine rgP 20 hS (fun _ h => h.take2) ?_; go_frame)
       revert hS
       apply regJoin (fun (p10 _b2 _b3 : Nat) (vo _vg _v3 : Value) w' => Sat W w' (Cs p10 33 (List.replicate 37 (.int .i64 0)) ::  Ir vo (othersL y.ptrs np) :: Cs p7 36 sv_ :: Cs ps 85 (stv pd S.sup fv S.inos r S.last) :: Cs p5 151 (mbn 48 (seenS l (i + 1))) :: IsMap fv S.U :: Tb 53 3 rv r S.recs :: L)) ([Cs p7 36 sv_, Cs ps 85 (stv pd S.sup fv S.inos r S.last)])
       case h1 =>
        intro hJ hS
        refine regM2 21 27 rfl rfl (by kernel_rfl) (by rfl) (by rfl) (by rfl) (by rfl) ?_ ?_
        ·intro K hK; (refine Go.Sep.cl 78 _ _ (by rfl) (by rfl) (by kernel_rfl) (HOT.out _ _ hS) ?_; clear hS; rintro e w1 ⟨vo, rfl, hS⟩; refine ⟨_, rfl, ?_⟩); refine hK _ _ _ (hS.upTo (fun _ h => by first | exact h.take2 | exact h.drop.take2 | exact h.drop.drop.take2 | exact h.drop.drop.drop.take2)) (fun _ h => h) ?_; clear hK K; go_frame
         refine regM2 22 27 rfl rfl (by kernel_rfl) (by rfl) (by rfl) (by rfl) (by rfl) ?_ ?_
         ·intro K hK; ((first | refine Go.Sep.cl 38 _ _ (by rfl) (by rfl) (by kernel_rfl) (HNX.out _ _ [_, _, _, _, _] hS) ?_ | refine Go.Sep.cl 38 _ _ (by rfl) (by rfl) (by kernel_rfl) (HNX.out _ _ [_, _, _, _, _, _] hS.pull1) ?_ | refine Go.Sep.cl 38 _ _ (by rfl) (by rfl) (by kernel_rfl) (HNX.out _ _ [_, _, _, _, _, _] hS) ?_); clear hS; rintro e w1 ⟨rfl, hS⟩; refine ⟨_, rfl, ?_⟩); refine hK _ _ _ (hS.upTo (fun _ h => by first | exact h.take2 | exact h.drop.take2 | exact h.drop.drop.take2 | exact h.drop.drop.drop.take2)) (fun _ h => h) ?_; clear hK K; go_frame
          (refine rgP 23 hS (fun _ h => by first | exact h.take2 | exact h.drop.take2 | exact h.drop.drop.take2 | exact h.drop.drop.drop.take2) ?_; go_frame)
          (refine rgP 24 hS (fun _ h => by first | exact h.take2 | exact h.drop.take2 | exact h.drop.drop.take2 | exact h.drop.drop.drop.take2) ?_; go_frame)
          (refine rgP 25 hS (fun _ h => by first | exact h.take2 | exact h.drop.take2 | exact h.drop.drop.take2 | exact h.drop.drop.drop.take2) ?_; go_frame)
          (refine rgP 26 hS (fun _ h => by first | exact h.take2 | exact h.drop.take2 | exact h.drop.drop.take2 | exact h.drop.drop.drop.take2) ?_; go_frame)
          (refine rgA 27 false fun K hK => ?_; (refine al hS _ (by rfl) (zrOf (by rfl)) ?_; clear hS; intro p10 w1 hS; rw [cells_agg] at hS); refine hK _ _ _ (hS.upTo (fun _ h => by first | exact h.take2 | exact h.drop.take2 | exact h.drop.drop.take2 | exact h.drop.drop.drop.take2)) (fun _ _ h => h) ?_; clear hK K; go_frame)
          refine (fun (g : Nat → Nat → Value → Value → _) => g 0 0 (.slice none 0 0) (.slice none 0 0)) ?_; intro x2 x3 y2 y3; first | exact hJ p10 x2 x3 vo y2 y3 _ hS | exact hJ p10 x2 x3 vo y2 y3 _ (hS.re [2, 0, 1]) | exact hJ p10 x2 x3 vo y2 y3 _ (hS.re [1, 0])
         ·intro K hK; (refine al hS _ (by rfl) (zrOf (by rfl)) ?_; clear hS; intro p10 w1 hS; rw [cells_agg] at hS); refine hK _ _ _ (hS.upTo (fun _ h => by first | exact h.take2 | exact h.drop.take2 | exact h.drop.drop.take2 | exact h.drop.drop.drop.take2)) (fun _ h => h) ?_; clear hK K; go_frame
          (refine rgA 22 false fun K hK => ?_; ((first | refine Go.Sep.cl 38 _ _ (by rfl) (by rfl) (by kernel_rfl) (HNX.out _ _ [_, _, _, _, _] hS) ?_ | refine Go.Sep.cl 38 _ _ (by rfl) (by rfl) (by kernel_rfl) (HNX.out _ _ [_, _, _, _, _, _] hS.pull1) ?_ | refine Go.Sep.cl 38 _ _ (by rfl) (by rfl) (by kernel_rfl) (HNX.out _ _ [_, _, _, _, _, _] hS) ?_); clear hS; rintro e w1 ⟨rfl, hS⟩; refine ⟨_, rfl, ?_⟩); refine hK _ _ _ (hS.upTo (fun _ h => by first | exact h.take2 | exact h.drop.take2 | exact h.drop.drop.take2 | exact h.drop.drop.drop.take2)) (fun _ _ h => h) ?_; clear hK K; go_frame)
          (refine rgP 23 hS (fun _ h => by first | exact h.take2 | exact h.drop.take2 | exact h.drop.drop.take2 | exact h.drop.drop.drop.take2) ?_; go_frame)
          (refine rgP 24 hS (fun _ h => by first | exact h.take2 | exact h.drop.take2 | exact h.drop.drop.take2 | exact h.drop.drop.drop.take2) ?_; go_frame)
          (refine rgP 25 hS (fun _ h => by first | exact h.take2 | exact h.drop.take2 | exact h.drop.drop.take2 | exact h.drop.drop.drop.take2) ?_; go_frame)
          (refine rgP 26 hS (fun _ h => by first | exact h.take2 | exact h.drop.take2 | exact h.drop.drop.take2 | exact h.drop.drop.drop.take2) ?_; go_frame)
          refine (fun (g : Nat → Nat → Value → Value → _) => g 0 0 (.slice none 0 0) (.slice none 0 0)) ?_; intro x2 x3 y2 y3; first | exact hJ p10 x2 x3 vo y2 y3 _ hS | exact hJ p10 x2 x3 vo y2 y3 _ (hS.re [2, 0, 1]) | exact hJ p10 x2 x3 vo y2 y3 _ (hS.re [1, 0])
        ·intro K hK; (refine al hS _ (by rfl) (zrOf (by rfl)) ?_; clear hS; intro p10 w1 hS; rw [cells_agg] at hS); refine hK _ _ _ (hS.upTo (fun _ h => by first | exact h.take2 | exact h.drop.take2 | exact h.drop.drop.take2 | exact h.drop.drop.drop.take2)) (fun _ h => h) ?_; clear hK K; go_frame
         (refine rgA 21 false fun K hK => ?_; (refine Go.Sep.cl 78 _ _ (by rfl) (by rfl) (by kernel_rfl) (HOT.out _ _ hS) ?_; clear hS; rintro e w1 ⟨vo, rfl, hS⟩; refine ⟨_, rfl, ?_⟩); refine hK _ _ _ (hS.upTo (fun _ h => by first | exact h.take2 | exact h.drop.take2 | exact h.drop.drop.take2 | exact h.drop.drop.drop.take2)) (fun _ _ h => h) ?_; clear hK K; go_frame)
         (refine rgA 22 false fun K hK => ?_; ((first | refine Go.Sep.cl 38 _ _ (by rfl) (by rfl) (by kernel_rfl) (HNX.out _ _ [_, _, _, _, _] hS) ?_ | refine Go.Sep.cl 38 _ _ (by rfl) (by rfl) (by kernel_rfl) (HNX.out _ _ [_, _, _, _, _, _] hS.pull1) ?_ | refine Go.Sep.cl 38 _ _ (by rfl) (by rfl) (by kernel_rfl) (HNX.out _ _ [_, _, _, _, _, _] hS) ?_); clear hS; rintro e w1 ⟨rfl, hS⟩; refine ⟨_, rfl, ?_⟩); refine hK _ _ _ (hS.upTo (fun _ h => by first | exact h.take2 | exact h.drop.take2 | exact h.drop.drop.take2 | exact h.drop.drop.drop.take2)) (fun _ _ h => h) ?_; clear hK K; go_frame)
         (refine rgP 23 hS (fun _ h => by first | exact h.take2 | exact h.drop.take2 | exact h.drop.drop.take2 | exact h.drop.drop.drop.take2) ?_; go_frame)
         (refine rgP 24 hS (fun _ h => by first | exact h.take2 | exact h.drop.take2 | exact h.drop.drop.take2 | exact h.drop.drop.drop.take2) ?_; go_frame)
         (refine rgP 25 hS (fun _ h => by first | exact h.take2 | exact h.drop.take2 | exact h.drop.drop.take2 | exact h.drop.drop.drop.take2) ?_; go_frame)
         (refine rgP 26 hS (fun _ h => by first | exact h.take2 | exact h.drop.take2 | exact h.drop.drop.take2 | exact h.drop.drop.drop.take2) ?_; go_frame)
         refine (fun (g : Nat → Nat → Value → Value → _) => g 0 0 (.slice none 0 0) (.slice none 0 0)) ?_; intro x2 x3 y2 y3; first | exact hJ p10 x2 x3 vo y2 y3 _ hS | exact hJ p10 x2 x3 vo y2 y3 _ (hS.re [2, 0, 1]) | exact hJ p10 x2 x3 vo y2 y3 _ (hS.re [1, 0])
       intro p10 _ _ vo vg _ w1 hS
       (refine rgA 28 true fun K hK => ?_; (refine stW hS _ _ _ (by rfl) (by rfl) zi (by rfl) HZ1.out (by rw [HZL.out]; exact szOf (by rfl)) Has.z (by rw [HZL.out]; rfl) ?_; clear hS; intro w1 hS; dsimp only [List.set_cons_zero, List.set_cons_succ] at hS); refine hK _ _ _ hS (by first | (intro h; cases h; done) | exact fun _ _ h => h | exact fun _ _ h => h.drop | exact fun _ _ h => h.drop.drop | exact fun _ _ h => h.drop.pull1 | exact fun _ _ h => h.take2 | exact fun _ _ h => h.one Has.z | exact fun _ _ h => h.one (Has.s Has.z) | exact fun _ _ h => h.one (Has.s (Has.s Has.z))) ?_; clear hK K; go_frame)
       (refine rgP 29 hS (fun _ h => h) ?_; go_frame)
       (refine rgP 30 hS (fun _ h => h) ?_; go_frame)
       refine regDone (by kernel_rfl) ?_
       go_wp2
       go_ret
       rw [rightB_no HXX.out (HSO.out.trans rfl)]
       exact ⟨rfl, ((HMK.out _ _ (hS.re [3, 5, 6, 4, 0, 1, 2])).re [1, 2, 3, 4, 0]).drop.drop.drop.drop⟩
   ·have e5 : ((nd : Int) != (np : Int)) = true := bne_iff_ne.2 (by omega)
    have e6 : (nd == np) = false := beq_eq_false_iff_ne.2 hdp
    rw [e6] at HSO
    clear e6 hdp
    go_wp2_with (first | (refine toList (by rfl) ?_; refine wp_of_reads (v := .agg sv_.toArray) ((rLdRdA (f := setv) (x := x) HRX.out HS40.out _ _ (by rfl) _ (by rfl) (agOf (by rfl)) (szOf (by rfl)) i (by omega) HXX.out (by have := HLT.out; have := HLN.out; omega)).trans (by rw [HSV.out])) ?_) | (refine toList (by rfl) ?_; refine al hS _ (by rfl) (zrOf (by rfl)) ?_; clear hS; intro p7 w1 hS; rw [cells_agg] at hS) | (refine toList (by rfl) ?_; refine stW hS _ _ _ (by rfl) (by rfl) sv_ (by rfl) HX1.out (by rw [HXL.out]; exact szOf (by rfl)) Has.z (by rw [HXL.out]; rfl) ?_; clear hS; intro w1 hS; rw [List.set_cons_zero] at hS) | (refine toList (by rfl) ?_; refine ld hS _ _ (by rfl) _ _ (by rfl) (agOf (by rfl)) Has.z G0.out ?_) | (refine toList (by rfl) ?_; refine ld hS _ _ (by rfl) _ _ (by rfl) (agOf (by rfl)) (Has.s Has.z) HMA.out ?_) | (refine toList (by rfl) ?_; refine ld hS _ _ (by rfl) _ _ (by rfl) (agOf (by rfl)) Has.z G38.out ?_) | (refine toList (by rfl) ?_; refine ld hS _ _ (by rfl) _ _ (by rfl) (agOf (by rfl)) Has.z G39.out ?_))
    go_ret
    rw [rightB_no HXX.out (HSO.out.trans rfl)]
    exact ⟨rfl, hS.drop.drop⟩
  ·obtain rfl : i = ln := by omega
   have k1 : ¬ (i : Int) < (i : Int) := by omega
   have HY := Lib.hid (rightB_yes H8.out (fun j x hx => HALL.out j x (by have := (List.getElem?_eq_some_iff.1 hx).1; have := HLN.out; omega) hx))
   clear hlt hi
   go_wp2
   go_ret
   rw [HY.out]
   exact ⟨rfl, hS.drop⟩
end Go.Proofs.YtchohheleofncaaGreat
