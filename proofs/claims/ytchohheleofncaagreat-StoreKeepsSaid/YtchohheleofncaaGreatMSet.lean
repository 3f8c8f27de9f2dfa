/-
 law 23: a Set that lies in memory, to be set.
 law 23: StoreGone's put.
-/
import Derived.Test.YtchohheleofncaaGreatStCommit
import Derived.Test.YtchohheleofncaaGreatMOne
import Derived.Test.YtchohheleofncaaGreatMCal
set_option linter.unusedSimpArgs false
set_option linter.unusedVariables false
namespace Go.Proofs.YtchohheleofncaaGreat
open Go.RowKit Go.Sep
attribute [local irreducible] Go.Oper.wp Go.wpList Go.Calls Go.Code.wp Go.Sep.Reg
def Br (u : Value) (d : List UInt8) : Asrt := Sl 5 1 u d.length (bv d)
theorem br_one (w : World) (W : World) (L : List Asrt) (u : Value) (d : List UInt8) (h : Sat W w (Br u d :: L)) : u.oneCell' = true := Rd_one ((show Sat W w (Sl 5 1 u d.length (bv d) :: L) from h).slRd (k := 0) rfl)
def xv (a : Int) (x : InoD) (vp vd : Value) : List Value := .int .i64 a :: (inv x ++ [vp, vd])
theorem xv_len {a : Int} {x : InoD} {vp vd : Value} (h : x.ptrs.length = 32) : (xv a x vp vd).length = 40 := by
 unfold xv
 rw [List.length_cons, List.length_append, inv_len, h]; rfl
theorem xv_p {a : Int} {x : InoD} {vp vd : Value} (h : x.ptrs.length = 32) : (xv a x vp vd)[38]? = some vp := by
 unfold xv
 rw [List.getElem?_cons_succ, List.getElem?_append_right (by rw [inv_len, h]; decide), inv_len, h]; rfl
theorem xv_d {a : Int} {x : InoD} {vp vd : Value} (h : x.ptrs.length = 32) : (xv a x vp vd)[39]? = some vd := by
 unfold xv
 rw [List.getElem?_cons_succ, List.getElem?_append_right (by rw [inv_len, h]; decide), inv_len, h]; rfl
theorem xv_setP {a : Int} {x : InoD} {vp vd u : Value} (h : x.ptrs.length = 32) : (xv a x vp vd).set 38 u = xv a x u vd := by
 unfold xv
 rw [List.set_cons_succ, List.set_append_right _ _ (by rw [inv_len, h]; decide), inv_len, h]; rfl
theorem xv_setD {a : Int} {x : InoD} {vp vd u : Value} (h : x.ptrs.length = 32) : (xv a x vp vd).set 39 u = xv a x vp u := by
 unfold xv
 rw [List.set_cons_succ, List.set_append_right _ _ (by rw [inv_len, h]; decide), inv_len, h]; rfl
theorem xv_one {a : Int} {x : InoD} {vp vd : Value} (h1 : vp.oneCell' = true) (h2 : vd.oneCell' = true) : ∀ u ∈ xv a x vp vd, u.oneCell' = true := by
 intro u hu
 unfold xv at hu
 rcases List.mem_cons.1 hu with rfl | hu
 ·rfl
 ·rcases List.mem_append.1 hu with hu | hu
  ·exact inv_one _ u hu
  ·simp only [List.mem_cons, List.not_mem_nil, or_false] at hu
   rcases hu with rfl | rfl
   ·exact h1
   ·exact h2
theorem pv_ups (m : Nat) : pv (ups m) = iv (List.range m) := by unfold pv ups iv; rw [List.map_map]; rfl
theorem sets_one {W w : World} {M : List Asrt} {E b i k q : Nat} {x : SetD} (h : Sat W w M) (hx : x.ino.ptrs.length = 32) (hs : -9223372036854775808 ≤ x.ino.size ∧ x.ino.size ≤ 9223372036854775807) (h1 : Has M i (Cs b E (setv x))) (hp : Rd w x.pval x.pieces.length 1 (pv x.pieces))
  (hd : Has M k (Tb 0 1 one1 x.dval x.dvs)) (hr : Has M q (St (List.zipWith Br x.dvs x.data))) (hl : x.dvs.length = x.data.length) : SetsRd w (.slice (some ⟨b, 0, none⟩) 1 1) [x] := by
 refine ⟨?_, ?_⟩
 ·show Rd w _ 1 40 _
  have : [x].flatMap setv = setv x := by simp
  rw [this]
  exact h.csRd0 (n := 1) (sz := 40) h1 (by decide) (by rw [setv_len hx])
 ·intro z hz
  rw [List.mem_singleton.1 hz]
  exact
   {pl := hx
    s1 := hs.1
    s2 := hs.2
    p := hp
    dl := hl
    d := by
     have := h.tbRd hd
     rw [one1_fm, hl] at this
     exact this
    b := fun n v c hv hc => by
     obtain ⟨L', h3⟩ := h.stRow hr hv hc
     exact (show Sat W w (Sl 5 1 v c.length (bv c) :: L') from h3).slRd (k := 0) rfl }
end Go.Proofs.YtchohheleofncaaGreat
namespace Go.Proofs.YtchohheleofncaaGreat
open Go.RowKit Go.Sep
attribute [local irreducible] Go.Oper.wp Go.wpList Go.Calls Go.Code.wp Go.Sep.Reg
structure PutB (S : StD) (n m : Nat) (d : List UInt8) (next : Int) (B B' : List (List UInt8)) (S' : StD) : Prop where
 next : S'.sup.next = next
 recs : S'.recs = S.recs
 inos : ∃ f, S'.inos = S.inos.set n f ∧ (blksI f).length = m ∧ ∀ j, j < m → ∃ p : Nat, f.ptrs[j]? = some (p : Int) ∧ p ∈ blksX S'.inos ∧ B'[p]? = some d
 keep : ∀ p ∈ blksX S.inos, B'[p]? = B[p]?
def PuE (W : World) (L : List Asrt) (ps pd pb k nb c n m : Nat) (gs : List Nat) (d : List UInt8) (B : List (List UInt8)) (S : StD) (e : Ending) (w' : World) : Prop :=
 ∃ D' B' S', e = .returned (.bool true) ∧ StAt (k + m + 42) nb (c + m) gs D' B' S' ∧ PutB S n m d 50 B B' S' ∧ Sat W w' (Cs pb 25 [.pointer (some ⟨ps, 0, none⟩)] :: IsSt ps pd S' :: IsDisk pd D' :: L)
def PuL (W : World) (L : List Asrt) (px n m : Nat) (d : List UInt8) (v9 : Value) (wz : World) : Prop :=
 ∃ (j : Nat) (vp vd : Value), v9 = .int .i64 (j : Int) ∧ j ≤ m ∧ Sat W wz (Cs px 36 (xv (n : Int) (fileI m ((n : Int) + 1)) vp vd) :: Ir vp (List.range j) :: Rws Br vd (List.replicate j d) :: L)
theorem csBr {W w : World} {L : List Asrt} {b E : Nat} {d : List UInt8} (hd : d.length = 128) (h : Sat W w (Cs b E (bv d) :: L)) : Sat W w (Br (.slice (some ⟨b, 0, none⟩) 128 128) d :: L) := by
 unfold Br
 rw [hd]
 have h2 : Sat W w (Cs b E ([] ++ bv d ++ []) :: L) := by simpa using h
 exact Sat.slMk (n := 128) (cap := 128) (sz := 1) h2 (Nat.le_refl _) (by decide) (by rw [bv_length, hd]) rfl (by rw [bv_length, hd]; decide)
theorem rws_one {W w : World} {L : List Asrt} {k : Nat} {β : Type} {R : Value → β → Asrt} {v : Value} {xs : List β} (h : Sat W w L) (hk : Has L k (Rws R v xs)) : v.oneCell' = true := by
 obtain ⟨ao, c, rfl, _⟩ := h.rwsShape hk
 rfl
theorem set0 (v : UInt8) : (bv (zeros 128)).set 0 (u8 v) = bv (v :: zeros 127) := by rfl
set_option maxRecDepth 20000 in
set_option maxHeartbeats 4000000 in
theorem gput_any {W w : World} {L : List Asrt} {ps pd pb k nb c n m : Nat} {gs : List Nat} {D : DiskS} {B : List (List UInt8)} {S : StD} (hS : Sat W w (Cs pb 25 [.pointer (some ⟨ps, 0, none⟩)] :: IsSt ps pd S :: IsDisk pd D :: L)) (hA : StAt k nb c gs D B S) (hk : k ≤ 10000)
  (hn : n < 48) (hz : S.inos[n]? = some zeroI) (hm : m ≤ 32) (hf : c + m + gs.length + 74 ≤ nb) (h50 : S.sup.next ≤ 50) (v : UInt8) :
  Calls Tryz.prog 16 #[.int .i64 (n : Int), .int .i64 (m : Int), u8 v, .pointer (some ⟨pb, 0, none⟩)] w fun e w' => PuE W L ps pd pb k nb c n m gs (v :: zeros 127) B S e w' := by
 have HA := Lib.hid hA
 have HZ := Lib.hid hz
 have HM := Lib.hid hm
 have HF := Lib.hid hf
 have H50 := Lib.hid h50
 have HN := Lib.hid hn
 have n48 : (n : Int) < 48 := by omega
 have m32 : (m : Int) ≤ 32 := by omega
 have HPL := Lib.hid (show (fileI m ((n : Int) + 1)).ptrs.length = 32 from rfl)
 have HXL := Lib.hid (fun vp vd => show (xv (n : Int) (fileI m ((n : Int) + 1)) vp vd).length = 40 from xv_len rfl)
 have HX38 := Lib.hid (fun vp vd => show (xv (n : Int) (fileI m ((n : Int) + 1)) vp vd)[38]? = some vp from xv_p rfl)
 have HX39 := Lib.hid (fun vp vd => show (xv (n : Int) (fileI m ((n : Int) + 1)) vp vd)[39]? = some vd from xv_d rfl)
 have HXS1 := Lib.hid (fun vp vd u => show (xv (n : Int) (fileI m ((n : Int) + 1)) vp vd).set 38 u = _ from xv_setP rfl)
 have HXS2 := Lib.hid (fun vp vd u => show (xv (n : Int) (fileI m ((n : Int) + 1)) vp vd).set 39 u = _ from xv_setD rfl)
 have HS0 := Lib.hid (set0 v)
 have HDL := Lib.hid (show (v :: zeros 127).length = 128 by simp [zeros])
 obtain ⟨d, hd⟩ : ∃ d, v :: zeros 127 = d := ⟨_, rfl⟩
 rw [hd] at HS0 HDL ⊢
 clear hd hA hz hm hf h50 hn
 go_enter Tryz.func16, Tryz.ntmps16
 go_wp2_with (first
  | (refine toList (by rfl) ?_; refine Go.Sep.al hS _ (by rfl) (zrOf (by rfl)) ?_; clear hS; intro px w1 hS; rw [cells_agg] at hS)
  | (refine toList (by rfl) ?_; refine stW hS _ _ _ (by rfl) (by rfl) (xv (n : Int) (fileI m ((n : Int) + 1)) (.slice none 0 0) (.slice none 0 0)) (by rfl) (xv_one rfl rfl) (szOf (by rfl)) Has.z (by rfl) ?_; clear hS; intro w1 hS; rw [List.set_cons_zero] at hS))
 have H0 := Lib.hid (show PuL W (Cs pb 25 [.pointer (some ⟨ps, 0, none⟩)] :: IsSt ps pd S :: IsDisk pd D :: L) px n m d (.int .i64 0) _ from ⟨0, _, _, rfl, Nat.zero_le _, ((Sat.rwsNil (R := Br) (Sat.irNil hS)).re [2, 1, 0])⟩)
 clear hS
 go_loopw [9] (fun v9 wz => PuL W (Cs pb 25 [.pointer (some ⟨ps, 0, none⟩)] :: IsSt ps pd S :: IsDisk pd D :: L) px n m d v9 wz) (fun v9 _ => lpM m v9)
 case atStart => exact H0.out
 case round =>
  clear H0
  obtain ⟨j, vp, vd, rfl, hj, hS⟩ := hrel
  by_cases hlt : j < m
  ·have k1 : (j : Int) < (m : Int) := by omega
   have HLT := Lib.hid hlt
   have HRS := Lib.hid (show List.range j ++ [j] = List.range (j + 1) from List.range_succ.symm)
   have HRP := Lib.hid (show List.replicate j d ++ [d] = List.replicate (j + 1) d from (List.replicate_succ' ..).symm)
   have j32 : (j : Int) ≤ 32 := by omega
   have HJ := Lib.hid (show j ≤ 32 by have := HM.out; omega)
   clear hlt hj
   go_wp2_with (first
    | (refine toList (by rfl) ?_; refine mk hS _ _ _ (by rfl) 128 128 _ _ (by rfl) (by rfl) (elOf (by rfl)) (by omega) (by omega) (by omega) ?_; clear hS; intro pc w1 hS; rw [made_u8] at hS)
    | (refine toList (by rfl) ?_; refine ld hS _ _ (by rfl) _ _ (by rfl) (agOf (by rfl)) (Has.s Has.z) (HX38.out _ _) ?_)
    | (refine toList (by rfl) ?_; refine ld hS _ _ (by rfl) _ _ (by rfl) (agOf (by rfl)) (Has.s Has.z) (HX39.out _ _) ?_)
    | (refine toList (by rfl) ?_; refine Go.Sep.st hS _ _ _ (by rfl) _ _ (by rfl) (u8 v) (by rfl) (by rfl) (szOf (by rfl)) Has.z (by simp [bv_length, zeros]) ?_; clear hS; intro w1 hS; rw [List.set_cons_zero, HS0.out] at hS)
    | (refine toList (by rfl) ?_; refine bsF hS _ _ _ (by rfl) (elOf (by rfl)) [.int .i64 (j : Int)] (by rfl) (by rfl) (by decide) (by decide) (by simp [Value.cells]) ?_; clear hS; intro b1 w1 hS; rw [sca1 rfl] at hS)
    | (refine toList (by rfl) ?_; refine bsF hS _ _ _ (by rfl) (elOf (by rfl)) [.slice (some ⟨pc, 0, none⟩) 128 128] (by rfl) (by rfl) (by decide) (by decide) (by simp [Value.cells]) ?_; clear hS; intro b2 w1 hS; rw [sca1 rfl] at hS; replace hS := Sat.rwsOne (R := Br) (csBr HDL.out hS.pull1).pull1)
    | (at_builtin; refine toList (by rfl) ?_; refine apI hS _ _ _ _ (by rfl) (by rfl) (by rfl) (elOf (by rfl)) (by rfl) (by rfl) (by rfl) (inOf (by rfl)) (Has.s (Has.s (Has.s Has.z))) (m := [j]) (by exact hS.csRd0 (sz := 1) Has.z (by decide) rfl) (by rw [List.length_range]; have := HJ.out; simp; omega) ?_; clear hS; intro v1 w1 hS; dsimp only [List.set_cons_zero, List.set_cons_succ] at hS; replace hS := hS.drop; rw [HRS.out] at hS)
    | (at_builtin; refine toList (by rfl) ?_; refine apRws hS _ _ _ _ (by rfl) (by rfl) (by rfl) (elOf (by rfl)) (by rfl) (by decide) (by rfl) (inOf (by rfl)) (Has.s (Has.s Has.z)) (fun w L u x h => br_one w _ L u x h) (by rw [List.length_replicate]; have := HJ.out; simp; omega) ?_; clear hS; intro v2 w1 hS; dsimp only [List.set_cons_zero, List.set_cons_succ] at hS; rw [HRP.out] at hS)
    | (refine toList (by rfl) ?_; refine Go.Sep.st hS _ _ _ (by rfl) _ _ (by rfl) _ (by first | exact evC | exact evT (by rfl)) (by exact Rd_one (hS.irRd (Has.s (Has.s Has.z)))) (szOf (by rfl)) (Has.s Has.z) (by rw [HXL.out]; decide) ?_; clear hS; intro w1 hS; rw [List.set_cons_succ, List.set_cons_zero, HXS1.out] at hS)
    | (refine toList (by rfl) ?_; refine Go.Sep.st hS _ _ _ (by rfl) _ _ (by rfl) _ (by first | exact evC | exact evT (by rfl)) (by exact rws_one hS (Has.s (Has.s Has.z))) (szOf (by rfl)) Has.z (by rw [HXL.out]; decide) ?_; clear hS; intro w1 hS; rw [List.set_cons_zero, HXS2.out] at hS))
   exact ⟨⟨j + 1, v1, v2, by go_num, HLT.out, hS⟩, lpM_lt HLT.out⟩
  ·obtain rfl : j = m := by omega
   have k1 : ¬ (j : Int) < (j : Int) := by omega
   clear hlt hj
   obtain ⟨vs, hvl, hS3⟩ := (hS.re [2]).rwsOpen
   clear hS
   have hS : Sat W _ (_ :: _ :: _ :: _ :: _ :: _ :: _ :: L) := hS3
   clear hS3
   obtain ⟨x, hx⟩ : ∃ x : SetD, x = ⟨(n : Int), fileI j ((n : Int) + 1), ups j, List.replicate j d, vp, vd, vs⟩ := ⟨_, rfl⟩
   have hxv : xv (n : Int) (fileI j ((n : Int) + 1)) vp vd = setv x := by rw [hx]; rfl
   have hn := HN.out
   obtain ⟨S', D', B', e1, e2, e3⟩ := HA.out.put (x := x) (n := n) (m := j) (obj := (n : Int) + 1) (next := 50) (by rw [hx]) hn HZ.out (by rw [hx]) ⟨by omega, by omega⟩ (by rw [hx]) HM.out (by rw [hx]; exact List.length_replicate ..) (fun d' h => by
    rw [hx] at h
    rw [List.eq_of_mem_replicate h]
    exact HDL.out) HF.out H50.out (by decide) false
   have HCM := Lib.hid (fun w b1 (h : Sat W w (Cs b1 36 (setv x) :: Tb 0 1 one1 vd vs :: St (List.zipWith Br vs (List.replicate j d)) :: Cs px 36 (setv x) :: Ir vp (List.range j) :: Cs pb 25 [.pointer (some ⟨ps, 0, none⟩)] :: IsSt ps pd S :: IsDisk pd D :: L)) =>
    scommit_any (h.re [6, 7]) HA.out.ok' HA.out.lv.ok [x] (by rw [tot_one, hx]; show k + (ups j).length ≤ 80000; rw [ups_len]; have := HM.out; omega) 50 false (some ⟨b1, 0, none⟩) 1 (fun w L' h => sets_one h (by rw [hx]; rfl) (by rw [hx]; show _ ≤ (j : Int) * 128 ∧ (j : Int) * 128 ≤ _; omega) (has_add Has.z L') (by
     have h2 := h.irRd (has_add (Has.s (Has.s (Has.s (Has.s Has.z)))) L')
     rw [hx]
     show Rd w vp (ups j).length 1 (pv (ups j))
     rw [pv_ups, ups_len]
     rw [List.length_range] at h2
     exact h2) (by rw [hx]; exact has_add (Has.s Has.z) L') (by rw [hx]; exact has_add (Has.s (Has.s Has.z)) L') (by rw [hx]; exact hvl)))
   rw [e1] at HCM
   have hino : ∃ f, S'.inos = S.inos.set n f ∧ (blksI f).length = j ∧ ∀ q, q < j → ∃ p : Nat, f.ptrs[q]? = some (p : Int) ∧ p ∈ blksX S'.inos ∧ B'[p]? = some d := by
    obtain ⟨f, a1, a2, a3⟩ := e3.inos
    refine ⟨f, a1, a2, fun q hq => ?_⟩
    obtain ⟨p, b1, b2, b3⟩ := a3 q hq
    refine ⟨p, b1, b2, ?_⟩
    rw [b3, hx]
    show (List.replicate j d)[q]? = _
    rw [List.getElem?_replicate, if_pos hq]
   have HE := Lib.hid (show StAt (k + j + 42) nb (c + j) gs D' B' S' ∧ PutB S n j d 50 B B' S' from ⟨e2, { next := e3.next, recs := e3.recs, keep := e3.keep, inos := hino }⟩)
   have HXL := Lib.hid (show (setv x).length = 40 from setv_len (by rw [hx]; rfl))
   have HXT := Lib.hid (show ((setv x).drop 0).take 40 = setv x by rw [List.drop_zero, List.take_of_length_le (by rw [HXL.out]; exact Nat.le_refl _)])
   have HX1 := Lib.hid (show ∀ u ∈ setv x, u.oneCell' = true by
    rw [← hxv]
    exact xv_one (Rd_one (hS.irRd (Has.s (Has.s (Has.s Has.z))))) (by obtain ⟨_, _, rfl, _⟩ := hS.tbShape Has.z; rfl))
   rw [hxv] at hS
   obtain ⟨sx, hsx⟩ : ∃ v, setv x = v := ⟨_, rfl⟩
   rw [hsx] at hS HCM HXL HXT HX1
   clear hx hxv e1 e2 e3 hn hvl hsx hino
   go_wp2_with (first
    | (refine toList (by rfl) ?_; refine ld hS _ _ (by rfl) _ _ (by rfl) (agOf (by rfl)) (Has.s (Has.s (Has.s (Has.s Has.z)))) (by rfl) ?_)
    | (refine toList (by rfl) ?_; refine bsF hS _ _ _ (by rfl) (elOf (by rfl)) [.agg sx.toArray] (by rfl) (by rfl) (by decide) (by decide) (by intro u hu; rw [List.mem_singleton.1 hu]; simp [Value.cells, HXL.out]) ?_; clear hS; intro b1 w1 hS; rw [agg1] at hS)
    | (go_at_call 10; refine (HCM.out _ _ hS).mono ?_; clear hS; rintro e w1 ⟨rfl, hS⟩; dsimp only at hS ⊢)
    | (refine toList (by rfl) ?_; refine wp_of_reads (rLdA hS _ _ (by rfl) _ _ (by rfl) (agOf (by rfl)) (szOf (by rfl)) (Has.s (Has.s Has.z)) (vs := sx) HXT.out HXL.out) ?_))
   go_ret
   exact ⟨D', B', S', rfl, HE.out.1, HE.out.2, (hS.re [2, 3, 4, 5, 6, 7, 0, 1]).drop.drop.drop.drop.drop⟩
end Go.Proofs.YtchohheleofncaaGreat
