/-
 For every numbers, StoreFits answers true: no condition.
-/
import Derived.Test.YtchohheleofncaaGreatMSet
import Derived.Test.YtchohheleofncaaGreatStGrow
import Derived.Test.YtchohheleofncaaGreatMSep
set_option linter.unusedSimpArgs false
set_option linter.unusedVariables false
namespace Go.Proofs.YtchohheleofncaaGreat
open Go.RowKit Go.Sep Go.ChangeShapes Go.WideShapes Go.ChangeAt
attribute [local irreducible] Go.Oper.wp Go.wpList Go.Calls Go.Code.wp Go.Sep.Reg
theorem setc_any {W w : World} {L : List Asrt} {ps pd px b1 k nb c m : Nat} {gs : List Nat} {D : DiskS} {B : List (List UInt8)} {S : StD} {vp vd : Value} {vs : List Value} {d : List UInt8} {at_ obj : Int} (x : SetD) (hx : x = ⟨at_, fileI m obj, ups m, List.replicate m d, vp, vd, vs⟩)
  (hS : Sat W w (Cs b1 36 (setv x) :: Tb 0 1 one1 vd vs :: St (List.zipWith Br vs (List.replicate m d)) :: Cs px 36 (setv x) :: Ir vp (List.range m) :: IsSt ps pd S :: IsDisk pd D :: L)) (hvl : vs.length = (List.replicate m d).length) (hA : StAt k nb c gs D B S) (hk : k ≤ 10000) (hm : m ≤ 32) (next : Int) (shown : Bool) :
  Calls Tryz.prog 10 #[.pointer (some ⟨ps, 0, none⟩), .slice (some ⟨b1, 0, none⟩) 1 1, .int .i64 next, .bool shown] w fun e w' => CmE W (Cs b1 36 (setv x) :: Tb 0 1 one1 vd vs :: St (List.zipWith Br vs (List.replicate m d)) :: Cs px 36 (setv x) :: Ir vp (List.range m) :: L) ps pd (commitS S D [x] next shown) e w' := by
 refine scommit_any (hS.re [5, 6]) hA.ok' hA.lv.ok [x] (by rw [tot_one, hx]; show k + (ups m).length ≤ 80000; rw [ups_len]; omega) next shown (some ⟨b1, 0, none⟩) 1 (fun w L' h => sets_one h (by rw [hx]; rfl) (by rw [hx]; show _ ≤ (m : Int) * 128 ∧ (m : Int) * 128 ≤ _; omega) (has_add Has.z L') ?_ (by rw [hx]; exact has_add (Has.s Has.z) L') (by rw [hx]; exact has_add (Has.s (Has.s Has.z)) L') (by rw [hx]; exact hvl))
 have h2 := h.irRd (has_add (Has.s (Has.s (Has.s (Has.s Has.z)))) L')
 rw [hx]
 show Rd w vp (ups m).length 1 (pv (ups m))
 rw [pv_ups, ups_len]
 rw [List.length_range] at h2
 exact h2
def FtL (W : World) (L : List Asrt) (px m : Nat) (at_ obj : Int) (v9 : Value) (wz : World) : Prop :=
 ∃ (j : Nat) (vp vd : Value), v9 = .int .i64 (j : Int) ∧ j ≤ m ∧ Sat W wz (Cs px 36 (xv at_ (fileI m obj) vp vd) :: Ir vp (List.range j) :: Rws Br vd (List.replicate j (zeros 128)) :: L)
structure FtS (i : Nat) (D : DiskS) (B : List (List UInt8)) (S : StD) : Prop where
 i3 : i ≤ 3
 at_ : StAt (60 + 62 * i) 160 (20 * i) [74] D B S
 recs : S.recs = []
 next : S.sup.next ≤ 9
 rest : ∀ q, i < q → q < 48 → S.inos[q]? = some zeroI
def FtI (W : World) (L : List Asrt) (ps pd c4 : Nat) (v9 : Value) (wz : World) : Prop :=
 ∃ (i : Nat) (D : DiskS) (B : List (List UInt8)) (S : StD), v9 = .int .i64 (i : Int) ∧ i ≤ c4 ∧ FtS i D B S ∧ Sat W wz (IsSt ps pd S :: IsDisk pd D :: L)
theorem FtS.step {i : Nat} {D : DiskS} {B : List (List UInt8)} {S : StD} (h : FtS i D B S) (hi : i < 3) {x : SetD} (hat : x.at_ = 1 + (i : Int)) (hio : x.ino = fileI 20 (2 + (i : Int))) (hp : x.pieces = ups 20) (hdl : x.data.length = 20) (hd : ∀ d ∈ x.data, d.length = 128) :
  ∃ S' D' B', commitS S D [x] 9 true = (0, S', D') ∧ FtS (i + 1) D' B' S' := by
 obtain ⟨S', D', B', e1, e2, e3⟩ := h.at_.put (x := x) (n := i + 1) (m := 20) (obj := 2 + (i : Int)) (next := 9) (by rw [hat]; omega) (by omega) (h.rest (i + 1) (by omega) (by omega)) hio ⟨by omega, by omega⟩ hp (by decide) hdl hd (by show 20 * i + 20 + 1 + 74 ≤ 160; omega) h.next (by decide) true
 refine ⟨S', D', B', e1, { i3 := hi, at_ := ?_, recs := by rw [e3.recs, h.recs], next := by rw [e3.next]; exact Int.le_refl _, rest := fun q h1 h2 => ?_ }⟩
 ·exact { lv := e2.lv.mono (by omega), ok := e2.ok, bl := e2.bl, cnt := by rw [e2.cnt]; omega }
 ·obtain ⟨f, a1, _⟩ := e3.inos
  rw [a1, List.getElem?_set_ne (by omega)]
  exact h.rest q (by omega) h2
theorem ftS_zero {D : DiskS} (hl : Lv D (fmtB 160) 60) : FtS 0 D (fmtB 160) (S0 160) where
 i3 := by decide
 at_ := StAt.new (nb := 160) (by decide) (by decide) hl
 recs := rfl
 next := by decide
 rest q h1 h2 := by
  show (InoD.mk 2 0 1 1 0 (List.replicate 32 0) :: List.replicate 47 zeroI)[q]? = _
  obtain ⟨q', rfl⟩ : ∃ q', q = q' + 1 := ⟨q - 1, by omega⟩
  rw [List.getElem?_cons_succ, List.getElem?_replicate, if_pos (by omega)]
theorem fuse1 {W w : World} {L : List Asrt} {pc b2 : Nat} (h : Sat W w (Cs b2 23 [.slice (some ⟨pc, 0, none⟩) 128 128] :: Cs pc 5 (bv (zeros 128)) :: L)) : Sat W w (Rws Br (.slice (some ⟨b2, 0, none⟩) 1 1) [zeros 128] :: L) :=
 Sat.rwsOne (R := Br) (csBr (by simp [zeros]) h.pull1).pull1
theorem ffree_any {W w : World} {L : List Asrt} {ps pd k c : Nat} {gs : List Nat} {D : DiskS} {B : List (List UInt8)} {S : StD} (hS : Sat W w (IsSt ps pd S :: L)) (hA : StAt k 160 c gs D B S) (v : Int) (hv : v = 160 - ((c + gs.length + 74 : Nat) : Int)) :
  Calls Tryz.prog 13 #[.pointer (some ⟨ps, 0, none⟩)] w fun e w' => e = .returned (.int .i64 v) ∧ Sat W w' (IsSt ps pd S :: L) := by
 have h1 := hA.free
 rw [show v = ((((freeL S.U 160).length : Nat)) : Int) by rw [hv, h1.1]; have := h1.2; omega]
 exact sfree_any (n := 160) hS hA.sup (by decide) (by decide)
structure FtG (i q r : Nat) (D1 : DiskS) (B1 : List (List UInt8)) (S1 : StD) (gs1 : List Nat) : Prop where
 at_ : StAt (60 + 62 * i + 42) 160 (20 * i) gs1 D1 B1 S1
 gl : gs1.length = 1 + q
 next : S1.sup.next ≤ 9
 ino : S1.inos[40]? = some zeroI
theorem FtS.grow {i r : Nat} {D : DiskS} {B : List (List UInt8)} {S : StD} (h : FtS i D B S) (hr : r ≤ 60) : ∃ q S1 D1 B1 gs1, q ≤ 4 ∧ (r + S.last - 1) / 15 = q ∧ growR S D (nodF 0 r) false = (0, S1, D1) ∧ FtG i q r D1 B1 S1 gs1 := by
 have hll := h.at_.ok.lastle
 have hm : moreN S (nodF 0 r) = (r + S.last - 1) / 15 := by unfold moreN; rw [nodF_len]
 have hfr := h.at_.free
 have hi := h.i3
 have h74 : ([74] : List Nat).length = 1 := rfl
 obtain ⟨S1, D1, B1, gs1, g1, g2, g3⟩ := grow_live (shown := false) h.at_.ok h.at_.lv (nodF_bad (n := 0) (by rw [h.recs]; rfl) (by omega) hr) (by rw [h.at_.ok.bl, h.at_.bl, hm, hfr.1, h74]; omega)
 refine ⟨_, S1, D1, B1, gs1, by omega, rfl, g1, ?_⟩
 exact
  {at_ := { lv := g2, ok := g3.ok, bl := by rw [g3.len, h.at_.bl], cnt := by rw [g3.inos, h.at_.cnt] }
   gl := by rw [g3.glen, hm]; rfl
   next := by rw [g3.next]; exact h.next
   ino := by rw [g3.inos]; exact h.rest 40 (by omega) (by decide) }
def FtR (W : World) (L : List Asrt) (r : Nat) (v16 v17 : Value) (wz : World) : Prop :=
 ∃ j : Nat, v17 = .int .i64 (j : Int) ∧ j ≤ r ∧ Sat W wz (Tb 53 3 rv v16 (nodF 0 j) :: L)
theorem sgrow_f {W w : World} {L : List Asrt} {ps pd k : Nat} {S : StD} {D : DiskS} {gs : List Nat} (hS : Sat W w (IsSt ps pd S :: IsDisk pd D :: L)) (hok : SOk D.blocks S gs) (hD : DG D k) (hk : k ≤ 90000)
  (l : List RecD) (shown : Bool) (aq : Option Addr) (cq : Nat) {m : Nat} (hm : l.length = m) (hr : ∀ w L', Sat W w (L' ++ L) → Rd w (.slice aq m cq) m 3 (l.flatMap rv)) (hl : m ≤ 100000) :
  Calls Tryz.prog 19 #[.pointer (some ⟨ps, 0, none⟩), .slice aq m cq, .bool shown] w fun e w' => GrE W L ps pd (growR S D l shown) e w' := by
 subst hm
 exact sgrow_any hS hok hD hk l shown aq cq hr hl
set_option maxRecDepth 20000 in
set_option maxHeartbeats 8000000 in
theorem Fits.walk (a b c : Int) (W : World) :
  Calls Tryz.prog 5 #[.int .i64 a, .int .i64 b, .int .i64 c] W fun e w' => e = .returned (.bool true) ∧ Sat W w' [] := by
 have hS := Sat.start W
 have HMD := Lib.hid (made_any hS (n := 160) (by decide) (by decide))
 obtain ⟨c4, hc4⟩ : ∃ n : Nat, a % 4 = (n : Int) := ⟨(a % 4).toNat, by omega⟩
 obtain ⟨r, hr⟩ : ∃ n : Nat, b % 61 = (n : Int) := ⟨(b % 61).toNat, by omega⟩
 obtain ⟨p, hp⟩ : ∃ n : Nat, c % 33 = (n : Int) := ⟨(c % 33).toNat, by omega⟩
 have HP4 := Lib.hid (fun w => place_any a 4 (by decide) (by decide) w)
 have HPR := Lib.hid (fun w => place_any b 61 (by decide) (by decide) w)
 have HPP := Lib.hid (fun w => place_any c 33 (by decide) (by decide) w)
 rw [hc4] at HP4
 rw [hr] at HPR
 rw [hp] at HPP
 have c43 : (c4 : Int) ≤ 3 := by omega
 have r60 : (r : Int) ≤ 60 := by omega
 have p32 : (p : Int) ≤ 32 := by omega
 clear hc4 hr hp
 go_enter Tryz.func5, Tryz.ntmps5
 go_wp2_with (go_at_call 8; refine HMD.out.mono ?_; rintro e w1 hE; obtain ⟨pd, ps, D, rfl, hl, hS1⟩ := hE; have HL := Lib.hid hl; clear hl; clear hS; have hS := hS1; clear hS1)
 have H0 := Lib.hid (show FtI W [] ps pd c4 (.int .i64 0) _ from ⟨0, D, _, _, rfl, Nat.zero_le _, ftS_zero HL.out, hS⟩)
 clear hS HL
 go_loopw [9] (fun v9 wz => FtI W [] ps pd c4 v9 wz) (fun v9 _ => lpM c4 v9)
 case atStart => exact H0.out
 case round =>
  clear H0
  obtain ⟨i, D, B, S, rfl, hi, hF, hS⟩ := hrel
  have HF := Lib.hid hF
  clear hF
  by_cases hlt : i < c4
  ·have k1 : (i : Int) < (c4 : Int) := by omega
   have HLT := Lib.hid hlt
   have i3 : (i : Int) < 3 := by omega
   clear hlt hi
   have HXL := Lib.hid (fun vp vd => show (xv (1 + (i : Int)) (fileI (20) (2 + (i : Int))) vp vd).length = 40 from xv_len rfl)
   have HX38 := Lib.hid (fun vp vd => show (xv (1 + (i : Int)) (fileI (20) (2 + (i : Int))) vp vd)[38]? = some vp from xv_p rfl)
   have HX39 := Lib.hid (fun vp vd => show (xv (1 + (i : Int)) (fileI (20) (2 + (i : Int))) vp vd)[39]? = some vd from xv_d rfl)
   have HXS1 := Lib.hid (fun vp vd u => show (xv (1 + (i : Int)) (fileI (20) (2 + (i : Int))) vp vd).set 38 u = _ from xv_setP rfl)
   have HXS2 := Lib.hid (fun vp vd u => show (xv (1 + (i : Int)) (fileI (20) (2 + (i : Int))) vp vd).set 39 u = _ from xv_setD rfl)
   go_wp2_with (first
    | (go_at_call 9; refine (HP4.out _).mono ?_; rintro e w1 ⟨rfl, rfl⟩)
    | (first
     | (refine toList (by rfl) ?_; refine Go.Sep.al hS _ (by rfl) (zrOf (by rfl)) ?_; clear hS; intro px w1 hS; rw [cells_agg] at hS)
     | (refine toList (by rfl) ?_; refine stW hS _ _ _ (by rfl) (by rfl) (xv (1 + (i : Int)) (fileI (20) (2 + (i : Int))) (.slice none 0 0) (.slice none 0 0)) (by rfl) (xv_one rfl rfl) (szOf (by rfl)) Has.z (by rfl) ?_; clear hS; intro w1 hS; rw [List.set_cons_zero] at hS)))
   have H1 := Lib.hid (show FtL W [IsSt ps pd S, IsDisk pd D] px 20 (1 + (i : Int)) (2 + (i : Int)) (.int .i64 0) _ from ⟨0, _, _, rfl, Nat.zero_le _, ((Sat.rwsNil (R := Br) (Sat.irNil hS)).re [2, 1, 0])⟩)
   clear hS
   go_loopw [11] (fun v11 wz => FtL W [IsSt ps pd S, IsDisk pd D] px 20 (1 + (i : Int)) (2 + (i : Int)) v11 wz) (fun v11 _ => lpM 20 v11)
   case atStart => exact H1.out
   case round =>
    clear H1
    obtain ⟨j, vp, vd, rfl, hj, hS⟩ := hrel
    by_cases hjl : j < 20
    ·have k2 : (j : Int) < 20 := by omega
     have HJL := Lib.hid hjl
     have HRS := Lib.hid (show List.range j ++ [j] = List.range (j + 1) from List.range_succ.symm)
     have HRP := Lib.hid (show List.replicate j (zeros 128) ++ [zeros 128] = List.replicate (j + 1) (zeros 128) from (List.replicate_succ' ..).symm)
     have HJ := Lib.hid (show j ≤ 32 by omega)
     clear hjl hj
     go_wp2_with (first
      | (refine toList (by rfl) ?_; refine ld hS _ _ (by rfl) _ _ (by rfl) (agOf (by rfl)) Has.z (HX38.out _ _) ?_)
      | (refine toList (by rfl) ?_; refine bsF hS _ _ _ (by rfl) (elOf (by rfl)) [.int .i64 (j : Int)] (by rfl) (by rfl) (by decide) (by decide) (by simp [Value.cells]) ?_; clear hS; intro b1 w1 hS; rw [sca1 rfl] at hS)
      | (at_builtin; refine toList (by rfl) ?_; refine apI hS _ _ _ _ (by rfl) (by rfl) (by rfl) (elOf (by rfl)) (by rfl) (by rfl) (by rfl) (inOf (by rfl)) (Has.s (Has.s Has.z)) (m := [j]) (by exact hS.csRd0 (sz := 1) Has.z (by decide) rfl) (by rw [List.length_range]; have := HJ.out; simp; omega) ?_; clear hS; intro v1 w1 hS; dsimp only [List.set_cons_zero, List.set_cons_succ] at hS; replace hS := hS.drop; rw [HRS.out] at hS)
      | (refine toList (by rfl) ?_; refine Go.Sep.st hS _ _ _ (by rfl) _ _ (by rfl) _ (by first | exact evC | exact evT (by rfl)) (by exact Rd_one (hS.irRd (Has.s Has.z))) (szOf (by rfl)) Has.z (by rw [HXL.out]; decide) ?_; clear hS; intro w1 hS; rw [List.set_cons_zero, HXS1.out] at hS))
     refine regStart2 [4, 6] hS (fun _ h => h.one Has.z) (by kernel_rfl) rfl ?_
     intro w1 hS1
     clear hS; have hS := hS1; clear hS1
     (refine rgP 0 hS (fun _ h => h.one Has.z) ?_; go_frame)
     (refine rgR 1 hS (fun _ h => h.one Has.z) ?_; (refine ⟨_, yLd _ _ (by rfl) _ _ (by rfl) (agOf (by rfl)) Has.z (HX39.out _ _), ?_⟩); go_frame)
     (refine rgA 2 false fun K hK => ?_; (first
                | (refine mk hS _ _ _ (by rfl) 128 128 _ _ (by rfl) (by rfl) (elOf (by rfl)) (by omega) (by omega) (by omega) ?_; clear hS; intro pc w1 hS; rw [made_u8] at hS)
                | (refine bsF hS _ _ _ (by rfl) (elOf (by rfl)) [.slice (some ⟨pc, 0, none⟩) 128 128] (by rfl) (by rfl) (by decide) (by decide) (by simp [Value.cells]) ?_; clear hS; intro b2 w1 hS; rw [sca1 rfl] at hS; replace hS := fuse1 hS)
                | (refine apRws hS _ _ _ _ (by rfl) (by rfl) (by rfl) (elOf (by rfl)) (by rfl) (by decide) (by rfl) (inOf (by rfl)) (Has.s (Has.s Has.z)) (fun w L u x h => br_one w _ L u x h) (by rw [List.length_replicate]; have := HJ.out; simp; omega) ?_; clear hS; intro v2 w1 hS; dsimp only [List.set_cons_zero, List.set_cons_succ] at hS; rw [HRP.out] at hS)
                | (refine Go.Sep.st hS _ _ _ (by rfl) _ _ (by rfl) _ (by first | exact evC | exact evT (by rfl)) (by exact rws_one hS (Has.s (Has.s Has.z))) (szOf (by rfl)) Has.z (by rw [HXL.out]; decide) ?_; clear hS; intro w1 hS; rw [List.set_cons_zero, HXS2.out] at hS)); refine hK _ _ _ (hS.upTo (fun _ h => by first | exact h.one Has.z | exact h.one (Has.s Has.z))) (fun _ _ h => h) ?_; clear hK K; go_frame)
     (refine rgA 3 false fun K hK => ?_; (first
                | (refine mk hS _ _ _ (by rfl) 128 128 _ _ (by rfl) (by rfl) (elOf (by rfl)) (by omega) (by omega) (by omega) ?_; clear hS; intro pc w1 hS; rw [made_u8] at hS)
                | (refine bsF hS _ _ _ (by rfl) (elOf (by rfl)) [.slice (some ⟨pc, 0, none⟩) 128 128] (by rfl) (by rfl) (by decide) (by decide) (by simp [Value.cells]) ?_; clear hS; intro b2 w1 hS; rw [sca1 rfl] at hS; replace hS := fuse1 hS)
                | (refine apRws hS _ _ _ _ (by rfl) (by rfl) (by rfl) (elOf (by rfl)) (by rfl) (by decide) (by rfl) (inOf (by rfl)) (Has.s (Has.s Has.z)) (fun w L u x h => br_one w _ L u x h) (by rw [List.length_replicate]; have := HJ.out; simp; omega) ?_; clear hS; intro v2 w1 hS; dsimp only [List.set_cons_zero, List.set_cons_succ] at hS; rw [HRP.out] at hS)
                | (refine Go.Sep.st hS _ _ _ (by rfl) _ _ (by rfl) _ (by first | exact evC | exact evT (by rfl)) (by exact rws_one hS (Has.s (Has.s Has.z))) (szOf (by rfl)) Has.z (by rw [HXL.out]; decide) ?_; clear hS; intro w1 hS; rw [List.set_cons_zero, HXS2.out] at hS)); refine hK _ _ _ (hS.upTo (fun _ h => by first | exact h.one Has.z | exact h.one (Has.s Has.z))) (fun _ _ h => h) ?_; clear hK K; go_frame)
     (refine rgA 4 true fun K hK => ?_; (first
                | (refine mk hS _ _ _ (by rfl) 128 128 _ _ (by rfl) (by rfl) (elOf (by rfl)) (by omega) (by omega) (by omega) ?_; clear hS; intro pc w1 hS; rw [made_u8] at hS)
                | (refine bsF hS _ _ _ (by rfl) (elOf (by rfl)) [.slice (some ⟨pc, 0, none⟩) 128 128] (by rfl) (by rfl) (by decide) (by decide) (by simp [Value.cells]) ?_; clear hS; intro b2 w1 hS; rw [sca1 rfl] at hS; replace hS := fuse1 hS)
                | (refine apRws hS _ _ _ _ (by rfl) (by rfl) (by rfl) (elOf (by rfl)) (by rfl) (by decide) (by rfl) (inOf (by rfl)) (Has.s (Has.s Has.z)) (fun w L u x h => br_one w _ L u x h) (by rw [List.length_replicate]; have := HJ.out; simp; omega) ?_; clear hS; intro v2 w1 hS; dsimp only [List.set_cons_zero, List.set_cons_succ] at hS; rw [HRP.out] at hS)
                | (refine Go.Sep.st hS _ _ _ (by rfl) _ _ (by rfl) _ (by first | exact evC | exact evT (by rfl)) (by exact rws_one hS (Has.s (Has.s Has.z))) (szOf (by rfl)) Has.z (by rw [HXL.out]; decide) ?_; clear hS; intro w1 hS; rw [List.set_cons_zero, HXS2.out] at hS)); refine hK _ _ _ hS (by first | (intro h; cases h; done) | exact fun _ _ h => h | exact fun _ _ h => h.drop | exact fun _ _ h => h.drop.drop | exact fun _ _ h => h.drop.pull1 | exact fun _ _ h => h.take2 | exact fun _ _ h => h.one Has.z | exact fun _ _ h => h.one (Has.s Has.z) | exact fun _ _ h => h.one (Has.s (Has.s Has.z))) ?_; clear hK K; go_frame)
     (refine rgP 5 hS (fun _ h => h) ?_; go_frame)
     (refine rgA 6 true fun K hK => ?_; (first
                | (refine mk hS _ _ _ (by rfl) 128 128 _ _ (by rfl) (by rfl) (elOf (by rfl)) (by omega) (by omega) (by omega) ?_; clear hS; intro pc w1 hS; rw [made_u8] at hS)
                | (refine bsF hS _ _ _ (by rfl) (elOf (by rfl)) [.slice (some ⟨pc, 0, none⟩) 128 128] (by rfl) (by rfl) (by decide) (by decide) (by simp [Value.cells]) ?_; clear hS; intro b2 w1 hS; rw [sca1 rfl] at hS; replace hS := fuse1 hS)
                | (refine apRws hS _ _ _ _ (by rfl) (by rfl) (by rfl) (elOf (by rfl)) (by rfl) (by decide) (by rfl) (inOf (by rfl)) (Has.s (Has.s Has.z)) (fun w L u x h => br_one w _ L u x h) (by rw [List.length_replicate]; have := HJ.out; simp; omega) ?_; clear hS; intro v2 w1 hS; dsimp only [List.set_cons_zero, List.set_cons_succ] at hS; rw [HRP.out] at hS)
                | (refine Go.Sep.st hS _ _ _ (by rfl) _ _ (by rfl) _ (by first | exact evC | exact evT (by rfl)) (by exact rws_one hS (Has.s (Has.s Has.z))) (szOf (by rfl)) Has.z (by rw [HXL.out]; decide) ?_; clear hS; intro w1 hS; rw [List.set_cons_zero, HXS2.out] at hS)); refine hK _ _ _ hS (by first | (intro h; cases h; done) | exact fun _ _ h => h | exact fun _ _ h => h.drop | exact fun _ _ h => h.drop.drop | exact fun _ _ h => h.drop.pull1 | exact fun _ _ h => h.take2 | exact fun _ _ h => h.one Has.z | exact fun _ _ h => h.one (Has.s Has.z) | exact fun _ _ h => h.one (Has.s (Has.s Has.z))) ?_; clear hK K; go_frame)
     refine regDone (by kernel_rfl) ?_
     go_wp2
     exact ⟨⟨j + 1, v1, v2, by go_num, HJL.out, hS⟩, lpM_lt HJL.out⟩
    ·obtain rfl : j = 20 := by omega
     clear hjl hj
     obtain ⟨vs, hvl, hS3⟩ := (show Sat W _ (Rws _ _ _ :: _ :: _ :: _ :: _ :: []) from hS.re [2]).rwsOpen
     clear hS
     obtain ⟨x, hx⟩ : ∃ x : SetD, x = ⟨1 + (i : Int), fileI (20) (2 + (i : Int)), ups (20), List.replicate (20) (zeros 128), vp, vd, vs⟩ := ⟨_, rfl⟩
     have hxv : xv (1 + (i : Int)) (fileI (20) (2 + (i : Int))) vp vd = setv x := by rw [hx]; rfl
     have hS : Sat W _ (_ :: _ :: _ :: _ :: _ :: _ :: []) := hS3
     clear hS3
     have HXL2 := Lib.hid (show (setv x).length = 40 from setv_len (by rw [hx]; rfl))
     have HXT := Lib.hid (show ((setv x).drop 0).take 40 = setv x by rw [List.drop_zero, List.take_of_length_le (by rw [HXL2.out]; exact Nat.le_refl _)])
     rw [hxv] at hS
     obtain ⟨S', D', B', e1, hF'⟩ := HF.out.step (by omega) (x := x) (by rw [hx]) (by rw [hx]) (by rw [hx]) (by rw [hx]; rfl) (fun d' h => by
      rw [hx] at h
      rw [List.eq_of_mem_replicate h]
      simp [zeros])
     have HF2 := Lib.hid hF'
     have HCM := Lib.hid (fun w b1 (h : Sat W w (Cs b1 36 (setv x) :: Tb 0 1 one1 vd vs :: St (List.zipWith Br vs (List.replicate 20 (zeros 128))) :: Cs px 36 (setv x) :: Ir vp (List.range 20) :: IsSt ps pd S :: IsDisk pd D :: [])) => setc_any x hx h hvl HF.out.at_ (by omega) (by decide) 9 true)
     rw [e1] at HCM
     obtain ⟨sx, hsx⟩ : ∃ v, setv x = v := ⟨_, rfl⟩
     rw [hsx] at hS HCM HXL2 HXT
     clear hx hxv e1 hF' hvl hsx
     go_wp2_with (first
      | (refine toList (by rfl) ?_; refine bsF hS _ _ _ (by rfl) (elOf (by rfl)) [.agg sx.toArray] (by rfl) (by rfl) (by decide) (by decide) (by intro u hu; rw [List.mem_singleton.1 hu]; simp [Value.cells, HXL2.out]) ?_; clear hS; intro b1 w1 hS; rw [agg1] at hS)
      | (go_at_call 10; refine (HCM.out _ _ hS).mono ?_; clear hS; rintro e w1 ⟨rfl, hS⟩; dsimp only at hS ⊢; replace hS := (show Sat W _ (_ :: _ :: _ :: _ :: _ :: _ :: _ :: []) from hS.re [2, 3, 4, 5, 6]).drop.drop.drop.drop.drop)
      | (refine toList (by rfl) ?_; refine wp_of_reads (rLdA hS _ _ (by rfl) _ _ (by rfl) (agOf (by rfl)) (szOf (by rfl)) (Has.s (Has.s Has.z)) (vs := sx) HXT.out HXL2.out) ?_))
     exact ⟨⟨i + 1, D', B', S', by go_num, HLT.out, HF2.out, hS⟩, lpM_lt HLT.out⟩
  ·obtain rfl : i = c4 := by omega
   have k1 : ¬ (i : Int) < (i : Int) := by omega
   clear hlt hi
   have hr60 : r ≤ 60 := by omega
   obtain ⟨q, S1, D1, B1, gs1, q4, hq, hg, hG⟩ := HF.out.grow hr60
   have HG := Lib.hid hG
   have HR60 := Lib.hid hr60
   have q4i : (q : Int) ≤ 4 := by omega
   have hi3 := HF.out.i3
   have i3 : (i : Int) ≤ 3 := by omega
   have HFR := Lib.hid (fun w L (h : Sat W w (IsSt ps pd S :: L)) => ffree_any h HF.out.at_ (85 - 20 * (i : Int)) (by simp; omega))
   have HFT := Lib.hid (fun w L (h : Sat W w (IsSt ps pd S :: L)) => sfits_any (b := 160) h HF.out.at_.ok.x HF.out.at_.sup (by decide) (by decide) HF.out.at_.ok.lastle r p hr60 (by omega))
   rw [hq, show (((freeL S.U 160).length : Nat) : Int) = 85 - 20 * (i : Int) by rw [HF.out.at_.free.1]; simp; omega] at HFT
   have HWR := Lib.hid (fun w L (h : Sat W w (IsDisk pd D :: L)) => writes_any h rfl)
   have HFR1 := Lib.hid (fun w L (h : Sat W w (IsSt ps pd S1 :: L)) => ffree_any h HG.out.at_ (85 - 20 * (i : Int) - (q : Int)) (by rw [HG.out.gl]; simp; omega))
   obtain ⟨ft, hft⟩ : ∃ t, decide ((p : Int) ≤ 85 - 20 * (i : Int) - (q : Int) - 4) = t := ⟨_, rfl⟩
   rw [hft] at HFT
   have HFTB := Lib.hid hft
   have HGR := Lib.hid hg
   clear hg hG hr60 hq q4 hi3 hft
   go_wp2_with (first
    | (go_at_call 9; refine (HP4.out _).mono ?_; rintro e w1 ⟨rfl, rfl⟩)
    | (go_at_call 9; refine (HPR.out _).mono ?_; rintro e w1 ⟨rfl, rfl⟩)
    | (go_at_call 9; refine (HPP.out _).mono ?_; rintro e w1 ⟨rfl, rfl⟩)
    | (go_at_call 13; refine (HFR.out _ _ hS).mono ?_; clear hS; rintro e w1 ⟨rfl, hS⟩)
    | (go_at_call 17; refine (HFT.out _ _ hS).mono ?_; clear hS; rintro e w1 ⟨rfl, hS⟩))
   have H2 := Lib.hid (show FtR W [IsSt ps pd S, IsDisk pd D] r (.slice none 0 0) (.int .i64 0) _ from ⟨0, rfl, Nat.zero_le _, Sat.tbNil hS⟩)
   clear hS
   go_loopw [16, 17] (fun v16 v17 wz => FtR W [IsSt ps pd S, IsDisk pd D] r v16 v17 wz) (fun _ v17 _ => lpM r v17)
   case atStart => exact H2.out
   case round =>
    clear H2
    obtain ⟨j, rfl, hj, hS⟩ := hrel
    obtain ⟨ao16, c16, hve, _⟩ := hS.tbShape (k := 0) rfl
    subst hve
    rw [nodF_len] at hS ⊢
    by_cases hjl : j < r
    ·have k3 : (j : Int) < (r : Int) := by omega
     have HJ := Lib.hid hjl
     have HNF := Lib.hid (show nodF 0 (j + 1) = nodF 0 j ++ [⟨1, 2, 1 + (j : Int)⟩] by rw [nodF_succ]; simp)
     have HNL := Lib.hid (show ∀ x : RecD, (nodF 0 j ++ [x]).length = j + 1 from fun x => by rw [List.length_append, nodF_len]; rfl)
     have j19 : (j : Int) ≤ 60 := by omega
     have HJ19 := Lib.hid (show j ≤ 60 by omega)
     clear hjl hj
     go_wp2_with (first
      | (refine toList (by rfl) ?_; refine bsF hS _ _ _ (by rfl) (elOf (by rfl)) [.agg (rv ⟨1, 2, 1 + (j : Int)⟩).toArray] (by rfl) (by rfl) (by decide) (by decide) (by simp [rv, Value.cells]) ?_; clear hS; intro b1 w1 hS; rw [agg1] at hS)
      | (at_builtin; refine toList (by rfl) ?_; refine apTbS hS _ _ _ _ (by rfl) _ _ (by rfl) (by rfl) (elOf (by rfl)) (by rfl) (by decide) (inOf (by rfl)) (Has.s Has.z) [⟨1, 2, 1 + (j : Int)⟩] (fun _ _ => rfl) (by exact hS.src1 Has.z rfl) (by rw [fm1]; exact rv_all _) (by have := HJ19.out; rw [nodF_len]; simp; omega) (by have := HJ19.out; rw [nodF_len]; simp; omega) ?_; clear hS; intro ax cx w1 _ hS; rw [List.set_cons_succ, List.set_cons_zero] at hS; rw [HNL.out] at hS ⊢; rw [← HNF.out] at hS))
     exact ⟨⟨j + 1, by go_num, HJ.out, hS.drop⟩, lpM_lt HJ.out⟩
    ·obtain rfl : j = r := by omega
     have k3 : ¬ (j : Int) < (j : Int) := by omega
     clear hj hjl
     have HXL := Lib.hid (fun vp vd => show (xv (40) (fileI (p) (8)) vp vd).length = 40 from xv_len rfl)
     have HX38 := Lib.hid (fun vp vd => show (xv (40) (fileI (p) (8)) vp vd)[38]? = some vp from xv_p rfl)
     have HX39 := Lib.hid (fun vp vd => show (xv (40) (fileI (p) (8)) vp vd)[39]? = some vd from xv_d rfl)
     have HXS1 := Lib.hid (fun vp vd u => show (xv (40) (fileI (p) (8)) vp vd).set 38 u = _ from xv_setP rfl)
     have HXS2 := Lib.hid (fun vp vd u => show (xv (40) (fileI (p) (8)) vp vd).set 39 u = _ from xv_setD rfl)
     go_wp2_with (first
      | (refine toList (by rfl) ?_; refine Go.Sep.al hS _ (by rfl) (zrOf (by rfl)) ?_; clear hS; intro px w1 hS; rw [cells_agg] at hS)
      | (refine toList (by rfl) ?_; refine stW hS _ _ _ (by rfl) (by rfl) (xv (40) (fileI (p) (8)) (.slice none 0 0) (.slice none 0 0)) (by rfl) (xv_one rfl rfl) (szOf (by rfl)) Has.z (by rfl) ?_; clear hS; intro w1 hS; rw [List.set_cons_zero] at hS))
     have H3 := Lib.hid (show FtL W [Tb 53 3 rv (.slice ao16 j c16) (nodF 0 j), IsSt ps pd S, IsDisk pd D] px p 40 8 (.int .i64 0) _ from ⟨0, _, _, rfl, Nat.zero_le _, ((Sat.rwsNil (R := Br) (Sat.irNil hS)).re [2, 1, 0])⟩)
     clear hS
     obtain ⟨rr, hrr⟩ : ∃ n, j = n := ⟨_, rfl⟩
     rw [hrr] at H3 HGR HG HR60 ⊢
     go_loopw [19] (fun v19 wz => FtL W [Tb 53 3 rv (.slice ao16 rr c16) (nodF 0 rr), IsSt ps pd S, IsDisk pd D] px p 40 8 v19 wz) (fun v19 _ => lpM p v19)
     case atStart => exact H3.out
     case round =>
      clear H3
      obtain ⟨j, vp, vd, rfl, hj, hS⟩ := hrel
      by_cases hjl : j < p
      ·have k4 : (j : Int) < (p : Int) := by omega
       have HJL := Lib.hid hjl
       have HRS := Lib.hid (show List.range j ++ [j] = List.range (j + 1) from List.range_succ.symm)
       have HRP := Lib.hid (show List.replicate j (zeros 128) ++ [zeros 128] = List.replicate (j + 1) (zeros 128) from (List.replicate_succ' ..).symm)
       have HJ := Lib.hid (show j ≤ 32 by omega)
       clear hjl hj
       go_wp2_with (first
        | (refine toList (by rfl) ?_; refine ld hS _ _ (by rfl) _ _ (by rfl) (agOf (by rfl)) Has.z (HX38.out _ _) ?_)
        | (refine toList (by rfl) ?_; refine bsF hS _ _ _ (by rfl) (elOf (by rfl)) [.int .i64 (j : Int)] (by rfl) (by rfl) (by decide) (by decide) (by simp [Value.cells]) ?_; clear hS; intro b1 w1 hS; rw [sca1 rfl] at hS)
        | (at_builtin; refine toList (by rfl) ?_; refine apI hS _ _ _ _ (by rfl) (by rfl) (by rfl) (elOf (by rfl)) (by rfl) (by rfl) (by rfl) (inOf (by rfl)) (Has.s (Has.s Has.z)) (m := [j]) (by exact hS.csRd0 (sz := 1) Has.z (by decide) rfl) (by rw [List.length_range]; have := HJ.out; simp; omega) ?_; clear hS; intro v1 w1 hS; dsimp only [List.set_cons_zero, List.set_cons_succ] at hS; replace hS := hS.drop; rw [HRS.out] at hS)
        | (refine toList (by rfl) ?_; refine Go.Sep.st hS _ _ _ (by rfl) _ _ (by rfl) _ (by first | exact evC | exact evT (by rfl)) (by exact Rd_one (hS.irRd (Has.s Has.z))) (szOf (by rfl)) Has.z (by rw [HXL.out]; decide) ?_; clear hS; intro w1 hS; rw [List.set_cons_zero, HXS1.out] at hS))
       refine regStart2 [4, 6] hS (fun _ h => h.one Has.z) (by kernel_rfl) rfl ?_
       intro w1 hS1
       clear hS; have hS := hS1; clear hS1
       (refine rgP 0 hS (fun _ h => h.one Has.z) ?_; go_frame)
       (refine rgR 1 hS (fun _ h => h.one Has.z) ?_; (refine ⟨_, yLd _ _ (by rfl) _ _ (by rfl) (agOf (by rfl)) Has.z (HX39.out _ _), ?_⟩); go_frame)
       (refine rgA 2 false fun K hK => ?_; (first
                      | (refine mk hS _ _ _ (by rfl) 128 128 _ _ (by rfl) (by rfl) (elOf (by rfl)) (by omega) (by omega) (by omega) ?_; clear hS; intro pc w1 hS; rw [made_u8] at hS)
                      | (refine bsF hS _ _ _ (by rfl) (elOf (by rfl)) [.slice (some ⟨pc, 0, none⟩) 128 128] (by rfl) (by rfl) (by decide) (by decide) (by simp [Value.cells]) ?_; clear hS; intro b2 w1 hS; rw [sca1 rfl] at hS; replace hS := fuse1 hS)
                      | (refine apRws hS _ _ _ _ (by rfl) (by rfl) (by rfl) (elOf (by rfl)) (by rfl) (by decide) (by rfl) (inOf (by rfl)) (Has.s (Has.s Has.z)) (fun w L u x h => br_one w _ L u x h) (by rw [List.length_replicate]; have := HJ.out; simp; omega) ?_; clear hS; intro v2 w1 hS; dsimp only [List.set_cons_zero, List.set_cons_succ] at hS; rw [HRP.out] at hS)
                      | (refine Go.Sep.st hS _ _ _ (by rfl) _ _ (by rfl) _ (by first | exact evC | exact evT (by rfl)) (by exact rws_one hS (Has.s (Has.s Has.z))) (szOf (by rfl)) Has.z (by rw [HXL.out]; decide) ?_; clear hS; intro w1 hS; rw [List.set_cons_zero, HXS2.out] at hS)); refine hK _ _ _ (hS.upTo (fun _ h => by first | exact h.one Has.z | exact h.one (Has.s Has.z))) (fun _ _ h => h) ?_; clear hK K; go_frame)
       (refine rgA 3 false fun K hK => ?_; (first
                      | (refine mk hS _ _ _ (by rfl) 128 128 _ _ (by rfl) (by rfl) (elOf (by rfl)) (by omega) (by omega) (by omega) ?_; clear hS; intro pc w1 hS; rw [made_u8] at hS)
                      | (refine bsF hS _ _ _ (by rfl) (elOf (by rfl)) [.slice (some ⟨pc, 0, none⟩) 128 128] (by rfl) (by rfl) (by decide) (by decide) (by simp [Value.cells]) ?_; clear hS; intro b2 w1 hS; rw [sca1 rfl] at hS; replace hS := fuse1 hS)
                      | (refine apRws hS _ _ _ _ (by rfl) (by rfl) (by rfl) (elOf (by rfl)) (by rfl) (by decide) (by rfl) (inOf (by rfl)) (Has.s (Has.s Has.z)) (fun w L u x h => br_one w _ L u x h) (by rw [List.length_replicate]; have := HJ.out; simp; omega) ?_; clear hS; intro v2 w1 hS; dsimp only [List.set_cons_zero, List.set_cons_succ] at hS; rw [HRP.out] at hS)
                      | (refine Go.Sep.st hS _ _ _ (by rfl) _ _ (by rfl) _ (by first | exact evC | exact evT (by rfl)) (by exact rws_one hS (Has.s (Has.s Has.z))) (szOf (by rfl)) Has.z (by rw [HXL.out]; decide) ?_; clear hS; intro w1 hS; rw [List.set_cons_zero, HXS2.out] at hS)); refine hK _ _ _ (hS.upTo (fun _ h => by first | exact h.one Has.z | exact h.one (Has.s Has.z))) (fun _ _ h => h) ?_; clear hK K; go_frame)
       (refine rgA 4 true fun K hK => ?_; (first
                      | (refine mk hS _ _ _ (by rfl) 128 128 _ _ (by rfl) (by rfl) (elOf (by rfl)) (by omega) (by omega) (by omega) ?_; clear hS; intro pc w1 hS; rw [made_u8] at hS)
                      | (refine bsF hS _ _ _ (by rfl) (elOf (by rfl)) [.slice (some ⟨pc, 0, none⟩) 128 128] (by rfl) (by rfl) (by decide) (by decide) (by simp [Value.cells]) ?_; clear hS; intro b2 w1 hS; rw [sca1 rfl] at hS; replace hS := fuse1 hS)
                      | (refine apRws hS _ _ _ _ (by rfl) (by rfl) (by rfl) (elOf (by rfl)) (by rfl) (by decide) (by rfl) (inOf (by rfl)) (Has.s (Has.s Has.z)) (fun w L u x h => br_one w _ L u x h) (by rw [List.length_replicate]; have := HJ.out; simp; omega) ?_; clear hS; intro v2 w1 hS; dsimp only [List.set_cons_zero, List.set_cons_succ] at hS; rw [HRP.out] at hS)
                      | (refine Go.Sep.st hS _ _ _ (by rfl) _ _ (by rfl) _ (by first | exact evC | exact evT (by rfl)) (by exact rws_one hS (Has.s (Has.s Has.z))) (szOf (by rfl)) Has.z (by rw [HXL.out]; decide) ?_; clear hS; intro w1 hS; rw [List.set_cons_zero, HXS2.out] at hS)); refine hK _ _ _ hS (by first | (intro h; cases h; done) | exact fun _ _ h => h | exact fun _ _ h => h.drop | exact fun _ _ h => h.drop.drop | exact fun _ _ h => h.drop.pull1 | exact fun _ _ h => h.take2 | exact fun _ _ h => h.one Has.z | exact fun _ _ h => h.one (Has.s Has.z) | exact fun _ _ h => h.one (Has.s (Has.s Has.z))) ?_; clear hK K; go_frame)
       (refine rgP 5 hS (fun _ h => h) ?_; go_frame)
       (refine rgA 6 true fun K hK => ?_; (first
                      | (refine mk hS _ _ _ (by rfl) 128 128 _ _ (by rfl) (by rfl) (elOf (by rfl)) (by omega) (by omega) (by omega) ?_; clear hS; intro pc w1 hS; rw [made_u8] at hS)
                      | (refine bsF hS _ _ _ (by rfl) (elOf (by rfl)) [.slice (some ⟨pc, 0, none⟩) 128 128] (by rfl) (by rfl) (by decide) (by decide) (by simp [Value.cells]) ?_; clear hS; intro b2 w1 hS; rw [sca1 rfl] at hS; replace hS := fuse1 hS)
                      | (refine apRws hS _ _ _ _ (by rfl) (by rfl) (by rfl) (elOf (by rfl)) (by rfl) (by decide) (by rfl) (inOf (by rfl)) (Has.s (Has.s Has.z)) (fun w L u x h => br_one w _ L u x h) (by rw [List.length_replicate]; have := HJ.out; simp; omega) ?_; clear hS; intro v2 w1 hS; dsimp only [List.set_cons_zero, List.set_cons_succ] at hS; rw [HRP.out] at hS)
                      | (refine Go.Sep.st hS _ _ _ (by rfl) _ _ (by rfl) _ (by first | exact evC | exact evT (by rfl)) (by exact rws_one hS (Has.s (Has.s Has.z))) (szOf (by rfl)) Has.z (by rw [HXL.out]; decide) ?_; clear hS; intro w1 hS; rw [List.set_cons_zero, HXS2.out] at hS)); refine hK _ _ _ hS (by first | (intro h; cases h; done) | exact fun _ _ h => h | exact fun _ _ h => h.drop | exact fun _ _ h => h.drop.drop | exact fun _ _ h => h.drop.pull1 | exact fun _ _ h => h.take2 | exact fun _ _ h => h.one Has.z | exact fun _ _ h => h.one (Has.s Has.z) | exact fun _ _ h => h.one (Has.s (Has.s Has.z))) ?_; clear hK K; go_frame)
       refine regDone (by kernel_rfl) ?_
       go_wp2
       exact ⟨⟨j + 1, v1, v2, by go_num, HJL.out, hS⟩, lpM_lt HJL.out⟩
      ·obtain rfl : j = p := by omega
       have k4 : ¬ (j : Int) < (j : Int) := by omega
       clear hjl hj
       obtain ⟨vs, hvl, hS3⟩ := (show Sat W _ (Rws _ _ _ :: _ :: _ :: _ :: _ :: (_ :: [])) from hS.re [2]).rwsOpen
       clear hS
       obtain ⟨x, hx⟩ : ∃ x : SetD, x = ⟨40, fileI (j) (8), ups (j), List.replicate (j) (zeros 128), vp, vd, vs⟩ := ⟨_, rfl⟩
       have hxv : xv (40) (fileI (j) (8)) vp vd = setv x := by rw [hx]; rfl
       have hS : Sat W _ (_ :: _ :: _ :: _ :: _ :: _ :: (_ :: [])) := hS3
       clear hS3
       have HXL2 := Lib.hid (show (setv x).length = 40 from setv_len (by rw [hx]; rfl))
       have HXT := Lib.hid (show ((setv x).drop 0).take 40 = setv x by rw [List.drop_zero, List.take_of_length_le (by rw [HXL2.out]; exact Nat.le_refl _)])
       rw [hxv] at hS
       have HGC := Lib.hid (fun w (h : Sat W w (Tb 0 1 one1 vd vs :: St (List.zipWith Br vs (List.replicate j (zeros 128))) :: Cs px 36 (setv x) :: Ir vp (List.range j) :: Tb 53 3 rv (.slice ao16 rr c16) (nodF 0 rr) :: IsSt ps pd S :: IsDisk pd D :: [])) =>
        sgrow_f (h.re [5, 6]) HF.out.at_.ok' HF.out.at_.lv.ok (by have := HF.out.i3; omega) (nodF 0 rr) false ao16 c16 (nodF_len 0 rr) (fun w L' h => by
         have h2 := h.tbRd (has_add (Has.s (Has.s (Has.s (Has.s Has.z)))) L')
         rw [nodF_len] at h2
         exact h2) (by have := HR60.out; omega))
       rw [HGR.out] at HGC
       have hcl := HG.out.at_
       have hgl := HG.out.gl
       have hi3 := HF.out.i3
       have HXA := Lib.hid (show x.at_ = ((40 : Nat) : Int) ∧ x.ino = fileI j 8 ∧ x.pieces = ups j ∧ x.data.length = j ∧ (∀ d ∈ x.data, d.length = 128) from ⟨by rw [hx]; rfl, by rw [hx], by rw [hx], by rw [hx]; exact List.length_replicate .., fun d' h => by
        rw [hx] at h
        rw [List.eq_of_mem_replicate h]
        simp [zeros]⟩)
       have HCM := Lib.hid (fun w b1 (h : Sat W w (Cs b1 36 (setv x) :: Tb 0 1 one1 vd vs :: St (List.zipWith Br vs (List.replicate j (zeros 128))) :: Cs px 36 (setv x) :: Ir vp (List.range j) :: IsSt ps pd S1 :: IsDisk pd D1 :: Tb 53 3 rv (.slice ao16 rr c16) (nodF 0 rr) :: [])) => setc_any x hx h hvl HG.out.at_ (by omega) (by omega) 9 true)
       obtain ⟨sx, hsx⟩ : ∃ v, setv x = v := ⟨_, rfl⟩
       rw [hsx] at hS HCM HXL2 HXT HGC
       clear hx hxv hvl hsx
       by_cases hfit : (j : Int) ≤ 85 - 20 * (i : Int) - (q : Int)
       ·obtain ⟨S2, D2, B2, e1, e2, _⟩ := hcl.put (x := x) (n := 40) (m := j) (obj := 8) (next := 9) HXA.out.1 (by decide) HG.out.ino HXA.out.2.1 ⟨by decide, by decide⟩ HXA.out.2.2.1 (by omega) HXA.out.2.2.2.1 HXA.out.2.2.2.2 (by rw [hgl]; omega) HG.out.next (by decide) true
        rw [e1] at HCM
        have HFR2 := Lib.hid (fun w L (h : Sat W w (IsSt ps pd S2 :: L)) => ffree_any h e2 (85 - 20 * (i : Int) - (q : Int) - (j : Int)) (by rw [hgl]; simp; omega))
        clear hcl hgl hi3 e1 e2
        cases ft with
        | true =>
         have h4 := of_decide_eq_true HFTB.out
         have k5 : ¬ (85 - 20 * (i : Int) < (q : Int) + (j : Int) + 4) := by omega
         clear h4 hfit
         have hgq : 85 - 20 * (i : Int) - (85 - 20 * (i : Int) - (q : Int)) = (q : Int) := by omega
         go_wp2_with (first
          | (go_at_call 18; refine (HWR.out _ _ (hS.re [6])).mono ?_; rintro e w1 ⟨rfl, rfl⟩)
          | (go_at_call 19; refine (HGC.out _ hS).mono ?_; clear hS; rintro e w1 ⟨rfl, hS⟩; dsimp only at hS ⊢; replace hS := (show Sat W _ (_ :: _ :: _ :: _ :: _ :: _ :: _ :: []) from hS.re [2, 3, 4, 5, 0, 1]))
          | (go_at_call 13; refine (HFR1.out _ _ (hS.re [4])).mono ?_; clear hS; rintro e w1 ⟨rfl, hS⟩; replace hS := (show Sat W _ (_ :: _ :: _ :: _ :: _ :: _ :: _ :: []) from hS.re [1, 2, 3, 4, 0]))
          | (go_at_call 13; refine (HFR2.out _ _ hS).mono ?_; clear hS; rintro e w1 ⟨rfl, hS⟩)
          | (go_at_call 15; refine (awake_any hS).mono ?_; clear hS; rintro e w1 ⟨rfl, hS⟩)
          | (first
           | (refine toList (by rfl) ?_; refine bsF hS _ _ _ (by rfl) (elOf (by rfl)) [.agg sx.toArray] (by rfl) (by rfl) (by decide) (by decide) (by intro u hu; rw [List.mem_singleton.1 hu]; simp [Value.cells, HXL2.out]) ?_; clear hS; intro b1 w1 hS; rw [agg1] at hS)
           | (go_at_call 10; refine (HCM.out _ _ hS).mono ?_; clear hS; rintro e w1 ⟨rfl, hS⟩; dsimp only at hS ⊢; replace hS := (show Sat W _ (_ :: _ :: _ :: _ :: _ :: _ :: _ :: (_ :: [])) from hS.re [2, 3, 4, 5, 6]).drop.drop.drop.drop.drop)
           | (refine toList (by rfl) ?_; refine wp_of_reads (rLdA hS _ _ (by rfl) _ _ (by rfl) (agOf (by rfl)) (szOf (by rfl)) (Has.s (Has.s Has.z)) (vs := sx) HXT.out HXL2.out) ?_)))
         go_ret
         exact ⟨rfl, hS.map fun _ _ => trivial⟩
        | false =>
         have h4 := of_decide_eq_false HFTB.out
         have k5 : 85 - 20 * (i : Int) < (q : Int) + (j : Int) + 4 := by omega
         clear h4 hfit
         have hgq : 85 - 20 * (i : Int) - (85 - 20 * (i : Int) - (q : Int)) = (q : Int) := by omega
         go_wp2_with (first
          | (go_at_call 18; refine (HWR.out _ _ (hS.re [6])).mono ?_; rintro e w1 ⟨rfl, rfl⟩)
          | (go_at_call 19; refine (HGC.out _ hS).mono ?_; clear hS; rintro e w1 ⟨rfl, hS⟩; dsimp only at hS ⊢; replace hS := (show Sat W _ (_ :: _ :: _ :: _ :: _ :: _ :: _ :: []) from hS.re [2, 3, 4, 5, 0, 1]))
          | (go_at_call 13; refine (HFR1.out _ _ (hS.re [4])).mono ?_; clear hS; rintro e w1 ⟨rfl, hS⟩; replace hS := (show Sat W _ (_ :: _ :: _ :: _ :: _ :: _ :: _ :: []) from hS.re [1, 2, 3, 4, 0]))
          | (go_at_call 13; refine (HFR2.out _ _ hS).mono ?_; clear hS; rintro e w1 ⟨rfl, hS⟩)
          | (go_at_call 15; refine (awake_any hS).mono ?_; clear hS; rintro e w1 ⟨rfl, hS⟩)
          | (first
           | (refine toList (by rfl) ?_; refine bsF hS _ _ _ (by rfl) (elOf (by rfl)) [.agg sx.toArray] (by rfl) (by rfl) (by decide) (by decide) (by intro u hu; rw [List.mem_singleton.1 hu]; simp [Value.cells, HXL2.out]) ?_; clear hS; intro b1 w1 hS; rw [agg1] at hS)
           | (go_at_call 10; refine (HCM.out _ _ hS).mono ?_; clear hS; rintro e w1 ⟨rfl, hS⟩; dsimp only at hS ⊢; replace hS := (show Sat W _ (_ :: _ :: _ :: _ :: _ :: _ :: _ :: (_ :: [])) from hS.re [2, 3, 4, 5, 6]).drop.drop.drop.drop.drop)
           | (refine toList (by rfl) ?_; refine wp_of_reads (rLdA hS _ _ (by rfl) _ _ (by rfl) (agOf (by rfl)) (szOf (by rfl)) (Has.s (Has.s Has.z)) (vs := sx) HXT.out HXL2.out) ?_)))
         go_ret
         exact ⟨rfl, hS.map fun _ _ => trivial⟩
       ·have e1 := hcl.full (x := x) (n := 40) (m := j) (obj := 8) (next := 9) HXA.out.1 (by decide) HG.out.ino HXA.out.2.1 ⟨by decide, by decide⟩ HXA.out.2.2.1 (by omega) HXA.out.2.2.2.1 HXA.out.2.2.2.2 (by rw [hgl]; omega) HG.out.next (by decide) true
        rw [e1] at HCM
        cases ft with
        | true =>
         have h4 := of_decide_eq_true HFTB.out
         omega
        | false =>
         have k5 : 85 - 20 * (i : Int) < (q : Int) + (j : Int) + 4 := by omega
         clear hcl hgl hi3 e1 hfit
         have hgq : 85 - 20 * (i : Int) - (85 - 20 * (i : Int) - (q : Int)) = (q : Int) := by omega
         go_wp2_with (first
          | (go_at_call 18; refine (HWR.out _ _ (hS.re [6])).mono ?_; rintro e w1 ⟨rfl, rfl⟩)
          | (go_at_call 19; refine (HGC.out _ hS).mono ?_; clear hS; rintro e w1 ⟨rfl, hS⟩; dsimp only at hS ⊢; replace hS := (show Sat W _ (_ :: _ :: _ :: _ :: _ :: _ :: _ :: []) from hS.re [2, 3, 4, 5, 0, 1]))
          | (go_at_call 13; refine (HFR1.out _ _ (hS.re [4])).mono ?_; clear hS; rintro e w1 ⟨rfl, hS⟩; replace hS := (show Sat W _ (_ :: _ :: _ :: _ :: _ :: _ :: _ :: []) from hS.re [1, 2, 3, 4, 0]))
          | (go_at_call 13; refine (HFR2.out _ _ hS).mono ?_; clear hS; rintro e w1 ⟨rfl, hS⟩)
          | (go_at_call 15; refine (awake_any hS).mono ?_; clear hS; rintro e w1 ⟨rfl, hS⟩)
          | (first
           | (refine toList (by rfl) ?_; refine bsF hS _ _ _ (by rfl) (elOf (by rfl)) [.agg sx.toArray] (by rfl) (by rfl) (by decide) (by decide) (by intro u hu; rw [List.mem_singleton.1 hu]; simp [Value.cells, HXL2.out]) ?_; clear hS; intro b1 w1 hS; rw [agg1] at hS)
           | (go_at_call 10; refine (HCM.out _ _ hS).mono ?_; clear hS; rintro e w1 ⟨rfl, hS⟩; dsimp only at hS ⊢; replace hS := (show Sat W _ (_ :: _ :: _ :: _ :: _ :: _ :: _ :: (_ :: [])) from hS.re [2, 3, 4, 5, 6]).drop.drop.drop.drop.drop)
           | (refine toList (by rfl) ?_; refine wp_of_reads (rLdA hS _ _ (by rfl) _ _ (by rfl) (agOf (by rfl)) (szOf (by rfl)) (Has.s (Has.s Has.z)) (vs := sx) HXT.out HXL2.out) ?_)))
         go_ret
         exact ⟨rfl, hS.map fun _ _ => trivial⟩

set_option maxRecDepth 100000 in
theorem Fits.contract (H : Type) (enc : TypeId × Value → H) (W : World) (base : Nat) (args : Array Value) (ds gs : List (DataW H)) (before : List MemPlace)
  (hval : ∀ (j : Nat) t v, Tryz.f5.params[j]? = some t → args[j]? = some v → Value.okWide Tryz.prog W .any base t v)
  (hW : DataW.Whole enc Tryz.prog Tryz.f5.params.toList Rows.storeFitsSpec.vars false W args.toList ds gs before)
  (hreach : (DataW.weightsEach Tryz.prog (Tryz.f5.params.toList ++ Rows.storeFitsSpec.plain.varTypes Tryz.prog) (ds ++ gs)).all (· ≤ reachBytes) = true) :
  Calls Tryz.prog 5 args W fun e W' => ∃ v, e = .returned v ∧ Rows.storeFitsSpec.post enc Tryz.prog Tryz.f5 false true false false W args v W' := by
 have hW' := hW
 obtain ⟨p, q, hA, hV, rfl, hfz, hnd⟩ := hW
 rw [Tryz.params5] at hA hval hreach
 obtain ⟨v1, vs1, d1, ds1, p1, q1, hargs, rfl, rfl, h1, r1⟩ := trodAll_cons hA
 obtain ⟨v2, vs2, d2, ds2, p2, q2, hargs2, rfl, rfl, h2, r2⟩ := trodAll_cons r1
 obtain ⟨v3, vs3, d3, ds3, p3, q3, hargs3, rfl, rfl, h3, r3⟩ := trodAll_cons r2
 obtain ⟨rfl, rfl, rfl⟩ := trodAll_nil r3
 obtain rfl : args = #[v1, v2, v3] := by cases args; simp_all
 obtain ⟨rfl, rfl⟩ := trodVars_none hV
 obtain ⟨a1, rfl, rfl, rfl, w1⟩ := open_int Tryz.underlying3 (hval 0 3 v1 rfl rfl) h1
 obtain ⟨a2, rfl, rfl, rfl, w2⟩ := open_int Tryz.underlying3 (hval 1 3 v2 rfl rfl) h2
 obtain ⟨a3, rfl, rfl, rfl, w3⟩ := open_int Tryz.underlying3 (hval 2 3 v3 rfl rfl) h3
 refine (Fits.walk a1 a2 a3 W).mono ?_
 refine fun e W' ⟨he, hS⟩ => ?_
 subst he
 exact ⟨_, rfl, law_post (tb := 4) (by kernel_rfl) (by kernel_rfl) rfl Tryz.underlying4 rfl hW' rfl hS⟩

theorem Fits.own : ownKnob Tryz.prog.godebug = none := by kernel_rfl
set_option maxRecDepth 100000 in
theorem Fits.lifted (os : Os) (started : os.Started) (H : Type) (enc : TypeId × Value → H) :
  ReturnsInHanded {} Tryz.checked os 5 .any (Rows.storeFitsSpec.pre6 enc Tryz.prog Tryz.f5 Rows.storeFitsRow.domain false) (Rows.storeFitsSpec.post enc Tryz.prog Tryz.f5 false true false false) := by
 refine returnsInHanded_of_change_shaped (C := Tryz.checked) Fits.own started (by kernel_rfl) Tryz.func5
  (ChangeSpec.witness6 (enc := enc) (C := Tryz.checked) false ⟨#[], #[.int .i64 0, .int .i64 0, .int .i64 0], []⟩ 8 (by kernel_rfl) (by kernel_rfl) (by kernel_rfl) (by kernel_rfl)) ?_
 intro W base args ds gs before hval hW _ hreach _ _
 exact Fits.contract H enc W base args ds gs before hval hW hreach

theorem Fits.holds : Rows.StoreFitsSaid :=
 OpenClaim.holds_of_wide 5 Tryz.f5 rfl rfl rfl rfl rfl rfl rfl ⟨rfl, rfl, rfl, rfl, rfl⟩ rfl rfl rfl rfl rfl (by kernel_rfl) Tryz.func5 (by kernel_rfl)
  (of_decide_eq_true (by kernel_rfl)) (by unfold Func.isWrapper; first | (rw [if_pos (by decide +kernel)]; kernel_rfl) | (rw [if_neg (by decide +kernel)]; exact ⟨rfl, rfl⟩))
  (fun os started H enc _ => Fits.lifted os started H enc)
end Go.Proofs.YtchohheleofncaaGreat
