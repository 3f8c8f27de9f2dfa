/-
 Package store: Commit.
-/
import Derived.Test.YtchohheleofncaaGreatStRight
import Derived.Test.YtchohheleofncaaGreatMCmt
import Derived.Test.YtchohheleofncaaGreatStGrow
import Derived.Test.YtchohheleofncaaGreatMReg
set_option linter.unusedSimpArgs false
set_option linter.unusedVariables false
namespace Go.Proofs.YtchohheleofncaaGreat
open Go.RowKit Go.Sep
attribute [local irreducible] Go.Oper.wp Go.wpList Go.Calls Go.Code.wp Go.Sep.Reg
def CmE (W : World) (L : List Asrt) (ps pd : Nat) (R : Int × StD × DiskS) (e : Ending) (w' : World) : Prop := e = .returned (.int .i64 R.1) ∧ Sat W w' (IsSt ps pd R.2.1 :: IsDisk pd R.2.2 :: L)
def cmR (ps pd : Nat) (S : StD) (D : DiskS) (fv r : Value) : List Asrt := [Cs ps 85 (stv pd S.sup fv S.inos r S.last), IsMap fv S.U, Tb 53 3 rv r S.recs, IsDisk pd D]
def cmJ1 (W : World) (L : List Asrt) (ps pd p14 tot : Nat) (S : StD) (D : DiskS) (l : List SetD) (next : Int) (shown : Bool) (aq : Option Addr) (ln cq : Nat) (fv r vt : Value) : Act → World → Prop := (fun (a' : Act) (w' : World) => (Sat W w' (Cs p14 77 (sv (supC S next shown)) :: Ir vt (takS S l) :: (cmR ps pd S D fv r ++ L))) ∧ a' = ⟨#[.pointer (some ⟨ps, 0, none⟩), .slice aq ln cq, (a'.tmps.getD 2 undef), (a'.tmps.getD 3 undef), (a'.tmps.getD 4 undef), (a'.tmps.getD 5 undef), (a'.tmps.getD 6 undef), (a'.tmps.getD 7 undef), (a'.tmps.getD 8 undef), .int .i64 ((tot : Nat) : Int), (a'.tmps.getD 10 undef), (a'.tmps.getD 11 undef), vt, (a'.tmps.getD 13 undef), .pointer (some ⟨p14, 0, none⟩), undef, undef, undef, undef, undef, undef, undef, undef, undef, undef, undef, undef, undef, undef, undef, undef, (a'.tmps.getD 31 undef), (a'.tmps.getD 32 undef), (a'.tmps.getD 33 undef), (a'.tmps.getD 34 undef), (a'.tmps.getD 35 undef), (a'.tmps.getD 36 undef), (a'.tmps.getD 37 undef), (a'.tmps.getD 38 undef), (a'.tmps.getD 39 undef), (a'.tmps.getD 40 undef), (a'.tmps.getD 41 undef), (a'.tmps.getD 42 undef), (a'.tmps.getD 43 undef), (a'.tmps.getD 44 undef), (a'.tmps.getD 45 undef), (a'.tmps.getD 46 undef), (a'.tmps.getD 47 undef), (a'.tmps.getD 48 undef), (a'.tmps.getD 49 undef), (a'.tmps.getD 50 undef), (a'.tmps.getD 51 undef), (a'.tmps.getD 52 undef), (a'.tmps.getD 53 undef), (a'.tmps.getD 54 undef), (a'.tmps.getD 55 undef), (a'.tmps.getD 56 undef), (a'.tmps.getD 57 undef), (a'.tmps.getD 58 undef), (a'.tmps.getD 59 undef), (a'.tmps.getD 60 undef), (a'.tmps.getD 61 undef), (a'.tmps.getD 62 undef), (a'.tmps.getD 63 undef), (a'.tmps.getD 64 undef), (a'.tmps.getD 65 undef), (a'.tmps.getD 66 undef), (a'.tmps.getD 67 undef), (a'.tmps.getD 68 undef), (a'.tmps.getD 69 undef), (a'.tmps.getD 70 undef), (a'.tmps.getD 71 undef), (a'.tmps.getD 72 undef), (a'.tmps.getD 73 undef), (a'.tmps.getD 74 undef), (a'.tmps.getD 75 undef), (a'.tmps.getD 76 undef), (a'.tmps.getD 77 undef), (a'.tmps.getD 78 undef), (a'.tmps.getD 79 undef), (a'.tmps.getD 80 undef), (a'.tmps.getD 81 undef), (a'.tmps.getD 82 undef), (a'.tmps.getD 83 undef), (a'.tmps.getD 84 undef), (a'.tmps.getD 85 undef), undef, undef, undef, undef, undef, undef, undef, undef, undef, undef, undef, undef, undef, undef, undef, undef, undef, undef, undef, undef, undef, undef, undef, undef, undef, undef, undef, undef, undef, undef, undef, undef, undef, undef, undef, undef, undef, undef, undef, undef, undef, undef, undef, undef, undef, undef, undef, undef, undef, undef, undef, undef, undef, undef, undef, undef, undef, undef, undef, undef, undef, undef, undef, undef, undef, undef, undef, undef, undef, undef, undef, undef, undef, undef, undef, undef, undef, undef, undef, undef, undef, undef, undef, undef, undef, undef, undef, undef, undef, undef, undef, undef, undef, undef, undef, undef, undef, undef, undef, undef, undef, undef, undef, undef, undef, undef, undef, undef, undef, undef, undef, undef, undef, undef, undef, undef, undef, undef, undef, undef, undef, undef, undef, undef, undef, undef, undef, undef, undef, undef, undef, undef, undef, undef, undef, undef, undef, undef, undef, undef, undef, undef, undef], []⟩)
def cmJ2 (W : World) (L : List Asrt) (ps pd p14 tot : Nat) (S : StD) (D : DiskS) (l : List SetD) (next : Int) (shown : Bool) (aq : Option Addr) (ln cq : Nat) (fv r vt : Value) : Act → World → Prop := (fun (a' : Act) (w' : World) => (¬ (l = [] ∧ supC S next shown = S.sup) ∧ Sat W w' (Cs p14 77 (sv (supC S next shown)) :: Ir vt (takS S l) :: (cmR ps pd S D fv r ++ L))) ∧ a' = ⟨#[.pointer (some ⟨ps, 0, none⟩), .slice aq ln cq, (a'.tmps.getD 2 undef), (a'.tmps.getD 3 undef), (a'.tmps.getD 4 undef), (a'.tmps.getD 5 undef), (a'.tmps.getD 6 undef), (a'.tmps.getD 7 undef), (a'.tmps.getD 8 undef), .int .i64 ((tot : Nat) : Int), (a'.tmps.getD 10 undef), (a'.tmps.getD 11 undef), vt, (a'.tmps.getD 13 undef), .pointer (some ⟨p14, 0, none⟩), undef, undef, undef, undef, undef, undef, undef, undef, undef, undef, undef, undef, undef, undef, undef, undef, (a'.tmps.getD 31 undef), (a'.tmps.getD 32 undef), (a'.tmps.getD 33 undef), (a'.tmps.getD 34 undef), (a'.tmps.getD 35 undef), (a'.tmps.getD 36 undef), (a'.tmps.getD 37 undef), (a'.tmps.getD 38 undef), (a'.tmps.getD 39 undef), (a'.tmps.getD 40 undef), (a'.tmps.getD 41 undef), (a'.tmps.getD 42 undef), (a'.tmps.getD 43 undef), (a'.tmps.getD 44 undef), (a'.tmps.getD 45 undef), (a'.tmps.getD 46 undef), (a'.tmps.getD 47 undef), (a'.tmps.getD 48 undef), (a'.tmps.getD 49 undef), (a'.tmps.getD 50 undef), (a'.tmps.getD 51 undef), (a'.tmps.getD 52 undef), (a'.tmps.getD 53 undef), (a'.tmps.getD 54 undef), (a'.tmps.getD 55 undef), (a'.tmps.getD 56 undef), (a'.tmps.getD 57 undef), (a'.tmps.getD 58 undef), (a'.tmps.getD 59 undef), (a'.tmps.getD 60 undef), (a'.tmps.getD 61 undef), (a'.tmps.getD 62 undef), (a'.tmps.getD 63 undef), (a'.tmps.getD 64 undef), (a'.tmps.getD 65 undef), (a'.tmps.getD 66 undef), (a'.tmps.getD 67 undef), (a'.tmps.getD 68 undef), (a'.tmps.getD 69 undef), (a'.tmps.getD 70 undef), (a'.tmps.getD 71 undef), (a'.tmps.getD 72 undef), (a'.tmps.getD 73 undef), (a'.tmps.getD 74 undef), (a'.tmps.getD 75 undef), (a'.tmps.getD 76 undef), (a'.tmps.getD 77 undef), (a'.tmps.getD 78 undef), (a'.tmps.getD 79 undef), (a'.tmps.getD 80 undef), (a'.tmps.getD 81 undef), (a'.tmps.getD 82 undef), (a'.tmps.getD 83 undef), (a'.tmps.getD 84 undef), (a'.tmps.getD 85 undef), (a'.tmps.getD 86 undef), (a'.tmps.getD 87 undef), (a'.tmps.getD 88 undef), (a'.tmps.getD 89 undef), (a'.tmps.getD 90 undef), (a'.tmps.getD 91 undef), (a'.tmps.getD 92 undef), (a'.tmps.getD 93 undef), (a'.tmps.getD 94 undef), (a'.tmps.getD 95 undef), (a'.tmps.getD 96 undef), undef, undef, undef, undef, undef, undef, undef, undef, undef, undef, undef, undef, undef, undef, undef, undef, undef, undef, undef, undef, undef, undef, undef, undef, undef, undef, undef, undef, undef, undef, undef, undef, undef, undef, undef, undef, undef, undef, undef, undef, undef, undef, undef, undef, undef, undef, undef, undef, undef, undef, undef, undef, undef, undef, undef, undef, undef, undef, undef, undef, undef, undef, undef, undef, undef, undef, undef, undef, undef, undef, undef, undef, undef, undef, undef, undef, undef, undef, undef, undef, undef, undef, undef, undef, undef, undef, undef, undef, undef, undef, undef, undef, undef, undef, undef, undef, undef, undef, undef, undef, undef, undef, undef, undef, undef, undef, undef, undef, undef, undef, undef, undef, undef, undef, undef, undef, undef, undef, undef, undef, undef, undef, undef, undef, undef, undef, undef, undef, undef, undef, undef, undef], []⟩)
theorem stv_inos {pd : Nat} {s : SupD} {fv : Value} {X : List InoD} {r : Value} {last : Int} (h : XOk X) : ((stv pd s fv X r last).drop 9).take 1776 = X.flatMap inv := by
 show (X.flatMap inv ++ [r, .int .i64 last]).take 1776 = _
 rw [List.take_append_of_le_length (by rw [h.flen]; exact Nat.le_refl _), List.take_of_length_le (by rw [h.flen]; exact Nat.le_refl _)]
theorem sv_next (s : SupD) (x : Int) : (sv s).set 5 (.int .i64 x) = sv { s with next := x } := rfl
def CmN (W : World) (L : List Asrt) (ps pd : Nat) (S : StD) (D : DiskS) (l : List SetD) (v9 v50 : Value) (wz : World) : Prop :=
 ∃ i : Nat, v50 = .int .i64 (i : Int) ∧ v9 = .int .i64 ((offS l i : Nat) : Int) ∧ i ≤ l.length ∧ Sat W wz (IsSt ps pd S :: IsDisk pd D :: L)
theorem stv_setInos {pd : Nat} {s : SupD} {fv : Value} {X Y : List InoD} {r : Value} {last : Int} (h : XOk X) : (stv pd s fv X r last).take 9 ++ Y.flatMap inv ++ (stv pd s fv X r last).drop 1785 = stv pd s fv Y r last := by
 have e : ∀ X : List InoD, stv pd s fv X r last = (.pointer (some ⟨pd, 0, none⟩) :: sv s ++ [fv]) ++ (X.flatMap inv ++ [r, .int .i64 last]) := by intro X; unfold stv; simp
 have h9 : (Value.pointer (some ⟨pd, 0, none⟩) :: sv s ++ [fv]).length = 9 := by rw [List.length_append, List.length_cons, sv_len]; rfl
 rw [e X, e Y, List.take_left' h9, List.drop_append, h9, List.drop_eq_nil_of_le (by rw [h9]; decide), List.nil_append, List.drop_append, h.flen, List.drop_eq_nil_of_le (by rw [h.flen]; decide), List.nil_append, List.append_assoc]
 rfl
def CmL (W : World) (L : List Asrt) (ps pd p14 p17 : Nat) (S : StD) (D : DiskS) (l : List SetD) (sc : SupD) (fv r vt : Value) (v103 v18 v19 v15 v16 : Value) (wz : World) : Prop :=
 ∃ (j : Nat) (gws : List GW) (D1 : DiskS), v103 = .int .i64 (j : Int) ∧ v18 = .int .i64 ((offS l j : Nat) : Int) ∧ v19 = .int .i64 0 ∧ j ≤ l.length ∧ g2 gws = wrI S l j ∧ runW D (datL S l j) = (0, D1) ∧
  Sat W wz (IsDisk pd D1 :: Cs ps 85 (stv pd S.sup fv S.inos r S.last) :: Ir vt (takS S l) :: Cs p17 83 ((inosS S l j).flatMap inv) :: Ir v16 (goneL S l j) :: Tb 95 2 gw v15 gws :: St (gws.map grow) :: Cs p14 77 (sv sc) :: IsMap fv S.U :: Tb 53 3 rv r S.recs :: L)
def CmD (W : World) (M : List Asrt) (pd p21 : Nat) (S : StD) (D1 : DiskS) (l : List SetD) (j : Nat) (x : SetD) (v122 v19 : Value) (wz : World) : Prop :=
 ∃ (q : Nat) (D2 : DiskS), v122 = .int .i64 (q : Int) ∧ v19 = .int .i64 0 ∧ q ≤ x.data.length ∧ runW D1 (datW S l j x q) = (0, D2) ∧ Sat W wz (IsDisk pd D2 :: Cs p21 36 (setv x) :: M)
theorem sv_mine {w : World} {vt : Value} {tak : List Nat} {tot off np : Nat} (h : Rd w vt tot 1 (iv tak)) (hlen : tak.length = tot) (hb : off + np ≤ tot) : ∃ ao c, vt = .slice ao tot c ∧ off + np ≤ c ∧ Rd w (.slice (cutA ao c off 1) np (c - off)) np 1 (iv ((tak.drop off).take np)) := by
 obtain ⟨ao, c, rfl, h1, _⟩ := id h
 refine ⟨ao, c, rfl, by omega, ?_⟩
 have h2 := (h.cutL off (by omega)).cutH np (by omega)
 rw [Nat.mul_one, Nat.mul_one, iv_drop, iv_take] at h2
 exact h2
theorem commitS_bad {S : StD} {D : DiskS} {l : List SetD} {next : Int} {shown : Bool} (h : cmtBad S l next = true) : commitS S D l next shown = (1, S, D) := if_pos h
set_option maxRecDepth 20000 in
set_option maxHeartbeats 8000000 in
theorem scommit_any {W w : World} {L : List Asrt} {ps pd k : Nat} {S : StD} {D : DiskS} {gs : List Nat} (hS : Sat W w (IsSt ps pd S :: IsDisk pd D :: L)) (hok : SOk D.blocks S gs) (hD : DG D k)
  (l : List SetD) (hk : k + totS l ≤ 80000) (next : Int) (shown : Bool) (aq : Option Addr) (cq : Nat) (hr : ∀ w L', Sat W w (L' ++ L) → SetsRd w (.slice aq l.length cq) l) :
  Calls Tryz.prog 10 #[.pointer (some ⟨ps, 0, none⟩), .slice aq l.length cq, .int .i64 next, .bool shown] w fun e w' => CmE W L ps pd (commitS S D l next shown) e w' := by
 have HOK := Lib.hid hok
 have HD := Lib.hid hD
 have HR := Lib.hid hr
 have HRT := Lib.hid (fun w (h : Sat W w (IsSt ps pd S :: IsDisk pd D :: L)) => right_any h hok.x l aq cq (fun w L' h => hr w (L' ++ [_]) (by rw [List.append_assoc]; exact h)))
 obtain ⟨_, _, he, hc1, hc2, _, h5⟩ := (hr w [_, _] hS).1
 simp only [Value.slice.injEq, true_and] at he
 obtain ⟨rfl, rfl⟩ := he
 have H5 := Lib.hid h5
 obtain ⟨ln, hln⟩ : ∃ n, l.length = n := ⟨_, rfl⟩
 have HLN := Lib.hid hln
 have hli : (ln : Int) ≤ 9223372036854775807 := by omega
 have HMO := Lib.hid (fun w M (h : Sat W w (IsSt ps pd S :: M)) => IsSt.open h)
 have HMK := Lib.hid (fun w M fv r h => IsSt.mk (W := W) (w := w) (L := M) (ps := ps) (pd := pd) (S := S) (fv := fv) (r := r) h)
 have HN5 := Lib.hid (fun fv r => show (stv pd S.sup fv S.inos r S.last)[6]? = some (.int .i64 S.sup.next) by rw [stv_low (by decide)]; rfl)
 rw [hln] at HRT ⊢
 obtain ⟨sn, hsn⟩ : ∃ n, S.sup.next = n := ⟨_, rfl⟩
 rw [hsn] at HN5
 have hcb : cmtBad S l next = (decide (next < sn) || (decide (16777215 < next) || !rightB S l)) := by unfold cmtBad; rw [hsn]
 obtain ⟨c1, h1⟩ : ∃ c, decide (next < sn) = c := ⟨_, rfl⟩
 obtain ⟨c2, h2⟩ : ∃ c, decide (16777215 < next) = c := ⟨_, rfl⟩
 obtain ⟨c3, h3⟩ : ∃ c, rightB S l = c := ⟨_, rfl⟩
 rw [h1, h2, h3] at hcb
 rw [h3] at HRT
 have HCB := Lib.hid hcb
 have HRB := Lib.hid h3
 clear hok hD hr h5 hc1 hc2 hln hcb h3
 have HSN := Lib.hid hsn
 clear hsn
 have HH1 := Lib.hid h1
 go_enter Tryz.func10, Tryz.ntmps10
 go_wp2
 refine wp_scope_two 1 0 (fun _ _ => False) (fun _ _ => 0) rfl rfl ?_ (fun a w h => h.elim)
 refine sep_part (fun KX HKX => ?_)
 obtain ⟨fv, r, hS1⟩ := HMO.out _ _ hS
 clear hS
 have hS := hS1
 clear hS1
 cases c1 with
 | true =>
  have HBAD := Lib.hid (commitS_bad (D := D) (shown := shown) (HCB.out.trans rfl))
  go_wp2_with (refine toList (by rfl) ?_; refine ld hS _ _ (by rfl) _ _ (by rfl) (agOf (by rfl)) Has.z (HN5.out _ _) ?_)
  ((try simp only [Exit.then, Exit.inBlock, Exit.jump2_ret]); go_ret)
  rw [HBAD.out]
  exact ⟨rfl, HMK.out _ _ _ _ hS⟩
 | false =>
 cases c2 with
 | true =>
  have HBAD := Lib.hid (commitS_bad (D := D) (shown := shown) (HCB.out.trans rfl))
  go_wp2_with (refine toList (by rfl) ?_; refine ld hS _ _ (by rfl) _ _ (by rfl) (agOf (by rfl)) Has.z (HN5.out _ _) ?_)
  ((try simp only [Exit.then, Exit.inBlock, Exit.jump2_ret]); go_ret)
  rw [HBAD.out]
  exact ⟨rfl, HMK.out _ _ _ _ hS⟩
 | false =>
 cases c3 with
 | false =>
  have HBAD := Lib.hid (commitS_bad (D := D) (shown := shown) (HCB.out.trans rfl))
  go_wp2_with (first
   | (refine toList (by rfl) ?_; refine ld hS _ _ (by rfl) _ _ (by rfl) (agOf (by rfl)) Has.z (HN5.out _ _) ?_)
   | (go_at_call 35; refine (HRT.out _ (HMK.out _ _ _ _ hS)).mono ?_; clear hS; rintro e w1 ⟨rfl, hS⟩))
  ((try simp only [Exit.then, Exit.inBlock, Exit.jump2_ret]); go_ret)
  rw [HBAD.out]
  exact ⟨rfl, hS⟩
 | true =>
 have HB := Lib.hid (show cmtBad S l next = false from HCB.out.trans rfl)
 have h1n : ¬ next < sn := of_decide_eq_false h1
 have h2n : ¬ 16777215 < next := of_decide_eq_false h2
 go_wp2_with (first
  | (refine toList (by rfl) ?_; refine ld hS _ _ (by rfl) _ _ (by rfl) (agOf (by rfl)) Has.z (HN5.out _ _) ?_)
  | (go_at_call 35; refine (HRT.out _ (HMK.out _ _ _ _ hS)).mono ?_; clear hS; rintro e w1 ⟨rfl, hS⟩))
 refine HKX.out _ _ ?_
 clear HKX KX HCB HRT h1 h2
 have HTB := Lib.hid (show totS l ≤ 80000 by omega)
 have HK := Lib.hid hk
 clear hk
 -- how many
 refine sep_part (fun KX HKX => ?_)
 go_wp2
 refine HKX.out _ _ ?_
 clear HKX KX
 refine sep_part (fun KX HKX => ?_)
 go_wp2
 have H0 := Lib.hid hS
 clear hS
 go_loopw [9, 50] (fun v9 v50 wz => CmN W L ps pd S D l v9 v50 wz) (fun _ v50 _ => lpM ln v50)
 case atStart => exact ⟨0, rfl, rfl, Nat.zero_le _, H0.out⟩
 case round =>
  clear H0
  obtain ⟨i, rfl, rfl, hi, hS⟩ := hrel
  rw [HLN.out] at hi
  by_cases hlt : i < ln
  ·have k1 : (i : Int) < (ln : Int) := by omega
   have HLT := Lib.hid hlt
   obtain ⟨pb, po, rfl, _⟩ := H5.out (by have := HLN.out; omega)
   obtain ⟨x, hx⟩ : ∃ x, l[i]? = some x := ⟨_, List.getElem?_eq_getElem (by have := HLN.out; omega)⟩
   have HXX := Lib.hid hx
   have hrs := HR.out _ [_, _] hS
   have hsx := hrs.2 x (List.mem_of_getElem? hx)
   have HRX := Lib.hid hrs.1
   have HS40 := Lib.hid (show ∀ x ∈ l, (setv x).length = 40 from fun x hx => setv_len ((hrs.2 x hx).pl))
   have HXL := Lib.hid (setv_len hsx.pl)
   have HX1 := Lib.hid (setv_one hsx)
   have G38 := Lib.hid (setv_p hsx.pl)
   obtain ⟨sv_, hsv⟩ : ∃ v, setv x = v := ⟨_, rfl⟩
   rw [hsv] at HXL HX1 G38
   have HSV := Lib.hid hsv
   obtain ⟨ap, cp, hpv⟩ : ∃ ao c, x.pval = .slice ao x.pieces.length c := by obtain ⟨ao, c, he, _⟩ := hsx.p; exact ⟨ao, c, he⟩
   obtain ⟨np, hnp⟩ : ∃ n, x.pieces.length = n := ⟨_, rfl⟩
   obtain ⟨of_, hof⟩ : ∃ n, offS l i = n := ⟨_, rfl⟩
   have hsum := offS_le hx
   have HOS := Lib.hid (offS_succ hx)
   rw [hof, hnp] at hsum HOS
   have hs1 : (of_ : Int) + (np : Int) ≤ 80000 := by have := HTB.out; omega
   rw [hpv, hnp] at G38
   rw [hof]
   clear hlt hi hx hrs hsx hsv hpv hnp hof hsum
   go_wp2_with (first | (refine toList (by rfl) ?_; refine al hS _ (by rfl) (zrOf (by rfl)) ?_; clear hS; intro p11 w1 hS; rw [cells_agg] at hS) | (refine toList (by rfl) ?_; refine stW hS _ _ _ (by rfl) (by rfl) sv_ (by rfl) HX1.out (by rw [HXL.out]; exact szOf (by rfl)) Has.z (by rw [HXL.out]; rfl) ?_; clear hS; intro w1 hS; rw [List.set_cons_zero] at hS) | (refine toList (by rfl) ?_; refine ld hS _ _ (by rfl) _ _ (by rfl) (agOf (by rfl)) Has.z G38.out ?_) | (refine toList (by rfl) ?_; refine wp_of_reads (v := .agg sv_.toArray) ((rLdRdA (f := setv) (x := x) HRX.out HS40.out _ _ (by rfl) _ (by rfl) (agOf (by rfl)) (szOf (by rfl)) i (by omega) HXX.out (by have := HLT.out; have := HLN.out; omega)).trans (by rw [HSV.out])) ?_))
   exact ⟨⟨i + 1, by go_num, by rw [HOS.out]; go_num, by rw [HLN.out]; exact HLT.out, hS.drop⟩, lpM_lt HLT.out⟩
  ·obtain rfl : i = ln := by omega
   have k1 : ¬ (i : Int) < (i : Int) := by omega
   have hot : offS l i = totS l := by rw [← HLN.out, offS_all]
   rw [hot]
   clear hlt hi hot
   go_wp2
   refine HKX.out _ _ ?_
   clear HKX
   -- the blocks
   refine sep_part (fun KX HKX => ?_)
   obtain ⟨fv, r, hS1⟩ := HMO.out _ _ hS
   clear hS
   have hS := hS1
   clear hS1
   have hk1 : Has _ 1 (IsMap fv S.U) := (Has.s Has.z : Has (Cs ps 85 (stv pd S.sup fv S.inos r S.last) :: IsMap fv S.U :: Tb 53 3 rv r S.recs :: IsDisk pd D :: L) 1 (IsMap fv S.U))
   unfold IsMap at hk1
   obtain ⟨fb, fo, fc, rfl, _⟩ := hS.slAddr hk1 (by decide)
   clear hk1
   obtain ⟨nb, hnb⟩ : ∃ n, D.blocks.length = n := ⟨_, rfl⟩
   have HNBL := Lib.hid hnb
   have hbl : S.sup.blocks = (nb : Int) := by rw [← hnb]; exact HOK.out.blocks
   have HBT := Lib.hid (show S.sup.blocks.toNat = nb by rw [hbl]; exact Int.toNat_natCast nb)
   have n1 : 160 ≤ nb := by rw [← hnb]; exact HOK.out.n1
   have n2 : nb ≤ 1024 := by rw [← hnb]; exact HOK.out.n2
   have G1 := Lib.hid (show (stv pd S.sup (.slice (some ⟨fb, fo, none⟩) 128 fc) S.inos r S.last)[1]? = some (.int .i64 (nb : Int)) by rw [stv_low (by decide), ← hbl]; rfl)
   have G8 := Lib.hid (stv_free (pd := pd) (s := S.sup) (fv := .slice (some ⟨fb, fo, none⟩) 128 fc) (X := S.inos) (r := r) (last := S.last))
   obtain ⟨tot, htot⟩ : ∃ n, totS l = n := ⟨_, rfl⟩
   have HTOT := Lib.hid htot
   rw [htot]
   have hti : (tot : Int) ≤ 80000 := by have := HTB.out; omega
   by_cases hno : (freeL S.U nb).length < tot
   ·have HTN := Lib.hid (fun w (h : Sat W w (Cs ps 85 (stv pd S.sup (.slice (some ⟨fb, fo, none⟩) 128 fc) S.inos r S.last) :: IsMap (.slice (some ⟨fb, fo, none⟩) 128 fc) S.U :: Tb 53 3 rv r S.recs :: IsDisk pd D :: L)) => take_no h S.U fb fo fc nb tot n2 (by omega) hno (map_rd (Has.s Has.z)))
    have HNO := Lib.hid (show commitS S D l next shown = (2, S, D) by
     unfold commitS
     rw [if_neg (by rw [HB.out]; decide), if_pos (by rw [HBT.out, HTOT.out]; exact hno)])
    clear hno hnb hbl n1 n2 htot
    go_wp2
    refine regStart [10] hS (by kernel_rfl) rfl ?_
    intro w1 hS1
    clear hS; have hS := hS1; clear hS1
    (refine rgP 0 hS (fun _ h => h) ?_; go_frame)
    (refine rgP 1 hS (fun _ h => h) ?_; go_frame)
    (refine rgP 2 hS (fun _ h => h) ?_; go_frame)
    (refine rgR 3 hS (fun _ h => h) ?_; (first
             | refine ⟨_, yLd _ _ (by rfl) _ _ (by rfl) (agOf (by rfl)) Has.z G1.out, ?_⟩
             | refine ⟨_, yLd _ _ (by rfl) _ _ (by rfl) (agOf (by rfl)) Has.z G8.out, ?_⟩); go_frame)
    (refine rgP 4 hS (fun _ h => h) ?_; go_frame)
    (refine rgP 5 hS (fun _ h => h) ?_; go_frame)
    (refine rgP 6 hS (fun _ h => h) ?_; go_frame)
    (refine rgP 7 hS (fun _ h => h) ?_; go_frame)
    (refine rgR 8 hS (fun _ h => h) ?_; (first
             | refine ⟨_, yLd _ _ (by rfl) _ _ (by rfl) (agOf (by rfl)) Has.z G1.out, ?_⟩
             | refine ⟨_, yLd _ _ (by rfl) _ _ (by rfl) (agOf (by rfl)) Has.z G8.out, ?_⟩); go_frame)
    (refine rgP 9 hS (fun _ h => h) ?_; go_frame)
    (refine rgA 10 true fun K hK => ?_; (refine Go.Sep.cl 36 _ _ (by rfl) (by rfl) (by kernel_rfl) (HTN.out _ hS) ?_; clear hS; rintro e w1 ⟨rfl, hS⟩; refine ⟨_, rfl, ?_⟩); refine hK _ _ _ hS (by first | (intro h; cases h; done) | exact fun _ _ h => h | exact fun _ _ h => h.drop | exact fun _ _ h => h.drop.drop | exact fun _ _ h => h.drop.pull1 | exact fun _ _ h => h.take2 | exact fun _ _ h => h.one Has.z | exact fun _ _ h => h.one (Has.s Has.z) | exact fun _ _ h => h.one (Has.s (Has.s Has.z))) ?_; clear hK K; go_frame)
    (refine rgP 11 hS (fun _ h => h) ?_; go_frame)
    (refine rgP 12 hS (fun _ h => h) ?_; go_frame)
    (refine rgP 13 hS (fun _ h => h) ?_; go_frame)
    (refine rgP 14 hS (fun _ h => h) ?_; go_frame)
    (refine rgP 15 hS (fun _ h => h) ?_; go_frame)
    refine regDone (by kernel_rfl) ?_
    refine HKX.out _ _ ?_
    go_wp2
    ((try simp only [Exit.then, Exit.inBlock, Exit.jump2_ret]); go_ret)
    rw [HNO.out]
    exact ⟨rfl, HMK.out _ _ _ _ hS⟩
   have hf : tot ≤ (freeL S.U nb).length := by omega
   have HF := Lib.hid (show totS l ≤ (freeL S.U S.sup.blocks.toNat).length by rw [HTOT.out, HBT.out]; exact hf)
   have htk : (freeL S.U nb).take tot = takS S l := by unfold takS; rw [HTOT.out, HBT.out]
   have HTN := Lib.hid (fun w (h : Sat W w (Cs ps 85 (stv pd S.sup (.slice (some ⟨fb, fo, none⟩) 128 fc) S.inos r S.last) :: IsMap (.slice (some ⟨fb, fo, none⟩) 128 fc) S.U :: Tb 53 3 rv r S.recs :: IsDisk pd D :: L)) => take_any h S.U fb fo fc nb tot n2 (by omega) hf (map_rd (Has.s Has.z)))
   rw [htk] at HTN
   have HS0 := Lib.hid (stv_sup (pd := pd) (s := S.sup) (fv := .slice (some ⟨fb, fo, none⟩) 128 fc) (X := S.inos) (r := r) (last := S.last))
   have HTKL := Lib.hid (show (takS S l).length = tot by rw [takS_len HF.out, HTOT.out])
   clear hno hnb hbl n1 n2 htot hf htk
   go_wp2
   refine regStart [10] hS (by kernel_rfl) rfl ?_
   intro w1 hS1
   clear hS; have hS := hS1; clear hS1
   (refine rgP 0 hS (fun _ h => h) ?_; go_frame)
   (refine rgP 1 hS (fun _ h => h) ?_; go_frame)
   (refine rgP 2 hS (fun _ h => h) ?_; go_frame)
   (refine rgR 3 hS (fun _ h => h) ?_; (first
          | refine ⟨_, yLd _ _ (by rfl) _ _ (by rfl) (agOf (by rfl)) Has.z G1.out, ?_⟩
          | refine ⟨_, yLd _ _ (by rfl) _ _ (by rfl) (agOf (by rfl)) Has.z G8.out, ?_⟩); go_frame)
   (refine rgP 4 hS (fun _ h => h) ?_; go_frame)
   (refine rgP 5 hS (fun _ h => h) ?_; go_frame)
   (refine rgP 6 hS (fun _ h => h) ?_; go_frame)
   (refine rgP 7 hS (fun _ h => h) ?_; go_frame)
   (refine rgR 8 hS (fun _ h => h) ?_; (first
          | refine ⟨_, yLd _ _ (by rfl) _ _ (by rfl) (agOf (by rfl)) Has.z G1.out, ?_⟩
          | refine ⟨_, yLd _ _ (by rfl) _ _ (by rfl) (agOf (by rfl)) Has.z G8.out, ?_⟩); go_frame)
   (refine rgP 9 hS (fun _ h => h) ?_; go_frame)
   (refine rgA 10 true fun K hK => ?_; (refine Go.Sep.cl 36 _ _ (by rfl) (by rfl) (by kernel_rfl) (HTN.out _ hS) ?_; rintro e w1 hE; obtain ⟨vt, rfl, hS1⟩ := hE; clear hS; have hS := hS1; clear hS1; refine ⟨_, rfl, ?_⟩); refine hK _ _ _ hS (by first | (intro h; cases h; done) | exact fun _ _ h => h | exact fun _ _ h => h.drop | exact fun _ _ h => h.drop.drop | exact fun _ _ h => h.drop.pull1 | exact fun _ _ h => h.take2 | exact fun _ _ h => h.one Has.z | exact fun _ _ h => h.one (Has.s Has.z) | exact fun _ _ h => h.one (Has.s (Has.s Has.z))) ?_; clear hK K; go_frame)
   (refine rgP 11 hS (fun _ h => h) ?_; go_frame)
   (refine rgP 12 hS (fun _ h => h) ?_; go_frame)
   (refine rgP 13 hS (fun _ h => h) ?_; go_frame)
   (refine rgP 14 hS (fun _ h => h) ?_; go_frame)
   (refine rgP 15 hS (fun _ h => h) ?_; go_frame)
   refine regDone (by kernel_rfl) ?_
   refine HKX.out _ _ ?_
   clear HKX HTN
   obtain ⟨at_, ct, rfl, _⟩ := hS.irShape Has.z
   rw [HTKL.out] at hS ⊢
   refine sep_part (fun KX HKX => ?_)
   go_wp2
   refine HKX.out _ _ ?_
   clear HKX
   refine sep_part (fun KX HKX => ?_)
   go_wp2_with (first
    | (refine toList (by rfl) ?_; refine Go.Sep.al hS _ (by rfl) (zrOf (by rfl)) ?_; clear hS; intro p14 w1 hS; rw [cells_agg] at hS)
    | (refine toList (by rfl) ?_; refine stW hS _ _ _ (by rfl) (by rfl) (sv S.sup) (by rfl) (sv_all _) (szOf (by rfl)) Has.z (by rfl) ?_; clear hS; intro w1 hS; rw [List.set_cons_zero] at hS)
    | (refine toList (by rfl) ?_; refine wp_of_reads (rLdA hS _ _ (by rfl) _ _ (by rfl) (agOf (by rfl)) (szOf (by rfl)) (Has.s Has.z) (vs := sv S.sup) HS0.out (by rfl)) ?_))
   refine HKX.out _ _ ?_
   clear HKX
   refine sep_part (fun KX HKX => ?_)
   go_wp2_with (refine toList (by rfl) ?_; refine Go.Sep.st hS _ _ _ (by rfl) _ _ (by rfl) _ (by first | exact evC | exact evT (by rfl)) (by rfl) (szOf (by rfl)) Has.z (by exact Nat.le_of_ble_eq_true rfl) ?_; clear hS; intro w1 hS; rw [List.set_cons_zero, sv_next] at hS)
   refine HKX.out _ _ ?_
   clear HKX
   refine sep_cut (cmJ1 W L ps pd p14 tot S D l next shown aq i cq (.slice (some ⟨fb, fo, none⟩) 128 fc) r (.slice at_ tot ct)) (fun KX HKX => ?_) ?_
   ·have HS1 := Lib.hid (show ∀ b, supC S next b = if b then { S.sup with next := next, shown := S.sup.records } else { S.sup with next := next } by
     intro b; unfold supC; cases b <;> rfl)
    have G3 := Lib.hid (show (sv { S.sup with next := next })[3]? = some (.int .i64 S.sup.records) from rfl)
    cases shown with
    | false =>
     go_wp2
     refine HKX.out _ _ ?_
     unfold cmJ1
     refine ⟨?_, rfl⟩
     rw [HS1.out]
     exact hS
    | true =>
     go_wp2_with (first
      | (refine toList (by rfl) ?_; refine ld hS _ _ (by rfl) _ _ (by rfl) (agOf (by rfl)) Has.z G3.out ?_)
      | (refine toList (by rfl) ?_; refine Go.Sep.st hS _ _ _ (by rfl) _ _ (by rfl) _ (by first | exact evC | exact evT (by rfl)) (by rfl) (szOf (by rfl)) Has.z (by exact Nat.le_of_ble_eq_true rfl) ?_; clear hS; intro w1 hS; rw [List.set_cons_zero, sv_shown] at hS))
     refine HKX.out _ _ ?_
     unfold cmJ1
     refine ⟨?_, rfl⟩
     rw [HS1.out]
     exact hS
   clear hS HS0
   rintro a wz hinv
   unfold cmJ1 at hinv
   obtain ⟨hrel, ha⟩ := hinv
   obtain ⟨z, hz⟩ : ∃ z : Nat → Value, ∀ i, a.tmps.getD i undef = z i := ⟨_, fun _ => rfl⟩
   simp only [hz] at hrel ha
   clear hz
   subst ha
   have hS := hrel
   clear hrel
   unfold cmR at hS
   rw [List.cons_append, List.cons_append, List.cons_append, List.cons_append, List.nil_append] at hS
   obtain ⟨sc, hsc⟩ : ∃ s, supC S next shown = s := ⟨_, rfl⟩
   have HSC := Lib.hid hsc
   rw [hsc] at hS
   have HEQ := fun u => eq_run u sc S.sup
   refine sep_cut (cmJ2 W L ps pd p14 tot S D l next shown aq i cq (.slice (some ⟨fb, fo, none⟩) 128 fc) r (.slice at_ tot ct)) (fun KX HKX => ?_) ?_
   ·by_cases hi0 : i = 0
    ·subst hi0
     have hl0 : l = [] := List.length_eq_zero_iff.1 HLN.out
     by_cases hsame : sc = S.sup
     ·rw [decide_eq_true hsame] at HEQ
      have HSM := Lib.hid (show commitS S D l next shown = (0, S, D) by
       unfold commitS
       rw [if_neg (by rw [HB.out]; decide), if_neg (by have := HF.out; omega), if_pos ⟨hl0, by rw [HSC.out]; exact hsame⟩])
      clear hsame hl0 hsc
      go_wp2
      refine regStart [] hS (by kernel_rfl) rfl ?_
      intro w1 hS1
      clear hS; have hS := hS1; clear hS1
      (refine rgP 0 hS (fun _ h => h) ?_; go_frame)
      (refine rgP 1 hS (fun _ h => h) ?_; go_frame)
      (refine rgP 2 hS (fun _ h => h) ?_; go_frame)
      (refine rgP 3 hS (fun _ h => h) ?_; go_frame)
      (first | (refine rgR 4 hS (fun _ h => h) ?_; (first
                   | refine ⟨_, yLdA _ _ (by rfl) _ _ (by rfl) (agOf (by rfl)) (szOf (by rfl)) Has.z (vs := sv sc) (by rfl) (by rfl), ?_⟩
                   | refine ⟨_, yLdA _ _ (by rfl) _ _ (by rfl) (agOf (by rfl)) (szOf (by rfl)) (Has.s (Has.s Has.z)) (vs := sv S.sup) (by rfl) (by rfl), ?_⟩); go_frame) | (refine rgN 4 hS (fun _ h => h) ?_; go_frame))
      (first | (refine rgP 5 hS (fun _ h => h) ?_; go_frame) | (refine rgN 5 hS (fun _ h => h) ?_; go_frame))
      (first | (refine rgP 6 hS (fun _ h => h) ?_; go_frame) | (refine rgN 6 hS (fun _ h => h) ?_; go_frame))
      (first | (refine rgP 7 hS (fun _ h => h) ?_; go_frame) | (refine rgN 7 hS (fun _ h => h) ?_; go_frame))
      (first | (refine rgR 8 hS (fun _ h => h) ?_; (first
                   | refine ⟨_, yLdA _ _ (by rfl) _ _ (by rfl) (agOf (by rfl)) (szOf (by rfl)) Has.z (vs := sv sc) (by rfl) (by rfl), ?_⟩
                   | refine ⟨_, yLdA _ _ (by rfl) _ _ (by rfl) (agOf (by rfl)) (szOf (by rfl)) (Has.s (Has.s Has.z)) (vs := sv S.sup) (by rfl) (by rfl), ?_⟩); go_frame) | (refine rgN 8 hS (fun _ h => h) ?_; go_frame))
      (first | (refine rgP 9 hS (fun _ h => h) ?_; go_frame) | (refine rgN 9 hS (fun _ h => h) ?_; go_frame))
      (refine rgP 10 hS (fun _ h => h) ?_; go_frame)
      refine regDone (by kernel_rfl) ?_
      go_wp2
      ((try simp only [Exit.then, Exit.inBlock, Exit.jump2_ret]); go_ret)
      rw [HSM.out]
      exact ⟨rfl, HMK.out _ _ _ _ (hS.drop.drop)⟩
     ·rw [decide_eq_false hsame] at HEQ
      have HNE := Lib.hid (show ¬ (l = [] ∧ supC S next shown = S.sup) by rw [hsc]; exact fun h => hsame h.2)
      clear hsame hl0 hsc
      go_wp2
      refine regStart [] hS (by kernel_rfl) rfl ?_
      intro w1 hS1
      clear hS; have hS := hS1; clear hS1
      (refine rgP 0 hS (fun _ h => h) ?_; go_frame)
      (refine rgP 1 hS (fun _ h => h) ?_; go_frame)
      (refine rgP 2 hS (fun _ h => h) ?_; go_frame)
      (refine rgP 3 hS (fun _ h => h) ?_; go_frame)
      (first | (refine rgR 4 hS (fun _ h => h) ?_; (first
                   | refine ⟨_, yLdA _ _ (by rfl) _ _ (by rfl) (agOf (by rfl)) (szOf (by rfl)) Has.z (vs := sv sc) (by rfl) (by rfl), ?_⟩
                   | refine ⟨_, yLdA _ _ (by rfl) _ _ (by rfl) (agOf (by rfl)) (szOf (by rfl)) (Has.s (Has.s Has.z)) (vs := sv S.sup) (by rfl) (by rfl), ?_⟩); go_frame) | (refine rgN 4 hS (fun _ h => h) ?_; go_frame))
      (first | (refine rgP 5 hS (fun _ h => h) ?_; go_frame) | (refine rgN 5 hS (fun _ h => h) ?_; go_frame))
      (first | (refine rgP 6 hS (fun _ h => h) ?_; go_frame) | (refine rgN 6 hS (fun _ h => h) ?_; go_frame))
      (first | (refine rgP 7 hS (fun _ h => h) ?_; go_frame) | (refine rgN 7 hS (fun _ h => h) ?_; go_frame))
      (first | (refine rgR 8 hS (fun _ h => h) ?_; (first
                   | refine ⟨_, yLdA _ _ (by rfl) _ _ (by rfl) (agOf (by rfl)) (szOf (by rfl)) Has.z (vs := sv sc) (by rfl) (by rfl), ?_⟩
                   | refine ⟨_, yLdA _ _ (by rfl) _ _ (by rfl) (agOf (by rfl)) (szOf (by rfl)) (Has.s (Has.s Has.z)) (vs := sv S.sup) (by rfl) (by rfl), ?_⟩); go_frame) | (refine rgN 8 hS (fun _ h => h) ?_; go_frame))
      (first | (refine rgP 9 hS (fun _ h => h) ?_; go_frame) | (refine rgN 9 hS (fun _ h => h) ?_; go_frame))
      (refine rgP 10 hS (fun _ h => h) ?_; go_frame)
      refine regDone (by kernel_rfl) ?_
      go_wp2
      refine HKX.out _ _ ?_
      unfold cmJ2
      refine ⟨⟨HNE.out, ?_⟩, rfl⟩
      rw [HSC.out]
      exact hS
    ·have e0 : ((i : Int) == 0) = false := beq_eq_false_iff_ne.2 (by omega)
     have HNE := Lib.hid (show ¬ (l = [] ∧ supC S next shown = S.sup) from fun h => hi0 (by rw [← HLN.out, h.1]; rfl))
     clear hi0 hsc HEQ
     go_wp2
     refine regStart [] hS (by kernel_rfl) rfl ?_
     intro w1 hS1
     clear hS; have hS := hS1; clear hS1
     (refine rgP 0 hS (fun _ h => h) ?_; go_frame)
     (refine rgP 1 hS (fun _ h => h) ?_; go_frame)
     (refine rgP 2 hS (fun _ h => h) ?_; go_frame)
     (refine rgP 3 hS (fun _ h => h) ?_; go_frame)
     (first | (refine rgR 4 hS (fun _ h => h) ?_; (first
                 | refine ⟨_, yLdA _ _ (by rfl) _ _ (by rfl) (agOf (by rfl)) (szOf (by rfl)) Has.z (vs := sv sc) (by rfl) (by rfl), ?_⟩
                 | refine ⟨_, yLdA _ _ (by rfl) _ _ (by rfl) (agOf (by rfl)) (szOf (by rfl)) (Has.s (Has.s Has.z)) (vs := sv S.sup) (by rfl) (by rfl), ?_⟩); go_frame) | (refine rgN 4 hS (fun _ h => h) ?_; go_frame))
     (first | (refine rgP 5 hS (fun _ h => h) ?_; go_frame) | (refine rgN 5 hS (fun _ h => h) ?_; go_frame))
     (first | (refine rgP 6 hS (fun _ h => h) ?_; go_frame) | (refine rgN 6 hS (fun _ h => h) ?_; go_frame))
     (first | (refine rgP 7 hS (fun _ h => h) ?_; go_frame) | (refine rgN 7 hS (fun _ h => h) ?_; go_frame))
     (first | (refine rgR 8 hS (fun _ h => h) ?_; (first
                 | refine ⟨_, yLdA _ _ (by rfl) _ _ (by rfl) (agOf (by rfl)) (szOf (by rfl)) Has.z (vs := sv sc) (by rfl) (by rfl), ?_⟩
                 | refine ⟨_, yLdA _ _ (by rfl) _ _ (by rfl) (agOf (by rfl)) (szOf (by rfl)) (Has.s (Has.s Has.z)) (vs := sv S.sup) (by rfl) (by rfl), ?_⟩); go_frame) | (refine rgN 8 hS (fun _ h => h) ?_; go_frame))
     (first | (refine rgP 9 hS (fun _ h => h) ?_; go_frame) | (refine rgN 9 hS (fun _ h => h) ?_; go_frame))
     (refine rgP 10 hS (fun _ h => h) ?_; go_frame)
     refine regDone (by kernel_rfl) ?_
     go_wp2
     refine HKX.out _ _ ?_
     unfold cmJ2
     refine ⟨⟨HNE.out, ?_⟩, rfl⟩
     rw [HSC.out]
     exact hS
   clear hS HEQ hsc
   rintro a wz hinv
   unfold cmJ2 at hinv
   obtain ⟨hrel, ha⟩ := hinv
   obtain ⟨z, hz⟩ : ∃ z : Nat → Value, ∀ i, a.tmps.getD i undef = z i := ⟨_, fun _ => rfl⟩
   simp only [hz] at hrel ha
   clear hz
   subst ha
   obtain ⟨hne, hS⟩ := hrel
   have HNE := Lib.hid hne
   clear hne
   rw [HSC.out] at hS
   unfold cmR at hS
   rw [List.cons_append, List.cons_append, List.cons_append, List.cons_append, List.nil_append] at hS
   refine sep_part (fun KX HKX => ?_)
   go_wp2
   refine HKX.out _ _ ?_
   clear HKX
   refine sep_part (fun KX HKX => ?_)
   go_wp2
   refine HKX.out _ _ ?_
   clear HKX
   have HXO := Lib.hid HOK.out.x
   have HXF := Lib.hid (HXO.out.flen)
   have HZX := Lib.hid (show zeroB Tryz.prog 83 = some (some (.agg (zX.flatMap inv).toArray)) by kernel_rfl)
   have HZXL := Lib.hid (show (zX.flatMap inv).length = 1776 from zX_ok.flen)
   have HIN := Lib.hid (stv_inos (pd := pd) (s := S.sup) (fv := .slice (some ⟨fb, fo, none⟩) 128 fc) (r := r) (last := S.last) HXO.out)
   have HI1 := Lib.hid (show ∀ v ∈ S.inos.flatMap inv, v.oneCell' = true from fun v hv => by
    obtain ⟨y, _, hy⟩ := List.mem_flatMap.1 hv
    exact inv_one _ v hy)
   obtain ⟨xi, hxi⟩ : ∃ v, S.inos.flatMap inv = v := ⟨_, rfl⟩
   have HXI := Lib.hid hxi
   rw [hxi] at HXF HIN HI1
   obtain ⟨zi, hzi⟩ : ∃ v, zX.flatMap inv = v := ⟨_, rfl⟩
   rw [hzi] at HZX HZXL
   clear hxi hzi
   refine sep_part (fun KX HKX => ?_)
   go_wp2_with (first
    | (refine toList (by rfl) ?_; refine Go.Sep.al hS _ (by rfl) HZX.out ?_; clear hS; intro p17 w1 hS; rw [cells_agg] at hS)
    | (refine toList (by rfl) ?_; refine stW hS _ _ _ (by rfl) (by rfl) xi (by rfl) HI1.out (by rw [HXF.out]; exact szOf (by rfl)) Has.z (by rw [HXF.out, HZXL.out]) ?_; clear hS; intro w1 hS; rw [List.set_cons_zero] at hS)
    | (refine toList (by rfl) ?_; refine wp_of_reads (rLdA hS _ _ (by rfl) _ _ (by rfl) (agOf (by rfl)) (szOf (by rfl)) (Has.s (Has.s Has.z)) (vs := xi) HIN.out HXF.out) ?_))
   refine HKX.out _ _ ?_
   clear HKX HZX HZXL zi
   refine sep_part (fun KX HKX => ?_)
   go_wp2
   refine HKX.out _ _ ?_
   clear HKX
   refine sep_part (fun KX HKX => ?_)
   go_wp2
   refine HKX.out _ _ ?_
   clear HKX
   refine sep_part (fun KX HKX => ?_)
   refine wp_label (show KX _ _ from ?_)
   refine HKX.out _ _ ?_
   clear HKX
   refine sep_part (fun KX HKX => ?_)
   go_wp2
   have H0 := Lib.hid (show CmL W L ps pd p14 p17 S D l sc (.slice (some ⟨fb, fo, none⟩) 128 fc) r (.slice at_ tot ct) (.int .i64 0) (.int .i64 0) (.int .i64 0) (.slice none 0 0) (.slice none 0 0) _ from
    ⟨0, [], D, rfl, rfl, rfl, Nat.zero_le _, rfl, rfl, by
     rw [← HXI.out] at hS
     have h1 := (hS.re [6, 3, 2, 0, 1, 4, 5])
     exact (((Sat.stNil (Sat.tbNil (Sat.irNil h1))).re [3, 4, 5, 6, 2, 1, 0]))⟩)
   clear hS
   go_loopw [103, 18, 19, 15, 16] (fun v103 v18 v19 v15 v16 wz => CmL W L ps pd p14 p17 S D l sc (.slice (some ⟨fb, fo, none⟩) 128 fc) r (.slice at_ tot ct) v103 v18 v19 v15 v16 wz) (fun v103 _ _ _ _ _ => lpM i v103)
   case atStart => exact H0.out
   case round =>
    clear H0
    obtain ⟨j, gws, D1, rfl, rfl, rfl, hj, hg, hrun, hS⟩ := hrel
    rw [HLN.out] at hj
    have HG := Lib.hid hg
    have HRUN := Lib.hid hrun
    clear hg hrun
    by_cases hlt : j < i
    ·have k1 : (j : Int) < (i : Int) := by omega
     have HLT := Lib.hid hlt
     obtain ⟨pb, po, rfl, _⟩ := H5.out (by have := HLN.out; omega)
     obtain ⟨x, hx⟩ : ∃ x, l[j]? = some x := ⟨_, List.getElem?_eq_getElem (by have := HLN.out; omega)⟩
     have HXX := Lib.hid hx
     have hxm := List.mem_of_getElem? hx
     have HXM := Lib.hid hxm
     obtain ⟨n, y, hq⟩ := HOK.out.setIn HRB.out HF.out hx
     have HQ := Lib.hid hq
     have hrs := HR.out _ [_, _, _, _, _, _, _, _, _, _] hS
     have hsx := hrs.2 x hxm
     have HRX := Lib.hid hrs.1
     have HS40 := Lib.hid (show ∀ x ∈ l, (setv x).length = 40 from fun x hx => setv_len ((hrs.2 x hx).pl))
     have HXL := Lib.hid (setv_len hsx.pl)
     have HX1 := Lib.hid (setv_one hsx)
     have G0 := Lib.hid (show (setv x)[0]? = some (.int .i64 (n : Int)) by rw [← hq.at_]; rfl)
     have G38 := Lib.hid (setv_p hsx.pl)
     have G39 := Lib.hid (setv_d hsx.pl)
     have GIN := Lib.hid (setv_ino hsx.pl)
     have HPX := Lib.hid hsx.pl
     have HS1 := Lib.hid hsx.s1
     have HS2 := Lib.hid hsx.s2
     obtain ⟨sv_, hsv⟩ : ∃ v, setv x = v := ⟨_, rfl⟩
     rw [hsv] at HXL HX1 G0 G38 G39 GIN
     have HSV := Lib.hid hsv
     obtain ⟨ap, cp, hpv⟩ : ∃ ao c, x.pval = .slice ao x.pieces.length c := by obtain ⟨ao, c, he, _⟩ := hsx.p; exact ⟨ao, c, he⟩
     obtain ⟨ad, cd, hdv⟩ : ∃ ao c, x.dval = .slice ao x.data.length c := by obtain ⟨ao, c, he, _⟩ := hsx.d; exact ⟨ao, c, he⟩
     obtain ⟨np, hnp⟩ : ∃ n, x.pieces.length = n := ⟨_, rfl⟩
     have hnd : x.data.length = np := by rw [hq.dl, hnp]
     obtain ⟨of_, hof⟩ : ∃ n, offS l j = n := ⟨_, rfl⟩
     have hsum := offS_le hx
     have HOS := Lib.hid (offS_succ hx)
     rw [hof, hnp] at hsum HOS
     rw [HTOT.out] at hsum
     have hs1 : (of_ : Int) + (np : Int) ≤ 80000 := by omega
     rw [hpv, hnp] at G38
     rw [hdv, hnd] at G39
     rw [hof]
     have hmine : ((takS S l).drop of_).take np = mineS S l j x := by unfold mineS; rw [hof, hnp]
     have HMN := Lib.hid (fun w M k (h : Sat W w M) (hk : Has M k (Ir (.slice at_ tot ct) (takS S l))) => (show Rd w (.slice (cutA at_ ct of_ 1) np (ct - of_)) np 1 (iv (mineS S l j x)) from by
      obtain ⟨ao, c, he, _, h3⟩ := sv_mine (h.irRdm HTKL.out hk) HTKL.out hsum
      simp only [Value.slice.injEq, true_and] at he
      obtain ⟨rfl, rfl⟩ := he
      rw [hmine] at h3
      exact h3))
     have HCT := Lib.hid (show of_ + np ≤ ct from by
      obtain ⟨ao, c, he, h2, _⟩ := sv_mine (hS.irRdm HTKL.out (Has.s (Has.s Has.z))) HTKL.out hsum
      simp only [Value.slice.injEq, true_and] at he
      obtain ⟨rfl, rfl⟩ := he
      exact h2)
     obtain ⟨am, ham⟩ : ∃ v, cutA at_ ct of_ 1 = v := ⟨_, rfl⟩
     obtain ⟨cm, hcm⟩ : ∃ v, ct - of_ = v := ⟨_, rfl⟩
     rw [ham, hcm] at HMN
     have HAM := Lib.hid ham
     have HCM := Lib.hid hcm
     have HNP := Lib.hid hnp
     have HND := Lib.hid hnd
     have HPV := Lib.hid hpv
     have HDV := Lib.hid hdv
     have HOF := Lib.hid hof
     have HML := Lib.hid (show (mineS S l j x).length = np by rw [mineS_len HF.out hx, hnp])
     have HSUM := Lib.hid hsum
     have HKT := Lib.hid (show k + tot ≤ 80000 by rw [← HTOT.out]; exact HK.out)
     have HDG1 := Lib.hid (show DG D1 (k + of_) from by
      have h := HD.out.run (datL S l j)
      rw [HRUN.out, datL_len HOK.out HRB.out HF.out j (by have := HLN.out; omega), hof] at h
      exact h)
     have HST0 := Lib.hid (show (stv pd S.sup (.slice (some ⟨fb, fo, none⟩) 128 fc) S.inos r S.last)[0]? = some (.pointer (some ⟨pd, 0, none⟩)) from rfl)
     clear hlt hj hx hxm hq hrs hsx hsv hpv hdv hnp hnd hof hsum hmine ham hcm
     go_wp2_with (first | (refine toList (by rfl) ?_; refine Go.Sep.al hS _ (by rfl) (zrOf (by rfl)) ?_; clear hS; intro p21 w1 hS; rw [cells_agg] at hS) | (refine toList (by rfl) ?_; refine stW hS _ _ _ (by rfl) (by rfl) sv_ (by rfl) HX1.out (by rw [HXL.out]; exact szOf (by rfl)) Has.z (by rw [HXL.out]; rfl) ?_; clear hS; intro w1 hS; rw [List.set_cons_zero] at hS) | (refine toList (by rfl) ?_; refine ld hS _ _ (by rfl) _ _ (by rfl) (agOf (by rfl)) Has.z G38.out ?_) | (refine toList (by rfl) ?_; refine ld hS _ _ (by rfl) _ _ (by rfl) (agOf (by rfl)) Has.z G39.out ?_) | (refine toList (by rfl) ?_; refine wp_of_reads (v := .slice am np cm) ((rCutM (lo := of_) (m := np) (by rfl) (by rfl) (by rfl) (by rfl) (by first | rfl | omega) (by omega) HCT.out (elOf (by rfl)) _).trans (by rw [HAM.out, HCM.out])) ?_) | (refine toList (by rfl) ?_; refine wp_of_reads (v := .agg sv_.toArray) ((rLdRdA (f := setv) (x := x) HRX.out HS40.out _ _ (by rfl) _ (by rfl) (agOf (by rfl)) (szOf (by rfl)) j (by omega) HXX.out (by have := HLT.out; have := HLN.out; omega)).trans (by rw [HSV.out])) ?_))
     have H1 := Lib.hid (show CmD W (Cs ps 85 (stv pd S.sup (.slice (some ⟨fb, fo, none⟩) 128 fc) S.inos r S.last) :: Ir (.slice at_ tot ct) (takS S l) :: Cs p17 83 ((inosS S l j).flatMap inv) :: Ir u16 (goneL S l j) :: Tb 95 2 gw u15 gws :: St (gws.map grow) :: Cs p14 77 (sv sc) :: IsMap (.slice (some ⟨fb, fo, none⟩) 128 fc) S.U :: Tb 53 3 rv r S.recs :: L) pd p21 S D1 l j x (.int .i64 0) (.int .i64 0) _ from ⟨0, D1, rfl, rfl, Nat.zero_le _, rfl, by rw [HSV.out]; exact hS.pull1⟩)
     clear hS
     go_loopw [122, 19] (fun v122 v19 wz => CmD W (Cs ps 85 (stv pd S.sup (.slice (some ⟨fb, fo, none⟩) 128 fc) S.inos r S.last) :: Ir (.slice at_ tot ct) (takS S l) :: Cs p17 83 ((inosS S l j).flatMap inv) :: Ir u16 (goneL S l j) :: Tb 95 2 gw u15 gws :: St (gws.map grow) :: Cs p14 77 (sv sc) :: IsMap (.slice (some ⟨fb, fo, none⟩) 128 fc) S.U :: Tb 53 3 rv r S.recs :: L) pd p21 S D1 l j x v122 v19 wz) (fun v122 _ _ => lpM np v122)
     case atStart => exact H1.out
     case round =>
      clear H1
      obtain ⟨q, D2, rfl, rfl, hq, hrun2, hS⟩ := hrel
      rw [HND.out] at hq
      have HRUN2 := Lib.hid hrun2
      clear hrun2
      have HDG2 := Lib.hid (show DG D2 (k + of_ + q) from by
       have h := HDG1.out.run (datW S l j x q)
       rw [HRUN2.out, datW_len] at h
       exact h)
      by_cases hql : q < np
      ·have k2 : (q : Int) < (np : Int) := by omega
       have HQL := Lib.hid hql
       have hsx := (HR.out _ [_, _, _, _, _, _, _, _, _, _, _] hS).2 x HXM.out
       have hrd := hsx.d
       rw [HDV.out, HND.out] at hrd
       obtain ⟨_, _, he, _, _, _, h7⟩ := id hrd
       simp only [Value.slice.injEq, true_and] at he
       obtain ⟨rfl, rfl⟩ := he
       obtain ⟨db, dbo, rfl, _⟩ := h7 (by omega)
       have HRD := Lib.hid hrd
       obtain ⟨d, hd⟩ : ∃ d, x.data[q]? = some d := ⟨_, List.getElem?_eq_getElem (by rw [HND.out]; exact hql)⟩
       obtain ⟨v, hv⟩ : ∃ v, x.dvs[q]? = some v := ⟨_, List.getElem?_eq_getElem (by rw [hsx.dl, HND.out]; exact hql)⟩
       obtain ⟨vc, vcc, rfl, _⟩ := hsx.b q v d hv hd
       have h128 : d.length = 128 := HQ.out.d128 d (List.mem_of_getElem? hd)
       rw [h128] at hv
       obtain ⟨p, hp⟩ : ∃ p, (mineS S l j x)[q]? = some p := ⟨_, List.getElem?_eq_getElem (by rw [HML.out]; exact hql)⟩
       have hmn := HMN.out _ _ 3 hS (Has.s (Has.s (Has.s Has.z)))
       obtain ⟨_, _, he, _, _, _, h8⟩ := id hmn
       simp only [Value.slice.injEq, true_and] at he
       obtain ⟨rfl, rfl⟩ := he
       obtain ⟨mb, mo, rfl, _⟩ := h8 (by omega)
       have HV := Lib.hid hv
       have HP := Lib.hid (iv_at hp)
       have hn := datW_run hp hd HRUN2.out
       have HWR := Lib.hid (fun w (h : Sat W w (IsDisk pd D2 :: Cs p21 36 (setv x) :: Cs ps 85 (stv pd S.sup (.slice (some ⟨fb, fo, none⟩) 128 fc) S.inos r S.last) :: Ir (.slice at_ tot ct) (takS S l) :: Cs p17 83 ((inosS S l j).flatMap inv) :: Ir u16 (goneL S l j) :: Tb 95 2 gw u15 gws :: St (gws.map grow) :: Cs p14 77 (sv sc) :: IsMap (.slice (some ⟨fb, fo, none⟩) 128 fc) S.U :: Tb 53 3 rv r S.recs :: L)) => writeD_any h HDG2.out (by have := HKT.out; have := HSUM.out; omega) (p : Int) (.slice vc 128 vcc) d h128 (fun w h => by
        have h3 := ((HR.out w [_, _, _, _, _, _, _, _, _, _] h).2 x HXM.out).b q _ d HV.out hd
        rw [h128] at h3
        exact h3))
       rw [h128] at hn HWR
       obtain ⟨c, hc⟩ : ∃ c, wcode D2 (p : Int) 128 = c := ⟨_, rfl⟩
       obtain ⟨D3, hD3⟩ : ∃ D3, wnext D2 (p : Int) d = D3 := ⟨_, rfl⟩
       rw [hc, hD3] at hn HWR
       have HN := Lib.hid hn
       clear hq hql hsx hrd h7 hd hv hp hmn h8 hn hc hD3
       by_cases hc0 : c = 0
       ·subst hc0
        go_wp2_with (refine toList (by rfl) ?_; refine wp_of_reads (rLdRd1 HRD.out _ _ (by rfl) _ (by rfl) (agOf (by rfl)) q (by omega) HV.out (by have := HQL.out; omega)) ?_)
        refine regStart [9] hS (by kernel_rfl) rfl ?_
        intro w1 hS1
        clear hS; have hS := hS1; clear hS1
        (refine rgP 0 hS (fun _ h => h) ?_; go_frame)
        (refine rgP 1 hS (fun _ h => h) ?_; go_frame)
        (refine rgP 2 hS (fun _ h => h) ?_; go_frame)
        (refine rgR 3 hS (fun _ h => h) ?_; (first
                         | refine ⟨_, yLd _ _ (by rfl) _ _ (by rfl) (agOf (by rfl)) (Has.s (Has.s Has.z)) HST0.out, ?_⟩
                         | refine ⟨_, fun w hS => rLdRd1 (HMN.out w _ 3 hS (Has.s (Has.s (Has.s Has.z)))) _ _ (by rfl) _ (by rfl) (agOf (by rfl)) q (by omega) HP.out (by have := HQL.out; omega), ?_⟩); go_frame)
        (refine rgP 4 hS (fun _ h => h) ?_; go_frame)
        (refine rgP 5 hS (fun _ h => h) ?_; go_frame)
        (refine rgP 6 hS (fun _ h => h) ?_; go_frame)
        (refine rgR 7 hS (fun _ h => h) ?_; (first
                         | refine ⟨_, yLd _ _ (by rfl) _ _ (by rfl) (agOf (by rfl)) (Has.s (Has.s Has.z)) HST0.out, ?_⟩
                         | refine ⟨_, fun w hS => rLdRd1 (HMN.out w _ 3 hS (Has.s (Has.s (Has.s Has.z)))) _ _ (by rfl) _ (by rfl) (agOf (by rfl)) q (by omega) HP.out (by have := HQL.out; omega), ?_⟩); go_frame)
        (refine rgP 8 hS (fun _ h => h) ?_; go_frame)
        (refine rgA 9 true fun K hK => ?_; (refine Go.Sep.cl 37 _ _ (by rfl) (by rfl) (by kernel_rfl) (HWR.out _ hS) ?_; clear hS; rintro e w1 ⟨rfl, hS⟩; refine ⟨_, rfl, ?_⟩); refine hK _ _ _ hS (by first | (intro h; cases h; done) | exact fun _ _ h => h | exact fun _ _ h => h.drop | exact fun _ _ h => h.drop.drop | exact fun _ _ h => h.drop.pull1 | exact fun _ _ h => h.take2 | exact fun _ _ h => h.one Has.z | exact fun _ _ h => h.one (Has.s Has.z) | exact fun _ _ h => h.one (Has.s (Has.s Has.z))) ?_; clear hK K; go_frame)
        (refine rgP 10 hS (fun _ h => h) ?_; go_frame)
        refine regDone (by kernel_rfl) ?_
        go_wp2
        exact ⟨⟨q + 1, D3, by go_num, rfl, by rw [HND.out]; exact HQL.out, HN.out, hS⟩, lpM_lt HQL.out⟩
       ·have e9 : (c != 0) = true := bne_iff_ne.2 hc0
        have HSTOP := Lib.hid (commitS_stop HB.out HF.out HNE.out (dat_stop HXX.out (by rw [HND.out]; exact HQL.out) HRUN.out HN.out hc0) hc0)
        clear hc0
        go_wp2_with (refine toList (by rfl) ?_; refine wp_of_reads (rLdRd1 HRD.out _ _ (by rfl) _ (by rfl) (agOf (by rfl)) q (by omega) HV.out (by have := HQL.out; omega)) ?_)
        refine regStart [9] hS (by kernel_rfl) rfl ?_
        intro w1 hS1
        clear hS; have hS := hS1; clear hS1
        (refine rgP 0 hS (fun _ h => h) ?_; go_frame)
        (refine rgP 1 hS (fun _ h => h) ?_; go_frame)
        (refine rgP 2 hS (fun _ h => h) ?_; go_frame)
        (refine rgR 3 hS (fun _ h => h) ?_; (first
                         | refine ⟨_, yLd _ _ (by rfl) _ _ (by rfl) (agOf (by rfl)) (Has.s (Has.s Has.z)) HST0.out, ?_⟩
                         | refine ⟨_, fun w hS => rLdRd1 (HMN.out w _ 3 hS (Has.s (Has.s (Has.s Has.z)))) _ _ (by rfl) _ (by rfl) (agOf (by rfl)) q (by omega) HP.out (by have := HQL.out; omega), ?_⟩); go_frame)
        (refine rgP 4 hS (fun _ h => h) ?_; go_frame)
        (refine rgP 5 hS (fun _ h => h) ?_; go_frame)
        (refine rgP 6 hS (fun _ h => h) ?_; go_frame)
        (refine rgR 7 hS (fun _ h => h) ?_; (first
                         | refine ⟨_, yLd _ _ (by rfl) _ _ (by rfl) (agOf (by rfl)) (Has.s (Has.s Has.z)) HST0.out, ?_⟩
                         | refine ⟨_, fun w hS => rLdRd1 (HMN.out w _ 3 hS (Has.s (Has.s (Has.s Has.z)))) _ _ (by rfl) _ (by rfl) (agOf (by rfl)) q (by omega) HP.out (by have := HQL.out; omega), ?_⟩); go_frame)
        (refine rgP 8 hS (fun _ h => h) ?_; go_frame)
        (refine rgA 9 true fun K hK => ?_; (refine Go.Sep.cl 37 _ _ (by rfl) (by rfl) (by kernel_rfl) (HWR.out _ hS) ?_; clear hS; rintro e w1 ⟨rfl, hS⟩; refine ⟨_, rfl, ?_⟩); refine hK _ _ _ hS (by first | (intro h; cases h; done) | exact fun _ _ h => h | exact fun _ _ h => h.drop | exact fun _ _ h => h.drop.drop | exact fun _ _ h => h.drop.pull1 | exact fun _ _ h => h.take2 | exact fun _ _ h => h.one Has.z | exact fun _ _ h => h.one (Has.s Has.z) | exact fun _ _ h => h.one (Has.s (Has.s Has.z))) ?_; clear hK K; go_frame)
        (refine rgP 10 hS (fun _ h => h) ?_; go_frame)
        refine regDone (by kernel_rfl) ?_
        go_wp2
        go_step3
        refine .inr ⟨rfl, ?_⟩
        go_wp2
        rw [Exit.noGoto_ret]
        go_ret
        rw [HSTOP.out]
        exact ⟨rfl, ((HMK.out _ _ _ _ (hS.re [2, 9, 10, 0, 1, 3, 4, 5, 6, 7, 8])).re [2, 3, 4, 5, 6, 7, 8, 0, 1]).drop.drop.drop.drop.drop.drop.drop⟩
      ·obtain rfl : q = np := by omega
       have k2 : ¬ (q : Int) < (q : Int) := by omega
       have hy := HQ.out.ino
       have HSI := Lib.hid (stv_ino (pd := pd) (s := S.sup) (fv := .slice (some ⟨fb, fo, none⟩) 128 fc) (r := r) (last := S.last) HXO.out hy)
       have HDN := Lib.hid (dat_step HXX.out HRUN.out (by rw [HND.out]; exact HRUN2.out))
       have HRP := Lib.hid (show ∀ w M, Sat W w (M ++ L) → Rd w (.slice ap q cp) q 1 (pv x.pieces) from fun w M h => by
        have := ((HR.out w M h).2 x HXM.out).p
        rw [HPV.out, HNP.out] at this
        exact this)
       have HNX := Lib.hid (fun w M k (h : Sat W w (M ++ L)) (hk : Has (M ++ L) k (Ir (.slice at_ tot ct) (takS S l))) =>
        (nextS_any h y x.ino HQ.out.oky HPX.out HS1.out HS2.out x.pieces (mineS S l j x) ap (.slice am q cm) cp HNP.out (fun w L' h => HRP.out w (L' ++ M) (by rw [List.append_assoc]; exact h)) (fun w L' h => by
         have h3 := HMN.out w _ _ h (has_add hk L')
         rw [HML.out]
         exact h3)).mono (fun e w' (hE : NxE W _ _ _ _ _ e w') => (show ∃ vg2, e = .returned (.tuple #[.agg (inv (newI S l j x)).toArray, vg2, .bool true]) ∧ Sat W w' (Ir vg2 (goneS S l j x) :: (M ++ L)) from by
          rcases hE with ⟨_, h⟩ | ⟨hn, _⟩
          ·unfold goneS
           rw [HQ.out.inoS, HQ.out.newE]
           exact h
          ·rw [HQ.out.next] at hn
           exact absurd hn (by decide))))
       have HIY := Lib.hid (show (inv y).length = 37 by rw [inv_len, HQ.out.oky.pl])
       have HIX := Lib.hid (show (inv x.ino).length = 37 by rw [inv_len, HPX.out])
       have HFLN := Lib.hid (show ((inosS S l j).flatMap inv).length = 1776 from (inosS_ok HOK.out HRB.out HF.out j (by have := HLN.out; have := HLT.out; omega)).flen)
       have HNI1 := Lib.hid (inv_one (newI S l j x))
       have HNIL := Lib.hid (show (inv (newI S l j x)).length = 37 by rw [inv_len, HQ.out.ok.pl])
       have HFS := Lib.hid (fm_inv_set (X := inosS S l j) (show XOk (inosS S l j) from inosS_ok HOK.out HRB.out HF.out j (by have := HLN.out; have := HLT.out; omega)) HQ.out.n48 (newI S l j x) HQ.out.ok.pl)
       rw [show (inosS S l j).set n (newI S l j x) = inosS S l (j + 1) by rw [inosS_succ HXX.out, HQ.out.at_, Int.toNat_natCast]] at HFS
       have HPUT := Lib.hid (fun w M (h : Sat W w M) => iput_any h (newI S l j x) HQ.out.ok)
       obtain ⟨iy, hiy⟩ : ∃ v, inv y = v := ⟨_, rfl⟩
       obtain ⟨ix, hix⟩ : ∃ v, inv x.ino = v := ⟨_, rfl⟩
       obtain ⟨ni, hni⟩ : ∃ v, inv (newI S l j x) = v := ⟨_, rfl⟩
       obtain ⟨ei, hei⟩ : ∃ v, encI (newI S l j x) = v := ⟨_, rfl⟩
       have HEI := Lib.hid hei
       have HNIT := Lib.hid (show (ni.drop 0).take 37 = ni by rw [← hni, List.drop_zero, List.take_of_length_le (by rw [HNIL.out]; exact Nat.le_refl _)])
       rw [hiy] at HSI HIY HNX
       rw [hix] at GIN HIX HNX
       rw [hni] at HNX HNI1 HNIL HFS HPUT
       rw [hei] at HPUT
       have HGA := Lib.hid (goneL_succ (S := S) HXX.out)
       have HWA := Lib.hid (wrI_succ (S := S) HXX.out)
       rw [hei, HQ.out.at_] at HWA
       obtain ⟨gone, hgone⟩ : ∃ g, goneS S l j x = g := ⟨_, rfl⟩
       rw [hgone] at HNX HGA
       have hgl : (goneL S l j).length + gone.length ≤ 1000 := by
        have h1 := (goneL_nd HOK.out HRB.out HF.out (j + 1) (by have := HLN.out; have := HLT.out; omega)).2
        rw [HGA.out, List.length_append] at h1
        have := (rightB_at HRB.out).1
        have := HLT.out
        have := HLN.out
        omega
       have hwl : gws.length ≤ 8 := by
        have h1 := congrArg List.length HG.out
        rw [g2_len, wrI_len j (by have := HLN.out; have := HLT.out; omega)] at h1
        have := (rightB_at HRB.out).1
        have := HLT.out
        have := HLN.out
        omega
       have HGL := Lib.hid hgl
       have HWL := Lib.hid hwl
       have HN48 := Lib.hid HQ.out.n48
       have n48 : (n : Int) < 48 := by have := HN48.out; omega
       rw [HSV.out] at hS
       have hS2 := hS.re [1, 2]
       clear hS
       have hS := hS2
       clear hS2 hq hql hy hiy hix hni hei hgone hgl hwl
       go_wp2
       refine regStart2 [12, 18] hS (fun _ h => h.take2) (by kernel_rfl) rfl ?_
       intro w1 hS1
       clear hS; have hS := hS1; clear hS1
       (refine rgP 0 hS (fun _ h => h.take2) ?_; go_frame)
       (refine rgP 1 hS (fun _ h => h.take2) ?_; go_frame)
       (refine rgR 2 hS (fun _ h => h.take2) ?_; (first
                      | refine ⟨_, yLd _ _ (by rfl) _ _ (by rfl) (agOf (by rfl)) Has.z G0.out, ?_⟩
                      | refine ⟨_, yLd _ _ (by rfl) _ _ (by rfl) (agOf (by rfl)) Has.z G38.out, ?_⟩
                      | refine ⟨_, yLdA _ _ (by rfl) _ _ (by rfl) (agOf (by rfl)) (szOf (by rfl)) (Has.s Has.z) (vs := iy) HSI.out HIY.out, ?_⟩
                      | refine ⟨_, yLdA _ _ (by rfl) _ _ (by rfl) (agOf (by rfl)) (szOf (by rfl)) Has.z (vs := ix) GIN.out HIX.out, ?_⟩); go_frame)
       (refine rgP 3 hS (fun _ h => h.take2) ?_; go_frame)
       (refine rgP 4 hS (fun _ h => h.take2) ?_; go_frame)
       (refine rgP 5 hS (fun _ h => h.take2) ?_; go_frame)
       (refine rgR 6 hS (fun _ h => h.take2) ?_; (first
                      | refine ⟨_, yLd _ _ (by rfl) _ _ (by rfl) (agOf (by rfl)) Has.z G0.out, ?_⟩
                      | refine ⟨_, yLd _ _ (by rfl) _ _ (by rfl) (agOf (by rfl)) Has.z G38.out, ?_⟩
                      | refine ⟨_, yLdA _ _ (by rfl) _ _ (by rfl) (agOf (by rfl)) (szOf (by rfl)) (Has.s Has.z) (vs := iy) HSI.out HIY.out, ?_⟩
                      | refine ⟨_, yLdA _ _ (by rfl) _ _ (by rfl) (agOf (by rfl)) (szOf (by rfl)) Has.z (vs := ix) GIN.out HIX.out, ?_⟩); go_frame)
       (refine rgP 7 hS (fun _ h => h.take2) ?_; go_frame)
       (refine rgR 8 hS (fun _ h => h.take2) ?_; (first
                      | refine ⟨_, yLd _ _ (by rfl) _ _ (by rfl) (agOf (by rfl)) Has.z G0.out, ?_⟩
                      | refine ⟨_, yLd _ _ (by rfl) _ _ (by rfl) (agOf (by rfl)) Has.z G38.out, ?_⟩
                      | refine ⟨_, yLdA _ _ (by rfl) _ _ (by rfl) (agOf (by rfl)) (szOf (by rfl)) (Has.s Has.z) (vs := iy) HSI.out HIY.out, ?_⟩
                      | refine ⟨_, yLdA _ _ (by rfl) _ _ (by rfl) (agOf (by rfl)) (szOf (by rfl)) Has.z (vs := ix) GIN.out HIX.out, ?_⟩); go_frame)
       (refine rgP 9 hS (fun _ h => h.take2) ?_; go_frame)
       (refine rgR 10 hS (fun _ h => h.take2) ?_; (first
                      | refine ⟨_, yLd _ _ (by rfl) _ _ (by rfl) (agOf (by rfl)) Has.z G0.out, ?_⟩
                      | refine ⟨_, yLd _ _ (by rfl) _ _ (by rfl) (agOf (by rfl)) Has.z G38.out, ?_⟩
                      | refine ⟨_, yLdA _ _ (by rfl) _ _ (by rfl) (agOf (by rfl)) (szOf (by rfl)) (Has.s Has.z) (vs := iy) HSI.out HIY.out, ?_⟩
                      | refine ⟨_, yLdA _ _ (by rfl) _ _ (by rfl) (agOf (by rfl)) (szOf (by rfl)) Has.z (vs := ix) GIN.out HIX.out, ?_⟩); go_frame)
       (refine rgP 11 hS (fun _ h => h.take2) ?_; go_frame)
       revert hS
       apply regJoin (fun (p25 _b2 _b3 : Nat) (vg2 _v2 _v3 : Value) w' => Sat W w' (Cs p25 33 (List.replicate 37 (.int .i64 0)) :: Ir vg2 gone :: Cs p21 36 sv_ :: Cs ps 85 (stv pd S.sup (.slice (some ⟨fb, fo, none⟩) 128 fc) S.inos r S.last) :: IsDisk pd D2 :: Ir (.slice at_ tot ct) (takS S l) :: Cs p17 83 ((inosS S l j).flatMap inv) :: Ir u16 (goneL S l j) :: Tb 95 2 gw u15 gws :: St (gws.map grow) :: Cs p14 77 (sv sc) :: IsMap (.slice (some ⟨fb, fo, none⟩) 128 fc) S.U :: Tb 53 3 rv r S.recs :: L)) ([Cs p21 36 sv_, Cs ps 85 (stv pd S.sup (.slice (some ⟨fb, fo, none⟩) 128 fc) S.inos r S.last)])
       case h1 =>
        intro hJ hS
        refine regM2 12 17 rfl rfl (by kernel_rfl) (by rfl) (by rfl) (by rfl) (by rfl) ?_ ?_
        ·intro K hK; ((first | refine Go.Sep.cl 38 _ _ (by rfl) (by rfl) (by kernel_rfl) (HNX.out _ [_, _, _, _, _, _, _, _, _, _, _] 3 hS (Has.s (Has.s (Has.s Has.z)))) ?_ | refine Go.Sep.cl 38 _ _ (by rfl) (by rfl) (by kernel_rfl) (HNX.out _ [_, _, _, _, _, _, _, _, _, _, _, _] 4 hS (Has.s (Has.s (Has.s (Has.s Has.z))))) ?_); clear hS; rintro e w1 ⟨vg2, rfl, hS⟩; refine ⟨_, rfl, ?_⟩); refine hK _ _ _ (hS.upTo (fun _ h => by first | exact h.take2 | exact h.drop.take2 | exact h.drop.drop.take2)) (fun _ h => h) ?_; clear hK K; go_frame
         (refine rgP 13 hS (fun _ h => by first | exact h.take2 | exact h.drop.take2 | exact h.drop.drop.take2) ?_; go_frame)
         (refine rgP 14 hS (fun _ h => by first | exact h.take2 | exact h.drop.take2 | exact h.drop.drop.take2) ?_; go_frame)
         (refine rgP 15 hS (fun _ h => by first | exact h.take2 | exact h.drop.take2 | exact h.drop.drop.take2) ?_; go_frame)
         (refine rgP 16 hS (fun _ h => by first | exact h.take2 | exact h.drop.take2 | exact h.drop.drop.take2) ?_; go_frame)
         (refine rgA 17 false fun K hK => ?_; (refine Go.Sep.al hS _ (by rfl) (zrOf (by rfl)) ?_; clear hS; intro p25 w1 hS; rw [cells_agg] at hS); refine hK _ _ _ (hS.upTo (fun _ h => by first | exact h.take2 | exact h.drop.take2 | exact h.drop.drop.take2)) (fun _ _ h => h) ?_; clear hK K; go_frame)
         refine (fun (g : Nat → Nat → Value → Value → _) => g 0 0 (.slice none 0 0) (.slice none 0 0)) ?_; intro x2 x3 y2 y3; first | exact hJ p25 x2 x3 vg2 y2 y3 _ hS | exact hJ p25 x2 x3 vg2 y2 y3 _ (hS.re [1, 0])
        ·intro K hK; (refine Go.Sep.al hS _ (by rfl) (zrOf (by rfl)) ?_; clear hS; intro p25 w1 hS; rw [cells_agg] at hS); refine hK _ _ _ (hS.upTo (fun _ h => by first | exact h.take2 | exact h.drop.take2 | exact h.drop.drop.take2)) (fun _ h => h) ?_; clear hK K; go_frame
         (refine rgA 12 true fun K hK => ?_; ((first | refine Go.Sep.cl 38 _ _ (by rfl) (by rfl) (by kernel_rfl) (HNX.out _ [_, _, _, _, _, _, _, _, _, _, _] 3 hS (Has.s (Has.s (Has.s Has.z)))) ?_ | refine Go.Sep.cl 38 _ _ (by rfl) (by rfl) (by kernel_rfl) (HNX.out _ [_, _, _, _, _, _, _, _, _, _, _, _] 4 hS (Has.s (Has.s (Has.s (Has.s Has.z))))) ?_); clear hS; rintro e w1 ⟨vg2, rfl, hS⟩; refine ⟨_, rfl, ?_⟩); refine hK _ _ _ (hS.upTo (fun _ h => by first | exact h.take2 | exact h.drop.take2 | exact h.drop.drop.take2)) (fun _ _ h => h) ?_; clear hK K; go_frame)
         (refine rgP 13 hS (fun _ h => by first | exact h.take2 | exact h.drop.take2 | exact h.drop.drop.take2) ?_; go_frame)
         (refine rgP 14 hS (fun _ h => by first | exact h.take2 | exact h.drop.take2 | exact h.drop.drop.take2) ?_; go_frame)
         (refine rgP 15 hS (fun _ h => by first | exact h.take2 | exact h.drop.take2 | exact h.drop.drop.take2) ?_; go_frame)
         (refine rgP 16 hS (fun _ h => by first | exact h.take2 | exact h.drop.take2 | exact h.drop.drop.take2) ?_; go_frame)
         refine (fun (g : Nat → Nat → Value → Value → _) => g 0 0 (.slice none 0 0) (.slice none 0 0)) ?_; intro x2 x3 y2 y3; first | exact hJ p25 x2 x3 vg2 y2 y3 _ hS | exact hJ p25 x2 x3 vg2 y2 y3 _ (hS.re [1, 0])
       intro p25 _ _ vg2 _ _ w1 hS
       (refine rgA 18 true fun K hK => ?_; (refine stW hS _ _ _ (by rfl) (by rfl) ni (by rfl) HNI1.out (by rw [HNIL.out]; exact szOf (by rfl)) Has.z (by rw [HNIL.out]; rfl) ?_; clear hS; intro w1 hS; dsimp only [List.set_cons_zero, List.set_cons_succ] at hS); refine hK _ _ _ hS (by first | (intro h; cases h; done) | exact fun _ _ h => h | exact fun _ _ h => h.drop | exact fun _ _ h => h.drop.drop | exact fun _ _ h => h.drop.pull1 | exact fun _ _ h => h.take2 | exact fun _ _ h => h.one Has.z | exact fun _ _ h => h.one (Has.s Has.z) | exact fun _ _ h => h.one (Has.s (Has.s Has.z))) ?_; clear hK K; go_frame)
       (refine rgP 19 hS (fun _ h => h) ?_; go_frame)
       (refine rgP 20 hS (fun _ h => h) ?_; go_frame)
       refine regDone (by kernel_rfl) ?_
       have hS2 : Sat W _ (_ :: _ :: _ :: _ :: _ :: _ :: _ :: _ :: _ :: _ :: _ :: _ :: _ :: L) := hS.re [0, 2, 6, 7, 1, 8]
       clear hS
       have hS := hS2
       clear hS2
       obtain ⟨aw0, cw0, hu15, _⟩ := hS.tbShape (k := 5) rfl
       subst hu15
       have HGROW := Lib.hid (show ∀ v, Sl 5 1 v 128 (bv ei) = grow ⟨26 + (n : Int), v, ei⟩ from fun v => by
        unfold grow
        rw [← HEI.out, encI_len _ HQ.out.ok.pl])
       have HMAP := Lib.hid (fun (x : GW) => (show gws.map grow ++ [grow x] = (gws ++ [x]).map grow by rw [List.map_append]; rfl))
       have HG2 := Lib.hid (show ∀ v, g2 (gws ++ [⟨26 + (n : Int), v, ei⟩]) = wrI S l (j + 1) from fun v => by
        rw [gr2_snoc, HG.out, HWA.out])
       have HOS2 := Lib.hid (show (of_ : Int) + (q : Int) = ((offS l (j + 1) : Nat) : Int) by rw [HOS.out]; omega)
       obtain ⟨ng, hng⟩ : ∃ n, gws.length = n := ⟨_, rfl⟩
       have HNG1 := Lib.hid (show ∀ x : GW, (gws ++ [x]).length = ng + 1 from fun x => by rw [List.length_append, hng]; rfl)
       rw [hng] at hS ⊢
       have HNG := Lib.hid hng
       clear hng
       go_wp2_with (first
        | (refine toList (by rfl) ?_; refine ld hS _ _ (by rfl) _ _ (by rfl) (agOf (by rfl)) (Has.s Has.z) G0.out ?_)
        | (refine toList (by rfl) ?_; refine ld hS _ _ (by rfl) _ _ (by rfl) (agOf (by rfl)) (Has.s (Has.s Has.z)) G0.out ?_)
        | (refine toList (by rfl) ?_; refine stA hS _ _ _ (by rfl) _ _ (by rfl) ni (by rfl) HNI1.out (by rw [HNIL.out]; exact szOf (by rfl)) (Has.s (Has.s Has.z)) (by rw [HNIL.out, HFLN.out]; have := HN48.out; omega) ?_; clear hS; intro w1 hS; dsimp only [List.set_cons_zero, List.set_cons_succ] at hS; rw [HNIL.out, HFS.out] at hS)
        | (go_at_call 39; refine (HPUT.out _ _ hS).mono ?_; clear hS; rintro e w1 ⟨v28, rfl, hS⟩; obtain ⟨b7, o7, c7, rfl, _⟩ := hS.slAddr (k := 0) rfl (by decide))
        | (refine toList (by rfl) ?_; refine bsF hS _ _ _ (by rfl) (elOf (by rfl)) [.agg (gw ⟨26 + (n : Int), .slice (some ⟨b7, o7, none⟩) 128 c7, ei⟩).toArray] (by rfl) (by rfl) (by decide) (by decide) (by simp [gw, Value.cells]) ?_; clear hS; intro b1 w1 hS; rw [agg1] at hS)
        | (at_builtin; refine toList (by rfl) ?_; refine apI hS _ _ _ _ (by rfl) (by rfl) (by rfl) (elOf (by rfl)) (by rfl) (by rfl) (by rfl) (inOf (by rfl)) (Has.s (Has.s (Has.s Has.z))) (m := gone) (by exact hS.irRd (Has.s (Has.s (Has.s (Has.s Has.z))))) (by have := HGL.out; omega) ?_; clear hS; intro vg3 w1 hS; dsimp only [List.set_cons_zero, List.set_cons_succ] at hS; rw [← HGA.out] at hS)
        | (at_builtin; refine toList (by rfl) ?_; refine apTbS hS _ _ _ _ (by rfl) _ _ (by rfl) (by rfl) (elOf (by rfl)) (by rfl) (by decide) (inOf (by rfl)) (Has.s (Has.s (Has.s (Has.s (Has.s (Has.s (Has.s Has.z))))))) [⟨26 + (n : Int), .slice (some ⟨b7, o7, none⟩) 128 c7, ei⟩] (fun _ _ => rfl) (by exact hS.src1 Has.z rfl) (by rw [fm1]; exact gw_one _ _) (by have := HWL.out; simp; omega) (by have := HWL.out; simp; omega) ?_; clear hS; intro aw cw w1 _ hS; dsimp only [List.set_cons_zero, List.set_cons_succ] at hS; rw [HNG1.out] at hS ⊢)
        | (refine toList (by rfl) ?_; refine wp_of_reads (rLdA hS _ _ (by rfl) _ _ (by rfl) (agOf (by rfl)) (szOf (by rfl)) Has.z (vs := ni) HNIT.out HNIL.out) ?_))
       have h3 := hS.drop.re [0, 10]
       rw [HGROW.out] at h3
       have h4 := Sat.stSnoc h3
       rw [HMAP.out] at h4
       exact ⟨⟨j + 1, _, D2, by go_num, by rw [HOS2.out], rfl, by rw [HLN.out]; exact HLT.out, HG2.out _, HDN.out, (h4.re [1, 2, 5, 8, 7, 9, 3, 4, 6, 0]).drop.drop.drop⟩, lpM_lt HLT.out⟩
    ·obtain rfl : j = i := by omega
     have k1 : ¬ (j : Int) < (j : Int) := by omega
     have HALL := Lib.hid (show runW D (datL S l l.length) = (0, D1) by rw [HLN.out]; exact HRUN.out)
     have HGA := Lib.hid (show g2 gws = wrI S l l.length by rw [HLN.out]; exact HG.out)
     have HDG1 := Lib.hid (show DG D1 (k + tot) from by
      have h := HD.out.run (datL S l l.length)
      rw [HALL.out, datL_len HOK.out HRB.out HF.out l.length (Nat.le_refl _), offS_all, HTOT.out] at h
      exact h)
     have HKT := Lib.hid (show k + tot ≤ 80000 by rw [← HTOT.out]; exact HK.out)
     have HGN := Lib.hid (goneL_nd HOK.out HRB.out HF.out l.length (Nat.le_refl _))
     have HGOK := Lib.hid (show GoneOk S.U nb (goneL S l l.length) from by rw [← HNBL.out]; exact HOK.out.goneOk HRB.out HF.out)
     have HL8 := Lib.hid (rightB_at HRB.out).1
     have HOS := Lib.hid (show okSup sc = true by rw [← HSC.out]; exact HOK.out.csup (by rw [HSN.out]; exact h1n) h2n shown)
     have HNXX := Lib.hid (show XOk (inosS S l l.length) from HOK.out.newX HRB.out HF.out)
     have HTAK := Lib.hid (show (freeL S.U nb).take tot = takS S l by unfold takS; rw [HTOT.out, HBT.out])
     have HNB := Lib.hid (show 160 ≤ nb ∧ nb ≤ 1024 by rw [← HNBL.out]; exact ⟨HOK.out.n1, HOK.out.n2⟩)
     have HTF := Lib.hid (show tot ≤ (freeL S.U nb).length by rw [← HTOT.out, ← HBT.out]; exact HF.out)
     rw [← HLN.out] at hS
     go_wp2
     refine HKX.out _ _ ?_
     clear HKX
     by_cases hj0 : j = 0
     ·subst hj0
      have hl0 : l = [] := List.length_eq_zero_iff.1 HLN.out
      have hwr : g2 gws ++ [(0, encS sc)] = wrC S l next shown := by
       unfold wrC
       rw [HGA.out, HSC.out, if_pos hl0, List.append_nil]
      have HMU := Lib.hid (show mapC S l = S.U from if_pos hl0)
      have hgw : gws.length ≤ 8 := by
       have h1 := congrArg List.length HGA.out
       rw [g2_len, wrI_len _ (Nat.le_refl _), HLN.out] at h1
       omega
      obtain ⟨aw0, cw0, hu15, _⟩ := hS.tbShape (k := 5) rfl
      subst hu15
      have HVL := Lib.hid (fun s => stv_len (pd := pd) (s := s) (fv := .slice (some ⟨fb, fo, none⟩) 128 fc) (r := r) (last := (S.last : Int)) HXO.out)
      have HVL2 := Lib.hid (stv_len (pd := pd) (s := sc) (fv := .slice (some ⟨fb, fo, none⟩) 128 fc) (r := r) (last := (S.last : Int)) HNXX.out)
      have HST := Lib.hid (stv_setSup (pd := pd) (s := S.sup) (s' := sc) (fv := .slice (some ⟨fb, fo, none⟩) 128 fc) (X := S.inos) (r := r) (last := (S.last : Int)))
      have HSI := Lib.hid (stv_setInos (pd := pd) (s := sc) (fv := .slice (some ⟨fb, fo, none⟩) 128 fc) (Y := inosS S l l.length) (r := r) (last := (S.last : Int)) HXO.out)
      have HSF := Lib.hid (show (stv pd sc (.slice (some ⟨fb, fo, none⟩) 128 fc) (inosS S l l.length) r (S.last : Int)).set 8 (.slice (some ⟨fb, fo, none⟩) 128 fc) = _ from stv_setFree)
      have HSO := Lib.hid (show ∀ v ∈ sv sc, v.oneCell' = true from sv_all _)
      have HXNL := Lib.hid (show ((inosS S l l.length).flatMap inv).length = 1776 from HNXX.out.flen)
      have HXN1 := Lib.hid (show ∀ v ∈ (inosS S l l.length).flatMap inv, v.oneCell' = true from fun v hv => by
       obtain ⟨y, _, hy⟩ := List.mem_flatMap.1 hv
       exact inv_one _ v hy)
      have HXNT := Lib.hid (show (((inosS S l l.length).flatMap inv).drop 0).take 1776 = (inosS S l l.length).flatMap inv by rw [List.drop_zero, List.take_of_length_le (by rw [HXNL.out]; exact Nat.le_refl _)])
      have HMK2 := Lib.hid (fun w M fv (h : Sat W w (Cs ps 85 (stv pd sc fv (inosS S l l.length) r S.last) :: IsMap fv (mapC S l) :: Tb 53 3 rv r S.recs :: M)) => IsSt.mk (S := S.committed l next shown) (by
       show Sat W w (Cs ps 85 (stv pd (supC S next shown) fv (inosS S l l.length) r S.last) :: IsMap fv (mapC S l) :: Tb 53 3 rv r S.recs :: M)
       rw [HSC.out]
       exact h))
      have HG := Lib.hid (fun w xv_ (h : Sat W w (Tb 95 2 gw xv_ gws :: Cs p14 77 (sv sc) :: Cs p17 83 ((inosS S l l.length).flatMap inv) :: Cs ps 85 (stv pd S.sup (.slice (some ⟨fb, fo, none⟩) 128 fc) S.inos r S.last) :: IsMap (.slice (some ⟨fb, fo, none⟩) 128 fc) S.U :: Tb 53 3 rv r S.recs :: IsDisk pd D1 :: St (gws.map grow) :: Ir (.slice at_ tot ct) (takS S l) :: Ir u16 (goneL S l l.length) :: L)) =>
       group_open (L := Cs p14 77 (sv sc) :: Cs p17 83 ((inosS S l l.length).flatMap inv) :: IsMap (.slice (some ⟨fb, fo, none⟩) 128 fc) S.U :: Tb 53 3 rv r S.recs :: St (gws.map grow) :: Ir (.slice at_ tot ct) (takS S l) :: Ir u16 (goneL S l l.length) :: L) (h.re [0, 3, 6]) rfl HDG1.out (by have := HKT.out; omega) sc HOS.out (by omega) (fun w L' h x hx => by
        obtain ⟨q, hq⟩ := List.getElem?_of_mem hx
        obtain ⟨L2, h2⟩ := h.stAt (j := q) (A := grow x) (has_add (Has.s (Has.s (Has.s (Has.s Has.z)))) L') (by unfold Has; rw [List.getElem?_map, hq]; rfl)
        exact h2.slRd Has.z))
      rw [hwr] at HG
      obtain ⟨cc, hcc⟩ : ∃ x, commitR D1 (wrC S l next shown) = x := ⟨_, rfl⟩
      obtain ⟨c, D2⟩ := cc
      rw [hcc] at HG
      have HCD := Lib.hid (commitS_done HB.out HF.out HNE.out HALL.out hcc)
      have hS2 : Sat W _ (_ :: _ :: _ :: _ :: _ :: _ :: _ :: _ :: _ :: _ :: L) := hS.re [5, 7, 3, 1, 8, 9, 0, 6, 2, 4]
      clear hS
      have hS := hS2
      clear hS2 hl0 hwr hgw hcc
      by_cases hc0 : c = 0
      ·subst hc0
       go_wp2_with (first
        | (refine toList (by rfl) ?_; refine ld hS _ _ (by rfl) _ _ (by rfl) (agOf (by rfl)) (Has.s (Has.s (Has.s Has.z))) G8.out ?_)
        | (go_at_call 41; refine (HG.out _ _ hS).mono ?_; clear hS; rintro e w1 ⟨rfl, hS⟩)
        | (refine toList (by rfl) ?_; refine wp_of_reads (rLdA hS _ _ (by rfl) _ _ (by rfl) (agOf (by rfl)) (szOf (by rfl)) (Has.s Has.z) (vs := sv sc) (by rfl) (by rfl)) ?_))
       refine regStart2 [11, 14] hS (fun _ h => h.drop.drop.take2) (by kernel_rfl) rfl ?_
       intro w1 hS1
       clear hS; have hS := hS1; clear hS1
       (refine rgP 0 hS (fun _ h => h.drop.drop.take2) ?_; go_frame)
       (refine rgP 1 hS (fun _ h => h.drop.drop.take2) ?_; go_frame)
       (refine rgP 2 hS (fun _ h => h.drop.drop.take2) ?_; go_frame)
       (refine rgR 3 hS (fun _ h => h.drop.drop.take2) ?_; (first
                      | refine ⟨_, yLdA _ _ (by rfl) _ _ (by rfl) (agOf (by rfl)) (szOf (by rfl)) Has.z (vs := sv sc) (by rfl) (by rfl), ?_⟩
                      | refine ⟨_, yLdA _ _ (by rfl) _ _ (by rfl) (agOf (by rfl)) (szOf (by rfl)) (Has.s Has.z) (vs := (inosS S l l.length).flatMap inv) HXNT.out HXNL.out, ?_⟩); go_frame)
       (refine rgR 4 hS (fun _ h => h.drop.drop.take2) ?_; (first
                      | refine ⟨_, yLdA _ _ (by rfl) _ _ (by rfl) (agOf (by rfl)) (szOf (by rfl)) Has.z (vs := sv sc) (by rfl) (by rfl), ?_⟩
                      | refine ⟨_, yLdA _ _ (by rfl) _ _ (by rfl) (agOf (by rfl)) (szOf (by rfl)) (Has.s Has.z) (vs := (inosS S l l.length).flatMap inv) HXNT.out HXNL.out, ?_⟩); go_frame)
       (refine rgP 5 hS (fun _ h => h.drop.drop.take2) ?_; go_frame)
       (refine rgP 6 hS (fun _ h => h.drop.drop.take2) ?_; go_frame)
       (refine rgP 7 hS (fun _ h => h.drop.drop.take2) ?_; go_frame)
       (refine rgA 8 false fun K hK => ?_; (first
                      | (refine stA hS _ _ _ (by rfl) _ _ (by rfl) (sv sc) (by rfl) HSO.out (by exact szOf (by rfl)) Has.z (by rw [HVL.out]; show 8 ≤ 1787; decide) ?_; clear hS; intro w1 hS; rw [List.set_cons_zero, show 1 + (sv sc).length = 8 from rfl, HST.out] at hS)
                      | (refine stA hS _ _ _ (by rfl) _ _ (by rfl) ((inosS S l l.length).flatMap inv) (by rfl) HXN1.out (by rw [HXNL.out]; exact szOf (by rfl)) Has.z (by rw [HVL.out, HXNL.out]; show 9 + 1776 ≤ 1787; decide) ?_; clear hS; intro w1 hS; rw [List.set_cons_zero, HXNL.out, show 9 + 1776 = 1785 from rfl, HSI.out] at hS)
                      | (refine Go.Sep.st hS _ _ _ (by rfl) _ _ (by rfl) _ (by first | exact evC | exact evT (by rfl)) (by rfl) (szOf (by rfl)) Has.z (by rw [HVL2.out]; decide) ?_; clear hS; intro w1 hS; rw [List.set_cons_zero, HSF.out] at hS)); refine hK _ _ _ (hS.upTo (fun _ h => by exact h.drop.drop.take2)) (fun _ _ h => h) ?_; clear hK K; go_frame)
       (refine rgP 9 hS (fun _ h => by exact h.drop.drop.take2) ?_; go_frame)
       (refine rgP 10 hS (fun _ h => by exact h.drop.drop.take2) ?_; go_frame)
       (refine rgA 11 true fun K hK => ?_; (first
                      | (refine stA hS _ _ _ (by rfl) _ _ (by rfl) (sv sc) (by rfl) HSO.out (by exact szOf (by rfl)) Has.z (by rw [HVL.out]; show 8 ≤ 1787; decide) ?_; clear hS; intro w1 hS; rw [List.set_cons_zero, show 1 + (sv sc).length = 8 from rfl, HST.out] at hS)
                      | (refine stA hS _ _ _ (by rfl) _ _ (by rfl) ((inosS S l l.length).flatMap inv) (by rfl) HXN1.out (by rw [HXNL.out]; exact szOf (by rfl)) Has.z (by rw [HVL.out, HXNL.out]; show 9 + 1776 ≤ 1787; decide) ?_; clear hS; intro w1 hS; rw [List.set_cons_zero, HXNL.out, show 9 + 1776 = 1785 from rfl, HSI.out] at hS)
                      | (refine Go.Sep.st hS _ _ _ (by rfl) _ _ (by rfl) _ (by first | exact evC | exact evT (by rfl)) (by rfl) (szOf (by rfl)) Has.z (by rw [HVL2.out]; decide) ?_; clear hS; intro w1 hS; rw [List.set_cons_zero, HSF.out] at hS)); refine hK _ _ _ hS (by first | (intro h; cases h; done) | exact fun _ _ h => h | exact fun _ _ h => h.drop | exact fun _ _ h => h.drop.drop | exact fun _ _ h => h.drop.pull1 | exact fun _ _ h => h.take2 | exact fun _ _ h => h.one Has.z | exact fun _ _ h => h.one (Has.s Has.z) | exact fun _ _ h => h.one (Has.s (Has.s Has.z))) ?_; clear hK K; go_frame)
       (refine rgP 12 hS (fun _ h => h) ?_; go_frame)
       (refine rgP 13 hS (fun _ h => h) ?_; go_frame)
       (refine rgA 14 true fun K hK => ?_; (first
                      | (refine stA hS _ _ _ (by rfl) _ _ (by rfl) (sv sc) (by rfl) HSO.out (by exact szOf (by rfl)) Has.z (by rw [HVL.out]; show 8 ≤ 1787; decide) ?_; clear hS; intro w1 hS; rw [List.set_cons_zero, show 1 + (sv sc).length = 8 from rfl, HST.out] at hS)
                      | (refine stA hS _ _ _ (by rfl) _ _ (by rfl) ((inosS S l l.length).flatMap inv) (by rfl) HXN1.out (by rw [HXNL.out]; exact szOf (by rfl)) Has.z (by rw [HVL.out, HXNL.out]; show 9 + 1776 ≤ 1787; decide) ?_; clear hS; intro w1 hS; rw [List.set_cons_zero, HXNL.out, show 9 + 1776 = 1785 from rfl, HSI.out] at hS)
                      | (refine Go.Sep.st hS _ _ _ (by rfl) _ _ (by rfl) _ (by first | exact evC | exact evT (by rfl)) (by rfl) (szOf (by rfl)) Has.z (by rw [HVL2.out]; decide) ?_; clear hS; intro w1 hS; rw [List.set_cons_zero, HSF.out] at hS)); refine hK _ _ _ hS (by first | (intro h; cases h; done) | exact fun _ _ h => h | exact fun _ _ h => h.drop | exact fun _ _ h => h.drop.drop | exact fun _ _ h => h.drop.pull1 | exact fun _ _ h => h.take2 | exact fun _ _ h => h.one Has.z | exact fun _ _ h => h.one (Has.s Has.z) | exact fun _ _ h => h.one (Has.s (Has.s Has.z))) ?_; clear hK K; go_frame)
       refine regDone (by kernel_rfl) ?_
       go_wp2
       first
        | (rename_i K hK; refine wp_label (show K _ _ from ?_); refine hK _ _ ?_)
        | (rename_i K hK _; refine wp_label (show K _ _ from ?_); refine hK _ _ ?_)
        | (rename_i K hK _ _; refine wp_label (show K _ _ from ?_); refine hK _ _ ?_)
        | (rename_i K hK _ _ _; refine wp_label (show K _ _ from ?_); refine hK _ _ ?_)
        | (rename_i K hK _ _ _ _; refine wp_label (show K _ _ from ?_); refine hK _ _ ?_)
        | (rename_i K hK _ _ _ _ _; refine wp_label (show K _ _ from ?_); refine hK _ _ ?_)
        | (rename_i K hK _ _ _ _ _ _; refine wp_label (show K _ _ from ?_); refine hK _ _ ?_)
       go_wp2
       ((try simp only [Exit.then, Exit.inBlock, Exit.jump2_ret]); go_ret)
       rw [HCD.out]
       exact ⟨rfl, ((HMK2.out _ _ _ (show Sat W _ (_ :: IsMap _ (mapC S l) :: _) by rw [HMU.out]; exact hS.re [0, 4, 5, 1])).re [2, 3, 4, 5, 6]).drop.drop.drop.drop.drop⟩
      ·have e9 : (c == 0) = false := beq_eq_false_iff_ne.2 hc0
       rw [if_neg hc0] at HCD
       clear hc0
       go_wp2_with (first
        | (refine toList (by rfl) ?_; refine ld hS _ _ (by rfl) _ _ (by rfl) (agOf (by rfl)) (Has.s (Has.s (Has.s Has.z))) G8.out ?_)
        | (go_at_call 41; refine (HG.out _ _ hS).mono ?_; clear hS; rintro e w1 ⟨rfl, hS⟩)
        | (refine toList (by rfl) ?_; refine wp_of_reads (rLdA hS _ _ (by rfl) _ _ (by rfl) (agOf (by rfl)) (szOf (by rfl)) (Has.s Has.z) (vs := sv sc) (by rfl) (by rfl)) ?_))
       first
        | (rename_i K hK; refine wp_label (show K _ _ from ?_); refine hK _ _ ?_)
        | (rename_i K hK _; refine wp_label (show K _ _ from ?_); refine hK _ _ ?_)
        | (rename_i K hK _ _; refine wp_label (show K _ _ from ?_); refine hK _ _ ?_)
        | (rename_i K hK _ _ _; refine wp_label (show K _ _ from ?_); refine hK _ _ ?_)
        | (rename_i K hK _ _ _ _; refine wp_label (show K _ _ from ?_); refine hK _ _ ?_)
        | (rename_i K hK _ _ _ _ _; refine wp_label (show K _ _ from ?_); refine hK _ _ ?_)
        | (rename_i K hK _ _ _ _ _ _; refine wp_label (show K _ _ from ?_); refine hK _ _ ?_)
       go_wp2
       ((try simp only [Exit.then, Exit.inBlock, Exit.jump2_ret]); go_ret)
       rw [HCD.out]
       exact ⟨rfl, ((HMK.out _ _ _ _ (hS.re [0, 4, 5, 1])).re [2, 3, 4, 5, 6]).drop.drop.drop.drop.drop⟩
     ·have hl0 : l ≠ [] := fun e => hj0 (by rw [← HLN.out, e]; rfl)
      have hji : (0 : Int) < (j : Int) := by omega
      obtain ⟨ag, cg, hu16, _⟩ := hS.irShape (Has.s (Has.s (Has.s (Has.s Has.z))))
      subst hu16
      obtain ⟨aw0, cw0, hu15, _⟩ := hS.tbShape (k := 5) rfl
      subst hu15
      have HMC := Lib.hid (show moreU (lessU S.U (goneL S l l.length)) (takS S l) = mapC S l by unfold mapC; rw [if_neg hl0])
      have HPL := Lib.hid (fun w (h : Sat W w (IsDisk pd D1 :: Cs ps 85 (stv pd S.sup (.slice (some ⟨fb, fo, none⟩) 128 fc) S.inos r S.last) :: Ir (.slice at_ tot ct) (takS S l) :: Cs p17 83 ((inosS S l l.length).flatMap inv) :: Ir (.slice ag (goneL S l l.length).length cg) (goneL S l l.length) :: Tb 95 2 gw (.slice aw0 gws.length cw0) gws :: St (gws.map grow) :: Cs p14 77 (sv sc) :: IsMap (.slice (some ⟨fb, fo, none⟩) 128 fc) S.U :: Tb 53 3 rv r S.recs :: L)) =>
       plan_ok h S.U fb fo fc nb tot HNB.out.2 (by have := HNB.out.1; omega) HTF.out (map_rd (Has.s (Has.s (Has.s (Has.s (Has.s (Has.s (Has.s (Has.s Has.z))))))))) (goneL S l l.length) ag cg (fun w L' h => h.irRd (has_add (Has.s (Has.s (Has.s (Has.s Has.z)))) L')) HGOK.out (by have := HGN.out.2; have := HL8.out; omega))
      unfold PlE at HPL
      rw [HTAK.out, HMC.out] at HPL
      obtain ⟨ng, hng⟩ : ∃ n, gws.length = n := ⟨_, rfl⟩
      have hgw : gws.length ≤ 8 := by
       have h1 := congrArg List.length HGA.out
       rw [g2_len, wrI_len _ (Nat.le_refl _)] at h1
       have := HL8.out
       omega
      have HGWL := Lib.hid hgw
      have HXNG := Lib.hid (show ∀ x : GW, (gws ++ [x]).length = ng + 1 from fun x => by rw [List.length_append, hng]; rfl)
      clear hj0 hgw
      go_wp2_with (refine toList (by rfl) ?_; refine ld hS _ _ (by rfl) _ _ (by rfl) (agOf (by rfl)) (Has.s Has.z) G8.out ?_)
      refine regStart [11] hS (by kernel_rfl) rfl ?_
      intro w1 hS1
      clear hS; have hS := hS1; clear hS1
      (refine rgP 0 hS (fun _ h => h) ?_; go_frame)
      (refine rgP 1 hS (fun _ h => h) ?_; go_frame)
      (refine rgP 2 hS (fun _ h => h) ?_; go_frame)
      (refine rgR 3 hS (fun _ h => h) ?_; (first
                   | refine ⟨_, yLd _ _ (by rfl) _ _ (by rfl) (agOf (by rfl)) (Has.s Has.z) G1.out, ?_⟩
                   | refine ⟨_, yLd _ _ (by rfl) _ _ (by rfl) (agOf (by rfl)) (Has.s Has.z) G8.out, ?_⟩); go_frame)
      (refine rgP 4 hS (fun _ h => h) ?_; go_frame)
      (refine rgP 5 hS (fun _ h => h) ?_; go_frame)
      (refine rgP 6 hS (fun _ h => h) ?_; go_frame)
      (refine rgP 7 hS (fun _ h => h) ?_; go_frame)
      (refine rgR 8 hS (fun _ h => h) ?_; (first
                   | refine ⟨_, yLd _ _ (by rfl) _ _ (by rfl) (agOf (by rfl)) (Has.s Has.z) G1.out, ?_⟩
                   | refine ⟨_, yLd _ _ (by rfl) _ _ (by rfl) (agOf (by rfl)) (Has.s Has.z) G8.out, ?_⟩); go_frame)
      (refine rgP 9 hS (fun _ h => h) ?_; go_frame)
      (refine rgP 10 hS (fun _ h => h) ?_; go_frame)
      (refine rgA 11 true fun K hK => ?_; (refine Go.Sep.cl 40 _ _ (by rfl) (by rfl) (by kernel_rfl) (HPL.out _ hS) ?_; rintro e w1 hE; obtain ⟨vt2, vm, rfl, hS1⟩ := hE; clear hS; have hS := hS1; clear hS1; refine ⟨_, rfl, ?_⟩); refine hK _ _ _ hS (by first | (intro h; cases h; done) | exact fun _ _ h => h | exact fun _ _ h => h.drop | exact fun _ _ h => h.drop.drop | exact fun _ _ h => h.drop.pull1 | exact fun _ _ h => h.take2 | exact fun _ _ h => h.one Has.z | exact fun _ _ h => h.one (Has.s Has.z) | exact fun _ _ h => h.one (Has.s (Has.s Has.z))) ?_; clear hK K; go_frame)
      (refine rgP 12 hS (fun _ h => h) ?_; go_frame)
      (refine rgP 13 hS (fun _ h => h) ?_; go_frame)
      (refine rgP 14 hS (fun _ h => h) ?_; go_frame)
      (refine rgP 15 hS (fun _ h => h) ?_; go_frame)
      (refine rgP 16 hS (fun _ h => h) ?_; go_frame)
      refine regDone (by kernel_rfl) ?_
      have HX1 := Lib.hid (show ∀ (w : World), Sat W w (Ir vt2 (takS S l) :: IsMap vm (mapC S l) :: L) → ∃ b o c, vm = .slice (some ⟨b, o, none⟩) 128 c from fun w h => by
       have h2 := h.drop
       unfold IsMap at h2
       obtain ⟨b, o, c, he, _⟩ := h2.slAddr (k := 0) rfl (by decide)
       exact ⟨b, o, c, he⟩)
      obtain ⟨vb, vo, vc, hvm⟩ := HX1.out _ ((hS.re [0, 1, 11, 10, 9, 8, 7, 6, 5, 4, 3, 2]).re [2, 3, 4, 5, 6, 7, 8, 9, 10, 11, 0, 1]).drop.drop.drop.drop.drop.drop.drop.drop.drop.drop
      subst hvm
      clear HX1
      have hwr : ∀ v, g2 (gws ++ [⟨1, v, mapB (mapC S l)⟩]) ++ [(0, encS sc)] = wrC S l next shown := fun v => by
       unfold wrC
       rw [gr2_snoc, HGA.out, HSC.out, if_neg hl0]
      have HVL := Lib.hid (fun s => stv_len (pd := pd) (s := s) (fv := .slice (some ⟨fb, fo, none⟩) 128 fc) (r := r) (last := (S.last : Int)) HXO.out)
      have HVL2 := Lib.hid (stv_len (pd := pd) (s := sc) (fv := .slice (some ⟨fb, fo, none⟩) 128 fc) (r := r) (last := (S.last : Int)) HNXX.out)
      have HST := Lib.hid (stv_setSup (pd := pd) (s := S.sup) (s' := sc) (fv := .slice (some ⟨fb, fo, none⟩) 128 fc) (X := S.inos) (r := r) (last := (S.last : Int)))
      have HSI := Lib.hid (stv_setInos (pd := pd) (s := sc) (fv := .slice (some ⟨fb, fo, none⟩) 128 fc) (Y := inosS S l l.length) (r := r) (last := (S.last : Int)) HXO.out)
      have HSF := Lib.hid (show (stv pd sc (.slice (some ⟨fb, fo, none⟩) 128 fc) (inosS S l l.length) r (S.last : Int)).set 8 (.slice (some ⟨vb, vo, none⟩) 128 vc) = _ from stv_setFree)
      have HSO := Lib.hid (show ∀ v ∈ sv sc, v.oneCell' = true from sv_all _)
      have HXNL := Lib.hid (show ((inosS S l l.length).flatMap inv).length = 1776 from HNXX.out.flen)
      have HXN1 := Lib.hid (show ∀ v ∈ (inosS S l l.length).flatMap inv, v.oneCell' = true from fun v hv => by
       obtain ⟨y, _, hy⟩ := List.mem_flatMap.1 hv
       exact inv_one _ v hy)
      have HXNT := Lib.hid (show (((inosS S l l.length).flatMap inv).drop 0).take 1776 = (inosS S l l.length).flatMap inv by rw [List.drop_zero, List.take_of_length_le (by rw [HXNL.out]; exact Nat.le_refl _)])
      have HMK2 := Lib.hid (fun w M fv (h : Sat W w (Cs ps 85 (stv pd sc fv (inosS S l l.length) r S.last) :: IsMap fv (mapC S l) :: Tb 53 3 rv r S.recs :: M)) => IsSt.mk (S := S.committed l next shown) (by
       show Sat W w (Cs ps 85 (stv pd (supC S next shown) fv (inosS S l l.length) r S.last) :: IsMap fv (mapC S l) :: Tb 53 3 rv r S.recs :: M)
       rw [HSC.out]
       exact h))
      have HG := Lib.hid (fun w xv_ (h : Sat W w (Tb 95 2 gw xv_ (gws ++ [⟨1, .slice (some ⟨vb, vo, none⟩) 128 vc, mapB (mapC S l)⟩]) :: Cs p14 77 (sv sc) :: Cs p17 83 ((inosS S l l.length).flatMap inv) :: Cs ps 85 (stv pd S.sup (.slice (some ⟨fb, fo, none⟩) 128 fc) S.inos r S.last) :: IsMap (.slice (some ⟨fb, fo, none⟩) 128 fc) S.U :: Tb 53 3 rv r S.recs :: IsDisk pd D1 :: St (gws.map grow) :: IsMap (.slice (some ⟨vb, vo, none⟩) 128 vc) (mapC S l) :: Ir vt2 (takS S l) :: Ir (.slice at_ tot ct) (takS S l) :: Ir (.slice ag (goneL S l l.length).length cg) (goneL S l l.length) :: L)) =>
       group_open (L := Cs p14 77 (sv sc) :: Cs p17 83 ((inosS S l l.length).flatMap inv) :: IsMap (.slice (some ⟨fb, fo, none⟩) 128 fc) S.U :: Tb 53 3 rv r S.recs :: St (gws.map grow) :: IsMap (.slice (some ⟨vb, vo, none⟩) 128 vc) (mapC S l) :: Ir vt2 (takS S l) :: Ir (.slice at_ tot ct) (takS S l) :: Ir (.slice ag (goneL S l l.length).length cg) (goneL S l l.length) :: L) (h.re [0, 3, 6]) rfl HDG1.out (by have := HKT.out; omega) sc HOS.out (by have := HGWL.out; simp; omega) (fun w L' h x hx => by
        rcases List.mem_append.1 hx with hx | hx
        ·obtain ⟨q, hq⟩ := List.getElem?_of_mem hx
         obtain ⟨L2, h2⟩ := h.stAt (j := q) (A := grow x) (has_add (Has.s (Has.s (Has.s (Has.s Has.z)))) L') (by unfold Has; rw [List.getElem?_map, hq]; rfl)
         exact h2.slRd Has.z
        ·rw [List.mem_singleton.1 hx]
         have h2 := has_add (Has.s (Has.s (Has.s (Has.s (Has.s Has.z)))) : Has (Cs p14 77 (sv sc) :: Cs p17 83 ((inosS S l l.length).flatMap inv) :: IsMap (.slice (some ⟨fb, fo, none⟩) 128 fc) S.U :: Tb 53 3 rv r S.recs :: St (gws.map grow) :: IsMap (.slice (some ⟨vb, vo, none⟩) 128 vc) (mapC S l) :: Ir vt2 (takS S l) :: Ir (.slice at_ tot ct) (takS S l) :: Ir (.slice ag (goneL S l l.length).length cg) (goneL S l l.length) :: L) 5 (IsMap (.slice (some ⟨vb, vo, none⟩) 128 vc) (mapC S l))) L'
         unfold IsMap at h2
         have h3 := h.slRd h2
         show Rd w _ (mapB (mapC S l)).length 1 _
         rw [mapB_len]
         exact h3))
      rw [hwr] at HG
      obtain ⟨cc, hcc⟩ : ∃ x, commitR D1 (wrC S l next shown) = x := ⟨_, rfl⟩
      obtain ⟨c, D2⟩ := cc
      rw [hcc] at HG
      have HCD := Lib.hid (commitS_done HB.out HF.out HNE.out HALL.out hcc)
      have hS2 : Sat W _ (_ :: _ :: _ :: _ :: _ :: _ :: _ :: _ :: _ :: _ :: _ :: _ :: L) := hS.re [7, 9, 5, 3, 10, 11, 2, 8, 1, 0, 4, 6]
      clear hS
      have hS := hS2
      clear hS2 hl0 hwr hcc
      rw [hng] at hS
      clear hng
      by_cases hc0 : c = 0
      ·subst hc0
       go_wp2_with (first
        | (refine toList (by rfl) ?_; refine bsF hS _ _ _ (by rfl) (elOf (by rfl)) [.agg (gw ⟨1, .slice (some ⟨vb, vo, none⟩) 128 vc, mapB (mapC S l)⟩).toArray] (by rfl) (by rfl) (by decide) (by decide) (by simp [gw, Value.cells]) ?_; clear hS; intro b1 w1 hS; rw [agg1] at hS)
        | (at_builtin; refine toList (by rfl) ?_; refine apTbS hS _ _ _ _ (by rfl) _ _ (by rfl) (by rfl) (elOf (by rfl)) (by rfl) (by decide) (inOf (by rfl)) (Has.s Has.z) [⟨1, .slice (some ⟨vb, vo, none⟩) 128 vc, mapB (mapC S l)⟩] (fun _ _ => rfl) (by exact hS.src1 Has.z rfl) (by rw [fm1]; exact gw_one _ _) (by have := HGWL.out; simp; omega) (by have := HGWL.out; simp; omega) ?_; clear hS; intro aw cw w1 _ hS; rw [List.set_cons_succ, List.set_cons_zero] at hS; replace hS := hS.drop; rw [HXNG.out] at hS ⊢)
        | (go_at_call 41; refine (HG.out _ _ hS).mono ?_; clear hS; rintro e w1 ⟨rfl, hS⟩)
        | (refine toList (by rfl) ?_; refine wp_of_reads (rLdA hS _ _ (by rfl) _ _ (by rfl) (agOf (by rfl)) (szOf (by rfl)) (Has.s Has.z) (vs := sv sc) (by rfl) (by rfl)) ?_))
       refine regStart2 [11, 14] hS (fun _ h => h.drop.drop.take2) (by kernel_rfl) rfl ?_
       intro w1 hS1
       clear hS; have hS := hS1; clear hS1
       (refine rgP 0 hS (fun _ h => h.drop.drop.take2) ?_; go_frame)
       (refine rgP 1 hS (fun _ h => h.drop.drop.take2) ?_; go_frame)
       (refine rgP 2 hS (fun _ h => h.drop.drop.take2) ?_; go_frame)
       (refine rgR 3 hS (fun _ h => h.drop.drop.take2) ?_; (first
                      | refine ⟨_, yLdA _ _ (by rfl) _ _ (by rfl) (agOf (by rfl)) (szOf (by rfl)) Has.z (vs := sv sc) (by rfl) (by rfl), ?_⟩
                      | refine ⟨_, yLdA _ _ (by rfl) _ _ (by rfl) (agOf (by rfl)) (szOf (by rfl)) (Has.s Has.z) (vs := (inosS S l l.length).flatMap inv) HXNT.out HXNL.out, ?_⟩); go_frame)
       (refine rgR 4 hS (fun _ h => h.drop.drop.take2) ?_; (first
                      | refine ⟨_, yLdA _ _ (by rfl) _ _ (by rfl) (agOf (by rfl)) (szOf (by rfl)) Has.z (vs := sv sc) (by rfl) (by rfl), ?_⟩
                      | refine ⟨_, yLdA _ _ (by rfl) _ _ (by rfl) (agOf (by rfl)) (szOf (by rfl)) (Has.s Has.z) (vs := (inosS S l l.length).flatMap inv) HXNT.out HXNL.out, ?_⟩); go_frame)
       (refine rgP 5 hS (fun _ h => h.drop.drop.take2) ?_; go_frame)
       (refine rgP 6 hS (fun _ h => h.drop.drop.take2) ?_; go_frame)
       (refine rgP 7 hS (fun _ h => h.drop.drop.take2) ?_; go_frame)
       (refine rgA 8 false fun K hK => ?_; (first
                      | (refine stA hS _ _ _ (by rfl) _ _ (by rfl) (sv sc) (by rfl) HSO.out (by exact szOf (by rfl)) Has.z (by rw [HVL.out]; show 8 ≤ 1787; decide) ?_; clear hS; intro w1 hS; rw [List.set_cons_zero, show 1 + (sv sc).length = 8 from rfl, HST.out] at hS)
                      | (refine stA hS _ _ _ (by rfl) _ _ (by rfl) ((inosS S l l.length).flatMap inv) (by rfl) HXN1.out (by rw [HXNL.out]; exact szOf (by rfl)) Has.z (by rw [HVL.out, HXNL.out]; show 9 + 1776 ≤ 1787; decide) ?_; clear hS; intro w1 hS; rw [List.set_cons_zero, HXNL.out, show 9 + 1776 = 1785 from rfl, HSI.out] at hS)
                      | (refine Go.Sep.st hS _ _ _ (by rfl) _ _ (by rfl) _ (by first | exact evC | exact evT (by rfl)) (by rfl) (szOf (by rfl)) Has.z (by rw [HVL2.out]; decide) ?_; clear hS; intro w1 hS; rw [List.set_cons_zero, HSF.out] at hS)); refine hK _ _ _ (hS.upTo (fun _ h => by exact h.drop.drop.take2)) (fun _ _ h => h) ?_; clear hK K; go_frame)
       (refine rgP 9 hS (fun _ h => by exact h.drop.drop.take2) ?_; go_frame)
       (refine rgP 10 hS (fun _ h => by exact h.drop.drop.take2) ?_; go_frame)
       (refine rgA 11 true fun K hK => ?_; (first
                      | (refine stA hS _ _ _ (by rfl) _ _ (by rfl) (sv sc) (by rfl) HSO.out (by exact szOf (by rfl)) Has.z (by rw [HVL.out]; show 8 ≤ 1787; decide) ?_; clear hS; intro w1 hS; rw [List.set_cons_zero, show 1 + (sv sc).length = 8 from rfl, HST.out] at hS)
                      | (refine stA hS _ _ _ (by rfl) _ _ (by rfl) ((inosS S l l.length).flatMap inv) (by rfl) HXN1.out (by rw [HXNL.out]; exact szOf (by rfl)) Has.z (by rw [HVL.out, HXNL.out]; show 9 + 1776 ≤ 1787; decide) ?_; clear hS; intro w1 hS; rw [List.set_cons_zero, HXNL.out, show 9 + 1776 = 1785 from rfl, HSI.out] at hS)
                      | (refine Go.Sep.st hS _ _ _ (by rfl) _ _ (by rfl) _ (by first | exact evC | exact evT (by rfl)) (by rfl) (szOf (by rfl)) Has.z (by rw [HVL2.out]; decide) ?_; clear hS; intro w1 hS; rw [List.set_cons_zero, HSF.out] at hS)); refine hK _ _ _ hS (by first | (intro h; cases h; done) | exact fun _ _ h => h | exact fun _ _ h => h.drop | exact fun _ _ h => h.drop.drop | exact fun _ _ h => h.drop.pull1 | exact fun _ _ h => h.take2 | exact fun _ _ h => h.one Has.z | exact fun _ _ h => h.one (Has.s Has.z) | exact fun _ _ h => h.one (Has.s (Has.s Has.z))) ?_; clear hK K; go_frame)
       (refine rgP 12 hS (fun _ h => h) ?_; go_frame)
       (refine rgP 13 hS (fun _ h => h) ?_; go_frame)
       (refine rgA 14 true fun K hK => ?_; (first
                      | (refine stA hS _ _ _ (by rfl) _ _ (by rfl) (sv sc) (by rfl) HSO.out (by exact szOf (by rfl)) Has.z (by rw [HVL.out]; show 8 ≤ 1787; decide) ?_; clear hS; intro w1 hS; rw [List.set_cons_zero, show 1 + (sv sc).length = 8 from rfl, HST.out] at hS)
                      | (refine stA hS _ _ _ (by rfl) _ _ (by rfl) ((inosS S l l.length).flatMap inv) (by rfl) HXN1.out (by rw [HXNL.out]; exact szOf (by rfl)) Has.z (by rw [HVL.out, HXNL.out]; show 9 + 1776 ≤ 1787; decide) ?_; clear hS; intro w1 hS; rw [List.set_cons_zero, HXNL.out, show 9 + 1776 = 1785 from rfl, HSI.out] at hS)
                      | (refine Go.Sep.st hS _ _ _ (by rfl) _ _ (by rfl) _ (by first | exact evC | exact evT (by rfl)) (by rfl) (szOf (by rfl)) Has.z (by rw [HVL2.out]; decide) ?_; clear hS; intro w1 hS; rw [List.set_cons_zero, HSF.out] at hS)); refine hK _ _ _ hS (by first | (intro h; cases h; done) | exact fun _ _ h => h | exact fun _ _ h => h.drop | exact fun _ _ h => h.drop.drop | exact fun _ _ h => h.drop.pull1 | exact fun _ _ h => h.take2 | exact fun _ _ h => h.one Has.z | exact fun _ _ h => h.one (Has.s Has.z) | exact fun _ _ h => h.one (Has.s (Has.s Has.z))) ?_; clear hK K; go_frame)
       refine regDone (by kernel_rfl) ?_
       go_wp2
       first
        | (rename_i K hK; refine wp_label (show K _ _ from ?_); refine hK _ _ ?_)
        | (rename_i K hK _; refine wp_label (show K _ _ from ?_); refine hK _ _ ?_)
        | (rename_i K hK _ _; refine wp_label (show K _ _ from ?_); refine hK _ _ ?_)
        | (rename_i K hK _ _ _; refine wp_label (show K _ _ from ?_); refine hK _ _ ?_)
        | (rename_i K hK _ _ _ _; refine wp_label (show K _ _ from ?_); refine hK _ _ ?_)
        | (rename_i K hK _ _ _ _ _; refine wp_label (show K _ _ from ?_); refine hK _ _ ?_)
        | (rename_i K hK _ _ _ _ _ _; refine wp_label (show K _ _ from ?_); refine hK _ _ ?_)
       go_wp2
       ((try simp only [Exit.then, Exit.inBlock, Exit.jump2_ret]); go_ret)
       rw [HCD.out]
       exact ⟨rfl, ((HMK2.out _ _ _ (hS.re [0, 7, 5, 1])).re [2, 3, 4, 5, 6, 7, 8]).drop.drop.drop.drop.drop.drop.drop⟩
      ·have e9 : (c == 0) = false := beq_eq_false_iff_ne.2 hc0
       rw [if_neg hc0] at HCD
       clear hc0
       go_wp2_with (first
        | (refine toList (by rfl) ?_; refine bsF hS _ _ _ (by rfl) (elOf (by rfl)) [.agg (gw ⟨1, .slice (some ⟨vb, vo, none⟩) 128 vc, mapB (mapC S l)⟩).toArray] (by rfl) (by rfl) (by decide) (by decide) (by simp [gw, Value.cells]) ?_; clear hS; intro b1 w1 hS; rw [agg1] at hS)
        | (at_builtin; refine toList (by rfl) ?_; refine apTbS hS _ _ _ _ (by rfl) _ _ (by rfl) (by rfl) (elOf (by rfl)) (by rfl) (by decide) (inOf (by rfl)) (Has.s Has.z) [⟨1, .slice (some ⟨vb, vo, none⟩) 128 vc, mapB (mapC S l)⟩] (fun _ _ => rfl) (by exact hS.src1 Has.z rfl) (by rw [fm1]; exact gw_one _ _) (by have := HGWL.out; simp; omega) (by have := HGWL.out; simp; omega) ?_; clear hS; intro aw cw w1 _ hS; rw [List.set_cons_succ, List.set_cons_zero] at hS; replace hS := hS.drop; rw [HXNG.out] at hS ⊢)
        | (go_at_call 41; refine (HG.out _ _ hS).mono ?_; clear hS; rintro e w1 ⟨rfl, hS⟩)
        | (refine toList (by rfl) ?_; refine wp_of_reads (rLdA hS _ _ (by rfl) _ _ (by rfl) (agOf (by rfl)) (szOf (by rfl)) (Has.s Has.z) (vs := sv sc) (by rfl) (by rfl)) ?_))
       first
        | (rename_i K hK; refine wp_label (show K _ _ from ?_); refine hK _ _ ?_)
        | (rename_i K hK _; refine wp_label (show K _ _ from ?_); refine hK _ _ ?_)
        | (rename_i K hK _ _; refine wp_label (show K _ _ from ?_); refine hK _ _ ?_)
        | (rename_i K hK _ _ _; refine wp_label (show K _ _ from ?_); refine hK _ _ ?_)
        | (rename_i K hK _ _ _ _; refine wp_label (show K _ _ from ?_); refine hK _ _ ?_)
        | (rename_i K hK _ _ _ _ _; refine wp_label (show K _ _ from ?_); refine hK _ _ ?_)
        | (rename_i K hK _ _ _ _ _ _; refine wp_label (show K _ _ from ?_); refine hK _ _ ?_)
       go_wp2
       ((try simp only [Exit.then, Exit.inBlock, Exit.jump2_ret]); go_ret)
       rw [HCD.out]
       exact ⟨rfl, ((HMK.out _ _ _ _ (hS.re [0, 4, 5, 1])).re [2, 3, 4, 5, 6, 7, 8]).drop.drop.drop.drop.drop.drop.drop⟩
end Go.Proofs.YtchohheleofncaaGreat
