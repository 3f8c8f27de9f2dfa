/-
 Package inode: Get (of what Put wrote).
 Package bits: New, Spans, Free.
 A disk that is not cut.
 What Format writes (plain).
 A Store's cells (plain).
 A commit to a disk that is not cut (plain).
-/
import Derived.Test.YtchohheleofncaaGreatMIno
import Derived.Test.YtchohheleofncaaGreatMWlr
import Derived.Test.YtchohheleofncaaGreatMSpn
import Derived.Test.YtchohheleofncaaGreatMReg
import Derived.Test.YtchohheleofncaaGreatMDsk
import Derived.Test.YtchohheleofncaaGreatMWlp
import Derived.Test.YtchohheleofncaaGreatMRsu
import Derived.Test.YtchohheleofncaaGreatMRpt
import Derived.Test.YtchohheleofncaaGreatMSep
set_option linter.unusedSimpArgs false
set_option linter.unusedVariables false
namespace Go.Proofs.YtchohheleofncaaGreat
open Go.RowKit Go.Sep
attribute [local irreducible] Go.Oper.wp Go.wpList Go.Calls Go.Code.wp Go.Sep.Reg
theorem getN_mid (A B : List UInt8) {v : Int} {n t : Nat} (h0 : 0 ≤ v) (h1 : v < 256 ^ n) (ht : t = A.length) : ((getN (A ++ (le v n ++ B)) t n : Nat) : Int) = v := by
 subst ht
 unfold getN
 rw [if_pos (by rw [List.length_append, List.length_append, le_length]; omega)]
 rw [List.drop_left, List.take_left' (le_length v n)]
 obtain ⟨m, rfl⟩ : ∃ m : Nat, v = (m : Int) := ⟨v.toNat, by omega⟩
 have h2 : m < 256 ^ n := by
  have e : ((256 : Int) ^ n) = ((256 ^ n : Nat) : Int) := by rw [Int.natCast_pow]; rfl
  rw [e] at h1; exact Int.ofNat_lt.1 h1
 rw [un_le n m h2]
theorem encI_ptr {x : InoD} {k : Nat} {p : Int} (h : x.ptrs[k]? = some p) (hl : x.ptrs.length = 32) : ∃ B, encI x = encI0 x k ++ (le p 2 ++ B) := by
 have hk := (List.getElem?_eq_some_iff.1 h).1
 refine ⟨(x.ptrs.drop (k + 1)).flatMap (le · 2) ++ List.replicate (128 - 75) 0, ?_⟩
 rw [← encI_eq x hl]
 unfold padTo
 rw [encI0_len x (by omega)]
 have e : x.ptrs.take 32 = x.ptrs.take k ++ (p :: x.ptrs.drop (k + 1)) := by
  rw [List.take_of_length_le (by omega)]
  conv => lhs; rw [← List.take_append_drop k x.ptrs]
  congr 1
  rw [List.drop_eq_getElem_cons hk]
  congr 1
  have := List.getElem?_eq_getElem hk
  rw [this] at h
  exact Option.some.inj h
 unfold encI0
 rw [e, List.flatMap_append, List.flatMap_cons]
 simp only [List.append_assoc]
theorem encI_get {x : InoD} (hx : OkI x) {k : Nat} {p : Int} (h : x.ptrs[k]? = some p) : ((getN (encI x) (11 + 2 * k) 2 : Nat) : Int) = p := by
 obtain ⟨B, hB⟩ := encI_ptr h hx.pl
 have hp := okI_ptr hx h
 have hk := (List.getElem?_eq_some_iff.1 h).1
 rw [hB]
 exact getN_mid _ _ hp.1 (by omega) (by rw [encI0_len x (by omega)])
theorem encI_head (x : InoD) (h : x.ptrs.length = 32) : ∃ B, encI x = le x.kind 1 ++ (le x.size 2 ++ (le x.links 2 ++ (le x.obj 3 ++ (le x.node 3 ++ B)))) := by
 refine ⟨x.ptrs.flatMap (le · 2) ++ List.replicate (128 - 75) 0, ?_⟩
 rw [← encI_eq x h]
 unfold padTo
 rw [encI0_len x (by omega)]
 unfold encI0
 rw [List.take_of_length_le (by omega)]
 simp only [List.append_assoc]
theorem encI_f0 {x : InoD} (hx : OkI x) : ((getN (encI x) 0 1 : Nat) : Int) = x.kind := by
 obtain ⟨B, hB⟩ := encI_head x hx.pl
 have := hx.kd
 rw [hB]
 exact getN_mid [] _ this.1 (by omega) rfl
theorem encI_f1 {x : InoD} (hx : OkI x) : ((getN (encI x) 1 2 : Nat) : Int) = x.size := by
 obtain ⟨B, hB⟩ := encI_head x hx.pl
 have := hx.sz
 rw [hB]
 exact getN_mid (le x.kind 1) _ this.1 (by omega) (by simp [le_length])
theorem encI_f2 {x : InoD} (hx : OkI x) : ((getN (encI x) 3 2 : Nat) : Int) = x.links := by
 obtain ⟨B, hB⟩ := encI_head x hx.pl
 have := hx.lk
 rw [hB, ← List.append_assoc]
 exact getN_mid (le x.kind 1 ++ le x.size 2) _ this.1 (by omega) (by simp [le_length])
theorem encI_f3 {x : InoD} (hx : OkI x) : ((getN (encI x) 5 3 : Nat) : Int) = x.obj := by
 obtain ⟨B, hB⟩ := encI_head x hx.pl
 have := hx.ob
 rw [hB, ← List.append_assoc, ← List.append_assoc]
 exact getN_mid (le x.kind 1 ++ le x.size 2 ++ le x.links 2) _ this.1 (by omega) (by simp [le_length])
theorem encI_f4 {x : InoD} (hx : OkI x) : ((getN (encI x) 8 3 : Nat) : Int) = x.node := by
 obtain ⟨B, hB⟩ := encI_head x hx.pl
 have := hx.nd
 rw [hB, ← List.append_assoc, ← List.append_assoc, ← List.append_assoc]
 exact getN_mid (le x.kind 1 ++ le x.size 2 ++ le x.links 2 ++ le x.obj 3) _ this.1 (by omega) (by simp [le_length])
def upto (x : InoD) (k : Nat) : InoD := ⟨x.kind, x.size, x.links, x.obj, x.node, x.ptrs.take k ++ List.replicate (32 - k) 0⟩
theorem upto_set {x : InoD} (h : x.ptrs.length = 32) {k : Nat} {p : Int} (hp : x.ptrs[k]? = some p) : (inv (upto x k)).set (5 + k) (.int .i64 p) = inv (upto x (k + 1)) := by
 have hk := (List.getElem?_eq_some_iff.1 hp).1
 unfold inv upto
 dsimp only
 rw [List.set_append_right _ _ (by simp)]
 congr 1
 unfold pv
 rw [show 5 + k - [Value.int .i64 x.kind, .int .i64 x.size, .int .i64 x.links, .int .i64 x.obj, .int .i64 x.node].length = k by simp]
 rw [List.map_append, List.map_append, List.set_append_right _ _ (by simp; omega)]
 rw [List.take_add_one, hp, Option.toList_some, List.map_append, List.append_assoc]
 congr 1
 rw [List.length_map, List.length_take, show k - min k x.ptrs.length = 0 by omega, show 32 - k = (32 - (k + 1)) + 1 by omega, List.replicate_succ]
 rfl
theorem upto_all {x : InoD} (h : x.ptrs.length = 32) : upto x 32 = x := by
 unfold upto
 rw [List.take_of_length_le (by omega), Nat.sub_self, List.replicate_zero, List.append_nil]
theorem upto_len {x : InoD} (h : x.ptrs.length = 32) {k : Nat} (hk : k ≤ 32) : (inv (upto x k)).length = 37 := by
 rw [inv_len]
 unfold upto
 simp
 omega
theorem upto_zero (x : InoD) : (((((inv zeroI).set 0 (.int .i64 x.kind)).set 1 (.int .i64 x.size)).set 2 (.int .i64 x.links)).set 3 (.int .i64 x.obj)).set 4 (.int .i64 x.node) = inv (upto x 0) := rfl
theorem ig_get {W w : World} {L : List Asrt} (hS : Sat W w L) {b : List UInt8} (hb : b.length = 128) (ao : Option Addr) (c : Nat) (hr : ∀ w, Sat W w L → Rd w (.slice ao 128 c) 128 1 (bv b)) {a v : Int} {t n : Nat} (ha : a = (t : Nat)) (hn : 1 ≤ n) (hn2 : n ≤ 7) (hv : ((getN b t n : Nat) : Int) = v) :
  Calls Tryz.prog 89 #[.slice ao 128 c, .int .i64 a, .int .i64 n] w fun e w' => ∃ ok, e = .returned (.tuple #[.int .i64 v, .bool ok]) ∧ w = w' := by
 subst hv
 exact getM_any hS ao c b hb hr a t n ha hn hn2 (by omega) rfl
def IgI (W : World) (L : List Asrt) (x : InoD) (p2 p4 : Nat) (v42 : Value) (wz : World) : Prop :=
 ∃ k : Nat, v42 = .int .i64 (k : Int) ∧ k ≤ 32 ∧ Sat W wz (Cs p4 33 (inv (upto x k)) :: Cs p2 33 (inv zeroI) :: L)
set_option maxRecDepth 20000 in
set_option maxHeartbeats 4000000 in
theorem iget_any {W w : World} {L : List Asrt} (hS : Sat W w L) (x : InoD) (hx : OkI x) (ao : Option Addr) (c : Nat) (hr : ∀ w L', Sat W w (L' ++ L) → Rd w (.slice ao 128 c) 128 1 (bv (encI x))) :
  Calls Tryz.prog 48 #[.slice ao 128 c] w fun e w' => e = .returned (.tuple #[.agg (inv x).toArray, .bool true]) ∧ Sat W w' L := by
 have HZ := Lib.hid (show zeroB Tryz.prog 33 = some (some (.agg (inv zeroI).toArray)) by kernel_rfl)
 have HR := Lib.hid hr
 have HX := Lib.hid hx
 have hbl := encI_len x hx.pl
 have HF0 := Lib.hid (fun w A B (h : Sat W w (A :: B :: L)) => ig_get h hbl ao c (fun w h => hr w [_, _] h) (a := 0) (t := 0) (n := 1) rfl (by decide) (by decide) (encI_f0 hx))
 have HF1 := Lib.hid (fun w A B (h : Sat W w (A :: B :: L)) => ig_get h hbl ao c (fun w h => hr w [_, _] h) (a := 1) (t := 1) (n := 2) rfl (by decide) (by decide) (encI_f1 hx))
 have HF2 := Lib.hid (fun w A B (h : Sat W w (A :: B :: L)) => ig_get h hbl ao c (fun w h => hr w [_, _] h) (a := 3) (t := 3) (n := 2) rfl (by decide) (by decide) (encI_f2 hx))
 have HF3 := Lib.hid (fun w A B (h : Sat W w (A :: B :: L)) => ig_get h hbl ao c (fun w h => hr w [_, _] h) (a := 5) (t := 5) (n := 3) rfl (by decide) (by decide) (encI_f3 hx))
 have HF4 := Lib.hid (fun w A B (h : Sat W w (A :: B :: L)) => ig_get h hbl ao c (fun w h => hr w [_, _] h) (a := 8) (t := 8) (n := 3) rfl (by decide) (by decide) (encI_f4 hx))
 have HFP := Lib.hid (fun w A B (h : Sat W w (A :: B :: L)) k p (hp : x.ptrs[k]? = some p) (a : Int) (ha : a = ((11 + 2 * k : Nat) : Int)) => ig_get h hbl ao c (fun w h => hr w [_, _] h) (a := a) (t := 11 + 2 * k) (n := 2) ha (by decide) (by decide) (encI_get hx hp))
 have HPL := Lib.hid hx.pl
 have HUZ := Lib.hid (upto_zero x)
 have HUA := Lib.hid (upto_all hx.pl)
 have HUL := Lib.hid (fun k (h : k ≤ 32) => upto_len hx.pl h)
 have HUS := Lib.hid (fun k p (h : x.ptrs[k]? = some p) => upto_set hx.pl h)
 clear hx hr hbl
 obtain ⟨zv, hz⟩ : ∃ zv, inv zeroI = zv := ⟨_, rfl⟩
 have HZL := Lib.hid (show zv.length = 37 by rw [← hz]; rfl)
 have HZO := Lib.hid (show ∀ u ∈ zv, u.oneCell' = true by rw [← hz]; exact inv_one _)
 rw [hz] at HZ HUZ
 go_enter Tryz.func48, Tryz.ntmps48
 go_wp2_with (first
  | (refine toList (by rfl) ?_; refine al (show Sat W _ L from hS) _ (by rfl) HZ.out ?_; clear hS; intro p2 w1 hS; rw [cells_agg] at hS)
  | (refine toList (by rfl) ?_; refine al (show Sat W _ (_ :: L) from hS) _ (by rfl) HZ.out ?_; clear hS; intro p4 w1 hS; rw [cells_agg] at hS)
  | (go_at_call 89; refine (HF0.out _ _ _ hS).mono ?_; rintro e w1 ⟨ok1, rfl, rfl⟩)
  | (go_at_call 89; refine (HF1.out _ _ _ hS).mono ?_; rintro e w1 ⟨ok1, rfl, rfl⟩)
  | (go_at_call 89; refine (HF2.out _ _ _ hS).mono ?_; rintro e w1 ⟨ok1, rfl, rfl⟩)
  | (go_at_call 89; refine (HF3.out _ _ _ hS).mono ?_; rintro e w1 ⟨ok1, rfl, rfl⟩)
  | (go_at_call 89; refine (HF4.out _ _ _ hS).mono ?_; rintro e w1 ⟨ok1, rfl, rfl⟩)
  | (refine toList (by rfl) ?_; refine st hS _ _ _ (by rfl) _ _ (by rfl) _ (by first | exact evC | exact evT (by rfl)) (by rfl) (szOf (by rfl)) Has.z (by (try simp only [List.length_set]); rw [HZL.out]; decide) ?_; clear hS; intro w1 hS; rw [List.set_cons_zero] at hS))
 rw [HUZ.out] at hS
 have H0 := Lib.hid hS
 clear hS HZ HUZ
 go_loopw [42] (fun v42 wz => IgI W L x p2 p4 v42 wz) (fun v42 _ => 32 - (intOf v42).toNat)
 case atStart => exact ⟨0, rfl, by decide, by rw [hz]; exact H0.out⟩
 case round =>
  clear H0
  obtain ⟨k, rfl, hk, hS⟩ := hrel
  rw [hz] at hS
  by_cases hlt : k < 32
  ·have k1 : (k : Int) < 32 := by omega
   have HLT := Lib.hid hlt
   obtain ⟨p, hp⟩ : ∃ p, x.ptrs[k]? = some p := ⟨_, List.getElem?_eq_getElem (by have := HPL.out; omega)⟩
   have HP := Lib.hid hp
   clear hp hlt hk
   go_wp2_with (first
    | (go_at_call 89; refine (HFP.out _ _ _ hS k p HP.out _ (by omega)).mono ?_; rintro e w1 ⟨ok1, rfl, rfl⟩)
    | (refine toList (by rfl) ?_; refine st hS _ _ _ (by rfl) _ _ (by rfl) _ (by first | exact evC | exact evT (by rfl)) (by rfl) (szOf (by rfl)) Has.z (by rw [HUL.out k (Nat.le_of_lt HLT.out)]; have := HLT.out; omega) ?_; clear hS; intro w1 hS; rw [List.set_cons_zero, HUS.out k p HP.out] at hS))
   exact ⟨⟨k + 1, by go_num, HLT.out, by rw [hz]; exact hS⟩, by have := HLT.out; simp [intOf]; omega⟩
  ·obtain rfl : k = 32 := by omega
   rw [HUA.out] at hS
   have HP := Lib.hid (fun w A B (h : Sat W w (A :: B :: L)) => iput_any h x HX.out)
   have HI1 := Lib.hid (inv_one x)
   have HIL := Lib.hid (show (inv x).length = 37 by rw [inv_len, HPL.out])
   obtain ⟨d, hd⟩ : ∃ d, encI x = d := ⟨_, rfl⟩
   have e9 : (d == d) = true := by simp
   obtain ⟨iv, hiv⟩ : ∃ iv, inv x = iv := ⟨_, rfl⟩
   rw [hd] at HR HP
   rw [hiv] at hS HP HI1 HIL
   clear hlt hk hd hz
   go_wp2_with (first
    | (refine toList (by rfl) ?_; refine wp_of_reads (rLdA hS _ _ (by rfl) _ _ (by rfl) (agOf (by rfl)) (szOf (by rfl)) Has.z (vs := iv) (by rw [List.drop_zero, List.take_of_length_le (by rw [HIL.out]; exact Nat.le_refl _)]) HIL.out) ?_)
    | (refine toList (by rfl) ?_; refine wp_of_reads (rLdA hS _ _ (by rfl) _ _ (by rfl) (agOf (by rfl)) (szOf (by rfl)) (Has.s Has.z) (vs := iv) (by rw [List.drop_zero, List.take_of_length_le (by rw [HIL.out]; exact Nat.le_refl _)]) HIL.out) ?_)
    | (go_at_call 39; refine (HP.out _ _ _ hS).mono ?_; clear hS; rintro e w1 ⟨v2, rfl, hS⟩)
    | (refine toList (by rfl) ?_; refine cvS _ _ _ (by rfl) _ (by rfl) strBytes (l := d) (by first | exact HR.out _ [_, _, _] hS | exact hS.slRd Has.z) ?_)
    | (refine toList (by rfl) ?_; refine stA hS _ _ _ (by rfl) _ _ (by rfl) iv (by rfl) HI1.out (by rw [HIL.out]; exact szOf (by rfl)) (Has.s (Has.s Has.z)) (by rw [HIL.out, HZL.out]; exact Nat.le_refl _) ?_; clear hS; intro w1 hS; dsimp only [List.set_cons_zero, List.set_cons_succ] at hS; rw [List.take_zero, List.nil_append, List.drop_eq_nil_of_le (by rw [HIL.out, HZL.out]; exact Nat.le_refl _), List.append_nil] at hS))
   refine bodyPost_cell_tmp hS rfl (by rfl) (agOf (by rfl)) (szOf (by rfl)) (Has.s (Has.s Has.z)) HIL.out rfl ?_
   exact ⟨by rw [hiv]; rfl, hS.drop.drop.drop⟩
end Go.Proofs.YtchohheleofncaaGreat
namespace Go.Proofs.YtchohheleofncaaGreat
open Go.RowKit Go.Sep
attribute [local irreducible] Go.Oper.wp Go.wpList Go.Calls Go.Code.wp Go.Sep.Reg
def usedU (b : Nat) (n : Nat) : Bool := decide (n < 74) || decide (b ≤ n)
def usedTo (b k : Nat) (n : Nat) : Bool := decide (n < k) && usedU b n
theorem usedTo_succ (b k : Nat) : upd (usedTo b k) k (usedU b k) = usedTo b (k + 1) := by
 funext n
 unfold upd usedTo
 by_cases h : n = k
 ·subst h
  rw [if_pos rfl, decide_eq_true (by omega : n < n + 1), Bool.true_and]
 ·rw [if_neg h]
  by_cases h2 : n < k
  ·rw [decide_eq_true h2, decide_eq_true (by omega : n < k + 1)]
  ·rw [decide_eq_false h2, decide_eq_false (by omega : ¬ n < k + 1)]
theorem usedTo_zero (b : Nat) : bv (mapB (usedTo b 0)) = bv (zeros 128) := by
 congr 1
theorem usedTo_all (b : Nat) : mapB (usedTo b 1024) = mapB (usedU b) := mapB_congr fun n hn => by unfold usedTo; rw [decide_eq_true hn, Bool.true_and]
def NewI (W : World) (L : List Asrt) (b : Nat) (v3 v6 : Value) (wz : World) : Prop := ∃ k : Nat, v6 = .int .i64 (k : Int) ∧ k ≤ 1024 ∧ Sat W wz (IsMap v3 (usedTo b k) :: L)
set_option maxRecDepth 20000 in
set_option maxHeartbeats 2000000 in
theorem bnew_any {W w : World} {L : List Asrt} (hS : Sat W w L) (b : Nat) (hb : b ≤ 1100) :
  Calls Tryz.prog 47 #[.int .i64 (b : Int)] w fun e w' => ∃ v, e = .returned v ∧ Sat W w' (IsMap v (usedU b) :: L) := by
 have hbi : (b : Int) ≤ 1100 := by omega
 go_enter Tryz.func47, Tryz.ntmps47
 go_wp2_with (refine toList (by rfl) ?_; refine mk hS _ _ _ (by rfl) 128 128 _ _ (by rfl) (by rfl) (elOf (by rfl)) (by omega) (by omega) (by omega) ?_; clear hS; intro pb w1 hS; rw [made_u8] at hS)
 have H0 : Hid (Sat W w1 (IsMap (.slice (some ⟨pb, 0, none⟩) 128 128) (usedTo b 0) :: L)) := by
  unfold IsMap
  rw [usedTo_zero]
  exact Lib.hid (Sat.slMk (pre := []) (rest := []) (by simpa using hS) (Nat.le_refl _) (by decide) (by simp [zeros, bv]) rfl (by simp [zeros, bv]))
 go_loopw [6] (fun v6 wz => NewI W L b (.slice (some ⟨pb, 0, none⟩) 128 128) v6 wz) (fun v6 _ => 1024 - (intOf v6).toNat)
 case atStart => exact ⟨0, rfl, Nat.zero_le _, H0.out⟩
 case round =>
  clear hS H0
  obtain ⟨k, rfl, hk, hS⟩ := hrel
  by_cases hlt : k < 1024
  ·have k1 : (k : Int) < 1024 := by omega
   have HLT := Lib.hid hlt
   have HB := Lib.hid (fun w (h : Sat W w (IsMap (.slice (some ⟨pb, 0, none⟩) 128 128) (usedTo b k) :: L)) => bset_any h k hlt (usedU b k))
   have HE := Lib.hid (usedTo_succ b k)
   obtain ⟨u, hu⟩ : ∃ u, usedU b k = u := ⟨_, rfl⟩
   have hu2 : (decide ((k : Int) < 74) || decide ((b : Int) ≤ (k : Int))) = u := by
    rw [← hu]
    unfold usedU
    congr 1
    ·exact decide_eq_decide.2 (by omega)
    ·exact decide_eq_decide.2 (by omega)
   rw [hu] at HB HE
   clear hlt hk hu
   by_cases h74 : (k : Int) < 74
   ·rw [decide_eq_true h74, Bool.true_or] at hu2
    subst hu2
    have e1 : decide ((k : Int) < 74) = true := decide_eq_true h74
    go_wp2_with (go_at_call 56; refine (HB.out _ hS).mono ?_; clear hS; rintro e w1 ⟨rfl, hS⟩)
    rw [HE.out] at hS
    exact ⟨⟨k + 1, by go_num, HLT.out, hS⟩, by simp [intOf]; have := HLT.out; omega⟩
   ·rw [decide_eq_false h74, Bool.false_or] at hu2
    have e1 : decide ((k : Int) < 74) = false := decide_eq_false h74
    have e2 := hu2
    have e3 : decide (b ≤ k) = u := by rw [← hu2]; exact decide_eq_decide.2 (by omega)
    have HB2 := Lib.hid (fun w h => show Calls Tryz.prog 56 #[.slice (some ⟨pb, 0, none⟩) 128 128, .int .i64 (k : Int), .bool (decide (b ≤ k))] w _ from by rw [e3]; exact HB.out w h)
    clear e3
    go_wp2_with (go_at_call 56; refine (HB2.out _ hS).mono ?_; clear hS; rintro e w1 ⟨rfl, hS⟩)
    rw [HE.out] at hS
    exact ⟨⟨k + 1, by go_num, HLT.out, hS⟩, by simp [intOf]; have := HLT.out; omega⟩
  ·obtain rfl : k = 1024 := by omega
   have hS2 : Sat W wr (IsMap (.slice (some ⟨pb, 0, none⟩) 128 128) (usedU b) :: L) := by
    unfold IsMap at *
    rwa [usedTo_all] at hS
   clear hS hlt hk
   go_wp2
   go_ret
   exact ⟨_, rfl, hS2⟩
end Go.Proofs.YtchohheleofncaaGreat
namespace Go.Proofs.YtchohheleofncaaGreat
open Go.RowKit Go.Sep
attribute [local irreducible] Go.Oper.wp Go.wpList Go.Calls Go.Code.wp Go.Sep.Reg
structure Lv (D : DiskS) (B : List (List UInt8)) (k : Nat) : Prop where
 bl : D.blocks = B
 left : D.left = -1
 dead : D.dead = false
 ok : DG D k
theorem Lv.mono {D : DiskS} {B : List (List UInt8)} {k m : Nat} (h : Lv D B k) (hm : k ≤ m) : Lv D B m := ⟨h.bl, h.left, h.dead, h.ok.mono hm⟩
theorem Lv.len {D : DiskS} {B : List (List UInt8)} {k : Nat} (h : Lv D B k) : B.length ≤ 1024 := by rw [← h.bl]; exact h.ok.ok.len
theorem Lv.wrote {D : DiskS} {B : List (List UInt8)} {k : Nat} (h : Lv D B k) {n : Nat} (hn : n < B.length) (b : List UInt8) : Lv (D.wrote n b) (B.set n b) (k + 1) where
 bl := by show D.blocks.set n b = _; rw [h.bl]
 left := by show (if 0 < D.left then D.left - 1 else D.left) = -1; rw [h.left]; rfl
 dead := h.dead
 ok := by
  have := h.ok
  refine ⟨⟨?_, ?_, ?_⟩, ?_, ?_, ?_⟩
  ·show (D.blocks.set n b).length ≤ 1024
   rw [List.length_set]; exact this.ok.len
  ·show D.base.length ≤ (D.blocks.set n b).length
   rw [List.length_set]; exact this.ok.base
  ·show ∀ x ∈ D.writes ++ [(n, b)], x.1 < (D.blocks.set n b).length
   intro x hx
   rw [List.length_set]
   rcases List.mem_append.1 hx with hx | hx
   ·exact this.ok.at_ x hx
   ·rw [List.mem_singleton.1 hx, h.bl]; exact hn
  ·show -1 ≤ (if 0 < D.left then D.left - 1 else D.left)
   rw [h.left]; decide
  ·show (if 0 < D.left then D.left - 1 else D.left) ≤ _
   rw [h.left]; decide
  ·show (D.writes ++ [(n, b)]).length ≤ _
   rw [List.length_append]; have := this.wr; simp; omega
theorem Lv.new {n : Nat} (h2 : n ≤ 1024) : Lv (DiskS.new (n : Int)) (List.replicate n (zeros 128)) 0 where
 bl := by show List.replicate ((n : Int)).toNat _ = _; rw [Int.toNat_natCast]
 left := rfl
 dead := rfl
 ok := ⟨⟨(by show (List.replicate ((n : Int)).toNat _).length ≤ 1024; rw [List.length_replicate]; omega), Nat.zero_le _, fun _ h => nomatch h⟩, (show (-1 : Int) ≤ -1 by decide), (show (-1 : Int) ≤ 9223372036854775807 by decide), Nat.zero_le _⟩
theorem dwrite_any {W w : World} {L : List Asrt} {p k : Nat} {D : DiskS} {B : List (List UInt8)} (hS : Sat W w (IsDisk p D :: L)) (hl : Lv D B k) (hk : k ≤ 1000000) {a : Int} {n : Nat} (ha : a = (n : Int)) (hn : n < B.length) (v : Value) (b : List UInt8) (hb : ∀ w, Sat W w L → Rd w v 128 1 (bv b)) :
  Calls Tryz.prog 37 #[.pointer (some ⟨p, 0, none⟩), .int .i64 a, v] w fun e w' => e = .returned (.int .i64 0) ∧ Sat W w' (IsDisk p (D.wrote n b) :: L) := by
 subst ha
 have h1 := hl.left
 have h2 := hl.ok.wr
 exact write_ok hS n v b hb hl.dead (by rw [hl.bl]; exact hn) (by rw [h1]; decide) (by rw [h1]; decide) (by rw [h1]; decide) (by omega) (by rw [hl.bl]; exact hl.len)
theorem dread_any {W w : World} {L : List Asrt} {p k : Nat} {D : DiskS} {B : List (List UInt8)} (hS : Sat W w (IsDisk p D :: L)) (hl : Lv D B k) {a : Int} {n : Nat} (ha : a = (n : Int)) {b : List UInt8} (hb : B[n]? = some b) :
  Calls Tryz.prog 42 #[.pointer (some ⟨p, 0, none⟩), .int .i64 a] w fun e w' => ∃ q, e = .returned (.tuple #[.slice (some ⟨q, 0, none⟩) 128 128, .int .i64 0]) ∧ Sat W w' (Cs q 143 (bv b) :: IsDisk p D :: L) := by
 subst ha
 refine (read_ok hS n b (by rw [hl.bl]; exact hb) (by rw [hl.bl]; exact hl.len)).mono ?_
 rintro e w' ⟨q, h1, _, h2⟩
 exact ⟨q, h1, h2⟩
def putAll (B : List (List UInt8)) (l : G2) : List (List UInt8) := l.foldl (fun B x => B.set x.1.toNat x.2) B
theorem putAll_len (l : G2) : ∀ B, (putAll B l).length = B.length := by
 induction l with
 | nil => intro B; rfl
 | cons x l ih => intro B; show (putAll (B.set _ _) l).length = _; rw [ih, List.length_set]
theorem putAll_append (B : List (List UInt8)) (l m : G2) : putAll B (l ++ m) = putAll (putAll B l) m := List.foldl_append ..
theorem putAll_other (l : G2) {j : Nat} (h : ∀ x ∈ l, x.1.toNat ≠ j) : ∀ B, (putAll B l)[j]? = B[j]? := by
 induction l with
 | nil => intro B; rfl
 | cons x l ih =>
  intro B
  show (putAll (B.set _ _) l)[j]? = _
  rw [ih (fun y hy => h y (List.mem_cons_of_mem _ hy)), List.getElem?_set_ne (h x (List.mem_cons_self ..))]
theorem run_live (l : G2) : ∀ {D : DiskS} {B : List (List UInt8)} {k : Nat}, Lv D B k → (∀ x ∈ l, 0 ≤ x.1 ∧ x.1 < B.length ∧ x.2.length = 128) → ∃ D', runW D l = (0, D') ∧ Lv D' (putAll B l) (k + l.length) := by
 induction l with
 | nil => intro D B k h _; exact ⟨D, rfl, h⟩
 | cons x l ih =>
  intro D B k h hx
  obtain ⟨h1, h2, h3⟩ := hx x (List.mem_cons_self ..)
  have hn : x.1.toNat < B.length := by omega
  have hb : ¬ bad B.length x.1 128 := by unfold bad; omega
  have hc : wcode D x.1 x.2.length = 0 := by
   unfold wcode
   rw [h.dead, h.left, h.bl, h3, if_neg (by decide), if_neg hb, if_neg (by decide)]
  have hnx : wnext D x.1 x.2 = D.wrote x.1.toNat x.2 := by
   unfold wnext
   rw [h.dead, h.left, h.bl, h3, if_neg (by decide), if_neg hb, if_neg (by decide)]
  obtain ⟨D', hr, hl⟩ := ih (h.wrote hn x.2) (fun y hy => by rw [List.length_set]; exact hx y (List.mem_cons_of_mem _ hy))
  refine ⟨D', ?_, ?_⟩
  ·show (if wcode D x.1 x.2.length = 0 then runW (wnext D x.1 x.2) l else _) = _
   rw [if_pos hc, hnx, hr]
  ·rw [List.length_cons, show k + (l.length + 1) = k + 1 + l.length by omega]
   exact hl
end Go.Proofs.YtchohheleofncaaGreat
namespace Go.Proofs.YtchohheleofncaaGreat
open Go.RowKit Go.Sep
def rootI : InoD := ⟨2, 0, 1, 1, 0, List.replicate 32 0⟩
theorem okI_root : OkI rootI where
 pl := rfl
 zero h := absurd h (by decide)
 kd := by decide
 sz := by decide
 lk := by decide
 ob := by decide
 ob1 _ := by decide
 nd := by decide
 dir _ := ⟨rfl, rfl, fun k _ => by show (0 : Int) ≤ (k : Int) * 128; omega⟩
 pt k p h hp := absurd (List.eq_of_mem_replicate (List.mem_of_getElem? h)) hp
 nd' j k p _ h _ := List.eq_of_mem_replicate (List.mem_of_getElem? h)
def inoAt (i : Nat) : InoD := if i = 0 then rootI else zeroI
theorem okI_at (i : Nat) : OkI (inoAt i) := by
 unfold inoAt
 split
 ·exact okI_root
 ·exact okI_zero
def U0 (n : Nat) : Nat → Bool := upd (usedU n) 74 true
def fmt3 (n : Nat) : List (List UInt8) := (((List.replicate n (zeros 128)).set 2 (zeros 128)).set 1 (mapB (U0 n))).set 74 (encB [] 0)
def fmtN (n : Nat) : Nat → List (List UInt8)
 | 0 => fmt3 n
 | k + 1 => (fmtN n k).set (26 + k) (encI (inoAt k))
theorem fmtN_len (n : Nat) : ∀ k, (fmtN n k).length = n
 | 0 => by unfold fmtN fmt3; simp
 | k + 1 => by rw [fmtN, List.length_set, fmtN_len n k]
def sup0 (n : Nat) : SupD := ⟨n, 74, 74, 0, 0, 1, 0⟩
theorem okSup0 {n : Nat} (h1 : 160 ≤ n) (h2 : n ≤ 1024) : okSup (sup0 n) = true := by
 unfold okSup sup0 inB
 simp
 omega
def fmtB (n : Nat) : List (List UInt8) := (fmtN n 48).set 0 (encS (sup0 n))
theorem fmtN_at {n : Nat} (h : 160 ≤ n) : ∀ (k i : Nat), k ≤ 48 → i < k → (fmtN n k)[26 + i]? = some (encI (inoAt i))
 | 0, i, _, hi => by omega
 | k + 1, i, hk, hi => by
  rw [fmtN]
  by_cases e : i = k
  ·subst e
   rw [List.getElem?_set_self (by rw [fmtN_len]; omega)]
  ·rw [List.getElem?_set_ne (by omega)]
   exact fmtN_at h k i (by omega) (by omega)
theorem fmtN_other (n : Nat) {j : Nat} (hj : j < 26 ∨ 74 ≤ j) : ∀ k, k ≤ 48 → (fmtN n k)[j]? = (fmt3 n)[j]?
 | 0, _ => rfl
 | k + 1, hk => by
  rw [fmtN, List.getElem?_set_ne (by omega)]
  exact fmtN_other n hj k (by omega)
theorem fmtB_len (n : Nat) : (fmtB n).length = n := by unfold fmtB; rw [List.length_set, fmtN_len]
theorem fmtB_0 {n : Nat} (h : 160 ≤ n) : (fmtB n)[0]? = some (encS (sup0 n)) := by
 unfold fmtB; rw [List.getElem?_set_self (by rw [fmtN_len]; omega)]
theorem fmtB_ino {n : Nat} (h : 160 ≤ n) {i : Nat} (hi : i < 48) : (fmtB n)[26 + i]? = some (encI (inoAt i)) := by
 unfold fmtB; rw [List.getElem?_set_ne (by omega)]; exact fmtN_at h 48 i (Nat.le_refl _) hi
theorem fmtB_1 {n : Nat} (h : 160 ≤ n) : (fmtB n)[1]? = some (mapB (U0 n)) := by
 unfold fmtB
 rw [List.getElem?_set_ne (by omega), fmtN_other n (by omega) 48 (Nat.le_refl _)]
 unfold fmt3
 rw [List.getElem?_set_ne (by omega), List.getElem?_set_self (by simp; omega)]
theorem fmtB_2 {n : Nat} (h : 160 ≤ n) : (fmtB n)[2]? = some (zeros 128) := by
 unfold fmtB
 rw [List.getElem?_set_ne (by omega), fmtN_other n (by omega) 48 (Nat.le_refl _)]
 unfold fmt3
 rw [List.getElem?_set_ne (by omega), List.getElem?_set_ne (by omega), List.getElem?_set_self (by simp; omega)]
theorem fmtB_74 {n : Nat} (h : 160 ≤ n) : (fmtB n)[74]? = some (encB [] 0) := by
 unfold fmtB
 rw [List.getElem?_set_ne (by omega), fmtN_other n (by omega) 48 (Nat.le_refl _)]
 unfold fmt3
 rw [List.getElem?_set_self (by simp; omega)]
end Go.Proofs.YtchohheleofncaaGreat
namespace Go.Proofs.YtchohheleofncaaGreat
open Go.RowKit Go.Sep
structure XOk (X : List InoD) : Prop where
 len : X.length = 48
 ok : ∀ x ∈ X, OkI x
theorem XOk.fl {X : List InoD} (h : XOk X) : ∀ x ∈ X, (inv x).length = 37 := fun x hx => by rw [inv_len, (h.ok x hx).pl]
theorem XOk.flen {X : List InoD} (h : XOk X) : (X.flatMap inv).length = 1776 := by rw [fm_len h.fl, h.len]
def stv (pd : Nat) (s : SupD) (fv : Value) (X : List InoD) (rw_ : Value) (last : Int) : List Value :=
 (.pointer (some ⟨pd, 0, none⟩) :: sv s) ++ (fv :: (X.flatMap inv ++ [rw_, .int .i64 last]))
theorem sv_len (s : SupD) : (sv s).length = 7 := rfl
theorem stv_len {pd : Nat} {s : SupD} {fv : Value} {X : List InoD} {r : Value} {last : Int} (h : XOk X) : (stv pd s fv X r last).length = 1787 := by
 unfold stv
 rw [List.length_append, List.length_cons, sv_len, List.length_cons, List.length_append, h.flen]
 rfl
theorem stv_low {pd : Nat} {s : SupD} {fv : Value} {X : List InoD} {r : Value} {last : Int} {k : Nat} (h : k < 8) : (stv pd s fv X r last)[k]? = (Value.pointer (some ⟨pd, 0, none⟩) :: sv s)[k]? := by
 unfold stv
 rw [List.getElem?_append_left (by rw [List.length_cons, sv_len]; omega)]
theorem stv_free {pd : Nat} {s : SupD} {fv : Value} {X : List InoD} {r : Value} {last : Int} : (stv pd s fv X r last)[8]? = some fv := rfl
theorem stv_rec {pd : Nat} {s : SupD} {fv : Value} {X : List InoD} {r : Value} {last : Int} (h : XOk X) : (stv pd s fv X r last)[1785]? = some r := by
 unfold stv
 rw [List.getElem?_append_right (by rw [List.length_cons, sv_len]; omega), List.length_cons, sv_len]
 show (fv :: (X.flatMap inv ++ [r, .int .i64 last]))[1776 + 1]? = _
 rw [List.getElem?_cons_succ, List.getElem?_append_right (by rw [h.flen]; omega), h.flen]
 rfl
theorem stv_last {pd : Nat} {s : SupD} {fv : Value} {X : List InoD} {r : Value} {last : Int} (h : XOk X) : (stv pd s fv X r last)[1786]? = some (.int .i64 last) := by
 unfold stv
 rw [List.getElem?_append_right (by rw [List.length_cons, sv_len]; omega), List.length_cons, sv_len]
 show (fv :: (X.flatMap inv ++ [r, .int .i64 last]))[1777 + 1]? = _
 rw [List.getElem?_cons_succ, List.getElem?_append_right (by rw [h.flen]; omega), h.flen]
 rfl
theorem stv_ino {pd : Nat} {s : SupD} {fv : Value} {X : List InoD} {r : Value} {last : Int} (h : XOk X) {i : Nat} {x : InoD} (hx : X[i]? = some x) : ((stv pd s fv X r last).drop (9 + i * 37)).take 37 = inv x := by
 have hi := (List.getElem?_eq_some_iff.1 hx).1
 have e : stv pd s fv X r last = (.pointer (some ⟨pd, 0, none⟩) :: sv s ++ [fv]) ++ (X.flatMap inv ++ [r, .int .i64 last]) := by unfold stv; simp
 rw [e, List.drop_append, List.drop_eq_nil_of_le (by rw [List.length_append, List.length_cons, sv_len, List.length_singleton]; omega), List.nil_append]
 rw [show 9 + i * 37 - (Value.pointer (some ⟨pd, 0, none⟩) :: sv s ++ [fv]).length = i * 37 by rw [List.length_append, List.length_cons, sv_len, List.length_singleton]; omega]
 rw [fm_split hx, List.append_assoc, List.append_assoc]
 have h3 := fm_take_len h.fl (Nat.le_of_lt hi)
 rw [List.drop_append_of_le_length (by rw [h3]; exact Nat.le_refl _), List.drop_eq_nil_of_le (by rw [h3]; exact Nat.le_refl _), List.nil_append]
 rw [List.take_append_of_le_length (by rw [h.fl x (List.mem_of_getElem? hx)]; exact Nat.le_refl _), List.take_of_length_le (by rw [h.fl x (List.mem_of_getElem? hx)]; exact Nat.le_refl _)]
theorem stv_sup {pd : Nat} {s : SupD} {fv : Value} {X : List InoD} {r : Value} {last : Int} : ((stv pd s fv X r last).drop 1).take 7 = sv s := rfl
theorem stv_setSup {pd : Nat} {s s' : SupD} {fv : Value} {X : List InoD} {r : Value} {last : Int} : (stv pd s fv X r last).take 1 ++ sv s' ++ (stv pd s fv X r last).drop 8 = stv pd s' fv X r last := rfl
theorem stv_setFree {pd : Nat} {s : SupD} {fv fv' : Value} {X : List InoD} {r : Value} {last : Int} : (stv pd s fv X r last).set 8 fv' = stv pd s fv' X r last := rfl
theorem stv_setRec {pd : Nat} {s : SupD} {fv : Value} {X : List InoD} {r r' : Value} {last : Int} (h : XOk X) : (stv pd s fv X r last).set 1785 r' = stv pd s fv X r' last := by
 unfold stv
 rw [List.set_append_right _ _ (by rw [List.length_cons, sv_len]; omega), List.length_cons, sv_len]
 show _ ++ (fv :: (X.flatMap inv ++ [r, .int .i64 last])).set (1776 + 1) r' = _
 rw [List.set_cons_succ, List.set_append_right _ _ (by rw [h.flen]; omega), h.flen]
 rfl
theorem stv_setLast {pd : Nat} {s : SupD} {fv : Value} {X : List InoD} {r : Value} {last last' : Int} (h : XOk X) : (stv pd s fv X r last).set 1786 (.int .i64 last') = stv pd s fv X r last' := by
 unfold stv
 rw [List.set_append_right _ _ (by rw [List.length_cons, sv_len]; omega), List.length_cons, sv_len]
 show _ ++ (fv :: (X.flatMap inv ++ [r, .int .i64 last])).set (1777 + 1) _ = _
 rw [List.set_cons_succ, List.set_append_right _ _ (by rw [h.flen]; omega), h.flen]
 rfl
theorem stv_setIno {pd : Nat} {s : SupD} {fv : Value} {X : List InoD} {r : Value} {last : Int} (h : XOk X) {i : Nat} (hi : i < 48) (y : InoD) (hy : y.ptrs.length = 32) :
  (stv pd s fv X r last).take (9 + i * 37) ++ inv y ++ (stv pd s fv X r last).drop (9 + i * 37 + 37) = stv pd s fv (X.set i y) r last := by
 obtain ⟨x, hx⟩ : ∃ x, X[i]? = some x := ⟨_, List.getElem?_eq_getElem (by rw [h.len]; exact hi)⟩
 have hil : i < X.length := by rw [h.len]; exact hi
 have e : ∀ X : List InoD, stv pd s fv X r last = (.pointer (some ⟨pd, 0, none⟩) :: sv s ++ [fv]) ++ (X.flatMap inv ++ [r, .int .i64 last]) := by intro X; unfold stv; simp
 have h9 : (Value.pointer (some ⟨pd, 0, none⟩) :: sv s ++ [fv]).length = 9 := by rw [List.length_append, List.length_cons, sv_len]; rfl
 have h3 := fm_take_len h.fl (Nat.le_of_lt hil)
 have hxl := h.fl x (List.mem_of_getElem? hx)
 have hx2 : (X.set i y)[i]? = some y := by rw [List.getElem?_set_self hil]
 rw [e, e, List.take_append, List.drop_append, h9]
 rw [List.take_of_length_le (by rw [h9]; omega), List.drop_eq_nil_of_le (by rw [h9]; omega), List.nil_append]
 rw [show 9 + i * 37 - 9 = i * 37 by omega, show 9 + i * 37 + 37 - 9 = i * 37 + 37 by omega]
 rw [fm_split hx2, List.take_set_of_le (Nat.le_refl i), List.drop_set_of_lt (by omega)]
 have hs := fm_split (f := inv) hx
 have t1 : (X.flatMap inv ++ [r, .int .i64 last]).take (i * 37) = (X.take i).flatMap inv := by
  rw [hs, List.append_assoc, List.append_assoc, List.take_append_of_le_length (by rw [h3]; exact Nat.le_refl _), List.take_of_length_le (by rw [h3]; exact Nat.le_refl _)]
 have t2 : (X.flatMap inv ++ [r, .int .i64 last]).drop (i * 37 + 37) = (X.drop (i + 1)).flatMap inv ++ [r, .int .i64 last] := by
  rw [hs, List.append_assoc]
  exact List.drop_left' (by rw [List.length_append, h3, hxl])
 rw [t1, t2]
 simp only [List.append_assoc]
end Go.Proofs.YtchohheleofncaaGreat
namespace Go.Proofs.YtchohheleofncaaGreat
open Go.RowKit Go.Sep
structure OkGr (n : Nat) (g : G2) : Prop where
 lo : 1 ≤ g.length
 hi : g.length ≤ 20
 ok : okG n g = true
 rng : ∀ x ∈ g, (0 ≤ x.1 ∧ x.1 < n ∧ x.2.length = 128) ∧ (x.1 < 2 ∨ 26 ≤ x.1)
 nd : (g.map (·.1)).Nodup
theorem okG_mk {n : Nat} {g : G2} (lo : 1 ≤ g.length) (hi : g.length ≤ 20) (rng : ∀ x ∈ g, (0 ≤ x.1 ∧ x.1 < n ∧ x.2.length = 128) ∧ (x.1 < 2 ∨ 26 ≤ x.1)) (nd : (g.map (·.1)).Nodup) : OkGr n g where
 lo := lo
 hi := hi
 rng := rng
 nd := nd
 ok := by
  rw [okG_all lo hi]
  unfold okPre
  rw [List.all_eq_true]
  intro i hi
  rw [List.mem_range] at hi
  have hx : g[i]? = some g[i] := List.getElem?_eq_getElem hi
  rw [okAt_at hx]
  obtain ⟨⟨h1, h2, h3⟩, h4⟩ := rng _ (List.getElem_mem hi)
  have hw : okW n g[i] = true := by
   unfold okW
   rw [decide_eq_true h3, decide_eq_true h1, decide_eq_true h2]
   rcases h4 with h4 | h4
   ·rw [decide_eq_false (show ¬ 2 ≤ (g[i]).1 by omega)]; rfl
   ·rw [decide_eq_false (show ¬ (g[i]).1 < 26 by omega)]; simp
  have ht : twice g i (g[i]).1 = false := by
   unfold twice
   rw [List.any_eq_false]
   intro y hy h
   obtain ⟨j, hj⟩ := List.getElem?_of_mem hy
   have hji : j < i := by have := (List.getElem?_eq_some_iff.1 hj).1; simp at this; omega
   rw [List.getElem?_take_of_lt hji] at hj
   have e : (g.map (·.1))[j]? = (g.map (·.1))[i]? := by
    rw [List.getElem?_map, List.getElem?_map, hj, hx]
    have := eq_of_beq h
    simp [this]
   have := (List.getElem?_inj (by simp; omega) nd).1 e
   omega
  rw [hw, ht]; rfl
def cmtB (B : List (List UInt8)) (g : G2) : List (List UInt8) := putAll B (commitL g)
theorem cmtB_len (B : List (List UInt8)) (g : G2) : (cmtB B g).length = B.length := putAll_len _ _
theorem logL_mem {g : G2} {x : Int × List UInt8} (h : x ∈ logL g) (hl : ∀ x ∈ g, x.2.length = 128) : 3 ≤ x.1 ∧ x.1 < 3 + g.length ∧ x.2.length = 128 := by
 unfold logL at h
 obtain ⟨i, hi, rfl⟩ := List.mem_map.1 h
 rw [List.mem_range] at hi
 refine ⟨by dsimp only; omega, by dsimp only; omega, ?_⟩
 dsimp only
 rw [List.getElem?_map, List.getElem?_eq_getElem hi]
 exact hl _ (List.getElem_mem hi)
theorem commit_live {D : DiskS} {B : List (List UInt8)} {k : Nat} {g : G2} (h : Lv D B k) (hB : 26 ≤ B.length) (hg : OkGr B.length g) : ∃ D', commitR D g = (0, D') ∧ Lv D' (cmtB B g) (k + 42) := by
 have hlen : ∀ x ∈ g, x.2.length = 128 := fun x hx => (hg.rng x hx).1.2.2
 obtain ⟨D', h1, h2⟩ := run_live (commitL g) h (fun x hx => by
  unfold commitL doneL at hx
  rcases List.mem_append.1 hx with hx | hx
  ·have := logL_mem hx hlen
   have := hg.hi
   omega
  ·rcases List.mem_cons.1 hx with rfl | hx
   ·exact ⟨(show (0 : Int) ≤ 2 by decide), by show (2 : Int) < _; omega, hdr_len hg.hi⟩
   ·rcases List.mem_append.1 hx with hx | hx
    ·exact (hg.rng x hx).1
    ·rw [List.mem_singleton.1 hx]
     exact ⟨by decide, by show (2 : Int) < _; omega, by simp [zeros]⟩)
 refine ⟨D', ?_, h2.mono ?_⟩
 ·unfold commitR
  rw [h.bl, if_pos hg.ok, h1]
 ·unfold commitL doneL
  rw [List.length_append, logL_len, List.length_cons, List.length_append, List.length_singleton]
  have := hg.hi
  omega
theorem cmtB_2 {B : List (List UInt8)} {g : G2} (hB : 26 ≤ B.length) : (cmtB B g)[2]? = some (zeros 128) := by
 unfold cmtB commitL doneL
 rw [show logL g ++ (2, hdr g) :: (g ++ [(2, zeros 128)]) = (logL g ++ (2, hdr g) :: g) ++ [(2, zeros 128)] by simp, putAll_append]
 show ((putAll B (logL g ++ (2, hdr g) :: g)).set 2 (zeros 128))[2]? = _
 rw [List.getElem?_set_self (by rw [putAll_len]; omega)]
theorem putAll_cong (l : G2) {j : Nat} : ∀ {B C : List (List UInt8)}, B.length = C.length → B[j]? = C[j]? → (putAll B l)[j]? = (putAll C l)[j]? := by
 induction l with
 | nil => intro B C _ h; exact h
 | cons x l ih =>
  intro B C hl h
  show (putAll (B.set _ _) l)[j]? = (putAll (C.set _ _) l)[j]?
  refine ih (by rw [List.length_set, List.length_set, hl]) ?_
  rw [List.getElem?_set, List.getElem?_set, hl, h]
theorem cmtB_at {B : List (List UInt8)} {g : G2} (hg : OkGr B.length g) {j : Nat} (hj : j < 2 ∨ 26 ≤ j) : (cmtB B g)[j]? = (putAll B g)[j]? := by
 have hlen : ∀ x ∈ g, x.2.length = 128 := fun x hx => (hg.rng x hx).1.2.2
 unfold cmtB commitL doneL
 rw [show logL g ++ (2, hdr g) :: (g ++ [(2, zeros 128)]) = (logL g ++ [(2, hdr g)]) ++ (g ++ [(2, zeros 128)]) by simp, putAll_append, putAll_append]
 show ((putAll (putAll B (logL g ++ [(2, hdr g)])) g).set 2 (zeros 128))[j]? = _
 rw [List.getElem?_set_ne (by omega)]
 refine putAll_cong g (putAll_len _ _) ?_
 refine putAll_other _ (fun x hx => ?_) B
 rcases List.mem_append.1 hx with hx | hx
 ·have := logL_mem hx hlen
  have := hg.hi
  omega
 ·rw [List.mem_singleton.1 hx]
  show (2 : Int).toNat ≠ j
  have : (2 : Int).toNat = 2 := rfl
  omega
theorem putAll_at (l : G2) : ∀ {B : List (List UInt8)}, (l.map (·.1)).Nodup → (∀ x ∈ l, 0 ≤ x.1) → ∀ {j : Nat} {d : List UInt8}, ((j : Int), d) ∈ l → j < B.length → (putAll B l)[j]? = some d := by
 induction l with
 | nil => intro B _ _ j d h; exact absurd h (List.not_mem_nil)
 | cons x l ih =>
  intro B hn h0 j d hm hj
  obtain ⟨hx, hn⟩ := List.nodup_cons.1 hn
  show (putAll (B.set x.1.toNat x.2) l)[j]? = some d
  rcases List.mem_cons.1 hm with e | hm
  ·subst e
   rw [putAll_other l (j := j) (fun y hy e => hx (by
    have h1 := h0 y (List.mem_cons_of_mem _ hy)
    have h2 : y.1 = (j : Int) := by omega
    exact List.mem_map.2 ⟨y, hy, h2⟩)) _]
   show (B.set ((j : Int)).toNat d)[j]? = some d
   rw [Int.toNat_natCast, List.getElem?_set_self hj]
  ·exact ih hn (fun y hy => h0 y (List.mem_cons_of_mem _ hy)) hm (by rw [List.length_set]; exact hj)
theorem cmt_at {B : List (List UInt8)} {g : G2} (hg : OkGr B.length g) {j : Nat} {d : List UInt8} (hm : ((j : Int), d) ∈ g) : (cmtB B g)[j]? = some d := by
 obtain ⟨⟨h1, h2, h3⟩, h4⟩ := hg.rng _ hm
 dsimp only at h1 h2 h3 h4
 rw [cmtB_at hg (by omega)]
 exact putAll_at g hg.nd (fun x hx => (hg.rng x hx).1.1) hm (by omega)
theorem cmt_other {B : List (List UInt8)} {g : G2} (hg : OkGr B.length g) {j : Nat} (hj : j < 2 ∨ 26 ≤ j) (h : ∀ x ∈ g, x.1.toNat ≠ j) : (cmtB B g)[j]? = B[j]? := by
 rw [cmtB_at hg hj]
 exact putAll_other g h B
end Go.Proofs.YtchohheleofncaaGreat
