/-
 Package store: others.
 What is set: inodes, pieces, data; which may be (plain).
-/
import Derived.Test.YtchohheleofncaaGreatMNxt
import Derived.Test.YtchohheleofncaaGreatMGrw
import Derived.Test.YtchohheleofncaaGreatMIno
import Derived.Test.YtchohheleofncaaGreatStNext
import Derived.Test.YtchohheleofncaaGreatMGrp
set_option linter.unusedSimpArgs false
set_option linter.unusedVariables false
namespace Go.Proofs.YtchohheleofncaaGreat
open Go.RowKit Go.Sep
attribute [local irreducible] Go.Oper.wp Go.wpList Go.Calls Go.Code.wp Go.Sep.Reg
def othF (l : List Int) (j : Nat) : List Nat := (List.range' 74 j).filter fun b => !l.contains (b : Int)
def othersL (l : List Int) (n : Nat) : List Nat := (othF l 950).take n
theorem othF_succ (l : List Int) (j : Nat) : othF l (j + 1) = othF l j ++ (if l.contains ((74 + j : Nat) : Int) then [] else [74 + j]) := by
 unfold othF
 rw [List.range'_concat, List.filter_append, Nat.one_mul]
 congr 1
 rw [List.filter_cons]
 cases l.contains ((74 + j : Nat) : Int) <;> rfl
theorem othF_pre (l : List Int) {j : Nat} (h : j ≤ 950) : ∃ r, othF l 950 = othF l j ++ r := by
 obtain ⟨d, hd⟩ : ∃ d, 950 = j + d := ⟨950 - j, by omega⟩
 refine ⟨(List.range' (74 + j) d).filter fun b => !l.contains (b : Int), ?_⟩
 unfold othF
 rw [hd, ← List.filter_append]
 congr 1
 rw [← List.range'_append, Nat.one_mul]
theorem othF_len (l : List Int) (j : Nat) : (othF l j).length ≤ j := by
 unfold othF
 exact Nat.le_trans (List.length_filter_le _ _) (by rw [List.length_range']; exact Nat.le_refl _)
theorem othersL_full {l : List Int} {n : Nat} (h : (othF l 950).length ≤ n) : othersL l n = othF l 950 := List.take_of_length_le h
theorem othersL_part {l : List Int} {n j : Nat} (hj : j ≤ 950) (h : (othF l j).length = n) : othersL l n = othF l j := by
 obtain ⟨r, hr⟩ := othF_pre l hj
 unfold othersL
 rw [hr, ← h, List.take_left']
 rfl
def OtA (W : World) (L : List Asrt) (x : InoD) (p2 p5 : Nat) (v12 : Value) (wz : World) : Prop :=
 ∃ k : Nat, v12 = .int .i64 (k : Int) ∧ k ≤ 32 ∧ Sat W wz (Cs p5 161 (mb (seenA x.ptrs k)) :: Cs p2 33 (inv x) :: L)
def OtB (W : World) (L : List Asrt) (x : InoD) (p2 p5 n : Nat) (v9 v8 : Value) (wz : World) : Prop :=
 ∃ j : Nat, v9 = .int .i64 (((74 + j : Nat)) : Int) ∧ j ≤ 950 ∧ (othF x.ptrs j).length ≤ n ∧ Sat W wz (Ir v8 (othF x.ptrs j) :: Cs p5 161 (mb (seenA x.ptrs 32)) :: Cs p2 33 (inv x) :: L)
def otM (v : Value) : Nat := 1024 - (intOf v).toNat
theorem otM_lt {j : Nat} (h : j < 950) : otM (.int .i64 (((74 + (j + 1) : Nat)) : Int)) < otM (.int .i64 (((74 + j : Nat)) : Int)) := by
 unfold otM
 show 1024 - ((((74 + (j + 1) : Nat)) : Int)).toNat < 1024 - ((((74 + j : Nat)) : Int)).toNat
 rw [Int.toNat_natCast, Int.toNat_natCast]
 omega
theorem otM_lt2 {j : Nat} {z : Int} (hz : z = (((74 + (j + 1) : Nat)) : Int)) (h : j < 950) : otM (.int .i64 z) < otM (.int .i64 (((74 + j : Nat)) : Int)) := by
 subst hz
 exact otM_lt h
set_option maxRecDepth 20000 in
set_option maxHeartbeats 4000000 in
theorem others_any {W w : World} {L : List Asrt} (hS : Sat W w L) (x : InoD) (hx : OkI x) (n : Nat) (hn : n ≤ 9223372036854775807) :
  Calls Tryz.prog 78 #[.agg (inv x).toArray, .int .i64 (n : Int)] w fun e w' => ∃ v, e = .returned v ∧ Sat W w' (Ir v (othersL x.ptrs n) :: L) := by
 have HX := Lib.hid hx
 have HXP := Lib.hid hx.pl
 have HZB := Lib.hid (show zeroB Tryz.prog 161 = some (some (.agg (mb fun _ => false).toArray)) by kernel_rfl)
 have HXPT := Lib.hid (show ((inv x).drop 5).take 32 = pv x.ptrs by
  show (pv x.ptrs).take 32 = _
  rw [List.take_of_length_le (by rw [pv_len, hx.pl]; decide)])
 have HXPL := Lib.hid (show (pv x.ptrs).length = 32 by rw [pv_len, hx.pl])
 have HN := Lib.hid hn
 obtain ⟨xv, hxv⟩ : ∃ v, inv x = v := ⟨_, rfl⟩
 have HXV := Lib.hid hxv
 rw [hxv] at HXPT ⊢
 have nn : (n : Int) ≤ 9223372036854775807 := by omega
 clear hxv hx hn
 go_enter Tryz.func78, Tryz.ntmps78
 go_wp2_with (first
  | (refine toList (by rfl) ?_; refine bx hS _ _ (by rfl) _ (by first | exact evC | exact evT (by rfl)) ?_; clear hS; intro p2 w1 hS; rw [cells_agg] at hS)
  | (refine toList (by rfl) ?_; refine al hS _ (by rfl) HZB.out ?_; clear hS; intro p5 w1 hS; rw [cells_agg, ← seenA_zero x.ptrs] at hS)
  | (refine toList (by rfl) ?_; refine wp_of_reads (rLdA hS _ _ (by rfl) _ _ (by rfl) (agOf (by rfl)) (szOf (by rfl)) (Has.s Has.z) (vs := pv x.ptrs) HXPT.out HXPL.out) ?_))
 have H0 := Lib.hid hS
 clear hS
 go_loopw [12] (fun v12 wz => OtA W L x p2 p5 v12 wz) (fun v12 _ => lpM 32 v12)
 case atStart => exact ⟨0, rfl, by decide, by rw [HXV.out]; exact H0.out⟩
 case round =>
  clear H0
  obtain ⟨k, rfl, hk, hS⟩ := hrel
  by_cases hlt : k < 32
  ·have k2 : (k : Int) < 32 := by omega
   have HLT := Lib.hid hlt
   obtain ⟨p, hp⟩ : ∃ p, x.ptrs[k]? = some p := ⟨_, List.getElem?_eq_getElem (by rw [HXP.out]; exact hlt)⟩
   obtain ⟨h1, h2⟩ := okI_ptr HX.out hp
   obtain ⟨q, rfl⟩ : ∃ q : Nat, p = (q : Int) := ⟨p.toNat, by omega⟩
   have hix := fun w => idx_ptr hlt hp w
   have q1 : (q : Int) < 1024 := by omega
   have HSL := Lib.hid (show q < (mb (seenA x.ptrs k)).length by rw [mb_len]; omega)
   have HSE := Lib.hid ((mb_set (seenA x.ptrs k) true (show q < 1024 by omega)).trans (by rw [seenA_set hp]))
   clear hlt hk hp h1 h2
   go_wp2_with (refine toList (by rfl) ?_; refine Go.Sep.st hS _ _ _ (by rfl) _ _ (by rfl) _ (by first | exact evC | exact evT (by rfl)) (by rfl) (szOf (by rfl)) Has.z HSL.out ?_; clear hS; intro w1 hS; dsimp only [List.set_cons_zero, List.set_cons_succ] at hS; rw [HSE.out] at hS)
   exact ⟨⟨k + 1, by go_num, HLT.out, hS⟩, lpM_lt HLT.out⟩
  ·obtain rfl : k = 32 := by omega
   clear hlt hk
   have H1 := Lib.hid hS.irNil
   clear hS
   go_wp2
   go_loopw [9, 8] (fun v9 v8 wz => OtB W L x p2 p5 n v9 v8 wz) (fun v9 _ _ => otM v9)
   case atStart => exact ⟨0, rfl, by decide, Nat.zero_le _, H1.out⟩
   case round =>
    clear H1
    obtain ⟨j, rfl, hj, hln, hS⟩ := hrel
    have HLN := Lib.hid hln
    obtain ⟨ao8, c8, rfl, _⟩ := hS.irShape Has.z
    by_cases hlt : j < 950
    ·have k2 : (74 + (j : Int)) < 1024 := by omega
     have k3 : 74 + j < 1024 := by omega
     have e1 : decide ((((74 + j : Nat)) : Int) < 1024) = true := decide_eq_true (by omega)
     have HLT := Lib.hid hlt
     obtain ⟨m, hm⟩ : ∃ m, (othF x.ptrs j).length = m := ⟨_, rfl⟩
     have HM := Lib.hid hm
     by_cases hmn : m < n
     ·have HMN := Lib.hid hmn
      have e2 : (m : Int) < (n : Int) := by omega
      obtain ⟨s, hs⟩ : ∃ s, x.ptrs.contains ((74 + j : Nat) : Int) = s := ⟨_, rfl⟩
      have HQ := Lib.hid (mb_at (seenA x.ptrs 32) (show 74 + j < 1024 by omega))
      rw [seenA_all HXP.out, hs] at HQ
      have HSU := Lib.hid (othF_succ x.ptrs j)
      rw [hs] at HSU
      have hml : m ≤ 950 := by rw [← hm]; exact Nat.le_trans (othF_len _ _) (by omega)
      have HML := Lib.hid hml
      rw [hm] at hS ⊢
      clear hm hmn hj hlt hln hs hml
      cases s with
      | true =>
       go_wp2_with (refine toList (by rfl) ?_; refine ld hS _ _ (by rfl) _ _ (by rfl) (agOf (by rfl)) (Has.s Has.z) HQ.out ?_)
       have hsu : othF x.ptrs j = othF x.ptrs (j + 1) := by rw [HSU.out]; simp
       rw [hsu] at hS
       exact ⟨⟨j + 1, by go_num, HLT.out, by rw [← hsu]; exact HLN.out, hS⟩, otM_lt HLT.out⟩
      | false =>
       go_wp2_with (first
        | (refine toList (by rfl) ?_; refine ld hS _ _ (by rfl) _ _ (by rfl) (agOf (by rfl)) (Has.s Has.z) HQ.out ?_)
        | (refine toList (by rfl) ?_; refine bsF hS _ _ _ (by rfl) (elOf (by rfl)) [.int .i64 ((74 + j : Nat) : Int)] (by rfl) (by rfl) (by decide) (by decide) (by simp [Value.cells]) ?_; clear hS; intro b1 w1 hS; rw [sca1 rfl] at hS)
        | (at_builtin; refine toList (by rfl) ?_; refine apI hS _ _ _ _ (by rfl) (by rfl) (by rfl) (elOf (by rfl)) (by rfl) (by rfl) (by rfl) (inOf (by rfl)) (Has.s Has.z) (m := [74 + j]) (by exact hS.csRd0 (sz := 1) Has.z (by decide) rfl) (by have := HML.out; rw [HM.out]; simp; omega) ?_; intro v' w1 hS1; clear hS; have hS := hS1; clear hS1; dsimp only [List.set_cons_zero, List.set_cons_succ] at hS))
       have hsu : othF x.ptrs j ++ [74 + j] = othF x.ptrs (j + 1) := by rw [HSU.out]; simp
       rw [hsu] at hS
       exact ⟨⟨_, _, _, _, _, _, _, _, _, _, _, _, _, _, _, _, _, _, _, _, ⟨j + 1, by go_num, HLT.out, by rw [← hsu, List.length_append, HM.out]; exact HMN.out, hS.drop⟩, rfl⟩, otM_lt2 (by omega) HLT.out⟩
     ·have HPT := Lib.hid (othersL_part hj (show (othF x.ptrs j).length = n by omega))
      have e2 : ¬ (m : Int) < (n : Int) := by omega
      rw [hm] at hS ⊢
      clear hm hmn hj hlt hln
      go_wp2
      go_ret
      rw [HPT.out]
      exact ⟨_, rfl, (hS.re [1, 2, 0]).drop.drop⟩
    ·obtain rfl : j = 950 := by omega
     have HPT := Lib.hid (othersL_full hln)
     clear hj hlt hln
     go_wp2
     go_ret
     rw [HPT.out]
     exact ⟨_, rfl, (hS.re [1, 2, 0]).drop.drop⟩
end Go.Proofs.YtchohheleofncaaGreat
namespace Go.Proofs.YtchohheleofncaaGreat
open Go.RowKit Go.Sep
structure SetD where
 at_ : Int
 ino : InoD
 pieces : List Int
 data : List (List UInt8)
 pval : Value
 dval : Value
 dvs : List Value
def setv (x : SetD) : List Value := .int .i64 x.at_ :: (inv x.ino ++ [x.pval, x.dval])
structure SetRd (w : World) (x : SetD) : Prop where
 pl : x.ino.ptrs.length = 32
 s1 : -9223372036854775808 ≤ x.ino.size
 s2 : x.ino.size ≤ 9223372036854775807
 p : Rd w x.pval x.pieces.length 1 (pv x.pieces)
 dl : x.dvs.length = x.data.length
 d : Rd w x.dval x.data.length 1 x.dvs
 b : ∀ (k : Nat) v c, x.dvs[k]? = some v → x.data[k]? = some c → Rd w v c.length 1 (bv c)
def SetsRd (w : World) (v : Value) (l : List SetD) : Prop := Rd w v l.length 40 (l.flatMap setv) ∧ ∀ x ∈ l, SetRd w x
theorem setv_len {x : SetD} (h : x.ino.ptrs.length = 32) : (setv x).length = 40 := by
 unfold setv
 rw [List.length_cons, List.length_append, inv_len, h]
 rfl
theorem setv_ino {x : SetD} (h : x.ino.ptrs.length = 32) : ((setv x).drop 1).take 37 = inv x.ino := by
 unfold setv
 rw [List.drop_succ_cons, List.drop_zero, List.take_append_of_le_length (by rw [inv_len, h]; exact Nat.le_refl _), List.take_of_length_le (by rw [inv_len, h]; exact Nat.le_refl _)]
theorem setv_p {x : SetD} (h : x.ino.ptrs.length = 32) : (setv x)[38]? = some x.pval := by
 unfold setv
 rw [List.getElem?_cons_succ, List.getElem?_append_right (by rw [inv_len, h]; decide), inv_len, h]
 rfl
theorem setv_d {x : SetD} (h : x.ino.ptrs.length = 32) : (setv x)[39]? = some x.dval := by
 unfold setv
 rw [List.getElem?_cons_succ, List.getElem?_append_right (by rw [inv_len, h]; decide), inv_len, h]
 rfl
def inoS (S : StD) (x : SetD) : InoD := S.inos[x.at_.toNat]?.getD zeroI
def seenS (l : List SetD) (i : Nat) (q : Nat) : Bool := (l.take i).any fun y => y.at_ == (q : Int)
theorem seenS_zero (l : List SetD) : seenS l 0 = fun _ => false := by funext q; simp [seenS]
theorem seenS_succ {l : List SetD} {i : Nat} {x : SetD} {q : Nat} (hx : l[i]? = some x) (hq : x.at_ = (q : Int)) : upd (seenS l i) q true = seenS l (i + 1) := by
 funext p
 unfold upd seenS
 rw [List.take_add_one, hx, Option.toList_some, List.any_append]
 by_cases h : p = q
 ·subst h
  simp [hq]
 ·rw [if_neg h]
  have : ¬ ((q : Int) = (p : Int)) := by omega
  simp [hq, this]
def setOk (S : StD) (l : List SetD) (i : Nat) (x : SetD) : Bool :=
 (!decide (x.at_ < 0) && !decide (48 ≤ x.at_)) && (!seenS l i x.at_.toNat && (x.data.length == x.pieces.length && (x.data.all (fun c => c.length == 128) && nextOk (inoS S x) x.ino x.pieces (othersL (inoS S x).ptrs x.pieces.length))))
def rightB (S : StD) (l : List SetD) : Bool := decide (l.length ≤ 8) && (List.range l.length).all fun i => match l[i]? with | none => true | some x => setOk S l i x
theorem rightB_no {S : StD} {l : List SetD} {i : Nat} {x : SetD} (hx : l[i]? = some x) (h : setOk S l i x = false) : rightB S l = false := by
 unfold rightB
 have : (List.range l.length).all (fun i => match l[i]? with | none => true | some x => setOk S l i x) = false := by
  rw [List.all_eq_false]
  refine ⟨i, List.mem_range.2 (List.getElem?_eq_some_iff.1 hx).1, ?_⟩
  rw [hx]
  dsimp only
  rw [h]
  decide
 rw [this, Bool.and_false]
theorem rightB_yes {S : StD} {l : List SetD} (h8 : l.length ≤ 8) (h : ∀ (i : Nat) x, l[i]? = some x → setOk S l i x = true) : rightB S l = true := by
 unfold rightB
 rw [decide_eq_true h8, Bool.true_and, List.all_eq_true]
 intro i hi
 obtain ⟨x, hx⟩ : ∃ x, l[i]? = some x := ⟨_, List.getElem?_eq_getElem (List.mem_range.1 hi)⟩
 rw [hx]
 exact h i _ hx
theorem rightB_at {S : StD} {l : List SetD} (h : rightB S l = true) : l.length ≤ 8 ∧ ∀ (i : Nat) x, l[i]? = some x → setOk S l i x = true := by
 unfold rightB at h
 rw [Bool.and_eq_true, decide_eq_true_eq, List.all_eq_true] at h
 refine ⟨h.1, fun i x hx => ?_⟩
 have := h.2 i (List.mem_range.2 (List.getElem?_eq_some_iff.1 hx).1)
 rw [hx] at this
 exact this
def mbn (n : Nat) (S : Nat → Bool) : List Value := (List.range n).map fun i => Value.bool (S i)
theorem mbn_len (n : Nat) (S : Nat → Bool) : (mbn n S).length = n := by unfold mbn; rw [List.length_map, List.length_range]
theorem mbn_at (S : Nat → Bool) {n i : Nat} (h : i < n) : (mbn n S)[i]? = some (.bool (S i)) := by
 unfold mbn
 rw [List.getElem?_map, List.getElem?_range h]
 rfl
theorem mbn_set (S : Nat → Bool) {n i : Nat} (u : Bool) (h : i < n) : (mbn n S).set i (.bool u) = mbn n (upd S i u) := by
 apply List.ext_getElem?
 intro j
 rw [List.getElem?_set]
 by_cases e : i = j
 ·subst e
  rw [if_pos rfl, if_pos (by rw [mbn_len]; exact h), mbn_at _ h]
  simp [upd]
 ·rw [if_neg e]
  by_cases hj : j < n
  ·rw [mbn_at _ hj, mbn_at _ hj]
   simp [upd, Ne.symm e]
  ·rw [List.getElem?_eq_none (by rw [mbn_len]; omega), List.getElem?_eq_none (by rw [mbn_len]; omega)]
end Go.Proofs.YtchohheleofncaaGreat
