/-
 Package bits: Spans, Free.
 span.Cut and bits.Take (plain).
-/
import Derived.Test.YtchohheleofncaaGreatMIng
import Derived.Test.YtchohheleofncaaGreatMSpn
set_option linter.unusedSimpArgs false
set_option linter.unusedVariables false
namespace Go.Proofs.YtchohheleofncaaGreat
open Go.RowKit Go.Sep
attribute [local irreducible] Go.Oper.wp Go.wpList Go.Calls Go.Code.wp Go.Sep.Reg
def IsSp (v : Value) (l : List (Nat × Nat)) : Asrt := Sl 0 1 v l.length (l.map spv)
theorem spv_one (l : List (Nat × Nat)) : ∀ u ∈ l.map spv, u.oneCell' = true := by
 intro u hu
 obtain ⟨x, _, rfl⟩ := List.mem_map.1 hu
 rfl
theorem Sat.spShape {W w : World} {L : List Asrt} {k : Nat} {v : Value} {l : List (Nat × Nat)} (h : Sat W w L) (hk : Has L k (IsSp v l)) : ∃ ao c, v = .slice ao l.length c ∧ l.length ≤ c := by
 obtain ⟨ao, c, h1, h2, _⟩ := h.slShape (k := k) hk
 exact ⟨ao, c, h1, h2⟩
theorem Sat.spRd {W w : World} {L : List Asrt} {k : Nat} {v : Value} {l : List (Nat × Nat)} (h : Sat W w L) (hk : Has L k (IsSp v l)) : Rd w v l.length 1 (l.map spv) := h.slRd (k := k) hk
theorem spNil {W w : World} {L : List Asrt} (h : Sat W w L) : Sat W w (IsSp (.slice none 0 0) [] :: L) := by
 have := h.slNil (E := 0) (sz := 1)
 exact this
theorem apSp {P : Program} {Q : Exit → Act → World → Prop} {W w : World} {L : List Asrt} {a : Act} {o : Oper} {K : Act → World → Prop} {k : Nat} {v xv : Value} {l m : List (Nat × Nat)} (hS : Sat W w L) (T T2 : TypeId) (x y : Operand) (ho : o.op = .call { callee := .builtin .append, args := #[x, y], argTypes := #[T, T2] }) (hx : a.eval x = v) (hy : a.eval y = xv)
  {e size bytes : Nat} {z : Value} (hT : elemB P T = some (e, size, bytes, some z)) (hsz : size = 1) (hbs : bytes = 16) (hz : z.cells.size = size) (hT2 : intB P T2 = some false)
  (hk : Has L k (IsSp v l)) (hr : Rd w xv m.length 1 (m.map spv)) (hb : l.length + m.length ≤ 1000000)
  (h : ∀ v' w', Sat W w' (L.set k (IsSp v' (l ++ m))) → K (a.put o.dst v') w') : o.wp P a w K Q := by
 subst hsz; subst hbs
 unfold IsSp at hk
 rw [sl_E 0 e] at hk
 refine ap hS T T2 x y ho _ _ hx hy hT hz (by decide) hT2 hk (m := m.length) (.inl hr) (spv_one _) (by omega) (by omega) fun v' w' hS' => h v' w' ?_
 unfold IsSp
 rw [List.map_append, List.length_append, sl_E 0 e]; exact hS'
theorem spN_len (S : Nat → Bool) (b k : Nat) : (spN S b k).1.length ≤ k := by
 induction k with
 | zero => exact Nat.le_refl _
 | succ k ih =>
  rw [spN_succ]
  unfold spStep
  split
  ·omega
  ·dsimp only
   split
   ·rw [List.length_append]; simp; omega
   ·omega
theorem spN_from (S : Nat → Bool) (b k : Nat) : (spN S b k).2 ≤ k := by
 induction k with
 | zero => exact Nat.le_refl _
 | succ k ih =>
  rw [spN_succ]
  unfold spStep
  split
  ·omega
  ·exact Nat.le_refl _
def SpI (W : World) (L : List Asrt) (S : Nat → Bool) (b : Nat) (v14 v5 v6 : Value) (wz : World) : Prop :=
 ∃ k : Nat, v14 = .int .i64 (k : Int) ∧ k ≤ b + 1 ∧ v6 = .int .i64 (((spN S b k).2 : Nat) : Int) ∧ Sat W wz (IsSp v5 (spN S b k).1 :: L)
set_option maxRecDepth 20000 in
set_option maxHeartbeats 4000000 in
theorem spans_any {W w : World} {L : List Asrt} (hS : Sat W w L) (S : Nat → Bool) (p off c b : Nat) (hb : b ≤ 1024) (h0 : 0 < b) (hr : ∀ w L', Sat W w (L' ++ L) → Rd w (.slice (some ⟨p, off, none⟩) 128 c) 128 1 (bv (mapB S))) :
  Calls Tryz.prog 80 #[.slice (some ⟨p, off, none⟩) 128 c, .int .i64 (b : Int)] w fun e w' => ∃ v, e = .returned v ∧ Sat W w' (IsSp v (spansOf S b) :: L) := by
 have hbi : (b : Int) ≤ 1024 := by omega
 have h0i : (0 : Int) < (b : Int) := by omega
 have H0 := Lib.hid (spNil hS)
 have HB := Lib.hid hb
 have HR := Lib.hid hr
 clear hr hb
 go_enter Tryz.func80, Tryz.ntmps80
 go_wp2
 go_loopw [14, 5, 6] (fun v14 v5 v6 wz => SpI W L S b v14 v5 v6 wz) (fun v14 _ _ _ => b + 1 - (intOf v14).toNat)
 case atStart => exact ⟨0, rfl, Nat.zero_le _, rfl, H0.out⟩
 case round =>
  clear hS H0
  obtain ⟨k, rfl, hk, rfl, hS⟩ := hrel
  have HLN := Lib.hid (spN_len S b k)
  have hfr := spN_from S b k
  by_cases hlt : k < b + 1
  ·have k1 : (k : Int) < (b : Int) + 1 := by omega
   have k2 : (k : Int) ≤ 1024 := by omega
   have HLT := Lib.hid hlt
   have HN := Lib.hid (spN_succ S b k)
   obtain ⟨⟨l, fm⟩, hl⟩ : ∃ x, spN S b k = x := ⟨_, rfl⟩
   rw [hl] at HN hS HLN hfr
   rw [hl]
   dsimp only at hS HLN hfr ⊢
   have HFR := Lib.hid hfr
   by_cases hfree : k < b ∧ S k = false
   ·have HS := Lib.hid (show spN S b (k + 1) = (l, fm) by rw [HN.out]; unfold spStep; rw [if_pos hfree])
    have HU := Lib.hid (fun w (h : Sat W w (IsSp u5 l :: L)) => used_any h S p off c k (by omega) (fun w h => HR.out w [_] h))
    rw [hfree.2] at HU
    have e1 : (k : Int) < (b : Int) := by omega
    have e2 : decide ((k : Int) < (b : Int)) = true := decide_eq_true e1
    have e3 : decide (k < b) = true := decide_eq_true hfree.1
    clear hfree hlt hk hl
    go_wp2_with (go_at_call 86; refine (HU.out _ hS).mono ?_; rintro e w1 ⟨rfl, rfl⟩)
    exact ⟨⟨k + 1, by go_num, HLT.out, by rw [HS.out]; try go_num, by rw [HS.out]; exact hS⟩, by have := HLT.out; simp [intOf]; omega⟩
   ·have HM := Lib.hid (fun w => smake_any (a := fm) (n := k - fm) (by omega) w)
    rw [show (((k - fm : Nat)) : Int) = (k : Int) - (fm : Int) by omega] at HM
    have hs1 : spN S b (k + 1) = (if fm < k then l ++ [(fm, k - fm)] else l, k + 1) := by rw [HN.out]; unfold spStep; rw [if_neg hfree]
    have e0 : (0 : Int) ≤ (fm : Int) := by omega
    have e4 : (fm : Int) ≤ (k : Int) := by omega
    by_cases hkb : k < b
    ·have hst : S k = true := by
      cases hq : S k with
      | true => rfl
      | false => exact absurd ⟨hkb, hq⟩ hfree
     have HU := Lib.hid (fun w (h : Sat W w (IsSp u5 l :: L)) => used_any h S p off c k (by omega) (fun w h => HR.out w [_] h))
     rw [hst] at HU
     have e1 : (k : Int) < (b : Int) := by omega
     have e2 : decide ((k : Int) < (b : Int)) = true := decide_eq_true e1
     have e3 : decide (k < b) = true := decide_eq_true hkb
     by_cases hf : fm < k
     ·have HS := Lib.hid (show spN S b (k + 1) = (l ++ [(fm, k - fm)], k + 1) by rw [hs1, if_pos hf])
      rw [show decide (1 ≤ k - fm) = true from decide_eq_true (by omega), show mkv (fm, k - fm) = spv (fm, k - fm) from if_pos (by show 1 ≤ k - fm; omega)] at HM
      clear hfree hlt hk hl hs1 hkb hst hf hfr
      go_wp2_with (first
       | (go_at_call 86; refine (HU.out _ hS).mono ?_; rintro e w1 ⟨rfl, rfl⟩)
       | (go_at_call 119; refine (HM.out _).mono ?_; rintro e w1 ⟨rfl, rfl⟩)
       | (refine toList (by rfl) ?_; refine bsF hS _ _ _ (by rfl) (elOf (by rfl)) [spv (fm, k - fm)] (by rfl) (by rfl) (by decide) (by decide) (by simp [spv, Value.cells]) ?_; clear hS; intro b1 w1 hS; rw [sca1 rfl] at hS)
       | (at_builtin; refine toList (by rfl) ?_; refine apSp hS _ _ _ _ (by rfl) (by rfl) (by rfl) (elOf (by rfl)) (by rfl) (by rfl) (by rfl) (inOf (by rfl)) (Has.s Has.z) (m := [(fm, k - fm)]) (by exact hS.csRd0 (sz := 1) Has.z (by decide) rfl) (by have := HLN.out; have := HB.out; have := HLT.out; simp; omega) ?_; clear hS; intro v2 w1 hS; dsimp only [List.set_cons_zero, List.set_cons_succ] at hS))
      exact ⟨⟨k + 1, by go_num, HLT.out, by rw [HS.out]; try go_num, by rw [HS.out]; exact hS.drop⟩, by have := HLT.out; simp [intOf]; omega⟩
     ·have HS := Lib.hid (show spN S b (k + 1) = (l, k + 1) by rw [hs1, if_neg hf])
      rw [show decide (1 ≤ k - fm) = false from decide_eq_false (by omega), show mkv (fm, k - fm) = .complex .f64 0 0 from if_neg (by show ¬ 1 ≤ k - fm; omega)] at HM
      clear hfree hlt hk hl hs1 hkb hst hf hfr
      go_wp2_with (first
       | (go_at_call 86; refine (HU.out _ hS).mono ?_; rintro e w1 ⟨rfl, rfl⟩)
       | (go_at_call 119; refine (HM.out _).mono ?_; rintro e w1 ⟨rfl, rfl⟩))
      exact ⟨⟨k + 1, by go_num, HLT.out, by rw [HS.out]; try go_num, by rw [HS.out]; exact hS⟩, by have := HLT.out; simp [intOf]; omega⟩
    ·have e1 : ¬ ((k : Int) < (b : Int)) := by omega
     have e2 : decide ((k : Int) < (b : Int)) = false := decide_eq_false e1
     have e3 : decide (k < b) = false := decide_eq_false hkb
     by_cases hf : fm < k
     ·have HS := Lib.hid (show spN S b (k + 1) = (l ++ [(fm, k - fm)], k + 1) by rw [hs1, if_pos hf])
      rw [show decide (1 ≤ k - fm) = true from decide_eq_true (by omega), show mkv (fm, k - fm) = spv (fm, k - fm) from if_pos (by show 1 ≤ k - fm; omega)] at HM
      clear hfree hlt hk hl hs1 hkb hf hfr
      go_wp2_with (first
       | (go_at_call 119; refine (HM.out _).mono ?_; rintro e w1 ⟨rfl, rfl⟩)
       | (refine toList (by rfl) ?_; refine bsF hS _ _ _ (by rfl) (elOf (by rfl)) [spv (fm, k - fm)] (by rfl) (by rfl) (by decide) (by decide) (by simp [spv, Value.cells]) ?_; clear hS; intro b1 w1 hS; rw [sca1 rfl] at hS)
       | (at_builtin; refine toList (by rfl) ?_; refine apSp hS _ _ _ _ (by rfl) (by rfl) (by rfl) (elOf (by rfl)) (by rfl) (by rfl) (by rfl) (inOf (by rfl)) (Has.s Has.z) (m := [(fm, k - fm)]) (by exact hS.csRd0 (sz := 1) Has.z (by decide) rfl) (by have := HLN.out; have := HB.out; have := HLT.out; simp; omega) ?_; clear hS; intro v2 w1 hS; dsimp only [List.set_cons_zero, List.set_cons_succ] at hS))
      exact ⟨⟨k + 1, by go_num, HLT.out, by rw [HS.out]; try go_num, by rw [HS.out]; exact hS.drop⟩, by have := HLT.out; simp [intOf]; omega⟩
     ·have HS := Lib.hid (show spN S b (k + 1) = (l, k + 1) by rw [hs1, if_neg hf])
      rw [show decide (1 ≤ k - fm) = false from decide_eq_false (by omega), show mkv (fm, k - fm) = .complex .f64 0 0 from if_neg (by show ¬ 1 ≤ k - fm; omega)] at HM
      clear hfree hlt hk hl hs1 hkb hf hfr
      go_wp2_with (first
       | (go_at_call 119; refine (HM.out _).mono ?_; rintro e w1 ⟨rfl, rfl⟩))
      exact ⟨⟨k + 1, by go_num, HLT.out, by rw [HS.out]; try go_num, by rw [HS.out]; exact hS⟩, by have := HLT.out; simp [intOf]; omega⟩
  ·obtain rfl : k = b + 1 := by omega
   have k1 : ¬ (((b + 1 : Nat) : Int) < (b : Int) + 1) := by omega
   clear hlt HLN hfr hk
   go_wp2
   go_ret
   exact ⟨_, rfl, hS⟩
end Go.Proofs.YtchohheleofncaaGreat
namespace Go.Proofs.YtchohheleofncaaGreat
open Go.Sep
theorem take_r' (a m k : Nat) : (List.range' a m).take k = List.range' a (min m k) := by
 apply List.ext_getElem
 ·simp; omega
 ·intro i h1 h2
  simp
structure CutD where
 n : Nat
 T : List (Nat × Nat)
 R : List (Nat × Nat)
def cutT (n a len : Nat) (T : List (Nat × Nat)) : List (Nat × Nat) := if 0 < min len n then T ++ [(a, min len n)] else T
def cutR (n a len : Nat) (R : List (Nat × Nat)) : List (Nat × Nat) := if min len n < len then R ++ [(a + min len n, len - min len n)] else R
def cutStep (p : CutD) (x : Nat × Nat) : CutD := ⟨p.n - min x.2 p.n, cutT p.n x.1 x.2 p.T, cutR p.n x.1 x.2 p.R⟩
def cutN (l : List (Nat × Nat)) (n k : Nat) : CutD := (l.take k).foldl cutStep ⟨n, [], []⟩
theorem cutN_succ {l : List (Nat × Nat)} {n k : Nat} {x : Nat × Nat} (h : l[k]? = some x) : cutN l n (k + 1) = cutStep (cutN l n k) x := by
 unfold cutN
 rw [List.take_add_one, h, List.foldl_append]
 rfl
structure CutOk (l : List (Nat × Nat)) (n : Nat) (p : CutD) : Prop where
 t : flat p.T = (flat l).take n
 left : p.n = n - (flat l).length
 tl : p.T.length ≤ l.length
 rl : p.R.length ≤ l.length
 tp : ∀ x ∈ p.T, 1 ≤ x.2 ∧ x.1 + x.2 ≤ 1100
theorem cut_ok (l : List (Nat × Nat)) (hl : ∀ x ∈ l, 1 ≤ x.2 ∧ x.1 + x.2 ≤ 1100) (n k : Nat) (hk : k ≤ l.length) : CutOk (l.take k) n (cutN l n k) := by
 induction k with
 | zero => exact ⟨by simp [cutN, flat], by simp [cutN, flat], by simp [cutN], by simp [cutN], by simp [cutN]⟩
 | succ k ih =>
  have ih := ih (by omega)
  obtain ⟨⟨a, m⟩, hx⟩ : ∃ x, l[k]? = some x := ⟨_, List.getElem?_eq_getElem (by omega)⟩
  have hp := hl _ (List.mem_of_getElem? hx)
  have hfl : flat (l.take (k + 1)) = flat (l.take k) ++ List.range' a m := by
   rw [List.take_add_one, hx, Option.toList_some, flat_append, flat_one]
  have hll : (l.take (k + 1)).length = (l.take k).length + 1 := by simp; omega
  rw [cutN_succ hx]
  refine ⟨?_, ?_, ?_, ?_, ?_⟩
  ·show flat (cutT _ a m _) = _
   rw [hfl, List.take_append, ih.left.symm]
   have h2 : (List.range' a m).take (cutN l n k).n = List.range' a (min m (cutN l n k).n) := by
    exact take_r' a m _
   rw [h2, ← ih.t]
   unfold cutT
   split
   ·rw [flat_append, flat_one]
   ·rename_i h3
    rw [show min m (cutN l n k).n = 0 by omega]; simp
  ·show (cutN l n k).n - min m (cutN l n k).n = _
   rw [hfl, List.length_append, List.length_range', ih.left]
   omega
  ·show (cutT _ a m _).length ≤ _
   have := ih.tl
   unfold cutT
   split
   ·rw [List.length_append, List.length_singleton]; omega
   ·omega
  ·show (cutR _ a m _).length ≤ _
   have := ih.rl
   unfold cutR
   split
   ·rw [List.length_append, List.length_singleton]; omega
   ·omega
  ·show ∀ x ∈ cutT _ a m _, _
   unfold cutT
   split
   ·intro x hx
    rcases List.mem_append.1 hx with hx | hx
    ·exact ih.tp x hx
    ·rw [List.mem_singleton.1 hx]
     dsimp only at hp ⊢
     omega
   ·exact ih.tp
def cutOf (l : List (Nat × Nat)) (n : Nat) : List (Nat × Nat) := (cutN l n l.length).T
theorem cutOf_flat (l : List (Nat × Nat)) (hl : ∀ x ∈ l, 1 ≤ x.2 ∧ x.1 + x.2 ≤ 1100) (n : Nat) : flat (cutOf l n) = (flat l).take n := by
 have := (cut_ok l hl n l.length (Nat.le_refl _)).t
 rwa [List.take_length] at this
theorem cutOf_pos (l : List (Nat × Nat)) (hl : ∀ x ∈ l, 1 ≤ x.2 ∧ x.1 + x.2 ≤ 1100) (n : Nat) : ∀ x ∈ cutOf l n, 1 ≤ x.2 ∧ x.1 + x.2 ≤ 1100 :=
 (cut_ok l hl n l.length (Nat.le_refl _)).tp
theorem cutOf_len (l : List (Nat × Nat)) (hl : ∀ x ∈ l, 1 ≤ x.2 ∧ x.1 + x.2 ≤ 1100) (n : Nat) : (cutOf l n).length ≤ l.length := by
 have := (cut_ok l hl n l.length (Nat.le_refl _)).tl
 rwa [List.take_length] at this
end Go.Proofs.YtchohheleofncaaGreat
