/-
 Package wal: a group is written to its places (done).
 Package wal: Header; slices.Equal of bytes.
-/
import Derived.Test.YtchohheleofncaaGreatMWlp
import Derived.Test.YtchohheleofncaaGreatMReg
set_option linter.unusedSimpArgs false
set_option linter.unusedVariables false
namespace Go.Proofs.YtchohheleofncaaGreat
open Go.RowKit Go.Sep
attribute [local irreducible] Go.Oper.wp Go.wpList Go.Calls Go.Code.wp Go.Sep.Reg
def wintOf : Value → Int | .int _ q => q | _ => 0
theorem yLdRd {P : Program} {W : World} {L : List Asrt} {o : Oper} {a : Act} {α : Type} {f : α → List Value} {l : List α} {x : α} {b off n sz c : Nat} (h : ∀ u, Sat W u L → Rd u (.slice (some ⟨b, off, none⟩) n c) n sz (l.flatMap f)) (hf : ∀ x ∈ l, (f x).length = sz) (T : TypeId) (y : Operand) (ho : o.op = .load T y) (ad : Nat) (hy : a.eval y = .pointer (some ⟨b, ad, none⟩)) (hT : aggB P T = some false)
  (i j : Nat) (hj : ad = off + (i * sz + j)) (hx : l[i]? = some x) {u : Value} (hu : (f x)[j]? = some u) (hn : 0 < n) : ∀ w, Sat W w L → (execOp a.eval o).run P w = .ok (.value u) w :=
 fun w hS => rLdRd (h w hS) hf T y ho ad hy hT i j hj hx hu hn
theorem writeD_any {W w : World} {L : List Asrt} {p k : Nat} {D : DiskS} (hS : Sat W w (IsDisk p D :: L)) (hG : DG D k) (hk : k ≤ 100000) (n : Int) (v : Value) (b : List UInt8) {m : Nat} (hm : b.length = m) (hb : ∀ w, Sat W w L → Rd w v m 1 (bv b)) :
  Calls Tryz.prog 37 #[.pointer (some ⟨p, 0, none⟩), .int .i64 n, v] w fun e w' => e = .returned (.int .i64 (wcode D n b.length)) ∧ Sat W w' (IsDisk p (wnext D n b) :: L) := by
 subst hm
 obtain ⟨ao, c, rfl, _⟩ := hb w hS.drop
 unfold wcode wnext
 have hw := hG.wr
 by_cases h1 : D.dead = true
 ·simp only [if_pos h1]; exact (write_dead hS n _ h1).mono fun e w' ⟨he, hw⟩ => ⟨he, hw ▸ hS⟩
 have h1' : D.dead = false := by simpa using h1
 simp only [if_neg h1]
 by_cases h2 : bad D.blocks.length n b.length
 ·simp only [if_pos h2]; exact (write_arg hS n _ _ _ h1' h2).mono fun e w' ⟨he, hw⟩ => ⟨he, hw ▸ hS⟩
 simp only [if_neg h2]
 unfold bad at h2
 obtain ⟨j, rfl⟩ := Int.eq_ofNat_of_zero_le (show 0 ≤ n by omega)
 have hbl : b.length = 128 := by omega
 rw [hbl] at hb ⊢
 by_cases h3 : D.left = 0
 ·simp only [if_pos h3]; exact write_cut hS j _ _ h1' (by omega) h3
 ·simp only [if_neg h3]
  exact write_ok hS j _ b hb h1' (by omega) h3 hG.lo hG.hi (by omega) hG.ok.len
theorem doneL_at {xs : List GW} {i : Nat} {x : GW} (h : xs[i]? = some x) : (doneL (g2 xs))[i]? = some (x.at_, x.data) := by
 have hl := (List.getElem?_eq_some_iff.1 h).1
 unfold doneL
 rw [List.getElem?_append_left (by rw [g2_len]; exact hl), g2_at h]
theorem doneL_last (xs : List GW) : (doneL (g2 xs))[xs.length]? = some (2, zeros 128) := by
 unfold doneL
 rw [List.getElem?_append_right (by rw [g2_len]; exact Nat.le_refl _), g2_len, Nat.sub_self]; rfl
theorem DG.step {D D' : DiskS} {k : Nat} {l : G2} {i : Nat} (h : DG D k) (hr : runW D (l.take i) = (0, D')) : DG D' (k + i) := by
 have := h.run (l.take i)
 rw [hr] at this
 exact this.mono (by have := List.length_take_le i l; omega)
set_option maxRecDepth 20000 in
set_option maxHeartbeats 4000000 in
theorem done_any {W w : World} {L : List Asrt} {p k : Nat} {D : DiskS} (hS : Sat W w (IsDisk p D :: L)) (hG : DG D k) (hk : k ≤ 99000) (xs : List GW) (ao : Option Addr) (c : Nat) (hr : ∀ w, Sat W w L → RdG w (.slice ao xs.length c) xs) (hb : xs.length ≤ 20) :
  Calls Tryz.prog 93 #[.pointer (some ⟨p, 0, none⟩), .slice ao xs.length c] w fun e w' => e = .returned (.int .i64 (runW D (doneL (g2 xs))).1) ∧ Sat W w' (IsDisk p (runW D (doneL (g2 xs))).2 :: L) := by
 have HR := Lib.hid hr
 obtain ⟨_, _, he, hc1, hc2, _, h5⟩ := (hr w hS.drop).1
 simp only [Value.slice.injEq, true_and] at he
 obtain ⟨rfl, rfl⟩ := he
 have H5 := Lib.hid h5
 have HG := Lib.hid hG
 clear hr h5 hG
 obtain ⟨l, hl⟩ : ∃ l, doneL (g2 xs) = l := ⟨_, rfl⟩
 have HL := Lib.hid hl
 have HLL := Lib.hid (show l.length = xs.length + 1 by rw [← hl]; simp [doneL, g2_len])
 rw [hl]
 clear hl
 go_enter Tryz.func93, Tryz.ntmps93
 go_wp2
 refine wp_scope_two_over 1 0 (fun a' w' => ∃ (i : Nat) (D' : DiskS) (u7 u8 u9 u10 u11 u12 u13 u14 u15 u16 u17 u18 u19 u20 u21 u22 u23 u24 u25 u26 u27 u28 u29 u30 : Value), i ≤ xs.length ∧ runW D (l.take i) = (0, D') ∧ Sat W w' (IsDisk p D' :: L) ∧ a' = { tmps := #[.pointer (some ⟨p, 0, none⟩), .slice ao xs.length c, undef, undef, .int .i64 0, .int .i64 (i : Int), .int .i64 0, u7, u8, u9, u10, u11, u12, u13, u14, u15, u16, u17, u18, u19, u20, u21, u22, u23, u24, u25, u26, u27, u28, u29, u30], defers := [] }) (fun a' _ => xs.length - (wintOf (a'.tmps.getD 5 undef)).toNat) rfl rfl ?_ ?_
 ·clear hS
  rintro a' w' ⟨i, D', u7, u8, u9, u10, u11, u12, u13, u14, u15, u16, u17, u18, u19, u20, u21, u22, u23, u24, u25, u26, u27, u28, u29, u30, hi, hrun, hS, rfl⟩
  have HRUN := Lib.hid hrun
  clear hrun
  by_cases hlt : i < xs.length
  ·obtain ⟨b, off, rfl, _⟩ := H5.out (by omega)
   obtain ⟨⟨xa, xv, xd⟩, hx⟩ : ∃ x, xs[i]? = some x := ⟨_, List.getElem?_eq_getElem hlt⟩
   obtain ⟨ad, cd, rfl⟩ : ∃ ad cd, xv = .slice ad xd.length cd := (HR.out _ hS.drop).slice hx
   have HX := Lib.hid hx
   have HLT := Lib.hid hlt
   have i1 : (i : Int) < (xs.length : Int) := by omega
   have HN := Lib.hid (runW_next HRUN.out (by rw [← HL.out]; exact doneL_at hx))
   have HWR := Lib.hid (fun w (h : Sat W w (IsDisk p D' :: L)) => writeD_any h (HG.out.step HRUN.out) (by omega) xa _ xd rfl (fun w h => (HR.out w h).2 _ (List.mem_of_getElem? hx)))
   dsimp only at HN
   obtain ⟨q, hq⟩ : ∃ q, wcode D' xa xd.length = q := ⟨_, rfl⟩
   rw [hq] at HN HWR
   clear hx hlt hq
   by_cases h0 : q = 0
   ·subst h0
    go_wp2
    refine regStart [11] hS (by kernel_rfl) rfl ?_
    intro w1 hS1
    clear hS; have hS := hS1; clear hS1
    (refine rgP 0 hS (fun _ h => h) ?_; go_frame)
    (refine rgP 1 hS (fun _ h => h) ?_; go_frame)
    (refine rgP 2 hS (fun _ h => h) ?_; go_frame)
    (refine rgP 3 hS (fun _ h => h) ?_; go_frame)
    (refine rgP 4 hS (fun _ h => h) ?_; go_frame)
    (refine rgR 5 hS (fun _ h => h) ?_; (first
             | refine ⟨_, yLdRd (fun u h => (HR.out u h.drop).1) (gw_len xs) _ _ (by rfl) _ (by rfl) (agOf (by rfl)) i 0 (by omega) HX.out (by rfl) (by omega), ?_⟩
             | refine ⟨_, yLdRd (fun u h => (HR.out u h.drop).1) (gw_len xs) _ _ (by rfl) _ (by rfl) (agOf (by rfl)) i 1 (by omega) HX.out (by rfl) (by omega), ?_⟩); go_frame)
    (refine rgP 6 hS (fun _ h => h) ?_; go_frame)
    (refine rgP 7 hS (fun _ h => h) ?_; go_frame)
    (refine rgP 8 hS (fun _ h => h) ?_; go_frame)
    (refine rgP 9 hS (fun _ h => h) ?_; go_frame)
    (refine rgR 10 hS (fun _ h => h) ?_; (first
             | refine ⟨_, yLdRd (fun u h => (HR.out u h.drop).1) (gw_len xs) _ _ (by rfl) _ (by rfl) (agOf (by rfl)) i 0 (by omega) HX.out (by rfl) (by omega), ?_⟩
             | refine ⟨_, yLdRd (fun u h => (HR.out u h.drop).1) (gw_len xs) _ _ (by rfl) _ (by rfl) (agOf (by rfl)) i 1 (by omega) HX.out (by rfl) (by omega), ?_⟩); go_frame)
    (refine rgA 11 true fun K hK => ?_; (refine Go.Sep.cl 37 _ _ (by rfl) (by rfl) (by kernel_rfl) (HWR.out _ hS) ?_; clear hS; rintro e w1 ⟨rfl, hS⟩; refine ⟨_, rfl, ?_⟩); refine hK _ _ _ hS (by first | (intro h; cases h; done) | exact fun _ _ h => h | exact fun _ _ h => h.drop | exact fun _ _ h => h.drop.drop | exact fun _ _ h => h.drop.pull1 | exact fun _ _ h => h.take2 | exact fun _ _ h => h.one Has.z | exact fun _ _ h => h.one (Has.s Has.z) | exact fun _ _ h => h.one (Has.s (Has.s Has.z))) ?_; clear hK K; go_frame)
    (refine rgP 12 hS (fun _ h => h) ?_; go_frame)
    refine regDone (by kernel_rfl) ?_
    go_wp2
    go_step3
    refine .inl ⟨rfl, ⟨i + 1, _, _, _, _, _, _, _, _, _, _, _, _, _, _, _, _, _, _, _, _, _, _, _, _, _, HLT.out, HN.out, hS, rfl⟩, ?_⟩
    simp [wintOf]
    have := HLT.out
    omega
   ·have e0 : (q != 0) = true := bne_iff_ne.2 h0
    have HST := Lib.hid (runW_stop (D := D) (l := l) (i := i + 1) (by rw [HN.out]; exact h0))
    clear h0
    go_wp2
    refine regStart [11] hS (by kernel_rfl) rfl ?_
    intro w1 hS1
    clear hS; have hS := hS1; clear hS1
    (refine rgP 0 hS (fun _ h => h) ?_; go_frame)
    (refine rgP 1 hS (fun _ h => h) ?_; go_frame)
    (refine rgP 2 hS (fun _ h => h) ?_; go_frame)
    (refine rgP 3 hS (fun _ h => h) ?_; go_frame)
    (refine rgP 4 hS (fun _ h => h) ?_; go_frame)
    (refine rgR 5 hS (fun _ h => h) ?_; (first
             | refine ⟨_, yLdRd (fun u h => (HR.out u h.drop).1) (gw_len xs) _ _ (by rfl) _ (by rfl) (agOf (by rfl)) i 0 (by omega) HX.out (by rfl) (by omega), ?_⟩
             | refine ⟨_, yLdRd (fun u h => (HR.out u h.drop).1) (gw_len xs) _ _ (by rfl) _ (by rfl) (agOf (by rfl)) i 1 (by omega) HX.out (by rfl) (by omega), ?_⟩); go_frame)
    (refine rgP 6 hS (fun _ h => h) ?_; go_frame)
    (refine rgP 7 hS (fun _ h => h) ?_; go_frame)
    (refine rgP 8 hS (fun _ h => h) ?_; go_frame)
    (refine rgP 9 hS (fun _ h => h) ?_; go_frame)
    (refine rgR 10 hS (fun _ h => h) ?_; (first
             | refine ⟨_, yLdRd (fun u h => (HR.out u h.drop).1) (gw_len xs) _ _ (by rfl) _ (by rfl) (agOf (by rfl)) i 0 (by omega) HX.out (by rfl) (by omega), ?_⟩
             | refine ⟨_, yLdRd (fun u h => (HR.out u h.drop).1) (gw_len xs) _ _ (by rfl) _ (by rfl) (agOf (by rfl)) i 1 (by omega) HX.out (by rfl) (by omega), ?_⟩); go_frame)
    (refine rgA 11 true fun K hK => ?_; (refine Go.Sep.cl 37 _ _ (by rfl) (by rfl) (by kernel_rfl) (HWR.out _ hS) ?_; clear hS; rintro e w1 ⟨rfl, hS⟩; refine ⟨_, rfl, ?_⟩); refine hK _ _ _ hS (by first | (intro h; cases h; done) | exact fun _ _ h => h | exact fun _ _ h => h.drop | exact fun _ _ h => h.drop.drop | exact fun _ _ h => h.drop.pull1 | exact fun _ _ h => h.take2 | exact fun _ _ h => h.one Has.z | exact fun _ _ h => h.one (Has.s Has.z) | exact fun _ _ h => h.one (Has.s (Has.s Has.z))) ?_; clear hK K; go_frame)
    (refine rgP 12 hS (fun _ h => h) ?_; go_frame)
    refine regDone (by kernel_rfl) ?_
    go_wp2
    go_step3
    refine .inr ⟨rfl, ?_⟩
    go_wp2
    rw [Exit.noGoto_ret]
    go_ret
    rw [HST.out, HN.out]
    exact ⟨rfl, hS⟩
  ·obtain rfl : i = xs.length := by omega
   have HN := Lib.hid (runW_next HRUN.out (by rw [← HL.out]; exact doneL_last xs))
   have HT := Lib.hid (show l.take (xs.length + 1) = l from List.take_of_length_le (by rw [HLL.out]; exact Nat.le_refl _))
   rw [HT.out] at HN
   have HWR := Lib.hid (fun (pb : Nat) w (h : Sat W w (IsDisk p D' :: Cs pb 5 (bv (zeros 128)) :: L)) => writeD_any h (HG.out.step HRUN.out) (by omega) 2 (.slice (some ⟨pb, 0, none⟩) 128 128) (zeros 128) (m := 128) (by simp [zeros]) (fun w h => h.csRd0 (n := 128) (sz := 1) Has.z (by decide) (by simp [bv_length, zeros])))
   clear hlt
   go_wp2_with (first
    | (refine toList (by rfl) ?_; refine mk hS _ _ _ (by rfl) 128 128 _ _ (by rfl) (by rfl) (elOf (by rfl)) (by omega) (by omega) (by omega) ?_; clear hS; intro pb w1 hS; rw [made_u8] at hS)
    | (go_at_call 37; refine (HWR.out _ _ hS.pull1).mono ?_; clear hS; rintro e w1 ⟨rfl, hS⟩))
   go_step3
   go_wp2
   rw [Exit.jump2_ret]
   go_ret
   rw [HN.out]
   exact ⟨rfl, hS.pull1.drop⟩
 ·intro HP
  go_wp2
  go_step3
  rename_i K hK
  exact hK _ _ (HP _ _ ⟨0, D, _, _, _, _, _, _, _, _, _, _, _, _, _, _, _, _, _, _, _, _, _, _, _, _, Nat.zero_le _, rfl, hS, rfl⟩)

end Go.Proofs.YtchohheleofncaaGreat
namespace Go.Proofs.YtchohheleofncaaGreat
open Go.RowKit Go.Sep
attribute [local irreducible] Go.Oper.wp Go.wpList Go.Calls Go.Code.wp Go.Sep.Reg
theorem yLdRd1 {P : Program} {W : World} {L : List Asrt} {o : Oper} {a : Act} {b off n sz c : Nat} {vs : List Value} (h : ∀ u, Sat W u L → Rd u (.slice (some ⟨b, off, none⟩) n c) n sz vs) (T : TypeId) (y : Operand) (ho : o.op = .load T y) (ad : Nat) (hy : a.eval y = .pointer (some ⟨b, ad, none⟩)) (hT : aggB P T = some false)
  (j : Nat) (hj : ad = off + j) {u : Value} (hu : vs[j]? = some u) (hn : 0 < n) : ∀ w, Sat W w L → (execOp a.eval o).run P w = .ok (.value u) w :=
 fun w hS => rLdRd1 (h w hS) T y ho ad hy hT j hj hu hn
set_option maxRecDepth 20000 in
set_option maxHeartbeats 1000000 in
theorem equal_any {W w : World} {L : List Asrt} (hS : Sat W w L) (l m : List UInt8) (v u : Value) (n : Nat) (hl : l.length = n) (hm : m.length = n) (h1 : ∀ w, Sat W w L → Rd w v n 1 (bv l)) (h2 : ∀ w, Sat W w L → Rd w u n 1 (bv m)) (hn : n ≤ 1000000) :
  Calls Tryz.prog 91 #[v, u] w fun e w' => e = .returned (.bool (decide (l = m))) ∧ Sat W w' L := by
 have HR1 := Lib.hid h1
 have HR2 := Lib.hid h2
 obtain ⟨a1, c1, rfl, hc1, hc1', _, h15⟩ := h1 w hS
 obtain ⟨a2, c2, rfl, hc2, hc2', _, h25⟩ := h2 w hS
 have H15 := Lib.hid h15
 have H25 := Lib.hid h25
 have HL := Lib.hid hl
 have HM := Lib.hid hm
 clear h1 h2 h15 h25 hl hm
 have n1 : (n : Int) ≤ 1000000 := by omega
 go_enter Tryz.func91, Tryz.ntmps91
 go_wp2
 have H0 := Lib.hid hS
 go_loopw [13] (fun v wz => ∃ k : Nat, v = .int .i64 k ∧ k ≤ n ∧ l.take k = m.take k ∧ Sat W wz L) (fun v _ => n - (wintOf v).toNat)
 case atStart => exact ⟨0, rfl, by omega, rfl, H0.out⟩
 case round =>
  clear hS H0
  obtain ⟨k, rfl, hk, he, hS⟩ := hrel
  by_cases hlt : k < n
  ·have k1 : (k : Int) < (n : Int) := by omega
   obtain ⟨b1, o1, rfl, _⟩ := H15.out (by omega)
   obtain ⟨b2, o2, rfl, _⟩ := H25.out (by omega)
   have hx1 := List.getElem?_eq_getElem (l := l) (i := k) (by rw [HL.out]; exact hlt)
   have hx2 := List.getElem?_eq_getElem (l := m) (i := k) (by rw [HM.out]; exact hlt)
   generalize l[k]'(by rw [HL.out]; exact hlt) = x at hx1
   generalize m[k]'(by rw [HM.out]; exact hlt) = y at hx2
   have HB1 := Lib.hid (show (bv l)[k]? = some (.int .u8 (x.toNat : Int)) by simp [bv, hx1, u8])
   have HB2 := Lib.hid (show (bv m)[k]? = some (.int .u8 (y.toNat : Int)) by simp [bv, hx2, u8])
   have HLT := Lib.hid hlt
   by_cases hxy : x = y
   ·subst hxy
    have HE := Lib.hid (show l.take (k + 1) = m.take (k + 1) by rw [List.take_add_one, List.take_add_one, hx1, hx2, he])
    clear hx1 hx2 he hlt
    go_wp2
    refine regStart [] hS (by kernel_rfl) rfl ?_
    intro w1 hS1
    clear hS; have hS := hS1; clear hS1
    (refine rgP 0 hS (fun _ h => h) ?_; go_frame)
    (refine rgP 1 hS (fun _ h => h) ?_; go_frame)
    (refine rgP 2 hS (fun _ h => h) ?_; go_frame)
    (refine rgR 3 hS (fun _ h => h) ?_; (first
             | refine ⟨_, yLdRd1 HR1.out _ _ (by rfl) _ (by rfl) (agOf (by rfl)) k (by omega) HB1.out (by omega), ?_⟩
             | refine ⟨_, yLdRd1 HR2.out _ _ (by rfl) _ (by rfl) (agOf (by rfl)) k (by omega) HB2.out (by omega), ?_⟩); go_frame)
    (refine rgP 4 hS (fun _ h => h) ?_; go_frame)
    (refine rgP 5 hS (fun _ h => h) ?_; go_frame)
    (refine rgP 6 hS (fun _ h => h) ?_; go_frame)
    (refine rgR 7 hS (fun _ h => h) ?_; (first
             | refine ⟨_, yLdRd1 HR1.out _ _ (by rfl) _ (by rfl) (agOf (by rfl)) k (by omega) HB1.out (by omega), ?_⟩
             | refine ⟨_, yLdRd1 HR2.out _ _ (by rfl) _ (by rfl) (agOf (by rfl)) k (by omega) HB2.out (by omega), ?_⟩); go_frame)
    (refine rgP 8 hS (fun _ h => h) ?_; go_frame)
    refine regDone (by kernel_rfl) ?_
    go_wp2
    exact ⟨⟨k + 1, by go_num, HLT.out, HE.out, hS⟩, by simp [wintOf]; have := HLT.out; omega⟩
   ·have HF := Lib.hid (show decide (l = m) = false from decide_eq_false fun e => by
     rw [e, hx2] at hx1
     exact hxy (Option.some.inj hx1).symm)
    have e1 : ((x.toNat : Int) != (y.toNat : Int)) = true := by
     rw [bne_iff_ne]; intro e; exact hxy (UInt8.toNat_inj.1 (by omega))
    clear hx1 hx2 he hlt hxy
    go_wp2
    refine regStart [] hS (by kernel_rfl) rfl ?_
    intro w1 hS1
    clear hS; have hS := hS1; clear hS1
    (refine rgP 0 hS (fun _ h => h) ?_; go_frame)
    (refine rgP 1 hS (fun _ h => h) ?_; go_frame)
    (refine rgP 2 hS (fun _ h => h) ?_; go_frame)
    (refine rgR 3 hS (fun _ h => h) ?_; (first
             | refine ⟨_, yLdRd1 HR1.out _ _ (by rfl) _ (by rfl) (agOf (by rfl)) k (by omega) HB1.out (by omega), ?_⟩
             | refine ⟨_, yLdRd1 HR2.out _ _ (by rfl) _ (by rfl) (agOf (by rfl)) k (by omega) HB2.out (by omega), ?_⟩); go_frame)
    (refine rgP 4 hS (fun _ h => h) ?_; go_frame)
    (refine rgP 5 hS (fun _ h => h) ?_; go_frame)
    (refine rgP 6 hS (fun _ h => h) ?_; go_frame)
    (refine rgR 7 hS (fun _ h => h) ?_; (first
             | refine ⟨_, yLdRd1 HR1.out _ _ (by rfl) _ (by rfl) (agOf (by rfl)) k (by omega) HB1.out (by omega), ?_⟩
             | refine ⟨_, yLdRd1 HR2.out _ _ (by rfl) _ (by rfl) (agOf (by rfl)) k (by omega) HB2.out (by omega), ?_⟩); go_frame)
    (refine rgP 8 hS (fun _ h => h) ?_; go_frame)
    refine regDone (by kernel_rfl) ?_
    go_wp2
    go_ret
    rw [HF.out]
    exact ⟨rfl, hS⟩
  ·have k1 : ¬ (k : Int) < (n : Int) := by omega
   have HT := Lib.hid (show decide (l = m) = true from decide_eq_true (by
    rw [List.take_of_length_le (by rw [HL.out]; omega), List.take_of_length_le (by rw [HM.out]; omega)] at he; exact he))
   clear hlt he
   go_wp2
   go_ret
   rw [HT.out]
   exact ⟨rfl, hS⟩
/-! ### the header -/
def hd0 (g : G2) (k : Nat) : List UInt8 := le g.length 1 ++ (g.take k).flatMap fun x => le x.1 2
theorem hd0_zero (g : G2) : hd0 g 0 = le g.length 1 := by simp [hd0]
theorem hd0_succ {g : G2} {k : Nat} {x : Int × List UInt8} (h : g[k]? = some x) : hd0 g k ++ le x.1 2 = hd0 g (k + 1) := by
 unfold hd0
 rw [List.take_add_one, h, List.flatMap_append, List.append_assoc]
 simp
theorem hd0_all (g : G2) : hd0 g g.length = hdr0 g := by unfold hd0 hdr0; rw [List.take_length]
theorem hd0_len (g : G2) (k : Nat) : (hd0 g k).length ≤ 1 + 2 * k := by
 unfold hd0
 rw [List.length_append, le_length, wflat_len _ 2 _ (fun x _ => le_length _ _), List.length_take]; omega
set_option maxRecDepth 20000 in
set_option maxHeartbeats 4000000 in
theorem wheader_any {W w : World} {L : List Asrt} (hS : Sat W w L) (xs : List GW) (ao : Option Addr) (c : Nat) (hr : ∀ w, Sat W w L → RdG w (.slice ao xs.length c) xs) (hb : xs.length ≤ 20) (ha : ∀ x ∈ xs, -9223372036854775808 ≤ x.at_ ∧ x.at_ ≤ 9223372036854775807) :
  Calls Tryz.prog 92 #[.slice ao xs.length c] w fun e w' => ∃ v, e = .returned v ∧ Sat W w' (Sl 5 1 v 128 (bv (hdr (g2 xs))) :: L) := by
 have HR := Lib.hid hr
 have HA := Lib.hid ha
 obtain ⟨_, _, he, hc1, hc2, _, h5⟩ := (hr w hS).1
 simp only [Value.slice.injEq, true_and] at he
 obtain ⟨rfl, rfl⟩ := he
 have H5 := Lib.hid h5
 clear hr h5 ha
 obtain ⟨g, hg⟩ : ∃ g, g2 xs = g := ⟨_, rfl⟩
 rw [hg]
 have HG := Lib.hid hg
 have HGL := Lib.hid (show g.length = xs.length by rw [← hg, g2_len])
 clear hg
 have n1 : (xs.length : Int) ≤ 20 := by omega
 have n2 : (xs.length : Int) ≤ (c : Int) := by omega
 have n3 : min (xs.length : Int) 20 = (xs.length : Int) := by omega
 have HNIL := Lib.hid (hS.slNil (E := 5) (sz := 1))
 have H60 := Lib.hid (hdrB_len (g := g) (by rw [HGL.out]; exact hb))
 have H64 := Lib.hid (hdr1_len (g := g) (by rw [HGL.out]; exact hb))
 have HZ := Lib.hid (hd0_zero g)
 rw [HGL.out] at HZ
 go_enter Tryz.func92, Tryz.ntmps92
 go_wp2_with (first
  | (go_at_call 84; refine (put_any (l := []) HNIL.out (xs.length : Nat) (by omega) (by omega) 1 (by omega) (by omega) (by simp)).mono ?_; clear hS; rintro e w1 ⟨v1, rfl, hS⟩))
 have H0 : Hid (Sat W _ (Sl 5 1 v1 (hd0 g 0).length (bv (hd0 g 0)) :: L)) := Lib.hid (by rw [HZ.out]; simpa using hS)
 go_loopw [3, 18] (fun v3 v18 wz => ∃ k : Nat, v18 = .int .i64 k ∧ k ≤ xs.length ∧ Sat W wz (Sl 5 1 v3 (hd0 g k).length (bv (hd0 g k)) :: L)) (fun _ v18 _ => xs.length - (wintOf v18).toNat)
 case atStart => exact ⟨0, rfl, by omega, H0.out⟩
 case round =>
  clear hS H0
  obtain ⟨k, rfl, hk, hS⟩ := hrel
  by_cases hl : k < xs.length
  ·have k1 : (k : Int) < (xs.length : Int) := by omega
   obtain ⟨b, off, rfl, _⟩ := H5.out (by omega)
   obtain ⟨⟨xa, xv, xd⟩, hx⟩ : ∃ x, xs[k]? = some x := ⟨_, List.getElem?_eq_getElem hl⟩
   obtain ⟨ad, cd, rfl⟩ : ∃ ad cd, xv = .slice ad xd.length cd := (HR.out _ hS.drop).slice hx
   obtain ⟨r1, r2⟩ := HA.out _ (List.mem_of_getElem? hx)
   dsimp only at r1 r2
   have HX := Lib.hid hx
   have HL := Lib.hid hl
   have HSU := Lib.hid (show hd0 g k ++ le xa 2 = hd0 g (k + 1) from hd0_succ (x := (xa, xd)) (by rw [← HG.out]; exact g2_at hx))
   have HLN := Lib.hid (hd0_len g k)
   clear hx hl
   go_wp2_with (first
    | (refine toList (by rfl) ?_; refine wp_of_reads (rLdRdA (HR.out _ hS.drop).1 (gw_len xs) _ _ (by rfl) _ (by rfl) (agOf (by rfl)) (szOf (by rfl)) k (by omega) HX.out (by omega)) ?_)
    | (refine toList (by rfl) ?_; refine al hS _ (by rfl) (zrOf (by rfl)) ?_; clear hS; intro px w1 hS; rw [cells_agg] at hS)
    | (refine toList (by rfl) ?_; refine stW hS _ _ _ (by rfl) (by rfl) (gw ⟨xa, .slice ad xd.length cd, xd⟩) (by rfl) (gw_one _ _) (szOf (by rfl)) Has.z (by rfl) ?_; clear hS; intro w1 hS; dsimp only [List.set_cons_zero] at hS)
    | (refine toList (by rfl) ?_; refine ld hS _ _ (by rfl) _ _ (by rfl) (agOf (by rfl)) Has.z (by rfl) ?_)
    | (go_at_call 84; refine (Calls.atX hS (by repeat first | exact Has.z | apply Has.s) (fun hF => put_any hF xa (by omega) (by omega) 2 (by omega) (by omega) (by have := HLN.out; omega))).mono ?_; clear hS; rintro e w1 ⟨v2, rfl, hS⟩; dsimp only [List.set_cons_zero, List.set_cons_succ] at hS))
   rw [HSU.out] at hS
   exact ⟨⟨k + 1, by go_num, HL.out, hS.drop⟩, by simp [wintOf]; have := HL.out; omega⟩
  ·have k1 : ¬ (k : Int) < (xs.length : Int) := by omega
   obtain rfl : k = xs.length := by omega
   have HAL := Lib.hid (show hd0 g xs.length = hdr0 g by rw [← HGL.out]; exact hd0_all g)
   rw [HAL.out] at hS
   have HLN := Lib.hid (show (hdr0 g).length ≤ 60 by rw [hdr0_len, HGL.out]; omega)
   have HS0 := Lib.hid (hsum_zero g)
   clear hl
   go_wp2_with (first
    | (go_at_call 85; refine (pad_any hS 60 HLN.out (by omega)).mono ?_; clear hS; rintro e w1 ⟨v3, rfl, hS⟩; replace hS : Sat W _ (Sl 5 1 v3 (hdrB g).length (bv (hdrB g)) :: L) := (by rw [H60.out]; exact hS))
    | (go_at_call 124; refine (of_any (hdrB g) _ _ (hS.slRd Has.z)).mono ?_; rintro e w1 ⟨rfl, rfl⟩))
   have H1 := Lib.hid hS
   go_loopw [6, 36] (fun v6 v36 wz => ∃ k : Nat, v36 = .int .i64 k ∧ k ≤ xs.length ∧ v6 = .int .u32 (hsum g k : Nat) ∧ Sat W wz (Sl 5 1 v3 (hdrB g).length (bv (hdrB g)) :: L)) (fun _ v36 _ => xs.length - (wintOf v36).toNat)
   case atStart => exact ⟨0, rfl, by omega, by rw [HS0.out], H1.out⟩
   case round =>
    clear hS H1
    obtain ⟨k, rfl, hk, rfl, hS⟩ := hrel
    by_cases hl : k < xs.length
    ·have k1 : (k : Int) < (xs.length : Int) := by omega
     obtain ⟨b, off, rfl, _⟩ := H5.out (by omega)
     obtain ⟨⟨xa, xv, xd⟩, hx⟩ : ∃ x, xs[k]? = some x := ⟨_, List.getElem?_eq_getElem hl⟩
     obtain ⟨ad, cd, rfl⟩ : ∃ ad cd, xv = .slice ad xd.length cd := (HR.out _ hS.drop).slice hx
     have HX := Lib.hid hx
     have HL := Lib.hid hl
     have HLT := Lib.hid (hsum_lt g k)
     have HSU := Lib.hid (show hsum g (k + 1) = adMore (hsum g k) xd from hsum_succ (x := (xa, xd)) (by rw [← HG.out]; exact g2_at hx))
     obtain ⟨s, hs⟩ : ∃ s, hsum g k = s := ⟨_, rfl⟩
     rw [hs] at HLT HSU ⊢
     clear hx hl hs
     go_wp2_with (first
      | (refine toList (by rfl) ?_; refine wp_of_reads (rLdRdA (HR.out _ hS.drop).1 (gw_len xs) _ _ (by rfl) _ (by rfl) (agOf (by rfl)) (szOf (by rfl)) k (by omega) HX.out (by omega)) ?_)
      | (refine toList (by rfl) ?_; refine al hS _ (by rfl) (zrOf (by rfl)) ?_; clear hS; intro px w1 hS; rw [cells_agg] at hS)
      | (refine toList (by rfl) ?_; refine stW hS _ _ _ (by rfl) (by rfl) (gw ⟨xa, .slice ad xd.length cd, xd⟩) (by rfl) (gw_one _ _) (szOf (by rfl)) Has.z (by rfl) ?_; clear hS; intro w1 hS; dsimp only [List.set_cons_zero] at hS)
      | (refine toList (by rfl) ?_; refine ld hS _ _ (by rfl) _ _ (by rfl) (agOf (by rfl)) Has.z (by rfl) ?_)
      | (go_at_call 125; refine (more_any s HLT.out xd _ _ ((HR.out _ hS.drop.drop).2 _ (List.mem_of_getElem? HX.out))).mono ?_; rintro e w1 ⟨rfl, rfl⟩))
     exact ⟨⟨k + 1, by go_num, HL.out, by rw [HSU.out], hS.drop⟩, by simp [wintOf]; have := HL.out; omega⟩
    ·have k1 : ¬ (k : Int) < (xs.length : Int) := by omega
     have HSA := Lib.hid (show hsum g k = hdrS g by rw [← hsum_all, HGL.out, show k = xs.length by omega])
     rw [HSA.out]
     have hlt := hdrS_lt g
     obtain ⟨s, hs⟩ : ∃ s, hdrS g = s := ⟨_, rfl⟩
     have HH1 := Lib.hid (show hdrB g ++ le (s : Int) 4 = hdr1 g by rw [← hs]; rfl)
     rw [hs] at hlt ⊢
     have s1 : (s : Int) < 4294967296 := by omega
     have HH64 := Lib.hid (show (hdr1 g).length ≤ 128 by rw [H64.out]; omega)
     have HB60 := Lib.hid (show (hdrB g).length ≤ 1000000 by rw [H60.out]; omega)
     clear hl hs hlt
     go_wp2_with (first
      | (go_at_call 84; refine (put_any hS (s : Int) (by omega) (by omega) 4 (by omega) (by omega) HB60.out).mono ?_; clear hS; rintro e w1 ⟨v4, rfl, hS⟩; rw [HH1.out] at hS)
      | (go_at_call 85; refine (pad_any hS 128 HH64.out (by omega)).mono ?_; clear hS; rintro e w1 ⟨v5, rfl, hS⟩))
     go_ret
     exact ⟨_, rfl, hS⟩

end Go.Proofs.YtchohheleofncaaGreat
