/-
 Good stores: what Format lays; behind a commit of the first block (plain).
 Package store: group.
 Package store: Mounted.
-/
import Derived.Test.YtchohheleofncaaGreatMSto
import Derived.Test.YtchohheleofncaaGreatMIng
import Derived.Test.YtchohheleofncaaGreatMWlr
set_option linter.unusedSimpArgs false
set_option linter.unusedVariables false
namespace Go.Proofs.YtchohheleofncaaGreat
open Go.RowKit Go.Sep
def S0 (n : Nat) : StD := ⟨sup0 n, U0 n, (List.range 48).map inoAt, [], 0⟩
theorem blksI_none {x : InoD} (h : x.ptrs = List.replicate 32 0) : blksI x = [] := by unfold blksI; rw [h]; rfl
theorem inoAt_ptrs (i : Nat) : (inoAt i).ptrs = List.replicate 32 0 := by unfold inoAt; split <;> rfl
theorem blksX_S0 (n : Nat) : blksX (S0 n).inos = [] := by
 unfold blksX S0
 rw [List.flatMap_eq_nil_iff]
 intro x hx
 obtain ⟨i, _, rfl⟩ := List.mem_map.1 hx
 exact blksI_none (inoAt_ptrs i)
theorem s0_at {n i : Nat} {x : InoD} (h : (S0 n).inos[i]? = some x) : i < 48 ∧ x = inoAt i := by
 unfold S0 at h
 dsimp only at h
 have hi := (List.getElem?_eq_some_iff.1 h).1
 rw [List.length_map, List.length_range] at hi
 rw [List.getElem?_map, List.getElem?_range hi] at h
 exact ⟨hi, (Option.some.inj h).symm⟩
theorem sok_fmt {n : Nat} (h1 : 160 ≤ n) (h2 : n ≤ 1024) : SOk (fmtB n) (S0 n) [74] where
 n1 := by rw [fmtB_len]; exact h1
 n2 := by rw [fmtB_len]; exact h2
 x := ⟨by unfold S0; simp, fun x hx => by
  obtain ⟨i, _, rfl⟩ := List.mem_map.1 hx
  exact okI_at i⟩
 sup := okSup0 h1 h2
 blocks := by rw [fmtB_len]; rfl
 ne := by simp
 head := rfl
 tail := rfl
 recs := rfl
 low := Nat.le_refl _
 high := Nat.zero_le _
 last := rfl
 rok := rfl
 gr := rfl
 rng p hp := by
  rw [blksX_S0, List.nil_append, List.mem_singleton] at hp
  subst hp
  rw [fmtB_len]
  omega
 nd := by rw [blksX_S0]; simp
 u := by
  rw [blksX_S0, fmtB_len, ← usedBy_snoc, usedBy_nil]
  rfl
 b0 := fmtB_0 h1
 b1 := fmtB_1 h1
 b2 := fmtB_2 h1
 bi i x hx := by
  obtain ⟨hi, rfl⟩ := s0_at hx
  exact fmtB_ino h1 hi
 bg i g hg := by
  have hi := (List.getElem?_eq_some_iff.1 hg).1
  obtain rfl : i = 0 := by simp at hi; omega
  obtain rfl : 74 = g := by simpa using hg
  exact fmtB_74 h1
end Go.Proofs.YtchohheleofncaaGreat
namespace Go.Proofs.YtchohheleofncaaGreat
open Go.RowKit Go.Sep
attribute [local irreducible] Go.Oper.wp Go.wpList Go.Calls Go.Code.wp Go.Sep.Reg
theorem g2_snoc (xs : List GW) (a : Int) (v : Value) (d : List UInt8) : g2 (xs ++ [⟨a, v, d⟩]) = g2 xs ++ [(a, d)] := by simp [g2]
set_option maxRecDepth 20000 in
set_option maxHeartbeats 4000000 in
theorem group_open {W w : World} {L : List Asrt} {ps pd k : Nat} {v : Value} {V : List Value} {xs : List GW} {D : DiskS} (hS : Sat W w (Tb 95 2 gw v xs :: Cs ps 85 V :: IsDisk pd D :: L)) (g0 : V[0]? = some (.pointer (some ⟨pd, 0, none⟩)))
  (hG : DG D k) (hk : k ≤ 90000) (s' : SupD) (hs : okSup s' = true) (hx : xs.length ≤ 1000)
  (hd : ∀ w L', Sat W w (L' ++ L) → ∀ x ∈ xs, Rd w x.val x.data.length 1 (bv x.data)) :
  Calls Tryz.prog 41 #[.pointer (some ⟨ps, 0, none⟩), v, .agg (sv s').toArray] w fun e w' => e = .returned (.int .i64 (commitR D (g2 xs ++ [(0, encS s')])).1) ∧ Sat W w' (Cs ps 85 V :: IsDisk pd (commitR D (g2 xs ++ [(0, encS s')])).2 :: L) := by
 have G0 := Lib.hid g0
 have HDG := Lib.hid hG
 have HOS := Lib.hid hs
 have HES := Lib.hid (supB_yes hs)
 have HD := Lib.hid hd
 have HXL := Lib.hid hx
 have HGE := Lib.hid (fun v => g2_snoc xs 0 v (encS s'))
 obtain ⟨es, hes⟩ : ∃ es, encS s' = es := ⟨_, rfl⟩
 have HEL := Lib.hid (show es.length = 128 by rw [← hes]; exact encS_len s')
 clear hG hs hd g0 hx
 rw [hes] at HES HGE ⊢
 go_enter Tryz.func41, Tryz.ntmps41
 go_wp2_with (first
  | (refine toList (by rfl) ?_; refine bx hS _ _ (by rfl) _ (by first | exact evC | exact evT (by rfl)) ?_; clear hS; intro pb w1 hS; rw [cells_agg] at hS)
  | (refine toList (by rfl) ?_; refine wp_of_reads (rLdA hS _ _ (by rfl) _ _ (by rfl) (agOf (by rfl)) (szOf (by rfl)) Has.z (vs := sv s') (by rfl) (by rfl)) ?_)
  | (go_at_call 57; refine (sput_s hS s').mono ?_; rintro e w1 ⟨v7, rfl, hS1⟩; rw [HOS.out]; rw [HES.out] at hS1; clear hS; have hS := hS1; clear hS1))
 obtain ⟨b7, o7, c7, rfl, _⟩ := hS.slAddr (k := 0) rfl (by rw [HEL.out]; decide)
 obtain ⟨x0, hx0⟩ : ∃ x0 : GW, x0 = ⟨0, .slice (some ⟨b7, o7, none⟩) es.length c7, es⟩ := ⟨_, rfl⟩
 have HX0 := Lib.hid hx0
 have HXV := Lib.hid (show gw x0 = [.int .i64 0, .slice (some ⟨b7, o7, none⟩) es.length c7] by rw [hx0]; rfl)
 have HX1 := Lib.hid (show ∀ x ∈ [x0], (gw x).length = 2 from fun _ _ => rfl)
 have HX2 := Lib.hid (show ∀ u ∈ gw x0, u.oneCell' = true by rw [hx0]; exact gw_one 0 es)
 have HCM := Lib.hid (fun w b1 ao4 c4 (h : Sat W w (Cs b1 95 (gw x0) :: Sl 5 1 (.slice (some ⟨b7, o7, none⟩) es.length c7) es.length (bv es) :: Cs pb 77 (sv s') :: Tb 95 2 gw (.slice ao4 (xs ++ [x0]).length c4) (xs ++ [x0]) :: Cs ps 85 V :: IsDisk pd D :: L)) =>
  wcommit_any (h.re [5, 3, 0, 1, 2, 4]) HDG.out hk (xs ++ [x0]) ao4 c4 (fun w h => ⟨h.tbRd (k := 0) rfl, fun x hx => by
   rcases List.mem_append.1 hx with hx | hx
   ·exact HD.out w [_, _, _, _, _] h x hx
   ·rw [List.mem_singleton.1 hx, HX0.out]
    exact h.slRd (k := 2) rfl⟩) (by have := HXL.out; rw [List.length_append, List.length_singleton]; omega))
 rw [show g2 (xs ++ [x0]) = g2 xs ++ [(0, es)] by rw [hx0]; exact HGE.out _] at HCM
 clear hx0
 refine regStart2 [9] hS (fun _ h => h.one (Has.s (Has.s (Has.s Has.z)))) (by kernel_rfl) rfl ?_
 intro w1 hS1
 clear hS; have hS := hS1; clear hS1
 (refine rgP 0 hS (fun _ h => h.one (Has.s (Has.s (Has.s Has.z)))) ?_; go_frame)
 (refine rgP 1 hS (fun _ h => h.one (Has.s (Has.s (Has.s Has.z)))) ?_; go_frame)
 (refine rgP 2 hS (fun _ h => h.one (Has.s (Has.s (Has.s Has.z)))) ?_; go_frame)
 (refine rgR 3 hS (fun _ h => h.one (Has.s (Has.s (Has.s Has.z)))) ?_; (refine ⟨_, yLd _ _ (by rfl) _ _ (by rfl) (agOf (by rfl)) Has.z G0.out, ?_⟩); go_frame)
 (refine rgP 4 hS (fun _ h => h.one (Has.s (Has.s (Has.s Has.z)))) ?_; go_frame)
 (refine rgP 5 hS (fun _ h => h.one (Has.s (Has.s (Has.s Has.z)))) ?_; go_frame)
 (refine rgP 6 hS (fun _ h => h.one (Has.s (Has.s (Has.s Has.z)))) ?_; go_frame)
 (refine rgA 7 false fun K hK => ?_; (first
    | (refine Go.Sep.cl 87 _ _ (by rfl) (by rfl) (by kernel_rfl) (HCM.out _ _ _ _ hS) ?_; clear hS; rintro e w1 ⟨rfl, hS⟩; refine ⟨_, rfl, ?_⟩)
    | (refine bsF hS _ _ _ (by rfl) (elOf (by rfl)) [.agg (gw x0).toArray] (by rw [HXV.out]; rfl) (by rfl) (by decide) (by decide) (by rw [HXV.out]; simp [Value.cells]) ?_; clear hS; intro b1 w1 hS; rw [agg1] at hS)
    | (refine apTbS hS _ _ _ _ (by rfl) _ _ (by rfl) (by rfl) (elOf (by rfl)) (by rfl) (by decide) (inOf (by rfl)) (Has.s (Has.s (Has.s Has.z))) [x0] HX1.out (by exact hS.src1 Has.z rfl) (by rw [fm1]; exact HX2.out) (by have := HXL.out; simp; omega) (by have := HXL.out; simp; omega) ?_; clear hS; intro ao4 c4 w1 _ hS; dsimp only [List.set_cons_zero, List.set_cons_succ] at hS)); refine hK _ _ _ (hS.upTo (fun _ h => by first | exact h.one (Has.s (Has.s (Has.s Has.z))) | exact h.drop.one (Has.s (Has.s (Has.s Has.z))))) (fun _ _ h => h) ?_; clear hK K; go_frame)
 (refine rgA 8 false fun K hK => ?_; (first
    | (refine Go.Sep.cl 87 _ _ (by rfl) (by rfl) (by kernel_rfl) (HCM.out _ _ _ _ hS) ?_; clear hS; rintro e w1 ⟨rfl, hS⟩; refine ⟨_, rfl, ?_⟩)
    | (refine bsF hS _ _ _ (by rfl) (elOf (by rfl)) [.agg (gw x0).toArray] (by rw [HXV.out]; rfl) (by rfl) (by decide) (by decide) (by rw [HXV.out]; simp [Value.cells]) ?_; clear hS; intro b1 w1 hS; rw [agg1] at hS)
    | (refine apTbS hS _ _ _ _ (by rfl) _ _ (by rfl) (by rfl) (elOf (by rfl)) (by rfl) (by decide) (inOf (by rfl)) (Has.s (Has.s (Has.s Has.z))) [x0] HX1.out (by exact hS.src1 Has.z rfl) (by rw [fm1]; exact HX2.out) (by have := HXL.out; simp; omega) (by have := HXL.out; simp; omega) ?_; clear hS; intro ao4 c4 w1 _ hS; dsimp only [List.set_cons_zero, List.set_cons_succ] at hS)); refine hK _ _ _ (hS.upTo (fun _ h => by first | exact h.one (Has.s (Has.s (Has.s Has.z))) | exact h.drop.one (Has.s (Has.s (Has.s Has.z))))) (fun _ _ h => h) ?_; clear hK K; go_frame)
 (refine rgA 9 true fun K hK => ?_; (first
    | (refine Go.Sep.cl 87 _ _ (by rfl) (by rfl) (by kernel_rfl) (HCM.out _ _ _ _ hS) ?_; clear hS; rintro e w1 ⟨rfl, hS⟩; refine ⟨_, rfl, ?_⟩)
    | (refine bsF hS _ _ _ (by rfl) (elOf (by rfl)) [.agg (gw x0).toArray] (by rw [HXV.out]; rfl) (by rfl) (by decide) (by decide) (by rw [HXV.out]; simp [Value.cells]) ?_; clear hS; intro b1 w1 hS; rw [agg1] at hS)
    | (refine apTbS hS _ _ _ _ (by rfl) _ _ (by rfl) (by rfl) (elOf (by rfl)) (by rfl) (by decide) (inOf (by rfl)) (Has.s (Has.s (Has.s Has.z))) [x0] HX1.out (by exact hS.src1 Has.z rfl) (by rw [fm1]; exact HX2.out) (by have := HXL.out; simp; omega) (by have := HXL.out; simp; omega) ?_; clear hS; intro ao4 c4 w1 _ hS; dsimp only [List.set_cons_zero, List.set_cons_succ] at hS)); refine hK _ _ _ hS (by first | (intro h; cases h; done) | exact fun _ _ h => h | exact fun _ _ h => h.drop | exact fun _ _ h => h.drop.drop | exact fun _ _ h => h.drop.pull1 | exact fun _ _ h => h.take2 | exact fun _ _ h => h.one Has.z | exact fun _ _ h => h.one (Has.s Has.z) | exact fun _ _ h => h.one (Has.s (Has.s Has.z))) ?_; clear hK K; go_frame)
 (refine rgP 10 hS (fun _ h => h) ?_; go_frame)
 refine regDone (by kernel_rfl) ?_
 go_wp2
 go_ret
 exact ⟨rfl, (hS.re [1, 2, 3, 4, 5, 0]).drop.drop.drop.drop⟩
theorem group_any {W w : World} {L : List Asrt} {ps pd k : Nat} {v : Value} {xs : List GW} {S : StD} {D : DiskS} (hS : Sat W w (Tb 95 2 gw v xs :: IsSt ps pd S :: IsDisk pd D :: L))
  (hG : DG D k) (hk : k ≤ 90000) (s' : SupD) (hs : okSup s' = true) (hx : xs.length ≤ 1000)
  (hd : ∀ w L', Sat W w (L' ++ L) → ∀ x ∈ xs, Rd w x.val x.data.length 1 (bv x.data)) :
  Calls Tryz.prog 41 #[.pointer (some ⟨ps, 0, none⟩), v, .agg (sv s').toArray] w fun e w' => e = .returned (.int .i64 (commitR D (g2 xs ++ [(0, encS s')])).1) ∧ Sat W w' (IsSt ps pd S :: IsDisk pd (commitR D (g2 xs ++ [(0, encS s')])).2 :: L) := by
 obtain ⟨fv, r, hS1⟩ := IsSt.open (hS.pull1)
 refine (group_open (L := IsMap fv S.U :: Tb 53 3 rv r S.recs :: L) (hS1.re [3, 0, 4]) rfl hG hk s' hs hx (fun w L' h => hd w (L' ++ [_, _]) (by rw [List.append_assoc]; exact h))).mono ?_
 rintro e w' ⟨h1, h2⟩
 exact ⟨h1, IsSt.mk (h2.re [0, 2, 3])⟩
end Go.Proofs.YtchohheleofncaaGreat
namespace Go.Proofs.YtchohheleofncaaGreat
open Go.RowKit Go.Sep
attribute [local irreducible] Go.Oper.wp Go.wpList Go.Calls Go.Code.wp Go.Sep.Reg
def supM (s : SupD) : SupD := { s with mounts := s.mounts + 1 }
def mountR (S : StD) (D : DiskS) : Int × StD × DiskS :=
 if 16777215 ≤ S.sup.mounts then (5, S, D)
 else ((commitR D [(0, encS (supM S.sup))]).1, (if (commitR D [(0, encS (supM S.sup))]).1 = 0 then { S with sup := supM S.sup } else S), (commitR D [(0, encS (supM S.sup))]).2)
end Go.Proofs.YtchohheleofncaaGreat
