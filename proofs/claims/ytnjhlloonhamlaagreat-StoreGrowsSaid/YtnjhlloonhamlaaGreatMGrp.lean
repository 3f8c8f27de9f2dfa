/-
  Good stores: what Format lays; behind a commit of the first block (plain).
  Package store: group.
  Package store: Mounted.
-/
import Derived.Test.YtnjhlloonhamlaaGreatMSto
import Derived.Test.YtnjhlloonhamlaaGreatMIng
import Derived.Test.YtnjhlloonhamlaaGreatMWlr
namespace Go.Proofs.YtnjhlloonhamlaaGreat
open Go.RowKit Go.Sep
set_option linter.unusedSimpArgs false
set_option linter.unusedVariables false
def S0 (n : Nat) : StD := ⟨sup0 n, U0 n, (List.range 48).map inoAt, [], 0⟩
theorem blksI_none {x : InoD} (h : x.ptrs = List.replicate 32 0) : blksI x = [] := by unfold blksI; rw [h]; rfl
theorem inoAt_ptrs (i : Nat) : (inoAt i).ptrs = List.replicate 32 0 := by unfold inoAt; split <;> rfl
theorem blksX_S0 (n : Nat) : blksX (S0 n).inos = [] := by
  unfold blksX S0
  rw [List.flatMap_eq_nil_iff]
  intro x hx
  obtain ⟨i, _, rfl⟩ := List.mem_map.1 hx
  exact blksI_none (inoAt_ptrs i)
theorem s0_at {n i : Nat} {x : InoD} (h : (S0 n).inos[i]? = some x) : i < 48 ∧ x = inoAt i := by
  unfold S0 at h
  dsimp only at h
  have hi := (List.getElem?_eq_some_iff.1 h).1
  rw [List.length_map, List.length_range] at hi
  rw [List.getElem?_map, List.getElem?_range hi] at h
  exact ⟨hi, (Option.some.inj h).symm⟩
theorem sok_fmt {n : Nat} (h1 : 160 ≤ n) (h2 : n ≤ 1024) : SOk (fmtB n) (S0 n) [74] where
  n1 := by rw [fmtB_len]; exact h1
  n2 := by rw [fmtB_len]; exact h2
  x := ⟨by unfold S0; simp, fun x hx => by
    obtain ⟨i, _, rfl⟩ := List.mem_map.1 hx
    exact okI_at i⟩
  sup := okSup0 h1 h2
  blocks := by rw [fmtB_len]; rfl
  ne := by simp
  head := rfl
  tail := rfl
  recs := rfl
  low := Nat.le_refl _
  high := Nat.zero_le _
  last := rfl
  rok := rfl
  gr := rfl
  rng p hp := by
    rw [blksX_S0, List.nil_append, List.mem_singleton] at hp
    subst hp
    rw [fmtB_len]
    omega
  nd := by rw [blksX_S0]; simp
  u := by
    rw [blksX_S0, fmtB_len, ← usedBy_snoc, usedBy_nil]
    rfl
  b0 := fmtB_0 h1
  b1 := fmtB_1 h1
  b2 := fmtB_2 h1
  bi i x hx := by
    obtain ⟨hi, rfl⟩ := s0_at hx
    exact fmtB_ino h1 hi
  bg i g hg := by
    have hi := (List.getElem?_eq_some_iff.1 hg).1
    obtain rfl : i = 0 := by simp at hi; omega
    obtain rfl : 74 = g := by simpa using hg
    exact fmtB_74 h1
theorem SOk.cmt1 {B : List (List UInt8)} {S : StD} {gs : List Nat} (h : SOk B S gs) (s' : SupD) : OkGr B.length [(0, encS s')] := by
  have h1 := h.n1
  exact okG_mk (Nat.le_refl _) (by simp) (fun x hx => by
    rw [List.mem_singleton.1 hx]
    exact ⟨⟨Int.le_refl _, (by show (0 : Int) < _; omega), encS_len s'⟩, .inl (show (0 : Int) < 2 by decide)⟩) (by simp)
/-- Behind a commit of another first block. -/
theorem SOk.put0 {B : List (List UInt8)} {S : StD} {gs : List Nat} (h : SOk B S gs) {s' : SupD} (hs : okSup s' = true) (e1 : s'.blocks = S.sup.blocks) (e2 : s'.head = S.sup.head) (e3 : s'.tail = S.sup.tail) (e4 : s'.records = S.sup.records) :
    SOk (cmtB B [(0, encS s')]) { S with sup := s' } gs := by
  have hg := h.cmt1 s'
  have hn1 := h.n1
  have ho : ∀ j : Nat, j ≠ 0 → (j < 2 ∨ 26 ≤ j) → (cmtB B [(0, encS s')])[j]? = B[j]? := fun j hj hj2 => cmt_other hg hj2 (fun x hx => by
    rw [List.mem_singleton.1 hx]
    show (0 : Int).toNat ≠ j
    have : (0 : Int).toNat = 0 := rfl
    omega)
  exact
    { n1 := by rw [cmtB_len]; exact h.n1
      n2 := by rw [cmtB_len]; exact h.n2
      x := h.x
      sup := hs
      blocks := by rw [cmtB_len]; exact e1.trans h.blocks
      ne := h.ne
      head := e2.trans h.head
      tail := e3.trans h.tail
      recs := e4.trans h.recs
      low := h.low
      high := h.high
      last := h.last
      rok := h.rok
      gr := h.gr
      rng := by rw [cmtB_len]; exact h.rng
      nd := h.nd
      u := by rw [cmtB_len]; exact h.u
      b0 := cmt_at hg (j := 0) (List.mem_singleton.2 rfl)
      b1 := (ho 1 (by omega) (by omega)).trans h.b1
      b2 := cmtB_2 (by omega)
      bi := fun i x hx => (ho (26 + i) (by omega) (by omega)).trans (h.bi i x hx)
      bg := fun i g hg' => by
        have := (h.rng g (List.mem_append_right _ (List.mem_of_getElem? hg'))).1
        exact (ho g (by omega) (by omega)).trans (h.bg i g hg') }
end Go.Proofs.YtnjhlloonhamlaaGreat
namespace Go.Proofs.YtnjhlloonhamlaaGreat
open Go.RowKit Go.Sep
set_option linter.unusedSimpArgs false
set_option linter.unusedVariables false
attribute [local irreducible] Go.Oper.wp Go.wpList Go.Calls Go.Code.wp Go.Sep.Reg
theorem g2_snoc (xs : List GW) (a : Int) (v : Value) (d : List UInt8) : g2 (xs ++ [⟨a, v, d⟩]) = g2 xs ++ [(a, d)] := by simp [g2]
set_option maxRecDepth 20000 in
set_option maxHeartbeats 4000000 in
theorem group_any {W w : World} {L : List Asrt} {ps pd k : Nat} {v : Value} {xs : List GW} {S : StD} {D : DiskS} (hS : Sat W w (Tb 92 2 gw v xs :: IsSt ps pd S :: IsDisk pd D :: L))
    (hG : DG D k) (hk : k ≤ 90000) (s' : SupD) (hs : okSup s' = true) (hx : xs.length ≤ 1000)
    (hd : ∀ w L', Sat W w (L' ++ L) → ∀ x ∈ xs, Rd w x.val x.data.length 1 (bv x.data)) :
    Calls Tryz.prog 25 #[.pointer (some ⟨ps, 0, none⟩), v, .agg (sv s').toArray] w fun e w' => e = .returned (.int .i64 (commitR D (g2 xs ++ [(0, encS s')])).1) ∧ Sat W w' (IsSt ps pd S :: IsDisk pd (commitR D (g2 xs ++ [(0, encS s')])).2 :: L) := by
  obtain ⟨fv, r, hS1⟩ := IsSt.open (hS.pull1)
  have g0 : (stv pd S.sup fv S.inos r S.last)[0]? = some (.pointer (some ⟨pd, 0, none⟩)) := rfl
  have HM := Lib.hid (fun w L h => IsSt.mk (W := W) (w := w) (L := L) (ps := ps) (pd := pd) (S := S) (fv := fv) (r := r) h)
  obtain ⟨V, hV⟩ : ∃ V, stv pd S.sup fv S.inos r S.last = V := ⟨_, rfl⟩
  rw [hV] at hS1 HM g0
  clear hS hV
  have hS : Sat W w (Tb 92 2 gw v xs :: Cs ps 69 V :: IsMap fv S.U :: Tb 42 3 rv r S.recs :: IsDisk pd D :: L) := hS1.re [3, 0, 1, 2]
  clear hS1
  have G0 := Lib.hid g0
  have HDG := Lib.hid hG
  have HOS := Lib.hid hs
  have HES := Lib.hid (supB_yes hs)
  have HD := Lib.hid hd
  have HXL := Lib.hid hx
  have HGE := Lib.hid (fun v => g2_snoc xs 0 v (encS s'))
  obtain ⟨es, hes⟩ : ∃ es, encS s' = es := ⟨_, rfl⟩
  have HEL := Lib.hid (show es.length = 128 by rw [← hes]; exact encS_len s')
  clear hG hs hd g0 hx
  rw [hes] at HES HGE ⊢
  go_enter Tryz.func25, Tryz.ntmps25
  go_wp2_with (first
    | (refine toList (by rfl) ?_; refine bx hS _ _ (by rfl) _ (by first | exact evC | exact evT (by rfl)) ?_; intro pb w1 hS1; clear hS; have hS := hS1; clear hS1; rw [cells_agg] at hS)
    | (refine toList (by rfl) ?_; refine wp_of_reads (rLdA hS _ _ (by rfl) _ _ (by rfl) (agOf (by rfl)) (szOf (by rfl)) Has.z (vs := sv s') (by rfl) (by rfl)) ?_)
    | (go_at_call 46; refine (sput_s hS s').mono ?_; rintro e w1 ⟨v7, rfl, hS1⟩; rw [HOS.out]; rw [HES.out] at hS1; clear hS; have hS := hS1; clear hS1))
  obtain ⟨b7, o7, c7, rfl, _⟩ := hS.slAddr (k := 0) rfl (by rw [HEL.out]; decide)
  obtain ⟨x0, hx0⟩ : ∃ x0 : GW, x0 = ⟨0, .slice (some ⟨b7, o7, none⟩) es.length c7, es⟩ := ⟨_, rfl⟩
  have HX0 := Lib.hid hx0
  have HXV := Lib.hid (show gw x0 = [.int .i64 0, .slice (some ⟨b7, o7, none⟩) es.length c7] by rw [hx0]; rfl)
  have HX1 := Lib.hid (show ∀ x ∈ [x0], (gw x).length = 2 from fun _ _ => rfl)
  have HX2 := Lib.hid (show ∀ u ∈ gw x0, u.oneCell' = true by rw [hx0]; exact gw_one 0 es)
  have HCM := Lib.hid (fun w b1 ao4 c4 (h : Sat W w (Cs b1 92 (gw x0) :: Sl 5 1 (.slice (some ⟨b7, o7, none⟩) es.length c7) es.length (bv es) :: Cs pb 28 (sv s') :: Tb 92 2 gw (.slice ao4 (xs ++ [x0]).length c4) (xs ++ [x0]) :: Cs ps 69 V :: IsMap fv S.U :: Tb 42 3 rv r S.recs :: IsDisk pd D :: L)) =>
    wcommit_any (h.re [7, 3, 0, 1, 2, 4, 5, 6]) HDG.out hk (xs ++ [x0]) ao4 c4 (fun w h => ⟨h.tbRd (k := 0) rfl, fun x hx => by
      rcases List.mem_append.1 hx with hx | hx
      · exact HD.out w [_, _, _, _, _, _, _] h x hx
      · rw [List.mem_singleton.1 hx, HX0.out]
        exact h.slRd (k := 2) rfl⟩) (by have := HXL.out; rw [List.length_append, List.length_singleton]; omega))
  rw [show g2 (xs ++ [x0]) = g2 xs ++ [(0, es)] by rw [hx0]; exact HGE.out _] at HCM
  clear hx0
  refine regStart2 [9] hS (fun _ h => h.one (Has.s (Has.s (Has.s Has.z)))) (by kernel_rfl) rfl ?_
  intro w1 hS1
  clear hS; have hS := hS1; clear hS1
  (refine regP 0 hS (fun _ h => h.one (Has.s (Has.s (Has.s Has.z)))) rfl (by kernel_rfl) (by kernel_rfl) (by kernel_rfl) (fun _ _ _ _ h => h) (by rfl) (by rfl) ?_; apply Exists.intro; apply And.intro; (intro w; go_simp; try with_reducible rfl); go_frame)
  (refine regP 1 hS (fun _ h => h.one (Has.s (Has.s (Has.s Has.z)))) rfl (by kernel_rfl) (by kernel_rfl) (by kernel_rfl) (fun _ _ _ _ h => h) (by rfl) (by rfl) ?_; apply Exists.intro; apply And.intro; (intro w; go_simp; try with_reducible rfl); go_frame)
  (refine regP 2 hS (fun _ h => h.one (Has.s (Has.s (Has.s Has.z)))) rfl (by kernel_rfl) (by kernel_rfl) (by kernel_rfl) (fun _ _ _ _ h => h) (by rfl) (by rfl) ?_; apply Exists.intro; apply And.intro; (intro w; go_simp; try with_reducible rfl); go_frame)
  (refine regR 3 hS (fun _ h => h.one (Has.s (Has.s (Has.s Has.z)))) rfl (by kernel_rfl) (by kernel_rfl) (by kernel_rfl) (by kernel_rfl) (by kernel_rfl) (fun _ _ _ _ h => h) (by rfl) (by rfl) ?_; (refine ⟨_, yLd _ _ (by rfl) _ _ (by rfl) (agOf (by rfl)) Has.z G0.out, ?_⟩); go_frame)
  (refine regP 4 hS (fun _ h => h.one (Has.s (Has.s (Has.s Has.z)))) rfl (by kernel_rfl) (by kernel_rfl) (by kernel_rfl) (fun _ _ _ _ h => h) (by rfl) (by rfl) ?_; apply Exists.intro; apply And.intro; (intro w; go_simp; try with_reducible rfl); go_frame)
  (refine regP 5 hS (fun _ h => h.one (Has.s (Has.s (Has.s Has.z)))) rfl (by kernel_rfl) (by kernel_rfl) (by kernel_rfl) (fun _ _ _ _ h => h) (by rfl) (by rfl) ?_; apply Exists.intro; apply And.intro; (intro w; go_simp; try with_reducible rfl); go_frame)
  (refine regP 6 hS (fun _ h => h.one (Has.s (Has.s (Has.s Has.z)))) rfl (by kernel_rfl) (by kernel_rfl) (by kernel_rfl) (fun _ _ _ _ h => h) (by rfl) (by rfl) ?_; apply Exists.intro; apply And.intro; (intro w; go_simp; try with_reducible rfl); go_frame)
  (refine regA 7 rfl (by kernel_rfl) (by rfl) (by rfl) false (by kernel_rfl) (fun K hK => ?_); (first
        | (refine Go.Sep.cl 47 _ _ (by rfl) (by rfl) (by kernel_rfl) (HCM.out _ _ _ _ hS) ?_; rintro e w1 ⟨rfl, hS1⟩; clear hS; have hS := hS1; clear hS1; refine ⟨_, rfl, ?_⟩)
        | (refine bsF hS _ _ _ (by rfl) (elOf (by rfl)) [.agg (gw x0).toArray] (by rw [HXV.out]; rfl) (by rfl) (by decide) (by decide) (by rw [HXV.out]; simp [Value.cells]) ?_; intro b1 w1 hS1; clear hS; have hS := hS1; clear hS1; rw [agg1] at hS)
        | (refine apTbS hS _ _ _ _ (by rfl) _ _ (by rfl) (by rfl) (elOf (by rfl)) (by rfl) (by decide) (inOf (by rfl)) (Has.s (Has.s (Has.s Has.z))) [x0] HX1.out (by exact hS.src1 Has.z rfl) (by rw [fm1]; exact HX2.out) (by have := HXL.out; simp; omega) (by have := HXL.out; simp; omega) ?_; intro ao4 c4 w1 _ hS1; clear hS; have hS := hS1; clear hS1; dsimp only [List.set_cons_zero, List.set_cons_succ] at hS)); refine hK _ _ _ (hS.upTo (fun _ h => by first | exact h.one (Has.s (Has.s (Has.s Has.z))) | exact h.drop.one (Has.s (Has.s (Has.s Has.z))))) (fun _ _ h => h) ?_; clear hK K; go_frame)
  (refine regA 8 rfl (by kernel_rfl) (by rfl) (by rfl) false (by kernel_rfl) (fun K hK => ?_); (first
        | (refine Go.Sep.cl 47 _ _ (by rfl) (by rfl) (by kernel_rfl) (HCM.out _ _ _ _ hS) ?_; rintro e w1 ⟨rfl, hS1⟩; clear hS; have hS := hS1; clear hS1; refine ⟨_, rfl, ?_⟩)
        | (refine bsF hS _ _ _ (by rfl) (elOf (by rfl)) [.agg (gw x0).toArray] (by rw [HXV.out]; rfl) (by rfl) (by decide) (by decide) (by rw [HXV.out]; simp [Value.cells]) ?_; intro b1 w1 hS1; clear hS; have hS := hS1; clear hS1; rw [agg1] at hS)
        | (refine apTbS hS _ _ _ _ (by rfl) _ _ (by rfl) (by rfl) (elOf (by rfl)) (by rfl) (by decide) (inOf (by rfl)) (Has.s (Has.s (Has.s Has.z))) [x0] HX1.out (by exact hS.src1 Has.z rfl) (by rw [fm1]; exact HX2.out) (by have := HXL.out; simp; omega) (by have := HXL.out; simp; omega) ?_; intro ao4 c4 w1 _ hS1; clear hS; have hS := hS1; clear hS1; dsimp only [List.set_cons_zero, List.set_cons_succ] at hS)); refine hK _ _ _ (hS.upTo (fun _ h => by first | exact h.one (Has.s (Has.s (Has.s Has.z))) | exact h.drop.one (Has.s (Has.s (Has.s Has.z))))) (fun _ _ h => h) ?_; clear hK K; go_frame)
  (refine regA 9 rfl (by kernel_rfl) (by rfl) (by rfl) true (by kernel_rfl) (fun K hK => ?_); (first
        | (refine Go.Sep.cl 47 _ _ (by rfl) (by rfl) (by kernel_rfl) (HCM.out _ _ _ _ hS) ?_; rintro e w1 ⟨rfl, hS1⟩; clear hS; have hS := hS1; clear hS1; refine ⟨_, rfl, ?_⟩)
        | (refine bsF hS _ _ _ (by rfl) (elOf (by rfl)) [.agg (gw x0).toArray] (by rw [HXV.out]; rfl) (by rfl) (by decide) (by decide) (by rw [HXV.out]; simp [Value.cells]) ?_; intro b1 w1 hS1; clear hS; have hS := hS1; clear hS1; rw [agg1] at hS)
        | (refine apTbS hS _ _ _ _ (by rfl) _ _ (by rfl) (by rfl) (elOf (by rfl)) (by rfl) (by decide) (inOf (by rfl)) (Has.s (Has.s (Has.s Has.z))) [x0] HX1.out (by exact hS.src1 Has.z rfl) (by rw [fm1]; exact HX2.out) (by have := HXL.out; simp; omega) (by have := HXL.out; simp; omega) ?_; intro ao4 c4 w1 _ hS1; clear hS; have hS := hS1; clear hS1; dsimp only [List.set_cons_zero, List.set_cons_succ] at hS)); refine hK _ _ _ hS (by first | (intro h; cases h; done) | exact fun _ _ h => h | exact fun _ _ h => h.drop | exact fun _ _ h => h.drop.drop | exact fun _ _ h => h.drop.pull1 | exact fun _ _ h => h.take2 | exact fun _ _ h => h.one Has.z | exact fun _ _ h => h.one (Has.s Has.z) | exact fun _ _ h => h.one (Has.s (Has.s Has.z))) ?_; clear hK K; go_frame)
  (refine regP 10 hS (fun _ h => h) rfl (by kernel_rfl) (by kernel_rfl) (by kernel_rfl) (fun _ _ _ _ h => h) (by rfl) (by rfl) ?_; apply Exists.intro; apply And.intro; (intro w; go_simp; try with_reducible rfl); go_frame)
  refine regDone (by kernel_rfl) ?_
  go_wp2
  go_ret
  exact ⟨rfl, HM.out _ _ ((hS.re [1, 2, 3, 4, 5, 6, 7, 0]).drop.drop.drop.drop)⟩
end Go.Proofs.YtnjhlloonhamlaaGreat
namespace Go.Proofs.YtnjhlloonhamlaaGreat
open Go.RowKit Go.Sep
set_option linter.unusedSimpArgs false
set_option linter.unusedVariables false
attribute [local irreducible] Go.Oper.wp Go.wpList Go.Calls Go.Code.wp Go.Sep.Reg
def supM (s : SupD) : SupD := { s with mounts := s.mounts + 1 }
theorem supM_ok {s : SupD} (h : okSup s = true) (h2 : s.mounts < 16777215) : okSup (supM s) = true := by
  unfold okSup supM inB at *
  simp only [Bool.and_eq_true, decide_eq_true_eq] at h ⊢
  obtain ⟨h, h3⟩ := h
  exact ⟨h, by omega, by omega⟩
/-- What Mounted does. -/
def mountR (S : StD) (D : DiskS) : Int × StD × DiskS :=
  if 16777215 ≤ S.sup.mounts then (5, S, D)
  else ((commitR D [(0, encS (supM S.sup))]).1, (if (commitR D [(0, encS (supM S.sup))]).1 = 0 then { S with sup := supM S.sup } else S), (commitR D [(0, encS (supM S.sup))]).2)
theorem okSup_mounts {s : SupD} (h : okSup s = true) : 0 ≤ s.mounts ∧ s.mounts ≤ 16777215 := by
  unfold okSup inB at h
  simp only [Bool.and_eq_true, decide_eq_true_eq] at h
  exact h.2
set_option maxRecDepth 20000 in
set_option maxHeartbeats 4000000 in
theorem smounted_any {W w : World} {L : List Asrt} {ps pd k : Nat} {S : StD} {D : DiskS} (hS : Sat W w (IsSt ps pd S :: IsDisk pd D :: L)) (hX : XOk S.inos)
    (hD : DG D k) (hk : k ≤ 90000) (hs : okSup S.sup = true) :
    Calls Tryz.prog 11 #[.pointer (some ⟨ps, 0, none⟩)] w fun e w' => e = .returned (.int .i64 (mountR S D).1) ∧ Sat W w' (IsSt ps pd (mountR S D).2.1 :: IsDisk pd (mountR S D).2.2 :: L) := by
  obtain ⟨s', he⟩ : ∃ s', supM S.sup = s' := ⟨_, rfl⟩
  obtain ⟨fv, r, hS1⟩ := IsSt.open hS
  obtain ⟨hm1, hm2⟩ := okSup_mounts hs
  have HS0 := Lib.hid (stv_sup (pd := pd) (s := S.sup) (fv := fv) (X := S.inos) (r := r) (last := S.last))
  have HVL := Lib.hid (fun fv r => stv_len (pd := pd) (s := S.sup) (fv := fv) (r := r) (last := S.last) hX)
  have HST := Lib.hid (fun fv r => stv_setSup (pd := pd) (s := S.sup) (s' := s') (fv := fv) (X := S.inos) (r := r) (last := S.last))
  have HM := Lib.hid (fun w L fv r h => IsSt.mk (W := W) (w := w) (L := L) (ps := ps) (pd := pd) (S := { S with sup := s' }) (fv := fv) (r := r) h)
  have HM0 := Lib.hid (fun w L fv r h => IsSt.mk (W := W) (w := w) (L := L) (ps := ps) (pd := pd) (S := S) (fv := fv) (r := r) h)
  have HSO := Lib.hid (show ∀ v ∈ sv s', v.oneCell' = true by intro v hv; simp only [sv, List.mem_cons, List.not_mem_nil, or_false] at hv; rcases hv with rfl | rfl | rfl | rfl | rfl | rfl | rfl <;> rfl)
  have HSE := Lib.hid (show (sv S.sup).set 6 (.int .i64 (S.sup.mounts + 1)) = sv s' by rw [← he]; rfl)
  have HO := Lib.hid (fun w L (h : Sat W w (IsSt ps pd S :: L)) => IsSt.open h)
  by_cases hfull : 16777215 ≤ S.sup.mounts
  · rw [show mountR S D = (5, S, D) from if_pos hfull]
    have hmm : S.sup.mounts = 16777215 := by omega
    have HSM := Lib.hid (show (sv S.sup)[6]? = some (.int .i64 16777215) by rw [← hmm]; rfl)
    rw [hmm] at HSE
    have HSE := Lib.hid (show (sv S.sup).set 6 (.int .i64 16777216) = sv s' from HSE.out)
    have HSM2 := Lib.hid (show (sv s')[6]? = some (.int .i64 16777216) by rw [← HSE.out]; rfl)
    obtain ⟨V, hV⟩ : ∃ V : Value → Value → List Value, (fun fv r => stv pd S.sup fv S.inos r S.last) = V := ⟨_, rfl⟩
    have hV1 : ∀ fv r, stv pd S.sup fv S.inos r S.last = V fv r := fun fv r => congrFun (congrFun hV fv) r
    simp only [hV1] at hS1 HS0 HVL HST HM0 HO
    clear hS hV hV1 he hs hD hX hfull hm1 hm2 hmm
    have hS := hS1
    clear hS1
    go_enter Tryz.func11, Tryz.ntmps11
    go_wp2_with (first
        | (refine toList (by rfl) ?_; refine wp_of_reads (rLdA hS _ _ (by rfl) _ _ (by rfl) (agOf (by rfl)) (szOf (by rfl)) Has.z (vs := sv S.sup) HS0.out (by rfl)) ?_)
        | (refine toList (by rfl) ?_; refine al hS _ (by rfl) (zrOf (by rfl)) ?_; intro p3 w1 hS1; clear hS; have hS := hS1; clear hS1; rw [cells_agg] at hS)
        | (refine toList (by rfl) ?_; refine stW hS _ _ _ (by rfl) (by rfl) (sv S.sup) (by rfl) (sv_all _) (szOf (by rfl)) Has.z (by rfl) ?_; intro w1 hS1; clear hS; have hS := hS1; clear hS1; rw [List.set_cons_zero] at hS)
        | (refine toList (by rfl) ?_; refine ld hS _ _ (by rfl) _ _ (by rfl) (agOf (by rfl)) Has.z HSM.out ?_)
        | (refine toList (by rfl) ?_; refine ld hS _ _ (by rfl) _ _ (by rfl) (agOf (by rfl)) Has.z HSM2.out ?_)
        | (refine toList (by rfl) ?_; refine wp_of_reads (rLdA hS _ _ (by rfl) _ _ (by rfl) (agOf (by rfl)) (szOf (by rfl)) Has.z (vs := sv s') (by rfl) (by rfl)) ?_)
        | (refine toList (by rfl) ?_; refine wp_of_reads (rLdA hS _ _ (by rfl) _ _ (by rfl) (agOf (by rfl)) (szOf (by rfl)) (Has.s (Has.s (Has.s (Has.s Has.z)))) (vs := sv s') (by rfl) (by rfl)) ?_)
        | (go_at_call 25; refine (HG.out _ _ hS).mono ?_; rintro e w1 ⟨rfl, hS2⟩; obtain ⟨fv2, r2, hS1⟩ := HO.out _ _ hS2; clear hS2; clear hS; have hS := hS1; clear hS1)
        | (refine toList (by rfl) ?_; refine stA hS _ _ _ (by rfl) _ _ (by rfl) (sv s') (by rfl) HSO.out (by exact szOf (by rfl)) Has.z (by rw [HVL.out]; show 8 ≤ 1787; decide) ?_; intro w1 hS1; clear hS; have hS := hS1; clear hS1; rw [List.set_cons_zero, show 1 + (sv s').length = 8 from rfl, HST.out] at hS)
        | (refine toList (by rfl) ?_; refine st hS _ _ _ (by rfl) _ _ (by rfl) _ (by first | exact evC | exact evT (by rfl)) (by rfl) (szOf (by rfl)) Has.z (by exact Nat.le_of_ble_eq_true rfl) ?_; intro w1 hS1; clear hS; have hS := hS1; clear hS1; rw [List.set_cons_zero, HSE.out] at hS))
    go_ret
    exact ⟨rfl, HM0.out _ _ _ _ hS.drop⟩
  · have hs2 : okSup s' = true := by rw [← he]; exact supM_ok hs (by omega)
    obtain ⟨c, D', hc⟩ : ∃ c D', commitR D [(0, encS s')] = (c, D') := ⟨_, _, rfl⟩
    have hmr : mountR S D = (c, (if c = 0 then { S with sup := s' } else S), D') := by
      unfold mountR
      rw [if_neg hfull, he, hc]
    rw [hmr]
    have HG := Lib.hid (fun w p3 (h : Sat W w (Cs p3 28 (sv s') :: Cs ps 69 (stv pd S.sup fv S.inos r S.last) :: IsMap fv S.U :: Tb 42 3 rv r S.recs :: IsDisk pd D :: L)) =>
      group_any (v := .slice none 0 0) (xs := []) (L := Cs p3 28 (sv s') :: L) (Sat.tbNil (IsSt.mk ((h.re [1, 2, 3, 4, 0])))) hD hk s' hs2 (Nat.zero_le _) (fun _ _ _ _ h => nomatch h))
    rw [show g2 ([] : List GW) ++ [(0, encS s')] = [(0, encS s')] from rfl, hc] at HG
    have m1 : S.sup.mounts + 1 ≤ 16777215 := by omega
    have m2 : -1 ≤ S.sup.mounts := by omega
    obtain ⟨m, hm⟩ : ∃ m, S.sup.mounts = m := ⟨_, rfl⟩
    have HSM := Lib.hid (show (sv S.sup)[6]? = some (.int .i64 m) by rw [← hm]; rfl)
    have HSM2 := Lib.hid (show (sv s')[6]? = some (.int .i64 (m + 1)) by rw [← HSE.out, hm]; rfl)
    rw [hm] at HSE m1 m2
    obtain ⟨V, hV⟩ : ∃ V : Value → Value → List Value, (fun fv r => stv pd S.sup fv S.inos r S.last) = V := ⟨_, rfl⟩
    have hV1 : ∀ fv r, stv pd S.sup fv S.inos r S.last = V fv r := fun fv r => congrFun (congrFun hV fv) r
    simp only [hV1] at hS1 HG HS0 HVL HST HM0 HO
    clear hS hV hV1 he hs hs2 hD hX hfull hm1 hm2 hc hmr
    have hS := hS1
    clear hS1
    by_cases hc0 : c = 0
    · subst hc0
      go_enter Tryz.func11, Tryz.ntmps11
      go_wp2_with (first
          | (refine toList (by rfl) ?_; refine wp_of_reads (rLdA hS _ _ (by rfl) _ _ (by rfl) (agOf (by rfl)) (szOf (by rfl)) Has.z (vs := sv S.sup) HS0.out (by rfl)) ?_)
          | (refine toList (by rfl) ?_; refine al hS _ (by rfl) (zrOf (by rfl)) ?_; intro p3 w1 hS1; clear hS; have hS := hS1; clear hS1; rw [cells_agg] at hS)
          | (refine toList (by rfl) ?_; refine stW hS _ _ _ (by rfl) (by rfl) (sv S.sup) (by rfl) (sv_all _) (szOf (by rfl)) Has.z (by rfl) ?_; intro w1 hS1; clear hS; have hS := hS1; clear hS1; rw [List.set_cons_zero] at hS)
          | (refine toList (by rfl) ?_; refine ld hS _ _ (by rfl) _ _ (by rfl) (agOf (by rfl)) Has.z HSM.out ?_)
          | (refine toList (by rfl) ?_; refine ld hS _ _ (by rfl) _ _ (by rfl) (agOf (by rfl)) Has.z HSM2.out ?_)
          | (refine toList (by rfl) ?_; refine wp_of_reads (rLdA hS _ _ (by rfl) _ _ (by rfl) (agOf (by rfl)) (szOf (by rfl)) Has.z (vs := sv s') (by rfl) (by rfl)) ?_)
          | (refine toList (by rfl) ?_; refine wp_of_reads (rLdA hS _ _ (by rfl) _ _ (by rfl) (agOf (by rfl)) (szOf (by rfl)) (Has.s (Has.s (Has.s (Has.s Has.z)))) (vs := sv s') (by rfl) (by rfl)) ?_)
          | (go_at_call 25; refine (HG.out _ _ hS).mono ?_; rintro e w1 ⟨rfl, hS2⟩; obtain ⟨fv2, r2, hS1⟩ := HO.out _ _ hS2; clear hS2; clear hS; have hS := hS1; clear hS1)
          | (refine toList (by rfl) ?_; refine stA hS _ _ _ (by rfl) _ _ (by rfl) (sv s') (by rfl) HSO.out (by exact szOf (by rfl)) Has.z (by rw [HVL.out]; show 8 ≤ 1787; decide) ?_; intro w1 hS1; clear hS; have hS := hS1; clear hS1; rw [List.set_cons_zero, show 1 + (sv s').length = 8 from rfl, HST.out] at hS)
          | (refine toList (by rfl) ?_; refine st hS _ _ _ (by rfl) _ _ (by rfl) _ (by first | exact evC | exact evT (by rfl)) (by rfl) (szOf (by rfl)) Has.z (by exact Nat.le_of_ble_eq_true rfl) ?_; intro w1 hS1; clear hS; have hS := hS1; clear hS1; rw [List.set_cons_zero, HSE.out] at hS))
      go_ret
      exact ⟨rfl, HM.out _ _ _ _ (hS.re [4, 0, 1, 2, 3]).drop⟩
    · have e1 : (c == 0) = false := beq_eq_false_iff_ne.2 hc0
      rw [if_neg hc0]
      clear hc0
      go_enter Tryz.func11, Tryz.ntmps11
      go_wp2_with (first
          | (refine toList (by rfl) ?_; refine wp_of_reads (rLdA hS _ _ (by rfl) _ _ (by rfl) (agOf (by rfl)) (szOf (by rfl)) Has.z (vs := sv S.sup) HS0.out (by rfl)) ?_)
          | (refine toList (by rfl) ?_; refine al hS _ (by rfl) (zrOf (by rfl)) ?_; intro p3 w1 hS1; clear hS; have hS := hS1; clear hS1; rw [cells_agg] at hS)
          | (refine toList (by rfl) ?_; refine stW hS _ _ _ (by rfl) (by rfl) (sv S.sup) (by rfl) (sv_all _) (szOf (by rfl)) Has.z (by rfl) ?_; intro w1 hS1; clear hS; have hS := hS1; clear hS1; rw [List.set_cons_zero] at hS)
          | (refine toList (by rfl) ?_; refine ld hS _ _ (by rfl) _ _ (by rfl) (agOf (by rfl)) Has.z HSM.out ?_)
          | (refine toList (by rfl) ?_; refine ld hS _ _ (by rfl) _ _ (by rfl) (agOf (by rfl)) Has.z HSM2.out ?_)
          | (refine toList (by rfl) ?_; refine wp_of_reads (rLdA hS _ _ (by rfl) _ _ (by rfl) (agOf (by rfl)) (szOf (by rfl)) Has.z (vs := sv s') (by rfl) (by rfl)) ?_)
          | (refine toList (by rfl) ?_; refine wp_of_reads (rLdA hS _ _ (by rfl) _ _ (by rfl) (agOf (by rfl)) (szOf (by rfl)) (Has.s (Has.s (Has.s (Has.s Has.z)))) (vs := sv s') (by rfl) (by rfl)) ?_)
          | (go_at_call 25; refine (HG.out _ _ hS).mono ?_; rintro e w1 ⟨rfl, hS2⟩; obtain ⟨fv2, r2, hS1⟩ := HO.out _ _ hS2; clear hS2; clear hS; have hS := hS1; clear hS1)
          | (refine toList (by rfl) ?_; refine stA hS _ _ _ (by rfl) _ _ (by rfl) (sv s') (by rfl) HSO.out (by exact szOf (by rfl)) Has.z (by rw [HVL.out]; show 8 ≤ 1787; decide) ?_; intro w1 hS1; clear hS; have hS := hS1; clear hS1; rw [List.set_cons_zero, show 1 + (sv s').length = 8 from rfl, HST.out] at hS)
          | (refine toList (by rfl) ?_; refine st hS _ _ _ (by rfl) _ _ (by rfl) _ (by first | exact evC | exact evT (by rfl)) (by rfl) (szOf (by rfl)) Has.z (by exact Nat.le_of_ble_eq_true rfl) ?_; intro w1 hS1; clear hS; have hS := hS1; clear hS1; rw [List.set_cons_zero, HSE.out] at hS))
      go_ret
      exact ⟨rfl, HM0.out _ _ _ _ (hS.re [4, 0, 1, 2, 3]).drop⟩
end Go.Proofs.YtnjhlloonhamlaaGreat
