/-
  The document's ways.
-/
import Derived.Test.YtpnbdnfgdiakhaaMQue
import Derived.Test.YtpnbdnfgdiakhaaMGrd
import Derived.Test.YtpnbdnfgdiakhaaMReg
namespace Go.Proofs.Ytpnbdnfgdiakhaa
open Go.RowKit Go.Sep
set_option linter.unusedSimpArgs false
set_option linter.unusedVariables false
attribute [local irreducible] Go.Oper.wp Go.wpList Go.Calls Go.Code.wp Go.Sep.Reg
attribute [local irreducible] IsG
theorem has_nat {G : Gr} {a b : Nat} : G.has ((a : Int), (b : Int)) = decide ((a, b) ∈ G.E) := by
  unfold Gr.has
  rw [Bool.eq_iff_iff, List.any_eq_true, decide_eq_true_eq]
  constructor
  · rintro ⟨⟨x, y⟩, h1, h2⟩
    simp only [Bool.and_eq_true, decide_eq_true_eq] at h2
    obtain ⟨rfl, rfl⟩ : x = a ∧ y = b := ⟨by omega, by omega⟩
    exact h1
  · intro h
    exact ⟨(a, b), h, by simp⟩
def upsT (G : Gr) (n i : Nat) : List Nat := (List.range i).filter fun k => decide ((n, k) ∈ G.E)
theorem upsT_next (G : Gr) (n i : Nat) : upsT G n (i + 1) = upsT G n i ++ (if (n, i) ∈ G.E then [i] else []) := by
  unfold upsT
  rw [List.range_succ, List.filter_append]
  congr 1
  split
  · rename_i h; simp [h]
  · rename_i h; simp [h]
theorem upsT_len (G : Gr) (n i : Nat) : (upsT G n i).length ≤ i := by
  have := List.length_filter_le (fun k => decide ((n, k) ∈ G.E)) (List.range i)
  simpa [upsT] using this
set_option maxRecDepth 20000 in
theorem rups_any {W w : World} {L : List Asrt} {p : Nat} {G : Gr} (hS : Sat W w (IsR p G :: L)) (hG : G.Ok) (n : Nat) :
    Calls Try.prog 62 #[.pointer (some ⟨p, 0, none⟩), .int .i64 (n : Int)] w fun e w' => ∃ v, e = .returned v ∧ Sat W w' (Ir v (G.ups n) :: IsR p G :: L) := by
  have hnl : (G.N.length : Int) ≤ 4096 := by have := hG.len; omega
  have HH := Lib.hid (fun w L (k : Nat) r (hr : decide ((n, k) ∈ G.E) = r) (h : Sat W w (IsR p G :: L)) => has_any h (n : Int) (k : Int) hG.edges (r := r) (by rw [has_nat]; exact hr))
  have HU := Lib.hid (show upsT G n G.N.length = G.ups n from rfl)
  obtain ⟨an, cn, ae, ce, hcn, hce, hS⟩ := IsR.open hS
  clear hG
  go_enter Try.func62, Try.ntmps62
  go_wp2
  have H0 : Hid (Sat W _ (Ir (.slice none 0 0) (upsT G n 0) :: Cs p 42 [.slice an G.N.length cn, .slice ae G.E.length ce] :: Tb 54 6 nv (.slice an G.N.length cn) G.N :: Tb 74 2 ev (.slice ae G.E.length ce) G.E :: L)) := Lib.hid hS.irNil
  go_loopw [5, 6] (fun v5 v6 wz => ∃ i : Nat, v6 = .int .i64 i ∧ i ≤ G.N.length ∧ Sat W wz (Ir v5 (upsT G n i) :: Cs p 42 [.slice an G.N.length cn, .slice ae G.E.length ce] :: Tb 54 6 nv (.slice an G.N.length cn) G.N :: Tb 74 2 ev (.slice ae G.E.length ce) G.E :: L)) (fun _ v6 _ => G.N.length - (intOf v6).toNat)
  case atStart => exact ⟨0, rfl, by omega, H0.out⟩
  case round =>
    clear hS H0
    obtain ⟨i, rfl, hi, hS⟩ := hrel
    obtain ⟨a5, c5, rfl, _⟩ := hS.irShape (k := 0) rfl
    have hul := upsT_len G n i
    have HNX := Lib.hid (upsT_next G n i)
    by_cases hlt : i < G.N.length
    · have k1 : (i : Int) < (G.N.length : Int) := by omega
      have HLT := Lib.hid hlt
      obtain ⟨T, hT⟩ : ∃ T, upsT G n i = T := ⟨_, rfl⟩
      rw [hT] at hS hul HNX ⊢
      cases hb : decide ((n, i) ∈ G.E) with
      | true =>
        have HN := Lib.hid (show upsT G n (i + 1) = T ++ [i] by rw [HNX.out, if_pos (of_decide_eq_true hb)])
        have HB := Lib.hid hb
        clear hb hlt hi hT HNX
        go_wp2_with (first
          | (refine toList (by rfl) ?_; refine ld hS _ _ (by rfl) _ _ (by rfl) (agOf (by rfl)) (by repeat first | exact Has.z | apply Has.s) (by rfl) ?_)
          | (go_at_call 84; refine (HH.out _ _ i true HB.out (IsR.mk (hS.re [1, 2, 3]))).mono ?_; rintro e w1 ⟨rfl, rfl⟩)
          | (refine toList (by rfl) ?_; refine bsF hS _ _ _ (by rfl) (elOf (by rfl)) [.int .i64 i] (by rfl) (by rfl) (by decide) (by decide) (by simp [Value.cells]) ?_; intro b1 w1 hS1; clear hS; have hS := hS1; clear hS1; rw [sca1 rfl] at hS)
          | (refine toList (by rfl) ?_; refine apI (m := [i]) hS _ _ _ _ (by rfl) (by rfl) (by rfl) (elOf (by rfl)) (by rfl) (by rfl) (by rfl) (inOf (by rfl)) (Has.s Has.z) (by exact hS.csRd0 (n := 1) (sz := 1) Has.z (by decide) rfl) (by simp; omega) ?_; intro v1 w1 hS1; clear hS; have hS := hS1; clear hS1; dsimp only [List.set_cons_zero, List.set_cons_succ] at hS; rw [← HN.out] at hS))
        exact ⟨⟨i + 1, by go_num, HLT.out, hS.drop⟩, by simp [intOf]; have := HLT.out; omega⟩
      | false =>
        have HN := Lib.hid (show upsT G n (i + 1) = T by rw [HNX.out, if_neg (of_decide_eq_false hb), List.append_nil])
        have HB := Lib.hid hb
        clear hb hlt hi hT HNX
        go_wp2_with (first
          | (refine toList (by rfl) ?_; refine ld hS _ _ (by rfl) _ _ (by rfl) (agOf (by rfl)) (by repeat first | exact Has.z | apply Has.s) (by rfl) ?_)
          | (go_at_call 84; refine (HH.out _ _ i false HB.out (IsR.mk (hS.re [1, 2, 3]))).mono ?_; rintro e w1 ⟨rfl, rfl⟩))
        exact ⟨⟨i + 1, by go_num, HLT.out, by rw [HN.out]; exact hS⟩, by simp [intOf]; have := HLT.out; omega⟩
    · obtain rfl : i = G.N.length := by omega
      have k1 : ¬ (G.N.length : Int) < (G.N.length : Int) := by omega
      rw [HU.out] at hS hul ⊢
      clear hi hlt HNX
      go_wp2_with (refine toList (by rfl) ?_; refine ld hS _ _ (by rfl) _ _ (by rfl) (agOf (by rfl)) (by repeat first | exact Has.z | apply Has.s) (by rfl) ?_)
      go_ret
      exact ⟨_, rfl, (IsR.mk (hS.re [1, 2, 3])).pull1⟩
def RwC (W : World) (p : Nat) (G : Gr) (b d : Nat) : Prop :=
  ∀ (w : World) (M : List Asrt) (P : List Nat) (n : Nat) (x : Value) (m : Nat), G.rk n ≤ d → n < G.N.length → P.length + G.rk n ≤ 4096 → 0 < m → m ≤ 1000 →
    (∀ w L', Sat W w (L' ++ M) → Rd w x (P ++ [n]).length 1 (iv (P ++ [n]))) → Sat W w (IsR p G :: M) →
    Calls Try.prog 36 #[.pointer (some ⟨p, 0, none⟩), x, .int .i64 (b : Int), .int .i64 (m : Int)] w fun e w' => ∃ v, e = .returned v ∧ Sat W w' (Rws Ir v ((G.tell b P n).take m) :: IsR p G :: M)
set_option maxRecDepth 20000 in
set_option maxHeartbeats 4000000 in
theorem rway_any {W : World} {p : Nat} {G : Gr} (hG : G.Ok) (hA : G.Acyc) {b : Nat} (hb : b < G.N.length) : ∀ d, RwC W p G b d := by
  intro d
  induction d with
  | zero => intro w M P n x m h1 h2; have := Gr.rk_pos h2; omega
  | succ d ih =>
    intro w M P n x m hrk hn hpl hm0 hmk hr hS
    obtain ⟨ao, c, rfl, hc1, hc2, _, h5⟩ := hr w [_] hS
    obtain ⟨Wy, hWy⟩ : ∃ Wy, P ++ [n] = Wy := ⟨_, rfl⟩
    obtain ⟨k, hk⟩ : ∃ k, P.length = k := ⟨_, rfl⟩
    have hrp := Gr.rk_pos hn
    have hWl : Wy.length = k + 1 := by rw [← hWy, ← hk]; simp
    rw [hWy] at hr hc1 h5
    obtain ⟨bx, ox, rfl, _⟩ := h5 (by rw [iv_length] at *; omega)
    have HWY := Lib.hid hWy
    have HR := Lib.hid hr
    have HLAST := Lib.hid (show (iv Wy)[k]? = some (.int .i64 (n : Int)) from iv_at (by rw [← hWy, ← hk]; simp))
    have hm1 : (Wy.length : Int) - 1 = (k : Int) := by omega
    have hm2 : (0 : Int) < (Wy.length : Int) := by omega
    have hm4 : (Wy.length : Int) ≤ 4096 := by omega
    have hm5 : (k : Int) < (Wy.length : Int) := by omega
    rw [hWy]
    by_cases hnb : n = b
    · have hnb2 := hnb.symm
      subst hnb2
      have HT := Lib.hid (show (G.tell b P b).take m = [Wy] by rw [Gr.tell_self hG hA P hn, hWy]; exact List.take_of_length_le (by rw [List.length_singleton]; exact hm0))
      rw [HT.out]
      clear hr h5 hWy ih hpl hrk hWl hnb hm0
      go_enter Try.func36, Try.ntmps36
      go_wp2_with (first
        | (refine toList (by rfl) ?_; refine wp_of_reads (rLdRd1 (HR.out _ [_] hS) _ _ (by rfl) _ (by rfl) (agOf (by rfl)) k (by omega) HLAST.out (by omega)) ?_)
        | (refine toList (by rfl) ?_; refine apI (l := []) (m := Wy) hS.irNil _ _ _ _ (by rfl) (by rfl) (by rfl) (elOf (by rfl)) (by rfl) (by rfl) (by rfl) (inOf (by rfl)) Has.z (HR.out _ [_] hS) (by simp; omega) ?_; intro v1 w1 hS1; clear hS; have hS := hS1; clear hS1; dsimp only [List.set_cons_zero, List.nil_append] at hS; obtain ⟨a1, c1, rfl, _⟩ := hS.irShape (k := 0) rfl)
        | (refine toList (by rfl) ?_; refine bsF hS _ _ _ (by rfl) (elOf (by rfl)) [.slice a1 Wy.length c1] (by rfl) (by rfl) (by decide) (by decide) (by simp [Value.cells]) ?_; intro b1 w1 hS1; clear hS; have hS := hS1; clear hS1; rw [sca1 rfl] at hS; replace hS := Sat.rwsOne hS))
      go_ret
      exact ⟨_, rfl, hS⟩
    · have hnb2 : ¬ ((n : Int) = (b : Int)) := by omega
      have hnb3 : ((n : Int) == (b : Int)) = false := beq_eq_false_iff_ne.2 hnb2
      have HT := Lib.hid (show G.tell b P n = G.tells b P n (G.ups n).length from Gr.tell_all hG hA P hn hnb)
      have hul := G.ups_len n
      have hul4 := hG.len
      have HUPS := Lib.hid (fun w L (h : Sat W w (IsR p G :: L)) => rups_any h hG n)
      obtain ⟨U, hU⟩ : ∃ U, G.ups n = U := ⟨_, rfl⟩
      have hUl : (U.length : Int) ≤ 4096 := by rw [← hU]; omega
      have HU := Lib.hid hU
      have HSUB := Lib.hid (fun (u : Nat) (hu : u ∈ U) => show u < G.N.length ∧ G.rk u ≤ d ∧ (P ++ [n]).length + G.rk u ≤ 4096 by
        rw [← hU] at hu
        have h1 := Gr.rk_up hG hA hu
        exact ⟨Gr.upsLt hu, by omega, by rw [List.length_append, List.length_singleton]; omega⟩)
      have HIH := Lib.hid ih
      have HRE := Lib.hid (fun w L (u : Nat) r (hr : G.reaches (u : Int) (b : Int) = r) (h : Sat W w (IsR p G :: L)) => rreaches_any h hG (u : Int) (b : Int) hr)
      have HRN := Lib.hid (fun (u : Nat) (hu : u < G.N.length) (h : G.reaches (u : Int) (b : Int) = false) => show ¬ G.Reach u b from fun h2 => by rw [Gr.reaches_true hu hb h2] at h; cases h)
      rw [hU] at HT HUPS
      have hmi : (m : Int) ≤ 1000 := by omega
      clear hnb ih hr h5 hWy hpl hrk hn hWl hU hul hul4
      go_enter Try.func36, Try.ntmps36
      go_wp2_with (first
        | (refine toList (by rfl) ?_; refine wp_of_reads (rLdRd1 (HR.out _ [_] hS) _ _ (by rfl) _ (by rfl) (agOf (by rfl)) k (by omega) HLAST.out (by omega)) ?_)
        | (go_at_call 62; refine (HUPS.out _ _ hS).mono ?_; rintro e w1 ⟨vu, rfl, hS1⟩; clear hS; have hS := hS1; clear hS1; obtain ⟨au, cu, rfl, _⟩ := hS.irShape (k := 0) rfl))
      have H0 : Hid (Sat W _ (Rws Ir (.slice none 0 0) ((G.tells b P n 0).take m) :: Ir (.slice au U.length cu) U :: IsR p G :: M)) := Lib.hid (by
        rw [Gr.tells_zero, List.take_nil]
        exact hS.rwsNil)
      go_loopw [10, 12] (fun v10 v12 wz => ∃ i : Nat, v12 = .int .i64 i ∧ i ≤ U.length ∧ Sat W wz (Rws Ir v10 ((G.tells b P n i).take m) :: Ir (.slice au U.length cu) U :: IsR p G :: M)) (fun _ v12 _ => U.length - (intOf v12).toNat)
      case atStart => exact ⟨0, rfl, by omega, H0.out⟩
      case round =>
        clear hS H0
        obtain ⟨i, rfl, hi, hS⟩ := hrel
        obtain ⟨xs, hxs⟩ : ∃ xs, (G.tells b P n i).take m = xs := ⟨_, rfl⟩
        have HXS := Lib.hid hxs
        have hxl : xs.length ≤ m := by rw [← hxs, List.length_take]; exact Nat.min_le_left _ _
        rw [hxs] at hS
        obtain ⟨a10, c10, rfl, _⟩ := hS.rwsShape (k := 0) rfl
        by_cases hfull : xs.length < m
        · have hTi : G.tells b P n i = xs := by
            rw [← hxs, List.take_of_length_le]
            rw [← hxs, List.length_take] at hfull; omega
          have HTI := Lib.hid hTi
          have f1 : (xs.length : Int) < (m : Int) := by omega
          have f2 : decide ((xs.length : Int) < (m : Int)) = true := decide_eq_true f1
          have f3 : decide (xs.length < m) = true := decide_eq_true hfull
          by_cases hlt : i < U.length
          · have k1 : (i : Int) < (U.length : Int) := by omega
            have HLT := Lib.hid hlt
            obtain ⟨bb, off, rfl⟩ := Sat.irAddr (k := 1) hS rfl rfl (by omega)
            obtain ⟨u, hx⟩ : ∃ u, U[i]? = some u := ⟨_, List.getElem?_eq_getElem hlt⟩
            have HX := Lib.hid (iv_at hx)
            have HXU := Lib.hid (show (G.ups n)[i]? = some u by rw [HU.out]; exact hx)
            have HUM := Lib.hid (HSUB.out u (List.mem_of_getElem? hx))
            obtain ⟨mx, hmx⟩ : ∃ mx, m - xs.length = mx := ⟨_, rfl⟩
            have hsub : (m : Int) - (xs.length : Int) = (mx : Int) := by omega
            have HMX := Lib.hid (show 0 < mx ∧ mx ≤ 1000 by omega)
            have hmxb : (mx : Int) ≤ 1000 := by omega
            have hwr : IntKind.i64.wrap (mx : Int) = (mx : Int) := IntWalk.i64_in _ (by omega)
            have HNX := Lib.hid (show (G.tells b P n (i + 1)).take m = xs ++ (G.tell b (P ++ [n]) u).take mx by
              rw [Gr.tells_next HXU.out, hTi, List.take_append, hmx, List.take_of_length_le (by omega)])
            have hxb : xs.length ≤ 1000 := by omega
            clear hx hlt hi hfull hxs hTi hmx hxl
            cases hre : G.reaches (u : Int) (b : Int) with
            | false =>
              have HSK := Lib.hid (show (G.tells b P n (i + 1)).take m = xs by rw [Gr.tells_skip HXU.out (HRN.out u HUM.out.1 hre), HXS.out])
              have HRE2 := Lib.hid (fun w L h => HRE.out w L u false hre h)
              clear hre
              go_wp2_with (first
                | (refine toList (by rfl) ?_; refine ldSl hS _ _ (by rfl) _ _ (by rfl) (agOf (by rfl)) (Has.s Has.z) i (by omega) HX.out ?_)
                | (go_at_call 63; refine (HRE2.out _ _ (hS.re [2])).mono ?_; rintro e w1 ⟨rfl, hS1⟩; clear hS; have hS := hS1.re [1, 2]; clear hS1))
              exact ⟨⟨i + 1, by go_num, HLT.out, by rw [HSK.out]; exact hS⟩, by simp [intOf]; have := HLT.out; omega⟩
            | true =>
              have HRE2 := Lib.hid (fun w L h => HRE.out w L u true hre h)
              have HC2 := Lib.hid (fun w v1 b1 E1 row (h : Sat W w (Cs b1 E1 row :: Ir v1 (Wy ++ [u]) :: Rws Ir (.slice a10 xs.length c10) xs :: Ir (.slice (some ⟨bb, off, none⟩) U.length cu) U :: IsR p G :: M)) =>
                  show Calls Try.prog 36 #[.pointer (some ⟨p, 0, none⟩), v1, .int .i64 (b : Int), .int .i64 (mx : Int)] w (fun e w' => ∃ v, e = .returned v ∧ Sat W w' (Rws Ir v ((G.tell b (P ++ [n]) u).take mx) :: IsR p G :: Ir v1 (Wy ++ [u]) :: Cs b1 E1 row :: Rws Ir (.slice a10 xs.length c10) xs :: Ir (.slice (some ⟨bb, off, none⟩) U.length cu) U :: M)) by
                    exact HIH.out w (Ir v1 (Wy ++ [u]) :: Cs b1 E1 row :: Rws Ir (.slice a10 xs.length c10) xs :: Ir (.slice (some ⟨bb, off, none⟩) U.length cu) U :: M) (P ++ [n]) u v1 mx HUM.out.2.1 HUM.out.1 HUM.out.2.2 HMX.out.1 HMX.out.2 (fun w L' h => by rw [HWY.out]; exact h.irRd (has_app _ _ _)) (h.re [4, 1, 0]))
              clear hre
              go_wp2_with (first
                | (refine toList (by rfl) ?_; refine ldSl hS _ _ (by rfl) _ _ (by rfl) (agOf (by rfl)) (Has.s Has.z) i (by omega) HX.out ?_)
                | (go_at_call 63; refine (HRE2.out _ _ (hS.re [2])).mono ?_; rintro e w1 ⟨rfl, hS1⟩; clear hS; have hS := hS1.re [1, 2]; clear hS1))
              replace hS : Sat W _ (Rws Ir (.slice a10 xs.length c10) xs :: Ir (.slice (some ⟨bb, off, none⟩) U.length cu) U :: IsR p G :: M) := hS
              refine regStart2 [8, 9, 15, 16] hS (fun _ h => h.one (Has.s Has.z)) (by kernel_rfl) rfl ?_
              intro w1 hS1
              clear hS; have hS := hS1; clear hS1
              (refine rgP 0 hS (fun _ h => h.one (Has.s Has.z)) ?_; go_frame)
              (refine rgP 1 hS (fun _ h => h.one (Has.s Has.z)) ?_; go_frame)
              (refine rgP 2 hS (fun _ h => h.one (Has.s Has.z)) ?_; go_frame)
              (refine rgP 4 hS (fun _ h => h.one (Has.s Has.z)) ?_; go_frame)
              (refine rgP 5 hS (fun _ h => h.one (Has.s Has.z)) ?_; go_frame)
              (refine rgP 6 hS (fun _ h => h.one (Has.s Has.z)) ?_; go_frame)
              (refine regRD 7 hS (fun _ h => h.one (Has.s Has.z)) rfl (by kernel_rfl) (by kernel_rfl) (by kernel_rfl) (by kernel_rfl) (by kernel_rfl) (fun _ _ _ _ h => h) (by rfl) (by rfl) ?_; (refine ⟨.int .i64 (u : Int), yLdSl _ _ (by rfl) _ _ (by rfl) (agOf (by rfl)) Has.z i (by omega) HX.out, ?_⟩); go_frame)
              (refine rgP 10 hS (fun _ h => h.one (Has.s Has.z)) ?_; go_frame)
              (refine rgP 11 hS (fun _ h => h.one (Has.s Has.z)) ?_; go_frame)
              (refine rgP 12 hS (fun _ h => h.one (Has.s Has.z)) ?_; go_frame)
              (refine rgP 13 hS (fun _ h => h.one (Has.s Has.z)) ?_; go_frame)
              (refine rgP 14 hS (fun _ h => h.one (Has.s Has.z)) ?_; go_frame)
              revert hS
              apply regJoin (fun (b1 _b2 _b3 : Nat) (tz _v2 _v3 : Value) w' => Sat W w' (Cs b1 3 [.int .i64 u] :: Ir tz Wy :: Rws Ir (.slice a10 xs.length c10) xs :: Ir (.slice (some ⟨bb, off, none⟩) U.length cu) U :: IsR p G :: M)) ([Ir (.slice (some ⟨bb, off, none⟩) U.length cu) U])
              case h1 =>
                intro hJ hS
                refine regM2 3 8 rfl rfl (by kernel_rfl) (by rfl) (by rfl) (by rfl) (by rfl) ?_ ?_
                · intro K hK; (refine apI (l := []) (m := Wy) hS.irNil _ _ _ _ (by rfl) (by rfl) (by rfl) (elOf (by rfl)) (by rfl) (by rfl) (by rfl) (inOf (by rfl)) Has.z (by first | exact HR.out _ [_, _, _] hS | exact HR.out _ [_, _, _, _] hS) (by simp; omega) ?_; intro tz w1 hS1; clear hS; have hS := hS1; clear hS1; dsimp only [List.set_cons_zero, List.nil_append] at hS); refine hK _ _ _ (hS.upTo (fun _ h => by first | exact h.one Has.z | exact h.one (Has.s Has.z) | exact h.one (Has.s (Has.s Has.z)) | exact h.one (Has.s (Has.s (Has.s Has.z))) | exact h.one (Has.s (Has.s (Has.s (Has.s Has.z)))))) (fun _ h => h) ?_; clear hK K; go_frame
                  (refine rgA 8 true fun K hK => ?_; (refine bsF hS _ _ _ (by rfl) (elOf (by rfl)) [.int .i64 u] (by rfl) (by rfl) (by decide) (by decide) (by simp [Value.cells]) ?_; intro b1 w1 hS1; clear hS; have hS := hS1; clear hS1; rw [sca1 rfl] at hS); refine hK _ _ _ (hS.upTo (fun _ h => by first | exact h.one Has.z | exact h.one (Has.s Has.z) | exact h.one (Has.s (Has.s Has.z)) | exact h.one (Has.s (Has.s (Has.s Has.z))) | exact h.one (Has.s (Has.s (Has.s (Has.s Has.z)))))) (fun _ _ h => h) ?_; clear hK K; go_frame)
                  refine (fun (g : Nat → Nat → Value → Value → _) => g 0 0 (.slice none 0 0) (.slice none 0 0)) ?_; intro x2 x3 y2 y3; first | exact hJ b1 x2 x3 tz y2 y3 _ hS | exact hJ b1 x2 x3 tz y2 y3 _ hS.pull1
                · intro K hK; (refine bsF hS _ _ _ (by rfl) (elOf (by rfl)) [.int .i64 u] (by rfl) (by rfl) (by decide) (by decide) (by simp [Value.cells]) ?_; intro b1 w1 hS1; clear hS; have hS := hS1; clear hS1; rw [sca1 rfl] at hS); refine hK _ _ _ (hS.upTo (fun _ h => by first | exact h.one Has.z | exact h.one (Has.s Has.z) | exact h.one (Has.s (Has.s Has.z)) | exact h.one (Has.s (Has.s (Has.s Has.z))) | exact h.one (Has.s (Has.s (Has.s (Has.s Has.z)))))) (fun _ h => h) ?_; clear hK K; go_frame
                  (refine rgA 3 false fun K hK => ?_; (refine apI (l := []) (m := Wy) hS.irNil _ _ _ _ (by rfl) (by rfl) (by rfl) (elOf (by rfl)) (by rfl) (by rfl) (by rfl) (inOf (by rfl)) Has.z (by first | exact HR.out _ [_, _, _] hS | exact HR.out _ [_, _, _, _] hS) (by simp; omega) ?_; intro tz w1 hS1; clear hS; have hS := hS1; clear hS1; dsimp only [List.set_cons_zero, List.nil_append] at hS); refine hK _ _ _ (hS.upTo (fun _ h => by first | exact h.one Has.z | exact h.one (Has.s Has.z) | exact h.one (Has.s (Has.s Has.z)) | exact h.one (Has.s (Has.s (Has.s Has.z))) | exact h.one (Has.s (Has.s (Has.s (Has.s Has.z)))))) (fun _ _ h => h) ?_; clear hK K; go_frame)
                  refine (fun (g : Nat → Nat → Value → Value → _) => g 0 0 (.slice none 0 0) (.slice none 0 0)) ?_; intro x2 x3 y2 y3; first | exact hJ b1 x2 x3 tz y2 y3 _ hS | exact hJ b1 x2 x3 tz y2 y3 _ hS.pull1
              intro b1 _ _ tz _ _ w1 hS
              (refine rgA 9 true fun K hK => ?_; (first
                                            | (refine apI (l := Wy) (m := [u]) hS _ _ _ _ (by rfl) (by rfl) (by rfl) (elOf (by rfl)) (by rfl) (by rfl) (by rfl) (inOf (by rfl)) (Has.s Has.z) (by exact hS.csRd0 (n := 1) (sz := 1) Has.z (by decide) rfl) (by simp; omega) ?_; intro v3 w1 hS1; clear hS; have hS := hS1; clear hS1; dsimp only [List.set_cons_zero, List.set_cons_succ] at hS)
                                            | (refine Go.Sep.cl 36 _ _ (by rfl) (by rfl) (by kernel_rfl) (HC2.out _ _ _ _ _ hS) ?_; rintro e w1 ⟨v4, rfl, hS1⟩; clear hS; have hS := hS1; clear hS1; refine ⟨_, rfl, ?_⟩)
                                            | (refine apRws hS _ _ _ _ (by rfl) (by rfl) (by rfl) (elOf (by rfl)) (by rfl) (by decide) (by rfl) (inOf (by rfl)) (Has.s (Has.s (Has.s Has.z))) (fun w L u x h => ir_one w L u x h) (by rw [List.length_take]; omega) ?_; intro v5 w1 hS1; clear hS; have hS := hS1; clear hS1; dsimp only [List.set_cons_zero, List.set_cons_succ] at hS)); refine hK _ _ _ hS (by first | (intro h; cases h; done) | exact fun _ _ h => h | exact fun _ _ h => h.drop | exact fun _ _ h => h.drop.drop | exact fun _ _ h => h.drop.pull1 | exact fun _ _ h => h.take2 | exact fun _ _ h => h.one Has.z | exact fun _ _ h => h.one (Has.s Has.z) | exact fun _ _ h => h.one (Has.s (Has.s Has.z))) ?_; clear hK K; go_frame)
              (refine rgA 15 true fun K hK => ?_; (first
                                            | (refine apI (l := Wy) (m := [u]) hS _ _ _ _ (by rfl) (by rfl) (by rfl) (elOf (by rfl)) (by rfl) (by rfl) (by rfl) (inOf (by rfl)) (Has.s Has.z) (by exact hS.csRd0 (n := 1) (sz := 1) Has.z (by decide) rfl) (by simp; omega) ?_; intro v3 w1 hS1; clear hS; have hS := hS1; clear hS1; dsimp only [List.set_cons_zero, List.set_cons_succ] at hS)
                                            | (refine Go.Sep.cl 36 _ _ (by rfl) (by rfl) (by kernel_rfl) (HC2.out _ _ _ _ _ hS) ?_; rintro e w1 ⟨v4, rfl, hS1⟩; clear hS; have hS := hS1; clear hS1; refine ⟨_, rfl, ?_⟩)
                                            | (refine apRws hS _ _ _ _ (by rfl) (by rfl) (by rfl) (elOf (by rfl)) (by rfl) (by decide) (by rfl) (inOf (by rfl)) (Has.s (Has.s (Has.s Has.z))) (fun w L u x h => ir_one w L u x h) (by rw [List.length_take]; omega) ?_; intro v5 w1 hS1; clear hS; have hS := hS1; clear hS1; dsimp only [List.set_cons_zero, List.set_cons_succ] at hS)); refine hK _ _ _ hS (by first | (intro h; cases h; done) | exact fun _ _ h => h | exact fun _ _ h => h.drop | exact fun _ _ h => h.drop.drop | exact fun _ _ h => h.drop.pull1 | exact fun _ _ h => h.take2 | exact fun _ _ h => h.one Has.z | exact fun _ _ h => h.one (Has.s Has.z) | exact fun _ _ h => h.one (Has.s (Has.s Has.z))) ?_; clear hK K; go_frame)
              (refine rgA 16 true fun K hK => ?_; (first
                                            | (refine apI (l := Wy) (m := [u]) hS _ _ _ _ (by rfl) (by rfl) (by rfl) (elOf (by rfl)) (by rfl) (by rfl) (by rfl) (inOf (by rfl)) (Has.s Has.z) (by exact hS.csRd0 (n := 1) (sz := 1) Has.z (by decide) rfl) (by simp; omega) ?_; intro v3 w1 hS1; clear hS; have hS := hS1; clear hS1; dsimp only [List.set_cons_zero, List.set_cons_succ] at hS)
                                            | (refine Go.Sep.cl 36 _ _ (by rfl) (by rfl) (by kernel_rfl) (HC2.out _ _ _ _ _ hS) ?_; rintro e w1 ⟨v4, rfl, hS1⟩; clear hS; have hS := hS1; clear hS1; refine ⟨_, rfl, ?_⟩)
                                            | (refine apRws hS _ _ _ _ (by rfl) (by rfl) (by rfl) (elOf (by rfl)) (by rfl) (by decide) (by rfl) (inOf (by rfl)) (Has.s (Has.s (Has.s Has.z))) (fun w L u x h => ir_one w L u x h) (by rw [List.length_take]; omega) ?_; intro v5 w1 hS1; clear hS; have hS := hS1; clear hS1; dsimp only [List.set_cons_zero, List.set_cons_succ] at hS)); refine hK _ _ _ hS (by first | (intro h; cases h; done) | exact fun _ _ h => h | exact fun _ _ h => h.drop | exact fun _ _ h => h.drop.drop | exact fun _ _ h => h.drop.pull1 | exact fun _ _ h => h.take2 | exact fun _ _ h => h.one Has.z | exact fun _ _ h => h.one (Has.s Has.z) | exact fun _ _ h => h.one (Has.s (Has.s Has.z))) ?_; clear hK K; go_frame)
              (refine rgP 17 hS (fun _ h => h) ?_; go_frame)
              refine regDone (by kernel_rfl) ?_
              go_wp2
              rw [← HNX.out] at hS
              exact ⟨⟨i + 1, by go_num, HLT.out, (hS.re [1, 2]).drop.drop.re [1, 2, 0]⟩, by simp [intOf]; have := HLT.out; omega⟩
          · obtain rfl : i = U.length := by omega
            have k1 : ¬ (U.length : Int) < (U.length : Int) := by omega
            have HE := Lib.hid (show (G.tell b P n).take m = xs by rw [HT.out]; exact HXS.out)
            clear hi hlt hfull hxs hTi hxl
            go_wp2
            go_ret
            rw [HE.out]
            exact ⟨_, rfl, (hS.re [0, 2]).re [0, 1] |> fun h => (h.re [2, 0, 1]).drop⟩
        · have hxm : xs.length = m := by omega
          have f1 : ¬ (xs.length : Int) < (m : Int) := by omega
          have f2 : decide ((xs.length : Int) < (m : Int)) = false := decide_eq_false f1
          have f3 : decide (xs.length < m) = false := decide_eq_false hfull
          have HE := Lib.hid (show (G.tell b P n).take m = xs by
            obtain ⟨r, hr⟩ := Gr.tells_split G b P n i
            rw [HU.out, ← HT.out] at hr
            rw [hr, List.take_append_of_le_length (by rw [← hxs, List.length_take] at hxm; omega), hxs])
          have hcs : (decide ((i : Int) < (U.length : Int)) = true ∧ decide (i < U.length) = true) ∨ (decide ((i : Int) < (U.length : Int)) = false ∧ decide (i < U.length) = false) := by
            by_cases h : i < U.length
            · exact .inl ⟨decide_eq_true (by omega), decide_eq_true h⟩
            · exact .inr ⟨decide_eq_false (by omega), decide_eq_false h⟩
          clear hi hfull hxs hxl hxm
          rcases hcs with ⟨d1, d2⟩ | ⟨d1, d2⟩
          all_goals
            go_wp2
            go_ret
            rw [HE.out]
            exact ⟨_, rfl, (hS.re [1, 0, 2]).drop⟩
end Go.Proofs.Ytpnbdnfgdiakhaa
