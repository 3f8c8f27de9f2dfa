/-
  For all calls, GraphWays answers true: no condition.
-/
import Derived.Test.YtfbphibgcolmbaaGrDo
namespace Go.Proofs.Ytfbphibgcolmbaa
open Go.RowKit Go.Sep Go.ChangeShapes Go.WideShapes Go.ChangeAt
set_option linter.unusedSimpArgs false
set_option linter.unusedVariables false
attribute [local irreducible] Go.Oper.wp Go.wpList Go.Calls Go.Code.wp Go.Sep.Reg
attribute [local irreducible] IsG
theorem take1 {W w : World} {A : Asrt} : ∀ {L : List Asrt}, Sat W w (A :: L) → Sat W w [A]
  | [], h => h
  | _ :: _, h => take1 h.pull1.drop
theorem any_take {α : Type} {l : List α} {i : Nat} {x : α} {P : α → Bool} (hx : l[i]? = some x) : (l.take (i + 1)).any P = ((l.take i).any P || P x) := by
  rw [List.take_add_one, hx, List.any_append]
  simp
noncomputable def WS (G : Gr) (n : Nat) (us : List Nat) (k : Nat) (t : Nat) : Bool := decide (t = n) || (us.take k).any fun u => G.rB (u : Int) t
theorem WS_next {G : Gr} {n k u : Nat} {us : List Nat} (hu : us[k]? = some u) (t : Nat) : WS G n us (k + 1) t = (WS G n us k t || G.rB (u : Int) t) := by
  unfold WS
  rw [any_take hu, Bool.or_assoc]
theorem WS_zero (G : Gr) (n : Nat) (us : List Nat) : (fun t => (fun _ => false) t || decide (t = n)) = WS G n us 0 := by
  funext t
  simp [WS]
theorem WS_all {G : Gr} (hG : G.Ok) {n t : Nat} (hn : n < G.N.length) : WS G n (G.ups n) (G.ups n).length t = G.rB (n : Int) t := by
  unfold WS
  rw [List.take_length, Bool.eq_iff_iff, Gr.rB_nat hn, Bool.or_eq_true, decide_eq_true_eq, List.any_eq_true]
  constructor
  · rintro (rfl | ⟨u, hu, hr⟩)
    · exact Gr.Reach.refl G t
    · have hu2 := Gr.mem_ups.1 hu
      exact (Gr.Reach.edge hu2.2).trans ((Gr.rB_nat hu2.1).1 hr)
  · intro h
    refine h (fun z => z = n ∨ ∃ u, u ∈ G.ups n ∧ G.rB (u : Int) z = true) (.inl rfl) fun x y hx hxy => ?_
    have hy := (hG.low _ hxy).2
    rcases hx with rfl | ⟨u, hu, hr⟩
    · exact .inr ⟨y, Gr.mem_ups.2 ⟨hy, hxy⟩, (Gr.rB_nat hy).2 (Gr.Reach.refl G y)⟩
    · have hu2 := Gr.mem_ups.1 hu
      exact .inr ⟨u, hu, (Gr.rB_nat hu2.1).2 (((Gr.rB_nat hu2.1).1 hr).snoc hxy)⟩
theorem filR_congr {R R' : Nat → Bool} {n : Nat} (h : ∀ t, t < n → R t = R' t) : filR R n = filR R' n := by
  unfold filR
  exact List.filter_congr fun x hx => h x (List.mem_range.1 hx)
def AS (S : Nat → Bool) (az : List Nat) (i : Nat) (t : Nat) : Bool := S t || (az.take i).any fun y => decide (t = y)
theorem AS_zero (S : Nat → Bool) (az : List Nat) : AS S az 0 = S := by funext t; simp [AS]
theorem AS_next {S : Nat → Bool} {az : List Nat} {i y : Nat} (hy : az[i]? = some y) : (fun t => AS S az i t || decide (t = y)) = AS S az (i + 1) := by
  funext t
  unfold AS
  rw [any_take hy, Bool.or_assoc]
theorem AS_all {G : Gr} {n k u t : Nat} {us : List Nat} (hu : us[k]? = some u) (hul : u < G.N.length) (ht : t < G.N.length) : AS (WS G n us k) (G.above u) (G.above u).length t = WS G n us (k + 1) t := by
  rw [WS_next hu]
  unfold AS
  rw [List.take_length]
  congr 1
  rw [Bool.eq_iff_iff, Gr.rB_nat hul, List.any_eq_true]
  constructor
  · rintro ⟨y, hy, he⟩
    have := of_decide_eq_true he
    subst this
    exact (Gr.mem_above.1 hy).2
  · exact fun h => ⟨t, Gr.mem_above.2 ⟨ht, h⟩, by simp⟩
theorem _root_.Go.Sep.Sat.irB {W w : World} {L : List Asrt} {k n : Nat} {ao : Option Addr} {c : Nat} {l : List Nat} (h : Sat W w L) (hk : Has L k (Ir (.slice ao n c) l)) (hl : l.length = n) (hn : 0 < n) : ∃ b o, ao = some ⟨b, o, none⟩ := by
  obtain ⟨_, _, he, h1, h2, h3, h5⟩ := h.irRd hk
  obtain ⟨b', o', h6, _⟩ := h5 (by omega)
  simp only [Value.slice.injEq] at he
  exact ⟨b', o', by rw [he.1, h6]⟩
set_option maxRecDepth 20000 in
set_option maxHeartbeats 4000000 in
theorem Ways.walk (l : List GOpD) (ao : Option Addr) (c : Nat) (W : World) (hr : Rd W (.slice ao l.length c) l.length 3 (l.flatMap gov)) :
    Calls Try.prog 6 #[.slice ao l.length c] W fun e w' => e = .returned (.bool true) ∧ Sat W w' [] := by
  have hS := Sat.start W
  have HR := Lib.hid hr
  clear hr
  go_enter Try.func6, Try.ntmps6
  go_wp2_with (go_at_call 25; refine (graphs_any hS l ao c HR.out (fun u L' h => HR.out.old h)).mono ?_; rintro e w1 ⟨p, q, G, rfl, hok, hel, hnl, hS1⟩; clear hS; have hS := hS1; clear hS1)
  have HOK := Lib.hid hok
  obtain ⟨m, hm⟩ : ∃ m, G.N.length = m := ⟨_, rfl⟩
  have HM := Lib.hid hm
  have HMI := Lib.hid (show (G.N.length : Int) = (m : Int) by rw [hm])
  have hm80 : m ≤ 80 := by omega
  have HNL := Lib.hid (show G.N.length ≤ 4096 by omega)
  clear hok hel hnl hm
  have H0 := Lib.hid hS.pull1.drop
  go_loopw [6] (fun v wz => ∃ n : Nat, v = .int .i64 n ∧ n ≤ m ∧ Sat W wz [IsG p G]) (fun v _ => m - (intOf v).toNat)
  case atStart => exact ⟨0, rfl, by omega, H0.out⟩
  case round =>
    clear hS H0
    obtain ⟨n, rfl, hn, hS⟩ := hrel
    by_cases hl : n < m
    · have k1 : (n : Int) < (m : Int) := by omega
      obtain ⟨us, hus⟩ : ∃ us, G.ups n = us := ⟨_, rfl⟩
      have HUS := Lib.hid (show ∀ u ∈ us, u < G.N.length ∧ (n, u) ∈ G.E by intro u hu; rw [← hus, Gr.mem_ups] at hu; exact hu)
      have hul : us.length ≤ 4096 := by rw [← hus]; have := G.ups_len n; have := HNL.out; omega
      have HFIN := Lib.hid (fun t (ht : t < m) => (show WS G n us us.length t = G.rB (n : Int) t by rw [← hus]; exact WS_all HOK.out (by rw [HM.out]; exact hl)))
      have HUPS := Lib.hid (fun w L (h : Sat W w (IsG p G :: L)) => (show Calls Try.prog 20 #[.pointer (some ⟨p, 0, none⟩), .int .i64 (n : Int)] w fun e w' => ∃ v, e = .returned v ∧ Sat W w' (Ir v us :: IsG p G :: L) by
        have := ups_any h (n : Int) HNL.out
        rw [Gr.upsI_nat (by rw [HM.out]; exact hl), hus] at this
        exact this))
      have HNM := Lib.hid (show n < G.N.length by rw [HM.out]; exact hl)
      have HLE := Lib.hid hl
      clear hl hus
      go_wp2_with (first
        | (go_at_call 16; refine (len_any hS HMI.out).mono ?_; rintro e w1 ⟨rfl, rfl⟩)
        | (refine toList (by rfl) ?_; refine mk (show Sat W _ [IsG p G] from hS) _ _ _ (by rfl) m m _ _ (by rfl) (by rfl) (elOf (by rfl)) (by omega) (by omega) (by omega) ?_; intro bi w1 hS1; clear hS; have hS := hS1; clear hS1; rw [made_bool] at hS)
        | (refine toList (by rfl) ?_; refine st hS _ _ _ (by rfl) _ _ (by rfl) _ (by first | exact evC | exact evT (by rfl)) (by rfl) (szOf (by rfl)) Has.z (by rw [bl_len]; exact HLE.out) ?_; intro w1 hS1; clear hS; have hS := hS1; clear hS1; simp only [List.set_cons_zero] at hS; rw [bl_set HLE.out, WS_zero G n us] at hS)
        | (go_at_call 20; refine (HUPS.out _ _ hS.pull1).mono ?_; rintro e w1 ⟨vu, rfl, hS1⟩; clear hS; have hS := hS1; clear hS1; obtain ⟨au, cu, rfl, _⟩ := hS.irShape (k := 0) rfl))
      have H1 := Lib.hid (hS.re [1, 2])
      go_loopw [9] (fun v wz => ∃ k : Nat, v = .int .i64 k ∧ k ≤ us.length ∧ Sat W wz [IsG p G, Cs bi 4 (bl (WS G n us k) m), Ir (.slice au us.length cu) us]) (fun v _ => us.length - (intOf v).toNat)
      case atStart => exact ⟨0, rfl, by omega, H1.out⟩
      case round =>
        clear hS H1
        obtain ⟨k, rfl, hk, hS⟩ := hrel
        by_cases hl : k < us.length
        · have k2 : (k : Int) < (us.length : Int) := by omega
          obtain ⟨u, hu⟩ : ∃ u, us[k]? = some u := ⟨_, List.getElem?_eq_getElem hl⟩
          have HU := Lib.hid hu
          obtain ⟨hul1, hed⟩ := HUS.out u (List.mem_of_getElem? hu)
          obtain ⟨b5, o5, rfl⟩ := hS.irB (k := 2) rfl rfl (by omega)
          obtain ⟨ds, hds⟩ : ∃ ds, G.downs u = ds := ⟨_, rfl⟩
          have HDOWN := Lib.hid (fun w L (h : Sat W w (IsG p G :: L)) => (show Calls Try.prog 26 #[.pointer (some ⟨p, 0, none⟩), .int .i64 (u : Int)] w fun e w' => ∃ v, e = .returned v ∧ Sat W w' (Ir v ds :: IsG p G :: L) by
            have := downs_any h (u : Int) HNL.out
            rw [Gr.downsI_nat hul1, hds] at this
            exact this))
          have hnd : n ∈ ds := by rw [← hds]; exact Gr.mem_downs.2 ⟨HNM.out, hed⟩
          have HFND := Lib.hid (show ds.any (fun y => decide (y = n)) = true from List.any_eq_true.2 ⟨n, hnd, by simp⟩)
          have hdl : ds.length ≤ 4096 := by rw [← hds]; have := G.downs_len u; have := HNL.out; omega
          have HCL := Lib.hid (fun w L (h : Sat W w (IsG p G :: L)) => closed_any h (u : Int) (r := true) (by rw [Gr.downsI_nat hul1, hds]; exact decide_eq_true (List.length_pos_of_mem hnd)))
          obtain ⟨az, has⟩ : ∃ az, G.above u = az := ⟨_, rfl⟩
          have hal : az.length ≤ 4096 := by rw [← has]; have := G.above_len u; have := HNL.out; omega
          have HAB := Lib.hid (fun w L (h : Sat W w (IsG p G :: L)) => (show Calls Try.prog 28 #[.pointer (some ⟨p, 0, none⟩), .int .i64 (u : Int)] w fun e w' => ∃ v, e = .returned v ∧ Sat W w' (Ir v az :: IsG p G :: L) by
            have := above_any h HOK.out (u : Int)
            unfold Gr.aboveI at this
            rw [Gr.is_mk hul1, if_pos rfl, Int.toNat_natCast, has] at this
            exact this))
          have HALT := Lib.hid (show ∀ y ∈ az, y < m by intro y hy; rw [← has] at hy; have := (Gr.mem_above.1 hy).1; rw [HM.out] at this; exact this)
          have HAS := Lib.hid (show bl (AS (WS G n us k) az az.length) m = bl (WS G n us (k + 1)) m by rw [← has]; exact bl_congr fun t ht => AS_all hu hul1 (by rw [HM.out]; exact ht))
          have HKL := Lib.hid hl
          clear hl hu hul1 hed hds hnd has
          go_wp2_with (first
            | (refine toList (by rfl) ?_; refine ldSl hS _ _ (by rfl) _ _ (by rfl) (agOf (by rfl)) (Has.s (Has.s Has.z)) k (by omega) (iv_at HU.out) ?_)
            | (go_at_call 26; refine (HDOWN.out _ _ hS).mono ?_; rintro e w1 ⟨vd, rfl, hS1⟩; clear hS; have hS := hS1; clear hS1; obtain ⟨ad, cd, rfl, _⟩ := hS.irShape (k := 0) rfl))
          have H2 := Lib.hid hS
          go_loopw [11, 12] (fun v11 v12 wz => ∃ (j : Nat) (f : Bool), v12 = .int .i64 j ∧ v11 = .bool f ∧ j ≤ ds.length ∧ (ds.take j).any (fun y => decide (y = n)) = f ∧ Sat W wz [Ir (.slice ad ds.length cd) ds, IsG p G, Cs bi 4 (bl (WS G n us k) m), Ir (.slice (some ⟨b5, o5, none⟩) us.length cu) us]) (fun _ v12 _ => ds.length - (intOf v12).toNat)
          case atStart => exact ⟨0, false, rfl, rfl, by omega, rfl, H2.out⟩
          case round =>
            clear hS H2
            obtain ⟨j, f, rfl, rfl, hj, hf, hS⟩ := hrel
            have HF := Lib.hid hf
            clear hf
            by_cases hl : j < ds.length
            · have k3 : (j : Int) < (ds.length : Int) := by omega
              obtain ⟨y, hy⟩ : ∃ y, ds[j]? = some y := ⟨_, List.getElem?_eq_getElem hl⟩
              have HY := Lib.hid hy
              have HNX := Lib.hid (any_take (P := fun y => decide (y = n)) hy)
              obtain ⟨b6, o6, rfl⟩ := hS.irB (k := 0) rfl rfl (by omega)
              have HJL := Lib.hid hl
              clear hl hy
              cases f
              · by_cases hyn : y = n
                · subst hyn
                  go_wp2_with (refine toList (by rfl) ?_; refine ldSl hS _ _ (by rfl) _ _ (by rfl) (agOf (by rfl)) Has.z j (by omega) (iv_at HY.out) ?_)
                  exact ⟨⟨j + 1, true, by go_num, rfl, HJL.out, by rw [HNX.out, HF.out]; simp, hS⟩, by simp [intOf]; have := HJL.out; omega⟩
                · have f1 : ((y : Int) == (n : Int)) = false := by simp; omega
                  have f2 : decide ((y : Int) = (n : Int)) = false := decide_eq_false (by omega)
                  have f3 : ¬ (y : Int) = (n : Int) := by omega
                  have f4 : decide (y = n) = false := decide_eq_false hyn
                  have HD := Lib.hid f4
                  have f5 : (y == n) = false := by simp [hyn]
                  clear hyn
                  go_wp2_with (refine toList (by rfl) ?_; refine ldSl hS _ _ (by rfl) _ _ (by rfl) (agOf (by rfl)) Has.z j (by omega) (iv_at HY.out) ?_)
                  exact ⟨⟨j + 1, false, by go_num, rfl, HJL.out, by rw [HNX.out, HF.out, HD.out]; rfl, hS⟩, by simp [intOf]; have := HJL.out; omega⟩
              · go_wp2
                exact ⟨⟨j + 1, true, by go_num, rfl, HJL.out, by rw [HNX.out, HF.out]; rfl, hS⟩, by simp [intOf]; have := HJL.out; omega⟩
            · have k3 : ¬ (j : Int) < (ds.length : Int) := by omega
              obtain rfl : f = true := by rw [← HF.out, List.take_of_length_le (by omega)]; exact HFND.out
              clear hl
              replace hS := hS.drop
              go_wp2_with (first
                | (refine toList (by rfl) ?_; refine ldSl hS _ _ (by rfl) _ _ (by rfl) (agOf (by rfl)) (Has.s (Has.s Has.z)) k (by omega) (iv_at HU.out) ?_)
                | (go_at_call 27; refine (HCL.out _ _ hS).mono ?_; rintro e w1 ⟨rfl, rfl⟩)
                | (go_at_call 28; refine (HAB.out _ _ hS).mono ?_; rintro e w1 ⟨va, rfl, hS1⟩; clear hS; have hS := hS1; clear hS1; obtain ⟨aa, ca, rfl, _⟩ := hS.irShape (k := 0) rfl))
              have H3 := Lib.hid hS
              go_loopw [14] (fun v wz => ∃ i : Nat, v = .int .i64 i ∧ i ≤ az.length ∧ Sat W wz [Ir (.slice aa az.length ca) az, IsG p G, Cs bi 4 (bl (AS (WS G n us k) az i) m), Ir (.slice (some ⟨b5, o5, none⟩) us.length cu) us]) (fun v _ => az.length - (intOf v).toNat)
              case atStart => exact ⟨0, rfl, by omega, by rw [AS_zero]; exact H3.out⟩
              case round =>
                clear hS H3
                obtain ⟨i, rfl, hi, hS⟩ := hrel
                by_cases hl : i < az.length
                · have k4 : (i : Int) < (az.length : Int) := by omega
                  obtain ⟨y, hy⟩ : ∃ y, az[i]? = some y := ⟨_, List.getElem?_eq_getElem hl⟩
                  have HY := Lib.hid hy
                  have HYM := Lib.hid (HALT.out y (List.mem_of_getElem? hy))
                  have k5 : (y : Int) < (m : Int) := by have := HYM.out; omega
                  have HNX := Lib.hid (AS_next (S := WS G n us k) hy)
                  obtain ⟨b6, o6, rfl⟩ := hS.irB (k := 0) rfl rfl (by omega)
                  have HIL := Lib.hid hl
                  clear hl hy
                  go_wp2_with (first
                    | (refine toList (by rfl) ?_; refine ldSl hS _ _ (by rfl) _ _ (by rfl) (agOf (by rfl)) Has.z i (by omega) (iv_at HY.out) ?_)
                    | (refine toList (by rfl) ?_; refine st hS _ _ _ (by rfl) _ _ (by rfl) _ (by first | exact evC | exact evT (by rfl)) (by rfl) (szOf (by rfl)) (Has.s (Has.s Has.z)) (by rw [bl_len]; exact HYM.out) ?_; intro w1 hS1; clear hS; have hS := hS1; clear hS1; simp only [List.set_cons_zero, List.set_cons_succ] at hS; rw [bl_set HYM.out, HNX.out] at hS))
                  exact ⟨⟨i + 1, by go_num, HIL.out, hS⟩, by simp [intOf]; have := HIL.out; omega⟩
                · have k4 : ¬ (i : Int) < (az.length : Int) := by omega
                  obtain rfl : i = az.length := by omega
                  clear hl
                  rw [HAS.out] at hS
                  go_wp2
                  exact ⟨⟨k + 1, by go_num, HKL.out, hS.drop⟩, by simp [intOf]; have := HKL.out; omega⟩
        · have k2 : ¬ (k : Int) < (us.length : Int) := by omega
          obtain rfl : k = us.length := by omega
          clear hl
          obtain ⟨S, hSe⟩ : ∃ S, WS G n us us.length = S := ⟨_, rfl⟩
          rw [hSe] at hS HFIN
          have HEND := Lib.hid (show filR S m = G.aboveI (n : Int) by rw [filR_congr HFIN.out, ← filR_above, HM.out])
          clear HFIN hSe
          obtain ⟨ab, hab⟩ : ∃ ab, G.aboveI (n : Int) = ab := ⟨_, rfl⟩
          have HAB := Lib.hid (fun w L (h : Sat W w (IsG p G :: L)) => (show Calls Try.prog 28 #[.pointer (some ⟨p, 0, none⟩), .int .i64 (n : Int)] w fun e w' => ∃ v, e = .returned v ∧ Sat W w' (Ir v ab :: IsG p G :: L) by
            have := above_any h HOK.out (n : Int)
            rw [hab] at this
            exact this))
          have HABL := Lib.hid (show ab.length ≤ 1000000 by rw [← hab]; have := G.aboveI_len (n : Int); have := HNL.out; omega)
          rw [hab] at HEND
          clear hab
          go_wp2
          have H4 : Hid (Sat W _ [Ir (.slice none 0 0) [], Cs bi 4 (bl S m), IsG p G]) := Lib.hid (take3 hS.pull1.irNil)
          go_loopw [15, 16] (fun v15 v16 wz => ∃ i : Nat, v16 = .int .i64 i ∧ i ≤ m ∧ Sat W wz [Ir v15 (filR S i), Cs bi 4 (bl S m), IsG p G]) (fun _ v16 _ => m - (intOf v16).toNat)
          case atStart => exact ⟨0, rfl, by omega, H4.out⟩
          case round =>
            clear hS H4
            obtain ⟨i, rfl, hi, hS⟩ := hrel
            obtain ⟨a6, c6, rfl, _⟩ := hS.irShape (k := 0) rfl
            by_cases hl : i < m
            · have k4 : (i : Int) < (m : Int) := by omega
              have hb := bl_at (S := S) hl
              have HIL := Lib.hid hl
              have HFL := Lib.hid (filR_len S i)
              clear hl
              cases hr : S i
              · rw [hr] at hb
                have HB := Lib.hid hb
                have HN := Lib.hid (filR_no hr)
                clear hb hr
                go_wp2_with (refine toList (by rfl) ?_; refine ld hS _ _ (by rfl) _ _ (by rfl) (agOf (by rfl)) (Has.s Has.z) HB.out ?_)
                exact ⟨⟨i + 1, by go_num, HIL.out, by rw [← HN.out]; exact hS⟩, by simp [intOf]; have := HIL.out; omega⟩
              · rw [hr] at hb
                have HB := Lib.hid hb
                have HN := Lib.hid (filR_yes hr)
                clear hb hr
                go_wp2_with (first
                  | (refine toList (by rfl) ?_; refine ld hS _ _ (by rfl) _ _ (by rfl) (agOf (by rfl)) (Has.s Has.z) HB.out ?_)
                  | (refine toList (by rfl) ?_; refine bsF hS _ _ _ (by rfl) (elOf (by rfl)) [.int .i64 i] (by rfl) (by rfl) (by decide) (by decide) (by simp [Value.cells]) ?_; intro b1 w1 hS1; clear hS; have hS := hS1; clear hS1; rw [sca1 rfl] at hS)
                  | (refine toList (by rfl) ?_; refine apI (m := [i]) hS _ _ _ _ (by rfl) (by rfl) (by rfl) (elOf (by rfl)) (by rfl) (by rfl) (by rfl) (inOf (by rfl)) (Has.s Has.z) (by exact hS.csRd0 (n := 1) (sz := 1) Has.z (by decide) rfl) (by have := HFL.out; rw [List.length_singleton]; omega) ?_; intro v1 w1 hS1; clear hS; have hS := hS1; clear hS1; dsimp only [List.set_cons_zero, List.set_cons_succ] at hS; rw [HN.out] at hS))
                exact ⟨⟨i + 1, by go_num, HIL.out, hS.drop⟩, by simp [intOf]; have := HIL.out; omega⟩
            · have k4 : ¬ (i : Int) < (m : Int) := by omega
              obtain rfl : i = m := by omega
              clear hl
              rw [HEND.out]
              rw [HEND.out] at hS
              go_wp2_with (first
                | (go_at_call 28; refine (HAB.out _ _ (hS.re [2, 0])).mono ?_; rintro e w1 ⟨vb, rfl, hS1⟩; clear hS; have hS := hS1; clear hS1; obtain ⟨a7, c7, rfl, _⟩ := hS.irShape (k := 0) rfl)
                | (go_at_call 29; refine (same_any hS ab _ _ _ _ (fun w h => h.irRd (k := 0) rfl) (fun w h => h.irRd (k := 2) rfl) HABL.out).mono ?_; rintro e w1 ⟨rfl, hS1⟩; clear hS; have hS := hS1; clear hS1))
              exact ⟨⟨n + 1, by go_num, HLE.out, take1 hS.drop⟩, by simp [intOf]; have := HLE.out; omega⟩
    · have k1 : ¬ (n : Int) < (m : Int) := by omega
      clear hl
      go_wp2_with (first
        | (go_at_call 16; refine (len_any hS HMI.out).mono ?_; rintro e w1 ⟨rfl, rfl⟩)
        | (go_at_call 21; refine (awake_any hS).mono ?_; rintro e w1 ⟨rfl, hS1⟩; clear hS; have hS := hS1; clear hS1))
      go_ret
      exact ⟨rfl, hS.drop⟩

set_option maxRecDepth 100000 in
theorem Ways.contract (H : Type) (enc : TypeId × Value → H) (W : World) (base : Nat) (args : Array Value) (ds gs : List (DataW H)) (before : List MemPlace)
    (hval : ∀ (j : Nat) t v, Try.f6.params[j]? = some t → args[j]? = some v → Value.okWide Try.prog W .any base t v)
    (hW : DataW.Whole enc Try.prog Try.f6.params.toList Rows.graphWaysSpec.vars false W args.toList ds gs before)
    (hreach : (DataW.weightsEach Try.prog (Try.f6.params.toList ++ Rows.graphWaysSpec.plain.varTypes Try.prog) (ds ++ gs)).all (· ≤ reachBytes) = true) :
    Calls Try.prog 6 args W fun e W' => ∃ v, e = .returned v ∧ Rows.graphWaysSpec.post enc Try.prog Try.f6 false true false false W args v W' := by
  have hW' := hW
  obtain ⟨p, q, hA, hV, rfl, hfz, hnd⟩ := hW
  rw [Try.params6] at hA hval hreach
  obtain ⟨v1, vs1, d1, ds1, p1, q1, hargs, rfl, rfl, h1, r1⟩ := trodAll_cons hA
  obtain ⟨rfl, rfl, rfl⟩ := trodAll_nil r1
  obtain rfl : args = #[v1] := by cases args; simp_all
  obtain ⟨rfl, rfl⟩ := trodVars_none hV
  obtain ⟨ao1, l1, c1, rfl⟩ := okWide_slice Try.underlying22 (hval 0 22 v1 rfl rfl)
  obtain ⟨l, rfl, hr, _⟩ := open_gops h1
  refine (Ways.walk l ao1 c1 W hr).mono ?_
  refine fun e W' ⟨he, hS⟩ => ?_
  subst he
  exact ⟨_, rfl, law_post (tb := 4) (by kernel_rfl) (by kernel_rfl) rfl Try.underlying4 rfl hW' rfl hS⟩

theorem Ways.own : ownKnob Try.prog.godebug = none := by kernel_rfl
set_option maxRecDepth 100000 in
theorem Ways.lifted (os : Os) (started : os.Started) (H : Type) (enc : TypeId × Value → H) :
    ReturnsInHanded {} Try.checked os 6 .any (Rows.graphWaysSpec.pre6 enc Try.prog Try.f6 Rows.graphWaysRow.domain false) (Rows.graphWaysSpec.post enc Try.prog Try.f6 false true false false) := by
  refine returnsInHanded_of_change_shaped (C := Try.checked) Ways.own started (by kernel_rfl) Try.func6
    (ChangeSpec.witness6 (enc := enc) (C := Try.checked) false ⟨#[], #[.slice none 0 0], []⟩ 8 (by kernel_rfl) (by kernel_rfl) (by kernel_rfl) (by kernel_rfl)) ?_
  intro W base args ds gs before hval hW _ hreach _ _
  exact Ways.contract H enc W base args ds gs before hval hW hreach

theorem Ways.holds : Rows.GraphWaysSaid :=
  OpenClaim.holds_of_wide 6 Try.f6 rfl rfl rfl rfl rfl rfl rfl ⟨rfl, rfl, rfl, rfl, rfl⟩ rfl rfl rfl rfl rfl (by kernel_rfl) Try.func6 (by kernel_rfl)
    (of_decide_eq_true (by kernel_rfl)) (by unfold Func.isWrapper; first | (rw [if_pos (by decide +kernel)]; kernel_rfl) | (rw [if_neg (by decide +kernel)]; exact ⟨rfl, rfl⟩))
    (fun os started H enc _ => Ways.lifted os started H enc)
end Go.Proofs.Ytfbphibgcolmbaa
