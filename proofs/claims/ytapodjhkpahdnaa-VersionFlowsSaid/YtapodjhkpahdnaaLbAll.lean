/-
  Package label: All.
-/
import Derived.Test.YtapodjhkpahdnaaLbPlain
import Derived.Test.YtapodjhkpahdnaaGrDo
namespace Go.Sep
open Go
/-- The first ones of a row. -/
theorem Sat.irTake {W w : World} {L : List Asrt} {ao : Option Addr} {c : Nat} {l : List Nat} (h : Sat W w (Ir (.slice ao l.length c) l :: L)) (k : Nat) (hk : k ≤ l.length) : Sat W w (Ir (.slice ao k c) (l.take k) :: L) := by
  have hl : (l.take k).length = k := by rw [List.length_take]; omega
  unfold Ir at h ⊢
  rcases h.slOpen with ⟨h1, h2, h3, h4⟩ | ⟨E', b', off', cap, pre, rest, h1, g1, g2, g3, g4, g5, h5⟩
  · simp only [Value.slice.injEq] at h1
    obtain ⟨rfl, h6, rfl⟩ := h1
    obtain rfl : k = 0 := by omega
    have := h4.slNil (E := 0) (sz := 1)
    simpa [iv] using this
  · simp only [Value.slice.injEq, true_and] at h1
    obtain ⟨rfl, rfl⟩ := h1
    rw [hl]
    refine Sat.slMk (E' := E') (pre := pre) (vs := iv (l.take k)) (rest := iv (l.drop k) ++ rest) ?_ (by omega) g2 (by rw [iv_length, hl]; omega) g4 (by rw [List.length_append, iv_length, iv_length, List.length_take, List.length_drop]; rw [iv_length] at g5; omega)
    have e : pre ++ iv (l.take k) ++ (iv (l.drop k) ++ rest) = pre ++ iv l ++ rest := by
      rw [List.append_assoc, ← List.append_assoc (iv (l.take k)), ← iv_append, List.take_append_drop, List.append_assoc]
    rw [e]
    exact h5
theorem Sat.irAddr {W w : World} {L : List Asrt} {k n : Nat} {ao : Option Addr} {c : Nat} {l : List Nat} (h : Sat W w L) (hk : Has L k (Ir (.slice ao n c) l)) (hl : l.length = n) (hn : 0 < n) : ∃ b o, ao = some ⟨b, o, none⟩ := by
  obtain ⟨_, _, he, h1, h2, h3, h5⟩ := h.irRd hk
  obtain ⟨b', o', h6, _⟩ := h5 (by omega)
  simp only [Value.slice.injEq] at he
  exact ⟨b', o', by rw [he.1, h6]⟩
end Go.Sep
namespace Go.Proofs.Ytapodjhkpahdnaa
open Go.RowKit Go.Sep
set_option linter.unusedSimpArgs false
set_option linter.unusedVariables false
attribute [local irreducible] Go.Oper.wp Go.wpList Go.Calls Go.Code.wp Go.Sep.Reg
attribute [local irreducible] IsG
def il (f : Nat → Nat) (n : Nat) : List Value := (List.range n).map fun k => .int .i64 (f k : Int)
theorem il_len (f : Nat → Nat) (n : Nat) : (il f n).length = n := by simp [il]
theorem il_at {f : Nat → Nat} {n k : Nat} (h : k < n) : (il f n)[k]? = some (.int .i64 (f k : Int)) := by simp [il, h]
def setF (f : Nat → Nat) (k x : Nat) : Nat → Nat := fun t => if t = k then x else f t
theorem il_set {f : Nat → Nat} {n k : Nat} (x : Nat) (h : k < n) : (il f n).set k (.int .i64 (x : Int)) = il (setF f k x) n := by
  apply List.ext_getElem?
  intro i
  rw [List.getElem?_set, il_len]
  by_cases hi : k = i
  · subst hi; rw [if_pos rfl, if_pos h, il_at h]; simp [setF]
  · rw [if_neg hi]
    by_cases h2 : i < n
    · rw [il_at h2, il_at h2]; simp [setF, Ne.symm hi]
    · rw [List.getElem?_eq_none (by rw [il_len]; omega), List.getElem?_eq_none (by rw [il_len]; omega)]
theorem il_congr {f g : Nat → Nat} {n : Nat} (h : ∀ k, k < n → f k = g k) : il f n = il g n := by
  unfold il
  refine List.map_congr_left fun k hk => ?_
  rw [h k (List.mem_range.1 hk)]
theorem made_int (n : Nat) : (madeCells (Value.int .i64 0).cells (n * 1)).toList = il (fun _ => 0) n := by
  simp [madeCells, Value.cells, Nat.mod_one, List.map_const', il]
structure LbOk (G : Gr) (n : Nat) (D : Nat → Bool) (F : Nat → Nat) : Prop where
  lab : ∀ k, D k = true → F k = G.lab k
  old : ∀ k, k < n → D k = true
  small : ∀ k, F k < 256
theorem LbOk.put {G : Gr} {n : Nat} {D : Nat → Bool} {F : Nat → Nat} (h : LbOk G n D F) (k : Nat) : LbOk G n (addD D k) (setF F k (G.lab k)) where
  lab := fun t ht => by
    unfold setF
    split
    · rename_i e; rw [e]
    · rename_i e
      refine h.lab t ?_
      simpa [addD, e] using ht
  old := fun t ht => addD_old (h.old t ht)
  small := fun t => by
    unfold setF
    split
    · exact G.lab_lt _
    · exact h.small t
abbrev LbSt := List (List Nat) × (Nat → Bool) × (Nat → Nat)
def LbInv (W : World) (p bd lb : Nat) (G : Gr) (L : List Asrt) (n : Nat) (st : LbSt) (v : Value) (w : World) : Prop :=
  Fr G st.2.1 n st.1 ∧ LbOk G n st.2.1 st.2.2 ∧ Sat W w (Ir v (stkF st.1) :: Cs bd 4 (bl st.2.1 G.N.length) :: Cs lb 3 (il st.2.2 G.N.length) :: IsG p G :: L)
noncomputable def LbT (G : Gr) (st : LbSt) : Nat := msF G st.2.1 st.1
theorem filter_next {p : Nat → Bool} {l : List Nat} {i u : Nat} (h : l[i]? = some u) : (l.take (i + 1)).filter p = (l.take i).filter p ++ (if p u then [u] else []) := by
  rw [List.take_add_one, h, List.filter_append]
  congr 1
  cases hp : p u <;> simp [hp]
theorem orL_next {f : Nat → Nat} {l : List Nat} {i u m : Nat} (h : l[i]? = some u) : orL f (l.take (i + 1)) m = orL f (l.take i) m ||| f u := by
  rw [List.take_add_one, h]
  exact orL_snoc f _ u m
theorem drop2L {W w : World} {A B C D : Asrt} {L : List Asrt} (h : Sat W w (C :: D :: A :: B :: L)) : Sat W w (C :: D :: L) := (h.re [2, 3]).drop.drop
theorem drop6L {W w : World} {A B C D E F : Asrt} {L : List Asrt} (h : Sat W w (A :: B :: C :: D :: E :: F :: L)) : Sat W w (A :: E :: F :: C :: L) := (h.re [1, 3, 0, 4, 5, 2]).drop.drop
theorem drop5L {W w : World} {A B C D E : Asrt} {L : List Asrt} (h : Sat W w (A :: B :: C :: D :: E :: L)) : Sat W w (A :: D :: E :: C :: L) := (h.re [1, 0, 3, 4, 2]).drop
set_option maxRecDepth 20000 in
set_option maxHeartbeats 4000000 in
theorem all_any {W w : World} {L : List Asrt} {p : Nat} {G : Gr} (hS : Sat W w (IsG p G :: L)) (hG : G.Ok) (hA : G.Acyc) :
    Calls Try.prog 94 #[.pointer (some ⟨p, 0, none⟩)] w fun e w' => ∃ b, e = .returned (.slice (some ⟨b, 0, none⟩) G.N.length G.N.length) ∧ Sat W w' (Cs b 3 (il G.lab G.N.length) :: IsG p G :: L) := by
  have HG := Lib.hid hG
  have HA := Lib.hid hA
  have hnl : (G.N.length : Int) ≤ 4096 := by have := hG.len; omega
  clear hG hA
  go_enter Try.func94, Try.ntmps94
  go_wp2_with (first
    | (go_at_call 12; refine (len_any hS rfl).mono ?_; rintro e w1 ⟨rfl, rfl⟩)
    | (go_at_call 12; refine (len_any hS.pull1 rfl).mono ?_; rintro e w1 ⟨rfl, rfl⟩)
    | (go_at_call 12; refine (len_any (hS.re [2]) rfl).mono ?_; rintro e w1 ⟨rfl, rfl⟩)
    | (refine toList (by rfl) ?_; refine mk (show Sat W _ (IsG p G :: L) from hS) _ _ _ (by rfl) G.N.length G.N.length _ _ (by rfl) (by rfl) (elOf (by rfl)) (by omega) (by omega) (by omega) ?_; intro lb w1 hS1; clear hS; have hS := hS1; clear hS1; rw [made_int] at hS)
    | (refine toList (by rfl) ?_; refine mk hS _ _ _ (by rfl) G.N.length G.N.length _ _ (by rfl) (by rfl) (elOf (by rfl)) (by omega) (by omega) (by omega) ?_; intro bd w1 hS1; clear hS; have hS := hS1; clear hS1; rw [made_bool] at hS))
  have H0 := Lib.hid hS.irNil
  go_loopw [5, 25] (fun v5 v25 wz => ∃ (n : Nat) (td : List Nat) (D : Nat → Bool) (F : Nat → Nat), v25 = .int .i64 n ∧ n ≤ G.N.length ∧ LbOk G n D F ∧ Sat W wz (Ir v5 td :: Cs bd 4 (bl D G.N.length) :: Cs lb 3 (il F G.N.length) :: IsG p G :: L)) (fun _ v25 _ => G.N.length - (intOf v25).toNat)
  case atStart => exact ⟨0, [], fun _ => false, fun _ => 0, rfl, by omega, ⟨(fun k h => by cases h), (fun k h => by omega), (fun k => by decide)⟩, H0.out⟩
  case round =>
    clear hS H0
    obtain ⟨n, td, D, F, rfl, hn, hok, hS⟩ := hrel
    have HOK := Lib.hid hok
    clear hok
    by_cases hl : n < G.N.length
    · have k1 : (n : Int) < (G.N.length : Int) := by omega
      have HNL := Lib.hid hl
      obtain ⟨ao, c, rfl, _⟩ := hS.irShape (k := 0) rfl
      replace hS := hS.irTake 0 (Nat.zero_le _)
      rw [List.take_zero] at hS
      clear hl
      go_wp2_with (first
        | (refine toList (by rfl) ?_; refine bsF hS _ _ _ (by rfl) (elOf (by rfl)) [.int .i64 n] (by rfl) (by rfl) (by decide) (by decide) (by simp [Value.cells]) ?_; intro b1 w1 hS1; clear hS; have hS := hS1; clear hS1; rw [sca1 rfl] at hS)
        | (refine toList (by rfl) ?_; refine apI (m := [n]) hS _ _ _ _ (by rfl) (by rfl) (by rfl) (elOf (by rfl)) (by rfl) (by rfl) (by rfl) (inOf (by rfl)) (Has.s Has.z) (by exact hS.csRd0 (n := 1) (sz := 1) Has.z (by decide) rfl) (by simp) ?_; intro v1 w1 hS1; clear hS; have hS := hS1; clear hS1; dsimp only [List.set_cons_zero, List.set_cons_succ, List.nil_append] at hS))
      have H1 : Hid (LbInv W p bd lb G L n ([[n]], D, F) _ _) := Lib.hid ⟨.one, HOK.out, hS.drop⟩
      go_loopw [5] (fun v wz => ∃ st, LbInv W p bd lb G L n st v wz) (fun v wz => minT (fun st => LbInv W p bd lb G L n st v wz) (LbT G))
      case atStart => exact ⟨_, H1.out⟩
      case round =>
        clear hS H1 HOK
        obtain ⟨⟨fr, D, F⟩, ⟨hfr, hok, hS⟩, hmin⟩ := minT_get (T := LbT G) hrel
        dsimp only at hfr hok hS
        clear hrel
        cases fr with
        | nil =>
          have hD : D n = true := by cases hfr; assumption
          have HD := Lib.hid hD
          have HOK := Lib.hid hok
          replace hS : Sat W _ (Ir _ [] :: _) := hS
          obtain ⟨a5, c5, rfl, _⟩ := hS.irShape (k := 0) rfl
          clear hD hok hfr hmin
          go_wp2
          exact ⟨⟨n + 1, [], D, F, by go_num, HNL.out, ⟨HOK.out.lab, (fun t ht => by
            by_cases e : t = n
            · rw [e]; exact HD.out
            · exact HOK.out.old t (by omega)), HOK.out.small⟩, hS⟩, by simp [intOf]; have := HNL.out; omega⟩
        | cons f rest =>
          obtain ⟨k, sib, rfl⟩ := hfr.top
          have hkl := hfr.low HG.out HNL.out _ (List.mem_cons_self ..) k (List.mem_cons_self ..)
          have hslen := hfr.len HG.out HA.out
          obtain ⟨S, hSd⟩ : ∃ S, stkF ((k :: sib) :: rest) = S := ⟨_, rfl⟩
          obtain ⟨s0, hs0⟩ : ∃ s0, stkF (popF ((k :: sib) :: rest)) = s0 := ⟨_, rfl⟩
          have hS0 : S = s0 ++ [k] := by rw [← hSd, ← hs0]; exact stkF_top k sib rest
          rw [hSd] at hS hslen
          obtain ⟨m, hm⟩ : ∃ m, s0.length = m := ⟨_, rfl⟩
          have hSl : S.length = m + 1 := by rw [hS0, List.length_append, hm]; rfl
          have HSK := Lib.hid (show S[m]? = some k by rw [hS0, ← hm]; simp)
          have HST := Lib.hid (show S.take m = s0 by rw [hS0, ← hm]; simp)
          have HSD := Lib.hid hSd
          have HS0 := Lib.hid hs0
          have HFR := Lib.hid hfr
          have HOK := Lib.hid hok
          have HMIN := Lib.hid hmin
          obtain ⟨a5, c5, rfl, hc5⟩ := hS.irShape (k := 0) rfl
          obtain ⟨b5, o5, rfl⟩ := hS.irAddr (k := 0) rfl rfl (by omega)
          obtain ⟨us, hus⟩ : ∃ us, G.ups k = us := ⟨_, rfl⟩
          obtain ⟨⟨x1, x2, x3, x4, x5, x6⟩, hx⟩ : ∃ x, G.N[k]? = some x := ⟨_, List.getElem?_eq_getElem hkl⟩
          have hmk := HG.out.marks _ (List.mem_of_getElem? hx)
          dsimp only at hmk
          have HMK := Lib.hid hmk
          have HEQ := Lib.hid (show andn (orL G.lab us x4) x5 = G.lab k by rw [← hus]; exact Gr.lab_eq HG.out hx)
          have HUS := Lib.hid hus
          have hul : us.length ≤ 4096 := by rw [← hus]; have := G.ups_len k; have := HG.out.len; omega
          have HLOW := Lib.hid (show ∀ u ∈ us, u < G.N.length by intro u hu; rw [← hus] at hu; exact (Gr.mem_ups.1 hu).1)
          have HUPS := Lib.hid (fun w L (h : Sat W w (IsG p G :: L)) => (show Calls Try.prog 27 #[.pointer (some ⟨p, 0, none⟩), .int .i64 (k : Int)] w fun e w' => ∃ v, e = .returned v ∧ Sat W w' (Ir v us :: IsG p G :: L) by
            have := ups_any h (k : Int) HG.out.len
            rw [Gr.upsI_nat hkl, hus] at this
            exact this))
          have HNODE := Lib.hid (fun w (L : List Asrt) (h : Sat W w (IsG p G :: L)) => (show Calls Try.prog 14 #[.pointer (some ⟨p, 0, none⟩), .int .i64 (k : Int)] w fun e w' =>
              e = .returned (.tuple #[.agg #[.int .i64 x1, .int .i64 x2, .int .i64 (x3 : Int), .int .i64 (x4 : Int), .int .i64 (x5 : Int), .bool x6], .bool true]) ∧ Sat W w' (IsG p G :: L) by
            have := node_any h (k : Int)
            rw [Gr.is_mk hkl, Gr.nodeI_at hx] at this
            exact this))
          have HKL := Lib.hid hkl
          have k2 : (k : Int) < (G.N.length : Int) := by omega
          have hm1 : (S.length : Int) - 1 = (m : Int) := by omega
          have hm2 : (0 : Int) < (S.length : Int) := by omega
          have hm3 : decide (0 < S.length) = true := decide_eq_true (by omega)
          have hm4 : (S.length : Int) ≤ 16785409 := by omega
          have hm5 : (m : Int) < (S.length : Int) := by omega
          have HM := Lib.hid hSl
          clear hfr hok hmin hkl hslen hSd hs0 hS0 hm hSl hus hx hmk
          go_wp2_with (first
            | (refine toList (by rfl) ?_; refine ldSl hS _ _ (by rfl) _ _ (by rfl) (agOf (by rfl)) Has.z m (by omega) (iv_at HSK.out) ?_)
            | (go_at_call 27; refine (HUPS.out _ _ (hS.re [3])).mono ?_; rintro e w1 ⟨vu, rfl, hS1⟩; clear hS; have hS := hS1; clear hS1; obtain ⟨au, cu, rfl, _⟩ := hS.irShape (k := 0) rfl))
          have H2 : Hid (Sat W _ (Ir (.slice (some ⟨b5, o5, none⟩) S.length c5) (S ++ (us.take 0).filter fun u => !D u) :: Ir (.slice au us.length cu) us :: IsG p G :: Cs bd 4 (bl D G.N.length) :: Cs lb 3 (il F G.N.length) :: L)) := Lib.hid (by
            rw [List.take_zero, List.filter_nil, List.append_nil]
            exact hS.re [2, 0, 1])
          go_loopw [5, 49] (fun v5 v49 wz => ∃ i : Nat, v49 = .int .i64 i ∧ i ≤ us.length ∧ Sat W wz (Ir v5 (S ++ (us.take i).filter fun u => !D u) :: Ir (.slice au us.length cu) us :: IsG p G :: Cs bd 4 (bl D G.N.length) :: Cs lb 3 (il F G.N.length) :: L)) (fun _ v49 _ => us.length - (intOf v49).toNat)
          case atStart => exact ⟨0, rfl, by omega, H2.out⟩
          case round =>
            clear hS H2
            obtain ⟨i, rfl, hi, hS⟩ := hrel
            by_cases hl : i < us.length
            · have i1 : (i : Int) < (us.length : Int) := by omega
              obtain ⟨u, hu⟩ : ∃ u, us[i]? = some u := ⟨_, List.getElem?_eq_getElem hl⟩
              have HU := Lib.hid hu
              have hul2 := HLOW.out u (List.mem_of_getElem? hu)
              have u1 : (u : Int) < (G.N.length : Int) := by omega
              have hb := bl_at (S := D) hul2
              have HIL := Lib.hid hl
              have hfn := filter_next (p := fun u => !D u) hu
              obtain ⟨b6, o6, rfl⟩ := hS.irAddr (k := 1) rfl rfl (by omega)
              have hbnd : (S ++ (us.take i).filter fun u => !D u).length ≤ 16789505 := by
                have := List.length_filter_le (fun u => !D u) (us.take i)
                rw [List.length_take] at this
                rw [List.length_append]; omega
              obtain ⟨T, hT⟩ : ∃ T, (S ++ (us.take i).filter fun u => !D u) = T := ⟨_, rfl⟩
              rw [hT] at hS hbnd
              obtain ⟨a7, c7, rfl, _⟩ := hS.irShape (k := 0) rfl
              clear hu hul2 hl
              cases hd : D u
              · rw [hd] at hb
                rw [hd, Bool.not_false, if_pos rfl] at hfn
                have HB := Lib.hid hb
                have HFN := Lib.hid (show (S ++ (us.take (i + 1)).filter fun u => !D u) = T ++ [u] by rw [hfn, ← List.append_assoc, hT])
                have HBN := Lib.hid hbnd
                clear hb hd hfn hT hbnd
                go_wp2_with (first
                  | (refine toList (by rfl) ?_; refine ldSl hS _ _ (by rfl) _ _ (by rfl) (agOf (by rfl)) (Has.s Has.z) i (by omega) (iv_at HU.out) ?_)
                  | (refine toList (by rfl) ?_; refine ld hS _ _ (by rfl) _ _ (by rfl) (agOf (by rfl)) (Has.s (Has.s (Has.s Has.z))) HB.out ?_)
                  | (refine toList (by rfl) ?_; refine bsF hS _ _ _ (by rfl) (elOf (by rfl)) [.int .i64 u] (by rfl) (by rfl) (by decide) (by decide) (by simp [Value.cells]) ?_; intro b1 w1 hS1; clear hS; have hS := hS1; clear hS1; rw [sca1 rfl] at hS)
                  | (refine toList (by rfl) ?_; refine apI (m := [u]) hS _ _ _ _ (by rfl) (by rfl) (by rfl) (elOf (by rfl)) (by rfl) (by rfl) (by rfl) (inOf (by rfl)) (Has.s Has.z) (by exact hS.csRd0 (n := 1) (sz := 1) Has.z (by decide) rfl) (by have := HBN.out; rw [List.length_singleton]; omega) ?_; intro v1 w1 hS1; clear hS; have hS := hS1; clear hS1; dsimp only [List.set_cons_zero, List.set_cons_succ] at hS; rw [← HFN.out] at hS))
                exact ⟨⟨i + 1, by go_num, HIL.out, hS.drop⟩, by simp [intOf]; have := HIL.out; omega⟩
              · rw [hd] at hb
                rw [hd, Bool.not_true, if_neg (by decide), List.append_nil] at hfn
                have HB := Lib.hid hb
                have HFN := Lib.hid (show T = S ++ (us.take (i + 1)).filter fun u => !D u by rw [hfn, hT])
                clear hb hd hfn hT hbnd
                go_wp2_with (first
                  | (refine toList (by rfl) ?_; refine ldSl hS _ _ (by rfl) _ _ (by rfl) (agOf (by rfl)) (Has.s Has.z) i (by omega) (iv_at HU.out) ?_)
                  | (refine toList (by rfl) ?_; refine ld hS _ _ (by rfl) _ _ (by rfl) (agOf (by rfl)) (Has.s (Has.s (Has.s Has.z))) HB.out ?_))
                exact ⟨⟨i + 1, by go_num, HIL.out, by rw [← HFN.out]; exact hS⟩, by simp [intOf]; have := HIL.out; omega⟩
            · have i1 : ¬ (i : Int) < (us.length : Int) := by omega
              obtain rfl : i = us.length := by omega
              clear hl
              rw [List.take_length] at hS
              obtain ⟨U, hU⟩ : ∃ U, (us.filter fun u => !D u) = U := ⟨_, rfl⟩
              rw [hU] at hS
              by_cases hne : U = []
              · subst hne
                rw [List.append_nil] at hS
                have HALL := Lib.hid (show ∀ u ∈ us, D u = true by
                  intro u hu
                  have := List.filter_eq_nil_iff.1 hU u hu
                  simpa using this)
                obtain ⟨a6, c6, rfl, hc6⟩ := hS.irShape (k := 0) rfl
                obtain ⟨b6, o6, rfl⟩ := hS.irAddr (k := 0) rfl rfl (by omega)
                have hmc : (m : Int) ≤ (c6 : Int) := by omega
                clear hU
                go_wp2_with (first
                  | (go_at_call 14; refine (HNODE.out _ _ (hS.re [2])).mono ?_; rintro e w1 ⟨rfl, hS1⟩; clear hS; have hS := hS1; clear hS1)
                  | (refine toList (by rfl) ?_; refine al hS _ (by rfl) (zrOf (by rfl)) ?_; intro px w1 hS1; clear hS; have hS := hS1; clear hS1; rw [cells_agg] at hS)
                  | (refine toList (by rfl) ?_; refine stW hS _ _ _ (by rfl) (by rfl) [.int .i64 x1, .int .i64 x2, .int .i64 (x3 : Int), .int .i64 (x4 : Int), .int .i64 (x5 : Int), .bool x6] (by rfl) (by simp [Value.oneCell']) (szOf (by rfl)) Has.z rfl ?_; intro w1 hS1; clear hS; have hS := hS1; clear hS1; dsimp only [List.set_cons_zero] at hS)
                  | (refine toList (by rfl) ?_; refine ld hS _ _ (by rfl) _ _ (by rfl) (agOf (by rfl)) Has.z (by rfl) ?_))
                have H3 := Lib.hid hS
                go_loopw [14, 77] (fun v14 v77 wz => ∃ i : Nat, v77 = .int .i64 i ∧ i ≤ us.length ∧ v14 = .int .i64 (orL F (us.take i) x4 : Nat) ∧ Sat W wz (Cs px 32 [.int .i64 x1, .int .i64 x2, .int .i64 (x3 : Int), .int .i64 (x4 : Int), .int .i64 (x5 : Int), .bool x6] :: IsG p G ::
                  Ir (.slice (some ⟨b6, o6, none⟩) S.length c6) S :: Ir (.slice au us.length cu) us :: Cs bd 4 (bl D G.N.length) :: Cs lb 3 (il F G.N.length) :: L)) (fun _ v77 _ => us.length - (intOf v77).toNat)
                case atStart => exact ⟨0, rfl, by omega, rfl, H3.out⟩
                case round =>
                  clear hS H3
                  obtain ⟨i, rfl, hi, rfl, hS⟩ := hrel
                  have ha := orL_lt HOK.out.small (us.take i) HMK.out.1
                  by_cases hl : i < us.length
                  · have i2 : (i : Int) < (us.length : Int) := by omega
                    obtain ⟨u, hu⟩ : ∃ u, us[i]? = some u := ⟨_, List.getElem?_eq_getElem hl⟩
                    have HU := Lib.hid hu
                    have hul2 := HLOW.out u (List.mem_of_getElem? hu)
                    have u1 : (u : Int) < (G.N.length : Int) := by omega
                    have hb := il_at (f := F) hul2
                    have HIL := Lib.hid hl
                    have hfn := orL_next (f := F) (m := x4) hu
                    have hy := HOK.out.small u
                    obtain ⟨b8, o8, rfl⟩ := hS.irAddr (k := 3) rfl rfl (by omega)
                    obtain ⟨y, hyy⟩ : ∃ y, F u = y := ⟨_, rfl⟩
                    obtain ⟨q, hq⟩ : ∃ q, orL F (us.take i) x4 = q := ⟨_, rfl⟩
                    rw [hyy] at hb hfn hy
                    rw [hq] at hfn ha ⊢
                    have hor := or_256' q y ha hy
                    have HB := Lib.hid hb
                    have HFN := Lib.hid hfn
                    clear hu hul2 hl hb hfn hy hyy hq ha
                    go_wp2_with (first
                      | (refine toList (by rfl) ?_; refine ldSl hS _ _ (by rfl) _ _ (by rfl) (agOf (by rfl)) (Has.s (Has.s (Has.s Has.z))) i (by omega) (iv_at HU.out) ?_)
                      | (refine toList (by rfl) ?_; refine ld hS _ _ (by rfl) _ _ (by rfl) (agOf (by rfl)) (Has.s (Has.s (Has.s (Has.s (Has.s Has.z))))) HB.out ?_))
                    exact ⟨⟨i + 1, by go_num, HIL.out, by rw [HFN.out], hS⟩, by simp [intOf]; have := HIL.out; omega⟩
                  · have i2 : ¬ (i : Int) < (us.length : Int) := by omega
                    obtain rfl : i = us.length := by omega
                    clear hl
                    rw [List.take_length] at ha ⊢
                    have hc : orL F us x4 = orL G.lab us x4 := orL_congr fun u hu => HOK.out.lab u (HALL.out u hu)
                    obtain ⟨q, hq⟩ : ∃ q, orL F us x4 = q := ⟨_, rfl⟩
                    have hand := andn_256 q x5 (by rw [← hq]; exact ha) HMK.out.2
                    rw [← hq, hc, HEQ.out, ← hc, hq] at hand
                    rw [hq]
                    clear ha hc hq
                    have HBS := Lib.hid (bl_set (S := D) HKL.out)
                    have HIS := Lib.hid (il_set (f := F) (G.lab k) HKL.out)
                    have HALLB := Lib.hid (show (G.ups k).all D = true by rw [HUS.out]; exact List.all_eq_true.2 HALL.out)
                    go_wp2_with (first
                      | (refine toList (by rfl) ?_; refine ld hS _ _ (by rfl) _ _ (by rfl) (agOf (by rfl)) Has.z (by rfl) ?_)
                      | (refine toList (by rfl) ?_; refine st hS _ _ _ (by rfl) _ _ (by rfl) _ (by first | exact evC | exact evT (by rfl)) (by rfl) (szOf (by rfl)) (Has.s (Has.s (Has.s (Has.s (Has.s Has.z))))) (by rw [il_len]; exact HKL.out) ?_; intro w1 hS1; clear hS; have hS := hS1; clear hS1; simp only [List.set_cons_zero, List.set_cons_succ] at hS; rw [HIS.out] at hS)
                      | (refine toList (by rfl) ?_; refine st hS _ _ _ (by rfl) _ _ (by rfl) _ (by first | exact evC | exact evT (by rfl)) (by rfl) (szOf (by rfl)) (Has.s (Has.s (Has.s (Has.s Has.z)))) (by rw [bl_len]; exact HKL.out) ?_; intro w1 hS1; clear hS; have hS := hS1; clear hS1; simp only [List.set_cons_zero, List.set_cons_succ] at hS; rw [HBS.out] at hS))
                    have hinv : LbInv W p bd lb G L n (popF ((k :: sib) :: rest), addD D k, setF F k (G.lab k)) (.slice (some ⟨b6, o6, none⟩) m c6) _ := ⟨HFR.out.pop.1, HOK.out.put k, by
                      show Sat W _ (Ir _ (stkF (popF ((k :: sib) :: rest))) :: Cs bd 4 (bl (fun t => D t || decide (t = k)) G.N.length) :: _)
                      rw [HS0.out, ← HST.out]
                      exact drop6L ((hS.re [2]).irTake m (by rw [HM.out]; omega))⟩
                    exact ⟨⟨_, hinv⟩, by rw [← HMIN.out]; exact Nat.lt_of_le_of_lt (minT_le (T := LbT G) hinv) (msF_pop HFR.out HALLB.out)⟩
              · obtain ⟨T, hT⟩ : ∃ T, S ++ U = T := ⟨_, rfl⟩
                have hTl : S.length < T.length := by rw [← hT, List.length_append]; have := List.length_pos_iff.2 hne; omega
                rw [hT] at hS
                obtain ⟨a6, c6, rfl, hc6⟩ := hS.irShape (k := 0) rfl
                have t1 : (S.length : Int) < (T.length : Int) := by omega
                have t2 : decide (S.length < T.length) = true := decide_eq_true hTl
                have HUN := Lib.hid (show (G.ups k).filter (fun u => !D u) = U by rw [HUS.out]; exact hU)
                have HNE := Lib.hid hne
                have HTT := Lib.hid hT
                clear hU hne hT
                go_wp2
                have hinv : LbInv W p bd lb G L n (U.reverse :: (k :: sib) :: rest, D, F) (.slice a6 T.length c6) _ := ⟨HFR.out.push HG.out HUN.out HNE.out, HOK.out, by
                  show Sat W _ (Ir _ (stkF (U.reverse :: (k :: sib) :: rest)) :: _)
                  rw [stkF_push, HSD.out, HTT.out]
                  exact drop5L hS⟩
                exact ⟨⟨_, hinv⟩, by rw [← HMIN.out]; exact Nat.lt_of_le_of_lt (minT_le (T := LbT G) hinv) (msF_push HG.out HA.out HUN.out HNE.out)⟩
    · have k1 : ¬ (n : Int) < (G.N.length : Int) := by omega
      obtain rfl : n = G.N.length := by omega
      have HCG := Lib.hid (il_congr (n := G.N.length) fun k hk => HOK.out.lab k (HOK.out.old k hk))
      clear hl
      go_wp2
      go_ret
      refine ⟨lb, rfl, ?_⟩
      rw [← HCG.out]
      exact drop2L (hS.re [2, 3])
end Go.Proofs.Ytapodjhkpahdnaa
