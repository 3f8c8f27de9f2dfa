/-
  Package pedigreelaw07: the writes that come in; small, group; the document's Check.
-/
import Derived.Test.YtefbkpggmmhgcaaWlRec2
import Derived.Test.YtefbkpggmmhgcaaWlLawP
namespace Go.Proofs.Ytefbkpggmmhgcaa
open Go.RowKit Go.Sep Go.ChangeShapes Go.WideShapes Go.ChangeAt
set_option linter.unusedSimpArgs false
set_option linter.unusedVariables false
attribute [local irreducible] Go.Oper.wp Go.wpList Go.Calls Go.Code.wp Go.Sep.Reg
structure WD where
  at_ : Int
  v : Value
  b : List UInt8
  short : Bool
def wdv (x : WD) : List Value := [.int .i64 x.at_, x.v, .bool x.short]
def WD.Ok (W : World) (x : WD) : Prop := (-9223372036854775808 ≤ x.at_ ∧ x.at_ ≤ 9223372036854775807) ∧ Rd W x.v x.b.length 1 (bv x.b)
theorem open_wds {H : Type} {enc : TypeId × Value → H} {W : World} {ao : Option Addr} {len cap : Nat} {d : DataW H} {ps : List MemPlace}
    (h : DataW.Trod enc Try.prog W 0 (fun _ => true) true 22 (.slice ao len cap) d ps) :
    ∃ l : List WD, l.length = len ∧ Rd W (.slice ao len cap) len 3 (l.flatMap wdv) ∧ ∀ x ∈ l, x.Ok W := by
  have c3 : Try.prog.cellsOf 3 = 1 := by kernel_rfl
  have c29 : Try.prog.cellsOf 36 = 1 := by kernel_rfl
  have c4 : Try.prog.cellsOf 4 = 1 := by kernel_rfl
  obtain ⟨l, h1, h2, h3, _⟩ := open_enc (f := wdv) (Q := WD.Ok W) Try.underlying22 (sz := 3) (by kernel_rfl) (by decide) h (fun r n x hl h => by
    obtain ⟨xs, m, _, _, _, hlen, hf⟩ := DataW.trod_struct Try.underlying59 h
    have hlen : xs.length = 3 := hlen
    have f1 : DataW.trod enc Try.prog W 0 (fun _ => true) true m 3 ((r.drop 0).take (Try.prog.cellsOf 3)) = xs[0]? := hf 0 _ rfl
    have f2 : DataW.trod enc Try.prog W 0 (fun _ => true) true m 36 ((r.drop 1).take (Try.prog.cellsOf 36)) = xs[1]? := hf 1 _ rfl
    have f3 : DataW.trod enc Try.prog W 0 (fun _ => true) true m 4 ((r.drop 2).take (Try.prog.cellsOf 4)) = xs[2]? := hf 2 _ rfl
    rw [c3, List.getElem?_eq_getElem (by omega)] at f1
    rw [c29, List.getElem?_eq_getElem (by omega)] at f2
    rw [c4, List.getElem?_eq_getElem (by omega)] at f3
    obtain ⟨k1, e1, _, w1⟩ := DataW.trod_int Try.underlying3 f1
    obtain ⟨v2, l2, e2, r2⟩ := open_bytes1 Try.underlying36 Try.underlying5 (by kernel_rfl) f2
    obtain ⟨b3, e3, _⟩ := DataW.trod_bool Try.underlying4 f3
    exact ⟨⟨k1, v2, l2, b3⟩, cells3 hl e1 e2 e3, i64_of w1, r2⟩)
  exact ⟨l, h1, h2, h3⟩
theorem wdv_len (l : List WD) : ∀ x ∈ l, (wdv x).length = 3 := fun _ _ => rfl
def smallW (l : List WD) : Bool := decide (l.length ≤ 60) && l.all fun x => decide (x.b.length ≤ 300)
theorem smallW_b {l : List WD} (h : smallW l = true) : l.length ≤ 60 ∧ ∀ x ∈ l, x.b.length ≤ 300 := by
  unfold smallW at h
  simp only [Bool.and_eq_true, decide_eq_true_eq, List.all_eq_true] at h
  exact h
/-- The writes that came in: where they stand. -/
def InW (W : World) (v : Value) (l : List WD) : Prop := Rd W v l.length 3 (l.flatMap wdv) ∧ ∀ x ∈ l, x.Ok W
set_option maxRecDepth 20000 in
set_option maxHeartbeats 1000000 in
theorem small_any {W w : World} {L : List Asrt} (hS : Sat W w L) (l : List WD) (ao : Option Addr) (c : Nat) (hr : InW W (.slice ao l.length c) l) :
    Calls Try.prog 8 #[.slice ao l.length c] w fun e w' => e = .returned (.bool (smallW l)) ∧ Sat W w' L := by
  have HR := Lib.hid hr
  obtain ⟨_, _, he, hc1, hc2, _, h5⟩ := hr.1
  simp only [Value.slice.injEq, true_and] at he
  obtain ⟨rfl, rfl⟩ := he
  have H5 := Lib.hid h5
  clear hr h5
  go_enter Try.func8, Try.ntmps8
  go_wp2
  have H0 := Lib.hid hS
  go_loopw [3] (fun v wz => ∃ k : Nat, v = .int .i64 k ∧ k ≤ l.length ∧ (l.take k).all (fun x => decide (x.b.length ≤ 300)) = true ∧ Sat W wz L) (fun v _ => l.length - (intOf v).toNat)
  case atStart => exact ⟨0, rfl, by omega, rfl, H0.out⟩
  case round =>
    clear hS H0
    obtain ⟨k, rfl, hk, hal, hS⟩ := hrel
    by_cases hl : k < l.length
    · have k1 : (k : Int) < (l.length : Int) := by omega
      obtain ⟨b, off, rfl, _⟩ := H5.out (by omega)
      obtain ⟨⟨xa, xv, xb, xs⟩, hx⟩ : ∃ x, l[k]? = some x := ⟨_, List.getElem?_eq_getElem hl⟩
      obtain ⟨_, hxr⟩ := HR.out.2 _ (List.mem_of_getElem? hx)
      obtain ⟨ax, cx, hxe, _⟩ := hxr
      dsimp only at hxe
      subst hxe
      have HX := Lib.hid hx
      have HL := Lib.hid hl
      have hal2 : (l.take (k + 1)).all (fun x => decide (x.b.length ≤ 300)) = ((l.take k).all (fun x => decide (x.b.length ≤ 300)) && decide (xb.length ≤ 300)) := by
        rw [List.take_add_one, hx, List.all_append]; simp
      rw [hal, Bool.true_and] at hal2
      have HAL := Lib.hid hal2
      clear hx hl hal hal2
      by_cases hb : xb.length ≤ 300
      · have b1 : (xb.length : Int) ≤ 300 := by omega
        have HB := Lib.hid hb
        clear hb
        go_wp2_with (first
          | (refine toList (by rfl) ?_; refine wp_of_reads (rLdRd (HR.out.1.old hS) (wdv_len l) _ _ (by rfl) _ (by rfl) (agOf (by rfl)) k 1 (by omega) HX.out (by rfl) (by omega)) ?_))
        exact ⟨⟨k + 1, by go_num, HL.out, by rw [HAL.out]; exact decide_eq_true HB.out, hS⟩, by simp [intOf]; have := HL.out; omega⟩
      · have b1 : (300 : Int) < (xb.length : Int) := by omega
        have HN := Lib.hid (show smallW l = false by
          cases h : smallW l with
          | false => rfl
          | true => exact absurd ((smallW_b h).2 _ (List.mem_of_getElem? HX.out)) hb)
        clear hb
        go_wp2_with (first
          | (refine toList (by rfl) ?_; refine wp_of_reads (rLdRd (HR.out.1.old hS) (wdv_len l) _ _ (by rfl) _ (by rfl) (agOf (by rfl)) k 1 (by omega) HX.out (by rfl) (by omega)) ?_))
        go_ret
        rw [HN.out]
        exact ⟨rfl, hS⟩
    · have k1 : ¬ (k : Int) < (l.length : Int) := by omega
      have HS := Lib.hid (show smallW l = decide (l.length ≤ 60) by
        unfold smallW
        rw [List.take_of_length_le (by omega)] at hal
        rw [hal, Bool.and_true])
      clear hl hal
      by_cases h60 : l.length ≤ 60
      · have HT := Lib.hid (show smallW l = true by rw [HS.out]; exact decide_eq_true h60)
        have b1 : (l.length : Int) ≤ 60 := by omega
        have e1 : decide ((l.length : Int) ≤ 60) = true := decide_eq_true b1
        clear h60
        go_wp2
        go_ret
        rw [HT.out]
        exact ⟨rfl, hS⟩
      · have HT := Lib.hid (show smallW l = false by rw [HS.out]; exact decide_eq_false h60)
        have b1 : ¬ (l.length : Int) ≤ 60 := by omega
        have e1 : decide ((l.length : Int) ≤ 60) = false := decide_eq_false b1
        clear h60
        go_wp2
        go_ret
        rw [HT.out]
        exact ⟨rfl, hS⟩
/-! ### group -/
def datW (x : WD) : List UInt8 := if x.short then x.b else pad x.b
def grpW (l : List WD) (i : Nat) : G2 := (l.take i).map fun x => (x.at_, datW x)
theorem grpW_succ {l : List WD} {i : Nat} {x : WD} (h : l[i]? = some x) : grpW l (i + 1) = grpW l i ++ [(x.at_, datW x)] := by
  unfold grpW
  rw [List.take_add_one, h]; simp
theorem grpW_len {l : List WD} {i : Nat} (h : i ≤ l.length) : (grpW l i).length = i := by unfold grpW; simp; omega
def wvI (x : Int × List UInt8) : List Value := [.int .i64 x.1, strv x.2]
theorem wvI_len (g : G2) : ∀ x ∈ g, (wvI x).length = 2 := fun _ _ => rfl
theorem wvI_ones (l : G2) : ∀ u ∈ l.flatMap wvI, u.oneCell' = true := fun u hu => by
  obtain ⟨x, hx, hu⟩ := List.mem_flatMap.1 hu
  simp only [wvI, strv, List.mem_cons, List.not_mem_nil, or_false] at hu
  rcases hu with rfl | rfl <;> rfl
theorem sl_len {W w : World} {L : List Asrt} {E sz n m : Nat} {v : Value} {vs : List Value} (h : Sat W w (Sl E sz v n vs :: L)) (e : m = n) : Sat W w (Sl E sz v m vs :: L) := e ▸ h
def grpN (l : List WD) : Nat := min l.length 30
set_option maxRecDepth 20000 in
set_option maxHeartbeats 4000000 in
theorem group_any {W w : World} {L : List Asrt} (hS : Sat W w L) (l : List WD) (ao : Option Addr) (c : Nat) (hr : InW W (.slice ao l.length c) l) (hsm : ∀ x ∈ l, x.b.length ≤ 300) :
    Calls Try.prog 10 #[.slice ao l.length c] w fun e w' => ∃ v1 v2, e = .returned (.tuple #[v1, v2]) ∧ ∃ xs, g2 xs = grpW l (grpN l) ∧ Sat W w' (Tb 40 2 gw (v1) (xs) :: St ((xs).map grow) :: Tb 56 2 wvI (v2) (g2 (xs)) :: L) := by
  have HR := Lib.hid hr
  have HSM := Lib.hid hsm
  obtain ⟨_, _, he, hc1, hc2, _, h5⟩ := hr.1
  simp only [Value.slice.injEq, true_and] at he
  obtain ⟨rfl, rfl⟩ := he
  have H5 := Lib.hid h5
  clear hr h5 hsm
  have H0 : Hid (Sat W w (Tb 40 2 gw (.slice none 0 0) ([]) :: St (([]).map grow) :: Tb 56 2 wvI (.slice none 0 0) (g2 ([])) :: L)) := Lib.hid ((Sat.mkSt (M := []) (hS.tbNil (α := Int × List UInt8) (f := wvI) (E := 56) (sz := 2))).tbNil)
  go_enter Try.func10, Try.ntmps10
  go_wp2
  go_loopw [4, 5, 6] (fun v4 v5 v6 wz => ∃ (i : Nat) (xs : List GW), v6 = .int .i64 i ∧ i ≤ l.length ∧ i ≤ 30 ∧ g2 xs = grpW l i ∧ Sat W wz (Tb 40 2 gw (v4) (xs) :: St ((xs).map grow) :: Tb 56 2 wvI (v5) (g2 (xs)) :: L)) (fun _ _ v6 _ => l.length - (intOf v6).toNat)
  case atStart => exact ⟨0, [], rfl, by omega, by omega, rfl, H0.out⟩
  case round =>
    clear hS H0
    obtain ⟨i, xs, rfl, hi, hi30, hx, hS⟩ := hrel
    have HX0 := Lib.hid hx
    have hxl : xs.length = i := by have := congrArg List.length hx; rwa [g2_len, grpW_len hi] at this
    have hxl30 : xs.length ≤ 30 := by omega
    have HXL := Lib.hid hxl
    clear hx hxl
    by_cases hl : i < l.length
    · have k1 : (i : Int) < (l.length : Int) := by omega
      have e1 : decide ((i : Int) < (l.length : Int)) = true := decide_eq_true k1
      by_cases h30 : i < 30
      · have k2 : (i : Int) < 30 := by omega
        have e2 : decide ((i : Int) < 30) = true := decide_eq_true k2
        obtain ⟨b, off, rfl, _⟩ := H5.out (by omega)
        obtain ⟨⟨xa, xv, xb, xsh⟩, hx⟩ : ∃ x, l[i]? = some x := ⟨_, List.getElem?_eq_getElem hl⟩
        have hsm := HSM.out _ (List.mem_of_getElem? hx)
        dsimp only at hsm
        obtain ⟨_, hxr⟩ := HR.out.2 _ (List.mem_of_getElem? hx)
        have HXR := Lib.hid hxr
        obtain ⟨ax, cx, hxe, _⟩ := hxr
        dsimp only at hxe
        subst hxe
        dsimp only at HXR
        have HX := Lib.hid hx
        have HL := Lib.hid hl
        have HGS := Lib.hid (fun (v : Value) => (show g2 (xs ++ [⟨xa, v, datW ⟨xa, .slice ax xb.length cx, xb, xsh⟩⟩]) = grpW l (i + 1) by rw [grpW_succ hx, ← HX0.out]; simp [g2]))
        have HGG := Lib.hid (fun (v : Value) (d : List UInt8) => (show g2 (xs ++ [⟨xa, v, d⟩]) = g2 xs ++ [(xa, d)] by simp [g2]))
        have HP := Lib.hid (pad_copy xb)
        have HPL := Lib.hid (pad_length xb)
        have hgl : (g2 xs).length ≤ 30 := by rw [g2_len]; exact hxl30
        obtain ⟨ao1, c1, rfl, _⟩ := hS.tbShape (k := 0) rfl
        obtain ⟨ao2, c2, he2, _⟩ := hS.tbShape (k := 2) rfl
        subst he2
        clear hx hl
        have hdat : datW ⟨xa, .slice ax xb.length cx, xb, xsh⟩ = if xsh then xb else pad xb := rfl
        rw [hdat] at HGS
        clear hdat
        cases xsh
        · rw [if_neg (by decide)] at HGS
          go_wp2_with (first
            | (refine toList (by rfl) ?_; refine wp_of_reads (rLdRd (HR.out.1.old hS) (wdv_len l) _ _ (by rfl) _ (by rfl) (agOf (by rfl)) i 1 (by omega) HX.out (by rfl) (by omega)) ?_)
            | (refine toList (by rfl) ?_; refine wp_of_reads (rLdRd (HR.out.1.old hS) (wdv_len l) _ _ (by rfl) _ (by rfl) (agOf (by rfl)) i 2 (by omega) HX.out (by rfl) (by omega)) ?_)
            | (refine toList (by rfl) ?_; refine wp_of_reads (rLdRd (HR.out.1.old hS) (wdv_len l) _ _ (by rfl) _ (by rfl) (agOf (by rfl)) i 0 (by omega) HX.out (by rfl) (by omega)) ?_)
            | (refine toList (by rfl) ?_; refine mk hS _ _ _ (by rfl) 128 128 _ _ (by rfl) (by rfl) (elOf (by rfl)) (by omega) (by omega) (by omega) ?_; intro pb w1 hS1; clear hS; have hS := hS1; clear hS1; rw [made_u8] at hS)
            | (refine toList (by rfl) ?_; refine cp hS _ _ _ _ (by rfl) _ _ _ _ _ (by rfl) (by rfl) (elOf (by rfl)) (by omega) Has.z (by exact HXR.out.old hS) (bv_one _) (by simp [bv, zeros]) ?_; intro w1 hS1; clear hS; have hS := hS1; clear hS1; rw [HP.out] at hS; dsimp only [List.set_cons_zero] at hS; replace hS := sl_of_cs hS (pad_length xb); rw [HPL.out] at hS)
            | (go_at_call 32; refine (bytes_any hS xb _ (HXR.out.old hS) (by omega)).mono ?_; rintro e w1 ⟨v', rfl, hS1⟩; clear hS; have hS := hS1; clear hS1; replace hS := hS.pull1.drop; obtain ⟨ad, cd, rfl, _⟩ := hS.slShape (k := 0) rfl)
            | (refine toList (by rfl) ?_; refine bsF hS _ _ _ (by rfl) (elOf (by rfl)) [.agg (gw (⟨xa, (.slice (some ⟨pb, 0, none⟩) 128 128), pad xb⟩ : GW)).toArray] (by rfl) (by rfl) (by decide) (by decide) (by intro v hv; rw [List.mem_singleton.1 hv]; rfl) ?_; intro b1 w1 hS1; clear hS; have hS := hS1; clear hS1; rw [agg1] at hS)
            | (refine toList (by rfl) ?_; refine apTbS (f := gw) hS _ _ _ _ (by rfl) _ _ (by rfl) (by rfl) (elOf (by rfl)) (by rfl) (by decide) (inOf (by rfl)) (by first | exact Has.z | exact Has.s Has.z | exact Has.s (Has.s Has.z) | exact Has.s (Has.s (Has.s Has.z)) | exact Has.s (Has.s (Has.s (Has.s Has.z))) | exact Has.s (Has.s (Has.s (Has.s (Has.s Has.z))))) [(⟨xa, (.slice (some ⟨pb, 0, none⟩) 128 128), pad xb⟩ : GW)] (by exact gw_len _) (by exact hS.src1 (f := gw) Has.z rfl) (by exact gw_ones _ (fun x hx => by rw [List.mem_singleton.1 hx]; exact ⟨_, _, _, rfl⟩)) (by simp; omega) (by simp; omega) ?_; intro ao5 c5 w1 hcap5 hS1; clear hS; have hS := hS1; clear hS1; dsimp only [List.set_cons_zero, List.set_cons_succ] at hS))
          replace hS := hS.drop
          refine regStart [9, 10] hS (by kernel_rfl) rfl ?_
          intro w1 hS1
          clear hS; have hS := hS1; clear hS1
          (refine regP 0 hS (fun _ h => h) rfl (by kernel_rfl) (by kernel_rfl) (by kernel_rfl) (fun _ _ _ _ h => h) (by rfl) (by rfl) ?_; apply Exists.intro; apply And.intro; (intro w; go_simp; try with_reducible rfl); (simp only [Act.put, List.setIfInBounds_toArray, List.set_cons_zero, List.set_cons_succ]))
          (refine regP 1 hS (fun _ h => h) rfl (by kernel_rfl) (by kernel_rfl) (by kernel_rfl) (fun _ _ _ _ h => h) (by rfl) (by rfl) ?_; apply Exists.intro; apply And.intro; (intro w; go_simp; try with_reducible rfl); (simp only [Act.put, List.setIfInBounds_toArray, List.set_cons_zero, List.set_cons_succ]))
          (refine regP 2 hS (fun _ h => h) rfl (by kernel_rfl) (by kernel_rfl) (by kernel_rfl) (fun _ _ _ _ h => h) (by rfl) (by rfl) ?_; apply Exists.intro; apply And.intro; (intro w; go_simp; try with_reducible rfl); (simp only [Act.put, List.setIfInBounds_toArray, List.set_cons_zero, List.set_cons_succ]))
          (refine regP 3 hS (fun _ h => h) rfl (by kernel_rfl) (by kernel_rfl) (by kernel_rfl) (fun _ _ _ _ h => h) (by rfl) (by rfl) ?_; apply Exists.intro; apply And.intro; (intro w; go_simp; try with_reducible rfl); (simp only [Act.put, List.setIfInBounds_toArray, List.set_cons_zero, List.set_cons_succ]))
          (refine regP 4 hS (fun _ h => h) rfl (by kernel_rfl) (by kernel_rfl) (by kernel_rfl) (fun _ _ _ _ h => h) (by rfl) (by rfl) ?_; apply Exists.intro; apply And.intro; (intro w; go_simp; try with_reducible rfl); (simp only [Act.put, List.setIfInBounds_toArray, List.set_cons_zero, List.set_cons_succ]))
          (refine regR 5 hS (fun _ h => h) rfl (by kernel_rfl) (by kernel_rfl) (by kernel_rfl) (by kernel_rfl) (by kernel_rfl) (fun _ _ _ _ h => h) (by rfl) (by rfl) ?_; (first
                                | refine ⟨_, yLdRd (fun u h => HR.out.1.old h) (wdv_len l) _ _ (by rfl) _ (by rfl) (agOf (by rfl)) i 0 (by omega) HX.out (by rfl) (by omega), ?_⟩
                                | refine ⟨_, yCv _ _ _ (by rfl) _ (by rfl) strBytes (fun u hu => hu.slRd Has.z), ?_⟩); (simp only [Act.put, List.setIfInBounds_toArray, List.set_cons_zero, List.set_cons_succ]))
          (refine regP 6 hS (fun _ h => h) rfl (by kernel_rfl) (by kernel_rfl) (by kernel_rfl) (fun _ _ _ _ h => h) (by rfl) (by rfl) ?_; apply Exists.intro; apply And.intro; (intro w; go_simp; try with_reducible rfl); (simp only [Act.put, List.setIfInBounds_toArray, List.set_cons_zero, List.set_cons_succ]))
          (refine regR 7 hS (fun _ h => h) rfl (by kernel_rfl) (by kernel_rfl) (by kernel_rfl) (by kernel_rfl) (by kernel_rfl) (fun _ _ _ _ h => h) (by rfl) (by rfl) ?_; (first
                                | refine ⟨_, yLdRd (fun u h => HR.out.1.old h) (wdv_len l) _ _ (by rfl) _ (by rfl) (agOf (by rfl)) i 0 (by omega) HX.out (by rfl) (by omega), ?_⟩
                                | refine ⟨_, yCv _ _ _ (by rfl) _ (by rfl) strBytes (fun u hu => hu.slRd Has.z), ?_⟩); (simp only [Act.put, List.setIfInBounds_toArray, List.set_cons_zero, List.set_cons_succ]))
          (refine regP 8 hS (fun _ h => h) rfl (by kernel_rfl) (by kernel_rfl) (by kernel_rfl) (fun _ _ _ _ h => h) (by rfl) (by rfl) ?_; apply Exists.intro; apply And.intro; (intro w; go_simp; try with_reducible rfl); (simp only [Act.put, List.setIfInBounds_toArray, List.set_cons_zero, List.set_cons_succ]))
          (refine regA 9 rfl (by kernel_rfl) (by rfl) (by rfl) true (by kernel_rfl) (fun K hK => ?_); (first
                                | (refine bsF hS _ _ _ (by rfl) (elOf (by rfl)) [.agg (wvI (xa, pad xb)).toArray] (by rfl) (by rfl) (by decide) (by decide) (by simp [wvI, Value.cells]) ?_; intro b1 w1 hS1; clear hS; have hS := hS1; clear hS1; rw [agg1] at hS)
                                | (refine apTbS (f := wvI) hS _ _ _ _ (by rfl) _ _ (by rfl) (by rfl) (elOf (by rfl)) (by rfl) (by decide) (inOf (by rfl)) (by first | exact Has.z | exact Has.s Has.z | exact Has.s (Has.s Has.z) | exact Has.s (Has.s (Has.s Has.z)) | exact Has.s (Has.s (Has.s (Has.s Has.z))) | exact Has.s (Has.s (Has.s (Has.s (Has.s Has.z))))) [(xa, pad xb)] (by exact wvI_len _) (by exact hS.src1 (f := wvI) Has.z rfl) (by exact wvI_ones _) (by simp; omega) (by simp; omega) ?_; intro ao4 c4 w1 _ hS1; clear hS; have hS := hS1; clear hS1; dsimp only [List.set_cons_zero, List.set_cons_succ] at hS)); refine hK _ _ _ hS (by first | (intro h; cases h; done) | exact fun _ _ h => h | exact fun _ _ h => h.drop | exact fun _ _ h => h.drop.drop | exact fun _ _ h => h.drop.pull1 | exact fun _ _ h => h.take2 | exact fun _ _ h => h.one Has.z | exact fun _ _ h => h.one (Has.s Has.z) | exact fun _ _ h => h.one (Has.s (Has.s Has.z))) ?_; clear hK K; (simp only [Act.put, List.setIfInBounds_toArray, List.set_cons_zero, List.set_cons_succ]))
          (refine regA 10 rfl (by kernel_rfl) (by rfl) (by rfl) true (by kernel_rfl) (fun K hK => ?_); (first
                                | (refine bsF hS _ _ _ (by rfl) (elOf (by rfl)) [.agg (wvI (xa, pad xb)).toArray] (by rfl) (by rfl) (by decide) (by decide) (by simp [wvI, Value.cells]) ?_; intro b1 w1 hS1; clear hS; have hS := hS1; clear hS1; rw [agg1] at hS)
                                | (refine apTbS (f := wvI) hS _ _ _ _ (by rfl) _ _ (by rfl) (by rfl) (elOf (by rfl)) (by rfl) (by decide) (inOf (by rfl)) (by first | exact Has.z | exact Has.s Has.z | exact Has.s (Has.s Has.z) | exact Has.s (Has.s (Has.s Has.z)) | exact Has.s (Has.s (Has.s (Has.s Has.z))) | exact Has.s (Has.s (Has.s (Has.s (Has.s Has.z))))) [(xa, pad xb)] (by exact wvI_len _) (by exact hS.src1 (f := wvI) Has.z rfl) (by exact wvI_ones _) (by simp; omega) (by simp; omega) ?_; intro ao4 c4 w1 _ hS1; clear hS; have hS := hS1; clear hS1; dsimp only [List.set_cons_zero, List.set_cons_succ] at hS)); refine hK _ _ _ hS (by first | (intro h; cases h; done) | exact fun _ _ h => h | exact fun _ _ h => h.drop | exact fun _ _ h => h.drop.drop | exact fun _ _ h => h.drop.pull1 | exact fun _ _ h => h.take2 | exact fun _ _ h => h.one Has.z | exact fun _ _ h => h.one (Has.s Has.z) | exact fun _ _ h => h.one (Has.s (Has.s Has.z))) ?_; clear hK K; (simp only [Act.put, List.setIfInBounds_toArray, List.set_cons_zero, List.set_cons_succ]))
          (refine regP 11 hS (fun _ h => h) rfl (by kernel_rfl) (by kernel_rfl) (by kernel_rfl) (fun _ _ _ _ h => h) (by rfl) (by rfl) ?_; apply Exists.intro; apply And.intro; (intro w; go_simp; try with_reducible rfl); (simp only [Act.put, List.setIfInBounds_toArray, List.set_cons_zero, List.set_cons_succ]))
          refine regDone (by kernel_rfl) ?_
          go_wp2
          refine ⟨⟨i + 1, _, by go_num, HL.out, by omega, HGS.out (.slice (some ⟨pb, 0, none⟩) 128 128), ?_⟩, by simp [intOf]; have := HL.out; omega⟩
          have h3 := (Sat.stSnoc ((sl_len hS.drop HPL.out).re [0, 2])).pull1
          simp only [List.length_append, List.length_singleton] at h3
          rw [List.map_append, HGG.out]
          exact h3
        · rw [if_pos rfl] at HGS
          go_wp2_with (first
            | (refine toList (by rfl) ?_; refine wp_of_reads (rLdRd (HR.out.1.old hS) (wdv_len l) _ _ (by rfl) _ (by rfl) (agOf (by rfl)) i 1 (by omega) HX.out (by rfl) (by omega)) ?_)
            | (refine toList (by rfl) ?_; refine wp_of_reads (rLdRd (HR.out.1.old hS) (wdv_len l) _ _ (by rfl) _ (by rfl) (agOf (by rfl)) i 2 (by omega) HX.out (by rfl) (by omega)) ?_)
            | (refine toList (by rfl) ?_; refine wp_of_reads (rLdRd (HR.out.1.old hS) (wdv_len l) _ _ (by rfl) _ (by rfl) (agOf (by rfl)) i 0 (by omega) HX.out (by rfl) (by omega)) ?_)
            | (refine toList (by rfl) ?_; refine mk hS _ _ _ (by rfl) 128 128 _ _ (by rfl) (by rfl) (elOf (by rfl)) (by omega) (by omega) (by omega) ?_; intro pb w1 hS1; clear hS; have hS := hS1; clear hS1; rw [made_u8] at hS)
            | (refine toList (by rfl) ?_; refine cp hS _ _ _ _ (by rfl) _ _ _ _ _ (by rfl) (by rfl) (elOf (by rfl)) (by omega) Has.z (by exact HXR.out.old hS) (bv_one _) (by simp [bv, zeros]) ?_; intro w1 hS1; clear hS; have hS := hS1; clear hS1; rw [HP.out] at hS; dsimp only [List.set_cons_zero] at hS; replace hS := sl_of_cs hS (pad_length xb); rw [HPL.out] at hS)
            | (go_at_call 32; refine (bytes_any hS xb _ (HXR.out.old hS) (by omega)).mono ?_; rintro e w1 ⟨v', rfl, hS1⟩; clear hS; have hS := hS1; clear hS1; replace hS := hS.pull1.drop; obtain ⟨ad, cd, rfl, _⟩ := hS.slShape (k := 0) rfl)
            | (refine toList (by rfl) ?_; refine bsF hS _ _ _ (by rfl) (elOf (by rfl)) [.agg (gw (⟨xa, (.slice ad xb.length cd), xb⟩ : GW)).toArray] (by rfl) (by rfl) (by decide) (by decide) (by intro v hv; rw [List.mem_singleton.1 hv]; rfl) ?_; intro b1 w1 hS1; clear hS; have hS := hS1; clear hS1; rw [agg1] at hS)
            | (refine toList (by rfl) ?_; refine apTbS (f := gw) hS _ _ _ _ (by rfl) _ _ (by rfl) (by rfl) (elOf (by rfl)) (by rfl) (by decide) (inOf (by rfl)) (by first | exact Has.z | exact Has.s Has.z | exact Has.s (Has.s Has.z) | exact Has.s (Has.s (Has.s Has.z)) | exact Has.s (Has.s (Has.s (Has.s Has.z))) | exact Has.s (Has.s (Has.s (Has.s (Has.s Has.z))))) [(⟨xa, (.slice ad xb.length cd), xb⟩ : GW)] (by exact gw_len _) (by exact hS.src1 (f := gw) Has.z rfl) (by exact gw_ones _ (fun x hx => by rw [List.mem_singleton.1 hx]; exact ⟨_, _, _, rfl⟩)) (by simp; omega) (by simp; omega) ?_; intro ao5 c5 w1 hcap5 hS1; clear hS; have hS := hS1; clear hS1; dsimp only [List.set_cons_zero, List.set_cons_succ] at hS))
          replace hS := hS.drop
          refine regStart [9, 10] hS (by kernel_rfl) rfl ?_
          intro w1 hS1
          clear hS; have hS := hS1; clear hS1
          (refine regP 0 hS (fun _ h => h) rfl (by kernel_rfl) (by kernel_rfl) (by kernel_rfl) (fun _ _ _ _ h => h) (by rfl) (by rfl) ?_; apply Exists.intro; apply And.intro; (intro w; go_simp; try with_reducible rfl); (simp only [Act.put, List.setIfInBounds_toArray, List.set_cons_zero, List.set_cons_succ]))
          (refine regP 1 hS (fun _ h => h) rfl (by kernel_rfl) (by kernel_rfl) (by kernel_rfl) (fun _ _ _ _ h => h) (by rfl) (by rfl) ?_; apply Exists.intro; apply And.intro; (intro w; go_simp; try with_reducible rfl); (simp only [Act.put, List.setIfInBounds_toArray, List.set_cons_zero, List.set_cons_succ]))
          (refine regP 2 hS (fun _ h => h) rfl (by kernel_rfl) (by kernel_rfl) (by kernel_rfl) (fun _ _ _ _ h => h) (by rfl) (by rfl) ?_; apply Exists.intro; apply And.intro; (intro w; go_simp; try with_reducible rfl); (simp only [Act.put, List.setIfInBounds_toArray, List.set_cons_zero, List.set_cons_succ]))
          (refine regP 3 hS (fun _ h => h) rfl (by kernel_rfl) (by kernel_rfl) (by kernel_rfl) (fun _ _ _ _ h => h) (by rfl) (by rfl) ?_; apply Exists.intro; apply And.intro; (intro w; go_simp; try with_reducible rfl); (simp only [Act.put, List.setIfInBounds_toArray, List.set_cons_zero, List.set_cons_succ]))
          (refine regP 4 hS (fun _ h => h) rfl (by kernel_rfl) (by kernel_rfl) (by kernel_rfl) (fun _ _ _ _ h => h) (by rfl) (by rfl) ?_; apply Exists.intro; apply And.intro; (intro w; go_simp; try with_reducible rfl); (simp only [Act.put, List.setIfInBounds_toArray, List.set_cons_zero, List.set_cons_succ]))
          (refine regR 5 hS (fun _ h => h) rfl (by kernel_rfl) (by kernel_rfl) (by kernel_rfl) (by kernel_rfl) (by kernel_rfl) (fun _ _ _ _ h => h) (by rfl) (by rfl) ?_; (first
                                | refine ⟨_, yLdRd (fun u h => HR.out.1.old h) (wdv_len l) _ _ (by rfl) _ (by rfl) (agOf (by rfl)) i 0 (by omega) HX.out (by rfl) (by omega), ?_⟩
                                | refine ⟨_, yCv _ _ _ (by rfl) _ (by rfl) strBytes (fun u hu => hu.slRd Has.z), ?_⟩); (simp only [Act.put, List.setIfInBounds_toArray, List.set_cons_zero, List.set_cons_succ]))
          (refine regP 6 hS (fun _ h => h) rfl (by kernel_rfl) (by kernel_rfl) (by kernel_rfl) (fun _ _ _ _ h => h) (by rfl) (by rfl) ?_; apply Exists.intro; apply And.intro; (intro w; go_simp; try with_reducible rfl); (simp only [Act.put, List.setIfInBounds_toArray, List.set_cons_zero, List.set_cons_succ]))
          (refine regR 7 hS (fun _ h => h) rfl (by kernel_rfl) (by kernel_rfl) (by kernel_rfl) (by kernel_rfl) (by kernel_rfl) (fun _ _ _ _ h => h) (by rfl) (by rfl) ?_; (first
                                | refine ⟨_, yLdRd (fun u h => HR.out.1.old h) (wdv_len l) _ _ (by rfl) _ (by rfl) (agOf (by rfl)) i 0 (by omega) HX.out (by rfl) (by omega), ?_⟩
                                | refine ⟨_, yCv _ _ _ (by rfl) _ (by rfl) strBytes (fun u hu => hu.slRd Has.z), ?_⟩); (simp only [Act.put, List.setIfInBounds_toArray, List.set_cons_zero, List.set_cons_succ]))
          (refine regP 8 hS (fun _ h => h) rfl (by kernel_rfl) (by kernel_rfl) (by kernel_rfl) (fun _ _ _ _ h => h) (by rfl) (by rfl) ?_; apply Exists.intro; apply And.intro; (intro w; go_simp; try with_reducible rfl); (simp only [Act.put, List.setIfInBounds_toArray, List.set_cons_zero, List.set_cons_succ]))
          (refine regA 9 rfl (by kernel_rfl) (by rfl) (by rfl) true (by kernel_rfl) (fun K hK => ?_); (first
                                | (refine bsF hS _ _ _ (by rfl) (elOf (by rfl)) [.agg (wvI (xa, xb)).toArray] (by rfl) (by rfl) (by decide) (by decide) (by simp [wvI, Value.cells]) ?_; intro b1 w1 hS1; clear hS; have hS := hS1; clear hS1; rw [agg1] at hS)
                                | (refine apTbS (f := wvI) hS _ _ _ _ (by rfl) _ _ (by rfl) (by rfl) (elOf (by rfl)) (by rfl) (by decide) (inOf (by rfl)) (by first | exact Has.z | exact Has.s Has.z | exact Has.s (Has.s Has.z) | exact Has.s (Has.s (Has.s Has.z)) | exact Has.s (Has.s (Has.s (Has.s Has.z))) | exact Has.s (Has.s (Has.s (Has.s (Has.s Has.z))))) [(xa, xb)] (by exact wvI_len _) (by exact hS.src1 (f := wvI) Has.z rfl) (by exact wvI_ones _) (by simp; omega) (by simp; omega) ?_; intro ao4 c4 w1 _ hS1; clear hS; have hS := hS1; clear hS1; dsimp only [List.set_cons_zero, List.set_cons_succ] at hS)); refine hK _ _ _ hS (by first | (intro h; cases h; done) | exact fun _ _ h => h | exact fun _ _ h => h.drop | exact fun _ _ h => h.drop.drop | exact fun _ _ h => h.drop.pull1 | exact fun _ _ h => h.take2 | exact fun _ _ h => h.one Has.z | exact fun _ _ h => h.one (Has.s Has.z) | exact fun _ _ h => h.one (Has.s (Has.s Has.z))) ?_; clear hK K; (simp only [Act.put, List.setIfInBounds_toArray, List.set_cons_zero, List.set_cons_succ]))
          (refine regA 10 rfl (by kernel_rfl) (by rfl) (by rfl) true (by kernel_rfl) (fun K hK => ?_); (first
                                | (refine bsF hS _ _ _ (by rfl) (elOf (by rfl)) [.agg (wvI (xa, xb)).toArray] (by rfl) (by rfl) (by decide) (by decide) (by simp [wvI, Value.cells]) ?_; intro b1 w1 hS1; clear hS; have hS := hS1; clear hS1; rw [agg1] at hS)
                                | (refine apTbS (f := wvI) hS _ _ _ _ (by rfl) _ _ (by rfl) (by rfl) (elOf (by rfl)) (by rfl) (by decide) (inOf (by rfl)) (by first | exact Has.z | exact Has.s Has.z | exact Has.s (Has.s Has.z) | exact Has.s (Has.s (Has.s Has.z)) | exact Has.s (Has.s (Has.s (Has.s Has.z))) | exact Has.s (Has.s (Has.s (Has.s (Has.s Has.z))))) [(xa, xb)] (by exact wvI_len _) (by exact hS.src1 (f := wvI) Has.z rfl) (by exact wvI_ones _) (by simp; omega) (by simp; omega) ?_; intro ao4 c4 w1 _ hS1; clear hS; have hS := hS1; clear hS1; dsimp only [List.set_cons_zero, List.set_cons_succ] at hS)); refine hK _ _ _ hS (by first | (intro h; cases h; done) | exact fun _ _ h => h | exact fun _ _ h => h.drop | exact fun _ _ h => h.drop.drop | exact fun _ _ h => h.drop.pull1 | exact fun _ _ h => h.take2 | exact fun _ _ h => h.one Has.z | exact fun _ _ h => h.one (Has.s Has.z) | exact fun _ _ h => h.one (Has.s (Has.s Has.z))) ?_; clear hK K; (simp only [Act.put, List.setIfInBounds_toArray, List.set_cons_zero, List.set_cons_succ]))
          (refine regP 11 hS (fun _ h => h) rfl (by kernel_rfl) (by kernel_rfl) (by kernel_rfl) (fun _ _ _ _ h => h) (by rfl) (by rfl) ?_; apply Exists.intro; apply And.intro; (intro w; go_simp; try with_reducible rfl); (simp only [Act.put, List.setIfInBounds_toArray, List.set_cons_zero, List.set_cons_succ]))
          refine regDone (by kernel_rfl) ?_
          go_wp2
          refine ⟨⟨i + 1, _, by go_num, HL.out, by omega, HGS.out (.slice ad xb.length cd), ?_⟩, by simp [intOf]; have := HL.out; omega⟩
          have h3 := (Sat.stSnoc (hS.drop.re [0, 2])).pull1
          simp only [List.length_append, List.length_singleton] at h3
          rw [List.map_append, HGG.out]
          exact h3
      · have k2 : ¬ (i : Int) < 30 := by omega
        have e2 : decide ((i : Int) < 30) = false := decide_eq_false k2
        have HE := Lib.hid (show g2 xs = grpW l (grpN l) by rw [HX0.out]; congr 1; unfold grpN; omega)
        clear hl h30
        go_wp2
        go_ret2
        exact ⟨_, _, rfl, xs, HE.out, hS⟩
    · have k1 : ¬ (i : Int) < (l.length : Int) := by omega
      have e1 : decide ((i : Int) < (l.length : Int)) = false := decide_eq_false k1
      have e3 : decide (i < l.length) = false := decide_eq_false hl
      have HE := Lib.hid (show g2 xs = grpW l (grpN l) by rw [HX0.out]; congr 1; unfold grpN; omega)
      clear hl
      go_wp2
      go_ret2
      exact ⟨_, _, rfl, xs, HE.out, hS⟩
theorem len_strv (d : List UInt8) (w : World) : (Builtin.len_ #[9] 3 #[strv d]).run Try.prog w = .ok (.int .i64 (d.length : Int)) w := by
  first | rfl | kernel_rfl | (simp [Builtin.len_, strv]; done)
/-! ### the document's Check -/
theorem okW_cases2 {n : Int} {a : Int} {d : List UInt8} (h : okW n (a, d) = false) : ((d.length : Int) != 128) = true ∨ (((d.length : Int) != 128) = false ∧ decide (a < 0) = true) ∨ (((d.length : Int) != 128) = false ∧ decide (a < 0) = false ∧ decide (n ≤ a) = true) ∨
    (((d.length : Int) != 128) = false ∧ decide (a < 0) = false ∧ decide (n ≤ a) = false ∧ decide (2 ≤ a) = true ∧ decide (a < 26) = true) := by
  unfold okW at h
  simp only [Bool.and_eq_false_iff, decide_eq_false_iff_not, Bool.not_eq_false', Bool.and_eq_true, decide_eq_true_eq, bne_iff_ne, bne_eq_false_iff_eq] at h ⊢
  omega
set_option maxRecDepth 20000 in
set_option maxHeartbeats 4000000 in
theorem rcheck_any {W w : World} {L : List Asrt} (hS : Sat W w L) (g : G2) (ao : Option Addr) (c : Nat) (hr : ∀ w, Sat W w L → Rd w (.slice ao g.length c) g.length 2 (g.flatMap wvI)) (hb : g.length ≤ 1000000) (n : Int) :
    Calls Try.prog 11 #[.slice ao g.length c, .int .i64 n] w fun e w' => e = .returned (.bool (okG n g)) ∧ Sat W w' L := by
  have HR := Lib.hid hr
  obtain ⟨_, _, he, hc1, hc2, _, h5⟩ := hr w hS
  simp only [Value.slice.injEq, true_and] at he
  obtain ⟨rfl, rfl⟩ := he
  have H5 := Lib.hid h5
  clear hr h5
  by_cases h1 : g.length < 1
  · have i1 : (g.length : Int) < 1 := by omega
    have HO := Lib.hid (show okG n g = false by unfold okG; rw [decide_eq_false (by omega : ¬ 1 ≤ g.length)]; rfl)
    clear h1
    rw [HO.out]
    go_enter Try.func11, Try.ntmps11
    go_wp2
    go_ret
    exact ⟨rfl, hS⟩
  by_cases h2 : 20 < g.length
  · have i1 : ¬ (g.length : Int) < 1 := by omega
    have i2 : (20 : Int) < (g.length : Int) := by omega
    have HO := Lib.hid (show okG n g = false by unfold okG; rw [decide_eq_false (by omega : ¬ g.length ≤ 20)]; simp)
    clear h1 h2
    rw [HO.out]
    go_enter Try.func11, Try.ntmps11
    go_wp2
    go_ret
    exact ⟨rfl, hS⟩
  have i1 : ¬ (g.length : Int) < 1 := by omega
  have i2 : ¬ (20 : Int) < (g.length : Int) := by omega
  have HO := Lib.hid (okG_all (n := n) (g := g) (by omega) (by omega))
  have H12 := Lib.hid (show 1 ≤ g.length ∧ g.length ≤ 20 by omega)
  clear h1 h2
  go_enter Try.func11, Try.ntmps11
  go_wp2
  have H0 := Lib.hid hS
  go_loopw [5] (fun v wz => ∃ k : Nat, v = .int .i64 k ∧ k ≤ g.length ∧ okPre n g k = true ∧ Sat W wz L) (fun v _ => g.length - (intOf v).toNat)
  case atStart => exact ⟨0, rfl, by omega, rfl, H0.out⟩
  case round =>
    clear hS H0
    obtain ⟨k, rfl, hk, hp, hS⟩ := hrel
    by_cases hl : k < g.length
    · have k1 : (k : Int) < (g.length : Int) := by omega
      obtain ⟨b, off, rfl, _⟩ := H5.out (by omega)
      obtain ⟨⟨xa, xd⟩, hx⟩ : ∃ x, g[k]? = some x := ⟨_, List.getElem?_eq_getElem hl⟩
      have HX := Lib.hid hx
      have HL := Lib.hid hl
      have HP := Lib.hid hp
      have HST := Lib.hid (okPre_succ n g k)
      have HNO := Lib.hid (okPre_no (n := n) (g := g) (i := k) hl)
      have HAT := Lib.hid (okAt_at (n := n) hx)
      have hlen := len_strv xd
      clear hx hl hp
      cases hw : okW n (xa, xd)
      · have HF := Lib.hid (HNO.out (by rw [HAT.out, hw]; rfl))
        rcases okW_cases2 hw with q1 | ⟨q0, q1⟩ | ⟨q0, q1, q2⟩ | ⟨q0, q1, q2, q3, q4⟩
        all_goals
          clear hw
          go_wp2_with (first
            | (refine toList (by rfl) ?_; refine wp_of_reads (rLdRd (HR.out _ hS) (wvI_len g) _ _ (by rfl) _ (by rfl) (agOf (by rfl)) k 0 (by omega) HX.out (by rfl) (by omega)) ?_)
            | (refine toList (by rfl) ?_; refine wp_of_reads (rLdRd (HR.out _ hS) (wvI_len g) _ _ (by rfl) _ (by rfl) (agOf (by rfl)) k 1 (by omega) HX.out (by rfl) (by omega)) ?_))
          go_ret
          rw [HF.out]
          exact ⟨rfl, hS⟩
      · obtain ⟨q1, q2, q3, q4⟩ := okW_yes hw
        have HOW := Lib.hid hw
        clear hw
        rcases q3 with q3 | ⟨q3, q5⟩
        all_goals
          go_wp2_with (first
            | (refine toList (by rfl) ?_; refine wp_of_reads (rLdRd (HR.out _ hS) (wvI_len g) _ _ (by rfl) _ (by rfl) (agOf (by rfl)) k 0 (by omega) HX.out (by rfl) (by omega)) ?_)
            | (refine toList (by rfl) ?_; refine wp_of_reads (rLdRd (HR.out _ hS) (wvI_len g) _ _ (by rfl) _ (by rfl) (agOf (by rfl)) k 1 (by omega) HX.out (by rfl) (by omega)) ?_))
          have H1 := Lib.hid hS
          go_loopw [7] (fun v wz => ∃ j : Nat, v = .int .i64 j ∧ j ≤ k ∧ twice g j xa = false ∧ Sat W wz L) (fun v _ => k - (intOf v).toNat)
          case atStart => exact ⟨0, rfl, by omega, by simp [twice], H1.out⟩
          case round =>
            clear hS H1
            obtain ⟨j, rfl, hj, ht, hS⟩ := hrel
            by_cases hjl : j < k
            · have j1 : (j : Int) < (k : Int) := by omega
              have j2 : (j : Int) < (g.length : Int) := by omega
              obtain ⟨⟨ya, yd⟩, hy⟩ : ∃ x, g[j]? = some x := ⟨_, List.getElem?_eq_getElem (by omega)⟩
              have HY := Lib.hid hy
              have hts := twice_succ hy xa
              rw [ht, Bool.false_or] at hts
              have HTS := Lib.hid hts
              have HJL := Lib.hid hjl
              clear hy ht hts hjl
              cases hq : (ya == xa)
              · have HQ := Lib.hid hq
                go_wp2_with (first
                  | (refine toList (by rfl) ?_; refine wp_of_reads (rLdRd (HR.out _ hS) (wvI_len g) _ _ (by rfl) _ (by rfl) (agOf (by rfl)) j 0 (by omega) HY.out (by rfl) (by omega)) ?_))
                exact ⟨⟨j + 1, by go_num, HJL.out, by rw [HTS.out]; exact HQ.out, hS⟩, by simp [intOf]; have := HJL.out; omega⟩
              · have HF := Lib.hid (HNO.out (by
                  rw [HAT.out, HOW.out, Bool.true_and]
                  have h1 : twice g (j + 1) xa = true := by rw [HTS.out]; exact hq
                  have h2 : twice g k xa = true := by
                    unfold twice at h1 ⊢
                    obtain ⟨z, hz, hz2⟩ := List.any_eq_true.1 h1
                    exact List.any_eq_true.2 ⟨z, (List.take_subset_take_left g (show j + 1 ≤ k from HJL.out)) hz, hz2⟩
                  show (!twice g k xa) = false
                  rw [h2]; rfl))
                go_wp2_with (first
                  | (refine toList (by rfl) ?_; refine wp_of_reads (rLdRd (HR.out _ hS) (wvI_len g) _ _ (by rfl) _ (by rfl) (agOf (by rfl)) j 0 (by omega) HY.out (by rfl) (by omega)) ?_))
                go_ret
                rw [HF.out]
                exact ⟨rfl, hS⟩
            · have j1 : ¬ (j : Int) < (k : Int) := by omega
              obtain rfl : j = k := by omega
              have HQ := Lib.hid (show okPre n g (j + 1) = true by rw [HST.out, HP.out, HAT.out, HOW.out]; show (true && (true && !twice g j xa)) = true; rw [ht]; rfl)
              clear hjl ht
              go_wp2
              exact ⟨⟨j + 1, by go_num, HL.out, HQ.out, hS⟩, by simp [intOf]; have := HL.out; omega⟩
    · have k1 : ¬ (k : Int) < (g.length : Int) := by omega
      have HF := Lib.hid (show okG n g = true by rw [HO.out, show g.length = k by omega]; exact hp)
      clear hl hp
      go_wp2
      go_ret
      rw [HF.out]
      exact ⟨rfl, hS⟩
end Go.Proofs.Ytefbkpggmmhgcaa
