/-
  For all operations and numbers, DiskImages answers true: no condition.
-/
import Derived.Test.YtnppgkbincffeaaDiskOps
namespace Go.Proofs.Ytnppgkbincffeaa
open Go.RowKit Go.Sep Go.ChangeShapes Go.WideShapes Go.ChangeAt
set_option linter.unusedSimpArgs false
set_option linter.unusedVariables false
attribute [local irreducible] Go.Oper.wp Go.wpList Go.Calls Go.Code.wp Go.Sep.Reg

/-- A write, the row that holds its bytes. -/
abbrev Wq := Nat × Nat × List UInt8
def wat (x : Wq) : List Value := [.int .i64 x.1]
def wsl (x : Wq) : List Value := [.slice (some ⟨x.2.1, 0, none⟩) 128 128]
def wrow (x : Wq) : Asrt := Cs x.2.1 5 (bv x.2.2)
def wof (x : Wq) : Nat × List UInt8 := (x.1, x.2.2)
theorem wat_len (l : List Wq) : ∀ x ∈ l, (wat x).length = 1 := fun _ _ => rfl
theorem wsl_len (l : List Wq) : ∀ x ∈ l, (wsl x).length = 1 := fun _ _ => rfl
theorem fm_one {α : Type} (f : α → List Value) (x : α) {u : Value} (h : f x = [u]) (hu : u.oneCell' = true) : ∀ v ∈ [x].flatMap f, v.oneCell' = true := by
  rw [fm1, h]; simpa using hu
/-- What the first loop keeps. -/
def ImInv (W : World) (p q : Nat) (len : Nat) (vi va vl : Value) (wz : World) : Prop :=
  ∃ xs : List Wq, xs.length ≤ 40 ∧ xs.length ≤ len ∧ vi = .int .i64 (xs.length : Nat) ∧ (∀ x ∈ xs, x.1 < 160 ∧ x.2.2.length = 128) ∧
    Sat W wz (IsDisk p (DiskS.after (xs.map wof)) :: Tb 3 1 wat va xs :: Tb 29 1 wsl vl xs :: St (xs.map wrow) :: IsDisk q (DiskS.new 160) :: [])

set_option maxRecDepth 20000 in
set_option maxHeartbeats 8000000 in
theorem Images.walk (l : List OpD) (ao : Option Addr) (cap : Nat) (k : Int) (W : World) (hl : Rd W (.slice ao l.length cap) l.length 4 (l.flatMap opv)) (hOp : ∀ x ∈ l, x.Ok W) (hk1 : -9223372036854775808 ≤ k) (hk2 : k ≤ 9223372036854775807) :
    Calls Try.prog 6 #[.slice ao l.length cap, .int .i64 k] W fun e w' => e = .returned (.bool true) ∧ Sat W w' [] := by
  have hS := Sat.start W
  have HL := Lib.hid hl
  have HOP := Lib.hid hOp
  obtain ⟨ao', cap', h1, hcap, hcap2, _⟩ := id hl
  simp only [Value.slice.injEq, true_and] at h1
  obtain ⟨rfl, rfl⟩ := h1
  clear hl hOp
  go_enter Try.func6, Try.ntmps6
  go_wp2_with (first
    | (have hG : Sat W _ [] := hS; clear hG; (go_at_call 8; refine (new_ok hS 160 (by decide) (by decide)).mono ?_; rintro e w1 ⟨p, rfl, hS1⟩; clear hS; have hS := hS1; clear hS1))
    | (go_at_call 8; refine (new_ok hS 160 (by decide) (by decide)).mono ?_; rintro e w1 ⟨q, rfl, hS1⟩; clear hS; have hS := hS1; clear hS1))
  have hI : ImInv W p q l.length (.int .i64 ((0 : Nat) : Int)) (.slice none 0 0) (.slice none 0 0) _ :=
    ⟨[], by simp, by simp, rfl, by simp, (((hS.stNil.tbNil (E := 29) (sz := 1) (f := wsl)).tbNil (E := 3) (sz := 1) (f := wat)).re [4, 0, 1, 2, 3])⟩
  have HI := Lib.hid hI
  clear hI
  go_loopw [11, 9, 10] (fun vi va vl wz => ImInv W p q l.length vi va vl wz) (fun vi _ _ _ => 40 - (intOf vi).toNat)
  case atStart => exact HI.out
  case round =>
    clear HI hS
    obtain ⟨xs, hx1, hx2, rfl, hxs, hS⟩ := hrel
    have HXS := Lib.hid hxs
    clear hxs
    obtain ⟨aoa, ca, rfl, hca⟩ := hS.tbShape (k := 1) rfl
    obtain ⟨aol, cll, rfl, hcl⟩ := hS.tbShape (k := 2) rfl
    by_cases hlt : xs.length < l.length ∧ xs.length < 40
    · obtain ⟨hlt1, hlt2⟩ := hlt
      obtain ⟨⟨kd, n, vb, lb, wg⟩, hx⟩ : ∃ x, l[xs.length]? = some x := ⟨_, List.getElem?_eq_getElem (by omega)⟩
      obtain ⟨_, ⟨hn1, hn2⟩, hb⟩ := HOP.out _ (List.mem_of_getElem? hx)
      simp only at hn1 hn2 hb
      obtain ⟨aob, capb, rfl, hcb1, hcb2, _⟩ := id hb
      obtain ⟨_, _, he, _, _, _, h5⟩ := HL.out
      simp only [Value.slice.injEq, true_and] at he
      obtain ⟨rfl, rfl⟩ := he
      obtain ⟨b, off, rfl, _⟩ := h5 (by omega)
      clear h5
      have hcB := HL.out.elem (opv_len l) (j := 2) hx (v := .slice aob lb.length capb) rfl (by omega)
      have hcN := HL.out.elem (opv_len l) (j := 1) hx (v := .int .i64 n) rfl (by omega)
      obtain ⟨pl, hpl⟩ : ∃ i : Nat, place n 160 = i := ⟨(place n 160).toNat, by have := @place_lt n 160 (by decide); omega⟩
      have hpl2 : pl < 160 := by have := @place_lt n 160 (by decide); omega
      have HPL := Lib.hid hpl
      have HX := Lib.hid hx
      have HCB := Lib.hid hcB
      have HCN := Lib.hid hcN
      have HB := Lib.hid hb
      have HP := Lib.hid (pad_copy lb)
      have HF := Lib.hid (DiskS.after_facts (xs.map wof))
      have HLN := Lib.hid (DiskS.after_len (xs.map wof))
      clear hx hcB hcN hb hpl
      have i1 : (xs.length : Int) < (l.length : Int) := by omega
      have i2 : (xs.length : Int) < 40 := by omega
      by_cases h300 : 300 < lb.length
      · have i3 : (300 : Int) < (lb.length : Int) := by omega
        go_wp2_with (first
          | (refine toList (by rfl) ?_; refine ldOld hS _ _ (by rfl) _ _ (by rfl) (agOf (by rfl)) (by exact HCB.out) ?_)
          | (go_at_call 10; refine (awake_any hS).mono ?_; rintro e w1 ⟨rfl, hS1⟩; clear hS; have hS := hS1; clear hS1))
        go_ret
        exact ⟨rfl, hS.drop.drop.drop.drop.drop⟩
      · have i3 : (lb.length : Int) ≤ 300 := by omega
        go_wp2_with (first
          | (refine toList (by rfl) ?_; refine ldOld hS _ _ (by rfl) _ _ (by rfl) (agOf (by rfl)) (by first | exact HCB.out | exact HCN.out) ?_)
          | (refine toList (by rfl) ?_; refine mk hS _ _ _ (by rfl) 128 128 _ _ (by rfl) (by rfl) (elOf (by rfl)) (by omega) (by omega) (by omega) ?_; intro px w1 hS1; clear hS; have hS := hS1; clear hS1; rw [made_u8] at hS)
          | (refine toList (by rfl) ?_; refine cp hS _ _ _ _ (by rfl) _ _ _ _ _ (by rfl) (by rfl) (elOf (by rfl)) (by omega) Has.z (by exact HB.out.old hS) (bv_one _) (by simp [bv, zeros]) ?_; intro w1 hS1; clear hS; have hS := hS1; clear hS1; rw [HP.out] at hS; dsimp only [List.set_cons_zero] at hS)
          | (go_at_call 11; refine (place_any _ n 160 (by decide) (by decide) hn1 hn2).mono ?_; rintro e w1 ⟨rfl, rfl⟩; rw [HPL.out])
          | (go_at_call 17; refine (write_ok hS.pull1 pl _ (pad lb) (fun w h => h.csRd0 (n := 128) Has.z (by decide) (by simp [bv_length, pad_length])) HF.out.2.2.2.1 (by rw [HLN.out]; exact hpl2) (by rw [HF.out.2.2.1]; decide) (by rw [HF.out.2.2.1]; decide) (by rw [HF.out.2.2.1]; decide) (by rw [HF.out.2.1]; simp; omega) (by rw [HLN.out]; decide)).mono ?_; rintro e w1 ⟨rfl, hS1⟩; clear hS; have hS := hS1; clear hS1)
          | (refine toList (by rfl) ?_; refine bsF hS _ _ _ (by rfl) (elOf (by rfl)) [.int .i64 (pl : Int)] (by rfl) (by rfl) (by decide) (by decide) (by simp [Value.cells]) ?_; intro b1 w1 hS1; clear hS; have hS := hS1; clear hS1; rw [sca1 rfl] at hS)
          | (refine toList (by rfl) ?_; refine bsF hS _ _ _ (by rfl) (elOf (by rfl)) [.slice (some ⟨px, 0, none⟩) 128 128] (by rfl) (by rfl) (by decide) (by decide) (by simp [Value.cells]) ?_; intro b2 w1 hS1; clear hS; have hS := hS1; clear hS1; rw [sca1 rfl] at hS)
          | (refine toList (by rfl) ?_; refine apTbS (f := wat) hS _ _ _ _ (by rfl) _ _ (by rfl) (by rfl) (elOf (by rfl)) (by rfl) (by decide) (inOf (by rfl)) (by first | exact Has.z | exact Has.s Has.z | exact Has.s (Has.s Has.z) | exact Has.s (Has.s (Has.s Has.z)) | exact Has.s (Has.s (Has.s (Has.s Has.z))) | exact Has.s (Has.s (Has.s (Has.s (Has.s Has.z))))) [(pl, px, pad lb)] (wat_len _) (by exact hS.src1 (f := wat) Has.z rfl) (fm_one wat _ rfl rfl) (by simp; omega) (by simp; omega) ?_; intro ao5 c5 w1 _ hS1; clear hS; have hS := hS1; clear hS1; dsimp only [List.set_cons_zero, List.set_cons_succ] at hS)
          | (refine toList (by rfl) ?_; refine apTbS (f := wsl) hS _ _ _ _ (by rfl) _ _ (by rfl) (by rfl) (elOf (by rfl)) (by rfl) (by decide) (inOf (by rfl)) (by first | exact Has.z | exact Has.s Has.z | exact Has.s (Has.s Has.z) | exact Has.s (Has.s (Has.s Has.z)) | exact Has.s (Has.s (Has.s (Has.s Has.z))) | exact Has.s (Has.s (Has.s (Has.s (Has.s Has.z))))) [(pl, px, pad lb)] (wsl_len _) (by exact hS.src1 (f := wsl) Has.z rfl) (fm_one wsl _ rfl rfl) (by simp; omega) (by simp; omega) ?_; intro ao6 c6 w1 _ hS1; clear hS; have hS := hS1; clear hS1; dsimp only [List.set_cons_zero, List.set_cons_succ] at hS))
        have e1 : (xs ++ [(pl, px, pad lb)]).length = xs.length + 1 := by simp
        rw [e1] at hS
        have h := (hS.drop.drop.re [1, 4, 0, 2, 3, 5]).stSnoc.re [1, 2, 3, 0, 4]
        refine ⟨⟨xs ++ [(pl, px, pad lb)], by simp; omega, by simp; omega, by simp, fun x hx => ?_, ?_⟩, by simp [intOf]; omega⟩
        · rcases List.mem_append.1 hx with hx | hx
          · exact HXS.out x hx
          · rw [List.mem_singleton.1 hx]; exact ⟨hpl2, pad_length lb⟩
        · rw [List.map_append, List.map_append]
          simp only [List.map_cons, List.map_nil]
          rw [DiskS.after_snoc]
          exact h
    · obtain ⟨c, hc⟩ : ∃ i : Nat, place k ((xs.length : Int) + 1) = i := ⟨(place k ((xs.length : Int) + 1)).toNat, by have := @place_lt k ((xs.length : Int) + 1) (by omega); omega⟩
      have hc2 : c ≤ xs.length := by have := @place_lt k ((xs.length : Int) + 1) (by omega); omega
      have HCK := Lib.hid hc
      have HF := Lib.hid (DiskS.after_facts (xs.map wof))
      have HLN := Lib.hid (DiskS.after_len (xs.map wof))
      have hOK : (DiskS.after (xs.map wof)).Ok := DiskS.after_ok fun x hx => by obtain ⟨y, hy, rfl⟩ := List.mem_map.1 hx; exact (HXS.out y hy).1
      have HOK := Lib.hid hOK
      clear hc hOK
      have hwn : ((DiskS.after (xs.map wof)).writes.length : Int) = (xs.length : Int) := by rw [HF.out.2.1]; simp
      have HWN := Lib.hid hwn
      clear hwn
      have hee : (decide ((xs.length : Int) < (l.length : Int)) = false ∧ decide (xs.length < l.length) = false) ∨ decide ((xs.length : Int) < (l.length : Int)) = true ∧ decide ((xs.length : Int) < 40) = false ∧ xs.length < l.length := by
        by_cases h : xs.length < l.length
        · exact .inr ⟨by simp; omega, by simp; omega, h⟩
        · exact .inl ⟨by simp; omega, by simp; omega⟩
      rcases hee with ⟨e1, e2⟩ | ⟨e1, e2, e3⟩
      all_goals
        go_wp2_with (first
          | (go_at_call 11; refine (place_any _ k ((xs.length : Int) + 1) (by omega) (by omega) hk1 hk2).mono ?_; rintro e w1 ⟨rfl, rfl⟩; rw [HCK.out]))
        have h0 : Sat W _ (IsDisk q (DiskS.after ((xs.take 0).map wof)) :: IsDisk p (DiskS.after (xs.map wof)) :: Tb 3 1 wat (.slice aoa xs.length ca) xs :: Tb 29 1 wsl (.slice aol xs.length cll) xs :: St (xs.map wrow) :: []) := hS.re [4, 0, 1, 2, 3]
        have H0 := Lib.hid h0
        clear h0
        go_loopw [15] (fun vi wz => ∃ i : Nat, i ≤ c ∧ vi = .int .i64 i ∧ Sat W wz (IsDisk q (DiskS.after ((xs.take i).map wof)) :: IsDisk p (DiskS.after (xs.map wof)) :: Tb 3 1 wat (.slice aoa xs.length ca) xs :: Tb 29 1 wsl (.slice aol xs.length cll) xs :: St (xs.map wrow) :: [])) (fun vi _ => c - (intOf vi).toNat)
        case atStart => exact ⟨0, by omega, rfl, H0.out⟩
        case round =>
          clear H0 hS
          obtain ⟨i, hi, rfl, hS⟩ := hrel
          by_cases hlt3 : i < c
          · have j1 : (i : Int) < (c : Int) := by omega
            have j2 : (i : Int) < (xs.length : Int) := by omega
            obtain ⟨ba, oa, ca', hea, _⟩ := hS.tbAddr (k := 2) rfl (by omega)
            obtain ⟨bl, ol, cll', hel, _⟩ := hS.tbAddr (k := 3) rfl (by omega)
            simp only [Value.slice.injEq, true_and] at hea hel
            obtain ⟨rfl, rfl⟩ := hea
            obtain ⟨rfl, rfl⟩ := hel
            obtain ⟨⟨y1, y2, y3⟩, hy⟩ : ∃ x, xs[i]? = some x := ⟨_, List.getElem?_eq_getElem (by omega)⟩
            have hy3 := HXS.out _ (List.mem_of_getElem? hy)
            have hrow : Has (xs.map wrow) i (wrow (y1, y2, y3)) := by unfold Has; rw [List.getElem?_map, hy]; rfl
            have hnext : (xs.take (i + 1)).map wof = (xs.take i).map wof ++ [(y1, y3)] := by rw [List.take_add_one, hy]; simp [wof]
            have HY := Lib.hid hy
            have HY3 := Lib.hid hy3
            have HROW := Lib.hid hrow
            have HNX := Lib.hid hnext
            have HF2 := Lib.hid (DiskS.after_facts ((xs.take i).map wof))
            have HLN2 := Lib.hid (DiskS.after_len ((xs.take i).map wof))
            clear hy hy3 hrow hnext
            go_wp2
            refine regStart [9] hS (by kernel_rfl) rfl ?_
            intro w1 hS1
            clear hS; have hS := hS1; clear hS1
            (refine regP 0 hS (fun _ h => h) rfl (by kernel_rfl) (by kernel_rfl) (by kernel_rfl) (fun _ _ _ _ h => h) (by rfl) (by rfl) ?_; apply Exists.intro; apply And.intro; (intro w; go_simp; try with_reducible rfl); (simp only [Act.put, List.setIfInBounds_toArray, List.set_cons_zero, List.set_cons_succ]))
            (refine regP 1 hS (fun _ h => h) rfl (by kernel_rfl) (by kernel_rfl) (by kernel_rfl) (fun _ _ _ _ h => h) (by rfl) (by rfl) ?_; apply Exists.intro; apply And.intro; (intro w; go_simp; try with_reducible rfl); (simp only [Act.put, List.setIfInBounds_toArray, List.set_cons_zero, List.set_cons_succ]))
            (refine regP 2 hS (fun _ h => h) rfl (by kernel_rfl) (by kernel_rfl) (by kernel_rfl) (fun _ _ _ _ h => h) (by rfl) (by rfl) ?_; apply Exists.intro; apply And.intro; (intro w; go_simp; try with_reducible rfl); (simp only [Act.put, List.setIfInBounds_toArray, List.set_cons_zero, List.set_cons_succ]))
            (refine regP 3 hS (fun _ h => h) rfl (by kernel_rfl) (by kernel_rfl) (by kernel_rfl) (fun _ _ _ _ h => h) (by rfl) (by rfl) ?_; apply Exists.intro; apply And.intro; (intro w; go_simp; try with_reducible rfl); (simp only [Act.put, List.setIfInBounds_toArray, List.set_cons_zero, List.set_cons_succ]))
            (refine regR 4 hS (fun _ h => h) rfl (by kernel_rfl) (by kernel_rfl) (by kernel_rfl) (by kernel_rfl) (by kernel_rfl) (fun _ _ _ _ h => h) (by rfl) (by rfl) ?_; (first
                                      | refine ⟨_, yLdTb _ _ (by rfl) _ _ (by rfl) (agOf (by rfl)) (Has.s (Has.s Has.z)) i 0 (by omega) HY.out (by rfl), ?_⟩
                                      | refine ⟨_, yLdTb _ _ (by rfl) _ _ (by rfl) (agOf (by rfl)) (Has.s (Has.s (Has.s Has.z))) i 0 (by omega) HY.out (by rfl), ?_⟩); (simp only [Act.put, List.setIfInBounds_toArray, List.set_cons_zero, List.set_cons_succ]))
            (refine regP 5 hS (fun _ h => h) rfl (by kernel_rfl) (by kernel_rfl) (by kernel_rfl) (fun _ _ _ _ h => h) (by rfl) (by rfl) ?_; apply Exists.intro; apply And.intro; (intro w; go_simp; try with_reducible rfl); (simp only [Act.put, List.setIfInBounds_toArray, List.set_cons_zero, List.set_cons_succ]))
            (refine regP 6 hS (fun _ h => h) rfl (by kernel_rfl) (by kernel_rfl) (by kernel_rfl) (fun _ _ _ _ h => h) (by rfl) (by rfl) ?_; apply Exists.intro; apply And.intro; (intro w; go_simp; try with_reducible rfl); (simp only [Act.put, List.setIfInBounds_toArray, List.set_cons_zero, List.set_cons_succ]))
            (refine regP 7 hS (fun _ h => h) rfl (by kernel_rfl) (by kernel_rfl) (by kernel_rfl) (fun _ _ _ _ h => h) (by rfl) (by rfl) ?_; apply Exists.intro; apply And.intro; (intro w; go_simp; try with_reducible rfl); (simp only [Act.put, List.setIfInBounds_toArray, List.set_cons_zero, List.set_cons_succ]))
            (refine regR 8 hS (fun _ h => h) rfl (by kernel_rfl) (by kernel_rfl) (by kernel_rfl) (by kernel_rfl) (by kernel_rfl) (fun _ _ _ _ h => h) (by rfl) (by rfl) ?_; (first
                                      | refine ⟨_, yLdTb _ _ (by rfl) _ _ (by rfl) (agOf (by rfl)) (Has.s (Has.s Has.z)) i 0 (by omega) HY.out (by rfl), ?_⟩
                                      | refine ⟨_, yLdTb _ _ (by rfl) _ _ (by rfl) (agOf (by rfl)) (Has.s (Has.s (Has.s Has.z))) i 0 (by omega) HY.out (by rfl), ?_⟩); (simp only [Act.put, List.setIfInBounds_toArray, List.set_cons_zero, List.set_cons_succ]))
            (refine regA 9 rfl (by kernel_rfl) (by rfl) (by rfl) true (by kernel_rfl) (fun K hK => ?_); (first
                                      | (refine Go.Sep.cl 17 _ _ (by rfl) (by rfl) (by kernel_rfl) (write_ok hS y1 _ y3 (fun w h => by obtain ⟨L', h2⟩ := h.stAt (k := 3) rfl HROW.out; exact h2.csRd0 (n := 128) Has.z (by decide) (by rw [bv_length]; exact HY3.out.2)) HF2.out.2.2.2.1 (by rw [HLN2.out]; exact HY3.out.1) (by rw [HF2.out.2.2.1]; decide) (by rw [HF2.out.2.2.1]; decide) (by rw [HF2.out.2.2.1]; decide) (by rw [HF2.out.2.1]; simp; omega) (by rw [HLN2.out]; decide)) ?_; rintro e w1 ⟨rfl, hS1⟩; clear hS; have hS := hS1; clear hS1; refine ⟨_, rfl, ?_⟩)); refine hK _ _ _ hS (by first | (intro h; cases h; done) | exact fun _ _ h => h | exact fun _ _ h => h.drop | exact fun _ _ h => h.drop.drop) ?_; clear hK K; (simp only [Act.put, List.setIfInBounds_toArray, List.set_cons_zero, List.set_cons_succ]))
            refine regDone (by kernel_rfl) ?_
            go_wp2
            refine ⟨⟨i + 1, by omega, by go_num, ?_⟩, by simp [intOf]; omega⟩
            rw [HNX.out, DiskS.after_snoc]
            exact hS
          · obtain rfl : i = c := by omega
            have HIM := Lib.hid (show ((DiskS.after (xs.map wof)).image i).blocks = (DiskS.after ((xs.take i).map wof)).blocks by rw [DiskS.after_image, List.map_take])
            have HL2 := Lib.hid (DiskS.after_len ((xs.take i).map wof))
            go_wp2_with (first
              | (go_at_call 22; refine (image_ok hS.pull1 HOK.out i (by rw [HF.out.2.1]; simp; omega)).mono ?_; rintro e w1 ⟨mq, rfl, hS1⟩; clear hS; have hS := hS1; clear hS1)
              | (go_at_call 20; refine (writes_any hS (n := 0) rfl).mono ?_; rintro e w1 ⟨rfl, rfl⟩)
              | (go_at_call 23; refine (dead_any hS (b := false) rfl).mono ?_; rintro e w1 ⟨rfl, rfl⟩))
            have h0 := (hS.re [3, 4, 5, 0, 1, 2]).drop.drop.drop
            have H0 := Lib.hid h0
            clear h0
            go_loopw [18] (fun vi wz => ∃ j : Nat, j ≤ 160 ∧ vi = .int .i64 j ∧ Sat W wz [IsDisk mq ((DiskS.after (xs.map wof)).image i), IsDisk p (DiskS.after (xs.map wof)), IsDisk q (DiskS.after ((xs.take i).map wof))]) (fun vi _ => 160 - (intOf vi).toNat)
            case atStart => exact ⟨0, by omega, rfl, H0.out⟩
            case round =>
              clear H0 hS
              obtain ⟨j, hj, rfl, hS⟩ := hrel
              by_cases hlt4 : j < 160
              · have j1 : (j : Int) < 160 := by omega
                obtain ⟨b, hb⟩ : ∃ b, (DiskS.after ((xs.take i).map wof)).blocks[j]? = some b := ⟨_, List.getElem?_eq_getElem (by rw [HL2.out]; exact hlt4)⟩
                have HB2 := Lib.hid hb
                have HB1 := Lib.hid (show ((DiskS.after (xs.map wof)).image i).blocks[j]? = some b by rw [HIM.out]; exact hb)
                have hbl : b.length = 128 := by
                  obtain ⟨v1, v2, v3, hq⟩ := IsDisk.open hS.pull2
                  simpa [bv_length] using hq.tbLen (k := 1) rfl b (List.mem_of_getElem? hb)
                have HBL := Lib.hid hbl
                clear hb hbl
                go_wp2_with (first
                  | (go_at_call 12; refine (read_ok hS j _ HB1.out (by rw [HIM.out, HL2.out]; decide)).mono ?_; rintro e w1 ⟨q1, rfl, _, hS1⟩; clear hS; have hS := hS1; clear hS1)
                  | (go_at_call 12; refine (read_ok hS.pull3 j _ HB2.out (by rw [HL2.out]; decide)).mono ?_; rintro e w1 ⟨q2, rfl, _, hS1⟩; clear hS; have hS := hS1; clear hS1)
                  | (refine toList (by rfl) ?_; refine cvS _ _ _ (by rfl) _ (by rfl) strBytes (by exact hS.csRd0 (n := 128) (by first | exact Has.z | exact Has.s Has.z | exact Has.s (Has.s Has.z) | exact Has.s (Has.s (Has.s Has.z)) | exact Has.s (Has.s (Has.s (Has.s Has.z))) | exact Has.s (Has.s (Has.s (Has.s (Has.s Has.z))))) (by decide) (by rw [bv_length]; exact HBL.out)) ?_))
                exact ⟨⟨j + 1, by omega, by go_num, (hS.re [0, 2, 3, 4, 1]).drop.drop⟩, by simp [intOf]; omega⟩
              · obtain rfl : j = 160 := by omega
                go_wp2_with (first
                  | (go_at_call 22; refine (image_no hS.pull1 ((xs.length : Int) + 1) (Or.inr (by rw [HWN.out]; omega))).mono ?_; rintro e w1 ⟨rfl, rfl⟩)
                  | (go_at_call 22; refine (image_no hS.pull1 (-1) (Or.inl (by decide))).mono ?_; rintro e w1 ⟨rfl, rfl⟩)
                  | (go_at_call 20; refine (writes_any hS.pull1 HWN.out).mono ?_; rintro e w1 ⟨rfl, rfl⟩)
                  | (go_at_call 10; refine (awake_any hS).mono ?_; rintro e w1 ⟨rfl, hS1⟩; clear hS; have hS := hS1; clear hS1))
                go_ret
                exact ⟨rfl, hS.drop.drop.drop⟩

theorem Images.contract (H : Type) (enc : TypeId × Value → H) (W : World) (base : Nat) (args : Array Value) (ds gs : List (DataW H)) (before : List MemPlace)
    (hval : ∀ (j : Nat) t v, Try.f6.params[j]? = some t → args[j]? = some v → Value.okWide Try.prog W .any base t v)
    (hW : DataW.Whole enc Try.prog Try.f6.params.toList Rows.diskImagesSpec.vars false W args.toList ds gs before)
    (hreach : (DataW.weightsEach Try.prog (Try.f6.params.toList ++ Rows.diskImagesSpec.plain.varTypes Try.prog) (ds ++ gs)).all (· ≤ reachBytes) = true) :
    Calls Try.prog 6 args W fun e W' => ∃ v, e = .returned v ∧ Rows.diskImagesSpec.post enc Try.prog Try.f6 false true false false W args v W' := by
  have hW' := hW
  obtain ⟨p, q, hA, hV, rfl, hfz, hnd⟩ := hW
  rw [Try.params6] at hA hval hreach
  obtain ⟨v0, vs0, d0, ds0, p0, q0, hargs, rfl, rfl, h0, r0⟩ := trodAll_cons hA
  obtain ⟨v1, vs1, d1, ds1, p1, q1, rfl, rfl, rfl, h1, r1⟩ := trodAll_cons r0
  obtain ⟨rfl, rfl, rfl⟩ := trodAll_nil r1
  obtain rfl : args = #[v0, v1] := by cases args; simp_all
  obtain ⟨rfl, rfl⟩ := trodVars_none hV
  obtain ⟨ao0, len0, cap0, rfl⟩ := okWide_slice Try.underlying22 (hval 0 22 v0 rfl rfl)
  obtain ⟨l, rfl, hr0, hl0⟩ := open_ops h0
  obtain ⟨a1, rfl, rfl, rfl, w1⟩ := open_int Try.underlying3 (hval 1 3 v1 rfl rfl) h1
  have i1 := i64_of w1
  refine (Images.walk l ao0 cap0 a1 W hr0 hl0 i1.1 i1.2).mono ?_
  refine fun e W' ⟨he, hS⟩ => ?_
  subst he
  exact ⟨_, rfl, law_post (tb := 4) (by kernel_rfl) (by kernel_rfl) rfl Try.underlying4 rfl hW' rfl hS⟩

theorem Images.own : ownKnob Try.prog.godebug = none := by kernel_rfl
set_option maxRecDepth 100000 in
theorem Images.lifted (os : Os) (started : os.Started) (H : Type) (enc : TypeId × Value → H) :
    ReturnsInHanded {} Try.checked os 6 .any (Rows.diskImagesSpec.pre6 enc Try.prog Try.f6 Rows.diskImagesRow.domain false) (Rows.diskImagesSpec.post enc Try.prog Try.f6 false true false false) := by
  refine returnsInHanded_of_change_shaped (C := Try.checked) Images.own started (by kernel_rfl) Try.func6
    (ChangeSpec.witness6 (enc := enc) (C := Try.checked) false ⟨#[], #[.slice none 0 0, .int .i64 0], []⟩ 8 (by kernel_rfl) (by kernel_rfl) (by kernel_rfl) (by kernel_rfl)) ?_
  intro W base args ds gs before hval hW _ hreach _ _
  exact Images.contract H enc W base args ds gs before hval hW hreach

theorem Images.holds : Rows.DiskImagesSaid :=
  OpenClaim.holds_of_wide 6 Try.f6 rfl rfl rfl rfl rfl rfl rfl ⟨rfl, rfl, rfl, rfl, rfl⟩ rfl rfl rfl rfl rfl (by kernel_rfl) Try.func6 (by kernel_rfl)
    (of_decide_eq_true (by kernel_rfl)) (by unfold Func.isWrapper; first | (rw [if_pos (by decide +kernel)]; kernel_rfl) | (rw [if_neg (by decide +kernel)]; exact ⟨rfl, rfl⟩))
    (fun os started H enc _ => Images.lifted os started H enc)
end Go.Proofs.Ytnppgkbincffeaa
