/-
  For all places and bytes, DiskApart answers true: no condition.
-/
import Derived.Test.YtnppgkbincffeaaDiskLaw
namespace Go.Proofs.Ytnppgkbincffeaa
open Go.RowKit Go.Sep Go.ChangeShapes Go.WideShapes Go.ChangeAt
set_option linter.unusedSimpArgs false
set_option linter.unusedVariables false
attribute [local irreducible] Go.Oper.wp Go.wpList Go.Calls Go.Code.wp Go.Sep.Reg

/-- Bytes as the beginning of a block of noughts. -/
def pad (l : List UInt8) : List UInt8 := l.take 128 ++ zeros (128 - l.length)
theorem pad_length (l : List UInt8) : (pad l).length = 128 := by simp [pad, zeros]; omega
theorem pad_copyN (N : Nat) (l : List UInt8) : List.take 0 (bv (zeros N)) ++ List.take (min l.length N * 1) (bv l) ++ List.drop (0 + min l.length N * 1) (bv (zeros N)) = bv (l.take N ++ zeros (N - l.length)) := by
  simp only [List.take_zero, List.nil_append, Nat.zero_add, Nat.mul_one]
  rcases Nat.le_total l.length N with h | h
  · rw [Nat.min_eq_left h, List.take_of_length_le (by simp [bv])]
    simp [bv, zeros, List.take_of_length_le h]
  · rw [Nat.min_eq_right h]
    simp [bv, zeros, List.map_take, Nat.sub_eq_zero_of_le h]
theorem pad_copy (l : List UInt8) : List.take 0 (bv (zeros 128)) ++ List.take (min l.length 128 * 1) (bv l) ++ List.drop (0 + min l.length 128 * 1) (bv (zeros 128)) = bv (pad l) := pad_copyN 128 l
theorem wrote_len (D : DiskS) (n : Nat) (b : List UInt8) : (D.wrote n b).blocks.length = D.blocks.length := by simp [DiskS.wrote]
theorem wrote_at {D : DiskS} {n : Nat} {b : List UInt8} (h : n < D.blocks.length) : (D.wrote n b).blocks[n]? = some b := by simp [DiskS.wrote, h]
theorem wrote_ne {D : DiskS} {n m : Nat} {b : List UInt8} (h : n ≠ m) : (D.wrote n b).blocks[m]? = D.blocks[m]? := by simp [DiskS.wrote, h]
theorem u8s (l : List UInt8) : bv l = (l.map fun b => (b.toNat : Int)).map (Value.int .u8) := by simp [bv, u8]

theorem set_map_int {ns : List Int} {k : Nat} {n : Int} : (ns.map (Value.int .u8)).set k (.int .u8 n) = (ns.set k n).map (Value.int .u8) := by simp [List.map_set]

set_option maxRecDepth 20000 in
set_option maxHeartbeats 4000000 in
theorem Apart.walk (n m : Int) (lb lc : List UInt8) (vb vc : Value) (W : World) (hn1 : -9223372036854775808 ≤ n) (hn2 : n ≤ 9223372036854775807) (hm1 : -9223372036854775808 ≤ m) (hm2 : m ≤ 9223372036854775807)
    (hb : Rd W vb lb.length 1 (bv lb)) (hc : Rd W vc lc.length 1 (bv lc)) :
    Calls Try.prog 4 #[.int .i64 n, .int .i64 m, vb, vc] W fun e w' => e = .returned (.bool true) ∧ Sat W w' [] := by
  have hS := Sat.start W
  obtain ⟨i, hi⟩ : ∃ i : Nat, place n 160 = i := ⟨(place n 160).toNat, by have := @place_lt n 160 (by decide); omega⟩
  obtain ⟨j, hj⟩ : ∃ j : Nat, place m 160 = j := ⟨(place m 160).toNat, by have := @place_lt m 160 (by decide); omega⟩
  have hi2 : i < 160 := by have := @place_lt n 160 (by decide); omega
  have hj2 : j < 160 := by have := @place_lt m 160 (by decide); omega
  have HI := Lib.hid hi
  have HJ := Lib.hid hj
  have HP := Lib.hid pad_copy
  clear hi hj
  go_enter Try.func4, Try.ntmps4
  go_wp2_with (first
    | (go_at_call 8; refine (new_ok hS 160 (by decide) (by decide)).mono ?_; rintro e w1 ⟨p, rfl, hS1⟩; clear hS; have hS := hS1; clear hS1)
    | (go_at_call 11; refine (place_any _ n 160 (by decide) (by decide) hn1 hn2).mono ?_; rintro e w1 ⟨rfl, rfl⟩; rw [HI.out])
    | (go_at_call 11; refine (place_any _ m 160 (by decide) (by decide) hm1 hm2).mono ?_; rintro e w1 ⟨rfl, rfl⟩; rw [HJ.out])
    | (have hG : Sat W _ [_] := hS; clear hG; (refine toList (by rfl) ?_; refine mk hS _ _ _ (by rfl) 128 128 _ _ (by rfl) (by rfl) (elOf (by rfl)) (by omega) (by omega) (by omega) ?_; intro px w1 hS1; clear hS; have hS := hS1; clear hS1; rw [made_u8] at hS))
    | (refine toList (by rfl) ?_; refine mk hS _ _ _ (by rfl) 128 128 _ _ (by rfl) (by rfl) (elOf (by rfl)) (by omega) (by omega) (by omega) ?_; intro py w1 hS1; clear hS; have hS := hS1; clear hS1; rw [made_u8] at hS)
    | (refine toList (by rfl) ?_; refine cp hS _ _ _ _ (by rfl) _ _ _ _ _ (by rfl) (by rfl) (elOf (by rfl)) (by omega) (Has.s Has.z) (by exact hb.old hS) (bv_one _) (by simp [bv, zeros]) ?_; intro w1 hS1; clear hS; have hS := hS1; clear hS1; rw [HP.out] at hS; dsimp only [List.set] at hS)
    | (refine toList (by rfl) ?_; refine cp hS _ _ _ _ (by rfl) _ _ _ _ _ (by rfl) (by rfl) (elOf (by rfl)) (by omega) Has.z (by exact hc.old hS) (bv_one _) (by simp [bv, zeros]) ?_; intro w1 hS1; clear hS; have hS := hS1; clear hS1; rw [HP.out] at hS; dsimp only [List.set] at hS)
    | (refine toList (by rfl) ?_; refine cvS _ _ _ (by rfl) _ (by rfl) strBytes (by exact hS.csRd0 (n := 128) (Has.s Has.z) (by decide) (by simp [bv_length, pad_length])) ?_)
    | (go_at_call 17; refine (write_ok hS.pull2 i _ (pad lb) (fun w h => h.csRd0 (n := 128) (Has.s Has.z) (by decide) (by simp [bv_length, pad_length])) rfl (by simpa [DiskS.new] using hi2) (by simp [DiskS.new]) (by simp [DiskS.new]) (by simp [DiskS.new]) (by simp [DiskS.new]) (by simp [DiskS.new])).mono ?_; rintro e w1 ⟨rfl, hS1⟩; clear hS; have hS := hS1; clear hS1))
  obtain ⟨D1, hD1⟩ : ∃ D, D = (DiskS.new 160).wrote i (pad lb) := ⟨_, rfl⟩
  rw [← hD1] at hS
  have h1l : D1.blocks.length = 160 := by rw [hD1, wrote_len]; simp [DiskS.new]
  have h1i : D1.blocks[i]? = some (pad lb) := by rw [hD1, wrote_at (by simpa [DiskS.new] using hi2)]
  have h1w : D1.writes.length = 1 := by rw [hD1]; simp [DiskS.wrote, DiskS.new]
  have h1d : D1.dead = false := by rw [hD1]; rfl
  have h1f : D1.left = -1 := by rw [hD1]; rfl
  have H1L := Lib.hid h1l
  have H1I := Lib.hid h1i
  have H1W := Lib.hid h1w
  have H1D := Lib.hid h1d
  have H1F := Lib.hid h1f
  clear h1l h1i h1w h1d h1f hD1
  have HS := Lib.hid hS
  go_loopw [16] (fun v wr => ∃ k : Nat, k ≤ 128 ∧ v = .int .i64 k ∧ ∃ ns : List Int, ns.length = 128 ∧ Sat W wr [IsDisk p D1, Cs py 5 (bv (pad lc)), Cs px 5 (ns.map (Value.int .u8))]) (fun v _ => 128 - (intOf v).toNat)
  case atStart => exact ⟨0, by decide, rfl, (pad lb).map fun b => (b.toNat : Int), by simp [pad_length], by rw [← u8s]; exact HS.out⟩
  case round =>
    clear hS HS
    obtain ⟨k, hk, rfl, ns, hns, hS⟩ := hrel
    by_cases hlt : k < 128
    · have i1 : (k : Int) < 128 := by omega
      obtain ⟨x, hx0⟩ : ∃ x, ns[k]? = some x := ⟨_, List.getElem?_eq_getElem (by omega)⟩
      have hx : (ns.map (Value.int .u8))[k]? = some (Value.int .u8 x) := by simp [hx0]
      have HX := Lib.hid hx
      have HN := Lib.hid hns
      clear hx hx0 hns
      go_wp2_with (first
        | (refine toList (by rfl) ?_; refine ld hS _ _ (by rfl) _ _ (by rfl) (agOf (by rfl)) (Has.s (Has.s Has.z)) (by exact HX.out) ?_)
        | (refine toList (by rfl) ?_; refine st hS _ _ _ (by rfl) _ _ (by rfl) _ (by first | exact evC | exact evT (by rfl)) (by rfl) (szOf (by rfl)) (Has.s (Has.s Has.z)) (by simp [HN.out]; omega) ?_; intro w1 hS1; clear hS; have hS := hS1; clear hS1; dsimp only [List.set] at hS))
      rw [set_map_int] at hS
      exact ⟨⟨k + 1, by omega, by go_num, _, by simp [HN.out], hS⟩, by simp [intOf]; omega⟩
    · obtain rfl : k = 128 := by omega
      obtain ⟨z, hz⟩ : ∃ z, (bv (pad lb))[0]? = some (Value.int .u8 z) := ⟨_, by rw [u8s]; simp only [List.getElem?_map]; rw [List.getElem?_eq_getElem (by simp [pad_length])]; rfl⟩
      have HZ := Lib.hid hz
      obtain ⟨D2, hD2⟩ : ∃ D, D = D1.wrote j (pad lc) := ⟨_, rfl⟩
      have h2l : D2.blocks.length = 160 := by rw [hD2, wrote_len, H1L.out]
      have h2j : D2.blocks[j]? = some (pad lc) := by rw [hD2, wrote_at (by rw [H1L.out]; exact hj2)]
      have h2i : D2.blocks[i]? = some (if i = j then pad lc else pad lb) := by
        split
        · rename_i h; rw [h]; exact h2j
        · rename_i h; rw [hD2, wrote_ne (Ne.symm h)]; exact H1I.out
      have h2w : (D2.writes.length : Int) = 2 := by rw [hD2]; simp [DiskS.wrote, H1W.out]
      have H2L := Lib.hid h2l
      have H2I := Lib.hid h2i
      have H2J := Lib.hid h2j
      have H2W := Lib.hid h2w
      have H2D := Lib.hid hD2
      have HPL := Lib.hid pad_length
      clear h2l h2i h2j h2w hD2 hz
      by_cases hij : i = j
      · subst hij
        rw [if_pos rfl] at H2I
        go_wp2_with (first
          | (go_at_call 12; refine (read_ok hS i _ H1I.out (by rw [H1L.out]; decide)).mono ?_; rintro e w1 ⟨q, rfl, _, hS1⟩; clear hS; have hS := hS1; clear hS1)
          | (go_at_call 12; refine (read_ok hS i _ H2I.out (by rw [H2L.out]; decide)).mono ?_; rintro e w1 ⟨q2, rfl, _, hS1⟩; clear hS; have hS := hS1; clear hS1)
          | (go_at_call 12; refine (read_ok hS.pull1 i _ H2J.out (by rw [H2L.out]; decide)).mono ?_; rintro e w1 ⟨q3, rfl, _, hS1⟩; clear hS; have hS := hS1; clear hS1)
          | (refine toList (by rfl) ?_; refine cvS _ _ _ (by rfl) _ (by rfl) strBytes (by exact hS.csRd0 (n := 128) (by first | exact Has.z | exact Has.s Has.z | exact Has.s (Has.s Has.z) | exact Has.s (Has.s (Has.s Has.z)) | exact Has.s (Has.s (Has.s (Has.s Has.z))) | exact Has.s (Has.s (Has.s (Has.s (Has.s Has.z))))) (by decide) (by simp [bv_length, HPL.out])) ?_)
          | (refine toList (by rfl) ?_; refine ld hS _ _ (by rfl) _ _ (by rfl) (agOf (by rfl)) Has.z (by exact HZ.out) ?_)
          | (refine toList (by rfl) ?_; refine st hS _ _ _ (by rfl) _ _ (by rfl) _ (by first | exact evC | exact evT (by rfl)) (by rfl) (szOf (by rfl)) Has.z (by simp [bv_length, HPL.out]) ?_; intro w1 hS1; clear hS; have hS := hS1; clear hS1; dsimp only [List.set_cons_zero] at hS)
          | (go_at_call 17; refine (write_ok hS.pull1 i _ (pad lc) (fun w h => h.csRd0 (n := 128) (Has.s Has.z) (by decide) (by simp [bv_length, HPL.out])) H1D.out (by rw [H1L.out]; exact hj2) (by rw [H1F.out]; decide) (by rw [H1F.out]; decide) (by rw [H1F.out]; decide) (by rw [H1W.out]; decide) (by rw [H1L.out]; decide)).mono ?_; rintro e w1 ⟨rfl, hS1⟩; clear hS; have hS := hS1; clear hS1; rw [← H2D.out] at hS)
          | (go_at_call 20; refine (writes_any (hS.front _ (by first | exact Has.z | exact Has.s Has.z | exact Has.s (Has.s Has.z) | exact Has.s (Has.s (Has.s Has.z)) | exact Has.s (Has.s (Has.s (Has.s Has.z))) | exact Has.s (Has.s (Has.s (Has.s (Has.s Has.z)))))) H2W.out).mono ?_; rintro e w1 ⟨rfl, rfl⟩)
          | (go_at_call 10; refine (awake_any hS).mono ?_; rintro e w1 ⟨rfl, hS1⟩; clear hS; have hS := hS1; clear hS1))
        go_ret
        exact ⟨rfl, hS.drop.drop.drop.drop.drop.drop⟩
      · rw [if_neg hij] at H2I
        have e1 : ((i : Int) == (j : Int)) = false := beq_eq_false_iff_ne.2 (by omega)
        clear hij
        go_wp2_with (first
          | (go_at_call 12; refine (read_ok hS i _ H1I.out (by rw [H1L.out]; decide)).mono ?_; rintro e w1 ⟨q, rfl, _, hS1⟩; clear hS; have hS := hS1; clear hS1)
          | (go_at_call 12; refine (read_ok hS i _ H2I.out (by rw [H2L.out]; decide)).mono ?_; rintro e w1 ⟨q2, rfl, _, hS1⟩; clear hS; have hS := hS1; clear hS1)
          | (go_at_call 12; refine (read_ok hS.pull1 j _ H2J.out (by rw [H2L.out]; decide)).mono ?_; rintro e w1 ⟨q3, rfl, _, hS1⟩; clear hS; have hS := hS1; clear hS1)
          | (refine toList (by rfl) ?_; refine cvS _ _ _ (by rfl) _ (by rfl) strBytes (by exact hS.csRd0 (n := 128) (by first | exact Has.z | exact Has.s Has.z | exact Has.s (Has.s Has.z) | exact Has.s (Has.s (Has.s Has.z)) | exact Has.s (Has.s (Has.s (Has.s Has.z))) | exact Has.s (Has.s (Has.s (Has.s (Has.s Has.z))))) (by decide) (by simp [bv_length, HPL.out])) ?_)
          | (refine toList (by rfl) ?_; refine ld hS _ _ (by rfl) _ _ (by rfl) (agOf (by rfl)) Has.z (by exact HZ.out) ?_)
          | (refine toList (by rfl) ?_; refine st hS _ _ _ (by rfl) _ _ (by rfl) _ (by first | exact evC | exact evT (by rfl)) (by rfl) (szOf (by rfl)) Has.z (by simp [bv_length, HPL.out]) ?_; intro w1 hS1; clear hS; have hS := hS1; clear hS1; dsimp only [List.set_cons_zero] at hS)
          | (go_at_call 17; refine (write_ok hS.pull1 j _ (pad lc) (fun w h => h.csRd0 (n := 128) (Has.s Has.z) (by decide) (by simp [bv_length, HPL.out])) H1D.out (by rw [H1L.out]; exact hj2) (by rw [H1F.out]; decide) (by rw [H1F.out]; decide) (by rw [H1F.out]; decide) (by rw [H1W.out]; decide) (by rw [H1L.out]; decide)).mono ?_; rintro e w1 ⟨rfl, hS1⟩; clear hS; have hS := hS1; clear hS1; rw [← H2D.out] at hS)
          | (go_at_call 20; refine (writes_any (hS.front _ (by first | exact Has.z | exact Has.s Has.z | exact Has.s (Has.s Has.z) | exact Has.s (Has.s (Has.s Has.z)) | exact Has.s (Has.s (Has.s (Has.s Has.z))) | exact Has.s (Has.s (Has.s (Has.s (Has.s Has.z)))))) H2W.out).mono ?_; rintro e w1 ⟨rfl, rfl⟩)
          | (go_at_call 10; refine (awake_any hS).mono ?_; rintro e w1 ⟨rfl, hS1⟩; clear hS; have hS := hS1; clear hS1))
        go_ret
        exact ⟨rfl, hS.drop.drop.drop.drop.drop.drop⟩

theorem Apart.contract (H : Type) (enc : TypeId × Value → H) (W : World) (base : Nat) (args : Array Value) (ds gs : List (DataW H)) (before : List MemPlace)
    (hval : ∀ (j : Nat) t v, Try.f4.params[j]? = some t → args[j]? = some v → Value.okWide Try.prog W .any base t v)
    (hW : DataW.Whole enc Try.prog Try.f4.params.toList Rows.diskApartSpec.vars false W args.toList ds gs before)
    (hreach : (DataW.weightsEach Try.prog (Try.f4.params.toList ++ Rows.diskApartSpec.plain.varTypes Try.prog) (ds ++ gs)).all (· ≤ reachBytes) = true) :
    Calls Try.prog 4 args W fun e W' => ∃ v, e = .returned v ∧ Rows.diskApartSpec.post enc Try.prog Try.f4 false true false false W args v W' := by
  have hW' := hW
  obtain ⟨p, q, hA, hV, rfl, hfz, hnd⟩ := hW
  rw [Try.params4] at hA hval hreach
  obtain ⟨v0, vs0, d0, ds0, p0, q0, hargs, rfl, rfl, h0, r0⟩ := trodAll_cons hA
  obtain ⟨v1, vs1, d1, ds1, p1, q1, rfl, rfl, rfl, h1, r1⟩ := trodAll_cons r0
  obtain ⟨v2, vs2, d2, ds2, p2, q2, rfl, rfl, rfl, h2, r2⟩ := trodAll_cons r1
  obtain ⟨v3, vs3, d3, ds3, p3, q3, rfl, rfl, rfl, h3, r3⟩ := trodAll_cons r2
  obtain ⟨rfl, rfl, rfl⟩ := trodAll_nil r3
  obtain rfl : args = #[v0, v1, v2, v3] := by cases args; simp_all
  obtain ⟨rfl, rfl⟩ := trodVars_none hV
  obtain ⟨a0, rfl, rfl, rfl, w0⟩ := open_int Try.underlying3 (hval 0 3 v0 rfl rfl) h0
  obtain ⟨a1, rfl, rfl, rfl, w1⟩ := open_int Try.underlying3 (hval 1 3 v1 rfl rfl) h1
  obtain ⟨ao2, len2, cap2, rfl⟩ := okWide_slice Try.underlying29 (hval 2 29 v2 rfl rfl)
  obtain ⟨l2, rfl, hr2, _⟩ := open_bytes Try.underlying29 Try.underlying5 (by kernel_rfl) h2
  obtain ⟨ao3, len3, cap3, rfl⟩ := okWide_slice Try.underlying29 (hval 3 29 v3 rfl rfl)
  obtain ⟨l3, rfl, hr3, _⟩ := open_bytes Try.underlying29 Try.underlying5 (by kernel_rfl) h3
  have i0 := i64_of w0
  have i1 := i64_of w1
  refine (Apart.walk a0 a1 l2 l3 _ _ W i0.1 i0.2 i1.1 i1.2 hr2 hr3).mono ?_
  refine fun e W' ⟨he, hS⟩ => ?_
  subst he
  exact ⟨_, rfl, law_post (tb := 4) (by kernel_rfl) (by kernel_rfl) rfl Try.underlying4 rfl hW' rfl hS⟩

theorem Apart.own : ownKnob Try.prog.godebug = none := by kernel_rfl
set_option maxRecDepth 100000 in
theorem Apart.lifted (os : Os) (started : os.Started) (H : Type) (enc : TypeId × Value → H) :
    ReturnsInHanded {} Try.checked os 4 .any (Rows.diskApartSpec.pre6 enc Try.prog Try.f4 Rows.diskApartRow.domain false) (Rows.diskApartSpec.post enc Try.prog Try.f4 false true false false) := by
  refine returnsInHanded_of_change_shaped (C := Try.checked) Apart.own started (by kernel_rfl) Try.func4
    (ChangeSpec.witness6 (enc := enc) (C := Try.checked) false ⟨#[], #[.int .i64 0, .int .i64 0, .slice none 0 0, .slice none 0 0], []⟩ 8 (by kernel_rfl) (by kernel_rfl) (by kernel_rfl) (by kernel_rfl)) ?_
  intro W base args ds gs before hval hW _ hreach _ _
  exact Apart.contract H enc W base args ds gs before hval hW hreach

theorem Apart.holds : Rows.DiskApartSaid :=
  OpenClaim.holds_of_wide 4 Try.f4 rfl rfl rfl rfl rfl rfl rfl ⟨rfl, rfl, rfl, rfl, rfl⟩ rfl rfl rfl rfl rfl (by kernel_rfl) Try.func4 (by kernel_rfl)
    (of_decide_eq_true (by kernel_rfl)) (by unfold Func.isWrapper; first | (rw [if_pos (by decide +kernel)]; kernel_rfl) | (rw [if_neg (by decide +kernel)]; exact ⟨rfl, rfl⟩))
    (fun os started H enc _ => Apart.lifted os started H enc)
end Go.Proofs.Ytnppgkbincffeaa
