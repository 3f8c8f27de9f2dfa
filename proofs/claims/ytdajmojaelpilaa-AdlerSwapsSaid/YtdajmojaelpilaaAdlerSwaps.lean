/-
  For all bytes and any place, AdlerSwaps answers true: no condition.
-/
import Derived.Test.YtdajmojaelpilaaAdler2
namespace Go.Proofs.Ytdajmojaelpilaa
open Go.RowKit Go.Sep Go.ChangeShapes Go.WideShapes Go.ChangeAt

theorem adFold_inj (l : List UInt8) : ∀ a c d, c < 65521 → d < 65521 → adFold (a, c) l = adFold (a, d) l → c = d := by
  induction l with
  | nil => intro a c d _ _ h; simpa [adFold] using h
  | cons x l ih =>
    intro a c d hc hd h
    have := ih ((a + x.toNat) % 65521) ((c + (a + x.toNat) % 65521) % 65521) ((d + (a + x.toNat) % 65521) % 65521) (Nat.mod_lt _ (by omega)) (Nat.mod_lt _ (by omega)) h
    omega
theorem adOut_inj (p q : Nat × Nat) (h1 : p.1 < 65521) (h2 : q.1 < 65521) (h : adOut p = adOut q) : p = q := by
  obtain ⟨a, b⟩ := p
  obtain ⟨c, d⟩ := q
  simp only [adOut] at *
  rw [Prod.mk.injEq]; omega
def swapped (l : List UInt8) (k : Nat) (h : k + 1 < l.length) : List UInt8 := (l.set k l[k + 1]).set (k + 1) l[k]
theorem swapped_eq (l : List UInt8) (k : Nat) (h : k + 1 < l.length) : swapped l k h = l.take k ++ l[k + 1] :: l[k] :: l.drop (k + 2) := by
  unfold swapped
  apply List.ext_getElem?
  intro j
  simp only [List.getElem?_set, List.length_set, List.getElem?_append, List.length_take, List.getElem?_take, List.getElem?_cons, List.getElem?_drop]
  rw [Nat.min_eq_left (by omega)]
  by_cases h1 : j < k
  · simp [h1, show ¬ k + 1 = j by omega, show ¬ k = j by omega]
  · by_cases h2 : j = k
    · subst h2; simp; omega
    · by_cases h3 : j = k + 1
      · subst h3; simp [h]; omega
      · simp [h1, show ¬ k + 1 = j by omega, show ¬ k = j by omega, show ¬ j - k = 0 by omega, show ¬ j - k - 1 = 0 by omega]
        congr 1; omega
theorem split_two (l : List UInt8) (k : Nat) (h : k + 1 < l.length) : l = l.take k ++ l[k] :: l[k + 1] :: l.drop (k + 2) := by
  conv => lhs; rw [← List.take_append_drop k l]
  congr 1
  rw [List.drop_eq_getElem_cons (by omega), List.drop_eq_getElem_cons h]
theorem swap_law (l : List UInt8) (k : Nat) (h : k + 1 < l.length) : adMore 1 (swapped l k h) = adMore 1 l ↔ l[k] = l[k + 1] := by
  have e1 := swapped_eq l k h
  have e2 := split_two l k h
  constructor
  · intro he
    rw [e1] at he
    have hl : adMore 1 l = adMore 1 (l.take k ++ l[k] :: l[k + 1] :: l.drop (k + 2)) := congrArg (adMore 1) e2
    rw [hl] at he
    generalize l.take k = pre at he
    generalize l.drop (k + 2) = suf at he
    generalize l[k] = x at *
    generalize l[k + 1] = y at *
    have h3 := adOut_inj _ _ (adFold_lt (adIn_lt 1) _).1 (adFold_lt (adIn_lt 1) _).1 he
    simp only [adFold, List.foldl_append, List.foldl_cons] at h3
    have hp := adFold_lt (adIn_lt 1) pre
    unfold adFold at hp
    generalize List.foldl adStep (adIn 1) pre = p at *
    obtain ⟨a, c⟩ := p
    simp only [adStep] at h3
    have ha : ((a + y.toNat) % 65521 + x.toNat) % 65521 = ((a + x.toNat) % 65521 + y.toNat) % 65521 := by omega
    rw [ha] at h3
    have := adFold_inj suf _ _ _ (Nat.mod_lt _ (by omega)) (Nat.mod_lt _ (by omega)) h3
    have hx := UInt8.toNat_lt x
    have hy := UInt8.toNat_lt y
    apply UInt8.toNat_inj.1
    omega
  · intro he
    rw [e1, he]
    conv => rhs; rw [e2, he]

attribute [local irreducible] adMore
set_option maxHeartbeats 1000000 in
theorem Swaps.walk (l : List UInt8) (v : Value) (t : Int) (W : World) (hr : Rd W v l.length 1 (bv l)) (hb : l.length ≤ 140737488355328) :
    Calls Try.prog 6 #[v, .int .i64 t] W fun e w' => e = .returned (.bool true) ∧ Sat W w' [] := by
  have hS := Sat.start W
  obtain ⟨ao, cap, rfl, g1, g2, _, g4⟩ := id hr
  rcases Nat.lt_or_ge l.length 2 with hl | hl
  · go_enter Try.func6, Try.ntmps6
    go_wp2_with (go_at_call 14; refine (awake_any hS).mono ?_; rintro e w' ⟨rfl, hS1⟩; clear hS; have hS := hS1; clear hS1)
    go_ret
    exact ⟨rfl, hS⟩
  · have he := place_eq t ((l.length : Int) - 1) (by omega)
    obtain ⟨k, hk⟩ := Int.eq_ofNat_of_zero_le (Int.emod_nonneg t (b := (l.length : Int) - 1) (by omega))
    have hkl : k + 1 < l.length := by have := Int.emod_lt_of_pos t (b := (l.length : Int) - 1) (by omega); rw [hk] at this; omega
    rw [hk] at he
    have htl : t.tmod ((l.length : Int) - 1) < (l.length : Int) - 1 := Int.tmod_lt_of_pos t (by omega)
    have htg : -((l.length : Int) - 1) < t.tmod ((l.length : Int) - 1) := by
      have := Int.tmod_lt_of_pos (-t) (b := (l.length : Int) - 1) (by omega)
      rw [Int.neg_tmod] at this; omega
    obtain ⟨b, off, rfl, hcell⟩ := g4 (by omega)
    have hk0 : k < l.length := by omega
    have y1 := hcell k _ (bv_at hk0)
    have y2 := hcell (k + 1) _ (bv_at hkl)
    have hq : (((adMore 1 (swapped l k hkl) : Nat) : Int) == ((adMore 1 l : Nat) : Int)) = (((l[k]).toNat : Int) == ((l[k + 1]).toNat : Int)) := by
      rw [Bool.eq_iff_iff, beq_iff_eq, beq_iff_eq, Int.natCast_inj, Int.natCast_inj, swap_law l k hkl, UInt8.toNat_inj]
    have hlen : (swapped l k hkl).length = l.length := by simp [swapped]
    have hbv : ((bv l).set k (.int .u8 ((l[k + 1]).toNat : Int))).set (k + 1) (.int .u8 ((l[k]).toNat : Int)) = bv (swapped l k hkl) := by
      unfold swapped; rw [← bv_set, ← bv_set]; rfl
    clear hcell g4
    by_cases hneg : t.tmod ((l.length : Int) - 1) < 0
    all_goals
      first | rw [if_neg hneg] at he | rw [if_pos hneg] at he
      cases hbb : (((l[k]).toNat : Int) == ((l[k + 1]).toNat : Int))
      all_goals
        rw [hbb] at hq
        first
          | (have e1 : t.tmod ((l.length : Int) - 1) + (l.length : Int) - 1 = (k : Int) := (show ∀ q L K : Int, K = q + (L - 1) → q + L - 1 = K from fun _ _ _ h => by omega) _ _ _ he
             clear he hk)
          | (have e1 : t.tmod ((l.length : Int) - 1) = (k : Int) := he.symm
             clear he hk htg htl hneg)
        go_enter Try.func6, Try.ntmps6
        go_wp2_with (refine toList (by rfl) ?_; refine ap (hS.slNil (E := 5) (sz := 1)) _ _ _ _ (by rfl) _ _ (by rfl) (by rfl) (elOf (by rfl)) (by rfl) (by omega) (inOf (by rfl)) Has.z (by exact .inl (hr.old hS)) (bv_one l) (by omega) (by omega) ?_; intro v' w' hS1; clear hS; have hS := hS1; clear hS1; dsimp only [List.set] at hS; simp only [Nat.zero_add, List.nil_append] at hS; obtain ⟨b1, off1, c1, rfl, hc1⟩ := hS.slAddr Has.z (by omega))
        have x1 := hS.slCell (k := 0) rfl (bv_at hk0)
        have x2 := hS.slCell (k := 0) rfl (bv_at hkl)
        go_region
        go_wp2_with fail
        have hS2 := ((hS.slSet (k := 0) rfl (j := k) (.int .u8 ((l[k + 1]).toNat : Int)) (by rw [bv_length]; omega)).slSet (k := 0) rfl (j := k + 1) (.int .u8 ((l[k]).toNat : Int)) (by simp [bv]; omega)).drew
        dsimp only [List.set] at hS2
        rw [hbv] at hS2
        generalize ((w'.setCell ⟨b1, off1 + k, none⟩ (.int .u8 ((l[k + 1]).toNat : Int))).setCell ⟨b1, off1 + (k + 1), none⟩ (.int .u8 ((l[k]).toNat : Int))).drew = w2 at hS2 ⊢
        clear hS x1 x2
        have hS := hS2
        clear hS2
        have z1 : ∀ n : Ix W [Sl 5 1 (.slice (some ⟨b1, off1, none⟩) l.length c1) l.length (bv (swapped l k hkl))], n.val.cell? ⟨b, off + k, none⟩ = some (.int .u8 ((l[k]).toNat : Int)) :=
          fun n => by rw [World.cell?_of_block (n.sat.old (World.block_lt_of_cell? W _ y1))]; exact y1
        have z2 : ∀ n : Ix W [Sl 5 1 (.slice (some ⟨b1, off1, none⟩) l.length c1) l.length (bv (swapped l k hkl))], n.val.cell? ⟨b, off + (k + 1), none⟩ = some (.int .u8 ((l[k + 1]).toNat : Int)) :=
          fun n => by rw [World.cell?_of_block (n.sat.old (World.block_lt_of_cell? W _ y2))]; exact y2
        (haveI := Ix.some hS
         refine wp_region_quiet_sat hS (by kernel_rfl) (by kernel_rfl) ?_
         repeat (go_big_quiet_step (first
                  | (go_at_call 10; with_reducible exact Calls.qs (of_any (swapped l k hkl) _ _ (by rw [hlen]; exact (Ix.sat (L := [Sl 5 1 (.slice (some ⟨b1, off1, none⟩) l.length c1) l.length (bv (swapped l k hkl))]) _).slRd Has.z)))
                  | (go_at_call 10; with_reducible exact Calls.qs (of_any l _ _ (hr.old (Ix.sat _))))
                  | (go_at_call 14; with_reducible exact Calls.qa (awake_any (Ix.sat _)))))
         refine wpQuiet_nil ?_
         intro _ hw'
         obtain ⟨nq, rfl⟩ := hw'
         have hS1 := nq.sat
         generalize nq.val = w1 at hS1 ⊢
         clear hS; have hS := hS1; clear hS1)
        go_wp2
        go_ret
        exact ⟨rfl, hS.drop⟩

theorem Swaps.contract (H : Type) (enc : TypeId × Value → H) (W : World) (base : Nat) (args : Array Value) (ds gs : List (DataW H)) (before : List MemPlace)
    (hval : ∀ (j : Nat) t v, Try.f6.params[j]? = some t → args[j]? = some v → Value.okWide Try.prog W .any base t v)
    (hW : DataW.Whole enc Try.prog Try.f6.params.toList Rows.adlerSwapsSpec.vars false W args.toList ds gs before)
    (hreach : (DataW.weightsEach Try.prog (Try.f6.params.toList ++ Rows.adlerSwapsSpec.plain.varTypes Try.prog) (ds ++ gs)).all (· ≤ reachBytes) = true) :
    Calls Try.prog 6 args W fun e W' => ∃ v, e = .returned v ∧ Rows.adlerSwapsSpec.post enc Try.prog Try.f6 false true false false W args v W' := by
  have hW' := hW
  obtain ⟨p, q, hA, hV, rfl, hfz, hnd⟩ := hW
  rw [Try.params6] at hA hval hreach
  obtain ⟨v0, vs0, d0, ds0, p0, q0, hargs, rfl, rfl, h0, r0⟩ := trodAll_cons hA
  obtain ⟨v1, vs1, d1, ds1, p1, q1, rfl, rfl, rfl, h1, r1⟩ := trodAll_cons r0
  obtain ⟨rfl, rfl, rfl⟩ := trodAll_nil r1
  obtain rfl : args = #[v0, v1] := by cases args; simp_all
  obtain ⟨rfl, rfl⟩ := trodVars_none hV
  obtain ⟨ao, len, cap, rfl⟩ := okWide_slice Try.underlying23 (hval 0 23 v0 rfl rfl)
  obtain ⟨a1, rfl, rfl, rfl, w1⟩ := open_int Try.underlying3 (hval 1 3 v1 rfl rfl) h1
  obtain ⟨l, rfl, hr, _⟩ := open_bytes Try.underlying23 Try.underlying5 (by kernel_rfl) h0
  have hb : l.length ≤ 140737488351232 := by
    have := reach_slice (sz := 1) h0 Try.underlying23 (by kernel_rfl) (mem_weights hreach 0 rfl rfl)
    omega
  refine (Swaps.walk l _ a1 W hr (by omega)).mono ?_
  refine fun e W' ⟨he, hS⟩ => ?_
  subst he
  exact ⟨_, rfl, law_post (tb := 4) (by kernel_rfl) (by kernel_rfl) rfl Try.underlying4 rfl hW' rfl hS⟩

theorem Swaps.own : ownKnob Try.prog.godebug = none := by kernel_rfl
set_option maxRecDepth 100000 in
theorem Swaps.lifted (os : Os) (started : os.Started) (H : Type) (enc : TypeId × Value → H) :
    ReturnsInHanded {} Try.checked os 6 .any (Rows.adlerSwapsSpec.pre6 enc Try.prog Try.f6 Rows.adlerSwapsRow.domain false) (Rows.adlerSwapsSpec.post enc Try.prog Try.f6 false true false false) := by
  refine returnsInHanded_of_change_shaped (C := Try.checked) Swaps.own started (by kernel_rfl) Try.func6
    (ChangeSpec.witness6 (enc := enc) (C := Try.checked) false ⟨#[], #[.slice none 0 0, .int .i64 0], []⟩ 8 (by kernel_rfl) (by kernel_rfl) (by kernel_rfl) (by kernel_rfl)) ?_
  intro W base args ds gs before hval hW _ hreach _ _
  exact Swaps.contract H enc W base args ds gs before hval hW hreach

theorem Swaps.holds : Rows.AdlerSwapsSaid :=
  OpenClaim.holds_of_wide 6 Try.f6 rfl rfl rfl rfl rfl rfl rfl ⟨rfl, rfl, rfl, rfl, rfl⟩ rfl rfl rfl rfl rfl (by kernel_rfl) Try.func6 (by kernel_rfl)
    (of_decide_eq_true (by kernel_rfl)) (by unfold Func.isWrapper; first | (rw [if_pos (by decide +kernel)]; kernel_rfl) | (rw [if_neg (by decide +kernel)]; exact ⟨rfl, rfl⟩))
    (fun os started H enc _ => Swaps.lifted os started H enc)
end Go.Proofs.Ytdajmojaelpilaa
