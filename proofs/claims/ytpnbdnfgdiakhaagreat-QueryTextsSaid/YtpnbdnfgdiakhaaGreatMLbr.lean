/-
  The document's labels (package pedigreeref16): source by source, again and again (plain).
  The document's labels (package pedigreeref16): All, Of.
-/
import Derived.Test.YtpnbdnfgdiakhaaGreatMLbl
namespace Go.Proofs.YtpnbdnfgdiakhaaGreat
open Go.Sep
set_option linter.unusedSimpArgs false
set_option linter.unusedVariables false
/-- Labels as they stand: all sources below s are done, of s itself so many. -/
noncomputable def lv (G : Gr) (s : Nat) (S : Nat → Bool) (n : Nat) : Nat := bitsOf (fun t => if t < s then G.srcB n t else decide (t = s) && S n) 8
theorem lv_lt (G : Gr) (s : Nat) (S : Nat → Bool) (n : Nat) : lv G s S n < 256 := bitsOf_lt _ 8
theorem lv_test (G : Gr) (s : Nat) (S : Nat → Bool) (n t : Nat) : (lv G s S n).testBit t = (decide (t < 8) && (if t < s then G.srcB n t else decide (t = s) && S n)) := bitsOf_test _ _ _
theorem lv_bit {G : Gr} {s : Nat} (hs : s < 8) (S : Nat → Bool) (n : Nat) : (lv G s S n).testBit s = S n := by
  rw [lv_test, decide_eq_true hs, if_neg (Nat.lt_irrefl s)]; simp
theorem lv_zero (G : Gr) (n : Nat) : lv G 0 (fun _ => false) n = 0 := by
  apply Nat.eq_of_testBit_eq
  intro t
  rw [lv_test, if_neg (Nat.not_lt_zero t)]; simp
theorem lv_put {G : Gr} {s : Nat} (hs : s < 8) (S : Nat → Bool) (n : Nat) : (fun k => if k = n then lv G s S n ||| 2 ^ s else lv G s S k) = lv G s (fun t => S t || decide (t = n)) := by
  funext k
  apply Nat.eq_of_testBit_eq
  intro t
  by_cases hk : k = n
  · subst hk
    rw [if_pos rfl, Nat.testBit_or, lv_test, lv_test, Nat.testBit_two_pow]
    by_cases ht : t = s
    · subst ht; simp [hs]
    · have : decide (s = t) = false := decide_eq_false (fun e => ht e.symm)
      rw [this, Bool.or_false, decide_eq_false ht]; simp
  · rw [if_neg hk, lv_test, lv_test]; simp [hk]
theorem lv_next {G : Gr} {s : Nat} {S : Nat → Bool} {N : Nat} (h : ∀ n, n < N → S n = G.srcB n s) {n : Nat} (hn : n < N) : lv G s S n = lv G (s + 1) (fun _ => false) n := by
  apply Nat.eq_of_testBit_eq
  intro t
  rw [lv_test, lv_test]
  congr 1
  by_cases h1 : t < s
  · rw [if_pos h1, if_pos (by omega)]
  · rw [if_neg h1]
    by_cases h2 : t = s
    · subst h2; rw [if_pos (by omega), h n hn]; simp
    · rw [if_neg (by omega), decide_eq_false h2]; simp
theorem lv_lab (G : Gr) (n : Nat) : lv G 8 (fun _ => false) n = G.lab n := by
  apply Nat.eq_of_testBit_eq
  intro t
  rw [lv_test, Gr.lab_test]
  by_cases h : t < 8
  · rw [if_pos h]
  · rw [decide_eq_false h]; simp
def reachB (G : Gr) (s : Nat) (S : Nat → Bool) (x : NodeD) (n : Nat) : Bool := !x.clear.testBit s && (x.mark.testBit s || G.E.any fun e => decide (e.1 = n) && S e.2)
structure SrI (G : Gr) (s : Nat) (S : Nat → Bool) : Prop where
  src : ∀ n, S n = true → G.Src s n
structure SrJ (G : Gr) (s : Nat) (S : Nat → Bool) (i : Nat) (S' : Nat → Bool) (m : Bool) : Prop where
  inv : SrI G s S'
  no : m = false → S' = S ∧ ∀ n x, n < i → G.N[n]? = some x → S' n = false → reachB G s S' x n = false
  yes : m = true → fls S' G.N.length < fls S G.N.length
theorem SrJ.start {G : Gr} {s : Nat} {S : Nat → Bool} (h : SrI G s S) : SrJ G s S 0 S false := ⟨h, fun _ => ⟨rfl, fun n x hn => by omega⟩, fun h => by cases h⟩
theorem SrJ.skip {G : Gr} {s i : Nat} {S S' : Nat → Bool} {m : Bool} {x : NodeD} (h : SrJ G s S i S' m) (hx : G.N[i]? = some x) (hr : S' i = true ∨ reachB G s S' x i = false) : SrJ G s S (i + 1) S' m where
  inv := h.inv
  no := fun hm => ⟨(h.no hm).1, fun n y hn hy hf => by
    by_cases e : n = i
    · subst e
      rw [hx] at hy; cases hy
      rcases hr with hr | hr
      · rw [hr] at hf; cases hf
      · exact hr
    · exact (h.no hm).2 n y (by omega) hy hf⟩
  yes := h.yes
theorem SrJ.put {G : Gr} {s i : Nat} {S S' : Nat → Bool} {m : Bool} {x : NodeD} (h : SrJ G s S i S' m) (hx : G.N[i]? = some x) (hf : S' i = false) (hr : reachB G s S' x i = true) : SrJ G s S (i + 1) (fun t => S' t || decide (t = i)) true where
  inv := ⟨fun n hn => by
    simp only [Bool.or_eq_true, decide_eq_true_eq] at hn
    rcases hn with hn | rfl
    · exact h.inv.src n hn
    · unfold reachB at hr
      simp only [Bool.and_eq_true, Bool.not_eq_true', Bool.or_eq_true, List.any_eq_true, decide_eq_true_eq] at hr
      obtain ⟨h1, h2 | ⟨e, he, h3, h4⟩⟩ := hr
      · exact Gr.Src.base hx h2 h1
      · exact Gr.Src.step (by rw [← h3]; exact he) hx h1 (h.inv.src _ h4)⟩
  no := fun h => by cases h
  yes := fun _ => by
    have h1 := fls_put (n := G.N.length) (List.getElem?_eq_some_iff.1 hx).1 hf
    cases m with
    | true => have := h.yes rfl; omega
    | false => rw [(h.no rfl).1] at h1 ⊢; exact h1
theorem SrI.done {G : Gr} {s : Nat} {S : Nat → Bool} (h : SrI G s S) (hc : ∀ n x, n < G.N.length → G.N[n]? = some x → S n = false → reachB G s S x n = false) {n : Nat} : S n = G.srcB n s := by
  rw [Bool.eq_iff_iff, Gr.srcB_iff]
  refine ⟨h.src n, fun hs => ?_⟩
  refine hs (fun m => S m = true) (fun m x hx h1 h2 => ?_) (fun m u x he hx h2 hu => ?_)
  · cases hS : S m with
    | true => rfl
    | false =>
      have := hc m x (List.getElem?_eq_some_iff.1 hx).1 hx hS
      unfold reachB at this
      rw [h2, h1] at this; cases this
  · cases hS : S m with
    | true => rfl
    | false =>
      have := hc m x (List.getElem?_eq_some_iff.1 hx).1 hx hS
      unfold reachB at this
      rw [h2] at this
      have h3 : (G.E.any fun e => decide (e.1 = m) && S e.2) = true := List.any_eq_true.2 ⟨(m, u), he, by simp [hu]⟩
      rw [h3] at this; simp at this
theorem and_bit (y s : Nat) (hy : y < 256) (hs : s < 8) : bits .and .i64 (y : Int) ((2 ^ s : Nat) : Int) = if y.testBit s then ((2 ^ s : Nat) : Int) else 0 := by
  have h2 : 2 ^ s < 256 := Nat.lt_of_lt_of_le (Nat.pow_lt_pow_right (by decide) hs) (by decide : 2 ^ 8 ≤ 256)
  have h1 : bits .and .i64 (y : Int) ((2 ^ s : Nat) : Int) = ((y &&& 2 ^ s : Nat) : Int) := by
    have hx2 : y &&& 2 ^ s ≤ 2 ^ s := Nat.and_le_right
    show IntKind.i64.wrap ((BitVec.ofInt 64 (y : Int) &&& BitVec.ofInt 64 ((2 ^ s : Nat) : Int)).toNat : Int) = _
    rw [BitVec.toNat_and, bv_nat _ hy, bv_nat _ h2, IntWalk.i64_in _ (by omega)]
  have e : y &&& 2 ^ s = if y.testBit s then 2 ^ s else 0 := by
    apply Nat.eq_of_testBit_eq
    intro t
    rw [Nat.testBit_and, Nat.testBit_two_pow]
    by_cases ht : s = t
    · subst ht
      cases h : y.testBit s <;> simp [Nat.testBit_two_pow]
    · rw [decide_eq_false ht, Bool.and_false]
      cases y.testBit s
      · simp
      · rw [if_pos rfl, Nat.testBit_two_pow, decide_eq_false ht]
  rw [h1, e]
  cases y.testBit s <;> simp
end Go.Proofs.YtpnbdnfgdiakhaaGreat
namespace Go.Proofs.YtpnbdnfgdiakhaaGreat
open Go.RowKit Go.Sep
set_option linter.unusedSimpArgs false
set_option linter.unusedVariables false
attribute [local irreducible] Go.Oper.wp Go.wpList Go.Calls Go.Code.wp Go.Sep.Reg
theorem il_put {G : Gr} {s n N : Nat} (hs : s < 8) (S : Nat → Bool) (hn : n < N) : (il (lv G s S) N).set n (.int .i64 ((lv G s S n ||| 2 ^ s : Nat) : Int)) = il (lv G s (fun t => S t || decide (t = n))) N := by
  rw [il_set _ hn, ← lv_put hs S n]; rfl
def bitI (s : Nat) : Option Value → Bool
  | some (.int _ y) => y.toNat.testBit s
  | _ => false
def msI (w : World) (b s n : Nat) : Nat := (List.range n).countP fun k => !bitI s (w.cell? ⟨b, k, none⟩)
theorem msI_eq {G : Gr} {W w : World} {L : List Asrt} {b E n k s : Nat} {S : Nat → Bool} (h : Sat W w L) (hs : s < 8) (hk : Has L k (Cs b E (il (lv G s S) n))) : msI w b s n = fls S n := by
  refine List.countP_congr fun j hj => ?_
  rw [h.cell hk (il_at (List.mem_range.1 hj))]
  simp [bitI, lv_bit hs]
set_option maxRecDepth 20000 in
set_option maxHeartbeats 4000000 in
theorem rall_any {W w : World} {L : List Asrt} {p : Nat} {G : Gr} (hS : Sat W w (IsR p G :: L)) (hG : G.Ok) :
    Calls Tryz.prog 25 #[.pointer (some ⟨p, 0, none⟩)] w fun e w' => ∃ b, e = .returned (.slice (some ⟨b, 0, none⟩) G.N.length G.N.length) ∧ Sat W w' (Cs b 3 (il G.lab G.N.length) :: IsR p G :: L) := by
  have HG := Lib.hid hG
  have hnl : (G.N.length : Int) ≤ 4096 := by have := hG.len; omega
  have hel : (G.E.length : Int) ≤ 1000000 := by have := hG.edges; omega
  clear hG
  obtain ⟨an, cn, ae, ce, hcn, hce, hS⟩ := IsR.open hS
  go_enter Tryz.func25, Tryz.ntmps25
  go_wp2_with (first
    | (refine toList (by rfl) ?_; refine ld hS _ _ (by rfl) _ _ (by rfl) (agOf (by rfl)) (by repeat first | exact Has.z | apply Has.s) (by rfl) ?_)
    | (refine toList (by rfl) ?_; refine mk hS _ _ _ (by rfl) G.N.length G.N.length _ _ (by rfl) (by rfl) (elOf (by rfl)) (by omega) (by omega) (by omega) ?_; intro lb w1 hS1; clear hS; have hS := hS1; clear hS1; rw [made_int] at hS))
  have HZ := Lib.hid (show il (fun _ => 0) G.N.length = il (lv G 0 (fun _ => false)) G.N.length from il_congr fun k _ => (lv_zero G k).symm)
  rw [HZ.out] at hS
  have H0 := Lib.hid hS
  go_loopw [4] (fun v wz => ∃ s : Nat, v = .int .i64 s ∧ s ≤ 8 ∧ Sat W wz (Cs lb 3 (il (lv G s (fun _ => false)) G.N.length) :: Cs p 53 [.slice an G.N.length cn, .slice ae G.E.length ce] :: Tb 60 6 nv (.slice an G.N.length cn) G.N :: Tb 83 2 ev (.slice ae G.E.length ce) G.E :: L)) (fun v _ => 8 - (intOf v).toNat)
  case atStart => exact ⟨0, rfl, by omega, H0.out⟩
  case round =>
    clear hS H0 HZ
    obtain ⟨s, rfl, hs, hS⟩ := hrel
    by_cases hl : s < 8
    · have s1 : (s : Int) < 8 := by omega
      have HS8 := Lib.hid hl
      have hsh : min (IntKind.u64.wrap (s : Int)).toNat 64 = s := by rw [IntWalk.u64_in _ (by omega)]; omega
      clear hl
      have hpw : 2 ^ s < 256 := Nat.lt_of_lt_of_le (Nat.pow_lt_pow_right (by decide) HS8.out) (by decide : 2 ^ 8 ≤ 256)
      obtain ⟨B, hB⟩ : ∃ B, 2 ^ s = B := ⟨_, rfl⟩
      rw [hB] at hpw
      have HW := Lib.hid (show wrap64 (2 ^ s) = (B : Int) by rw [show (2 : Int) ^ s = (B : Int) by rw [← hB]; simp, IntWalk.wrap64_in _ (by omega)])
      go_wp2
      rw [HW.out]
      have HB := Lib.hid hB
      have HAND := Lib.hid (fun (y : Nat) (h : y < 256) => (show bits .and .i64 (y : Int) (B : Int) = if y.testBit s then (B : Int) else 0 by rw [← hB]; exact and_bit y s h HS8.out))
      have hBp : 0 < B := by rw [← hB]; exact Nat.two_pow_pos s
      clear hB HW hsh
      have H1 := Lib.hid hS
      go_loopw [6] (fun v wz => ∃ (S : Nat → Bool) (m : Bool), v = .bool m ∧ SrI G s S ∧ (m = false → ∀ n x, n < G.N.length → G.N[n]? = some x → S n = false → reachB G s S x n = false) ∧ Sat W wz (Cs lb 3 (il (lv G s S) G.N.length) :: Cs p 53 [.slice an G.N.length cn, .slice ae G.E.length ce] :: Tb 60 6 nv (.slice an G.N.length cn) G.N :: Tb 83 2 ev (.slice ae G.E.length ce) G.E :: L)) (fun v wz => 2 * msI wz lb s G.N.length + boolN v)
      case atStart => exact ⟨_, true, rfl, ⟨fun n h => by cases h⟩, (fun h => by cases h), H1.out⟩
      case round =>
        clear hS H1
        obtain ⟨S, m, rfl, hI, hm, hS⟩ := hrel
        have HI := Lib.hid hI
        have HF := Lib.hid (msI_eq hS HS8.out (k := 0) rfl)
        cases m
        · have HN := Lib.hid (show il (lv G s S) G.N.length = il (lv G (s + 1) (fun _ => false)) G.N.length from il_congr fun k hk => lv_next (fun n _ => hI.done (hm rfl)) hk)
          clear hI hm
          rw [HN.out] at hS
          go_wp2
          exact ⟨⟨s + 1, by go_num, HS8.out, hS⟩, by simp [intOf]; have := HS8.out; omega⟩
        · clear hI hm
          go_wp2
          have H2 := Lib.hid hS
          go_loopw [6, 7] (fun v6 v7 wz => ∃ (n : Nat) (S' : Nat → Bool) (m : Bool), v7 = .int .i64 n ∧ v6 = .bool m ∧ n ≤ G.N.length ∧ SrJ G s S n S' m ∧ Sat W wz (Cs lb 3 (il (lv G s S') G.N.length) :: Cs p 53 [.slice an G.N.length cn, .slice ae G.E.length ce] :: Tb 60 6 nv (.slice an G.N.length cn) G.N :: Tb 83 2 ev (.slice ae G.E.length ce) G.E :: L)) (fun _ v7 _ => G.N.length - (intOf v7).toNat)
          case atStart => exact ⟨0, S, false, rfl, rfl, by omega, SrJ.start HI.out, H2.out⟩
          case round =>
            clear hS H2
            obtain ⟨n, S', m, rfl, rfl, hn, hJ, hS⟩ := hrel
            have HJ := Lib.hid hJ
            clear hJ
            by_cases hl2 : n < G.N.length
            · have n1 : (n : Int) < (G.N.length : Int) := by omega
              have HNL := Lib.hid hl2
              obtain ⟨⟨x1, x2, x3, x4, x5, x6⟩, hx⟩ : ∃ x, G.N[n]? = some x := ⟨_, List.getElem?_eq_getElem hl2⟩
              have HX := Lib.hid hx
              have hmk := HG.out.marks _ (List.mem_of_getElem? hx)
              dsimp only at hmk
              obtain ⟨bn, on, c', hv, _⟩ := hS.tbAddr (k := 2) rfl (by omega)
              simp only [Value.slice.injEq, true_and] at hv
              obtain ⟨rfl, rfl⟩ := hv
              have hvn := il_at (f := lv G s S') hl2
              have hand1 := HAND.out (lv G s S' n) (lv_lt G s S' n)
              rw [lv_bit HS8.out] at hand1
              have hor := or_256' (lv G s S' n) B (lv_lt G s S' n) hpw
              have HPUT := Lib.hid (show (il (lv G s S') G.N.length).set n (.int .i64 ((lv G s S' n ||| B : Nat) : Int)) = il (lv G s (fun t => S' t || decide (t = n))) G.N.length by rw [← HB.out]; exact il_put HS8.out S' hl2)
              obtain ⟨y, hy⟩ : ∃ y, lv G s S' n = y := ⟨_, rfl⟩
              rw [hy] at hvn hand1 hor HPUT
              have HVN := Lib.hid hvn
              have hand2 := HAND.out x5 hmk.2
              have hand3 := HAND.out x4 hmk.1
              have b1 : ((B : Int) != 0) = true := by simp; omega
              have b2 : (B != 0) = true := by simp; omega
              have b3 : ((B : Int) == 0) = false := by simp; omega
              clear hx hl2 hvn hy hmk
              cases hsn : S' n
              · rw [hsn, if_neg (by decide)] at hand1
                have HSN := Lib.hid hsn
                clear hsn
                cases h5 : x5.testBit s
                · rw [h5, if_neg (by decide)] at hand2
                  obtain ⟨P, hP⟩ : ∃ P, (fun e : Nat × Nat => decide (e.1 = n) && S' e.2) = P := ⟨_, rfl⟩
                  have HP := Lib.hid hP
                  have HRB := Lib.hid (show reachB G s S' ⟨x1, x2, x3, x4, x5, x6⟩ n = (x4.testBit s || G.E.any P) by unfold reachB; rw [h5, hP]; rfl)
                  clear h5 hP
                  cases h4 : x4.testBit s
                  · rw [h4, if_neg (by decide)] at hand3
                    rw [h4] at HRB
                    clear h4
                    go_wp2_with (first
                      | (refine toList (by rfl) ?_; refine ld hS _ _ (by rfl) _ _ (by rfl) (agOf (by rfl)) Has.z HVN.out ?_)
                      | (refine toList (by rfl) ?_; refine ldTb hS _ _ (by rfl) _ _ (by rfl) (agOf (by rfl)) (Has.s (Has.s Has.z)) n 4 (by omega) HX.out (by rfl) ?_)
                      | (refine toList (by rfl) ?_; refine ldTb hS _ _ (by rfl) _ _ (by rfl) (agOf (by rfl)) (Has.s (Has.s Has.z)) n 3 (by omega) HX.out (by rfl) ?_)
                      | (refine toList (by rfl) ?_; refine ld hS _ _ (by rfl) _ _ (by rfl) (agOf (by rfl)) (by repeat first | exact Has.z | apply Has.s) (by rfl) ?_))
                    have H3 := Lib.hid hS
                    go_loopw [8, 9] (fun v8 v9 wz => ∃ (i : Nat) (f : Bool), v9 = .int .i64 i ∧ v8 = .bool f ∧ i ≤ G.E.length ∧ (false || (G.E.take i).any P) = f ∧ Sat W wz (Cs lb 3 (il (lv G s S') G.N.length) :: Cs p 53 [.slice (some ⟨bn, on, none⟩) G.N.length cn, .slice ae G.E.length ce] :: Tb 60 6 nv (.slice (some ⟨bn, on, none⟩) G.N.length cn) G.N :: Tb 83 2 ev (.slice ae G.E.length ce) G.E :: L)) (fun _ v9 _ => G.E.length - (intOf v9).toNat)
                    case atStart => exact ⟨0, false, rfl, rfl, by omega, by simp, H3.out⟩
                    case round =>
                      clear hS H3
                      obtain ⟨i, f, rfl, rfl, hi, hf, hS⟩ := hrel
                      have HFF := Lib.hid hf
                      clear hf
                      cases f
                      · by_cases hl3 : i < G.E.length
                        · have i1 : (i : Int) < (G.E.length : Int) := by omega
                          obtain ⟨⟨u, v⟩, hu⟩ : ∃ e, G.E[i]? = some e := ⟨_, List.getElem?_eq_getElem hl3⟩
                          have HU := Lib.hid hu
                          have hvl := (HG.out.low _ (List.mem_of_getElem? hu)).2
                          dsimp only at hvl
                          have v1 : (v : Int) < (G.N.length : Int) := by omega
                          obtain ⟨be, oe, c', hv, _⟩ := hS.tbAddr (k := 3) rfl (by omega)
                          simp only [Value.slice.injEq, true_and] at hv
                          obtain ⟨rfl, rfl⟩ := hv
                          have HIL := Lib.hid hl3
                          have HNX := Lib.hid (show (false || (G.E.take (i + 1)).any P) = P (u, v) by
                            rw [List.take_add_one, hu, List.any_append, ← Bool.or_assoc, HFF.out]; simp)
                          have hv2 := il_at (f := lv G s S') hvl
                          have hand4 := HAND.out (lv G s S' v) (lv_lt G s S' v)
                          rw [lv_bit HS8.out] at hand4
                          obtain ⟨z, hz⟩ : ∃ z, lv G s S' v = z := ⟨_, rfl⟩
                          rw [hz] at hv2 hand4
                          have HV2 := Lib.hid hv2
                          clear hu hvl hl3 hv2 hz
                          by_cases hun : u = n
                          · subst hun
                            cases hsv : S' v
                            · rw [hsv, if_neg (by decide)] at hand4
                              have HPV := Lib.hid (show P (u, v) = false by rw [← HP.out]; simp [hsv])
                              clear hsv
                              go_wp2_with (first
                                | (refine toList (by rfl) ?_; refine ldTb hS _ _ (by rfl) _ _ (by rfl) (agOf (by rfl)) (Has.s (Has.s (Has.s Has.z))) i 0 (by omega) HU.out (by rfl) ?_)
                                | (refine toList (by rfl) ?_; refine ldTb hS _ _ (by rfl) _ _ (by rfl) (agOf (by rfl)) (Has.s (Has.s (Has.s Has.z))) i 1 (by omega) HU.out (by rfl) ?_)
                                | (refine toList (by rfl) ?_; refine ld hS _ _ (by rfl) _ _ (by rfl) (agOf (by rfl)) Has.z HV2.out ?_)
                                | (refine toList (by rfl) ?_; refine ld hS _ _ (by rfl) _ _ (by rfl) (agOf (by rfl)) (by repeat first | exact Has.z | apply Has.s) (by rfl) ?_))
                              exact ⟨⟨i + 1, false, by go_num, rfl, HIL.out, by rw [HNX.out, HPV.out], hS⟩, by simp [intOf]; have := HIL.out; omega⟩
                            · rw [hsv, if_pos rfl] at hand4
                              have HPV := Lib.hid (show P (u, v) = true by rw [← HP.out]; simp [hsv])
                              clear hsv
                              go_wp2_with (first
                                | (refine toList (by rfl) ?_; refine ldTb hS _ _ (by rfl) _ _ (by rfl) (agOf (by rfl)) (Has.s (Has.s (Has.s Has.z))) i 0 (by omega) HU.out (by rfl) ?_)
                                | (refine toList (by rfl) ?_; refine ldTb hS _ _ (by rfl) _ _ (by rfl) (agOf (by rfl)) (Has.s (Has.s (Has.s Has.z))) i 1 (by omega) HU.out (by rfl) ?_)
                                | (refine toList (by rfl) ?_; refine ld hS _ _ (by rfl) _ _ (by rfl) (agOf (by rfl)) Has.z HV2.out ?_)
                                | (refine toList (by rfl) ?_; refine ld hS _ _ (by rfl) _ _ (by rfl) (agOf (by rfl)) (by repeat first | exact Has.z | apply Has.s) (by rfl) ?_))
                              exact ⟨⟨i + 1, true, by go_num, rfl, HIL.out, by rw [HNX.out, HPV.out], hS⟩, by simp [intOf]; have := HIL.out; omega⟩
                          · have f1 : ((u : Int) == (n : Int)) = false := by simp; omega
                            have f2 : decide ((u : Int) = (n : Int)) = false := decide_eq_false (by omega)
                            have f3 : ¬ (u : Int) = (n : Int) := by omega
                            have f5 : (u == n) = false := by simp [hun]
                            have HPV := Lib.hid (show P (u, v) = false by rw [← HP.out]; simp [hun])
                            clear hun hand4
                            go_wp2_with (first
                              | (refine toList (by rfl) ?_; refine ldTb hS _ _ (by rfl) _ _ (by rfl) (agOf (by rfl)) (Has.s (Has.s (Has.s Has.z))) i 0 (by omega) HU.out (by rfl) ?_)
                              | (refine toList (by rfl) ?_; refine ld hS _ _ (by rfl) _ _ (by rfl) (agOf (by rfl)) (by repeat first | exact Has.z | apply Has.s) (by rfl) ?_))
                            exact ⟨⟨i + 1, false, by go_num, rfl, HIL.out, by rw [HNX.out, HPV.out], hS⟩, by simp [intOf]; have := HIL.out; omega⟩
                        · have i1 : ¬ (i : Int) < (G.E.length : Int) := by omega
                          have HRF := Lib.hid (show reachB G s S' ⟨x1, x2, x3, x4, x5, x6⟩ n = false by rw [HRB.out]; have h := HFF.out; rw [List.take_of_length_le (by omega)] at h; exact h)
                          clear hl3
                          go_wp2_with (refine toList (by rfl) ?_; refine ld hS _ _ (by rfl) _ _ (by rfl) (agOf (by rfl)) (by repeat first | exact Has.z | apply Has.s) (by rfl) ?_)
                          exact ⟨⟨n + 1, S', m, by go_num, rfl, HNL.out, HJ.out.skip HX.out (.inr HRF.out), hS⟩, by simp [intOf]; have := HNL.out; omega⟩
                      · have HRT := Lib.hid (show reachB G s S' ⟨x1, x2, x3, x4, x5, x6⟩ n = true by
                          rw [HRB.out]
                          have h := HFF.out
                          rw [Bool.or_eq_true] at h ⊢
                          refine h.imp id fun h => ?_
                          obtain ⟨e, he, hp⟩ := List.any_eq_true.1 h
                          exact List.any_eq_true.2 ⟨e, List.mem_of_mem_take he, hp⟩)
                        go_wp2_with (first
                          | (refine toList (by rfl) ?_; refine st hS _ _ _ (by rfl) _ _ (by rfl) _ (by first | exact evC | exact evT (by rfl)) (by rfl) (szOf (by rfl)) Has.z (by rw [il_len]; exact HNL.out) ?_; intro w1 hS1; clear hS; have hS := hS1; clear hS1; simp only [List.set_cons_zero] at hS; rw [HPUT.out] at hS)
                          | (refine toList (by rfl) ?_; refine ld hS _ _ (by rfl) _ _ (by rfl) (agOf (by rfl)) Has.z HVN.out ?_)
                          | (refine toList (by rfl) ?_; refine ldTb hS _ _ (by rfl) _ _ (by rfl) (agOf (by rfl)) (Has.s (Has.s Has.z)) n 4 (by omega) HX.out (by rfl) ?_)
                          | (refine toList (by rfl) ?_; refine ldTb hS _ _ (by rfl) _ _ (by rfl) (agOf (by rfl)) (Has.s (Has.s Has.z)) n 3 (by omega) HX.out (by rfl) ?_)
                          | (refine toList (by rfl) ?_; refine ld hS _ _ (by rfl) _ _ (by rfl) (agOf (by rfl)) (by repeat first | exact Has.z | apply Has.s) (by rfl) ?_))
                        all_goals exact ⟨⟨n + 1, _, true, by go_num, rfl, HNL.out, HJ.out.put HX.out HSN.out HRT.out, hS⟩, by simp [intOf]; have := HNL.out; omega⟩
                  · rw [h4, if_pos rfl] at hand3
                    rw [h4] at HRB
                    clear h4
                    go_wp2_with (first
                      | (refine toList (by rfl) ?_; refine ld hS _ _ (by rfl) _ _ (by rfl) (agOf (by rfl)) Has.z HVN.out ?_)
                      | (refine toList (by rfl) ?_; refine ldTb hS _ _ (by rfl) _ _ (by rfl) (agOf (by rfl)) (Has.s (Has.s Has.z)) n 4 (by omega) HX.out (by rfl) ?_)
                      | (refine toList (by rfl) ?_; refine ldTb hS _ _ (by rfl) _ _ (by rfl) (agOf (by rfl)) (Has.s (Has.s Has.z)) n 3 (by omega) HX.out (by rfl) ?_)
                      | (refine toList (by rfl) ?_; refine ld hS _ _ (by rfl) _ _ (by rfl) (agOf (by rfl)) (by repeat first | exact Has.z | apply Has.s) (by rfl) ?_))
                    have H3 := Lib.hid hS
                    go_loopw [8, 9] (fun v8 v9 wz => ∃ (i : Nat) (f : Bool), v9 = .int .i64 i ∧ v8 = .bool f ∧ i ≤ G.E.length ∧ (true || (G.E.take i).any P) = f ∧ Sat W wz (Cs lb 3 (il (lv G s S') G.N.length) :: Cs p 53 [.slice (some ⟨bn, on, none⟩) G.N.length cn, .slice ae G.E.length ce] :: Tb 60 6 nv (.slice (some ⟨bn, on, none⟩) G.N.length cn) G.N :: Tb 83 2 ev (.slice ae G.E.length ce) G.E :: L)) (fun _ v9 _ => G.E.length - (intOf v9).toNat)
                    case atStart => exact ⟨0, true, rfl, rfl, by omega, by simp, H3.out⟩
                    case round =>
                      clear hS H3
                      obtain ⟨i, f, rfl, rfl, hi, hf, hS⟩ := hrel
                      have HFF := Lib.hid hf
                      clear hf
                      cases f
                      · by_cases hl3 : i < G.E.length
                        · have i1 : (i : Int) < (G.E.length : Int) := by omega
                          obtain ⟨⟨u, v⟩, hu⟩ : ∃ e, G.E[i]? = some e := ⟨_, List.getElem?_eq_getElem hl3⟩
                          have HU := Lib.hid hu
                          have hvl := (HG.out.low _ (List.mem_of_getElem? hu)).2
                          dsimp only at hvl
                          have v1 : (v : Int) < (G.N.length : Int) := by omega
                          obtain ⟨be, oe, c', hv, _⟩ := hS.tbAddr (k := 3) rfl (by omega)
                          simp only [Value.slice.injEq, true_and] at hv
                          obtain ⟨rfl, rfl⟩ := hv
                          have HIL := Lib.hid hl3
                          have HNX := Lib.hid (show (true || (G.E.take (i + 1)).any P) = P (u, v) by
                            rw [List.take_add_one, hu, List.any_append, ← Bool.or_assoc, HFF.out]; simp)
                          have hv2 := il_at (f := lv G s S') hvl
                          have hand4 := HAND.out (lv G s S' v) (lv_lt G s S' v)
                          rw [lv_bit HS8.out] at hand4
                          obtain ⟨z, hz⟩ : ∃ z, lv G s S' v = z := ⟨_, rfl⟩
                          rw [hz] at hv2 hand4
                          have HV2 := Lib.hid hv2
                          clear hu hvl hl3 hv2 hz
                          by_cases hun : u = n
                          · subst hun
                            cases hsv : S' v
                            · rw [hsv, if_neg (by decide)] at hand4
                              have HPV := Lib.hid (show P (u, v) = false by rw [← HP.out]; simp [hsv])
                              clear hsv
                              go_wp2_with (first
                                | (refine toList (by rfl) ?_; refine ldTb hS _ _ (by rfl) _ _ (by rfl) (agOf (by rfl)) (Has.s (Has.s (Has.s Has.z))) i 0 (by omega) HU.out (by rfl) ?_)
                                | (refine toList (by rfl) ?_; refine ldTb hS _ _ (by rfl) _ _ (by rfl) (agOf (by rfl)) (Has.s (Has.s (Has.s Has.z))) i 1 (by omega) HU.out (by rfl) ?_)
                                | (refine toList (by rfl) ?_; refine ld hS _ _ (by rfl) _ _ (by rfl) (agOf (by rfl)) Has.z HV2.out ?_)
                                | (refine toList (by rfl) ?_; refine ld hS _ _ (by rfl) _ _ (by rfl) (agOf (by rfl)) (by repeat first | exact Has.z | apply Has.s) (by rfl) ?_))
                              exact ⟨⟨i + 1, false, by go_num, rfl, HIL.out, by rw [HNX.out, HPV.out], hS⟩, by simp [intOf]; have := HIL.out; omega⟩
                            · rw [hsv, if_pos rfl] at hand4
                              have HPV := Lib.hid (show P (u, v) = true by rw [← HP.out]; simp [hsv])
                              clear hsv
                              go_wp2_with (first
                                | (refine toList (by rfl) ?_; refine ldTb hS _ _ (by rfl) _ _ (by rfl) (agOf (by rfl)) (Has.s (Has.s (Has.s Has.z))) i 0 (by omega) HU.out (by rfl) ?_)
                                | (refine toList (by rfl) ?_; refine ldTb hS _ _ (by rfl) _ _ (by rfl) (agOf (by rfl)) (Has.s (Has.s (Has.s Has.z))) i 1 (by omega) HU.out (by rfl) ?_)
                                | (refine toList (by rfl) ?_; refine ld hS _ _ (by rfl) _ _ (by rfl) (agOf (by rfl)) Has.z HV2.out ?_)
                                | (refine toList (by rfl) ?_; refine ld hS _ _ (by rfl) _ _ (by rfl) (agOf (by rfl)) (by repeat first | exact Has.z | apply Has.s) (by rfl) ?_))
                              exact ⟨⟨i + 1, true, by go_num, rfl, HIL.out, by rw [HNX.out, HPV.out], hS⟩, by simp [intOf]; have := HIL.out; omega⟩
                          · have f1 : ((u : Int) == (n : Int)) = false := by simp; omega
                            have f2 : decide ((u : Int) = (n : Int)) = false := decide_eq_false (by omega)
                            have f3 : ¬ (u : Int) = (n : Int) := by omega
                            have f5 : (u == n) = false := by simp [hun]
                            have HPV := Lib.hid (show P (u, v) = false by rw [← HP.out]; simp [hun])
                            clear hun hand4
                            go_wp2_with (first
                              | (refine toList (by rfl) ?_; refine ldTb hS _ _ (by rfl) _ _ (by rfl) (agOf (by rfl)) (Has.s (Has.s (Has.s Has.z))) i 0 (by omega) HU.out (by rfl) ?_)
                              | (refine toList (by rfl) ?_; refine ld hS _ _ (by rfl) _ _ (by rfl) (agOf (by rfl)) (by repeat first | exact Has.z | apply Has.s) (by rfl) ?_))
                            exact ⟨⟨i + 1, false, by go_num, rfl, HIL.out, by rw [HNX.out, HPV.out], hS⟩, by simp [intOf]; have := HIL.out; omega⟩
                        · have i1 : ¬ (i : Int) < (G.E.length : Int) := by omega
                          have HRF := Lib.hid (show reachB G s S' ⟨x1, x2, x3, x4, x5, x6⟩ n = false by rw [HRB.out]; have h := HFF.out; rw [List.take_of_length_le (by omega)] at h; exact h)
                          clear hl3
                          go_wp2_with (refine toList (by rfl) ?_; refine ld hS _ _ (by rfl) _ _ (by rfl) (agOf (by rfl)) (by repeat first | exact Has.z | apply Has.s) (by rfl) ?_)
                          exact ⟨⟨n + 1, S', m, by go_num, rfl, HNL.out, HJ.out.skip HX.out (.inr HRF.out), hS⟩, by simp [intOf]; have := HNL.out; omega⟩
                      · have HRT := Lib.hid (show reachB G s S' ⟨x1, x2, x3, x4, x5, x6⟩ n = true by
                          rw [HRB.out]
                          have h := HFF.out
                          rw [Bool.or_eq_true] at h ⊢
                          refine h.imp id fun h => ?_
                          obtain ⟨e, he, hp⟩ := List.any_eq_true.1 h
                          exact List.any_eq_true.2 ⟨e, List.mem_of_mem_take he, hp⟩)
                        go_wp2_with (first
                          | (refine toList (by rfl) ?_; refine st hS _ _ _ (by rfl) _ _ (by rfl) _ (by first | exact evC | exact evT (by rfl)) (by rfl) (szOf (by rfl)) Has.z (by rw [il_len]; exact HNL.out) ?_; intro w1 hS1; clear hS; have hS := hS1; clear hS1; simp only [List.set_cons_zero] at hS; rw [HPUT.out] at hS)
                          | (refine toList (by rfl) ?_; refine ld hS _ _ (by rfl) _ _ (by rfl) (agOf (by rfl)) Has.z HVN.out ?_)
                          | (refine toList (by rfl) ?_; refine ldTb hS _ _ (by rfl) _ _ (by rfl) (agOf (by rfl)) (Has.s (Has.s Has.z)) n 4 (by omega) HX.out (by rfl) ?_)
                          | (refine toList (by rfl) ?_; refine ldTb hS _ _ (by rfl) _ _ (by rfl) (agOf (by rfl)) (Has.s (Has.s Has.z)) n 3 (by omega) HX.out (by rfl) ?_)
                          | (refine toList (by rfl) ?_; refine ld hS _ _ (by rfl) _ _ (by rfl) (agOf (by rfl)) (by repeat first | exact Has.z | apply Has.s) (by rfl) ?_))
                        all_goals exact ⟨⟨n + 1, _, true, by go_num, rfl, HNL.out, HJ.out.put HX.out HSN.out HRT.out, hS⟩, by simp [intOf]; have := HNL.out; omega⟩
                · rw [h5, if_pos rfl] at hand2
                  have HRF := Lib.hid (show reachB G s S' ⟨x1, x2, x3, x4, x5, x6⟩ n = false by unfold reachB; rw [h5]; rfl)
                  clear h5
                  go_wp2_with (first
                    | (refine toList (by rfl) ?_; refine ld hS _ _ (by rfl) _ _ (by rfl) (agOf (by rfl)) Has.z HVN.out ?_)
                    | (refine toList (by rfl) ?_; refine ldTb hS _ _ (by rfl) _ _ (by rfl) (agOf (by rfl)) (Has.s (Has.s Has.z)) n 4 (by omega) HX.out (by rfl) ?_)
                    | (refine toList (by rfl) ?_; refine ldTb hS _ _ (by rfl) _ _ (by rfl) (agOf (by rfl)) (Has.s (Has.s Has.z)) n 3 (by omega) HX.out (by rfl) ?_)
                    | (refine toList (by rfl) ?_; refine ld hS _ _ (by rfl) _ _ (by rfl) (agOf (by rfl)) (by repeat first | exact Has.z | apply Has.s) (by rfl) ?_))
                  exact ⟨⟨n + 1, S', m, by go_num, rfl, HNL.out, HJ.out.skip HX.out (.inr HRF.out), hS⟩, by simp [intOf]; have := HNL.out; omega⟩
              · rw [hsn, if_pos rfl] at hand1
                have HSN := Lib.hid hsn
                clear hsn
                go_wp2_with (first
                  | (refine toList (by rfl) ?_; refine ld hS _ _ (by rfl) _ _ (by rfl) (agOf (by rfl)) Has.z HVN.out ?_)
                  | (refine toList (by rfl) ?_; refine ldTb hS _ _ (by rfl) _ _ (by rfl) (agOf (by rfl)) (Has.s (Has.s Has.z)) n 4 (by omega) HX.out (by rfl) ?_)
                  | (refine toList (by rfl) ?_; refine ldTb hS _ _ (by rfl) _ _ (by rfl) (agOf (by rfl)) (Has.s (Has.s Has.z)) n 3 (by omega) HX.out (by rfl) ?_)
                  | (refine toList (by rfl) ?_; refine ld hS _ _ (by rfl) _ _ (by rfl) (agOf (by rfl)) (by repeat first | exact Has.z | apply Has.s) (by rfl) ?_))
                exact ⟨⟨n + 1, S', m, by go_num, rfl, HNL.out, HJ.out.skip HX.out (.inl HSN.out), hS⟩, by simp [intOf]; have := HNL.out; omega⟩
            · have n1 : ¬ (n : Int) < (G.N.length : Int) := by omega
              have HNL := Lib.hid (show G.N.length ≤ n by omega)
              clear hl2
              go_wp2_with (refine toList (by rfl) ?_; refine ld hS _ _ (by rfl) _ _ (by rfl) (agOf (by rfl)) (by repeat first | exact Has.z | apply Has.s) (by rfl) ?_)
              have hf2 := msI_eq hS HS8.out (k := 0) rfl
              refine ⟨⟨S', m, rfl, HJ.out.inv, fun h => ?_, hS⟩, ?_⟩
              · subst h
                intro j x hj hx hfj
                exact (HJ.out.no rfl).2 j x (by have := HNL.out; omega) hx hfj
              · rw [HF.out, hf2]
                cases m
                · rw [(HJ.out.no rfl).1]; simp [boolN]
                · have := HJ.out.yes rfl; simp [boolN]; omega
    · obtain rfl : s = 8 := by omega
      have HE := Lib.hid (show il (lv G 8 (fun _ => false)) G.N.length = il G.lab G.N.length from il_congr fun k _ => lv_lab G k)
      clear hl
      go_wp2
      go_ret
      rw [HE.out] at hS
      exact ⟨lb, rfl, (IsR.mk (hS.re [1, 2, 3])).pull1⟩
end Go.Proofs.YtpnbdnfgdiakhaaGreat
