/-
  The document's graph (package pedigreeref15): Marks, Reaches, Edge.
-/
import Derived.Test.YtapodjhkpahdnaaGrRef
namespace Go.Proofs.Ytapodjhkpahdnaa
open Go.RowKit Go.Sep
set_option linter.unusedSimpArgs false
set_option linter.unusedVariables false
attribute [local irreducible] Go.Oper.wp Go.wpList Go.Calls Go.Code.wp Go.Sep.Reg
def bl (S : Nat → Bool) (n : Nat) : List Value := (List.range n).map fun k => .bool (S k)
theorem bl_len (S : Nat → Bool) (n : Nat) : (bl S n).length = n := by simp [bl]
theorem bl_at {S : Nat → Bool} {n k : Nat} (h : k < n) : (bl S n)[k]? = some (.bool (S k)) := by simp [bl, h]
theorem bl_congr {S S' : Nat → Bool} {n : Nat} (h : ∀ k, k < n → S k = S' k) : bl S n = bl S' n := by
  unfold bl
  refine List.map_congr_left fun k hk => ?_
  rw [h k (List.mem_range.1 hk)]
theorem bl_zero (n : Nat) : List.replicate n (Value.bool false) = bl (fun _ => false) n := by
  unfold bl
  rw [List.map_const', List.length_range]
theorem bl_set {S : Nat → Bool} {n k : Nat} (h : k < n) : (bl S n).set k (.bool true) = bl (fun t => S t || decide (t = k)) n := by
  apply List.ext_getElem?
  intro i
  rw [List.getElem?_set, bl_len]
  by_cases hi : k = i
  · subst hi; rw [if_pos rfl, if_pos h, bl_at h]; simp
  · rw [if_neg hi]
    by_cases h2 : i < n
    · rw [bl_at h2, bl_at h2, decide_eq_false (fun e => hi e.symm), Bool.or_false]
    · rw [List.getElem?_eq_none (by rw [bl_len]; omega), List.getElem?_eq_none (by rw [bl_len]; omega)]
theorem made_bool (n : Nat) : (madeCells (Value.bool false).cells (n * 1)).toList = bl (fun _ => false) n := by
  rw [← bl_zero]
  simp [madeCells, Value.cells, Nat.mod_one, List.map_const']
def fls (S : Nat → Bool) (n : Nat) : Nat := (List.range n).countP fun k => !S k
theorem countP_lt {α : Type} {p q : α → Bool} : ∀ {l : List α}, (∀ x ∈ l, p x = true → q x = true) → (∃ x ∈ l, p x = false ∧ q x = true) → l.countP p < l.countP q
  | [], _, h => by obtain ⟨x, hx, _⟩ := h; cases hx
  | y :: l, hi, h => by
    obtain ⟨x, hx, h1, h2⟩ := h
    have hle : l.countP p ≤ l.countP q := List.countP_mono_left fun z hz => hi z (List.mem_cons_of_mem _ hz)
    rw [List.countP_cons, List.countP_cons]
    rcases List.mem_cons.1 hx with rfl | hx
    · rw [h1, h2]; simp; omega
    · have h3 := countP_lt (fun z hz => hi z (List.mem_cons_of_mem _ hz)) ⟨x, hx, h1, h2⟩
      have h4 := hi y (List.mem_cons_self ..)
      cases hp : p y with
      | true => rw [h4 hp]; simp; omega
      | false => cases q y <;> simp <;> omega
theorem fls_put {S : Nat → Bool} {n k : Nat} (h : k < n) (hk : S k = false) : fls (fun t => S t || decide (t = k)) n < fls S n := by
  refine countP_lt (fun x _ hx => ?_) ⟨k, List.mem_range.2 h, by simp, by simp [hk]⟩
  simp only [Bool.not_or, Bool.and_eq_true] at hx
  exact hx.1
def isF : Option Value → Bool
  | some (.bool false) => true
  | _ => false
def flsW (w : World) (b n : Nat) : Nat := (List.range n).countP fun k => isF (w.cell? ⟨b, k, none⟩)
def boolN : Value → Nat
  | .bool true => 1
  | _ => 0
theorem flsW_eq {W w : World} {L : List Asrt} {b E n k : Nat} {S : Nat → Bool} (h : Sat W w L) (hk : Has L k (Cs b E (bl S n))) : flsW w b n = fls S n := by
  refine List.countP_congr fun j hj => ?_
  rw [h.cell hk (bl_at (List.mem_range.1 hj))]
  cases S j <;> simp [isF]
structure MkI (G : Gr) (n : Nat) (S : Nat → Bool) : Prop where
  src : S n = true
  reach : ∀ k, S k = true → G.Reach n k
structure MkJ (G : Gr) (n : Nat) (S : Nat → Bool) (i : Nat) (S' : Nat → Bool) (m : Bool) : Prop where
  inv : MkI G n S'
  no : m = false → S' = S ∧ ∀ j, j < i → ∀ e, G.E[j]? = some e → S' e.1 = true → S' e.2 = true
  yes : m = true → fls S' G.N.length < fls S G.N.length
theorem MkJ.start {G : Gr} {n : Nat} {S : Nat → Bool} (h : MkI G n S) : MkJ G n S 0 S false := ⟨h, fun _ => ⟨rfl, fun j hj => by omega⟩, fun h => by cases h⟩
theorem MkJ.skip {G : Gr} {n i x y : Nat} {S S' : Nat → Bool} {m : Bool} (h : MkJ G n S i S' m) (he : G.E[i]? = some (x, y)) (hxy : S' x = true → S' y = true) : MkJ G n S (i + 1) S' m where
  inv := h.inv
  no := fun hm => ⟨(h.no hm).1, fun j hj e hje => by
    by_cases hji : j = i
    · subst hji
      rw [he] at hje; cases hje
      exact hxy
    · exact (h.no hm).2 j (by omega) e hje⟩
  yes := h.yes
theorem MkJ.put {G : Gr} {n i x y : Nat} {S S' : Nat → Bool} {m : Bool} (h : MkJ G n S i S' m) (he : G.E[i]? = some (x, y)) (hx : S' x = true) (hy : S' y = false) (hlt : y < G.N.length) : MkJ G n S (i + 1) (fun t => S' t || decide (t = y)) true where
  inv := ⟨by simp [h.inv.src], fun k hk => by
    simp only [Bool.or_eq_true, decide_eq_true_eq] at hk
    rcases hk with hk | rfl
    · exact h.inv.reach k hk
    · exact (h.inv.reach x hx).snoc (List.mem_of_getElem? he)⟩
  no := fun h => by cases h
  yes := fun _ => by
    have h1 := fls_put (n := G.N.length) hlt hy
    cases m with
    | true => have := h.yes rfl; omega
    | false => rw [(h.no rfl).1] at h1 ⊢; exact h1
theorem MkJ.fin {G : Gr} {n i : Nat} {S S' : Nat → Bool} (h : MkJ G n S i S' false) (hi : G.E.length ≤ i) : ∀ e ∈ G.E, S' e.1 = true → S' e.2 = true := fun e he => by
  obtain ⟨j, hj⟩ := List.mem_iff_getElem?.1 he
  exact (h.no rfl).2 j (by have := (List.getElem?_eq_some_iff.1 hj).1; omega) e hj
open Classical in
noncomputable def Gr.rB (G : Gr) (n : Int) (k : Nat) : Bool := G.is n && decide (G.Reach n.toNat k)
theorem Gr.rB_no {G : Gr} {n : Int} (h : G.is n = false) : G.rB n = fun _ => false := by funext k; unfold Gr.rB; rw [h]; rfl
theorem Gr.rB_nat {G : Gr} {n k : Nat} (h : n < G.N.length) : G.rB (n : Int) k = true ↔ G.Reach n k := by
  unfold Gr.rB
  rw [Gr.is_mk h]; simp
theorem MkI.done {G : Gr} {n : Nat} {S : Nat → Bool} (h : MkI G n S) (hn : n < G.N.length) (hc : ∀ e ∈ G.E, S e.1 = true → S e.2 = true) : S = G.rB (n : Int) := by
  funext k
  rw [Bool.eq_iff_iff, Gr.rB_nat hn]
  exact ⟨h.reach k, fun hr => hr (fun z => S z = true) h.src fun a b h1 h2 => hc (a, b) h2 h1⟩
theorem MkI.start (G : Gr) (n : Nat) : MkI G n (fun t => (fun _ => false) t || decide (t = n)) := ⟨by simp, fun k hk => by
  have : k = n := by simpa using hk
  subst this; exact Gr.Reach.refl G k⟩
set_option maxRecDepth 20000 in
set_option maxHeartbeats 2000000 in
theorem marks_any {W w : World} {L : List Asrt} {p : Nat} {G : Gr} (hS : Sat W w (IsR p G :: L)) (hG : G.Ok) (n : Int) :
    Calls Try.prog 110 #[.pointer (some ⟨p, 0, none⟩), .int .i64 n] w fun e w' => ∃ b, e = .returned (.slice (some ⟨b, 0, none⟩) G.N.length G.N.length) ∧ Sat W w' (Cs b 4 (bl (G.rB n) G.N.length) :: IsR p G :: L) := by
  have HLN := Lib.hid hG.len
  cases hb : G.is n
  · rw [Gr.rB_no hb]
    have HB := Lib.hid hb
    clear hb
    have HIS : Hid (∀ w L, Sat W w (IsR p G :: L) → Calls Try.prog 80 #[.pointer (some ⟨p, 0, none⟩), .int .i64 n] w fun e w' => e = .returned (.bool false) ∧ w = w') := Lib.hid fun w L h => is_any h n HB.out
    obtain ⟨an, cn, ae, ce, hcn, hce, hS⟩ := IsR.open hS
    go_enter Try.func110, Try.ntmps110
    go_wp2_with (first
      | (refine toList (by rfl) ?_; refine ld hS _ _ (by rfl) _ _ (by rfl) (agOf (by rfl)) (by first | exact Has.z | exact Has.s Has.z | exact Has.s (Has.s Has.z) | exact Has.s (Has.s (Has.s Has.z)) | exact Has.s (Has.s (Has.s (Has.s Has.z))) | exact Has.s (Has.s (Has.s (Has.s (Has.s Has.z))))) (by rfl) ?_)
      | (refine toList (by rfl) ?_; refine mk hS _ _ _ (by rfl) G.N.length G.N.length _ _ (by rfl) (by rfl) (elOf (by rfl)) (by omega) (by have := HLN.out; omega) (by have := HLN.out; omega) ?_; intro b w1 hS1; clear hS; have hS := hS1; clear hS1; rw [made_bool] at hS)
      | (go_at_call 80; refine (HIS.out _ _ (IsR.mk hS.drop)).mono ?_; rintro e w1 ⟨rfl, rfl⟩))
    go_ret
    exact ⟨_, rfl, (IsR.mk (hS.re [1, 2, 3])).pull1⟩
  · have HB := Lib.hid hb
    obtain ⟨k, rfl, hk⟩ := Gr.is_nat hb
    have HIS : Hid (∀ w L, Sat W w (IsR p G :: L) → Calls Try.prog 80 #[.pointer (some ⟨p, 0, none⟩), .int .i64 (k : Int)] w fun e w' => e = .returned (.bool true) ∧ w = w') := Lib.hid fun w L h => is_any h k HB.out
    have j1 : (k : Int) < (G.N.length : Int) := by omega
    have HK := Lib.hid hk
    have HLOW := Lib.hid hG.low
    have hel : (G.E.length : Int) ≤ 1000000 := by have := hG.edges; omega
    clear hb hk
    obtain ⟨an, cn, ae, ce, hcn, hce, hS⟩ := IsR.open hS
    go_enter Try.func110, Try.ntmps110
    go_wp2_with (first
      | (refine toList (by rfl) ?_; refine mk hS _ _ _ (by rfl) G.N.length G.N.length _ _ (by rfl) (by rfl) (elOf (by rfl)) (by omega) (by have := HLN.out; omega) (by have := HLN.out; omega) ?_; intro b w1 hS1; clear hS; have hS := hS1; clear hS1; rw [made_bool] at hS)
      | (go_at_call 80; refine (HIS.out _ _ (IsR.mk hS.drop)).mono ?_; rintro e w1 ⟨rfl, rfl⟩)
      | (refine toList (by rfl) ?_; refine st hS _ _ _ (by rfl) _ _ (by rfl) _ (by first | exact evC | exact evT (by rfl)) (by rfl) (szOf (by rfl)) Has.z (by rw [bl_len]; omega) ?_; intro w1 hS1; clear hS; have hS := hS1; clear hS1; simp only [List.set_cons_zero] at hS; rw [bl_set HK.out] at hS)
      | (refine toList (by rfl) ?_; refine ld hS _ _ (by rfl) _ _ (by rfl) (agOf (by rfl)) (by first | exact Has.z | exact Has.s Has.z | exact Has.s (Has.s Has.z) | exact Has.s (Has.s (Has.s Has.z)) | exact Has.s (Has.s (Has.s (Has.s Has.z))) | exact Has.s (Has.s (Has.s (Has.s (Has.s Has.z))))) (by rfl) ?_))
    have H0 := Lib.hid hS
    go_loopw [6] (fun v wz => ∃ (S : Nat → Bool) (m : Bool), v = .bool m ∧ MkI G k S ∧ (m = false → ∀ e ∈ G.E, S e.1 = true → S e.2 = true) ∧
      Sat W wz (Cs b 4 (bl S G.N.length) :: Cs p 50 [.slice an G.N.length cn, .slice ae G.E.length ce] :: Tb 32 6 nv (.slice an G.N.length cn) G.N :: Tb 85 2 ev (.slice ae G.E.length ce) G.E :: L))
      (fun v wz => 2 * flsW wz b G.N.length + boolN v)
    case atStart => exact ⟨_, true, rfl, MkI.start G k, fun h => (by cases h), H0.out⟩
    case round =>
      clear hS H0
      obtain ⟨S, m, rfl, hI, hm, hS⟩ := hrel
      have HI := Lib.hid hI
      have HM := Lib.hid hm
      have HF := Lib.hid (flsW_eq hS (k := 0) rfl)
      clear hI hm
      cases m
      · go_wp2
        go_ret
        have h2 := (HI.out).done HK.out (HM.out (by simp))
        rw [h2] at hS
        exact ⟨_, rfl, (IsR.mk (hS.re [1, 2, 3])).pull1⟩
      · clear HM
        go_wp2
        have H1 := Lib.hid hS
        go_loopw [6, 7] (fun v6 v7 wy => ∃ (i : Nat) (S' : Nat → Bool) (m : Bool), v7 = .int .i64 i ∧ v6 = .bool m ∧ i ≤ G.E.length ∧ MkJ G k S i S' m ∧
          Sat W wy (Cs b 4 (bl S' G.N.length) :: Cs p 50 [.slice an G.N.length cn, .slice ae G.E.length ce] :: Tb 32 6 nv (.slice an G.N.length cn) G.N :: Tb 85 2 ev (.slice ae G.E.length ce) G.E :: L))
          (fun _ v7 _ => G.E.length - (intOf v7).toNat)
        case atStart => exact ⟨0, S, false, rfl, rfl, by omega, MkJ.start HI.out, H1.out⟩
        case round =>
          clear hS H1
          obtain ⟨i, S', m, rfl, rfl, hi, hJ, hS⟩ := hrel
          have HJ := Lib.hid hJ
          clear hJ
          by_cases hl : i < G.E.length
          · have k1 : (i : Int) < (G.E.length : Int) := by omega
            obtain ⟨⟨x, y⟩, hx⟩ : ∃ e, G.E[i]? = some e := ⟨_, List.getElem?_eq_getElem hl⟩
            have HX := Lib.hid hx
            have HL := Lib.hid hl
            obtain ⟨hxl, hyl⟩ := HLOW.out (x, y) (List.mem_of_getElem? hx)
            dsimp only at hxl hyl
            have x1 : (x : Int) < (G.N.length : Int) := by omega
            have y1 : (y : Int) < (G.N.length : Int) := by omega
            have HYL := Lib.hid hyl
            obtain ⟨be, oe, c', hv, _⟩ := hS.tbAddr (k := 3) rfl (by omega)
            simp only [Value.slice.injEq, true_and] at hv
            obtain ⟨rfl, rfl⟩ := hv
            have hbx := bl_at (S := S') hxl
            have hby := bl_at (S := S') hyl
            clear hx hl hxl hyl
            cases hsx : S' x
            · rw [hsx] at hbx
              have HBX := Lib.hid hbx
              have HSX := Lib.hid hsx
              clear hbx hby hsx
              go_wp2_with (first
                | (refine toList (by rfl) ?_; refine ldTb hS _ _ (by rfl) _ _ (by rfl) (agOf (by rfl)) (Has.s (Has.s (Has.s Has.z))) i 0 (by omega) HX.out (by rfl) ?_)
                | (refine toList (by rfl) ?_; refine ldTb hS _ _ (by rfl) _ _ (by rfl) (agOf (by rfl)) (Has.s (Has.s (Has.s Has.z))) i 1 (by omega) HX.out (by rfl) ?_)
                | (refine toList (by rfl) ?_; refine ld hS _ _ (by rfl) _ _ (by rfl) (agOf (by rfl)) Has.z HBX.out ?_)
                | (refine toList (by rfl) ?_; refine ld hS _ _ (by rfl) _ _ (by rfl) (agOf (by rfl)) (by first | exact Has.z | exact Has.s Has.z | exact Has.s (Has.s Has.z) | exact Has.s (Has.s (Has.s Has.z)) | exact Has.s (Has.s (Has.s (Has.s Has.z))) | exact Has.s (Has.s (Has.s (Has.s (Has.s Has.z))))) (by rfl) ?_))
              exact ⟨⟨i + 1, S', m, by go_num, rfl, HL.out, HJ.out.skip HX.out (fun h => by rw [HSX.out] at h; cases h), hS⟩, by simp [intOf]; have := HL.out; omega⟩
            · rw [hsx] at hbx
              have HBX := Lib.hid hbx
              have HSX := Lib.hid hsx
              cases hsy : S' y
              · rw [hsy] at hby
                have HBY := Lib.hid hby
                have HSY := Lib.hid hsy
                clear hbx hby hsx hsy
                go_wp2_with (first
                  | (refine toList (by rfl) ?_; refine ldTb hS _ _ (by rfl) _ _ (by rfl) (agOf (by rfl)) (Has.s (Has.s (Has.s Has.z))) i 0 (by omega) HX.out (by rfl) ?_)
                  | (refine toList (by rfl) ?_; refine ldTb hS _ _ (by rfl) _ _ (by rfl) (agOf (by rfl)) (Has.s (Has.s (Has.s Has.z))) i 1 (by omega) HX.out (by rfl) ?_)
                  | (refine toList (by rfl) ?_; refine ld hS _ _ (by rfl) _ _ (by rfl) (agOf (by rfl)) Has.z HBX.out ?_)
                  | (refine toList (by rfl) ?_; refine ld hS _ _ (by rfl) _ _ (by rfl) (agOf (by rfl)) Has.z HBY.out ?_)
                  | (refine toList (by rfl) ?_; refine st hS _ _ _ (by rfl) _ _ (by rfl) _ (by first | exact evC | exact evT (by rfl)) (by rfl) (szOf (by rfl)) Has.z (by rw [bl_len]; exact HYL.out) ?_; intro w1 hS1; clear hS; have hS := hS1; clear hS1; simp only [List.set_cons_zero] at hS; rw [bl_set HYL.out] at hS)
                  | (refine toList (by rfl) ?_; refine ld hS _ _ (by rfl) _ _ (by rfl) (agOf (by rfl)) (by first | exact Has.z | exact Has.s Has.z | exact Has.s (Has.s Has.z) | exact Has.s (Has.s (Has.s Has.z)) | exact Has.s (Has.s (Has.s (Has.s Has.z))) | exact Has.s (Has.s (Has.s (Has.s (Has.s Has.z))))) (by rfl) ?_))
                exact ⟨⟨i + 1, _, true, by go_num, rfl, HL.out, HJ.out.put HX.out HSX.out HSY.out HYL.out, hS⟩, by simp [intOf]; have := HL.out; omega⟩
              · rw [hsy] at hby
                have HBY := Lib.hid hby
                have HSY := Lib.hid hsy
                clear hbx hby hsx hsy
                go_wp2_with (first
                  | (refine toList (by rfl) ?_; refine ldTb hS _ _ (by rfl) _ _ (by rfl) (agOf (by rfl)) (Has.s (Has.s (Has.s Has.z))) i 0 (by omega) HX.out (by rfl) ?_)
                  | (refine toList (by rfl) ?_; refine ldTb hS _ _ (by rfl) _ _ (by rfl) (agOf (by rfl)) (Has.s (Has.s (Has.s Has.z))) i 1 (by omega) HX.out (by rfl) ?_)
                  | (refine toList (by rfl) ?_; refine ld hS _ _ (by rfl) _ _ (by rfl) (agOf (by rfl)) Has.z HBX.out ?_)
                  | (refine toList (by rfl) ?_; refine ld hS _ _ (by rfl) _ _ (by rfl) (agOf (by rfl)) Has.z HBY.out ?_)
                  | (refine toList (by rfl) ?_; refine ld hS _ _ (by rfl) _ _ (by rfl) (agOf (by rfl)) (by first | exact Has.z | exact Has.s Has.z | exact Has.s (Has.s Has.z) | exact Has.s (Has.s (Has.s Has.z)) | exact Has.s (Has.s (Has.s (Has.s Has.z))) | exact Has.s (Has.s (Has.s (Has.s (Has.s Has.z))))) (by rfl) ?_))
                exact ⟨⟨i + 1, S', m, by go_num, rfl, HL.out, HJ.out.skip HX.out (fun _ => HSY.out), hS⟩, by simp [intOf]; have := HL.out; omega⟩
          · have k1 : decide ((i : Int) < (G.E.length : Int)) = false := decide_eq_false (by omega)
            have k2 : ¬ (i : Int) < (G.E.length : Int) := by omega
            have HIL := Lib.hid (show G.E.length ≤ i by omega)
            clear hl
            go_wp2_with (refine toList (by rfl) ?_; refine ld hS _ _ (by rfl) _ _ (by rfl) (agOf (by rfl)) (by first | exact Has.z | exact Has.s Has.z | exact Has.s (Has.s Has.z) | exact Has.s (Has.s (Has.s Has.z)) | exact Has.s (Has.s (Has.s (Has.s Has.z))) | exact Has.s (Has.s (Has.s (Has.s (Has.s Has.z))))) (by rfl) ?_)
            have hf2 := flsW_eq hS (k := 0) rfl
            refine ⟨⟨S', m, rfl, HJ.out.inv, fun h => ?_, hS⟩, ?_⟩
            · subst h; exact HJ.out.fin HIL.out
            · rw [HF.out, hf2]
              cases m
              · rw [(HJ.out.no rfl).1]; simp [boolN]
              · have := HJ.out.yes rfl; simp [boolN]; omega
end Go.Proofs.Ytapodjhkpahdnaa
