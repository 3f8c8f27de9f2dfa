/-
  Package label: New, Label, Load.
-/
import Derived.Test.YtapodjhkpahdnaaLbAll
namespace Go.Proofs.Ytapodjhkpahdnaa
open Go.RowKit Go.Sep
set_option linter.unusedSimpArgs false
set_option linter.unusedVariables false
attribute [local irreducible] Go.Oper.wp Go.wpList Go.Calls Go.Code.wp Go.Sep.Reg
noncomputable def Gr.labI (G : Gr) (n : Int) : Nat := if G.is n then G.lab n.toNat else 0
theorem Gr.labI_nat {G : Gr} {k : Nat} (h : k < G.N.length) : G.labI (k : Int) = G.lab k := by unfold Gr.labI; rw [Gr.is_mk h, if_pos rfl, Int.toNat_natCast]
theorem Gr.labI_no {G : Gr} {n : Int} (h : G.is n = false) : G.labI n = 0 := by unfold Gr.labI; rw [h]; rfl
theorem Gr.labI_lt (G : Gr) (n : Int) : G.labI n < 256 := by
  unfold Gr.labI
  split
  · exact G.lab_lt _
  · decide
def ov (x : Nat × Nat) : Value := .agg #[.int .i64 (x.1 : Int), .int .i64 (x.2 : Int)]
def IsC (c : Nat) (f : Int → Option (Nat × Nat)) : Asrt := Ex fun m : Nat => St [Cs c 117 [.map (some m)], Mp (Value.int .i64) ov m f]
theorem IsC.open {W w : World} {L : List Asrt} {c : Nat} {f : Int → Option (Nat × Nat)} (h : Sat W w (IsC c f :: L)) : ∃ m, Sat W w (Cs c 117 [.map (some m)] :: Mp (Value.int .i64) ov m f :: L) := by
  obtain ⟨m, h⟩ := h.ex
  exact ⟨m, h.open⟩
theorem IsC.mk {W w : World} {L : List Asrt} {c m : Nat} {f : Int → Option (Nat × Nat)} (h : Sat W w (Cs c 117 [.map (some m)] :: Mp (Value.int .i64) ov m f :: L)) : Sat W w (IsC c f :: L) := Sat.mkEx m (Sat.mkSt h)
def cv (f : Int → Option (Nat × Nat)) (k : Int) : Nat × Nat := (f k).getD (0, 0)
def clab (f : Int → Option (Nat × Nat)) (k : Int) : Nat := andn (cv f k).1 (cv f k).2
def updC (f : Int → Option (Nat × Nat)) (k : Int) (x : Nat × Nat) : Int → Option (Nat × Nat) := fun k' => if k' = k then some x else f k'
theorem cv_val (f : Int → Option (Nat × Nat)) (k : Int) : mpVal ov (.agg #[.int .i64 0, .int .i64 0]) (f k) = .agg #[.int .i64 ((cv f k).1 : Int), .int .i64 ((cv f k).2 : Int)] := by
  unfold cv
  cases f k <;> rfl
theorem map_own : mapB Try.prog 115 = some (3, 114) := by kernel_rfl
theorem cnew_any {W w : World} {L : List Asrt} (hS : Sat W w L) : Calls Try.prog 93 #[] w fun e w' => ∃ c, e = .returned (.pointer (some ⟨c, 0, none⟩)) ∧ Sat W w' (IsC c (fun _ => none) :: L) := by
  go_enter Try.func93, Try.ntmps93
  go_wp2_with (first
    | (refine toList (by rfl) ?_; refine mpMake (Value.int .i64) ov (show Sat W _ L from hS) _ (by rfl) ?_; intro me w1 hS1; clear hS; have hS := hS1; clear hS1)
    | (refine toList (by rfl) ?_; refine bx hS _ _ (by rfl) _ (by first | exact evC | exact evT (by rfl)) ?_; intro c w1 hS1; clear hS; have hS := hS1; clear hS1; rw [cells_agg] at hS))
  go_ret
  exact ⟨c, rfl, IsC.mk hS⟩
theorem clab_any {W w : World} {L : List Asrt} {c : Nat} {f : Int → Option (Nat × Nat)} (hS : Sat W w (IsC c f :: L)) (n : Int) (h1 : (cv f n).1 < 256) (h2 : (cv f n).2 < 256) :
    Calls Try.prog 69 #[.pointer (some ⟨c, 0, none⟩), .int .i64 n] w fun e w' => e = .returned (.int .i64 (clab f n : Nat)) ∧ Sat W w' (IsC c f :: L) := by
  have HV := Lib.hid (cv_val f n)
  obtain ⟨m, hS⟩ := IsC.open hS
  unfold clab
  obtain ⟨⟨x, y⟩, hxy⟩ : ∃ q, cv f n = q := ⟨_, rfl⟩
  rw [hxy] at h1 h2 HV ⊢
  dsimp only at h1 h2 HV ⊢
  have ha := andn_256 x y h1 h2
  clear hxy
  go_enter Try.func69, Try.ntmps69
  go_wp2_with (first
    | (refine toList (by rfl) ?_; refine ld hS _ _ (by rfl) _ _ (by rfl) (agOf (by rfl)) (by first | exact Has.z | exact Has.s Has.z | exact Has.s (Has.s Has.z) | exact Has.s (Has.s (Has.s Has.z)) | exact Has.s (Has.s (Has.s (Has.s Has.z))) | exact Has.s (Has.s (Has.s (Has.s (Has.s Has.z))))) (by rfl) ?_)
    | (refine toList (by rfl) ?_; refine wp_of_reads (rLkp hS _ _ _ false (by rfl) (by rfl) n (by rfl) map_own key_nat (zrOf (by rfl)) (Has.s Has.z)) ?_; rw [if_neg (by decide), HV.out])
    | (refine toList (by rfl) ?_; refine al hS _ (by rfl) (zrOf (by rfl)) ?_; intro px w1 hS1; clear hS; have hS := hS1; clear hS1; rw [cells_agg] at hS)
    | (refine toList (by rfl) ?_; refine stW hS _ _ _ (by rfl) (by rfl) [.int .i64 (x : Int), .int .i64 (y : Int)] (by rfl) (by simp [Value.oneCell']) (szOf (by rfl)) Has.z rfl ?_; intro w1 hS1; clear hS; have hS := hS1; clear hS1; dsimp only [List.set_cons_zero] at hS))
  go_ret
  exact ⟨rfl, IsC.mk hS.drop⟩
/-- What a cache of a graph knows. -/
noncomputable def Gr.own (G : Gr) (n : Nat) (k : Int) : Option (Nat × Nat) := if decide (0 ≤ k) && decide (k < n) then some (G.lab k.toNat, (G.nodeI k).clear) else none
theorem Gr.own_zero (G : Gr) : (fun _ => none) = G.own 0 := by
  funext k
  unfold Gr.own
  rw [if_neg]
  simp only [Bool.and_eq_true, decide_eq_true_eq]
  omega
theorem Gr.own_next (G : Gr) (n : Nat) : (fun k' : Int => if k' = (n : Int) then some (G.lab n, (G.nodeI (n : Int)).clear) else G.own n k') = G.own (n + 1) := by
  funext k
  unfold Gr.own
  by_cases h : k = (n : Int)
  · subst h
    rw [if_pos rfl, if_pos (by simp; omega), Int.toNat_natCast]
  · rw [if_neg h]
    by_cases h2 : 0 ≤ k ∧ k < n
    · rw [if_pos (by simp; omega), if_pos (by simp; omega)]
    · rw [if_neg (by simp; omega), if_neg (by simp; omega)]
set_option maxRecDepth 20000 in
theorem load_any {W w : World} {L : List Asrt} {p : Nat} {G : Gr} (hS : Sat W w (IsG p G :: L)) (hG : G.Ok) (hA : G.Acyc) :
    Calls Try.prog 71 #[.pointer (some ⟨p, 0, none⟩)] w fun e w' => ∃ c, e = .returned (.pointer (some ⟨c, 0, none⟩)) ∧ Sat W w' (IsC c (G.own G.N.length) :: IsG p G :: L) := by
  have hnl : (G.N.length : Int) ≤ 4096 := by have := hG.len; omega
  have HZ := Lib.hid G.own_zero
  go_enter Try.func71, Try.ntmps71
  go_wp2_with (first
    | (go_at_call 93; refine (cnew_any hS).mono ?_; rintro e w1 ⟨c, rfl, hS1⟩; clear hS; have hS := hS1; clear hS1; rw [HZ.out] at hS)
    | (go_at_call 94; refine (all_any hS.pull1 hG hA).mono ?_; rintro e w1 ⟨ba, rfl, hS1⟩; clear hS; have hS := hS1; clear hS1))
  obtain ⟨m, hO⟩ := IsC.open (hS.re [2])
  have H0 := Lib.hid hO
  clear hS hO
  go_loopw [12] (fun v wz => ∃ n : Nat, v = .int .i64 n ∧ n ≤ G.N.length ∧ Sat W wz (Cs c 117 [.map (some m)] :: Mp (Value.int .i64) ov m (G.own n) :: Cs ba 3 (il G.lab G.N.length) :: IsG p G :: L)) (fun v _ => G.N.length - (intOf v).toNat)
  case atStart => exact ⟨0, rfl, by omega, H0.out⟩
  case round =>
    clear H0
    obtain ⟨n, rfl, hn, hS⟩ := hrel
    by_cases hl : n < G.N.length
    · have k1 : (n : Int) < (G.N.length : Int) := by omega
      obtain ⟨⟨x1, x2, x3, x4, x5, x6⟩, hx⟩ : ∃ x, G.N[n]? = some x := ⟨_, List.getElem?_eq_getElem hl⟩
      have HLB := Lib.hid (il_at (f := G.lab) hl)
      have HOW := Lib.hid (by have := G.own_next n; rw [Gr.nodeI_at hx] at this; exact this)
      have HNODE := Lib.hid (fun w (L : List Asrt) (h : Sat W w (IsG p G :: L)) => (show Calls Try.prog 14 #[.pointer (some ⟨p, 0, none⟩), .int .i64 (n : Int)] w fun e w' =>
          e = .returned (.tuple #[.agg #[.int .i64 x1, .int .i64 x2, .int .i64 (x3 : Int), .int .i64 (x4 : Int), .int .i64 (x5 : Int), .bool x6], .bool true]) ∧ Sat W w' (IsG p G :: L) by
        have := node_any h (n : Int)
        rw [Gr.is_mk hl, Gr.nodeI_at hx] at this
        exact this))
      have HL := Lib.hid hl
      clear hl hx
      go_wp2_with (first
        | (go_at_call 14; refine (HNODE.out _ _ (hS.re [3])).mono ?_; rintro e w1 ⟨rfl, hS1⟩; clear hS; have hS := hS1; clear hS1)
        | (refine toList (by rfl) ?_; refine al hS _ (by rfl) (zrOf (by rfl)) ?_; intro px w1 hS1; clear hS; have hS := hS1; clear hS1; rw [cells_agg] at hS)
        | (refine toList (by rfl) ?_; refine stW hS _ _ _ (by rfl) (by rfl) [.int .i64 x1, .int .i64 x2, .int .i64 (x3 : Int), .int .i64 (x4 : Int), .int .i64 (x5 : Int), .bool x6] (by rfl) (by simp [Value.oneCell']) (szOf (by rfl)) Has.z rfl ?_; intro w1 hS1; clear hS; have hS := hS1; clear hS1; dsimp only [List.set_cons_zero] at hS)
        | (refine toList (by rfl) ?_; refine ld hS _ _ (by rfl) _ _ (by rfl) (agOf (by rfl)) (Has.s (Has.s Has.z)) HLB.out ?_))
      refine regStart [9] hS (by kernel_rfl) rfl ?_
      intro w1 hS1
      clear hS; have hS := hS1; clear hS1
      (refine regP 0 hS (fun _ h => h) rfl (by kernel_rfl) (by kernel_rfl) (by kernel_rfl) (fun _ _ _ _ h => h) (by rfl) (by rfl) ?_; apply Exists.intro; apply And.intro; (intro w; go_simp; try with_reducible rfl); (simp only [Act.put, List.setIfInBounds_toArray, List.set_cons_zero, List.set_cons_succ]))
      (refine regP 1 hS (fun _ h => h) rfl (by kernel_rfl) (by kernel_rfl) (by kernel_rfl) (fun _ _ _ _ h => h) (by rfl) (by rfl) ?_; apply Exists.intro; apply And.intro; (intro w; go_simp; try with_reducible rfl); (simp only [Act.put, List.setIfInBounds_toArray, List.set_cons_zero, List.set_cons_succ]))
      (refine regP 2 hS (fun _ h => h) rfl (by kernel_rfl) (by kernel_rfl) (by kernel_rfl) (fun _ _ _ _ h => h) (by rfl) (by rfl) ?_; apply Exists.intro; apply And.intro; (intro w; go_simp; try with_reducible rfl); (simp only [Act.put, List.setIfInBounds_toArray, List.set_cons_zero, List.set_cons_succ]))
      (refine regR 3 hS (fun _ h => h) rfl (by kernel_rfl) (by kernel_rfl) (by kernel_rfl) (by kernel_rfl) (by kernel_rfl) (fun _ _ _ _ h => h) (by rfl) (by rfl) ?_; (refine ⟨_, yLd _ _ (by rfl) _ _ (by rfl) (agOf (by rfl)) (by repeat (first | exact Has.z | apply Has.s)) (by rfl), ?_⟩); (simp only [Act.put, List.setIfInBounds_toArray, List.set_cons_zero, List.set_cons_succ]))
      (refine regP 4 hS (fun _ h => h) rfl (by kernel_rfl) (by kernel_rfl) (by kernel_rfl) (fun _ _ _ _ h => h) (by rfl) (by rfl) ?_; apply Exists.intro; apply And.intro; (intro w; go_simp; try with_reducible rfl); (simp only [Act.put, List.setIfInBounds_toArray, List.set_cons_zero, List.set_cons_succ]))
      (refine regP 5 hS (fun _ h => h) rfl (by kernel_rfl) (by kernel_rfl) (by kernel_rfl) (fun _ _ _ _ h => h) (by rfl) (by rfl) ?_; apply Exists.intro; apply And.intro; (intro w; go_simp; try with_reducible rfl); (simp only [Act.put, List.setIfInBounds_toArray, List.set_cons_zero, List.set_cons_succ]))
      (refine regP 6 hS (fun _ h => h) rfl (by kernel_rfl) (by kernel_rfl) (by kernel_rfl) (fun _ _ _ _ h => h) (by rfl) (by rfl) ?_; apply Exists.intro; apply And.intro; (intro w; go_simp; try with_reducible rfl); (simp only [Act.put, List.setIfInBounds_toArray, List.set_cons_zero, List.set_cons_succ]))
      (refine regR 7 hS (fun _ h => h) rfl (by kernel_rfl) (by kernel_rfl) (by kernel_rfl) (by kernel_rfl) (by kernel_rfl) (fun _ _ _ _ h => h) (by rfl) (by rfl) ?_; (refine ⟨_, yLd _ _ (by rfl) _ _ (by rfl) (agOf (by rfl)) (by repeat (first | exact Has.z | apply Has.s)) (by rfl), ?_⟩); (simp only [Act.put, List.setIfInBounds_toArray, List.set_cons_zero, List.set_cons_succ]))
      (refine regP 8 hS (fun _ h => h) rfl (by kernel_rfl) (by kernel_rfl) (by kernel_rfl) (fun _ _ _ _ h => h) (by rfl) (by rfl) ?_; apply Exists.intro; apply And.intro; (intro w; go_simp; try with_reducible rfl); (simp only [Act.put, List.setIfInBounds_toArray, List.set_cons_zero, List.set_cons_succ]))
      (refine regA 9 rfl (by kernel_rfl) (by rfl) (by rfl) true (by kernel_rfl) (fun K hK => ?_); (refine mpSt (ke := Value.int .i64) (ve := ov) hS _ _ _ _ (.inl (by rfl)) (by rfl) (n : Int) (by rfl) (G.lab n, x5) (by rfl) map_own key_nat (Has.s (Has.s (Has.s Has.z))) ?_; intro w1 hS1; clear hS; have hS := hS1; clear hS1; simp only [List.set_cons_zero, List.set_cons_succ] at hS; rw [HOW.out] at hS); refine hK _ _ _ hS (by first | (intro h; cases h; done) | exact fun _ _ h => h | exact fun _ _ h => h.drop | exact fun _ _ h => h.drop.drop | exact fun _ _ h => h.drop.pull1 | exact fun _ _ h => h.take2 | exact fun _ _ h => h.one Has.z | exact fun _ _ h => h.one (Has.s Has.z) | exact fun _ _ h => h.one (Has.s (Has.s Has.z))) ?_; clear hK K; (simp only [Act.put, List.setIfInBounds_toArray, List.set_cons_zero, List.set_cons_succ]))
      refine regDone (by kernel_rfl) ?_
      go_wp2
      exact ⟨⟨n + 1, by go_num, HL.out, hS.drop.re [1, 2, 3]⟩, by simp [intOf]; have := HL.out; omega⟩
    · have k1 : ¬ (n : Int) < (G.N.length : Int) := by omega
      obtain rfl : n = G.N.length := by omega
      clear hl
      go_wp2
      go_ret
      exact ⟨c, rfl, (IsC.mk hS).pull1.drop⟩
end Go.Proofs.Ytapodjhkpahdnaa
