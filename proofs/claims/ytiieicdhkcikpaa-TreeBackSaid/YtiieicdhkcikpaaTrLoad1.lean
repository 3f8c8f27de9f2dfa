/-
  Package dir: Check; a clone of entries.
-/
import Derived.Test.YtiieicdhkcikpaaMDir
import Derived.Test.YtiieicdhkcikpaaTrLoadP
import Derived.WalkLawsBesides
namespace Go.Proofs.Ytiieicdhkcikpaa
open Go.RowKit Go.Sep
set_option linter.unusedSimpArgs false
set_option linter.unusedVariables false
attribute [local irreducible] Go.Oper.wp Go.wpList Go.Calls Go.Code.wp Go.Sep.Reg
/-- A value that is the truth of p. -/
def BoolIs (p : Prop) (v : Value) : Prop := ∃ b : Bool, v = .bool b ∧ (b = true ↔ p)
theorem leq_cases {a e : List UInt8} (h : less a e = false) : (Op.bytesLess e a = true ∧ (e == a) = false) ∨ (Op.bytesLess e a = false ∧ (e == a) = true) := by
  rcases less_total e a with h1 | h1 | h1
  · exact .inl ⟨h1, beq_eq_false_iff_ne.2 (less_ne h1)⟩
  · subst h1; exact .inr ⟨h, beq_iff_eq.2 rfl⟩
  · rw [h] at h1; cases h1
theorem leq_yes {a e : List UInt8} (h : less a e = true) : Op.bytesLess e a = false ∧ (e == a) = false := ⟨less_asymm h, beq_eq_false_iff_ne.2 fun e2 => less_ne h e2.symm⟩
theorem chk_snoc {l : List EntD} {i : Nat} {e : EntD} (hx : l[i]? = some e) (h : ∀ x ∈ l.take i, entOk x = true) (he : entOk e = true) : ∀ x ∈ l.take (i + 1), entOk x = true := fun x hxm => by
  rw [List.take_add_one, hx] at hxm
  rcases List.mem_append.1 hxm with h1 | h1
  · exact h x h1
  · rw [show x = e by simpa using h1]; exact he
set_option maxRecDepth 20000 in
set_option maxHeartbeats 1000000 in
theorem dcheck_any {W w : World} {L : List Asrt} (hS : Sat W w L) (l : List EntD) (ao : Option Addr) (c : Nat) (hr : ∀ w, Sat W w L → Rd w (.slice ao l.length c) l.length 2 (l.flatMap ev2)) (hl : l.length ≤ 1000) :
    Calls Try.prog 54 #[.slice ao l.length c] w fun r w' => ∃ v, r = .returned v ∧ BoolIs (ChkD l) v ∧ Sat W w' L := by
  have HR := Lib.hid hr
  obtain ⟨_, _, he, hc1, hc2, _, h5⟩ := hr w hS
  simp only [Value.slice.injEq, true_and] at he
  obtain ⟨rfl, rfl⟩ := he
  have H5 := Lib.hid h5
  have hli : (l.length : Int) ≤ 1000 := by omega
  have H0 := Lib.hid hS
  clear hr h5 hS
  go_enter Try.func54, Try.ntmps54
  go_wp2
  go_loopw [7] (fun v wz => ∃ i : Nat, v = .int .i64 i ∧ i ≤ l.length ∧ (∀ e ∈ l.take i, entOk e = true) ∧ SrtE (l.take i) ∧ Sat W wz L) (fun v _ => l.length - (intOf v).toNat)
  case atStart => exact ⟨0, rfl, by omega, by simp, List.Pairwise.nil, H0.out⟩
  case round =>
    clear H0
    obtain ⟨i, rfl, hi, hok, hsr, hS⟩ := hrel
    have HOK := Lib.hid hok
    have HSR := Lib.hid hsr
    clear hok hsr
    by_cases hlt : i < l.length
    · have k1 : (i : Int) < (l.length : Int) := by omega
      have HLT := Lib.hid hlt
      obtain ⟨b, off, rfl, _⟩ := H5.out (by omega)
      obtain ⟨⟨en, ei⟩, hx⟩ : ∃ e, l[i]? = some e := ⟨_, List.getElem?_eq_getElem hlt⟩
      have HX := Lib.hid hx
      have HM := Lib.hid (fun w (L' : List Asrt) (h : Sat W w L') => show Calls Try.prog 71 #[.agg #[.string ⟨en.toArray⟩, .int .i64 ei]] w (fun r w' => r = .returned (.bool (entOk ⟨en, ei⟩)) ∧ Sat W w' L') from may_any h ⟨en, ei⟩)
      cases hb : entOk ⟨en, ei⟩ with
      | false =>
        have HNO := Lib.hid (show ¬ ChkD l from fun h => by have := h.ent _ (List.mem_of_getElem? HX.out); rw [hb] at this; cases this)
        rw [hb] at HM
        clear hx hlt hi hb
        go_wp2_with (first
          | (refine toList (by rfl) ?_; refine wp_of_reads (rLdRdA (f := ev2) (x := ⟨en, ei⟩) (HR.out _ hS) (ev2_len l) _ _ (by rfl) _ (by rfl) (agOf (by rfl)) (szOf (by rfl)) i (by omega) HX.out (by omega)) ?_)
          | (refine toList (by rfl) ?_; refine al hS _ (by rfl) (zrOf (by rfl)) ?_; intro px w1 hS1; clear hS; have hS := hS1; clear hS1; rw [cells_agg] at hS)
          | (refine toList (by rfl) ?_; refine stW hS _ _ _ (by rfl) (by rfl) [.string ⟨en.toArray⟩, .int .i64 ei] (by rfl) (by simp [Value.oneCell']) (szOf (by rfl)) Has.z (by rfl) ?_; intro w1 hS1; clear hS; have hS := hS1; clear hS1; dsimp only [List.set_cons_zero] at hS))
        refine regStart [1] hS (by kernel_rfl) rfl ?_
        intro w1 hS1
        clear hS; have hS := hS1; clear hS1
        (refine regR 0 hS (fun _ h => h) rfl (by kernel_rfl) (by kernel_rfl) (by kernel_rfl) (by kernel_rfl) (by kernel_rfl) (fun _ _ _ _ h => h) (by rfl) (by rfl) ?_; ((first
                          | refine ⟨_, yLdA (vs := [.string ⟨en.toArray⟩, .int .i64 ei]) _ _ (by rfl) _ _ (by rfl) (agOf (by rfl)) (szOf (by rfl)) Has.z (by rfl) (by rfl), ?_⟩
                          | refine ⟨.string ⟨en.toArray⟩, yLd _ _ (by rfl) _ _ (by rfl) (agOf (by rfl)) Has.z (by rfl), ?_⟩
                          | refine ⟨.string ⟨an.toArray⟩, fun u hu => rLdRd (f := ev2) (x := ⟨an, ai⟩) (HR.out _ hu.drop) (ev2_len l) _ _ (by rfl) _ (by rfl) (agOf (by rfl)) m 0 (by omega) HA.out (by rfl) (by omega), ?_⟩)); go_frame)
        (refine regA 1 rfl (by kernel_rfl) (by rfl) (by rfl) true (by kernel_rfl) (fun K hK => ?_); ((refine Go.Sep.cl 71 _ _ (by rfl) (by rfl) (by kernel_rfl) (HM.out _ _ hS) ?_; rintro e w1 ⟨rfl, hS1⟩; clear hS; have hS := hS1; clear hS1; refine ⟨_, rfl, ?_⟩)); refine hK _ _ _ hS (by first | (intro h; cases h; done) | exact fun _ _ h => h | exact fun _ _ h => h.drop | exact fun _ _ h => h.drop.drop | exact fun _ _ h => h.drop.pull1 | exact fun _ _ h => h.take2 | exact fun _ _ h => h.one Has.z | exact fun _ _ h => h.one (Has.s Has.z) | exact fun _ _ h => h.one (Has.s (Has.s Has.z))) ?_; clear hK K; go_frame)
        (refine regP 2 hS (fun _ h => h) rfl (by kernel_rfl) (by kernel_rfl) (by kernel_rfl) (fun _ _ _ _ h => h) (by rfl) (by rfl) ?_; apply Exists.intro; apply And.intro; (intro w; go_simp; try with_reducible rfl); go_frame)
        (refine regP 3 hS (fun _ h => h) rfl (by kernel_rfl) (by kernel_rfl) (by kernel_rfl) (fun _ _ _ _ h => h) (by rfl) (by rfl) ?_; apply Exists.intro; apply And.intro; (intro w; go_simp; try with_reducible rfl); go_frame)
        (first | (refine regP 4 hS (fun _ h => h) rfl (by kernel_rfl) (by kernel_rfl) (by kernel_rfl) (fun _ _ _ _ h => h) (by rfl) (by rfl) ?_; apply Exists.intro; apply And.intro; (intro w; go_simp; try with_reducible rfl); go_frame) | (refine regN 4 hS (fun _ h => h) rfl (by kernel_rfl) (by kernel_rfl) (by kernel_rfl) (fun _ _ _ h => h) (by rfl) (by rfl) ?_; go_frame))
        (first | (refine regP 5 hS (fun _ h => h) rfl (by kernel_rfl) (by kernel_rfl) (by kernel_rfl) (fun _ _ _ _ h => h) (by rfl) (by rfl) ?_; apply Exists.intro; apply And.intro; (intro w; go_simp; try with_reducible rfl); go_frame) | (refine regN 5 hS (fun _ h => h) rfl (by kernel_rfl) (by kernel_rfl) (by kernel_rfl) (fun _ _ _ h => h) (by rfl) (by rfl) ?_; go_frame))
        (first | (refine regP 6 hS (fun _ h => h) rfl (by kernel_rfl) (by kernel_rfl) (by kernel_rfl) (fun _ _ _ _ h => h) (by rfl) (by rfl) ?_; apply Exists.intro; apply And.intro; (intro w; go_simp; try with_reducible rfl); go_frame) | (refine regN 6 hS (fun _ h => h) rfl (by kernel_rfl) (by kernel_rfl) (by kernel_rfl) (fun _ _ _ h => h) (by rfl) (by rfl) ?_; go_frame))
        (first | (refine regP 7 hS (fun _ h => h) rfl (by kernel_rfl) (by kernel_rfl) (by kernel_rfl) (fun _ _ _ _ h => h) (by rfl) (by rfl) ?_; apply Exists.intro; apply And.intro; (intro w; go_simp; try with_reducible rfl); go_frame) | (refine regN 7 hS (fun _ h => h) rfl (by kernel_rfl) (by kernel_rfl) (by kernel_rfl) (fun _ _ _ h => h) (by rfl) (by rfl) ?_; go_frame))
        (first | (refine regR 8 hS (fun _ h => h) rfl (by kernel_rfl) (by kernel_rfl) (by kernel_rfl) (by kernel_rfl) (by kernel_rfl) (fun _ _ _ _ h => h) (by rfl) (by rfl) ?_; ((first
                          | refine ⟨_, yLdA (vs := [.string ⟨en.toArray⟩, .int .i64 ei]) _ _ (by rfl) _ _ (by rfl) (agOf (by rfl)) (szOf (by rfl)) Has.z (by rfl) (by rfl), ?_⟩
                          | refine ⟨.string ⟨en.toArray⟩, yLd _ _ (by rfl) _ _ (by rfl) (agOf (by rfl)) Has.z (by rfl), ?_⟩
                          | refine ⟨.string ⟨an.toArray⟩, fun u hu => rLdRd (f := ev2) (x := ⟨an, ai⟩) (HR.out _ hu.drop) (ev2_len l) _ _ (by rfl) _ (by rfl) (agOf (by rfl)) m 0 (by omega) HA.out (by rfl) (by omega), ?_⟩)); go_frame) | (refine regN 8 hS (fun _ h => h) rfl (by kernel_rfl) (by kernel_rfl) (by kernel_rfl) (fun _ _ _ h => h) (by rfl) (by rfl) ?_; go_frame))
        (first | (refine regP 9 hS (fun _ h => h) rfl (by kernel_rfl) (by kernel_rfl) (by kernel_rfl) (fun _ _ _ _ h => h) (by rfl) (by rfl) ?_; apply Exists.intro; apply And.intro; (intro w; go_simp; try with_reducible rfl); go_frame) | (refine regN 9 hS (fun _ h => h) rfl (by kernel_rfl) (by kernel_rfl) (by kernel_rfl) (fun _ _ _ h => h) (by rfl) (by rfl) ?_; go_frame))
        (first | (refine regP 10 hS (fun _ h => h) rfl (by kernel_rfl) (by kernel_rfl) (by kernel_rfl) (fun _ _ _ _ h => h) (by rfl) (by rfl) ?_; apply Exists.intro; apply And.intro; (intro w; go_simp; try with_reducible rfl); go_frame) | (refine regN 10 hS (fun _ h => h) rfl (by kernel_rfl) (by kernel_rfl) (by kernel_rfl) (fun _ _ _ h => h) (by rfl) (by rfl) ?_; go_frame))
        (first | (refine regP 11 hS (fun _ h => h) rfl (by kernel_rfl) (by kernel_rfl) (by kernel_rfl) (fun _ _ _ _ h => h) (by rfl) (by rfl) ?_; apply Exists.intro; apply And.intro; (intro w; go_simp; try with_reducible rfl); go_frame; try simp (disch := omega) only [IntWalk.i64_in]) | (refine regN 11 hS (fun _ h => h) rfl (by kernel_rfl) (by kernel_rfl) (by kernel_rfl) (fun _ _ _ h => h) (by rfl) (by rfl) ?_; go_frame))
        (first | (refine regP 12 hS (fun _ h => h) rfl (by kernel_rfl) (by kernel_rfl) (by kernel_rfl) (fun _ _ _ _ h => h) (by rfl) (by rfl) ?_; apply Exists.intro; apply And.intro; (intro w; go_simp; try with_reducible rfl); go_frame) | (refine regN 12 hS (fun _ h => h) rfl (by kernel_rfl) (by kernel_rfl) (by kernel_rfl) (fun _ _ _ h => h) (by rfl) (by rfl) ?_; go_frame))
        (first | (refine regP 13 hS (fun _ h => h) rfl (by kernel_rfl) (by kernel_rfl) (by kernel_rfl) (fun _ _ _ _ h => h) (by rfl) (by rfl) ?_; apply Exists.intro; apply And.intro; (intro w; go_simp; try with_reducible rfl); go_frame) | (refine regN 13 hS (fun _ h => h) rfl (by kernel_rfl) (by kernel_rfl) (by kernel_rfl) (fun _ _ _ h => h) (by rfl) (by rfl) ?_; go_frame))
        (first | (refine regR 14 hS (fun _ h => h) rfl (by kernel_rfl) (by kernel_rfl) (by kernel_rfl) (by kernel_rfl) (by kernel_rfl) (fun _ _ _ _ h => h) (by rfl) (by rfl) ?_; ((first
                          | refine ⟨_, yLdA (vs := [.string ⟨en.toArray⟩, .int .i64 ei]) _ _ (by rfl) _ _ (by rfl) (agOf (by rfl)) (szOf (by rfl)) Has.z (by rfl) (by rfl), ?_⟩
                          | refine ⟨.string ⟨en.toArray⟩, yLd _ _ (by rfl) _ _ (by rfl) (agOf (by rfl)) Has.z (by rfl), ?_⟩
                          | refine ⟨.string ⟨an.toArray⟩, fun u hu => rLdRd (f := ev2) (x := ⟨an, ai⟩) (HR.out _ hu.drop) (ev2_len l) _ _ (by rfl) _ (by rfl) (agOf (by rfl)) m 0 (by omega) HA.out (by rfl) (by omega), ?_⟩)); go_frame) | (refine regN 14 hS (fun _ h => h) rfl (by kernel_rfl) (by kernel_rfl) (by kernel_rfl) (fun _ _ _ h => h) (by rfl) (by rfl) ?_; go_frame))
        (first | (refine regP 15 hS (fun _ h => h) rfl (by kernel_rfl) (by kernel_rfl) (by kernel_rfl) (fun _ _ _ _ h => h) (by rfl) (by rfl) ?_; apply Exists.intro; apply And.intro; (intro w; go_simp; try with_reducible rfl); go_frame) | (refine regN 15 hS (fun _ h => h) rfl (by kernel_rfl) (by kernel_rfl) (by kernel_rfl) (fun _ _ _ h => h) (by rfl) (by rfl) ?_; go_frame))
        (first | (refine regP 16 hS (fun _ h => h) rfl (by kernel_rfl) (by kernel_rfl) (by kernel_rfl) (fun _ _ _ _ h => h) (by rfl) (by rfl) ?_; apply Exists.intro; apply And.intro; (intro w; go_simp; try with_reducible rfl); go_frame) | (refine regN 16 hS (fun _ h => h) rfl (by kernel_rfl) (by kernel_rfl) (by kernel_rfl) (fun _ _ _ h => h) (by rfl) (by rfl) ?_; go_frame))
        (refine regP 17 hS (fun _ h => h) rfl (by kernel_rfl) (by kernel_rfl) (by kernel_rfl) (fun _ _ _ _ h => h) (by rfl) (by rfl) ?_; apply Exists.intro; apply And.intro; (intro w; go_simp; try with_reducible rfl); go_frame)
        refine regDone (by kernel_rfl) ?_
        go_wp2
        go_ret
        exact ⟨_, rfl, ⟨false, rfl, (fun h => nomatch h), fun h => absurd h HNO.out⟩, hS.drop⟩
      | true =>
        have HO2 := Lib.hid (chk_snoc HX.out HOK.out hb)
        rw [hb] at HM
        clear hx hb
        by_cases h0 : i = 0
        · have HS2 := Lib.hid (HSR.out.snoc HX.out (.inl h0))
          have k2 : ¬ (0 : Int) < (i : Int) := by omega
          have k4 : decide ((0 : Int) < (i : Int)) = false := decide_eq_false k2
          have k5 : decide (0 < i) = false := decide_eq_false (by omega)
          clear hlt hi h0
          go_wp2_with (first
            | (refine toList (by rfl) ?_; refine wp_of_reads (rLdRdA (f := ev2) (x := ⟨en, ei⟩) (HR.out _ hS) (ev2_len l) _ _ (by rfl) _ (by rfl) (agOf (by rfl)) (szOf (by rfl)) i (by omega) HX.out (by omega)) ?_)
            | (refine toList (by rfl) ?_; refine al hS _ (by rfl) (zrOf (by rfl)) ?_; intro px w1 hS1; clear hS; have hS := hS1; clear hS1; rw [cells_agg] at hS)
            | (refine toList (by rfl) ?_; refine stW hS _ _ _ (by rfl) (by rfl) [.string ⟨en.toArray⟩, .int .i64 ei] (by rfl) (by simp [Value.oneCell']) (szOf (by rfl)) Has.z (by rfl) ?_; intro w1 hS1; clear hS; have hS := hS1; clear hS1; dsimp only [List.set_cons_zero] at hS))
          refine regStart [1] hS (by kernel_rfl) rfl ?_
          intro w1 hS1
          clear hS; have hS := hS1; clear hS1
          (refine regR 0 hS (fun _ h => h) rfl (by kernel_rfl) (by kernel_rfl) (by kernel_rfl) (by kernel_rfl) (by kernel_rfl) (fun _ _ _ _ h => h) (by rfl) (by rfl) ?_; ((first
                                | refine ⟨_, yLdA (vs := [.string ⟨en.toArray⟩, .int .i64 ei]) _ _ (by rfl) _ _ (by rfl) (agOf (by rfl)) (szOf (by rfl)) Has.z (by rfl) (by rfl), ?_⟩
                                | refine ⟨.string ⟨en.toArray⟩, yLd _ _ (by rfl) _ _ (by rfl) (agOf (by rfl)) Has.z (by rfl), ?_⟩
                                | refine ⟨.string ⟨an.toArray⟩, fun u hu => rLdRd (f := ev2) (x := ⟨an, ai⟩) (HR.out _ hu.drop) (ev2_len l) _ _ (by rfl) _ (by rfl) (agOf (by rfl)) m 0 (by omega) HA.out (by rfl) (by omega), ?_⟩)); go_frame)
          (refine regA 1 rfl (by kernel_rfl) (by rfl) (by rfl) true (by kernel_rfl) (fun K hK => ?_); ((refine Go.Sep.cl 71 _ _ (by rfl) (by rfl) (by kernel_rfl) (HM.out _ _ hS) ?_; rintro e w1 ⟨rfl, hS1⟩; clear hS; have hS := hS1; clear hS1; refine ⟨_, rfl, ?_⟩)); refine hK _ _ _ hS (by first | (intro h; cases h; done) | exact fun _ _ h => h | exact fun _ _ h => h.drop | exact fun _ _ h => h.drop.drop | exact fun _ _ h => h.drop.pull1 | exact fun _ _ h => h.take2 | exact fun _ _ h => h.one Has.z | exact fun _ _ h => h.one (Has.s Has.z) | exact fun _ _ h => h.one (Has.s (Has.s Has.z))) ?_; clear hK K; go_frame)
          (refine regP 2 hS (fun _ h => h) rfl (by kernel_rfl) (by kernel_rfl) (by kernel_rfl) (fun _ _ _ _ h => h) (by rfl) (by rfl) ?_; apply Exists.intro; apply And.intro; (intro w; go_simp; try with_reducible rfl); go_frame)
          (refine regP 3 hS (fun _ h => h) rfl (by kernel_rfl) (by kernel_rfl) (by kernel_rfl) (fun _ _ _ _ h => h) (by rfl) (by rfl) ?_; apply Exists.intro; apply And.intro; (intro w; go_simp; try with_reducible rfl); go_frame)
          (first | (refine regP 4 hS (fun _ h => h) rfl (by kernel_rfl) (by kernel_rfl) (by kernel_rfl) (fun _ _ _ _ h => h) (by rfl) (by rfl) ?_; apply Exists.intro; apply And.intro; (intro w; go_simp; try with_reducible rfl); go_frame) | (refine regN 4 hS (fun _ h => h) rfl (by kernel_rfl) (by kernel_rfl) (by kernel_rfl) (fun _ _ _ h => h) (by rfl) (by rfl) ?_; go_frame))
          (first | (refine regP 5 hS (fun _ h => h) rfl (by kernel_rfl) (by kernel_rfl) (by kernel_rfl) (fun _ _ _ _ h => h) (by rfl) (by rfl) ?_; apply Exists.intro; apply And.intro; (intro w; go_simp; try with_reducible rfl); go_frame) | (refine regN 5 hS (fun _ h => h) rfl (by kernel_rfl) (by kernel_rfl) (by kernel_rfl) (fun _ _ _ h => h) (by rfl) (by rfl) ?_; go_frame))
          (first | (refine regP 6 hS (fun _ h => h) rfl (by kernel_rfl) (by kernel_rfl) (by kernel_rfl) (fun _ _ _ _ h => h) (by rfl) (by rfl) ?_; apply Exists.intro; apply And.intro; (intro w; go_simp; try with_reducible rfl); go_frame) | (refine regN 6 hS (fun _ h => h) rfl (by kernel_rfl) (by kernel_rfl) (by kernel_rfl) (fun _ _ _ h => h) (by rfl) (by rfl) ?_; go_frame))
          (first | (refine regP 7 hS (fun _ h => h) rfl (by kernel_rfl) (by kernel_rfl) (by kernel_rfl) (fun _ _ _ _ h => h) (by rfl) (by rfl) ?_; apply Exists.intro; apply And.intro; (intro w; go_simp; try with_reducible rfl); go_frame) | (refine regN 7 hS (fun _ h => h) rfl (by kernel_rfl) (by kernel_rfl) (by kernel_rfl) (fun _ _ _ h => h) (by rfl) (by rfl) ?_; go_frame))
          (first | (refine regR 8 hS (fun _ h => h) rfl (by kernel_rfl) (by kernel_rfl) (by kernel_rfl) (by kernel_rfl) (by kernel_rfl) (fun _ _ _ _ h => h) (by rfl) (by rfl) ?_; ((first
                                | refine ⟨_, yLdA (vs := [.string ⟨en.toArray⟩, .int .i64 ei]) _ _ (by rfl) _ _ (by rfl) (agOf (by rfl)) (szOf (by rfl)) Has.z (by rfl) (by rfl), ?_⟩
                                | refine ⟨.string ⟨en.toArray⟩, yLd _ _ (by rfl) _ _ (by rfl) (agOf (by rfl)) Has.z (by rfl), ?_⟩
                                | refine ⟨.string ⟨an.toArray⟩, fun u hu => rLdRd (f := ev2) (x := ⟨an, ai⟩) (HR.out _ hu.drop) (ev2_len l) _ _ (by rfl) _ (by rfl) (agOf (by rfl)) m 0 (by omega) HA.out (by rfl) (by omega), ?_⟩)); go_frame) | (refine regN 8 hS (fun _ h => h) rfl (by kernel_rfl) (by kernel_rfl) (by kernel_rfl) (fun _ _ _ h => h) (by rfl) (by rfl) ?_; go_frame))
          (first | (refine regP 9 hS (fun _ h => h) rfl (by kernel_rfl) (by kernel_rfl) (by kernel_rfl) (fun _ _ _ _ h => h) (by rfl) (by rfl) ?_; apply Exists.intro; apply And.intro; (intro w; go_simp; try with_reducible rfl); go_frame) | (refine regN 9 hS (fun _ h => h) rfl (by kernel_rfl) (by kernel_rfl) (by kernel_rfl) (fun _ _ _ h => h) (by rfl) (by rfl) ?_; go_frame))
          (first | (refine regP 10 hS (fun _ h => h) rfl (by kernel_rfl) (by kernel_rfl) (by kernel_rfl) (fun _ _ _ _ h => h) (by rfl) (by rfl) ?_; apply Exists.intro; apply And.intro; (intro w; go_simp; try with_reducible rfl); go_frame) | (refine regN 10 hS (fun _ h => h) rfl (by kernel_rfl) (by kernel_rfl) (by kernel_rfl) (fun _ _ _ h => h) (by rfl) (by rfl) ?_; go_frame))
          (first | (refine regP 11 hS (fun _ h => h) rfl (by kernel_rfl) (by kernel_rfl) (by kernel_rfl) (fun _ _ _ _ h => h) (by rfl) (by rfl) ?_; apply Exists.intro; apply And.intro; (intro w; go_simp; try with_reducible rfl); go_frame; try simp (disch := omega) only [IntWalk.i64_in]) | (refine regN 11 hS (fun _ h => h) rfl (by kernel_rfl) (by kernel_rfl) (by kernel_rfl) (fun _ _ _ h => h) (by rfl) (by rfl) ?_; go_frame))
          (first | (refine regP 12 hS (fun _ h => h) rfl (by kernel_rfl) (by kernel_rfl) (by kernel_rfl) (fun _ _ _ _ h => h) (by rfl) (by rfl) ?_; apply Exists.intro; apply And.intro; (intro w; go_simp; try with_reducible rfl); go_frame) | (refine regN 12 hS (fun _ h => h) rfl (by kernel_rfl) (by kernel_rfl) (by kernel_rfl) (fun _ _ _ h => h) (by rfl) (by rfl) ?_; go_frame))
          (first | (refine regP 13 hS (fun _ h => h) rfl (by kernel_rfl) (by kernel_rfl) (by kernel_rfl) (fun _ _ _ _ h => h) (by rfl) (by rfl) ?_; apply Exists.intro; apply And.intro; (intro w; go_simp; try with_reducible rfl); go_frame) | (refine regN 13 hS (fun _ h => h) rfl (by kernel_rfl) (by kernel_rfl) (by kernel_rfl) (fun _ _ _ h => h) (by rfl) (by rfl) ?_; go_frame))
          (first | (refine regR 14 hS (fun _ h => h) rfl (by kernel_rfl) (by kernel_rfl) (by kernel_rfl) (by kernel_rfl) (by kernel_rfl) (fun _ _ _ _ h => h) (by rfl) (by rfl) ?_; ((first
                                | refine ⟨_, yLdA (vs := [.string ⟨en.toArray⟩, .int .i64 ei]) _ _ (by rfl) _ _ (by rfl) (agOf (by rfl)) (szOf (by rfl)) Has.z (by rfl) (by rfl), ?_⟩
                                | refine ⟨.string ⟨en.toArray⟩, yLd _ _ (by rfl) _ _ (by rfl) (agOf (by rfl)) Has.z (by rfl), ?_⟩
                                | refine ⟨.string ⟨an.toArray⟩, fun u hu => rLdRd (f := ev2) (x := ⟨an, ai⟩) (HR.out _ hu.drop) (ev2_len l) _ _ (by rfl) _ (by rfl) (agOf (by rfl)) m 0 (by omega) HA.out (by rfl) (by omega), ?_⟩)); go_frame) | (refine regN 14 hS (fun _ h => h) rfl (by kernel_rfl) (by kernel_rfl) (by kernel_rfl) (fun _ _ _ h => h) (by rfl) (by rfl) ?_; go_frame))
          (first | (refine regP 15 hS (fun _ h => h) rfl (by kernel_rfl) (by kernel_rfl) (by kernel_rfl) (fun _ _ _ _ h => h) (by rfl) (by rfl) ?_; apply Exists.intro; apply And.intro; (intro w; go_simp; try with_reducible rfl); go_frame) | (refine regN 15 hS (fun _ h => h) rfl (by kernel_rfl) (by kernel_rfl) (by kernel_rfl) (fun _ _ _ h => h) (by rfl) (by rfl) ?_; go_frame))
          (first | (refine regP 16 hS (fun _ h => h) rfl (by kernel_rfl) (by kernel_rfl) (by kernel_rfl) (fun _ _ _ _ h => h) (by rfl) (by rfl) ?_; apply Exists.intro; apply And.intro; (intro w; go_simp; try with_reducible rfl); go_frame) | (refine regN 16 hS (fun _ h => h) rfl (by kernel_rfl) (by kernel_rfl) (by kernel_rfl) (fun _ _ _ h => h) (by rfl) (by rfl) ?_; go_frame))
          (refine regP 17 hS (fun _ h => h) rfl (by kernel_rfl) (by kernel_rfl) (by kernel_rfl) (fun _ _ _ _ h => h) (by rfl) (by rfl) ?_; apply Exists.intro; apply And.intro; (intro w; go_simp; try with_reducible rfl); go_frame)
          refine regDone (by kernel_rfl) ?_
          go_wp2
          exact ⟨⟨i + 1, by go_num, HLT.out, HO2.out, HS2.out, hS.drop⟩, by simp [intOf]; have := HLT.out; omega⟩
        · obtain ⟨m, hm⟩ : ∃ m, i = m + 1 := ⟨i - 1, by omega⟩
          obtain ⟨⟨an, ai⟩, ha⟩ : ∃ a, l[m]? = some a := ⟨_, List.getElem?_eq_getElem (by omega)⟩
          have HA := Lib.hid ha
          have HAP := Lib.hid (show l[i - 1]? = some ⟨an, ai⟩ by rw [hm]; exact ha)
          have hsub : (i : Int) - 1 = (m : Int) := by omega
          have km : m < l.length := by omega
          have km2 : (m : Int) < (l.length : Int) := by omega
          have k2 : (0 : Int) < (i : Int) := by omega
          have k4 : decide ((0 : Int) < (i : Int)) = true := decide_eq_true k2
          have k5 : decide (0 < i) = true := decide_eq_true (by omega)
          cases hb : less an en with
          | false =>
            have HNO := Lib.hid (show ¬ ChkD l from fun h => by have := h.srt.prev HAP.out HX.out h0; rw [hb] at this; cases this)
            have hcs := leq_cases hb
            clear ha hlt hi h0 hm hb
            rcases hcs with ⟨g1, g2⟩ | ⟨g1, g2⟩
            all_goals
              go_wp2_with (first
                | (refine toList (by rfl) ?_; refine wp_of_reads (rLdRdA (f := ev2) (x := ⟨en, ei⟩) (HR.out _ hS) (ev2_len l) _ _ (by rfl) _ (by rfl) (agOf (by rfl)) (szOf (by rfl)) i (by omega) HX.out (by omega)) ?_)
                | (refine toList (by rfl) ?_; refine al hS _ (by rfl) (zrOf (by rfl)) ?_; intro px w1 hS1; clear hS; have hS := hS1; clear hS1; rw [cells_agg] at hS)
                | (refine toList (by rfl) ?_; refine stW hS _ _ _ (by rfl) (by rfl) [.string ⟨en.toArray⟩, .int .i64 ei] (by rfl) (by simp [Value.oneCell']) (szOf (by rfl)) Has.z (by rfl) ?_; intro w1 hS1; clear hS; have hS := hS1; clear hS1; dsimp only [List.set_cons_zero] at hS))
              refine regStart [1] hS (by kernel_rfl) rfl ?_
              intro w1 hS1
              clear hS; have hS := hS1; clear hS1
              (refine regR 0 hS (fun _ h => h) rfl (by kernel_rfl) (by kernel_rfl) (by kernel_rfl) (by kernel_rfl) (by kernel_rfl) (fun _ _ _ _ h => h) (by rfl) (by rfl) ?_; ((first
                                            | refine ⟨_, yLdA (vs := [.string ⟨en.toArray⟩, .int .i64 ei]) _ _ (by rfl) _ _ (by rfl) (agOf (by rfl)) (szOf (by rfl)) Has.z (by rfl) (by rfl), ?_⟩
                                            | refine ⟨.string ⟨en.toArray⟩, yLd _ _ (by rfl) _ _ (by rfl) (agOf (by rfl)) Has.z (by rfl), ?_⟩
                                            | refine ⟨.string ⟨an.toArray⟩, fun u hu => rLdRd (f := ev2) (x := ⟨an, ai⟩) (HR.out _ hu.drop) (ev2_len l) _ _ (by rfl) _ (by rfl) (agOf (by rfl)) m 0 (by omega) HA.out (by rfl) (by omega), ?_⟩)); go_frame)
              (refine regA 1 rfl (by kernel_rfl) (by rfl) (by rfl) true (by kernel_rfl) (fun K hK => ?_); ((refine Go.Sep.cl 71 _ _ (by rfl) (by rfl) (by kernel_rfl) (HM.out _ _ hS) ?_; rintro e w1 ⟨rfl, hS1⟩; clear hS; have hS := hS1; clear hS1; refine ⟨_, rfl, ?_⟩)); refine hK _ _ _ hS (by first | (intro h; cases h; done) | exact fun _ _ h => h | exact fun _ _ h => h.drop | exact fun _ _ h => h.drop.drop | exact fun _ _ h => h.drop.pull1 | exact fun _ _ h => h.take2 | exact fun _ _ h => h.one Has.z | exact fun _ _ h => h.one (Has.s Has.z) | exact fun _ _ h => h.one (Has.s (Has.s Has.z))) ?_; clear hK K; go_frame)
              (refine regP 2 hS (fun _ h => h) rfl (by kernel_rfl) (by kernel_rfl) (by kernel_rfl) (fun _ _ _ _ h => h) (by rfl) (by rfl) ?_; apply Exists.intro; apply And.intro; (intro w; go_simp; try with_reducible rfl); go_frame)
              (refine regP 3 hS (fun _ h => h) rfl (by kernel_rfl) (by kernel_rfl) (by kernel_rfl) (fun _ _ _ _ h => h) (by rfl) (by rfl) ?_; apply Exists.intro; apply And.intro; (intro w; go_simp; try with_reducible rfl); go_frame)
              (first | (refine regP 4 hS (fun _ h => h) rfl (by kernel_rfl) (by kernel_rfl) (by kernel_rfl) (fun _ _ _ _ h => h) (by rfl) (by rfl) ?_; apply Exists.intro; apply And.intro; (intro w; go_simp; try with_reducible rfl); go_frame) | (refine regN 4 hS (fun _ h => h) rfl (by kernel_rfl) (by kernel_rfl) (by kernel_rfl) (fun _ _ _ h => h) (by rfl) (by rfl) ?_; go_frame))
              (first | (refine regP 5 hS (fun _ h => h) rfl (by kernel_rfl) (by kernel_rfl) (by kernel_rfl) (fun _ _ _ _ h => h) (by rfl) (by rfl) ?_; apply Exists.intro; apply And.intro; (intro w; go_simp; try with_reducible rfl); go_frame) | (refine regN 5 hS (fun _ h => h) rfl (by kernel_rfl) (by kernel_rfl) (by kernel_rfl) (fun _ _ _ h => h) (by rfl) (by rfl) ?_; go_frame))
              (first | (refine regP 6 hS (fun _ h => h) rfl (by kernel_rfl) (by kernel_rfl) (by kernel_rfl) (fun _ _ _ _ h => h) (by rfl) (by rfl) ?_; apply Exists.intro; apply And.intro; (intro w; go_simp; try with_reducible rfl); go_frame) | (refine regN 6 hS (fun _ h => h) rfl (by kernel_rfl) (by kernel_rfl) (by kernel_rfl) (fun _ _ _ h => h) (by rfl) (by rfl) ?_; go_frame))
              (first | (refine regP 7 hS (fun _ h => h) rfl (by kernel_rfl) (by kernel_rfl) (by kernel_rfl) (fun _ _ _ _ h => h) (by rfl) (by rfl) ?_; apply Exists.intro; apply And.intro; (intro w; go_simp; try with_reducible rfl); go_frame) | (refine regN 7 hS (fun _ h => h) rfl (by kernel_rfl) (by kernel_rfl) (by kernel_rfl) (fun _ _ _ h => h) (by rfl) (by rfl) ?_; go_frame))
              (first | (refine regR 8 hS (fun _ h => h) rfl (by kernel_rfl) (by kernel_rfl) (by kernel_rfl) (by kernel_rfl) (by kernel_rfl) (fun _ _ _ _ h => h) (by rfl) (by rfl) ?_; ((first
                                            | refine ⟨_, yLdA (vs := [.string ⟨en.toArray⟩, .int .i64 ei]) _ _ (by rfl) _ _ (by rfl) (agOf (by rfl)) (szOf (by rfl)) Has.z (by rfl) (by rfl), ?_⟩
                                            | refine ⟨.string ⟨en.toArray⟩, yLd _ _ (by rfl) _ _ (by rfl) (agOf (by rfl)) Has.z (by rfl), ?_⟩
                                            | refine ⟨.string ⟨an.toArray⟩, fun u hu => rLdRd (f := ev2) (x := ⟨an, ai⟩) (HR.out _ hu.drop) (ev2_len l) _ _ (by rfl) _ (by rfl) (agOf (by rfl)) m 0 (by omega) HA.out (by rfl) (by omega), ?_⟩)); go_frame) | (refine regN 8 hS (fun _ h => h) rfl (by kernel_rfl) (by kernel_rfl) (by kernel_rfl) (fun _ _ _ h => h) (by rfl) (by rfl) ?_; go_frame))
              (first | (refine regP 9 hS (fun _ h => h) rfl (by kernel_rfl) (by kernel_rfl) (by kernel_rfl) (fun _ _ _ _ h => h) (by rfl) (by rfl) ?_; apply Exists.intro; apply And.intro; (intro w; go_simp; try with_reducible rfl); go_frame) | (refine regN 9 hS (fun _ h => h) rfl (by kernel_rfl) (by kernel_rfl) (by kernel_rfl) (fun _ _ _ h => h) (by rfl) (by rfl) ?_; go_frame))
              (first | (refine regP 10 hS (fun _ h => h) rfl (by kernel_rfl) (by kernel_rfl) (by kernel_rfl) (fun _ _ _ _ h => h) (by rfl) (by rfl) ?_; apply Exists.intro; apply And.intro; (intro w; go_simp; try with_reducible rfl); go_frame) | (refine regN 10 hS (fun _ h => h) rfl (by kernel_rfl) (by kernel_rfl) (by kernel_rfl) (fun _ _ _ h => h) (by rfl) (by rfl) ?_; go_frame))
              (first | (refine regP 11 hS (fun _ h => h) rfl (by kernel_rfl) (by kernel_rfl) (by kernel_rfl) (fun _ _ _ _ h => h) (by rfl) (by rfl) ?_; apply Exists.intro; apply And.intro; (intro w; go_simp; try with_reducible rfl); go_frame; try simp (disch := omega) only [IntWalk.i64_in]) | (refine regN 11 hS (fun _ h => h) rfl (by kernel_rfl) (by kernel_rfl) (by kernel_rfl) (fun _ _ _ h => h) (by rfl) (by rfl) ?_; go_frame))
              (first | (refine regP 12 hS (fun _ h => h) rfl (by kernel_rfl) (by kernel_rfl) (by kernel_rfl) (fun _ _ _ _ h => h) (by rfl) (by rfl) ?_; apply Exists.intro; apply And.intro; (intro w; go_simp; try with_reducible rfl); go_frame) | (refine regN 12 hS (fun _ h => h) rfl (by kernel_rfl) (by kernel_rfl) (by kernel_rfl) (fun _ _ _ h => h) (by rfl) (by rfl) ?_; go_frame))
              (first | (refine regP 13 hS (fun _ h => h) rfl (by kernel_rfl) (by kernel_rfl) (by kernel_rfl) (fun _ _ _ _ h => h) (by rfl) (by rfl) ?_; apply Exists.intro; apply And.intro; (intro w; go_simp; try with_reducible rfl); go_frame) | (refine regN 13 hS (fun _ h => h) rfl (by kernel_rfl) (by kernel_rfl) (by kernel_rfl) (fun _ _ _ h => h) (by rfl) (by rfl) ?_; go_frame))
              (first | (refine regR 14 hS (fun _ h => h) rfl (by kernel_rfl) (by kernel_rfl) (by kernel_rfl) (by kernel_rfl) (by kernel_rfl) (fun _ _ _ _ h => h) (by rfl) (by rfl) ?_; ((first
                                            | refine ⟨_, yLdA (vs := [.string ⟨en.toArray⟩, .int .i64 ei]) _ _ (by rfl) _ _ (by rfl) (agOf (by rfl)) (szOf (by rfl)) Has.z (by rfl) (by rfl), ?_⟩
                                            | refine ⟨.string ⟨en.toArray⟩, yLd _ _ (by rfl) _ _ (by rfl) (agOf (by rfl)) Has.z (by rfl), ?_⟩
                                            | refine ⟨.string ⟨an.toArray⟩, fun u hu => rLdRd (f := ev2) (x := ⟨an, ai⟩) (HR.out _ hu.drop) (ev2_len l) _ _ (by rfl) _ (by rfl) (agOf (by rfl)) m 0 (by omega) HA.out (by rfl) (by omega), ?_⟩)); go_frame) | (refine regN 14 hS (fun _ h => h) rfl (by kernel_rfl) (by kernel_rfl) (by kernel_rfl) (fun _ _ _ h => h) (by rfl) (by rfl) ?_; go_frame))
              (first | (refine regP 15 hS (fun _ h => h) rfl (by kernel_rfl) (by kernel_rfl) (by kernel_rfl) (fun _ _ _ _ h => h) (by rfl) (by rfl) ?_; apply Exists.intro; apply And.intro; (intro w; go_simp; try with_reducible rfl); go_frame) | (refine regN 15 hS (fun _ h => h) rfl (by kernel_rfl) (by kernel_rfl) (by kernel_rfl) (fun _ _ _ h => h) (by rfl) (by rfl) ?_; go_frame))
              (first | (refine regP 16 hS (fun _ h => h) rfl (by kernel_rfl) (by kernel_rfl) (by kernel_rfl) (fun _ _ _ _ h => h) (by rfl) (by rfl) ?_; apply Exists.intro; apply And.intro; (intro w; go_simp; try with_reducible rfl); go_frame) | (refine regN 16 hS (fun _ h => h) rfl (by kernel_rfl) (by kernel_rfl) (by kernel_rfl) (fun _ _ _ h => h) (by rfl) (by rfl) ?_; go_frame))
              (refine regP 17 hS (fun _ h => h) rfl (by kernel_rfl) (by kernel_rfl) (by kernel_rfl) (fun _ _ _ _ h => h) (by rfl) (by rfl) ?_; apply Exists.intro; apply And.intro; (intro w; go_simp; try with_reducible rfl); go_frame)
              refine regDone (by kernel_rfl) ?_
              go_wp2
              go_ret
              exact ⟨_, rfl, ⟨false, rfl, (fun h => nomatch h), fun h => absurd h HNO.out⟩, hS.drop⟩
          | true =>
            have HS2 := Lib.hid (HSR.out.snoc HX.out (.inr ⟨_, HAP.out, hb⟩))
            obtain ⟨g1, g2⟩ := leq_yes hb
            clear ha hlt hi h0 hm
            go_wp2_with (first
              | (refine toList (by rfl) ?_; refine wp_of_reads (rLdRdA (f := ev2) (x := ⟨en, ei⟩) (HR.out _ hS) (ev2_len l) _ _ (by rfl) _ (by rfl) (agOf (by rfl)) (szOf (by rfl)) i (by omega) HX.out (by omega)) ?_)
              | (refine toList (by rfl) ?_; refine al hS _ (by rfl) (zrOf (by rfl)) ?_; intro px w1 hS1; clear hS; have hS := hS1; clear hS1; rw [cells_agg] at hS)
              | (refine toList (by rfl) ?_; refine stW hS _ _ _ (by rfl) (by rfl) [.string ⟨en.toArray⟩, .int .i64 ei] (by rfl) (by simp [Value.oneCell']) (szOf (by rfl)) Has.z (by rfl) ?_; intro w1 hS1; clear hS; have hS := hS1; clear hS1; dsimp only [List.set_cons_zero] at hS))
            refine regStart [1] hS (by kernel_rfl) rfl ?_
            intro w1 hS1
            clear hS; have hS := hS1; clear hS1
            (refine regR 0 hS (fun _ h => h) rfl (by kernel_rfl) (by kernel_rfl) (by kernel_rfl) (by kernel_rfl) (by kernel_rfl) (fun _ _ _ _ h => h) (by rfl) (by rfl) ?_; ((first
                                      | refine ⟨_, yLdA (vs := [.string ⟨en.toArray⟩, .int .i64 ei]) _ _ (by rfl) _ _ (by rfl) (agOf (by rfl)) (szOf (by rfl)) Has.z (by rfl) (by rfl), ?_⟩
                                      | refine ⟨.string ⟨en.toArray⟩, yLd _ _ (by rfl) _ _ (by rfl) (agOf (by rfl)) Has.z (by rfl), ?_⟩
                                      | refine ⟨.string ⟨an.toArray⟩, fun u hu => rLdRd (f := ev2) (x := ⟨an, ai⟩) (HR.out _ hu.drop) (ev2_len l) _ _ (by rfl) _ (by rfl) (agOf (by rfl)) m 0 (by omega) HA.out (by rfl) (by omega), ?_⟩)); go_frame)
            (refine regA 1 rfl (by kernel_rfl) (by rfl) (by rfl) true (by kernel_rfl) (fun K hK => ?_); ((refine Go.Sep.cl 71 _ _ (by rfl) (by rfl) (by kernel_rfl) (HM.out _ _ hS) ?_; rintro e w1 ⟨rfl, hS1⟩; clear hS; have hS := hS1; clear hS1; refine ⟨_, rfl, ?_⟩)); refine hK _ _ _ hS (by first | (intro h; cases h; done) | exact fun _ _ h => h | exact fun _ _ h => h.drop | exact fun _ _ h => h.drop.drop | exact fun _ _ h => h.drop.pull1 | exact fun _ _ h => h.take2 | exact fun _ _ h => h.one Has.z | exact fun _ _ h => h.one (Has.s Has.z) | exact fun _ _ h => h.one (Has.s (Has.s Has.z))) ?_; clear hK K; go_frame)
            (refine regP 2 hS (fun _ h => h) rfl (by kernel_rfl) (by kernel_rfl) (by kernel_rfl) (fun _ _ _ _ h => h) (by rfl) (by rfl) ?_; apply Exists.intro; apply And.intro; (intro w; go_simp; try with_reducible rfl); go_frame)
            (refine regP 3 hS (fun _ h => h) rfl (by kernel_rfl) (by kernel_rfl) (by kernel_rfl) (fun _ _ _ _ h => h) (by rfl) (by rfl) ?_; apply Exists.intro; apply And.intro; (intro w; go_simp; try with_reducible rfl); go_frame)
            (first | (refine regP 4 hS (fun _ h => h) rfl (by kernel_rfl) (by kernel_rfl) (by kernel_rfl) (fun _ _ _ _ h => h) (by rfl) (by rfl) ?_; apply Exists.intro; apply And.intro; (intro w; go_simp; try with_reducible rfl); go_frame) | (refine regN 4 hS (fun _ h => h) rfl (by kernel_rfl) (by kernel_rfl) (by kernel_rfl) (fun _ _ _ h => h) (by rfl) (by rfl) ?_; go_frame))
            (first | (refine regP 5 hS (fun _ h => h) rfl (by kernel_rfl) (by kernel_rfl) (by kernel_rfl) (fun _ _ _ _ h => h) (by rfl) (by rfl) ?_; apply Exists.intro; apply And.intro; (intro w; go_simp; try with_reducible rfl); go_frame) | (refine regN 5 hS (fun _ h => h) rfl (by kernel_rfl) (by kernel_rfl) (by kernel_rfl) (fun _ _ _ h => h) (by rfl) (by rfl) ?_; go_frame))
            (first | (refine regP 6 hS (fun _ h => h) rfl (by kernel_rfl) (by kernel_rfl) (by kernel_rfl) (fun _ _ _ _ h => h) (by rfl) (by rfl) ?_; apply Exists.intro; apply And.intro; (intro w; go_simp; try with_reducible rfl); go_frame) | (refine regN 6 hS (fun _ h => h) rfl (by kernel_rfl) (by kernel_rfl) (by kernel_rfl) (fun _ _ _ h => h) (by rfl) (by rfl) ?_; go_frame))
            (first | (refine regP 7 hS (fun _ h => h) rfl (by kernel_rfl) (by kernel_rfl) (by kernel_rfl) (fun _ _ _ _ h => h) (by rfl) (by rfl) ?_; apply Exists.intro; apply And.intro; (intro w; go_simp; try with_reducible rfl); go_frame) | (refine regN 7 hS (fun _ h => h) rfl (by kernel_rfl) (by kernel_rfl) (by kernel_rfl) (fun _ _ _ h => h) (by rfl) (by rfl) ?_; go_frame))
            (first | (refine regR 8 hS (fun _ h => h) rfl (by kernel_rfl) (by kernel_rfl) (by kernel_rfl) (by kernel_rfl) (by kernel_rfl) (fun _ _ _ _ h => h) (by rfl) (by rfl) ?_; ((first
                                      | refine ⟨_, yLdA (vs := [.string ⟨en.toArray⟩, .int .i64 ei]) _ _ (by rfl) _ _ (by rfl) (agOf (by rfl)) (szOf (by rfl)) Has.z (by rfl) (by rfl), ?_⟩
                                      | refine ⟨.string ⟨en.toArray⟩, yLd _ _ (by rfl) _ _ (by rfl) (agOf (by rfl)) Has.z (by rfl), ?_⟩
                                      | refine ⟨.string ⟨an.toArray⟩, fun u hu => rLdRd (f := ev2) (x := ⟨an, ai⟩) (HR.out _ hu.drop) (ev2_len l) _ _ (by rfl) _ (by rfl) (agOf (by rfl)) m 0 (by omega) HA.out (by rfl) (by omega), ?_⟩)); go_frame) | (refine regN 8 hS (fun _ h => h) rfl (by kernel_rfl) (by kernel_rfl) (by kernel_rfl) (fun _ _ _ h => h) (by rfl) (by rfl) ?_; go_frame))
            (first | (refine regP 9 hS (fun _ h => h) rfl (by kernel_rfl) (by kernel_rfl) (by kernel_rfl) (fun _ _ _ _ h => h) (by rfl) (by rfl) ?_; apply Exists.intro; apply And.intro; (intro w; go_simp; try with_reducible rfl); go_frame) | (refine regN 9 hS (fun _ h => h) rfl (by kernel_rfl) (by kernel_rfl) (by kernel_rfl) (fun _ _ _ h => h) (by rfl) (by rfl) ?_; go_frame))
            (first | (refine regP 10 hS (fun _ h => h) rfl (by kernel_rfl) (by kernel_rfl) (by kernel_rfl) (fun _ _ _ _ h => h) (by rfl) (by rfl) ?_; apply Exists.intro; apply And.intro; (intro w; go_simp; try with_reducible rfl); go_frame) | (refine regN 10 hS (fun _ h => h) rfl (by kernel_rfl) (by kernel_rfl) (by kernel_rfl) (fun _ _ _ h => h) (by rfl) (by rfl) ?_; go_frame))
            (first | (refine regP 11 hS (fun _ h => h) rfl (by kernel_rfl) (by kernel_rfl) (by kernel_rfl) (fun _ _ _ _ h => h) (by rfl) (by rfl) ?_; apply Exists.intro; apply And.intro; (intro w; go_simp; try with_reducible rfl); go_frame; try simp (disch := omega) only [IntWalk.i64_in]) | (refine regN 11 hS (fun _ h => h) rfl (by kernel_rfl) (by kernel_rfl) (by kernel_rfl) (fun _ _ _ h => h) (by rfl) (by rfl) ?_; go_frame))
            (first | (refine regP 12 hS (fun _ h => h) rfl (by kernel_rfl) (by kernel_rfl) (by kernel_rfl) (fun _ _ _ _ h => h) (by rfl) (by rfl) ?_; apply Exists.intro; apply And.intro; (intro w; go_simp; try with_reducible rfl); go_frame) | (refine regN 12 hS (fun _ h => h) rfl (by kernel_rfl) (by kernel_rfl) (by kernel_rfl) (fun _ _ _ h => h) (by rfl) (by rfl) ?_; go_frame))
            (first | (refine regP 13 hS (fun _ h => h) rfl (by kernel_rfl) (by kernel_rfl) (by kernel_rfl) (fun _ _ _ _ h => h) (by rfl) (by rfl) ?_; apply Exists.intro; apply And.intro; (intro w; go_simp; try with_reducible rfl); go_frame) | (refine regN 13 hS (fun _ h => h) rfl (by kernel_rfl) (by kernel_rfl) (by kernel_rfl) (fun _ _ _ h => h) (by rfl) (by rfl) ?_; go_frame))
            (first | (refine regR 14 hS (fun _ h => h) rfl (by kernel_rfl) (by kernel_rfl) (by kernel_rfl) (by kernel_rfl) (by kernel_rfl) (fun _ _ _ _ h => h) (by rfl) (by rfl) ?_; ((first
                                      | refine ⟨_, yLdA (vs := [.string ⟨en.toArray⟩, .int .i64 ei]) _ _ (by rfl) _ _ (by rfl) (agOf (by rfl)) (szOf (by rfl)) Has.z (by rfl) (by rfl), ?_⟩
                                      | refine ⟨.string ⟨en.toArray⟩, yLd _ _ (by rfl) _ _ (by rfl) (agOf (by rfl)) Has.z (by rfl), ?_⟩
                                      | refine ⟨.string ⟨an.toArray⟩, fun u hu => rLdRd (f := ev2) (x := ⟨an, ai⟩) (HR.out _ hu.drop) (ev2_len l) _ _ (by rfl) _ (by rfl) (agOf (by rfl)) m 0 (by omega) HA.out (by rfl) (by omega), ?_⟩)); go_frame) | (refine regN 14 hS (fun _ h => h) rfl (by kernel_rfl) (by kernel_rfl) (by kernel_rfl) (fun _ _ _ h => h) (by rfl) (by rfl) ?_; go_frame))
            (first | (refine regP 15 hS (fun _ h => h) rfl (by kernel_rfl) (by kernel_rfl) (by kernel_rfl) (fun _ _ _ _ h => h) (by rfl) (by rfl) ?_; apply Exists.intro; apply And.intro; (intro w; go_simp; try with_reducible rfl); go_frame) | (refine regN 15 hS (fun _ h => h) rfl (by kernel_rfl) (by kernel_rfl) (by kernel_rfl) (fun _ _ _ h => h) (by rfl) (by rfl) ?_; go_frame))
            (first | (refine regP 16 hS (fun _ h => h) rfl (by kernel_rfl) (by kernel_rfl) (by kernel_rfl) (fun _ _ _ _ h => h) (by rfl) (by rfl) ?_; apply Exists.intro; apply And.intro; (intro w; go_simp; try with_reducible rfl); go_frame) | (refine regN 16 hS (fun _ h => h) rfl (by kernel_rfl) (by kernel_rfl) (by kernel_rfl) (fun _ _ _ h => h) (by rfl) (by rfl) ?_; go_frame))
            (refine regP 17 hS (fun _ h => h) rfl (by kernel_rfl) (by kernel_rfl) (by kernel_rfl) (fun _ _ _ _ h => h) (by rfl) (by rfl) ?_; apply Exists.intro; apply And.intro; (intro w; go_simp; try with_reducible rfl); go_frame)
            refine regDone (by kernel_rfl) ?_
            go_wp2
            exact ⟨⟨i + 1, by go_num, HLT.out, HO2.out, HS2.out, hS.drop⟩, by simp [intOf]; have := HLT.out; omega⟩
    · have k1 : ¬ (i : Int) < (l.length : Int) := by omega
      obtain rfl : i = l.length := by omega
      have HO := Lib.hid (show ∀ e ∈ l, entOk e = true by have := HOK.out; rwa [List.take_length] at this)
      have HS := Lib.hid (show SrtE l by have := HSR.out; rwa [List.take_length] at this)
      clear hlt hi
      by_cases h64 : l.length ≤ 64
      · have e1 : (l.length : Int) ≤ 64 := by omega
        have HL := Lib.hid h64
        clear h64
        go_wp2
        go_ret
        exact ⟨_, rfl, ⟨true, rfl, fun _ => ⟨HL.out, HO.out, HS.out⟩, fun _ => rfl⟩, hS⟩
      · have e1 : ¬ (l.length : Int) ≤ 64 := by omega
        have HL := Lib.hid (show ¬ ChkD l from fun h => h64 h.len)
        clear h64
        go_wp2
        go_ret
        exact ⟨_, rfl, ⟨false, rfl, (fun h => nomatch h), fun h => absurd h HL.out⟩, hS⟩
set_option maxRecDepth 20000 in
set_option maxHeartbeats 1000000 in
theorem eclone_any {W w : World} {L : List Asrt} (hS : Sat W w L) (l : List EntD) (ao : Option Addr) (c : Nat) (hr : ∀ w L', Sat W w (L' ++ L) → Rd w (.slice ao l.length c) l.length 2 (l.flatMap ev2)) (hl : l.length ≤ 1000) :
    Calls Try.prog 55 #[.slice ao l.length c] w fun r w' => ∃ v, r = .returned v ∧ Sat W w' (Er v l :: L) := by
  have HR := Lib.hid hr
  have hli : (l.length : Int) ≤ 1000 := by omega
  obtain ⟨_, _, he, hc1, hc2, _, h5⟩ := hr w [] hS
  simp only [Value.slice.injEq, true_and] at he
  obtain ⟨rfl, rfl⟩ := he
  have E34 : ∀ (a : Option Addr) (n c : Nat) (w : World), (binOp .eql 51 (.slice a n c) (.slice none 0 0)).run Try.prog w = .ok (.bool a.isNone) w := fun a n c w => by
    simp only [binOp]
    simp [run_equal_slice_nil w _ _ a n c Try.underlying51]
  cases ao with
  | none =>
    have h0 : l = [] := List.eq_nil_of_length_eq_zero (Nat.eq_zero_of_not_pos fun h => by obtain ⟨b, off, e, _⟩ := h5 h; cases e)
    subst h0
    clear h5 hr HR
    go_enter Try.func55, Try.ntmps55
    go_wp2
    go_ret
    exact ⟨_, rfl, hS.tbNil⟩
  | some a =>
    clear h5 hr
    go_enter Try.func55, Try.ntmps55
    go_wp2_with (first
      | (refine toList (by rfl) ?_; refine bs0 hS _ (by rfl) (elOf (by rfl)) ?_; intro b1 w1 hS1; clear hS; have hS := hS1; clear hS1; replace hS := Sat.csTb (f := ev2) (sz := 2) (xs := []) (n := 0) (fun _ h => (List.not_mem_nil h).elim) rfl (by decide) hS)
      | (refine toList (by rfl) ?_; refine apTb (f := ev2) (xs := []) hS _ _ _ _ (by rfl) _ _ (by rfl) (by rfl) (elOf (by rfl)) (by rfl) (by decide) (inOf (by rfl)) Has.z l (ev2_len _) (by exact .inl (HR.out _ [_] hS)) (ev2_one _) (by simp; omega) (by simp; omega) ?_; intro v' w1 hS1; clear hS; have hS := hS1; clear hS1; dsimp only [List.set_cons_zero, List.nil_append] at hS))
    go_ret
    exact ⟨_, rfl, hS⟩
end Go.Proofs.Ytiieicdhkcikpaa
