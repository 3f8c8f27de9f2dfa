/-
  The document's Check of a question: the whole.
-/
import Derived.Test.YtpnbdnfgdiakhaaGreatQuLook
namespace Go.Proofs.YtpnbdnfgdiakhaaGreat
open Go.RowKit Go.Sep
set_option linter.unusedSimpArgs false
set_option linter.unusedVariables false
attribute [local irreducible] Go.Oper.wp Go.wpList Go.Calls Go.Code.wp Go.Sep.Reg
theorem rcheck_any {W w : World} {L : List Asrt} (hS : Sat W w L) (q : StepD) (hq : ∀ w L', Sat W w (L' ++ L) → QRd w 12 q) :
    Calls Tryz.prog 17 #[.agg (qv q).toArray] w fun r w' => r = .returned (.bool q.chk) ∧ Sat W w' L := by
  have HC := Lib.hid (fun w pn L' (h : Sat W w (Cs pn 3 [.int .i64 ((0 : Nat) : Int)] :: (L' ++ L))) => look_any 12 q 0 1 h (by decide) (by decide) (by decide) fun w L2 h => hq w (L2 ++ L') (by rw [List.append_assoc]; exact h))
  obtain ⟨ao, n, c, hu⟩ := (hq w [] hS).shape
  obtain ⟨r, hr⟩ : ∃ r, q.fits 12 (40 - 0) = r := ⟨_, rfl⟩
  have hr2 : q.chk = r := hr
  rw [hr] at HC
  rw [hr2]
  clear hr hr2
  obtain ⟨op, nn, u, ks⟩ := q
  replace hu : u = .slice ao n c := hu
  subst hu
  replace HC := Lib.hid (fun w pn L' (h : Sat W w (Cs pn 3 [.int .i64 0] :: (L' ++ L))) => show Calls Tryz.prog 34 #[.agg #[.int .i64 op, .int .i64 nn, .slice ao n c], .int .i64 1, .pointer (some ⟨pn, 0, none⟩)] w _ from HC.out w pn L' h)
  show Calls Tryz.prog 17 #[.agg #[.int .i64 op, .int .i64 nn, .slice ao n c]] w _
  clear hq
  go_enter Tryz.func17, Tryz.ntmps17
  go_wp2_with (first
    | (refine toList (by rfl) ?_; refine bx hS _ _ (by rfl) _ (by first | exact evC | exact evT (by rfl)) ?_; intro px w1 hS1; clear hS; have hS := hS1; clear hS1; rw [cells_agg] at hS)
    | (refine toList (by rfl) ?_; refine al hS _ (by rfl) (zrOf (by rfl)) ?_; intro pn w1 hS1; clear hS; have hS := (show Sat W w1 (Cs pn 3 [.int .i64 0] :: Cs px 27 [.int .i64 op, .int .i64 nn, .slice ao n c] :: L) from hS1); clear hS1)
    | (refine toList (by rfl) ?_; refine st hS _ _ _ (by rfl) _ _ (by rfl) _ (by first | exact evC | exact evT (by rfl)) (by rfl) (szOf (by rfl)) (by repeat first | exact Has.z | apply Has.s) (by exact Nat.le_of_ble_eq_true rfl) ?_; intro w1 hS1; clear hS; have hS := hS1; clear hS1; dsimp only [List.set] at hS)
    | (refine toList (by rfl) ?_; refine wp_of_reads (rLdA hS _ _ (by rfl) _ _ (by rfl) (agOf (by rfl)) (szOf (by rfl)) (Has.s Has.z) (vs := [.int .i64 op, .int .i64 nn, .slice ao n c]) (by rfl) (by rfl)) ?_)
    | (go_at_call 34; refine (HC.out _ _ [_] hS).mono ?_; rintro r w1 ⟨v, rfl, z, rfl, hz, hS1⟩; clear hS; have hS := (show Sat W w1 (Cs pn 3 _ :: Cs px 27 _ :: L) from hS1); clear hS1 hz))
  go_ret
  exact ⟨rfl, hS.drop.drop⟩
end Go.Proofs.YtpnbdnfgdiakhaaGreat
