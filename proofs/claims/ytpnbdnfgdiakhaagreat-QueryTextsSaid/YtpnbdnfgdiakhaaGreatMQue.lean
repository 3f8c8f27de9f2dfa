/-
  What the law takes of each way: Ints, the closure that yields.
  Package query: the closure that walks up.
  Package query: what Ways tells.
-/
import Derived.Test.YtpnbdnfgdiakhaaGreatMQud
import Derived.Test.YtpnbdnfgdiakhaaGreatMQua
import Derived.Test.YtpnbdnfgdiakhaaGreatMReg
namespace Go.Proofs.YtpnbdnfgdiakhaaGreat
open Go.RowKit Go.Sep
set_option linter.unusedSimpArgs false
set_option linter.unusedVariables false
attribute [local irreducible] Go.Oper.wp Go.wpList Go.Calls Go.Code.wp Go.Sep.Reg
attribute [local irreducible] IsG
theorem ir_one (w : World) {W : World} (L : List Asrt) (u : Value) (x : List Nat) (h : Sat W w (Ir u x :: L)) : u.oneCell' = true := by
  obtain ⟨ao, c, rfl, _⟩ := h.irShape (k := 0) rfl
  rfl
theorem intsN_any {W w : World} {L : List Asrt} {v : Value} {l : List Nat} (hS : Sat W w L) (hr : Rd w v l.length 1 (iv l)) (hl : l.length ≤ 1000000) :
    Calls Tryz.prog 32 #[v] w fun e w' => ∃ v', e = .returned v' ∧ Sat W w' (Ir v' l :: L) := by
  have HR := Lib.hid hr
  have H0 := Lib.hid (hS.irNil)
  obtain ⟨ao, c, rfl, _⟩ := hr
  go_enter Tryz.func32, Tryz.ntmps32
  go_wp2_with (refine toList (by rfl) ?_; refine apI (l := []) (m := l) H0.out _ _ _ _ (by rfl) (by rfl) (by rfl) (elOf (by rfl)) (by rfl) (by rfl) (by rfl) (inOf (by rfl)) Has.z HR.out (by simp; omega) ?_; intro v1 w1 hS1; clear hS; have hS := hS1; clear hS1; dsimp only [List.set_cons_zero, List.nil_append] at hS)
  go_ret
  exact ⟨_, rfl, hS⟩
set_option maxRecDepth 20000 in
theorem yield_any {W w : World} {L : List Asrt} {pa pm : Nat} {v : Value} {acc : List (List Nat)} {most : Int} (hS : Sat W w (Cs pa 43 [v] :: Rws Ir v acc :: Cs pm 3 [.int .i64 most] :: L)) (l : List Nat) (x : Value)
    (hr : ∀ w L', Sat W w (L' ++ L) → Rd w x l.length 1 (iv l)) (hl : l.length ≤ 1000000) (hacc : acc.length ≤ 1000000) :
    Calls Tryz.prog 31 #[x, .pointer (some ⟨pa, 0, none⟩), .pointer (some ⟨pm, 0, none⟩)] w fun e w' => ∃ v', e = .returned (.bool (decide ((acc.length : Int) + 1 < most))) ∧ Sat W w' (Cs pa 43 [v'] :: Rws Ir v' (acc ++ [l]) :: Cs pm 3 [.int .i64 most] :: L) := by
  have HR := Lib.hid hr
  obtain ⟨ao, c, rfl, _⟩ := hr w [_, _, _] hS
  obtain ⟨aa, ca, rfl, _⟩ := hS.rwsShape (k := 1) rfl
  have hal : ((acc ++ [l]).length : Int) ≤ 1000001 := by simp; omega
  have HAL := Lib.hid (show acc.length + [l].length ≤ 1000000000000 by simp; omega)
  clear hr
  go_enter Tryz.func31, Tryz.ntmps31
  go_wp2
  refine regStart2 [4, 5] hS (fun _ h => h.one Has.z) (by kernel_rfl) rfl ?_
  intro w1 hS1
  clear hS; have hS := hS1; clear hS1
  (refine rgR 0 hS (fun _ h => h.one Has.z) ?_; (refine ⟨_, yLd _ _ (by rfl) _ _ (by rfl) (agOf (by rfl)) (by repeat first | exact Has.z | apply Has.s) (by rfl), ?_⟩); go_frame)
  (refine rgP 1 hS (fun _ h => h.one Has.z) ?_; go_frame)
  (refine rgA 2 false fun K hK => ?_; (first
        | (refine Go.Sep.cl 32 _ _ (by rfl) (by rfl) (by kernel_rfl) (intsN_any hS (HR.out _ [_, _, _] hS) hl) ?_; rintro e w1 ⟨x, rfl, hS1⟩; obtain ⟨ax, cx, rfl, _⟩ := hS1.irShape (k := 0) rfl; clear hS; have hS := hS1; clear hS1; refine ⟨_, rfl, ?_⟩)
        | (refine bsF hS _ _ _ (by rfl) (elOf (by rfl)) [.slice ax l.length cx] (by rfl) (by rfl) (by decide) (by decide) (by simp [Value.cells]) ?_; intro b1 w1 hS1; clear hS; have hS := hS1; clear hS1; rw [sca1 rfl] at hS; replace hS := Sat.rwsOne hS)
        | (refine apRws hS _ _ _ _ (by rfl) (by rfl) (by rfl) (elOf (by rfl)) (by rfl) (by decide) (by rfl) (inOf (by rfl)) (Has.s Has.z) (fun w L u x h => ir_one w L u x h) HAL.out ?_; intro v1 w1 hS1; clear hS; have hS := hS1; clear hS1; dsimp only [List.set_cons_zero, List.set_cons_succ] at hS; obtain ⟨a1, c1, rfl, _⟩ := hS.rwsShape (k := 1) rfl)
        | (refine st hS _ _ _ (by rfl) _ _ (by rfl) _ (by rfl) (by rfl) (szOf (by rfl)) Has.z (by exact Nat.le_of_ble_eq_true rfl) ?_; intro w1 hS1; clear hS; have hS := hS1; clear hS1; dsimp only [List.set] at hS)); refine hK _ _ _ (hS.upTo (fun _ h => by first | exact h.one Has.z | exact h.one (Has.s Has.z) | exact h.one (Has.s (Has.s Has.z)) | exact h.one (Has.s (Has.s (Has.s Has.z))) | exact h | exact h.drop | exact h.drop.drop | exact h.drop.drop.drop | exact h.drop.drop.drop.drop)) (fun _ _ h => h) ?_; clear hK K; go_frame)
  (refine rgA 3 false fun K hK => ?_; (first
        | (refine Go.Sep.cl 32 _ _ (by rfl) (by rfl) (by kernel_rfl) (intsN_any hS (HR.out _ [_, _, _] hS) hl) ?_; rintro e w1 ⟨x, rfl, hS1⟩; obtain ⟨ax, cx, rfl, _⟩ := hS1.irShape (k := 0) rfl; clear hS; have hS := hS1; clear hS1; refine ⟨_, rfl, ?_⟩)
        | (refine bsF hS _ _ _ (by rfl) (elOf (by rfl)) [.slice ax l.length cx] (by rfl) (by rfl) (by decide) (by decide) (by simp [Value.cells]) ?_; intro b1 w1 hS1; clear hS; have hS := hS1; clear hS1; rw [sca1 rfl] at hS; replace hS := Sat.rwsOne hS)
        | (refine apRws hS _ _ _ _ (by rfl) (by rfl) (by rfl) (elOf (by rfl)) (by rfl) (by decide) (by rfl) (inOf (by rfl)) (Has.s Has.z) (fun w L u x h => ir_one w L u x h) HAL.out ?_; intro v1 w1 hS1; clear hS; have hS := hS1; clear hS1; dsimp only [List.set_cons_zero, List.set_cons_succ] at hS; obtain ⟨a1, c1, rfl, _⟩ := hS.rwsShape (k := 1) rfl)
        | (refine st hS _ _ _ (by rfl) _ _ (by rfl) _ (by rfl) (by rfl) (szOf (by rfl)) Has.z (by exact Nat.le_of_ble_eq_true rfl) ?_; intro w1 hS1; clear hS; have hS := hS1; clear hS1; dsimp only [List.set] at hS)); refine hK _ _ _ (hS.upTo (fun _ h => by first | exact h.one Has.z | exact h.one (Has.s Has.z) | exact h.one (Has.s (Has.s Has.z)) | exact h.one (Has.s (Has.s (Has.s Has.z))) | exact h | exact h.drop | exact h.drop.drop | exact h.drop.drop.drop | exact h.drop.drop.drop.drop)) (fun _ _ h => h) ?_; clear hK K; go_frame)
  (refine rgA 4 true fun K hK => ?_; (first
        | (refine Go.Sep.cl 32 _ _ (by rfl) (by rfl) (by kernel_rfl) (intsN_any hS (HR.out _ [_, _, _] hS) hl) ?_; rintro e w1 ⟨x, rfl, hS1⟩; obtain ⟨ax, cx, rfl, _⟩ := hS1.irShape (k := 0) rfl; clear hS; have hS := hS1; clear hS1; refine ⟨_, rfl, ?_⟩)
        | (refine bsF hS _ _ _ (by rfl) (elOf (by rfl)) [.slice ax l.length cx] (by rfl) (by rfl) (by decide) (by decide) (by simp [Value.cells]) ?_; intro b1 w1 hS1; clear hS; have hS := hS1; clear hS1; rw [sca1 rfl] at hS; replace hS := Sat.rwsOne hS)
        | (refine apRws hS _ _ _ _ (by rfl) (by rfl) (by rfl) (elOf (by rfl)) (by rfl) (by decide) (by rfl) (inOf (by rfl)) (Has.s Has.z) (fun w L u x h => ir_one w L u x h) HAL.out ?_; intro v1 w1 hS1; clear hS; have hS := hS1; clear hS1; dsimp only [List.set_cons_zero, List.set_cons_succ] at hS; obtain ⟨a1, c1, rfl, _⟩ := hS.rwsShape (k := 1) rfl)
        | (refine st hS _ _ _ (by rfl) _ _ (by rfl) _ (by rfl) (by rfl) (szOf (by rfl)) Has.z (by exact Nat.le_of_ble_eq_true rfl) ?_; intro w1 hS1; clear hS; have hS := hS1; clear hS1; dsimp only [List.set] at hS)); refine hK _ _ _ hS (by first | (intro h; cases h; done) | exact fun _ _ h => h | exact fun _ _ h => h.drop | exact fun _ _ h => h.drop.drop | exact fun _ _ h => h.drop.pull1 | exact fun _ _ h => h.take2 | exact fun _ _ h => h.one Has.z | exact fun _ _ h => h.one (Has.s Has.z) | exact fun _ _ h => h.one (Has.s (Has.s Has.z))) ?_; clear hK K; go_frame)
  (refine rgA 5 true fun K hK => ?_; (first
        | (refine Go.Sep.cl 32 _ _ (by rfl) (by rfl) (by kernel_rfl) (intsN_any hS (HR.out _ [_, _, _] hS) hl) ?_; rintro e w1 ⟨x, rfl, hS1⟩; obtain ⟨ax, cx, rfl, _⟩ := hS1.irShape (k := 0) rfl; clear hS; have hS := hS1; clear hS1; refine ⟨_, rfl, ?_⟩)
        | (refine bsF hS _ _ _ (by rfl) (elOf (by rfl)) [.slice ax l.length cx] (by rfl) (by rfl) (by decide) (by decide) (by simp [Value.cells]) ?_; intro b1 w1 hS1; clear hS; have hS := hS1; clear hS1; rw [sca1 rfl] at hS; replace hS := Sat.rwsOne hS)
        | (refine apRws hS _ _ _ _ (by rfl) (by rfl) (by rfl) (elOf (by rfl)) (by rfl) (by decide) (by rfl) (inOf (by rfl)) (Has.s Has.z) (fun w L u x h => ir_one w L u x h) HAL.out ?_; intro v1 w1 hS1; clear hS; have hS := hS1; clear hS1; dsimp only [List.set_cons_zero, List.set_cons_succ] at hS; obtain ⟨a1, c1, rfl, _⟩ := hS.rwsShape (k := 1) rfl)
        | (refine st hS _ _ _ (by rfl) _ _ (by rfl) _ (by rfl) (by rfl) (szOf (by rfl)) Has.z (by exact Nat.le_of_ble_eq_true rfl) ?_; intro w1 hS1; clear hS; have hS := hS1; clear hS1; dsimp only [List.set] at hS)); refine hK _ _ _ hS (by first | (intro h; cases h; done) | exact fun _ _ h => h | exact fun _ _ h => h.drop | exact fun _ _ h => h.drop.drop | exact fun _ _ h => h.drop.pull1 | exact fun _ _ h => h.take2 | exact fun _ _ h => h.one Has.z | exact fun _ _ h => h.one (Has.s Has.z) | exact fun _ _ h => h.one (Has.s (Has.s Has.z))) ?_; clear hK K; go_frame)
  refine regDone (by kernel_rfl) ?_
  go_wp2_with (refine toList (by rfl) ?_; refine ld hS _ _ (by rfl) _ _ (by rfl) (agOf (by rfl)) (by repeat first | exact Has.z | apply Has.s) (by rfl) ?_)
  go_ret
  exact ⟨_, rfl, hS⟩
end Go.Proofs.YtpnbdnfgdiakhaaGreat
namespace Go.Proofs.YtpnbdnfgdiakhaaGreat
open Go.RowKit Go.Sep
set_option linter.unusedSimpArgs false
set_option linter.unusedVariables false
attribute [local irreducible] Go.Oper.wp Go.wpList Go.Calls Go.Code.wp Go.Sep.Reg
attribute [local irreducible] IsG
theorem has_app (L' M : List Asrt) (A : Asrt) : Has (L' ++ A :: M) L'.length A := by unfold Has; simp
theorem Rd.clip {w : World} {b off n c sz : Nat} {vs : List Value} (h : Rd w (.slice (some ⟨b, off, none⟩) n c) n sz vs) : Rd w (.slice (some ⟨b, off, none⟩) n n) n sz vs := by
  obtain ⟨ao, c', he, h1, h2, h3, h4⟩ := h
  simp only [Value.slice.injEq, true_and] at he
  obtain ⟨rfl, rfl⟩ := he
  exact ⟨_, n, rfl, Nat.le_refl _, by omega, h3, h4⟩
def WalkC (W : World) (pa pm pb pl py pg pd ml pw p : Nat) (G : Gr) (b : Nat) (lds : List Nat) (most : Int) (K : Nat) (d : Nat) : Prop :=
  ∀ (w : World) (M : List Asrt) (acc : List (List Nat)) (v : Value) (P : List Nat) (n : Nat) (x : Value), G.rk n ≤ d → n < G.N.length → P.length + G.rk n ≤ 4096 → acc.length < K →
    (∀ w L', Sat W w (L' ++ M) → Rd w x (P ++ [n]).length 1 (iv (P ++ [n]))) → Sat W w (Cs pa 43 [v] :: Rws Ir v acc :: Cs pm 3 [.int .i64 most] :: Cs pb 3 [.int .i64 (b : Int)] :: Cs pl 3 [.int .i64 (1000 - (acc.length : Int))] :: Cs py 90 [.func (.func 31) #[] #[.pointer (some ⟨pa, 0, none⟩), .pointer (some ⟨pm, 0, none⟩)]] :: Cs pg 31 [.pointer (some ⟨p, 0, none⟩)] :: Cs pd 57 [.map (some ml)] :: Ms ml lds :: Cs pw 90 [.func (.func 65) #[] #[.pointer (some ⟨pb, 0, none⟩), .pointer (some ⟨pl, 0, none⟩), .pointer (some ⟨py, 0, none⟩), .pointer (some ⟨pg, 0, none⟩), .pointer (some ⟨pd, 0, none⟩), .pointer (some ⟨pw, 0, none⟩)]] :: IsG p G :: M) →
    Calls Tryz.prog 65 #[x, .pointer (some ⟨pb, 0, none⟩), .pointer (some ⟨pl, 0, none⟩), .pointer (some ⟨py, 0, none⟩), .pointer (some ⟨pg, 0, none⟩), .pointer (some ⟨pd, 0, none⟩), .pointer (some ⟨pw, 0, none⟩)] w fun e w' => ∃ v', e = .returned (.bool (decide ((acc ++ G.tell b P n).length < K))) ∧ Sat W w' (Cs pa 43 [v'] :: Rws Ir v' ((acc ++ G.tell b P n).take K) :: Cs pm 3 [.int .i64 most] :: Cs pb 3 [.int .i64 (b : Int)] :: Cs pl 3 [.int .i64 (1000 - (((acc ++ G.tell b P n).take K).length : Int))] :: Cs py 90 [.func (.func 31) #[] #[.pointer (some ⟨pa, 0, none⟩), .pointer (some ⟨pm, 0, none⟩)]] :: Cs pg 31 [.pointer (some ⟨p, 0, none⟩)] :: Cs pd 57 [.map (some ml)] :: Ms ml lds :: Cs pw 90 [.func (.func 65) #[] #[.pointer (some ⟨pb, 0, none⟩), .pointer (some ⟨pl, 0, none⟩), .pointer (some ⟨py, 0, none⟩), .pointer (some ⟨pg, 0, none⟩), .pointer (some ⟨pd, 0, none⟩), .pointer (some ⟨pw, 0, none⟩)]] :: IsG p G :: M)
set_option maxRecDepth 20000 in
set_option maxHeartbeats 4000000 in
theorem walk_any {W : World} {pa pm pb pl py pg pd ml pw p : Nat} {G : Gr} (hG : G.Ok) (hA : G.Acyc) {b : Nat} (hb : b < G.N.length) {lds : List Nat} (hlds : ∀ n, n < G.N.length → (n ∈ lds ↔ G.Reach n b)) {most : Int} {K : Nat} (hK : (K : Int) ≤ most ∧ K ≤ 1000 ∧ ((K : Int) = most ∨ K = 1000)) :
    ∀ d, WalkC W pa pm pb pl py pg pd ml pw p G b lds most K d := by
  intro d
  induction d with
  | zero => intro w M acc v P n x h1 h2; have := Gr.rk_pos h2; omega
  | succ d ih =>
    intro w M acc v P n x hrk hn hpl hacc hr hS
    obtain ⟨ao, c, rfl, hc1, hc2, _, h5⟩ := hr w [_, _, _, _, _, _, _, _, _, _, _] hS
    obtain ⟨Wy, hWy⟩ : ∃ Wy, P ++ [n] = Wy := ⟨_, rfl⟩
    obtain ⟨m, hm⟩ : ∃ m, P.length = m := ⟨_, rfl⟩
    have hrp := Gr.rk_pos hn
    have hWl : Wy.length = m + 1 := by rw [← hWy, ← hm]; simp
    rw [hWy] at hr hc1 h5
    obtain ⟨bx, ox, rfl, _⟩ := h5 (by rw [iv_length] at *; omega)
    have HWY := Lib.hid hWy
    have HR := Lib.hid hr
    have HN := Lib.hid hn
    have HK := Lib.hid hK
    have HLAST := Lib.hid (show (iv Wy)[m]? = some (.int .i64 (n : Int)) from iv_at (by rw [← hWy, ← hm]; simp))
    have hm1 : (Wy.length : Int) - 1 = (m : Int) := by omega
    have hm2 : (0 : Int) < (Wy.length : Int) := by omega
    have hm4 : (Wy.length : Int) ≤ 4096 := by omega
    have hm5 : (m : Int) < (Wy.length : Int) := by omega
    have hac : acc.length < 1000 := by omega
    obtain ⟨lf, hlf⟩ : ∃ lf : Int, 1000 - (acc.length : Int) = lf := ⟨_, rfl⟩
    rw [hlf] at hS
    have l1 : 1 ≤ lf := by omega
    have l2 : lf ≤ 1000 := by omega
    have HLF := Lib.hid hlf
    rw [hWy]
    by_cases hnb : n = b
    · have hnb2 := hnb.symm
      subst hnb2
      clear hnb
      have HT := Lib.hid (show acc ++ G.tell b P b = acc ++ [Wy] by rw [Gr.tell_self hG hA P hn, hWy])
      have HTK := Lib.hid (show (acc ++ [Wy]).take K = acc ++ [Wy] from List.take_of_length_le (by rw [List.length_append, List.length_singleton]; omega))
      rw [HT.out, HTK.out]
      have HY := Lib.hid (fun w L x (hr : Rd w x Wy.length 1 (iv Wy)) (h : Sat W w (Ir x Wy :: Cs pa 43 [v] :: Rws Ir v acc :: Cs pm 3 [.int .i64 most] :: Cs pb 3 [.int .i64 (b : Int)] :: Cs pl 3 [.int .i64 (lf - 1)] :: Cs py 90 [.func (.func 31) #[] #[.pointer (some ⟨pa, 0, none⟩), .pointer (some ⟨pm, 0, none⟩)]] :: Cs pg 31 [.pointer (some ⟨p, 0, none⟩)] :: Cs pd 57 [.map (some ml)] :: Ms ml lds :: Cs pw 90 [.func (.func 65) #[] #[.pointer (some ⟨pb, 0, none⟩), .pointer (some ⟨pl, 0, none⟩), .pointer (some ⟨py, 0, none⟩), .pointer (some ⟨pg, 0, none⟩), .pointer (some ⟨pd, 0, none⟩), .pointer (some ⟨pw, 0, none⟩)]] :: IsG p G :: L)) => yield_any (L := Ir x Wy :: Cs pb 3 [.int .i64 (b : Int)] :: Cs pl 3 [.int .i64 (lf - 1)] :: Cs py 90 [.func (.func 31) #[] #[.pointer (some ⟨pa, 0, none⟩), .pointer (some ⟨pm, 0, none⟩)]] :: Cs pg 31 [.pointer (some ⟨p, 0, none⟩)] :: Cs pd 57 [.map (some ml)] :: Ms ml lds :: Cs pw 90 [.func (.func 65) #[] #[.pointer (some ⟨pb, 0, none⟩), .pointer (some ⟨pl, 0, none⟩), .pointer (some ⟨py, 0, none⟩), .pointer (some ⟨pg, 0, none⟩), .pointer (some ⟨pd, 0, none⟩), .pointer (some ⟨pw, 0, none⟩)]] :: IsG p G :: L) (h.re [1, 2, 3, 0]) Wy x (fun w L' h => h.irRd (has_app _ _ _)) (by omega) (by omega))
      have HKK := Lib.hid (show (decide ((acc ++ [Wy]).length < K)) = (decide ((acc.length : Int) + 1 < most) && decide (1 < lf)) by
        rw [List.length_append, List.length_singleton, ← Bool.decide_and, decide_eq_decide]; omega)
      have HL2 := Lib.hid (show lf - 1 = 1000 - ((acc ++ [Wy]).length : Int) by rw [List.length_append, List.length_singleton]; push_cast; omega)
      rw [HKK.out, ← HL2.out]
      obtain ⟨r, hr2⟩ : ∃ r, decide ((acc.length : Int) + 1 < most) = r := ⟨_, rfl⟩
      rw [hr2] at HY ⊢
      clear HKK hr2 hr h5 hWy hlf ih hpl hrk hK hWl
      cases r with
      | true =>
        go_enter Tryz.func65, Tryz.ntmps65
        go_wp2_with (first
          | (refine toList (by rfl) ?_; refine wp_of_reads (rLdRd1 (HR.out _ [_, _, _, _, _, _, _, _, _, _, _] hS) _ _ (by rfl) _ (by rfl) (agOf (by rfl)) m (by omega) HLAST.out (by omega)) ?_)
          | (refine toList (by rfl) ?_; refine ld hS _ _ (by rfl) _ _ (by rfl) (agOf (by rfl)) (by repeat (first | exact Has.z | apply Has.s)) (by rfl) ?_)
          | (refine toList (by rfl) ?_; refine st hS _ _ _ (by rfl) _ _ (by rfl) _ (by first | exact evC | exact evT (by rfl)) (by rfl) (szOf (by rfl)) (by repeat (first | exact Has.z | apply Has.s)) (by exact Nat.le_of_ble_eq_true rfl) ?_; intro w1 hS1; clear hS; have hS := hS1; clear hS1; dsimp only [List.set] at hS))
        refine regStart2 [3] hS (fun _ h => (h.re [4, 5]).take2) (by kernel_rfl) rfl ?_
        intro w1 hS1
        clear hS; have hS := hS1; clear hS1
        (refine rgR 0 hS (fun _ h => (h.re [4, 5]).take2) ?_; (refine ⟨_, yLd _ _ (by rfl) _ _ (by rfl) (agOf (by rfl)) (by repeat first | exact Has.z | apply Has.s) (by rfl), ?_⟩); go_frame)
        (refine rgP 1 hS (fun _ h => (h.re [4, 5]).take2) ?_; go_frame)
        (refine rgA 2 false fun K hK => ?_; (first
                          | (refine apI (l := []) (m := Wy) hS.irNil _ _ _ _ (by rfl) (by rfl) (by rfl) (elOf (by rfl)) (by rfl) (by rfl) (by rfl) (inOf (by rfl)) Has.z (HR.out _ [_, _, _, _, _, _, _, _, _, _, _] hS) (by simp; omega) ?_; intro v1 w1 hS1; clear hS; have hS := hS1; clear hS1; dsimp only [List.set_cons_zero, List.nil_append] at hS; obtain ⟨a1, c1, rfl, _⟩ := hS.irShape (k := 0) rfl)
                          | (refine clV _ _ _ _ (by rfl) (by rfl) (by rfl) (by kernel_rfl) (HY.out _ _ _ (hS.irRd (k := 0) rfl) hS) ?_; rintro e w1 ⟨v', rfl, hS1⟩; clear hS; have hS := hS1; clear hS1; refine ⟨_, rfl, ?_⟩)); refine hK _ _ _ (hS.upTo (fun _ h => by first | exact (h.re [4, 5]).take2 | exact (h.re [5, 6]).take2)) (fun _ _ h => h) ?_; clear hK K; go_frame)
        (refine rgA 3 true fun K hK => ?_; (first
                          | (refine apI (l := []) (m := Wy) hS.irNil _ _ _ _ (by rfl) (by rfl) (by rfl) (elOf (by rfl)) (by rfl) (by rfl) (by rfl) (inOf (by rfl)) Has.z (HR.out _ [_, _, _, _, _, _, _, _, _, _, _] hS) (by simp; omega) ?_; intro v1 w1 hS1; clear hS; have hS := hS1; clear hS1; dsimp only [List.set_cons_zero, List.nil_append] at hS; obtain ⟨a1, c1, rfl, _⟩ := hS.irShape (k := 0) rfl)
                          | (refine clV _ _ _ _ (by rfl) (by rfl) (by rfl) (by kernel_rfl) (HY.out _ _ _ (hS.irRd (k := 0) rfl) hS) ?_; rintro e w1 ⟨v', rfl, hS1⟩; clear hS; have hS := hS1; clear hS1; refine ⟨_, rfl, ?_⟩)); refine hK _ _ _ hS (by first | (intro h; cases h; done) | exact fun _ _ h => h | exact fun _ _ h => h.drop | exact fun _ _ h => h.drop.drop | exact fun _ _ h => h.drop.pull1 | exact fun _ _ h => h.take2 | exact fun _ _ h => h.one Has.z | exact fun _ _ h => h.one (Has.s Has.z) | exact fun _ _ h => h.one (Has.s (Has.s Has.z))) ?_; clear hK K; go_frame)
        (refine rgP 4 hS (fun _ h => h) ?_; go_frame)
        (first | (refine rgR 5 hS (fun _ h => h) ?_; (refine ⟨_, yLd _ _ (by rfl) _ _ (by rfl) (agOf (by rfl)) (by repeat first | exact Has.z | apply Has.s) (by rfl), ?_⟩); go_frame) | (refine rgN 5 hS (fun _ h => h) ?_; go_frame))
        (first | (refine rgP 6 hS (fun _ h => h) ?_; go_frame) | (refine rgN 6 hS (fun _ h => h) ?_; go_frame))
        (refine rgP 7 hS (fun _ h => h) ?_; go_frame)
        (refine rgP 8 hS (fun _ h => h) ?_; go_frame)
        refine regDone (by kernel_rfl) ?_
        go_wp2
        go_ret
        exact ⟨v', rfl, (hS.re [3]).drop⟩
      | false =>
        go_enter Tryz.func65, Tryz.ntmps65
        go_wp2_with (first
          | (refine toList (by rfl) ?_; refine wp_of_reads (rLdRd1 (HR.out _ [_, _, _, _, _, _, _, _, _, _, _] hS) _ _ (by rfl) _ (by rfl) (agOf (by rfl)) m (by omega) HLAST.out (by omega)) ?_)
          | (refine toList (by rfl) ?_; refine ld hS _ _ (by rfl) _ _ (by rfl) (agOf (by rfl)) (by repeat (first | exact Has.z | apply Has.s)) (by rfl) ?_)
          | (refine toList (by rfl) ?_; refine st hS _ _ _ (by rfl) _ _ (by rfl) _ (by first | exact evC | exact evT (by rfl)) (by rfl) (szOf (by rfl)) (by repeat (first | exact Has.z | apply Has.s)) (by exact Nat.le_of_ble_eq_true rfl) ?_; intro w1 hS1; clear hS; have hS := hS1; clear hS1; dsimp only [List.set] at hS))
        refine regStart2 [3] hS (fun _ h => (h.re [4, 5]).take2) (by kernel_rfl) rfl ?_
        intro w1 hS1
        clear hS; have hS := hS1; clear hS1
        (refine rgR 0 hS (fun _ h => (h.re [4, 5]).take2) ?_; (refine ⟨_, yLd _ _ (by rfl) _ _ (by rfl) (agOf (by rfl)) (by repeat first | exact Has.z | apply Has.s) (by rfl), ?_⟩); go_frame)
        (refine rgP 1 hS (fun _ h => (h.re [4, 5]).take2) ?_; go_frame)
        (refine rgA 2 false fun K hK => ?_; (first
                          | (refine apI (l := []) (m := Wy) hS.irNil _ _ _ _ (by rfl) (by rfl) (by rfl) (elOf (by rfl)) (by rfl) (by rfl) (by rfl) (inOf (by rfl)) Has.z (HR.out _ [_, _, _, _, _, _, _, _, _, _, _] hS) (by simp; omega) ?_; intro v1 w1 hS1; clear hS; have hS := hS1; clear hS1; dsimp only [List.set_cons_zero, List.nil_append] at hS; obtain ⟨a1, c1, rfl, _⟩ := hS.irShape (k := 0) rfl)
                          | (refine clV _ _ _ _ (by rfl) (by rfl) (by rfl) (by kernel_rfl) (HY.out _ _ _ (hS.irRd (k := 0) rfl) hS) ?_; rintro e w1 ⟨v', rfl, hS1⟩; clear hS; have hS := hS1; clear hS1; refine ⟨_, rfl, ?_⟩)); refine hK _ _ _ (hS.upTo (fun _ h => by first | exact (h.re [4, 5]).take2 | exact (h.re [5, 6]).take2)) (fun _ _ h => h) ?_; clear hK K; go_frame)
        (refine rgA 3 true fun K hK => ?_; (first
                          | (refine apI (l := []) (m := Wy) hS.irNil _ _ _ _ (by rfl) (by rfl) (by rfl) (elOf (by rfl)) (by rfl) (by rfl) (by rfl) (inOf (by rfl)) Has.z (HR.out _ [_, _, _, _, _, _, _, _, _, _, _] hS) (by simp; omega) ?_; intro v1 w1 hS1; clear hS; have hS := hS1; clear hS1; dsimp only [List.set_cons_zero, List.nil_append] at hS; obtain ⟨a1, c1, rfl, _⟩ := hS.irShape (k := 0) rfl)
                          | (refine clV _ _ _ _ (by rfl) (by rfl) (by rfl) (by kernel_rfl) (HY.out _ _ _ (hS.irRd (k := 0) rfl) hS) ?_; rintro e w1 ⟨v', rfl, hS1⟩; clear hS; have hS := hS1; clear hS1; refine ⟨_, rfl, ?_⟩)); refine hK _ _ _ hS (by first | (intro h; cases h; done) | exact fun _ _ h => h | exact fun _ _ h => h.drop | exact fun _ _ h => h.drop.drop | exact fun _ _ h => h.drop.pull1 | exact fun _ _ h => h.take2 | exact fun _ _ h => h.one Has.z | exact fun _ _ h => h.one (Has.s Has.z) | exact fun _ _ h => h.one (Has.s (Has.s Has.z))) ?_; clear hK K; go_frame)
        (refine rgP 4 hS (fun _ h => h) ?_; go_frame)
        (first | (refine rgR 5 hS (fun _ h => h) ?_; (refine ⟨_, yLd _ _ (by rfl) _ _ (by rfl) (agOf (by rfl)) (by repeat first | exact Has.z | apply Has.s) (by rfl), ?_⟩); go_frame) | (refine rgN 5 hS (fun _ h => h) ?_; go_frame))
        (first | (refine rgP 6 hS (fun _ h => h) ?_; go_frame) | (refine rgN 6 hS (fun _ h => h) ?_; go_frame))
        (refine rgP 7 hS (fun _ h => h) ?_; go_frame)
        (refine rgP 8 hS (fun _ h => h) ?_; go_frame)
        refine regDone (by kernel_rfl) ?_
        go_wp2
        go_ret
        exact ⟨v', rfl, (hS.re [3]).drop⟩
    · have hnb2 : ¬ ((n : Int) = (b : Int)) := by omega
      have hnb3 : ((n : Int) == (b : Int)) = false := beq_eq_false_iff_ne.2 hnb2
      have HT := Lib.hid (show G.tell b P n = G.tells b P n (G.ups n).length from Gr.tell_all hG hA P hn hnb)
      have hul := G.ups_len n
      have hul4 := hG.len
      obtain ⟨U, hU⟩ : ∃ U, G.ups n = U := ⟨_, rfl⟩
      have hUl : (U.length : Int) ≤ 4096 := by rw [← hU]; omega
      have HU := Lib.hid hU
      have HUPS := Lib.hid (fun w L (h : Sat W w (IsG p G :: L)) => (show Calls Tryz.prog 46 #[.pointer (some ⟨p, 0, none⟩), .int .i64 (n : Int)] w fun e w' => ∃ v, e = .returned v ∧ Sat W w' (Ir v U :: IsG p G :: L) by
        have := ups_any h (n : Int) hG.len
        rw [Gr.upsI_nat hn, hU] at this
        exact this))
      have HSUB := Lib.hid (fun (u : Nat) (hu : u ∈ U) => show u < G.N.length ∧ G.rk u ≤ d ∧ (P ++ [n]).length + G.rk u ≤ 4096 by
        rw [← hU] at hu
        have h1 := Gr.rk_up hG hA hu
        exact ⟨Gr.upsLt hu, by omega, by rw [List.length_append, List.length_singleton]; omega⟩)
      have HIH := Lib.hid ih
      have HAC := Lib.hid hacc
      have HLD := Lib.hid hlds
      rw [hU] at HT
      clear hnb ih hr h5 hWy hlf hacc hpl hrk hn hK hWl hU hul hul4 hlds
      go_enter Tryz.func65, Tryz.ntmps65
      go_wp2_with (first
        | (refine toList (by rfl) ?_; refine wp_of_reads (rLdRd1 (HR.out _ [_, _, _, _, _, _, _, _, _, _, _] hS) _ _ (by rfl) _ (by rfl) (agOf (by rfl)) m (by omega) HLAST.out (by omega)) ?_)
        | (refine toList (by rfl) ?_; refine ld hS _ _ (by rfl) _ _ (by rfl) (agOf (by rfl)) (by repeat (first | exact Has.z | apply Has.s)) (by rfl) ?_)
        | (go_at_call 46; refine (HUPS.out _ _ (hS.re [10])).mono ?_; rintro e w1 ⟨vu, rfl, hS1⟩; clear hS; have hS := (show Sat W w1 (Ir vu U :: IsG p G :: _) from hS1); clear hS1; obtain ⟨au, cu, rfl, _⟩ := hS.irShape (k := 0) rfl))
      have H0 : Hid (Sat W _ (Ir (.slice au U.length cu) U :: Cs pa 43 [v] :: Rws Ir v (acc ++ G.tells b P n 0) :: Cs pm 3 [.int .i64 most] :: Cs pb 3 [.int .i64 (b : Int)] :: Cs pl 3 [.int .i64 (1000 - ((acc ++ G.tells b P n 0).length : Int))] :: Cs py 90 [.func (.func 31) #[] #[.pointer (some ⟨pa, 0, none⟩), .pointer (some ⟨pm, 0, none⟩)]] :: Cs pg 31 [.pointer (some ⟨p, 0, none⟩)] :: Cs pd 57 [.map (some ml)] :: Ms ml lds :: Cs pw 90 [.func (.func 65) #[] #[.pointer (some ⟨pb, 0, none⟩), .pointer (some ⟨pl, 0, none⟩), .pointer (some ⟨py, 0, none⟩), .pointer (some ⟨pg, 0, none⟩), .pointer (some ⟨pd, 0, none⟩), .pointer (some ⟨pw, 0, none⟩)]] :: IsG p G :: M)) := Lib.hid (by
        rw [Gr.tells_zero, List.append_nil, HLF.out]
        exact hS.re [0, 2, 3, 4, 5, 6, 7, 8, 9, 10, 11, 1])
      go_loopw [35] (fun v35 wz => ∃ (i : Nat) (v' : Value), v35 = .int .i64 i ∧ i ≤ U.length ∧ (acc ++ G.tells b P n i).length < K ∧ Sat W wz (Ir (.slice au U.length cu) U :: Cs pa 43 [v'] :: Rws Ir v' (acc ++ G.tells b P n i) :: Cs pm 3 [.int .i64 most] :: Cs pb 3 [.int .i64 (b : Int)] :: Cs pl 3 [.int .i64 (1000 - ((acc ++ G.tells b P n i).length : Int))] :: Cs py 90 [.func (.func 31) #[] #[.pointer (some ⟨pa, 0, none⟩), .pointer (some ⟨pm, 0, none⟩)]] :: Cs pg 31 [.pointer (some ⟨p, 0, none⟩)] :: Cs pd 57 [.map (some ml)] :: Ms ml lds :: Cs pw 90 [.func (.func 65) #[] #[.pointer (some ⟨pb, 0, none⟩), .pointer (some ⟨pl, 0, none⟩), .pointer (some ⟨py, 0, none⟩), .pointer (some ⟨pg, 0, none⟩), .pointer (some ⟨pd, 0, none⟩), .pointer (some ⟨pw, 0, none⟩)]] :: IsG p G :: M)) (fun v35 _ => U.length - (intOf v35).toNat)
      case atStart => exact ⟨0, v, rfl, by omega, by rw [Gr.tells_zero, List.append_nil]; exact HAC.out, H0.out⟩
      case round =>
        clear hS H0 HLF l1 l2
        obtain ⟨i, v', rfl, hi, hlk, hS⟩ := hrel
        obtain ⟨ac, hac2⟩ : ∃ ac, acc ++ G.tells b P n i = ac := ⟨_, rfl⟩
        have HACI := Lib.hid hac2
        rw [hac2] at hlk hS
        have HLK := Lib.hid hlk
        clear hac2 hlk
        by_cases hlt : i < U.length
        · have k1 : (i : Int) < (U.length : Int) := by omega
          have HLT := Lib.hid hlt
          obtain ⟨bb, off, rfl⟩ := Sat.irAddr (k := 0) hS rfl rfl (by omega)
          obtain ⟨u, hx⟩ : ∃ u, U[i]? = some u := ⟨_, List.getElem?_eq_getElem hlt⟩
          have HX := Lib.hid (iv_at hx)
          have HXU := Lib.hid (show (G.ups n)[i]? = some u by rw [HU.out]; exact hx)
          have HUM := Lib.hid (HSUB.out u (List.mem_of_getElem? hx))
          have HUL := Lib.hid (HLD.out u HUM.out.1)
          clear hx hlt
          by_cases hin : u ∈ lds
          · have HIN := Lib.hid (show decide (u ∈ lds) = true from decide_eq_true hin)
            obtain ⟨r, hr2⟩ : ∃ r, decide ((ac ++ G.tell b (P ++ [n]) u).length < K) = r := ⟨_, rfl⟩
            have HC2 := Lib.hid (fun w v1 b1 E1 row (h : Sat W w (Ir v1 (Wy ++ [u]) :: Cs b1 E1 row :: Ir (.slice (some ⟨bb, off, none⟩) U.length cu) U :: Cs pa 43 [v'] :: Rws Ir v' ac :: Cs pm 3 [.int .i64 most] :: Cs pb 3 [.int .i64 (b : Int)] :: Cs pl 3 [.int .i64 (1000 - (ac.length : Int))] :: Cs py 90 [.func (.func 31) #[] #[.pointer (some ⟨pa, 0, none⟩), .pointer (some ⟨pm, 0, none⟩)]] :: Cs pg 31 [.pointer (some ⟨p, 0, none⟩)] :: Cs pd 57 [.map (some ml)] :: Ms ml lds :: Cs pw 90 [.func (.func 65) #[] #[.pointer (some ⟨pb, 0, none⟩), .pointer (some ⟨pl, 0, none⟩), .pointer (some ⟨py, 0, none⟩), .pointer (some ⟨pg, 0, none⟩), .pointer (some ⟨pd, 0, none⟩), .pointer (some ⟨pw, 0, none⟩)]] :: IsG p G :: M)) =>
                show Calls Tryz.prog 65 #[v1, .pointer (some ⟨pb, 0, none⟩), .pointer (some ⟨pl, 0, none⟩), .pointer (some ⟨py, 0, none⟩), .pointer (some ⟨pg, 0, none⟩), .pointer (some ⟨pd, 0, none⟩), .pointer (some ⟨pw, 0, none⟩)] w (fun e w' => ∃ v2, e = .returned (.bool r) ∧ Sat W w' (Ir (.slice (some ⟨bb, off, none⟩) U.length cu) U :: Cs pa 43 [v2] :: Rws Ir v2 ((ac ++ G.tell b (P ++ [n]) u).take K) :: Cs pm 3 [.int .i64 most] :: Cs pb 3 [.int .i64 (b : Int)] :: Cs pl 3 [.int .i64 (1000 - (((ac ++ G.tell b (P ++ [n]) u).take K).length : Int))] :: Cs py 90 [.func (.func 31) #[] #[.pointer (some ⟨pa, 0, none⟩), .pointer (some ⟨pm, 0, none⟩)]] :: Cs pg 31 [.pointer (some ⟨p, 0, none⟩)] :: Cs pd 57 [.map (some ml)] :: Ms ml lds :: Cs pw 90 [.func (.func 65) #[] #[.pointer (some ⟨pb, 0, none⟩), .pointer (some ⟨pl, 0, none⟩), .pointer (some ⟨py, 0, none⟩), .pointer (some ⟨pg, 0, none⟩), .pointer (some ⟨pd, 0, none⟩), .pointer (some ⟨pw, 0, none⟩)]] :: IsG p G :: M)) by
              rw [← hr2]
              refine (HIH.out w (Ir v1 (Wy ++ [u]) :: Cs b1 E1 row :: Ir (.slice (some ⟨bb, off, none⟩) U.length cu) U :: M) ac v' (P ++ [n]) u v1 HUM.out.2.1 HUM.out.1 HUM.out.2.2 HLK.out (fun w L' h => by rw [HWY.out]; exact h.irRd (has_app _ _ _)) (h.re [3, 4, 5, 6, 7, 8, 9, 10, 11, 12, 13, 0, 1, 2])).mono ?_
              rintro e w' ⟨v2, he, hs⟩
              exact ⟨v2, he, (hs.re [11, 12, 13]).drop.drop⟩)
            have HR2 := Lib.hid (fun w L' (h : Sat W w (L' ++ M)) => Rd.clip (HR.out w L' h))
            have hcc : (Wy.length : Int) ≤ (c : Int) := by omega
            have HNX := Lib.hid (Gr.tells_next (P := P) (b := b) HXU.out)
            cases r with
            | true =>
              have HLT2 := Lib.hid (of_decide_eq_true hr2)
              clear hin hr2
              go_wp2_with (refine toList (by rfl) ?_; refine ldSl hS _ _ (by rfl) _ _ (by rfl) (agOf (by rfl)) Has.z i (by omega) HX.out ?_)
              refine regStart [14] hS (by kernel_rfl) rfl ?_
              intro w1 hS1
              clear hS; have hS := hS1; clear hS1
              (refine rgR 0 hS (fun _ h => h) ?_; (first
                                            | refine ⟨_, yLd _ _ (by rfl) _ _ (by rfl) (agOf (by rfl)) (by repeat (first | exact Has.z | apply Has.s)) (by rfl), ?_⟩
                                            | refine ⟨.bool true, fun z hz => (rMsLkp hz _ _ _ (by rfl) (by rfl) u (by rfl) map_seen key_nat (by kernel_rfl) (by repeat (first | exact Has.z | apply Has.s))).trans (by rw [HIN.out]), ?_⟩); go_frame)
              (refine rgP 1 hS (fun _ h => h) ?_; go_frame)
              (refine rgR 2 hS (fun _ h => h) ?_; (first
                                            | refine ⟨_, yLd _ _ (by rfl) _ _ (by rfl) (agOf (by rfl)) (by repeat (first | exact Has.z | apply Has.s)) (by rfl), ?_⟩
                                            | refine ⟨.bool true, fun z hz => (rMsLkp hz _ _ _ (by rfl) (by rfl) u (by rfl) map_seen key_nat (by kernel_rfl) (by repeat (first | exact Has.z | apply Has.s))).trans (by rw [HIN.out]), ?_⟩); go_frame)
              (refine rgP 3 hS (fun _ h => h) ?_; go_frame)
              (first | (refine rgR 4 hS (fun _ h => h) ?_; (first
                                            | refine ⟨_, yLd _ _ (by rfl) _ _ (by rfl) (agOf (by rfl)) (by repeat (first | exact Has.z | apply Has.s)) (by rfl), ?_⟩
                                            | refine ⟨.bool true, fun z hz => (rMsLkp hz _ _ _ (by rfl) (by rfl) u (by rfl) map_seen key_nat (by kernel_rfl) (by repeat (first | exact Has.z | apply Has.s))).trans (by rw [HIN.out]), ?_⟩); go_frame) | (refine rgN 4 hS (fun _ h => h) ?_; go_frame))
              (first | (refine rgP 5 hS (fun _ h => h) ?_; go_frame) | (refine rgN 5 hS (fun _ h => h) ?_; go_frame))
              (first | (refine rgP 6 hS (fun _ h => h) ?_; go_frame) | (refine rgN 6 hS (fun _ h => h) ?_; go_frame))
              (first | (refine rgP 7 hS (fun _ h => h) ?_; go_frame) | (refine rgN 7 hS (fun _ h => h) ?_; go_frame))
              (first | (refine rgP 8 hS (fun _ h => h) ?_; go_frame) | (refine rgN 8 hS (fun _ h => h) ?_; go_frame))
              (first | (refine rgP 9 hS (fun _ h => h) ?_; go_frame) | (refine rgN 9 hS (fun _ h => h) ?_; go_frame))
              (first | (refine rgP 10 hS (fun _ h => h) ?_; go_frame) | (refine rgN 10 hS (fun _ h => h) ?_; go_frame))
              (first | (refine rgP 11 hS (fun _ h => h) ?_; go_frame) | (refine rgN 11 hS (fun _ h => h) ?_; go_frame))
              (first | (refine rgA 12 false fun K hK => ?_; (first
                                            | (refine bsF hS _ _ _ (by rfl) (elOf (by rfl)) [.int .i64 u] (by rfl) (by rfl) (by decide) (by decide) (by simp [Value.cells]) ?_; intro b1 w1 hS1; clear hS; have hS := hS1; clear hS1; rw [sca1 rfl] at hS)
                                            | (refine apGrowI (l := Wy) (m := [u]) hS _ _ _ _ (by rfl) (by rfl) (by rfl) (elOf (by rfl)) (by rfl) (by rfl) (by rfl) (inOf (by rfl)) (by omega) (by simp) (HR2.out _ [_, _, _, _, _, _, _, _, _, _, _, _, _] hS) (by exact hS.csRd0 (n := 1) (sz := 1) Has.z (by decide) rfl) (by simp; omega) ?_; intro v1 w1 hS1; clear hS; have hS := hS1; clear hS1)
                                            | (refine clV _ _ _ _ (by rfl) (by rfl) (by rfl) (by kernel_rfl) (HC2.out _ _ _ _ _ hS) ?_; rintro e w1 ⟨v2, rfl, hS1⟩; clear hS; have hS := hS1; clear hS1; refine ⟨_, rfl, ?_⟩)); refine hK _ _ _ hS (by first | (intro h; cases h; done) | exact fun _ _ h => h | exact fun _ _ h => h.drop | exact fun _ _ h => h.drop.drop | exact fun _ _ h => h.drop.pull1 | exact fun _ _ h => h.take2 | exact fun _ _ h => h.one Has.z | exact fun _ _ h => h.one (Has.s Has.z) | exact fun _ _ h => h.one (Has.s (Has.s Has.z))) ?_; clear hK K; go_frame) | (refine rgN 12 hS (fun _ h => h) ?_; go_frame))
              (first | (refine rgA 13 false fun K hK => ?_; (first
                                            | (refine bsF hS _ _ _ (by rfl) (elOf (by rfl)) [.int .i64 u] (by rfl) (by rfl) (by decide) (by decide) (by simp [Value.cells]) ?_; intro b1 w1 hS1; clear hS; have hS := hS1; clear hS1; rw [sca1 rfl] at hS)
                                            | (refine apGrowI (l := Wy) (m := [u]) hS _ _ _ _ (by rfl) (by rfl) (by rfl) (elOf (by rfl)) (by rfl) (by rfl) (by rfl) (inOf (by rfl)) (by omega) (by simp) (HR2.out _ [_, _, _, _, _, _, _, _, _, _, _, _, _] hS) (by exact hS.csRd0 (n := 1) (sz := 1) Has.z (by decide) rfl) (by simp; omega) ?_; intro v1 w1 hS1; clear hS; have hS := hS1; clear hS1)
                                            | (refine clV _ _ _ _ (by rfl) (by rfl) (by rfl) (by kernel_rfl) (HC2.out _ _ _ _ _ hS) ?_; rintro e w1 ⟨v2, rfl, hS1⟩; clear hS; have hS := hS1; clear hS1; refine ⟨_, rfl, ?_⟩)); refine hK _ _ _ hS (by first | (intro h; cases h; done) | exact fun _ _ h => h | exact fun _ _ h => h.drop | exact fun _ _ h => h.drop.drop | exact fun _ _ h => h.drop.pull1 | exact fun _ _ h => h.take2 | exact fun _ _ h => h.one Has.z | exact fun _ _ h => h.one (Has.s Has.z) | exact fun _ _ h => h.one (Has.s (Has.s Has.z))) ?_; clear hK K; go_frame) | (refine rgN 13 hS (fun _ h => h) ?_; go_frame))
              (first | (refine rgA 14 true fun K hK => ?_; (first
                                            | (refine bsF hS _ _ _ (by rfl) (elOf (by rfl)) [.int .i64 u] (by rfl) (by rfl) (by decide) (by decide) (by simp [Value.cells]) ?_; intro b1 w1 hS1; clear hS; have hS := hS1; clear hS1; rw [sca1 rfl] at hS)
                                            | (refine apGrowI (l := Wy) (m := [u]) hS _ _ _ _ (by rfl) (by rfl) (by rfl) (elOf (by rfl)) (by rfl) (by rfl) (by rfl) (inOf (by rfl)) (by omega) (by simp) (HR2.out _ [_, _, _, _, _, _, _, _, _, _, _, _, _] hS) (by exact hS.csRd0 (n := 1) (sz := 1) Has.z (by decide) rfl) (by simp; omega) ?_; intro v1 w1 hS1; clear hS; have hS := hS1; clear hS1)
                                            | (refine clV _ _ _ _ (by rfl) (by rfl) (by rfl) (by kernel_rfl) (HC2.out _ _ _ _ _ hS) ?_; rintro e w1 ⟨v2, rfl, hS1⟩; clear hS; have hS := hS1; clear hS1; refine ⟨_, rfl, ?_⟩)); refine hK _ _ _ hS (by first | (intro h; cases h; done) | exact fun _ _ h => h | exact fun _ _ h => h.drop | exact fun _ _ h => h.drop.drop | exact fun _ _ h => h.drop.pull1 | exact fun _ _ h => h.take2 | exact fun _ _ h => h.one Has.z | exact fun _ _ h => h.one (Has.s Has.z) | exact fun _ _ h => h.one (Has.s (Has.s Has.z))) ?_; clear hK K; go_frame) | (refine rgN 14 hS (fun _ h => h) ?_; go_frame))
              (first | (refine rgP 15 hS (fun _ h => h) ?_; go_frame) | (refine rgN 15 hS (fun _ h => h) ?_; go_frame))
              (refine rgP 16 hS (fun _ h => h) ?_; go_frame)
              refine regDone (by kernel_rfl) ?_
              go_wp2
              have HTT := Lib.hid (show (ac ++ G.tell b (P ++ [n]) u).take K = ac ++ G.tell b (P ++ [n]) u from List.take_of_length_le (Nat.le_of_lt HLT2.out))
              have HE := Lib.hid (show acc ++ G.tells b P n (i + 1) = ac ++ G.tell b (P ++ [n]) u by rw [HNX.out, ← List.append_assoc, HACI.out])
              rw [HTT.out] at hS
              exact ⟨⟨i + 1, v2, by go_num, HLT.out, by rw [HE.out]; exact HLT2.out, by rw [HE.out]; exact hS⟩, by simp [intOf]; have := HLT.out; omega⟩
            | false =>
              have HLT2 := Lib.hid (of_decide_eq_false hr2)
              clear hin hr2
              go_wp2_with (refine toList (by rfl) ?_; refine ldSl hS _ _ (by rfl) _ _ (by rfl) (agOf (by rfl)) Has.z i (by omega) HX.out ?_)
              refine regStart [14] hS (by kernel_rfl) rfl ?_
              intro w1 hS1
              clear hS; have hS := hS1; clear hS1
              (refine rgR 0 hS (fun _ h => h) ?_; (first
                                            | refine ⟨_, yLd _ _ (by rfl) _ _ (by rfl) (agOf (by rfl)) (by repeat (first | exact Has.z | apply Has.s)) (by rfl), ?_⟩
                                            | refine ⟨.bool true, fun z hz => (rMsLkp hz _ _ _ (by rfl) (by rfl) u (by rfl) map_seen key_nat (by kernel_rfl) (by repeat (first | exact Has.z | apply Has.s))).trans (by rw [HIN.out]), ?_⟩); go_frame)
              (refine rgP 1 hS (fun _ h => h) ?_; go_frame)
              (refine rgR 2 hS (fun _ h => h) ?_; (first
                                            | refine ⟨_, yLd _ _ (by rfl) _ _ (by rfl) (agOf (by rfl)) (by repeat (first | exact Has.z | apply Has.s)) (by rfl), ?_⟩
                                            | refine ⟨.bool true, fun z hz => (rMsLkp hz _ _ _ (by rfl) (by rfl) u (by rfl) map_seen key_nat (by kernel_rfl) (by repeat (first | exact Has.z | apply Has.s))).trans (by rw [HIN.out]), ?_⟩); go_frame)
              (refine rgP 3 hS (fun _ h => h) ?_; go_frame)
              (first | (refine rgR 4 hS (fun _ h => h) ?_; (first
                                            | refine ⟨_, yLd _ _ (by rfl) _ _ (by rfl) (agOf (by rfl)) (by repeat (first | exact Has.z | apply Has.s)) (by rfl), ?_⟩
                                            | refine ⟨.bool true, fun z hz => (rMsLkp hz _ _ _ (by rfl) (by rfl) u (by rfl) map_seen key_nat (by kernel_rfl) (by repeat (first | exact Has.z | apply Has.s))).trans (by rw [HIN.out]), ?_⟩); go_frame) | (refine rgN 4 hS (fun _ h => h) ?_; go_frame))
              (first | (refine rgP 5 hS (fun _ h => h) ?_; go_frame) | (refine rgN 5 hS (fun _ h => h) ?_; go_frame))
              (first | (refine rgP 6 hS (fun _ h => h) ?_; go_frame) | (refine rgN 6 hS (fun _ h => h) ?_; go_frame))
              (first | (refine rgP 7 hS (fun _ h => h) ?_; go_frame) | (refine rgN 7 hS (fun _ h => h) ?_; go_frame))
              (first | (refine rgP 8 hS (fun _ h => h) ?_; go_frame) | (refine rgN 8 hS (fun _ h => h) ?_; go_frame))
              (first | (refine rgP 9 hS (fun _ h => h) ?_; go_frame) | (refine rgN 9 hS (fun _ h => h) ?_; go_frame))
              (first | (refine rgP 10 hS (fun _ h => h) ?_; go_frame) | (refine rgN 10 hS (fun _ h => h) ?_; go_frame))
              (first | (refine rgP 11 hS (fun _ h => h) ?_; go_frame) | (refine rgN 11 hS (fun _ h => h) ?_; go_frame))
              (first | (refine rgA 12 false fun K hK => ?_; (first
                                            | (refine bsF hS _ _ _ (by rfl) (elOf (by rfl)) [.int .i64 u] (by rfl) (by rfl) (by decide) (by decide) (by simp [Value.cells]) ?_; intro b1 w1 hS1; clear hS; have hS := hS1; clear hS1; rw [sca1 rfl] at hS)
                                            | (refine apGrowI (l := Wy) (m := [u]) hS _ _ _ _ (by rfl) (by rfl) (by rfl) (elOf (by rfl)) (by rfl) (by rfl) (by rfl) (inOf (by rfl)) (by omega) (by simp) (HR2.out _ [_, _, _, _, _, _, _, _, _, _, _, _, _] hS) (by exact hS.csRd0 (n := 1) (sz := 1) Has.z (by decide) rfl) (by simp; omega) ?_; intro v1 w1 hS1; clear hS; have hS := hS1; clear hS1)
                                            | (refine clV _ _ _ _ (by rfl) (by rfl) (by rfl) (by kernel_rfl) (HC2.out _ _ _ _ _ hS) ?_; rintro e w1 ⟨v2, rfl, hS1⟩; clear hS; have hS := hS1; clear hS1; refine ⟨_, rfl, ?_⟩)); refine hK _ _ _ hS (by first | (intro h; cases h; done) | exact fun _ _ h => h | exact fun _ _ h => h.drop | exact fun _ _ h => h.drop.drop | exact fun _ _ h => h.drop.pull1 | exact fun _ _ h => h.take2 | exact fun _ _ h => h.one Has.z | exact fun _ _ h => h.one (Has.s Has.z) | exact fun _ _ h => h.one (Has.s (Has.s Has.z))) ?_; clear hK K; go_frame) | (refine rgN 12 hS (fun _ h => h) ?_; go_frame))
              (first | (refine rgA 13 false fun K hK => ?_; (first
                                            | (refine bsF hS _ _ _ (by rfl) (elOf (by rfl)) [.int .i64 u] (by rfl) (by rfl) (by decide) (by decide) (by simp [Value.cells]) ?_; intro b1 w1 hS1; clear hS; have hS := hS1; clear hS1; rw [sca1 rfl] at hS)
                                            | (refine apGrowI (l := Wy) (m := [u]) hS _ _ _ _ (by rfl) (by rfl) (by rfl) (elOf (by rfl)) (by rfl) (by rfl) (by rfl) (inOf (by rfl)) (by omega) (by simp) (HR2.out _ [_, _, _, _, _, _, _, _, _, _, _, _, _] hS) (by exact hS.csRd0 (n := 1) (sz := 1) Has.z (by decide) rfl) (by simp; omega) ?_; intro v1 w1 hS1; clear hS; have hS := hS1; clear hS1)
                                            | (refine clV _ _ _ _ (by rfl) (by rfl) (by rfl) (by kernel_rfl) (HC2.out _ _ _ _ _ hS) ?_; rintro e w1 ⟨v2, rfl, hS1⟩; clear hS; have hS := hS1; clear hS1; refine ⟨_, rfl, ?_⟩)); refine hK _ _ _ hS (by first | (intro h; cases h; done) | exact fun _ _ h => h | exact fun _ _ h => h.drop | exact fun _ _ h => h.drop.drop | exact fun _ _ h => h.drop.pull1 | exact fun _ _ h => h.take2 | exact fun _ _ h => h.one Has.z | exact fun _ _ h => h.one (Has.s Has.z) | exact fun _ _ h => h.one (Has.s (Has.s Has.z))) ?_; clear hK K; go_frame) | (refine rgN 13 hS (fun _ h => h) ?_; go_frame))
              (first | (refine rgA 14 true fun K hK => ?_; (first
                                            | (refine bsF hS _ _ _ (by rfl) (elOf (by rfl)) [.int .i64 u] (by rfl) (by rfl) (by decide) (by decide) (by simp [Value.cells]) ?_; intro b1 w1 hS1; clear hS; have hS := hS1; clear hS1; rw [sca1 rfl] at hS)
                                            | (refine apGrowI (l := Wy) (m := [u]) hS _ _ _ _ (by rfl) (by rfl) (by rfl) (elOf (by rfl)) (by rfl) (by rfl) (by rfl) (inOf (by rfl)) (by omega) (by simp) (HR2.out _ [_, _, _, _, _, _, _, _, _, _, _, _, _] hS) (by exact hS.csRd0 (n := 1) (sz := 1) Has.z (by decide) rfl) (by simp; omega) ?_; intro v1 w1 hS1; clear hS; have hS := hS1; clear hS1)
                                            | (refine clV _ _ _ _ (by rfl) (by rfl) (by rfl) (by kernel_rfl) (HC2.out _ _ _ _ _ hS) ?_; rintro e w1 ⟨v2, rfl, hS1⟩; clear hS; have hS := hS1; clear hS1; refine ⟨_, rfl, ?_⟩)); refine hK _ _ _ hS (by first | (intro h; cases h; done) | exact fun _ _ h => h | exact fun _ _ h => h.drop | exact fun _ _ h => h.drop.drop | exact fun _ _ h => h.drop.pull1 | exact fun _ _ h => h.take2 | exact fun _ _ h => h.one Has.z | exact fun _ _ h => h.one (Has.s Has.z) | exact fun _ _ h => h.one (Has.s (Has.s Has.z))) ?_; clear hK K; go_frame) | (refine rgN 14 hS (fun _ h => h) ?_; go_frame))
              (first | (refine rgP 15 hS (fun _ h => h) ?_; go_frame) | (refine rgN 15 hS (fun _ h => h) ?_; go_frame))
              (refine rgP 16 hS (fun _ h => h) ?_; go_frame)
              refine regDone (by kernel_rfl) ?_
              go_wp2
              go_ret
              obtain ⟨rest, hrest⟩ := Gr.tells_split G b P n (i + 1)
              rw [HU.out, ← HT.out, HNX.out] at hrest
              have hge : K ≤ (ac ++ G.tell b (P ++ [n]) u).length := Nat.le_of_not_lt HLT2.out
              have e1 : acc ++ G.tell b P n = ac ++ (G.tell b (P ++ [n]) u ++ rest) := by rw [hrest, ← HACI.out]; simp only [List.append_assoc]
              have e2 : decide ((acc ++ G.tell b P n).length < K) = false := decide_eq_false (by
                rw [e1, ← List.append_assoc, List.length_append]; omega)
              rw [e2, e1, take_full _ _ _ _ hge]
              exact ⟨v2, rfl, hS.drop⟩
          · have HIN := Lib.hid (show decide (u ∈ lds) = false from decide_eq_false hin)
            have HSK := Lib.hid (Gr.tells_skip (P := P) HXU.out (fun h => hin (HUL.out.2 h)))
            clear hin
            go_wp2_with (refine toList (by rfl) ?_; refine ldSl hS _ _ (by rfl) _ _ (by rfl) (agOf (by rfl)) Has.z i (by omega) HX.out ?_)
            refine regStart [14] hS (by kernel_rfl) rfl ?_
            intro w1 hS1
            clear hS; have hS := hS1; clear hS1
            (refine rgR 0 hS (fun _ h => h) ?_; (first
                                      | refine ⟨_, yLd _ _ (by rfl) _ _ (by rfl) (agOf (by rfl)) (by repeat (first | exact Has.z | apply Has.s)) (by rfl), ?_⟩
                                      | refine ⟨.bool false, fun z hz => (rMsLkp hz _ _ _ (by rfl) (by rfl) u (by rfl) map_seen key_nat (by kernel_rfl) (by repeat (first | exact Has.z | apply Has.s))).trans (by rw [HIN.out]), ?_⟩); go_frame)
            (refine rgP 1 hS (fun _ h => h) ?_; go_frame)
            (refine rgR 2 hS (fun _ h => h) ?_; (first
                                      | refine ⟨_, yLd _ _ (by rfl) _ _ (by rfl) (agOf (by rfl)) (by repeat (first | exact Has.z | apply Has.s)) (by rfl), ?_⟩
                                      | refine ⟨.bool false, fun z hz => (rMsLkp hz _ _ _ (by rfl) (by rfl) u (by rfl) map_seen key_nat (by kernel_rfl) (by repeat (first | exact Has.z | apply Has.s))).trans (by rw [HIN.out]), ?_⟩); go_frame)
            (refine rgP 3 hS (fun _ h => h) ?_; go_frame)
            (first | (refine rgR 4 hS (fun _ h => h) ?_; (first
                                      | refine ⟨_, yLd _ _ (by rfl) _ _ (by rfl) (agOf (by rfl)) (by repeat (first | exact Has.z | apply Has.s)) (by rfl), ?_⟩
                                      | refine ⟨.bool false, fun z hz => (rMsLkp hz _ _ _ (by rfl) (by rfl) u (by rfl) map_seen key_nat (by kernel_rfl) (by repeat (first | exact Has.z | apply Has.s))).trans (by rw [HIN.out]), ?_⟩); go_frame) | (refine rgN 4 hS (fun _ h => h) ?_; go_frame))
            (first | (refine rgP 5 hS (fun _ h => h) ?_; go_frame) | (refine rgN 5 hS (fun _ h => h) ?_; go_frame))
            (first | (refine rgP 6 hS (fun _ h => h) ?_; go_frame) | (refine rgN 6 hS (fun _ h => h) ?_; go_frame))
            (first | (refine rgP 7 hS (fun _ h => h) ?_; go_frame) | (refine rgN 7 hS (fun _ h => h) ?_; go_frame))
            (first | (refine rgP 8 hS (fun _ h => h) ?_; go_frame) | (refine rgN 8 hS (fun _ h => h) ?_; go_frame))
            (first | (refine rgP 9 hS (fun _ h => h) ?_; go_frame) | (refine rgN 9 hS (fun _ h => h) ?_; go_frame))
            (first | (refine rgP 10 hS (fun _ h => h) ?_; go_frame) | (refine rgN 10 hS (fun _ h => h) ?_; go_frame))
            (first | (refine rgP 11 hS (fun _ h => h) ?_; go_frame) | (refine rgN 11 hS (fun _ h => h) ?_; go_frame))
            (first | (refine rgA 12 false fun K hK => ?_; (skip); refine hK _ _ _ hS (by first | (intro h; cases h; done) | exact fun _ _ h => h | exact fun _ _ h => h.drop | exact fun _ _ h => h.drop.drop | exact fun _ _ h => h.drop.pull1 | exact fun _ _ h => h.take2 | exact fun _ _ h => h.one Has.z | exact fun _ _ h => h.one (Has.s Has.z) | exact fun _ _ h => h.one (Has.s (Has.s Has.z))) ?_; clear hK K; go_frame) | (refine rgN 12 hS (fun _ h => h) ?_; go_frame))
            (first | (refine rgA 13 false fun K hK => ?_; (skip); refine hK _ _ _ hS (by first | (intro h; cases h; done) | exact fun _ _ h => h | exact fun _ _ h => h.drop | exact fun _ _ h => h.drop.drop | exact fun _ _ h => h.drop.pull1 | exact fun _ _ h => h.take2 | exact fun _ _ h => h.one Has.z | exact fun _ _ h => h.one (Has.s Has.z) | exact fun _ _ h => h.one (Has.s (Has.s Has.z))) ?_; clear hK K; go_frame) | (refine rgN 13 hS (fun _ h => h) ?_; go_frame))
            (first | (refine rgA 14 true fun K hK => ?_; (skip); refine hK _ _ _ hS (by first | (intro h; cases h; done) | exact fun _ _ h => h | exact fun _ _ h => h.drop | exact fun _ _ h => h.drop.drop | exact fun _ _ h => h.drop.pull1 | exact fun _ _ h => h.take2 | exact fun _ _ h => h.one Has.z | exact fun _ _ h => h.one (Has.s Has.z) | exact fun _ _ h => h.one (Has.s (Has.s Has.z))) ?_; clear hK K; go_frame) | (refine rgN 14 hS (fun _ h => h) ?_; go_frame))
            (first | (refine rgP 15 hS (fun _ h => h) ?_; go_frame) | (refine rgN 15 hS (fun _ h => h) ?_; go_frame))
            (refine rgP 16 hS (fun _ h => h) ?_; go_frame)
            refine regDone (by kernel_rfl) ?_
            go_wp2
            exact ⟨⟨i + 1, v', by go_num, HLT.out, by rw [HSK.out, HACI.out]; exact HLK.out, by rw [HSK.out, HACI.out]; exact hS⟩, by simp [intOf]; have := HLT.out; omega⟩
        · obtain rfl : i = U.length := by omega
          have k1 : ¬ (U.length : Int) < (U.length : Int) := by omega
          have HEQ := Lib.hid (show acc ++ G.tell b P n = ac by rw [HT.out]; exact HACI.out)
          have HTK := Lib.hid (show ac.take K = ac from List.take_of_length_le (Nat.le_of_lt HLK.out))
          have HDE := Lib.hid (show decide (acc.length + (G.tell b P n).length < K) = true from decide_eq_true (by rw [← List.length_append, HEQ.out]; exact HLK.out))
          clear hi hlt
          go_wp2
          go_ret
          have HMI := Lib.hid (show min K (acc.length + (G.tell b P n).length) = ac.length by rw [← List.length_append, HEQ.out]; exact Nat.min_eq_right (Nat.le_of_lt HLK.out))
          rw [HEQ.out, HTK.out, HDE.out, HMI.out]
          exact ⟨rfl, v', hS.drop⟩
end Go.Proofs.YtpnbdnfgdiakhaaGreat
namespace Go.Proofs.YtpnbdnfgdiakhaaGreat
open Go.RowKit Go.Sep
set_option linter.unusedSimpArgs false
set_option linter.unusedVariables false
attribute [local irreducible] Go.Oper.wp Go.wpList Go.Calls Go.Code.wp Go.Sep.Reg
attribute [local irreducible] IsG
/-- Those from which b is reached: found, and still to look at. -/
structure LdI (G : Gr) (b : Nat) (ks td : List Nat) : Prop where
  beg : b ∈ ks ∨ b ∈ td
  reach : ∀ n ∈ ks, G.Reach n b
  open_ : ∀ n ∈ td, n < G.N.length ∧ G.Reach n b
  low : ∀ n ∈ ks, n < G.N.length
  one : ks.Nodup
  back : ∀ n ∈ ks, ∀ m, (m, n) ∈ G.E → m ∈ ks ∨ m ∈ td
  len : td.length ≤ 1 + ks.length * 4096
theorem LdI.start {G : Gr} {b : Nat} (hb : b < G.N.length) : LdI G b [] [b] where
  beg := .inr (List.mem_singleton.2 rfl)
  reach := fun n h => nomatch h
  open_ := fun n h => by rw [List.mem_singleton.1 h]; exact ⟨hb, Gr.Reach.refl G b⟩
  low := fun n h => nomatch h
  one := List.Pairwise.nil
  back := fun n h => nomatch h
  len := by simp
theorem LdI.old {G : Gr} {b n : Nat} {ks td : List Nat} (h : LdI G b ks (n :: td)) (hn : n ∈ ks) : LdI G b ks td where
  beg := by
    rcases h.beg with h1 | h1
    · exact .inl h1
    · rcases List.mem_cons.1 h1 with rfl | h1
      · exact .inl hn
      · exact .inr h1
  reach := h.reach
  open_ := fun x hx => h.open_ x (List.mem_cons_of_mem _ hx)
  low := h.low
  one := h.one
  back := fun x hx m hm => by
    rcases h.back x hx m hm with h1 | h1
    · exact .inl h1
    · rcases List.mem_cons.1 h1 with rfl | h1
      · exact .inl hn
      · exact .inr h1
  len := by have := h.len; rw [List.length_cons] at this; omega
theorem LdI.new {G : Gr} (hG : G.Ok) {b n : Nat} {ks td : List Nat} (h : LdI G b ks (n :: td)) (hn : n ∉ ks) : LdI G b (addK ks n) (td ++ G.downs n) where
  beg := by
    rcases h.beg with h1 | h1
    · exact .inl (mem_addK.2 (.inl h1))
    · rcases List.mem_cons.1 h1 with rfl | h1
      · exact .inl (mem_addK.2 (.inr rfl))
      · exact .inr (List.mem_append_left _ h1)
  reach := fun x hx => by
    rcases mem_addK.1 hx with h1 | rfl
    · exact h.reach x h1
    · exact (h.open_ _ (List.mem_cons_self ..)).2
  open_ := fun x hx => by
    rcases List.mem_append.1 hx with h1 | h1
    · exact h.open_ x (List.mem_cons_of_mem _ h1)
    · obtain ⟨h2, h3⟩ := Gr.mem_downs.1 h1
      exact ⟨h2, (Gr.Reach.edge h3).trans (h.open_ _ (List.mem_cons_self ..)).2⟩
  low := fun x hx => by
    rcases mem_addK.1 hx with h1 | rfl
    · exact h.low x h1
    · exact (h.open_ _ (List.mem_cons_self ..)).1
  one := by
    unfold addK
    rw [if_neg hn, List.nodup_append]
    exact ⟨h.one, by simp, fun x hx y hy e => by rw [List.mem_singleton] at hy; subst hy; subst e; exact hn hx⟩
  back := fun x hx m hm => by
    rcases mem_addK.1 hx with h1 | rfl
    · rcases h.back x h1 m hm with h2 | h2
      · exact .inl (mem_addK.2 (.inl h2))
      · rcases List.mem_cons.1 h2 with rfl | h2
        · exact .inl (mem_addK.2 (.inr rfl))
        · exact .inr (List.mem_append_left _ h2)
    · exact .inr (List.mem_append_right _ (Gr.mem_downs.2 ⟨(hG.low _ hm).1, hm⟩))
  len := by
    have h1 := h.len
    have h2 := G.downs_len n
    have h3 := hG.len
    unfold addK
    rw [if_neg hn, List.length_append, List.length_append, List.length_singleton]
    rw [List.length_cons] at h1
    omega
theorem LdI.done {G : Gr} {b : Nat} {ks : List Nat} (h : LdI G b ks []) (n : Nat) : n ∈ ks ↔ G.Reach n b := by
  refine ⟨h.reach n, fun hr => ?_⟩
  by_cases hn : n ∈ ks
  · exact hn
  · have := hr (fun x => x ∉ ks) hn fun x y hx hxy hy => by
      rcases h.back y hy x hxy with h1 | h1
      · exact hx h1
      · exact nomatch h1
    rcases h.beg with h1 | h1
    · exact absurd h1 this
    · exact nomatch h1
def ldM (G : Gr) (st : List Nat × List Nat) : Nat := (G.N.length - st.1.length) * 4097 + st.2.length
theorem ldM_new {G : Gr} (hG : G.Ok) {b n : Nat} {ks td : List Nat} (h : LdI G b ks (n :: td)) (hn : n ∉ ks) : ldM G (addK ks n, td ++ G.downs n) < ldM G (ks, n :: td) := by
  have h2 := G.downs_len n
  have h3 := hG.len
  have h4 := (h.new hG hn)
  have h5 := nodup_len h4.one h4.low
  unfold ldM
  have h6 : (addK ks n).length = ks.length + 1 := by unfold addK; rw [if_neg hn, List.length_append]; rfl
  rw [h6] at h5 ⊢
  dsimp only
  rw [List.length_append, List.length_cons]
  have h7 : G.N.length - ks.length = (G.N.length - (ks.length + 1)) + 1 := by omega
  rw [h7, Nat.add_mul]
  omega
/-- What is told, so many at most. -/
noncomputable def told (G : Gr) (a b : Int) (K : Nat) : List (List Nat) := if G.is a = true ∧ G.is b = true then (G.wy b.toNat a.toNat).take K else []
end Go.Proofs.YtpnbdnfgdiakhaaGreat
