/-
  What the law takes of each node that is told: the closure that yields.
  slices.Values, for every body of a loop that keeps the slice's cells.
  query.All's closure: what List tells, one by one, broken off where the law says.
  The law's all: what the iterator over nodes tells, at most so many.
-/
import Derived.Test.YtpnbdnfgdiakhaaMQud
import Derived.Test.YtpnbdnfgdiakhaaMTrn
import Derived.RangeFuncFrom
import Derived.RangeFuncBox
import Derived.RangeFuncLeaves
import Derived.OwnWalkIn
import Derived.TacticsInMore
import Derived.LoopNIn
import Derived.LoopIn
import Derived.Test.YtpnbdnfgdiakhaaMQuf
namespace Go.Proofs.Ytpnbdnfgdiakhaa
open Go.RowKit Go.Sep
set_option linter.unusedSimpArgs false
set_option linter.unusedVariables false
attribute [local irreducible] Go.Oper.wp Go.wpList Go.Calls Go.Code.wp Go.Sep.Reg
attribute [local irreducible] IsG
set_option maxRecDepth 20000 in
theorem ayield_any {W w : World} {L : List Asrt} {pa pm : Nat} {v : Value} {acc : List Nat} {most : Int} (hS : Sat W w (Cs pa 32 [v] :: Ir v acc :: Cs pm 3 [.int .i64 most] :: L)) (x : Nat) (hacc : acc.length ≤ 1000000) :
    Calls Try.prog 46 #[.int .i64 (x : Int), .pointer (some ⟨pa, 0, none⟩), .pointer (some ⟨pm, 0, none⟩)] w fun e w' => ∃ v', e = .returned (.bool (decide ((acc.length : Int) + 1 < most))) ∧ w.heap.size < w'.heap.size ∧ Sat W w' (Cs pa 32 [v'] :: Ir v' (acc ++ [x]) :: Cs pm 3 [.int .i64 most] :: L) := by
  obtain ⟨aa, ca, rfl, _⟩ := hS.irShape (k := 1) rfl
  have hal : ((acc ++ [x]).length : Int) ≤ 1000001 := by simp; omega
  go_enter Try.func46, Try.ntmps46
  go_wp2_with (first
    | (refine toList (by rfl) ?_; refine ld hS _ _ (by rfl) _ _ (by rfl) (agOf (by rfl)) (by repeat first | exact Has.z | apply Has.s) (by rfl) ?_)
    | (refine toList (by rfl) ?_; refine bsZ hS _ _ (by rfl) (elOf (by rfl)) (.int .i64 x) (by rfl) (by rfl) (by rfl) ?_; intro b1 w1 hb1 hS1; have HB1 := Lib.hid hb1; clear hb1; clear hS; have hS := hS1; clear hS1)
    | (refine toList (by rfl) ?_; refine apI (m := [x]) hS _ _ _ _ (by rfl) (by rfl) (by rfl) (elOf (by rfl)) (by rfl) (by rfl) (by rfl) (inOf (by rfl)) (Has.s (Has.s Has.z)) (by exact hS.csRd0 (n := 1) (sz := 1) Has.z (by decide) rfl) (by simp; omega) ?_; intro v1 w1 hS1; clear hS; have hS := hS1; clear hS1; dsimp only [List.set_cons_zero, List.set_cons_succ] at hS; obtain ⟨a1, c1, rfl, _⟩ := hS.irShape (k := 2) rfl)
    | (refine toList (by rfl) ?_; refine st hS _ _ _ (by rfl) _ _ (by rfl) (.slice a1 (acc ++ [x]).length c1) (by rfl) (by rfl) (szOf (by rfl)) (Has.s Has.z) (by exact Nat.le_of_ble_eq_true rfl) ?_; intro w1 hS1; clear hS; have hS := hS1; clear hS1; dsimp only [List.set] at hS))
  go_ret
  exact ⟨_, rfl, Nat.lt_of_le_of_lt HB1.out (hS.csLt Has.z), hS.drop⟩
end Go.Proofs.Ytpnbdnfgdiakhaa
namespace Go.Proofs.Ytpnbdnfgdiakhaa
open Go.RowKit Go.Sep Go.Shelf
set_option linter.unusedSimpArgs false
set_option linter.unusedVariables false
attribute [local irreducible] Go.Oper.wp Go.wpList Go.Calls Go.Code.wp Go.Sep.Reg
attribute [local go_sem] Oper.semAt_some
/-- The cells of a block that are there stay. -/
def KpB (b : Nat) (A B : World) : Prop := ∀ off v, A.cell? ⟨b, off, none⟩ = some v → B.cell? ⟨b, off, none⟩ = some v
theorem KpB.refl (b : Nat) (A : World) : KpB b A A := fun _ _ h => h
theorem KpB.trans {b : Nat} {A B C : World} (h : KpB b A B) (k : KpB b B C) : KpB b A C := fun o v e => k o v (h o v e)
set_option maxRecDepth 100000 in
set_option maxHeartbeats 2000000 in
theorem vals1_in (F : Fence) (n : Nat) (h7 : F.fn 99) (hro : F.round = none) (hn : 1 ≤ n) (l Bs b off len cap : Nat) (zs : List Nat) (hzl : zs.length = len) (hreach : len ≤ 1000000) (J Jx : List Nat → World → Prop)
    (hY : ∀ pre (x : Nat) W, J pre W → pre.length < len → YieldAt F (n - 1) Try.prog l #[.int .i64 (x : Int)] W fun e W' =>
      (e = .returned (.bool true) ∧ J (pre ++ [x]) W' ∧ KpB b W W') ∨ (e = .returned (.bool false) ∧ Jx (pre ++ [x]) W'))
    (W : World) (hBs : W.cell? ⟨Bs, 0, none⟩ = some (.slice (some ⟨b, off, none⟩) len cap)) (hc : ∀ (j x : Nat), zs[j]? = some x → W.cell? ⟨b, off + j, none⟩ = some (.int .i64 (x : Int))) (h0 : J [] W) :
    CallsIn F n Try.prog 99 #[.func (.yield l) #[] #[], .pointer (some ⟨Bs, 0, none⟩)] W fun e W' => (∃ v, e = .returned v) ∧
      ((∃ ys, ys = zs ∧ J ys W') ∨ (∃ pre, (∃ k, k ≤ len ∧ pre = zs.take k) ∧ Jx pre W')) := by
  refine callsIn_of_wp Try.func99 rfl h7 ?_ hro
  simp only [Try.ntmps99, List.size_toArray, List.length_cons, List.length_nil, Nat.reduceAdd, Nat.reduceSub, Array.replicate_succ, Array.replicate_zero, List.push_toArray, List.append_toArray, List.nil_append, List.cons_append]
  gi_wp2
  gi_loopw [7] (fun i wr => ∃ k : Nat, k ≤ len ∧ i = .int .i64 k ∧ J (zs.take k) wr ∧ KpB b W wr)
    (fun i _ => len - (intOf i).toNat)
  case atStart => exact ⟨0, Nat.zero_le _, rfl, by rw [List.take_zero]; exact h0, KpB.refl _ _⟩
  case round =>
    obtain ⟨k, hk, rfl, hJs, hnx⟩ := hrel
    by_cases hlt : k < len
    · obtain ⟨x, hx⟩ : ∃ x, zs[k]? = some x := ⟨_, List.getElem?_eq_getElem (by omega)⟩
      have hnext : zs.take (k + 1) = zs.take k ++ [x] := by rw [List.take_add_one, hx]; rfl
      obtain ⟨fn, tmps, assign, body, hy, hR⟩ := hY _ x wr hJs (by rw [List.length_take]; omega)
      have hcx' : wr.cell? ⟨b, off + k, none⟩ = some (.int .i64 (x : Int)) := hnx _ _ (hc k x hx)
      gi_wp2
      refine hR.mono ?_
      rintro e W3 (⟨rfl, hJ3, hk3⟩ | ⟨rfl, hJx3⟩)
      · gi_wp2
        go_roundw
        case rel => exact ⟨k + 1, by omega, by simp, by rw [hnext]; exact hJ3, hnx.trans hk3⟩
        case measure => simp [intOf]; omega
      · gi_wp2
        refine bodyPost_ret (results_none rfl _ _ _) rfl ?_
        exact ⟨⟨_, rfl⟩, .inr ⟨_, ⟨k + 1, by omega, hnext.symm⟩, hJx3⟩⟩
    · obtain rfl : k = len := by omega
      gi_wp2
      go_end0
      exact ⟨⟨_, rfl⟩, .inl ⟨_, by rw [← hzl, List.take_length], hJs⟩⟩
set_option maxRecDepth 100000 in
set_option maxHeartbeats 1000000 in
theorem vals1_nil (F : Fence) (n : Nat) (h7 : F.fn 99) (hro : F.round = none) (l Bs cap : Nat) (ao : Option Addr) (J : List Nat → World → Prop) (W : World) (hBs : W.cell? ⟨Bs, 0, none⟩ = some (.slice ao 0 cap)) (h0 : J [] W) :
    CallsIn F n Try.prog 99 #[.func (.yield l) #[] #[], .pointer (some ⟨Bs, 0, none⟩)] W fun e W' => (∃ v, e = .returned v) ∧ J [] W' := by
  refine callsIn_of_wp Try.func99 rfl h7 ?_ hro
  simp only [Try.ntmps99, List.size_toArray, List.length_cons, List.length_nil, Nat.reduceAdd, Nat.reduceSub, Array.replicate_succ, Array.replicate_zero, List.push_toArray, List.append_toArray, List.nil_append, List.cons_append]
  gi_wp2
  gi_loopw [7] (fun i wr => i = .int .i64 0 ∧ J [] wr) (fun _ _ => 0)
  case atStart => exact ⟨rfl, h0⟩
  case round =>
    obtain ⟨rfl, hJs⟩ := hrel
    gi_wp2
    go_end0
    exact ⟨⟨_, rfl⟩, hJs⟩
set_option maxRecDepth 20000 in
theorem values_any {W w : World} {M : List Asrt} (hS : Sat W w M) (ao : Option Addr) (n c : Nat) :
    Calls Try.prog 78 #[.slice ao n c] w fun e w' => ∃ pv, e = .returned (.func (.func 99) #[] #[.pointer (some ⟨pv, 0, none⟩)]) ∧ Sat W w' (Cs pv 32 [.slice ao n c] :: M) := by
  go_enter Try.func78, Try.ntmps78
  go_wp2_with (refine toList (by rfl) ?_; refine bx hS _ _ (by rfl) _ (by first | exact evC | exact evT (by rfl)) ?_; intro pv w1 hS1; clear hS; have hS := (show Sat W w1 (Cs pv 32 [.slice ao n c] :: M) from hS1); clear hS1)
  go_ret
  exact ⟨pv, rfl, hS⟩
/-- All of a list, or a beginning of it. -/
theorem vals_stops (F : Fence) (n : Nat) (h7 : F.fn 99) (hro : F.round = none) (hn : 1 ≤ n) (Bs b : Nat) (ao : Option Addr) (cap : Nat) (zs : List Nat) (hreach : zs.length ≤ 1000000) (w : World) (hBs : Bs < w.heap.size) (hb : b < w.heap.size) (hao : 0 < zs.length → ∃ off, ao = some ⟨b, off, none⟩)
    (hc : w.cell? ⟨Bs, 0, none⟩ = some (.slice ao zs.length cap)) (hI : ∀ off (j x : Nat), ao = some ⟨b, off, none⟩ → zs[j]? = some x → w.cell? ⟨b, off + j, none⟩ = some (.int .i64 (x : Int))) :
    SeqStopsK F n Try.prog 99 #[.pointer (some ⟨Bs, 0, none⟩)] (fun x : Nat => #[Value.int .i64 (x : Int)]) (KpB b) (fun ys => ys = zs) (fun pre => ∃ k, k ≤ zs.length ∧ pre = zs.take k) zs.length w := fun l J Jx W hW _ _ hY h0 => by
  have hc' := (hW.cell (p := ⟨Bs, 0, none⟩) hBs).trans hc
  by_cases hz : 0 < zs.length
  · obtain ⟨off, rfl⟩ := hao hz
    exact vals1_in F n h7 hro hn l Bs b off zs.length cap zs rfl hreach J Jx hY W hc' (fun j x hx => (hW.cell (p := ⟨b, off + j, none⟩) hb).trans (hI off j x rfl hx)) h0
  · have hz0 : zs = [] := List.eq_nil_of_length_eq_zero (by omega)
    subst hz0
    exact (vals1_nil F n h7 hro l Bs cap ao J W hc' h0).mono fun e W' ⟨he, hj⟩ => ⟨he, .inl ⟨_, rfl, hj⟩⟩
end Go.Proofs.Ytpnbdnfgdiakhaa
namespace Go.Proofs.Ytpnbdnfgdiakhaa
open Go.RowKit Go.Sep Go.Shelf
set_option linter.unusedSimpArgs false
set_option linter.unusedVariables false
attribute [local irreducible] Go.Oper.wp Go.wpList Go.Calls Go.Code.wp Go.Sep.Reg
attribute [local irreducible] IsG
attribute [local go_sem] Oper.semAt_some
/-- What the loop keeps: what has come, and all the rest. -/
def AllI (W : World) (k : Hp) (pa pm : Nat) (most : Int) (pre : List Nat) (w : World) : Prop :=
  ∃ v', Sat W w ([Cs pa 32 [v'], Ir v' pre, Cs pm 3 [.int .i64 most]] ++ [KeepH k])
theorem AllI.own {W : World} {k : Hp} {pa pm : Nat} {most : Int} {B : Nat} (hW : W.heap.size ≤ B) (hk : ∀ b o, k b = some o → b < B) : OwnFrom B (AllI W k pa pm most) := by
  rintro s X Y row ⟨v', h⟩ hg hr
  refine ⟨v', h.turned (B := B) (fun A hA => ?_) hW hg hr⟩
  simp only [List.cons_append, List.nil_append, List.mem_cons, List.not_mem_nil, or_false] at hA
  rcases hA with rfl | rfl | rfl | rfl
  · exact Loc.cs
  · exact Loc.ir
  · exact Loc.cs
  · exact Loc.keep fun b o e => .inl (hk b o e)
/-- A round: what all$1 does is all that is done. -/
theorem AllI.round {W W1 : World} {k : Hp} {pa pm : Nat} {most : Int} {pre : List Nat} {x b B : Nat} {o : Obj} (h : AllI W k pa pm most pre W1) (hW : W.heap.size ≤ B) (hb : k b = some o) (hl : pre.length ≤ 1000000) :
    Calls Try.prog 46 #[.int .i64 (x : Int), .pointer (some ⟨pa, 0, none⟩), .pointer (some ⟨pm, 0, none⟩)] W1 fun e W' => e = .returned (.bool (decide ((pre.length : Int) + 1 < most))) ∧ KeepsFrom B W1 W' ∧ KpB b W1 W' ∧ AllI W k pa pm most (pre ++ [x]) W' := by
  obtain ⟨v', h⟩ := h
  obtain ⟨k', hk, hn, h2⟩ := h.more (fun b o => b < W.heap.size ∨ o.isCells = true) (fun b o h => .inl h) (fun A hA => by
    simp only [List.mem_cons, List.not_mem_nil, or_false] at hA
    rcases hA with rfl | rfl | rfl
    · exact Loc.cs' fun o ho => .inr ho
    · exact Loc.ir' fun b off n c o _ ho => .inr ho
    · exact Loc.cs' fun o ho => .inr ho)
  refine (ayield_any h2 x hl).mono ?_
  rintro e W' ⟨v2, rfl, hsz, h3⟩
  have h4 : Sat W W' ([Cs pa 32 [v2], Ir v2 (pre ++ [x]), Cs pm 3 [.int .i64 most]] ++ [KeepH k']) := h3
  refine ⟨rfl, ⟨Nat.le_of_lt hsz, fun j u hB hj hu => h4.held (hn j u hj ?_)⟩, fun off v hv => ?_, ⟨v2, h4.keepLess hk⟩⟩
  · rintro (h5 | h5)
    · omega
    · rw [hu] at h5; cases h5
  · have e1 := h.held hb
    have e2 := h4.held (hk _ _ hb)
    rw [← hv]
    exact World.cell?_of_block (e2.trans e1.symm)
set_option maxRecDepth 100000 in
set_option maxHeartbeats 4000000 in
theorem all1_any {W w : World} {L : List Asrt} {p pg pq pf pa pm : Nat} {v fv : Value} {G : Gr} {K : Nat} {q : StepD} {fl : List Int} (hS : Sat W w (Cs pa 32 [v] :: Ir v [] :: Cs pm 3 [.int .i64 (K : Int)] :: Cs pg 23 [.pointer (some ⟨p, 0, none⟩)] :: Cs pq 49 (qv q) :: Cs pf 32 [fv] :: IsG p G :: L)) (hG : G.Ok) (hA : G.Acyc) (hq : ∀ d, QRd W d q)
    (hf : ∀ w L', Sat W w (L' ++ L) → Rd w fv fl.length 1 (ivz fl)) (hK : 0 < K) (hKl : K ≤ 1000000) :
    Calls Try.prog 77 #[.func (.func 46) #[] #[.pointer (some ⟨pa, 0, none⟩), .pointer (some ⟨pm, 0, none⟩)], .pointer (some ⟨pg, 0, none⟩), .pointer (some ⟨pq, 0, none⟩), .pointer (some ⟨pf, 0, none⟩)] w fun e w' => (∃ u, e = .returned u) ∧
      ∃ v', Sat W w' (Cs pa 32 [v'] :: Ir v' ((qlist G q fl).take K) :: IsG p G :: L) := by
  obtain ⟨af, cf, rfl, _⟩ := hf w [_, _, _, _, _, _, _] hS
  have hzl : (qlist G q fl).length ≤ 1000000 := Nat.le_trans (qlist_len _ _ _) (Nat.le_trans hG.len (by decide))
  have HLI := Lib.hid (fun w L' (h : Sat W w (IsG p G :: (L' ++ L))) => listO_any h hG hA q hq fl (.slice af fl.length cf) (fun w L2 h => hf w (L2 ++ L') (by rw [List.append_assoc]; exact h)))
  obtain ⟨zs, hzs⟩ : ∃ zs, qlist G q fl = zs := ⟨_, rfl⟩
  rw [hzs] at HLI hzl ⊢
  clear hq hf hzs hG hA
  obtain ⟨qo, qn, qu, qk⟩ := q
  replace HLI := Lib.hid (fun w L' h => show Calls Try.prog 20 #[.pointer (some ⟨p, 0, none⟩), .agg #[.int .i64 qo, .int .i64 qn, qu], .slice af fl.length cf] w _ from HLI.out w L' h)
  replace hS : Sat W w (Cs pa _ _ :: Ir v [] :: Cs pm _ _ :: Cs pg _ _ :: Cs pq 49 [.int .i64 qo, .int .i64 qn, qu] :: Cs pf _ _ :: IsG p G :: L) := hS
  refine (callsIn_wide (n := 3)).1 ?_
  refine callsIn_of_wp_marks Try.func77 rfl trivial ?_ rfl
  refine wpIn_wide.2 ?_
  simp only [Try.ntmps77, List.size_toArray, List.length_cons, List.length_nil, Nat.reduceAdd, Nat.reduceSub, Array.replicate_succ, Array.replicate_zero, List.push_toArray, List.append_toArray, List.nil_append, List.cons_append]
  go_wp2_with (first
    | (refine toList (by rfl) ?_; refine bx hS _ _ (by rfl) _ (by first | exact evC | exact evT (by rfl)) ?_; intro py w1 hS1; clear hS; have hS := (show Sat W w1 (Cs py _ [.func (.func 46) #[] #[.pointer (some ⟨pa, 0, none⟩), .pointer (some ⟨pm, 0, none⟩)]] :: Cs pa _ _ :: Ir v [] :: Cs pm _ _ :: Cs pg _ _ :: Cs pq _ _ :: Cs pf _ _ :: IsG p G :: L) from hS1); clear hS1)
    | (refine toList (by rfl) ?_; refine ld hS _ _ (by rfl) _ _ (by rfl) (agOf (by rfl)) (by repeat first | exact Has.z | apply Has.s) (by rfl) ?_)
    | (refine toList (by rfl) ?_; refine ld hS _ _ (by rfl) _ _ (by rfl) (agOf (by rfl)) (Has.s (Has.s (Has.s (Has.s (Has.s (Has.s Has.z)))))) (by rfl) ?_)
    | (refine toList (by rfl) ?_; refine wp_of_reads (rLdA hS _ _ (by rfl) _ _ (by rfl) (agOf (by rfl)) (szOf (by rfl)) (Has.s (Has.s (Has.s (Has.s (Has.s Has.z))))) (vs := [.int .i64 qo, .int .i64 qn, qu]) (by rfl) (by rfl)) ?_)
    | (go_at_call 20; refine (HLI.out _ [_, _, _, _, _, _, _] (hS.re [7])).mono ?_; rintro e w1 ⟨lv, rfl, hS1⟩; have hS2 := (irnOpen hS1).2; clear hS hS1; obtain ⟨ao, c, rfl, _⟩ := hS2.irShape (k := 0) rfl; have hS := hS2; clear hS2)
    | (go_at_call 78; refine (values_any hS ao zs.length c).mono ?_; rintro e w1 ⟨pv, rfl, hS1⟩; clear hS; have hS := hS1; clear hS1))
  refine wp_scope_straight ?_
  refine wp_seq (wp_label (show Code.wp _ _ _ _ _ from ?_))
  go_wp2_with (first
    | (refine toList (by rfl) ?_; refine bx hS _ _ (by rfl) _ (by first | exact evC | exact evT (by rfl)) ?_; intro py w1 hS1; clear hS; have hS := (show Sat W w1 (Cs py _ [.func (.func 46) #[] #[.pointer (some ⟨pa, 0, none⟩), .pointer (some ⟨pm, 0, none⟩)]] :: Cs pa _ _ :: Ir v [] :: Cs pm _ _ :: Cs pg _ _ :: Cs pq _ _ :: Cs pf _ _ :: IsG p G :: L) from hS1); clear hS1)
    | (refine toList (by rfl) ?_; refine ld hS _ _ (by rfl) _ _ (by rfl) (agOf (by rfl)) (by repeat first | exact Has.z | apply Has.s) (by rfl) ?_)
    | (refine toList (by rfl) ?_; refine ld hS _ _ (by rfl) _ _ (by rfl) (agOf (by rfl)) (Has.s (Has.s (Has.s (Has.s (Has.s (Has.s Has.z)))))) (by rfl) ?_)
    | (refine toList (by rfl) ?_; refine wp_of_reads (rLdA hS _ _ (by rfl) _ _ (by rfl) (agOf (by rfl)) (szOf (by rfl)) (Has.s (Has.s (Has.s (Has.s (Has.s Has.z))))) (vs := [.int .i64 qo, .int .i64 qn, qu]) (by rfl) (by rfl)) ?_)
    | (go_at_call 20; refine (HLI.out _ [_, _, _, _, _, _, _] (hS.re [7])).mono ?_; rintro e w1 ⟨lv, rfl, hS1⟩; have hS2 := (irnOpen hS1).2; clear hS hS1; obtain ⟨ao, c, rfl, _⟩ := hS2.irShape (k := 0) rfl; have hS := hS2; clear hS2)
    | (go_at_call 78; refine (values_any hS ao zs.length c).mono ?_; rintro e w1 ⟨pv, rfl, hS1⟩; clear hS; have hS := hS1; clear hS1))
  have hS2 : Sat W w1 ([Cs pa 32 [v], Ir v [], Cs pm 3 [.int .i64 (K : Int)]] ++ (Cs pv 32 [.slice ao zs.length c] :: Ir (.slice ao zs.length c) zs :: IsG p G :: Cs py 34 [.func (.func 46) #[] #[.pointer (some ⟨pa, 0, none⟩), .pointer (some ⟨pm, 0, none⟩)]] :: Cs pg _ _ :: Cs pq _ _ :: Cs pf _ _ :: L)) := hS.re [4, 5, 6]
  have hcv := hS.cell (k := 0) (off := 0) Has.z rfl
  have hpv := hS.csLt (k := 0) Has.z
  have hrd := hS.irRd (k := 1) rfl
  obtain ⟨kk, hk1, hk2, hS3, hback⟩ := hS2.hold2
  have hWB : W.heap.size ≤ w1.heap.size := hS.size
  have hkB : ∀ b o, kk b = some o → b < w1.heap.size := fun b o e => (Array.getElem?_eq_some_iff.1 (hk1 b o e)).1
  obtain ⟨bl, ol, hbl, hao⟩ : ∃ bl ol, kk bl = some ol ∧ (0 < zs.length → ∃ off, ao = some ⟨bl, off, none⟩) := by
    by_cases hz : 0 < zs.length
    · obtain ⟨g, sg, hg⟩ := hk2 (Ir (.slice ao zs.length c) zs) (by simp)
      obtain ⟨b, off, n2, c2, o, he, hb⟩ := hg.blk hz
      simp only [Value.slice.injEq] at he
      exact ⟨b, o, sg _ _ hb, fun _ => ⟨off, he.1⟩⟩
    · obtain ⟨g, sg, hg⟩ := hk2 (Cs pv 32 [.slice ao zs.length c]) (by simp)
      obtain ⟨fz, hb⟩ := hg.blk
      exact ⟨pv, _, sg _ _ hb, fun h => absurd h hz⟩
  obtain ⟨fy, hyk⟩ : ∃ fz, kk py = some (.cells #[.func (.func 46) #[] #[.pointer (some ⟨pa, 0, none⟩), .pointer (some ⟨pm, 0, none⟩)]] 34 fz) := by
    obtain ⟨g, sg, hg⟩ := hk2 (Cs py 34 [.func (.func 46) #[] #[.pointer (some ⟨pa, 0, none⟩), .pointer (some ⟨pm, 0, none⟩)]]) (by simp)
    obtain ⟨fz, hb⟩ := hg.blk
    exact ⟨fz, sg _ _ hb⟩
  refine (wpIn_wide (n := 3)).1 ?_
  refine wpIn_rangeFunc_ownG (F := Fence.wide) (n := 3) rfl (by decide) (gf := 99) (lb := #[.pointer (some ⟨pv, 0, none⟩)]) rfl trivial (enters_of Try.func99 (by kernel_rfl) rfl)
    (vals_stops Fence.wide 2 trivial rfl (by decide) pv bl ao c zs hzl w1 hpv (hkB _ _ hbl) hao hcv (fun off j x e hx => ?cells)) (fun h k => KpB.trans h k) ?keeps (Below.refl _ _) (fun _ => rfl)
    (fun pre W' => AllI W kk pa pm (K : Int) pre W' ∧ pre.length < K)
    (fun cd pre W' => cd = .exit 0 ∧ AllI W kk pa pm (K : Int) pre W' ∧ pre.length = K)
    (fun s X Y row hs hg hr => ⟨AllI.own hWB hkB s X Y row hs.1 hg hr, hs.2⟩)
    (fun cd s X Y row hs hg hr => ⟨hs.1, AllI.own hWB hkB s X Y row hs.2.1 hg hr, hs.2.2⟩)
    ⟨⟨v, hS3⟩, hK⟩
    (fun x => { tmps := #[.func (.func 46) #[] #[.pointer (some ⟨pa, 0, none⟩), .pointer (some ⟨pm, 0, none⟩)], .pointer (some ⟨pg, 0, none⟩), .pointer (some ⟨pq, 0, none⟩), .pointer (some ⟨pf, 0, none⟩), .pointer (some ⟨py, 0, none⟩), .int .i64 (x : Int), .pointer (some ⟨p, 0, none⟩), .agg #[.int .i64 qo, .int .i64 qn, qu], .slice af fl.length cf, .slice ao zs.length c, .func (.func 99) #[] #[.pointer (some ⟨pv, 0, none⟩)], .int .i64 (x : Int), undef, undef, undef, undef], defers := [] }) ?assign ?body ?done ?stop
  case cells =>
    obtain ⟨_, _, he, _, _, _, h5⟩ := hrd
    simp only [Value.slice.injEq, true_and] at he
    obtain ⟨rfl, rfl⟩ := he
    have hj := (List.getElem?_eq_some_iff.1 hx).1
    obtain ⟨b2, off2, e2, h6⟩ := h5 (by omega)
    rw [e] at e2
    cases e2
    exact h6 j _ (iv_at hx)
  case keeps =>
    intro X l o o' _ h1 h2 _ off u hu
    obtain ⟨ob, hb, hc⟩ := cells_of_cell hu
    rw [← hu]
    refine World.cell?_of_block (World.putObj_heap_other fun e => ?_)
    dsimp only at e hb
    rw [e, h1] at hb
    cases hb
    rw [h2] at hc
    cases hc
  case assign =>
    intro l x X KK hKK
    gi_wp2
    exact hKK
  case body =>
    rintro l pre x X ⟨hi, hlt⟩ _
    have hR := hi.round (x := x) (B := w1.heap.size) hWB hbl (by omega)
    have hcy : X.cell? ⟨py, 0, none⟩ = some (.func (.func 46) #[] #[.pointer (some ⟨pa, 0, none⟩), .pointer (some ⟨pm, 0, none⟩)]) := by
      obtain ⟨v', hi⟩ := hi
      have := hi.held hyk
      simp [World.cell?, this]
    by_cases hgo : pre.length + 1 < K
    · have e1 : decide ((pre.length : Int) + 1 < (K : Int)) = true := decide_eq_true (by omega)
      rw [e1] at hR
      gi_wp2
      refine ⟨trivial, ?_⟩
      refine CallsIn.mono (F := Fence.wide.inRound l) (show CallsIn (Fence.wide.inRound l) _ _ _ _ _ _ from (callsIn_wide (n := 0)).2 hR) ?_
      rintro e W2 ⟨rfl, hkf, hkp, hi2⟩
      gi_wp2
      exact ⟨hkf, hkp, hi2, by simp; omega⟩
    · have e1 : decide ((pre.length : Int) + 1 < (K : Int)) = false := decide_eq_false (by omega)
      rw [e1] at hR
      gi_wp2
      refine ⟨trivial, ?_⟩
      refine CallsIn.mono (F := Fence.wide.inRound l) (show CallsIn (Fence.wide.inRound l) _ _ _ _ _ _ from (callsIn_wide (n := 0)).2 hR) ?_
      rintro e W2 ⟨rfl, hkf, hkp, hi2⟩
      gi_wp2
      exact ⟨hkf, rfl, hi2, by simp; omega⟩
  case done =>
    rintro D ys X hD rfl ⟨hi, hlt⟩ hKd
    refine (show LeavesInM _ _ _ _ _ _ _ _ _ from ?_)
    refine ⟨by simp, .inl ⟨_, _, rfl, run_takeDeferred hKd, ?_⟩⟩
    refine ⟨_, results_none rfl _ _ _, ⟨_, rfl⟩, ?_⟩
    obtain ⟨v', h⟩ := (AllI.own hWB hkB).putObj (.deferred none) hi hD hKd rfl
    rw [List.take_of_length_le (Nat.le_of_lt hlt)]
    exact ⟨v', ((hback _ _ h).re [2, 3, 4, 6, 7, 8, 9, 0, 1, 5]).drop.drop.drop.drop.drop.drop.drop⟩
  case stop =>
    rintro D cd pre X hD ⟨j, hj, rfl⟩ ⟨rfl, hi, hlt⟩ hKd
    gi_wp2
    refine (show LeavesInM _ _ _ _ _ _ _ _ _ from ?_)
    refine ⟨by simp, .inl ⟨_, _, rfl, run_takeDeferred hKd, ?_⟩⟩
    refine ⟨_, results_none rfl _ _ _, ⟨_, rfl⟩, ?_⟩
    obtain ⟨v', h⟩ := (AllI.own hWB hkB).putObj (.deferred none) hi hD hKd rfl
    have e2 : zs.take K = zs.take j := by
      rw [List.take_eq_take_iff]
      rw [List.length_take] at hlt
      omega
    rw [e2]
    exact ⟨v', ((hback _ _ h).re [2, 3, 4, 6, 7, 8, 9, 0, 1, 5]).drop.drop.drop.drop.drop.drop.drop⟩
end Go.Proofs.Ytpnbdnfgdiakhaa
namespace Go.Proofs.Ytpnbdnfgdiakhaa
open Go.RowKit Go.Sep
set_option linter.unusedSimpArgs false
set_option linter.unusedVariables false
attribute [local irreducible] Go.Oper.wp Go.wpList Go.Calls Go.Code.wp Go.Sep.Reg
attribute [local irreducible] IsG
set_option maxRecDepth 20000 in
theorem qall_any {W w : World} {M : List Asrt} {p : Nat} (hS : Sat W w M) (qo qn : Int) (qu : Value) (af : Option Addr) (fn cf : Nat) :
    Calls Try.prog 45 #[.pointer (some ⟨p, 0, none⟩), .agg #[.int .i64 qo, .int .i64 qn, qu], .slice af fn cf] w fun e w' => ∃ pg pq pf, e = .returned (.func (.func 77) #[] #[.pointer (some ⟨pg, 0, none⟩), .pointer (some ⟨pq, 0, none⟩), .pointer (some ⟨pf, 0, none⟩)]) ∧ Sat W w' (Cs pf 32 [.slice af fn cf] :: Cs pq 49 [.int .i64 qo, .int .i64 qn, qu] :: Cs pg 23 [.pointer (some ⟨p, 0, none⟩)] :: M) := by
  go_enter Try.func45, Try.ntmps45
  go_wp2_with (first
    | (refine toList (by rfl) ?_; refine bx (show Sat W _ M from hS) _ _ (by rfl) _ (by first | exact evC | exact evT (by rfl)) ?_; intro pg w1 hS1; clear hS; have hS := (show Sat W w1 (Cs pg 23 [.pointer (some ⟨p, 0, none⟩)] :: M) from hS1); clear hS1)
    | (refine toList (by rfl) ?_; refine bx (show Sat W _ (Cs pg _ _ :: M) from hS) _ _ (by rfl) _ (by first | exact evC | exact evT (by rfl)) ?_; intro pq w1 hS1; clear hS; have hS := (show Sat W w1 (Cs pq 49 [.int .i64 qo, .int .i64 qn, qu] :: Cs pg _ _ :: M) from hS1); clear hS1)
    | (refine toList (by rfl) ?_; refine bx (show Sat W _ (Cs pq _ _ :: Cs pg _ _ :: M) from hS) _ _ (by rfl) _ (by first | exact evC | exact evT (by rfl)) ?_; intro pf w1 hS1; clear hS; have hS := (show Sat W w1 (Cs pf 32 [.slice af fn cf] :: Cs pq _ _ :: Cs pg _ _ :: M) from hS1); clear hS1))
  go_ret
  exact ⟨pg, pq, pf, rfl, hS⟩
set_option maxRecDepth 20000 in
set_option maxHeartbeats 2000000 in
theorem lall_any {W w : World} {M : List Asrt} {p : Nat} {G : Gr} {fv : Value} {K : Nat} {q : StepD} {fl : List Int} (hS : Sat W w (IsG p G :: M)) (hG : G.Ok) (hA : G.Acyc) (hq : ∀ d, QRd W d q)
    (hf : ∀ w L', Sat W w (L' ++ M) → Rd w fv fl.length 1 (ivz fl)) (hK : 0 < K) (hKl : K ≤ 1000000) :
    Calls Try.prog 29 #[.pointer (some ⟨p, 0, none⟩), .agg (qv q).toArray, fv, .int .i64 (K : Int)] w fun e w' => ∃ v, e = .returned v ∧ Sat W w' (Ir v ((qlist G q fl).take K) :: IsG p G :: M) := by
  obtain ⟨af, cf, rfl, _⟩ := hf w [_] hS
  have HW := Lib.hid (fun w pa pm pg pq pf v L' (h : Sat W w (Cs pa 32 [v] :: Ir v [] :: Cs pm 3 [.int .i64 (K : Int)] :: Cs pg 23 [.pointer (some ⟨p, 0, none⟩)] :: Cs pq 49 (qv q) :: Cs pf 32 [.slice af fl.length cf] :: IsG p G :: (L' ++ M))) => all1_any h hG hA hq (fun w L2 h => hf w (L2 ++ L') (by rw [List.append_assoc]; exact h)) hK hKl)
  obtain ⟨zs, hzs⟩ : ∃ zs, qlist G q fl = zs := ⟨_, rfl⟩
  rw [hzs] at HW ⊢
  have hm1 : ¬ (K : Int) < 1 := by omega
  have hm2 : decide ((K : Int) < 1) = false := decide_eq_false hm1
  clear hK hKl hG hA hq hf hzs
  obtain ⟨qo, qn, qu, qk⟩ := q
  replace HW := Lib.hid (fun w pa pm pg pq pf v L' (h : Sat W w (Cs pa 32 [v] :: Ir v [] :: Cs pm 3 [.int .i64 (K : Int)] :: Cs pg 23 [.pointer (some ⟨p, 0, none⟩)] :: Cs pq 49 [.int .i64 qo, .int .i64 qn, qu] :: Cs pf 32 [.slice af fl.length cf] :: IsG p G :: (L' ++ M))) => HW.out w pa pm pg pq pf v L' h)
  show Calls Try.prog 29 #[.pointer (some ⟨p, 0, none⟩), .agg #[.int .i64 qo, .int .i64 qn, qu], .slice af fl.length cf, .int .i64 (K : Int)] w _
  have EF : ∀ (c : Array Value) (w : World), (binOp .eql 100 (.func (.func 77) #[] c) .nilFunc).run Try.prog w = .ok (.bool false) w := fun c w => by kernel_rfl
  go_enter Try.func29, Try.ntmps29
  go_wp2_with (first
    | (refine toList (by rfl) ?_; refine bx (show Sat W _ (IsG p G :: M) from hS) _ _ (by rfl) _ (by first | exact evC | exact evT (by rfl)) ?_; intro px w1 hS1; clear hS; have hS := (show Sat W w1 (Cs px 49 [.int .i64 qo, .int .i64 qn, qu] :: IsG p G :: M) from hS1); clear hS1)
    | (refine toList (by rfl) ?_; refine bx (show Sat W _ (Cs px _ _ :: IsG p G :: M) from hS) _ _ (by rfl) _ (by first | exact evC | exact evT (by rfl)) ?_; intro pm w1 hS1; clear hS; have hS := (show Sat W w1 (Cs pm 3 [.int .i64 (K : Int)] :: Cs px _ _ :: IsG p G :: M) from hS1); clear hS1)
    | (refine toList (by rfl) ?_; refine ld hS _ _ (by rfl) _ _ (by rfl) (agOf (by rfl)) (by repeat first | exact Has.z | apply Has.s) (by rfl) ?_)
    | (refine toList (by rfl) ?_; refine wp_of_reads (rLdA hS _ _ (by rfl) _ _ (by rfl) (agOf (by rfl)) (szOf (by rfl)) (Has.s Has.z) (vs := [.int .i64 qo, .int .i64 qn, qu]) (by rfl) (by rfl)) ?_)
    | (go_at_call 45; refine (qall_any hS qo qn qu af fl.length cf).mono ?_; rintro e w1 ⟨pg, pq, pf, rfl, hS1⟩; clear hS; have hS := hS1; clear hS1)
    | (refine toList (by rfl) ?_; refine al hS _ (by rfl) (zrOf (T := 32) (by rfl)) ?_; intro pa w1 hS1; clear hS; have hS := (show Sat W w1 (Cs pa 32 [.slice none 0 0] :: Cs pf _ _ :: Cs pq _ _ :: Cs pg _ _ :: Cs pm _ _ :: Cs px _ _ :: IsG p G :: M) from hS1); clear hS1)
    | (refine toList (by rfl) ?_; refine clV _ _ _ _ (by rfl) (by rfl) (by rfl) (by kernel_rfl) (HW.out _ _ _ _ _ _ _ [_] (hS.irNil.re [1, 0, 5, 4, 3, 2, 7])) ?_; rintro e w1 ⟨⟨u, rfl⟩, v', hS1⟩; clear hS; have hS := hS1; clear hS1; refine ⟨_, rfl, ?_⟩))
  go_ret
  exact ⟨_, rfl, ((hS.drop).re [2]).drop⟩
end Go.Proofs.Ytpnbdnfgdiakhaa
