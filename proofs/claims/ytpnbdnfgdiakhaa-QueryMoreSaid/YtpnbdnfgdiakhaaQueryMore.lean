/-
  For all calls, questions and nodes, QueryMore answers true: no condition.
-/
import Derived.Test.YtpnbdnfgdiakhaaMQuf
namespace Go.Proofs.Ytpnbdnfgdiakhaa
open Go.RowKit Go.Sep Go.ChangeShapes Go.WideShapes Go.ChangeAt
set_option linter.unusedSimpArgs false
set_option linter.unusedVariables false
attribute [local irreducible] Go.Oper.wp Go.wpList Go.Calls Go.Code.wp Go.Sep.Reg
attribute [local irreducible] IsG
/-- The nodes of one list, taken out of another. -/
structure MoreOk (a b : List Nat) : Prop where
  lt : b.Pairwise (· < ·)
  eq : a = b.filter fun x => decide (x ∈ a)
theorem sat_nil {W w : World} : ∀ {L : List Asrt}, Sat W w L → Sat W w []
  | [], h => h
  | _ :: _, h => sat_nil h.drop
theorem qlist_lt (G : Gr) (q : StepD) (fl : List Int) : (qlist G q fl).Pairwise (· < ·) := by
  unfold qlist
  split
  · exact fltN_lt _ _
  · exact List.Pairwise.nil
theorem moreOk (G : Gr) (q : StepD) (fl : List Int) (m : Int) : MoreOk (qlist G q fl) (qlist G q (fl ++ [m])) where
  lt := qlist_lt G q _
  eq := by
    refine sorted_eq (qlist_lt G q fl) (List.Pairwise.filter _ (qlist_lt G q _)) fun x => ?_
    rw [List.mem_filter, decide_eq_true_eq]
    refine ⟨fun h => ⟨?_, h⟩, fun h => h.2⟩
    cases hc : q.chk with
    | false => rw [qlist_no fl hc] at h; cases h
    | true =>
      rw [qlist_yes _ hc, mem_fltN] at h ⊢
      obtain ⟨h1, n, ⟨h2, h3⟩, h4⟩ := h
      exact ⟨h1, n, ⟨h2, List.mem_append_left _ h3⟩, h4⟩
theorem MoreOk.split {a b : List Nat} (h : MoreOk a b) {i k : Nat} (hk : (b.take i).filter (fun x => decide (x ∈ a)) = a.take k) : a = a.take k ++ (b.drop i).filter fun x => decide (x ∈ a) := by
  conv => lhs; rw [h.eq, ← List.take_append_drop i b, List.filter_append]
  have e : ∀ l : List Nat, l.filter (fun x => decide (x ∈ b.filter fun x => decide (x ∈ a))) = l.filter fun x => decide (x ∈ a) := fun l => by rw [← h.eq]
  rw [hk]
theorem MoreOk.hit {a b : List Nat} (h : MoreOk a b) {i k x : Nat} (hkl : k ≤ a.length) (hk : (b.take i).filter (fun x => decide (x ∈ a)) = a.take k) (hx : b[i]? = some x) (hm : x ∈ a) : k < a.length ∧ a[k]? = some x ∧ (b.take (i + 1)).filter (fun x => decide (x ∈ a)) = a.take (k + 1) := by
  have h1 := h.split hk
  have hi := (List.getElem?_eq_some_iff.1 hx).1
  have h2 : b.drop i = x :: b.drop (i + 1) := by
    rw [← List.getElem_cons_drop hi]
    rw [(List.getElem?_eq_some_iff.1 hx).2]
  rw [h2, List.filter_cons_of_pos (by simpa using hm)] at h1
  have h3 : a[k]? = some x := by
    rw [h1, List.getElem?_append_right (by rw [List.length_take]; omega), List.length_take, Nat.min_eq_left hkl, Nat.sub_self]; rfl
  refine ⟨(List.getElem?_eq_some_iff.1 h3).1, h3, ?_⟩
  rw [List.take_add_one, List.take_add_one, hx, h3, List.filter_append, hk]
  simp [hm]
theorem MoreOk.miss {a b : List Nat} {i k x : Nat} (hk : (b.take i).filter (fun x => decide (x ∈ a)) = a.take k) (hx : b[i]? = some x) (hm : x ∉ a) : (b.take (i + 1)).filter (fun x => decide (x ∈ a)) = a.take k := by
  rw [List.take_add_one, hx, List.filter_append, hk]
  simp [hm]
theorem MoreOk.done {a b : List Nat} (h : MoreOk a b) {k : Nat} (hkl : k ≤ a.length) (hk : (b.take b.length).filter (fun x => decide (x ∈ a)) = a.take k) : k = a.length := by
  have h1 := h.split hk
  rw [List.drop_length, List.filter_nil, List.append_nil] at h1
  have h2 := congrArg List.length h1
  rw [List.length_take] at h2
  omega
theorem MoreOk.up {a b : List Nat} (h : MoreOk a b) {i x y : Nat} (hx : b[i + 1]? = some x) (hy : b[i]? = some y) : y < x := by
  have h1 := List.pairwise_iff_getElem.1 h.lt
  obtain ⟨hi, rfl⟩ := List.getElem?_eq_some_iff.1 hx
  obtain ⟨hj, rfl⟩ := List.getElem?_eq_some_iff.1 hy
  exact h1 i (i + 1) hj hi (by omega)
set_option maxRecDepth 20000 in
set_option maxHeartbeats 8000000 in
theorem More.walk (l : List GOpD) (ao : Option Addr) (c : Nat) (q : StepD) (fl : List Int) (af : Option Addr) (cf : Nat) (more : Int) (W : World) (hr : Rd W (.slice ao l.length c) l.length 3 (l.flatMap gov)) (hq : ∀ d, QRd W d q) (hf : Rd W (.slice af fl.length cf) fl.length 1 (ivz fl)) :
    Calls Try.prog 7 #[.slice ao l.length c, .agg (qv q).toArray, .slice af fl.length cf, .int .i64 more] W fun e W' => e = .returned (.bool true) ∧ Sat W W' [] := by
  have hS := Sat.start W
  have HTY := Lib.hid (fun w pn L (h : Sat W w (Cs pn 3 [.int .i64 ((0 : Nat) : Int)] :: L)) => tiny_any 15 q 0 0 h (by decide) (by decide) (by decide) (fun w L' h => (hq 15).old h))
  have HGR := Lib.hid (fun w L (h : Sat W w L) => graphsI_any h l ao c (I := fun _ => True) trivial (fun _ _ _ _ _ => trivial) (fun u hu => hr.old hu))
  have HF := Lib.hid (fun w L (h : Sat W w L) => hf.old h)
  have HLI := Lib.hid (fun w L p G fl fv (h : Sat W w (IsG p G :: L)) (hG : G.Ok) (hA : G.Acyc) hf => listO_any h hG hA q hq fl fv hf)
  obtain ⟨_, _, _, hc1, hc2, _⟩ := hf
  have hfi : (fl.length : Int) ≤ 9223372036854775807 := by omega
  have HMO := Lib.hid (fun G => moreOk G q fl more)
  obtain ⟨QL, hQL⟩ : ∃ QL, qlist = QL := ⟨_, rfl⟩
  clear hr hq hc1
  obtain ⟨qo, qn, qu, qk⟩ := q
  replace HTY := Lib.hid (fun w pn L (h : Sat W w (Cs pn 3 [.int .i64 0] :: L)) => show Calls Try.prog 26 #[.agg #[.int .i64 qo, .int .i64 qn, qu], .int .i64 0, .pointer (some ⟨pn, 0, none⟩)] w _ from HTY.out w pn L h)
  replace HLI := Lib.hid (fun w L p G fl fv h hG hA hf => show Calls Try.prog 20 #[.pointer (some ⟨p, 0, none⟩), .agg #[.int .i64 qo, .int .i64 qn, qu], fv] w _ from HLI.out w L p G fl fv h hG hA hf)
  show Calls Try.prog 7 #[.slice ao l.length c, .agg #[.int .i64 qo, .int .i64 qn, qu], .slice af fl.length cf, .int .i64 more] W _
  by_cases h30 : 30 < fl.length
  · have k1 : (30 : Int) < (fl.length : Int) := by omega
    have k2 : decide ((30 : Int) < (fl.length : Int)) = true := decide_eq_true k1
    have k3 : decide (30 < fl.length) = true := decide_eq_true h30
    clear h30
    go_enter Try.func7, Try.ntmps7
    go_wp2_with (first
      | (refine toList (by rfl) ?_; refine bx hS _ _ (by rfl) _ (by first | exact evC | exact evT (by rfl)) ?_; intro px w1 hS1; clear hS; have hS := (show Sat W w1 [Cs px 49 [.int .i64 qo, .int .i64 qn, qu]] from hS1); clear hS1)
      | (refine toList (by rfl) ?_; refine al hS _ (by rfl) (zrOf (T := 3) (by rfl)) ?_; intro pn w1 hS1; clear hS; have hS := (show Sat W w1 [Cs pn 3 [.int .i64 0], Cs px 49 [.int .i64 qo, .int .i64 qn, qu]] from hS1); clear hS1)
      | (refine toList (by rfl) ?_; refine st hS _ _ _ (by rfl) _ _ (by rfl) _ (by first | exact evC | exact evT (by rfl)) (by rfl) (szOf (by rfl)) (by first | exact Has.z | exact Has.s Has.z | exact Has.s (Has.s Has.z) | exact Has.s (Has.s (Has.s Has.z)) | exact Has.s (Has.s (Has.s (Has.s Has.z))) | exact Has.s (Has.s (Has.s (Has.s (Has.s Has.z))))) (by exact Nat.le_of_ble_eq_true rfl) ?_; intro w1 hS1; clear hS; have hS := hS1; clear hS1; dsimp only [List.set] at hS)
      | (refine toList (by rfl) ?_; refine wp_of_reads (rLdA hS _ _ (by rfl) _ _ (by rfl) (agOf (by rfl)) (szOf (by rfl)) (Has.s Has.z) (vs := [.int .i64 qo, .int .i64 qn, qu]) (by rfl) (by rfl)) ?_)
      | (go_at_call 26; refine (HTY.out _ _ _ hS).mono ?_; rintro e w1 ⟨v, rfl, f, m, rfl, _, _, hS1⟩; cases f <;> (clear hS; have hS := hS1; clear hS1))
      | (go_at_call 15; refine (awake_any hS).mono ?_; rintro e w1 ⟨rfl, hS1⟩; clear hS; have hS := hS1; clear hS1)
      | (go_at_call 16; refine (HGR.out _ _ hS).mono ?_; rintro e w1 ⟨p, q2, G, rfl, hG, hA, _, _, hn80, hS1⟩; have HG := Lib.hid hG; have HA := Lib.hid hA; clear hG hA; clear hS; have hS := hS1; clear hS1))
    all_goals
      go_ret
      exact ⟨rfl, hS.drop.drop⟩
  · have k1 : ¬ (30 : Int) < (fl.length : Int) := by omega
    have k2 : decide ((30 : Int) < (fl.length : Int)) = false := decide_eq_false k1
    have k3 : decide (30 < fl.length) = false := decide_eq_false h30
    have HFL := Lib.hid (show fl.length ≤ 30 by omega)
    clear h30
    go_enter Try.func7, Try.ntmps7
    go_wp2_with (first
      | (refine toList (by rfl) ?_; refine bx hS _ _ (by rfl) _ (by first | exact evC | exact evT (by rfl)) ?_; intro px w1 hS1; clear hS; have hS := (show Sat W w1 [Cs px 49 [.int .i64 qo, .int .i64 qn, qu]] from hS1); clear hS1)
      | (refine toList (by rfl) ?_; refine al hS _ (by rfl) (zrOf (T := 3) (by rfl)) ?_; intro pn w1 hS1; clear hS; have hS := (show Sat W w1 [Cs pn 3 [.int .i64 0], Cs px 49 [.int .i64 qo, .int .i64 qn, qu]] from hS1); clear hS1)
      | (refine toList (by rfl) ?_; refine st hS _ _ _ (by rfl) _ _ (by rfl) _ (by first | exact evC | exact evT (by rfl)) (by rfl) (szOf (by rfl)) (by first | exact Has.z | exact Has.s Has.z | exact Has.s (Has.s Has.z) | exact Has.s (Has.s (Has.s Has.z)) | exact Has.s (Has.s (Has.s (Has.s Has.z))) | exact Has.s (Has.s (Has.s (Has.s (Has.s Has.z))))) (by exact Nat.le_of_ble_eq_true rfl) ?_; intro w1 hS1; clear hS; have hS := hS1; clear hS1; dsimp only [List.set] at hS)
      | (refine toList (by rfl) ?_; refine wp_of_reads (rLdA hS _ _ (by rfl) _ _ (by rfl) (agOf (by rfl)) (szOf (by rfl)) (Has.s Has.z) (vs := [.int .i64 qo, .int .i64 qn, qu]) (by rfl) (by rfl)) ?_)
      | (go_at_call 26; refine (HTY.out _ _ _ hS).mono ?_; rintro e w1 ⟨v, rfl, f, m, rfl, _, _, hS1⟩; cases f <;> (clear hS; have hS := hS1; clear hS1))
      | (go_at_call 15; refine (awake_any hS).mono ?_; rintro e w1 ⟨rfl, hS1⟩; clear hS; have hS := hS1; clear hS1)
      | (go_at_call 16; refine (HGR.out _ _ hS).mono ?_; rintro e w1 ⟨p, q2, G, rfl, hG, hA, _, _, hn80, hS1⟩; have HG := Lib.hid hG; have HA := Lib.hid hA; clear hG hA; clear hS; have hS := hS1; clear hS1))
    · go_ret
      exact ⟨rfl, hS.drop.drop⟩
    · refine regStart2 [4] hS (fun _ h => h.one (Has.s (Has.s (Has.s Has.z)))) (by kernel_rfl) rfl ?_
      intro w1 hS1
      clear hS; have hS := hS1; clear hS1
      (refine regP 0 hS (fun _ h => h.one (Has.s (Has.s (Has.s Has.z)))) rfl (by kernel_rfl) (by kernel_rfl) (by kernel_rfl) (fun _ _ _ _ h => h) (by rfl) (by rfl) ?_; apply Exists.intro; apply And.intro; (intro w; go_simp; try with_reducible rfl); go_frame)
      (refine regR 1 hS (fun _ h => h.one (Has.s (Has.s (Has.s Has.z)))) rfl (by kernel_rfl) (by kernel_rfl) (by kernel_rfl) (by kernel_rfl) (by kernel_rfl) (fun _ _ _ _ h => h) (by rfl) (by rfl) ?_; (refine ⟨.agg #[.int .i64 qo, .int .i64 qn, qu], yLdA _ _ (by rfl) _ _ (by rfl) (agOf (by rfl)) (szOf (by rfl)) Has.z (vs := [.int .i64 qo, .int .i64 qn, qu]) (by rfl) (by rfl), ?_⟩); go_frame)
      (refine regP 2 hS (fun _ h => h.one (Has.s (Has.s (Has.s Has.z)))) rfl (by kernel_rfl) (by kernel_rfl) (by kernel_rfl) (fun _ _ _ _ h => h) (by rfl) (by rfl) ?_; apply Exists.intro; apply And.intro; (intro w; go_simp; try with_reducible rfl); go_frame)
      (refine regA 3 rfl (by kernel_rfl) (by rfl) (by rfl) false (by kernel_rfl) (fun K hK => ?_); (first
                    | (refine Go.Sep.cl 27 _ _ (by rfl) (by rfl) (by kernel_rfl) (intsZ_any hS (HF.out _ _ hS) (by have := HFL.out; omega)) ?_; rintro e w1 ⟨v1, rfl, hS1⟩; clear hS; have hS := hS1; clear hS1; refine ⟨_, rfl, ?_⟩)
                    | (refine Go.Sep.cl 20 _ _ (by rfl) (by rfl) (by kernel_rfl) (HLI.out _ _ _ G fl _ hS.pull1 HG.out HA.out (fun w L' h => Sat.izRd h (has_app _ _ _))) ?_; rintro e w1 ⟨va, rfl, hS1⟩; clear hS; have hS := hS1; clear hS1; refine ⟨_, rfl, ?_⟩)); refine hK _ _ _ (hS.upTo (fun _ h => by first | exact h.one Has.z | exact h.one (Has.s Has.z) | exact h.one (Has.s (Has.s Has.z)) | exact h.one (Has.s (Has.s (Has.s Has.z))) | exact h.one (Has.s (Has.s (Has.s (Has.s Has.z)))) | exact h.one (Has.s (Has.s (Has.s (Has.s (Has.s Has.z))))) | exact h.one (Has.s (Has.s (Has.s (Has.s (Has.s (Has.s Has.z)))))) | exact h.one (Has.s (Has.s (Has.s (Has.s (Has.s (Has.s (Has.s Has.z))))))))) (fun _ _ h => h) ?_; clear hK K; go_frame)
      (refine regA 4 rfl (by kernel_rfl) (by rfl) (by rfl) true (by kernel_rfl) (fun K hK => ?_); (first
                    | (refine Go.Sep.cl 27 _ _ (by rfl) (by rfl) (by kernel_rfl) (intsZ_any hS (HF.out _ _ hS) (by have := HFL.out; omega)) ?_; rintro e w1 ⟨v1, rfl, hS1⟩; clear hS; have hS := hS1; clear hS1; refine ⟨_, rfl, ?_⟩)
                    | (refine Go.Sep.cl 20 _ _ (by rfl) (by rfl) (by kernel_rfl) (HLI.out _ _ _ G fl _ hS.pull1 HG.out HA.out (fun w L' h => Sat.izRd h (has_app _ _ _))) ?_; rintro e w1 ⟨va, rfl, hS1⟩; clear hS; have hS := hS1; clear hS1; refine ⟨_, rfl, ?_⟩)); refine hK _ _ _ hS (by first | (intro h; cases h; done) | exact fun _ _ h => h | exact fun _ _ h => h.drop | exact fun _ _ h => h.drop.drop | exact fun _ _ h => h.drop.pull1 | exact fun _ _ h => h.take2 | exact fun _ _ h => h.one Has.z | exact fun _ _ h => h.one (Has.s Has.z) | exact fun _ _ h => h.one (Has.s (Has.s Has.z))) ?_; clear hK K; go_frame)
      (refine regP 5 hS (fun _ h => h) rfl (by kernel_rfl) (by kernel_rfl) (by kernel_rfl) (fun _ _ _ _ h => h) (by rfl) (by rfl) ?_; apply Exists.intro; apply And.intro; (intro w; go_simp; try with_reducible rfl); go_frame)
      refine regDone (by kernel_rfl) ?_
      go_wp2
      replace hS := (hS.re [2]).drop
      refine regStart2 [7] hS (fun _ h => h.one (Has.s (Has.s (Has.s (Has.s Has.z))))) (by kernel_rfl) rfl ?_
      intro w1 hS1
      clear hS; have hS := hS1; clear hS1
      (refine regP 0 hS (fun _ h => h.one (Has.s (Has.s (Has.s (Has.s Has.z))))) rfl (by kernel_rfl) (by kernel_rfl) (by kernel_rfl) (fun _ _ _ _ h => h) (by rfl) (by rfl) ?_; apply Exists.intro; apply And.intro; (intro w; go_simp; try with_reducible rfl); go_frame)
      (refine regR 1 hS (fun _ h => h.one (Has.s (Has.s (Has.s (Has.s Has.z))))) rfl (by kernel_rfl) (by kernel_rfl) (by kernel_rfl) (by kernel_rfl) (by kernel_rfl) (fun _ _ _ _ h => h) (by rfl) (by rfl) ?_; (refine ⟨.agg #[.int .i64 qo, .int .i64 qn, qu], yLdA _ _ (by rfl) _ _ (by rfl) (agOf (by rfl)) (szOf (by rfl)) Has.z (vs := [.int .i64 qo, .int .i64 qn, qu]) (by rfl) (by rfl), ?_⟩); go_frame)
      (refine regP 2 hS (fun _ h => h.one (Has.s (Has.s (Has.s (Has.s Has.z))))) rfl (by kernel_rfl) (by kernel_rfl) (by kernel_rfl) (fun _ _ _ _ h => h) (by rfl) (by rfl) ?_; apply Exists.intro; apply And.intro; (intro w; go_simp; try with_reducible rfl); go_frame)
      (refine regP 4 hS (fun _ h => h.one (Has.s (Has.s (Has.s (Has.s Has.z))))) rfl (by kernel_rfl) (by kernel_rfl) (by kernel_rfl) (fun _ _ _ _ h => h) (by rfl) (by rfl) ?_; apply Exists.intro; apply And.intro; (intro w; go_simp; try with_reducible rfl); go_frame)
      revert hS
      apply regJoin (fun (b1 _b2 _b3 : Nat) (tz _v2 _v3 : Value) w' => Sat W w' (Cs b1 3 [.int .i64 more] :: Iz tz fl :: Irn va (qlist G (.mk qo qn qu qk) fl) :: IsG p G :: IsR q2 G :: Cs pn 3 [.int .i64 m] :: [Cs px 49 [.int .i64 qo, .int .i64 qn, qu]])) ([Cs px 49 [.int .i64 qo, .int .i64 qn, qu]])
      case h1 =>
        intro hJ hS
        refine regM2 3 5 rfl rfl (by kernel_rfl) (by rfl) (by rfl) (by rfl) (by rfl) ?_ ?_
        · intro K hK; (refine Go.Sep.cl 27 _ _ (by rfl) (by rfl) (by kernel_rfl) (intsZ_any hS (HF.out _ _ hS) (by have := HFL.out; omega)) ?_; rintro e w1 ⟨tz, rfl, hS1⟩; clear hS; have hS := hS1; clear hS1; refine ⟨_, rfl, ?_⟩); refine hK _ _ _ (hS.upTo (fun _ h => by first | exact h.one Has.z | exact h.one (Has.s Has.z) | exact h.one (Has.s (Has.s Has.z)) | exact h.one (Has.s (Has.s (Has.s Has.z))) | exact h.one (Has.s (Has.s (Has.s (Has.s Has.z)))) | exact h.one (Has.s (Has.s (Has.s (Has.s (Has.s Has.z))))) | exact h.one (Has.s (Has.s (Has.s (Has.s (Has.s (Has.s Has.z)))))) | exact h.one (Has.s (Has.s (Has.s (Has.s (Has.s (Has.s (Has.s Has.z))))))))) (fun _ h => h) ?_; clear hK K; go_frame
          (refine regA 5 rfl (by kernel_rfl) (by rfl) (by rfl) false (by kernel_rfl) (fun K hK => ?_); (refine bsF hS _ _ _ (by rfl) (elOf (by rfl)) [.int .i64 more] (by rfl) (by rfl) (by decide) (by decide) (by simp [Value.cells]) ?_; intro b1 w1 hS1; clear hS; have hS := hS1; clear hS1; rw [sca1 rfl] at hS); refine hK _ _ _ (hS.upTo (fun _ h => by first | exact h.one Has.z | exact h.one (Has.s Has.z) | exact h.one (Has.s (Has.s Has.z)) | exact h.one (Has.s (Has.s (Has.s Has.z))) | exact h.one (Has.s (Has.s (Has.s (Has.s Has.z)))) | exact h.one (Has.s (Has.s (Has.s (Has.s (Has.s Has.z))))) | exact h.one (Has.s (Has.s (Has.s (Has.s (Has.s (Has.s Has.z)))))) | exact h.one (Has.s (Has.s (Has.s (Has.s (Has.s (Has.s (Has.s Has.z))))))))) (fun _ _ h => h) ?_; clear hK K; go_frame)
          refine (fun (g : Nat → Nat → Value → Value → _) => g 0 0 (.slice none 0 0) (.slice none 0 0)) ?_; intro x2 x3 y2 y3; first | exact hJ b1 x2 x3 tz y2 y3 _ hS | exact hJ b1 x2 x3 tz y2 y3 _ hS.pull1
        · intro K hK; (refine bsF hS _ _ _ (by rfl) (elOf (by rfl)) [.int .i64 more] (by rfl) (by rfl) (by decide) (by decide) (by simp [Value.cells]) ?_; intro b1 w1 hS1; clear hS; have hS := hS1; clear hS1; rw [sca1 rfl] at hS); refine hK _ _ _ (hS.upTo (fun _ h => by first | exact h.one Has.z | exact h.one (Has.s Has.z) | exact h.one (Has.s (Has.s Has.z)) | exact h.one (Has.s (Has.s (Has.s Has.z))) | exact h.one (Has.s (Has.s (Has.s (Has.s Has.z)))) | exact h.one (Has.s (Has.s (Has.s (Has.s (Has.s Has.z))))) | exact h.one (Has.s (Has.s (Has.s (Has.s (Has.s (Has.s Has.z)))))) | exact h.one (Has.s (Has.s (Has.s (Has.s (Has.s (Has.s (Has.s Has.z))))))))) (fun _ h => h) ?_; clear hK K; go_frame
          (refine regA 3 rfl (by kernel_rfl) (by rfl) (by rfl) false (by kernel_rfl) (fun K hK => ?_); (refine Go.Sep.cl 27 _ _ (by rfl) (by rfl) (by kernel_rfl) (intsZ_any hS (HF.out _ _ hS) (by have := HFL.out; omega)) ?_; rintro e w1 ⟨tz, rfl, hS1⟩; clear hS; have hS := hS1; clear hS1; refine ⟨_, rfl, ?_⟩); refine hK _ _ _ (hS.upTo (fun _ h => by first | exact h.one Has.z | exact h.one (Has.s Has.z) | exact h.one (Has.s (Has.s Has.z)) | exact h.one (Has.s (Has.s (Has.s Has.z))) | exact h.one (Has.s (Has.s (Has.s (Has.s Has.z)))) | exact h.one (Has.s (Has.s (Has.s (Has.s (Has.s Has.z))))) | exact h.one (Has.s (Has.s (Has.s (Has.s (Has.s (Has.s Has.z)))))) | exact h.one (Has.s (Has.s (Has.s (Has.s (Has.s (Has.s (Has.s Has.z))))))))) (fun _ _ h => h) ?_; clear hK K; go_frame)
          refine (fun (g : Nat → Nat → Value → Value → _) => g 0 0 (.slice none 0 0) (.slice none 0 0)) ?_; intro x2 x3 y2 y3; first | exact hJ b1 x2 x3 tz y2 y3 _ hS | exact hJ b1 x2 x3 tz y2 y3 _ hS.pull1
      intro b1 _ _ tz _ _ w1 hS
      (refine regA 6 rfl (by kernel_rfl) (by rfl) (by rfl) false (by kernel_rfl) (fun K hK => ?_); (first
                    | (refine apZI (l := fl) (m := [more]) hS _ _ _ _ (by rfl) (by rfl) (by rfl) (elOf (by rfl)) (by rfl) (by rfl) (by rfl) (inOf (by rfl)) (Has.s Has.z) (by exact hS.csRd0 (n := 1) (sz := 1) Has.z (by decide) rfl) (by have := HFL.out; simp; omega) ?_; intro v3 w1 hS1; clear hS; have hS := hS1; clear hS1; dsimp only [List.set_cons_zero, List.set_cons_succ] at hS)
                    | (refine Go.Sep.cl 20 _ _ (by rfl) (by rfl) (by kernel_rfl) (HLI.out _ _ _ G (fl ++ [more]) _ (hS.re [3, 1]) HG.out HA.out (fun w L' h => Sat.izRd h (has_app _ _ _))) ?_; rintro e w1 ⟨vb, rfl, hS1⟩; clear hS; have hS := hS1; clear hS1; refine ⟨_, rfl, ?_⟩)); refine hK _ _ _ (hS.upTo (fun _ h => by first | exact h.one Has.z | exact h.one (Has.s Has.z) | exact h.one (Has.s (Has.s Has.z)) | exact h.one (Has.s (Has.s (Has.s Has.z))) | exact h.one (Has.s (Has.s (Has.s (Has.s Has.z)))) | exact h.one (Has.s (Has.s (Has.s (Has.s (Has.s Has.z))))) | exact h.one (Has.s (Has.s (Has.s (Has.s (Has.s (Has.s Has.z)))))) | exact h.one (Has.s (Has.s (Has.s (Has.s (Has.s (Has.s (Has.s Has.z))))))))) (fun _ _ h => h) ?_; clear hK K; go_frame)
      (refine regA 7 rfl (by kernel_rfl) (by rfl) (by rfl) true (by kernel_rfl) (fun K hK => ?_); (first
                    | (refine apZI (l := fl) (m := [more]) hS _ _ _ _ (by rfl) (by rfl) (by rfl) (elOf (by rfl)) (by rfl) (by rfl) (by rfl) (inOf (by rfl)) (Has.s Has.z) (by exact hS.csRd0 (n := 1) (sz := 1) Has.z (by decide) rfl) (by have := HFL.out; simp; omega) ?_; intro v3 w1 hS1; clear hS; have hS := hS1; clear hS1; dsimp only [List.set_cons_zero, List.set_cons_succ] at hS)
                    | (refine Go.Sep.cl 20 _ _ (by rfl) (by rfl) (by kernel_rfl) (HLI.out _ _ _ G (fl ++ [more]) _ (hS.re [3, 1]) HG.out HA.out (fun w L' h => Sat.izRd h (has_app _ _ _))) ?_; rintro e w1 ⟨vb, rfl, hS1⟩; clear hS; have hS := hS1; clear hS1; refine ⟨_, rfl, ?_⟩)); refine hK _ _ _ hS (by first | (intro h; cases h; done) | exact fun _ _ h => h | exact fun _ _ h => h.drop | exact fun _ _ h => h.drop.drop | exact fun _ _ h => h.drop.pull1 | exact fun _ _ h => h.take2 | exact fun _ _ h => h.one Has.z | exact fun _ _ h => h.one (Has.s Has.z) | exact fun _ _ h => h.one (Has.s (Has.s Has.z))) ?_; clear hK K; go_frame)
      (refine regP 8 hS (fun _ h => h) rfl (by kernel_rfl) (by kernel_rfl) (by kernel_rfl) (fun _ _ _ _ h => h) (by rfl) (by rfl) ?_; apply Exists.intro; apply And.intro; (intro w; go_simp; try with_reducible rfl); go_frame)
      refine regDone (by kernel_rfl) ?_
      go_wp2
      replace hS : Sat W _ (Irn vb (qlist G (.mk qo qn qu qk) (fl ++ [more])) :: IsG p G :: Iz v3 (fl ++ [more]) :: Cs b1 _ _ :: Irn va (qlist G (.mk qo qn qu qk) fl) :: IsR q2 G :: Cs pn _ _ :: Cs px _ _ :: []) := hS
      have HM := Lib.hid (HMO.out G)
      have hbl : (qlist G (.mk qo qn qu qk) (fl ++ [more])).length ≤ 80 := Nat.le_trans (qlist_len _ _ _) hn80
      have hal : (qlist G (.mk qo qn qu qk) fl).length ≤ 80 := Nat.le_trans (qlist_len _ _ _) hn80
      obtain ⟨A, hA⟩ : ∃ A, qlist G (.mk qo qn qu qk) fl = A := ⟨_, rfl⟩
      obtain ⟨B, hB⟩ : ∃ B, qlist G (.mk qo qn qu qk) (fl ++ [more]) = B := ⟨_, rfl⟩
      rw [hA] at hS HM hal
      rw [hB] at hS HM hbl
      obtain ⟨M, hS⟩ : ∃ M, Sat W _ (Ir vb B :: Ir va A :: M) := ⟨_, (irnOpen (((irnOpen hS).2).re [4])).2.pull1⟩
      clear hA hB HGR HTY HLI HMO HF HG HA hn80
      obtain ⟨ab, cb, rfl, _⟩ := hS.irShape (k := 0) rfl
      obtain ⟨aa, ca, rfl, _⟩ := hS.irShape (k := 1) rfl
      have H0 := Lib.hid hS
      go_loopw [15, 16] (fun v15 v16 wz => ∃ k i : Nat, v15 = .int .i64 k ∧ v16 = .int .i64 i ∧ i ≤ B.length ∧ k ≤ A.length ∧ (B.take i).filter (fun x => decide (x ∈ A)) = A.take k ∧ Sat W wz (Ir (.slice ab B.length cb) B :: Ir (.slice aa A.length ca) A :: M)) (fun _ v16 _ => B.length - (intOf v16).toNat)
      case atStart => exact ⟨0, 0, rfl, rfl, by omega, by omega, rfl, H0.out⟩
      case round =>
        clear hS H0
        obtain ⟨k, i, rfl, rfl, hi, hk, hfl, hS⟩ := hrel
        have HFI := Lib.hid hfl
        have HKL := Lib.hid hk
        clear hfl
        by_cases hlt : i < B.length
        · have k1 : (i : Int) < (B.length : Int) := by omega
          have HLT := Lib.hid hlt
          obtain ⟨bb, ob, rfl⟩ := Sat.irAddr (k := 0) hS rfl rfl (by omega)
          obtain ⟨x, hx⟩ : ∃ x, B[i]? = some x := ⟨_, List.getElem?_eq_getElem hlt⟩
          have HX := Lib.hid (iv_at hx)
          have hst : (k < A.length ∧ A[k]? = some x ∧ (B.take (i + 1)).filter (fun x => decide (x ∈ A)) = A.take (k + 1)) ∨ (¬ k < A.length ∧ (B.take (i + 1)).filter (fun x => decide (x ∈ A)) = A.take k) ∨ (∃ y, k < A.length ∧ A[k]? = some y ∧ y ≠ x ∧ (B.take (i + 1)).filter (fun x => decide (x ∈ A)) = A.take k) := by
            by_cases hm : x ∈ A
            · obtain ⟨h1, h2, h3⟩ := HM.out.hit hk HFI.out hx hm
              exact .inl ⟨h1, h2, h3⟩
            · have h3 := MoreOk.miss HFI.out hx hm
              by_cases hkl : k < A.length
              · exact .inr (.inr ⟨A[k], hkl, List.getElem?_eq_getElem hkl, (fun e => hm (e ▸ List.getElem_mem hkl)), h3⟩)
              · exact .inr (.inl ⟨hkl, h3⟩)
          have hup : i = 0 ∨ ∃ j y, i = j + 1 ∧ B[j]? = some y ∧ y < x := by
            cases i with
            | zero => exact .inl rfl
            | succ j =>
              obtain ⟨y, hy⟩ : ∃ y, B[j]? = some y := ⟨_, List.getElem?_eq_getElem (by omega)⟩
              exact .inr ⟨j, y, rfl, hy, HM.out.up hx hy⟩
          clear hx hlt hi hk
          rcases hup with rfl | ⟨j, y0, hij, hy0, hyx⟩
          · rcases hst with ⟨hkl, hy, hn⟩ | ⟨hkl, hn⟩ | ⟨y, hkl, hy, hne, hn⟩
            · have q1 : (k : Int) < (A.length : Int) := by omega
              obtain ⟨ba, oa, rfl⟩ := Sat.irAddr (k := 1) hS rfl rfl (by omega)
              have HY := Lib.hid (iv_at hy)
              have HN := Lib.hid hn
              have HK2 := Lib.hid (show k + 1 ≤ A.length by omega)
              clear hkl hy hn
              go_wp2
              refine regStart [] hS (by kernel_rfl) rfl ?_
              intro w1 hS1
              clear hS; have hS := hS1; clear hS1
              (refine regP 0 hS (fun _ h => h) rfl (by kernel_rfl) (by kernel_rfl) (by kernel_rfl) (fun _ _ _ _ h => h) (by rfl) (by rfl) ?_; apply Exists.intro; apply And.intro; (intro w; go_simp; try with_reducible rfl); go_frame)
              (refine regP 1 hS (fun _ h => h) rfl (by kernel_rfl) (by kernel_rfl) (by kernel_rfl) (fun _ _ _ _ h => h) (by rfl) (by rfl) ?_; apply Exists.intro; apply And.intro; (intro w; go_simp; try with_reducible rfl); go_frame)
              (refine regP 2 hS (fun _ h => h) rfl (by kernel_rfl) (by kernel_rfl) (by kernel_rfl) (fun _ _ _ _ h => h) (by rfl) (by rfl) ?_; apply Exists.intro; apply And.intro; (intro w; go_simp; try with_reducible rfl); go_frame)
              (first | (refine regP 3 hS (fun _ h => h) rfl (by kernel_rfl) (by kernel_rfl) (by kernel_rfl) (fun _ _ _ _ h => h) (by rfl) (by rfl) ?_; apply Exists.intro; apply And.intro; (intro w; go_simp; try with_reducible rfl); go_frame) | (refine regN 3 hS (fun _ h => h) rfl (by kernel_rfl) (by kernel_rfl) (by kernel_rfl) (fun _ _ _ h => h) (by rfl) (by rfl) ?_; go_frame))
              (first | (refine regP 4 hS (fun _ h => h) rfl (by kernel_rfl) (by kernel_rfl) (by kernel_rfl) (fun _ _ _ _ h => h) (by rfl) (by rfl) ?_; apply Exists.intro; apply And.intro; (intro w; go_simp; try with_reducible rfl); go_frame) | (refine regN 4 hS (fun _ h => h) rfl (by kernel_rfl) (by kernel_rfl) (by kernel_rfl) (fun _ _ _ h => h) (by rfl) (by rfl) ?_; go_frame))
              (first | (refine regP 5 hS (fun _ h => h) rfl (by kernel_rfl) (by kernel_rfl) (by kernel_rfl) (fun _ _ _ _ h => h) (by rfl) (by rfl) ?_; apply Exists.intro; apply And.intro; (intro w; go_simp; try with_reducible rfl); go_frame) | (refine regN 5 hS (fun _ h => h) rfl (by kernel_rfl) (by kernel_rfl) (by kernel_rfl) (fun _ _ _ h => h) (by rfl) (by rfl) ?_; go_frame))
              (first | (refine regR 6 hS (fun _ h => h) rfl (by kernel_rfl) (by kernel_rfl) (by kernel_rfl) (by kernel_rfl) (by kernel_rfl) (fun _ _ _ _ h => h) (by rfl) (by rfl) ?_; ((first
                                            | refine ⟨.int .i64 (x : Int), yLdSl _ _ (by rfl) _ _ (by rfl) (agOf (by rfl)) Has.z (0) (by omega) HX.out, ?_⟩
                                            | refine ⟨.int .i64 (y0 : Int), yLdSl _ _ (by rfl) _ _ (by rfl) (agOf (by rfl)) Has.z j (by omega) HY0.out, ?_⟩
                                            | refine ⟨_, yLdSl _ _ (by rfl) _ _ (by rfl) (agOf (by rfl)) (Has.s Has.z) k (by omega) HY.out, ?_⟩)); go_frame) | (refine regN 6 hS (fun _ h => h) rfl (by kernel_rfl) (by kernel_rfl) (by kernel_rfl) (fun _ _ _ h => h) (by rfl) (by rfl) ?_; go_frame))
              (first | (refine regP 7 hS (fun _ h => h) rfl (by kernel_rfl) (by kernel_rfl) (by kernel_rfl) (fun _ _ _ _ h => h) (by rfl) (by rfl) ?_; apply Exists.intro; apply And.intro; (intro w; go_simp; try with_reducible rfl); go_frame) | (refine regN 7 hS (fun _ h => h) rfl (by kernel_rfl) (by kernel_rfl) (by kernel_rfl) (fun _ _ _ h => h) (by rfl) (by rfl) ?_; go_frame))
              (first | (refine regP 8 hS (fun _ h => h) rfl (by kernel_rfl) (by kernel_rfl) (by kernel_rfl) (fun _ _ _ _ h => h) (by rfl) (by rfl) ?_; apply Exists.intro; apply And.intro; (intro w; go_simp; try with_reducible rfl); go_frame) | (refine regN 8 hS (fun _ h => h) rfl (by kernel_rfl) (by kernel_rfl) (by kernel_rfl) (fun _ _ _ h => h) (by rfl) (by rfl) ?_; go_frame))
              (first | (refine regP 9 hS (fun _ h => h) rfl (by kernel_rfl) (by kernel_rfl) (by kernel_rfl) (fun _ _ _ _ h => h) (by rfl) (by rfl) ?_; apply Exists.intro; apply And.intro; (intro w; go_simp; try with_reducible rfl); go_frame; try simp (disch := omega) only [IntWalk.i64_in]) | (refine regN 9 hS (fun _ h => h) rfl (by kernel_rfl) (by kernel_rfl) (by kernel_rfl) (fun _ _ _ h => h) (by rfl) (by rfl) ?_; go_frame))
              (first | (refine regP 10 hS (fun _ h => h) rfl (by kernel_rfl) (by kernel_rfl) (by kernel_rfl) (fun _ _ _ _ h => h) (by rfl) (by rfl) ?_; apply Exists.intro; apply And.intro; (intro w; go_simp; try with_reducible rfl); go_frame) | (refine regN 10 hS (fun _ h => h) rfl (by kernel_rfl) (by kernel_rfl) (by kernel_rfl) (fun _ _ _ h => h) (by rfl) (by rfl) ?_; go_frame))
              (first | (refine regR 11 hS (fun _ h => h) rfl (by kernel_rfl) (by kernel_rfl) (by kernel_rfl) (by kernel_rfl) (by kernel_rfl) (fun _ _ _ _ h => h) (by rfl) (by rfl) ?_; ((first
                                            | refine ⟨.int .i64 (x : Int), yLdSl _ _ (by rfl) _ _ (by rfl) (agOf (by rfl)) Has.z (0) (by omega) HX.out, ?_⟩
                                            | refine ⟨.int .i64 (y0 : Int), yLdSl _ _ (by rfl) _ _ (by rfl) (agOf (by rfl)) Has.z j (by omega) HY0.out, ?_⟩
                                            | refine ⟨_, yLdSl _ _ (by rfl) _ _ (by rfl) (agOf (by rfl)) (Has.s Has.z) k (by omega) HY.out, ?_⟩)); go_frame) | (refine regN 11 hS (fun _ h => h) rfl (by kernel_rfl) (by kernel_rfl) (by kernel_rfl) (fun _ _ _ h => h) (by rfl) (by rfl) ?_; go_frame))
              (first | (refine regP 12 hS (fun _ h => h) rfl (by kernel_rfl) (by kernel_rfl) (by kernel_rfl) (fun _ _ _ _ h => h) (by rfl) (by rfl) ?_; apply Exists.intro; apply And.intro; (intro w; go_simp; try with_reducible rfl); go_frame) | (refine regN 12 hS (fun _ h => h) rfl (by kernel_rfl) (by kernel_rfl) (by kernel_rfl) (fun _ _ _ h => h) (by rfl) (by rfl) ?_; go_frame))
              (refine regP 13 hS (fun _ h => h) rfl (by kernel_rfl) (by kernel_rfl) (by kernel_rfl) (fun _ _ _ _ h => h) (by rfl) (by rfl) ?_; apply Exists.intro; apply And.intro; (intro w; go_simp; try with_reducible rfl); go_frame)
              refine regDone (by kernel_rfl) ?_
              go_wp2
              refine regStart [] hS (by kernel_rfl) rfl ?_
              intro w1 hS1
              clear hS; have hS := hS1; clear hS1
              (refine regP 0 hS (fun _ h => h) rfl (by kernel_rfl) (by kernel_rfl) (by kernel_rfl) (fun _ _ _ _ h => h) (by rfl) (by rfl) ?_; apply Exists.intro; apply And.intro; (intro w; go_simp; try with_reducible rfl); go_frame)
              (refine regP 1 hS (fun _ h => h) rfl (by kernel_rfl) (by kernel_rfl) (by kernel_rfl) (fun _ _ _ _ h => h) (by rfl) (by rfl) ?_; apply Exists.intro; apply And.intro; (intro w; go_simp; try with_reducible rfl); go_frame)
              (refine regP 2 hS (fun _ h => h) rfl (by kernel_rfl) (by kernel_rfl) (by kernel_rfl) (fun _ _ _ _ h => h) (by rfl) (by rfl) ?_; apply Exists.intro; apply And.intro; (intro w; go_simp; try with_reducible rfl); go_frame)
              (refine regP 3 hS (fun _ h => h) rfl (by kernel_rfl) (by kernel_rfl) (by kernel_rfl) (fun _ _ _ _ h => h) (by rfl) (by rfl) ?_; apply Exists.intro; apply And.intro; (intro w; go_simp; try with_reducible rfl); go_frame)
              (refine regP 4 hS (fun _ h => h) rfl (by kernel_rfl) (by kernel_rfl) (by kernel_rfl) (fun _ _ _ _ h => h) (by rfl) (by rfl) ?_; apply Exists.intro; apply And.intro; (intro w; go_simp; try with_reducible rfl); go_frame)
              (first | (refine regP 5 hS (fun _ h => h) rfl (by kernel_rfl) (by kernel_rfl) (by kernel_rfl) (fun _ _ _ _ h => h) (by rfl) (by rfl) ?_; apply Exists.intro; apply And.intro; (intro w; go_simp; try with_reducible rfl); go_frame) | (refine regN 5 hS (fun _ h => h) rfl (by kernel_rfl) (by kernel_rfl) (by kernel_rfl) (fun _ _ _ h => h) (by rfl) (by rfl) ?_; go_frame))
              (first | (refine regP 6 hS (fun _ h => h) rfl (by kernel_rfl) (by kernel_rfl) (by kernel_rfl) (fun _ _ _ _ h => h) (by rfl) (by rfl) ?_; apply Exists.intro; apply And.intro; (intro w; go_simp; try with_reducible rfl); go_frame) | (refine regN 6 hS (fun _ h => h) rfl (by kernel_rfl) (by kernel_rfl) (by kernel_rfl) (fun _ _ _ h => h) (by rfl) (by rfl) ?_; go_frame))
              (first | (refine regP 7 hS (fun _ h => h) rfl (by kernel_rfl) (by kernel_rfl) (by kernel_rfl) (fun _ _ _ _ h => h) (by rfl) (by rfl) ?_; apply Exists.intro; apply And.intro; (intro w; go_simp; try with_reducible rfl); go_frame) | (refine regN 7 hS (fun _ h => h) rfl (by kernel_rfl) (by kernel_rfl) (by kernel_rfl) (fun _ _ _ h => h) (by rfl) (by rfl) ?_; go_frame))
              (first | (refine regR 8 hS (fun _ h => h) rfl (by kernel_rfl) (by kernel_rfl) (by kernel_rfl) (by kernel_rfl) (by kernel_rfl) (fun _ _ _ _ h => h) (by rfl) (by rfl) ?_; ((first
                                            | refine ⟨.int .i64 (x : Int), yLdSl _ _ (by rfl) _ _ (by rfl) (agOf (by rfl)) Has.z (0) (by omega) HX.out, ?_⟩
                                            | refine ⟨.int .i64 (y0 : Int), yLdSl _ _ (by rfl) _ _ (by rfl) (agOf (by rfl)) Has.z j (by omega) HY0.out, ?_⟩
                                            | refine ⟨_, yLdSl _ _ (by rfl) _ _ (by rfl) (agOf (by rfl)) (Has.s Has.z) k (by omega) HY.out, ?_⟩)); go_frame) | (refine regN 8 hS (fun _ h => h) rfl (by kernel_rfl) (by kernel_rfl) (by kernel_rfl) (fun _ _ _ h => h) (by rfl) (by rfl) ?_; go_frame))
              (first | (refine regP 9 hS (fun _ h => h) rfl (by kernel_rfl) (by kernel_rfl) (by kernel_rfl) (fun _ _ _ _ h => h) (by rfl) (by rfl) ?_; apply Exists.intro; apply And.intro; (intro w; go_simp; try with_reducible rfl); go_frame) | (refine regN 9 hS (fun _ h => h) rfl (by kernel_rfl) (by kernel_rfl) (by kernel_rfl) (fun _ _ _ h => h) (by rfl) (by rfl) ?_; go_frame))
              (first | (refine regP 10 hS (fun _ h => h) rfl (by kernel_rfl) (by kernel_rfl) (by kernel_rfl) (fun _ _ _ _ h => h) (by rfl) (by rfl) ?_; apply Exists.intro; apply And.intro; (intro w; go_simp; try with_reducible rfl); go_frame) | (refine regN 10 hS (fun _ h => h) rfl (by kernel_rfl) (by kernel_rfl) (by kernel_rfl) (fun _ _ _ h => h) (by rfl) (by rfl) ?_; go_frame))
              (first | (refine regP 11 hS (fun _ h => h) rfl (by kernel_rfl) (by kernel_rfl) (by kernel_rfl) (fun _ _ _ _ h => h) (by rfl) (by rfl) ?_; apply Exists.intro; apply And.intro; (intro w; go_simp; try with_reducible rfl); go_frame) | (refine regN 11 hS (fun _ h => h) rfl (by kernel_rfl) (by kernel_rfl) (by kernel_rfl) (fun _ _ _ h => h) (by rfl) (by rfl) ?_; go_frame))
              (first | (refine regR 12 hS (fun _ h => h) rfl (by kernel_rfl) (by kernel_rfl) (by kernel_rfl) (by kernel_rfl) (by kernel_rfl) (fun _ _ _ _ h => h) (by rfl) (by rfl) ?_; ((first
                                            | refine ⟨.int .i64 (x : Int), yLdSl _ _ (by rfl) _ _ (by rfl) (agOf (by rfl)) Has.z (0) (by omega) HX.out, ?_⟩
                                            | refine ⟨.int .i64 (y0 : Int), yLdSl _ _ (by rfl) _ _ (by rfl) (agOf (by rfl)) Has.z j (by omega) HY0.out, ?_⟩
                                            | refine ⟨_, yLdSl _ _ (by rfl) _ _ (by rfl) (agOf (by rfl)) (Has.s Has.z) k (by omega) HY.out, ?_⟩)); go_frame) | (refine regN 12 hS (fun _ h => h) rfl (by kernel_rfl) (by kernel_rfl) (by kernel_rfl) (fun _ _ _ h => h) (by rfl) (by rfl) ?_; go_frame))
              (first | (refine regP 13 hS (fun _ h => h) rfl (by kernel_rfl) (by kernel_rfl) (by kernel_rfl) (fun _ _ _ _ h => h) (by rfl) (by rfl) ?_; apply Exists.intro; apply And.intro; (intro w; go_simp; try with_reducible rfl); go_frame) | (refine regN 13 hS (fun _ h => h) rfl (by kernel_rfl) (by kernel_rfl) (by kernel_rfl) (fun _ _ _ h => h) (by rfl) (by rfl) ?_; go_frame))
              (refine regP 14 hS (fun _ h => h) rfl (by kernel_rfl) (by kernel_rfl) (by kernel_rfl) (fun _ _ _ _ h => h) (by rfl) (by rfl) ?_; apply Exists.intro; apply And.intro; (intro w; go_simp; try with_reducible rfl); go_frame)
              refine regDone (by kernel_rfl) ?_
              go_wp2
              exact ⟨⟨k + 1, (0) + 1, by go_num, by go_num, HLT.out, HK2.out, HN.out, hS⟩, by simp [intOf]; have := HLT.out; omega⟩
            · have q1 : ¬ (k : Int) < (A.length : Int) := by omega
              have q2 : decide ((k : Int) < (A.length : Int)) = false := decide_eq_false q1
              have q3 : decide (k < A.length) = false := decide_eq_false hkl
              have HN := Lib.hid hn
              clear hkl hn
              go_wp2
              refine regStart [] hS (by kernel_rfl) rfl ?_
              intro w1 hS1
              clear hS; have hS := hS1; clear hS1
              (refine regP 0 hS (fun _ h => h) rfl (by kernel_rfl) (by kernel_rfl) (by kernel_rfl) (fun _ _ _ _ h => h) (by rfl) (by rfl) ?_; apply Exists.intro; apply And.intro; (intro w; go_simp; try with_reducible rfl); go_frame)
              (refine regP 1 hS (fun _ h => h) rfl (by kernel_rfl) (by kernel_rfl) (by kernel_rfl) (fun _ _ _ _ h => h) (by rfl) (by rfl) ?_; apply Exists.intro; apply And.intro; (intro w; go_simp; try with_reducible rfl); go_frame)
              (refine regP 2 hS (fun _ h => h) rfl (by kernel_rfl) (by kernel_rfl) (by kernel_rfl) (fun _ _ _ _ h => h) (by rfl) (by rfl) ?_; apply Exists.intro; apply And.intro; (intro w; go_simp; try with_reducible rfl); go_frame)
              (first | (refine regP 3 hS (fun _ h => h) rfl (by kernel_rfl) (by kernel_rfl) (by kernel_rfl) (fun _ _ _ _ h => h) (by rfl) (by rfl) ?_; apply Exists.intro; apply And.intro; (intro w; go_simp; try with_reducible rfl); go_frame) | (refine regN 3 hS (fun _ h => h) rfl (by kernel_rfl) (by kernel_rfl) (by kernel_rfl) (fun _ _ _ h => h) (by rfl) (by rfl) ?_; go_frame))
              (first | (refine regP 4 hS (fun _ h => h) rfl (by kernel_rfl) (by kernel_rfl) (by kernel_rfl) (fun _ _ _ _ h => h) (by rfl) (by rfl) ?_; apply Exists.intro; apply And.intro; (intro w; go_simp; try with_reducible rfl); go_frame) | (refine regN 4 hS (fun _ h => h) rfl (by kernel_rfl) (by kernel_rfl) (by kernel_rfl) (fun _ _ _ h => h) (by rfl) (by rfl) ?_; go_frame))
              (first | (refine regP 5 hS (fun _ h => h) rfl (by kernel_rfl) (by kernel_rfl) (by kernel_rfl) (fun _ _ _ _ h => h) (by rfl) (by rfl) ?_; apply Exists.intro; apply And.intro; (intro w; go_simp; try with_reducible rfl); go_frame) | (refine regN 5 hS (fun _ h => h) rfl (by kernel_rfl) (by kernel_rfl) (by kernel_rfl) (fun _ _ _ h => h) (by rfl) (by rfl) ?_; go_frame))
              (first | (refine regR 6 hS (fun _ h => h) rfl (by kernel_rfl) (by kernel_rfl) (by kernel_rfl) (by kernel_rfl) (by kernel_rfl) (fun _ _ _ _ h => h) (by rfl) (by rfl) ?_; ((first
                                            | refine ⟨.int .i64 (x : Int), yLdSl _ _ (by rfl) _ _ (by rfl) (agOf (by rfl)) Has.z (0) (by omega) HX.out, ?_⟩
                                            | refine ⟨.int .i64 (y0 : Int), yLdSl _ _ (by rfl) _ _ (by rfl) (agOf (by rfl)) Has.z j (by omega) HY0.out, ?_⟩
                                            | refine ⟨_, yLdSl _ _ (by rfl) _ _ (by rfl) (agOf (by rfl)) (Has.s Has.z) k (by omega) HY.out, ?_⟩)); go_frame) | (refine regN 6 hS (fun _ h => h) rfl (by kernel_rfl) (by kernel_rfl) (by kernel_rfl) (fun _ _ _ h => h) (by rfl) (by rfl) ?_; go_frame))
              (first | (refine regP 7 hS (fun _ h => h) rfl (by kernel_rfl) (by kernel_rfl) (by kernel_rfl) (fun _ _ _ _ h => h) (by rfl) (by rfl) ?_; apply Exists.intro; apply And.intro; (intro w; go_simp; try with_reducible rfl); go_frame) | (refine regN 7 hS (fun _ h => h) rfl (by kernel_rfl) (by kernel_rfl) (by kernel_rfl) (fun _ _ _ h => h) (by rfl) (by rfl) ?_; go_frame))
              (first | (refine regP 8 hS (fun _ h => h) rfl (by kernel_rfl) (by kernel_rfl) (by kernel_rfl) (fun _ _ _ _ h => h) (by rfl) (by rfl) ?_; apply Exists.intro; apply And.intro; (intro w; go_simp; try with_reducible rfl); go_frame) | (refine regN 8 hS (fun _ h => h) rfl (by kernel_rfl) (by kernel_rfl) (by kernel_rfl) (fun _ _ _ h => h) (by rfl) (by rfl) ?_; go_frame))
              (first | (refine regP 9 hS (fun _ h => h) rfl (by kernel_rfl) (by kernel_rfl) (by kernel_rfl) (fun _ _ _ _ h => h) (by rfl) (by rfl) ?_; apply Exists.intro; apply And.intro; (intro w; go_simp; try with_reducible rfl); go_frame; try simp (disch := omega) only [IntWalk.i64_in]) | (refine regN 9 hS (fun _ h => h) rfl (by kernel_rfl) (by kernel_rfl) (by kernel_rfl) (fun _ _ _ h => h) (by rfl) (by rfl) ?_; go_frame))
              (first | (refine regP 10 hS (fun _ h => h) rfl (by kernel_rfl) (by kernel_rfl) (by kernel_rfl) (fun _ _ _ _ h => h) (by rfl) (by rfl) ?_; apply Exists.intro; apply And.intro; (intro w; go_simp; try with_reducible rfl); go_frame) | (refine regN 10 hS (fun _ h => h) rfl (by kernel_rfl) (by kernel_rfl) (by kernel_rfl) (fun _ _ _ h => h) (by rfl) (by rfl) ?_; go_frame))
              (first | (refine regR 11 hS (fun _ h => h) rfl (by kernel_rfl) (by kernel_rfl) (by kernel_rfl) (by kernel_rfl) (by kernel_rfl) (fun _ _ _ _ h => h) (by rfl) (by rfl) ?_; ((first
                                            | refine ⟨.int .i64 (x : Int), yLdSl _ _ (by rfl) _ _ (by rfl) (agOf (by rfl)) Has.z (0) (by omega) HX.out, ?_⟩
                                            | refine ⟨.int .i64 (y0 : Int), yLdSl _ _ (by rfl) _ _ (by rfl) (agOf (by rfl)) Has.z j (by omega) HY0.out, ?_⟩
                                            | refine ⟨_, yLdSl _ _ (by rfl) _ _ (by rfl) (agOf (by rfl)) (Has.s Has.z) k (by omega) HY.out, ?_⟩)); go_frame) | (refine regN 11 hS (fun _ h => h) rfl (by kernel_rfl) (by kernel_rfl) (by kernel_rfl) (fun _ _ _ h => h) (by rfl) (by rfl) ?_; go_frame))
              (first | (refine regP 12 hS (fun _ h => h) rfl (by kernel_rfl) (by kernel_rfl) (by kernel_rfl) (fun _ _ _ _ h => h) (by rfl) (by rfl) ?_; apply Exists.intro; apply And.intro; (intro w; go_simp; try with_reducible rfl); go_frame) | (refine regN 12 hS (fun _ h => h) rfl (by kernel_rfl) (by kernel_rfl) (by kernel_rfl) (fun _ _ _ h => h) (by rfl) (by rfl) ?_; go_frame))
              (refine regP 13 hS (fun _ h => h) rfl (by kernel_rfl) (by kernel_rfl) (by kernel_rfl) (fun _ _ _ _ h => h) (by rfl) (by rfl) ?_; apply Exists.intro; apply And.intro; (intro w; go_simp; try with_reducible rfl); go_frame)
              refine regDone (by kernel_rfl) ?_
              go_wp2
              refine regStart [] hS (by kernel_rfl) rfl ?_
              intro w1 hS1
              clear hS; have hS := hS1; clear hS1
              (refine regP 0 hS (fun _ h => h) rfl (by kernel_rfl) (by kernel_rfl) (by kernel_rfl) (fun _ _ _ _ h => h) (by rfl) (by rfl) ?_; apply Exists.intro; apply And.intro; (intro w; go_simp; try with_reducible rfl); go_frame)
              (refine regP 1 hS (fun _ h => h) rfl (by kernel_rfl) (by kernel_rfl) (by kernel_rfl) (fun _ _ _ _ h => h) (by rfl) (by rfl) ?_; apply Exists.intro; apply And.intro; (intro w; go_simp; try with_reducible rfl); go_frame)
              (refine regP 2 hS (fun _ h => h) rfl (by kernel_rfl) (by kernel_rfl) (by kernel_rfl) (fun _ _ _ _ h => h) (by rfl) (by rfl) ?_; apply Exists.intro; apply And.intro; (intro w; go_simp; try with_reducible rfl); go_frame)
              (refine regP 3 hS (fun _ h => h) rfl (by kernel_rfl) (by kernel_rfl) (by kernel_rfl) (fun _ _ _ _ h => h) (by rfl) (by rfl) ?_; apply Exists.intro; apply And.intro; (intro w; go_simp; try with_reducible rfl); go_frame)
              (refine regP 4 hS (fun _ h => h) rfl (by kernel_rfl) (by kernel_rfl) (by kernel_rfl) (fun _ _ _ _ h => h) (by rfl) (by rfl) ?_; apply Exists.intro; apply And.intro; (intro w; go_simp; try with_reducible rfl); go_frame)
              (first | (refine regP 5 hS (fun _ h => h) rfl (by kernel_rfl) (by kernel_rfl) (by kernel_rfl) (fun _ _ _ _ h => h) (by rfl) (by rfl) ?_; apply Exists.intro; apply And.intro; (intro w; go_simp; try with_reducible rfl); go_frame) | (refine regN 5 hS (fun _ h => h) rfl (by kernel_rfl) (by kernel_rfl) (by kernel_rfl) (fun _ _ _ h => h) (by rfl) (by rfl) ?_; go_frame))
              (first | (refine regP 6 hS (fun _ h => h) rfl (by kernel_rfl) (by kernel_rfl) (by kernel_rfl) (fun _ _ _ _ h => h) (by rfl) (by rfl) ?_; apply Exists.intro; apply And.intro; (intro w; go_simp; try with_reducible rfl); go_frame) | (refine regN 6 hS (fun _ h => h) rfl (by kernel_rfl) (by kernel_rfl) (by kernel_rfl) (fun _ _ _ h => h) (by rfl) (by rfl) ?_; go_frame))
              (first | (refine regP 7 hS (fun _ h => h) rfl (by kernel_rfl) (by kernel_rfl) (by kernel_rfl) (fun _ _ _ _ h => h) (by rfl) (by rfl) ?_; apply Exists.intro; apply And.intro; (intro w; go_simp; try with_reducible rfl); go_frame) | (refine regN 7 hS (fun _ h => h) rfl (by kernel_rfl) (by kernel_rfl) (by kernel_rfl) (fun _ _ _ h => h) (by rfl) (by rfl) ?_; go_frame))
              (first | (refine regR 8 hS (fun _ h => h) rfl (by kernel_rfl) (by kernel_rfl) (by kernel_rfl) (by kernel_rfl) (by kernel_rfl) (fun _ _ _ _ h => h) (by rfl) (by rfl) ?_; ((first
                                            | refine ⟨.int .i64 (x : Int), yLdSl _ _ (by rfl) _ _ (by rfl) (agOf (by rfl)) Has.z (0) (by omega) HX.out, ?_⟩
                                            | refine ⟨.int .i64 (y0 : Int), yLdSl _ _ (by rfl) _ _ (by rfl) (agOf (by rfl)) Has.z j (by omega) HY0.out, ?_⟩
                                            | refine ⟨_, yLdSl _ _ (by rfl) _ _ (by rfl) (agOf (by rfl)) (Has.s Has.z) k (by omega) HY.out, ?_⟩)); go_frame) | (refine regN 8 hS (fun _ h => h) rfl (by kernel_rfl) (by kernel_rfl) (by kernel_rfl) (fun _ _ _ h => h) (by rfl) (by rfl) ?_; go_frame))
              (first | (refine regP 9 hS (fun _ h => h) rfl (by kernel_rfl) (by kernel_rfl) (by kernel_rfl) (fun _ _ _ _ h => h) (by rfl) (by rfl) ?_; apply Exists.intro; apply And.intro; (intro w; go_simp; try with_reducible rfl); go_frame) | (refine regN 9 hS (fun _ h => h) rfl (by kernel_rfl) (by kernel_rfl) (by kernel_rfl) (fun _ _ _ h => h) (by rfl) (by rfl) ?_; go_frame))
              (first | (refine regP 10 hS (fun _ h => h) rfl (by kernel_rfl) (by kernel_rfl) (by kernel_rfl) (fun _ _ _ _ h => h) (by rfl) (by rfl) ?_; apply Exists.intro; apply And.intro; (intro w; go_simp; try with_reducible rfl); go_frame) | (refine regN 10 hS (fun _ h => h) rfl (by kernel_rfl) (by kernel_rfl) (by kernel_rfl) (fun _ _ _ h => h) (by rfl) (by rfl) ?_; go_frame))
              (first | (refine regP 11 hS (fun _ h => h) rfl (by kernel_rfl) (by kernel_rfl) (by kernel_rfl) (fun _ _ _ _ h => h) (by rfl) (by rfl) ?_; apply Exists.intro; apply And.intro; (intro w; go_simp; try with_reducible rfl); go_frame) | (refine regN 11 hS (fun _ h => h) rfl (by kernel_rfl) (by kernel_rfl) (by kernel_rfl) (fun _ _ _ h => h) (by rfl) (by rfl) ?_; go_frame))
              (first | (refine regR 12 hS (fun _ h => h) rfl (by kernel_rfl) (by kernel_rfl) (by kernel_rfl) (by kernel_rfl) (by kernel_rfl) (fun _ _ _ _ h => h) (by rfl) (by rfl) ?_; ((first
                                            | refine ⟨.int .i64 (x : Int), yLdSl _ _ (by rfl) _ _ (by rfl) (agOf (by rfl)) Has.z (0) (by omega) HX.out, ?_⟩
                                            | refine ⟨.int .i64 (y0 : Int), yLdSl _ _ (by rfl) _ _ (by rfl) (agOf (by rfl)) Has.z j (by omega) HY0.out, ?_⟩
                                            | refine ⟨_, yLdSl _ _ (by rfl) _ _ (by rfl) (agOf (by rfl)) (Has.s Has.z) k (by omega) HY.out, ?_⟩)); go_frame) | (refine regN 12 hS (fun _ h => h) rfl (by kernel_rfl) (by kernel_rfl) (by kernel_rfl) (fun _ _ _ h => h) (by rfl) (by rfl) ?_; go_frame))
              (first | (refine regP 13 hS (fun _ h => h) rfl (by kernel_rfl) (by kernel_rfl) (by kernel_rfl) (fun _ _ _ _ h => h) (by rfl) (by rfl) ?_; apply Exists.intro; apply And.intro; (intro w; go_simp; try with_reducible rfl); go_frame) | (refine regN 13 hS (fun _ h => h) rfl (by kernel_rfl) (by kernel_rfl) (by kernel_rfl) (fun _ _ _ h => h) (by rfl) (by rfl) ?_; go_frame))
              (refine regP 14 hS (fun _ h => h) rfl (by kernel_rfl) (by kernel_rfl) (by kernel_rfl) (fun _ _ _ _ h => h) (by rfl) (by rfl) ?_; apply Exists.intro; apply And.intro; (intro w; go_simp; try with_reducible rfl); go_frame)
              refine regDone (by kernel_rfl) ?_
              go_wp2
              exact ⟨⟨k, (0) + 1, by go_num, by go_num, HLT.out, HKL.out, HN.out, hS⟩, by simp [intOf]; have := HLT.out; omega⟩
            · have q1 : (k : Int) < (A.length : Int) := by omega
              obtain ⟨ba, oa, rfl⟩ := Sat.irAddr (k := 1) hS rfl rfl (by omega)
              have HY := Lib.hid (iv_at hy)
              have HN := Lib.hid hn
              have q4 : ((y : Int) == (x : Int)) = false := beq_eq_false_iff_ne.2 (by omega)
              have q5 : (y == x) = false := beq_eq_false_iff_ne.2 hne
              have q6 : ¬ (y : Int) = (x : Int) := by omega
              clear hkl hy hn
              go_wp2
              refine regStart [] hS (by kernel_rfl) rfl ?_
              intro w1 hS1
              clear hS; have hS := hS1; clear hS1
              (refine regP 0 hS (fun _ h => h) rfl (by kernel_rfl) (by kernel_rfl) (by kernel_rfl) (fun _ _ _ _ h => h) (by rfl) (by rfl) ?_; apply Exists.intro; apply And.intro; (intro w; go_simp; try with_reducible rfl); go_frame)
              (refine regP 1 hS (fun _ h => h) rfl (by kernel_rfl) (by kernel_rfl) (by kernel_rfl) (fun _ _ _ _ h => h) (by rfl) (by rfl) ?_; apply Exists.intro; apply And.intro; (intro w; go_simp; try with_reducible rfl); go_frame)
              (refine regP 2 hS (fun _ h => h) rfl (by kernel_rfl) (by kernel_rfl) (by kernel_rfl) (fun _ _ _ _ h => h) (by rfl) (by rfl) ?_; apply Exists.intro; apply And.intro; (intro w; go_simp; try with_reducible rfl); go_frame)
              (first | (refine regP 3 hS (fun _ h => h) rfl (by kernel_rfl) (by kernel_rfl) (by kernel_rfl) (fun _ _ _ _ h => h) (by rfl) (by rfl) ?_; apply Exists.intro; apply And.intro; (intro w; go_simp; try with_reducible rfl); go_frame) | (refine regN 3 hS (fun _ h => h) rfl (by kernel_rfl) (by kernel_rfl) (by kernel_rfl) (fun _ _ _ h => h) (by rfl) (by rfl) ?_; go_frame))
              (first | (refine regP 4 hS (fun _ h => h) rfl (by kernel_rfl) (by kernel_rfl) (by kernel_rfl) (fun _ _ _ _ h => h) (by rfl) (by rfl) ?_; apply Exists.intro; apply And.intro; (intro w; go_simp; try with_reducible rfl); go_frame) | (refine regN 4 hS (fun _ h => h) rfl (by kernel_rfl) (by kernel_rfl) (by kernel_rfl) (fun _ _ _ h => h) (by rfl) (by rfl) ?_; go_frame))
              (first | (refine regP 5 hS (fun _ h => h) rfl (by kernel_rfl) (by kernel_rfl) (by kernel_rfl) (fun _ _ _ _ h => h) (by rfl) (by rfl) ?_; apply Exists.intro; apply And.intro; (intro w; go_simp; try with_reducible rfl); go_frame) | (refine regN 5 hS (fun _ h => h) rfl (by kernel_rfl) (by kernel_rfl) (by kernel_rfl) (fun _ _ _ h => h) (by rfl) (by rfl) ?_; go_frame))
              (first | (refine regR 6 hS (fun _ h => h) rfl (by kernel_rfl) (by kernel_rfl) (by kernel_rfl) (by kernel_rfl) (by kernel_rfl) (fun _ _ _ _ h => h) (by rfl) (by rfl) ?_; ((first
                                            | refine ⟨.int .i64 (x : Int), yLdSl _ _ (by rfl) _ _ (by rfl) (agOf (by rfl)) Has.z (0) (by omega) HX.out, ?_⟩
                                            | refine ⟨.int .i64 (y0 : Int), yLdSl _ _ (by rfl) _ _ (by rfl) (agOf (by rfl)) Has.z j (by omega) HY0.out, ?_⟩
                                            | refine ⟨_, yLdSl _ _ (by rfl) _ _ (by rfl) (agOf (by rfl)) (Has.s Has.z) k (by omega) HY.out, ?_⟩)); go_frame) | (refine regN 6 hS (fun _ h => h) rfl (by kernel_rfl) (by kernel_rfl) (by kernel_rfl) (fun _ _ _ h => h) (by rfl) (by rfl) ?_; go_frame))
              (first | (refine regP 7 hS (fun _ h => h) rfl (by kernel_rfl) (by kernel_rfl) (by kernel_rfl) (fun _ _ _ _ h => h) (by rfl) (by rfl) ?_; apply Exists.intro; apply And.intro; (intro w; go_simp; try with_reducible rfl); go_frame) | (refine regN 7 hS (fun _ h => h) rfl (by kernel_rfl) (by kernel_rfl) (by kernel_rfl) (fun _ _ _ h => h) (by rfl) (by rfl) ?_; go_frame))
              (first | (refine regP 8 hS (fun _ h => h) rfl (by kernel_rfl) (by kernel_rfl) (by kernel_rfl) (fun _ _ _ _ h => h) (by rfl) (by rfl) ?_; apply Exists.intro; apply And.intro; (intro w; go_simp; try with_reducible rfl); go_frame) | (refine regN 8 hS (fun _ h => h) rfl (by kernel_rfl) (by kernel_rfl) (by kernel_rfl) (fun _ _ _ h => h) (by rfl) (by rfl) ?_; go_frame))
              (first | (refine regP 9 hS (fun _ h => h) rfl (by kernel_rfl) (by kernel_rfl) (by kernel_rfl) (fun _ _ _ _ h => h) (by rfl) (by rfl) ?_; apply Exists.intro; apply And.intro; (intro w; go_simp; try with_reducible rfl); go_frame; try simp (disch := omega) only [IntWalk.i64_in]) | (refine regN 9 hS (fun _ h => h) rfl (by kernel_rfl) (by kernel_rfl) (by kernel_rfl) (fun _ _ _ h => h) (by rfl) (by rfl) ?_; go_frame))
              (first | (refine regP 10 hS (fun _ h => h) rfl (by kernel_rfl) (by kernel_rfl) (by kernel_rfl) (fun _ _ _ _ h => h) (by rfl) (by rfl) ?_; apply Exists.intro; apply And.intro; (intro w; go_simp; try with_reducible rfl); go_frame) | (refine regN 10 hS (fun _ h => h) rfl (by kernel_rfl) (by kernel_rfl) (by kernel_rfl) (fun _ _ _ h => h) (by rfl) (by rfl) ?_; go_frame))
              (first | (refine regR 11 hS (fun _ h => h) rfl (by kernel_rfl) (by kernel_rfl) (by kernel_rfl) (by kernel_rfl) (by kernel_rfl) (fun _ _ _ _ h => h) (by rfl) (by rfl) ?_; ((first
                                            | refine ⟨.int .i64 (x : Int), yLdSl _ _ (by rfl) _ _ (by rfl) (agOf (by rfl)) Has.z (0) (by omega) HX.out, ?_⟩
                                            | refine ⟨.int .i64 (y0 : Int), yLdSl _ _ (by rfl) _ _ (by rfl) (agOf (by rfl)) Has.z j (by omega) HY0.out, ?_⟩
                                            | refine ⟨_, yLdSl _ _ (by rfl) _ _ (by rfl) (agOf (by rfl)) (Has.s Has.z) k (by omega) HY.out, ?_⟩)); go_frame) | (refine regN 11 hS (fun _ h => h) rfl (by kernel_rfl) (by kernel_rfl) (by kernel_rfl) (fun _ _ _ h => h) (by rfl) (by rfl) ?_; go_frame))
              (first | (refine regP 12 hS (fun _ h => h) rfl (by kernel_rfl) (by kernel_rfl) (by kernel_rfl) (fun _ _ _ _ h => h) (by rfl) (by rfl) ?_; apply Exists.intro; apply And.intro; (intro w; go_simp; try with_reducible rfl); go_frame) | (refine regN 12 hS (fun _ h => h) rfl (by kernel_rfl) (by kernel_rfl) (by kernel_rfl) (fun _ _ _ h => h) (by rfl) (by rfl) ?_; go_frame))
              (refine regP 13 hS (fun _ h => h) rfl (by kernel_rfl) (by kernel_rfl) (by kernel_rfl) (fun _ _ _ _ h => h) (by rfl) (by rfl) ?_; apply Exists.intro; apply And.intro; (intro w; go_simp; try with_reducible rfl); go_frame)
              refine regDone (by kernel_rfl) ?_
              go_wp2
              refine regStart [] hS (by kernel_rfl) rfl ?_
              intro w1 hS1
              clear hS; have hS := hS1; clear hS1
              (refine regP 0 hS (fun _ h => h) rfl (by kernel_rfl) (by kernel_rfl) (by kernel_rfl) (fun _ _ _ _ h => h) (by rfl) (by rfl) ?_; apply Exists.intro; apply And.intro; (intro w; go_simp; try with_reducible rfl); go_frame)
              (refine regP 1 hS (fun _ h => h) rfl (by kernel_rfl) (by kernel_rfl) (by kernel_rfl) (fun _ _ _ _ h => h) (by rfl) (by rfl) ?_; apply Exists.intro; apply And.intro; (intro w; go_simp; try with_reducible rfl); go_frame)
              (refine regP 2 hS (fun _ h => h) rfl (by kernel_rfl) (by kernel_rfl) (by kernel_rfl) (fun _ _ _ _ h => h) (by rfl) (by rfl) ?_; apply Exists.intro; apply And.intro; (intro w; go_simp; try with_reducible rfl); go_frame)
              (refine regP 3 hS (fun _ h => h) rfl (by kernel_rfl) (by kernel_rfl) (by kernel_rfl) (fun _ _ _ _ h => h) (by rfl) (by rfl) ?_; apply Exists.intro; apply And.intro; (intro w; go_simp; try with_reducible rfl); go_frame)
              (refine regP 4 hS (fun _ h => h) rfl (by kernel_rfl) (by kernel_rfl) (by kernel_rfl) (fun _ _ _ _ h => h) (by rfl) (by rfl) ?_; apply Exists.intro; apply And.intro; (intro w; go_simp; try with_reducible rfl); go_frame)
              (first | (refine regP 5 hS (fun _ h => h) rfl (by kernel_rfl) (by kernel_rfl) (by kernel_rfl) (fun _ _ _ _ h => h) (by rfl) (by rfl) ?_; apply Exists.intro; apply And.intro; (intro w; go_simp; try with_reducible rfl); go_frame) | (refine regN 5 hS (fun _ h => h) rfl (by kernel_rfl) (by kernel_rfl) (by kernel_rfl) (fun _ _ _ h => h) (by rfl) (by rfl) ?_; go_frame))
              (first | (refine regP 6 hS (fun _ h => h) rfl (by kernel_rfl) (by kernel_rfl) (by kernel_rfl) (fun _ _ _ _ h => h) (by rfl) (by rfl) ?_; apply Exists.intro; apply And.intro; (intro w; go_simp; try with_reducible rfl); go_frame) | (refine regN 6 hS (fun _ h => h) rfl (by kernel_rfl) (by kernel_rfl) (by kernel_rfl) (fun _ _ _ h => h) (by rfl) (by rfl) ?_; go_frame))
              (first | (refine regP 7 hS (fun _ h => h) rfl (by kernel_rfl) (by kernel_rfl) (by kernel_rfl) (fun _ _ _ _ h => h) (by rfl) (by rfl) ?_; apply Exists.intro; apply And.intro; (intro w; go_simp; try with_reducible rfl); go_frame) | (refine regN 7 hS (fun _ h => h) rfl (by kernel_rfl) (by kernel_rfl) (by kernel_rfl) (fun _ _ _ h => h) (by rfl) (by rfl) ?_; go_frame))
              (first | (refine regR 8 hS (fun _ h => h) rfl (by kernel_rfl) (by kernel_rfl) (by kernel_rfl) (by kernel_rfl) (by kernel_rfl) (fun _ _ _ _ h => h) (by rfl) (by rfl) ?_; ((first
                                            | refine ⟨.int .i64 (x : Int), yLdSl _ _ (by rfl) _ _ (by rfl) (agOf (by rfl)) Has.z (0) (by omega) HX.out, ?_⟩
                                            | refine ⟨.int .i64 (y0 : Int), yLdSl _ _ (by rfl) _ _ (by rfl) (agOf (by rfl)) Has.z j (by omega) HY0.out, ?_⟩
                                            | refine ⟨_, yLdSl _ _ (by rfl) _ _ (by rfl) (agOf (by rfl)) (Has.s Has.z) k (by omega) HY.out, ?_⟩)); go_frame) | (refine regN 8 hS (fun _ h => h) rfl (by kernel_rfl) (by kernel_rfl) (by kernel_rfl) (fun _ _ _ h => h) (by rfl) (by rfl) ?_; go_frame))
              (first | (refine regP 9 hS (fun _ h => h) rfl (by kernel_rfl) (by kernel_rfl) (by kernel_rfl) (fun _ _ _ _ h => h) (by rfl) (by rfl) ?_; apply Exists.intro; apply And.intro; (intro w; go_simp; try with_reducible rfl); go_frame) | (refine regN 9 hS (fun _ h => h) rfl (by kernel_rfl) (by kernel_rfl) (by kernel_rfl) (fun _ _ _ h => h) (by rfl) (by rfl) ?_; go_frame))
              (first | (refine regP 10 hS (fun _ h => h) rfl (by kernel_rfl) (by kernel_rfl) (by kernel_rfl) (fun _ _ _ _ h => h) (by rfl) (by rfl) ?_; apply Exists.intro; apply And.intro; (intro w; go_simp; try with_reducible rfl); go_frame) | (refine regN 10 hS (fun _ h => h) rfl (by kernel_rfl) (by kernel_rfl) (by kernel_rfl) (fun _ _ _ h => h) (by rfl) (by rfl) ?_; go_frame))
              (first | (refine regP 11 hS (fun _ h => h) rfl (by kernel_rfl) (by kernel_rfl) (by kernel_rfl) (fun _ _ _ _ h => h) (by rfl) (by rfl) ?_; apply Exists.intro; apply And.intro; (intro w; go_simp; try with_reducible rfl); go_frame) | (refine regN 11 hS (fun _ h => h) rfl (by kernel_rfl) (by kernel_rfl) (by kernel_rfl) (fun _ _ _ h => h) (by rfl) (by rfl) ?_; go_frame))
              (first | (refine regR 12 hS (fun _ h => h) rfl (by kernel_rfl) (by kernel_rfl) (by kernel_rfl) (by kernel_rfl) (by kernel_rfl) (fun _ _ _ _ h => h) (by rfl) (by rfl) ?_; ((first
                                            | refine ⟨.int .i64 (x : Int), yLdSl _ _ (by rfl) _ _ (by rfl) (agOf (by rfl)) Has.z (0) (by omega) HX.out, ?_⟩
                                            | refine ⟨.int .i64 (y0 : Int), yLdSl _ _ (by rfl) _ _ (by rfl) (agOf (by rfl)) Has.z j (by omega) HY0.out, ?_⟩
                                            | refine ⟨_, yLdSl _ _ (by rfl) _ _ (by rfl) (agOf (by rfl)) (Has.s Has.z) k (by omega) HY.out, ?_⟩)); go_frame) | (refine regN 12 hS (fun _ h => h) rfl (by kernel_rfl) (by kernel_rfl) (by kernel_rfl) (fun _ _ _ h => h) (by rfl) (by rfl) ?_; go_frame))
              (first | (refine regP 13 hS (fun _ h => h) rfl (by kernel_rfl) (by kernel_rfl) (by kernel_rfl) (fun _ _ _ _ h => h) (by rfl) (by rfl) ?_; apply Exists.intro; apply And.intro; (intro w; go_simp; try with_reducible rfl); go_frame) | (refine regN 13 hS (fun _ h => h) rfl (by kernel_rfl) (by kernel_rfl) (by kernel_rfl) (fun _ _ _ h => h) (by rfl) (by rfl) ?_; go_frame))
              (refine regP 14 hS (fun _ h => h) rfl (by kernel_rfl) (by kernel_rfl) (by kernel_rfl) (fun _ _ _ _ h => h) (by rfl) (by rfl) ?_; apply Exists.intro; apply And.intro; (intro w; go_simp; try with_reducible rfl); go_frame)
              refine regDone (by kernel_rfl) ?_
              go_wp2
              exact ⟨⟨k, (0) + 1, by go_num, by go_num, HLT.out, HKL.out, HN.out, hS⟩, by simp [intOf]; have := HLT.out; omega⟩
          · have p1 : (0 : Int) < (i : Int) := by omega
            have p1n : 0 < i := by omega
            have p1b : decide (0 < i) = true := decide_eq_true p1n
            have p1c : decide ((0 : Int) < (i : Int)) = true := decide_eq_true p1
            have p2 : (i : Int) - 1 = (j : Int) := by omega
            have p3 : ¬ ((x : Int) ≤ (y0 : Int)) := by omega
            have p4 : decide ((x : Int) ≤ (y0 : Int)) = false := decide_eq_false p3
            have p5 : decide (x ≤ y0) = false := decide_eq_false (by omega)
            have p6 : (j : Int) < (B.length : Int) := by omega
            have HY0 := Lib.hid (iv_at hy0)
            clear hy0 hyx hij
            rcases hst with ⟨hkl, hy, hn⟩ | ⟨hkl, hn⟩ | ⟨y, hkl, hy, hne, hn⟩
            · have q1 : (k : Int) < (A.length : Int) := by omega
              obtain ⟨ba, oa, rfl⟩ := Sat.irAddr (k := 1) hS rfl rfl (by omega)
              have HY := Lib.hid (iv_at hy)
              have HN := Lib.hid hn
              have HK2 := Lib.hid (show k + 1 ≤ A.length by omega)
              clear hkl hy hn
              go_wp2
              refine regStart [] hS (by kernel_rfl) rfl ?_
              intro w1 hS1
              clear hS; have hS := hS1; clear hS1
              (refine regP 0 hS (fun _ h => h) rfl (by kernel_rfl) (by kernel_rfl) (by kernel_rfl) (fun _ _ _ _ h => h) (by rfl) (by rfl) ?_; apply Exists.intro; apply And.intro; (intro w; go_simp; try with_reducible rfl); go_frame)
              (refine regP 1 hS (fun _ h => h) rfl (by kernel_rfl) (by kernel_rfl) (by kernel_rfl) (fun _ _ _ _ h => h) (by rfl) (by rfl) ?_; apply Exists.intro; apply And.intro; (intro w; go_simp; try with_reducible rfl); go_frame)
              (refine regP 2 hS (fun _ h => h) rfl (by kernel_rfl) (by kernel_rfl) (by kernel_rfl) (fun _ _ _ _ h => h) (by rfl) (by rfl) ?_; apply Exists.intro; apply And.intro; (intro w; go_simp; try with_reducible rfl); go_frame)
              (first | (refine regP 3 hS (fun _ h => h) rfl (by kernel_rfl) (by kernel_rfl) (by kernel_rfl) (fun _ _ _ _ h => h) (by rfl) (by rfl) ?_; apply Exists.intro; apply And.intro; (intro w; go_simp; try with_reducible rfl); go_frame) | (refine regN 3 hS (fun _ h => h) rfl (by kernel_rfl) (by kernel_rfl) (by kernel_rfl) (fun _ _ _ h => h) (by rfl) (by rfl) ?_; go_frame))
              (first | (refine regP 4 hS (fun _ h => h) rfl (by kernel_rfl) (by kernel_rfl) (by kernel_rfl) (fun _ _ _ _ h => h) (by rfl) (by rfl) ?_; apply Exists.intro; apply And.intro; (intro w; go_simp; try with_reducible rfl); go_frame) | (refine regN 4 hS (fun _ h => h) rfl (by kernel_rfl) (by kernel_rfl) (by kernel_rfl) (fun _ _ _ h => h) (by rfl) (by rfl) ?_; go_frame))
              (first | (refine regP 5 hS (fun _ h => h) rfl (by kernel_rfl) (by kernel_rfl) (by kernel_rfl) (fun _ _ _ _ h => h) (by rfl) (by rfl) ?_; apply Exists.intro; apply And.intro; (intro w; go_simp; try with_reducible rfl); go_frame) | (refine regN 5 hS (fun _ h => h) rfl (by kernel_rfl) (by kernel_rfl) (by kernel_rfl) (fun _ _ _ h => h) (by rfl) (by rfl) ?_; go_frame))
              (first | (refine regR 6 hS (fun _ h => h) rfl (by kernel_rfl) (by kernel_rfl) (by kernel_rfl) (by kernel_rfl) (by kernel_rfl) (fun _ _ _ _ h => h) (by rfl) (by rfl) ?_; ((first
                                            | refine ⟨.int .i64 (x : Int), yLdSl _ _ (by rfl) _ _ (by rfl) (agOf (by rfl)) Has.z (i) (by omega) HX.out, ?_⟩
                                            | refine ⟨.int .i64 (y0 : Int), yLdSl _ _ (by rfl) _ _ (by rfl) (agOf (by rfl)) Has.z j (by omega) HY0.out, ?_⟩
                                            | refine ⟨_, yLdSl _ _ (by rfl) _ _ (by rfl) (agOf (by rfl)) (Has.s Has.z) k (by omega) HY.out, ?_⟩)); go_frame) | (refine regN 6 hS (fun _ h => h) rfl (by kernel_rfl) (by kernel_rfl) (by kernel_rfl) (fun _ _ _ h => h) (by rfl) (by rfl) ?_; go_frame))
              (first | (refine regP 7 hS (fun _ h => h) rfl (by kernel_rfl) (by kernel_rfl) (by kernel_rfl) (fun _ _ _ _ h => h) (by rfl) (by rfl) ?_; apply Exists.intro; apply And.intro; (intro w; go_simp; try with_reducible rfl); go_frame) | (refine regN 7 hS (fun _ h => h) rfl (by kernel_rfl) (by kernel_rfl) (by kernel_rfl) (fun _ _ _ h => h) (by rfl) (by rfl) ?_; go_frame))
              (first | (refine regP 8 hS (fun _ h => h) rfl (by kernel_rfl) (by kernel_rfl) (by kernel_rfl) (fun _ _ _ _ h => h) (by rfl) (by rfl) ?_; apply Exists.intro; apply And.intro; (intro w; go_simp; try with_reducible rfl); go_frame) | (refine regN 8 hS (fun _ h => h) rfl (by kernel_rfl) (by kernel_rfl) (by kernel_rfl) (fun _ _ _ h => h) (by rfl) (by rfl) ?_; go_frame))
              (first | (refine regP 9 hS (fun _ h => h) rfl (by kernel_rfl) (by kernel_rfl) (by kernel_rfl) (fun _ _ _ _ h => h) (by rfl) (by rfl) ?_; apply Exists.intro; apply And.intro; (intro w; go_simp; try with_reducible rfl); go_frame; try simp (disch := omega) only [IntWalk.i64_in]) | (refine regN 9 hS (fun _ h => h) rfl (by kernel_rfl) (by kernel_rfl) (by kernel_rfl) (fun _ _ _ h => h) (by rfl) (by rfl) ?_; go_frame))
              (first | (refine regP 10 hS (fun _ h => h) rfl (by kernel_rfl) (by kernel_rfl) (by kernel_rfl) (fun _ _ _ _ h => h) (by rfl) (by rfl) ?_; apply Exists.intro; apply And.intro; (intro w; go_simp; try with_reducible rfl); go_frame) | (refine regN 10 hS (fun _ h => h) rfl (by kernel_rfl) (by kernel_rfl) (by kernel_rfl) (fun _ _ _ h => h) (by rfl) (by rfl) ?_; go_frame))
              (first | (refine regR 11 hS (fun _ h => h) rfl (by kernel_rfl) (by kernel_rfl) (by kernel_rfl) (by kernel_rfl) (by kernel_rfl) (fun _ _ _ _ h => h) (by rfl) (by rfl) ?_; ((first
                                            | refine ⟨.int .i64 (x : Int), yLdSl _ _ (by rfl) _ _ (by rfl) (agOf (by rfl)) Has.z (i) (by omega) HX.out, ?_⟩
                                            | refine ⟨.int .i64 (y0 : Int), yLdSl _ _ (by rfl) _ _ (by rfl) (agOf (by rfl)) Has.z j (by omega) HY0.out, ?_⟩
                                            | refine ⟨_, yLdSl _ _ (by rfl) _ _ (by rfl) (agOf (by rfl)) (Has.s Has.z) k (by omega) HY.out, ?_⟩)); go_frame) | (refine regN 11 hS (fun _ h => h) rfl (by kernel_rfl) (by kernel_rfl) (by kernel_rfl) (fun _ _ _ h => h) (by rfl) (by rfl) ?_; go_frame))
              (first | (refine regP 12 hS (fun _ h => h) rfl (by kernel_rfl) (by kernel_rfl) (by kernel_rfl) (fun _ _ _ _ h => h) (by rfl) (by rfl) ?_; apply Exists.intro; apply And.intro; (intro w; go_simp; try with_reducible rfl); go_frame) | (refine regN 12 hS (fun _ h => h) rfl (by kernel_rfl) (by kernel_rfl) (by kernel_rfl) (fun _ _ _ h => h) (by rfl) (by rfl) ?_; go_frame))
              (refine regP 13 hS (fun _ h => h) rfl (by kernel_rfl) (by kernel_rfl) (by kernel_rfl) (fun _ _ _ _ h => h) (by rfl) (by rfl) ?_; apply Exists.intro; apply And.intro; (intro w; go_simp; try with_reducible rfl); go_frame)
              refine regDone (by kernel_rfl) ?_
              go_wp2
              refine regStart [] hS (by kernel_rfl) rfl ?_
              intro w1 hS1
              clear hS; have hS := hS1; clear hS1
              (refine regP 0 hS (fun _ h => h) rfl (by kernel_rfl) (by kernel_rfl) (by kernel_rfl) (fun _ _ _ _ h => h) (by rfl) (by rfl) ?_; apply Exists.intro; apply And.intro; (intro w; go_simp; try with_reducible rfl); go_frame)
              (refine regP 1 hS (fun _ h => h) rfl (by kernel_rfl) (by kernel_rfl) (by kernel_rfl) (fun _ _ _ _ h => h) (by rfl) (by rfl) ?_; apply Exists.intro; apply And.intro; (intro w; go_simp; try with_reducible rfl); go_frame)
              (refine regP 2 hS (fun _ h => h) rfl (by kernel_rfl) (by kernel_rfl) (by kernel_rfl) (fun _ _ _ _ h => h) (by rfl) (by rfl) ?_; apply Exists.intro; apply And.intro; (intro w; go_simp; try with_reducible rfl); go_frame)
              (refine regP 3 hS (fun _ h => h) rfl (by kernel_rfl) (by kernel_rfl) (by kernel_rfl) (fun _ _ _ _ h => h) (by rfl) (by rfl) ?_; apply Exists.intro; apply And.intro; (intro w; go_simp; try with_reducible rfl); go_frame)
              (refine regP 4 hS (fun _ h => h) rfl (by kernel_rfl) (by kernel_rfl) (by kernel_rfl) (fun _ _ _ _ h => h) (by rfl) (by rfl) ?_; apply Exists.intro; apply And.intro; (intro w; go_simp; try with_reducible rfl); go_frame)
              (first | (refine regP 5 hS (fun _ h => h) rfl (by kernel_rfl) (by kernel_rfl) (by kernel_rfl) (fun _ _ _ _ h => h) (by rfl) (by rfl) ?_; apply Exists.intro; apply And.intro; (intro w; go_simp; try with_reducible rfl); go_frame) | (refine regN 5 hS (fun _ h => h) rfl (by kernel_rfl) (by kernel_rfl) (by kernel_rfl) (fun _ _ _ h => h) (by rfl) (by rfl) ?_; go_frame))
              (first | (refine regP 6 hS (fun _ h => h) rfl (by kernel_rfl) (by kernel_rfl) (by kernel_rfl) (fun _ _ _ _ h => h) (by rfl) (by rfl) ?_; apply Exists.intro; apply And.intro; (intro w; go_simp; try with_reducible rfl); go_frame) | (refine regN 6 hS (fun _ h => h) rfl (by kernel_rfl) (by kernel_rfl) (by kernel_rfl) (fun _ _ _ h => h) (by rfl) (by rfl) ?_; go_frame))
              (first | (refine regP 7 hS (fun _ h => h) rfl (by kernel_rfl) (by kernel_rfl) (by kernel_rfl) (fun _ _ _ _ h => h) (by rfl) (by rfl) ?_; apply Exists.intro; apply And.intro; (intro w; go_simp; try with_reducible rfl); go_frame) | (refine regN 7 hS (fun _ h => h) rfl (by kernel_rfl) (by kernel_rfl) (by kernel_rfl) (fun _ _ _ h => h) (by rfl) (by rfl) ?_; go_frame))
              (first | (refine regR 8 hS (fun _ h => h) rfl (by kernel_rfl) (by kernel_rfl) (by kernel_rfl) (by kernel_rfl) (by kernel_rfl) (fun _ _ _ _ h => h) (by rfl) (by rfl) ?_; ((first
                                            | refine ⟨.int .i64 (x : Int), yLdSl _ _ (by rfl) _ _ (by rfl) (agOf (by rfl)) Has.z (i) (by omega) HX.out, ?_⟩
                                            | refine ⟨.int .i64 (y0 : Int), yLdSl _ _ (by rfl) _ _ (by rfl) (agOf (by rfl)) Has.z j (by omega) HY0.out, ?_⟩
                                            | refine ⟨_, yLdSl _ _ (by rfl) _ _ (by rfl) (agOf (by rfl)) (Has.s Has.z) k (by omega) HY.out, ?_⟩)); go_frame) | (refine regN 8 hS (fun _ h => h) rfl (by kernel_rfl) (by kernel_rfl) (by kernel_rfl) (fun _ _ _ h => h) (by rfl) (by rfl) ?_; go_frame))
              (first | (refine regP 9 hS (fun _ h => h) rfl (by kernel_rfl) (by kernel_rfl) (by kernel_rfl) (fun _ _ _ _ h => h) (by rfl) (by rfl) ?_; apply Exists.intro; apply And.intro; (intro w; go_simp; try with_reducible rfl); go_frame) | (refine regN 9 hS (fun _ h => h) rfl (by kernel_rfl) (by kernel_rfl) (by kernel_rfl) (fun _ _ _ h => h) (by rfl) (by rfl) ?_; go_frame))
              (first | (refine regP 10 hS (fun _ h => h) rfl (by kernel_rfl) (by kernel_rfl) (by kernel_rfl) (fun _ _ _ _ h => h) (by rfl) (by rfl) ?_; apply Exists.intro; apply And.intro; (intro w; go_simp; try with_reducible rfl); go_frame) | (refine regN 10 hS (fun _ h => h) rfl (by kernel_rfl) (by kernel_rfl) (by kernel_rfl) (fun _ _ _ h => h) (by rfl) (by rfl) ?_; go_frame))
              (first | (refine regP 11 hS (fun _ h => h) rfl (by kernel_rfl) (by kernel_rfl) (by kernel_rfl) (fun _ _ _ _ h => h) (by rfl) (by rfl) ?_; apply Exists.intro; apply And.intro; (intro w; go_simp; try with_reducible rfl); go_frame) | (refine regN 11 hS (fun _ h => h) rfl (by kernel_rfl) (by kernel_rfl) (by kernel_rfl) (fun _ _ _ h => h) (by rfl) (by rfl) ?_; go_frame))
              (first | (refine regR 12 hS (fun _ h => h) rfl (by kernel_rfl) (by kernel_rfl) (by kernel_rfl) (by kernel_rfl) (by kernel_rfl) (fun _ _ _ _ h => h) (by rfl) (by rfl) ?_; ((first
                                            | refine ⟨.int .i64 (x : Int), yLdSl _ _ (by rfl) _ _ (by rfl) (agOf (by rfl)) Has.z (i) (by omega) HX.out, ?_⟩
                                            | refine ⟨.int .i64 (y0 : Int), yLdSl _ _ (by rfl) _ _ (by rfl) (agOf (by rfl)) Has.z j (by omega) HY0.out, ?_⟩
                                            | refine ⟨_, yLdSl _ _ (by rfl) _ _ (by rfl) (agOf (by rfl)) (Has.s Has.z) k (by omega) HY.out, ?_⟩)); go_frame) | (refine regN 12 hS (fun _ h => h) rfl (by kernel_rfl) (by kernel_rfl) (by kernel_rfl) (fun _ _ _ h => h) (by rfl) (by rfl) ?_; go_frame))
              (first | (refine regP 13 hS (fun _ h => h) rfl (by kernel_rfl) (by kernel_rfl) (by kernel_rfl) (fun _ _ _ _ h => h) (by rfl) (by rfl) ?_; apply Exists.intro; apply And.intro; (intro w; go_simp; try with_reducible rfl); go_frame) | (refine regN 13 hS (fun _ h => h) rfl (by kernel_rfl) (by kernel_rfl) (by kernel_rfl) (fun _ _ _ h => h) (by rfl) (by rfl) ?_; go_frame))
              (refine regP 14 hS (fun _ h => h) rfl (by kernel_rfl) (by kernel_rfl) (by kernel_rfl) (fun _ _ _ _ h => h) (by rfl) (by rfl) ?_; apply Exists.intro; apply And.intro; (intro w; go_simp; try with_reducible rfl); go_frame)
              refine regDone (by kernel_rfl) ?_
              go_wp2
              exact ⟨⟨k + 1, (i) + 1, by go_num, by go_num, HLT.out, HK2.out, HN.out, hS⟩, by simp [intOf]; have := HLT.out; omega⟩
            · have q1 : ¬ (k : Int) < (A.length : Int) := by omega
              have q2 : decide ((k : Int) < (A.length : Int)) = false := decide_eq_false q1
              have q3 : decide (k < A.length) = false := decide_eq_false hkl
              have HN := Lib.hid hn
              clear hkl hn
              go_wp2
              refine regStart [] hS (by kernel_rfl) rfl ?_
              intro w1 hS1
              clear hS; have hS := hS1; clear hS1
              (refine regP 0 hS (fun _ h => h) rfl (by kernel_rfl) (by kernel_rfl) (by kernel_rfl) (fun _ _ _ _ h => h) (by rfl) (by rfl) ?_; apply Exists.intro; apply And.intro; (intro w; go_simp; try with_reducible rfl); go_frame)
              (refine regP 1 hS (fun _ h => h) rfl (by kernel_rfl) (by kernel_rfl) (by kernel_rfl) (fun _ _ _ _ h => h) (by rfl) (by rfl) ?_; apply Exists.intro; apply And.intro; (intro w; go_simp; try with_reducible rfl); go_frame)
              (refine regP 2 hS (fun _ h => h) rfl (by kernel_rfl) (by kernel_rfl) (by kernel_rfl) (fun _ _ _ _ h => h) (by rfl) (by rfl) ?_; apply Exists.intro; apply And.intro; (intro w; go_simp; try with_reducible rfl); go_frame)
              (first | (refine regP 3 hS (fun _ h => h) rfl (by kernel_rfl) (by kernel_rfl) (by kernel_rfl) (fun _ _ _ _ h => h) (by rfl) (by rfl) ?_; apply Exists.intro; apply And.intro; (intro w; go_simp; try with_reducible rfl); go_frame) | (refine regN 3 hS (fun _ h => h) rfl (by kernel_rfl) (by kernel_rfl) (by kernel_rfl) (fun _ _ _ h => h) (by rfl) (by rfl) ?_; go_frame))
              (first | (refine regP 4 hS (fun _ h => h) rfl (by kernel_rfl) (by kernel_rfl) (by kernel_rfl) (fun _ _ _ _ h => h) (by rfl) (by rfl) ?_; apply Exists.intro; apply And.intro; (intro w; go_simp; try with_reducible rfl); go_frame) | (refine regN 4 hS (fun _ h => h) rfl (by kernel_rfl) (by kernel_rfl) (by kernel_rfl) (fun _ _ _ h => h) (by rfl) (by rfl) ?_; go_frame))
              (first | (refine regP 5 hS (fun _ h => h) rfl (by kernel_rfl) (by kernel_rfl) (by kernel_rfl) (fun _ _ _ _ h => h) (by rfl) (by rfl) ?_; apply Exists.intro; apply And.intro; (intro w; go_simp; try with_reducible rfl); go_frame) | (refine regN 5 hS (fun _ h => h) rfl (by kernel_rfl) (by kernel_rfl) (by kernel_rfl) (fun _ _ _ h => h) (by rfl) (by rfl) ?_; go_frame))
              (first | (refine regR 6 hS (fun _ h => h) rfl (by kernel_rfl) (by kernel_rfl) (by kernel_rfl) (by kernel_rfl) (by kernel_rfl) (fun _ _ _ _ h => h) (by rfl) (by rfl) ?_; ((first
                                            | refine ⟨.int .i64 (x : Int), yLdSl _ _ (by rfl) _ _ (by rfl) (agOf (by rfl)) Has.z (i) (by omega) HX.out, ?_⟩
                                            | refine ⟨.int .i64 (y0 : Int), yLdSl _ _ (by rfl) _ _ (by rfl) (agOf (by rfl)) Has.z j (by omega) HY0.out, ?_⟩
                                            | refine ⟨_, yLdSl _ _ (by rfl) _ _ (by rfl) (agOf (by rfl)) (Has.s Has.z) k (by omega) HY.out, ?_⟩)); go_frame) | (refine regN 6 hS (fun _ h => h) rfl (by kernel_rfl) (by kernel_rfl) (by kernel_rfl) (fun _ _ _ h => h) (by rfl) (by rfl) ?_; go_frame))
              (first | (refine regP 7 hS (fun _ h => h) rfl (by kernel_rfl) (by kernel_rfl) (by kernel_rfl) (fun _ _ _ _ h => h) (by rfl) (by rfl) ?_; apply Exists.intro; apply And.intro; (intro w; go_simp; try with_reducible rfl); go_frame) | (refine regN 7 hS (fun _ h => h) rfl (by kernel_rfl) (by kernel_rfl) (by kernel_rfl) (fun _ _ _ h => h) (by rfl) (by rfl) ?_; go_frame))
              (first | (refine regP 8 hS (fun _ h => h) rfl (by kernel_rfl) (by kernel_rfl) (by kernel_rfl) (fun _ _ _ _ h => h) (by rfl) (by rfl) ?_; apply Exists.intro; apply And.intro; (intro w; go_simp; try with_reducible rfl); go_frame) | (refine regN 8 hS (fun _ h => h) rfl (by kernel_rfl) (by kernel_rfl) (by kernel_rfl) (fun _ _ _ h => h) (by rfl) (by rfl) ?_; go_frame))
              (first | (refine regP 9 hS (fun _ h => h) rfl (by kernel_rfl) (by kernel_rfl) (by kernel_rfl) (fun _ _ _ _ h => h) (by rfl) (by rfl) ?_; apply Exists.intro; apply And.intro; (intro w; go_simp; try with_reducible rfl); go_frame; try simp (disch := omega) only [IntWalk.i64_in]) | (refine regN 9 hS (fun _ h => h) rfl (by kernel_rfl) (by kernel_rfl) (by kernel_rfl) (fun _ _ _ h => h) (by rfl) (by rfl) ?_; go_frame))
              (first | (refine regP 10 hS (fun _ h => h) rfl (by kernel_rfl) (by kernel_rfl) (by kernel_rfl) (fun _ _ _ _ h => h) (by rfl) (by rfl) ?_; apply Exists.intro; apply And.intro; (intro w; go_simp; try with_reducible rfl); go_frame) | (refine regN 10 hS (fun _ h => h) rfl (by kernel_rfl) (by kernel_rfl) (by kernel_rfl) (fun _ _ _ h => h) (by rfl) (by rfl) ?_; go_frame))
              (first | (refine regR 11 hS (fun _ h => h) rfl (by kernel_rfl) (by kernel_rfl) (by kernel_rfl) (by kernel_rfl) (by kernel_rfl) (fun _ _ _ _ h => h) (by rfl) (by rfl) ?_; ((first
                                            | refine ⟨.int .i64 (x : Int), yLdSl _ _ (by rfl) _ _ (by rfl) (agOf (by rfl)) Has.z (i) (by omega) HX.out, ?_⟩
                                            | refine ⟨.int .i64 (y0 : Int), yLdSl _ _ (by rfl) _ _ (by rfl) (agOf (by rfl)) Has.z j (by omega) HY0.out, ?_⟩
                                            | refine ⟨_, yLdSl _ _ (by rfl) _ _ (by rfl) (agOf (by rfl)) (Has.s Has.z) k (by omega) HY.out, ?_⟩)); go_frame) | (refine regN 11 hS (fun _ h => h) rfl (by kernel_rfl) (by kernel_rfl) (by kernel_rfl) (fun _ _ _ h => h) (by rfl) (by rfl) ?_; go_frame))
              (first | (refine regP 12 hS (fun _ h => h) rfl (by kernel_rfl) (by kernel_rfl) (by kernel_rfl) (fun _ _ _ _ h => h) (by rfl) (by rfl) ?_; apply Exists.intro; apply And.intro; (intro w; go_simp; try with_reducible rfl); go_frame) | (refine regN 12 hS (fun _ h => h) rfl (by kernel_rfl) (by kernel_rfl) (by kernel_rfl) (fun _ _ _ h => h) (by rfl) (by rfl) ?_; go_frame))
              (refine regP 13 hS (fun _ h => h) rfl (by kernel_rfl) (by kernel_rfl) (by kernel_rfl) (fun _ _ _ _ h => h) (by rfl) (by rfl) ?_; apply Exists.intro; apply And.intro; (intro w; go_simp; try with_reducible rfl); go_frame)
              refine regDone (by kernel_rfl) ?_
              go_wp2
              refine regStart [] hS (by kernel_rfl) rfl ?_
              intro w1 hS1
              clear hS; have hS := hS1; clear hS1
              (refine regP 0 hS (fun _ h => h) rfl (by kernel_rfl) (by kernel_rfl) (by kernel_rfl) (fun _ _ _ _ h => h) (by rfl) (by rfl) ?_; apply Exists.intro; apply And.intro; (intro w; go_simp; try with_reducible rfl); go_frame)
              (refine regP 1 hS (fun _ h => h) rfl (by kernel_rfl) (by kernel_rfl) (by kernel_rfl) (fun _ _ _ _ h => h) (by rfl) (by rfl) ?_; apply Exists.intro; apply And.intro; (intro w; go_simp; try with_reducible rfl); go_frame)
              (refine regP 2 hS (fun _ h => h) rfl (by kernel_rfl) (by kernel_rfl) (by kernel_rfl) (fun _ _ _ _ h => h) (by rfl) (by rfl) ?_; apply Exists.intro; apply And.intro; (intro w; go_simp; try with_reducible rfl); go_frame)
              (refine regP 3 hS (fun _ h => h) rfl (by kernel_rfl) (by kernel_rfl) (by kernel_rfl) (fun _ _ _ _ h => h) (by rfl) (by rfl) ?_; apply Exists.intro; apply And.intro; (intro w; go_simp; try with_reducible rfl); go_frame)
              (refine regP 4 hS (fun _ h => h) rfl (by kernel_rfl) (by kernel_rfl) (by kernel_rfl) (fun _ _ _ _ h => h) (by rfl) (by rfl) ?_; apply Exists.intro; apply And.intro; (intro w; go_simp; try with_reducible rfl); go_frame)
              (first | (refine regP 5 hS (fun _ h => h) rfl (by kernel_rfl) (by kernel_rfl) (by kernel_rfl) (fun _ _ _ _ h => h) (by rfl) (by rfl) ?_; apply Exists.intro; apply And.intro; (intro w; go_simp; try with_reducible rfl); go_frame) | (refine regN 5 hS (fun _ h => h) rfl (by kernel_rfl) (by kernel_rfl) (by kernel_rfl) (fun _ _ _ h => h) (by rfl) (by rfl) ?_; go_frame))
              (first | (refine regP 6 hS (fun _ h => h) rfl (by kernel_rfl) (by kernel_rfl) (by kernel_rfl) (fun _ _ _ _ h => h) (by rfl) (by rfl) ?_; apply Exists.intro; apply And.intro; (intro w; go_simp; try with_reducible rfl); go_frame) | (refine regN 6 hS (fun _ h => h) rfl (by kernel_rfl) (by kernel_rfl) (by kernel_rfl) (fun _ _ _ h => h) (by rfl) (by rfl) ?_; go_frame))
              (first | (refine regP 7 hS (fun _ h => h) rfl (by kernel_rfl) (by kernel_rfl) (by kernel_rfl) (fun _ _ _ _ h => h) (by rfl) (by rfl) ?_; apply Exists.intro; apply And.intro; (intro w; go_simp; try with_reducible rfl); go_frame) | (refine regN 7 hS (fun _ h => h) rfl (by kernel_rfl) (by kernel_rfl) (by kernel_rfl) (fun _ _ _ h => h) (by rfl) (by rfl) ?_; go_frame))
              (first | (refine regR 8 hS (fun _ h => h) rfl (by kernel_rfl) (by kernel_rfl) (by kernel_rfl) (by kernel_rfl) (by kernel_rfl) (fun _ _ _ _ h => h) (by rfl) (by rfl) ?_; ((first
                                            | refine ⟨.int .i64 (x : Int), yLdSl _ _ (by rfl) _ _ (by rfl) (agOf (by rfl)) Has.z (i) (by omega) HX.out, ?_⟩
                                            | refine ⟨.int .i64 (y0 : Int), yLdSl _ _ (by rfl) _ _ (by rfl) (agOf (by rfl)) Has.z j (by omega) HY0.out, ?_⟩
                                            | refine ⟨_, yLdSl _ _ (by rfl) _ _ (by rfl) (agOf (by rfl)) (Has.s Has.z) k (by omega) HY.out, ?_⟩)); go_frame) | (refine regN 8 hS (fun _ h => h) rfl (by kernel_rfl) (by kernel_rfl) (by kernel_rfl) (fun _ _ _ h => h) (by rfl) (by rfl) ?_; go_frame))
              (first | (refine regP 9 hS (fun _ h => h) rfl (by kernel_rfl) (by kernel_rfl) (by kernel_rfl) (fun _ _ _ _ h => h) (by rfl) (by rfl) ?_; apply Exists.intro; apply And.intro; (intro w; go_simp; try with_reducible rfl); go_frame) | (refine regN 9 hS (fun _ h => h) rfl (by kernel_rfl) (by kernel_rfl) (by kernel_rfl) (fun _ _ _ h => h) (by rfl) (by rfl) ?_; go_frame))
              (first | (refine regP 10 hS (fun _ h => h) rfl (by kernel_rfl) (by kernel_rfl) (by kernel_rfl) (fun _ _ _ _ h => h) (by rfl) (by rfl) ?_; apply Exists.intro; apply And.intro; (intro w; go_simp; try with_reducible rfl); go_frame) | (refine regN 10 hS (fun _ h => h) rfl (by kernel_rfl) (by kernel_rfl) (by kernel_rfl) (fun _ _ _ h => h) (by rfl) (by rfl) ?_; go_frame))
              (first | (refine regP 11 hS (fun _ h => h) rfl (by kernel_rfl) (by kernel_rfl) (by kernel_rfl) (fun _ _ _ _ h => h) (by rfl) (by rfl) ?_; apply Exists.intro; apply And.intro; (intro w; go_simp; try with_reducible rfl); go_frame) | (refine regN 11 hS (fun _ h => h) rfl (by kernel_rfl) (by kernel_rfl) (by kernel_rfl) (fun _ _ _ h => h) (by rfl) (by rfl) ?_; go_frame))
              (first | (refine regR 12 hS (fun _ h => h) rfl (by kernel_rfl) (by kernel_rfl) (by kernel_rfl) (by kernel_rfl) (by kernel_rfl) (fun _ _ _ _ h => h) (by rfl) (by rfl) ?_; ((first
                                            | refine ⟨.int .i64 (x : Int), yLdSl _ _ (by rfl) _ _ (by rfl) (agOf (by rfl)) Has.z (i) (by omega) HX.out, ?_⟩
                                            | refine ⟨.int .i64 (y0 : Int), yLdSl _ _ (by rfl) _ _ (by rfl) (agOf (by rfl)) Has.z j (by omega) HY0.out, ?_⟩
                                            | refine ⟨_, yLdSl _ _ (by rfl) _ _ (by rfl) (agOf (by rfl)) (Has.s Has.z) k (by omega) HY.out, ?_⟩)); go_frame) | (refine regN 12 hS (fun _ h => h) rfl (by kernel_rfl) (by kernel_rfl) (by kernel_rfl) (fun _ _ _ h => h) (by rfl) (by rfl) ?_; go_frame))
              (first | (refine regP 13 hS (fun _ h => h) rfl (by kernel_rfl) (by kernel_rfl) (by kernel_rfl) (fun _ _ _ _ h => h) (by rfl) (by rfl) ?_; apply Exists.intro; apply And.intro; (intro w; go_simp; try with_reducible rfl); go_frame) | (refine regN 13 hS (fun _ h => h) rfl (by kernel_rfl) (by kernel_rfl) (by kernel_rfl) (fun _ _ _ h => h) (by rfl) (by rfl) ?_; go_frame))
              (refine regP 14 hS (fun _ h => h) rfl (by kernel_rfl) (by kernel_rfl) (by kernel_rfl) (fun _ _ _ _ h => h) (by rfl) (by rfl) ?_; apply Exists.intro; apply And.intro; (intro w; go_simp; try with_reducible rfl); go_frame)
              refine regDone (by kernel_rfl) ?_
              go_wp2
              exact ⟨⟨k, (i) + 1, by go_num, by go_num, HLT.out, HKL.out, HN.out, hS⟩, by simp [intOf]; have := HLT.out; omega⟩
            · have q1 : (k : Int) < (A.length : Int) := by omega
              obtain ⟨ba, oa, rfl⟩ := Sat.irAddr (k := 1) hS rfl rfl (by omega)
              have HY := Lib.hid (iv_at hy)
              have HN := Lib.hid hn
              have q4 : ((y : Int) == (x : Int)) = false := beq_eq_false_iff_ne.2 (by omega)
              have q5 : (y == x) = false := beq_eq_false_iff_ne.2 hne
              have q6 : ¬ (y : Int) = (x : Int) := by omega
              clear hkl hy hn
              go_wp2
              refine regStart [] hS (by kernel_rfl) rfl ?_
              intro w1 hS1
              clear hS; have hS := hS1; clear hS1
              (refine regP 0 hS (fun _ h => h) rfl (by kernel_rfl) (by kernel_rfl) (by kernel_rfl) (fun _ _ _ _ h => h) (by rfl) (by rfl) ?_; apply Exists.intro; apply And.intro; (intro w; go_simp; try with_reducible rfl); go_frame)
              (refine regP 1 hS (fun _ h => h) rfl (by kernel_rfl) (by kernel_rfl) (by kernel_rfl) (fun _ _ _ _ h => h) (by rfl) (by rfl) ?_; apply Exists.intro; apply And.intro; (intro w; go_simp; try with_reducible rfl); go_frame)
              (refine regP 2 hS (fun _ h => h) rfl (by kernel_rfl) (by kernel_rfl) (by kernel_rfl) (fun _ _ _ _ h => h) (by rfl) (by rfl) ?_; apply Exists.intro; apply And.intro; (intro w; go_simp; try with_reducible rfl); go_frame)
              (first | (refine regP 3 hS (fun _ h => h) rfl (by kernel_rfl) (by kernel_rfl) (by kernel_rfl) (fun _ _ _ _ h => h) (by rfl) (by rfl) ?_; apply Exists.intro; apply And.intro; (intro w; go_simp; try with_reducible rfl); go_frame) | (refine regN 3 hS (fun _ h => h) rfl (by kernel_rfl) (by kernel_rfl) (by kernel_rfl) (fun _ _ _ h => h) (by rfl) (by rfl) ?_; go_frame))
              (first | (refine regP 4 hS (fun _ h => h) rfl (by kernel_rfl) (by kernel_rfl) (by kernel_rfl) (fun _ _ _ _ h => h) (by rfl) (by rfl) ?_; apply Exists.intro; apply And.intro; (intro w; go_simp; try with_reducible rfl); go_frame) | (refine regN 4 hS (fun _ h => h) rfl (by kernel_rfl) (by kernel_rfl) (by kernel_rfl) (fun _ _ _ h => h) (by rfl) (by rfl) ?_; go_frame))
              (first | (refine regP 5 hS (fun _ h => h) rfl (by kernel_rfl) (by kernel_rfl) (by kernel_rfl) (fun _ _ _ _ h => h) (by rfl) (by rfl) ?_; apply Exists.intro; apply And.intro; (intro w; go_simp; try with_reducible rfl); go_frame) | (refine regN 5 hS (fun _ h => h) rfl (by kernel_rfl) (by kernel_rfl) (by kernel_rfl) (fun _ _ _ h => h) (by rfl) (by rfl) ?_; go_frame))
              (first | (refine regR 6 hS (fun _ h => h) rfl (by kernel_rfl) (by kernel_rfl) (by kernel_rfl) (by kernel_rfl) (by kernel_rfl) (fun _ _ _ _ h => h) (by rfl) (by rfl) ?_; ((first
                                            | refine ⟨.int .i64 (x : Int), yLdSl _ _ (by rfl) _ _ (by rfl) (agOf (by rfl)) Has.z (i) (by omega) HX.out, ?_⟩
                                            | refine ⟨.int .i64 (y0 : Int), yLdSl _ _ (by rfl) _ _ (by rfl) (agOf (by rfl)) Has.z j (by omega) HY0.out, ?_⟩
                                            | refine ⟨_, yLdSl _ _ (by rfl) _ _ (by rfl) (agOf (by rfl)) (Has.s Has.z) k (by omega) HY.out, ?_⟩)); go_frame) | (refine regN 6 hS (fun _ h => h) rfl (by kernel_rfl) (by kernel_rfl) (by kernel_rfl) (fun _ _ _ h => h) (by rfl) (by rfl) ?_; go_frame))
              (first | (refine regP 7 hS (fun _ h => h) rfl (by kernel_rfl) (by kernel_rfl) (by kernel_rfl) (fun _ _ _ _ h => h) (by rfl) (by rfl) ?_; apply Exists.intro; apply And.intro; (intro w; go_simp; try with_reducible rfl); go_frame) | (refine regN 7 hS (fun _ h => h) rfl (by kernel_rfl) (by kernel_rfl) (by kernel_rfl) (fun _ _ _ h => h) (by rfl) (by rfl) ?_; go_frame))
              (first | (refine regP 8 hS (fun _ h => h) rfl (by kernel_rfl) (by kernel_rfl) (by kernel_rfl) (fun _ _ _ _ h => h) (by rfl) (by rfl) ?_; apply Exists.intro; apply And.intro; (intro w; go_simp; try with_reducible rfl); go_frame) | (refine regN 8 hS (fun _ h => h) rfl (by kernel_rfl) (by kernel_rfl) (by kernel_rfl) (fun _ _ _ h => h) (by rfl) (by rfl) ?_; go_frame))
              (first | (refine regP 9 hS (fun _ h => h) rfl (by kernel_rfl) (by kernel_rfl) (by kernel_rfl) (fun _ _ _ _ h => h) (by rfl) (by rfl) ?_; apply Exists.intro; apply And.intro; (intro w; go_simp; try with_reducible rfl); go_frame; try simp (disch := omega) only [IntWalk.i64_in]) | (refine regN 9 hS (fun _ h => h) rfl (by kernel_rfl) (by kernel_rfl) (by kernel_rfl) (fun _ _ _ h => h) (by rfl) (by rfl) ?_; go_frame))
              (first | (refine regP 10 hS (fun _ h => h) rfl (by kernel_rfl) (by kernel_rfl) (by kernel_rfl) (fun _ _ _ _ h => h) (by rfl) (by rfl) ?_; apply Exists.intro; apply And.intro; (intro w; go_simp; try with_reducible rfl); go_frame) | (refine regN 10 hS (fun _ h => h) rfl (by kernel_rfl) (by kernel_rfl) (by kernel_rfl) (fun _ _ _ h => h) (by rfl) (by rfl) ?_; go_frame))
              (first | (refine regR 11 hS (fun _ h => h) rfl (by kernel_rfl) (by kernel_rfl) (by kernel_rfl) (by kernel_rfl) (by kernel_rfl) (fun _ _ _ _ h => h) (by rfl) (by rfl) ?_; ((first
                                            | refine ⟨.int .i64 (x : Int), yLdSl _ _ (by rfl) _ _ (by rfl) (agOf (by rfl)) Has.z (i) (by omega) HX.out, ?_⟩
                                            | refine ⟨.int .i64 (y0 : Int), yLdSl _ _ (by rfl) _ _ (by rfl) (agOf (by rfl)) Has.z j (by omega) HY0.out, ?_⟩
                                            | refine ⟨_, yLdSl _ _ (by rfl) _ _ (by rfl) (agOf (by rfl)) (Has.s Has.z) k (by omega) HY.out, ?_⟩)); go_frame) | (refine regN 11 hS (fun _ h => h) rfl (by kernel_rfl) (by kernel_rfl) (by kernel_rfl) (fun _ _ _ h => h) (by rfl) (by rfl) ?_; go_frame))
              (first | (refine regP 12 hS (fun _ h => h) rfl (by kernel_rfl) (by kernel_rfl) (by kernel_rfl) (fun _ _ _ _ h => h) (by rfl) (by rfl) ?_; apply Exists.intro; apply And.intro; (intro w; go_simp; try with_reducible rfl); go_frame) | (refine regN 12 hS (fun _ h => h) rfl (by kernel_rfl) (by kernel_rfl) (by kernel_rfl) (fun _ _ _ h => h) (by rfl) (by rfl) ?_; go_frame))
              (refine regP 13 hS (fun _ h => h) rfl (by kernel_rfl) (by kernel_rfl) (by kernel_rfl) (fun _ _ _ _ h => h) (by rfl) (by rfl) ?_; apply Exists.intro; apply And.intro; (intro w; go_simp; try with_reducible rfl); go_frame)
              refine regDone (by kernel_rfl) ?_
              go_wp2
              refine regStart [] hS (by kernel_rfl) rfl ?_
              intro w1 hS1
              clear hS; have hS := hS1; clear hS1
              (refine regP 0 hS (fun _ h => h) rfl (by kernel_rfl) (by kernel_rfl) (by kernel_rfl) (fun _ _ _ _ h => h) (by rfl) (by rfl) ?_; apply Exists.intro; apply And.intro; (intro w; go_simp; try with_reducible rfl); go_frame)
              (refine regP 1 hS (fun _ h => h) rfl (by kernel_rfl) (by kernel_rfl) (by kernel_rfl) (fun _ _ _ _ h => h) (by rfl) (by rfl) ?_; apply Exists.intro; apply And.intro; (intro w; go_simp; try with_reducible rfl); go_frame)
              (refine regP 2 hS (fun _ h => h) rfl (by kernel_rfl) (by kernel_rfl) (by kernel_rfl) (fun _ _ _ _ h => h) (by rfl) (by rfl) ?_; apply Exists.intro; apply And.intro; (intro w; go_simp; try with_reducible rfl); go_frame)
              (refine regP 3 hS (fun _ h => h) rfl (by kernel_rfl) (by kernel_rfl) (by kernel_rfl) (fun _ _ _ _ h => h) (by rfl) (by rfl) ?_; apply Exists.intro; apply And.intro; (intro w; go_simp; try with_reducible rfl); go_frame)
              (refine regP 4 hS (fun _ h => h) rfl (by kernel_rfl) (by kernel_rfl) (by kernel_rfl) (fun _ _ _ _ h => h) (by rfl) (by rfl) ?_; apply Exists.intro; apply And.intro; (intro w; go_simp; try with_reducible rfl); go_frame)
              (first | (refine regP 5 hS (fun _ h => h) rfl (by kernel_rfl) (by kernel_rfl) (by kernel_rfl) (fun _ _ _ _ h => h) (by rfl) (by rfl) ?_; apply Exists.intro; apply And.intro; (intro w; go_simp; try with_reducible rfl); go_frame) | (refine regN 5 hS (fun _ h => h) rfl (by kernel_rfl) (by kernel_rfl) (by kernel_rfl) (fun _ _ _ h => h) (by rfl) (by rfl) ?_; go_frame))
              (first | (refine regP 6 hS (fun _ h => h) rfl (by kernel_rfl) (by kernel_rfl) (by kernel_rfl) (fun _ _ _ _ h => h) (by rfl) (by rfl) ?_; apply Exists.intro; apply And.intro; (intro w; go_simp; try with_reducible rfl); go_frame) | (refine regN 6 hS (fun _ h => h) rfl (by kernel_rfl) (by kernel_rfl) (by kernel_rfl) (fun _ _ _ h => h) (by rfl) (by rfl) ?_; go_frame))
              (first | (refine regP 7 hS (fun _ h => h) rfl (by kernel_rfl) (by kernel_rfl) (by kernel_rfl) (fun _ _ _ _ h => h) (by rfl) (by rfl) ?_; apply Exists.intro; apply And.intro; (intro w; go_simp; try with_reducible rfl); go_frame) | (refine regN 7 hS (fun _ h => h) rfl (by kernel_rfl) (by kernel_rfl) (by kernel_rfl) (fun _ _ _ h => h) (by rfl) (by rfl) ?_; go_frame))
              (first | (refine regR 8 hS (fun _ h => h) rfl (by kernel_rfl) (by kernel_rfl) (by kernel_rfl) (by kernel_rfl) (by kernel_rfl) (fun _ _ _ _ h => h) (by rfl) (by rfl) ?_; ((first
                                            | refine ⟨.int .i64 (x : Int), yLdSl _ _ (by rfl) _ _ (by rfl) (agOf (by rfl)) Has.z (i) (by omega) HX.out, ?_⟩
                                            | refine ⟨.int .i64 (y0 : Int), yLdSl _ _ (by rfl) _ _ (by rfl) (agOf (by rfl)) Has.z j (by omega) HY0.out, ?_⟩
                                            | refine ⟨_, yLdSl _ _ (by rfl) _ _ (by rfl) (agOf (by rfl)) (Has.s Has.z) k (by omega) HY.out, ?_⟩)); go_frame) | (refine regN 8 hS (fun _ h => h) rfl (by kernel_rfl) (by kernel_rfl) (by kernel_rfl) (fun _ _ _ h => h) (by rfl) (by rfl) ?_; go_frame))
              (first | (refine regP 9 hS (fun _ h => h) rfl (by kernel_rfl) (by kernel_rfl) (by kernel_rfl) (fun _ _ _ _ h => h) (by rfl) (by rfl) ?_; apply Exists.intro; apply And.intro; (intro w; go_simp; try with_reducible rfl); go_frame) | (refine regN 9 hS (fun _ h => h) rfl (by kernel_rfl) (by kernel_rfl) (by kernel_rfl) (fun _ _ _ h => h) (by rfl) (by rfl) ?_; go_frame))
              (first | (refine regP 10 hS (fun _ h => h) rfl (by kernel_rfl) (by kernel_rfl) (by kernel_rfl) (fun _ _ _ _ h => h) (by rfl) (by rfl) ?_; apply Exists.intro; apply And.intro; (intro w; go_simp; try with_reducible rfl); go_frame) | (refine regN 10 hS (fun _ h => h) rfl (by kernel_rfl) (by kernel_rfl) (by kernel_rfl) (fun _ _ _ h => h) (by rfl) (by rfl) ?_; go_frame))
              (first | (refine regP 11 hS (fun _ h => h) rfl (by kernel_rfl) (by kernel_rfl) (by kernel_rfl) (fun _ _ _ _ h => h) (by rfl) (by rfl) ?_; apply Exists.intro; apply And.intro; (intro w; go_simp; try with_reducible rfl); go_frame) | (refine regN 11 hS (fun _ h => h) rfl (by kernel_rfl) (by kernel_rfl) (by kernel_rfl) (fun _ _ _ h => h) (by rfl) (by rfl) ?_; go_frame))
              (first | (refine regR 12 hS (fun _ h => h) rfl (by kernel_rfl) (by kernel_rfl) (by kernel_rfl) (by kernel_rfl) (by kernel_rfl) (fun _ _ _ _ h => h) (by rfl) (by rfl) ?_; ((first
                                            | refine ⟨.int .i64 (x : Int), yLdSl _ _ (by rfl) _ _ (by rfl) (agOf (by rfl)) Has.z (i) (by omega) HX.out, ?_⟩
                                            | refine ⟨.int .i64 (y0 : Int), yLdSl _ _ (by rfl) _ _ (by rfl) (agOf (by rfl)) Has.z j (by omega) HY0.out, ?_⟩
                                            | refine ⟨_, yLdSl _ _ (by rfl) _ _ (by rfl) (agOf (by rfl)) (Has.s Has.z) k (by omega) HY.out, ?_⟩)); go_frame) | (refine regN 12 hS (fun _ h => h) rfl (by kernel_rfl) (by kernel_rfl) (by kernel_rfl) (fun _ _ _ h => h) (by rfl) (by rfl) ?_; go_frame))
              (first | (refine regP 13 hS (fun _ h => h) rfl (by kernel_rfl) (by kernel_rfl) (by kernel_rfl) (fun _ _ _ _ h => h) (by rfl) (by rfl) ?_; apply Exists.intro; apply And.intro; (intro w; go_simp; try with_reducible rfl); go_frame) | (refine regN 13 hS (fun _ h => h) rfl (by kernel_rfl) (by kernel_rfl) (by kernel_rfl) (fun _ _ _ h => h) (by rfl) (by rfl) ?_; go_frame))
              (refine regP 14 hS (fun _ h => h) rfl (by kernel_rfl) (by kernel_rfl) (by kernel_rfl) (fun _ _ _ _ h => h) (by rfl) (by rfl) ?_; apply Exists.intro; apply And.intro; (intro w; go_simp; try with_reducible rfl); go_frame)
              refine regDone (by kernel_rfl) ?_
              go_wp2
              exact ⟨⟨k, (i) + 1, by go_num, by go_num, HLT.out, HKL.out, HN.out, hS⟩, by simp [intOf]; have := HLT.out; omega⟩
        · obtain rfl : i = B.length := by omega
          have k1 : ¬ (B.length : Int) < (B.length : Int) := by omega
          obtain rfl := HM.out.done hk HFI.out
          have e1 : ((A.length : Int) == (A.length : Int)) = true := beq_self_eq_true _
          clear hi hk hlt
          go_wp2_with (go_at_call 15; refine (awake_any hS).mono ?_; rintro e w1 ⟨rfl, hS1⟩; clear hS; have hS := hS1; clear hS1)
          go_ret
          exact ⟨rfl, sat_nil hS⟩

set_option maxRecDepth 100000 in
theorem More.contract (H : Type) (enc : TypeId × Value → H) (W : World) (base : Nat) (args : Array Value) (ds gs : List (DataW H)) (before : List MemPlace)
    (hval : ∀ (j : Nat) t v, Try.f7.params[j]? = some t → args[j]? = some v → Value.okWide Try.prog W .any base t v)
    (hW : DataW.Whole enc Try.prog Try.f7.params.toList Rows.queryMoreSpec.vars false W args.toList ds gs before)
    (hreach : (DataW.weightsEach Try.prog (Try.f7.params.toList ++ Rows.queryMoreSpec.plain.varTypes Try.prog) (ds ++ gs)).all (· ≤ reachBytes) = true) :
    Calls Try.prog 7 args W fun e W' => ∃ v, e = .returned v ∧ Rows.queryMoreSpec.post enc Try.prog Try.f7 false true false false W args v W' := by
  have hW' := hW
  obtain ⟨p, q, hA, hV, rfl, hfz, hnd⟩ := hW
  rw [Try.params7] at hA hval hreach
  obtain ⟨v0, vs0, d0, ds0, p0, q0, hargs, rfl, rfl, h0, r0⟩ := trodAll_cons hA
  obtain ⟨v1, vs1, d1, ds1, p1, q1, rfl, rfl, rfl, h1, r1⟩ := trodAll_cons r0
  obtain ⟨v2, vs2, d2, ds2, p2, q2, rfl, rfl, rfl, h2, r2⟩ := trodAll_cons r1
  obtain ⟨v3, vs3, d3, ds3, p3, q3, rfl, rfl, rfl, h3, r3⟩ := trodAll_cons r2
  obtain ⟨rfl, rfl, rfl⟩ := trodAll_nil r3
  obtain rfl : args = #[v0, v1, v2, v3] := by cases args; simp_all
  obtain ⟨rfl, rfl⟩ := trodVars_none hV
  obtain ⟨ao0, l0, c0, rfl⟩ := okWide_slice Try.underlying35 (hval 0 35 v0 rfl rfl)
  obtain ⟨ao2, l2, c2, rfl⟩ := okWide_slice Try.underlying32 (hval 2 32 v2 rfl rfl)
  obtain ⟨a3, rfl, rfl, rfl, w3⟩ := open_int Try.underlying3 (hval 3 3 v3 rfl rfl) h3
  obtain ⟨l, rfl, hr, _⟩ := open_gops h0
  obtain ⟨q, rfl, hq⟩ := open_q (hval 1 49 v1 rfl rfl) h1
  obtain ⟨fl, rfl, hf, _, _⟩ := open_nums Try.underlying32 Try.underlying3 (by kernel_rfl) h2
  refine (More.walk l ao0 c0 q fl ao2 c2 a3 W hr hq hf).mono ?_
  refine fun e W' ⟨he, hS⟩ => ?_
  subst he
  exact ⟨_, rfl, law_post (tb := 4) (by kernel_rfl) (by kernel_rfl) rfl Try.underlying4 rfl hW' rfl hS⟩

theorem More.own : ownKnob Try.prog.godebug = none := by kernel_rfl
set_option maxRecDepth 100000 in
theorem More.lifted (os : Os) (started : os.Started) (H : Type) (enc : TypeId × Value → H) :
    ReturnsInHanded {} Try.checked os 7 .any (Rows.queryMoreSpec.pre6 enc Try.prog Try.f7 Rows.queryMoreRow.domain false) (Rows.queryMoreSpec.post enc Try.prog Try.f7 false true false false) := by
  refine returnsInHanded_of_change_shaped (C := Try.checked) More.own started (by kernel_rfl) Try.func7
    (ChangeSpec.witness6 (enc := enc) (C := Try.checked) false ⟨#[], #[.slice none 0 0, .agg #[.int .i64 0, .int .i64 0, .slice none 0 0], .slice none 0 0, .int .i64 0], []⟩ 8 (by kernel_rfl) (by kernel_rfl) (by kernel_rfl) (by kernel_rfl)) ?_
  intro W base args ds gs before hval hW _ hreach _ _
  exact More.contract H enc W base args ds gs before hval hW hreach

theorem More.holds : Rows.QueryMoreSaid :=
  OpenClaim.holds_of_wide 7 Try.f7 rfl rfl rfl rfl rfl rfl rfl ⟨rfl, rfl, rfl, rfl, rfl⟩ rfl rfl rfl rfl rfl (by kernel_rfl) Try.func7 (by kernel_rfl)
    (of_decide_eq_true (by kernel_rfl)) (by unfold Func.isWrapper; first | (rw [if_pos (by decide +kernel)]; kernel_rfl) | (rw [if_neg (by decide +kernel)]; exact ⟨rfl, rfl⟩))
    (fun os started H enc _ => More.lifted os started H enc)
end Go.Proofs.Ytpnbdnfgdiakhaa
