/-
  For all calls, QueryKinds answers true: no condition.
-/
import Derived.Test.YtpnbdnfgdiakhaaQuKindP
namespace Go.Proofs.Ytpnbdnfgdiakhaa
open Go.RowKit Go.Sep Go.ChangeShapes Go.WideShapes Go.ChangeAt
set_option linter.unusedSimpArgs false
set_option linter.unusedVariables false
attribute [local irreducible] Go.Oper.wp Go.wpList Go.Calls Go.Code.wp Go.Sep.Reg
attribute [local irreducible] IsG
theorem sat_nilK {W w : World} : ∀ {L : List Asrt}, Sat W w L → Sat W w []
  | [], h => h
  | _ :: _, h => sat_nilK h.drop
theorem ivz_iv (l : List Nat) : ivz (l.map fun (n : Nat) => (n : Int)) = iv l := by simp [ivz, iv]
/-- A question without kids, asked of all nodes. -/
theorem listK_any {W w : World} {M : List Asrt} {p : Nat} {G : Gr} {va : Value} (hG : G.Ok) (hA : G.Acyc) (o n : Int) (l : List Nat) (hS : Sat W w (IsG p G :: Ir va l :: M)) :
    Calls Try.prog 20 #[.pointer (some ⟨p, 0, none⟩), .agg #[.int .i64 o, .int .i64 n, .slice none 0 0], va] w fun e w' => ∃ ao c, e = .returned (.slice ao (qlist G (leafQ o n) (l.map fun (n : Nat) => (n : Int))).length c) ∧ (qlist G (leafQ o n) (l.map fun (n : Nat) => (n : Int)) = [] → ao = none) ∧ Sat W w' (Ir (.slice ao (qlist G (leafQ o n) (l.map fun (n : Nat) => (n : Int))).length c) (qlist G (leafQ o n) (l.map fun (n : Nat) => (n : Int))) :: IsG p G :: Ir va l :: M) := by
  have := list_any hS hG hA (leafQ o n) (fun w L' _ => leaf_rd o n w 11) (l.map fun (n : Nat) => (n : Int)) va (fun w L' h => by
    rw [ivz_iv, List.length_map]
    exact h.irRd (has_app _ _ _))
  refine this.mono ?_
  rintro e w' ⟨v, he, hs⟩
  obtain ⟨h1, h2⟩ := irnOpen hs
  obtain ⟨ao, c, rfl, _⟩ := h2.irShape (k := 0) rfl
  refine ⟨ao, c, he, fun h => ?_, h2⟩
  have := h1 h
  simp only [Value.slice.injEq] at this
  exact this.1
theorem listNone_any {W w : World} {L : List Asrt} {p : Nat} {G : Gr} (hG : G.Ok) (hA : G.Acyc) (hS : Sat W w (IsG p G :: L)) :
    Calls Try.prog 20 #[.pointer (some ⟨p, 0, none⟩), .agg #[.int .i64 1, .int .i64 0, .slice none 0 0], .slice none 0 0] w fun e w' => ∃ ao c, e = .returned (.slice ao 0 c) ∧ Sat W w' (IsG p G :: L) := by
  have := list_any hS hG hA (leafQ 1 0) (fun w L' _ => leaf_rd 1 0 w 11) [] (.slice none 0 0) (fun w L' _ => ⟨none, 0, rfl, Nat.le_refl _, by decide, rfl, fun h => absurd h (by simp)⟩)
  rw [none_list] at this
  refine this.mono ?_
  rintro e w' ⟨v, rfl, hs⟩
  obtain ⟨_, h2⟩ := irnOpen hs
  obtain ⟨ao, c, rfl, _⟩ := h2.irShape (k := 0) rfl
  exact ⟨ao, c, rfl, h2.drop⟩
theorem node_is {W w : World} {L : List Asrt} {p : Nat} {G : Gr} (hS : Sat W w (IsG p G :: L)) {n : Nat} (hn : n < G.N.length) {o : Bool} (ho : (G.nodeI (n : Int)).orph = o) :
    Calls Try.prog 22 #[.pointer (some ⟨p, 0, none⟩), .int .i64 (n : Int)] w fun e w' => ∃ a b c d f, e = .returned (.tuple #[.agg (nv ⟨a, b, c, d, f, o⟩).toArray, .bool true]) ∧ Sat W w' (IsG p G :: L) := by
  have := node_any hS (n : Int)
  rw [Gr.is_mk hn] at this
  refine this.mono ?_
  rintro e w' ⟨rfl, h⟩
  cases hd : G.nodeI (n : Int) with
  | mk a b c d f o2 =>
    rw [hd] at ho
    simp only at ho
    subst ho
    exact ⟨a, b, c, d, f, rfl, h⟩
set_option maxRecDepth 20000 in
set_option maxHeartbeats 8000000 in
theorem Kinds.walk (l : List GOpD) (ao : Option Addr) (c : Nat) (W : World) (hr : Rd W (.slice ao l.length c) l.length 3 (l.flatMap gov)) :
    Calls Try.prog 8 #[.slice ao l.length c] W fun e W' => e = .returned (.bool true) ∧ Sat W W' [] := by
  have hS := Sat.start W
  have HGR := Lib.hid (fun w L (h : Sat W w L) => graphsI_any h l ao c (I := KindI) KindI.new (fun G x _ _ h => h.step x) (fun u hu => hr.old hu))
  clear hr
  go_enter Try.func8, Try.ntmps8
  go_wp2_with (go_at_call 16; refine (HGR.out _ _ hS).mono ?_; rintro e w1 ⟨p, q, G, rfl, hG, hA, hK, _, hn80, hS1⟩; have HG := Lib.hid hG; have HA := Lib.hid hA; have HK := Lib.hid hK; have HN80 := Lib.hid hn80; clear hG hA hK; clear hS; have hS := hS1; clear hS1)
  have hni : (G.N.length : Int) ≤ 80 := by omega
  have HLEN := Lib.hid (fun w L (h : Sat W w (IsG p G :: L)) => len_any h rfl)
  have H0 : Hid (Sat W _ [Ir (.slice none 0 0) (List.range 0), IsG p G, IsR q G]) := Lib.hid hS.irNil
  clear HGR hn80
  go_loopw [6, 7] (fun v6 v7 wz => ∃ i : Nat, v7 = .int .i64 i ∧ i ≤ G.N.length ∧ Sat W wz [Ir v6 (List.range i), IsG p G, IsR q G]) (fun _ v7 _ => G.N.length - (intOf v7).toNat)
  case atStart => exact ⟨0, rfl, by omega, H0.out⟩
  case round =>
    clear hS H0
    obtain ⟨i, rfl, hi, hS⟩ := hrel
    obtain ⟨aa, ca, rfl, _⟩ := hS.irShape (k := 0) rfl
    rw [List.length_range] at hS ⊢
    by_cases hlt : i < G.N.length
    · have k1 : (i : Int) < (G.N.length : Int) := by omega
      have HLT := Lib.hid hlt
      have HRN := Lib.hid (show List.range (i + 1) = List.range i ++ [i] from List.range_succ)
      have hil : (List.range i).length ≤ 80 := by rw [List.length_range]; have := HN80.out; omega
      obtain ⟨R, hR⟩ : ∃ R, List.range i = R := ⟨_, rfl⟩
      rw [hR] at hS HRN hil
      clear hlt hi hR
      go_wp2_with (first
        | (go_at_call 19; refine (HLEN.out _ _ (hS.re [1])).mono ?_; rintro e w1 ⟨rfl, rfl⟩)
        | (refine toList (by rfl) ?_; refine bsF hS _ _ _ (by rfl) (elOf (by rfl)) [.int .i64 i] (by rfl) (by rfl) (by decide) (by decide) (by simp [Value.cells]) ?_; intro b1 w1 hS1; clear hS; have hS := hS1; clear hS1; rw [sca1 rfl] at hS)
        | (refine toList (by rfl) ?_; refine apI (m := [i]) hS _ _ _ _ (by rfl) (by rfl) (by rfl) (elOf (by rfl)) (by rfl) (by rfl) (by rfl) (inOf (by rfl)) (Has.s Has.z) (by exact hS.csRd0 (n := 1) (sz := 1) Has.z (by decide) rfl) (by simp; omega) ?_; intro v1 w1 hS1; clear hS; have hS := hS1; clear hS1; dsimp only [List.set_cons_zero, List.set_cons_succ] at hS; rw [← HRN.out] at hS))
      exact ⟨⟨i + 1, by go_num, HLT.out, hS.drop⟩, by simp [intOf]; have := HLT.out; omega⟩
    · obtain rfl : i = G.N.length := by omega
      have k1 : ¬ (G.N.length : Int) < (G.N.length : Int) := by omega
      clear hi hlt
      go_wp2_with (first
        | (go_at_call 19; refine (HLEN.out _ _ (hS.re [1])).mono ?_; rintro e w1 ⟨rfl, rfl⟩)
        | (refine toList (by rfl) ?_; refine mk hS _ _ _ (by rfl) G.N.length G.N.length _ _ (by rfl) (by rfl) (elOf (by rfl)) (by omega) (by omega) (by omega) ?_; intro cb w1 hS1; clear hS; have hS := hS1; clear hS1; rw [made_int] at hS))
      have H1 : Hid (Sat W _ [Cs cb 3 (il (cntK G 1 [] 0) G.N.length), Ir (.slice aa G.N.length ca) (List.range G.N.length), IsG p G, IsR q G]) := Lib.hid (by
        rw [il_congr (f := cntK G 1 [] 0) (g := fun _ => 0) (fun n hn => cntK_zero HK.out hn)]
        exact hS)
      go_loopw [9] (fun v9 wz => ∃ k : Nat, v9 = .int .i64 k ∧ 1 ≤ k ∧ k ≤ 6 ∧ Sat W wz [Cs cb 3 (il (cntK G k [] 0) G.N.length), Ir (.slice aa G.N.length ca) (List.range G.N.length), IsG p G, IsR q G]) (fun v9 _ => 6 - (intOf v9).toNat)
      case atStart => exact ⟨1, rfl, by decide, by decide, H1.out⟩
      case round =>
        clear hS H1
        obtain ⟨k, rfl, hk1, hk6, hS⟩ := hrel
        by_cases hlt : k < 6
        · have k2 : (k : Int) ≤ 5 := by omega
          have HKB := Lib.hid (show 1 ≤ k ∧ k ≤ 5 by omega)
          have HLI := Lib.hid (fun w M (h : Sat W w (IsG p G :: Ir (.slice aa G.N.length ca) (List.range G.N.length) :: M)) => listK_any HG.out HA.out 3 (k : Int) (List.range G.N.length) h)
          have HM := Lib.hid (kind_list (G := G) k hk1 (by omega))
          obtain ⟨m, hm⟩ : ∃ m, qlist G (leafQ 3 (k : Int)) ((List.range G.N.length).map fun (n : Nat) => (n : Int)) = m := ⟨_, rfl⟩
          rw [hm] at HLI HM
          clear hk1 hk6 hlt hm
          go_wp2_with (go_at_call 20; refine (HLI.out _ _ (hS.re [2, 1])).mono ?_; rintro e w1 ⟨am, cm, rfl, _, hS1⟩; clear hS; have hS := (show Sat W w1 [Ir (.slice am m.length cm) m, IsG p G, Ir _ _, Cs cb _ _, IsR q G] from hS1); clear hS1)
          have hml : (m.length : Int) ≤ 80 := by rw [HM.out]; have := fltN_len G.N.length (fun n => (G.nodeI (n : Int)).kind = (k : Int)); have := HN80.out; omega
          have H2 : Hid (Sat W _ [Cs cb 3 (il (cntK G k m 0) G.N.length), Ir (.slice am m.length cm) m, Ir (.slice aa G.N.length ca) (List.range G.N.length), IsG p G, IsR q G]) := Lib.hid (by
            have e : cntK G k m 0 = cntK G k [] 0 := by funext n; unfold cntK; simp
            rw [e]
            exact hS.re [3, 0, 2, 1, 4])
          go_loopw [11] (fun v11 wz => ∃ i : Nat, v11 = .int .i64 i ∧ i ≤ m.length ∧ Sat W wz [Cs cb 3 (il (cntK G k m i) G.N.length), Ir (.slice am m.length cm) m, Ir (.slice aa G.N.length ca) (List.range G.N.length), IsG p G, IsR q G]) (fun v11 _ => m.length - (intOf v11).toNat)
          case atStart => exact ⟨0, rfl, by omega, H2.out⟩
          case round =>
            clear hS H2
            obtain ⟨i, rfl, hi, hS⟩ := hrel
            by_cases hlt : i < m.length
            · have k3 : (i : Int) < (m.length : Int) := by omega
              have HLT := Lib.hid hlt
              obtain ⟨bb, ob, rfl⟩ := Sat.irAddr (k := 1) hS rfl rfl (by omega)
              obtain ⟨x, hx⟩ : ∃ x, m[i]? = some x := ⟨_, List.getElem?_eq_getElem hlt⟩
              have hxm := List.mem_of_getElem? hx
              rw [HM.out] at hxm
              have hxN := (mem_fltN.1 hxm).1
              have k4 : (x : Int) < (G.N.length : Int) := by omega
              have k5 : ¬ (G.N.length : Int) ≤ (x : Int) := by omega
              have k6 : decide ((G.N.length : Int) ≤ (x : Int)) = false := decide_eq_false k5
              have k7 : decide (G.N.length ≤ x) = false := decide_eq_false (by omega)
              have HX := Lib.hid (iv_at hx)
              have HPUT := Lib.hid (cntK_put (G := G) (k := k) hx (by rw [HM.out]; exact (fltN_lt _ _).imp fun h => Nat.ne_of_lt h))
              have HCL := Lib.hid (cntK_le G k m i x)
              obtain ⟨cf, hcf⟩ : ∃ cf, cntK G k m i = cf := ⟨_, rfl⟩
              rw [hcf] at hS HPUT HCL
              have HC := Lib.hid (il_at (f := cf) hxN)
              have hc2 : (cf x : Int) ≤ 2 := by have := HCL.out; omega
              obtain ⟨cx, hcx⟩ : ∃ cx, cf x = cx := ⟨_, rfl⟩
              rw [hcx] at HC HPUT hc2
              have HXN := Lib.hid hxN
              clear hx hlt hi hxm hcf hcx hxN HCL
              go_wp2
              refine regStart [] hS (by kernel_rfl) rfl ?_
              intro w1 hS1
              clear hS; have hS := hS1; clear hS1
              (refine regP 0 hS (fun _ h => h) rfl (by kernel_rfl) (by kernel_rfl) (by kernel_rfl) (fun _ _ _ _ h => h) (by rfl) (by rfl) ?_; apply Exists.intro; apply And.intro; (intro w; go_simp; try with_reducible rfl); go_frame)
              (refine regP 1 hS (fun _ h => h) rfl (by kernel_rfl) (by kernel_rfl) (by kernel_rfl) (fun _ _ _ _ h => h) (by rfl) (by rfl) ?_; apply Exists.intro; apply And.intro; (intro w; go_simp; try with_reducible rfl); go_frame)
              (refine regP 2 hS (fun _ h => h) rfl (by kernel_rfl) (by kernel_rfl) (by kernel_rfl) (fun _ _ _ _ h => h) (by rfl) (by rfl) ?_; apply Exists.intro; apply And.intro; (intro w; go_simp; try with_reducible rfl); go_frame)
              (refine regR 3 hS (fun _ h => h) rfl (by kernel_rfl) (by kernel_rfl) (by kernel_rfl) (by kernel_rfl) (by kernel_rfl) (fun _ _ _ _ h => h) (by rfl) (by rfl) ?_; (refine ⟨.int .i64 (x : Int), yLdSl _ _ (by rfl) _ _ (by rfl) (agOf (by rfl)) (Has.s Has.z) i (by omega) HX.out, ?_⟩); go_frame)
              (refine regP 4 hS (fun _ h => h) rfl (by kernel_rfl) (by kernel_rfl) (by kernel_rfl) (fun _ _ _ _ h => h) (by rfl) (by rfl) ?_; apply Exists.intro; apply And.intro; (intro w; go_simp; try with_reducible rfl); go_frame)
              (refine regP 5 hS (fun _ h => h) rfl (by kernel_rfl) (by kernel_rfl) (by kernel_rfl) (fun _ _ _ _ h => h) (by rfl) (by rfl) ?_; apply Exists.intro; apply And.intro; (intro w; go_simp; try with_reducible rfl); go_frame)
              (first | (refine regP 6 hS (fun _ h => h) rfl (by kernel_rfl) (by kernel_rfl) (by kernel_rfl) (fun _ _ _ _ h => h) (by rfl) (by rfl) ?_; apply Exists.intro; apply And.intro; (intro w; go_simp; try with_reducible rfl); go_frame) | (refine regN 6 hS (fun _ h => h) rfl (by kernel_rfl) (by kernel_rfl) (by kernel_rfl) (fun _ _ _ h => h) (by rfl) (by rfl) ?_; go_frame))
              (first | (refine regP 7 hS (fun _ h => h) rfl (by kernel_rfl) (by kernel_rfl) (by kernel_rfl) (fun _ _ _ _ h => h) (by rfl) (by rfl) ?_; apply Exists.intro; apply And.intro; (intro w; go_simp; try with_reducible rfl); go_frame) | (refine regN 7 hS (fun _ h => h) rfl (by kernel_rfl) (by kernel_rfl) (by kernel_rfl) (fun _ _ _ h => h) (by rfl) (by rfl) ?_; go_frame))
              (first | (refine regP 8 hS (fun _ h => h) rfl (by kernel_rfl) (by kernel_rfl) (by kernel_rfl) (fun _ _ _ _ h => h) (by rfl) (by rfl) ?_; apply Exists.intro; apply And.intro; (intro w; go_simp; try with_reducible rfl); go_frame) | (refine regN 8 hS (fun _ h => h) rfl (by kernel_rfl) (by kernel_rfl) (by kernel_rfl) (fun _ _ _ h => h) (by rfl) (by rfl) ?_; go_frame))
              (first | (refine regR 9 hS (fun _ h => h) rfl (by kernel_rfl) (by kernel_rfl) (by kernel_rfl) (by kernel_rfl) (by kernel_rfl) (fun _ _ _ _ h => h) (by rfl) (by rfl) ?_; (refine ⟨.int .i64 (x : Int), yLdSl _ _ (by rfl) _ _ (by rfl) (agOf (by rfl)) (Has.s Has.z) i (by omega) HX.out, ?_⟩); go_frame) | (refine regN 9 hS (fun _ h => h) rfl (by kernel_rfl) (by kernel_rfl) (by kernel_rfl) (fun _ _ _ h => h) (by rfl) (by rfl) ?_; go_frame))
              (first | (refine regP 10 hS (fun _ h => h) rfl (by kernel_rfl) (by kernel_rfl) (by kernel_rfl) (fun _ _ _ _ h => h) (by rfl) (by rfl) ?_; apply Exists.intro; apply And.intro; (intro w; go_simp; try with_reducible rfl); go_frame) | (refine regN 10 hS (fun _ h => h) rfl (by kernel_rfl) (by kernel_rfl) (by kernel_rfl) (fun _ _ _ h => h) (by rfl) (by rfl) ?_; go_frame))
              (first | (refine regA 11 rfl (by kernel_rfl) (by rfl) (by rfl) false (by kernel_rfl) (fun K hK => ?_); ((refine Go.Sep.cl 19 _ _ (by rfl) (by rfl) (by kernel_rfl) (HLEN.out _ _ (hS.re [3])) ?_; rintro e w1 ⟨rfl, rfl⟩; refine ⟨_, rfl, ?_⟩)); refine hK _ _ _ hS (by first | (intro h; cases h; done) | exact fun _ _ h => h | exact fun _ _ h => h.drop | exact fun _ _ h => h.drop.drop | exact fun _ _ h => h.drop.pull1 | exact fun _ _ h => h.take2 | exact fun _ _ h => h.one Has.z | exact fun _ _ h => h.one (Has.s Has.z) | exact fun _ _ h => h.one (Has.s (Has.s Has.z))) ?_; clear hK K; go_frame) | (refine regN 11 hS (fun _ h => h) rfl (by kernel_rfl) (by kernel_rfl) (by kernel_rfl) (fun _ _ _ h => h) (by rfl) (by rfl) ?_; go_frame))
              (first | (refine regP 12 hS (fun _ h => h) rfl (by kernel_rfl) (by kernel_rfl) (by kernel_rfl) (fun _ _ _ _ h => h) (by rfl) (by rfl) ?_; apply Exists.intro; apply And.intro; (intro w; go_simp; try with_reducible rfl); go_frame) | (refine regN 12 hS (fun _ h => h) rfl (by kernel_rfl) (by kernel_rfl) (by kernel_rfl) (fun _ _ _ h => h) (by rfl) (by rfl) ?_; go_frame))
              (refine regP 13 hS (fun _ h => h) rfl (by kernel_rfl) (by kernel_rfl) (by kernel_rfl) (fun _ _ _ _ h => h) (by rfl) (by rfl) ?_; apply Exists.intro; apply And.intro; (intro w; go_simp; try with_reducible rfl); go_frame)
              refine regDone (by kernel_rfl) ?_
              go_wp2_with (first
                | (refine toList (by rfl) ?_; refine ldSl hS _ _ (by rfl) _ _ (by rfl) (agOf (by rfl)) (Has.s Has.z) i (by omega) HX.out ?_)
                | (refine toList (by rfl) ?_; refine ld hS _ _ (by rfl) _ _ (by rfl) (agOf (by rfl)) Has.z HC.out ?_)
                | (refine toList (by rfl) ?_; refine st hS _ _ _ (by rfl) _ _ (by rfl) (.int .i64 ((cx + 1 : Nat) : Int)) (by rfl) (by rfl) (szOf (by rfl)) Has.z (by rw [il_len]; exact HXN.out) ?_; intro w1 hS1; clear hS; have hS := hS1; clear hS1; dsimp only [List.set_cons_zero] at hS; rw [il_set _ HXN.out, HPUT.out] at hS))
              exact ⟨⟨i + 1, by go_num, HLT.out, hS⟩, by simp [intOf]; have := HLT.out; omega⟩
            · obtain rfl : i = m.length := by omega
              have k3 : ¬ (m.length : Int) < (m.length : Int) := by omega
              have HNX := Lib.hid (show il (cntK G k m m.length) G.N.length = il (cntK G (k + 1) [] 0) G.N.length from il_congr fun n hn => cntK_next hn HM.out)
              rw [HNX.out] at hS
              clear hi hlt
              go_wp2
              exact ⟨⟨k + 1, by go_num, by have := HKB.out; omega, by have := HKB.out; omega, (hS.re [0, 2, 3, 4, 1]).re [4] |>.drop⟩, by simp [intOf]; have := HKB.out; omega⟩
        · obtain rfl : k = 6 := by omega
          rw [il_congr (f := cntK G 6 [] 0) (g := fun _ => 1) (fun n hn => cntK_end HK.out hn)] at hS
          have HLI := Lib.hid (fun w M (h : Sat W w (IsG p G :: Ir (.slice aa G.N.length ca) (List.range G.N.length) :: M)) => listK_any HG.out HA.out 8 0 (List.range G.N.length) h)
          have HL0 := Lib.hid (fun w M (h : Sat W w (IsG p G :: M)) => listNone_any HG.out HA.out h)
          obtain ⟨lv, hlv⟩ : ∃ lv, liveN G G.N.length = lv := ⟨_, rfl⟩
          rw [live_list, show (fltN G.N.length fun n => (G.nodeI (n : Int)).orph = false) = lv from hlv] at HLI
          have HLV := Lib.hid hlv
          have hlv80 : (lv.length : Int) ≤ 80 := by rw [← hlv]; have := fltN_len G.N.length (fun n => (G.nodeI (n : Int)).orph = false); have := HN80.out; unfold liveN; omega
          clear hk1 hk6 hlt hlv
          go_wp2_with (go_at_call 20; refine (HLI.out _ _ (hS.re [2, 1])).mono ?_; rintro e w1 ⟨am, cm, rfl, _, hS1⟩; clear hS; have hS := (show Sat W w1 [Ir (.slice am lv.length cm) lv, IsG p G, Ir _ _, Cs cb _ _, IsR q G] from hS1); clear hS1)
          have H2 : Hid (Sat W _ [Ir (.slice am lv.length cm) lv, Cs cb 3 (il (fun _ => 1) G.N.length), Ir (.slice aa G.N.length ca) (List.range G.N.length), IsG p G, IsR q G]) := Lib.hid (hS.re [0, 3, 2, 1, 4])
          go_loopw [13, 14] (fun v13 v14 wz => ∃ n : Nat, v14 = .int .i64 (n : Int) ∧ v13 = .int .i64 ((liveN G n).length : Int) ∧ n ≤ G.N.length ∧ Sat W wz [Ir (.slice am lv.length cm) lv, Cs cb 3 (il (fun _ => 1) G.N.length), Ir (.slice aa G.N.length ca) (List.range G.N.length), IsG p G, IsR q G]) (fun _ v14 _ => G.N.length - (intOf v14).toNat)
          case atStart => exact ⟨0, rfl, by simp [liveN, fltN], by omega, H2.out⟩
          case round =>
            clear hS H2
            obtain ⟨n, rfl, rfl, hn, hS⟩ := hrel
            by_cases hlt : n < G.N.length
            · have k3 : (n : Int) < (G.N.length : Int) := by omega
              have HLT := Lib.hid hlt
              have HC := Lib.hid (show (il (fun _ => 1) G.N.length)[n]? = some (.int .i64 1) from il_at (f := fun _ => 1) hlt)
              cases ho : (G.nodeI (n : Int)).orph with
              | true =>
                have HND := Lib.hid (fun w M (h : Sat W w (IsG p G :: M)) => node_is h HLT.out ho)
                have HNO := Lib.hid (liveN_no ho)
                clear hlt hn ho
                obtain ⟨a, ha⟩ : ∃ a, (liveN G n).length = a := ⟨_, rfl⟩
                rw [ha]
                go_wp2_with ((first
                  | (go_at_call 19; refine (HLEN.out _ _ (hS.re [3])).mono ?_; rintro e w1 ⟨rfl, rfl⟩)
                  | (go_at_call 22; refine (HND.out _ _ (hS.re [3])).mono ?_; rintro e w1 ⟨fa, fb, fc, fd, ff, rfl, hS1⟩; clear hS; have hS := (show Sat W w1 [IsG p G, Ir _ lv, Cs cb _ _, Ir _ _, IsR q G] from hS1); clear hS1)
                  | (refine toList (by rfl) ?_; refine al hS _ (by rfl) (zrOf (by rfl)) ?_; intro px w1 hS1; clear hS; have hS := hS1; clear hS1)
                  | (refine toList (by rfl) ?_; refine stW hS _ _ _ (by rfl) (by rfl) (nv ⟨fa, fb, fc, fd, ff, true⟩) (by rfl) (by exact nv_all _) (szOf (by rfl)) Has.z rfl ?_; intro w1 hS1; clear hS; have hS := hS1; clear hS1; dsimp only [List.set_cons_zero] at hS)
                  | (refine toList (by rfl) ?_; refine ld hS _ _ (by rfl) _ 5 (by rfl) (agOf (by rfl)) Has.z (v := .bool true) (by rfl) ?_)
                  | (refine toList (by rfl) ?_; refine ld hS _ _ (by rfl) _ _ (by rfl) (agOf (by rfl)) (Has.s (Has.s (Has.s Has.z))) (v := .int .i64 1) (by exact HC.out) ?_)
                  | (refine toList (by rfl) ?_; refine ldSl hS _ _ (by rfl) _ _ (by rfl) (agOf (by rfl)) (Has.s (Has.s Has.z)) a (by omega) HX.out ?_)))
                exact ⟨⟨n + 1, by go_num, by rw [HNO.out, ha], HLT.out, hS.drop.re [1, 2, 3, 0]⟩, by simp [intOf]; have := HLT.out; omega⟩
              | false =>
                have HND := Lib.hid (fun w M (h : Sat W w (IsG p G :: M)) => node_is h HLT.out ho)
                have HNO := Lib.hid (liveN_yes ho)
                obtain ⟨hal, hax⟩ := liveN_at hlt ho
                rw [HLV.out] at hal hax
                clear hlt hn ho
                obtain ⟨a, ha⟩ : ∃ a, (liveN G n).length = a := ⟨_, rfl⟩
                rw [ha] at hal hax ⊢
                have a1 : (a : Int) < (lv.length : Int) := by omega
                have a2 : ¬ (lv.length : Int) ≤ (a : Int) := by omega
                have a3 : decide ((lv.length : Int) ≤ (a : Int)) = false := decide_eq_false a2
                have a4 : decide (lv.length ≤ a) = false := decide_eq_false (by omega)
                obtain ⟨bb, ob, rfl⟩ := Sat.irAddr (k := 0) hS rfl rfl (by omega)
                have HX := Lib.hid (iv_at hax)
                clear hax
                go_wp2_with ((first
                  | (go_at_call 19; refine (HLEN.out _ _ (hS.re [3])).mono ?_; rintro e w1 ⟨rfl, rfl⟩)
                  | (go_at_call 22; refine (HND.out _ _ (hS.re [3])).mono ?_; rintro e w1 ⟨fa, fb, fc, fd, ff, rfl, hS1⟩; clear hS; have hS := (show Sat W w1 [IsG p G, Ir _ lv, Cs cb _ _, Ir _ _, IsR q G] from hS1); clear hS1)
                  | (refine toList (by rfl) ?_; refine al hS _ (by rfl) (zrOf (by rfl)) ?_; intro px w1 hS1; clear hS; have hS := hS1; clear hS1)
                  | (refine toList (by rfl) ?_; refine stW hS _ _ _ (by rfl) (by rfl) (nv ⟨fa, fb, fc, fd, ff, false⟩) (by rfl) (by exact nv_all _) (szOf (by rfl)) Has.z rfl ?_; intro w1 hS1; clear hS; have hS := hS1; clear hS1; dsimp only [List.set_cons_zero] at hS)
                  | (refine toList (by rfl) ?_; refine ld hS _ _ (by rfl) _ 5 (by rfl) (agOf (by rfl)) Has.z (v := .bool false) (by rfl) ?_)
                  | (refine toList (by rfl) ?_; refine ld hS _ _ (by rfl) _ _ (by rfl) (agOf (by rfl)) (Has.s (Has.s (Has.s Has.z))) (v := .int .i64 1) (by exact HC.out) ?_)
                  | (refine toList (by rfl) ?_; refine ldSl hS _ _ (by rfl) _ _ (by rfl) (agOf (by rfl)) (Has.s (Has.s Has.z)) a (by omega) HX.out ?_)))
                exact ⟨⟨n + 1, by go_num, by rw [HNO.out, List.length_append, ha]; go_num, HLT.out, hS.drop.re [1, 2, 3, 0]⟩, by simp [intOf]; have := HLT.out; omega⟩
            · obtain rfl : n = G.N.length := by omega
              have k3 : ¬ (G.N.length : Int) < (G.N.length : Int) := by omega
              rw [HLV.out]
              have e1 : ((lv.length : Int) == (lv.length : Int)) = true := beq_self_eq_true _
              clear hn hlt
              go_wp2_with (first
                | (go_at_call 19; refine (HLEN.out _ _ (hS.re [3])).mono ?_; rintro e w1 ⟨rfl, rfl⟩)
                | (go_at_call 20; refine (HL0.out _ _ (hS.re [3])).mono ?_; rintro e w1 ⟨az, cz, rfl, hS1⟩; clear hS; have hS := hS1; clear hS1)
                | (go_at_call 15; refine (awake_any hS).mono ?_; rintro e w1 ⟨rfl, hS1⟩; clear hS; have hS := hS1; clear hS1))
              go_ret
              exact ⟨rfl, sat_nilK hS⟩

set_option maxRecDepth 100000 in
theorem Kinds.contract (H : Type) (enc : TypeId × Value → H) (W : World) (base : Nat) (args : Array Value) (ds gs : List (DataW H)) (before : List MemPlace)
    (hval : ∀ (j : Nat) t v, Try.f8.params[j]? = some t → args[j]? = some v → Value.okWide Try.prog W .any base t v)
    (hW : DataW.Whole enc Try.prog Try.f8.params.toList Rows.queryKindsSpec.vars false W args.toList ds gs before)
    (hreach : (DataW.weightsEach Try.prog (Try.f8.params.toList ++ Rows.queryKindsSpec.plain.varTypes Try.prog) (ds ++ gs)).all (· ≤ reachBytes) = true) :
    Calls Try.prog 8 args W fun e W' => ∃ v, e = .returned v ∧ Rows.queryKindsSpec.post enc Try.prog Try.f8 false true false false W args v W' := by
  have hW' := hW
  obtain ⟨p, q, hA, hV, rfl, hfz, hnd⟩ := hW
  rw [Try.params8] at hA hval hreach
  obtain ⟨v0, vs0, d0, ds0, p0, q0, hargs, rfl, rfl, h0, r0⟩ := trodAll_cons hA
  obtain ⟨rfl, rfl, rfl⟩ := trodAll_nil r0
  obtain rfl : args = #[v0] := by cases args; simp_all
  obtain ⟨rfl, rfl⟩ := trodVars_none hV
  obtain ⟨ao0, l0, c0, rfl⟩ := okWide_slice Try.underlying35 (hval 0 35 v0 rfl rfl)
  obtain ⟨l, rfl, hr, _⟩ := open_gops h0
  refine (Kinds.walk l ao0 c0 W hr).mono ?_
  refine fun e W' ⟨he, hS⟩ => ?_
  subst he
  exact ⟨_, rfl, law_post (tb := 4) (by kernel_rfl) (by kernel_rfl) rfl Try.underlying4 rfl hW' rfl hS⟩

theorem Kinds.own : ownKnob Try.prog.godebug = none := by kernel_rfl
set_option maxRecDepth 100000 in
theorem Kinds.lifted (os : Os) (started : os.Started) (H : Type) (enc : TypeId × Value → H) :
    ReturnsInHanded {} Try.checked os 8 .any (Rows.queryKindsSpec.pre6 enc Try.prog Try.f8 Rows.queryKindsRow.domain false) (Rows.queryKindsSpec.post enc Try.prog Try.f8 false true false false) := by
  refine returnsInHanded_of_change_shaped (C := Try.checked) Kinds.own started (by kernel_rfl) Try.func8
    (ChangeSpec.witness6 (enc := enc) (C := Try.checked) false ⟨#[], #[.slice none 0 0], []⟩ 8 (by kernel_rfl) (by kernel_rfl) (by kernel_rfl) (by kernel_rfl)) ?_
  intro W base args ds gs before hval hW _ hreach _ _
  exact Kinds.contract H enc W base args ds gs before hval hW hreach

theorem Kinds.holds : Rows.QueryKindsSaid :=
  OpenClaim.holds_of_wide 8 Try.f8 rfl rfl rfl rfl rfl rfl rfl ⟨rfl, rfl, rfl, rfl, rfl⟩ rfl rfl rfl rfl rfl (by kernel_rfl) Try.func8 (by kernel_rfl)
    (of_decide_eq_true (by kernel_rfl)) (by unfold Func.isWrapper; first | (rw [if_pos (by decide +kernel)]; kernel_rfl) | (rw [if_neg (by decide +kernel)]; exact ⟨rfl, rfl⟩))
    (fun os started H enc _ => Kinds.lifted os started H enc)
end Go.Proofs.Ytpnbdnfgdiakhaa
