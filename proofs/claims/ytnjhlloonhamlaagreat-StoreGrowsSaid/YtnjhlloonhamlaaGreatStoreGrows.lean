/-
  For every numbers and marks, StoreGrows answers true: no condition.
-/
import Derived.Test.YtnjhlloonhamlaaGreatStGrow
import Derived.Test.YtnjhlloonhamlaaGreatMGrw
import Derived.Test.YtnjhlloonhamlaaGreatMSep
import Derived.Test.YtnjhlloonhamlaaGreatMReg
namespace Go.Sep
open Go
/-- A slice of truths that came in. -/
theorem open_bools {H : Type} {enc : TypeId × Value → H} {P : Program} {W : World} {t e : Nat} (ht : P.underlying t = some (.slice e)) (he : P.underlying e = some .bool) (hc : P.cellsOf e = 1) {ao : Option Addr} {len cap : Nat} {d : DataW H} {ps : List MemPlace}
    (h : DataW.Trod enc P W 0 (fun _ => true) true t (.slice ao len cap) d ps) : ∃ l : List Bool, l.length = len ∧ Rd W (.slice ao len cap) len 1 (l.map Value.bool) := by
  obtain ⟨rows, h1, h2, h3, h4⟩ := open_sl ht hc (by omega) h
  have hf : ∀ r ∈ rows, ∃ x : Bool, r = [Value.bool x] := fun r hr => by
    obtain ⟨i, hi⟩ := List.getElem?_of_mem hr
    obtain ⟨h5, n, x, hx, _⟩ := h4 i r hi
    obtain ⟨k', hk, _⟩ := DataW.trod_bool he hx
    exact ⟨k', hk⟩
  obtain ⟨l, h5, h6⟩ := rows_one Value.bool (rows := rows) hf
  exact ⟨l, by omega, by rw [← h5]; exact h2⟩
end Go.Sep
namespace Go.Proofs.YtnjhlloonhamlaaGreat
open Go.RowKit Go.Sep Go.ChangeShapes Go.WideShapes Go.ChangeAt
set_option linter.unusedSimpArgs false
set_option linter.unusedVariables false
attribute [local irreducible] Go.Oper.wp Go.wpList Go.Calls Go.Code.wp Go.Sep.Reg
theorem neq_run (u : World) (x y : SupD) : (binOp .neq 28 (.agg (sv x).toArray) (.agg (sv y).toArray)).run Tryz.prog u = .ok (.bool (!decide (x = y))) u := by
  rw [run_neq_struct, eq_sup]
  rfl
/-- What the law knows of the store behind some Grows. -/
structure GwS (i n vis : Nat) (D : DiskS) (B : List (List UInt8)) (S : StD) (gs : List Nat) : Prop where
  i20 : i ≤ 20
  n19 : n ≤ 19 * i
  vn : vis ≤ n
  lv : Lv D B (60 + 42 * i)
  ok : SOk B S gs
  recs : S.recs = nodF 0 n
  shown : S.sup.shown = (vis : Int)
  glen : gs.length = max 1 ((n + 14) / 15)
  bx : blksX S.inos = []
  bl : B.length = 300
def GwI (W : World) (L : List Asrt) (ps pd : Nat) (v7 v8 v9 : Value) (wz : World) : Prop :=
  ∃ (i n vis : Nat) (D : DiskS) (B : List (List UInt8)) (S : StD) (gs : List Nat), v7 = .int .i64 (n : Int) ∧ v8 = .int .i64 (vis : Int) ∧ v9 = .int .i64 (i : Int) ∧ GwS i n vis D B S gs ∧ Sat W wz (IsSt ps pd S :: IsDisk pd D :: L)
def GwJ (W : World) (L : List Asrt) (ps pd n k : Nat) (S : StD) (D : DiskS) (v11 v12 : Value) (wz : World) : Prop :=
  ∃ j : Nat, v12 = .int .i64 (j : Int) ∧ j ≤ k ∧ Sat W wz (Tb 42 3 rv v11 (nodF n j) :: IsSt ps pd S :: IsDisk pd D :: L)
def GwK (W : World) (L : List Asrt) (n : Nat) (vr : Value) (v18 : Value) (wz : World) : Prop :=
  ∃ j : Nat, v18 = .int .i64 (j : Int) ∧ j ≤ n ∧ Sat W wz (Tb 42 3 rv vr (nodF 0 n) :: L)
theorem GwS.ok' {i n vis : Nat} {D : DiskS} {B : List (List UInt8)} {S : StD} {gs : List Nat} (h : GwS i n vis D B S gs) : SOk D.blocks S gs := by
  rw [h.lv.bl]
  exact h.ok
theorem sgrow_m {W w : World} {L : List Asrt} {ps pd k : Nat} {S : StD} {D : DiskS} {gs : List Nat} (hS : Sat W w (IsSt ps pd S :: IsDisk pd D :: L)) (hok : SOk D.blocks S gs) (hD : DG D k) (hk : k ≤ 90000)
    (l : List RecD) (shown : Bool) (aq : Option Addr) (cq : Nat) {m : Nat} (hm : l.length = m) (hr : ∀ w L', Sat W w (L' ++ L) → Rd w (.slice aq m cq) m 3 (l.flatMap rv)) (hl : m ≤ 100000) :
    Calls Tryz.prog 16 #[.pointer (some ⟨ps, 0, none⟩), .slice aq m cq, .bool shown] w fun e w' => GrE W L ps pd (growR S D l shown) e w' := by
  subst hm
  exact sgrow_any hS hok hD hk l shown aq cq hr hl
theorem GwS.next {i n vis k : Nat} {D : DiskS} {B : List (List UInt8)} {S : StD} {gs : List Nat} (h : GwS i n vis D B S gs) (hi : i < 20) (hk : k ≤ 19) (sh : Bool) :
    ∃ S' D' B' gs', growR S D (nodF n k) sh = (0, S', D') ∧ GwS (i + 1) (n + k) (if sh then n + k else vis) D' B' S' gs' := by
  have hn := h.n19
  have hbad := nodF_bad (k := k) h.recs (by omega) (by omega)
  have hfr := h.ok.free
  have hgl := h.glen
  have hl := h.ok.lens (m := gs.length - 1) (by omega)
  have hrl : S.recs.length = n := by rw [h.recs, nodF_len]
  have hm : moreN S (nodF n k) = (k + S.last - 1) / 15 := by unfold moreN; rw [nodF_len]
  have hf : moreN S (nodF n k) ≤ (freeL S.U S.sup.blocks.toNat).length := by
    rw [h.bx, h.bl] at hfr
    rw [h.ok.bl, h.bl, hm]
    simp at hfr
    omega
  obtain ⟨S', D', B', gs', h1, h2, h3⟩ := grow_live (shown := sh) h.ok h.lv hbad hf
  refine ⟨S', D', B', gs', h1, ?_⟩
  exact
    { i20 := hi
      n19 := by omega
      vn := by have := h.vn; split <;> omega
      lv := h2.mono (by omega)
      ok := h3.ok
      recs := by rw [h3.recs, h.recs, nodF_add]
      shown := by
        rw [h3.shown, h.recs, nodF_add, nodF_len, h.shown]
        split <;> rfl
      glen := by rw [h3.glen, hm, hgl]; omega
      bx := by rw [h3.inos]; exact h.bx
      bl := by rw [h3.len]; exact h.bl }
def gwM (v : Value) : Nat := 20 - (intOf v).toNat
theorem gwM_lt {i : Nat} (h : i < 20) : gwM (.int .i64 ((i + 1 : Nat) : Int)) < gwM (.int .i64 (i : Int)) := by
  unfold gwM
  show 20 - (((i + 1 : Nat) : Int)).toNat < 20 - ((i : Int)).toNat
  rw [Int.toNat_natCast, Int.toNat_natCast]
  omega
set_option maxRecDepth 20000 in
set_option maxHeartbeats 8000000 in
theorem Grows.walk (ns : List Int) (bs : List Bool) (a1 a2 : Option Addr) (c1 c2 : Nat) (W : World) (hr1 : Rd W (.slice a1 ns.length c1) ns.length 1 (ns.map (Value.int .i64))) (hr2 : Rd W (.slice a2 bs.length c2) bs.length 1 (bs.map Value.bool)) :
    Calls Tryz.prog 4 #[.slice a1 ns.length c1, .slice a2 bs.length c2] W fun e w' => e = .returned (.bool true) ∧ Sat W w' [] := by
  have hS := Sat.start W
  have HR1 := Lib.hid hr1
  have HR2 := Lib.hid hr2
  obtain ⟨_, _, he, hc1, hc2, _, h5⟩ := hr1
  simp only [Value.slice.injEq, true_and] at he
  obtain ⟨rfl, rfl⟩ := he
  obtain ⟨_, _, he, hd1, hd2, _, h6⟩ := hr2
  simp only [Value.slice.injEq, true_and] at he
  obtain ⟨rfl, rfl⟩ := he
  have H5 := Lib.hid h5
  have H6 := Lib.hid h6
  have HMD := Lib.hid (made_any hS (n := 300) (by decide) (by decide))
  have nl1 : (ns.length : Int) ≤ 9223372036854775807 := by omega
  have nl2 : (bs.length : Int) ≤ 9223372036854775807 := by omega
  clear h5 h6 hc1 hc2 hd1 hd2
  go_enter Tryz.func4, Tryz.ntmps4
  go_wp2_with (go_at_call 8; refine HMD.out.mono ?_; rintro e w1 hE; obtain ⟨pd, ps, D, rfl, hl, hS1⟩ := hE; have HL := Lib.hid hl; clear hl; clear hS; have hS := hS1; clear hS1)
  have H0 := Lib.hid hS
  have H00 := Lib.hid (show GwS 0 0 0 D (fmtB 300) (S0 300) [74] from
    { i20 := by decide, n19 := by decide, vn := Nat.le_refl _, lv := HL.out, ok := sok_fmt (n := 300) (by decide) (by decide), recs := rfl, shown := rfl, glen := by decide, bx := blksX_S0 300, bl := fmtB_len 300 })
  clear hS HL
  go_loopw [7, 8, 9] (fun v7 v8 v9 wz => GwI W [] ps pd v7 v8 v9 wz) (fun _ _ v9 _ => gwM v9)
  case atStart => exact ⟨0, 0, 0, D, _, _, _, rfl, rfl, rfl, H00.out, H0.out⟩
  case round =>
    clear H0 H00
    obtain ⟨i, n, vis, D, B, S, gs, rfl, rfl, rfl, hG, hS⟩ := hrel
    have HG := Lib.hid hG
    clear hG
    by_cases hlt : i < ns.length ∧ i < 20
    · obtain ⟨hlt1, hlt2⟩ := hlt
      have k1 : (i : Int) < (ns.length : Int) := by omega
      have k2 : (i : Int) < 20 := by omega
      have HLT := Lib.hid hlt2
      have HLT1 := Lib.hid hlt1
      obtain ⟨ab, aof, rfl, _⟩ := H5.out (by omega)
      obtain ⟨x, hx⟩ : ∃ x, ns[i]? = some x := ⟨_, List.getElem?_eq_getElem hlt1⟩
      have HX := Lib.hid (show (ns.map (Value.int .i64))[i]? = some (.int .i64 x) by simp [hx])
      have HP := Lib.hid (fun w => place_any x 20 (by decide) (by decide) w)
      obtain ⟨k, hk⟩ : ∃ k : Nat, x % 20 = (k : Int) := ⟨(x % 20).toNat, by omega⟩
      have hk19 : k ≤ 19 := by omega
      rw [hk] at HP
      have HK := Lib.hid hk19
      have kk : (k : Int) ≤ 19 := by omega
      have hn := HG.out.n19
      have nn : (n : Int) ≤ 380 := by omega
      clear hx hk hlt1 hlt2 hk19 hn
      go_wp2_with (first
        | (refine toList (by rfl) ?_; refine wp_of_reads (rLdRd1 (HR1.out.old hS) _ _ (by rfl) _ (by rfl) (agOf (by rfl)) i (by omega) HX.out (by have := HLT1.out; omega)) ?_)
        | (go_at_call 9; refine (HP.out _).mono ?_; rintro e w1 ⟨rfl, rfl⟩))
      have H1 : Hid (∀ w, Sat W w (IsSt ps pd S :: IsDisk pd D :: []) → Sat W w (Tb 42 3 rv (.slice none 0 0) (nodF n 0) :: IsSt ps pd S :: IsDisk pd D :: [])) := Lib.hid (fun w h => Sat.tbNil h)
      have H2 := Lib.hid (H1.out _ hS)
      clear hS H1
      go_loopw [11, 12] (fun v11 v12 wz => GwJ W [] ps pd n k S D v11 v12 wz) (fun _ v12 _ => lpM k v12)
      case atStart => exact ⟨0, rfl, Nat.zero_le _, H2.out⟩
      case round =>
        clear H2
        obtain ⟨j, rfl, hj, hS⟩ := hrel
        obtain ⟨ao11, c11, rfl, _⟩ := hS.tbShape (k := 0) rfl
        rw [nodF_len] at hS ⊢
        by_cases hjl : j < k
        · have k3 : (j : Int) < (k : Int) := by omega
          have HJ := Lib.hid hjl
          have HNF := Lib.hid (nodF_succ n j)
          have HNL := Lib.hid (show ∀ x : RecD, (nodF n j ++ [x]).length = j + 1 from fun x => by rw [List.length_append, nodF_len]; rfl)
          have j19 : (j : Int) ≤ 19 := by omega
          have HJ19 := Lib.hid (show j ≤ 19 by omega)
          clear hjl hj
          go_wp2_with (first
            | (refine toList (by rfl) ?_; refine bsF hS _ _ _ (by rfl) (elOf (by rfl)) [.agg (rv ⟨1, 2, 1 + (n : Int) + (j : Int)⟩).toArray] (by rfl) (by rfl) (by decide) (by decide) (by simp [rv, Value.cells]) ?_; intro b1 w1 hS1; clear hS; have hS := hS1; clear hS1; rw [agg1] at hS)
            | (at_builtin; refine toList (by rfl) ?_; refine apTbS hS _ _ _ _ (by rfl) _ _ (by rfl) (by rfl) (elOf (by rfl)) (by rfl) (by decide) (inOf (by rfl)) (Has.s Has.z) [⟨1, 2, 1 + (n : Int) + (j : Int)⟩] (fun _ _ => rfl) (by exact hS.src1 Has.z rfl) (by rw [fm1]; exact rv_all _) (by have := HJ19.out; rw [nodF_len]; simp; omega) (by have := HJ19.out; rw [nodF_len]; simp; omega) ?_; intro ax cx w1 _ hS1; clear hS; have hS := hS1; clear hS1; rw [List.set_cons_succ, List.set_cons_zero] at hS; rw [HNL.out] at hS ⊢; rw [← HNF.out] at hS))
          exact ⟨⟨j + 1, by go_num, HJ.out, hS.drop⟩, lpM_lt HJ.out⟩
        · obtain rfl : j = k := by omega
          have k3 : ¬ (j : Int) < (j : Int) := by omega
          clear hj hjl
          -- shown?
          obtain ⟨sh, hsh⟩ : ∃ sh : Bool, (bs[i]?.getD false) = sh := ⟨_, rfl⟩
          obtain ⟨S2, D2, B2, gs2, hg1, hg2⟩ := HG.out.next HLT.out HK.out sh
          have HG2 := Lib.hid hg2
          have HGR := Lib.hid (fun w (h : Sat W w (Tb 42 3 rv (.slice ao11 j c11) (nodF n j) :: IsSt ps pd S :: IsDisk pd D :: [])) =>
            sgrow_m (h.re [1, 2, 0]) HG.out.ok' HG.out.lv.ok (by have := HG.out.i20; omega) (nodF n j) sh ao11 c11 (nodF_len n j) (fun w L' h => by
              have h2 := h.tbRd (has_add Has.z L')
              rw [nodF_len] at h2
              exact h2) (by have := HK.out; omega))
          rw [hg1] at HGR
          have hX2 := hg2.ok.x
          have HSU := Lib.hid (fun w L (h : Sat W w (IsSt ps pd S2 :: L)) => ssuper_any h hX2)
          have hb2 : S2.sup.blocks = ((300 : Nat) : Int) := by rw [hg2.ok.blocks, hg2.bl]
          have HFR := Lib.hid (fun w L (h : Sat W w (IsSt ps pd S2 :: L)) => sfree_any (n := 300) h hb2 (by decide) (by decide))
          have hfl : (freeL S2.U 300).length = 226 - gs2.length := by
            have := hg2.ok.free
            rw [hg2.bl, hg2.bx] at this
            simp at this
            omega
          obtain ⟨gl, hgl⟩ : ∃ g, gs2.length = g := ⟨_, rfl⟩
          have hge := hg2.glen
          rw [hgl] at hge hfl
          rw [hfl] at HFR
          have hn9 := hg2.n19
          have hi20 := hg2.i20
          have gl1 : (gl : Int) ≤ 27 := by omega
          have hfv : (((226 - gl : Nat)) : Int) = 226 - (gl : Int) := by omega
          rw [hfv] at HFR
          have hq : Int.tdiv ((n : Int) + (j : Int) + 14) 15 = (((n + j + 14) / 15 : Nat) : Int) := by
            rw [Int.tdiv_eq_ediv_of_nonneg (by omega)]
            omega
          obtain ⟨q, hqq⟩ : ∃ q, (n + j + 14) / 15 = q := ⟨_, rfl⟩
          rw [hqq] at hge hq
          have q1 : (q : Int) ≤ 27 := by omega
          have hrec : S2.sup.records = (n : Int) + (j : Int) := by rw [hg2.ok.recs, hg2.recs, nodF_len]; rfl
          have hsho := hg2.shown
          have hf3 := fun w => fld_records w S2.sup
          have hf4 := fun w => fld_shown w S2.sup
          rw [hrec] at hf3
          rw [hsho] at hf4
          have e5 : (((n : Int) + (j : Int)) != (n : Int) + (j : Int)) = false := by simp
          have vv : (vis : Int) ≤ 380 := by have := HG.out.vn; omega
          have hmax : max 1 (q : Int) = (gl : Int) := by rw [hge]; omega
          clear hg1 hg2 hX2 hb2 hfl hgl hfv hqq hrec hsho hn9 hi20 hge
          by_cases hbl : i < bs.length
          · have k4 : (i : Int) < (bs.length : Int) := by omega
            obtain ⟨bb, bo, rfl, _⟩ := H6.out (by omega)
            obtain ⟨b, hb⟩ : ∃ b, bs[i]? = some b := ⟨_, List.getElem?_eq_getElem hbl⟩
            have HBX := Lib.hid (show (bs.map Value.bool)[i]? = some (.bool b) by simp [hb])
            have hbs : b = sh := by rw [← hsh, hb]; rfl
            have HBL := Lib.hid hbl
            subst hbs
            clear hsh hb hbl
            cases b
            all_goals
              go_wp2_with (first
                | (refine toList (by rfl) ?_; refine wp_of_reads (rLdRd1 (HR2.out.old hS) _ _ (by rfl) _ (by rfl) (agOf (by rfl)) i (by omega) HBX.out (by have := HBL.out; omega)) ?_)
                | (go_at_call 16; refine (HGR.out _ hS).mono ?_; rintro e w1 ⟨rfl, hS1⟩; clear hS; have hS := hS1; clear hS1; dsimp only at hS ⊢)
                | (go_at_call 10; refine (HSU.out _ _ hS).mono ?_; rintro e w1 ⟨rfl, hS1⟩; clear hS; have hS := hS1; clear hS1)
                | (go_at_call 13; refine (HFR.out _ _ hS).mono ?_; rintro e w1 ⟨rfl, hS1⟩; clear hS; have hS := hS1; clear hS1))
              exact ⟨⟨i + 1, n + j, _, D2, B2, S2, gs2, by go_num, by first | rfl | go_num, by go_num, HG2.out, (hS.re [2]).drop⟩, gwM_lt HLT.out⟩
          · have k4 : ¬ (i : Int) < (bs.length : Int) := by omega
            have hsf : sh = false := by rw [← hsh, List.getElem?_eq_none (by omega)]; rfl
            subst hsf
            clear hsh hbl
            go_wp2_with (first
              | (go_at_call 16; refine (HGR.out _ hS).mono ?_; rintro e w1 ⟨rfl, hS1⟩; clear hS; have hS := hS1; clear hS1; dsimp only at hS ⊢)
              | (go_at_call 10; refine (HSU.out _ _ hS).mono ?_; rintro e w1 ⟨rfl, hS1⟩; clear hS; have hS := hS1; clear hS1)
              | (go_at_call 13; refine (HFR.out _ _ hS).mono ?_; rintro e w1 ⟨rfl, hS1⟩; clear hS; have hS := hS1; clear hS1))
            exact ⟨⟨i + 1, n + j, vis, D2, B2, S2, gs2, by go_num, rfl, by go_num, HG2.out, (hS.re [2]).drop⟩, gwM_lt HLT.out⟩
    · have hex : (¬ i < ns.length) ∨ (i < ns.length ∧ ¬ i < 20) := by omega
      have HO := Lib.hid (fun w L (h : Sat W w (IsDisk pd D :: L)) => open_live HG.out.ok HG.out.lv (by have := HG.out.i20; omega) h)
      have HSU := Lib.hid (fun w L ps (h : Sat W w (IsSt ps pd S :: L)) => ssuper_any h HG.out.ok.x)
      have HRC := Lib.hid (fun w L ps (h : Sat W w (IsSt ps pd S :: L)) => srecs_any h HG.out.ok.x (by rw [HG.out.recs, nodF_len]; have := HG.out.n19; have := HG.out.i20; omega))
      have hneq := fun u => neq_run u S.sup S.sup
      rw [decide_eq_true rfl] at hneq
      have hrl : S.recs = nodF 0 n := HG.out.recs
      rw [hrl] at HRC
      have hn9 := HG.out.n19
      have hi20 := HG.out.i20
      have nn : (n : Int) ≤ 380 := by omega
      have hgo : ∀ (u : Act) (x : World), True := fun _ _ => trivial
      clear hrl hn9 hi20 hgo
      rcases hex with hex | ⟨hex1, hex2⟩
      · have k1 : ¬ (i : Int) < (ns.length : Int) := by omega
        clear hlt hex
        go_wp2_with (first
          | (go_at_call 12; refine (HO.out _ _ hS.pull1).mono ?_; rintro e w1 hE; obtain ⟨ps2, rfl, hS1⟩ := hE; clear hS; have hS := hS1; clear hS1)
          | (go_at_call 10; refine (HSU.out _ _ _ hS).mono ?_; rintro e w1 ⟨rfl, hS1⟩; clear hS; have hS := hS1; clear hS1)
          | (go_at_call 10; refine (HSU.out _ _ _ (hS.re [2])).mono ?_; rintro e w1 ⟨rfl, hS1⟩; clear hS; have hS := hS1; clear hS1; replace hS := hS.re [1, 2, 0])
          | (go_at_call 14; refine (HRC.out _ _ _ hS).mono ?_; rintro e w1 ⟨vr, rfl, hS1⟩; clear hS; have hS := hS1; clear hS1; obtain ⟨ar, cr, rfl, _⟩ := hS.tbShape (k := 0) rfl; rw [nodF_len] at hS ⊢))
        have H3 := Lib.hid hS
        clear hS
        go_loopw [18] (fun v18 wz => GwK W [IsSt ps2 pd S, IsDisk pd D, IsSt ps pd S] n (.slice ar n cr) v18 wz) (fun v18 _ => lpM n v18)
        case atStart => exact ⟨0, rfl, Nat.zero_le _, H3.out⟩
        case round =>
          clear H3
          obtain ⟨j, rfl, hj, hS⟩ := hrel
          by_cases hjl : j < n
          · have k4 : (j : Int) < (n : Int) := by omega
            have HJ := Lib.hid hjl
            have hrd := hS.tbRd Has.z
            rw [nodF_len] at hrd
            obtain ⟨_, _, he, _, _, _, h5⟩ := id hrd
            simp only [Value.slice.injEq, true_and] at he
            obtain ⟨rfl, rfl⟩ := he
            obtain ⟨rb, ro, rfl, _⟩ := h5 (by omega)
            have HRD := Lib.hid hrd
            have HJX := Lib.hid (nodF_at (n := 0) hjl)
            clear hjl hj hrd h5
            go_wp2_with (refine toList (by rfl) ?_; refine wp_of_reads (v := .agg #[.int .i64 1, .int .i64 2, .int .i64 (1 + (j : Int))]) ((rLdRdA (f := rv) (x := ⟨1, 2, 1 + ((0 : Nat) : Int) + (j : Int)⟩) HRD.out (fun _ _ => rfl) _ _ (by rfl) _ (by rfl) (agOf (by rfl)) (szOf (by rfl)) j (by omega) HJX.out (by have := HJ.out; omega)).trans (by simp [rv])) ?_)
            exact ⟨⟨j + 1, by go_num, HJ.out, hS⟩, lpM_lt HJ.out⟩
          · obtain rfl : j = n := by omega
            have k4 : ¬ (j : Int) < (j : Int) := by omega
            clear hj hjl
            go_wp2_with (go_at_call 15; refine (awake_any hS).mono ?_; rintro e w1 ⟨rfl, hS1⟩; clear hS; have hS := hS1; clear hS1)
            go_ret
            exact ⟨rfl, hS.map fun _ _ => trivial⟩
      · have k1 : (i : Int) < (ns.length : Int) := by omega
        have k2 : ¬ (i : Int) < 20 := by omega
        clear hlt hex1 hex2
        go_wp2_with (first
          | (go_at_call 12; refine (HO.out _ _ hS.pull1).mono ?_; rintro e w1 hE; obtain ⟨ps2, rfl, hS1⟩ := hE; clear hS; have hS := hS1; clear hS1)
          | (go_at_call 10; refine (HSU.out _ _ _ hS).mono ?_; rintro e w1 ⟨rfl, hS1⟩; clear hS; have hS := hS1; clear hS1)
          | (go_at_call 10; refine (HSU.out _ _ _ (hS.re [2])).mono ?_; rintro e w1 ⟨rfl, hS1⟩; clear hS; have hS := hS1; clear hS1; replace hS := hS.re [1, 2, 0])
          | (go_at_call 14; refine (HRC.out _ _ _ hS).mono ?_; rintro e w1 ⟨vr, rfl, hS1⟩; clear hS; have hS := hS1; clear hS1; obtain ⟨ar, cr, rfl, _⟩ := hS.tbShape (k := 0) rfl; rw [nodF_len] at hS ⊢))
        have H3 := Lib.hid hS
        clear hS
        go_loopw [18] (fun v18 wz => GwK W [IsSt ps2 pd S, IsDisk pd D, IsSt ps pd S] n (.slice ar n cr) v18 wz) (fun v18 _ => lpM n v18)
        case atStart => exact ⟨0, rfl, Nat.zero_le _, H3.out⟩
        case round =>
          clear H3
          obtain ⟨j, rfl, hj, hS⟩ := hrel
          by_cases hjl : j < n
          · have k4 : (j : Int) < (n : Int) := by omega
            have HJ := Lib.hid hjl
            have hrd := hS.tbRd Has.z
            rw [nodF_len] at hrd
            obtain ⟨_, _, he, _, _, _, h5⟩ := id hrd
            simp only [Value.slice.injEq, true_and] at he
            obtain ⟨rfl, rfl⟩ := he
            obtain ⟨rb, ro, rfl, _⟩ := h5 (by omega)
            have HRD := Lib.hid hrd
            have HJX := Lib.hid (nodF_at (n := 0) hjl)
            clear hjl hj hrd h5
            go_wp2_with (refine toList (by rfl) ?_; refine wp_of_reads (v := .agg #[.int .i64 1, .int .i64 2, .int .i64 (1 + (j : Int))]) ((rLdRdA (f := rv) (x := ⟨1, 2, 1 + ((0 : Nat) : Int) + (j : Int)⟩) HRD.out (fun _ _ => rfl) _ _ (by rfl) _ (by rfl) (agOf (by rfl)) (szOf (by rfl)) j (by omega) HJX.out (by have := HJ.out; omega)).trans (by simp [rv])) ?_)
            exact ⟨⟨j + 1, by go_num, HJ.out, hS⟩, lpM_lt HJ.out⟩
          · obtain rfl : j = n := by omega
            have k4 : ¬ (j : Int) < (j : Int) := by omega
            clear hj hjl
            go_wp2_with (go_at_call 15; refine (awake_any hS).mono ?_; rintro e w1 ⟨rfl, hS1⟩; clear hS; have hS := hS1; clear hS1)
            go_ret
            exact ⟨rfl, hS.map fun _ _ => trivial⟩

set_option maxRecDepth 100000 in
theorem Grows.contract (H : Type) (enc : TypeId × Value → H) (W : World) (base : Nat) (args : Array Value) (ds gs : List (DataW H)) (before : List MemPlace)
    (hval : ∀ (j : Nat) t v, Tryz.f4.params[j]? = some t → args[j]? = some v → Value.okWide Tryz.prog W .any base t v)
    (hW : DataW.Whole enc Tryz.prog Tryz.f4.params.toList Rows.storeGrowsSpec.vars false W args.toList ds gs before)
    (hreach : (DataW.weightsEach Tryz.prog (Tryz.f4.params.toList ++ Rows.storeGrowsSpec.plain.varTypes Tryz.prog) (ds ++ gs)).all (· ≤ reachBytes) = true) :
    Calls Tryz.prog 4 args W fun e W' => ∃ v, e = .returned v ∧ Rows.storeGrowsSpec.post enc Tryz.prog Tryz.f4 false true false false W args v W' := by
  have hW' := hW
  obtain ⟨p, q, hA, hV, rfl, hfz, hnd⟩ := hW
  rw [Tryz.params4] at hA hval hreach
  obtain ⟨v0, vs0, d0, ds0, p0, q0, hargs, rfl, rfl, h0, r0⟩ := trodAll_cons hA
  obtain ⟨v1, vs1, d1, ds1, p1, q1, hargs1, rfl, rfl, h1, r1⟩ := trodAll_cons r0
  obtain ⟨rfl, rfl, rfl⟩ := trodAll_nil r1
  obtain rfl : args = #[v0, v1] := by cases args; simp_all
  obtain ⟨rfl, rfl⟩ := trodVars_none hV
  obtain ⟨ao, len, cap, rfl, _⟩ := okWide_slice Tryz.underlying39 (hval 0 39 v0 rfl rfl)
  obtain ⟨ns, h2, h3, _, _⟩ := open_nums Tryz.underlying39 Tryz.underlying3 (by kernel_rfl) h0
  obtain ⟨ao', len', cap', rfl, _⟩ := okWide_slice Tryz.underlying40 (hval 1 40 v1 rfl rfl)
  obtain ⟨bs, h4, h5⟩ := open_bools Tryz.underlying40 Tryz.underlying4 (by kernel_rfl) h1
  subst h2 h4
  refine (Grows.walk ns bs ao ao' cap cap' W h3 h5).mono ?_
  refine fun e W' ⟨he, hS⟩ => ?_
  subst he
  exact ⟨_, rfl, law_post (tb := 4) (by kernel_rfl) (by kernel_rfl) rfl Tryz.underlying4 rfl hW' rfl hS⟩

theorem Grows.own : ownKnob Tryz.prog.godebug = none := by kernel_rfl
set_option maxRecDepth 100000 in
theorem Grows.lifted (os : Os) (started : os.Started) (H : Type) (enc : TypeId × Value → H) :
    ReturnsInHanded {} Tryz.checked os 4 .any (Rows.storeGrowsSpec.pre6 enc Tryz.prog Tryz.f4 Rows.storeGrowsRow.domain false) (Rows.storeGrowsSpec.post enc Tryz.prog Tryz.f4 false true false false) := by
  refine returnsInHanded_of_change_shaped (C := Tryz.checked) Grows.own started (by kernel_rfl) Tryz.func4
    (ChangeSpec.witness6 (enc := enc) (C := Tryz.checked) false ⟨#[], #[.slice none 0 0, .slice none 0 0], []⟩ 8 (by kernel_rfl) (by kernel_rfl) (by kernel_rfl) (by kernel_rfl)) ?_
  intro W base args ds gs before hval hW _ hreach _ _
  exact Grows.contract H enc W base args ds gs before hval hW hreach

theorem Grows.holds : Rows.StoreGrowsSaid :=
  OpenClaim.holds_of_wide 4 Tryz.f4 rfl rfl rfl rfl rfl rfl rfl ⟨rfl, rfl, rfl, rfl, rfl⟩ rfl rfl rfl rfl rfl (by kernel_rfl) Tryz.func4 (by kernel_rfl)
    (of_decide_eq_true (by kernel_rfl)) (by unfold Func.isWrapper; first | (rw [if_pos (by decide +kernel)]; kernel_rfl) | (rw [if_neg (by decide +kernel)]; exact ⟨rfl, rfl⟩))
    (fun os started H enc _ => Grows.lifted os started H enc)
end Go.Proofs.YtnjhlloonhamlaaGreat
