/-
  For all numbers, TreeLinks answers true: no condition.
-/
import Derived.Test.YtiieicdhkcikpaaTrLksP
import Derived.Test.YtiieicdhkcikpaaMUnl
import Derived.Test.YtiieicdhkcikpaaMAwk
import Derived.Test.YtiieicdhkcikpaaMOp
import Derived.Test.YtiieicdhkcikpaaMSep
import Derived.Test.YtiieicdhkcikpaaMReg
namespace Go.Proofs.Ytiieicdhkcikpaa
open Go.RowKit Go.Sep Go.ChangeShapes Go.WideShapes Go.ChangeAt
set_option linter.unusedSimpArgs false
set_option linter.unusedVariables false
attribute [local irreducible] Go.Oper.wp Go.wpList Go.Calls Go.Code.wp Go.Sep.Reg
attribute [local irreducible] IsT
theorem lbA : ∀ i : Nat, i < 20 → (97 + (i : Int)) = ((UInt8.ofNat (97 + i)).toNat : Int) := by decide +kernel
theorem lname_any {W w : World} {L : List Asrt} (hS : Sat W w L) (i : Nat) (hi : i < 20) :
    Calls Try.prog 19 #[.int .i64 (i : Int)] w fun r w' => ∃ b, r = .returned (.slice (some ⟨b, 0, none⟩) 1 1) ∧ Sat W w' (Cs b 9 [sv (lnm i)] :: L) := by
  have eA := Lib.hid (lbA i hi)
  have q0 : 0 ≤ (i : Int) := by omega
  have q1 : (i : Int) < 20 := by omega
  obtain ⟨xa, hxa⟩ : ∃ x, UInt8.ofNat (97 + i) = x := ⟨_, rfl⟩
  have hf : lnm i = [108, xa] := by unfold lnm; rw [hxa]
  rw [hf]
  rw [hxa] at eA
  clear hxa hf hi
  go_enter Try.func19, Try.ntmps19
  go_wp2_with (first
    | (refine toList (by rfl) ?_; refine bsF hS _ _ _ (by rfl) (elOf (by rfl)) [.int .u8 (97 + (i : Int))] (by rfl) (by rfl) (by decide) (by decide) (by intro v hv; rw [List.mem_singleton.1 hv]; rfl) ?_; intro b1 w1 hS1; clear hS; have hS := (show Sat W w1 (Cs b1 5 [.int .u8 (97 + (i : Int))] :: L) from hS1); clear hS1; rw [eA.out] at hS)
    | (refine toList (by rfl) ?_; refine cvS _ _ _ (by rfl) _ (by rfl) strBytes (l := [xa]) (by exact hS.csRd0 (n := 1) Has.z (by decide) rfl) ?_; replace hS := hS.drop)
    | (refine toList (by rfl) ?_; refine bsF hS _ _ _ (by rfl) (elOf (by rfl)) [sv [108, xa]] (by rfl) (by rfl) (by decide) (by decide) (by intro v hv; rw [List.mem_singleton.1 hv]; rfl) ?_; intro b2 w1 hS1; clear hS; have hS := (show Sat W w1 (Cs b2 9 [sv [108, xa]] :: L) from hS1); clear hS1))
  go_ret
  exact ⟨_, rfl, hS⟩
theorem lk_mk {W w : World} {L : List Asrt} {p b : Nat} (h : Sat W w (Cs b 9 [sv (lnm 0)] :: IsT p TrD.new :: L)) :
    Calls Try.prog 11 #[.pointer (some ⟨p, 0, none⟩), .slice (some ⟨b, 0, none⟩) 1 1, .int .i64 1] w fun r w' => r = .returned (.tuple #[.int .i64 1, .int .i64 0]) ∧ Sat W w' (IsT p (TrD.lT 0) :: L) := by
  refine Calls.mono (tmake_any h.pull1 TrD.new_ok [lnm 0] (some ⟨b, 0, none⟩) 1 (fun w L' h => cs_names (L := Cs b 9 [sv (lnm 0)] :: L) (E := 9) (l := [lnm 0]) (k := 0) rfl (by simp) h) (by simp) 1) ?_
  rw [TrD.lT_0.1, TrD.lT_0.2]
  rintro r w1 ⟨rfl, h1⟩
  exact ⟨rfl, h1.pull1.drop⟩
theorem lk_lk {W w : World} {L : List Asrt} {p b b' j : Nat} (hj : j < 19) (h : Sat W w (Cs b' 9 [sv (lnm (j + 1))] :: Cs b 9 [sv (lnm 0)] :: IsT p (TrD.lT j) :: L)) :
    Calls Try.prog 20 #[.pointer (some ⟨p, 0, none⟩), .slice (some ⟨b, 0, none⟩) 1 1, .slice (some ⟨b', 0, none⟩) 1 1] w fun r w' => r = .returned (.tuple #[.int .i64 1, .int .i64 0]) ∧ Sat W w' (IsT p (TrD.lT (j + 1)) :: L) := by
  refine Calls.mono (tlink_any (h.re [2, 0, 1]) (TrD.lT_ok j) [lnm 0] [lnm (j + 1)] (some ⟨b, 0, none⟩) (some ⟨b', 0, none⟩) 1 1 (fun w L' h => cs_names (L := Cs b' 9 [sv (lnm (j + 1))] :: Cs b 9 [sv (lnm 0)] :: L) (E := 9) (l := [lnm 0]) (k := 1) rfl (by simp) h) (by simp) (fun w L' h => cs_names (L := Cs b' 9 [sv (lnm (j + 1))] :: Cs b 9 [sv (lnm 0)] :: L) (E := 9) (l := [lnm (j + 1)]) (k := 0) rfl (by simp) h) (by simp)) ?_
  obtain ⟨h1, h2, _⟩ := TrD.lT_lk j hj
  rw [h1, h2]
  rintro r w1 ⟨rfl, h1⟩
  exact ⟨rfl, (h1.re [1, 2]).drop.drop⟩
theorem lk_ul {W w : World} {L : List Asrt} {p b k c : Nat} {g : Nat → Bool} (hk : k ≤ 20) (hc : c < k) (hok : (TrD.LT k g).Ok) (h : Sat W w (Cs b 9 [sv (lnm c)] :: IsT p (TrD.LT k g) :: L)) :
    Calls Try.prog 14 #[.pointer (some ⟨p, 0, none⟩), .slice (some ⟨b, 0, none⟩) 1 1] w fun r w' => r = .returned (.tuple #[.int .i64 ((if g c = true then 0 else 1 : Nat) : Nat), .int .i64 (if g c = true then 3 else 0)]) ∧ Sat W w' (IsT p (TrD.LT k (upd g c true)) :: L) := by
  refine Calls.mono (tunlink_any h.pull1 hok [lnm c] (some ⟨b, 0, none⟩) 1 (fun w L' h => cs_names (L := Cs b 9 [sv (lnm c)] :: L) (E := 9) (l := [lnm c]) (k := 0) rfl (by simp) h) (by simp)) ?_
  obtain ⟨h1, h2, h3⟩ := TrD.LT_ul hk hc (g := g)
  rw [h1, h2, h3]
  rintro r w1 ⟨rfl, h1⟩
  exact ⟨rfl, h1.pull1.drop⟩
def gl (g : Nat → Bool) : List Value := (List.range 20).map fun c => .bool (g c)
theorem gl_len (g : Nat → Bool) : (gl g).length = 20 := by simp [gl]
theorem gl_at (g : Nat → Bool) {c : Nat} (hc : c < 20) : (gl g)[c]? = some (.bool (g c)) := by unfold gl; rw [List.getElem?_map, List.getElem?_range hc]; rfl
theorem gl_set (g : Nat → Bool) {c : Nat} (hc : c < 20) : (gl g).set c (.bool true) = gl (upd g c true) := by
  unfold gl
  apply List.ext_getElem?
  intro k
  rw [List.getElem?_set]
  by_cases e : c = k
  · subst e
    rw [if_pos rfl, List.length_map, List.length_range, if_pos hc, List.getElem?_map, List.getElem?_range hc]
    simp only [Option.map_some, upd_at]
  · rw [if_neg e, List.getElem?_map, List.getElem?_map]
    by_cases h : k < 20
    · rw [List.getElem?_range h]; simp only [Option.map_some]; rw [upd_no _ _ (fun h => e h.symm)]
    · rw [List.getElem?_eq_none (by simp; omega)]; rfl
def TrD.lDn (k : Nat) (g : Nat → Bool) : Nat := (lD k g).length
theorem lDn_le (k : Nat) (g : Nat → Bool) : TrD.lDn k g ≤ k := by
  unfold TrD.lDn lD
  rw [List.length_map]
  exact Nat.le_trans (List.length_filter_le _ _) (by rw [List.length_range]; exact Nat.le_refl _)
theorem lD_all (k : Nat) : (lD k fun _ => false).length = k := by
  unfold lD
  rw [List.length_map, List.filter_eq_self.2 (by simp), List.length_range]
theorem TrD.LT_dr0 {k : Nat} {g : Nat → Bool} (h : TrD.lDn k g = 0) : (TrD.LT k g).drOk 1 = true ∧ ((TrD.LT k g).dr 1).drOk 1 = false ∧ ((TrD.LT k g).dr 1).dr 1 = (TrD.LT k g).dr 1 ∧ ((TrD.LT k g).dr 1).kindI 1 = 0 := by
  have h1 : (TrD.LT k g).drOk 1 = true := by
    have h2 : (TrD.LT k g).links 1 = 0 := (TrD.LT_links k g).trans h
    have h3 : (TrD.LT k g).kind 1 = 1 := rfl
    unfold TrD.drOk
    rw [show (1 : Int).toNat = 1 from rfl, h2, h3]; rfl
  have h2 : ((TrD.LT k g).dr 1).kind 1 = 0 := by unfold TrD.dr; rw [if_pos h1]; rfl
  have h3 : ((TrD.LT k g).dr 1).drOk 1 = false := by
    unfold TrD.drOk
    rw [show (1 : Int).toNat = 1 from rfl, h2]; rfl
  refine ⟨h1, h3, ?_, ?_⟩
  · generalize (TrD.LT k g).dr 1 = T1 at h3 ⊢
    unfold TrD.dr
    rw [h3, if_neg (by decide)]
  · unfold TrD.kindI
    rw [if_pos (by rfl)]; exact h2
theorem TrD.LT_dr1 {k : Nat} {g : Nat → Bool} (h : TrD.lDn k g ≠ 0) : (TrD.LT k g).drOk 1 = false ∧ (TrD.LT k g).dr 1 = TrD.LT k g ∧ (TrD.LT k g).kindI 1 = 1 := by
  have h1 : (TrD.LT k g).drOk 1 = false := by
    have h2 : (TrD.LT k g).links 1 ≠ 0 := fun e => h ((TrD.LT_links k g).symm.trans e)
    unfold TrD.drOk
    rw [show (1 : Int).toNat = 1 from rfl, decide_eq_false h2, Bool.and_false]
  refine ⟨h1, ?_, ?_⟩
  · unfold TrD.dr
    rw [h1, if_neg (by decide)]
  · unfold TrD.kindI
    rw [if_pos (by rfl)]; rfl
attribute [local irreducible] TrD.lT TrD.LT TrD.new
set_option maxRecDepth 20000 in
set_option maxHeartbeats 4000000 in
theorem Links.walk (n : Int) (l : List Int) (ao : Option Addr) (c : Nat) (W : World) (hr : Rd W (.slice ao l.length c) l.length 1 (l.flatMap inv1)) (hb : ∀ x ∈ l, i64B x) :
    Calls Try.prog 4 #[.int .i64 n, .slice ao l.length c] W fun e w' => e = .returned (.bool true) ∧ Sat W w' [] := by
  have hS := Sat.start W
  have HR := Lib.hid (fun u (L : List Asrt) (h : Sat W u L) => hr.old h)
  obtain ⟨_, _, he, hc1, hc2, _, h5⟩ := hr
  simp only [Value.slice.injEq, true_and] at he
  obtain ⟨rfl, rfl⟩ := he
  have H5 := Lib.hid h5
  have HB := Lib.hid hb
  obtain ⟨k, hk, hk20⟩ : ∃ k : Nat, n % 20 = (k : Int) ∧ k < 20 := ⟨(n % 20).toNat, by omega, by omega⟩
  have HPL := Lib.hid (fun w => by have := place_any n 20 (by decide) (by decide) w; rw [hk] at this; exact this)
  have q0 : 0 ≤ (k : Int) := by omega
  have q1 : (k : Int) < 20 := by omega
  have HK := Lib.hid hk20
  have HN0 := Lib.hid (fun w Lc (h : Sat W w Lc) => show Calls Try.prog 19 #[.int .i64 0] w (fun r w' => ∃ b, r = .returned (.slice (some ⟨b, 0, none⟩) 1 1) ∧ Sat W w' (Cs b 9 [sv (lnm 0)] :: Lc)) from lname_any h 0 (by omega))
  clear h5 hb hk hk20
  go_enter Try.func4, Try.ntmps4
  go_wp2_with (first
    | (go_at_call 10; refine (tnew_any hS).mono ?_; rintro r w1 ⟨p, rfl, hS1⟩; clear hS; have hS := hS1; clear hS1)
    | (go_at_call 13; refine (HPL.out _).mono ?_; rintro r w1 ⟨rfl, rfl⟩)
    | (go_at_call 19; refine (HN0.out _ _ hS).mono ?_; rintro r w1 ⟨b, rfl, hS1⟩; clear hS; have hS := hS1; clear hS1)
    | (go_at_call 11; refine (lk_mk hS).mono ?_; rintro r w1 ⟨rfl, hS1⟩; clear hS; have hS := hS1; clear hS1))
  have H0 := Lib.hid hS
  go_loopw [10] (fun v wz => ∃ j : Nat, v = .int .i64 ((j : Int) + 1) ∧ j ≤ k ∧ Sat W wz [IsT p (TrD.lT j)]) (fun v _ => 48 - (intOf v).toNat)
  case atStart => exact ⟨0, rfl, by omega, H0.out⟩
  case round =>
    clear hS H0
    obtain ⟨j, rfl, hj, hS⟩ := hrel
    by_cases hlt : j < k
    · have hj19 : j < 19 := by have := HK.out; omega
      have g1 : (j : Int) + 1 < 1 + (k : Int) := by omega
      have HN := Lib.hid (fun w Lc (h : Sat W w Lc) => show Calls Try.prog 19 #[.int .i64 ((j : Int) + 1)] w (fun r w' => ∃ b, r = .returned (.slice (some ⟨b, 0, none⟩) 1 1) ∧ Sat W w' (Cs b 9 [sv (lnm (j + 1))] :: Lc)) from lname_any h (j + 1) (by omega))
      have HLK := Lib.hid (fun w b b' (h : Sat W w (Cs b' 9 [sv (lnm (j + 1))] :: Cs b 9 [sv (lnm 0)] :: [IsT p (TrD.lT j)])) => lk_lk hj19 h)
      have HLN := Lib.hid (fun w (h : Sat W w [IsT p (TrD.lT (j + 1))]) => by have := tlinks_any h 1; rw [(TrD.lT_lk j hj19).2.2, (by omega : ((j + 2 : Nat) : Int) = (j : Int) + 2)] at this; exact this)
      have HLT := Lib.hid hlt
      clear hlt hj hj19
      go_wp2_with (first
        | (go_at_call 19; refine (HN0.out _ _ hS).mono ?_; rintro r w1 ⟨b, rfl, hS1⟩; clear hS; have hS := hS1; clear hS1)
        | (go_at_call 19; refine (HN.out _ _ hS).mono ?_; rintro r w1 ⟨b', rfl, hS1⟩; clear hS; have hS := hS1; clear hS1)
        | (go_at_call 20; refine (HLK.out _ _ _ hS).mono ?_; rintro r w1 ⟨rfl, hS1⟩; clear hS; have hS := hS1; clear hS1)
        | (go_at_call 15; refine (HLN.out _ hS).mono ?_; rintro r w1 ⟨rfl, rfl⟩))
      exact ⟨⟨j + 1, by go_num, HLT.out, hS⟩, by simp [intOf]; have := HLT.out; have := HK.out; omega⟩
    · obtain rfl : j = k := by omega
      clear hlt hj
      have g1 : ¬ (j : Int) + 1 < 1 + (j : Int) := by omega
      have hj20 : j < 20 := HK.out
      have hok := TrD.lT_ok j
      rw [TrD.lT_LT hj20] at hS hok
      have HOK := Lib.hid hok
      clear hok hj20
      go_wp2_with (first
        | (refine toList (by rfl) ?_; refine al hS _ (by rfl) (zrOf (by rfl)) ?_; intro bg w1 hS1; clear hS; have hS := (show Sat W w1 (Cs bg _ (gl fun _ => false) :: [IsT p (TrD.LT (j + 1) fun _ => false)]) from hS1); clear hS1))
      have H1 := Lib.hid hS
      go_loopw [14, 15] (fun v14 v15 wz => ∃ (m : Nat) (g : Nat → Bool), v15 = .int .i64 (m : Int) ∧ m ≤ l.length ∧ m ≤ 30 ∧ v14 = .int .i64 ((TrD.lDn (j + 1) g : Nat) : Int) ∧ (TrD.LT (j + 1) g).Ok ∧ Sat W wz (Cs bg _ (gl g) :: [IsT p (TrD.LT (j + 1) g)])) (fun _ v15 _ => 30 - (intOf v15).toNat)
      case atStart => exact ⟨0, fun _ => false, rfl, by omega, by omega, by rw [show TrD.lDn (j + 1) (fun _ => false) = j + 1 from lD_all (j + 1), (by omega : ((j + 1 : Nat) : Int) = 1 + (j : Int))], HOK.out, H1.out⟩
      case round =>
        clear hS H1 HOK
        obtain ⟨m, g, rfl, hm, hm30, rfl, hok, hS⟩ := hrel
        have HLL := Lib.hid (TrD.LT_links (j + 1) g)
        by_cases hgo : m < l.length ∧ m < 30
        · obtain ⟨hlt, hl30⟩ := hgo
          obtain ⟨bb, off, rfl, _⟩ := H5.out (by omega)
          obtain ⟨x, hx⟩ : ∃ x, l[m]? = some x := ⟨_, List.getElem?_eq_getElem hlt⟩
          have j1 : (m : Int) < (l.length : Int) := by omega
          have j2 : (m : Int) < 30 := by omega
          have HX := Lib.hid hx
          have HLT := Lib.hid hlt
          have HL3 := Lib.hid hl30
          have hj20 : j < 20 := HK.out
          obtain ⟨c', hc', hcj⟩ : ∃ c' : Nat, x % (1 + (j : Int)) = (c' : Int) ∧ c' < j + 1 := ⟨(x % (1 + (j : Int))).toNat, by have := Int.emod_nonneg x (by omega : (1 + (j : Int)) ≠ 0); omega, by have := Int.emod_nonneg x (by omega : (1 + (j : Int)) ≠ 0); have := Int.emod_lt_of_pos x (by omega : 0 < 1 + (j : Int)); omega⟩
          have HPC := Lib.hid (fun w => by have := place_any x (1 + (j : Int)) (by omega) (by omega) w; rw [hc'] at this; exact this)
          have hc20 : c' < 20 := by omega
          have g3 : (c' : Int) < 20 := by omega
          have HNC := Lib.hid (fun w Lc (h : Sat W w Lc) => lname_any h c' hc20)
          have HUL := Lib.hid (fun w b Lc (h : Sat W w (Cs b 9 [sv (lnm c')] :: IsT p (TrD.LT (j + 1) g) :: Lc)) => lk_ul (by omega) hcj hok h)
          have hok2 := hok.ul [lnm c']
          rw [(TrD.LT_ul (by omega) hcj (g := g)).2.2] at hok2
          have HOK2 := Lib.hid hok2
          have HLN := Lib.hid (fun w Lc (h : Sat W w (IsT p (TrD.LT (j + 1) (upd g c' true)) :: Lc)) => by have := tlinks_any h 1; rw [(show (TrD.LT (j + 1) (upd g c' true)).linksI 1 = TrD.lDn (j + 1) (upd g c' true) from TrD.LT_links (j + 1) _)] at this; exact this)
          have HGA := Lib.hid (gl_at g hc20)
          have HGS := Lib.hid (gl_set g hc20)
          have HGL := Lib.hid (show c' < (gl g).length by rw [gl_len]; exact hc20)
          obtain ⟨gc, hgc⟩ : ∃ b, g c' = b := ⟨_, rfl⟩
          have hln : TrD.lDn (j + 1) (upd g c' true) = (if gc = true then TrD.lDn (j + 1) g else TrD.lDn (j + 1) g - 1) ∧ (gc = false → 1 ≤ TrD.lDn (j + 1) g) := by
            cases gc with
            | true => rw [if_pos rfl, TrD.upd_same hgc]; exact ⟨rfl, fun h => nomatch h⟩
            | false =>
              have := TrD.lD_len hcj hgc
              unfold TrD.lDn
              rw [if_neg (by decide)]
              exact ⟨by omega, fun _ => by omega⟩
          rw [hgc] at HGA HUL
          have hb1 := lDn_le (j + 1) g
          have hb2 := lDn_le (j + 1) (upd g c' true)
          obtain ⟨n1, hn1⟩ : ∃ n1, TrD.lDn (j + 1) g = n1 := ⟨_, rfl⟩
          obtain ⟨n2, hn2⟩ : ∃ n2, TrD.lDn (j + 1) (upd g c' true) = n2 := ⟨_, rfl⟩
          rw [hn1, hn2] at hln
          rw [hn1] at hb1
          rw [hn2] at hb2
          have b1 : (n1 : Int) ≤ 20 := by omega
          have b2 : (n2 : Int) ≤ 20 := by omega
          have b3 : 0 ≤ (n2 : Int) := by omega
          clear hb1 hb2
          rw [hn2] at HLN
          have HN2 := Lib.hid hn2
          rw [hn1]
          have HDN := Lib.hid hln
          clear hlt hl30 hx hc' hcj hc20 hok hok2 hm hm30 hgc hn1 hn2 hj20 HLL hln
          have hcs : (gc = true ∧ n2 = n1) ∨ (gc = false ∧ n1 = n2 + 1) := by
            have h1 := HDN.out
            cases gc with
            | true => left; have := h1.1; rw [if_pos rfl] at this; exact ⟨rfl, this⟩
            | false => right; have h2 := h1.1; rw [if_neg (by decide)] at h2; have := h1.2 rfl; exact ⟨rfl, by omega⟩
          clear HDN
          rcases hcs with ⟨rfl, rfl⟩ | ⟨rfl, rfl⟩
          all_goals
            go_wp2_with (first
              | (refine toList (by rfl) ?_; refine wp_of_reads (rLdRd (f := inv1) (x := x) (u := .int .i64 x) (HR.out _ _ hS) (inv1_len l) _ _ (by rfl) _ (by rfl) (agOf (by rfl)) m 0 (by omega) HX.out (by rfl) (by omega)) ?_)
              | (go_at_call 13; refine (HPC.out _).mono ?_; rintro r w1 ⟨rfl, rfl⟩)
              | (go_at_call 19; refine (HNC.out _ _ hS).mono ?_; rintro r w1 ⟨b, rfl, hS1⟩; clear hS; have hS := hS1.re [0, 2, 1]; clear hS1)
              | (go_at_call 14; refine (HUL.out _ _ _ hS).mono ?_; rintro r w1 ⟨rfl, hS1⟩; clear hS; have hS := hS1.pull1; clear hS1)
              | (refine toList (by rfl) ?_; refine ld hS _ _ (by rfl) _ _ (by rfl) (agOf (by rfl)) Has.z HGA.out ?_)
              | (refine toList (by rfl) ?_; refine st hS _ _ _ (by rfl) _ _ (by rfl) _ (by first | exact evC | exact evT (by rfl)) (by rfl) (szOf (by rfl)) Has.z HGL.out ?_; intro w1 hS1; clear hS; have hS := hS1; clear hS1; dsimp only [List.set_cons_zero] at hS; rw [HGS.out] at hS)
              | (go_at_call 15; refine (HLN.out _ _ hS.pull1).mono ?_; rintro r w1 ⟨rfl, rfl⟩))
            try rfl
            exact ⟨⟨m + 1, upd g c' true, by go_num, HLT.out, HL3.out, by rw [HN2.out] <;> go_num, HOK2.out, hS⟩, by simp [intOf]; have := HL3.out; omega⟩
        · have hcase : (decide ((m : Int) < (l.length : Int)) = false ∧ decide (m < l.length) = false ∧ ¬ (m : Int) < (l.length : Int)) ∨ ((decide ((m : Int) < (l.length : Int)) = true ∧ decide (m < l.length) = true ∧ (m : Int) < (l.length : Int)) ∧ decide ((m : Int) < 30) = false ∧ decide (m < 30) = false ∧ ¬ (m : Int) < 30) := by
            by_cases h : m < l.length
            · exact .inr ⟨⟨decide_eq_true (by omega), decide_eq_true h, by omega⟩, decide_eq_false (by omega), decide_eq_false (by omega), by omega⟩
            · exact .inl ⟨decide_eq_false (by omega), decide_eq_false h, by omega⟩
          clear hgo hm hm30 HLL
          replace hS := hS.pull1
          obtain ⟨T, hT⟩ : ∃ T, TrD.LT (j + 1) g = T := ⟨_, rfl⟩
          by_cases hz : TrD.lDn (j + 1) g = 0
          · obtain ⟨d1, d2, d3, d4⟩ := TrD.LT_dr0 hz
            rw [hT] at d1 d2 d3 d4 hok hS
            rw [hz]
            have hok2 := hok.dr 1
            have HD1 := Lib.hid (fun w Lc (h : Sat W w (IsT p T :: Lc)) => by have := tdrop_any h hok 1; rw [d1] at this; exact this)
            have HD2 := Lib.hid (fun w Lc (h : Sat W w (IsT p (T.dr 1) :: Lc)) => by have := tdrop_any h hok2 1; rw [d2, d3] at this; exact this)
            have HKD := Lib.hid (fun w Lc (h : Sat W w (IsT p (T.dr 1) :: Lc)) => by have := tkind_any h 1; rw [d4] at this; exact this)
            clear d1 d2 d3 d4 hok hok2 hz hT
            rcases hcase with ⟨k1, k2, k3⟩ | ⟨⟨k1, k2, k3⟩, k4, k5, k6⟩
            all_goals
              go_wp2_with (first
                | (go_at_call 17; refine (HD1.out _ _ hS).mono ?_; rintro r w1 ⟨rfl, hS1⟩; clear hS; have hS := hS1; clear hS1)
                | (go_at_call 17; refine (HD2.out _ _ hS).mono ?_; rintro r w1 ⟨rfl, hS1⟩; clear hS; have hS := hS1; clear hS1)
                | (go_at_call 16; refine (HKD.out _ _ hS).mono ?_; rintro r w1 ⟨rfl, rfl⟩)
                | (go_at_call 18; refine (wake_any hS).mono ?_; rintro r w1 ⟨rfl, hS1⟩; clear hS; have hS := hS1; clear hS1))
              go_ret
              exact ⟨rfl, hS.map fun _ _ => trivial⟩
          · obtain ⟨d1, d2, d3⟩ := TrD.LT_dr1 hz
            rw [hT] at d1 d2 d3 hok hS
            obtain ⟨n1, hn1⟩ : ∃ n1, TrD.lDn (j + 1) g = n1 := ⟨_, rfl⟩
            rw [hn1] at hz ⊢
            have z1 : ((n1 : Int) == 0) = false := beq_eq_false_iff_ne.2 (by omega)
            have HD1 := Lib.hid (fun w Lc (h : Sat W w (IsT p T :: Lc)) => by have := tdrop_any h hok 1; rw [d1, d2] at this; exact this)
            have HD2 := HD1
            have HKD := Lib.hid (fun w Lc (h : Sat W w (IsT p T :: Lc)) => by have := tkind_any h 1; rw [d3] at this; exact this)
            clear d1 d2 d3 hok hz hT hn1
            rcases hcase with ⟨k1, k2, k3⟩ | ⟨⟨k1, k2, k3⟩, k4, k5, k6⟩
            all_goals
              go_wp2_with (first
                | (go_at_call 17; refine (HD1.out _ _ hS).mono ?_; rintro r w1 ⟨rfl, hS1⟩; clear hS; have hS := hS1; clear hS1)
                | (go_at_call 17; refine (HD2.out _ _ hS).mono ?_; rintro r w1 ⟨rfl, hS1⟩; clear hS; have hS := hS1; clear hS1)
                | (go_at_call 16; refine (HKD.out _ _ hS).mono ?_; rintro r w1 ⟨rfl, rfl⟩)
                | (go_at_call 18; refine (wake_any hS).mono ?_; rintro r w1 ⟨rfl, hS1⟩; clear hS; have hS := hS1; clear hS1))
              go_ret
              exact ⟨rfl, hS.map fun _ _ => trivial⟩

set_option maxRecDepth 100000 in
theorem Links.contract (H : Type) (enc : TypeId × Value → H) (W : World) (base : Nat) (args : Array Value) (ds gs : List (DataW H)) (before : List MemPlace)
    (hval : ∀ (j : Nat) t v, Try.f4.params[j]? = some t → args[j]? = some v → Value.okWide Try.prog W .any base t v)
    (hW : DataW.Whole enc Try.prog Try.f4.params.toList Rows.treeLinksSpec.vars false W args.toList ds gs before)
    (hreach : (DataW.weightsEach Try.prog (Try.f4.params.toList ++ Rows.treeLinksSpec.plain.varTypes Try.prog) (ds ++ gs)).all (· ≤ reachBytes) = true) :
    Calls Try.prog 4 args W fun e W' => ∃ v, e = .returned v ∧ Rows.treeLinksSpec.post enc Try.prog Try.f4 false true false false W args v W' := by
  have hW' := hW
  obtain ⟨p, q, hA, hV, rfl, hfz, hnd⟩ := hW
  rw [Try.params4] at hA hval hreach
  obtain ⟨v0, vs0, d0, ds0, p0, q0, hargs, rfl, rfl, h0, r0⟩ := trodAll_cons hA
  obtain ⟨v1, vs1, d1, ds1, p1, q1, hargs1, rfl, rfl, h1, r1⟩ := trodAll_cons r0
  obtain ⟨rfl, rfl, rfl⟩ := trodAll_nil r1
  obtain rfl : args = #[v0, v1] := by cases args; simp_all
  obtain ⟨rfl, rfl⟩ := trodVars_none hV
  obtain ⟨a0, rfl, rfl, rfl, w0⟩ := open_int Try.underlying3 (hval 0 3 v0 rfl rfl) h0
  obtain ⟨ao1, len1, cap1, rfl⟩ := okWide_slice Try.underlying36 (hval 1 36 v1 rfl rfl)
  obtain ⟨l, rfl, hr1, hb1, _⟩ := open_nums Try.underlying36 Try.underlying3 (by kernel_rfl) h1
  refine (Links.walk a0 l ao1 cap1 W (by rw [inv1_fm]; exact hr1) (fun y hy => i64_of (hb1 y hy))).mono ?_
  refine fun e W' ⟨he, hS⟩ => ?_
  subst he
  exact ⟨_, rfl, law_post (tb := 4) (by kernel_rfl) (by kernel_rfl) rfl Try.underlying4 rfl hW' rfl hS⟩

theorem Links.own : ownKnob Try.prog.godebug = none := by kernel_rfl
set_option maxRecDepth 100000 in
theorem Links.lifted (os : Os) (started : os.Started) (H : Type) (enc : TypeId × Value → H) :
    ReturnsInHanded {} Try.checked os 4 .any (Rows.treeLinksSpec.pre6 enc Try.prog Try.f4 Rows.treeLinksRow.domain false) (Rows.treeLinksSpec.post enc Try.prog Try.f4 false true false false) := by
  refine returnsInHanded_of_change_shaped (C := Try.checked) Links.own started (by kernel_rfl) Try.func4
    (ChangeSpec.witness6 (enc := enc) (C := Try.checked) false ⟨#[], #[.int .i64 0, .slice none 0 0], []⟩ 8 (by kernel_rfl) (by kernel_rfl) (by kernel_rfl) (by kernel_rfl)) ?_
  intro W base args ds gs before hval hW _ hreach _ _
  exact Links.contract H enc W base args ds gs before hval hW hreach

theorem Links.holds : Rows.TreeLinksSaid :=
  OpenClaim.holds_of_wide 4 Try.f4 rfl rfl rfl rfl rfl rfl rfl ⟨rfl, rfl, rfl, rfl, rfl⟩ rfl rfl rfl rfl rfl (by kernel_rfl) Try.func4 (by kernel_rfl)
    (of_decide_eq_true (by kernel_rfl)) (by unfold Func.isWrapper; first | (rw [if_pos (by decide +kernel)]; kernel_rfl) | (rw [if_neg (by decide +kernel)]; exact ⟨rfl, rfl⟩))
    (fun os started H enc _ => Links.lifted os started H enc)
end Go.Proofs.Ytiieicdhkcikpaa
