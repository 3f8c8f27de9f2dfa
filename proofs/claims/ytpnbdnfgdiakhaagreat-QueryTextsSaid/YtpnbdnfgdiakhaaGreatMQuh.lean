/-
  The document's to: the whole.
  The document's List.
-/
import Derived.Test.YtpnbdnfgdiakhaaGreatMQug
import Derived.Test.YtpnbdnfgdiakhaaGreatQuToB
import Derived.Test.YtpnbdnfgdiakhaaGreatQuToK
import Derived.Test.YtpnbdnfgdiakhaaGreatQuToL
import Derived.Test.YtpnbdnfgdiakhaaGreatQuLookC
import Derived.Test.YtpnbdnfgdiakhaaGreatMLbr
namespace Go.Proofs.YtpnbdnfgdiakhaaGreat
open Go.RowKit Go.Sep
set_option linter.unusedSimpArgs false
set_option linter.unusedVariables false
attribute [local irreducible] Go.Oper.wp Go.wpList Go.Calls Go.Code.wp Go.Sep.Reg
attribute [local irreducible] IsG
theorem StepD.alone_6l {q : StepD} (h : q.alone = true) (e : q.op = 6) : 2 ≤ q.kids.length := by
  unfold StepD.alone at h
  rw [if_neg (by omega), if_neg (by omega), if_neg (by omega), if_neg (by omega), if_pos (by omega)] at h
  simp only [Bool.and_eq_true, decide_eq_true_eq] at h
  exact h.1.2
theorem to_any {W : World} {pv lb q0 : Nat} {G : Gr} {an : Option Addr} {cn : Nat} {ae : Option Addr} {ce : Nat} (hG : G.Ok) : ∀ d, ToC W pv lb q0 G an cn ae ce d
  | 0 => fun w M q S va hok => by cases hok
  | d + 1 => fun w M q S va hok hq hv hS => by
    obtain ⟨ha, hk⟩ := StepD.ok_succ.1 hok
    have hu := (hq w [_, _, _, _, _] hS).shape
    have ih := to_any (W := W) (pv := pv) (lb := lb) (q0 := q0) (an := an) (cn := cn) (ae := ae) (ce := ce) hG d
    obtain ⟨op, n, u, ks⟩ := q
    by_cases h1 : op = 1
    · subst h1; exact to_up hG n u ks S va hu hv hS
    · by_cases h2 : op = 2
      · subst h2; exact to_down hG n u ks S va hu hv hS
      · by_cases h8 : op = 8
        · subst h8; exact to_live hG n u ks S va hu hv hS
        · by_cases h3 : op = 3
          · subst h3; exact to_kind hG n u ks S va hu hv hS
          · by_cases h4 : op = 4
            · subst h4
              obtain ⟨h5, h6⟩ := StepD.alone_4 ha rfl
              replace h5 : 0 ≤ n := h5
              replace h6 : n < 8 := h6
              obtain ⟨t, rfl⟩ : ∃ t : Nat, n = (t : Int) := ⟨n.toNat, by omega⟩
              exact to_label hG t u ks S va (by omega) hu hv hS
            · by_cases h5 : op = 5
              · subst h5
                have hl := StepD.alone_5 ha rfl
                replace hl : ks.length = 1 := hl
                obtain ⟨⟨ko, kn, ku, kk⟩, rfl⟩ := List.length_eq_one_iff.1 hl
                exact to_star hG ih n u ko kn ku kk S va (hk _ (List.mem_singleton.2 rfl)) hq hv hS
              · by_cases h7 : op = 7
                · subst h7
                  have hl := StepD.alone_7 ha rfl
                  replace hl : 2 ≤ ks.length := hl
                  exact to_then hG ih n u ks S va (by omega) hk hq hv hS
                · have h6 := StepD.alone_6 ha h1 h2 h3 h4 h5 h7 h8
                  replace h6 : op = 6 := h6
                  subst h6
                  have hl := StepD.alone_6l ha rfl
                  replace hl : 2 ≤ ks.length := hl
                  exact to_or hG ih n u ks S va (by omega) hk hq hv hS
end Go.Proofs.YtpnbdnfgdiakhaaGreat
namespace Go.Proofs.YtpnbdnfgdiakhaaGreat
open Go.RowKit Go.Sep
set_option linter.unusedSimpArgs false
set_option linter.unusedVariables false
attribute [local irreducible] Go.Oper.wp Go.wpList Go.Calls Go.Code.wp Go.Sep.Reg
attribute [local irreducible] IsG
/-- Those of the first so many that are nodes. -/
def SI (fl : List Int) (i t : Nat) : Bool := (fl.take i).any fun x => decide (x = (t : Int))
theorem SI_zero (fl : List Int) : (fun _ => false) = SI fl 0 := by funext t; simp [SI]
theorem SI_yes {fl : List Int} {i m : Nat} (h : fl[i]? = some (m : Int)) : (fun t => SI fl i t || decide (t = m)) = SI fl (i + 1) := by
  funext t
  unfold SI
  rw [List.take_add_one, h, List.any_append]
  have e : decide ((m : Int) = (t : Int)) = decide (t = m) := decide_eq_decide.2 ⟨fun h => by omega, fun h => by omega⟩
  simp [e, eq_comm]
theorem SI_no {fl : List Int} {i n : Nat} {x : Int} (h : fl[i]? = some x) (hx : ∀ t, t < n → x ≠ (t : Int)) : bl (SI fl i) n = bl (SI fl (i + 1)) n := bl_congr fun t ht => by
  unfold SI
  rw [List.take_add_one, h, List.any_append]
  simp [hx t ht]
theorem SI_all {fl : List Int} {t : Nat} : SI fl fl.length t = true ↔ (t : Int) ∈ fl := by
  unfold SI
  rw [List.take_length, List.any_eq_true]
  constructor
  · rintro ⟨x, hx, h⟩; rw [of_decide_eq_true h] at hx; exact hx
  · intro h; exact ⟨_, h, decide_eq_true rfl⟩
def tN (T : Nat → Bool) (i : Nat) : List Nat := (List.range i).filter T
theorem tN_yes {T : Nat → Bool} {i : Nat} (h : T i = true) : tN T (i + 1) = tN T i ++ [i] := by
  unfold tN; rw [List.range_succ, List.filter_append]; simp [h]
theorem tN_no {T : Nat → Bool} {i : Nat} (h : T i = false) : tN T (i + 1) = tN T i := by
  unfold tN; rw [List.range_succ, List.filter_append]; simp [h]
theorem tN_len (T : Nat → Bool) (i : Nat) : (tN T i).length ≤ i := by
  have := List.length_filter_le T (List.range i)
  rwa [List.length_range] at this
theorem tN_all {G : Gr} {q : StepD} {fl : List Int} {T : Nat → Bool} (hc : q.chk = true) (h : IsTo G 12 q (SI fl fl.length) T) : tN T G.N.length = qlist G q fl := by
  rw [qlist_yes fl hc]
  refine fltN_eq (List.Pairwise.filter _ List.pairwise_lt_range) fun n => ?_
  unfold tN
  rw [List.mem_filter, List.mem_range]
  refine and_congr_right fun hn => ?_
  rw [h n hn]
  constructor
  · rintro ⟨m, hm, h1, h2⟩; exact ⟨m, ⟨hm, SI_all.1 h1⟩, h2⟩
  · rintro ⟨m, ⟨hm, h1⟩, h2⟩; exact ⟨m, hm, SI_all.2 h1, h2⟩
set_option maxRecDepth 20000 in
set_option maxHeartbeats 8000000 in
theorem rlist_any {W w : World} {L : List Asrt} {q0 : Nat} {G : Gr} (hS : Sat W w (IsR q0 G :: L)) (hG : G.Ok) (hto : ∀ pv lb an cn ae ce, ToC W pv lb q0 G an cn ae ce 12) (q : StepD) (hq : ∀ w L', Sat W w (L' ++ L) → QRd w 12 q) (fl : List Int) (fv : Value) (hf : ∀ w L', Sat W w (L' ++ L) → Rd w fv fl.length 1 (ivz fl)) :
    Calls Tryz.prog 9 #[.pointer (some ⟨q0, 0, none⟩), .agg (qv q).toArray, fv] w fun e w' => ∃ v, e = .returned v ∧ (qlist G q fl = [] → v = .slice none 0 0) ∧ (∃ L2, Sat W w' (Ir v (qlist G q fl) :: IsR q0 G :: (L2 ++ L))) := by
  obtain ⟨ao, nu, c, hu⟩ := (hq w [_] hS).shape
  obtain ⟨af, cf, rfl, hf1, hf2, _, h5⟩ := hf w [_] hS
  have HF := Lib.hid hf
  have H5 := Lib.hid (show 0 < fl.length → ∃ b off, af = some ⟨b, off, none⟩ from fun h => by obtain ⟨b, off, h1, _⟩ := h5 h; exact ⟨b, off, h1⟩)
  have HG := Lib.hid hG
  have HTO := Lib.hid hto
  have hfl : (fl.length : Int) ≤ 9223372036854775807 := by omega
  have hnl : (G.N.length : Int) ≤ 4096 := by have := hG.len; omega
  have HCK := Lib.hid (fun w A B (h : Sat W w (A :: B :: L)) => rcheck_any h q fun w L2 h => hq w (L2 ++ [A, B]) (by rw [List.append_assoc]; exact h))
  have HQ := Lib.hid hq
  have HOK := Lib.hid (fun h => StepD.chk_ok (q := q) h)
  have HNO := Lib.hid (fun h => qlist_no (G := G) (q := q) fl h)
  have HAL := Lib.hid (fun T hc (h : IsTo G 12 q (SI fl fl.length) T) => tN_all hc h)
  obtain ⟨QL, hQL⟩ : ∃ QL, qlist G q fl = QL := ⟨_, rfl⟩
  rw [hQL] at HNO ⊢
  have HAL2 := Lib.hid (fun T hc (h : IsTo G 12 q (SI fl fl.length) T) => (HAL.out T hc h).trans hQL)
  clear hq hf h5 hG hto hf1 HAL hQL
  obtain ⟨ck, hck⟩ : ∃ ck, q.chk = ck := ⟨_, rfl⟩
  rw [hck] at HCK HOK HNO HAL2
  obtain ⟨qo, qn, qu, qk⟩ := q
  replace hu : qu = .slice ao nu c := hu
  subst hu
  replace HCK := Lib.hid (fun w A B (h : Sat W w (A :: B :: L)) => show Calls Tryz.prog 17 #[.agg #[.int .i64 qo, .int .i64 qn, .slice ao nu c]] w _ from HCK.out w A B h)
  show Calls Tryz.prog 9 #[.pointer (some ⟨q0, 0, none⟩), .agg #[.int .i64 qo, .int .i64 qn, .slice ao nu c], .slice af fl.length cf] w _
  clear hck
  cases ck with
  | false =>
    have HN := Lib.hid (HNO.out rfl)
    go_enter Tryz.func9, Tryz.ntmps9
    go_wp2_with (first
      | (refine toList (by rfl) ?_; refine bx hS _ _ (by rfl) _ (by first | exact evC | exact evT (by rfl)) ?_; intro p4 w1 hS1; clear hS; have hS := (show Sat W w1 (Cs p4 27 [.int .i64 qo, .int .i64 qn, .slice ao nu c] :: IsR q0 G :: L) from hS1); clear hS1)
      | (refine toList (by rfl) ?_; refine wp_of_reads (rLdA hS _ _ (by rfl) _ _ (by rfl) (agOf (by rfl)) (szOf (by rfl)) Has.z (vs := [.int .i64 qo, .int .i64 qn, .slice ao nu c]) (by rfl) (by rfl)) ?_)
      | (go_at_call 17; refine (HCK.out _ _ _ hS).mono ?_; rintro e w1 ⟨rfl, hS1⟩; clear hS; have hS := hS1; clear hS1))
    go_ret
    refine ⟨_, rfl, fun _ => rfl, [Cs p4 27 [.int .i64 qo, .int .i64 qn, .slice ao nu c]], ?_⟩
    rw [HN.out]
    exact (hS.re [1]).irNil
  | true =>
    have HOK2 := Lib.hid (HOK.out rfl)
    have HAL3 := Lib.hid (fun T h => HAL2.out T rfl h)
    clear HOK HAL2 HNO
    go_enter Tryz.func9, Tryz.ntmps9
    go_wp2_with (first
      | (refine toList (by rfl) ?_; refine bx hS _ _ (by rfl) _ (by first | exact evC | exact evT (by rfl)) ?_; intro p4 w1 hS1; clear hS; have hS := (show Sat W w1 (Cs p4 27 [.int .i64 qo, .int .i64 qn, .slice ao nu c] :: IsR q0 G :: L) from hS1); clear hS1)
      | (refine toList (by rfl) ?_; refine wp_of_reads (rLdA hS _ _ (by rfl) _ _ (by rfl) (agOf (by rfl)) (szOf (by rfl)) Has.z (vs := [.int .i64 qo, .int .i64 qn, .slice ao nu c]) (by rfl) (by rfl)) ?_)
      | (go_at_call 17; refine (HCK.out _ _ _ hS).mono ?_; rintro e w1 ⟨rfl, hS1⟩; clear hS; obtain ⟨an, cn, ae, ce, hcn, hce, hS⟩ := IsR.open (hS1.re [1]); clear hS1)
      | (refine toList (by rfl) ?_; refine ld hS _ _ (by rfl) _ _ (by rfl) (agOf (by rfl)) Has.z (by rfl) ?_)
      | (refine toList (by rfl) ?_; refine mk hS _ _ _ (by rfl) G.N.length G.N.length _ _ (by rfl) (by rfl) (elOf (by rfl)) (by omega) (by omega) (by omega) ?_; intro inn w1 hS1; clear hS; have hS := hS1; clear hS1; rw [made_bool, SI_zero fl] at hS))
    have H0 := Lib.hid hS
    go_loopw [8] (fun v wz => ∃ i : Nat, v = .int .i64 i ∧ i ≤ fl.length ∧ Sat W wz (Cs inn 4 (bl (SI fl i) G.N.length) :: Cs q0 53 [.slice an G.N.length cn, .slice ae G.E.length ce] :: Tb 60 6 nv (.slice an G.N.length cn) G.N :: Tb 83 2 ev (.slice ae G.E.length ce) G.E :: Cs p4 27 [.int .i64 qo, .int .i64 qn, .slice ao nu c] :: L)) (fun v _ => fl.length - (intOf v).toNat)
    case atStart => exact ⟨0, rfl, by omega, H0.out⟩
    case round =>
      clear hS H0
      obtain ⟨i, rfl, hi, hS⟩ := hrel
      by_cases hlt : i < fl.length
      · have k1 : (i : Int) < (fl.length : Int) := by omega
        have HLT := Lib.hid hlt
        obtain ⟨bf, off, rfl⟩ := H5.out (by omega)
        obtain ⟨x, hx⟩ : ∃ x, fl[i]? = some x := ⟨_, List.getElem?_eq_getElem hlt⟩
        have HX := Lib.hid (ivz_at hx)
        cases hb : G.is x with
        | true =>
          obtain ⟨m, rfl, hm⟩ := Gr.is_nat hb
          have HB := Lib.hid hb
          have k2 : (m : Int) < (G.N.length : Int) := by omega
          have HMN := Lib.hid hm
          have HPUT := Lib.hid (SI_yes hx)
          clear hx hb hm hlt hi
          go_wp2_with (first
            | (refine toList (by rfl) ?_; refine wp_of_reads (rLdRd1 (HF.out _ (_ :: _ :: _ :: _ :: [_]) hS) _ _ (by rfl) _ (by rfl) (agOf (by rfl)) i (by omega) HX.out (by omega)) ?_)
            | (go_at_call 24; refine (is_any (IsR.mk (hS.re [1, 2, 3])) _ HB.out).mono ?_; rintro e w1 ⟨rfl, rfl⟩)
            | (refine toList (by rfl) ?_; refine Go.Sep.st hS _ _ _ (by rfl) _ _ (by rfl) (.bool true) (by rfl) (by rfl) (szOf (by rfl)) Has.z (by rw [bl_len]; exact HMN.out) ?_; intro w1 hS1; clear hS; have hS := hS1; clear hS1; simp only [List.set_cons_zero, List.set_cons_succ] at hS; rw [bl_set HMN.out, HPUT.out] at hS))
          exact ⟨⟨i + 1, by go_num, HLT.out, hS⟩, by simp [intOf]; have := HLT.out; omega⟩
        | false =>
          have HB := Lib.hid hb
          have HPUT := Lib.hid (SI_no (n := G.N.length) hx (fun t ht e => by rw [e, Gr.is_mk ht] at hb; cases hb))
          clear hx hb hlt hi
          go_wp2_with (first
            | (refine toList (by rfl) ?_; refine wp_of_reads (rLdRd1 (HF.out _ (_ :: _ :: _ :: _ :: [_]) hS) _ _ (by rfl) _ (by rfl) (agOf (by rfl)) i (by omega) HX.out (by omega)) ?_)
            | (go_at_call 24; refine (is_any (IsR.mk (hS.re [1, 2, 3])) _ HB.out).mono ?_; rintro e w1 ⟨rfl, rfl⟩))
          rw [HPUT.out] at hS
          exact ⟨⟨i + 1, by go_num, HLT.out, hS⟩, by simp [intOf]; have := HLT.out; omega⟩
      · obtain rfl : i = fl.length := by omega
        have k1 : ¬ (fl.length : Int) < (fl.length : Int) := by omega
        have HQ3 := Lib.hid (fun w L' (h : Sat W w (L' ++ (Cs inn 4 (bl (SI fl fl.length) G.N.length) :: Cs p4 27 [.int .i64 qo, .int .i64 qn, .slice ao nu c] :: L))) => HQ.out w (L' ++ [Cs inn 4 (bl (SI fl fl.length) G.N.length), Cs p4 27 [.int .i64 qo, .int .i64 qn, .slice ao nu c]]) (by rw [List.append_assoc]; exact h))
        have HIN := Lib.hid (fun w L' (h : Sat W w (L' ++ (Cs inn 4 (bl (SI fl fl.length) G.N.length) :: Cs p4 27 [.int .i64 qo, .int .i64 qn, .slice ao nu c] :: L))) => show Rd w (.slice (some ⟨inn, 0, none⟩) G.N.length G.N.length) G.N.length 1 (bl (SI fl fl.length) G.N.length) from h.csRd0 (n := G.N.length) (sz := 1) (has_app _ _ _) (by omega) (by rw [bl_len]; omega))
        clear hi hlt
        go_wp2_with (first
          | (go_at_call 25; refine (rall_any (IsR.mk (hS.re [1, 2, 3])) HG.out).mono ?_; rintro e w1 ⟨lb, rfl, hS1⟩; clear hS; obtain ⟨an2, cn2, ae2, ce2, hcn2, hce2, hO⟩ := IsR.open (hS1.re [1]); clear hS1; have hS := hO.re [3]; clear hO)
          | (refine toList (by rfl) ?_; refine bx hS _ _ (by rfl) _ (by first | exact evC | exact evT (by rfl)) ?_; intro pv w1 hS1; clear hS; have hS := (show Sat W w1 (Cs pv 74 [.pointer (some ⟨q0, 0, none⟩), .slice (some ⟨lb, 0, none⟩) G.N.length G.N.length] :: Cs lb _ _ :: Cs q0 _ _ :: Tb _ _ _ _ _ :: Tb _ _ _ _ _ :: Cs inn 4 (bl (SI fl fl.length) G.N.length) :: Cs p4 27 [.int .i64 qo, .int .i64 qn, .slice ao nu c] :: L) from hS1); clear hS1)
          | (refine toList (by rfl) ?_; refine wp_of_reads (rLdA hS _ _ (by rfl) _ _ (by rfl) (agOf (by rfl)) (szOf (by rfl)) (Has.s (Has.s (Has.s (Has.s (Has.s (Has.s Has.z)))))) (vs := [.int .i64 qo, .int .i64 qn, .slice ao nu c]) (by rfl) (by rfl)) ?_)
          | (go_at_call 26; refine (HTO.out _ _ _ _ _ _ _ (Cs inn 4 (bl (SI fl fl.length) G.N.length) :: Cs p4 27 [.int .i64 qo, .int .i64 qn, .slice ao nu c] :: L) (.mk qo qn (.slice ao nu c) qk) (SI fl fl.length) _ HOK2.out HQ3.out HIN.out hS).mono ?_; rintro e w1 ⟨v10, rfl, T, M', hT, hS2, hr⟩; have HT := Lib.hid (HAL3.out T hT); have HR := Lib.hid hr; clear hT hS; unfold vrs at hS2; have hS := hS2; clear hS2))
        obtain ⟨a10, c10, rfl, hc10, hc11, _, h10⟩ := HR.out _ (_ :: _ :: _ :: _ :: [_]) hS
        have H10 := Lib.hid (show 0 < G.N.length → ∃ b off, a10 = some ⟨b, off, none⟩ from fun h => by obtain ⟨b, off, h1, _⟩ := h10 h; exact ⟨b, off, h1⟩)
        have H1 : Hid (Sat W _ (Ir (.slice none 0 0) (tN T 0) :: Cs pv 74 [.pointer (some ⟨q0, 0, none⟩), .slice (some ⟨lb, 0, none⟩) G.N.length G.N.length] :: Cs lb 3 (il G.lab G.N.length) :: Cs q0 53 [.slice an2 G.N.length cn2, .slice ae2 G.E.length ce2] :: Tb 60 6 nv (.slice an2 G.N.length cn2) G.N :: Tb 83 2 ev (.slice ae2 G.E.length ce2) G.E :: (M' ++ (Cs inn 4 (bl (SI fl fl.length) G.N.length) :: Cs p4 27 [.int .i64 qo, .int .i64 qn, .slice ao nu c] :: L)))) := Lib.hid hS.irNil
        clear h10
        go_wp2
        go_loopw [11, 12] (fun v11 v12 wz => ∃ k : Nat, v12 = .int .i64 k ∧ k ≤ G.N.length ∧ (tN T k = [] → v11 = .slice none 0 0) ∧ Sat W wz (Ir v11 (tN T k) :: Cs pv 74 [.pointer (some ⟨q0, 0, none⟩), .slice (some ⟨lb, 0, none⟩) G.N.length G.N.length] :: Cs lb 3 (il G.lab G.N.length) :: Cs q0 53 [.slice an2 G.N.length cn2, .slice ae2 G.E.length ce2] :: Tb 60 6 nv (.slice an2 G.N.length cn2) G.N :: Tb 83 2 ev (.slice ae2 G.E.length ce2) G.E :: (M' ++ (Cs inn 4 (bl (SI fl fl.length) G.N.length) :: Cs p4 27 [.int .i64 qo, .int .i64 qn, .slice ao nu c] :: L)))) (fun _ v12 _ => G.N.length - (intOf v12).toNat)
        case atStart => exact ⟨0, rfl, by omega, fun _ => rfl, H1.out⟩
        case round =>
          clear hS H1
          obtain ⟨k, rfl, hk, hnil, hS⟩ := hrel
          have HNIL := Lib.hid hnil
          clear hnil
          by_cases hkn : k < G.N.length
          · have q1 : (k : Int) < (G.N.length : Int) := by omega
            have HK := Lib.hid hkn
            obtain ⟨b10, o10, rfl⟩ := H10.out (by omega)
            obtain ⟨av, cv, rfl, _⟩ := hS.irShape (k := 0) rfl
            have htl := tN_len T k
            cases hT : T k with
            | true =>
              have HX := Lib.hid (show (bl T G.N.length)[k]? = some (.bool true) by rw [bl_at hkn, hT])
              have HNX := Lib.hid (tN_yes hT)
              obtain ⟨R, hR⟩ : ∃ R, tN T k = R := ⟨_, rfl⟩
              rw [hR] at hS HNX htl ⊢
              clear hT hkn hR HNIL
              go_wp2_with (first
                | (refine toList (by rfl) ?_; refine wp_of_reads (rLdRd1 (HR.out _ (_ :: _ :: _ :: _ :: _ :: [_]) hS) _ _ (by rfl) _ (by rfl) (agOf (by rfl)) k (by omega) HX.out (by omega)) ?_)
                | (refine toList (by rfl) ?_; refine bsF hS _ _ _ (by rfl) (elOf (by rfl)) [.int .i64 k] (by rfl) (by rfl) (by decide) (by decide) (by simp [Value.cells]) ?_; intro b1 w1 hS1; clear hS; have hS := hS1; clear hS1; rw [sca1 rfl] at hS)
                | (refine toList (by rfl) ?_; refine apI (m := [k]) hS _ _ _ _ (by rfl) (by rfl) (by rfl) (elOf (by rfl)) (by rfl) (by rfl) (by rfl) (inOf (by rfl)) (Has.s Has.z) (by exact hS.csRd0 (n := 1) (sz := 1) Has.z (by decide) rfl) (by simp; omega) ?_; intro v1 w1 hS1; clear hS; have hS := hS1; clear hS1; dsimp only [List.set_cons_zero, List.set_cons_succ] at hS; rw [← HNX.out] at hS))
              exact ⟨⟨k + 1, by go_num, HK.out, (fun h => by rw [HNX.out] at h; simp at h), hS.drop⟩, by simp [intOf]; have := HK.out; omega⟩
            | false =>
              have HX := Lib.hid (show (bl T G.N.length)[k]? = some (.bool false) by rw [bl_at hkn, hT])
              have HNX := Lib.hid (tN_no hT)
              obtain ⟨R, hR⟩ : ∃ R, tN T k = R := ⟨_, rfl⟩
              rw [hR] at hS HNX htl HNIL ⊢
              clear hT hkn hR
              go_wp2_with (refine toList (by rfl) ?_; refine wp_of_reads (rLdRd1 (HR.out _ (_ :: _ :: _ :: _ :: _ :: [_]) hS) _ _ (by rfl) _ (by rfl) (agOf (by rfl)) k (by omega) HX.out (by omega)) ?_)
              exact ⟨⟨k + 1, by go_num, HK.out, (fun h => HNIL.out (HNX.out ▸ h)), by rw [HNX.out]; exact hS⟩, by simp [intOf]; have := HK.out; omega⟩
          · obtain rfl : k = G.N.length := by omega
            have q1 : ¬ (G.N.length : Int) < (G.N.length : Int) := by omega
            rw [HT.out] at hS HNIL
            clear hk hkn
            go_wp2
            go_ret
            refine ⟨_, rfl, HNIL.out, Cs pv 74 [.pointer (some ⟨q0, 0, none⟩), .slice (some ⟨lb, 0, none⟩) G.N.length G.N.length] :: Cs lb 3 (il G.lab G.N.length) :: (M' ++ [Cs inn 4 (bl (SI fl fl.length) G.N.length), Cs p4 27 [.int .i64 qo, .int .i64 qn, .slice ao nu c]]), ?_⟩
            have h7 := (IsR.mk (hS.re [3, 4, 5])).pull1
            rw [List.cons_append, List.cons_append, List.append_assoc]
            exact h7
end Go.Proofs.YtpnbdnfgdiakhaaGreat
