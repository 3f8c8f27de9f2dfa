/-
  Package tree: right (have all inodes names as they may?).
-/
import Derived.Test.YtiieicdhkcikpaaMWlk
import Derived.Test.YtiieicdhkcikpaaMTou
import Derived.Test.YtiieicdhkcikpaaTrLoadQ
import Derived.Test.YtiieicdhkcikpaaTrLoad1
import Derived.Test.YtiieicdhkcikpaaMReg
import Derived.WalkMore
import Derived.ScopeJumps
namespace Go
/-- A scope with a label that is passed over; the run jumps back to it. -/
theorem wp_scope_jumps3 {P : Program} {a : Act} {w : World} {Q : Exit → Act → World → Prop} {c r : Code} (l : Nat) (J : Act → World → Prop) (μ : Act → World → Nat) (hf : findLabel c l = some (Code.skip.seq r))
    (pass : ∀ a w, J a w → r.wp P (Exit.jump l (fun a' w' => J a' w' ∧ μ a' w' < μ a w) Q) a w) (first : (∀ a w, J a w → r.wp P (Exit.jump l J Q) a w) → c.wp P (Exit.jump l J Q) a w) : (Code.scope c).wp P Q a w :=
  wp_scope_jumps l J μ hf (first fun a w h => Code.wp_mono (fun e a' w' h2 => by
    cases e with
    | goto l' => exact ⟨h2.1, h2.2.1⟩
    | _ => exact h2) (pass a w h)) fun a w h => wp_seq (wp_skip (pass a w h))
end Go
namespace Go.Proofs.Ytiieicdhkcikpaa
open Go.RowKit Go.Sep
set_option linter.unusedSimpArgs false
set_option linter.unusedVariables false
attribute [local irreducible] Go.Oper.wp Go.wpList Go.Calls Go.Code.wp Go.Sep.Reg
attribute [local irreducible] IsT IsW
def bl (S : Nat → Bool) : List Value := (List.range 48).map fun c => .bool (S c)
theorem bl_len (S : Nat → Bool) : (bl S).length = 48 := by simp [bl]
theorem bl_at (S : Nat → Bool) {c : Nat} (hc : c < 48) : (bl S)[c]? = some (.bool (S c)) := by unfold bl; rw [List.getElem?_map, List.getElem?_range hc]; rfl
theorem bl_set (S : Nat → Bool) {c : Nat} (hc : c < 48) : (bl S).set c (.bool true) = bl (upd S c true) := by
  unfold bl
  exact map_set (f := fun c => Value.bool (S c)) (g := fun k => Value.bool (upd S c true k)) (by rw [upd_at]) (fun k h => by rw [upd_no _ _ h]) 48 hc
def ptrB : Value → Nat | .pointer (some x) => x.block | _ => 0
def lenV : Value → Nat | .slice _ n _ => n | _ => 0
def cellT : Option Value → Bool | some (.bool true) => true | _ => false
/-- How many inodes of a row of truths are none. -/
def opnW (w : World) (b : Nat) : Nat := (List.range 48).countP fun k => !cellT (w.cell? ⟨b, k, none⟩)
theorem countP_not (S : Nat → Bool) : ∀ n, (List.range n).countP (fun k => !S k) + (List.range n).countP S = n
  | 0 => rfl
  | n + 1 => by
    rw [List.range_succ, List.countP_append, List.countP_append, List.countP_singleton, List.countP_singleton]
    have := countP_not S n
    cases h : S n with
    | true => simp [h]; omega
    | false => simp [h]; omega
theorem opnW_eq {W w : World} {L : List Asrt} {b E : Nat} {S : Nat → Bool} (h : Sat W w (Cs b E (bl S) :: L)) : opnW w b + cntS S = 48 := by
  rw [← countP_not S 48]
  unfold opnW cntS
  congr 1
  refine List.countP_congr fun k hk => ?_
  rw [h.cell (k := 0) rfl (bl_at S (List.mem_range.1 hk))]
  cases S k <;> rfl
theorem irCut' {W w : World} {L : List Asrt} {ao : Option Addr} {c : Nat} {l : List Nat} (h : Sat W w (Ir (.slice ao l.length c) l :: L)) (h0 : 0 < l.length) : Sat W w (Ir (.slice (cutA ao c 1 1) (l.length - 1) (c - 1)) (l.drop 1) :: L) := by
  cases l with
  | nil => cases h0
  | cons x r => exact h.irCut
theorem inoN {T : TrD} (hT : T.Ok) {i j : Nat} (hi : i < 48) {e : EntD} (hx : (T.dir i)[j]? = some e) : ∃ a : Nat, e.ino = (a : Int) ∧ 1 ≤ a ∧ a < 48 := by
  have hent := hT.ent _ (hT.dir_mem hi) e (List.mem_of_getElem? hx)
  unfold entOk at hent
  simp only [Bool.and_eq_true, decide_eq_true_eq] at hent
  exact ⟨e.ino.toNat, by omega, by omega, by omega⟩
def goodI (T : TrD) (i : Nat) : Prop := (T.kind i = 0 → T.links i = 0) ∧ (T.kind i = 2 → TrD.Rc T.dir i ∧ T.links i = 1)
def rgJ (W : World) (L : List Asrt) (p : Nat) (T : TrD) (v : Nat → Value) (vt : Value) : Act → World → Prop := (fun (a' : Act) (w' : World) => (∃ (bs : Nat) (seen : Nat → Bool) (todo : List Nat), (a'.tmps.getD 3 undef) = .pointer (some ⟨bs, 0, none⟩) ∧ WI T.dir seen todo ∧ todo.length ≤ 65 * cntS seen + 1 ∧ Sat W w' (Ir (a'.tmps.getD 4 undef) todo :: Cs bs 88 (bl seen) :: Cs p 69 (tl T.kind T.lnk v vt) :: rws v T.dir :: Ir vt T.last :: L)) ∧ a' = ⟨#[.pointer (some ⟨p, 0, none⟩), (a'.tmps.getD 1 undef), .bool false, (a'.tmps.getD 3 undef), (a'.tmps.getD 4 undef), (a'.tmps.getD 5 undef), (a'.tmps.getD 6 undef), (a'.tmps.getD 7 undef), (a'.tmps.getD 8 undef), (a'.tmps.getD 9 undef), (a'.tmps.getD 10 undef), (a'.tmps.getD 11 undef), (a'.tmps.getD 12 undef), (a'.tmps.getD 13 undef), (a'.tmps.getD 14 undef), (a'.tmps.getD 15 undef), (a'.tmps.getD 16 undef), (a'.tmps.getD 17 undef), (a'.tmps.getD 18 undef), (a'.tmps.getD 19 undef), (a'.tmps.getD 20 undef), (a'.tmps.getD 21 undef), (a'.tmps.getD 22 undef), (a'.tmps.getD 23 undef), (a'.tmps.getD 24 undef), (a'.tmps.getD 25 undef), (a'.tmps.getD 26 undef), (a'.tmps.getD 27 undef), (a'.tmps.getD 28 undef), (a'.tmps.getD 29 undef), (a'.tmps.getD 30 undef), (a'.tmps.getD 31 undef), (a'.tmps.getD 32 undef), (a'.tmps.getD 33 undef), (a'.tmps.getD 34 undef), (a'.tmps.getD 35 undef), (a'.tmps.getD 36 undef), (a'.tmps.getD 37 undef), (a'.tmps.getD 38 undef), (a'.tmps.getD 39 undef), (a'.tmps.getD 40 undef), (a'.tmps.getD 41 undef), (a'.tmps.getD 42 undef), (a'.tmps.getD 43 undef), (a'.tmps.getD 44 undef), (a'.tmps.getD 45 undef), (a'.tmps.getD 46 undef), (a'.tmps.getD 47 undef), (a'.tmps.getD 48 undef), (a'.tmps.getD 49 undef), (a'.tmps.getD 50 undef), (a'.tmps.getD 51 undef), (a'.tmps.getD 52 undef), (a'.tmps.getD 53 undef), (a'.tmps.getD 54 undef), (a'.tmps.getD 55 undef), (a'.tmps.getD 56 undef), (a'.tmps.getD 57 undef), (a'.tmps.getD 58 undef), (a'.tmps.getD 59 undef), (a'.tmps.getD 60 undef), (a'.tmps.getD 61 undef), (a'.tmps.getD 62 undef), (a'.tmps.getD 63 undef), (a'.tmps.getD 64 undef), (a'.tmps.getD 65 undef), (a'.tmps.getD 66 undef), (a'.tmps.getD 67 undef), (a'.tmps.getD 68 undef), (a'.tmps.getD 69 undef), (a'.tmps.getD 70 undef), (a'.tmps.getD 71 undef), (a'.tmps.getD 72 undef), (a'.tmps.getD 73 undef), (a'.tmps.getD 74 undef), (a'.tmps.getD 75 undef)], []⟩)
set_option maxRecDepth 20000 in
set_option maxHeartbeats 4000000 in
theorem right_any {W w : World} {L : List Asrt} {p : Nat} {T : TrD} (hS : Sat W w (IsT p T :: L)) (hT : T.Ok) :
    Calls Try.prog 56 #[.pointer (some ⟨p, 0, none⟩)] w fun r w' => ∃ v, r = .returned v ∧ BoolIs (TrD.Right T) v ∧ Sat W w' (IsT p T :: L) := by
  have HT := Lib.hid hT
  obtain ⟨v, vt, hO⟩ := IsT.open hS
  clear hS hT
  have hS := hO
  clear hO
  go_enter Try.func56, Try.ntmps56
  go_wp2
  refine wp_scope_jumps3 0 (rgJ W L p T v vt) (fun a' w' => 65 * opnW w' (ptrB (a'.tmps.getD 3 undef)) + lenV (a'.tmps.getD 4 undef)) rfl ?_ ?_
  · clear hS
    rintro a wq hinv
    unfold rgJ at hinv
    obtain ⟨hrel, ha⟩ := hinv
    obtain ⟨z, hz⟩ : ∃ z : Nat → Value, ∀ i, a.tmps.getD i undef = z i := ⟨_, fun _ => rfl⟩
    simp only [hz] at hrel ha
    clear hz
    subst ha
    obtain ⟨bs, seen, l, h3, hW, htl, hS⟩ := hrel
    generalize z 3 = z3 at h3 ⊢
    subst h3
    have hsl := opnW_eq (hS.re [1])
    have hcs := cntS_le seen
    obtain ⟨ao, c, hz4, hcl⟩ := hS.irShape (k := 0) rfl
    generalize z 4 = z4 at hz4 hS ⊢
    subst hz4
    by_cases h0 : 0 < l.length
    · obtain ⟨x, hx⟩ : ∃ x, l[0]? = some x := ⟨_, List.getElem?_eq_getElem h0⟩
      have hl : l = x :: l.drop 1 := by
        cases l with
        | nil => cases hx
        | cons y r => cases hx; rfl
      obtain ⟨b4, of4, c4, he4, _⟩ := hS.slAddr (k := 0) (E := 0) (sz := 1) rfl h0
      simp only [Value.slice.injEq, true_and] at he4
      obtain ⟨rfl, rfl⟩ := he4
      have hWx := hW
      rw [hl] at hWx
      obtain ⟨hrx, hx48⟩ := hWx.tod x (by simp)
      have HX := Lib.hid hx
      have HX48 := Lib.hid hx48
      have q1 : (x : Int) < 48 := by omega
      have q2 : (1 : Int) ≤ (l.length : Int) := by omega
      have q3 : (1 : Int) ≤ (c : Int) := by omega
      have e1 : decide ((0 : Int) < (l.length : Int)) = true := decide_eq_true (by omega)
      have e2 : decide (0 < l.length) = true := decide_eq_true h0
      have HL0 := Lib.hid h0
      have HTL := Lib.hid htl
      have HSL := Lib.hid hsl
      have HBA := Lib.hid (bl_at seen hx48)
      obtain ⟨sx, hsx⟩ : ∃ b, seen x = b := ⟨_, rfl⟩
      rw [hsx] at HBA
      cases sx with
      | true =>
        have HW2 := Lib.hid (hWx.old hsx)
        clear hx hl hWx hW hsx h0 htl hsl
        go_wp2_with (first
          | (refine toList (by rfl) ?_; refine wp_of_reads (rLdSl hS _ _ (by rfl) _ _ (by rfl) (agOf (by rfl)) (E := 0) (sz := 1) (vs := iv l) Has.z 0 (by omega) (iv_at HX.out)) ?_)
          | (refine toList (by rfl) ?_; refine wp_of_reads (rCutL (lo := 1) (by rfl) (by rfl) (by rfl) (by rfl) (by omega) (by omega) (elOf (by rfl)) _) ?_; replace hS := irCut' hS HL0.out)
          | (refine toList (by rfl) ?_; refine ld hS _ _ (by rfl) _ _ (by rfl) (agOf (by rfl)) (Has.s Has.z) HBA.out ?_))
        go_step3
        refine And.intro rfl (And.intro ?_ ?_)
        · unfold rgJ
          exact ⟨⟨bs, seen, l.drop 1, rfl, HW2.out, by rw [List.length_drop]; have := HTL.out; omega, hS⟩, rfl⟩
        · simp [lenV, ptrB]
          have := HL0.out
          have h1 := opnW_eq (hS.re [1])
          have h2 := HSL.out
          omega
      | false =>
        have HW2 := Lib.hid (WI.next HT.out.entB hWx)
        have HCU := Lib.hid (cntS_upd hsx hx48)
        have HBS := Lib.hid (bl_set seen hx48)
        have HBL := Lib.hid (show x < (bl seen).length by rw [bl_len]; exact hx48)
        obtain ⟨aox, cx, hvx, hcx⟩ := rws_shape hS (k := 3) rfl hx48
        have HROW := Lib.hid (fun w L' (h : Sat W w (rws v T.dir :: L')) => by have := rws_rd h (k := 0) rfl hx48; rw [hvx] at this; exact this)
        have HTA := Lib.hid (show (tl T.kind T.lnk v vt)[x * 3 + 2]? = some (.slice aox (T.dir x).length cx) from tl_at (j := 2) hx48 rfl (by rw [← hvx]; rfl))
        have hdl := HT.out.len _ (HT.out.dir_mem hx48)
        have HINO := Lib.hid (fun (j : Nat) (e : EntD) (hx : (T.dir x)[j]? = some e) => inoN HT.out hx48 hx)
        obtain ⟨D, hD⟩ : ∃ D, T.dir x = D := ⟨_, rfl⟩
        rw [hD] at HW2 HTA hdl hcx HINO
        have HROW := Lib.hid (fun w L' (h : Sat W w (rws v T.dir :: L')) => by have := HROW.out w L' h; rw [hD] at this; exact this)
        have HDL := Lib.hid hdl
        have q4 : (D.length : Int) ≤ 64 := by omega
        clear hx hl hWx hW hsx h0 htl hsl hvx hD hdl
        go_wp2_with (first
          | (refine toList (by rfl) ?_; refine wp_of_reads (rLdSl hS _ _ (by rfl) _ _ (by rfl) (agOf (by rfl)) (E := 0) (sz := 1) (vs := iv l) Has.z 0 (by omega) (iv_at HX.out)) ?_)
          | (refine toList (by rfl) ?_; refine wp_of_reads (rCutL (lo := 1) (by rfl) (by rfl) (by rfl) (by rfl) (by omega) (by omega) (elOf (by rfl)) _) ?_; replace hS := irCut' hS HL0.out)
          | (refine toList (by rfl) ?_; refine ld hS _ _ (by rfl) _ _ (by rfl) (agOf (by rfl)) (Has.s Has.z) HBA.out ?_)
          | (refine toList (by rfl) ?_; refine st hS _ _ _ (by rfl) _ _ (by rfl) _ (by first | exact evC | exact evT (by rfl)) (by rfl) (szOf (by rfl)) (Has.s Has.z) HBL.out ?_; intro w1 hS1; clear hS; have hS := hS1; clear hS1; dsimp only [List.set_cons_zero, List.set_cons_succ] at hS; rw [HBS.out] at hS)
          | (refine toList (by rfl) ?_; refine ld hS _ _ (by rfl) _ _ (by rfl) (agOf (by rfl)) (Has.s (Has.s Has.z)) (by refine Eq.trans ?_ HTA.out; congr 1) ?_))
        have H0 := Lib.hid hS
        go_loopw [4, 33] (fun v4 v33 wz => ∃ (j : Nat), v33 = .int .i64 (j : Int) ∧ j ≤ D.length ∧ Sat W wz (Ir v4 (l.drop 1 ++ (D.take j).map fun e => e.ino.toNat) :: Cs bs 88 (bl (upd seen x true)) :: Cs p 69 (tl T.kind T.lnk v vt) :: rws v T.dir :: Ir vt T.last :: L)) (fun _ v33 _ => D.length - (intOf v33).toNat)
        case atStart => exact ⟨0, rfl, by omega, by have := H0.out; simpa using this⟩
        case round =>
          clear hS H0
          obtain ⟨j, rfl, hj, hS⟩ := hrel
          by_cases hlt : j < D.length
          · obtain ⟨⟨en, ei⟩, hx⟩ : ∃ e, D[j]? = some e := ⟨_, List.getElem?_eq_getElem hlt⟩
            obtain ⟨a, ha, h1, h2⟩ := HINO.out j _ hx
            dsimp only at ha
            subst ha
            have HXJ := Lib.hid hx
            have HT1 := Lib.hid (show (l.drop 1 ++ (D.take (j + 1)).map fun e => e.ino.toNat) = (l.drop 1 ++ (D.take j).map fun e => e.ino.toNat) ++ [a] by
              rw [List.take_add_one, hx, List.map_append, ← List.append_assoc]; simp)
            have HLEN := Lib.hid (show (l.drop 1 ++ (D.take j).map fun e => e.ino.toNat).length ≤ 10000 by
              have h1 := HTL.out; have h2 := HDL.out
              rw [List.length_append, List.length_drop, List.length_map, List.length_take]; omega)
            obtain ⟨bx, ofx, rfl⟩ : ∃ bx ofx, aox = some ⟨bx, ofx, none⟩ := by
              obtain ⟨_, _, he, h1, h2, h3, h5⟩ := HROW.out _ _ (hS.re [3])
              obtain ⟨b', o', h6, _⟩ := h5 (by omega)
              simp only [Value.slice.injEq] at he
              exact ⟨b', o', by rw [he.1, h6]⟩
            have k1 : (j : Int) < (D.length : Int) := by omega
            have HLT := Lib.hid hlt
            generalize (l.drop 1 ++ (D.take j).map fun e => e.ino.toNat) = m at HT1 HLEN hS
            clear hx hlt hj
            go_wp2_with (first
              | (refine toList (by rfl) ?_; refine wp_of_reads (rLdRdA (f := ev2) (x := ⟨en, (a : Int)⟩) (HROW.out _ _ (hS.re [3])) (ev2_len D) _ _ (by rfl) _ (by rfl) (agOf (by rfl)) (szOf (by rfl)) j (by omega) HXJ.out (by omega)) ?_)
              | (refine toList (by rfl) ?_; refine al hS _ (by rfl) (zrOf (by rfl)) ?_; intro px w1 hS1; clear hS; have hS := hS1; clear hS1; rw [cells_agg] at hS)
              | (refine toList (by rfl) ?_; refine stW hS _ _ _ (by rfl) (by rfl) [sv en, .int .i64 (a : Int)] (by rfl) (by simp [Value.oneCell', sv]) (szOf (by rfl)) Has.z (by rfl) ?_; intro w1 hS1; clear hS; have hS := hS1; clear hS1; dsimp only [List.set_cons_zero] at hS)
              | (refine toList (by rfl) ?_; refine ld hS _ _ (by rfl) _ _ (by rfl) (agOf (by rfl)) Has.z (by rfl) ?_)
              | (refine toList (by rfl) ?_; refine bsF hS _ _ _ (by rfl) (elOf (by rfl)) [.int .i64 (a : Int)] (by rfl) (by rfl) (by decide) (by decide) (by simp [Value.cells]) ?_; intro b1 w1 hS1; clear hS; have hS := hS1; clear hS1; rw [sca1 rfl] at hS)
              | (refine toList (by rfl) ?_; refine apI (m := [a]) hS _ _ _ _ (by rfl) (by rfl) (by rfl) (elOf (by rfl)) (by rfl) (by rfl) (by rfl) (inOf (by rfl)) (Has.s (Has.s Has.z)) (by exact hS.csRd0 (n := 1) (sz := 1) Has.z (by decide) rfl) (by have := HLEN.out; rw [List.length_singleton]; omega) ?_; intro v1 w1 hS1; clear hS; have hS := hS1; clear hS1; dsimp only [List.set_cons_zero, List.set_cons_succ] at hS))
            exact ⟨⟨j + 1, by go_num, HLT.out, by rw [HT1.out]; exact hS.drop.drop⟩, by simp [intOf]; have := HLT.out; omega⟩
          · obtain rfl : j = D.length := by omega
            rw [List.take_length] at hS
            have k1 : ¬ (D.length : Int) < (D.length : Int) := by omega
            clear hlt hj
            go_wp2
            go_step3
            refine And.intro rfl (And.intro ?_ ?_)
            · unfold rgJ
              refine ⟨⟨bs, upd seen x true, _, rfl, HW2.out, ?_, hS⟩, rfl⟩
              have h1 := HTL.out; have h2 := HDL.out; have h3 := HCU.out
              rw [List.length_append, List.length_drop, List.length_map, h3]; omega
            · obtain ⟨ao', c', he', _⟩ := hS.irShape (k := 0) rfl
              have h1 := opnW_eq (hS.re [1])
              have h2 := HSL.out; have h3 := HCU.out; have h4 := HDL.out; have h5 := HL0.out
              have h6 : (l.drop 1 ++ D.map fun e => e.ino.toNat).length = l.length - 1 + D.length := by rw [List.length_append, List.length_drop, List.length_map]
              subst he'
              simp only [lenV, ptrB, List.getD_eq_getElem?_getD, Array.getD_eq_getD_getElem?]
              simp [lenV, ptrB]
              omega
    · obtain rfl : l = [] := List.eq_nil_of_length_eq_zero (by omega)
      have HDN := Lib.hid (fun i => hW.done i)
      obtain ⟨cs, hcs⟩ : ∃ cs, (List.range 48).flatMap (tr3 T.kind T.lnk v) = cs := ⟨_, rfl⟩
      have HCS := Lib.hid (show ((tl T.kind T.lnk v vt).drop 0).take 144 = cs by
        rw [List.drop_zero, ← hcs]
        unfold tl
        exact List.take_left' (by rw [flat_len (tr3_len _ _ _)]))
      have HCL := Lib.hid (show cs.length = 144 by rw [← hcs, flat_len (tr3_len _ _ _)])
      have HIX := Lib.hid (fun (i : Nat) (hi : i < 48) (w : World) => by have := idx_node cs.toArray i hi w; rw [← hcs, ext_node hi, hcs] at this; exact this)
      clear hcs h0 hsl htl hW
      go_wp2_with (refine toList (by rfl) ?_; refine wp_of_reads (rLdA hS _ _ (by rfl) _ _ (by rfl) (agOf (by rfl)) (szOf (by rfl)) (Has.s (Has.s Has.z)) (vs := cs) (by exact HCS.out) (by exact HCL.out)) ?_)
      have H0 := Lib.hid hS
      go_loopw [47] (fun v47 wz => ∃ i : Nat, v47 = .int .i64 i ∧ i ≤ 48 ∧ (∀ j, j < i → goodI T j) ∧ Sat W wz (Ir (.slice ao 0 c) [] :: Cs bs 88 (bl seen) :: Cs p 69 (tl T.kind T.lnk v vt) :: rws v T.dir :: Ir vt T.last :: L)) (fun v47 _ => 48 - (intOf v47).toNat)
      case atStart => exact ⟨0, rfl, by omega, (fun j hj => absurd hj (Nat.not_lt_zero _)), H0.out⟩
      case round =>
        clear hS H0
        obtain ⟨i, rfl, hi, hgd, hS⟩ := hrel
        have HGD := Lib.hid hgd
        clear hgd
        by_cases hlt : i < 48
        · have k1 : (i : Int) < 48 := by omega
          have HLT := Lib.hid hlt
          have hix := HIX.out i hlt
          have HBA := Lib.hid (bl_at seen hlt)
          obtain ⟨ao1, c1, hv, _⟩ := rws_shape hS (k := 3) rfl hlt
          rw [hv] at hix
          have hkk := HT.out.kind_of i
          have hrc := HDN.out i
          have hlk : T.lnk i = (T.links i : Int) := rfl
          have HNX := Lib.hid (fun (h : goodI T i) => show ∀ j, j < i + 1 → goodI T j from fun j hj => by
            rcases Nat.lt_or_ge j i with h2 | h2
            · exact HGD.out j h2
            · obtain rfl : j = i := by omega
              exact h)
          have HNO := Lib.hid (fun (h : ¬ goodI T i) => show ¬ TrD.Right T from fun hr => h ⟨hr.no i hlt, hr.dr i hlt⟩)
          have hgi : goodI T i ↔ (T.kind i = 0 → T.links i = 0) ∧ (T.kind i = 2 → seen i = true ∧ T.links i = 1) := by unfold goodI; rw [hrc]
          obtain ⟨nn, hnn⟩ : ∃ nn, T.links i = nn := ⟨_, rfl⟩
          obtain ⟨sx, hsx⟩ : ∃ sx, seen i = sx := ⟨_, rfl⟩
          rw [hlk, hnn] at hix
          rw [hnn, hsx] at hgi
          rw [hsx] at HBA
          clear hlt hi hv hrc hlk hnn hsx
          rcases hkk with h0 | h0 | h0
          all_goals rw [h0] at hix hgi
          · by_cases hn : nn = 0
            · have HG := Lib.hid (HNX.out (hgi.2 ⟨(fun _ => hn), (fun h => by cases h)⟩))
              subst hn
              clear hgi h0
              go_wp2_with (first
                | (refine toList (by rfl) ?_; refine al hS _ (by rfl) (zrOf (by rfl)) ?_; intro px w1 hS1; clear hS; have hS := hS1; clear hS1; rw [cells_agg] at hS)
                | (refine toList (by rfl) ?_; refine stW hS _ _ _ (by rfl) (by rfl) [.int .i64 0, .int .i64 ((0 : Nat) : Int), .slice ao1 (T.dir i).length c1] (by rfl) (by simp [Value.oneCell']) (szOf (by rfl)) Has.z (by rfl) ?_; intro w1 hS1; clear hS; have hS := hS1; clear hS1; dsimp only [List.set_cons_zero] at hS)
                | (refine toList (by rfl) ?_; refine ld hS _ _ (by rfl) _ _ (by rfl) (agOf (by rfl)) Has.z (by rfl) ?_)
                | (refine toList (by rfl) ?_; refine ld hS _ _ (by rfl) _ _ (by rfl) (agOf (by rfl)) (Has.s (Has.s Has.z)) HBA.out ?_))
              exact ⟨⟨i + 1, by go_num, HLT.out, HG.out, hS.drop⟩, by simp [intOf]; have := HLT.out; omega⟩
            · have HG := Lib.hid (HNO.out fun h => hn ((hgi.1 h).1 rfl))
              have d1 : (0 : Int) < (nn : Int) := by omega
              have d2 : decide ((0 : Int) < (nn : Int)) = true := decide_eq_true d1
              have d3 : decide (0 < nn) = true := decide_eq_true (by omega)
              clear hgi h0 hn
              go_wp2_with (first
                | (refine toList (by rfl) ?_; refine al hS _ (by rfl) (zrOf (by rfl)) ?_; intro px w1 hS1; clear hS; have hS := hS1; clear hS1; rw [cells_agg] at hS)
                | (refine toList (by rfl) ?_; refine stW hS _ _ _ (by rfl) (by rfl) [.int .i64 0, .int .i64 (nn : Int), .slice ao1 (T.dir i).length c1] (by rfl) (by simp [Value.oneCell']) (szOf (by rfl)) Has.z (by rfl) ?_; intro w1 hS1; clear hS; have hS := hS1; clear hS1; dsimp only [List.set_cons_zero] at hS)
                | (refine toList (by rfl) ?_; refine ld hS _ _ (by rfl) _ _ (by rfl) (agOf (by rfl)) Has.z (by rfl) ?_)
                | (refine toList (by rfl) ?_; refine ld hS _ _ (by rfl) _ _ (by rfl) (agOf (by rfl)) (Has.s (Has.s Has.z)) HBA.out ?_))
              simp only [Exit.jump]
              go_ret
              exact ⟨_, rfl, ⟨false, rfl, (fun h => nomatch h), fun h => absurd h HG.out⟩, IsT.mk hS.drop.drop.drop⟩
          · have HG := Lib.hid (HNX.out (hgi.2 ⟨(fun h => by cases h), (fun h => by cases h)⟩))
            clear hgi h0
            go_wp2_with (first
              | (refine toList (by rfl) ?_; refine al hS _ (by rfl) (zrOf (by rfl)) ?_; intro px w1 hS1; clear hS; have hS := hS1; clear hS1; rw [cells_agg] at hS)
              | (refine toList (by rfl) ?_; refine stW hS _ _ _ (by rfl) (by rfl) [.int .i64 1, .int .i64 (nn : Int), .slice ao1 (T.dir i).length c1] (by rfl) (by simp [Value.oneCell']) (szOf (by rfl)) Has.z (by rfl) ?_; intro w1 hS1; clear hS; have hS := hS1; clear hS1; dsimp only [List.set_cons_zero] at hS)
              | (refine toList (by rfl) ?_; refine ld hS _ _ (by rfl) _ _ (by rfl) (agOf (by rfl)) Has.z (by rfl) ?_)
              | (refine toList (by rfl) ?_; refine ld hS _ _ (by rfl) _ _ (by rfl) (agOf (by rfl)) (Has.s (Has.s Has.z)) HBA.out ?_))
            exact ⟨⟨i + 1, by go_num, HLT.out, HG.out, hS.drop⟩, by simp [intOf]; have := HLT.out; omega⟩
          · cases sx with
            | false =>
              have HG := Lib.hid (HNO.out fun h => by have := ((hgi.1 h).2 rfl).1; cases this)
              clear hgi h0
              go_wp2_with (first
                | (refine toList (by rfl) ?_; refine al hS _ (by rfl) (zrOf (by rfl)) ?_; intro px w1 hS1; clear hS; have hS := hS1; clear hS1; rw [cells_agg] at hS)
                | (refine toList (by rfl) ?_; refine stW hS _ _ _ (by rfl) (by rfl) [.int .i64 2, .int .i64 (nn : Int), .slice ao1 (T.dir i).length c1] (by rfl) (by simp [Value.oneCell']) (szOf (by rfl)) Has.z (by rfl) ?_; intro w1 hS1; clear hS; have hS := hS1; clear hS1; dsimp only [List.set_cons_zero] at hS)
                | (refine toList (by rfl) ?_; refine ld hS _ _ (by rfl) _ _ (by rfl) (agOf (by rfl)) Has.z (by rfl) ?_)
                | (refine toList (by rfl) ?_; refine ld hS _ _ (by rfl) _ _ (by rfl) (agOf (by rfl)) (Has.s (Has.s Has.z)) HBA.out ?_))
              simp only [Exit.jump]
              go_ret
              exact ⟨_, rfl, ⟨false, rfl, (fun h => nomatch h), fun h => absurd h HG.out⟩, IsT.mk hS.drop.drop.drop⟩
            | true =>
              by_cases hn : nn = 1
              · have HG := Lib.hid (HNX.out (hgi.2 ⟨(fun h => by cases h), fun _ => ⟨rfl, hn⟩⟩))
                subst hn
                clear hgi h0
                go_wp2_with (first
                  | (refine toList (by rfl) ?_; refine al hS _ (by rfl) (zrOf (by rfl)) ?_; intro px w1 hS1; clear hS; have hS := hS1; clear hS1; rw [cells_agg] at hS)
                  | (refine toList (by rfl) ?_; refine stW hS _ _ _ (by rfl) (by rfl) [.int .i64 2, .int .i64 ((1 : Nat) : Int), .slice ao1 (T.dir i).length c1] (by rfl) (by simp [Value.oneCell']) (szOf (by rfl)) Has.z (by rfl) ?_; intro w1 hS1; clear hS; have hS := hS1; clear hS1; dsimp only [List.set_cons_zero] at hS)
                  | (refine toList (by rfl) ?_; refine ld hS _ _ (by rfl) _ _ (by rfl) (agOf (by rfl)) Has.z (by rfl) ?_)
                  | (refine toList (by rfl) ?_; refine ld hS _ _ (by rfl) _ _ (by rfl) (agOf (by rfl)) (Has.s (Has.s Has.z)) HBA.out ?_))
                exact ⟨⟨i + 1, by go_num, HLT.out, HG.out, hS.drop⟩, by simp [intOf]; have := HLT.out; omega⟩
              · have HG := Lib.hid (HNO.out fun h => hn ((hgi.1 h).2 rfl).2)
                have d1 : ((nn : Int) != 1) = true := bne_iff_ne.2 (by omega)
                clear hgi h0 hn
                go_wp2_with (first
                  | (refine toList (by rfl) ?_; refine al hS _ (by rfl) (zrOf (by rfl)) ?_; intro px w1 hS1; clear hS; have hS := hS1; clear hS1; rw [cells_agg] at hS)
                  | (refine toList (by rfl) ?_; refine stW hS _ _ _ (by rfl) (by rfl) [.int .i64 2, .int .i64 (nn : Int), .slice ao1 (T.dir i).length c1] (by rfl) (by simp [Value.oneCell']) (szOf (by rfl)) Has.z (by rfl) ?_; intro w1 hS1; clear hS; have hS := hS1; clear hS1; dsimp only [List.set_cons_zero] at hS)
                  | (refine toList (by rfl) ?_; refine ld hS _ _ (by rfl) _ _ (by rfl) (agOf (by rfl)) Has.z (by rfl) ?_)
                  | (refine toList (by rfl) ?_; refine ld hS _ _ (by rfl) _ _ (by rfl) (agOf (by rfl)) (Has.s (Has.s Has.z)) HBA.out ?_))
                simp only [Exit.jump]
                go_ret
                exact ⟨_, rfl, ⟨false, rfl, (fun h => nomatch h), fun h => absurd h HG.out⟩, IsT.mk hS.drop.drop.drop⟩
        · have k1 : ¬ (i : Int) < 48 := by omega
          have HG := Lib.hid (show TrD.Right T from ⟨fun j hj => (HGD.out j (by omega)).1, fun j hj => (HGD.out j (by omega)).2⟩)
          clear hlt
          go_wp2
          simp only [Exit.jump]
          go_ret
          exact ⟨_, rfl, ⟨true, rfl, fun _ => HG.out, fun _ => rfl⟩, IsT.mk hS.drop.drop⟩
  · intro HP
    go_wp2_with (first
      | (refine toList (by rfl) ?_; refine al hS _ (by rfl) (zrOf (by rfl)) ?_; intro bs w1 hS1; clear hS; have hS := (show Sat W w1 (Cs bs 88 (bl fun _ => false) :: _) from hS1); clear hS1)
      | (refine toList (by rfl) ?_; refine bsF hS _ _ _ (by rfl) (elOf (by rfl)) [.int .i64 0] (by rfl) (by rfl) (by decide) (by decide) (by simp [Value.cells]) ?_; intro b1 w1 hS1; clear hS; have hS := csIr (l := [0]) (by simp) (show Sat W w1 (Cs b1 _ (iv [0]) :: _) from hS1); clear hS1))
    go_step3
    rename_i K hK
    refine hK _ _ (HP _ _ ?_)
    unfold rgJ
    exact ⟨⟨bs, fun _ => false, [0], rfl, WI.start _, by simp, hS⟩, rfl⟩
end Go.Proofs.Ytiieicdhkcikpaa
