/-
  Package pedigreelaw11: names, Texts, SameEntries, Touched, the example.
  The document's tree: New; both trees, new.
-/
import Derived.Test.YtiieicdhkcikpaaMRfa
import Derived.Test.YtiieicdhkcikpaaMAwk
import Derived.Test.YtiieicdhkcikpaaMOp
namespace Go.Proofs.Ytiieicdhkcikpaa
open Go.RowKit Go.Sep
set_option linter.unusedSimpArgs false
set_option linter.unusedVariables false
attribute [local irreducible] Go.Oper.wp Go.wpList Go.Calls Go.Code.wp Go.Sep.Reg
attribute [local irreducible] IsT IsW
def nm6 : Nat → List UInt8
  | 0 => [97]
  | 1 => [98]
  | 2 => [99]
  | 3 => [100]
  | 4 => [101, 46, 120]
  | _ => [102]
def namesD (l : List Int) : List (List UInt8) := (l.take 5).map fun v => nm6 (v % 6).toNat
theorem namesD_step {l : List Int} {i : Nat} {x : Int} (hx : l[i]? = some x) (h5 : i < 5) : (l.take (i + 1)).map (fun v => nm6 (v % 6).toNat) = (l.take i).map (fun v => nm6 (v % 6).toNat) ++ [nm6 (x % 6).toNat] := by
  rw [List.take_add_one, hx, List.map_append]; rfl
set_option maxRecDepth 20000 in
set_option maxHeartbeats 1000000 in
theorem names_any {W w : World} {L : List Asrt} (hS : Sat W w L) (l : List Int) (ao : Option Addr) (c : Nat) (hr : ∀ w L', Sat W w (L' ++ L) → Rd w (.slice ao l.length c) l.length 1 (l.flatMap inv1)) (hb : ∀ x ∈ l, i64B x) :
    Calls Try.prog 25 #[.slice ao l.length c] w fun r w' => ∃ v, r = .returned v ∧ Sat W w' (Tb 9 1 sv1 v (namesD l) :: L) := by
  have HR := Lib.hid hr
  obtain ⟨_, _, he, hc1, hc2, _, h5⟩ := hr w [] hS
  simp only [Value.slice.injEq, true_and] at he
  obtain ⟨rfl, rfl⟩ := he
  have H5 := Lib.hid h5
  have HB := Lib.hid hb
  have ix0 : ∀ w, (Instr.index 83 (.agg #[.string ⟨#[97]⟩, .string ⟨#[98]⟩, .string ⟨#[99]⟩, .string ⟨#[100]⟩, .string ⟨#[101, 46, 120]⟩, .string ⟨#[102]⟩]) (.int .i64 0)).run Try.prog w = .ok (.string ⟨#[97]⟩) w := fun _ => by kernel_rfl
  have ix1 : ∀ w, (Instr.index 83 (.agg #[.string ⟨#[97]⟩, .string ⟨#[98]⟩, .string ⟨#[99]⟩, .string ⟨#[100]⟩, .string ⟨#[101, 46, 120]⟩, .string ⟨#[102]⟩]) (.int .i64 1)).run Try.prog w = .ok (.string ⟨#[98]⟩) w := fun _ => by kernel_rfl
  have ix2 : ∀ w, (Instr.index 83 (.agg #[.string ⟨#[97]⟩, .string ⟨#[98]⟩, .string ⟨#[99]⟩, .string ⟨#[100]⟩, .string ⟨#[101, 46, 120]⟩, .string ⟨#[102]⟩]) (.int .i64 2)).run Try.prog w = .ok (.string ⟨#[99]⟩) w := fun _ => by kernel_rfl
  have ix3 : ∀ w, (Instr.index 83 (.agg #[.string ⟨#[97]⟩, .string ⟨#[98]⟩, .string ⟨#[99]⟩, .string ⟨#[100]⟩, .string ⟨#[101, 46, 120]⟩, .string ⟨#[102]⟩]) (.int .i64 3)).run Try.prog w = .ok (.string ⟨#[100]⟩) w := fun _ => by kernel_rfl
  have ix4 : ∀ w, (Instr.index 83 (.agg #[.string ⟨#[97]⟩, .string ⟨#[98]⟩, .string ⟨#[99]⟩, .string ⟨#[100]⟩, .string ⟨#[101, 46, 120]⟩, .string ⟨#[102]⟩]) (.int .i64 4)).run Try.prog w = .ok (.string ⟨#[101, 46, 120]⟩) w := fun _ => by kernel_rfl
  have ix5 : ∀ w, (Instr.index 83 (.agg #[.string ⟨#[97]⟩, .string ⟨#[98]⟩, .string ⟨#[99]⟩, .string ⟨#[100]⟩, .string ⟨#[101, 46, 120]⟩, .string ⟨#[102]⟩]) (.int .i64 5)).run Try.prog w = .ok (.string ⟨#[102]⟩) w := fun _ => by kernel_rfl
  have HIX := Lib.hid (show ∀ j : Nat, j < 6 → ∀ w, (Instr.index 83 (.agg #[.string ⟨#[97]⟩, .string ⟨#[98]⟩, .string ⟨#[99]⟩, .string ⟨#[100]⟩, .string ⟨#[101, 46, 120]⟩, .string ⟨#[102]⟩]) (.int .i64 (j : Int))).run Try.prog w = .ok (.string ⟨(nm6 j).toArray⟩) w from fun j hj w => by
    have hc : j = 0 ∨ j = 1 ∨ j = 2 ∨ j = 3 ∨ j = 4 ∨ j = 5 := by omega
    rcases hc with rfl | rfl | rfl | rfl | rfl | rfl
    · exact ix0 w
    · exact ix1 w
    · exact ix2 w
    · exact ix3 w
    · exact ix4 w
    · exact ix5 w)
  clear ix0 ix1 ix2 ix3 ix4 ix5
  have H0 := Lib.hid (hS.tbNil (f := sv1) (E := 9) (sz := 1))
  clear hr h5 hb hS
  go_enter Try.func25, Try.ntmps25
  go_wp2
  go_loopw [3, 4] (fun v3 v4 wz => ∃ i : Nat, v4 = .int .i64 i ∧ i ≤ l.length ∧ i ≤ 5 ∧ Sat W wz (Tb 9 1 sv1 v3 ((l.take i).map fun v => nm6 (v % 6).toNat) :: L)) (fun _ v4 _ => 5 - (intOf v4).toNat)
  case atStart => exact ⟨0, rfl, by omega, by omega, H0.out⟩
  case round =>
    clear H0
    obtain ⟨i, rfl, hi, hi5, hS⟩ := hrel
    by_cases hgo : i < l.length ∧ i < 5
    · obtain ⟨hlt, hl5⟩ := hgo
      have k1 : (i : Int) < (l.length : Int) := by omega
      have k2 : (i : Int) < 5 := by omega
      have k3 : decide ((i : Int) < (l.length : Int)) = true := decide_eq_true k1
      have k4 : decide ((i : Int) < 5) = true := decide_eq_true k2
      have k5 : decide (i < l.length) = true := decide_eq_true hlt
      have k6 : decide (i < 5) = true := decide_eq_true hl5
      obtain ⟨b, off, rfl, _⟩ := H5.out (by omega)
      obtain ⟨x, hx⟩ : ∃ x, l[i]? = some x := ⟨_, List.getElem?_eq_getElem hlt⟩
      have HX := Lib.hid hx
      have HLT := Lib.hid hlt
      have HL5 := Lib.hid hl5
      have HN := Lib.hid (namesD_step hx hl5)
      have HP := Lib.hid (fun w => place_any x 6 (by decide) (by decide) w)
      obtain ⟨ls, hls⟩ : ∃ ls, (l.take i).map (fun v => nm6 (v % 6).toNat) = ls := ⟨_, rfl⟩
      rw [hls] at hS HN
      have hll : ls.length ≤ 5 := by rw [← hls]; simp; omega
      obtain ⟨j, hj⟩ : ∃ j : Nat, x % 6 = j := ⟨(x % 6).toNat, by omega⟩
      have hj6 : j < 6 := by omega
      rw [hj, Int.toNat_natCast] at HN
      rw [hj] at HP
      have hix := HIX.out j hj6
      obtain ⟨sn, hsn⟩ : ∃ sn, nm6 j = sn := ⟨_, rfl⟩
      rw [hsn] at hix HN
      have k7 : (j : Int) < 6 := by omega
      obtain ⟨ao3, c3, rfl, _⟩ := hS.tbShape (k := 0) rfl
      clear hls hj hsn hx hlt hl5 hi hi5
      go_wp2_with (first
        | (refine toList (by rfl) ?_; refine wp_of_reads (rLdRd (f := inv1) (x := x) (u := .int .i64 x) (HR.out _ [_] hS) (inv1_len l) _ _ (by rfl) _ (by rfl) (agOf (by rfl)) i 0 (by omega) HX.out (by rfl) (by omega)) ?_)
        | (go_at_call 13; refine (HP.out _).mono ?_; rintro e w1 ⟨rfl, rfl⟩)
        | (refine toList (by rfl) ?_; refine bsF hS _ _ _ (by rfl) (elOf (by rfl)) [.string ⟨sn.toArray⟩] (by rfl) (by rfl) (by decide) (by decide) (by intro v hv; rw [List.mem_singleton.1 hv]; rfl) ?_; intro b1 w1 hS1; clear hS; have hS := hS1; clear hS1)
        | (refine toList (by rfl) ?_; refine apTb (f := sv1) (xs := ls) hS _ _ _ _ (by rfl) _ _ (by rfl) (by rfl) (elOf (by rfl)) (by rfl) (by decide) (inOf (by rfl)) (Has.s Has.z) [sn] (sv1_len _) (by exact .inl (hS.csRd0 (n := 1) Has.z (by decide) rfl)) (sv1_one _) (by simp; omega) (by simp; omega) ?_; intro v' w1 hS1; clear hS; have hS := hS1; clear hS1; dsimp only [List.set_cons_zero, List.set_cons_succ] at hS; replace hS := hS.drop; obtain ⟨ao4, c4, rfl, _⟩ := hS.tbShape (k := 0) rfl))
      exact ⟨⟨i + 1, by go_num, HLT.out, HL5.out, by rw [HN.out]; simpa only [List.length_append, List.length_cons, List.length_nil, Nat.zero_add] using hS⟩, by simp [intOf]; have := HL5.out; omega⟩
    · have HE := Lib.hid (show (l.take i).map (fun v => nm6 (v % 6).toNat) = namesD l by
        unfold namesD
        by_cases h : i < 5
        · rw [List.take_of_length_le (by omega), List.take_of_length_le (by omega)]
        · have : i = 5 := by omega
          rw [this])
      by_cases hlt : i < l.length
      · have k1 : decide ((i : Int) < (l.length : Int)) = true := decide_eq_true (by omega)
        have k2 : decide (i < l.length) = true := decide_eq_true hlt
        have k3 : decide ((i : Int) < 5) = false := decide_eq_false (by omega)
        have k4 : decide (i < 5) = false := decide_eq_false (by omega)
        clear hgo hlt
        go_wp2
        go_ret
        rw [HE.out] at hS
        exact ⟨_, rfl, hS⟩
      · have k1 : decide ((i : Int) < (l.length : Int)) = false := decide_eq_false (by omega)
        have k2 : decide (i < l.length) = false := decide_eq_false hlt
        clear hgo hlt
        go_wp2
        go_ret
        rw [HE.out] at hS
        exact ⟨_, rfl, hS⟩
set_option maxRecDepth 20000 in
theorem texts_any {W w : World} {L : List Asrt} (hS : Sat W w L) (l : List (List UInt8)) (ao : Option Addr) (c : Nat) (hr : ∀ w L', Sat W w (L' ++ L) → Rd w (.slice ao l.length c) l.length 1 (l.flatMap sv1)) (hl : l.length ≤ 1000000) :
    Calls Try.prog 39 #[.slice ao l.length c] w fun r w' => ∃ v, r = .returned v ∧ Sat W w' (Tb 9 1 sv1 v l :: L) := by
  replace hS := hS.tbNil (f := sv1) (E := 9) (sz := 1)
  go_enter Try.func39, Try.ntmps39
  go_wp2_with (refine toList (by rfl) ?_; refine apTb (f := sv1) (xs := []) hS _ _ _ _ (by rfl) _ _ (by rfl) (by rfl) (elOf (by rfl)) (by rfl) (by decide) (inOf (by rfl)) Has.z l (sv1_len _) (by exact .inl (hr _ [_] hS)) (sv1_one _) (by simp; omega) (by simp; omega) ?_; intro v' w1 hS1; clear hS; have hS := hS1; clear hS1; dsimp only [List.set_cons_zero, List.nil_append] at hS)
  go_ret
  exact ⟨_, rfl, hS⟩
theorem eq_ent (n : List UInt8) (j : Int) (w : World) : (Op.equalIn 10000 59 (.agg #[.string ⟨n.toArray⟩, .int .i64 j]) (.agg #[.string ⟨n.toArray⟩, .int .i64 j])).run Try.prog w = .ok true w := by
  go_simp
set_option maxRecDepth 20000 in
set_option maxHeartbeats 1000000 in
theorem sameE_any {W w : World} {L : List Asrt} (hS : Sat W w L) (l : List EntD) (ao ao' : Option Addr) (c c' : Nat) (hr : ∀ w, Sat W w L → Rd w (.slice ao l.length c) l.length 2 (l.flatMap ev2)) (hr' : ∀ w, Sat W w L → Rd w (.slice ao' l.length c') l.length 2 (l.flatMap ev2)) (hb : l.length ≤ 1000000) :
    Calls Try.prog 29 #[.slice ao l.length c, .slice ao' l.length c'] w fun e w' => e = .returned (.bool true) ∧ Sat W w' L := by
  have HR := Lib.hid hr
  have HR' := Lib.hid hr'
  obtain ⟨_, _, he, hc1, hc2, _, h5⟩ := hr w hS
  simp only [Value.slice.injEq, true_and] at he
  obtain ⟨rfl, rfl⟩ := he
  obtain ⟨_, _, he, hc1', hc2', _, h5'⟩ := hr' w hS
  simp only [Value.slice.injEq, true_and] at he
  obtain ⟨rfl, rfl⟩ := he
  have H5 := Lib.hid h5
  have H5' := Lib.hid h5'
  have i5 : (l.length : Int) ≤ 1000000 := by omega
  have HS := Lib.hid hS
  clear hr hr' h5 h5'
  go_enter Try.func29, Try.ntmps29
  go_wp2
  go_loopw [5] (fun vi wz => ∃ k : Nat, k ≤ l.length ∧ vi = .int .i64 k ∧ Sat W wz L) (fun vi _ => l.length - (intOf vi).toNat)
  case atStart => exact ⟨0, by omega, rfl, HS.out⟩
  case round =>
    clear hS HS
    obtain ⟨k, hk, rfl, hS⟩ := hrel
    by_cases hlt : k < l.length
    · obtain ⟨b, off, rfl, _⟩ := H5.out (by omega)
      obtain ⟨b', off', rfl, _⟩ := H5'.out (by omega)
      obtain ⟨⟨n, j⟩, hx⟩ : ∃ x, l[k]? = some x := ⟨_, List.getElem?_eq_getElem hlt⟩
      have HX := Lib.hid hx
      have HLT := Lib.hid hlt
      have j1 : (k : Int) < (l.length : Int) := by omega
      clear hx hlt
      go_wp2
      refine regStart [] hS (by kernel_rfl) rfl ?_
      intro w1 hS1
      clear hS; have hS := hS1; clear hS1
      (refine regP 0 hS (fun _ h => h) rfl (by kernel_rfl) (by kernel_rfl) (by kernel_rfl) (fun _ _ _ _ h => h) (by rfl) (by rfl) ?_; apply Exists.intro; apply And.intro; (intro w; go_simp; try with_reducible rfl); go_frame)
      (refine regP 1 hS (fun _ h => h) rfl (by kernel_rfl) (by kernel_rfl) (by kernel_rfl) (fun _ _ _ _ h => h) (by rfl) (by rfl) ?_; apply Exists.intro; apply And.intro; (intro w; go_simp; try with_reducible rfl); go_frame)
      (refine regP 2 hS (fun _ h => h) rfl (by kernel_rfl) (by kernel_rfl) (by kernel_rfl) (fun _ _ _ _ h => h) (by rfl) (by rfl) ?_; apply Exists.intro; apply And.intro; (intro w; go_simp; try with_reducible rfl); go_frame)
      (refine regR 3 hS (fun _ h => h) rfl (by kernel_rfl) (by kernel_rfl) (by kernel_rfl) (by kernel_rfl) (by kernel_rfl) (fun _ _ _ _ h => h) (by rfl) (by rfl) ?_; (first
                    | refine ⟨.agg #[.string ⟨n.toArray⟩, .int .i64 j], fun u hu => rLdRdA (f := ev2) (x := ⟨n, j⟩) (HR.out _ hu) (ev2_len l) _ _ (by rfl) _ (by rfl) (agOf (by rfl)) (szOf (by rfl)) k (by omega) HX.out (by omega), ?_⟩
                    | refine ⟨.agg #[.string ⟨n.toArray⟩, .int .i64 j], fun u hu => rLdRdA (f := ev2) (x := ⟨n, j⟩) (HR'.out _ hu) (ev2_len l) _ _ (by rfl) _ (by rfl) (agOf (by rfl)) (szOf (by rfl)) k (by omega) HX.out (by omega), ?_⟩); go_frame)
      (refine regP 4 hS (fun _ h => h) rfl (by kernel_rfl) (by kernel_rfl) (by kernel_rfl) (fun _ _ _ _ h => h) (by rfl) (by rfl) ?_; apply Exists.intro; apply And.intro; (intro w; go_simp; try with_reducible rfl); go_frame)
      (refine regP 5 hS (fun _ h => h) rfl (by kernel_rfl) (by kernel_rfl) (by kernel_rfl) (fun _ _ _ _ h => h) (by rfl) (by rfl) ?_; apply Exists.intro; apply And.intro; (intro w; go_simp; try with_reducible rfl); go_frame)
      (refine regP 6 hS (fun _ h => h) rfl (by kernel_rfl) (by kernel_rfl) (by kernel_rfl) (fun _ _ _ _ h => h) (by rfl) (by rfl) ?_; apply Exists.intro; apply And.intro; (intro w; go_simp; try with_reducible rfl); go_frame)
      (refine regR 7 hS (fun _ h => h) rfl (by kernel_rfl) (by kernel_rfl) (by kernel_rfl) (by kernel_rfl) (by kernel_rfl) (fun _ _ _ _ h => h) (by rfl) (by rfl) ?_; (first
                    | refine ⟨.agg #[.string ⟨n.toArray⟩, .int .i64 j], fun u hu => rLdRdA (f := ev2) (x := ⟨n, j⟩) (HR.out _ hu) (ev2_len l) _ _ (by rfl) _ (by rfl) (agOf (by rfl)) (szOf (by rfl)) k (by omega) HX.out (by omega), ?_⟩
                    | refine ⟨.agg #[.string ⟨n.toArray⟩, .int .i64 j], fun u hu => rLdRdA (f := ev2) (x := ⟨n, j⟩) (HR'.out _ hu) (ev2_len l) _ _ (by rfl) _ (by rfl) (agOf (by rfl)) (szOf (by rfl)) k (by omega) HX.out (by omega), ?_⟩); go_frame)
      (refine regP 8 hS (fun _ h => h) rfl (by kernel_rfl) (by kernel_rfl) (by kernel_rfl) (fun _ _ _ _ h => h) (by rfl) (by rfl) ?_; apply Exists.intro; apply And.intro; (intro w; go_simp; try with_reducible rfl); go_frame)
      refine regDone (by kernel_rfl) ?_
      go_wp2
      exact ⟨⟨k + 1, HLT.out, by go_num, hS⟩, by simp [intOf]; have := HLT.out; omega⟩
    · have j1 : ¬ (k : Int) < (l.length : Int) := by omega
      clear hlt
      go_wp2
      go_ret
      exact ⟨rfl, hS⟩
set_option maxRecDepth 20000 in
theorem ttouched_any {W w : World} {L : List Asrt} {p : Nat} {T : TrD} (hS : Sat W w (IsT p T :: L)) (hT : T.Ok) :
    Calls Try.prog 49 #[.pointer (some ⟨p, 0, none⟩)] w fun r w' => ∃ v, r = .returned v ∧ Sat W w' (Ir v T.last :: IsT p T :: L) := by
  obtain ⟨v, vt, hO⟩ := IsT.open hS
  clear hS
  have hS := hO.irNil
  clear hO
  have hlst := hT.lst
  obtain ⟨ao, c, rfl, _⟩ := hS.irShape (k := 3) rfl
  go_enter Try.func49, Try.ntmps49
  go_wp2_with (first
    | (refine toList (by rfl) ?_; refine ld hS _ _ (by rfl) _ _ (by rfl) (agOf (by rfl)) (Has.s Has.z) tl_last ?_)
    | (refine toList (by rfl) ?_; refine apI (l := []) (m := T.last) hS _ _ _ _ (by rfl) (by rfl) (by rfl) (elOf (by rfl)) rfl rfl (by rfl) (inOf (by rfl)) Has.z (by exact hS.irRd (k := 3) rfl) (by simp only [List.length_nil]; omega) ?_; intro v' w1 hS1; clear hS; have hS := hS1; clear hS1; dsimp only [List.set_cons_zero, List.nil_append] at hS))
  go_ret
  exact ⟨_, rfl, (IsT.mk (hS.re [1, 2, 3, 0])).pull1⟩
end Go.Proofs.Ytiieicdhkcikpaa
namespace Go.Proofs.Ytiieicdhkcikpaa
open Go.RowKit Go.Sep
set_option linter.unusedSimpArgs false
set_option linter.unusedVariables false
attribute [local irreducible] Go.Oper.wp Go.wpList Go.Calls Go.Code.wp Go.Sep.Reg
theorem new_wl : wl (upd (fun _ => 0) 0 2) (fun _ => Value.slice none 0 0) (.slice none 0 0) = wl TrD.new.kind (fun _ => .slice none 0 0) (.slice none 0 0) := by
  have hk : TrD.new.kind = upd (fun _ => 0) 0 2 := by
    funext j
    unfold TrD.kind TrD.new upd
    dsimp only
    rw [List.getElem?_set]
    by_cases h : j = 0
    · subst h; rfl
    · rw [if_neg (fun e => h e.symm), if_neg h, List.getElem?_replicate]
      split <;> rfl
  rw [hk]
attribute [local irreducible] IsT IsW
set_option maxRecDepth 20000 in
set_option maxHeartbeats 1000000 in
theorem rnew_any {W w : World} {L : List Asrt} (hS : Sat W w L) :
    Calls Try.prog 21 #[] w fun r w' => ∃ p, r = .returned (.pointer (some ⟨p, 0, none⟩)) ∧ Sat W w' (IsW p TrD.new :: L) := by
  go_enter Try.func21, Try.ntmps21
  go_wp2_with (first
    | (refine toList (by rfl) ?_; refine bx hS _ _ (by rfl) _ (by first | exact evC | exact evT (by rfl)) ?_; intro p w1 hS1; clear hS; have hS := (show Sat W w1 (Cs p _ (wl (fun _ => 0) (fun _ => .slice none 0 0) (.slice none 0 0)) :: L) from hS1); clear hS1)
    | (refine toList (by rfl) ?_; refine st hS _ _ _ (by rfl) _ _ (by rfl) _ (by first | exact evC | exact evT (by rfl)) (by rfl) (szOf (by rfl)) Has.z (by rw [wl_len]; decide) ?_; intro w1 hS1; clear hS; have hS := hS1; clear hS1; simp only [List.set_cons_zero] at hS; rw [wl_setK (i := 0) _ (by decide) (by omega), new_wl] at hS))
  go_ret
  have h1 := rws_nil (hS.irNil)
  refine ⟨p, rfl, IsW.mk (T := TrD.new) (v := fun _ => .slice none 0 0) (vt := .slice none 0 0) ?_⟩
  rw [new_dir]
  exact h1.re [2, 0, 1]
end Go.Proofs.Ytiieicdhkcikpaa
