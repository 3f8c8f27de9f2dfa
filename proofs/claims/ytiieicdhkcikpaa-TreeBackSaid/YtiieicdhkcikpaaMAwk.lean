/-
  Package pedigreelaw11: the example that the laws end with.
  Place; SameInts.
-/
import Derived.Test.YtiieicdhkcikpaaTrRen4
import Derived.Test.YtiieicdhkcikpaaMUnl
import Derived.Test.YtiieicdhkcikpaaMReg
import Derived.Test.YtiieicdhkcikpaaTypes
import Derived.Test.YtiieicdhkcikpaaMSep
import Derived.Lib.Hide
namespace Go.Proofs.Ytiieicdhkcikpaa
open Go.RowKit Go.Sep
set_option linter.unusedSimpArgs false
set_option linter.unusedVariables false
attribute [local irreducible] Go.Oper.wp Go.wpList Go.Calls Go.Code.wp Go.Sep.Reg
attribute [local irreducible] IsT IsW
theorem has_at {L L' : List Asrt} {A : Asrt} {k : Nat} (h : Has L k A) : Has (L' ++ L) (L'.length + k) A := by
  unfold Has at h ⊢
  rw [List.getElem?_append_right (by omega), Nat.add_sub_cancel_left]; exact h
/-- A list of names that is just made. -/
theorem cs_names {W w : World} {L L' : List Asrt} {b E k : Nat} {l : List (List UInt8)} (hk : Has L k (Cs b E (l.flatMap sv1))) (hl : l.length ≤ 1000) (h : Sat W w (L' ++ L)) : Rd w (.slice (some ⟨b, 0, none⟩) l.length l.length) l.length 1 (l.flatMap sv1) :=
  h.csRd0 (has_at hk) (by omega) (by rw [sv1_fm, Nat.mul_one])
def AW1 : TrD := TrD.new.mk' [[97]] 2
def AW2 : TrD := AW1.mk' [[97], [98]] 1
def AW3 : TrD := AW2.rn [[97], [98]] [[99]]
theorem aw1 : TrD.new.mkE [[97]] 2 = 0 ∧ TrD.new.mkI [[97]] 2 = 1 := by decide +kernel
theorem aw2 : AW1.mkE [[97], [98]] 1 = 0 ∧ AW1.mkI [[97], [98]] 1 = 2 := by decide +kernel
theorem aw3 : AW2.rnE [[97], [98]] [[99]] = 0 ∧ AW2.rnX [[97], [98]] [[99]] = 2 ∧ AW2.rnY [[97], [98]] [[99]] = 0 := by decide +kernel
theorem aw4 : (AW3.dirI 1).length = 0 ∧ AW3.kindI 2 = 1 := by decide +kernel
theorem aw_ok : AW1.Ok ∧ AW2.Ok ∧ AW3.Ok := ⟨TrD.new_ok.mk' _ _, (TrD.new_ok.mk' _ _).mk' _ _, ((TrD.new_ok.mk' _ _).mk' _ _).rn _ _⟩
theorem aw_m1 {W w : World} {L : List Asrt} {p b : Nat} (h : Sat W w (IsT p TrD.new :: Cs b 9 [sv [97]] :: L)) :
    Calls Try.prog 11 #[.pointer (some ⟨p, 0, none⟩), .slice (some ⟨b, 0, none⟩) 1 1, .int .i64 2] w fun r w' => r = .returned (.tuple #[.int .i64 1, .int .i64 0]) ∧ Sat W w' (IsT p AW1 :: Cs b 9 [sv [97]] :: L) := by
  have := tmake_any h TrD.new_ok [[97]] (some ⟨b, 0, none⟩) 1 (fun w L' h => cs_names (L := Cs b 9 [sv [97]] :: L) (E := 9) (l := [[97]]) (k := 0) rfl (by decide) h) (by decide) 2
  rw [aw1.1, aw1.2] at this
  exact this
theorem aw_m2 {W w : World} {L : List Asrt} {p b : Nat} (h : Sat W w (IsT p AW1 :: Cs b 9 [sv [97], sv [98]] :: L)) :
    Calls Try.prog 11 #[.pointer (some ⟨p, 0, none⟩), .slice (some ⟨b, 0, none⟩) 2 2, .int .i64 1] w fun r w' => r = .returned (.tuple #[.int .i64 2, .int .i64 0]) ∧ Sat W w' (IsT p AW2 :: Cs b 9 [sv [97], sv [98]] :: L) := by
  have := tmake_any h aw_ok.1 [[97], [98]] (some ⟨b, 0, none⟩) 2 (fun w L' h => cs_names (L := Cs b 9 [sv [97], sv [98]] :: L) (E := 9) (l := [[97], [98]]) (k := 0) rfl (by decide) h) (by decide) 1
  rw [aw2.1, aw2.2] at this
  exact this
theorem aw_rn {W w : World} {L : List Asrt} {p b b' : Nat} (h : Sat W w (IsT p AW2 :: Cs b' 9 [sv [99]] :: Cs b 9 [sv [97], sv [98]] :: L)) :
    Calls Try.prog 28 #[.pointer (some ⟨p, 0, none⟩), .slice (some ⟨b, 0, none⟩) 2 2, .slice (some ⟨b', 0, none⟩) 1 1] w fun r w' => r = .returned (.tuple #[.int .i64 2, .int .i64 0, .int .i64 0]) ∧ Sat W w' (IsT p AW3 :: Cs b' 9 [sv [99]] :: Cs b 9 [sv [97], sv [98]] :: L) := by
  have := trename_any h aw_ok.2.1 [[97], [98]] [[99]] (some ⟨b, 0, none⟩) (some ⟨b', 0, none⟩) 2 1 (fun w L' h => cs_names (L := Cs b' 9 [sv [99]] :: Cs b 9 [sv [97], sv [98]] :: L) (E := 9) (l := [[97], [98]]) (k := 1) rfl (by decide) h) (by decide) (fun w L' h => cs_names (L := Cs b' 9 [sv [99]] :: Cs b 9 [sv [97], sv [98]] :: L) (E := 9) (l := [[99]]) (k := 0) rfl (by decide) h) (by decide)
  rw [aw3.1, aw3.2.1, aw3.2.2] at this
  exact this
theorem aw_en {W w : World} {L : List Asrt} {p : Nat} (h : Sat W w (IsT p AW3 :: L)) :
    Calls Try.prog 27 #[.pointer (some ⟨p, 0, none⟩), .int .i64 1] w fun r w' => ∃ ao c, r = .returned (.slice ao 0 c) ∧ Sat W w' (IsT p AW3 :: L) := by
  refine (tentries_any h aw_ok.2.2 1).mono ?_
  rintro r w1 ⟨v, rfl, h1⟩
  obtain ⟨ao, c, rfl, _⟩ := Sat.tbShape (k := 0) (show Sat _ _ (Tb 59 2 ev2 v (AW3.dirI 1) :: _) from h1) rfl
  exact ⟨ao, c, by rw [aw4.1], h1.drop⟩
theorem aw_kd {W w : World} {L : List Asrt} {p : Nat} (h : Sat W w (IsT p AW3 :: L)) :
    Calls Try.prog 16 #[.pointer (some ⟨p, 0, none⟩), .int .i64 2] w fun r w' => r = .returned (.int .i64 1) ∧ w = w' := by
  have := tkind_any h 2
  rw [aw4.2] at this
  exact this
attribute [local irreducible] AW1 AW2 AW3
set_option maxRecDepth 20000 in
set_option maxHeartbeats 1000000 in
theorem wake_any {W w : World} {L : List Asrt} (hS : Sat W w L) : Calls Try.prog 18 #[] w fun r w' => r = .returned (.bool true) ∧ Sat W w' L := by
  go_enter Try.func18, Try.ntmps18
  go_wp2_with (first
    | (go_at_call 10; refine (tnew_any hS).mono ?_; rintro r w1 ⟨p, rfl, hS1⟩; clear hS; have hS := hS1; clear hS1)
    | (refine toList (by rfl) ?_; refine bsF hS _ _ _ (by rfl) (elOf (by rfl)) [sv [97]] (by rfl) (by rfl) (by decide) (by decide) (by intro v hv; simp only [List.mem_cons, List.not_mem_nil, or_false] at hv; rcases hv with rfl <;> rfl) ?_; intro b1 w1 hS1; clear hS; have hS := (show Sat W w1 (Cs b1 9 [sv [97]] :: _) from hS1); clear hS1)
    | (go_at_call 11; refine (aw_m1 hS.pull1).mono ?_; rintro r w1 ⟨rfl, hS1⟩; clear hS; have hS := hS1.pull1.drop; clear hS1)
    | (refine toList (by rfl) ?_; refine bsF hS _ _ _ (by rfl) (elOf (by rfl)) [sv [97], sv [98]] (by rfl) (by rfl) (by decide) (by decide) (by intro v hv; simp only [List.mem_cons, List.not_mem_nil, or_false] at hv; rcases hv with rfl | rfl <;> rfl) ?_; intro b2 w1 hS1; clear hS; have hS := (show Sat W w1 (Cs b2 9 [sv [97], sv [98]] :: _) from hS1); clear hS1)
    | (go_at_call 11; refine (aw_m2 hS.pull1).mono ?_; rintro r w1 ⟨rfl, hS1⟩; clear hS; have hS := hS1.pull1.drop; clear hS1)
    | (refine toList (by rfl) ?_; refine bsF hS _ _ _ (by rfl) (elOf (by rfl)) [sv [99]] (by rfl) (by rfl) (by decide) (by decide) (by intro v hv; simp only [List.mem_cons, List.not_mem_nil, or_false] at hv; rcases hv with rfl <;> rfl) ?_; intro b3 w1 hS1; clear hS; have hS := (show Sat W w1 (Cs b3 9 [sv [99]] :: _) from hS1); clear hS1)
    | (go_at_call 28; refine (aw_rn (hS.re [2, 0, 1])).mono ?_; rintro r w1 ⟨rfl, hS1⟩; clear hS; have hS := (hS1.re [1, 2]).drop.drop; clear hS1)
    | (go_at_call 27; refine (aw_en hS).mono ?_; rintro r w1 ⟨ao, c, rfl, hS1⟩; clear hS; have hS := hS1; clear hS1)
    | (go_at_call 16; refine (aw_kd hS).mono ?_; rintro r w1 ⟨rfl, rfl⟩))
  go_ret
  exact ⟨rfl, hS.drop⟩
end Go.Proofs.Ytiieicdhkcikpaa
namespace Go.Proofs.Ytiieicdhkcikpaa
open Go.RowKit Go.Sep
set_option linter.unusedSimpArgs false
set_option linter.unusedVariables false
attribute [local irreducible] Go.Oper.wp Go.wpList Go.Calls Go.Code.wp Go.Sep.Reg
theorem ret_int {k : IntKind} {a b : Int} (h : a = b) : Ending.returned (.int k a) = .returned (.int k b) := by rw [h]
theorem place_eq (v n : Int) (hn : 0 < n) : v % n = if v.tmod n < 0 then v.tmod n + n else v.tmod n := by
  have h1 : v % n = (v.tmod n) % n := by
    conv => lhs; rw [← Int.tmod_add_mul_tdiv v n]
    rw [Int.add_mul_emod_self_left]
  have h2 : v.tmod n < n := Int.tmod_lt_of_pos v hn
  have h3 : -n < v.tmod n := by
    have := Int.tmod_lt_of_pos (-v) hn
    rw [Int.neg_tmod] at this; omega
  rw [h1]
  split
  · rw [← Int.add_emod_right, Int.emod_eq_of_lt (by omega) (by omega)]
  · rw [Int.emod_eq_of_lt (by omega) (by omega)]
theorem place_any (v n : Int) (hn : 0 < n) (hn2 : n ≤ 9223372036854775807) (w : World) :
    Calls Try.prog 13 #[.int .i64 v, .int .i64 n] w fun e w' => e = .returned (.int .i64 (v % n)) ∧ w = w' := by
  have he := place_eq v n hn
  have h3 : -n < v.tmod n := by
    have := Int.tmod_lt_of_pos (-v) hn
    rw [Int.neg_tmod] at this; omega
  have h2 : v.tmod n < n := Int.tmod_lt_of_pos v hn
  have He := Lib.hid he
  clear he
  by_cases h : v.tmod n < 0
  all_goals
    go_enter Try.func13, Try.ntmps13
    go_wp2
    go_ret
    exact ⟨ret_int (by rw [He.out]; first | rw [if_pos (by omega)] | rw [if_neg (by omega)]), rfl⟩
set_option maxRecDepth 20000 in
theorem same_any {W w : World} {L : List Asrt} (hS : Sat W w L) (l : List Nat) (ao bo : Option Addr) (c d : Nat) (h1 : ∀ w, Sat W w L → Rd w (.slice ao l.length c) l.length 1 (iv l)) (h2 : ∀ w, Sat W w L → Rd w (.slice bo l.length d) l.length 1 (iv l)) (hl : l.length ≤ 1000000) :
    Calls Try.prog 48 #[.slice ao l.length c, .slice bo l.length d] w fun e w' => e = .returned (.bool true) ∧ Sat W w' L := by
  have HR1 := Lib.hid h1
  have HR2 := Lib.hid h2
  obtain ⟨_, _, he, hc1, hc2, _, h5⟩ := h1 w hS
  simp only [Value.slice.injEq, true_and] at he
  obtain ⟨rfl, rfl⟩ := he
  obtain ⟨_, _, he, hd1, hd2, _, h6⟩ := h2 w hS
  simp only [Value.slice.injEq, true_and] at he
  obtain ⟨rfl, rfl⟩ := he
  have H5 := Lib.hid h5
  have H6 := Lib.hid h6
  have H0 := Lib.hid hS
  clear h1 h2 h5 h6
  go_enter Try.func48, Try.ntmps48
  go_wp2
  go_loopw [5] (fun v wz => ∃ i : Nat, v = .int .i64 i ∧ i ≤ l.length ∧ Sat W wz L) (fun v _ => l.length - (intOf v).toNat)
  case atStart => exact ⟨0, rfl, by omega, H0.out⟩
  case round =>
    clear hS H0
    obtain ⟨i, rfl, hi, hS⟩ := hrel
    by_cases hf : i < l.length
    · have i1 : (i : Int) < (l.length : Int) := by omega
      obtain ⟨x, hx⟩ : ∃ x, l[i]? = some x := ⟨_, List.getElem?_eq_getElem hf⟩
      have HX := Lib.hid (iv_at hx)
      obtain ⟨ba, oa, rfl, _⟩ := H5.out (by omega)
      obtain ⟨bb, ob, rfl, _⟩ := H6.out (by omega)
      have HL := Lib.hid hf
      clear hx hf
      go_wp2
      refine regStart [] hS (by kernel_rfl) rfl ?_
      intro w1 hS1
      clear hS; have hS := hS1; clear hS1
      (refine regP 0 hS (fun _ h => h) rfl (by kernel_rfl) (by kernel_rfl) (by kernel_rfl) (fun _ _ _ _ h => h) (by rfl) (by rfl) ?_; apply Exists.intro; apply And.intro; (intro w; go_simp; try with_reducible rfl); go_frame)
      (refine regP 1 hS (fun _ h => h) rfl (by kernel_rfl) (by kernel_rfl) (by kernel_rfl) (fun _ _ _ _ h => h) (by rfl) (by rfl) ?_; apply Exists.intro; apply And.intro; (intro w; go_simp; try with_reducible rfl); go_frame)
      (refine regP 2 hS (fun _ h => h) rfl (by kernel_rfl) (by kernel_rfl) (by kernel_rfl) (fun _ _ _ _ h => h) (by rfl) (by rfl) ?_; apply Exists.intro; apply And.intro; (intro w; go_simp; try with_reducible rfl); go_frame)
      (refine regR 3 hS (fun _ h => h) rfl (by kernel_rfl) (by kernel_rfl) (by kernel_rfl) (by kernel_rfl) (by kernel_rfl) (fun _ _ _ _ h => h) (by rfl) (by rfl) ?_; (refine ⟨_, fun u hu => (by first | exact rLdRd1 (HR1.out u hu) _ _ (by rfl) _ (by rfl) (agOf (by rfl)) i (by omega) HX.out (by omega) | exact rLdRd1 (HR2.out u hu) _ _ (by rfl) _ (by rfl) (agOf (by rfl)) i (by omega) HX.out (by omega)), ?_⟩); go_frame)
      (refine regP 4 hS (fun _ h => h) rfl (by kernel_rfl) (by kernel_rfl) (by kernel_rfl) (fun _ _ _ _ h => h) (by rfl) (by rfl) ?_; apply Exists.intro; apply And.intro; (intro w; go_simp; try with_reducible rfl); go_frame)
      (refine regP 5 hS (fun _ h => h) rfl (by kernel_rfl) (by kernel_rfl) (by kernel_rfl) (fun _ _ _ _ h => h) (by rfl) (by rfl) ?_; apply Exists.intro; apply And.intro; (intro w; go_simp; try with_reducible rfl); go_frame)
      (refine regP 6 hS (fun _ h => h) rfl (by kernel_rfl) (by kernel_rfl) (by kernel_rfl) (fun _ _ _ _ h => h) (by rfl) (by rfl) ?_; apply Exists.intro; apply And.intro; (intro w; go_simp; try with_reducible rfl); go_frame)
      (refine regR 7 hS (fun _ h => h) rfl (by kernel_rfl) (by kernel_rfl) (by kernel_rfl) (by kernel_rfl) (by kernel_rfl) (fun _ _ _ _ h => h) (by rfl) (by rfl) ?_; (refine ⟨_, fun u hu => (by first | exact rLdRd1 (HR1.out u hu) _ _ (by rfl) _ (by rfl) (agOf (by rfl)) i (by omega) HX.out (by omega) | exact rLdRd1 (HR2.out u hu) _ _ (by rfl) _ (by rfl) (agOf (by rfl)) i (by omega) HX.out (by omega)), ?_⟩); go_frame)
      (refine regP 8 hS (fun _ h => h) rfl (by kernel_rfl) (by kernel_rfl) (by kernel_rfl) (fun _ _ _ _ h => h) (by rfl) (by rfl) ?_; apply Exists.intro; apply And.intro; (intro w; go_simp; try with_reducible rfl); go_frame)
      refine regDone (by kernel_rfl) ?_
      go_wp2
      exact ⟨⟨i + 1, by go_num, HL.out, hS⟩, by simp [intOf]; have := HL.out; omega⟩
    · have e1 : decide ((i : Int) < (l.length : Int)) = false := decide_eq_false (by omega)
      have e4 : ¬ (i : Int) < (l.length : Int) := by omega
      clear hf
      go_wp2
      go_ret
      exact ⟨rfl, hS⟩
end Go.Proofs.Ytiieicdhkcikpaa
