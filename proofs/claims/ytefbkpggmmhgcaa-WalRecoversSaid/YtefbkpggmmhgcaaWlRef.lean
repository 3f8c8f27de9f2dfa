/-
  Package pedigreeref05: contracts of New, Write, Cut.
-/
import Derived.Test.YtefbkpggmmhgcaaWlDisk
import Derived.Test.YtefbkpggmmhgcaaSepStr
namespace Go.Proofs.Ytefbkpggmmhgcaa
open Go.RowKit Go.Sep
set_option linter.unusedSimpArgs false
set_option linter.unusedVariables false
attribute [local irreducible] Go.Oper.wp Go.wpList Go.Calls Go.Code.wp Go.Sep.Reg
structure RefS where
  L : List (List UInt8)
  Log : List (Nat × List UInt8)
  armed : Bool
  left : Int
  dead : Bool
def strv (l : List UInt8) : Value := .string ⟨l.toArray⟩
def sv (l : List UInt8) : List Value := [strv l]
def wv (x : Nat × List UInt8) : List Value := [.int .i64 x.1, strv x.2]
def IsRef (p : Nat) (D : RefS) : Asrt := Ex fun x : Value × Value => St [Cs p 87 [x.1, x.2, .bool D.armed, .int .i64 D.left, .bool D.dead],
  Tb 9 1 sv x.1 D.L, Tb 56 2 wv x.2 D.Log]
theorem IsRef.open {W w : World} {L : List Asrt} {p : Nat} {D : RefS} (h : Sat W w (IsRef p D :: L)) : ∃ v1 v2, Sat W w (Cs p 87 [v1, v2, .bool D.armed, .int .i64 D.left, .bool D.dead] ::
    Tb 9 1 sv v1 D.L :: Tb 56 2 wv v2 D.Log :: L) := by
  obtain ⟨⟨v1, v2⟩, h⟩ := h.ex
  exact ⟨v1, v2, h.open⟩
theorem IsRef.mk {W w : World} {L : List Asrt} {p : Nat} {D : RefS} {v1 v2 : Value} (h : Sat W w (Cs p 87 [v1, v2, .bool D.armed, .int .i64 D.left, .bool D.dead] ::
    Tb 9 1 sv v1 D.L :: Tb 56 2 wv v2 D.Log :: L)) : Sat W w (IsRef p D :: L) :=
  Sat.mkEx (v1, v2) (Sat.mkSt h)
theorem sv_one (x : List UInt8) : ∀ v ∈ [x].flatMap sv, v.oneCell' = true := by simp [sv, strv, Value.oneCell']
theorem wv_one (x : Nat × List UInt8) : ∀ v ∈ [x].flatMap wv, v.oneCell' = true := by simp [wv, strv, Value.oneCell']
theorem bstr : bstrB Try.prog 9 36 = some 5 := by kernel_rfl
theorem ref_new_no (w : World) (n : Int) (h : n < 160 ∨ 1024 < n) :
    Calls Try.prog 20 #[.int .i64 n] w fun e w' => e = .returned (.pointer none) ∧ w = w' := by
  rcases h with h | h
  · go_enter Try.func20, Try.ntmps20
    go_wp2
    go_ret
    exact ⟨rfl, rfl⟩
  · have h2 : ¬ n < 160 := by omega
    go_enter Try.func20, Try.ntmps20
    go_wp2
    go_ret
    exact ⟨rfl, rfl⟩
def RefS.new (n : Nat) : RefS := { L := List.replicate n (zeros 128), Log := [], armed := false, left := 0, dead := false }
set_option maxRecDepth 20000 in
set_option maxHeartbeats 2000000 in
theorem ref_new_ok {W w : World} {L : List Asrt} (hS : Sat W w L) (n : Nat) (h1 : 160 ≤ n) (h2 : n ≤ 1024) :
    Calls Try.prog 20 #[.int .i64 n] w fun e w' => ∃ p, e = .returned (.pointer (some ⟨p, 0, none⟩)) ∧ Sat W w' (IsRef p (.new n) :: L) := by
  have i1 : (160 : Int) ≤ (n : Int) := by omega
  have i2 : (n : Int) ≤ 1024 := by omega
  have HZ := Lib.hid (show (bv (zeros 128)).length = 128 * 1 by simp [bv, zeros])
  go_enter Try.func20, Try.ntmps20
  go_wp2_with (first
    | (refine toList (by rfl) ?_; refine bx hS _ _ (by rfl) _ (by first | exact evC | exact evT (by rfl)) ?_; intro p w1 hS1; clear hS; have hS := hS1; clear hS1; rw [cells_agg] at hS)
    | (refine toList (by rfl) ?_; refine mk hS _ _ _ (by rfl) 128 128 _ _ (by rfl) (by rfl) (elOf (by rfl)) (by omega) (by omega) (by omega) ?_; intro pz w1 hS1; clear hS; have hS := hS1; clear hS1; rw [made_u8] at hS)
    | (refine toList (by rfl) ?_; refine cvS _ _ _ (by rfl) _ (by rfl) strBytes (by exact hS.csRd0 (n := 128) Has.z (by decide) HZ.out) ?_))
  have hI : Sat W _ (Cs p 87 [.slice none 0 0, .slice none 0 0, .bool false, .int .i64 0, .bool false] :: Tb 9 1 sv (.slice none 0 0) (List.replicate 0 (zeros 128)) :: L) :=
    (hS.drop.tbNil (E := 9) (sz := 1) (f := sv)).pull1
  have HI := Lib.hid hI
  clear hI
  go_loopw [5] (fun vi wz => ∃ k : Nat, k ≤ n ∧ vi = .int .i64 k ∧ ∃ v, Sat W wz (Cs p 87 [v, .slice none 0 0, .bool false, .int .i64 0, .bool false] :: Tb 9 1 sv v (List.replicate k (zeros 128)) :: L)) (fun vi _ => n - (intOf vi).toNat)
  case atStart => exact ⟨0, by omega, rfl, _, HI.out⟩
  case round =>
    clear HI hS
    obtain ⟨k, hk, rfl, v, hS⟩ := hrel
    by_cases hlt : k < n
    · have j1 : (k : Int) < (n : Int) := by omega
      obtain ⟨ao, c, rfl, _⟩ := hS.tbShape (k := 1) rfl
      rw [List.length_replicate] at hS
      have HR := Lib.hid (show List.replicate k (zeros 128) ++ [zeros 128] = List.replicate (k + 1) (zeros 128) from (List.replicate_succ').symm)
      go_wp2_with (first
        | (refine toList (by rfl) ?_; refine ld hS _ _ (by rfl) _ _ (by rfl) (agOf (by rfl)) (by first | exact Has.z | exact Has.s Has.z | exact Has.s (Has.s Has.z) | exact Has.s (Has.s (Has.s Has.z)) | exact Has.s (Has.s (Has.s (Has.s Has.z))) | exact Has.s (Has.s (Has.s (Has.s (Has.s Has.z))))) (by rfl) ?_)
        | (refine toList (by rfl) ?_; refine st hS _ _ _ (by rfl) _ _ (by rfl) _ (by first | exact evC | exact evT (by rfl)) (by rfl) (szOf (by rfl)) (by first | exact Has.z | exact Has.s Has.z | exact Has.s (Has.s Has.z) | exact Has.s (Has.s (Has.s Has.z)) | exact Has.s (Has.s (Has.s (Has.s Has.z))) | exact Has.s (Has.s (Has.s (Has.s (Has.s Has.z))))) (by exact Nat.le_of_ble_eq_true rfl) ?_; intro w1 hS1; clear hS; have hS := hS1; clear hS1; dsimp only [List.set] at hS)
        | (refine toList (by rfl) ?_; refine bsF hS _ _ _ (by rfl) (elOf (by rfl)) [strv (zeros 128)] (by rfl) (by rfl) (by decide) (by decide) (by simp [Value.cells, strv]) ?_; intro b1 w1 hS1; clear hS; have hS := hS1; clear hS1; rw [sca1 rfl] at hS)
        | (refine toList (by rfl) ?_; refine apTbS (f := sv) hS _ _ _ _ (by rfl) _ _ (by rfl) (by rfl) (elOf (by rfl)) (by rfl) (by decide) (inOf (by rfl)) (by first | exact Has.z | exact Has.s Has.z | exact Has.s (Has.s Has.z) | exact Has.s (Has.s (Has.s Has.z)) | exact Has.s (Has.s (Has.s (Has.s Has.z))) | exact Has.s (Has.s (Has.s (Has.s (Has.s Has.z))))) [zeros 128] (by simp [sv]) (by exact hS.src1 (f := sv) Has.z rfl) (sv_one _) (by simp; omega) (by simp; omega) ?_; intro ao5 c5 w1 _ hS1; clear hS; have hS := hS1; clear hS1; rw [HR.out] at hS; dsimp only [List.set_cons_zero, List.set_cons_succ] at hS; rw [List.length_replicate] at hS))
      exact ⟨⟨k + 1, by omega, by go_num, _, hS.drop⟩, by simp [intOf]; omega⟩
    · obtain rfl : k = n := by omega
      go_wp2
      go_ret
      exact ⟨p, rfl, IsRef.mk (D := .new k) ((hS.tbNil (E := 56) (sz := 2) (f := wv)).re [1, 2, 0])⟩
theorem ref_cut_yes {W w : World} {L : List Asrt} {p : Nat} {D : RefS} (hS : Sat W w (IsRef p D :: L)) (n : Int) (h : 0 ≤ n) :
    Calls Try.prog 22 #[.pointer (some ⟨p, 0, none⟩), .int .i64 n] w fun e w' => e = .returned (.bool true) ∧ Sat W w' (IsRef p { D with armed := true, left := n } :: L) := by
  obtain ⟨v1, v2, hS⟩ := IsRef.open hS
  go_enter Try.func22, Try.ntmps22
  go_wp2_with (refine toList (by rfl) ?_; refine st hS _ _ _ (by rfl) _ _ (by rfl) _ (by first | exact evC | exact evT (by rfl)) (by rfl) (szOf (by rfl)) (by first | exact Has.z | exact Has.s Has.z | exact Has.s (Has.s Has.z) | exact Has.s (Has.s (Has.s Has.z)) | exact Has.s (Has.s (Has.s (Has.s Has.z))) | exact Has.s (Has.s (Has.s (Has.s (Has.s Has.z))))) (by exact Nat.le_of_ble_eq_true rfl) ?_; intro w1 hS1; clear hS; have hS := hS1; clear hS1; dsimp only [List.set] at hS)
  go_ret
  exact ⟨rfl, IsRef.mk hS⟩
theorem ref_cut_no {W w : World} {L : List Asrt} {p : Nat} {D : RefS} (_ : Sat W w (IsRef p D :: L)) (n : Int) (h : n < 0) :
    Calls Try.prog 22 #[.pointer (some ⟨p, 0, none⟩), .int .i64 n] w fun e w' => e = .returned (.bool false) ∧ w = w' := by
  go_enter Try.func22, Try.ntmps22
  go_wp2
  go_ret
  exact ⟨rfl, rfl⟩
theorem ref_write_dead {W w : World} {L : List Asrt} {p : Nat} {D : RefS} (hS : Sat W w (IsRef p D :: L)) (n : Int) (v : Value) (hd : D.dead = true) :
    Calls Try.prog 27 #[.pointer (some ⟨p, 0, none⟩), .int .i64 n, v] w fun e w' => e = .returned (.int .i64 22) ∧ w = w' := by
  obtain ⟨v1, v2, hS⟩ := IsRef.open hS
  rw [hd] at hS
  go_enter Try.func27, Try.ntmps27
  go_wp2_with (refine toList (by rfl) ?_; refine ld hS _ _ (by rfl) _ _ (by rfl) (agOf (by rfl)) (by first | exact Has.z | exact Has.s Has.z | exact Has.s (Has.s Has.z) | exact Has.s (Has.s (Has.s Has.z)) | exact Has.s (Has.s (Has.s (Has.s Has.z))) | exact Has.s (Has.s (Has.s (Has.s (Has.s Has.z))))) (by rfl) ?_)
  go_ret
  exact ⟨rfl, rfl⟩
set_option maxHeartbeats 2000000 in
theorem ref_write_arg {W w : World} {L : List Asrt} {p : Nat} {D : RefS} (hS : Sat W w (IsRef p D :: L)) (n : Int) (ao : Option Addr) (m c : Nat) (hd : D.dead = false) (h : n < 0 ∨ (D.L.length : Int) ≤ n ∨ m ≠ 128) :
    Calls Try.prog 27 #[.pointer (some ⟨p, 0, none⟩), .int .i64 n, .slice ao m c] w fun e w' => e = .returned (.int .i64 1) ∧ w = w' := by
  obtain ⟨v1, v2, hS⟩ := IsRef.open hS
  rw [hd] at hS
  obtain ⟨ao1, c1, rfl, _⟩ := hS.tbShape (k := 1) rfl
  by_cases h0 : n < 0
  · go_enter Try.func27, Try.ntmps27
    go_wp2_with (refine toList (by rfl) ?_; refine ld hS _ _ (by rfl) _ _ (by rfl) (agOf (by rfl)) (by first | exact Has.z | exact Has.s Has.z | exact Has.s (Has.s Has.z) | exact Has.s (Has.s (Has.s Has.z)) | exact Has.s (Has.s (Has.s (Has.s Has.z))) | exact Has.s (Has.s (Has.s (Has.s (Has.s Has.z))))) (by rfl) ?_)
    go_ret
    exact ⟨rfl, rfl⟩
  by_cases h1 : (D.L.length : Int) ≤ n
  · go_enter Try.func27, Try.ntmps27
    go_wp2_with (refine toList (by rfl) ?_; refine ld hS _ _ (by rfl) _ _ (by rfl) (agOf (by rfl)) (by first | exact Has.z | exact Has.s Has.z | exact Has.s (Has.s Has.z) | exact Has.s (Has.s (Has.s Has.z)) | exact Has.s (Has.s (Has.s (Has.s Has.z))) | exact Has.s (Has.s (Has.s (Has.s (Has.s Has.z))))) (by rfl) ?_)
    go_ret
    exact ⟨rfl, rfl⟩
  · have h2 : ((m : Int) == 128) = false := beq_eq_false_iff_ne.2 (by omega)
    have h3 : ((m : Int) != 128) = true := by rw [bne_iff_ne]; omega
    have h4 : n < (D.L.length : Int) := by omega
    have h5 : 0 ≤ n := by omega
    clear h h0 h1
    obtain ⟨k, rfl⟩ := Int.eq_ofNat_of_zero_le h5
    go_enter Try.func27, Try.ntmps27
    go_wp2_with (refine toList (by rfl) ?_; refine ld hS _ _ (by rfl) _ _ (by rfl) (agOf (by rfl)) (by first | exact Has.z | exact Has.s Has.z | exact Has.s (Has.s Has.z) | exact Has.s (Has.s (Has.s Has.z)) | exact Has.s (Has.s (Has.s (Has.s Has.z))) | exact Has.s (Has.s (Has.s (Has.s (Has.s Has.z))))) (by rfl) ?_)
    go_ret
    exact ⟨rfl, rfl⟩
set_option maxHeartbeats 2000000 in
theorem ref_write_cut {W w : World} {L : List Asrt} {p : Nat} {D : RefS} (hS : Sat W w (IsRef p D :: L)) (n : Nat) (ao : Option Addr) (c : Nat) (hd : D.dead = false) (hn : n < D.L.length) (ha : D.armed = true) (hl : D.left = 0) :
    Calls Try.prog 27 #[.pointer (some ⟨p, 0, none⟩), .int .i64 n, .slice ao 128 c] w fun e w' => e = .returned (.int .i64 22) ∧ Sat W w' (IsRef p { D with dead := true } :: L) := by
  obtain ⟨v1, v2, hS⟩ := IsRef.open hS
  obtain ⟨ao1, c1, rfl, _⟩ := hS.tbShape (k := 1) rfl
  rw [hd, ha, hl] at hS
  have h4 : (n : Int) < (D.L.length : Int) := by omega
  go_enter Try.func27, Try.ntmps27
  go_wp2_with (first
    | (refine toList (by rfl) ?_; refine ld hS _ _ (by rfl) _ _ (by rfl) (agOf (by rfl)) (by first | exact Has.z | exact Has.s Has.z | exact Has.s (Has.s Has.z) | exact Has.s (Has.s (Has.s Has.z)) | exact Has.s (Has.s (Has.s (Has.s Has.z))) | exact Has.s (Has.s (Has.s (Has.s (Has.s Has.z))))) (by rfl) ?_)
    | (refine toList (by rfl) ?_; refine st hS _ _ _ (by rfl) _ _ (by rfl) _ (by first | exact evC | exact evT (by rfl)) (by rfl) (szOf (by rfl)) (by first | exact Has.z | exact Has.s Has.z | exact Has.s (Has.s Has.z) | exact Has.s (Has.s (Has.s Has.z)) | exact Has.s (Has.s (Has.s (Has.s Has.z))) | exact Has.s (Has.s (Has.s (Has.s (Has.s Has.z))))) (by exact Nat.le_of_ble_eq_true rfl) ?_; intro w1 hS1; clear hS; have hS := hS1; clear hS1; dsimp only [List.set] at hS))
  go_ret
  exact ⟨rfl, IsRef.mk (D := { D with dead := true }) (by rw [hl, ha]; exact hS)⟩
def RefS.wrote (D : RefS) (n : Nat) (b : List UInt8) : RefS :=
  { D with L := D.L.set n b, Log := D.Log ++ [(n, b)], left := if D.armed then D.left - 1 else D.left }
set_option maxRecDepth 20000 in
set_option maxHeartbeats 4000000 in
theorem ref_write_ok {W w : World} {L : List Asrt} {p : Nat} {D : RefS} (hS : Sat W w (IsRef p D :: L)) (n : Nat) (ao : Option Addr) (c : Nat) (b : List UInt8) (hb : ∀ w, Sat W w L → Rd w (.slice ao 128 c) 128 1 (bv b))
    (hd : D.dead = false) (hn : n < D.L.length) (hl : D.armed = true → D.left ≠ 0) (hl2 : 0 ≤ D.left) (hl3 : D.left ≤ 9223372036854775807) (hw : D.Log.length ≤ 1048576) (hlen : D.L.length ≤ 1024) :
    Calls Try.prog 27 #[.pointer (some ⟨p, 0, none⟩), .int .i64 n, .slice ao 128 c] w fun e w' => e = .returned (.int .i64 0) ∧ Sat W w' (IsRef p (D.wrote n b) :: L) := by
  obtain ⟨v1, v2, hS⟩ := IsRef.open hS
  obtain ⟨bb, off, c1, rfl, _⟩ := hS.tbAddr (k := 1) rfl (by omega)
  obtain ⟨ao2, c2, rfl, _⟩ := hS.tbShape (k := 2) rfl
  rw [hd] at hS
  have h4 : (n : Int) < (D.L.length : Int) := by omega
  have HB : Hid (∀ w, Sat W w L → Rd w (.slice ao 128 c) 128 1 (bv b)) := Lib.hid hb
  have HLL := Lib.hid hl
  clear hb hl
  have harm : (D.armed = true ∧ (D.left == 0) = false) ∨ D.armed = false := by
    cases h : D.armed with
    | true => exact .inl ⟨rfl, beq_eq_false_iff_ne.2 (HLL.out h)⟩
    | false => exact .inr rfl
  rcases harm with ⟨ha, h5⟩ | ha
  all_goals
    rw [ha] at hS
    go_enter Try.func27, Try.ntmps27
    go_wp2_with (first
      | (refine toList (by rfl) ?_; refine ld hS _ _ (by rfl) _ _ (by rfl) (agOf (by rfl)) (by first | exact Has.z | exact Has.s Has.z | exact Has.s (Has.s Has.z) | exact Has.s (Has.s (Has.s Has.z)) | exact Has.s (Has.s (Has.s (Has.s Has.z))) | exact Has.s (Has.s (Has.s (Has.s (Has.s Has.z))))) (by rfl) ?_)
      | (refine toList (by rfl) ?_; refine st hS _ _ _ (by rfl) _ _ (by rfl) _ (by first | exact evC | exact evT (by rfl)) (by rfl) (szOf (by rfl)) (by first | exact Has.z | exact Has.s Has.z | exact Has.s (Has.s Has.z) | exact Has.s (Has.s (Has.s Has.z)) | exact Has.s (Has.s (Has.s (Has.s Has.z))) | exact Has.s (Has.s (Has.s (Has.s (Has.s Has.z))))) (by exact Nat.le_of_ble_eq_true rfl) ?_; intro w1 hS1; clear hS; have hS := hS1; clear hS1; dsimp only [List.set] at hS))
    refine regStart [8] hS (by kernel_rfl) rfl ?_
    intro w1 hS1
    clear hS; have hS := hS1; clear hS1
    (refine regP 0 hS (fun _ h => h) rfl (by kernel_rfl) (by kernel_rfl) (by kernel_rfl) (fun _ _ _ _ h => h) (by rfl) (by rfl) ?_; apply Exists.intro; apply And.intro; (intro w; go_simp; try with_reducible rfl); (simp only [Act.put, List.setIfInBounds_toArray, List.set_cons_zero, List.set_cons_succ]))
    (refine regP 1 hS (fun _ h => h) rfl (by kernel_rfl) (by kernel_rfl) (by kernel_rfl) (fun _ _ _ _ h => h) (by rfl) (by rfl) ?_; apply Exists.intro; apply And.intro; (intro w; go_simp; try with_reducible rfl); (simp only [Act.put, List.setIfInBounds_toArray, List.set_cons_zero, List.set_cons_succ]))
    (refine regP 2 hS (fun _ h => h) rfl (by kernel_rfl) (by kernel_rfl) (by kernel_rfl) (fun _ _ _ _ h => h) (by rfl) (by rfl) ?_; apply Exists.intro; apply And.intro; (intro w; go_simp; try with_reducible rfl); (simp only [Act.put, List.setIfInBounds_toArray, List.set_cons_zero, List.set_cons_succ]))
    (refine regR 3 hS (fun _ h => h) rfl (by kernel_rfl) (by kernel_rfl) (by kernel_rfl) (by kernel_rfl) (by kernel_rfl) (fun _ _ _ _ h => h) (by rfl) (by rfl) ?_; (first
              | refine ⟨_, yLd _ _ (by rfl) _ _ (by rfl) (agOf (by rfl)) (by first | exact Has.z | exact Has.s Has.z | exact Has.s (Has.s Has.z) | exact Has.s (Has.s (Has.s Has.z)) | exact Has.s (Has.s (Has.s (Has.s Has.z))) | exact Has.s (Has.s (Has.s (Has.s (Has.s Has.z))))) (by rfl), ?_⟩
              | refine ⟨_, yCv _ _ _ (by rfl) _ (by rfl) strBytes (fun u hu => by exact HB.out _ hu.drop.drop.drop), ?_⟩); (simp only [Act.put, List.setIfInBounds_toArray, List.set_cons_zero, List.set_cons_succ]))
    (refine regP 4 hS (fun _ h => h) rfl (by kernel_rfl) (by kernel_rfl) (by kernel_rfl) (fun _ _ _ _ h => h) (by rfl) (by rfl) ?_; apply Exists.intro; apply And.intro; (intro w; go_simp; try with_reducible rfl); (simp only [Act.put, List.setIfInBounds_toArray, List.set_cons_zero, List.set_cons_succ]))
    (refine regP 5 hS (fun _ h => h) rfl (by kernel_rfl) (by kernel_rfl) (by kernel_rfl) (fun _ _ _ _ h => h) (by rfl) (by rfl) ?_; apply Exists.intro; apply And.intro; (intro w; go_simp; try with_reducible rfl); (simp only [Act.put, List.setIfInBounds_toArray, List.set_cons_zero, List.set_cons_succ]))
    (refine regR 6 hS (fun _ h => h) rfl (by kernel_rfl) (by kernel_rfl) (by kernel_rfl) (by kernel_rfl) (by kernel_rfl) (fun _ _ _ _ h => h) (by rfl) (by rfl) ?_; (first
              | refine ⟨_, yLd _ _ (by rfl) _ _ (by rfl) (agOf (by rfl)) (by first | exact Has.z | exact Has.s Has.z | exact Has.s (Has.s Has.z) | exact Has.s (Has.s (Has.s Has.z)) | exact Has.s (Has.s (Has.s (Has.s Has.z))) | exact Has.s (Has.s (Has.s (Has.s (Has.s Has.z))))) (by rfl), ?_⟩
              | refine ⟨_, yCv _ _ _ (by rfl) _ (by rfl) strBytes (fun u hu => by exact HB.out _ hu.drop.drop.drop), ?_⟩); (simp only [Act.put, List.setIfInBounds_toArray, List.set_cons_zero, List.set_cons_succ]))
    (refine regP 7 hS (fun _ h => h) rfl (by kernel_rfl) (by kernel_rfl) (by kernel_rfl) (fun _ _ _ _ h => h) (by rfl) (by rfl) ?_; apply Exists.intro; apply And.intro; (intro w; go_simp; try with_reducible rfl); (simp only [Act.put, List.setIfInBounds_toArray, List.set_cons_zero, List.set_cons_succ]))
    (refine regA 8 rfl (by kernel_rfl) (by rfl) (by rfl) true (by kernel_rfl) (fun K hK => ?_); ((refine stTb1 hS _ _ _ (by rfl) _ _ (by rfl) (strv b) (by rfl) (by rfl) b (by rfl) (szOf (by rfl)) (by first | exact Has.z | exact Has.s Has.z | exact Has.s (Has.s Has.z) | exact Has.s (Has.s (Has.s Has.z)) | exact Has.s (Has.s (Has.s (Has.s Has.z))) | exact Has.s (Has.s (Has.s (Has.s (Has.s Has.z))))) rfl n (by omega) hn ?_; intro w1 hS1; clear hS; have hS := hS1; clear hS1; dsimp only [List.set_cons_zero, List.set_cons_succ] at hS)); refine hK _ _ _ hS (by first | (intro h; cases h; done) | exact fun _ _ h => h | exact fun _ _ h => h.drop | exact fun _ _ h => h.drop.drop | exact fun _ _ h => h.drop.pull1 | exact fun _ _ h => h.take2 | exact fun _ _ h => h.one Has.z | exact fun _ _ h => h.one (Has.s Has.z) | exact fun _ _ h => h.one (Has.s (Has.s Has.z))) ?_; clear hK K; (simp only [Act.put, List.setIfInBounds_toArray, List.set_cons_zero, List.set_cons_succ]))
    refine regDone (by kernel_rfl) ?_
    go_wp2
    refine regStart [10, 13] hS (by kernel_rfl) rfl ?_
    intro w1 hS1
    clear hS; have hS := hS1; clear hS1
    (refine regP 0 hS (fun _ h => h) rfl (by kernel_rfl) (by kernel_rfl) (by kernel_rfl) (fun _ _ _ _ h => h) (by rfl) (by rfl) ?_; apply Exists.intro; apply And.intro; (intro w; go_simp; try with_reducible rfl); (simp only [Act.put, List.setIfInBounds_toArray, List.set_cons_zero, List.set_cons_succ]))
    (refine regP 1 hS (fun _ h => h) rfl (by kernel_rfl) (by kernel_rfl) (by kernel_rfl) (fun _ _ _ _ h => h) (by rfl) (by rfl) ?_; apply Exists.intro; apply And.intro; (intro w; go_simp; try with_reducible rfl); (simp only [Act.put, List.setIfInBounds_toArray, List.set_cons_zero, List.set_cons_succ]))
    (refine regP 2 hS (fun _ h => h) rfl (by kernel_rfl) (by kernel_rfl) (by kernel_rfl) (fun _ _ _ _ h => h) (by rfl) (by rfl) ?_; apply Exists.intro; apply And.intro; (intro w; go_simp; try with_reducible rfl); (simp only [Act.put, List.setIfInBounds_toArray, List.set_cons_zero, List.set_cons_succ]))
    (refine regP 3 hS (fun _ h => h) rfl (by kernel_rfl) (by kernel_rfl) (by kernel_rfl) (fun _ _ _ _ h => h) (by rfl) (by rfl) ?_; apply Exists.intro; apply And.intro; (intro w; go_simp; try with_reducible rfl); (simp only [Act.put, List.setIfInBounds_toArray, List.set_cons_zero, List.set_cons_succ]))
    (refine regR 4 hS (fun _ h => h) rfl (by kernel_rfl) (by kernel_rfl) (by kernel_rfl) (by kernel_rfl) (by kernel_rfl) (fun _ _ _ _ h => h) (by rfl) (by rfl) ?_; (first
              | refine ⟨_, yLd _ _ (by rfl) _ _ (by rfl) (agOf (by rfl)) (by first | exact Has.z | exact Has.s Has.z | exact Has.s (Has.s Has.z) | exact Has.s (Has.s (Has.s Has.z)) | exact Has.s (Has.s (Has.s (Has.s Has.z))) | exact Has.s (Has.s (Has.s (Has.s (Has.s Has.z))))) (by rfl), ?_⟩
              | refine ⟨_, yCv _ _ _ (by rfl) _ (by rfl) strBytes (fun u hu => by exact HB.out _ hu.drop.drop.drop), ?_⟩); (simp only [Act.put, List.setIfInBounds_toArray, List.set_cons_zero, List.set_cons_succ]))
    (refine regP 5 hS (fun _ h => h) rfl (by kernel_rfl) (by kernel_rfl) (by kernel_rfl) (fun _ _ _ _ h => h) (by rfl) (by rfl) ?_; apply Exists.intro; apply And.intro; (intro w; go_simp; try with_reducible rfl); (simp only [Act.put, List.setIfInBounds_toArray, List.set_cons_zero, List.set_cons_succ]))
    (refine regP 6 hS (fun _ h => h) rfl (by kernel_rfl) (by kernel_rfl) (by kernel_rfl) (fun _ _ _ _ h => h) (by rfl) (by rfl) ?_; apply Exists.intro; apply And.intro; (intro w; go_simp; try with_reducible rfl); (simp only [Act.put, List.setIfInBounds_toArray, List.set_cons_zero, List.set_cons_succ]))
    (refine regR 7 hS (fun _ h => h) rfl (by kernel_rfl) (by kernel_rfl) (by kernel_rfl) (by kernel_rfl) (by kernel_rfl) (fun _ _ _ _ h => h) (by rfl) (by rfl) ?_; (first
              | refine ⟨_, yLd _ _ (by rfl) _ _ (by rfl) (agOf (by rfl)) (by first | exact Has.z | exact Has.s Has.z | exact Has.s (Has.s Has.z) | exact Has.s (Has.s (Has.s Has.z)) | exact Has.s (Has.s (Has.s (Has.s Has.z))) | exact Has.s (Has.s (Has.s (Has.s (Has.s Has.z))))) (by rfl), ?_⟩
              | refine ⟨_, yCv _ _ _ (by rfl) _ (by rfl) strBytes (fun u hu => by exact HB.out _ hu.drop.drop.drop), ?_⟩); (simp only [Act.put, List.setIfInBounds_toArray, List.set_cons_zero, List.set_cons_succ]))
    (refine regP 8 hS (fun _ h => h) rfl (by kernel_rfl) (by kernel_rfl) (by kernel_rfl) (fun _ _ _ _ h => h) (by rfl) (by rfl) ?_; apply Exists.intro; apply And.intro; (intro w; go_simp; try with_reducible rfl); (simp only [Act.put, List.setIfInBounds_toArray, List.set_cons_zero, List.set_cons_succ]))
    (refine regA 9 rfl (by kernel_rfl) (by rfl) (by rfl) false (by kernel_rfl) (fun K hK => ?_); (first
              | (refine bsF hS _ _ _ (by rfl) (elOf (by rfl)) [.agg (wv (n, b)).toArray] (by rfl) (by rfl) (by decide) (by decide) (by simp [wv, Value.cells]) ?_; intro b1 w1 hS1; clear hS; have hS := hS1; clear hS1; rw [agg1] at hS)
              | (refine apTbS hS _ _ _ _ (by rfl) _ _ (by rfl) (by rfl) (elOf (by rfl)) (by rfl) (by decide) (inOf (by rfl)) (by first | exact Has.z | exact Has.s Has.z | exact Has.s (Has.s Has.z) | exact Has.s (Has.s (Has.s Has.z)) | exact Has.s (Has.s (Has.s (Has.s Has.z))) | exact Has.s (Has.s (Has.s (Has.s (Has.s Has.z))))) [(n, b)] (by simp [wv]) (by exact hS.src1 Has.z rfl) (wv_one _) (by simp; omega) (by simp; omega) ?_; intro ao4 c4 w1 _ hS1; clear hS; have hS := hS1; clear hS1; dsimp only [List.set_cons_zero, List.set_cons_succ] at hS)
              | (refine st hS _ _ _ (by rfl) _ _ (by rfl) _ (by first | exact evC | exact evT (by rfl)) (by rfl) (szOf (by rfl)) (by first | exact Has.z | exact Has.s Has.z | exact Has.s (Has.s Has.z) | exact Has.s (Has.s (Has.s Has.z)) | exact Has.s (Has.s (Has.s (Has.s Has.z))) | exact Has.s (Has.s (Has.s (Has.s (Has.s Has.z))))) (by exact Nat.le_of_ble_eq_true rfl) ?_; intro w1 hS1; clear hS; have hS := hS1; clear hS1; dsimp only [List.set] at hS)); refine hK _ _ _ hS (by first | (intro h; cases h; done) | exact fun _ _ h => h | exact fun _ _ h => h.drop | exact fun _ _ h => h.drop.drop | exact fun _ _ h => h.drop.pull1 | exact fun _ _ h => h.take2 | exact fun _ _ h => h.one Has.z | exact fun _ _ h => h.one (Has.s Has.z) | exact fun _ _ h => h.one (Has.s (Has.s Has.z))) ?_; clear hK K; (simp only [Act.put, List.setIfInBounds_toArray, List.set_cons_zero, List.set_cons_succ]))
    (refine regA 10 rfl (by kernel_rfl) (by rfl) (by rfl) true (by kernel_rfl) (fun K hK => ?_); (first
              | (refine bsF hS _ _ _ (by rfl) (elOf (by rfl)) [.agg (wv (n, b)).toArray] (by rfl) (by rfl) (by decide) (by decide) (by simp [wv, Value.cells]) ?_; intro b1 w1 hS1; clear hS; have hS := hS1; clear hS1; rw [agg1] at hS)
              | (refine apTbS hS _ _ _ _ (by rfl) _ _ (by rfl) (by rfl) (elOf (by rfl)) (by rfl) (by decide) (inOf (by rfl)) (by first | exact Has.z | exact Has.s Has.z | exact Has.s (Has.s Has.z) | exact Has.s (Has.s (Has.s Has.z)) | exact Has.s (Has.s (Has.s (Has.s Has.z))) | exact Has.s (Has.s (Has.s (Has.s (Has.s Has.z))))) [(n, b)] (by simp [wv]) (by exact hS.src1 Has.z rfl) (wv_one _) (by simp; omega) (by simp; omega) ?_; intro ao4 c4 w1 _ hS1; clear hS; have hS := hS1; clear hS1; dsimp only [List.set_cons_zero, List.set_cons_succ] at hS)
              | (refine st hS _ _ _ (by rfl) _ _ (by rfl) _ (by first | exact evC | exact evT (by rfl)) (by rfl) (szOf (by rfl)) (by first | exact Has.z | exact Has.s Has.z | exact Has.s (Has.s Has.z) | exact Has.s (Has.s (Has.s Has.z)) | exact Has.s (Has.s (Has.s (Has.s Has.z))) | exact Has.s (Has.s (Has.s (Has.s (Has.s Has.z))))) (by exact Nat.le_of_ble_eq_true rfl) ?_; intro w1 hS1; clear hS; have hS := hS1; clear hS1; dsimp only [List.set] at hS)); refine hK _ _ _ hS (by first | (intro h; cases h; done) | exact fun _ _ h => h | exact fun _ _ h => h.drop | exact fun _ _ h => h.drop.drop | exact fun _ _ h => h.drop.pull1 | exact fun _ _ h => h.take2 | exact fun _ _ h => h.one Has.z | exact fun _ _ h => h.one (Has.s Has.z) | exact fun _ _ h => h.one (Has.s (Has.s Has.z))) ?_; clear hK K; (simp only [Act.put, List.setIfInBounds_toArray, List.set_cons_zero, List.set_cons_succ]))
    (refine regP 11 hS (fun _ h => h) rfl (by kernel_rfl) (by kernel_rfl) (by kernel_rfl) (fun _ _ _ _ h => h) (by rfl) (by rfl) ?_; apply Exists.intro; apply And.intro; (intro w; go_simp; try with_reducible rfl); (simp only [Act.put, List.setIfInBounds_toArray, List.set_cons_zero, List.set_cons_succ]))
    (refine regP 12 hS (fun _ h => h) rfl (by kernel_rfl) (by kernel_rfl) (by kernel_rfl) (fun _ _ _ _ h => h) (by rfl) (by rfl) ?_; apply Exists.intro; apply And.intro; (intro w; go_simp; try with_reducible rfl); (simp only [Act.put, List.setIfInBounds_toArray, List.set_cons_zero, List.set_cons_succ]))
    (refine regA 13 rfl (by kernel_rfl) (by rfl) (by rfl) true (by kernel_rfl) (fun K hK => ?_); (first
              | (refine bsF hS _ _ _ (by rfl) (elOf (by rfl)) [.agg (wv (n, b)).toArray] (by rfl) (by rfl) (by decide) (by decide) (by simp [wv, Value.cells]) ?_; intro b1 w1 hS1; clear hS; have hS := hS1; clear hS1; rw [agg1] at hS)
              | (refine apTbS hS _ _ _ _ (by rfl) _ _ (by rfl) (by rfl) (elOf (by rfl)) (by rfl) (by decide) (inOf (by rfl)) (by first | exact Has.z | exact Has.s Has.z | exact Has.s (Has.s Has.z) | exact Has.s (Has.s (Has.s Has.z)) | exact Has.s (Has.s (Has.s (Has.s Has.z))) | exact Has.s (Has.s (Has.s (Has.s (Has.s Has.z))))) [(n, b)] (by simp [wv]) (by exact hS.src1 Has.z rfl) (wv_one _) (by simp; omega) (by simp; omega) ?_; intro ao4 c4 w1 _ hS1; clear hS; have hS := hS1; clear hS1; dsimp only [List.set_cons_zero, List.set_cons_succ] at hS)
              | (refine st hS _ _ _ (by rfl) _ _ (by rfl) _ (by first | exact evC | exact evT (by rfl)) (by rfl) (szOf (by rfl)) (by first | exact Has.z | exact Has.s Has.z | exact Has.s (Has.s Has.z) | exact Has.s (Has.s (Has.s Has.z)) | exact Has.s (Has.s (Has.s (Has.s Has.z))) | exact Has.s (Has.s (Has.s (Has.s (Has.s Has.z))))) (by exact Nat.le_of_ble_eq_true rfl) ?_; intro w1 hS1; clear hS; have hS := hS1; clear hS1; dsimp only [List.set] at hS)); refine hK _ _ _ hS (by first | (intro h; cases h; done) | exact fun _ _ h => h | exact fun _ _ h => h.drop | exact fun _ _ h => h.drop.drop | exact fun _ _ h => h.drop.pull1 | exact fun _ _ h => h.take2 | exact fun _ _ h => h.one Has.z | exact fun _ _ h => h.one (Has.s Has.z) | exact fun _ _ h => h.one (Has.s (Has.s Has.z))) ?_; clear hK K; (simp only [Act.put, List.setIfInBounds_toArray, List.set_cons_zero, List.set_cons_succ]))
    refine regDone (by kernel_rfl) ?_
    go_wp2
    go_ret
    refine ⟨rfl, ?_⟩
    rw [show D.wrote n b = { D with L := D.L.set n b, Log := D.Log ++ [(n, b)], left := if D.armed then D.left - 1 else D.left } from rfl]
    apply IsRef.mk
    dsimp only
    rw [hd, ha]
    exact hS.drop
end Go.Proofs.Ytefbkpggmmhgcaa
