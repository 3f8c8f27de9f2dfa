/-
  For all bytes, any place and any byte, AdlerOne answers true: no condition.
-/
import Derived.Test.YtdajmojaelpilaaAdler
namespace Go.Proofs.Ytdajmojaelpilaa
open Go.RowKit Go.Sep Go.ChangeShapes Go.WideShapes Go.ChangeAt

def sumB (l : List UInt8) : Nat := (l.map UInt8.toNat).sum
theorem adFold_one (p : Nat × Nat) (hp : p.1 < 65521) (l : List UInt8) : (adFold p l).1 = (p.1 + sumB l) % 65521 := by
  induction l generalizing p with
  | nil => simp [adFold, sumB, Nat.mod_eq_of_lt hp]
  | cons x l ih =>
    have := ih (adStep p x) (Nat.mod_lt _ (by omega))
    simp only [adFold, List.foldl_cons] at this ⊢
    rw [this]
    simp only [adStep, sumB, List.map_cons, List.sum_cons]
    omega
theorem adMore_low (l : List UInt8) : adMore 1 l % 65536 = (1 + sumB l) % 65521 := by
  have h := adFold_lt (adIn_lt 1) l
  have h1 := adFold_one (adIn 1) (adIn_lt 1).1 l
  rw [show (adIn 1).1 = 1 from rfl] at h1
  unfold adMore adOut
  rw [← h1]
  omega
theorem sumB_set (l : List UInt8) (k : Nat) (h : k < l.length) (y : UInt8) : sumB (l.set k y) + (l[k]).toNat = sumB l + y.toNat := by
  induction l generalizing k with
  | nil => simp at h
  | cons x l ih =>
    cases k with
    | zero => simp [sumB]; omega
    | succ k =>
      have := ih k (by simpa using h)
      simp [sumB] at this ⊢; omega
theorem one_law (l : List UInt8) (k : Nat) (h : k < l.length) (y : UInt8) : (adMore 1 (l.set k y) = adMore 1 l) ↔ y = l[k] := by
  constructor
  · intro e
    have e2 := congrArg (· % 65536) e
    simp only [adMore_low] at e2
    have hs := sumB_set l k h y
    have h1 := UInt8.toNat_lt y
    have h2 := UInt8.toNat_lt l[k]
    apply UInt8.toNat_inj.1
    omega
  · rintro rfl
    rw [List.set_getElem_self]
theorem xor_zero (x y : UInt8) : x ^^^ y = x ↔ y = 0 := by
  constructor
  · intro h
    have : x ^^^ (x ^^^ y) = x ^^^ x := by rw [h]
    rw [← UInt8.xor_assoc, UInt8.xor_self, UInt8.zero_xor] at this
    exact this
  · rintro rfl; simp

theorem One.walk (l : List UInt8) (v : Value) (t : Int) (y : UInt8) (W : World) (hr : Rd W v l.length 1 (bv l)) (hb : l.length ≤ 140737488355328) :
    Calls Try.prog 4 #[v, .int .i64 t, .int .u8 (y.toNat : Int)] W fun e w' => e = .returned (.bool true) ∧ Sat W w' [] := by
  have hS := Sat.start W
  obtain ⟨ao, cap, rfl, g1, g2, _⟩ := id hr
  rcases Nat.eq_zero_or_pos l.length with hl | hl
  · rw [hl] at hr ⊢
    go_enter Try.func4, Try.ntmps4
    go_wp2_with (go_at_call 14; refine (awake_any hS).mono ?_; rintro e w' ⟨rfl, hS1⟩; clear hS; have hS := hS1; clear hS1)
    go_ret
    exact ⟨rfl, hS⟩
  · obtain ⟨k, hk⟩ := Int.eq_ofNat_of_zero_le (Int.emod_nonneg t (b := (l.length : Int)) (by omega))
    have hkl : k < l.length := by have := Int.emod_lt_of_pos t (b := (l.length : Int)) (by omega); rw [hk] at this; omega
    have Hk := Lib.hid hk
    clear hk
    have hq : (((adMore 1 (l.set k (l[k] ^^^ y)) : Nat) : Int) == ((adMore 1 l : Nat) : Int)) = ((y.toNat : Int) == 0) := by
      rw [Bool.eq_iff_iff, beq_iff_eq, beq_iff_eq, Int.natCast_inj, one_law l k hkl, xor_zero, ← UInt8.toNat_inj]
      show y.toNat = 0 ↔ _
      omega
    have hy : y.toNat < 256 := UInt8.toNat_lt y
    have hne : ((l.length : Int) == 0) = false := beq_eq_false_iff_ne.2 (by omega)
    cases hb0 : ((y.toNat : Int) == 0)
    all_goals
      rw [hb0] at hq
      go_enter Try.func4, Try.ntmps4
      go_wp2_with (first
        | (go_at_call 9; refine (bytes_any hS l _ (hr.old hS) hb).mono ?_; rintro e w' ⟨v', rfl, hS1⟩; clear hS; have hS := hS1; clear hS1; obtain ⟨b1, off1, c1, rfl, hc1⟩ := hS.slAddr Has.z hl)
        | (go_at_call 15; refine (place_any _ _ (by omega) (by omega) _).mono ?_; rintro e w' ⟨rfl, rfl⟩; rw [Hk.out])
        | (refine toList (by rfl) ?_; refine ldSl hS _ _ (by rfl) _ _ (by rfl) (agOf (by rfl)) (by first | exact Has.z | exact Has.s Has.z | exact Has.s (Has.s Has.z) | exact Has.s (Has.s (Has.s Has.z)) | exact Has.s (Has.s (Has.s (Has.s Has.z))) | exact Has.s (Has.s (Has.s (Has.s (Has.s Has.z))))) k (by omega) (by exact bv_at hkl) ?_)
        | ((refine toList (by rfl) ?_; refine stSl hS _ _ _ (by rfl) _ _ (by rfl) _ (by first | exact evC | exact evT (by rfl)) (by rfl) (szOf (by rfl)) (by first | exact Has.z | exact Has.s Has.z | exact Has.s (Has.s Has.z) | exact Has.s (Has.s (Has.s Has.z)) | exact Has.s (Has.s (Has.s (Has.s Has.z))) | exact Has.s (Has.s (Has.s (Has.s (Has.s Has.z))))) k (by omega) (by rw [bv_length]; exact hkl) ?_; intro w1 hS1; clear hS; have hS := hS1; clear hS1; dsimp only [List.set] at hS); rw [show (bv l).set k (.int .u8 (bits .xor .u8 ((l[k]).toNat : Int) (y.toNat : Int))) = bv (l.set k (l[k] ^^^ y)) from by rw [u8_xor_nat _ _ (UInt8.toNat_lt _) (UInt8.toNat_lt _), ← UInt8.toNat_xor]; exact bv_set l k _] at hS)
        | (go_at_call 10; with_reducible refine (of_any (l.set k (l[k] ^^^ y)) _ _ (by have h := hS.slRd Has.z; simpa using h)).mono ?_; rintro e w' ⟨rfl, rfl⟩)
        | (go_at_call 10; with_reducible refine (of_any l _ _ (hr.old hS)).mono ?_; rintro e w' ⟨rfl, rfl⟩)
        | (go_at_call 14; refine (awake_any hS).mono ?_; rintro e w' ⟨rfl, hS1⟩; clear hS; have hS := hS1; clear hS1))
      go_ret
      exact ⟨rfl, hS.drop⟩

theorem One.contract (H : Type) (enc : TypeId × Value → H) (W : World) (base : Nat) (args : Array Value) (ds gs : List (DataW H)) (before : List MemPlace)
    (hval : ∀ (j : Nat) t v, Try.f4.params[j]? = some t → args[j]? = some v → Value.okWide Try.prog W .any base t v)
    (hW : DataW.Whole enc Try.prog Try.f4.params.toList Rows.adlerOneSpec.vars false W args.toList ds gs before)
    (hreach : (DataW.weightsEach Try.prog (Try.f4.params.toList ++ Rows.adlerOneSpec.plain.varTypes Try.prog) (ds ++ gs)).all (· ≤ reachBytes) = true) :
    Calls Try.prog 4 args W fun e W' => ∃ v, e = .returned v ∧ Rows.adlerOneSpec.post enc Try.prog Try.f4 false true false false W args v W' := by
  have hW' := hW
  obtain ⟨p, q, hA, hV, rfl, hfz, hnd⟩ := hW
  rw [Try.params4] at hA hval hreach
  obtain ⟨v0, vs0, d0, ds0, p0, q0, hargs, rfl, rfl, h0, r0⟩ := trodAll_cons hA
  obtain ⟨v1, vs1, d1, ds1, p1, q1, rfl, rfl, rfl, h1, r1⟩ := trodAll_cons r0
  obtain ⟨v2, vs2, d2, ds2, p2, q2, rfl, rfl, rfl, h2, r2⟩ := trodAll_cons r1
  obtain ⟨rfl, rfl, rfl⟩ := trodAll_nil r2
  obtain rfl : args = #[v0, v1, v2] := by cases args; simp_all
  obtain ⟨rfl, rfl⟩ := trodVars_none hV
  obtain ⟨ao, len, cap, rfl⟩ := okWide_slice Try.underlying23 (hval 0 23 v0 rfl rfl)
  obtain ⟨a1, rfl, rfl, rfl, w1⟩ := open_int Try.underlying3 (hval 1 3 v1 rfl rfl) h1
  obtain ⟨a2, rfl, rfl, rfl, w2⟩ := open_int Try.underlying5 (hval 2 5 v2 rfl rfl) h2
  obtain ⟨l, rfl, hr, _⟩ := open_bytes Try.underlying23 Try.underlying5 (by kernel_rfl) h0
  have hb : l.length ≤ 140737488351232 := by
    have := reach_slice (sz := 1) h0 Try.underlying23 (by kernel_rfl) (mem_weights hreach 0 rfl rfl)
    omega
  obtain ⟨y, rfl⟩ := u8_of w2
  refine (One.walk l _ a1 y W hr (by omega)).mono ?_
  refine fun e W' ⟨he, hS⟩ => ?_
  subst he
  exact ⟨_, rfl, law_post (tb := 4) (by kernel_rfl) (by kernel_rfl) rfl Try.underlying4 rfl hW' rfl hS⟩

theorem One.own : ownKnob Try.prog.godebug = none := by kernel_rfl
set_option maxRecDepth 100000 in
theorem One.lifted (os : Os) (started : os.Started) (H : Type) (enc : TypeId × Value → H) :
    ReturnsInHanded {} Try.checked os 4 .any (Rows.adlerOneSpec.pre6 enc Try.prog Try.f4 Rows.adlerOneRow.domain false) (Rows.adlerOneSpec.post enc Try.prog Try.f4 false true false false) := by
  refine returnsInHanded_of_change_shaped (C := Try.checked) One.own started (by kernel_rfl) Try.func4
    (ChangeSpec.witness6 (enc := enc) (C := Try.checked) false ⟨#[], #[.slice none 0 0, .int .i64 0, .int .u8 0], []⟩ 8 (by kernel_rfl) (by kernel_rfl) (by kernel_rfl) (by kernel_rfl)) ?_
  intro W base args ds gs before hval hW _ hreach _ _
  exact One.contract H enc W base args ds gs before hval hW hreach

theorem One.holds : Rows.AdlerOneSaid :=
  OpenClaim.holds_of_wide 4 Try.f4 rfl rfl rfl rfl rfl rfl rfl ⟨rfl, rfl, rfl, rfl, rfl⟩ rfl rfl rfl rfl rfl (by kernel_rfl) Try.func4 (by kernel_rfl)
    (of_decide_eq_true (by kernel_rfl)) (by unfold Func.isWrapper; first | (rw [if_pos (by decide +kernel)]; kernel_rfl) | (rw [if_neg (by decide +kernel)]; exact ⟨rfl, rfl⟩))
    (fun os started H enc _ => One.lifted os started H enc)
end Go.Proofs.Ytdajmojaelpilaa
