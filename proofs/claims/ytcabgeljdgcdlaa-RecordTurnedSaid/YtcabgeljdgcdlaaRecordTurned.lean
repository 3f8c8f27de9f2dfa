/-
  For all records, first blocks, places and bytes, RecordTurned answers true: no condition.
-/
import Derived.Test.YtcabgeljdgcdlaaRecLaw2
namespace Go.Proofs.Ytcabgeljdgcdlaa
open Go.RowKit Go.Sep Go.ChangeShapes Go.WideShapes Go.ChangeAt
set_option linter.unusedSimpArgs false
set_option linter.unusedVariables false
attribute [local irreducible] Go.Oper.wp Go.wpList Go.Calls Go.Code.wp Go.Sep.Reg
theorem bv_at {l : List UInt8} {k : Nat} (h : k < l.length) : (bv l)[k]? = some (.int .u8 ((l[k]).toNat : Int)) := by simp [bv, h, u8]
theorem _root_.Go.Sep.Sat.clear {W w : World} {L : List Asrt} (h : Sat W w L) : Sat W w [] := h.map fun _ _ => trivial
def flip (l : List UInt8) (k : Nat) (y : UInt8) : List UInt8 := l.set k ((l[k]?.getD 0) ^^^ y)
theorem flip_len (l : List UInt8) (k : Nat) (y : UInt8) : (flip l k y).length = l.length := by simp [flip]
theorem flip_ne {l : List UInt8} {k : Nat} {y : UInt8} (h : k < l.length) (hy : y ≠ 0) : flip l k y ≠ l := fun e => by
  have := congrArg (·[k]?) e
  simp only [flip, List.getElem?_set_self h, List.getElem?_eq_getElem h, Option.getD_some, Option.some.injEq] at this
  have h2 : l[k] ^^^ (l[k] ^^^ y) = l[k] ^^^ l[k] := by rw [this]
  rw [← UInt8.xor_assoc, UInt8.xor_self, UInt8.zero_xor] at h2
  exact hy h2
theorem flip_set {l : List UInt8} {k : Nat} (y : UInt8) (h : k < l.length) : (bv l).set k (.int .u8 (bits .xor .u8 ((l[k]).toNat : Int) (y.toNat : Int))) = bv (flip l k y) := by
  rw [u8_xor_nat _ _ (UInt8.toNat_lt _) (UInt8.toNat_lt _), ← UInt8.toNat_xor]
  have := bv_set l k (l[k] ^^^ y)
  unfold flip
  rw [List.getElem?_eq_getElem h]
  exact this
set_option maxRecDepth 20000 in
set_option maxHeartbeats 4000000 in
theorem Turned.early (l : List RecD) (ao : Option Addr) (c : Nat) (next at_ : Int) (s : SupD) (y : UInt8) (W : World) (hr : Rd W (.slice ao l.length c) l.length 3 (l.flatMap rv)) (h : 40 < l.length ∨ l.length ≤ 40 ∧ y = 0) :
    Calls Try.prog 11 #[.slice ao l.length c, .int .i64 next, .agg (sv s).toArray, .int .i64 at_, .int .u8 y.toNat] W fun e w' => e = .returned (.bool true) ∧ Sat W w' [] := by
  have hS := Sat.start W
  have hs : ∃ x, (sv s).toArray = x := ⟨_, rfl⟩
  rcases h with h | ⟨h, rfl⟩
  · have j1 : (40 : Int) < (l.length : Int) := by omega
    go_enter Try.func11, Try.ntmps11
    go_wp2_with (first
      | (refine toList (by rfl) ?_; refine bx hS _ _ (by rfl) _ (by first | exact evC | exact evT (by rfl)) ?_; intro ps w1 hS1; clear hS; have hS := hS1; clear hS1; rw [cells_agg] at hS)
      | (go_at_call 36; refine (awake_any hS).mono ?_; rintro e w1 ⟨rfl, hS1⟩; clear hS; have hS := hS1; clear hS1))
    go_ret
    exact ⟨rfl, hS.drop⟩
  · have j1 : (l.length : Int) ≤ 40 := by omega
    rw [show ((0 : UInt8).toNat : Int) = 0 from rfl]
    go_enter Try.func11, Try.ntmps11
    go_wp2_with (first
      | (refine toList (by rfl) ?_; refine bx hS _ _ (by rfl) _ (by first | exact evC | exact evT (by rfl)) ?_; intro ps w1 hS1; clear hS; have hS := hS1; clear hS1; rw [cells_agg] at hS)
      | (go_at_call 36; refine (awake_any hS).mono ?_; rintro e w1 ⟨rfl, hS1⟩; clear hS; have hS := hS1; clear hS1))
    go_ret
    exact ⟨rfl, hS.drop⟩
set_option maxRecDepth 20000 in
set_option maxHeartbeats 40000000 in
theorem Turned.walk (l : List RecD) (ao : Option Addr) (c : Nat) (next at_ : Int) (s : SupD) (y : UInt8) (W : World) (hr : Rd W (.slice ao l.length c) l.length 3 (l.flatMap rv)) (hlen : l.length ≤ 40) (hy : y ≠ 0)
    (ha1 : -9223372036854775808 ≤ at_) (ha2 : at_ ≤ 9223372036854775807) :
    Calls Try.prog 11 #[.slice ao l.length c, .int .i64 next, .agg (sv s).toArray, .int .i64 at_, .int .u8 y.toNat] W fun e w' => e = .returned (.bool true) ∧ Sat W w' [] := by
  have hS := Sat.start W
  have HR := Lib.hid hr
  have j1 : (l.length : Int) ≤ 40 := by omega
  have hyn : y.toNat ≠ 0 := fun e => hy (UInt8.toNat_inj.1 e)
  have e0 : ((y.toNat : Int) == 0) = false := beq_eq_false_iff_ne.2 (by omega)
  have hyl := y.toNat_lt
  have HB := Lib.hid (show l.length ≤ 1000000 by omega)
  obtain ⟨hp1, hp2⟩ := place_lt (v := at_) (n := 128) (by decide)
  obtain ⟨k, hk⟩ := Int.eq_ofNat_of_zero_le hp1
  have hk128 : k < 128 := by omega
  have HK := Lib.hid hk
  have k2 : (k : Int) < 128 := by omega
  -- the first half
  have hA : (∃ okp pb, Hid (okPut l next = okp) ∧ Hid (putB l next = pb) ∧ okp = false) ∨
      (∃ pb gl gx gk, ∃ hkp : k < pb.length, Hid (okPut l next = true) ∧ Hid (putB l next = pb) ∧ 128 ≤ pb.length ∧ pb.length ≤ 128 ∧ Hid (getL (flip pb k y) = gl) ∧ Hid (getX (flip pb k y) = gx) ∧ Hid (getOk (flip pb k y) = gk) ∧
        (gk = false ∧ gl = [] ∧ gx = 0 ∨ gk = true ∧ gl.length ≤ 1000000 ∧ (gx == next) = true ∧ Hid (decide (gl = l) = false) ∨ gk = true ∧ gl.length ≤ 1000000 ∧ (gx == next) = false)) := by
    cases hok : okPut l next
    · exact .inl ⟨_, _, Lib.hid rfl, Lib.hid rfl, rfl⟩
    · refine .inr ⟨encB l next, _, _, _, ?_, Lib.hid rfl, Lib.hid (putB_yes hok), ?_, ?_, Lib.hid rfl, Lib.hid rfl, Lib.hid rfl, ?_⟩
      · rw [encB_len next (okPut_15 hok)]; exact hk128
      · rw [encB_len next (okPut_15 hok)]; exact Nat.le_refl _
      · rw [encB_len next (okPut_15 hok)]; exact Nat.le_refl _
      · cases hg : getOk (flip (encB l next) k y)
        · exact .inl ⟨rfl, getL_no hg, getX_no hg⟩
        · have hne := getOk_other (flip_ne (k := k) (by rw [encB_len next (okPut_15 hok)]; exact hk128) hy) hg
          have hlen : (getL (flip (encB l next) k y)).length ≤ 1000000 := by
            rw [getL_yes hg]; have := parse_len (flip (encB l next) k y); omega
          by_cases hx : getX (flip (encB l next) k y) = next
          · exact .inr (.inl ⟨rfl, hlen, beq_iff_eq.2 hx, Lib.hid (decide_eq_false fun h => hne ⟨h, hx⟩)⟩)
          · exact .inr (.inr ⟨rfl, hlen, beq_eq_false_iff_ne.2 hx⟩)
  have hB : (Hid (okSup s = false)) ∨
      (∃ pc gs gz, ∃ hkq : k < pc.length, Hid (okSup s = true) ∧ Hid (supB s = pc) ∧ 128 ≤ pc.length ∧ pc.length ≤ 128 ∧ Hid (getS (flip pc k y) = gs) ∧ Hid (getSOk (flip pc k y) = gz) ∧
        (gz = false ∧ gs = zeroS ∨ gz = true ∧ Hid (decide (gs = s) = false))) := by
    cases hok : okSup s
    · exact .inl (Lib.hid rfl)
    · refine .inr ⟨encS s, _, _, ?_, Lib.hid rfl, Lib.hid (supB_yes hok), ?_, ?_, Lib.hid rfl, Lib.hid rfl, ?_⟩
      · rw [encS_len]; exact hk128
      · rw [encS_len]; exact Nat.le_refl _
      · rw [encS_len]; exact Nat.le_refl _
      · cases hg : getSOk (flip (encS s) k y)
        · exact .inl ⟨rfl, getS_no hg⟩
        · exact .inr ⟨rfl, Lib.hid (decide_eq_false (getSOk_other (flip_ne (by rw [encS_len]; exact hk128) hy) hg))⟩
  clear hyn hy hp1 hp2 hk hr hlen
  rcases hA with ⟨okp, pb, HOK, HPB, rfl⟩ | ⟨pb, gl, gx, gk, hkp, HOK, HPB, hl1, hl2, HGL, HGX, HGK, hcase⟩
  · skip
    rcases hB with HOS | ⟨pc, gs, gz, hkq, HOS, HPC, hl3, hl4, HGS, HGZ, hcase2⟩
    · go_enter Try.func11, Try.ntmps11
      go_wp2_with (first
        | (refine toList (by rfl) ?_; refine bx hS _ _ (by rfl) _ (by first | exact evC | exact evT (by rfl)) ?_; intro ps w1 hS1; clear hS; have hS := hS1; clear hS1; rw [cells_agg] at hS)
        | (go_at_call 32; refine (place_any _ at_ 128 (by decide) (by decide) ha1 ha2).mono ?_; rintro e w1 ⟨rfl, rfl⟩; rw [HK.out])
        | (go_at_call 40; refine (records_any hS l _ (HR.out.old hS) HB.out).mono ?_; rintro e w1 ⟨v1, rfl, hS1⟩; clear hS; have hS := hS1; clear hS1; obtain ⟨ao1, c1, rfl, _⟩ := hS.tbShape (k := 0) rfl)
        | (go_at_call 36; refine (awake_any hS).mono ?_; rintro e w1 ⟨rfl, hS1⟩; clear hS; have hS := hS1; clear hS1)
        | (refine toList (by rfl) ?_; refine wp_of_reads (rLdA hS _ _ (by rfl) _ _ (by rfl) (agOf (by rfl)) (szOf (by rfl)) (by first | exact Has.z | exact Has.s Has.z | exact Has.s (Has.s Has.z) | exact Has.s (Has.s (Has.s Has.z)) | exact Has.s (Has.s (Has.s (Has.s Has.z))) | exact Has.s (Has.s (Has.s (Has.s (Has.s Has.z))))) (vs := sv s) (by rfl) (by rfl)) ?_)
        | (go_at_call 39; refine (rput_any hS l _ _ (fun w h => h.tbRd Has.z) HB.out next).mono ?_; rintro e w1 ⟨v2, rfl, hS1⟩; rw [HOK.out]; rw [HPB.out] at hS1; clear hS; have hS := hS1; clear hS1)
        | (go_at_call 50; refine (sput_s hS s).mono ?_; rintro e w1 ⟨v5, rfl, hS1⟩; rw [HOS.out]; clear hS; have hS := hS1; clear hS1))
      go_ret
      exact ⟨rfl, hS.clear⟩
    · have q3 : 128 ≤ (pc.length : Int) := by omega
      have q4 : (pc.length : Int) ≤ 128 := by omega
      clear hl3 hl4
      have HFS2 := Lib.hid (flip_set y hkq)
      rcases hcase2 with ⟨rfl, hgz⟩ | ⟨rfl, HNS⟩
      · have HZS := Lib.hid hgz
        clear hgz
        go_enter Try.func11, Try.ntmps11
        go_wp2_with (first
          | (refine toList (by rfl) ?_; refine bx hS _ _ (by rfl) _ (by first | exact evC | exact evT (by rfl)) ?_; intro ps w1 hS1; clear hS; have hS := hS1; clear hS1; rw [cells_agg] at hS)
          | (go_at_call 32; refine (place_any _ at_ 128 (by decide) (by decide) ha1 ha2).mono ?_; rintro e w1 ⟨rfl, rfl⟩; rw [HK.out])
          | (go_at_call 40; refine (records_any hS l _ (HR.out.old hS) HB.out).mono ?_; rintro e w1 ⟨v1, rfl, hS1⟩; clear hS; have hS := hS1; clear hS1; obtain ⟨ao1, c1, rfl, _⟩ := hS.tbShape (k := 0) rfl)
          | (go_at_call 36; refine (awake_any hS).mono ?_; rintro e w1 ⟨rfl, hS1⟩; clear hS; have hS := hS1; clear hS1)
          | (refine toList (by rfl) ?_; refine wp_of_reads (rLdA hS _ _ (by rfl) _ _ (by rfl) (agOf (by rfl)) (szOf (by rfl)) (by first | exact Has.z | exact Has.s Has.z | exact Has.s (Has.s Has.z) | exact Has.s (Has.s (Has.s Has.z)) | exact Has.s (Has.s (Has.s (Has.s Has.z))) | exact Has.s (Has.s (Has.s (Has.s (Has.s Has.z))))) (vs := sv s) (by rfl) (by rfl)) ?_)
          | (go_at_call 39; refine (rput_any hS l _ _ (fun w h => h.tbRd Has.z) HB.out next).mono ?_; rintro e w1 ⟨v2, rfl, hS1⟩; rw [HOK.out]; rw [HPB.out] at hS1; clear hS; have hS := hS1; clear hS1)
          | (go_at_call 50; refine (sput_s hS s).mono ?_; rintro e w1 ⟨v5, rfl, hS1⟩; rw [HOS.out]; rw [HPC.out] at hS1; clear hS; have hS := hS1; clear hS1; obtain ⟨b5, o5, c5, rfl, _⟩ := hS.slAddr (k := 0) rfl (by omega))
          | (refine toList (by rfl) ?_; refine ldSl hS _ _ (by rfl) _ _ (by rfl) (agOf (by rfl)) (by first | exact Has.z | exact Has.s Has.z | exact Has.s (Has.s Has.z) | exact Has.s (Has.s (Has.s Has.z)) | exact Has.s (Has.s (Has.s (Has.s Has.z))) | exact Has.s (Has.s (Has.s (Has.s (Has.s Has.z))))) k (by omega) (by exact bv_at hkq) ?_)
          | ((refine toList (by rfl) ?_; refine stSl hS _ _ _ (by rfl) _ _ (by rfl) _ (by first | exact evC | exact evT (by rfl)) (by rfl) (szOf (by rfl)) (by first | exact Has.z | exact Has.s Has.z | exact Has.s (Has.s Has.z) | exact Has.s (Has.s (Has.s Has.z)) | exact Has.s (Has.s (Has.s (Has.s Has.z))) | exact Has.s (Has.s (Has.s (Has.s (Has.s Has.z))))) k (by omega) (by rw [bv_length]; exact hkq) ?_; intro w1 hS1; clear hS; have hS := hS1; clear hS1; dsimp only [List.set] at hS); rw [HFS2.out] at hS)
          | (go_at_call 48; refine (sget_n hS (flip pc k y) _ (flip_len _ _ _) _ _ (fun w h => h.slRd Has.z) (by rw [flip_len]; omega)).mono ?_; rintro e w1 ⟨rfl, hS1⟩; rw [HGS.out, HGZ.out]; clear hS; have hS := hS1; clear hS1)
          | (refine toList (by rfl) ?_; refine al hS _ (by rfl) (zrOf (by rfl)) ?_; intro px w1 hS1; clear hS; have hS := hS1; clear hS1; rw [cells_agg] at hS)
          | (refine toList (by rfl) ?_; refine stW hS _ _ _ (by rfl) (by rfl) (sv gs) (by rfl) (sv_all _) (szOf (by rfl)) Has.z (by rfl) ?_; intro w1 hS1; clear hS; have hS := hS1; clear hS1; dsimp only [List.set_cons_zero, List.set_cons_succ] at hS)
          | (refine toList (by rfl) ?_; refine wp_of_reads (rLdA hS _ _ (by rfl) _ _ (by rfl) (agOf (by rfl)) (szOf (by rfl)) (by first | exact Has.z | exact Has.s Has.z | exact Has.s (Has.s Has.z) | exact Has.s (Has.s (Has.s Has.z)) | exact Has.s (Has.s (Has.s (Has.s Has.z))) | exact Has.s (Has.s (Has.s (Has.s (Has.s Has.z))))) (vs := sv gs) (by rfl) (by rfl)) ?_)
          | (refine toList (by rfl) ?_; refine wp_of_reads (rEqS (c := false) (by rfl) (by rfl) (by rfl) (by kernel_rfl) (fun w => (eq_sup w gs s).trans (by rw [HNS.out]))) ?_)
          | (refine toList (by rfl) ?_; refine wp_of_reads (rNeqS (c := true) (by rfl) (by rfl) (by rfl) (by kernel_rfl) (fun w => (eq_sup w gs zeroS).trans (by rw [HZS.out]; rfl))) ?_))
        go_ret
        exact ⟨rfl, hS.clear⟩
      · skip
        go_enter Try.func11, Try.ntmps11
        go_wp2_with (first
          | (refine toList (by rfl) ?_; refine bx hS _ _ (by rfl) _ (by first | exact evC | exact evT (by rfl)) ?_; intro ps w1 hS1; clear hS; have hS := hS1; clear hS1; rw [cells_agg] at hS)
          | (go_at_call 32; refine (place_any _ at_ 128 (by decide) (by decide) ha1 ha2).mono ?_; rintro e w1 ⟨rfl, rfl⟩; rw [HK.out])
          | (go_at_call 40; refine (records_any hS l _ (HR.out.old hS) HB.out).mono ?_; rintro e w1 ⟨v1, rfl, hS1⟩; clear hS; have hS := hS1; clear hS1; obtain ⟨ao1, c1, rfl, _⟩ := hS.tbShape (k := 0) rfl)
          | (go_at_call 36; refine (awake_any hS).mono ?_; rintro e w1 ⟨rfl, hS1⟩; clear hS; have hS := hS1; clear hS1)
          | (refine toList (by rfl) ?_; refine wp_of_reads (rLdA hS _ _ (by rfl) _ _ (by rfl) (agOf (by rfl)) (szOf (by rfl)) (by first | exact Has.z | exact Has.s Has.z | exact Has.s (Has.s Has.z) | exact Has.s (Has.s (Has.s Has.z)) | exact Has.s (Has.s (Has.s (Has.s Has.z))) | exact Has.s (Has.s (Has.s (Has.s (Has.s Has.z))))) (vs := sv s) (by rfl) (by rfl)) ?_)
          | (go_at_call 39; refine (rput_any hS l _ _ (fun w h => h.tbRd Has.z) HB.out next).mono ?_; rintro e w1 ⟨v2, rfl, hS1⟩; rw [HOK.out]; rw [HPB.out] at hS1; clear hS; have hS := hS1; clear hS1)
          | (go_at_call 50; refine (sput_s hS s).mono ?_; rintro e w1 ⟨v5, rfl, hS1⟩; rw [HOS.out]; rw [HPC.out] at hS1; clear hS; have hS := hS1; clear hS1; obtain ⟨b5, o5, c5, rfl, _⟩ := hS.slAddr (k := 0) rfl (by omega))
          | (refine toList (by rfl) ?_; refine ldSl hS _ _ (by rfl) _ _ (by rfl) (agOf (by rfl)) (by first | exact Has.z | exact Has.s Has.z | exact Has.s (Has.s Has.z) | exact Has.s (Has.s (Has.s Has.z)) | exact Has.s (Has.s (Has.s (Has.s Has.z))) | exact Has.s (Has.s (Has.s (Has.s (Has.s Has.z))))) k (by omega) (by exact bv_at hkq) ?_)
          | ((refine toList (by rfl) ?_; refine stSl hS _ _ _ (by rfl) _ _ (by rfl) _ (by first | exact evC | exact evT (by rfl)) (by rfl) (szOf (by rfl)) (by first | exact Has.z | exact Has.s Has.z | exact Has.s (Has.s Has.z) | exact Has.s (Has.s (Has.s Has.z)) | exact Has.s (Has.s (Has.s (Has.s Has.z))) | exact Has.s (Has.s (Has.s (Has.s (Has.s Has.z))))) k (by omega) (by rw [bv_length]; exact hkq) ?_; intro w1 hS1; clear hS; have hS := hS1; clear hS1; dsimp only [List.set] at hS); rw [HFS2.out] at hS)
          | (go_at_call 48; refine (sget_n hS (flip pc k y) _ (flip_len _ _ _) _ _ (fun w h => h.slRd Has.z) (by rw [flip_len]; omega)).mono ?_; rintro e w1 ⟨rfl, hS1⟩; rw [HGS.out, HGZ.out]; clear hS; have hS := hS1; clear hS1)
          | (refine toList (by rfl) ?_; refine al hS _ (by rfl) (zrOf (by rfl)) ?_; intro px w1 hS1; clear hS; have hS := hS1; clear hS1; rw [cells_agg] at hS)
          | (refine toList (by rfl) ?_; refine stW hS _ _ _ (by rfl) (by rfl) (sv gs) (by rfl) (sv_all _) (szOf (by rfl)) Has.z (by rfl) ?_; intro w1 hS1; clear hS; have hS := hS1; clear hS1; dsimp only [List.set_cons_zero, List.set_cons_succ] at hS)
          | (refine toList (by rfl) ?_; refine wp_of_reads (rLdA hS _ _ (by rfl) _ _ (by rfl) (agOf (by rfl)) (szOf (by rfl)) (by first | exact Has.z | exact Has.s Has.z | exact Has.s (Has.s Has.z) | exact Has.s (Has.s (Has.s Has.z)) | exact Has.s (Has.s (Has.s (Has.s Has.z))) | exact Has.s (Has.s (Has.s (Has.s (Has.s Has.z))))) (vs := sv gs) (by rfl) (by rfl)) ?_)
          | (refine toList (by rfl) ?_; refine wp_of_reads (rEqS (c := false) (by rfl) (by rfl) (by rfl) (by kernel_rfl) (fun w => (eq_sup w gs s).trans (by rw [HNS.out]))) ?_)
          | (refine toList (by rfl) ?_; refine wp_of_reads (rNeqS (c := true) (by rfl) (by rfl) (by rfl) (by kernel_rfl) (fun w => (eq_sup w gs zeroS).trans (by rw [HZS.out]; rfl))) ?_))
        go_ret
        exact ⟨rfl, hS.clear⟩
  · have q1 : 128 ≤ (pb.length : Int) := by omega
    have q2 : (pb.length : Int) ≤ 128 := by omega
    clear hl1 hl2
    have HFS := Lib.hid (flip_set y hkp)
    rcases hcase with ⟨rfl, rfl, rfl⟩ | ⟨rfl, hgl, e1, HNE⟩ | ⟨rfl, hgl, e1⟩
    all_goals
      rcases hB with HOS | ⟨pc, gs, gz, hkq, HOS, HPC, hl3, hl4, HGS, HGZ, hcase2⟩
      · go_enter Try.func11, Try.ntmps11
        go_wp2_with (first
          | (refine toList (by rfl) ?_; refine bx hS _ _ (by rfl) _ (by first | exact evC | exact evT (by rfl)) ?_; intro ps w1 hS1; clear hS; have hS := hS1; clear hS1; rw [cells_agg] at hS)
          | (go_at_call 32; refine (place_any _ at_ 128 (by decide) (by decide) ha1 ha2).mono ?_; rintro e w1 ⟨rfl, rfl⟩; rw [HK.out])
          | (go_at_call 40; refine (records_any hS l _ (HR.out.old hS) HB.out).mono ?_; rintro e w1 ⟨v1, rfl, hS1⟩; clear hS; have hS := hS1; clear hS1; obtain ⟨ao1, c1, rfl, _⟩ := hS.tbShape (k := 0) rfl)
          | (go_at_call 36; refine (awake_any hS).mono ?_; rintro e w1 ⟨rfl, hS1⟩; clear hS; have hS := hS1; clear hS1)
          | (refine toList (by rfl) ?_; refine wp_of_reads (rLdA hS _ _ (by rfl) _ _ (by rfl) (agOf (by rfl)) (szOf (by rfl)) (by first | exact Has.z | exact Has.s Has.z | exact Has.s (Has.s Has.z) | exact Has.s (Has.s (Has.s Has.z)) | exact Has.s (Has.s (Has.s (Has.s Has.z))) | exact Has.s (Has.s (Has.s (Has.s (Has.s Has.z))))) (vs := sv s) (by rfl) (by rfl)) ?_)
          | (go_at_call 39; refine (rput_any hS l _ _ (fun w h => h.tbRd Has.z) HB.out next).mono ?_; rintro e w1 ⟨v2, rfl, hS1⟩; rw [HOK.out]; rw [HPB.out] at hS1; clear hS; have hS := hS1; clear hS1; obtain ⟨b2, o2, c2, rfl, _⟩ := hS.slAddr (k := 0) rfl (by omega))
          | (refine toList (by rfl) ?_; refine ldSl hS _ _ (by rfl) _ _ (by rfl) (agOf (by rfl)) (by first | exact Has.z | exact Has.s Has.z | exact Has.s (Has.s Has.z) | exact Has.s (Has.s (Has.s Has.z)) | exact Has.s (Has.s (Has.s (Has.s Has.z))) | exact Has.s (Has.s (Has.s (Has.s (Has.s Has.z))))) k (by omega) (by exact bv_at hkp) ?_)
          | ((refine toList (by rfl) ?_; refine stSl hS _ _ _ (by rfl) _ _ (by rfl) _ (by first | exact evC | exact evT (by rfl)) (by rfl) (szOf (by rfl)) (by first | exact Has.z | exact Has.s Has.z | exact Has.s (Has.s Has.z) | exact Has.s (Has.s (Has.s Has.z)) | exact Has.s (Has.s (Has.s (Has.s Has.z))) | exact Has.s (Has.s (Has.s (Has.s (Has.s Has.z))))) k (by omega) (by rw [bv_length]; exact hkp) ?_; intro w1 hS1; clear hS; have hS := hS1; clear hS1; dsimp only [List.set] at hS); rw [HFS.out] at hS)
          | (go_at_call 44; refine (rget_n hS (flip pb k y) _ (flip_len _ _ _) _ _ (fun w h => h.slRd Has.z) (by rw [flip_len]; omega)).mono ?_; rintro e w1 ⟨v4, rfl, hS1⟩; rw [HGL.out] at hS1; rw [HGX.out, HGK.out]; clear hS; have hS := hS1; clear hS1; obtain ⟨ao4, c4, rfl, _⟩ := hS.tbShape (k := 0) rfl)
          | (go_at_call 45; refine (same_recs hS gl l _ _ _ _ (fun w h => h.tbRd Has.z) (fun w h => HR.out.old h) hgl).mono ?_; rintro e w1 ⟨rfl, hS1⟩; rw [HNE.out]; clear hS; have hS := hS1; clear hS1)
          | (go_at_call 50; refine (sput_s hS s).mono ?_; rintro e w1 ⟨v5, rfl, hS1⟩; rw [HOS.out]; clear hS; have hS := hS1; clear hS1))
        go_ret
        exact ⟨rfl, hS.clear⟩
      · have q3 : 128 ≤ (pc.length : Int) := by omega
        have q4 : (pc.length : Int) ≤ 128 := by omega
        clear hl3 hl4
        have HFS2 := Lib.hid (flip_set y hkq)
        rcases hcase2 with ⟨rfl, hgz⟩ | ⟨rfl, HNS⟩
        · have HZS := Lib.hid hgz
          clear hgz
          go_enter Try.func11, Try.ntmps11
          go_wp2_with (first
            | (refine toList (by rfl) ?_; refine bx hS _ _ (by rfl) _ (by first | exact evC | exact evT (by rfl)) ?_; intro ps w1 hS1; clear hS; have hS := hS1; clear hS1; rw [cells_agg] at hS)
            | (go_at_call 32; refine (place_any _ at_ 128 (by decide) (by decide) ha1 ha2).mono ?_; rintro e w1 ⟨rfl, rfl⟩; rw [HK.out])
            | (go_at_call 40; refine (records_any hS l _ (HR.out.old hS) HB.out).mono ?_; rintro e w1 ⟨v1, rfl, hS1⟩; clear hS; have hS := hS1; clear hS1; obtain ⟨ao1, c1, rfl, _⟩ := hS.tbShape (k := 0) rfl)
            | (go_at_call 36; refine (awake_any hS).mono ?_; rintro e w1 ⟨rfl, hS1⟩; clear hS; have hS := hS1; clear hS1)
            | (refine toList (by rfl) ?_; refine wp_of_reads (rLdA hS _ _ (by rfl) _ _ (by rfl) (agOf (by rfl)) (szOf (by rfl)) (by first | exact Has.z | exact Has.s Has.z | exact Has.s (Has.s Has.z) | exact Has.s (Has.s (Has.s Has.z)) | exact Has.s (Has.s (Has.s (Has.s Has.z))) | exact Has.s (Has.s (Has.s (Has.s (Has.s Has.z))))) (vs := sv s) (by rfl) (by rfl)) ?_)
            | (go_at_call 39; refine (rput_any hS l _ _ (fun w h => h.tbRd Has.z) HB.out next).mono ?_; rintro e w1 ⟨v2, rfl, hS1⟩; rw [HOK.out]; rw [HPB.out] at hS1; clear hS; have hS := hS1; clear hS1; obtain ⟨b2, o2, c2, rfl, _⟩ := hS.slAddr (k := 0) rfl (by omega))
            | (refine toList (by rfl) ?_; refine ldSl hS _ _ (by rfl) _ _ (by rfl) (agOf (by rfl)) (by first | exact Has.z | exact Has.s Has.z | exact Has.s (Has.s Has.z) | exact Has.s (Has.s (Has.s Has.z)) | exact Has.s (Has.s (Has.s (Has.s Has.z))) | exact Has.s (Has.s (Has.s (Has.s (Has.s Has.z))))) k (by omega) (by exact bv_at hkp) ?_)
            | ((refine toList (by rfl) ?_; refine stSl hS _ _ _ (by rfl) _ _ (by rfl) _ (by first | exact evC | exact evT (by rfl)) (by rfl) (szOf (by rfl)) (by first | exact Has.z | exact Has.s Has.z | exact Has.s (Has.s Has.z) | exact Has.s (Has.s (Has.s Has.z)) | exact Has.s (Has.s (Has.s (Has.s Has.z))) | exact Has.s (Has.s (Has.s (Has.s (Has.s Has.z))))) k (by omega) (by rw [bv_length]; exact hkp) ?_; intro w1 hS1; clear hS; have hS := hS1; clear hS1; dsimp only [List.set] at hS); rw [HFS.out] at hS)
            | (go_at_call 44; refine (rget_n hS (flip pb k y) _ (flip_len _ _ _) _ _ (fun w h => h.slRd Has.z) (by rw [flip_len]; omega)).mono ?_; rintro e w1 ⟨v4, rfl, hS1⟩; rw [HGL.out] at hS1; rw [HGX.out, HGK.out]; clear hS; have hS := hS1; clear hS1; obtain ⟨ao4, c4, rfl, _⟩ := hS.tbShape (k := 0) rfl)
            | (go_at_call 45; refine (same_recs hS gl l _ _ _ _ (fun w h => h.tbRd Has.z) (fun w h => HR.out.old h) hgl).mono ?_; rintro e w1 ⟨rfl, hS1⟩; rw [HNE.out]; clear hS; have hS := hS1; clear hS1)
            | (go_at_call 50; refine (sput_s hS s).mono ?_; rintro e w1 ⟨v5, rfl, hS1⟩; rw [HOS.out]; rw [HPC.out] at hS1; clear hS; have hS := hS1; clear hS1; obtain ⟨b5, o5, c5, rfl, _⟩ := hS.slAddr (k := 0) rfl (by omega))
            | (refine toList (by rfl) ?_; refine ldSl hS _ _ (by rfl) _ _ (by rfl) (agOf (by rfl)) (by first | exact Has.z | exact Has.s Has.z | exact Has.s (Has.s Has.z) | exact Has.s (Has.s (Has.s Has.z)) | exact Has.s (Has.s (Has.s (Has.s Has.z))) | exact Has.s (Has.s (Has.s (Has.s (Has.s Has.z))))) k (by omega) (by exact bv_at hkq) ?_)
            | ((refine toList (by rfl) ?_; refine stSl hS _ _ _ (by rfl) _ _ (by rfl) _ (by first | exact evC | exact evT (by rfl)) (by rfl) (szOf (by rfl)) (by first | exact Has.z | exact Has.s Has.z | exact Has.s (Has.s Has.z) | exact Has.s (Has.s (Has.s Has.z)) | exact Has.s (Has.s (Has.s (Has.s Has.z))) | exact Has.s (Has.s (Has.s (Has.s (Has.s Has.z))))) k (by omega) (by rw [bv_length]; exact hkq) ?_; intro w1 hS1; clear hS; have hS := hS1; clear hS1; dsimp only [List.set] at hS); rw [HFS2.out] at hS)
            | (go_at_call 48; refine (sget_n hS (flip pc k y) _ (flip_len _ _ _) _ _ (fun w h => h.slRd Has.z) (by rw [flip_len]; omega)).mono ?_; rintro e w1 ⟨rfl, hS1⟩; rw [HGS.out, HGZ.out]; clear hS; have hS := hS1; clear hS1)
            | (refine toList (by rfl) ?_; refine al hS _ (by rfl) (zrOf (by rfl)) ?_; intro px w1 hS1; clear hS; have hS := hS1; clear hS1; rw [cells_agg] at hS)
            | (refine toList (by rfl) ?_; refine stW hS _ _ _ (by rfl) (by rfl) (sv gs) (by rfl) (sv_all _) (szOf (by rfl)) Has.z (by rfl) ?_; intro w1 hS1; clear hS; have hS := hS1; clear hS1; dsimp only [List.set_cons_zero, List.set_cons_succ] at hS)
            | (refine toList (by rfl) ?_; refine wp_of_reads (rLdA hS _ _ (by rfl) _ _ (by rfl) (agOf (by rfl)) (szOf (by rfl)) (by first | exact Has.z | exact Has.s Has.z | exact Has.s (Has.s Has.z) | exact Has.s (Has.s (Has.s Has.z)) | exact Has.s (Has.s (Has.s (Has.s Has.z))) | exact Has.s (Has.s (Has.s (Has.s (Has.s Has.z))))) (vs := sv gs) (by rfl) (by rfl)) ?_)
            | (refine toList (by rfl) ?_; refine wp_of_reads (rEqS (c := false) (by rfl) (by rfl) (by rfl) (by kernel_rfl) (fun w => (eq_sup w gs s).trans (by rw [HNS.out]))) ?_)
            | (refine toList (by rfl) ?_; refine wp_of_reads (rNeqS (c := true) (by rfl) (by rfl) (by rfl) (by kernel_rfl) (fun w => (eq_sup w gs zeroS).trans (by rw [HZS.out]; rfl))) ?_))
          go_ret
          exact ⟨rfl, hS.clear⟩
        · skip
          go_enter Try.func11, Try.ntmps11
          go_wp2_with (first
            | (refine toList (by rfl) ?_; refine bx hS _ _ (by rfl) _ (by first | exact evC | exact evT (by rfl)) ?_; intro ps w1 hS1; clear hS; have hS := hS1; clear hS1; rw [cells_agg] at hS)
            | (go_at_call 32; refine (place_any _ at_ 128 (by decide) (by decide) ha1 ha2).mono ?_; rintro e w1 ⟨rfl, rfl⟩; rw [HK.out])
            | (go_at_call 40; refine (records_any hS l _ (HR.out.old hS) HB.out).mono ?_; rintro e w1 ⟨v1, rfl, hS1⟩; clear hS; have hS := hS1; clear hS1; obtain ⟨ao1, c1, rfl, _⟩ := hS.tbShape (k := 0) rfl)
            | (go_at_call 36; refine (awake_any hS).mono ?_; rintro e w1 ⟨rfl, hS1⟩; clear hS; have hS := hS1; clear hS1)
            | (refine toList (by rfl) ?_; refine wp_of_reads (rLdA hS _ _ (by rfl) _ _ (by rfl) (agOf (by rfl)) (szOf (by rfl)) (by first | exact Has.z | exact Has.s Has.z | exact Has.s (Has.s Has.z) | exact Has.s (Has.s (Has.s Has.z)) | exact Has.s (Has.s (Has.s (Has.s Has.z))) | exact Has.s (Has.s (Has.s (Has.s (Has.s Has.z))))) (vs := sv s) (by rfl) (by rfl)) ?_)
            | (go_at_call 39; refine (rput_any hS l _ _ (fun w h => h.tbRd Has.z) HB.out next).mono ?_; rintro e w1 ⟨v2, rfl, hS1⟩; rw [HOK.out]; rw [HPB.out] at hS1; clear hS; have hS := hS1; clear hS1; obtain ⟨b2, o2, c2, rfl, _⟩ := hS.slAddr (k := 0) rfl (by omega))
            | (refine toList (by rfl) ?_; refine ldSl hS _ _ (by rfl) _ _ (by rfl) (agOf (by rfl)) (by first | exact Has.z | exact Has.s Has.z | exact Has.s (Has.s Has.z) | exact Has.s (Has.s (Has.s Has.z)) | exact Has.s (Has.s (Has.s (Has.s Has.z))) | exact Has.s (Has.s (Has.s (Has.s (Has.s Has.z))))) k (by omega) (by exact bv_at hkp) ?_)
            | ((refine toList (by rfl) ?_; refine stSl hS _ _ _ (by rfl) _ _ (by rfl) _ (by first | exact evC | exact evT (by rfl)) (by rfl) (szOf (by rfl)) (by first | exact Has.z | exact Has.s Has.z | exact Has.s (Has.s Has.z) | exact Has.s (Has.s (Has.s Has.z)) | exact Has.s (Has.s (Has.s (Has.s Has.z))) | exact Has.s (Has.s (Has.s (Has.s (Has.s Has.z))))) k (by omega) (by rw [bv_length]; exact hkp) ?_; intro w1 hS1; clear hS; have hS := hS1; clear hS1; dsimp only [List.set] at hS); rw [HFS.out] at hS)
            | (go_at_call 44; refine (rget_n hS (flip pb k y) _ (flip_len _ _ _) _ _ (fun w h => h.slRd Has.z) (by rw [flip_len]; omega)).mono ?_; rintro e w1 ⟨v4, rfl, hS1⟩; rw [HGL.out] at hS1; rw [HGX.out, HGK.out]; clear hS; have hS := hS1; clear hS1; obtain ⟨ao4, c4, rfl, _⟩ := hS.tbShape (k := 0) rfl)
            | (go_at_call 45; refine (same_recs hS gl l _ _ _ _ (fun w h => h.tbRd Has.z) (fun w h => HR.out.old h) hgl).mono ?_; rintro e w1 ⟨rfl, hS1⟩; rw [HNE.out]; clear hS; have hS := hS1; clear hS1)
            | (go_at_call 50; refine (sput_s hS s).mono ?_; rintro e w1 ⟨v5, rfl, hS1⟩; rw [HOS.out]; rw [HPC.out] at hS1; clear hS; have hS := hS1; clear hS1; obtain ⟨b5, o5, c5, rfl, _⟩ := hS.slAddr (k := 0) rfl (by omega))
            | (refine toList (by rfl) ?_; refine ldSl hS _ _ (by rfl) _ _ (by rfl) (agOf (by rfl)) (by first | exact Has.z | exact Has.s Has.z | exact Has.s (Has.s Has.z) | exact Has.s (Has.s (Has.s Has.z)) | exact Has.s (Has.s (Has.s (Has.s Has.z))) | exact Has.s (Has.s (Has.s (Has.s (Has.s Has.z))))) k (by omega) (by exact bv_at hkq) ?_)
            | ((refine toList (by rfl) ?_; refine stSl hS _ _ _ (by rfl) _ _ (by rfl) _ (by first | exact evC | exact evT (by rfl)) (by rfl) (szOf (by rfl)) (by first | exact Has.z | exact Has.s Has.z | exact Has.s (Has.s Has.z) | exact Has.s (Has.s (Has.s Has.z)) | exact Has.s (Has.s (Has.s (Has.s Has.z))) | exact Has.s (Has.s (Has.s (Has.s (Has.s Has.z))))) k (by omega) (by rw [bv_length]; exact hkq) ?_; intro w1 hS1; clear hS; have hS := hS1; clear hS1; dsimp only [List.set] at hS); rw [HFS2.out] at hS)
            | (go_at_call 48; refine (sget_n hS (flip pc k y) _ (flip_len _ _ _) _ _ (fun w h => h.slRd Has.z) (by rw [flip_len]; omega)).mono ?_; rintro e w1 ⟨rfl, hS1⟩; rw [HGS.out, HGZ.out]; clear hS; have hS := hS1; clear hS1)
            | (refine toList (by rfl) ?_; refine al hS _ (by rfl) (zrOf (by rfl)) ?_; intro px w1 hS1; clear hS; have hS := hS1; clear hS1; rw [cells_agg] at hS)
            | (refine toList (by rfl) ?_; refine stW hS _ _ _ (by rfl) (by rfl) (sv gs) (by rfl) (sv_all _) (szOf (by rfl)) Has.z (by rfl) ?_; intro w1 hS1; clear hS; have hS := hS1; clear hS1; dsimp only [List.set_cons_zero, List.set_cons_succ] at hS)
            | (refine toList (by rfl) ?_; refine wp_of_reads (rLdA hS _ _ (by rfl) _ _ (by rfl) (agOf (by rfl)) (szOf (by rfl)) (by first | exact Has.z | exact Has.s Has.z | exact Has.s (Has.s Has.z) | exact Has.s (Has.s (Has.s Has.z)) | exact Has.s (Has.s (Has.s (Has.s Has.z))) | exact Has.s (Has.s (Has.s (Has.s (Has.s Has.z))))) (vs := sv gs) (by rfl) (by rfl)) ?_)
            | (refine toList (by rfl) ?_; refine wp_of_reads (rEqS (c := false) (by rfl) (by rfl) (by rfl) (by kernel_rfl) (fun w => (eq_sup w gs s).trans (by rw [HNS.out]))) ?_)
            | (refine toList (by rfl) ?_; refine wp_of_reads (rNeqS (c := true) (by rfl) (by rfl) (by rfl) (by kernel_rfl) (fun w => (eq_sup w gs zeroS).trans (by rw [HZS.out]; rfl))) ?_))
          go_ret
          exact ⟨rfl, hS.clear⟩

set_option maxRecDepth 100000 in
theorem Turned.contract (H : Type) (enc : TypeId × Value → H) (W : World) (base : Nat) (args : Array Value) (ds gs : List (DataW H)) (before : List MemPlace)
    (hval : ∀ (j : Nat) t v, Try.f11.params[j]? = some t → args[j]? = some v → Value.okWide Try.prog W .any base t v)
    (hW : DataW.Whole enc Try.prog Try.f11.params.toList Rows.recordTurnedSpec.vars false W args.toList ds gs before)
    (hreach : (DataW.weightsEach Try.prog (Try.f11.params.toList ++ Rows.recordTurnedSpec.plain.varTypes Try.prog) (ds ++ gs)).all (· ≤ reachBytes) = true) :
    Calls Try.prog 11 args W fun e W' => ∃ v, e = .returned v ∧ Rows.recordTurnedSpec.post enc Try.prog Try.f11 false true false false W args v W' := by
  have hW' := hW
  obtain ⟨p, q, hA, hV, rfl, hfz, hnd⟩ := hW
  rw [Try.params11] at hA hval hreach
  obtain ⟨v0, vs0, d0, ds0, p0, q0, hargs, rfl, rfl, h0, r0⟩ := trodAll_cons hA
  obtain ⟨v1, vs1, d1, ds1, p1, q1, rfl, rfl, rfl, h1, r1⟩ := trodAll_cons r0
  obtain ⟨v2, vs2, d2, ds2, p2, q2, rfl, rfl, rfl, h2, r2⟩ := trodAll_cons r1
  obtain ⟨v3, vs3, d3, ds3, p3, q3, rfl, rfl, rfl, h3, r3⟩ := trodAll_cons r2
  obtain ⟨v4, vs4, d4, ds4, p4, q4, rfl, rfl, rfl, h4, r4⟩ := trodAll_cons r3
  obtain ⟨rfl, rfl, rfl⟩ := trodAll_nil r4
  obtain rfl : args = #[v0, v1, v2, v3, v4] := by cases args; simp_all
  obtain ⟨rfl, rfl⟩ := trodVars_none hV
  obtain ⟨ao0, len0, cap0, rfl⟩ := okWide_slice Try.underlying65 (hval 0 65 v0 rfl rfl)
  obtain ⟨a1, rfl, rfl, rfl, w1⟩ := open_int Try.underlying3 (hval 1 3 v1 rfl rfl) h1
  obtain ⟨s, rfl⟩ := open_sup (hval 2 80 v2 rfl rfl) h2
  obtain ⟨a3, rfl, rfl, rfl, w3⟩ := open_int Try.underlying3 (hval 3 3 v3 rfl rfl) h3
  obtain ⟨a4, rfl, rfl, rfl, w4⟩ := open_int Try.underlying5 (hval 4 5 v4 rfl rfl) h4
  obtain ⟨y, rfl⟩ := u8_of w4
  obtain ⟨l, rfl, hr0, hl0⟩ := open_recs h0
  have i3 := i64_of w3
  refine Calls.mono (R := fun e w' => e = .returned (.bool true) ∧ Sat W w' []) ?_ ?_
  · by_cases h : 40 < l.length ∨ l.length ≤ 40 ∧ y = 0
    · exact Turned.early l ao0 cap0 a1 a3 s y W hr0 h
    · exact Turned.walk l ao0 cap0 a1 a3 s y W hr0 (by omega) (fun e => h (.inr ⟨by omega, e⟩)) i3.1 i3.2
  refine fun e W' ⟨he, hS⟩ => ?_
  subst he
  exact ⟨_, rfl, law_post (tb := 4) (by kernel_rfl) (by kernel_rfl) rfl Try.underlying4 rfl hW' rfl hS⟩

theorem Turned.own : ownKnob Try.prog.godebug = none := by kernel_rfl
set_option maxRecDepth 100000 in
theorem Turned.lifted (os : Os) (started : os.Started) (H : Type) (enc : TypeId × Value → H) :
    ReturnsInHanded {} Try.checked os 11 .any (Rows.recordTurnedSpec.pre6 enc Try.prog Try.f11 Rows.recordTurnedRow.domain false) (Rows.recordTurnedSpec.post enc Try.prog Try.f11 false true false false) := by
  refine returnsInHanded_of_change_shaped (C := Try.checked) Turned.own started (by kernel_rfl) Try.func11
    (ChangeSpec.witness6 (enc := enc) (C := Try.checked) false ⟨#[], #[.slice none 0 0, .int .i64 0, .agg #[.int .i64 0, .int .i64 0, .int .i64 0, .int .i64 0, .int .i64 0, .int .i64 0, .int .i64 0], .int .i64 0, .int .u8 0], []⟩ 8 (by kernel_rfl) (by kernel_rfl) (by kernel_rfl) (by kernel_rfl)) ?_
  intro W base args ds gs before hval hW _ hreach _ _
  exact Turned.contract H enc W base args ds gs before hval hW hreach

theorem Turned.holds : Rows.RecordTurnedSaid :=
  OpenClaim.holds_of_wide 11 Try.f11 rfl rfl rfl rfl rfl rfl rfl ⟨rfl, rfl, rfl, rfl, rfl⟩ rfl rfl rfl rfl rfl (by kernel_rfl) Try.func11 (by kernel_rfl)
    (of_decide_eq_true (by kernel_rfl)) (by unfold Func.isWrapper; first | (rw [if_pos (by decide +kernel)]; kernel_rfl) | (rw [if_neg (by decide +kernel)]; exact ⟨rfl, rfl⟩))
    (fun os started H enc _ => Turned.lifted os started H enc)
end Go.Proofs.Ytcabgeljdgcdlaa
