/-
  For three strings of bytes that together are of bulk at most 1048576, AdlerThree answers true.
-/
import Derived.Test.YtdajmojaelpilaaAdler2
namespace Go.Proofs.Ytdajmojaelpilaa
open Go.RowKit Go.Sep Go.ChangeShapes Go.WideShapes Go.ChangeAt

theorem bound {H : Type} {l : List (DataW H)} (hk : Rows.uptoSmall H l = true) : Rows.uptoBulkAll l ≤ 1048576 := of_decide_eq_true hk
theorem one_le {H : Type} (d : DataW H) : 1 ≤ Rows.uptoBulk d := by
  cases d with
  | lit l => cases l <;> simp [Rows.uptoBulk]
  | nil => simp [Rows.uptoBulk]
  | ptr d => simp [Rows.uptoBulk]
  | slice elems spare => simp [Rows.uptoBulk]
  | agg parts => simp [Rows.uptoBulk]
  | iface t d => simp [Rows.uptoBulk]
  | map entries => simp [Rows.uptoBulk]
  | held h => simp [Rows.uptoBulk]
theorem length_le {H : Type} (l : List (DataW H)) : l.length ≤ Rows.uptoBulkAll l := by
  induction l with
  | nil => simp [Rows.uptoBulkAll]
  | cons x r ih => have := one_le x; simp only [Rows.uptoBulkAll, List.length_cons]; omega
theorem bulk_len {H : Type} {d : DataW H} {l : List UInt8} (h : d = .nil ∧ l = [] ∨ ∃ es sp, d = .slice es sp ∧ es.length = l.length) : l.length ≤ Rows.uptoBulk d := by
  rcases h with ⟨_, rfl⟩ | ⟨es, sp, rfl, h⟩
  · simp
  · have := length_le es
    simp only [Rows.uptoBulk]; omega
theorem ad_nil3 : adMore 1 [] = 1 := by decide +kernel
theorem of_nil3 (w : World) : Calls Try.prog 10 #[.slice none 0 0] w fun e w' => e = .returned (.int .u32 1) ∧ w = w' := by
  have h := of_any [] _ _ (rdNil w)
  rwa [ad_nil3] at h

attribute [local irreducible] adMore adJoin
set_option maxHeartbeats 1000000 in
theorem Three.walk (l m r : List UInt8) (v1 v2 v3 : Value) (W : World) (h1 : Rd W v1 l.length 1 (bv l)) (h2 : Rd W v2 m.length 1 (bv m)) (h3 : Rd W v3 r.length 1 (bv r)) (hb : l.length + m.length + r.length ≤ 1048576) :
    Calls Try.prog 8 #[v1, v2, v3] W fun e w' => e = .returned (.bool true) ∧ Sat W w' [] := by
  have hS := Sat.start W
  obtain ⟨a1, c1, rfl, _⟩ := id h1
  obtain ⟨a2, c2, rfl, _⟩ := id h2
  obtain ⟨a3, c3, rfl, _⟩ := id h3
  have k1 := (adMore_lt 1 l).2.2
  have k2 := (adMore_lt 1 m).2.2
  have k3 := (adMore_lt 1 r).2.2
  have k12 := (adMore_lt 1 (l ++ m)).2.2
  have k23 := (adMore_lt 1 (m ++ r)).2.2
  have J12 := Lib.hid (show ∀ w, Calls Try.prog 16 #[.int .u32 (adMore 1 l : Nat), .int .u32 (adMore 1 m : Nat), .int .i64 (m.length : Nat)] w fun e w' => e = .returned (.int .u32 (adMore 1 (l ++ m) : Nat)) ∧ w = w' from
    fun w => by have h := join_any _ _ m.length k1 k2 (by omega) w; rw [adJoin_eq] at h; exact h)
  have J23 := Lib.hid (show ∀ w, Calls Try.prog 16 #[.int .u32 (adMore 1 m : Nat), .int .u32 (adMore 1 r : Nat), .int .i64 (r.length : Nat)] w fun e w' => e = .returned (.int .u32 (adMore 1 (m ++ r) : Nat)) ∧ w = w' from
    fun w => by have h := join_any _ _ r.length k2 k3 (by omega) w; rw [adJoin_eq] at h; exact h)
  have J123 := Lib.hid (show ∀ w, Calls Try.prog 16 #[.int .u32 (adMore 1 (l ++ m) : Nat), .int .u32 (adMore 1 r : Nat), .int .i64 (r.length : Nat)] w fun e w' => e = .returned (.int .u32 (adMore 1 (l ++ m ++ r) : Nat)) ∧ w = w' from
    fun w => by have h := join_any _ _ r.length k12 k3 (by omega) w; rw [adJoin_eq] at h; exact h)
  have K123 := Lib.hid (show ∀ w, Calls Try.prog 16 #[.int .u32 (adMore 1 l : Nat), .int .u32 (adMore 1 (m ++ r) : Nat), .int .i64 ((m.length : Int) + (r.length : Int))] w fun e w' => e = .returned (.int .u32 (adMore 1 (l ++ m ++ r) : Nat)) ∧ w = w' from
    fun w => by
      have h := join_any _ _ (m ++ r).length k1 k23 (by simp; omega) w
      rw [adJoin_eq, ← List.append_assoc, List.length_append, Int.natCast_add] at h; exact h)
  have J0 := Lib.hid (show ∀ w, Calls Try.prog 16 #[.int .u32 (adMore 1 l : Nat), .int .u32 1, .int .i64 0] w fun e w' => e = .returned (.int .u32 (adMore 1 l : Nat)) ∧ w = w' from
    fun w => by
      have h := join_any (adMore 1 l) 1 0 k1 (by omega) (by omega) w
      have e := adJoin_eq l []
      rw [ad_nil3, List.append_nil] at e
      rw [show ([] : List UInt8).length = 0 from rfl] at e
      rw [e] at h; exact h)
  have i1 : (m.length : Int) ≤ 1048576 := by omega
  have i2 : (r.length : Int) ≤ 1048576 := by omega
  clear k1 k2 k3 k12 k23
  go_enter Try.func8, Try.ntmps8
  go_wp2_with (first
    | (go_at_call 10; with_reducible refine (of_any l _ _ (h1.old hS)).mono ?_; rintro e w' ⟨rfl, rfl⟩)
    | (go_at_call 10; with_reducible refine (of_any m _ _ (h2.old hS)).mono ?_; rintro e w' ⟨rfl, rfl⟩)
    | (go_at_call 10; with_reducible refine (of_any r _ _ (h3.old hS)).mono ?_; rintro e w' ⟨rfl, rfl⟩)
    | (go_at_call 10; with_reducible refine (of_nil3 _).mono ?_; rintro e w' ⟨rfl, rfl⟩)
    | (go_at_call 16; with_reducible refine (J12.out _).mono ?_; rintro e w' ⟨rfl, rfl⟩)
    | (go_at_call 16; with_reducible refine (J23.out _).mono ?_; rintro e w' ⟨rfl, rfl⟩)
    | (go_at_call 16; with_reducible refine (J123.out _).mono ?_; rintro e w' ⟨rfl, rfl⟩)
    | (go_at_call 16; with_reducible refine (K123.out _).mono ?_; rintro e w' ⟨rfl, rfl⟩)
    | (go_at_call 16; with_reducible refine (J0.out _).mono ?_; rintro e w' ⟨rfl, rfl⟩)
    | (refine toList (by rfl) ?_; refine ap (hS.slNil (E := 5) (sz := 1)) _ _ _ _ (by rfl) _ _ (by rfl) (by rfl) (elOf (by rfl)) (by rfl) (by omega) (inOf (by rfl)) Has.z (by exact .inl (h1.old hS)) (bv_one l) (by omega) (by omega) ?_; intro v' w' hS1; clear hS; have hS := hS1; clear hS1; dsimp only [List.set] at hS)
    | (refine toList (by rfl) ?_; refine ap hS _ _ _ _ (by rfl) _ _ (by rfl) (by rfl) (elOf (by rfl)) (by rfl) (by omega) (inOf (by rfl)) Has.z (by exact .inl (h2.old hS)) (bv_one m) (by omega) (by omega) ?_; intro v' w' hS1; clear hS; have hS := hS1; clear hS1; dsimp only [List.set] at hS)
    | (refine toList (by rfl) ?_; refine ap hS _ _ _ _ (by rfl) _ _ (by rfl) (by rfl) (elOf (by rfl)) (by rfl) (by omega) (inOf (by rfl)) Has.z (by exact .inl (h3.old hS)) (bv_one r) (by omega) (by omega) ?_; intro v' w' hS1; clear hS; have hS := hS1; clear hS1; dsimp only [List.set] at hS)
    | (go_at_call 10; refine (of_any (l ++ m ++ r) _ _ (by have h := hS.slRd Has.z; simpa [bv_append, Nat.add_assoc] using h)).mono ?_; rintro e w' ⟨rfl, rfl⟩)
    | (go_at_call 14; refine (awake_any hS).mono ?_; rintro e w' ⟨rfl, hS1⟩; clear hS; have hS := hS1; clear hS1))
  go_ret
  exact ⟨rfl, hS.drop⟩

theorem Three.contract (H : Type) (enc : TypeId × Value → H) (W : World) (base : Nat) (args : Array Value) (ds gs : List (DataW H)) (before : List MemPlace)
    (hval : ∀ (j : Nat) t v, Try.f8.params[j]? = some t → args[j]? = some v → Value.okWide Try.prog W .any base t v)
    (hW : DataW.Whole enc Try.prog Try.f8.params.toList Rows.adlerThreeSpec.vars false W args.toList ds gs before)
    (hk : Rows.uptoSmall H (ds ++ gs) = true) :
    Calls Try.prog 8 args W fun e W' => ∃ v, e = .returned v ∧ Rows.adlerThreeSpec.post enc Try.prog Try.f8 false true false false W args v W' := by
  have hW' := hW
  obtain ⟨p, q, hA, hV, rfl, hfz, hnd⟩ := hW
  rw [Try.params8] at hA hval
  obtain ⟨v0, vs0, d0, ds0, p0, q0, hargs, rfl, rfl, h0, r0⟩ := trodAll_cons hA
  obtain ⟨v1, vs1, d1, ds1, p1, q1, rfl, rfl, rfl, h1, r1⟩ := trodAll_cons r0
  obtain ⟨v2, vs2, d2, ds2, p2, q2, rfl, rfl, rfl, h2, r2⟩ := trodAll_cons r1
  obtain ⟨rfl, rfl, rfl⟩ := trodAll_nil r2
  obtain rfl : args = #[v0, v1, v2] := by cases args; simp_all
  obtain ⟨rfl, rfl⟩ := trodVars_none hV
  obtain ⟨ao0, len0, cap0, rfl⟩ := okWide_slice Try.underlying23 (hval 0 23 v0 rfl rfl)
  obtain ⟨ao1, len1, cap1, rfl⟩ := okWide_slice Try.underlying23 (hval 1 23 v1 rfl rfl)
  obtain ⟨ao2, len2, cap2, rfl⟩ := okWide_slice Try.underlying23 (hval 2 23 v2 rfl rfl)
  obtain ⟨l0, rfl, hr0, hd0⟩ := open_bytes Try.underlying23 Try.underlying5 (by kernel_rfl) h0
  obtain ⟨l1, rfl, hr1, hd1⟩ := open_bytes Try.underlying23 Try.underlying5 (by kernel_rfl) h1
  obtain ⟨l2, rfl, hr2, hd2⟩ := open_bytes Try.underlying23 Try.underlying5 (by kernel_rfl) h2
  have hb := bound hk
  simp only [List.append_nil, Rows.uptoBulkAll] at hb
  have b0 : l0.length ≤ Rows.uptoBulk d0 := bulk_len hd0
  have b1 : l1.length ≤ Rows.uptoBulk d1 := bulk_len hd1
  have b2 : l2.length ≤ Rows.uptoBulk d2 := bulk_len hd2
  refine (Three.walk l0 l1 l2 _ _ _ W hr0 hr1 hr2 (by omega)).mono ?_
  refine fun e W' ⟨he, hS⟩ => ?_
  subst he
  exact ⟨_, rfl, law_post (tb := 4) (by kernel_rfl) (by kernel_rfl) rfl Try.underlying4 rfl hW' rfl hS⟩

theorem Three.own : ownKnob Try.prog.godebug = none := by kernel_rfl
set_option maxRecDepth 100000 in
theorem Three.lifted (os : Os) (started : os.Started) (H : Type) (enc : TypeId × Value → H) (F : Stop.Interp) :
    ReturnsInHanded {} Try.checked os 8 .any ((Rows.OpenSpec.upto Rows.adlerThreeSpec).pre6 enc Try.prog Try.f8 Rows.adlerThreeUptoRow.domain false) (((Rows.OpenSpec.upto Rows.adlerThreeSpec).at F).post enc Try.prog Try.f8 false true false false) := by
  refine returnsInHanded_of_cond (C := Try.checked) (s := Rows.OpenSpec.upto Rows.adlerThreeSpec) (k := Rows.uptoSmall) rfl Three.own started (by kernel_rfl) Try.func8
    (OpenSpec.witness (enc := enc) (C := Try.checked) (s := Rows.OpenSpec.upto Rows.adlerThreeSpec) (k := Rows.uptoSmall) rfl false ⟨#[], #[.slice none 0 0, .slice none 0 0, .slice none 0 0], []⟩ 8 (by kernel_rfl) (by kernel_rfl) (by kernel_rfl)
      (x := ([.nil, .nil, .nil], [], [])) (by kernel_rfl) rfl (by kernel_rfl)) ?_
  intro W base args ds gs before hval hW _ hk _
  exact Three.contract H enc W base args ds gs before hval hW hk

theorem Three.holds : Rows.AdlerThreeUptoSaid :=
  OpenClaim.holds_of_cond 8 Try.f8 rfl rfl rfl rfl rfl rfl rfl ⟨rfl, rfl, rfl, rfl, rfl⟩ rfl rfl rfl rfl rfl (by kernel_rfl) Try.func8 (by kernel_rfl)
    (of_decide_eq_true (by kernel_rfl)) (by unfold Func.isWrapper; first | (rw [if_pos (by decide +kernel)]; kernel_rfl) | (rw [if_neg (by decide +kernel)]; exact ⟨rfl, rfl⟩))
    (fun os started H enc _ F => Three.lifted os started H enc F)
end Go.Proofs.Ytdajmojaelpilaa
