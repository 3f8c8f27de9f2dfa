/-
  Package pedigreelaw11: walk.
-/
import Derived.Test.YtiieicdhkcikpaaTrWkP
import Derived.Test.YtiieicdhkcikpaaMReg
namespace Go.Proofs.Ytiieicdhkcikpaa
open Go.RowKit Go.Sep
set_option linter.unusedSimpArgs false
set_option linter.unusedVariables false
attribute [local irreducible] Go.Oper.wp Go.wpList Go.Calls Go.Code.wp Go.Sep.Reg
attribute [local irreducible] IsT IsW
set_option maxRecDepth 20000 in
set_option maxHeartbeats 4000000 in
theorem lwalk_any {W : World} {p : Nat} {T : TrD} (hT : T.Ok) (hR : T.Tre) (bs os cs : Nat) : ∀ (f : Nat) {w : World} {L : List Asrt} {N : Nat → Nat} (hS : Sat W w (IsT p T :: Sl 0 1 (.slice (some ⟨bs, os, none⟩) 48 cs) 48 (iv (lkl N)) :: L)) (i : Nat) (q : List (List UInt8)) (ao : Option Addr) (c : Nat)
    (hr : ∀ w L', Sat W w (L' ++ L) → Rd w (.slice ao q.length c) q.length 1 (q.flatMap sv1)) (hp : T.Pth 0 q i) (hk : T.kind i = 2) (hf : q.length + f = 48) (hb : ∀ n, n < 48 → N n + T.told f i n ≤ 1000000),
    Calls Try.prog 24 #[.pointer (some ⟨p, 0, none⟩), .int .i64 (i : Int), .slice ao q.length c, .slice (some ⟨bs, os, none⟩) 48 cs, .int .i64 (q.length : Int)] w fun r w' => r = .returned (.bool true) ∧ Sat W w' (IsT p T :: Sl 0 1 (.slice (some ⟨bs, os, none⟩) 48 cs) 48 (iv (lkl fun n => N n + T.told f i n)) :: L) := by
  intro f
  induction f with
  | zero =>
    intro w L N hS i q ao c hr hp hk hf hb
    have := hR.deep hT hp hk
    omega
  | succ f ih =>
    intro w L N hS i q ao c hr hp hk hf hb
    have hq := hR.deep hT hp hk
    have hi := hT.pth_lt (by omega) hp
    have hlen := hT.len _ (hT.dir_mem hi)
    have hdI : T.dirI (i : Int) = T.dir i := by unfold TrD.dirI inR; rw [decide_eq_true (by omega : (0 : Int) ≤ (i : Int)), decide_eq_true (by omega : (i : Int) < 48), Int.toNat_natCast]; rfl
    have HALL := Lib.hid (fun k (hk : (T.dir i).length ≤ k) n => TrD.toldK_all (T := T) (f := f) hk n)
    have HSUC := Lib.hid (fun k e (he : (T.dir i)[k]? = some e) n => TrD.toldK_succ (T := T) (f := f) he n)
    have HLE := Lib.hid (fun k n => TrD.toldK_le (T := T) (f := f) (i := i) (k := k) n)
    have HEN0 := Lib.hid (fun w Lc (h : Sat W w (IsT p T :: Lc)) => by have := tentries_any h hT (i : Int); rw [hdI] at this; exact this)
    have HENT := Lib.hid (fun e (he : e ∈ T.dir i) => hT.ent_at hi he)
    have HPT := Lib.hid (fun e (he : e ∈ T.dir i) => show T.Pth 0 (q ++ [e.nm]) e.ino.toNat by
      obtain ⟨_, e1, e2⟩ := hT.ent_at hi he
      refine (hT.pth_snoc (by omega)).2 ⟨i, hp, hk, ?_⟩
      rw [TrD.findE_mem' (hT.srt _ (hT.dir_mem hi)) he]; congr 1; omega)
    obtain ⟨D, hD⟩ : ∃ D, T.dir i = D := ⟨_, rfl⟩
    rw [hD] at HALL HSUC HEN0 HENT HPT hlen
    have HB := Lib.hid hb
    have HR0 := Lib.hid hr
    have HF := Lib.hid hf
    have d0 : decide ((48 : Int) < (q.length : Int)) = false := decide_eq_false (by omega)
    have d1 : decide (48 < q.length) = false := decide_eq_false (by omega)
    have d2 : (q.length : Int) < 48 := by omega
    have d3 : ¬ (48 : Int) < (q.length : Int) := by omega
    clear hb hr hf hp hk hdI hD
    go_enter Try.func24, Try.ntmps24
    go_wp2_with (go_at_call 27; refine (HEN0.out _ _ hS).mono ?_; rintro r w1 ⟨ve, rfl, hS1⟩; clear hS; have hS := hS1; clear hS1; obtain ⟨aoe, ce, rfl, _⟩ := Sat.tbShape (k := 0) (show Sat _ _ (Tb 59 2 ev2 ve D :: _) from hS) rfl)
    have H0 := Lib.hid (show Sat W _ (IsT p T :: Sl 0 1 (.slice (some ⟨bs, os, none⟩) 48 cs) 48 (iv (lkl (fun n => N n + T.toldK f i 0 n))) :: Er (.slice aoe D.length ce) D :: L) by
      have e : lkl (fun n => N n + T.toldK f i 0 n) = lkl N := lkl_congr fun n _ => by rw [TrD.toldK_zero]; omega
      rw [e]
      exact hS.re [1, 2, 0])
    clear hS
    go_loopw [12] (fun v12 wz => ∃ k : Nat, v12 = .int .i64 k ∧ k ≤ D.length ∧ Sat W wz (IsT p T :: Sl 0 1 (.slice (some ⟨bs, os, none⟩) 48 cs) 48 (iv (lkl (fun n => N n + T.toldK f i k n))) :: Er (.slice aoe D.length ce) D :: L)) (fun v12 _ => D.length - (intOf v12).toNat)
    case atStart => exact ⟨0, rfl, by omega, H0.out⟩
    case round =>
      clear H0
      obtain ⟨k, rfl, hk, hS⟩ := hrel
      by_cases hlt : k < D.length
      · have g1 : (k : Int) < (D.length : Int) := by omega
        have HLT := Lib.hid hlt
        obtain ⟨⟨n, z⟩, hx⟩ : ∃ e, D[k]? = some e := ⟨_, List.getElem?_eq_getElem hlt⟩
        have hmem := List.mem_of_getElem? hx
        obtain ⟨_, z1, z2⟩ := HENT.out _ hmem
        have hpt := HPT.out _ hmem
        have hsc := HSUC.out _ _ hx
        dsimp only at z1 z2 hpt hsc
        obtain ⟨j, rfl⟩ := Int.eq_ofNat_of_zero_le (show 0 ≤ z by omega)
        rw [Int.toNat_natCast] at hpt hsc
        have hj : j < 48 := by omega
        have g2 : (j : Int) < 48 := by omega
        have g3 : decide ((j : Int) < 1) = false := decide_eq_false (by omega)
        have g4 : decide ((48 : Int) ≤ (j : Int)) = false := decide_eq_false (by omega)
        have g5 : decide (j < 1) = false := decide_eq_false (by omega)
        have g6 : decide (48 ≤ j) = false := decide_eq_false (by omega)
        have g7 : (j == 0) = false := beq_eq_false_iff_ne.2 (by omega)
        have HX := Lib.hid hx
        obtain ⟨be, oe, rfl⟩ : ∃ be oe, aoe = some ⟨be, oe, none⟩ := by
          obtain ⟨b', o', c', h1, _⟩ := Sat.tbAddr (k := 2) (show Sat _ _ (_ :: _ :: Tb 59 2 ev2 (.slice aoe D.length ce) D :: _) from hS) rfl (by omega)
          simp only [Value.slice.injEq, true_and] at h1
          exact ⟨b', o', h1.1⟩
        have HER := Lib.hid (fun u (h : Sat W u [Er (.slice (some ⟨be, oe, none⟩) D.length ce) D]) => Sat.tbRd (k := 0) (show Sat _ _ (Tb 59 2 ev2 _ D :: _) from h) rfl)
        have HER2 := Lib.hid (fun u A B Lx (h : Sat W u (A :: B :: Er (.slice (some ⟨be, oe, none⟩) D.length ce) D :: Lx)) => Sat.tbRd (k := 2) (show Sat _ _ (_ :: _ :: Tb 59 2 ev2 _ D :: _) from h) rfl)
        obtain ⟨q2, hq2⟩ : ∃ q2, q ++ [n] = q2 := ⟨_, rfl⟩
        have hq2l : q2.length = q.length + 1 := by rw [← hq2]; simp
        rw [hq2] at hpt
        have HQ2 := Lib.hid hq2
        obtain ⟨Nk, hNk⟩ : ∃ Nk : Nat → Nat, (fun n => N n + T.toldK f i k n) = Nk := ⟨_, rfl⟩
        have HNK := Lib.hid (fun m => show Nk m = N m + T.toldK f i k m by rw [← hNk])
        rw [hNk] at hS
        obtain ⟨x, hxj⟩ : ∃ x, Nk j = x := ⟨_, rfl⟩
        have HXJ := Lib.hid (show (iv (lkl Nk))[j]? = some (.int .i64 (x : Int)) by rw [← hxj]; exact iv_at (lkl_at Nk hj))
        have hxb : x ≤ 1000000 := by
          have h1 := HNK.out j
          have h2 := HB.out j hj
          have h3 := HLE.out k j
          omega
        have g8 : (x : Int) ≤ 1000000 := by omega
        have HSET := Lib.hid (show (iv (lkl Nk)).set j (.int .i64 ((x : Int) + 1)) = iv (lkl (upd Nk j (x + 1))) by
          have := iv_set (lkl Nk) j (x + 1)
          rw [lkl_set Nk hj] at this
          rw [← this]
          congr 2)
        have HNX := Lib.hid (fun m (hm : m < 48) => show N m + T.toldK f i (k + 1) m = upd Nk j (x + 1) m + (if T.kind j = 2 then T.told f j m else 0) by
          rw [hsc, ← Nat.add_assoc, ← Nat.add_assoc, ← HNK.out m]
          by_cases e : m = j
          · subst e; rw [upd_at, if_pos rfl, hxj]
          · rw [upd_no _ _ e, if_neg (by omega)]; omega)
        have HTX := Lib.hid (fun w (L2 : List Asrt) (h : Sat W w (L2 ++ (IsT p T :: Sl 0 1 (.slice (some ⟨bs, os, none⟩) 48 cs) 48 (iv (lkl Nk)) :: Er (.slice (some ⟨be, oe, none⟩) D.length ce) D :: L))) => texts_any h q ao c (fun w L' h => HR0.out w (L' ++ L2 ++ [IsT p T, Sl 0 1 (.slice (some ⟨bs, os, none⟩) 48 cs) 48 (iv (lkl Nk)), Er (.slice (some ⟨be, oe, none⟩) D.length ce) D]) (by simpa only [List.append_assoc, List.cons_append, List.nil_append] using h)) (by omega))
        have HWK := Lib.hid (fun w az cz (h : Sat W w (IsT p T :: Sl 0 1 (.slice (some ⟨bs, os, none⟩) 48 cs) 48 (iv (lkl Nk)) :: Er (.slice (some ⟨be, oe, none⟩) D.length ce) D :: Tb 9 1 sv1 (.slice az q2.length cz) q2 :: L)) => by
          have := twalk_any h hT q2 az cz (fun w L' h => h.tbRd (has_at (k := 2) rfl)) (by omega)
          rw [(show T.walk 0 q2 = ((j : Int), 0) from hpt)] at this
          exact this)
        have hkI : T.kindI (j : Int) = T.kind j := by unfold TrD.kindI inR; rw [decide_eq_true (by omega : (0 : Int) ≤ (j : Int)), decide_eq_true (by omega : (j : Int) < 48), Int.toNat_natCast]; rfl
        have HKD := Lib.hid (fun w Lc (h : Sat W w (IsT p T :: Lc)) => by have := tkind_any h (j : Int); rw [hkI] at this; exact this)
        have HIH := Lib.hid (fun (h2 : T.kind j = 2) w az cz (h : Sat W w (IsT p T :: Sl 0 1 (.slice (some ⟨bs, os, none⟩) 48 cs) 48 (iv (lkl (upd Nk j (x + 1)))) :: Er (.slice (some ⟨be, oe, none⟩) D.length ce) D :: Tb 9 1 sv1 (.slice az q2.length cz) q2 :: L)) => show Calls Try.prog 24 #[.pointer (some ⟨p, 0, none⟩), .int .i64 (j : Int), .slice az q2.length cz, .slice (some ⟨bs, os, none⟩) 48 cs, .int .i64 ((q.length : Int) + 1)] w (fun r w' => r = .returned (.bool true) ∧ Sat W w' (IsT p T :: Sl 0 1 (.slice (some ⟨bs, os, none⟩) 48 cs) 48 (iv (lkl (fun n => upd Nk j (x + 1) n + T.told f j n))) :: Er (.slice (some ⟨be, oe, none⟩) D.length ce) D :: Tb 9 1 sv1 (.slice az q2.length cz) q2 :: L)) by
          have := ih (N := upd Nk j (x + 1)) h j q2 az cz (fun w L' h => h.tbRd (has_at (k := 1) rfl)) hpt h2 (by have := HF.out; omega) (fun m hm => by
            have h1 := HNX.out m hm
            rw [if_pos h2] at h1
            have h3 := HLE.out (k + 1) m
            have h4 := HB.out m hm
            omega)
          have e : ((q2.length : Nat) : Int) = (q.length : Int) + 1 := by omega
          rw [e] at this
          exact this)
        obtain ⟨kk, hkk⟩ : ∃ kk, T.kind j = kk := ⟨_, rfl⟩
        rw [hkk] at HKD HNX HIH
        have HQL := Lib.hid hq2l
        clear hx hmem hpt hsc hlt hk hNk hxj hkI hkk hq2 hq2l
        go_wp2
        refine regStart2 [7, 8] hS (fun _ h => h.one (Has.s (Has.s Has.z))) (by kernel_rfl) rfl ?_
        intro w1 hS1
        clear hS; have hS := hS1; clear hS1
        (refine regP 0 hS (fun _ h => h.one (Has.s (Has.s Has.z))) rfl (by kernel_rfl) (by kernel_rfl) (by kernel_rfl) (fun _ _ _ _ h => h) (by rfl) (by rfl) ?_; apply Exists.intro; apply And.intro; (intro w; go_simp; try with_reducible rfl); (simp only [Act.put, List.setIfInBounds_toArray, List.set_cons_zero, List.set_cons_succ]))
        (refine regP 2 hS (fun _ h => h.one (Has.s (Has.s Has.z))) rfl (by kernel_rfl) (by kernel_rfl) (by kernel_rfl) (fun _ _ _ _ h => h) (by rfl) (by rfl) ?_; apply Exists.intro; apply And.intro; (intro w; go_simp; try with_reducible rfl); (simp only [Act.put, List.setIfInBounds_toArray, List.set_cons_zero, List.set_cons_succ]))
        (refine regP 3 hS (fun _ h => h.one (Has.s (Has.s Has.z))) rfl (by kernel_rfl) (by kernel_rfl) (by kernel_rfl) (fun _ _ _ _ h => h) (by rfl) (by rfl) ?_; apply Exists.intro; apply And.intro; (intro w; go_simp; try with_reducible rfl); (simp only [Act.put, List.setIfInBounds_toArray, List.set_cons_zero, List.set_cons_succ]))
        (refine regP 4 hS (fun _ h => h.one (Has.s (Has.s Has.z))) rfl (by kernel_rfl) (by kernel_rfl) (by kernel_rfl) (fun _ _ _ _ h => h) (by rfl) (by rfl) ?_; apply Exists.intro; apply And.intro; (intro w; go_simp; try with_reducible rfl); (simp only [Act.put, List.setIfInBounds_toArray, List.set_cons_zero, List.set_cons_succ]))
        (refine regP 5 hS (fun _ h => h.one (Has.s (Has.s Has.z))) rfl (by kernel_rfl) (by kernel_rfl) (by kernel_rfl) (fun _ _ _ _ h => h) (by rfl) (by rfl) ?_; apply Exists.intro; apply And.intro; (intro w; go_simp; try with_reducible rfl); (simp only [Act.put, List.setIfInBounds_toArray, List.set_cons_zero, List.set_cons_succ]))
        (refine regR 6 hS (fun _ h => h.one (Has.s (Has.s Has.z))) rfl (by kernel_rfl) (by kernel_rfl) (by kernel_rfl) (by kernel_rfl) (by kernel_rfl) (fun _ _ _ _ h => h) (by rfl) (by rfl) ?_; (refine ⟨.string ⟨n.toArray⟩, fun u hu => rLdRd (f := ev2) (x := ⟨n, (j : Int)⟩) (HER.out _ hu) (ev2_len _) _ _ (by rfl) _ (by rfl) (agOf (by rfl)) k 0 (by omega) HX.out (by rfl) (by omega), ?_⟩); (simp only [Act.put, List.setIfInBounds_toArray, List.set_cons_zero, List.set_cons_succ]))
        revert hS
        apply regJoin (fun (b1 _b2 _b3 : Nat) (tz _v2 _v3 : Value) w' => Sat W w' (Cs b1 9 [sv n] :: Tb 9 1 sv1 tz q :: IsT p T :: Sl 0 1 (.slice (some ⟨bs, os, none⟩) 48 cs) 48 (iv (lkl Nk)) :: Er (.slice (some ⟨be, oe, none⟩) D.length ce) D :: L)) ([Er (.slice (some ⟨be, oe, none⟩) D.length ce) D])
        case h1 =>
          intro hJ hS
          refine regM2 1 7 rfl rfl (by kernel_rfl) (by rfl) (by rfl) (by rfl) (by rfl) ?_ ?_
          · intro K hK; ((first | refine Go.Sep.cl 39 _ _ (by rfl) (by rfl) (by kernel_rfl) (HTX.out _ [] hS) ?_ | refine Go.Sep.cl 39 _ _ (by rfl) (by rfl) (by kernel_rfl) (HTX.out _ [_] hS) ?_); rintro r w1 ⟨tz, rfl, hS1⟩; clear hS; have hS := hS1; clear hS1; refine ⟨_, rfl, ?_⟩); refine hK _ _ _ (hS.upTo (fun _ h => by first | exact h.one (Has.s (Has.s Has.z)) | exact h.one (Has.s (Has.s (Has.s Has.z))) | exact h.one (Has.s (Has.s (Has.s (Has.s Has.z)))))) (fun _ h => h) ?_; clear hK K; (simp only [Act.put, List.setIfInBounds_toArray, List.set_cons_zero, List.set_cons_succ])
            (refine regA 7 rfl (by kernel_rfl) (by rfl) (by rfl) true (by kernel_rfl) (fun K hK => ?_); (refine bsF hS _ _ _ (by rfl) (elOf (by rfl)) [.string ⟨n.toArray⟩] (by rfl) (by rfl) (by decide) (by decide) (by intro v hv; rw [List.mem_singleton.1 hv]; rfl) ?_; intro b1 w1 hS1; clear hS; have hS := hS1; clear hS1); refine hK _ _ _ (hS.upTo (fun _ h => by first | exact h.one (Has.s (Has.s Has.z)) | exact h.one (Has.s (Has.s (Has.s Has.z))) | exact h.one (Has.s (Has.s (Has.s (Has.s Has.z)))))) (fun _ _ h => h) ?_; clear hK K; (simp only [Act.put, List.setIfInBounds_toArray, List.set_cons_zero, List.set_cons_succ]))
            refine (fun (g : Nat → Nat → Value → Value → _) => g 0 0 (.slice none 0 0) (.slice none 0 0)) ?_; intro x2 x3 y2 y3; first | exact hJ b1 x2 x3 tz y2 y3 _ hS | exact hJ b1 x2 x3 tz y2 y3 _ hS.pull1
          · intro K hK; (refine bsF hS _ _ _ (by rfl) (elOf (by rfl)) [.string ⟨n.toArray⟩] (by rfl) (by rfl) (by decide) (by decide) (by intro v hv; rw [List.mem_singleton.1 hv]; rfl) ?_; intro b1 w1 hS1; clear hS; have hS := hS1; clear hS1); refine hK _ _ _ (hS.upTo (fun _ h => by first | exact h.one (Has.s (Has.s Has.z)) | exact h.one (Has.s (Has.s (Has.s Has.z))) | exact h.one (Has.s (Has.s (Has.s (Has.s Has.z)))))) (fun _ h => h) ?_; clear hK K; (simp only [Act.put, List.setIfInBounds_toArray, List.set_cons_zero, List.set_cons_succ])
            (refine regA 1 rfl (by kernel_rfl) (by rfl) (by rfl) false (by kernel_rfl) (fun K hK => ?_); ((first | refine Go.Sep.cl 39 _ _ (by rfl) (by rfl) (by kernel_rfl) (HTX.out _ [] hS) ?_ | refine Go.Sep.cl 39 _ _ (by rfl) (by rfl) (by kernel_rfl) (HTX.out _ [_] hS) ?_); rintro r w1 ⟨tz, rfl, hS1⟩; clear hS; have hS := hS1; clear hS1; refine ⟨_, rfl, ?_⟩); refine hK _ _ _ (hS.upTo (fun _ h => by first | exact h.one (Has.s (Has.s Has.z)) | exact h.one (Has.s (Has.s (Has.s Has.z))) | exact h.one (Has.s (Has.s (Has.s (Has.s Has.z)))))) (fun _ _ h => h) ?_; clear hK K; (simp only [Act.put, List.setIfInBounds_toArray, List.set_cons_zero, List.set_cons_succ]))
            refine (fun (g : Nat → Nat → Value → Value → _) => g 0 0 (.slice none 0 0) (.slice none 0 0)) ?_; intro x2 x3 y2 y3; first | exact hJ b1 x2 x3 tz y2 y3 _ hS | exact hJ b1 x2 x3 tz y2 y3 _ hS.pull1
        intro b1 _ _ tz _ _ w1 hS
        (refine regA 8 rfl (by kernel_rfl) (by rfl) (by rfl) true (by kernel_rfl) (fun K hK => ?_); ((refine apTb (f := sv1) (xs := q) hS _ _ _ _ (by rfl) _ _ (by rfl) (by rfl) (elOf (by rfl)) (by rfl) (by decide) (inOf (by rfl)) (Has.s Has.z) [n] (sv1_len _) (by exact .inl (hS.csRd0 (n := 1) Has.z (by decide) rfl)) (sv1_one _) (by simp; omega) (by simp; omega) ?_; intro v' w1 hS1; clear hS; have hS := hS1; clear hS1; dsimp only [List.set_cons_zero, List.set_cons_succ] at hS; replace hS := hS.drop; rw [HQ2.out] at hS)); refine hK _ _ _ hS (by first | (intro h; cases h; done) | exact fun _ _ h => h | exact fun _ _ h => h.drop | exact fun _ _ h => h.drop.drop | exact fun _ _ h => h.drop.pull1 | exact fun _ _ h => h.take2 | exact fun _ _ h => h.one Has.z | exact fun _ _ h => h.one (Has.s Has.z) | exact fun _ _ h => h.one (Has.s (Has.s Has.z))) ?_; clear hK K; (simp only [Act.put, List.setIfInBounds_toArray, List.set_cons_zero, List.set_cons_succ]))
        (refine regP 9 hS (fun _ h => h) rfl (by kernel_rfl) (by kernel_rfl) (by kernel_rfl) (fun _ _ _ _ h => h) (by rfl) (by rfl) ?_; apply Exists.intro; apply And.intro; (intro w; go_simp; try with_reducible rfl); (simp only [Act.put, List.setIfInBounds_toArray, List.set_cons_zero, List.set_cons_succ]))
        refine regDone (by kernel_rfl) ?_
        obtain ⟨az, cz, rfl, _⟩ := hS.tbShape (k := 0) rfl
        have hS' := (show Sat W _ (IsT p T :: Sl 0 1 (.slice (some ⟨bs, os, none⟩) 48 cs) 48 (iv (lkl Nk)) :: Er (.slice (some ⟨be, oe, none⟩) D.length ce) D :: Tb 9 1 sv1 (.slice az q2.length cz) q2 :: L) from hS.re [1, 2, 3, 0])
        clear hS
        have hS := hS'
        clear hS'
        by_cases h2 : kk = 2
        · have e1 : (kk == 2) = true := by rw [h2]; rfl
          have HI2 := Lib.hid (HIH.out h2)
          have HNX2 := Lib.hid (show lkl (fun m => upd Nk j (x + 1) m + T.told f j m) = lkl (fun m => N m + T.toldK f i (k + 1) m) from lkl_congr fun m hm => by rw [HNX.out m hm, if_pos h2])
          clear HIH h2
          go_wp2_with (first
            | (go_at_call 26; refine (HWK.out _ _ _ hS).mono ?_; rintro r w1 ⟨rfl, hS1⟩; clear hS; have hS := (show Sat W w1 (IsT p T :: Sl 0 1 (.slice (some ⟨bs, os, none⟩) 48 cs) 48 (iv (lkl Nk)) :: Er (.slice (some ⟨be, oe, none⟩) D.length ce) D :: Tb 9 1 sv1 (.slice az q2.length cz) q2 :: L) from hS1); clear hS1)
              | (refine toList (by rfl) ?_; refine wp_of_reads (rLdRd (f := ev2) (x := ⟨n, (j : Int)⟩) (u := .int .i64 (j : Int)) (HER2.out _ _ _ _ hS) (ev2_len _) _ _ (by rfl) _ (by rfl) (agOf (by rfl)) k 1 (by omega) HX.out (by rfl) (by omega)) ?_)
              | (refine toList (by rfl) ?_; refine ldSl hS _ _ (by rfl) _ _ (by rfl) (agOf (by rfl)) (Has.s Has.z) j (by omega) (v := .int .i64 (x : Int)) (by exact HXJ.out) ?_)
              | (refine toList (by rfl) ?_; refine stSl hS _ _ _ (by rfl) _ _ (by rfl) _ (by first | exact evC | exact evT (by rfl)) (by rfl) (szOf (by rfl)) (Has.s Has.z) j (by omega) (by rw [iv_length, lkl_len]; exact hj) ?_; intro w1 hS1; clear hS; have hS := hS1; clear hS1; dsimp only [List.set_cons_zero, List.set_cons_succ] at hS; rw [HSET.out] at hS)
              | (go_at_call 16; refine (HKD.out _ _ hS).mono ?_; rintro r w1 ⟨rfl, rfl⟩)
            | (go_at_call 24; refine (HI2.out _ _ _ hS).mono ?_; rintro r w1 ⟨rfl, hS1⟩; clear hS; have hS := hS1; clear hS1; rw [HNX2.out] at hS))
          exact ⟨⟨k + 1, by go_num, HLT.out, (hS.re [3]).drop⟩, by simp [intOf]; have := HLT.out; omega⟩
        · have e1 : (kk == 2) = false := beq_eq_false_iff_ne.2 h2
          have HNX2 := Lib.hid (show lkl (upd Nk j (x + 1)) = lkl (fun m => N m + T.toldK f i (k + 1) m) from lkl_congr fun m hm => by rw [HNX.out m hm, if_neg h2]; omega)
          clear HIH h2
          go_wp2_with (first
            | (go_at_call 26; refine (HWK.out _ _ _ hS).mono ?_; rintro r w1 ⟨rfl, hS1⟩; clear hS; have hS := (show Sat W w1 (IsT p T :: Sl 0 1 (.slice (some ⟨bs, os, none⟩) 48 cs) 48 (iv (lkl Nk)) :: Er (.slice (some ⟨be, oe, none⟩) D.length ce) D :: Tb 9 1 sv1 (.slice az q2.length cz) q2 :: L) from hS1); clear hS1)
              | (refine toList (by rfl) ?_; refine wp_of_reads (rLdRd (f := ev2) (x := ⟨n, (j : Int)⟩) (u := .int .i64 (j : Int)) (HER2.out _ _ _ _ hS) (ev2_len _) _ _ (by rfl) _ (by rfl) (agOf (by rfl)) k 1 (by omega) HX.out (by rfl) (by omega)) ?_)
              | (refine toList (by rfl) ?_; refine ldSl hS _ _ (by rfl) _ _ (by rfl) (agOf (by rfl)) (Has.s Has.z) j (by omega) (v := .int .i64 (x : Int)) (by exact HXJ.out) ?_)
              | (refine toList (by rfl) ?_; refine stSl hS _ _ _ (by rfl) _ _ (by rfl) _ (by first | exact evC | exact evT (by rfl)) (by rfl) (szOf (by rfl)) (Has.s Has.z) j (by omega) (by rw [iv_length, lkl_len]; exact hj) ?_; intro w1 hS1; clear hS; have hS := hS1; clear hS1; dsimp only [List.set_cons_zero, List.set_cons_succ] at hS; rw [HSET.out] at hS)
              | (go_at_call 16; refine (HKD.out _ _ hS).mono ?_; rintro r w1 ⟨rfl, rfl⟩))
          rw [HNX2.out] at hS
          exact ⟨⟨k + 1, by go_num, HLT.out, (hS.re [3]).drop⟩, by simp [intOf]; have := HLT.out; omega⟩
      · have g1 : ¬ (k : Int) < (D.length : Int) := by omega
        have HE := Lib.hid (show lkl (fun n => N n + T.toldK f i k n) = lkl (fun n => N n + T.told (f + 1) i n) from lkl_congr fun n _ => by rw [HALL.out k (by omega) n])
        clear hlt
        go_wp2
        go_ret
        rw [HE.out] at hS
        exact ⟨rfl, (hS.re [2]).drop⟩
end Go.Proofs.Ytiieicdhkcikpaa
