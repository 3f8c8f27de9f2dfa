/-
  Package query: keeps, all.
  Package query: what is asked of each node.
  Package query: star, given where a question leads.
-/
import Derived.Test.YtpnbdnfgdiakhaaGreatMQua
import Derived.Test.YtpnbdnfgdiakhaaGreatMReg
import Derived.Test.YtpnbdnfgdiakhaaGreatMLbl
import Derived.Test.YtpnbdnfgdiakhaaGreatMQub
namespace Go.Proofs.YtpnbdnfgdiakhaaGreat
open Go.RowKit Go.Sep
set_option linter.unusedSimpArgs false
set_option linter.unusedVariables false
attribute [local irreducible] Go.Oper.wp Go.wpList Go.Calls Go.Code.wp Go.Sep.Reg
attribute [local irreducible] IsG
theorem map_set : mapB Tryz.prog 58 = some (3, 4) := by kernel_rfl
/-- What has been handed out already. -/
theorem mem_erase_left {left : List Nat} (hn : left.Nodup) {k n : Nat} (hk : k ∈ left) : n ∉ left.erase k ↔ n ∉ left ∨ n = k := by
  rw [hn.mem_erase_iff]
  constructor
  · intro h
    by_cases e : n = k
    · exact .inr e
    · exact .inl fun hl => h ⟨e, hl⟩
  · rintro (h | h) ⟨h1, h2⟩
    · exact h h2
    · exact h1 h
def KpI (ks left os : List Nat) (T : Nat → Bool) : Prop := ∀ n, n ∈ os ↔ n ∈ ks ∧ n ∉ left ∧ T n = true
theorem KpI.start (ks : List Nat) (T : Nat → Bool) : KpI ks ks [] T := fun n => ⟨(fun h => nomatch h), (fun ⟨h1, h2, _⟩ => absurd h1 h2)⟩
theorem KpI.yes {ks left os : List Nat} {T : Nat → Bool} (h : KpI ks left os T) (hn : left.Nodup) (hs : ∀ k ∈ left, k ∈ ks) {k : Nat} (hk : k ∈ left) (ht : T k = true) : KpI ks (left.erase k) (addK os k) T := fun n => by
  rw [mem_addK, h n, mem_erase_left hn hk]
  constructor
  · rintro (⟨h1, h2, h3⟩ | rfl)
    · exact ⟨h1, .inl h2, h3⟩
    · exact ⟨hs _ hk, .inr rfl, ht⟩
  · rintro ⟨h1, h2 | h2, h3⟩
    · exact .inl ⟨h1, h2, h3⟩
    · exact .inr h2
theorem KpI.no {ks left os : List Nat} {T : Nat → Bool} (h : KpI ks left os T) (hn : left.Nodup) {k : Nat} (hk : k ∈ left) (ht : T k = false) : KpI ks (left.erase k) os T := fun n => by
  rw [h n, mem_erase_left hn hk]
  constructor
  · rintro ⟨h1, h2, h3⟩; exact ⟨h1, .inl h2, h3⟩
  · rintro ⟨h1, h2 | h2, h3⟩
    · exact ⟨h1, h2, h3⟩
    · subst h2; rw [ht] at h3; cases h3
def AlI (ks left os : List Nat) (f : Nat → List Nat) : Prop := ∀ n, n ∈ os ↔ ∃ m, m ∈ ks ∧ m ∉ left ∧ n ∈ f m
theorem AlI.start (ks : List Nat) (f : Nat → List Nat) : AlI ks ks [] f := fun n => ⟨(fun h => nomatch h), (fun ⟨m, h1, h2, _⟩ => absurd h1 h2)⟩
def AlJ (ks left os : List Nat) (f : Nat → List Nat) (k i : Nat) : Prop := ∀ n, n ∈ os ↔ (∃ m, m ∈ ks ∧ m ∉ left ∧ n ∈ f m) ∨ n ∈ (f k).take i
theorem AlJ.next {ks left os : List Nat} {f : Nat → List Nat} {k i x : Nat} (h : AlJ ks left os f k i) (hx : (f k)[i]? = some x) : AlJ ks left (addK os x) f k (i + 1) := fun n => by
  rw [mem_addK, h n, List.take_add_one, hx, List.mem_append]
  simp only [Option.toList_some, List.mem_singleton]
  exact or_assoc
theorem AlJ.done {ks left os : List Nat} {f : Nat → List Nat} {k : Nat} (h : AlJ ks left os f k (f k).length) (hn : left.Nodup) (hs : ∀ k ∈ left, k ∈ ks) (hk : k ∈ left) : AlI ks (left.erase k) os f := fun n => by
  rw [h n, List.take_length]
  constructor
  · rintro (⟨m, h1, h2, h3⟩ | h1)
    · exact ⟨m, h1, (mem_erase_left hn hk).2 (.inl h2), h3⟩
    · exact ⟨k, hs k hk, (mem_erase_left hn hk).2 (.inr rfl), h1⟩
  · rintro ⟨m, h1, h2, h3⟩
    rcases (mem_erase_left hn hk).1 h2 with h2 | rfl
    · exact .inl ⟨m, h1, h2, h3⟩
    · exact .inr h3
set_option maxRecDepth 20000 in
theorem keeps_any {W w : World} {L : List Asrt} {b : Nat} {ks : List Nat} (hS : Sat W w (Ms b ks :: L)) (F : Nat) (rc cp : Array Value) (hF : callB Tryz.prog F = true) (T : Nat → Bool)
    (hc : ∀ w L' k, k ∈ ks → Sat W w (L' ++ L) → Calls Tryz.prog F (rc ++ [Value.int .i64 ((k : Nat) : Int)].toArray ++ cp) w fun e w' => e = .returned (.bool (T k)) ∧ Sat W w' (L' ++ L)) :
    Calls Tryz.prog 49 #[.map (some b), .func (.func F) rc cp] w fun e w' => ∃ b' os, e = .returned (.map (some b')) ∧ (∀ n, n ∈ os ↔ n ∈ ks ∧ T n = true) ∧ Sat W w' (Ms b' os :: Ms b ks :: L) := by
  have HC := Lib.hid hc
  have HF := Lib.hid hF
  clear hc hF
  go_enter Tryz.func49, Tryz.ntmps49
  go_wp2_with (first
    | (refine toList (by rfl) ?_; refine msMake hS _ (by rfl) ?_; intro bo w1 hS1; clear hS; have hS := hS1; clear hS1)
    | (refine toList (by rfl) ?_; refine msRange hS _ _ (by rfl) (by rfl) map_set (Has.s Has.z) ?_; intro r w1 hS1; clear hS; have hS := hS1; clear hS1; dsimp only [List.set_cons_zero, List.set_cons_succ] at hS))
  go_frame
  have H0 := Lib.hid hS.pull1
  go_loopw [] (fun wz => ∃ left cur os, KpI ks left os T ∧ Sat W wz (Mi b r ks left cur :: Ms bo os :: L)) (fun wz => ks.length - (wz.iterSeen r).size)
  case atStart => exact ⟨ks, none, [], KpI.start ks T, H0.out⟩
  case round =>
    clear hS H0
    obtain ⟨left, cur, os, hki, hS⟩ := hrel
    have HKI := Lib.hid hki
    have HL := Lib.hid (hS.miLeft Has.z)
    have HM := Lib.hid (hS.miSeen Has.z)
    clear hki
    go_wp2_with (first
      | (refine toList (by rfl) ?_; refine msNext hS _ (by rfl) (by rfl) Has.z (fun hl => ?_) (fun k w1 hk hS => ?_))
      | (refine toList (by rfl) ?_; refine wp_of_reads (rMsEntry hS _ (by rfl) (by rfl) Has.z) ?_; dsimp only [List.set_cons_zero] at hS)
      | (refine toList (by rfl) ?_; refine clV F _ _ _ (by rfl) (by rfl) (by rfl) HF.out (HC.out _ [_, _] k (HL.out.2 k hk) hS) ?_; rintro e w1 ⟨rfl, hS1⟩; clear hS; have hS := (show Sat W w1 (Mi b r ks (left.erase k) (some k) :: Ms bo os :: L) from hS1); clear hS1; refine ⟨_, rfl, ?_⟩)
      | (refine toList (by rfl) ?_; refine msSt hS _ _ _ _ (.inl (by rfl)) (by rfl) k (by rfl) (by rfl) map_set key_nat (Has.s Has.z) ?_; intro w1 hS1; clear hS; have hS := hS1; clear hS1; dsimp only [List.set_cons_zero, List.set_cons_succ] at hS))
    · go_ret
      subst hl
      exact ⟨bo, os, rfl, fun n => by have := HKI.out n; simpa using this, hS.miEnd.pull1⟩
    · rename_i ht
      have HLN := List.length_erase_of_mem hk
      have HPO := List.length_pos_of_mem hk
      go_frame
      refine ⟨⟨_, _, _, _, _, _, _, _, _, _, ⟨left.erase k, some k, addK os k, HKI.out.yes HL.out.1 HL.out.2 hk ht, hS⟩, rfl⟩, ?_⟩
      have h1 := hS.miSeen Has.z; have h2 := HM.out; omega
    · rename_i ht
      have HLN := List.length_erase_of_mem hk
      have HPO := List.length_pos_of_mem hk
      go_frame
      refine ⟨⟨_, _, _, _, _, _, _, _, _, _, ⟨left.erase k, some k, os, HKI.out.no HL.out.1 hk ht, hS⟩, rfl⟩, ?_⟩
      have h1 := hS.miSeen Has.z; have h2 := HM.out; omega
set_option maxRecDepth 20000 in
theorem alls_any {W w : World} {L : List Asrt} {b : Nat} {ks : List Nat} (hS : Sat W w (Ms b ks :: L)) (F : Nat) (rc cp : Array Value) (hF : callB Tryz.prog F = true) (f : Nat → List Nat)
    (hc : ∀ w L' k, k ∈ ks → Sat W w (L' ++ L) → Calls Tryz.prog F (rc ++ [Value.int .i64 ((k : Nat) : Int)].toArray ++ cp) w fun e w' => ∃ v, e = .returned v ∧ Sat W w' (Ir v (f k) :: (L' ++ L))) :
    Calls Tryz.prog 47 #[.map (some b), .func (.func F) rc cp] w fun e w' => ∃ b' os, e = .returned (.map (some b')) ∧ (∀ n, n ∈ os ↔ ∃ m, m ∈ ks ∧ n ∈ f m) ∧ Sat W w' (Ms b' os :: Ms b ks :: L) := by
  have HC := Lib.hid hc
  have HF := Lib.hid hF
  clear hc hF
  go_enter Tryz.func47, Tryz.ntmps47
  go_wp2_with (first
    | (refine toList (by rfl) ?_; refine msMake hS _ (by rfl) ?_; intro bo w1 hS1; clear hS; have hS := hS1; clear hS1)
    | (refine toList (by rfl) ?_; refine msRange hS _ _ (by rfl) (by rfl) map_set (Has.s Has.z) ?_; intro r w1 hS1; clear hS; have hS := hS1; clear hS1; dsimp only [List.set_cons_zero, List.set_cons_succ] at hS))
  go_frame
  have H0 := Lib.hid hS.pull1
  go_loopw [] (fun wz => ∃ left cur os, AlI ks left os f ∧ Sat W wz (Mi b r ks left cur :: Ms bo os :: L)) (fun wz => ks.length - (wz.iterSeen r).size)
  case atStart => exact ⟨ks, none, [], AlI.start ks f, H0.out⟩
  case round =>
    clear hS H0
    obtain ⟨left, cur, os, hki, hS⟩ := hrel
    have HKI := Lib.hid hki
    have HL := Lib.hid (hS.miLeft Has.z)
    have HM := Lib.hid (hS.miSeen Has.z)
    clear hki
    go_wp2_with (first
      | (refine toList (by rfl) ?_; refine msNext hS _ (by rfl) (by rfl) Has.z (fun hl => ?_) (fun k w1 hk hS => ?_))
      | (refine toList (by rfl) ?_; refine wp_of_reads (rMsEntry hS _ (by rfl) (by rfl) Has.z) ?_; dsimp only [List.set_cons_zero] at hS)
      | (refine toList (by rfl) ?_; refine clV F _ _ _ (by rfl) (by rfl) (by rfl) HF.out (HC.out _ [_, _] k (HL.out.2 k hk) hS) ?_; rintro e w1 ⟨v, rfl, hS1⟩; clear hS; have hS := (show Sat W w1 (Ir v (f k) :: Mi b r ks (left.erase k) (some k) :: Ms bo os :: L) from hS1); clear hS1; obtain ⟨ao, c, rfl, hc⟩ := hS.irShape (k := 0) rfl; refine ⟨_, rfl, ?_⟩))
    · go_ret
      subst hl
      exact ⟨bo, os, rfl, fun n => by have := HKI.out n; simpa using this, hS.miEnd.pull1⟩
    · have HK := Lib.hid hk
      have HLN := Lib.hid (List.length_erase_of_mem hk)
      have HPO := Lib.hid (List.length_pos_of_mem hk)
      obtain ⟨fk, hfk⟩ : ∃ fk, f k = fk := ⟨_, rfl⟩
      have HFK := Lib.hid hfk
      rw [hfk] at hS hc ⊢
      clear hk
      have HS0 := Lib.hid hS
      have hfl : (fk.length : Int) ≤ 9223372036854775807 := by
        obtain ⟨_, _, _, h1, h2, _⟩ := hS.irRd (k := 0) rfl
        omega
      clear hfk
      go_loopw [20] (fun v wz => ∃ (i : Nat) (os : List Nat), v = .int .i64 i ∧ i ≤ fk.length ∧ AlJ ks left os f k i ∧ Sat W wz (Ir (.slice ao fk.length c) fk :: Mi b r ks (left.erase k) (some k) :: Ms bo os :: L)) (fun v _ => fk.length - (intOf v).toNat)
      case atStart => exact ⟨0, os, rfl, by omega, (fun n => by rw [HKI.out n]; simp), HS0.out⟩
      case round =>
        clear hS HS0 HKI
        obtain ⟨i, os, rfl, hi, hj, hS⟩ := hrel
        have HJ := Lib.hid hj
        clear hj
        by_cases hlt : i < fk.length
        · have k1 : (i : Int) < (fk.length : Int) := by omega
          have HLT := Lib.hid hlt
          obtain ⟨bb, off, rfl⟩ := Sat.irAddr (k := 0) hS rfl rfl (by omega)
          obtain ⟨x, hx⟩ : ∃ x, fk[i]? = some x := ⟨_, List.getElem?_eq_getElem hlt⟩
          have HX := Lib.hid (show (iv fk)[i]? = some (.int .i64 (x : Int)) by simp [iv, hx])
          have HN := Lib.hid (HJ.out.next (by rw [HFK.out]; exact hx))
          clear hx hlt
          go_wp2_with (first
            | (refine toList (by rfl) ?_; refine ldSl hS _ _ (by rfl) _ _ (by rfl) (agOf (by rfl)) Has.z i (by omega) HX.out ?_)
            | (refine toList (by rfl) ?_; refine msSt hS _ _ _ _ (.inl (by rfl)) (by rfl) x (by rfl) (by rfl) map_set key_nat (Has.s (Has.s Has.z)) ?_; intro w1 hS1; clear hS; have hS := hS1; clear hS1; dsimp only [List.set_cons_zero, List.set_cons_succ] at hS))
          exact ⟨⟨i + 1, addK os x, by go_num, HLT.out, HN.out, hS⟩, by simp [intOf]; have := HLT.out; omega⟩
        · obtain rfl : i = fk.length := by omega
          have k1 : ¬ (fk.length : Int) < (fk.length : Int) := by omega
          have HJ2 := Lib.hid (show AlJ ks left os f k (f k).length by rw [HFK.out]; exact HJ.out)
          have HD := Lib.hid (HJ2.out.done HL.out.1 HL.out.2 HK.out)
          clear hi hlt
          go_wp2
          exact ⟨⟨left.erase k, some k, os, HD.out, hS.drop⟩, by have h1 := hS.miSeen (Has.s Has.z); have h2 := HM.out; have h3 := HLN.out; have h4 := HPO.out; omega⟩
end Go.Proofs.YtpnbdnfgdiakhaaGreat
namespace Go.Proofs.YtpnbdnfgdiakhaaGreat
open Go.RowKit Go.Sep
set_option linter.unusedSimpArgs false
set_option linter.unusedVariables false
attribute [local irreducible] Go.Oper.wp Go.wpList Go.Calls Go.Code.wp Go.Sep.Reg
attribute [local irreducible] IsG
theorem swapApp {W w : World} (L' X M : List Asrt) (h : Sat W w (L' ++ (X ++ M))) : Sat W w (X ++ (L' ++ M)) := h.perm (by
  rw [← List.append_assoc, ← List.append_assoc]
  exact List.Perm.append_right M List.perm_append_comm)
/-- A look at a graph: it, its labels. -/
def lkv (p lb N : Nat) : List Value := [.pointer (some ⟨p, 0, none⟩), .slice (some ⟨lb, 0, none⟩) N N]
theorem true_any (k : Nat) (w : World) : Calls Tryz.prog 72 #[.int .i64 (k : Int)] w fun e w' => e = .returned (.bool true) ∧ w = w' := by
  go_enter Tryz.func72, Tryz.ntmps72
  go_wp2
  go_ret
  exact ⟨rfl, rfl⟩
theorem notin_any {W w : World} {L : List Asrt} {pc bo : Nat} {os : List Nat} (hS : Sat W w (Cs pc 58 [.map (some bo)] :: Ms bo os :: L)) (k : Nat) :
    Calls Tryz.prog 73 #[.int .i64 (k : Int), .pointer (some ⟨pc, 0, none⟩)] w fun e w' => e = .returned (.bool (!decide (k ∈ os))) ∧ w = w' := by
  obtain ⟨r, hr⟩ : ∃ r, decide (k ∈ os) = r := ⟨_, rfl⟩
  have HR := Lib.hid hr
  rw [hr]
  clear hr
  go_enter Tryz.func73, Tryz.ntmps73
  go_wp2_with (first
    | (refine toList (by rfl) ?_; refine ld hS _ _ (by rfl) _ _ (by rfl) (agOf (by rfl)) (by repeat first | exact Has.z | apply Has.s) (by rfl) ?_)
    | (refine toList (by rfl) ?_; refine wp_of_reads (rMsLkp hS _ _ _ (by rfl) (by rfl) k (by rfl) map_set key_nat (by kernel_rfl) (Has.s Has.z)) ?_; rw [HR.out]))
  go_ret
  exact ⟨rfl, rfl⟩
set_option maxRecDepth 20000 in
theorem kind_any {W w : World} {L : List Asrt} {pk pq lk lb p : Nat} {G : Gr} {op n : Int} {u : Value} (hS : Sat W w (Cs pk 63 [.pointer (some ⟨lk, 0, none⟩)] :: Cs pq 27 [.int .i64 op, .int .i64 n, u] :: Cs lk 66 (lkv p lb G.N.length) :: Cs lb 3 (il G.lab G.N.length) :: IsG p G :: L)) (k : Nat) {x : NodeD} (hx : G.N[k]? = some x) :
    Calls Tryz.prog 50 #[.int .i64 (k : Int), .pointer (some ⟨pk, 0, none⟩), .pointer (some ⟨pq, 0, none⟩)] w fun e w' => e = .returned (.bool (decide (x.kind = n))) ∧ Sat W w' (Cs pk 63 [.pointer (some ⟨lk, 0, none⟩)] :: Cs pq 27 [.int .i64 op, .int .i64 n, u] :: Cs lk 66 (lkv p lb G.N.length) :: Cs lb 3 (il G.lab G.N.length) :: IsG p G :: L) := by
  have HN := Lib.hid (show ∀ w M, Sat W w (IsG p G :: M) → Calls Tryz.prog 20 #[.pointer (some ⟨p, 0, none⟩), .int .i64 (k : Int)] w fun e w' => e = .returned (.tuple #[.agg (nv x).toArray, .bool true]) ∧ Sat W w' (IsG p G :: M) from fun w M h => by
    have := node_any h (k : Int)
    rwa [Gr.nodeI_at hx, Gr.is_mk (List.getElem?_eq_some_iff.1 hx).1] at this)
  clear hx
  obtain ⟨x1, x2, x3, x4, x5, x6⟩ := x
  have e1 : (x1 == n) = decide (x1 = n) := rfl
  show Calls Tryz.prog 50 #[.int .i64 (k : Int), .pointer (some ⟨pk, 0, none⟩), .pointer (some ⟨pq, 0, none⟩)] w fun e w' => e = .returned (.bool (decide (x1 = n))) ∧ Sat W w' (Cs pk 63 [.pointer (some ⟨lk, 0, none⟩)] :: Cs pq 27 [.int .i64 op, .int .i64 n, u] :: Cs lk 66 (lkv p lb G.N.length) :: Cs lb 3 (il G.lab G.N.length) :: IsG p G :: L)
  obtain ⟨r, hr⟩ : ∃ r, decide (x1 = n) = r := ⟨_, rfl⟩
  rw [hr] at e1 ⊢
  clear hr
  unfold lkv at hS ⊢
  go_enter Tryz.func50, Tryz.ntmps50
  go_wp2_with (first
    | (refine toList (by rfl) ?_; refine ld hS _ _ (by rfl) _ _ (by rfl) (agOf (by rfl)) (by repeat first | exact Has.z | apply Has.s) (by rfl) ?_)
    | (go_at_call 20; refine (HN.out _ _ (hS.re [4])).mono ?_; rintro e w1 ⟨rfl, hS1⟩; clear hS; have hS := hS1.re [1, 2, 3, 4]; clear hS1)
    | (refine toList (by rfl) ?_; refine al hS _ (by rfl) (zrOf (by rfl)) ?_; intro px w1 hS1; clear hS; have hS := hS1; clear hS1; rw [cells_agg] at hS)
    | (refine toList (by rfl) ?_; refine stW hS _ _ _ (by rfl) (by rfl) (nv ⟨x1, x2, x3, x4, x5, x6⟩) (by rfl) (nv_all _) (szOf (by rfl)) Has.z (by rfl) ?_; intro w1 hS1; clear hS; have hS := hS1; clear hS1; dsimp only [List.set_cons_zero] at hS))
  go_ret
  exact ⟨rfl, hS.drop⟩
set_option maxRecDepth 20000 in
theorem live_any {W w : World} {L : List Asrt} {pk lk lb p N : Nat} {G : Gr} (hS : Sat W w (Cs pk 63 [.pointer (some ⟨lk, 0, none⟩)] :: Cs lk 66 (lkv p lb N) :: IsG p G :: L)) (k : Nat) {x : NodeD} (hx : G.N[k]? = some x) :
    Calls Tryz.prog 52 #[.int .i64 (k : Int), .pointer (some ⟨pk, 0, none⟩)] w fun e w' => e = .returned (.bool (!x.orph)) ∧ Sat W w' (Cs pk 63 [.pointer (some ⟨lk, 0, none⟩)] :: Cs lk 66 (lkv p lb N) :: IsG p G :: L) := by
  have HN := Lib.hid (show ∀ w M, Sat W w (IsG p G :: M) → Calls Tryz.prog 20 #[.pointer (some ⟨p, 0, none⟩), .int .i64 (k : Int)] w fun e w' => e = .returned (.tuple #[.agg (nv x).toArray, .bool true]) ∧ Sat W w' (IsG p G :: M) from fun w M h => by
    have := node_any h (k : Int)
    rwa [Gr.nodeI_at hx, Gr.is_mk (List.getElem?_eq_some_iff.1 hx).1] at this)
  clear hx
  obtain ⟨x1, x2, x3, x4, x5, x6⟩ := x
  show Calls Tryz.prog 52 #[.int .i64 (k : Int), .pointer (some ⟨pk, 0, none⟩)] w fun e w' => e = .returned (.bool (!x6)) ∧ Sat W w' (Cs pk 63 [.pointer (some ⟨lk, 0, none⟩)] :: Cs lk 66 (lkv p lb N) :: IsG p G :: L)
  unfold lkv at hS ⊢
  go_enter Tryz.func52, Tryz.ntmps52
  go_wp2_with (first
    | (refine toList (by rfl) ?_; refine ld hS _ _ (by rfl) _ _ (by rfl) (agOf (by rfl)) (by repeat first | exact Has.z | apply Has.s) (by rfl) ?_)
    | (go_at_call 20; refine (HN.out _ _ (hS.re [2])).mono ?_; rintro e w1 ⟨rfl, hS1⟩; clear hS; have hS := hS1.re [1, 2]; clear hS1)
    | (refine toList (by rfl) ?_; refine al hS _ (by rfl) (zrOf (by rfl)) ?_; intro px w1 hS1; clear hS; have hS := hS1; clear hS1; rw [cells_agg] at hS)
    | (refine toList (by rfl) ?_; refine stW hS _ _ _ (by rfl) (by rfl) (nv ⟨x1, x2, x3, x4, x5, x6⟩) (by rfl) (nv_all _) (szOf (by rfl)) Has.z (by rfl) ?_; intro w1 hS1; clear hS; have hS := hS1; clear hS1; dsimp only [List.set_cons_zero] at hS))
  go_ret
  exact ⟨rfl, hS.drop⟩
set_option maxRecDepth 20000 in
theorem label_any {W w : World} {L : List Asrt} {pk pq lk lb p t : Nat} {G : Gr} {op : Int} {u : Value} (hS : Sat W w (Cs pk 63 [.pointer (some ⟨lk, 0, none⟩)] :: Cs pq 27 [.int .i64 op, .int .i64 (t : Int), u] :: Cs lk 66 (lkv p lb G.N.length) :: Cs lb 3 (il G.lab G.N.length) :: IsG p G :: L)) (ht : t < 8) (hG : G.N.length ≤ 4096) (k : Nat) (hk : k < G.N.length) :
    Calls Tryz.prog 51 #[.int .i64 (k : Int), .pointer (some ⟨pk, 0, none⟩), .pointer (some ⟨pq, 0, none⟩)] w fun e w' => e = .returned (.bool ((G.lab k).testBit t)) ∧ Sat W w' (Cs pk 63 [.pointer (some ⟨lk, 0, none⟩)] :: Cs pq 27 [.int .i64 op, .int .i64 (t : Int), u] :: Cs lk 66 (lkv p lb G.N.length) :: Cs lb 3 (il G.lab G.N.length) :: IsG p G :: L) := by
  have HA := Lib.hid (il_at (f := G.lab) hk)
  have ha := and_one (G.lab k) t (G.lab_lt k)
  obtain ⟨y, hy⟩ : ∃ y, G.lab k = y := ⟨_, rfl⟩
  rw [hy] at HA ha ⊢
  have HY := Lib.hid (show y < 256 from hy ▸ G.lab_lt k)
  clear hy
  have k1 : (k : Int) < (G.N.length : Int) := by omega
  have hti : (t : Int) < 8 := by omega
  unfold lkv at hS ⊢
  go_enter Tryz.func51, Tryz.ntmps51
  go_wp2
  refine regStart [] hS (by kernel_rfl) rfl ?_
  intro w1 hS1
  clear hS; have hS := hS1; clear hS1
  (refine rgR 0 hS (fun _ h => h) ?_; (first
        | refine ⟨_, yLd _ _ (by rfl) _ _ (by rfl) (agOf (by rfl)) (by repeat first | exact Has.z | apply Has.s) (by rfl), ?_⟩
        | refine ⟨_, yLd _ _ (by rfl) _ _ (by rfl) (agOf (by rfl)) (Has.s (Has.s (Has.s Has.z))) (by exact HA.out), ?_⟩); go_frame)
  (refine rgP 1 hS (fun _ h => h) ?_; go_frame)
  (refine rgP 2 hS (fun _ h => h) ?_; go_frame)
  (refine rgR 3 hS (fun _ h => h) ?_; (first
        | refine ⟨_, yLd _ _ (by rfl) _ _ (by rfl) (agOf (by rfl)) (by repeat first | exact Has.z | apply Has.s) (by rfl), ?_⟩
        | refine ⟨_, yLd _ _ (by rfl) _ _ (by rfl) (agOf (by rfl)) (Has.s (Has.s (Has.s Has.z))) (by exact HA.out), ?_⟩); go_frame)
  (refine rgP 4 hS (fun _ h => h) ?_; go_frame)
  (refine rgP 5 hS (fun _ h => h) ?_; go_frame)
  (refine rgR 6 hS (fun _ h => h) ?_; (first
        | refine ⟨_, yLd _ _ (by rfl) _ _ (by rfl) (agOf (by rfl)) (by repeat first | exact Has.z | apply Has.s) (by rfl), ?_⟩
        | refine ⟨_, yLd _ _ (by rfl) _ _ (by rfl) (agOf (by rfl)) (Has.s (Has.s (Has.s Has.z))) (by exact HA.out), ?_⟩); go_frame)
  (refine rgP 7 hS (fun _ h => h) ?_; go_frame)
  (refine rgR 8 hS (fun _ h => h) ?_; (first
        | refine ⟨_, yLd _ _ (by rfl) _ _ (by rfl) (agOf (by rfl)) (by repeat first | exact Has.z | apply Has.s) (by rfl), ?_⟩
        | refine ⟨_, yLd _ _ (by rfl) _ _ (by rfl) (agOf (by rfl)) (Has.s (Has.s (Has.s Has.z))) (by exact HA.out), ?_⟩); go_frame)
  (refine rgP 9 hS (fun _ h => h) ?_; go_frame)
  (refine rgP 10 hS (fun _ h => h) ?_; go_frame)
  (refine rgP 11 hS (fun _ h => h) ?_; go_frame)
  (refine rgP 12 hS (fun _ h => h) ?_; go_frame)
  refine regDone (by kernel_rfl) ?_
  go_wp2
  all_goals
    go_ret
    exact ⟨rfl, hS⟩
end Go.Proofs.YtpnbdnfgdiakhaaGreat
namespace Go.Proofs.YtpnbdnfgdiakhaaGreat
open Go.RowKit Go.Sep
set_option linter.unusedSimpArgs false
set_option linter.unusedVariables false
attribute [local irreducible] Go.Oper.wp Go.wpList Go.Calls Go.Code.wp Go.Sep.Reg
attribute [local irreducible] IsG
/-- Where a question leads, as a contract. -/
def LeadsC (W : World) (lk lb p : Nat) (G : Gr) (d : Nat) (q : StepD) : Prop :=
  ∀ (w : World) (M : List Asrt) (b : Nat) (ks : List Nat), (∀ w L', Sat W w (L' ++ M) → QRd w d q) → (∀ n ∈ ks, n < G.N.length) → Sat W w (Ms b ks :: Cs lk 66 (lkv p lb G.N.length) :: Cs lb 3 (il G.lab G.N.length) :: IsG p G :: M) →
    Calls Tryz.prog 22 #[.pointer (some ⟨lk, 0, none⟩), .agg (qv q).toArray, .map (some b)] w fun e w' => ∃ b' os, e = .returned (.map (some b')) ∧ (∀ n, n ∈ os ↔ Img (Rel G d q) (· ∈ ks) n) ∧ Sat W w' (Ms b' os :: Ms b ks :: Cs lk 66 (lkv p lb G.N.length) :: Cs lb 3 (il G.lab G.N.length) :: IsG p G :: M)
structure StInv (W : World) (b : Nat) (ks : List Nat) (pc pq lk lb p : Nat) (G : Gr) (qr : List Value) (M : List Asrt) (bo : Nat) (Rl : Nat → Nat → Prop) (st : Nat × List Nat × List Nat × List Asrt) (v : Value) (wz : World) : Prop where
  val : v = .map (some st.1)
  ok : StI Rl ks st.2.2.1 st.2.1
  low : ∀ n ∈ st.2.2.1, n < G.N.length
  row : (st.2.2.2 = [] ∧ st.1 = b ∧ st.2.1 = ks) ∨ st.2.2.2 = [Ms b ks]
  sat : Sat W wz (Ms st.1 st.2.1 :: Ms bo st.2.2.1 :: Cs pc 58 [.map (some bo)] :: Cs pq 27 qr :: Cs lk 66 (lkv p lb G.N.length) :: Cs lb 3 (il G.lab G.N.length) :: IsG p G :: (st.2.2.2 ++ M))
def stM (G : Gr) (st : Nat × List Nat × List Nat × List Asrt) : Nat := stT G.N.length st.2.2.1 st.2.1
set_option maxRecDepth 20000 in
set_option maxHeartbeats 2000000 in
theorem star_any {W w : World} {M : List Asrt} {b lk lb p d : Nat} {ks : List Nat} {G : Gr} {q : StepD} (hC : LeadsC W lk lb p G d q) (hG : G.Ok) (hq : ∀ w L', Sat W w (L' ++ M) → QRd w d q) (hks : ∀ n ∈ ks, n < G.N.length)
    (hS : Sat W w (Ms b ks :: Cs lk 66 (lkv p lb G.N.length) :: Cs lb 3 (il G.lab G.N.length) :: IsG p G :: M)) :
    Calls Tryz.prog 53 #[.pointer (some ⟨lk, 0, none⟩), .agg (qv q).toArray, .map (some b)] w fun e w' => ∃ b' os, e = .returned (.map (some b')) ∧ (∀ n, n ∈ os ↔ Img (StarR (Rel G d q)) (· ∈ ks) n) ∧ Sat W w' (Ms b' os :: Ms b ks :: Cs lk 66 (lkv p lb G.N.length) :: Cs lb 3 (il G.lab G.N.length) :: IsG p G :: M) := by
  obtain ⟨ao, nn, c, hu⟩ := (hq w [_, _, _, _] hS).shape
  obtain ⟨Rl, hRl⟩ : ∃ Rl, Rel G d q = Rl := ⟨_, rfl⟩
  have HLT := Lib.hid (fun m n (hm : m < G.N.length) (h : Rl m n) => rel_lt hG d q m n hm (by rw [hRl]; exact h))
  have HKS := Lib.hid hks
  have HCL : Hid (∀ (w : World) (M2 : List Asrt) (b : Nat) (ks : List Nat), (∀ n ∈ ks, n < G.N.length) → Sat W w (Ms b ks :: Cs lk 66 (lkv p lb G.N.length) :: Cs lb 3 (il G.lab G.N.length) :: IsG p G :: (M2 ++ M)) →
      Calls Tryz.prog 22 #[.pointer (some ⟨lk, 0, none⟩), .agg (qv q).toArray, .map (some b)] w fun e w' => ∃ b' os, e = .returned (.map (some b')) ∧ (∀ n, n ∈ os ↔ Img Rl (· ∈ ks) n) ∧ Sat W w' (Ms b' os :: Ms b ks :: Cs lk 66 (lkv p lb G.N.length) :: Cs lb 3 (il G.lab G.N.length) :: IsG p G :: (M2 ++ M))) :=
    Lib.hid (fun w M2 b ks hks h => by rw [← hRl]; exact hC w (M2 ++ M) b ks (fun w L' h => hq w (L' ++ M2) (by rw [List.append_assoc]; exact h)) hks h)
  rw [hRl]
  clear hC hq hks hRl
  obtain ⟨op, n, u, kk⟩ := q
  replace hu : u = .slice ao nn c := hu
  subst hu
  replace HCL : Hid (∀ (w : World) (M2 : List Asrt) (b : Nat) (ks : List Nat), (∀ n ∈ ks, n < G.N.length) → Sat W w (Ms b ks :: Cs lk 66 (lkv p lb G.N.length) :: Cs lb 3 (il G.lab G.N.length) :: IsG p G :: (M2 ++ M)) →
      Calls Tryz.prog 22 #[.pointer (some ⟨lk, 0, none⟩), .agg #[.int .i64 op, .int .i64 n, .slice ao nn c], .map (some b)] w fun e w' => ∃ b' os, e = .returned (.map (some b')) ∧ (∀ n, n ∈ os ↔ Img Rl (· ∈ ks) n) ∧ Sat W w' (Ms b' os :: Ms b ks :: Cs lk 66 (lkv p lb G.N.length) :: Cs lb 3 (il G.lab G.N.length) :: IsG p G :: (M2 ++ M))) := HCL
  show Calls Tryz.prog 53 #[.pointer (some ⟨lk, 0, none⟩), .agg #[.int .i64 op, .int .i64 n, .slice ao nn c], .map (some b)] w _
  go_enter Tryz.func53, Tryz.ntmps53
  go_wp2_with (first
    | (refine toList (by rfl) ?_; refine bx hS _ _ (by rfl) _ (by first | exact evC | exact evT (by rfl)) ?_; intro pq w1 hS1; clear hS; have hS := hS1; clear hS1; rw [cells_agg] at hS)
    | (go_at_call 49; refine (keeps_any (show Sat W _ (Ms b ks :: Cs pq _ _ :: Cs lk 66 (lkv p lb G.N.length) :: Cs lb 3 (il G.lab G.N.length) :: IsG p G :: M) from hS.pull1) 72 #[] #[] (by kernel_rfl) (fun _ => true) (fun w L' k _ h => (true_any k w).mono fun e w' ⟨he, hw⟩ => ⟨he, hw ▸ h⟩)).mono ?_; rintro e w1 ⟨bo, O, rfl, hO, hS1⟩; clear hS; have hS := hS1; clear hS1)
    | (refine toList (by rfl) ?_; refine al hS _ (by rfl) (zrOf (by rfl)) ?_; intro pc w1 hS1; clear hS; have hS := hS1; clear hS1; rw [show (Value.map none).cells.toList = [.map none] from rfl] at hS)
    | (refine toList (by rfl) ?_; refine st hS _ _ _ (by rfl) _ _ (by rfl) _ (by first | exact evC | exact evT (by rfl)) (by rfl) (szOf (by rfl)) (by repeat first | exact Has.z | apply Has.s) (by exact Nat.le_of_ble_eq_true rfl) ?_; intro w1 hS1; clear hS; have hS := hS1; clear hS1; dsimp only [List.set] at hS))
  go_frame
  have HOO := Lib.hid (show ∀ n, n ∈ O ↔ n ∈ ks from fun n => by rw [hO n]; simp)
  have H0 : Hid (StInv W b ks pc pq lk lb p G [.int .i64 op, .int .i64 n, .slice ao nn c] M bo Rl (b, ks, O, []) _ _) := Lib.hid ⟨rfl, StI.start HOO.out, fun n hn => HKS.out n ((HOO.out n).1 hn), .inl ⟨rfl, rfl, rfl⟩, hS.re [2, 1, 0]⟩
  clear hO
  go_loopw [2] (fun v wz => ∃ st, StInv W b ks pc pq lk lb p G [.int .i64 op, .int .i64 n, .slice ao nn c] M bo Rl st v wz) (fun v wz => minT (fun st => StInv W b ks pc pq lk lb p G [.int .i64 op, .int .i64 n, .slice ao nn c] M bo Rl st v wz) (stM G))
  case atStart => exact ⟨_, H0.out⟩
  case round =>
    clear hS H0 HOO
    obtain ⟨⟨bs, F, O, R⟩, ⟨rfl, hok, hlow, hrow, hS⟩, hmin⟩ := minT_get (T := stM G) hrel
    dsimp only at hok hlow hrow hS
    clear hrel
    cases F with
    | nil =>
      have HD := Lib.hid hok.done
      have HEND := Lib.hid (show ∀ w, Sat W w (Ms bs [] :: Ms bo O :: Cs pc 58 [.map (some bo)] :: Cs pq 27 [.int .i64 op, .int .i64 n, .slice ao nn c] :: Cs lk 66 (lkv p lb G.N.length) :: Cs lb 3 (il G.lab G.N.length) :: IsG p G :: (R ++ M)) → Sat W w (Ms bo O :: Ms b ks :: Cs lk 66 (lkv p lb G.N.length) :: Cs lb 3 (il G.lab G.N.length) :: IsG p G :: M) by
        rcases hrow with ⟨rfl, rfl, rfl⟩ | rfl
        · exact fun w h => (h.re [2, 3]).drop.drop.pull1
        · exact fun w h => (h.re [0, 2, 3]).drop.drop.drop.re [0, 4])
      clear hok hlow hrow hmin
      go_wp2_with (first
        | (refine toList (by rfl) ?_; refine wp_of_reads (rMsLen hS _ _ (by rfl) (by rfl) map_set Has.z) ?_; rw [show (([] : List Nat).length : Int) = 0 from rfl])
        | (refine toList (by rfl) ?_; refine ld hS _ _ (by rfl) _ _ (by rfl) (agOf (by rfl)) (by repeat first | exact Has.z | apply Has.s) (by rfl) ?_))
      go_ret
      exact ⟨bo, O, rfl, HD.out, HEND.out _ hS⟩
    | cons f0 F =>
      obtain ⟨F2, hF2⟩ : ∃ F2, f0 :: F = F2 := ⟨_, rfl⟩
      have HNE := Lib.hid (show F2 ≠ [] by rw [← hF2]; simp)
      have k0 : 0 < F2.length := by rw [← hF2]; simp
      have k1 : (0 : Int) < (F2.length : Int) := by omega
      rw [hF2] at hok hrow hS hmin
      have HOK := Lib.hid hok
      have HLOW := Lib.hid hlow
      have HMIN := Lib.hid hmin
      have HND := Lib.hid (hS.msOne (Has.s Has.z))
      have HCL2 : Hid (∀ w, Sat W w (Ms bs F2 :: Ms bo O :: Cs pc 58 [.map (some bo)] :: Cs pq 27 [.int .i64 op, .int .i64 n, .slice ao nn c] :: Cs lk 66 (lkv p lb G.N.length) :: Cs lb 3 (il G.lab G.N.length) :: IsG p G :: (R ++ M)) →
          Calls Tryz.prog 22 #[.pointer (some ⟨lk, 0, none⟩), .agg #[.int .i64 op, .int .i64 n, .slice ao nn c], .map (some bs)] w fun e w' => ∃ b' os, e = .returned (.map (some b')) ∧ (∀ n, n ∈ os ↔ Img Rl (· ∈ F2) n) ∧ Sat W w' (Ms b' os :: Ms bo O :: Cs pc 58 [.map (some bo)] :: Cs pq 27 [.int .i64 op, .int .i64 n, .slice ao nn c] :: Cs lk 66 (lkv p lb G.N.length) :: Cs lb 3 (il G.lab G.N.length) :: IsG p G :: Ms b ks :: M)) := Lib.hid (fun w h => by
        have h2 := HCL.out w ([Ms bo O, Cs pc 58 [.map (some bo)], Cs pq 27 [.int .i64 op, .int .i64 n, .slice ao nn c]] ++ R) bs F2 (fun n hn => HLOW.out n (HOK.out.front n hn)) (by
          rw [List.append_assoc]
          exact h.re [0, 4, 5, 6])
        refine h2.mono fun e w' ⟨b', os, he, ho, hs⟩ => ⟨b', os, he, ho, ?_⟩
        rw [List.append_assoc] at hs
        rcases hrow with ⟨rfl, rfl, rfl⟩ | rfl
        · exact hs.re [0, 5, 6, 7, 2, 3, 4, 1]
        · exact (hs.re [1, 0, 5, 6, 7, 2, 3, 4]).drop)
      clear hF2 hok hlow hrow hmin HCL
      go_wp2_with (first
        | (refine toList (by rfl) ?_; refine wp_of_reads (rMsLen hS _ _ (by rfl) (by rfl) map_set Has.z) ?_)
        | (refine toList (by rfl) ?_; refine wp_of_reads (rLdA hS _ _ (by rfl) _ _ (by rfl) (agOf (by rfl)) (szOf (by rfl)) (Has.s (Has.s (Has.s Has.z))) (vs := [.int .i64 op, .int .i64 n, .slice ao nn c]) (by rfl) (by rfl)) ?_)
        | (go_at_call 22; refine (HCL2.out _ hS).mono ?_; rintro e w1 ⟨b1, o1, rfl, ho1, hS1⟩; have HO1 := Lib.hid ho1; clear ho1; clear hS; have hS := hS1; clear hS1)
        | (go_at_call 49; refine (keeps_any hS 73 #[] #[.pointer (some ⟨pc, 0, none⟩)] (by kernel_rfl) (fun k => !decide (k ∈ O)) (fun w L' k _ h => (notin_any (swapApp L' [Ms bo O, Cs pc 58 [.map (some bo)]] _ h).pull1 k).mono fun e w' ⟨he, hw⟩ => ⟨he, hw ▸ h⟩)).mono ?_; rintro e w1 ⟨b2, o2, rfl, ho2, hS1⟩; have HO2 := Lib.hid ho2; clear ho2 hS; have hS := hS1.pull1.drop; clear hS1)
        | (refine toList (by rfl) ?_; refine msRange hS _ _ (by rfl) (by rfl) map_set Has.z ?_; intro r w1 hS1; clear hS; have hS := hS1; clear hS1; dsimp only [List.set_cons_zero, List.set_cons_succ] at hS))
      go_frame
      have HF := Lib.hid (show ∀ n, n ∈ o2 ↔ Img Rl (· ∈ F2) n ∧ n ∉ O from fun n => by rw [HO2.out n, HO1.out n]; simp)
      clear HO1 HO2
      have H1 := Lib.hid hS
      go_loopw [] (fun wz => ∃ left cur os, (∀ n, n ∈ os ↔ n ∈ O ∨ (n ∈ o2 ∧ n ∉ left)) ∧ Sat W wz (Mi b2 r o2 left cur :: Ms bo os :: Cs pc 58 [.map (some bo)] :: Cs pq 27 [.int .i64 op, .int .i64 n, .slice ao nn c] :: Cs lk 66 (lkv p lb G.N.length) :: Cs lb 3 (il G.lab G.N.length) :: IsG p G :: Ms b ks :: M)) (fun wz => o2.length - (wz.iterSeen r).size)
      case atStart => exact ⟨o2, none, O, (fun n => ⟨.inl, fun h => h.elim id fun h => absurd h.1 h.2⟩), H1.out⟩
      case round =>
        clear hS H1
        obtain ⟨left, cur, os, hki, hS⟩ := hrel
        have HKI := Lib.hid hki
        have HL := Lib.hid (hS.miLeft Has.z)
        have HM := Lib.hid (hS.miSeen Has.z)
        clear hki
        go_wp2_with (first
          | (refine toList (by rfl) ?_; refine msNext hS _ (by rfl) (by rfl) Has.z (fun hl => ?_) (fun k w1 hk hS => ?_))
          | (refine toList (by rfl) ?_; refine wp_of_reads (rMsEntry hS _ (by rfl) (by rfl) Has.z) ?_; dsimp only [List.set_cons_zero] at hS)
          | (refine toList (by rfl) ?_; refine ld hS _ _ (by rfl) _ _ (by rfl) (agOf (by rfl)) (by repeat first | exact Has.z | apply Has.s) (by rfl) ?_)
          | (refine toList (by rfl) ?_; refine msSt hS _ _ _ _ (.inl (by rfl)) (by rfl) k (by rfl) (by rfl) map_set key_nat (Has.s Has.z) ?_; intro w1 hS1; clear hS; have hS := hS1; clear hS1; dsimp only [List.set_cons_zero, List.set_cons_succ] at hS))
        · subst hl
          have hos : ∀ n, n ∈ os ↔ n ∈ O ∨ n ∈ o2 := fun n => by rw [HKI.out n]; simp
          have hlow2 : ∀ n ∈ os, n < G.N.length := fun n hn => by
            rcases (hos n).1 hn with h | h
            · exact HLOW.out n h
            · obtain ⟨⟨m, hm, hr⟩, _⟩ := (HF.out n).1 h
              exact HLT.out m n (HLOW.out m (HOK.out.front m hm)) hr
          have hst : StInv W b ks pc pq lk lb p G [.int .i64 op, .int .i64 n, .slice ao nn c] M bo Rl (b2, o2, os, [Ms b ks]) (.map (some b2)) wr := ⟨rfl, HOK.out.next HF.out hos, hlow2, .inr rfl, hS.miEnd⟩
          have hlt := stT_next HNE.out (hS.msOne (Has.s Has.z)) HND.out hlow2 hos (fun n hn => ((HF.out n).1 hn).2)
          exact ⟨⟨_, hst⟩, Nat.lt_of_le_of_lt (minT_le hst) (HMIN.out ▸ hlt)⟩
        · have HLN := List.length_erase_of_mem hk
          have HPO := List.length_pos_of_mem hk
          have h2 : ∀ n, n ∈ addK os k ↔ n ∈ O ∨ (n ∈ o2 ∧ n ∉ left.erase k) := fun n => by
            rw [mem_addK, HKI.out n, mem_erase_left HL.out.1 hk]
            constructor
            · rintro ((h | ⟨h1, h2⟩) | rfl)
              · exact .inl h
              · exact .inr ⟨h1, .inl h2⟩
              · exact .inr ⟨HL.out.2 _ hk, .inr rfl⟩
            · rintro (h | ⟨h1, h2 | h2⟩)
              · exact .inl (.inl h)
              · exact .inl (.inr ⟨h1, h2⟩)
              · exact .inr h2
          go_frame
          refine ⟨⟨_, _, _, _, _, _, _, ⟨left.erase k, some k, addK os k, h2, hS⟩, rfl⟩, ?_⟩
          have h1 := hS.miSeen Has.z
          have h3 := HM.out
          omega
end Go.Proofs.YtpnbdnfgdiakhaaGreat
