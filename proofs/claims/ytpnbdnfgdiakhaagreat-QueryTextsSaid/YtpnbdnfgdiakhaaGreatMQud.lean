/-
  Package query: where a question leads.
  Package query: List.
-/
import Derived.Test.YtpnbdnfgdiakhaaGreatMQuc
import Derived.Test.YtpnbdnfgdiakhaaGreatMGra
namespace Go.Proofs.YtpnbdnfgdiakhaaGreat
open Go.RowKit Go.Sep
set_option linter.unusedSimpArgs false
set_option linter.unusedVariables false
attribute [local irreducible] Go.Oper.wp Go.wpList Go.Calls Go.Code.wp Go.Sep.Reg
attribute [local irreducible] IsG
section
variable (G : Gr) (d : Nat) {q : StepD}
theorem rel_up (h : q.op = 1) : Rel G (d + 1) q = fun m n => (m, n) ∈ G.E := by unfold Rel; rw [if_pos h]
theorem rel_down (h : q.op = 2) : Rel G (d + 1) q = fun m n => (n, m) ∈ G.E := by unfold Rel; rw [if_neg (by omega), if_pos h]
theorem rel_kind (h : q.op = 3) : Rel G (d + 1) q = fun m n => m = n ∧ ∃ x, G.N[m]? = some x ∧ x.kind = q.n := by unfold Rel; rw [if_neg (by omega), if_neg (by omega), if_pos h]
theorem rel_label (h : q.op = 4) : Rel G (d + 1) q = fun m n => m = n ∧ (G.lab m).testBit q.n.toNat = true := by unfold Rel; rw [if_neg (by omega), if_neg (by omega), if_neg (by omega), if_pos h]
theorem rel_live (h : q.op = 8) : Rel G (d + 1) q = fun m n => m = n ∧ ∃ x, G.N[m]? = some x ∧ x.orph = false := by unfold Rel; rw [if_neg (by omega), if_neg (by omega), if_neg (by omega), if_neg (by omega), if_pos h]
theorem rel_star (h : q.op = 5) {k : StepD} (hk : q.kids[0]? = some k) : Rel G (d + 1) q = StarR (Rel G d k) := by
  conv => lhs; unfold Rel
  rw [if_neg (by omega), if_neg (by omega), if_neg (by omega), if_neg (by omega), if_neg (by omega), if_pos h]
  congr 1
  funext m n
  rw [hk]; simp
theorem rel_then (h : q.op = 7) : Rel G (d + 1) q = CompR (Rel G d) q.kids := by
  unfold Rel; rw [if_neg (by omega), if_neg (by omega), if_neg (by omega), if_neg (by omega), if_neg (by omega), if_neg (by omega), if_pos h]
theorem rel_or (h : q.op = 6) : Rel G (d + 1) q = fun m n => ∃ k ∈ q.kids, Rel G d k m n := by
  conv => lhs; unfold Rel
  rw [if_neg (by omega), if_neg (by omega), if_neg (by omega), if_neg (by omega), if_neg (by omega), if_neg (by omega), if_neg (by omega)]
end
theorem StepD.alone_4 {q : StepD} (h : q.alone = true) (e : q.op = 4) : 0 ≤ q.n ∧ q.n < 8 := by
  unfold StepD.alone at h
  rw [if_neg (by omega), if_neg (by omega), if_pos e] at h
  simp only [Bool.and_eq_true, decide_eq_true_eq] at h
  exact h.1
theorem StepD.alone_5 {q : StepD} (h : q.alone = true) (e : q.op = 5) : q.kids.length = 1 := by
  unfold StepD.alone at h
  rw [if_neg (by omega), if_neg (by omega), if_neg (by omega), if_pos e] at h
  simp only [Bool.and_eq_true, decide_eq_true_eq] at h
  exact h.2
theorem StepD.alone_7 {q : StepD} (h : q.alone = true) (e : q.op = 7) : 2 ≤ q.kids.length := by
  unfold StepD.alone at h
  rw [if_neg (by omega), if_neg (by omega), if_neg (by omega), if_neg (by omega), if_pos (by omega)] at h
  simp only [Bool.and_eq_true, decide_eq_true_eq] at h
  exact h.1.2
theorem StepD.alone_6 {q : StepD} (h : q.alone = true) (h1 : q.op ≠ 1) (h2 : q.op ≠ 2) (h3 : q.op ≠ 3) (h4 : q.op ≠ 4) (h5 : q.op ≠ 5) (h7 : q.op ≠ 7) (h8 : q.op ≠ 8) : q.op = 6 := by
  unfold StepD.alone at h
  rw [if_neg (by omega), if_neg (by omega), if_neg (by omega), if_neg (by omega)] at h
  split at h
  · omega
  · cases h
theorem ups_clo {W w : World} {L' M : List Asrt} {A B C D : Asrt} {p k : Nat} {G : Gr} (hG : G.N.length ≤ 4096) (hk : k < G.N.length) (h : Sat W w (L' ++ (A :: B :: C :: D :: IsG p G :: M))) :
    Calls Tryz.prog 46 #[.pointer (some ⟨p, 0, none⟩), .int .i64 (k : Int)] w fun e w' => ∃ v, e = .returned v ∧ Sat W w' (Ir v (G.ups k) :: (L' ++ (A :: B :: C :: D :: IsG p G :: M))) := by
  have h2 := ups_any ((swapApp L' [A, B, C, D, IsG p G] M h).re [4]) (k : Int) hG
  rw [Gr.upsI_nat hk] at h2
  exact h2.mono fun e w' ⟨v, he, hs⟩ => ⟨v, he, swapApp [A, B, C, D, IsG p G] (Ir v (G.ups k) :: L') M (hs.re [2, 3, 4, 5, 1, 0])⟩
theorem downs_clo {W w : World} {L' M : List Asrt} {A B C D : Asrt} {p k : Nat} {G : Gr} (hG : G.N.length ≤ 4096) (hk : k < G.N.length) (h : Sat W w (L' ++ (A :: B :: C :: D :: IsG p G :: M))) :
    Calls Tryz.prog 48 #[.pointer (some ⟨p, 0, none⟩), .int .i64 (k : Int)] w fun e w' => ∃ v, e = .returned v ∧ Sat W w' (Ir v (G.downs k) :: (L' ++ (A :: B :: C :: D :: IsG p G :: M))) := by
  have h2 := downs_any ((swapApp L' [A, B, C, D, IsG p G] M h).re [4]) (k : Int) hG
  rw [Gr.downsI_nat hk] at h2
  exact h2.mono fun e w' ⟨v, he, hs⟩ => ⟨v, he, swapApp [A, B, C, D, IsG p G] (Ir v (G.downs k) :: L') M (hs.re [2, 3, 4, 5, 1, 0])⟩
set_option maxRecDepth 20000 in
set_option maxHeartbeats 4000000 in
theorem leads_any {W : World} {lk lb p : Nat} {G : Gr} (hG : G.Ok) : ∀ (d : Nat) (q : StepD), q.ok d = true → LeadsC W lk lb p G d q := by
  intro d
  induction d with
  | zero => intro q h; cases h
  | succ d ih =>
    intro q hok w M b ks hq hks hS
    obtain ⟨ha, hkids⟩ := StepD.ok_succ.1 hok
    have hq0 := hq w [_, _, _, _] hS
    obtain ⟨op, n, u, kk⟩ := q
    obtain ⟨ao, c, hu, hc1, hc2, _, h5⟩ := hq0.1
    replace hu : u = .slice ao kk.length c := hu
    replace hc1 : kk.length ≤ c := hc1
    subst hu
    have hG4 := hG.len
    have HKS := Lib.hid hks
    have HG := Lib.hid hG
    have HKU := Lib.hid (hq0.kid_one)
    have H5 := Lib.hid (show 0 < kk.length → ∃ b off, ao = some ⟨b, off, none⟩ from fun h => by obtain ⟨b, off, h1, _⟩ := h5 h; exact ⟨b, off, h1⟩)
    have HR := Lib.hid (fun w L' (h : Sat W w (L' ++ M)) => show Rd w (.slice ao kk.length c) kk.length 3 (kk.flatMap qv) from (hq w L' h).1)
    have HQK := Lib.hid (fun (k : StepD) (hk : k ∈ kk) w L' (h : Sat W w (L' ++ M)) => (hq w L' h).2 k hk)
    have HIH := Lib.hid (fun (k : StepD) (hk : k ∈ kk) => (ih k (hkids k hk)))
    have hkl : (kk.length : Int) ≤ 9223372036854775807 := by omega
    show Calls Tryz.prog 22 #[.pointer (some ⟨lk, 0, none⟩), .agg #[.int .i64 op, .int .i64 n, .slice ao kk.length c], .map (some b)] w _
    clear hq hq0 hkids hok ih h5 hks hG hc1 hc2
    by_cases o1 : op = 1
    · subst o1
      rw [rel_up G d (q := .mk 1 n _ kk) rfl]
      clear ha HQK HIH HR H5 HKU
      go_enter Tryz.func22, Tryz.ntmps22
      go_wp2_with (first
        | (refine toList (by rfl) ?_; refine bx (show Sat W _ (Ms b ks :: Cs lk 66 (lkv p lb G.N.length) :: Cs lb 3 (il G.lab G.N.length) :: IsG p G :: M) from hS) _ _ (by rfl) _ (by first | exact evC | exact evT (by rfl)) ?_; intro pk w1 hS1; clear hS; have hS := (show Sat W w1 (Cs pk 63 [.pointer (some ⟨lk, 0, none⟩)] :: Ms b ks :: Cs lk 66 (lkv p lb G.N.length) :: Cs lb 3 (il G.lab G.N.length) :: IsG p G :: M) from hS1); clear hS1)
        | (refine toList (by rfl) ?_; refine bx hS _ _ (by rfl) _ (by first | exact evC | exact evT (by rfl)) ?_; intro pq w1 hS1; clear hS; have hS := hS1; clear hS1; rw [cells_agg] at hS)
        | (refine toList (by rfl) ?_; refine ld hS _ _ (by rfl) _ _ (by rfl) (agOf (by rfl)) (by repeat first | exact Has.z | apply Has.s) (by rfl) ?_)
        | (go_at_call 47; refine (alls_any (show Sat W _ (Ms b ks :: Cs pq _ _ :: Cs pk _ _ :: Cs lk 66 (lkv p lb G.N.length) :: Cs lb 3 (il G.lab G.N.length) :: IsG p G :: M) from hS.re [2]) 46 #[.pointer (some ⟨p, 0, none⟩)] #[] (by kernel_rfl) G.ups (fun w L' k hk h => ups_clo hG4 (HKS.out k hk) h)).mono ?_; rintro e w1 ⟨b', os, rfl, ho, hS1⟩; clear hS; have hS := hS1; clear hS1))
      go_ret
      exact ⟨b', os, rfl, fun x => by
        rw [ho x]
        exact ⟨fun ⟨m, h1, h2⟩ => ⟨m, h1, (Gr.mem_ups.1 h2).2⟩, fun ⟨m, h1, h2⟩ => ⟨m, h1, Gr.mem_ups.2 ⟨(HG.out.low _ h2).2, h2⟩⟩⟩, (hS.re [2, 3]).drop.drop⟩
    by_cases o2 : op = 2
    · subst o2
      rw [rel_down G d (q := .mk 2 n _ kk) rfl]
      clear ha HQK HIH HR H5 HKU
      go_enter Tryz.func22, Tryz.ntmps22
      go_wp2_with (first
        | (refine toList (by rfl) ?_; refine bx (show Sat W _ (Ms b ks :: Cs lk 66 (lkv p lb G.N.length) :: Cs lb 3 (il G.lab G.N.length) :: IsG p G :: M) from hS) _ _ (by rfl) _ (by first | exact evC | exact evT (by rfl)) ?_; intro pk w1 hS1; clear hS; have hS := (show Sat W w1 (Cs pk 63 [.pointer (some ⟨lk, 0, none⟩)] :: Ms b ks :: Cs lk 66 (lkv p lb G.N.length) :: Cs lb 3 (il G.lab G.N.length) :: IsG p G :: M) from hS1); clear hS1)
        | (refine toList (by rfl) ?_; refine bx hS _ _ (by rfl) _ (by first | exact evC | exact evT (by rfl)) ?_; intro pq w1 hS1; clear hS; have hS := hS1; clear hS1; rw [cells_agg] at hS)
        | (refine toList (by rfl) ?_; refine ld hS _ _ (by rfl) _ _ (by rfl) (agOf (by rfl)) (by repeat first | exact Has.z | apply Has.s) (by rfl) ?_)
        | (go_at_call 47; refine (alls_any (show Sat W _ (Ms b ks :: Cs pq _ _ :: Cs pk _ _ :: Cs lk 66 (lkv p lb G.N.length) :: Cs lb 3 (il G.lab G.N.length) :: IsG p G :: M) from hS.re [2]) 48 #[.pointer (some ⟨p, 0, none⟩)] #[] (by kernel_rfl) G.downs (fun w L' k hk h => downs_clo hG4 (HKS.out k hk) h)).mono ?_; rintro e w1 ⟨b', os, rfl, ho, hS1⟩; clear hS; have hS := hS1; clear hS1))
      go_ret
      exact ⟨b', os, rfl, fun x => by
        rw [ho x]
        exact ⟨fun ⟨m, h1, h2⟩ => ⟨m, h1, (Gr.mem_downs.1 h2).2⟩, fun ⟨m, h1, h2⟩ => ⟨m, h1, Gr.mem_downs.2 ⟨(HG.out.low _ h2).1, h2⟩⟩⟩, (hS.re [2, 3]).drop.drop⟩
    by_cases o3 : op = 3
    · subst o3
      rw [rel_kind G d (q := .mk 3 n _ kk) rfl]
      clear ha HQK HIH HR H5 HKU
      obtain ⟨T, hT⟩ : ∃ T : Nat → Bool, T = fun (k : Nat) => decide ((G.nodeI (k : Int)).kind = n) := ⟨_, rfl⟩
      have HT := Lib.hid (fun pk pq w L' k (hk : k ∈ ks) (h : Sat W w (L' ++ (Cs pk 63 [.pointer (some ⟨lk, 0, none⟩)] :: Cs pq 27 [.int .i64 3, .int .i64 n, .slice ao kk.length c] :: Cs lk 66 (lkv p lb G.N.length) :: Cs lb 3 (il G.lab G.N.length) :: IsG p G :: M))) =>
        show Calls Tryz.prog 50 #[.int .i64 (k : Int), .pointer (some ⟨pk, 0, none⟩), .pointer (some ⟨pq, 0, none⟩)] w (fun e w' => e = .returned (.bool (T k)) ∧ Sat W w' (L' ++ (Cs pk 63 [.pointer (some ⟨lk, 0, none⟩)] :: Cs pq 27 [.int .i64 3, .int .i64 n, .slice ao kk.length c] :: Cs lk 66 (lkv p lb G.N.length) :: Cs lb 3 (il G.lab G.N.length) :: IsG p G :: M))) by
          obtain ⟨x, hx⟩ : ∃ x, G.N[k]? = some x := ⟨_, List.getElem?_eq_getElem (HKS.out k hk)⟩
          rw [show T k = decide (x.kind = n) by rw [hT]; show decide ((G.nodeI (k : Int)).kind = n) = _; rw [Gr.nodeI_at hx]]
          exact (kind_any (swapApp L' [_, _, _, _, _] M h) k hx).mono fun e w' ⟨he, hs⟩ => ⟨he, swapApp [_, _, _, _, _] L' M hs⟩)
      have HTT := Lib.hid hT
      clear hT
      go_enter Tryz.func22, Tryz.ntmps22
      go_wp2_with (first
        | (refine toList (by rfl) ?_; refine bx (show Sat W _ (Ms b ks :: Cs lk 66 (lkv p lb G.N.length) :: Cs lb 3 (il G.lab G.N.length) :: IsG p G :: M) from hS) _ _ (by rfl) _ (by first | exact evC | exact evT (by rfl)) ?_; intro pk w1 hS1; clear hS; have hS := (show Sat W w1 (Cs pk 63 [.pointer (some ⟨lk, 0, none⟩)] :: Ms b ks :: Cs lk 66 (lkv p lb G.N.length) :: Cs lb 3 (il G.lab G.N.length) :: IsG p G :: M) from hS1); clear hS1)
        | (refine toList (by rfl) ?_; refine bx hS _ _ (by rfl) _ (by first | exact evC | exact evT (by rfl)) ?_; intro pq w1 hS1; clear hS; have hS := hS1; clear hS1; rw [cells_agg] at hS)
        | (refine toList (by rfl) ?_; refine ld hS _ _ (by rfl) _ _ (by rfl) (agOf (by rfl)) (by repeat first | exact Has.z | apply Has.s) (by rfl) ?_)
        | (go_at_call 49; refine (keeps_any (show Sat W _ (Ms b ks :: Cs pk _ _ :: Cs pq _ _ :: Cs lk 66 (lkv p lb G.N.length) :: Cs lb 3 (il G.lab G.N.length) :: IsG p G :: M) from hS.re [2, 1, 0]) 50 #[] #[.pointer (some ⟨pk, 0, none⟩), .pointer (some ⟨pq, 0, none⟩)] (by kernel_rfl) T (HT.out pk pq)).mono ?_; rintro e w1 ⟨b', os, rfl, ho, hS1⟩; clear hS; have hS := hS1; clear hS1))
      go_ret
      exact ⟨b', os, rfl, fun x => by
        rw [ho x, HTT.out, decide_eq_true_eq]
        constructor
        · rintro ⟨h1, h2⟩
          obtain ⟨y, hy⟩ : ∃ y, G.N[x]? = some y := ⟨_, List.getElem?_eq_getElem (HKS.out x h1)⟩
          rw [Gr.nodeI_at hy] at h2
          exact ⟨x, h1, rfl, y, hy, h2⟩
        · rintro ⟨m, h1, rfl, y, hy, h2⟩
          exact ⟨h1, by rw [Gr.nodeI_at hy]; exact h2⟩, (hS.re [2, 3]).drop.drop⟩
    by_cases o4 : op = 4
    · subst o4
      rw [rel_label G d (q := .mk 4 n _ kk) rfl]
      have hnn : 0 ≤ n ∧ n < 8 := StepD.alone_4 ha rfl
      obtain ⟨t, rfl⟩ : ∃ t : Nat, n = t := ⟨n.toNat, by omega⟩
      have ht : t < 8 := by omega
      clear ha HQK HIH HR H5 HKU hnn
      have HT := Lib.hid (fun pk pq w L' k (hk : k ∈ ks) (h : Sat W w (L' ++ (Cs pk 63 [.pointer (some ⟨lk, 0, none⟩)] :: Cs pq 27 [.int .i64 4, .int .i64 (t : Int), .slice ao kk.length c] :: Cs lk 66 (lkv p lb G.N.length) :: Cs lb 3 (il G.lab G.N.length) :: IsG p G :: M))) =>
        show Calls Tryz.prog 51 #[.int .i64 (k : Int), .pointer (some ⟨pk, 0, none⟩), .pointer (some ⟨pq, 0, none⟩)] w (fun e w' => e = .returned (.bool ((G.lab k).testBit t)) ∧ Sat W w' (L' ++ (Cs pk 63 [.pointer (some ⟨lk, 0, none⟩)] :: Cs pq 27 [.int .i64 4, .int .i64 (t : Int), .slice ao kk.length c] :: Cs lk 66 (lkv p lb G.N.length) :: Cs lb 3 (il G.lab G.N.length) :: IsG p G :: M))) from
          (label_any (swapApp L' [_, _, _, _, _] M h) ht hG4 k (HKS.out k hk)).mono fun e w' ⟨he, hs⟩ => ⟨he, swapApp [_, _, _, _, _] L' M hs⟩)
      obtain ⟨T, hT⟩ : ∃ T : Nat → Bool, T = fun (k : Nat) => (G.lab k).testBit t := ⟨_, rfl⟩
      have HT2 := Lib.hid (fun pk pq w L' k (hk : k ∈ ks) (h : Sat W w (L' ++ (Cs pk 63 [.pointer (some ⟨lk, 0, none⟩)] :: Cs pq 27 [.int .i64 4, .int .i64 (t : Int), .slice ao kk.length c] :: Cs lk 66 (lkv p lb G.N.length) :: Cs lb 3 (il G.lab G.N.length) :: IsG p G :: M))) =>
        show Calls Tryz.prog 51 #[.int .i64 (k : Int), .pointer (some ⟨pk, 0, none⟩), .pointer (some ⟨pq, 0, none⟩)] w (fun e w' => e = .returned (.bool (T k)) ∧ Sat W w' (L' ++ (Cs pk 63 [.pointer (some ⟨lk, 0, none⟩)] :: Cs pq 27 [.int .i64 4, .int .i64 (t : Int), .slice ao kk.length c] :: Cs lk 66 (lkv p lb G.N.length) :: Cs lb 3 (il G.lab G.N.length) :: IsG p G :: M))) by
          rw [hT]; exact HT.out pk pq w L' k hk h)
      have HTT := Lib.hid hT
      clear hT HT
      go_enter Tryz.func22, Tryz.ntmps22
      go_wp2_with (first
        | (refine toList (by rfl) ?_; refine bx (show Sat W _ (Ms b ks :: Cs lk 66 (lkv p lb G.N.length) :: Cs lb 3 (il G.lab G.N.length) :: IsG p G :: M) from hS) _ _ (by rfl) _ (by first | exact evC | exact evT (by rfl)) ?_; intro pk w1 hS1; clear hS; have hS := (show Sat W w1 (Cs pk 63 [.pointer (some ⟨lk, 0, none⟩)] :: Ms b ks :: Cs lk 66 (lkv p lb G.N.length) :: Cs lb 3 (il G.lab G.N.length) :: IsG p G :: M) from hS1); clear hS1)
        | (refine toList (by rfl) ?_; refine bx hS _ _ (by rfl) _ (by first | exact evC | exact evT (by rfl)) ?_; intro pq w1 hS1; clear hS; have hS := hS1; clear hS1; rw [cells_agg] at hS)
        | (refine toList (by rfl) ?_; refine ld hS _ _ (by rfl) _ _ (by rfl) (agOf (by rfl)) (by repeat first | exact Has.z | apply Has.s) (by rfl) ?_)
        | (go_at_call 49; refine (keeps_any (show Sat W _ (Ms b ks :: Cs pk _ _ :: Cs pq _ _ :: Cs lk 66 (lkv p lb G.N.length) :: Cs lb 3 (il G.lab G.N.length) :: IsG p G :: M) from hS.re [2, 1, 0]) 51 #[] #[.pointer (some ⟨pk, 0, none⟩), .pointer (some ⟨pq, 0, none⟩)] (by kernel_rfl) T (HT2.out pk pq)).mono ?_; rintro e w1 ⟨b', os, rfl, ho, hS1⟩; clear hS; have hS := hS1; clear hS1))
      go_ret
      exact ⟨b', os, rfl, fun x => by
        rw [ho x, HTT.out]
        constructor
        · rintro ⟨h1, h2⟩
          exact ⟨x, h1, rfl, h2⟩
        · rintro ⟨m, h1, rfl, h2⟩
          exact ⟨h1, h2⟩, (hS.re [2, 3]).drop.drop⟩
    by_cases o8 : op = 8
    · subst o8
      rw [rel_live G d (q := .mk 8 n _ kk) rfl]
      clear ha HQK HIH HR H5 HKU
      obtain ⟨T, hT⟩ : ∃ T : Nat → Bool, T = fun (k : Nat) => !(G.nodeI (k : Int)).orph := ⟨_, rfl⟩
      have HT := Lib.hid (fun pk pq w L' k (hk : k ∈ ks) (h : Sat W w (L' ++ (Cs pk 63 [.pointer (some ⟨lk, 0, none⟩)] :: Cs pq 27 [.int .i64 8, .int .i64 n, .slice ao kk.length c] :: Cs lk 66 (lkv p lb G.N.length) :: Cs lb 3 (il G.lab G.N.length) :: IsG p G :: M))) =>
        show Calls Tryz.prog 52 #[.int .i64 (k : Int), .pointer (some ⟨pk, 0, none⟩)] w (fun e w' => e = .returned (.bool (T k)) ∧ Sat W w' (L' ++ (Cs pk 63 [.pointer (some ⟨lk, 0, none⟩)] :: Cs pq 27 [.int .i64 8, .int .i64 n, .slice ao kk.length c] :: Cs lk 66 (lkv p lb G.N.length) :: Cs lb 3 (il G.lab G.N.length) :: IsG p G :: M))) by
          obtain ⟨x, hx⟩ : ∃ x, G.N[k]? = some x := ⟨_, List.getElem?_eq_getElem (HKS.out k hk)⟩
          rw [show T k = !x.orph by rw [hT]; show (!(G.nodeI (k : Int)).orph) = _; rw [Gr.nodeI_at hx]]
          have h2 := swapApp L' [Cs pk 63 [.pointer (some ⟨lk, 0, none⟩)], Cs pq 27 [.int .i64 8, .int .i64 n, .slice ao kk.length c], Cs lk 66 (lkv p lb G.N.length), Cs lb 3 (il G.lab G.N.length), IsG p G] M h
          exact (live_any (h2.re [0, 2, 4]) k hx).mono fun e w' ⟨he, hs⟩ => ⟨he, swapApp [Cs pk 63 [.pointer (some ⟨lk, 0, none⟩)], Cs pq 27 [.int .i64 8, .int .i64 n, .slice ao kk.length c], Cs lk 66 (lkv p lb G.N.length), Cs lb 3 (il G.lab G.N.length), IsG p G] L' M (hs.re [0, 3, 1, 4, 2])⟩)
      have HTT := Lib.hid hT
      clear hT
      go_enter Tryz.func22, Tryz.ntmps22
      go_wp2_with (first
        | (refine toList (by rfl) ?_; refine bx (show Sat W _ (Ms b ks :: Cs lk 66 (lkv p lb G.N.length) :: Cs lb 3 (il G.lab G.N.length) :: IsG p G :: M) from hS) _ _ (by rfl) _ (by first | exact evC | exact evT (by rfl)) ?_; intro pk w1 hS1; clear hS; have hS := (show Sat W w1 (Cs pk 63 [.pointer (some ⟨lk, 0, none⟩)] :: Ms b ks :: Cs lk 66 (lkv p lb G.N.length) :: Cs lb 3 (il G.lab G.N.length) :: IsG p G :: M) from hS1); clear hS1)
        | (refine toList (by rfl) ?_; refine bx hS _ _ (by rfl) _ (by first | exact evC | exact evT (by rfl)) ?_; intro pq w1 hS1; clear hS; have hS := hS1; clear hS1; rw [cells_agg] at hS)
        | (refine toList (by rfl) ?_; refine ld hS _ _ (by rfl) _ _ (by rfl) (agOf (by rfl)) (by repeat first | exact Has.z | apply Has.s) (by rfl) ?_)
        | (go_at_call 49; refine (keeps_any (show Sat W _ (Ms b ks :: Cs pk _ _ :: Cs pq _ _ :: Cs lk 66 (lkv p lb G.N.length) :: Cs lb 3 (il G.lab G.N.length) :: IsG p G :: M) from hS.re [2, 1, 0]) 52 #[] #[.pointer (some ⟨pk, 0, none⟩)] (by kernel_rfl) T (HT.out pk pq)).mono ?_; rintro e w1 ⟨b', os, rfl, ho, hS1⟩; clear hS; have hS := hS1; clear hS1))
      go_ret
      exact ⟨b', os, rfl, fun x => by
        rw [ho x, HTT.out, Bool.not_eq_true']
        constructor
        · rintro ⟨h1, h2⟩
          obtain ⟨y, hy⟩ : ∃ y, G.N[x]? = some y := ⟨_, List.getElem?_eq_getElem (HKS.out x h1)⟩
          rw [Gr.nodeI_at hy] at h2
          exact ⟨x, h1, rfl, y, hy, h2⟩
        · rintro ⟨m, h1, rfl, y, hy, h2⟩
          exact ⟨h1, by rw [Gr.nodeI_at hy]; exact h2⟩, (hS.re [2, 3]).drop.drop⟩
    by_cases o5 : op = 5
    · subst o5
      have hl1 : kk.length = 1 := StepD.alone_5 ha rfl
      obtain ⟨k, rfl⟩ := List.length_eq_one_iff.1 hl1
      clear hl1
      rw [rel_star G d (q := .mk 5 n _ [k]) rfl (k := k) rfl]
      obtain ⟨bb, off, rfl⟩ := H5.out (by simp)
      have hku := HKU.out k (by exact List.mem_singleton.2 rfl)
      have HST := Lib.hid (fun w M2 (h : Sat W w (Ms b ks :: Cs lk 66 (lkv p lb G.N.length) :: Cs lb 3 (il G.lab G.N.length) :: IsG p G :: (M2 ++ M))) => star_any (HIH.out k (List.mem_singleton.2 rfl)) HG.out (fun w L' h => HQK.out k (List.mem_singleton.2 rfl) w (L' ++ M2) (by rw [List.append_assoc]; exact h)) HKS.out h)
      obtain ⟨Rl, hRl⟩ : ∃ Rl, Rel G d k = Rl := ⟨_, rfl⟩
      rw [hRl] at HST ⊢
      clear ha HQK HIH H5 HKU hRl
      obtain ⟨ko, kn, ku, kk⟩ := k
      replace hku : ku.oneCell' = true := hku
      replace HST := Lib.hid (fun w M2 (h : Sat W w (Ms b ks :: Cs lk 66 (lkv p lb G.N.length) :: Cs lb 3 (il G.lab G.N.length) :: IsG p G :: (M2 ++ M))) => show Calls Tryz.prog 53 #[.pointer (some ⟨lk, 0, none⟩), .agg #[.int .i64 ko, .int .i64 kn, ku], .map (some b)] w _ from HST.out w M2 h)
      replace HR : Hid (∀ w L', Sat W w (L' ++ M) → Rd w (.slice (some ⟨bb, off, none⟩) 1 c) 1 3 ([StepD.mk ko kn ku kk].flatMap qv)) := HR
      have k1 : (1 : Int) ≤ 9223372036854775807 := by decide
      show Calls Tryz.prog 22 #[.pointer (some ⟨lk, 0, none⟩), .agg #[.int .i64 5, .int .i64 n, .slice (some ⟨bb, off, none⟩) 1 c], .map (some b)] w _
      go_enter Tryz.func22, Tryz.ntmps22
      go_wp2_with (first
        | (refine toList (by rfl) ?_; refine bx (show Sat W _ (Ms b ks :: Cs lk 66 (lkv p lb G.N.length) :: Cs lb 3 (il G.lab G.N.length) :: IsG p G :: M) from hS) _ _ (by rfl) _ (by first | exact evC | exact evT (by rfl)) ?_; intro pk w1 hS1; clear hS; have hS := (show Sat W w1 (Cs pk 63 [.pointer (some ⟨lk, 0, none⟩)] :: Ms b ks :: Cs lk 66 (lkv p lb G.N.length) :: Cs lb 3 (il G.lab G.N.length) :: IsG p G :: M) from hS1); clear hS1)
        | (refine toList (by rfl) ?_; refine bx hS _ _ (by rfl) _ (by first | exact evC | exact evT (by rfl)) ?_; intro pq w1 hS1; clear hS; have hS := hS1; clear hS1; rw [cells_agg] at hS)
        | (refine toList (by rfl) ?_; refine ld hS _ _ (by rfl) _ _ (by rfl) (agOf (by rfl)) (by repeat first | exact Has.z | apply Has.s) (by rfl) ?_))
      refine regStart [6] hS (by kernel_rfl) rfl ?_
      intro w1 hS1
      clear hS; have hS := hS1; clear hS1
      (refine rgR 0 hS (fun _ h => h) ?_; (first
                    | refine ⟨_, yLd _ _ (by rfl) _ _ (by rfl) (agOf (by rfl)) (by repeat first | exact Has.z | apply Has.s) (by rfl), ?_⟩
                    | refine ⟨.agg #[.int .i64 ko, .int .i64 kn, ku], fun u hu => rLdRdA (f := qv) (x := .mk ko kn ku kk) (HR.out _ [_, _, _, _, _, _] hu) (qv_len _) _ _ (by rfl) _ (by rfl) (agOf (by rfl)) (szOf (by rfl)) 0 (by omega) (by rfl) (by omega), ?_⟩); go_frame)
      (refine rgP 1 hS (fun _ h => h) ?_; go_frame)
      (refine rgR 2 hS (fun _ h => h) ?_; (first
                    | refine ⟨_, yLd _ _ (by rfl) _ _ (by rfl) (agOf (by rfl)) (by repeat first | exact Has.z | apply Has.s) (by rfl), ?_⟩
                    | refine ⟨.agg #[.int .i64 ko, .int .i64 kn, ku], fun u hu => rLdRdA (f := qv) (x := .mk ko kn ku kk) (HR.out _ [_, _, _, _, _, _] hu) (qv_len _) _ _ (by rfl) _ (by rfl) (agOf (by rfl)) (szOf (by rfl)) 0 (by omega) (by rfl) (by omega), ?_⟩); go_frame)
      (refine rgP 3 hS (fun _ h => h) ?_; go_frame)
      (refine rgR 4 hS (fun _ h => h) ?_; (first
                    | refine ⟨_, yLd _ _ (by rfl) _ _ (by rfl) (agOf (by rfl)) (by repeat first | exact Has.z | apply Has.s) (by rfl), ?_⟩
                    | refine ⟨.agg #[.int .i64 ko, .int .i64 kn, ku], fun u hu => rLdRdA (f := qv) (x := .mk ko kn ku kk) (HR.out _ [_, _, _, _, _, _] hu) (qv_len _) _ _ (by rfl) _ (by rfl) (agOf (by rfl)) (szOf (by rfl)) 0 (by omega) (by rfl) (by omega), ?_⟩); go_frame)
      (refine rgP 5 hS (fun _ h => h) ?_; go_frame)
      (refine rgA 6 true fun K hK => ?_; (refine Go.Sep.cl 53 _ _ (by rfl) (by rfl) (by kernel_rfl) (HST.out _ [_, _] (hS.re [2, 3, 4, 5, 0, 1])) ?_; rintro e w1 ⟨b', os, rfl, ho, hS1⟩; clear hS; have hS := hS1; clear hS1; refine ⟨_, rfl, ?_⟩); refine hK _ _ _ hS (by first | (intro h; cases h; done) | exact fun _ _ h => h | exact fun _ _ h => h.drop | exact fun _ _ h => h.drop.drop | exact fun _ _ h => h.drop.pull1 | exact fun _ _ h => h.take2 | exact fun _ _ h => h.one Has.z | exact fun _ _ h => h.one (Has.s Has.z) | exact fun _ _ h => h.one (Has.s (Has.s Has.z))) ?_; clear hK K; go_frame)
      (refine rgP 7 hS (fun _ h => h) ?_; go_frame)
      refine regDone (by kernel_rfl) ?_
      go_wp2
      go_ret
      exact ⟨b', os, rfl, ho, (hS.re [5, 6]).drop.drop⟩
    by_cases o7 : op = 7
    · subst o7
      rw [rel_then G d (q := .mk 7 n _ kk) rfl]
      have hl2 : 2 ≤ kk.length := StepD.alone_7 ha rfl
      have HL2 := Lib.hid hl2
      clear ha hl2
      go_enter Tryz.func22, Tryz.ntmps22
      go_wp2_with (first
        | (refine toList (by rfl) ?_; refine bx (show Sat W _ (Ms b ks :: Cs lk 66 (lkv p lb G.N.length) :: Cs lb 3 (il G.lab G.N.length) :: IsG p G :: M) from hS) _ _ (by rfl) _ (by first | exact evC | exact evT (by rfl)) ?_; intro pk w1 hS1; clear hS; have hS := (show Sat W w1 (Cs pk 63 [.pointer (some ⟨lk, 0, none⟩)] :: Ms b ks :: Cs lk 66 (lkv p lb G.N.length) :: Cs lb 3 (il G.lab G.N.length) :: IsG p G :: M) from hS1); clear hS1)
        | (refine toList (by rfl) ?_; refine bx hS _ _ (by rfl) _ (by first | exact evC | exact evT (by rfl)) ?_; intro pq w1 hS1; clear hS; have hS := hS1; clear hS1; rw [cells_agg] at hS)
        | (refine toList (by rfl) ?_; refine ld hS _ _ (by rfl) _ _ (by rfl) (agOf (by rfl)) (by repeat first | exact Has.z | apply Has.s) (by rfl) ?_))
      have H0 := Lib.hid (show Sat W _ (Ms b ks :: Cs pq 27 [.int .i64 7, .int .i64 n, .slice ao kk.length c] :: Cs pk 63 [.pointer (some ⟨lk, 0, none⟩)] :: Cs lk 66 (lkv p lb G.N.length) :: Cs lb 3 (il G.lab G.N.length) :: IsG p G :: ([] ++ M)) from hS.re [2, 0, 1])
      go_loopw [2, 62] (fun v2 v62 wz => ∃ (i b' : Nat) (os : List Nat) (R : List Asrt), v62 = .int .i64 i ∧ v2 = .map (some b') ∧ i ≤ kk.length ∧ (∀ n, n ∈ os ↔ Img (CompR (Rel G d) (kk.take i)) (· ∈ ks) n) ∧ (∀ n ∈ os, n < G.N.length) ∧ ((i = 0 ∧ R = [] ∧ b' = b ∧ os = ks) ∨ (0 < i ∧ R = [Ms b ks])) ∧
          Sat W wz (Ms b' os :: Cs pq 27 [.int .i64 7, .int .i64 n, .slice ao kk.length c] :: Cs pk 63 [.pointer (some ⟨lk, 0, none⟩)] :: Cs lk 66 (lkv p lb G.N.length) :: Cs lb 3 (il G.lab G.N.length) :: IsG p G :: (R ++ M))) (fun _ v62 _ => kk.length - (intOf v62).toNat)
      case atStart => exact ⟨0, b, ks, [], rfl, rfl, by omega, (fun x => ⟨fun h => ⟨x, h, rfl⟩, fun ⟨m, h1, h2⟩ => by cases h2; exact h1⟩), HKS.out, .inl ⟨rfl, rfl, rfl, rfl⟩, H0.out⟩
      case round =>
        clear hS H0
        obtain ⟨i, b', os, R, rfl, rfl, hi, hos, hlow, hrow, hS⟩ := hrel
        have HOS := Lib.hid hos
        have HLOW := Lib.hid hlow
        clear hos hlow
        by_cases hlt : i < kk.length
        · have k1 : (i : Int) < (kk.length : Int) := by omega
          have HLTI := Lib.hid hlt
          obtain ⟨bb, off, rfl⟩ := H5.out (by omega)
          obtain ⟨k, hx⟩ : ∃ k, kk[i]? = some k := ⟨_, List.getElem?_eq_getElem hlt⟩
          have hkm := List.mem_of_getElem? hx
          have HX := Lib.hid hx
          have hku := HKU.out k hkm
          have HTK := Lib.hid (show kk.take (i + 1) = kk.take i ++ [k] by rw [List.take_add_one, hx]; rfl)
          have HRL := Lib.hid (fun m x (hm : m < G.N.length) (h : Rel G d k m x) => rel_lt HG.out d k m x hm h)
          have HR2 := Lib.hid (fun w X (h : Sat W w (X ++ (R ++ M))) => HR.out w (X ++ R) (by rw [List.append_assoc]; exact h))
          obtain ⟨ko, kn, ku, kkk⟩ := k
          replace hku : ku.oneCell' = true := hku
          have HCL2 := Lib.hid (fun w pt (h : Sat W w (Cs pt 27 [.int .i64 ko, .int .i64 kn, ku] :: Ms b' os :: Cs pq 27 [.int .i64 7, .int .i64 n, .slice (some ⟨bb, off, none⟩) kk.length c] :: Cs pk 63 [.pointer (some ⟨lk, 0, none⟩)] :: Cs lk 66 (lkv p lb G.N.length) :: Cs lb 3 (il G.lab G.N.length) :: IsG p G :: (R ++ M))) =>
              show Calls Tryz.prog 22 #[.pointer (some ⟨lk, 0, none⟩), .agg #[.int .i64 ko, .int .i64 kn, ku], .map (some b')] w (fun e w' => ∃ b2 o2, e = .returned (.map (some b2)) ∧ (∀ n, n ∈ o2 ↔ Img (Rel G d (.mk ko kn ku kkk)) (· ∈ os) n) ∧ Sat W w' (Ms b2 o2 :: Cs pq 27 [.int .i64 7, .int .i64 n, .slice (some ⟨bb, off, none⟩) kk.length c] :: Cs pk 63 [.pointer (some ⟨lk, 0, none⟩)] :: Cs lk 66 (lkv p lb G.N.length) :: Cs lb 3 (il G.lab G.N.length) :: IsG p G :: ([Ms b ks] ++ M))) by
            have h2 := HIH.out _ hkm w ([Cs pq 27 [.int .i64 7, .int .i64 n, .slice (some ⟨bb, off, none⟩) kk.length c], Cs pk 63 [.pointer (some ⟨lk, 0, none⟩)]] ++ R ++ M) b' os (fun w L' h => HQK.out _ hkm w (L' ++ ([Cs pq 27 [.int .i64 7, .int .i64 n, .slice (some ⟨bb, off, none⟩) kk.length c], Cs pk 63 [.pointer (some ⟨lk, 0, none⟩)]] ++ R)) (by rw [List.append_assoc]; exact h)) HLOW.out (by
              rw [List.append_assoc]
              exact h.drop.re [0, 3, 4, 5, 1, 2])
            refine h2.mono fun e w' ⟨b2, o2, he, ho, hs⟩ => ⟨b2, o2, he, ho, ?_⟩
            rw [List.append_assoc] at hs
            rcases hrow with ⟨_, rfl, rfl, rfl⟩ | ⟨_, rfl⟩
            · exact hs.re [0, 5, 6, 2, 3, 4, 1]
            · exact (hs.re [1, 0, 5, 6, 2, 3, 4]).drop)
          clear hx hlt hkm hi hrow
          go_wp2_with (first
            | (refine toList (by rfl) ?_; refine wp_of_reads (rLdRdA (f := qv) (x := .mk ko kn ku kkk) (HR2.out _ [_, _, _, _, _, _] hS) (qv_len kk) _ _ (by rfl) _ (by rfl) (agOf (by rfl)) (szOf (by rfl)) i (by omega) HX.out (by omega)) ?_)
            | (refine toList (by rfl) ?_; refine al hS _ (by rfl) (zrOf (by rfl)) ?_; intro pt w1 hS1; clear hS; have hS := hS1; clear hS1; rw [cells_agg] at hS)
            | (refine toList (by rfl) ?_; refine stW hS _ _ _ (by rfl) (by rfl) [.int .i64 ko, .int .i64 kn, ku] (by rfl) (by exact three_one hku) (szOf (by rfl)) Has.z (by rfl) ?_; intro w1 hS1; clear hS; have hS := hS1; clear hS1; dsimp only [List.set_cons_zero] at hS)
            | (refine toList (by rfl) ?_; refine wp_of_reads (rLdA hS _ _ (by rfl) _ _ (by rfl) (agOf (by rfl)) (szOf (by rfl)) Has.z (vs := [.int .i64 ko, .int .i64 kn, ku]) (by rfl) (by rfl)) ?_)
            | (refine toList (by rfl) ?_; refine ld hS _ _ (by rfl) _ _ (by rfl) (agOf (by rfl)) (by repeat first | exact Has.z | apply Has.s) (by rfl) ?_)
            | (go_at_call 22; refine (HCL2.out _ _ hS).mono ?_; rintro e w1 ⟨b2, o2, rfl, ho, hS1⟩; clear hS; have hS := hS1; clear hS1))
          have hos2 : ∀ x, x ∈ o2 ↔ Img (CompR (Rel G d) (kk.take (i + 1))) (· ∈ ks) x := fun x => by
            rw [HTK.out, img_comp, ho x]
            exact img_congr HOS.out x
          exact ⟨⟨i + 1, b2, o2, [Ms b ks], by go_num, rfl, HLTI.out, hos2, (fun x hx => by obtain ⟨m, hm, hr⟩ := (ho x).1 hx; exact HRL.out m x (HLOW.out m hm) hr), .inr ⟨by omega, rfl⟩, hS⟩, by simp [intOf]; have := HLTI.out; omega⟩
        · obtain rfl : i = kk.length := by omega
          have k1 : ¬ (kk.length : Int) < (kk.length : Int) := by omega
          have hl2 := HL2.out
          have HR1 := Lib.hid (show R = [Ms b ks] by rcases hrow with ⟨h, _⟩ | ⟨_, h⟩; omega; exact h)
          have HOS2 := Lib.hid (show ∀ n, n ∈ os ↔ Img (CompR (Rel G d) kk) (· ∈ ks) n by have := HOS.out; rwa [List.take_length] at this)
          clear hi hlt hl2 hrow
          go_wp2
          go_ret
          rw [HR1.out] at hS
          exact ⟨b', rfl, os, HOS2.out, (hS.re [1, 2, 0, 6, 3, 4, 5]).drop.drop⟩
    · have o6 : op = 6 := StepD.alone_6 ha o1 o2 o3 o4 o5 o7 o8
      subst o6
      rw [rel_or G d (q := .mk 6 n _ kk) rfl]
      clear ha o1 o2 o3 o4 o5 o7 o8
      go_enter Tryz.func22, Tryz.ntmps22
      go_wp2_with (first
        | (refine toList (by rfl) ?_; refine bx (show Sat W _ (Ms b ks :: Cs lk 66 (lkv p lb G.N.length) :: Cs lb 3 (il G.lab G.N.length) :: IsG p G :: M) from hS) _ _ (by rfl) _ (by first | exact evC | exact evT (by rfl)) ?_; intro pk w1 hS1; clear hS; have hS := (show Sat W w1 (Cs pk 63 [.pointer (some ⟨lk, 0, none⟩)] :: Ms b ks :: Cs lk 66 (lkv p lb G.N.length) :: Cs lb 3 (il G.lab G.N.length) :: IsG p G :: M) from hS1); clear hS1)
        | (refine toList (by rfl) ?_; refine bx hS _ _ (by rfl) _ (by first | exact evC | exact evT (by rfl)) ?_; intro pq w1 hS1; clear hS; have hS := hS1; clear hS1; rw [cells_agg] at hS)
        | (refine toList (by rfl) ?_; refine ld hS _ _ (by rfl) _ _ (by rfl) (agOf (by rfl)) (by repeat first | exact Has.z | apply Has.s) (by rfl) ?_)
        | (refine toList (by rfl) ?_; refine msMake hS _ (by rfl) ?_; intro bo w1 hS1; clear hS; have hS := hS1; clear hS1))
      have H0 := Lib.hid (show Sat W _ (Ms bo [] :: Ms b ks :: Cs pq 27 [.int .i64 6, .int .i64 n, .slice ao kk.length c] :: Cs pk 63 [.pointer (some ⟨lk, 0, none⟩)] :: Cs lk 66 (lkv p lb G.N.length) :: Cs lb 3 (il G.lab G.N.length) :: IsG p G :: M) from hS.re [0, 3, 1, 2])
      go_loopw [76] (fun v wz => ∃ (i : Nat) (os : List Nat), v = .int .i64 i ∧ i ≤ kk.length ∧ (∀ x, x ∈ os ↔ ∃ k ∈ kk.take i, Img (Rel G d k) (· ∈ ks) x) ∧
          Sat W wz (Ms bo os :: Ms b ks :: Cs pq 27 [.int .i64 6, .int .i64 n, .slice ao kk.length c] :: Cs pk 63 [.pointer (some ⟨lk, 0, none⟩)] :: Cs lk 66 (lkv p lb G.N.length) :: Cs lb 3 (il G.lab G.N.length) :: IsG p G :: M)) (fun v _ => kk.length - (intOf v).toNat)
      case atStart => exact ⟨0, [], rfl, by omega, (fun x => by simp), H0.out⟩
      case round =>
        clear hS H0
        obtain ⟨i, os, rfl, hi, hos, hS⟩ := hrel
        have HOS := Lib.hid hos
        clear hos
        by_cases hlt : i < kk.length
        · have k1 : (i : Int) < (kk.length : Int) := by omega
          have HLTI := Lib.hid hlt
          obtain ⟨bb, off, rfl⟩ := H5.out (by omega)
          obtain ⟨k, hx⟩ : ∃ k, kk[i]? = some k := ⟨_, List.getElem?_eq_getElem hlt⟩
          have hkm := List.mem_of_getElem? hx
          have HX := Lib.hid hx
          have hku := HKU.out k hkm
          have HTK := Lib.hid (show kk.take (i + 1) = kk.take i ++ [k] by rw [List.take_add_one, hx]; rfl)
          have HCL := Lib.hid (HIH.out k hkm)
          have HQ2 := Lib.hid (HQK.out k hkm)
          obtain ⟨ko, kn, ku, kkk⟩ := k
          replace hku : ku.oneCell' = true := hku
          have HCL2 := Lib.hid (fun w pt (h : Sat W w (Cs pt 27 [.int .i64 ko, .int .i64 kn, ku] :: Ms bo os :: Ms b ks :: Cs pq 27 [.int .i64 6, .int .i64 n, .slice (some ⟨bb, off, none⟩) kk.length c] :: Cs pk 63 [.pointer (some ⟨lk, 0, none⟩)] :: Cs lk 66 (lkv p lb G.N.length) :: Cs lb 3 (il G.lab G.N.length) :: IsG p G :: M)) =>
              show Calls Tryz.prog 22 #[.pointer (some ⟨lk, 0, none⟩), .agg #[.int .i64 ko, .int .i64 kn, ku], .map (some b)] w (fun e w' => ∃ b2 o2, e = .returned (.map (some b2)) ∧ (∀ n, n ∈ o2 ↔ Img (Rel G d (.mk ko kn ku kkk)) (· ∈ ks) n) ∧ Sat W w' (Ms b2 o2 :: Ms bo os :: Ms b ks :: Cs pq 27 [.int .i64 6, .int .i64 n, .slice (some ⟨bb, off, none⟩) kk.length c] :: Cs pk 63 [.pointer (some ⟨lk, 0, none⟩)] :: Cs lk 66 (lkv p lb G.N.length) :: Cs lb 3 (il G.lab G.N.length) :: IsG p G :: M)) by
            have h2 := HCL.out w (Ms bo os :: Cs pq 27 [.int .i64 6, .int .i64 n, .slice (some ⟨bb, off, none⟩) kk.length c] :: Cs pk 63 [.pointer (some ⟨lk, 0, none⟩)] :: M) b ks (fun w L' h => HQ2.out w (L' ++ [_, _, _]) (by rw [List.append_assoc]; exact h)) HKS.out (h.drop.re [1, 4, 5, 6, 0, 2, 3])
            exact h2.mono fun e w' ⟨b2, o2, he, ho, hs⟩ => ⟨b2, o2, he, ho, hs.re [0, 5, 1, 6, 7, 2, 3, 4]⟩)
          clear hx hlt hkm hi HCL HQ2
          go_wp2_with (first
            | (refine toList (by rfl) ?_; refine wp_of_reads (rLdRdA (f := qv) (x := .mk ko kn ku kkk) (HR.out _ [_, _, _, _, _, _, _] hS) (qv_len kk) _ _ (by rfl) _ (by rfl) (agOf (by rfl)) (szOf (by rfl)) i (by omega) HX.out (by omega)) ?_)
            | (refine toList (by rfl) ?_; refine al hS _ (by rfl) (zrOf (by rfl)) ?_; intro pt w1 hS1; clear hS; have hS := hS1; clear hS1; rw [cells_agg] at hS)
            | (refine toList (by rfl) ?_; refine stW hS _ _ _ (by rfl) (by rfl) [.int .i64 ko, .int .i64 kn, ku] (by rfl) (by exact three_one hku) (szOf (by rfl)) Has.z (by rfl) ?_; intro w1 hS1; clear hS; have hS := hS1; clear hS1; dsimp only [List.set_cons_zero] at hS)
            | (refine toList (by rfl) ?_; refine wp_of_reads (rLdA hS _ _ (by rfl) _ _ (by rfl) (agOf (by rfl)) (szOf (by rfl)) Has.z (vs := [.int .i64 ko, .int .i64 kn, ku]) (by rfl) (by rfl)) ?_)
            | (refine toList (by rfl) ?_; refine ld hS _ _ (by rfl) _ _ (by rfl) (agOf (by rfl)) (by repeat first | exact Has.z | apply Has.s) (by rfl) ?_)
            | (go_at_call 22; refine (HCL2.out _ _ hS).mono ?_; rintro e w1 ⟨b2, o2, rfl, ho, hS1⟩; have HO := Lib.hid ho; clear ho; clear hS; have hS := hS1; clear hS1)
            | (refine toList (by rfl) ?_; refine msRange hS _ _ (by rfl) (by rfl) map_set Has.z ?_; intro r w1 hS1; clear hS; have hS := hS1; clear hS1; dsimp only [List.set_cons_zero, List.set_cons_succ] at hS))
          go_frame
          have H1 := Lib.hid hS
          go_loopw [] (fun wz => ∃ left cur os2, (∀ n, n ∈ os2 ↔ n ∈ os ∨ (n ∈ o2 ∧ n ∉ left)) ∧ Sat W wz (Mi b2 r o2 left cur :: Ms bo os2 :: Ms b ks :: Cs pq 27 [.int .i64 6, .int .i64 n, .slice (some ⟨bb, off, none⟩) kk.length c] :: Cs pk 63 [.pointer (some ⟨lk, 0, none⟩)] :: Cs lk 66 (lkv p lb G.N.length) :: Cs lb 3 (il G.lab G.N.length) :: IsG p G :: M)) (fun wz => o2.length - (wz.iterSeen r).size)
          case atStart => exact ⟨o2, none, os, (fun n => ⟨.inl, fun h => h.elim id fun h => absurd h.1 h.2⟩), H1.out⟩
          case round =>
            clear hS H1
            obtain ⟨left, cur, os2, hki, hS⟩ := hrel
            have HKI := Lib.hid hki
            have HL := Lib.hid (hS.miLeft Has.z)
            have HM := Lib.hid (hS.miSeen Has.z)
            clear hki
            go_wp2_with (first
              | (refine toList (by rfl) ?_; refine msNext hS _ (by rfl) (by rfl) Has.z (fun hl => ?_) (fun k w1 hk hS => ?_))
              | (refine toList (by rfl) ?_; refine wp_of_reads (rMsEntry hS _ (by rfl) (by rfl) Has.z) ?_; dsimp only [List.set_cons_zero] at hS)
              | (refine toList (by rfl) ?_; refine msSt hS _ _ _ _ (.inl (by rfl)) (by rfl) k (by rfl) (by rfl) map_set key_nat (Has.s Has.z) ?_; intro w1 hS1; clear hS; have hS := hS1; clear hS1; dsimp only [List.set_cons_zero, List.set_cons_succ] at hS))
            · subst hl
              have hos : ∀ n, n ∈ os2 ↔ ∃ k ∈ kk.take (i + 1), Img (Rel G d k) (· ∈ ks) n := fun n => by
                rw [HKI.out n, HOS.out n, HO.out n, HTK.out]
                simp only [List.mem_append, List.mem_singleton, List.not_mem_nil, not_false_eq_true, and_true]
                constructor
                · rintro (⟨k, h1, h2⟩ | h)
                  · exact ⟨k, .inl h1, h2⟩
                  · exact ⟨_, .inr rfl, h⟩
                · rintro ⟨k, h1 | rfl, h2⟩
                  · exact .inl ⟨k, h1, h2⟩
                  · exact .inr h2
              exact ⟨⟨i + 1, os2, by go_num, HLTI.out, hos, hS.drop⟩, by simp [intOf]; have := HLTI.out; omega⟩
            · have HLN := List.length_erase_of_mem hk
              have HPO := List.length_pos_of_mem hk
              have h2 : ∀ n, n ∈ addK os2 k ↔ n ∈ os ∨ (n ∈ o2 ∧ n ∉ left.erase k) := fun n => by
                rw [mem_addK, HKI.out n, mem_erase_left HL.out.1 hk]
                constructor
                · rintro ((h | ⟨h1, h2⟩) | rfl)
                  · exact .inl h
                  · exact .inr ⟨h1, .inl h2⟩
                  · exact .inr ⟨HL.out.2 _ hk, .inr rfl⟩
                · rintro (h | ⟨h1, h2 | h2⟩)
                  · exact .inl (.inl h)
                  · exact .inl (.inr ⟨h1, h2⟩)
                  · exact .inr h2
              go_frame
              refine ⟨⟨_, _, _, _, _, _, _, ⟨left.erase k, some k, addK os2 k, h2, hS⟩, rfl⟩, ?_⟩
              have h1 := hS.miSeen Has.z
              have h3 := HM.out
              omega
        · obtain rfl : i = kk.length := by omega
          have k1 : ¬ (kk.length : Int) < (kk.length : Int) := by omega
          have HOS2 := Lib.hid (show ∀ x, x ∈ os ↔ ∃ k ∈ kk, Img (Rel G d k) (· ∈ ks) x by have := HOS.out; rwa [List.take_length] at this)
          clear hi hlt
          go_wp2
          go_ret
          exact ⟨bo, rfl, os, fun x => by
            rw [HOS2.out x]
            exact ⟨fun ⟨k, h1, m, h2, h3⟩ => ⟨m, h2, k, h1, h3⟩, fun ⟨m, h2, k, h1, h3⟩ => ⟨k, h1, m, h2, h3⟩⟩, (hS.re [2, 3]).drop.drop⟩
end Go.Proofs.YtpnbdnfgdiakhaaGreat
namespace Go.Proofs.YtpnbdnfgdiakhaaGreat
open Go.RowKit Go.Sep
set_option linter.unusedSimpArgs false
set_option linter.unusedVariables false
attribute [local irreducible] Go.Oper.wp Go.wpList Go.Calls Go.Code.wp Go.Sep.Reg
attribute [local irreducible] IsG
/-- The nodes that a question leads to, from these. -/
noncomputable def qlist (G : Gr) (q : StepD) (fl : List Int) : List Nat := if q.chk = true then fltN G.N.length (Img (Rel G 12 q) fun m => m < G.N.length ∧ (m : Int) ∈ fl) else []
theorem qlist_no {G : Gr} {q : StepD} (fl : List Int) (h : q.chk = false) : qlist G q fl = [] := by unfold qlist; rw [h]; rfl
theorem qlist_yes {G : Gr} {q : StepD} (fl : List Int) (h : q.chk = true) : qlist G q fl = fltN G.N.length (Img (Rel G 12 q) fun m => m < G.N.length ∧ (m : Int) ∈ fl) := by unfold qlist; rw [if_pos h]
theorem qlist_len (G : Gr) (q : StepD) (fl : List Int) : (qlist G q fl).length ≤ G.N.length := by
  unfold qlist
  split
  · exact fltN_len _ _
  · exact Nat.zero_le _
theorem StepD.chk_ok {q : StepD} (h : q.chk = true) : q.ok 12 = true := by
  unfold StepD.chk StepD.fits at h
  rw [Bool.and_eq_true] at h
  exact h.1
def ivz (l : List Int) : List Value := l.map (Value.int .i64)
theorem ivz_at {l : List Int} {i : Nat} {x : Int} (h : l[i]? = some x) : (ivz l)[i]? = some (.int .i64 x) := by simp [ivz, h]
theorem ivz_len (l : List Int) : (ivz l).length = l.length := by simp [ivz]
set_option maxRecDepth 20000 in
set_option maxHeartbeats 4000000 in
theorem list_any {W w : World} {L : List Asrt} {p : Nat} {G : Gr} (hS : Sat W w (IsG p G :: L)) (hG : G.Ok) (hA : G.Acyc) (q : StepD) (hq : ∀ w L', Sat W w (L' ++ L) → QRd w 12 q) (fl : List Int) (fv : Value)
    (hf : ∀ w L', Sat W w (L' ++ L) → Rd w fv fl.length 1 (ivz fl)) :
    Calls Tryz.prog 8 #[.pointer (some ⟨p, 0, none⟩), .agg (qv q).toArray, fv] w fun e w' => ∃ v, e = .returned v ∧ Sat W w' (Irn v (qlist G q fl) :: IsG p G :: L) := by
  obtain ⟨ao, nn, c, hu⟩ := (hq w [_] hS).shape
  obtain ⟨af, cf, rfl, hc1, hc2, _, h5⟩ := hf w [_] hS
  have HF := Lib.hid hf
  have HQ := Lib.hid hq
  have H5 := Lib.hid (show 0 < fl.length → ∃ b off, af = some ⟨b, off, none⟩ from fun h => by obtain ⟨b, off, h1, _⟩ := h5 h; exact ⟨b, off, h1⟩)
  have HG := Lib.hid hG
  have HA := Lib.hid hA
  have hn4 := hG.len
  have HCK := Lib.hid (fun w L' (h : Sat W w (L' ++ L)) => check_any h q fun w L2 h => hq w (L2 ++ L') (by rw [List.append_assoc]; exact h))
  have hfl : (fl.length : Int) ≤ 9223372036854775807 := by omega
  cases hk : q.chk with
  | false =>
    rw [qlist_no fl hk]
    rw [hk] at HCK
    clear hq hf h5 hG hA HQ hk
    obtain ⟨op, n, u, kk⟩ := q
    replace hu : u = .slice ao nn c := hu
    subst hu
    replace HCK := Lib.hid (fun w L' (h : Sat W w (L' ++ L)) => show Calls Tryz.prog 19 #[.agg #[.int .i64 op, .int .i64 n, .slice ao nn c]] w _ from HCK.out w L' h)
    show Calls Tryz.prog 8 #[.pointer (some ⟨p, 0, none⟩), .agg #[.int .i64 op, .int .i64 n, .slice ao nn c], .slice af fl.length cf] w _
    go_enter Tryz.func8, Tryz.ntmps8
    go_wp2_with (first
      | (refine toList (by rfl) ?_; refine bx hS _ _ (by rfl) _ (by first | exact evC | exact evT (by rfl)) ?_; intro pq w1 hS1; clear hS; have hS := hS1; clear hS1; rw [cells_agg] at hS)
      | (refine toList (by rfl) ?_; refine wp_of_reads (rLdA hS _ _ (by rfl) _ _ (by rfl) (agOf (by rfl)) (szOf (by rfl)) Has.z (vs := [.int .i64 op, .int .i64 n, .slice ao nn c]) (by rfl) (by rfl)) ?_)
      | (go_at_call 19; refine (HCK.out _ [_, _] hS).mono ?_; rintro e w1 ⟨rfl, hS1⟩; clear hS; have hS := (show Sat W w1 (Cs pq _ _ :: IsG p G :: L) from hS1); clear hS1))
    go_ret
    exact ⟨_, rfl, irnNil hS.drop⟩
  | true =>
    rw [qlist_yes fl hk]
    rw [hk] at HCK
    have HLD := Lib.hid (fun lk lb => leads_any (W := W) (lk := lk) (lb := lb) (p := p) hG 12 q (StepD.chk_ok hk))
    have HIL := Lib.hid (fun (S : Nat → Prop) (hs : ∀ m, S m → m < G.N.length) (n : Nat) (h : Img (Rel G 12 q) S n) => img_lt hG hs h)
    obtain ⟨Rl, hRl⟩ : ∃ Rl, Rel G 12 q = Rl := ⟨_, rfl⟩
    have HLL : Hid (∀ lk lb w M b ks, (∀ n ∈ ks, n < G.N.length) → Sat W w (Ms b ks :: Cs lk 66 (lkv p lb G.N.length) :: Cs lb 3 (il G.lab G.N.length) :: IsG p G :: (M ++ L)) →
        Calls Tryz.prog 22 #[.pointer (some ⟨lk, 0, none⟩), .agg (qv q).toArray, .map (some b)] w fun e w' => ∃ b' os, e = .returned (.map (some b')) ∧ (∀ n, n ∈ os ↔ Img Rl (· ∈ ks) n) ∧ Sat W w' (Ms b' os :: Ms b ks :: Cs lk 66 (lkv p lb G.N.length) :: Cs lb 3 (il G.lab G.N.length) :: IsG p G :: (M ++ L))) :=
      Lib.hid fun lk lb w M b ks hks h => by
        rw [← hRl]
        exact HLD.out lk lb w (M ++ L) b ks (fun w L' h => HQ.out w (L' ++ M) (by rw [List.append_assoc]; exact h)) hks h
    rw [hRl] at HIL ⊢
    clear hq hf h5 hG hA HQ hk HLD hRl
    obtain ⟨op, n, u, kk⟩ := q
    replace hu : u = .slice ao nn c := hu
    subst hu
    replace HCK := Lib.hid (fun w L' (h : Sat W w (L' ++ L)) => show Calls Tryz.prog 19 #[.agg #[.int .i64 op, .int .i64 n, .slice ao nn c]] w _ from HCK.out w L' h)
    replace HLL := Lib.hid (fun lk lb w M b ks h1 h2 => show Calls Tryz.prog 22 #[.pointer (some ⟨lk, 0, none⟩), .agg #[.int .i64 op, .int .i64 n, .slice ao nn c], .map (some b)] w _ from HLL.out lk lb w M b ks h1 h2)
    show Calls Tryz.prog 8 #[.pointer (some ⟨p, 0, none⟩), .agg #[.int .i64 op, .int .i64 n, .slice ao nn c], .slice af fl.length cf] w _
    go_enter Tryz.func8, Tryz.ntmps8
    go_wp2_with (first
      | (refine toList (by rfl) ?_; refine bx hS _ _ (by rfl) _ (by first | exact evC | exact evT (by rfl)) ?_; intro pq w1 hS1; clear hS; have hS := hS1; clear hS1; rw [cells_agg] at hS)
      | (refine toList (by rfl) ?_; refine wp_of_reads (rLdA hS _ _ (by rfl) _ _ (by rfl) (agOf (by rfl)) (szOf (by rfl)) Has.z (vs := [.int .i64 op, .int .i64 n, .slice ao nn c]) (by rfl) (by rfl)) ?_)
      | (go_at_call 19; refine (HCK.out _ [_, _] hS).mono ?_; rintro e w1 ⟨rfl, hS1⟩; clear hS; have hS := (show Sat W w1 (Cs pq _ _ :: IsG p G :: L) from hS1); clear hS1)
      | (refine toList (by rfl) ?_; refine msMake hS _ (by rfl) ?_; intro bs w1 hS1; clear hS; have hS := hS1; clear hS1))
    have H0 := Lib.hid hS
    go_loopw [20] (fun v wz => ∃ (i : Nat) (ks : List Nat), v = .int .i64 i ∧ i ≤ fl.length ∧ (∀ n, n ∈ ks ↔ n < G.N.length ∧ (n : Int) ∈ fl.take i) ∧ Sat W wz (Ms bs ks :: Cs pq 27 [.int .i64 op, .int .i64 n, .slice ao nn c] :: IsG p G :: L)) (fun v _ => fl.length - (intOf v).toNat)
    case atStart => exact ⟨0, [], rfl, by omega, (fun n => by simp), H0.out⟩
    case round =>
      clear hS H0
      obtain ⟨i, ks, rfl, hi, hks, hS⟩ := hrel
      have HKS := Lib.hid hks
      clear hks
      by_cases hlt : i < fl.length
      · have k1 : (i : Int) < (fl.length : Int) := by omega
        have HLTI := Lib.hid hlt
        obtain ⟨bb, off, rfl⟩ := H5.out (by omega)
        obtain ⟨y, hy⟩ : ∃ y, fl[i]? = some y := ⟨_, List.getElem?_eq_getElem hlt⟩
        have HY := Lib.hid (ivz_at hy)
        have HTK := Lib.hid (show fl.take (i + 1) = fl.take i ++ [y] by rw [List.take_add_one, hy]; rfl)
        obtain ⟨⟨x1, x2, x3, x4, x5, x6⟩, hx⟩ : ∃ x, G.nodeI y = x := ⟨_, rfl⟩
        have HND := Lib.hid (show ∀ w M, Sat W w (IsG p G :: M) → Calls Tryz.prog 20 #[.pointer (some ⟨p, 0, none⟩), .int .i64 y] w fun e w' => e = .returned (.tuple #[.agg (nv ⟨x1, x2, x3, x4, x5, x6⟩).toArray, .bool (G.is y)]) ∧ Sat W w' (IsG p G :: M) from fun w M h => by
          have := node_any h y
          rwa [hx] at this)
        clear hy hx hlt hi
        cases hb : G.is y with
        | true =>
          obtain ⟨k, rfl, hkl⟩ := Gr.is_nat hb
          rw [hb] at HND
          have HN := Lib.hid (show ∀ n, n ∈ addK ks k ↔ n < G.N.length ∧ (n : Int) ∈ fl.take (i + 1) from fun n => by
            rw [mem_addK, HKS.out n, HTK.out, List.mem_append, List.mem_singleton]
            constructor
            · rintro (⟨h1, h2⟩ | rfl)
              · exact ⟨h1, .inl h2⟩
              · exact ⟨hkl, .inr rfl⟩
            · rintro ⟨h1, h2 | h2⟩
              · exact .inl ⟨h1, h2⟩
              · exact .inr (by omega))
          clear hb hkl
          go_wp2_with (first
            | (refine toList (by rfl) ?_; refine wp_of_reads (rLdRd1 (HF.out _ [_, _, _] hS) _ _ (by rfl) _ (by rfl) (agOf (by rfl)) i (by omega) HY.out (by omega)) ?_)
            | (go_at_call 20; refine (HND.out _ _ (hS.re [2])).mono ?_; rintro e w1 ⟨rfl, hS1⟩; clear hS; have hS := hS1.re [1, 2]; clear hS1)
            | (refine toList (by rfl) ?_; refine al hS _ (by rfl) (zrOf (by rfl)) ?_; intro px w1 hS1; clear hS; have hS := hS1; clear hS1; rw [cells_agg] at hS)
            | (refine toList (by rfl) ?_; refine stW hS _ _ _ (by rfl) (by rfl) (nv ⟨x1, x2, x3, x4, x5, x6⟩) (by rfl) (nv_all _) (szOf (by rfl)) Has.z (by rfl) ?_; intro w1 hS1; clear hS; have hS := hS1; clear hS1; dsimp only [List.set_cons_zero] at hS)
            | (refine toList (by rfl) ?_; refine msSt hS _ _ _ _ (.inl (by rfl)) (by rfl) k (by rfl) (by rfl) map_set key_nat (Has.s Has.z) ?_; intro w1 hS1; clear hS; have hS := hS1; clear hS1; dsimp only [List.set_cons_zero, List.set_cons_succ] at hS))
          exact ⟨⟨i + 1, addK ks k, by go_num, HLTI.out, HN.out, hS.drop⟩, by simp [intOf]; have := HLTI.out; omega⟩
        | false =>
          rw [hb] at HND
          have HN := Lib.hid (show ∀ n, n ∈ ks ↔ n < G.N.length ∧ (n : Int) ∈ fl.take (i + 1) from fun n => by
            have h0 := Gr.is_no hb
            rw [HKS.out n, HTK.out, List.mem_append, List.mem_singleton]
            constructor
            · rintro ⟨h1, h2⟩
              exact ⟨h1, .inl h2⟩
            · rintro ⟨h1, h2 | h2⟩
              · exact ⟨h1, h2⟩
              · omega)
          clear hb
          go_wp2_with (first
            | (refine toList (by rfl) ?_; refine wp_of_reads (rLdRd1 (HF.out _ [_, _, _] hS) _ _ (by rfl) _ (by rfl) (agOf (by rfl)) i (by omega) HY.out (by omega)) ?_)
            | (go_at_call 20; refine (HND.out _ _ (hS.re [2])).mono ?_; rintro e w1 ⟨rfl, hS1⟩; clear hS; have hS := hS1.re [1, 2]; clear hS1)
            | (refine toList (by rfl) ?_; refine al hS _ (by rfl) (zrOf (by rfl)) ?_; intro px w1 hS1; clear hS; have hS := hS1; clear hS1; rw [cells_agg] at hS)
            | (refine toList (by rfl) ?_; refine stW hS _ _ _ (by rfl) (by rfl) (nv ⟨x1, x2, x3, x4, x5, x6⟩) (by rfl) (nv_all _) (szOf (by rfl)) Has.z (by rfl) ?_; intro w1 hS1; clear hS; have hS := hS1; clear hS1; dsimp only [List.set_cons_zero] at hS))
          exact ⟨⟨i + 1, ks, by go_num, HLTI.out, HN.out, hS.drop⟩, by simp [intOf]; have := HLTI.out; omega⟩
      · obtain rfl : i = fl.length := by omega
        have k1 : ¬ (fl.length : Int) < (fl.length : Int) := by omega
        have HKN := Lib.hid (show ∀ n, n ∈ ks ↔ n < G.N.length ∧ (n : Int) ∈ fl by have := HKS.out; rwa [List.take_length] at this)
        clear hi hlt
        go_wp2
        refine regStart2 [7, 8] hS (fun _ h => h.one (Has.s Has.z)) (by kernel_rfl) rfl ?_
        intro w1 hS1
        clear hS; have hS := hS1; clear hS1
        (refine rgP 0 hS (fun _ h => h.one (Has.s Has.z)) ?_; go_frame)
        (refine rgP 1 hS (fun _ h => h.one (Has.s Has.z)) ?_; go_frame)
        (refine rgR 5 hS (fun _ h => h.one (Has.s Has.z)) ?_; (first
                          | refine ⟨_, yLdA _ _ (by rfl) _ _ (by rfl) (agOf (by rfl)) (szOf (by rfl)) Has.z (vs := [.int .i64 op, .int .i64 n, .slice ao nn c]) (by rfl) (by rfl), ?_⟩); go_frame)
        (refine rgP 6 hS (fun _ h => h.one (Has.s Has.z)) ?_; go_frame)
        (refine rgA 2 false fun K hK => ?_; (first
                          | (refine Go.Sep.cl 21 _ _ (by rfl) (by rfl) (by kernel_rfl) (all_any (show Sat W _ (IsG p G :: Ms bs ks :: Cs pq _ _ :: L) from hS.re [2]) HG.out HA.out) ?_; rintro e w1 ⟨lb, rfl, hS1⟩; clear hS; have hS := hS1; clear hS1; refine ⟨_, rfl, ?_⟩)
                          | (refine Go.Sep.cl 22 _ _ (by rfl) (by rfl) (by kernel_rfl) (HLL.out _ _ _ [_] _ ks (fun m hm => ((HKN.out m).1 hm).1) (hS.re [3, 0, 1, 2])) ?_; rintro e w1 ⟨b2, o2, rfl, ho2, hS1⟩; have HO2 := Lib.hid ho2; clear ho2; clear hS; have hS := hS1; clear hS1; refine ⟨_, rfl, ?_⟩)
                          | (refine bx hS _ _ (by rfl) _ (by rfl) ?_; intro lk w1 hS1; clear hS; have hS := (show Sat W w1 (Cs lk 66 (lkv p lb G.N.length) :: Cs lb 3 _ :: IsG p G :: Ms bs ks :: Cs pq _ _ :: L) from hS1); clear hS1)
                          | (refine msRange hS _ _ (by rfl) (by rfl) map_set Has.z ?_; intro r w1 hS1; clear hS; have hS := hS1; clear hS1; dsimp only [List.set_cons_zero, List.set_cons_succ] at hS)); refine hK _ _ _ (hS.upTo (fun _ h => by first | exact h.one Has.z | exact h.one (Has.s Has.z) | exact h.one (Has.s (Has.s Has.z)) | exact h.one (Has.s (Has.s (Has.s Has.z))) | exact h.one (Has.s (Has.s (Has.s (Has.s Has.z)))) | exact h.one (Has.s (Has.s (Has.s (Has.s (Has.s Has.z))))) | exact h.one (Has.s (Has.s (Has.s (Has.s (Has.s (Has.s Has.z)))))))) (fun _ _ h => h) ?_; clear hK K; go_frame)
        (refine regP 3 hS (fun _ h => by first | exact h.one Has.z | exact h.one (Has.s Has.z) | exact h.one (Has.s (Has.s Has.z)) | exact h.one (Has.s (Has.s (Has.s Has.z))) | exact h.one (Has.s (Has.s (Has.s (Has.s Has.z)))) | exact h.one (Has.s (Has.s (Has.s (Has.s (Has.s Has.z))))) | exact h.one (Has.s (Has.s (Has.s (Has.s (Has.s (Has.s Has.z))))))) rfl (by kernel_rfl) (by kernel_rfl) (by kernel_rfl) (fun _ _ _ _ h => h) (by rfl) (by rfl) ?_; apply Exists.intro; apply And.intro; (intro w; go_simp; try with_reducible rfl); go_frame)
        (refine rgA 4 false fun K hK => ?_; (first
                          | (refine Go.Sep.cl 21 _ _ (by rfl) (by rfl) (by kernel_rfl) (all_any (show Sat W _ (IsG p G :: Ms bs ks :: Cs pq _ _ :: L) from hS.re [2]) HG.out HA.out) ?_; rintro e w1 ⟨lb, rfl, hS1⟩; clear hS; have hS := hS1; clear hS1; refine ⟨_, rfl, ?_⟩)
                          | (refine Go.Sep.cl 22 _ _ (by rfl) (by rfl) (by kernel_rfl) (HLL.out _ _ _ [_] _ ks (fun m hm => ((HKN.out m).1 hm).1) (hS.re [3, 0, 1, 2])) ?_; rintro e w1 ⟨b2, o2, rfl, ho2, hS1⟩; have HO2 := Lib.hid ho2; clear ho2; clear hS; have hS := hS1; clear hS1; refine ⟨_, rfl, ?_⟩)
                          | (refine bx hS _ _ (by rfl) _ (by rfl) ?_; intro lk w1 hS1; clear hS; have hS := (show Sat W w1 (Cs lk 66 (lkv p lb G.N.length) :: Cs lb 3 _ :: IsG p G :: Ms bs ks :: Cs pq _ _ :: L) from hS1); clear hS1)
                          | (refine msRange hS _ _ (by rfl) (by rfl) map_set Has.z ?_; intro r w1 hS1; clear hS; have hS := hS1; clear hS1; dsimp only [List.set_cons_zero, List.set_cons_succ] at hS)); refine hK _ _ _ (hS.upTo (fun _ h => by first | exact h.one Has.z | exact h.one (Has.s Has.z) | exact h.one (Has.s (Has.s Has.z)) | exact h.one (Has.s (Has.s (Has.s Has.z))) | exact h.one (Has.s (Has.s (Has.s (Has.s Has.z)))) | exact h.one (Has.s (Has.s (Has.s (Has.s (Has.s Has.z))))) | exact h.one (Has.s (Has.s (Has.s (Has.s (Has.s (Has.s Has.z)))))))) (fun _ _ h => h) ?_; clear hK K; go_frame)
        (refine rgA 7 true fun K hK => ?_; (first
                          | (refine Go.Sep.cl 21 _ _ (by rfl) (by rfl) (by kernel_rfl) (all_any (show Sat W _ (IsG p G :: Ms bs ks :: Cs pq _ _ :: L) from hS.re [2]) HG.out HA.out) ?_; rintro e w1 ⟨lb, rfl, hS1⟩; clear hS; have hS := hS1; clear hS1; refine ⟨_, rfl, ?_⟩)
                          | (refine Go.Sep.cl 22 _ _ (by rfl) (by rfl) (by kernel_rfl) (HLL.out _ _ _ [_] _ ks (fun m hm => ((HKN.out m).1 hm).1) (hS.re [3, 0, 1, 2])) ?_; rintro e w1 ⟨b2, o2, rfl, ho2, hS1⟩; have HO2 := Lib.hid ho2; clear ho2; clear hS; have hS := hS1; clear hS1; refine ⟨_, rfl, ?_⟩)
                          | (refine bx hS _ _ (by rfl) _ (by rfl) ?_; intro lk w1 hS1; clear hS; have hS := (show Sat W w1 (Cs lk 66 (lkv p lb G.N.length) :: Cs lb 3 _ :: IsG p G :: Ms bs ks :: Cs pq _ _ :: L) from hS1); clear hS1)
                          | (refine msRange hS _ _ (by rfl) (by rfl) map_set Has.z ?_; intro r w1 hS1; clear hS; have hS := hS1; clear hS1; dsimp only [List.set_cons_zero, List.set_cons_succ] at hS)); refine hK _ _ _ hS (by first | (intro h; cases h; done) | exact fun _ _ h => h | exact fun _ _ h => h.drop | exact fun _ _ h => h.drop.drop | exact fun _ _ h => h.drop.pull1 | exact fun _ _ h => h.take2 | exact fun _ _ h => h.one Has.z | exact fun _ _ h => h.one (Has.s Has.z) | exact fun _ _ h => h.one (Has.s (Has.s Has.z))) ?_; clear hK K; go_frame)
        (refine rgA 8 true fun K hK => ?_; (first
                          | (refine Go.Sep.cl 21 _ _ (by rfl) (by rfl) (by kernel_rfl) (all_any (show Sat W _ (IsG p G :: Ms bs ks :: Cs pq _ _ :: L) from hS.re [2]) HG.out HA.out) ?_; rintro e w1 ⟨lb, rfl, hS1⟩; clear hS; have hS := hS1; clear hS1; refine ⟨_, rfl, ?_⟩)
                          | (refine Go.Sep.cl 22 _ _ (by rfl) (by rfl) (by kernel_rfl) (HLL.out _ _ _ [_] _ ks (fun m hm => ((HKN.out m).1 hm).1) (hS.re [3, 0, 1, 2])) ?_; rintro e w1 ⟨b2, o2, rfl, ho2, hS1⟩; have HO2 := Lib.hid ho2; clear ho2; clear hS; have hS := hS1; clear hS1; refine ⟨_, rfl, ?_⟩)
                          | (refine bx hS _ _ (by rfl) _ (by rfl) ?_; intro lk w1 hS1; clear hS; have hS := (show Sat W w1 (Cs lk 66 (lkv p lb G.N.length) :: Cs lb 3 _ :: IsG p G :: Ms bs ks :: Cs pq _ _ :: L) from hS1); clear hS1)
                          | (refine msRange hS _ _ (by rfl) (by rfl) map_set Has.z ?_; intro r w1 hS1; clear hS; have hS := hS1; clear hS1; dsimp only [List.set_cons_zero, List.set_cons_succ] at hS)); refine hK _ _ _ hS (by first | (intro h; cases h; done) | exact fun _ _ h => h | exact fun _ _ h => h.drop | exact fun _ _ h => h.drop.drop | exact fun _ _ h => h.drop.pull1 | exact fun _ _ h => h.take2 | exact fun _ _ h => h.one Has.z | exact fun _ _ h => h.one (Has.s Has.z) | exact fun _ _ h => h.one (Has.s (Has.s Has.z))) ?_; clear hK K; go_frame)
        refine regDone (by kernel_rfl) ?_
        have HE := Lib.hid (show ∀ x, x ∈ o2 ↔ x < G.N.length ∧ Img Rl (fun m => m < G.N.length ∧ (m : Int) ∈ fl) x from fun x => by
          rw [HO2.out x, img_congr HKN.out x]
          exact ⟨fun h => ⟨HIL.out _ (fun m hm => hm.1) x h, h⟩, fun h => h.2⟩)
        clear HO2 HKS
        have H1 : Hid (Sat W _ (Ir (.slice none 0 0) [] :: Mi b2 r o2 o2 none :: IsG p G :: L)) := Lib.hid ((hS.re [1, 2, 3, 5]).drop.drop.drop.drop).irNil
        go_wp2
        go_loopw [12] (fun v wz => ∃ left cur os, (∀ n, n ∈ os ↔ n ∈ o2 ∧ n ∉ left) ∧ os.Nodup ∧ (os = [] → v = .slice none 0 0) ∧ Sat W wz (Ir v os :: Mi b2 r o2 left cur :: IsG p G :: L)) (fun _ wz => o2.length - (wz.iterSeen r).size)
        case atStart => exact ⟨o2, none, [], (fun n => ⟨(fun h => nomatch h), (fun h => absurd h.1 h.2)⟩), List.Pairwise.nil, (fun _ => rfl), H1.out⟩
        case round =>
          clear hS H1
          obtain ⟨left, cur, os, hki, hnd, hnil, hS⟩ := hrel
          have HKI := Lib.hid hki
          have HND := Lib.hid hnd
          have HL := Lib.hid (hS.miLeft (Has.s Has.z))
          have HM := Lib.hid (hS.miSeen (Has.s Has.z))
          have hosl : os.length ≤ 4096 := Nat.le_trans (nodup_len (n := G.N.length) hnd (fun x hx => ((HE.out x).1 ((hki x).1 hx).1).1)) hn4
          obtain ⟨ao2, c2, rfl, _⟩ := hS.irShape (k := 0) rfl
          have HNIL := Lib.hid hnil
          clear hki hnd hnil
          go_wp2_with (first
            | (refine toList (by rfl) ?_; refine msNext hS _ (by rfl) (by rfl) (Has.s Has.z) (fun hl => ?_) (fun k w1 hk hS => ?_))
            | (refine toList (by rfl) ?_; refine wp_of_reads (rMsEntry hS _ (by rfl) (by rfl) (Has.s Has.z)) ?_; dsimp only [List.set_cons_zero, List.set_cons_succ] at hS)
            | (refine toList (by rfl) ?_; refine bsF hS _ _ _ (by rfl) (elOf (by rfl)) [.int .i64 k] (by rfl) (by rfl) (by decide) (by decide) (by simp [Value.cells]) ?_; intro b1 w1 hS1; clear hS; have hS := hS1; clear hS1; rw [sca1 rfl] at hS)
            | (refine toList (by rfl) ?_; refine apI (m := [k]) hS _ _ _ _ (by rfl) (by rfl) (by rfl) (elOf (by rfl)) (by rfl) (by rfl) (by rfl) (inOf (by rfl)) (Has.s Has.z) (by exact hS.csRd0 (n := 1) (sz := 1) Has.z (by decide) rfl) (by simp; omega) ?_; intro v1 w1 hS1; clear hS; have hS := hS1; clear hS1; dsimp only [List.set_cons_zero, List.set_cons_succ] at hS)
            | (go_at_call 23; refine (sort_any hS (by omega)).mono ?_; rintro e w1 ⟨rfl, hS1⟩; clear hS; have hS := hS1; clear hS1))
          · subst hl
            go_ret
            have he : srt os = fltN G.N.length (Img Rl fun m => m < G.N.length ∧ (m : Int) ∈ fl) := srt_flt HND.out fun x => by
              rw [← HE.out x, HKI.out x]; simp
            rw [he] at hS
            refine ⟨_, rfl, irnMk (fun hz => HNIL.out ?_) (hS.pull1.drop)⟩
            rw [← he] at hz
            have := srt_len os
            rw [hz] at this
            exact List.eq_nil_of_length_eq_zero this.symm
          · have HLN := List.length_erase_of_mem hk
            have HPO := List.length_pos_of_mem hk
            have h2 : ∀ n, n ∈ os ++ [k] ↔ n ∈ o2 ∧ n ∉ left.erase k := fun n => by
              rw [List.mem_append, List.mem_singleton, HKI.out n, mem_erase_left HL.out.1 hk]
              constructor
              · rintro (⟨h1, h2⟩ | rfl)
                · exact ⟨h1, .inl h2⟩
                · exact ⟨HL.out.2 _ hk, .inr rfl⟩
              · rintro ⟨h1, h2 | h2⟩
                · exact .inl ⟨h1, h2⟩
                · exact .inr h2
            have h3 : (os ++ [k]).Nodup := by
              rw [List.nodup_append]
              refine ⟨HND.out, by simp, fun x hx y hy e => ?_⟩
              rw [List.mem_singleton] at hy
              subst hy; subst e
              exact ((HKI.out _).1 hx).2 hk
            refine ⟨⟨left.erase k, some k, os ++ [k], h2, h3, (fun h => by simp at h), hS.drop⟩, ?_⟩
            have h4 := (hS.drop).miSeen (Has.s Has.z)
            have h5 := HM.out
            omega
end Go.Proofs.YtpnbdnfgdiakhaaGreat
