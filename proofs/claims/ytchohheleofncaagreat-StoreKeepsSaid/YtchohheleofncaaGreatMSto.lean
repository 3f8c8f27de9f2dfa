/-
 Package store: a Store, as rows; takes, Super, Free, more.
 A good store (plain).
-/
import Derived.Test.YtchohheleofncaaGreatMIng
import Derived.Test.YtchohheleofncaaGreatStTake
import Derived.Test.YtchohheleofncaaGreatMRsu
import Derived.Test.YtchohheleofncaaGreatMRec
set_option linter.unusedSimpArgs false
set_option linter.unusedVariables false
namespace Go.Proofs.YtchohheleofncaaGreat
open Go.RowKit Go.Sep
attribute [local irreducible] Go.Oper.wp Go.wpList Go.Calls Go.Code.wp Go.Sep.Reg
structure StD where
 sup : SupD
 U : Nat → Bool
 inos : List InoD
 recs : List RecD
 last : Nat
def IsSt (ps pd : Nat) (S : StD) : Asrt := Ex fun x : Value × Value => St [Cs ps 85 (stv pd S.sup x.1 S.inos x.2 S.last), IsMap x.1 S.U, Tb 53 3 rv x.2 S.recs]
theorem IsSt.open {W w : World} {L : List Asrt} {ps pd : Nat} {S : StD} (h : Sat W w (IsSt ps pd S :: L)) : ∃ fv r, Sat W w (Cs ps 85 (stv pd S.sup fv S.inos r S.last) :: IsMap fv S.U :: Tb 53 3 rv r S.recs :: L) := by
 obtain ⟨⟨fv, r⟩, h⟩ := h.ex
 exact ⟨fv, r, h.open⟩
theorem IsSt.mk {W w : World} {L : List Asrt} {ps pd : Nat} {S : StD} {fv r : Value} (h : Sat W w (Cs ps 85 (stv pd S.sup fv S.inos r S.last) :: IsMap fv S.U :: Tb 53 3 rv r S.recs :: L)) : Sat W w (IsSt ps pd S :: L) :=
 Sat.mkEx (fv, r) (Sat.mkSt h)
set_option maxRecDepth 20000 in
theorem takes_any {W w : World} {L : List Asrt} {v : Value} {S : Nat → Bool} (hS : Sat W w (IsMap v S :: L)) (n : Nat) (hn : n < 1024) (hu : S n = false) :
  Calls Tryz.prog 49 #[v, .int .i64 (n : Int)] w fun e w' => e = .returned (.bool true) ∧ Sat W w' (IsMap v (upd S n true) :: L) := by
 have HB := Lib.hid (bset_any hS n hn true)
 unfold IsMap at *
 obtain ⟨b, off, c, rfl, _⟩ := hS.slAddr (k := 0) rfl (by decide)
 have HU := Lib.hid (used_any hS S b off c n hn (fun w h => h.slRd (k := 0) rfl))
 rw [hu] at HU
 clear hn hu hS
 go_enter Tryz.func49, Tryz.ntmps49
 go_wp2_with (first
  | (go_at_call 86; refine HU.out.mono ?_; rintro e w1 ⟨rfl, rfl⟩)
  | (go_at_call 56; refine HB.out.mono ?_; rintro e w1 ⟨rfl, hS⟩))
 go_ret
 exact ⟨rfl, hS⟩
set_option maxRecDepth 20000 in
theorem smore_any {W w : World} {L : List Asrt} {ps pd : Nat} {S : StD} (hS : Sat W w (IsSt ps pd S :: L)) (hX : XOk S.inos) (n : Nat) (hn : n ≤ 1000) (hl : S.last ≤ 15) :
  Calls Tryz.prog 51 #[.pointer (some ⟨ps, 0, none⟩), .int .i64 (n : Int)] w fun e w' => e = .returned (.int .i64 (((n + S.last - 1) / 15 : Nat) : Int)) ∧ w = w' := by
 obtain ⟨fv, r, hS⟩ := IsSt.open hS
 have HL := Lib.hid (stv_last (pd := pd) (s := S.sup) (fv := fv) (r := r) (last := S.last) hX)
 have n1 : (n : Int) ≤ 1000 := by omega
 have n2 : (S.last : Int) ≤ 15 := by omega
 obtain ⟨m, hm⟩ : ∃ m, S.last = m := ⟨_, rfl⟩
 rw [hm] at HL hS n2 hl ⊢
 by_cases h0 : n ≤ 15 - m
 ·have HE := Lib.hid (show (n + m - 1) / 15 = 0 by omega)
  have e1 : (n : Int) - (15 - (m : Int)) ≤ 0 := by omega
  clear hm hn hl h0
  go_enter Tryz.func51, Tryz.ntmps51
  go_wp2_with (refine toList (by rfl) ?_; refine ld hS _ _ (by rfl) _ _ (by rfl) (agOf (by rfl)) Has.z HL.out ?_)
  go_ret
  exact ⟨by rw [HE.out]; rfl, rfl⟩
 ·obtain ⟨k, hk⟩ : ∃ k, n + m - 16 = k := ⟨_, rfl⟩
  have HE := Lib.hid (show (n + m - 1) / 15 = k / 15 + 1 by omega)
  have e1 : ¬ (n : Int) - (15 - (m : Int)) ≤ 0 := by omega
  have HQ := Lib.hid (show (n : Int) - (15 - (m : Int)) - 1 = (k : Int) by omega)
  have HT := Lib.hid (show Int.tdiv (k : Int) 15 + 1 = ((k / 15 + 1 : Nat) : Int) by rw [Int.tdiv_eq_ediv_of_nonneg (by omega)]; omega)
  clear hm hn hl h0 hk
  go_enter Tryz.func51, Tryz.ntmps51
  go_wp2_with (refine toList (by rfl) ?_; refine ld hS _ _ (by rfl) _ _ (by rfl) (agOf (by rfl)) Has.z HL.out ?_)
  go_ret
  exact ⟨congrArg (fun z => Ending.returned (Value.int IntKind.i64 z)) (by omega), rfl⟩
set_option maxRecDepth 20000 in
theorem ssuper_any {W w : World} {L : List Asrt} {ps pd : Nat} {S : StD} (hS : Sat W w (IsSt ps pd S :: L)) (hX : XOk S.inos) :
  Calls Tryz.prog 32 #[.pointer (some ⟨ps, 0, none⟩)] w fun e w' => e = .returned (.agg (sv S.sup).toArray) ∧ Sat W w' (IsSt ps pd S :: L) := by
 obtain ⟨fv, r, hS⟩ := IsSt.open hS
 have HL := Lib.hid (stv_len (pd := pd) (s := S.sup) (fv := fv) (r := r) (last := S.last) hX)
 have HS := Lib.hid (stv_sup (pd := pd) (s := S.sup) (fv := fv) (X := S.inos) (r := r) (last := S.last))
 have HM := Lib.hid (fun w (h : Sat W w (_ :: _)) => IsSt.mk (W := W) (w := w) (L := L) (ps := ps) (pd := pd) (S := S) (fv := fv) (r := r) h)
 obtain ⟨V, hV⟩ : ∃ V, stv pd S.sup fv S.inos r S.last = V := ⟨_, rfl⟩
 rw [hV] at hS HL HS HM
 clear hV
 go_enter Tryz.func32, Tryz.ntmps32
 go_wp2_with (first
  | (refine toList (by rfl) ?_; refine al hS _ (by rfl) (zrOf (by rfl)) ?_; clear hS; intro p2 w1 hS; rw [cells_agg] at hS)
  | (refine toList (by rfl) ?_; refine wp_of_reads (rLdA hS _ _ (by rfl) _ _ (by rfl) (agOf (by rfl)) (szOf (by rfl)) (Has.s Has.z) (vs := sv S.sup) HS.out (by rfl)) ?_)
  | (refine toList (by rfl) ?_; refine stW hS _ _ _ (by rfl) (by rfl) (sv S.sup) (by rfl) (sv_all _) (szOf (by rfl)) Has.z (by rfl) ?_; clear hS; intro w1 hS; dsimp only [List.set_cons_zero, List.set_cons_succ] at hS))
 refine bodyPost_cell hS rfl (by rfl) (agOf (by rfl)) (szOf (by rfl)) Has.z (by rfl) rfl ?_
 exact ⟨rfl, HM.out _ hS.drop⟩
theorem has_add {M : List Asrt} {k : Nat} {A : Asrt} (h : Has M k A) (L' : List Asrt) : Has (L' ++ M) (L'.length + k) A := by
 induction L' with
 | nil => rw [List.length_nil, Nat.zero_add]; exact h
 | cons x L' ih => rw [List.length_cons, Nat.add_right_comm]; exact Has.s ih
theorem map_rd {W : World} {M : List Asrt} {k : Nat} {v : Value} {U : Nat → Bool} (h : Has M k (IsMap v U)) : ∀ w L', Sat W w (L' ++ M) → Rd w v 128 1 (bv (mapB U)) := by
 intro w L' hS
 have h2 := has_add h L'
 unfold IsMap at h2
 exact hS.slRd h2
set_option maxRecDepth 20000 in
theorem sfree_any {W w : World} {L : List Asrt} {ps pd n : Nat} {S : StD} (hS : Sat W w (IsSt ps pd S :: L)) (hn : S.sup.blocks = (n : Int)) (h0 : 0 < n) (h1 : n ≤ 1024) :
  Calls Tryz.prog 13 #[.pointer (some ⟨ps, 0, none⟩)] w fun e w' => e = .returned (.int .i64 (((freeL S.U n).length : Nat) : Int)) ∧ Sat W w' (IsSt ps pd S :: L) := by
 obtain ⟨fv, r, hS⟩ := IsSt.open hS
 obtain ⟨b, off, c, rfl, _⟩ : ∃ b off c, fv = .slice (some ⟨b, off, none⟩) 128 c ∧ 128 ≤ c := by
  have hk : Has (Cs ps 85 (stv pd S.sup fv S.inos r S.last) :: IsMap fv S.U :: Tb 53 3 rv r S.recs :: L) 1 (IsMap fv S.U) := Has.s Has.z
  unfold IsMap at hk
  exact hS.slAddr hk (by decide)
 have g1 : (stv pd S.sup (.slice (some ⟨b, off, none⟩) 128 c) S.inos r S.last)[1]? = some (.int .i64 (n : Int)) := by rw [stv_low (by decide), ← hn]; rfl
 have g8 : (stv pd S.sup (.slice (some ⟨b, off, none⟩) 128 c) S.inos r S.last)[8]? = some (.slice (some ⟨b, off, none⟩) 128 c) := stv_free
 have HM := Lib.hid (fun w h => IsSt.mk (W := W) (w := w) (L := L) (ps := ps) (pd := pd) (S := S) (fv := .slice (some ⟨b, off, none⟩) 128 c) (r := r) h)
 obtain ⟨V, hV⟩ : ∃ V, stv pd S.sup (.slice (some ⟨b, off, none⟩) 128 c) S.inos r S.last = V := ⟨_, rfl⟩
 rw [hV] at hS HM g1 g8
 have HF := Lib.hid (fun w (h : Sat W w (Cs ps 85 V :: IsMap (.slice (some ⟨b, off, none⟩) 128 c) S.U :: Tb 53 3 rv r S.recs :: L)) => free_any h S.U b off c n h1 h0 (map_rd (Has.s Has.z)))
 have G1 := Lib.hid g1
 have G8 := Lib.hid g8
 clear hV g1 g8 hn h0 h1
 go_enter Tryz.func13, Tryz.ntmps13
 go_wp2
 refine regStart [9] hS (by kernel_rfl) rfl ?_
 intro w1 hS1
 clear hS; have hS := hS1; clear hS1
 (refine rgP 0 hS (fun _ h => h) ?_; go_frame)
 (refine rgP 1 hS (fun _ h => h) ?_; go_frame)
 (refine rgP 2 hS (fun _ h => h) ?_; go_frame)
 (refine rgR 3 hS (fun _ h => h) ?_; (first
    | refine ⟨_, yLd _ _ (by rfl) _ _ (by rfl) (agOf (by rfl)) Has.z G1.out, ?_⟩
    | refine ⟨_, yLd _ _ (by rfl) _ _ (by rfl) (agOf (by rfl)) Has.z G8.out, ?_⟩); go_frame)
 (refine rgP 4 hS (fun _ h => h) ?_; go_frame)
 (refine rgP 5 hS (fun _ h => h) ?_; go_frame)
 (refine rgP 6 hS (fun _ h => h) ?_; go_frame)
 (refine rgP 7 hS (fun _ h => h) ?_; go_frame)
 (refine rgR 8 hS (fun _ h => h) ?_; (first
    | refine ⟨_, yLd _ _ (by rfl) _ _ (by rfl) (agOf (by rfl)) Has.z G1.out, ?_⟩
    | refine ⟨_, yLd _ _ (by rfl) _ _ (by rfl) (agOf (by rfl)) Has.z G8.out, ?_⟩); go_frame)
 (refine rgA 9 true fun K hK => ?_; (refine Go.Sep.cl 43 _ _ (by rfl) (by rfl) (by kernel_rfl) (HF.out _ hS) ?_; clear hS; rintro e w1 ⟨rfl, hS⟩; refine ⟨_, rfl, ?_⟩); refine hK _ _ _ hS (by first | (intro h; cases h; done) | exact fun _ _ h => h | exact fun _ _ h => h.drop | exact fun _ _ h => h.drop.drop | exact fun _ _ h => h.drop.pull1 | exact fun _ _ h => h.take2 | exact fun _ _ h => h.one Has.z | exact fun _ _ h => h.one (Has.s Has.z) | exact fun _ _ h => h.one (Has.s (Has.s Has.z))) ?_; clear hK K; go_frame)
 (refine rgP 10 hS (fun _ h => h) ?_; go_frame)
 refine regDone (by kernel_rfl) ?_
 go_wp2
 go_ret
 exact ⟨rfl, HM.out _ hS⟩
end Go.Proofs.YtchohheleofncaaGreat
namespace Go.Proofs.YtchohheleofncaaGreat
open Go.RowKit Go.Sep
def usedBy (n : Nat) (l : List Nat) (p : Nat) : Bool := usedU n p || l.contains p
theorem usedBy_nil (n : Nat) : usedBy n [] = usedU n := by funext p; simp [usedBy]
theorem usedBy_snoc (n : Nat) (l : List Nat) (q : Nat) : upd (usedBy n l) q true = usedBy n (l ++ [q]) := by
 funext p
 unfold upd usedBy
 by_cases h : p = q
 ·subst h; simp
 ·rw [if_neg h]; simp [h]
theorem usedBy_new {n : Nat} {l : List Nat} {q : Nat} (h1 : 74 ≤ q) (h2 : q < n) (h3 : q ∉ l) : usedBy n l q = false := by
 unfold usedBy usedU
 rw [decide_eq_false (by omega), decide_eq_false (by omega)]
 simp [h3]
def blksI (x : InoD) : List Nat := (x.ptrs.filter (fun p => decide (p ≠ 0))).map Int.toNat
def blksX (X : List InoD) : List Nat := X.flatMap blksI
def chunk (l : List RecD) (i : Nat) : List RecD := (l.drop (15 * i)).take 15
def nextG (gs : List Nat) (i : Nat) : Int := ((gs[i + 1]?.getD 0 : Nat) : Int)
structure SOk (B : List (List UInt8)) (S : StD) (gs : List Nat) : Prop where
 n1 : 160 ≤ B.length
 n2 : B.length ≤ 1024
 x : XOk S.inos
 sup : okSup S.sup = true
 blocks : S.sup.blocks = (B.length : Int)
 ne : gs ≠ []
 head : S.sup.head = ((gs.head ne : Nat) : Int)
 tail : S.sup.tail = ((gs.getLast ne : Nat) : Int)
 recs : S.sup.records = ((S.recs.length : Nat) : Int)
 low : 15 * (gs.length - 1) ≤ S.recs.length
 high : S.recs.length ≤ 15 * gs.length
 last : S.last = S.recs.length - 15 * (gs.length - 1)
 rok : S.recs.all recOk = true
 gr : (Gr.new.appL S.recs).2 = S.recs.length
 rng : ∀ p ∈ blksX S.inos ++ gs, 74 ≤ p ∧ p < B.length
 nd : (blksX S.inos ++ gs).Nodup
 u : S.U = usedBy B.length (blksX S.inos ++ gs)
 b0 : B[0]? = some (encS S.sup)
 b1 : B[1]? = some (mapB S.U)
 b2 : B[2]? = some (zeros 128)
 bi : ∀ (i : Nat) x, S.inos[i]? = some x → B[26 + i]? = some (encI x)
 bg : ∀ (i : Nat) g, gs[i]? = some g → B[g]? = some (encB (chunk S.recs i) (nextG gs i))
theorem nodup_le : ∀ (n : Nat) (l : List Nat), l.Nodup → (∀ x ∈ l, x < n) → l.length ≤ n
 | 0, l, _, h => by
  cases l with
  | nil => exact Nat.le_refl _
  | cons x l => exact absurd (h x (List.mem_cons_self ..)) (Nat.not_lt_zero _)
 | n + 1, l, hn, h => by
  by_cases hm : n ∈ l
  ·have := nodup_le n (l.erase n) (hn.erase n) (fun x hx => by
    have h2 := (hn.mem_erase_iff).1 hx
    have := h x h2.2
    have := h2.1
    omega)
   rw [List.length_erase_of_mem hm] at this
   omega
  ·have := nodup_le n l hn (fun x hx => by
    have := h x hx
    have : x ≠ n := fun e => hm (e ▸ hx)
    omega)
   omega
theorem SOk.glen {B : List (List UInt8)} {S : StD} {gs : List Nat} (h : SOk B S gs) : gs.length ≤ 1024 := by
 have h1 : gs.Nodup := (List.nodup_append.1 h.nd).2.1
 have h2 : ∀ p ∈ gs, p < 1024 := fun p hp => by have := (h.rng p (List.mem_append_right _ hp)).2; have := h.n2; omega
 exact nodup_le 1024 gs h1 h2
theorem chunk_len {l : List RecD} {i : Nat} : (chunk l i).length = min 15 (l.length - 15 * i) := by unfold chunk; rw [List.length_take, List.length_drop]
theorem chunk_take (l : List RecD) (i : Nat) : l.take (15 * i) ++ chunk l i = l.take (15 * (i + 1)) := by
 unfold chunk
 rw [show 15 * (i + 1) = 15 * i + 15 by omega, List.take_add]
theorem SOk.okPut {B : List (List UInt8)} {S : StD} {gs : List Nat} (h : SOk B S gs) (i : Nat) : okPut (chunk S.recs i) (nextG gs i) = true := by
 unfold Proofs.YtchohheleofncaaGreat.okPut
 have h1 : (chunk S.recs i).all recOk = true := by
  rw [List.all_eq_true]
  intro x hx
  exact List.all_eq_true.1 h.rok x (List.mem_of_mem_drop (List.mem_of_mem_take hx))
 have h2 : okNext (nextG gs i) = true := by
  unfold nextG
  cases hg : gs[i + 1]? with
  | none => rfl
  | some g =>
   have := h.rng g (List.mem_append_right _ (List.mem_of_getElem? hg))
   have := h.n2
   unfold okNext inB
   simp
   omega
 rw [h1, h2, decide_eq_true (by rw [chunk_len]; omega)]
 rfl
end Go.Proofs.YtchohheleofncaaGreat
