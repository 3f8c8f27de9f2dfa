/-
 law 23: made, awake; how many blocks are free.
 Package store: Records, Inode, Block, Fits.
-/
import Derived.Test.YtchohheleofncaaGreatStOpen
import Derived.Test.YtchohheleofncaaGreatMGrp
import Derived.Test.YtchohheleofncaaGreatStFormat
set_option linter.unusedSimpArgs false
set_option linter.unusedVariables false
namespace Go.Proofs.YtchohheleofncaaGreat
open Go.RowKit Go.Sep
attribute [local irreducible] Go.Oper.wp Go.wpList Go.Calls Go.Code.wp Go.Sep.Reg
theorem fld_next (w : World) (x : SupD) : (Instr.field 77 (.agg (sv x).toArray) 5).run Tryz.prog w = .ok (.int .i64 x.next) w := by kernel_rfl
theorem nodup_sub : ∀ (l m : List Nat), l.Nodup → (∀ x ∈ l, x ∈ m) → l.length ≤ m.length
 | [], _, _, _ => Nat.zero_le _
 | x :: l, m, hn, h => by
  have hx := h x (List.mem_cons_self ..)
  have := nodup_sub l (m.erase x) (List.nodup_cons.1 hn).2 (fun y hy => by
   have hne : y ≠ x := fun e => (List.nodup_cons.1 hn).1 (e ▸ hy)
   exact (List.mem_erase_of_ne hne).2 (h y (List.mem_cons_of_mem _ hy)))
  rw [List.length_erase_of_mem hx] at this
  have hp := List.length_pos_of_mem hx
  rw [List.length_cons]
  omega
theorem freeL_count {n : Nat} {l : List Nat} (hn : l.Nodup) (hr : ∀ p ∈ l, 74 ≤ p ∧ p < n) (h74 : 74 ≤ n) : (freeL (usedBy n l) n).length + l.length + 74 = n := by
 have hf : ∀ p, p ∈ freeL (usedBy n l) n ↔ (74 ≤ p ∧ p < n) ∧ p ∉ l := fun p => by
  unfold freeL usedBy usedU
  rw [List.mem_filter, List.mem_range]
  simp
  omega
 have h1 : (freeL (usedBy n l) n ++ (l ++ List.range 74)).length ≤ n := by
  refine nodup_le n _ ?_ ?_
  ·rw [List.nodup_append]
   refine ⟨List.filter_sublist.nodup List.nodup_range, ?_, ?_⟩
   ·rw [List.nodup_append]
    refine ⟨hn, List.nodup_range, fun a ha b hb e => ?_⟩
    subst e
    have := (hr a ha).1
    have := List.mem_range.1 hb
    omega
   ·intro a ha b hb e
    subst e
    have h2 := (hf a).1 ha
    rcases List.mem_append.1 hb with hb | hb
    ·exact h2.2 hb
    ·have := List.mem_range.1 hb
     omega
  ·intro x hx
   rcases List.mem_append.1 hx with hx | hx
   ·exact ((hf x).1 hx).1.2
   ·rcases List.mem_append.1 hx with hx | hx
    ·exact (hr x hx).2
    ·have := List.mem_range.1 hx
     omega
 have h2 : (List.range n).length ≤ (freeL (usedBy n l) n ++ (l ++ List.range 74)).length := by
  refine nodup_sub _ _ List.nodup_range ?_
  intro x hx
  have hx := List.mem_range.1 hx
  by_cases h74 : x < 74
  ·exact List.mem_append_right _ (List.mem_append_right _ (List.mem_range.2 h74))
  ·by_cases hl : x ∈ l
   ·exact List.mem_append_right _ (List.mem_append_left _ hl)
   ·exact List.mem_append_left _ ((hf x).2 ⟨⟨by omega, hx⟩, hl⟩)
 rw [List.length_append, List.length_append, List.length_range] at h1
 rw [List.length_append, List.length_append, List.length_range, List.length_range] at h2
 omega
theorem SOk.free {B : List (List UInt8)} {S : StD} {gs : List Nat} (h : SOk B S gs) : (freeL S.U B.length).length + (blksX S.inos).length + gs.length + 74 = B.length := by
 have := freeL_count h.nd h.rng (by have := h.n1; omega)
 rw [h.u]
 rw [List.length_append] at this
 omega
theorem open_live {W w : World} {L : List Asrt} {pd k : Nat} {S : StD} {D : DiskS} {B : List (List UInt8)} {gs : List Nat} (hok : SOk B S gs) (hl : Lv D B k) (hk : k ≤ 90000) (hS : Sat W w (IsDisk pd D :: L)) :
  Calls Tryz.prog 14 #[.pointer (some ⟨pd, 0, none⟩)] w fun e w' => OpE W L pd S D e w' :=
 open_any hok hl.ok hk (by rw [hl.bl]; have := hok.n1; omega) (live_rec hl hok.b2).2 hl hS
def MadeE (W : World) (L : List Asrt) (n : Nat) (e : Ending) (w' : World) : Prop := ∃ pd ps D, e = .returned (.tuple #[.pointer (some ⟨pd, 0, none⟩), .pointer (some ⟨ps, 0, none⟩)]) ∧ Lv D (fmtB n) 60 ∧ Sat W w' (IsSt ps pd (S0 n) :: IsDisk pd D :: L)
set_option maxRecDepth 20000 in
set_option maxHeartbeats 4000000 in
theorem made_any {W w : World} {L : List Asrt} (hS : Sat W w L) {n : Nat} (h1 : 160 ≤ n) (h2 : n ≤ 1024) : Calls Tryz.prog 8 #[.int .i64 (n : Int)] w fun e w' => MadeE W L n e w' := by
 have HNEW := Lib.hid (fun w (h : Sat W w L) => new_ok h (n : Int) (by omega) (by omega))
 have HF := Lib.hid (fun w p (h : Sat W w (IsDisk p (.new (n : Int)) :: L)) => format_any h (Lv.new h2) h1 h2)
 have HO := Lib.hid (fun w p D (hl : Lv D (fmtB n) 60) (h : Sat W w (IsDisk p D :: L)) => open_live (sok_fmt h1 h2) hl (by decide) h)
 clear h1 h2
 go_enter Tryz.func8, Tryz.ntmps8
 go_wp2_with (first
  | (go_at_call 20; refine (HNEW.out _ hS).mono ?_; clear hS; rintro e w1 ⟨pd, rfl, hS⟩)
  | (go_at_call 22; refine (HF.out _ _ hS).mono ?_; rintro e w1 ⟨rfl, hE⟩; obtain ⟨D, hl, hS1⟩ := hE; have HL := Lib.hid hl; clear hl; clear hS; have hS := hS1; clear hS1)
  | (go_at_call 14; refine (HO.out _ _ _ (HL.out.mono (by decide)) hS).mono ?_; rintro e w1 hE; obtain ⟨ps, rfl, hS1⟩ := hE; clear hS; have hS := hS1; clear hS1))
 go_ret2
 exact ⟨pd, ps, D, rfl, HL.out.mono (by decide), hS⟩
theorem free0 {n : Nat} (h1 : 160 ≤ n) (h2 : n ≤ 1024) : (freeL (S0 n).U n).length = n - 75 := by
 have := (sok_fmt h1 h2).free
 rw [blksX_S0, fmtB_len] at this
 simp at this
 omega
set_option maxRecDepth 20000 in
set_option maxHeartbeats 4000000 in
theorem awake_any {W w : World} {L : List Asrt} (hS : Sat W w L) : Calls Tryz.prog 15 #[] w fun e w' => e = .returned (.bool true) ∧ Sat W w' L := by
 have HNEW := Lib.hid (fun w (h : Sat W w L) => new_ok h 200 (by decide) (by decide))
 have HF := Lib.hid (fun w p (h : Sat W w (IsDisk p (.new 200) :: L)) => format_any (n := 200) h (Lv.new (n := 200) (by decide)) (by decide) (by decide))
 have HO := Lib.hid (fun w p D (hl : Lv D (fmtB 200) 60) (h : Sat W w (IsDisk p D :: L)) => open_live (sok_fmt (n := 200) (by decide) (by decide)) hl (by decide) h)
 have HX := (sok_fmt (n := 200) (by decide) (by decide)).x
 have HFR := Lib.hid (fun w ps pd D (h : Sat W w (IsSt ps pd (S0 200) :: IsDisk pd D :: L)) => sfree_any (n := 200) h rfl (by decide) (by decide))
 rw [free0 (n := 200) (by decide) (by decide)] at HFR
 have HSU := Lib.hid (fun w ps pd D (h : Sat W w (IsSt ps pd (S0 200) :: IsDisk pd D :: L)) => ssuper_any h HX)
 have hfd := fun w => fld_next w (S0 200).sup
 rw [show (S0 200).sup.next = 1 from rfl] at hfd
 clear HX
 go_enter Tryz.func15, Tryz.ntmps15
 go_wp2_with (first
  | (go_at_call 20; refine (HNEW.out _ hS).mono ?_; clear hS; rintro e w1 ⟨pd, rfl, hS⟩)
  | (go_at_call 22; refine (HF.out _ _ hS).mono ?_; rintro e w1 ⟨rfl, hE⟩; obtain ⟨D, hl, hS1⟩ := hE; have HL := Lib.hid hl; clear hl; clear hS; have hS := hS1; clear hS1)
  | (go_at_call 14; refine (HO.out _ _ _ (HL.out.mono (by decide)) hS).mono ?_; rintro e w1 hE; obtain ⟨ps, rfl, hS1⟩ := hE; clear hS; have hS := hS1; clear hS1)
  | (go_at_call 13; refine (HFR.out _ _ _ _ hS).mono ?_; clear hS; rintro e w1 ⟨rfl, hS⟩)
  | (go_at_call 32; refine (HSU.out _ _ _ _ hS).mono ?_; clear hS; rintro e w1 ⟨rfl, hS⟩))
 go_ret
 exact ⟨rfl, hS.drop.drop⟩
end Go.Proofs.YtchohheleofncaaGreat
namespace Go.Proofs.YtchohheleofncaaGreat
open Go.RowKit Go.Sep
attribute [local irreducible] Go.Oper.wp Go.wpList Go.Calls Go.Code.wp Go.Sep.Reg
set_option maxRecDepth 20000 in
theorem srecs_any {W w : World} {L : List Asrt} {ps pd : Nat} {S : StD} (hS : Sat W w (IsSt ps pd S :: L)) (hX : XOk S.inos) (hl : S.recs.length ≤ 900000) :
  Calls Tryz.prog 52 #[.pointer (some ⟨ps, 0, none⟩)] w fun e w' => ∃ v, e = .returned v ∧ Sat W w' (Tb 53 3 rv v S.recs :: IsSt ps pd S :: L) := by
 obtain ⟨fv, r, hS⟩ := IsSt.open hS
 have HL := Lib.hid (stv_rec (pd := pd) (s := S.sup) (fv := fv) (r := r) (last := S.last) hX)
 have HM := Lib.hid (fun w L h => IsSt.mk (W := W) (w := w) (L := L) (ps := ps) (pd := pd) (S := S) (fv := fv) (r := r) h)
 have HR := Lib.hid (hS.tbRd (Has.s (Has.s Has.z)))
 have H3 := Lib.hid (show ∀ x ∈ S.recs, (rv x).length = 3 from fun _ _ => rfl)
 have HO := Lib.hid (show ∀ u ∈ S.recs.flatMap rv, u.oneCell' = true from fun u hu => by
  obtain ⟨x, _, hx⟩ := List.mem_flatMap.1 hu
  exact rv_all x u hx)
 obtain ⟨V, hV⟩ : ∃ V, stv pd S.sup fv S.inos r S.last = V := ⟨_, rfl⟩
 rw [hV] at hS HL HM
 clear hV
 go_enter Tryz.func52, Tryz.ntmps52
 go_wp2_with (first
  | (refine toList (by rfl) ?_; refine ld hS _ _ (by rfl) _ _ (by rfl) (agOf (by rfl)) Has.z HL.out ?_)
  | (refine toList (by rfl) ?_; refine apTbS (Sat.tbNil (E := 53) (sz := 3) (f := rv) hS) _ _ _ _ (by rfl) _ _ (by rfl) (by rfl) (elOf (by rfl)) (by rfl) (by decide) (inOf (by rfl)) Has.z S.recs H3.out (.inl HR.out) HO.out (by have := hl; simp; omega) (by have := hl; simp; omega) ?_; clear hS; intro ao4 c4 w1 _ hS; dsimp only [List.set_cons_zero, List.set_cons_succ, List.nil_append] at hS))
 go_ret
 exact ⟨_, rfl, (HM.out _ _ ((hS.re [1, 2, 3, 0]))).pull1⟩
set_option maxRecDepth 20000 in
theorem sinode_any {W w : World} {L : List Asrt} {ps pd : Nat} {S : StD} (hS : Sat W w (IsSt ps pd S :: L)) (hX : XOk S.inos) (i : Nat) {x : InoD} (hx : S.inos[i]? = some x) :
  Calls Tryz.prog 11 #[.pointer (some ⟨ps, 0, none⟩), .int .i64 (i : Int)] w fun e w' => e = .returned (.tuple #[.agg (inv x).toArray, .bool true]) ∧ Sat W w' (IsSt ps pd S :: L) := by
 obtain ⟨fv, r, hS⟩ := IsSt.open hS
 have hi : i < 48 := by have := (List.getElem?_eq_some_iff.1 hx).1; rw [hX.len] at this; exact this
 have HL := Lib.hid (stv_len (pd := pd) (s := S.sup) (fv := fv) (r := r) (last := S.last) hX)
 have HS := Lib.hid (stv_ino (pd := pd) (s := S.sup) (fv := fv) (r := r) (last := S.last) hX hx)
 have HM := Lib.hid (fun w L h => IsSt.mk (W := W) (w := w) (L := L) (ps := ps) (pd := pd) (S := S) (fv := fv) (r := r) h)
 have HIL := Lib.hid (show (inv x).length = 37 by rw [inv_len, (hX.ok x (List.mem_of_getElem? hx)).pl])
 have HI1 := Lib.hid (inv_one x)
 obtain ⟨V, hV⟩ : ∃ V, stv pd S.sup fv S.inos r S.last = V := ⟨_, rfl⟩
 rw [hV] at hS HL HS HM
 obtain ⟨iv, hiv⟩ : ∃ iv, inv x = iv := ⟨_, rfl⟩
 rw [hiv] at HS HIL HI1 ⊢
 have i1 : (i : Int) < 48 := by omega
 have e1 : decide ((i : Int) < 0) = false := decide_eq_false (by omega)
 have e2 : decide ((48 : Int) ≤ (i : Int)) = false := decide_eq_false (by omega)
 have e3 : decide (48 ≤ i) = false := decide_eq_false (by omega)
 clear hV hiv hx hi
 go_enter Tryz.func11, Tryz.ntmps11
 go_wp2_with (first
  | (refine toList (by rfl) ?_; refine al hS _ (by rfl) (zrOf (by rfl)) ?_; clear hS; intro p2 w1 hS; rw [cells_agg] at hS)
  | (refine toList (by rfl) ?_; refine wp_of_reads (rLdA hS _ _ (by rfl) _ _ (by rfl) (agOf (by rfl)) (szOf (by rfl)) (Has.s Has.z) (vs := iv) HS.out HIL.out) ?_)
  | (refine toList (by rfl) ?_; refine stW hS _ _ _ (by rfl) (by rfl) iv (by rfl) HI1.out (by rw [HIL.out]; exact szOf (by rfl)) Has.z (by rw [HIL.out]; rfl) ?_; clear hS; intro w1 hS; dsimp only [List.set_cons_zero, List.set_cons_succ] at hS))
 refine bodyPost_cell_tmp hS rfl (by rfl) (agOf (by rfl)) (szOf (by rfl)) Has.z (by first | rfl | exact HIL.out) rfl ?_
 exact ⟨rfl, HM.out _ _ hS.drop⟩
def blkOf (B : List (List UInt8)) (p : Int) : List UInt8 := if p = 0 then zeros 128 else B[p.toNat]?.getD []
set_option maxRecDepth 20000 in
set_option maxHeartbeats 4000000 in
theorem sblock_any {W w : World} {L : List Asrt} {ps pd : Nat} {S : StD} {D : DiskS} (hS : Sat W w (IsSt ps pd S :: IsDisk pd D :: L)) (hX : XOk S.inos) (hD : D.blocks.length ≤ 1024) (i k : Nat) {x : InoD} (hx : S.inos[i]? = some x) {p : Int} (hp : x.ptrs[k]? = some p)
  (hr : p ≠ 0 → 0 ≤ p ∧ p < D.blocks.length) :
  Calls Tryz.prog 12 #[.pointer (some ⟨ps, 0, none⟩), .int .i64 (i : Int), .int .i64 (k : Int)] w fun e w' => ∃ q, e = .returned (.tuple #[.slice (some ⟨q, 0, none⟩) 128 128, .bool true]) ∧ ∃ E, Sat W w' (Cs q E (bv (blkOf D.blocks p)) :: IsSt ps pd S :: IsDisk pd D :: L) := by
 have HI := Lib.hid (fun w (h : Sat W w (IsSt ps pd S :: IsDisk pd D :: L)) => sinode_any h hX i hx)
 have hk : k < 32 := by have := (List.getElem?_eq_some_iff.1 hp).1; rw [(hX.ok x (List.mem_of_getElem? hx)).pl] at this; exact this
 have HIL := Lib.hid (show (inv x).length = 37 by rw [inv_len, (hX.ok x (List.mem_of_getElem? hx)).pl])
 have HI1 := Lib.hid (inv_one x)
 have HP := Lib.hid (inv_ptr hp)
 obtain ⟨iv, hiv⟩ : ∃ iv, inv x = iv := ⟨_, rfl⟩
 rw [hiv] at HI HIL HI1 HP
 have k1 : (k : Int) < 32 := by omega
 have e1 : decide ((k : Int) < 0) = false := decide_eq_false (by omega)
 have e2 : decide ((32 : Int) ≤ (k : Int)) = false := decide_eq_false (by omega)
 have e3 : decide (32 ≤ k) = false := decide_eq_false (by omega)
 by_cases h0 : p = 0
 ·subst h0
  clear hr hp hx hiv hk
  go_enter Tryz.func12, Tryz.ntmps12
  go_wp2_with (first
   | (go_at_call 11; refine (HI.out _ hS).mono ?_; clear hS; rintro e w1 ⟨rfl, hS⟩)
   | (refine toList (by rfl) ?_; refine al hS _ (by rfl) (zrOf (by rfl)) ?_; clear hS; intro p2 w1 hS; rw [cells_agg] at hS)
   | (refine toList (by rfl) ?_; refine stW hS _ _ _ (by rfl) (by rfl) iv (by rfl) HI1.out (by rw [HIL.out]; exact szOf (by rfl)) Has.z (by rw [HIL.out]; rfl) ?_; clear hS; intro w1 hS; dsimp only [List.set_cons_zero, List.set_cons_succ] at hS)
   | (refine toList (by rfl) ?_; refine ld hS _ _ (by rfl) _ _ (by rfl) (agOf (by rfl)) Has.z HP.out ?_)
   | (refine toList (by rfl) ?_; refine mk hS _ _ _ (by rfl) 128 128 _ _ (by rfl) (by rfl) (elOf (by rfl)) (by omega) (by omega) (by omega) ?_; clear hS; intro q w1 hS; rw [made_u8] at hS))
  go_ret2
  exact ⟨q, rfl, _, hS.pull1.drop⟩
 ·obtain ⟨h1, h2⟩ := hr h0
  obtain ⟨j, rfl⟩ : ∃ j : Nat, p = (j : Int) := ⟨p.toNat, by omega⟩
  obtain ⟨b, hb⟩ : ∃ b, D.blocks[j]? = some b := ⟨_, List.getElem?_eq_getElem (by omega)⟩
  have hbo : blkOf D.blocks (j : Int) = b := by unfold blkOf; rw [if_neg h0, Int.toNat_natCast, hb]; rfl
  rw [hbo]
  have HRD := Lib.hid (fun w L (h : Sat W w (IsDisk pd D :: L)) => read_ok h j b hb hD)
  have e4 : ((j : Int) == 0) = false := beq_eq_false_iff_ne.2 h0
  have HM := Lib.hid (fun w L (h : Sat W w (IsSt ps pd S :: L)) => IsSt.open h)
  have HM2 := Lib.hid (fun w L fv r h => IsSt.mk (W := W) (w := w) (L := L) (ps := ps) (pd := pd) (S := S) (fv := fv) (r := r) h)
  have HG := Lib.hid (fun fv r => show (stv pd S.sup fv S.inos r S.last)[0]? = some (.pointer (some ⟨pd, 0, none⟩)) from rfl)
  clear hr hp hx hiv hk h0 h1 h2 hbo hb
  go_enter Tryz.func12, Tryz.ntmps12
  go_wp2_with (first
   | (go_at_call 11; refine (HI.out _ hS).mono ?_; clear hS; rintro e w1 ⟨rfl, hS⟩)
   | (refine toList (by rfl) ?_; refine al hS _ (by rfl) (zrOf (by rfl)) ?_; clear hS; intro p2 w1 hS; rw [cells_agg] at hS)
   | (refine toList (by rfl) ?_; refine stW hS _ _ _ (by rfl) (by rfl) iv (by rfl) HI1.out (by rw [HIL.out]; exact szOf (by rfl)) Has.z (by rw [HIL.out]; rfl) ?_; clear hS; intro w1 hS; dsimp only [List.set_cons_zero, List.set_cons_succ] at hS)
   | (refine toList (by rfl) ?_; refine ld hS _ _ (by rfl) _ _ (by rfl) (agOf (by rfl)) Has.z HP.out ?_))
  obtain ⟨fv, r, hS1⟩ := HM.out _ _ hS.pull1
  clear hS; have hS := hS1; clear hS1
  have hS1 := hS.re [3, 0, 4, 1, 2]
  clear hS
  have hS := hS1
  clear hS1
  refine regStart [8] hS (by kernel_rfl) rfl ?_
  intro w1 hS1
  clear hS; have hS := hS1; clear hS1
  (refine rgP 0 hS (fun _ h => h) ?_; go_frame)
  (refine rgP 1 hS (fun _ h => h) ?_; go_frame)
  (refine rgP 2 hS (fun _ h => h) ?_; go_frame)
  (refine rgR 3 hS (fun _ h => h) ?_; (first
       | refine ⟨_, yLd _ _ (by rfl) _ _ (by rfl) (agOf (by rfl)) (Has.s Has.z) (HG.out _ _), ?_⟩
       | refine ⟨_, yLd _ _ (by rfl) _ _ (by rfl) (agOf (by rfl)) Has.z HP.out, ?_⟩); go_frame)
  (refine rgP 4 hS (fun _ h => h) ?_; go_frame)
  (refine rgP 5 hS (fun _ h => h) ?_; go_frame)
  (refine rgP 6 hS (fun _ h => h) ?_; go_frame)
  (refine rgR 7 hS (fun _ h => h) ?_; (first
       | refine ⟨_, yLd _ _ (by rfl) _ _ (by rfl) (agOf (by rfl)) (Has.s Has.z) (HG.out _ _), ?_⟩
       | refine ⟨_, yLd _ _ (by rfl) _ _ (by rfl) (agOf (by rfl)) Has.z HP.out, ?_⟩); go_frame)
  (refine rgA 8 true fun K hK => ?_; (refine Go.Sep.cl 42 _ _ (by rfl) (by rfl) (by kernel_rfl) (HRD.out _ _ (hS.re [2, 0, 1])) ?_; clear hS; rintro e w1 ⟨q, rfl, _, hS⟩; refine ⟨_, rfl, ?_⟩); refine hK _ _ _ hS (by first | (intro h; cases h; done) | exact fun _ _ h => h | exact fun _ _ h => h.drop | exact fun _ _ h => h.drop.drop | exact fun _ _ h => h.drop.pull1 | exact fun _ _ h => h.take2 | exact fun _ _ h => h.one Has.z | exact fun _ _ h => h.one (Has.s Has.z) | exact fun _ _ h => h.one (Has.s (Has.s Has.z))) ?_; clear hK K; go_frame)
  (refine rgP 9 hS (fun _ h => h) ?_; go_frame)
  (refine rgP 10 hS (fun _ h => h) ?_; go_frame)
  (refine rgP 11 hS (fun _ h => h) ?_; go_frame)
  (refine rgP 12 hS (fun _ h => h) ?_; go_frame)
  (refine rgP 13 hS (fun _ h => h) ?_; go_frame)
  refine regDone (by kernel_rfl) ?_
  go_wp2
  go_ret2
  exact ⟨q, rfl, _, ((HM2.out _ _ _ _ ((hS.re [3, 4, 5, 0, 1, 2]))).re [3, 1, 0, 2]).drop⟩
set_option maxRecDepth 20000 in
theorem sfits_any {W w : World} {L : List Asrt} {ps pd b : Nat} {S : StD} (hS : Sat W w (IsSt ps pd S :: L)) (hX : XOk S.inos) (hb : S.sup.blocks = (b : Int)) (h0 : 0 < b) (h1 : b ≤ 1024) (hl : S.last ≤ 15) (r p : Nat) (hr : r ≤ 60) (hp : p ≤ 100000) :
  Calls Tryz.prog 17 #[.pointer (some ⟨ps, 0, none⟩), .int .i64 (r : Int), .int .i64 (p : Int)] w fun e w' => e = .returned (.bool (decide ((p : Int) ≤ (((freeL S.U b).length : Nat) : Int) - (((r + S.last - 1) / 15 : Nat) : Int) - 4))) ∧ Sat W w' (IsSt ps pd S :: L) := by
 have HF := Lib.hid (fun w (h : Sat W w (IsSt ps pd S :: L)) => sfree_any h hb h0 h1)
 have HM := Lib.hid (fun w (h : Sat W w (IsSt ps pd S :: L)) => smore_any h hX r (by omega) hl)
 have hfl := freeL_len S.U b
 obtain ⟨f, hf⟩ : ∃ f, (freeL S.U b).length = f := ⟨_, rfl⟩
 obtain ⟨m, hm⟩ : ∃ m, (r + S.last - 1) / 15 = m := ⟨_, rfl⟩
 have hml : m ≤ 100 := by omega
 rw [hf] at HF hfl ⊢
 rw [hm] at HM ⊢
 have e1 : decide ((r : Int) < 0) = false := decide_eq_false (by omega)
 have e2 : decide ((60 : Int) < (r : Int)) = false := decide_eq_false (by omega)
 have e3 : decide (60 < r) = false := decide_eq_false (by omega)
 have e4 : decide ((p : Int) < 0) = false := decide_eq_false (by omega)
 have f1 : (f : Int) ≤ 1024 := by omega
 have m1 : (m : Int) ≤ 100 := by omega
 clear hf hm hb h0 h1 hl hr
 go_enter Tryz.func17, Tryz.ntmps17
 go_wp2_with (first
  | (go_at_call 13; refine (HF.out _ hS).mono ?_; clear hS; rintro e w1 ⟨rfl, hS⟩)
  | (go_at_call 51; refine (HM.out _ hS).mono ?_; rintro e w1 ⟨rfl, rfl⟩))
 go_ret
 exact ⟨rfl, hS⟩
end Go.Proofs.YtchohheleofncaaGreat
