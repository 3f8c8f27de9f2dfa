/-
 Package alloc: Plan (of blocks that may be given back).
 What Grow does to a store (plain).
 Behind a Grow: a good store (plain).
 A Grow of a store that is not cut; records of nodes (plain).
-/
import Derived.Test.YtchohheleofncaaGreatMSto
import Derived.OwnWalk
import Derived.Test.YtchohheleofncaaGreatMGrp
import Derived.Test.YtchohheleofncaaGreatMMad
set_option linter.unusedSimpArgs false
set_option linter.unusedVariables false
namespace Go.Proofs.YtchohheleofncaaGreat
open Go.RowKit Go.Sep
attribute [local irreducible] Go.Oper.wp Go.wpList Go.Calls Go.Code.wp Go.Sep.Reg
theorem freeL_mem {U : Nat → Bool} {b p : Nat} : p ∈ freeL U b ↔ p < b ∧ U p = false := by simp [freeL]
theorem freeL_lt (U : Nat → Bool) (b : Nat) {p : Nat} (h : p ∈ freeL U b) : p < b := (freeL_mem.1 h).1
theorem freeL_nd (U : Nat → Bool) (b : Nat) : (freeL U b).Nodup := List.filter_sublist.nodup List.nodup_range
def lessU (U : Nat → Bool) (l : List Nat) : Nat → Bool := l.foldl (fun U g => upd U g false) U
def moreU (U : Nat → Bool) (l : List Nat) : Nat → Bool := l.foldl (fun U g => upd U g true) U
theorem lessU_at (l : List Nat) : ∀ (U : Nat → Bool) (p : Nat), lessU U l p = (U p && !l.contains p) := by
 induction l with
 | nil => intro U p; simp [lessU]
 | cons g l ih =>
  intro U p
  show lessU (upd U g false) l p = _
  rw [ih]
  by_cases h : p = g
  ·subst h; simp [upd]
  ·simp [upd, h]
theorem moreU_at (l : List Nat) : ∀ (U : Nat → Bool) (p : Nat), moreU U l p = (U p || l.contains p) := by
 induction l with
 | nil => intro U p; simp [moreU]
 | cons g l ih =>
  intro U p
  show moreU (upd U g true) l p = _
  rw [ih]
  by_cases h : p = g
  ·subst h; simp [upd]
  ·simp [upd, h]
theorem lessU_succ {U : Nat → Bool} {l : List Nat} {i g : Nat} (h : l[i]? = some g) : upd (lessU U (l.take i)) g false = lessU U (l.take (i + 1)) := by
 rw [List.take_add_one, h]; simp [lessU, List.foldl_append]
theorem moreU_succ {U : Nat → Bool} {l : List Nat} {i g : Nat} (h : l[i]? = some g) : upd (moreU U (l.take i)) g true = moreU U (l.take (i + 1)) := by
 rw [List.take_add_one, h]; simp [moreU, List.foldl_append]
structure GoneOk (U : Nat → Bool) (b : Nat) (gone : List Nat) : Prop where
 rng : ∀ g ∈ gone, 74 ≤ g ∧ g < b ∧ U g = true
 nd : gone.Nodup
theorem GoneOk.nil (U : Nat → Bool) (b : Nat) : GoneOk U b [] := ⟨fun g h => absurd h (List.not_mem_nil), List.nodup_nil⟩
theorem GoneOk.still {U : Nat → Bool} {b : Nat} {gone : List Nat} (h : GoneOk U b gone) {i g : Nat} (hg : gone[i]? = some g) : lessU U (gone.take i) g = true := by
 rw [lessU_at, (h.rng g (List.mem_of_getElem? hg)).2.2]
 have : ¬ g ∈ gone.take i := fun hm => by
  obtain ⟨j, hj⟩ := List.getElem?_of_mem hm
  have hji : j < i := by have := (List.getElem?_eq_some_iff.1 hj).1; simp at this; omega
  rw [List.getElem?_take_of_lt hji] at hj
  have := (List.getElem?_inj (by have := (List.getElem?_eq_some_iff.1 hj).1; omega) h.nd).1 (hj.trans hg.symm)
  omega
 simp [this]
def PlG (W : World) (L : List Asrt) (U : Nat → Bool) (gone taken : List Nat) (vt vm v36 : Value) (wz : World) : Prop :=
 ∃ i : Nat, v36 = .int .i64 (i : Int) ∧ i ≤ gone.length ∧ Sat W wz (IsMap vm (lessU U (gone.take i)) :: Ir vt taken :: L)
def PlT (W : World) (L : List Asrt) (U : Nat → Bool) (taken : List Nat) (vt vm v62 : Value) (wz : World) : Prop :=
 ∃ i : Nat, v62 = .int .i64 (i : Int) ∧ i ≤ taken.length ∧ Sat W wz (IsMap vm (moreU U (taken.take i)) :: Ir vt taken :: L)
def PlE (W : World) (L : List Asrt) (U : Nat → Bool) (taken : List Nat) (e : Ending) (w' : World) : Prop := ∃ v v', e = .returned (.tuple #[v, v', .bool true]) ∧ Sat W w' (Ir v taken :: IsMap v' (moreU U taken) :: L)
def lpM (n : Nat) (v : Value) : Nat := n - (intOf v).toNat
theorem lpM_lt {n i : Nat} (h : i < n) : lpM n (.int .i64 ((i + 1 : Nat) : Int)) < lpM n (.int .i64 (i : Int)) := by
 unfold lpM
 show n - (((i + 1 : Nat) : Int)).toNat < n - ((i : Int)).toNat
 rw [Int.toNat_natCast, Int.toNat_natCast]
 omega
theorem map_rd0 {W : World} {L : List Asrt} {v : Value} {U : Nat → Bool} : ∀ w, Sat W w (IsMap v U :: L) → Rd w v 128 1 (bv (mapB U)) := fun w h => map_rd Has.z w [] h
set_option maxRecDepth 20000 in
set_option maxHeartbeats 4000000 in
theorem plan_ok {W w : World} {L : List Asrt} (hS : Sat W w L) (U : Nat → Bool) (p off c b n : Nat) (hb : b ≤ 1024) (h0 : 0 < b) (hn : n ≤ (freeL U b).length) (hr : ∀ w L', Sat W w (L' ++ L) → Rd w (.slice (some ⟨p, off, none⟩) 128 c) 128 1 (bv (mapB U)))
  (gone : List Nat) (ag : Option Addr) (cg : Nat) (hgr : ∀ w L', Sat W w (L' ++ L) → Rd w (.slice ag gone.length cg) gone.length 1 (iv gone)) (hg : GoneOk U b gone) (hgl : gone.length ≤ 2000) :
  Calls Tryz.prog 40 #[.slice (some ⟨p, off, none⟩) 128 c, .int .i64 (b : Int), .int .i64 (n : Int), .slice ag gone.length cg] w fun e w' => PlE W L (lessU U gone) ((freeL U b).take n) e w' := by
 have HT := Lib.hid (take_any hS U p off c b n hb h0 hn hr)
 have HR := Lib.hid hr
 have HGR := Lib.hid hgr
 have HG := Lib.hid hg
 obtain ⟨_, _, he, hc1, hc2, _, h5⟩ := hgr w [] hS
 simp only [Value.slice.injEq, true_and] at he
 obtain ⟨rfl, rfl⟩ := he
 have H5 := Lib.hid h5
 have HTL := Lib.hid (show ((freeL U b).take n).length ≤ 1024 by have := freeL_len U b; rw [List.length_take]; omega)
 have HGL := Lib.hid hgl
 have HTK := Lib.hid (show ∀ g ∈ (freeL U b).take n, g < 1024 from fun g hg => by have := freeL_lt U b (List.mem_of_mem_take hg); omega)
 have HB := Lib.hid (show (b : Int) ≤ 1024 by omega)
 obtain ⟨taken, ht⟩ : ∃ t, (freeL U b).take n = t := ⟨_, rfl⟩
 rw [ht] at HT HTL HTK ⊢
 have gli : (gone.length : Int) ≤ 9223372036854775807 := by omega
 clear ht hr hgr hg h5 hc1 hc2 hb h0 hn hgl
 go_enter Tryz.func40, Tryz.ntmps40
 go_wp2_with (first
  | (go_at_call 36; refine HT.out.mono ?_; clear hS; rintro e w1 ⟨vt, rfl, hS⟩; obtain ⟨at_, ct, rfl, _⟩ := hS.irShape Has.z)
  | (refine toList (by rfl) ?_; refine ap (hS.slNil (E := 5) (sz := 1)) _ _ _ _ (by rfl) _ _ (by rfl) (by rfl) (elOf (by rfl)) (by rfl) (by omega) (inOf (by rfl)) Has.z (by exact .inl (HR.out _ [_] hS)) (bv_one _) (by omega) (by omega) ?_; clear hS; intro vm w1 hS; rw [List.set_cons_zero] at hS))
 have hS2 := (show ∀ w, Sat W w (Sl 5 1 vm (0 + 128) ([] ++ bv (mapB U)) :: Ir (.slice at_ taken.length ct) taken :: L) → Sat W w (IsMap vm (lessU U (gone.take 0)) :: Ir (.slice at_ taken.length ct) taken :: L) from fun w h => by unfold IsMap; exact h) _ hS
 have H0 := Lib.hid hS2
 have hS3 := hS2
 unfold IsMap at hS3
 obtain ⟨mb_, mo, mc, rfl, _⟩ := hS3.slAddr (k := 0) rfl (by decide)
 clear hS hS2 hS3
 go_loopw [36] (fun v36 wz => PlG W L U gone taken (.slice at_ taken.length ct) (.slice (some ⟨mb_, mo, none⟩) 128 mc) v36 wz) (fun v36 _ => lpM gone.length v36)
 case atStart => exact ⟨0, rfl, Nat.zero_le _, H0.out⟩
 case round =>
  clear H0
  obtain ⟨i, rfl, hi, hS⟩ := hrel
  by_cases hlt : i < gone.length
  ·have k1 : (i : Int) < (gone.length : Int) := by omega
   have HLT := Lib.hid hlt
   obtain ⟨g, hg⟩ : ∃ g, gone[i]? = some g := ⟨_, List.getElem?_eq_getElem hlt⟩
   obtain ⟨h1, h2, _⟩ := HG.out.rng g (List.mem_of_getElem? hg)
   have hb := HB.out
   have HU := Lib.hid (used_any hS (lessU U (gone.take i)) mb_ mo mc g (by omega) map_rd0)
   rw [HG.out.still hg] at HU
   have HS := Lib.hid (bset_any hS g (by omega) false)
   rw [lessU_succ hg] at HS
   obtain ⟨gb, go_, rfl, _⟩ := H5.out (by omega)
   have HX := Lib.hid (iv_at hg)
   have HRD := Lib.hid (HGR.out _ [_, _] hS)
   have e1 : decide ((g : Int) < 74) = false := decide_eq_false (by omega)
   have e2 : decide ((b : Int) ≤ (g : Int)) = false := decide_eq_false (by omega)
   have e3 : decide (b ≤ g) = false := decide_eq_false (by omega)
   have e4 : decide (g < 74) = false := decide_eq_false (by omega)
   clear hg h1 h2 hlt hi hS hb
   go_wp2_with (first
    | (refine toList (by rfl) ?_; refine wp_of_reads (rLdRd1 HRD.out _ _ (by rfl) _ (by rfl) (agOf (by rfl)) i (by omega) HX.out (by have := HLT.out; omega)) ?_)
    | (go_at_call 86; refine HU.out.mono ?_; rintro e w1 ⟨rfl, rfl⟩)
    | (go_at_call 56; refine HS.out.mono ?_; rintro e w1 ⟨rfl, hS⟩))
   exact ⟨⟨i + 1, by go_num, HLT.out, hS⟩, lpM_lt HLT.out⟩
  ·obtain rfl : i = gone.length := by omega
   have k1 : ¬ (gone.length : Int) < (gone.length : Int) := by omega
   rw [List.take_length] at hS
   have tli : (taken.length : Int) ≤ 9223372036854775807 := by have := HTL.out; omega
   clear hlt hi
   go_wp2
   have H1 := Lib.hid ((show ∀ w, Sat W w (IsMap (.slice (some ⟨mb_, mo, none⟩) 128 mc) (lessU U gone) :: Ir (.slice at_ taken.length ct) taken :: L) → Sat W w (IsMap (.slice (some ⟨mb_, mo, none⟩) 128 mc) (moreU (lessU U gone) (taken.take 0)) :: Ir (.slice at_ taken.length ct) taken :: L) from fun _ h => h) _ hS)
   obtain ⟨_, _, he, _, _, _, h5⟩ := hS.irRd (Has.s Has.z)
   simp only [Value.slice.injEq, true_and] at he
   obtain ⟨rfl, rfl⟩ := he
   have H6 := Lib.hid h5
   clear hS h5
   go_loopw [62] (fun v62 wz => PlT W L (lessU U gone) taken (.slice at_ taken.length ct) (.slice (some ⟨mb_, mo, none⟩) 128 mc) v62 wz) (fun v62 _ => lpM taken.length v62)
   case atStart => exact ⟨0, rfl, Nat.zero_le _, H1.out⟩
   case round =>
    clear H1
    obtain ⟨i, rfl, hi, hS⟩ := hrel
    by_cases hlt : i < taken.length
    ·have k2 : (i : Int) < (taken.length : Int) := by omega
     have HLT := Lib.hid hlt
     obtain ⟨g, hg⟩ : ∃ g, taken[i]? = some g := ⟨_, List.getElem?_eq_getElem hlt⟩
     have h1 := HTK.out g (List.mem_of_getElem? hg)
     have HS := Lib.hid (bset_any hS g (by omega) true)
     rw [moreU_succ hg] at HS
     obtain ⟨tb, to_, rfl, _⟩ := H6.out (by omega)
     have HX := Lib.hid (iv_at hg)
     have HRD := Lib.hid (hS.irRd (Has.s Has.z))
     clear hg h1 hlt hi hS
     go_wp2_with (first
      | (refine toList (by rfl) ?_; refine wp_of_reads (rLdRd1 HRD.out _ _ (by rfl) _ (by rfl) (agOf (by rfl)) i (by omega) HX.out (by have := HLT.out; omega)) ?_)
      | (go_at_call 56; refine HS.out.mono ?_; rintro e w1 ⟨rfl, hS⟩))
     exact ⟨⟨i + 1, by go_num, HLT.out, hS⟩, lpM_lt HLT.out⟩
    ·obtain rfl : i = taken.length := by omega
     have k2 : ¬ (taken.length : Int) < (taken.length : Int) := by omega
     rw [List.take_length] at hS
     clear hlt hi
     go_wp2
     go_ret3
     exact ⟨_, _, rfl, hS.pull1⟩
set_option maxRecDepth 20000 in
theorem plan_no {W w : World} {L : List Asrt} (hS : Sat W w L) (U : Nat → Bool) (p off c b n : Nat) (hb : b ≤ 1024) (h0 : 0 < b) (hn : (freeL U b).length < n) (hr : ∀ w L', Sat W w (L' ++ L) → Rd w (.slice (some ⟨p, off, none⟩) 128 c) 128 1 (bv (mapB U))) (gv : Value) :
  Calls Tryz.prog 40 #[.slice (some ⟨p, off, none⟩) 128 c, .int .i64 (b : Int), .int .i64 (n : Int), gv] w fun e w' => e = .returned (.tuple #[.slice none 0 0, .slice none 0 0, .bool false]) ∧ Sat W w' L := by
 have HT := Lib.hid (take_no hS U p off c b n hb h0 hn hr)
 clear hr hb h0 hn
 go_enter Tryz.func40, Tryz.ntmps40
 go_wp2_with (go_at_call 36; refine HT.out.mono ?_; clear hS; rintro e w1 ⟨rfl, hS⟩)
 go_ret3
 exact ⟨rfl, hS⟩
end Go.Proofs.YtchohheleofncaaGreat
namespace Go.Proofs.YtchohheleofncaaGreat
open Go.RowKit Go.Sep
def allG (S : StD) (l : List RecD) : List RecD := S.recs ++ l
def restG (S : StD) (l : List RecD) : List RecD := (allG S l).drop (S.recs.length - S.last)
def moreN (S : StD) (l : List RecD) : Nat := (l.length + S.last - 1) / 15
def takG (S : StD) (l : List RecD) : List Nat := (freeL S.U S.sup.blocks.toNat).take (moreN S l)
def blkG (S : StD) (l : List RecD) : List Nat := S.sup.tail.toNat :: takG S l
def bAt (bs : List Nat) (i : Nat) : Nat := bs[i]?.getD 0
def pcsG (bs : List Nat) (rest : List RecD) (j : Nat) : G2 := (List.range j).map fun i => (((bAt bs i : Nat) : Int), encB (chunk rest i) (nextG bs i))
def supG1 (S : StD) (l : List RecD) (shown : Bool) : SupD := { S.sup with records := (((allG S l).length : Nat) : Int), shown := if shown then (((allG S l).length : Nat) : Int) else S.sup.shown }
def supG (S : StD) (l : List RecD) (shown : Bool) : SupD := if l = [] then supG1 S l shown else { supG1 S l shown with tail := ((bAt (blkG S l) (moreN S l) : Nat) : Int) }
def wrG0 (S : StD) (l : List RecD) : G2 := if l = [] then [] else pcsG (blkG S l) (restG S l) (moreN S l + 1)
def mapG (S : StD) (l : List RecD) : Nat → Bool := moreU S.U (takG S l)
def wrG1 (S : StD) (l : List RecD) : G2 := wrG0 S l ++ (if takG S l = [] then [] else [(1, mapB (mapG S l))])
def wrG (S : StD) (l : List RecD) (shown : Bool) : G2 := wrG1 S l ++ [(0, encS (supG S l shown))]
def lastG (S : StD) (l : List RecD) : Nat := if l = [] then S.last else (chunk (restG S l) (moreN S l)).length
def StD.grown (S : StD) (l : List RecD) (shown : Bool) : StD := { S with sup := supG S l shown, U := mapG S l, recs := allG S l, last := lastG S l }
noncomputable def growBad (S : StD) (l : List RecD) : Bool := !(l.all recOk) || (!decide ((Gr.new.appL (allG S l)).2 = (allG S l).length) || decide (60 < l.length))
noncomputable def growR (S : StD) (D : DiskS) (l : List RecD) (shown : Bool) : Int × StD × DiskS :=
 if growBad S l = true then (1, S, D)
 else if (freeL S.U S.sup.blocks.toNat).length < moreN S l then (2, S, D)
 else if supG1 S l shown = S.sup then (0, S, D)
 else ((commitR D (wrG S l shown)).1, (if (commitR D (wrG S l shown)).1 = 0 then S.grown l shown else S), (commitR D (wrG S l shown)).2)
theorem pcsG_len (bs : List Nat) (rest : List RecD) (j : Nat) : (pcsG bs rest j).length = j := by simp [pcsG]
theorem pcsG_succ (bs : List Nat) (rest : List RecD) (j : Nat) : pcsG bs rest (j + 1) = pcsG bs rest j ++ [(((bAt bs j : Nat) : Int), encB (chunk rest j) (nextG bs j))] := by simp [pcsG, List.range_succ]
theorem pcsG_mem {bs : List Nat} {rest : List RecD} {j : Nat} {x : Int × List UInt8} (h : x ∈ pcsG bs rest j) : ∃ i, i < j ∧ x = (((bAt bs i : Nat) : Int), encB (chunk rest i) (nextG bs i)) := by
 unfold pcsG at h
 obtain ⟨i, hi, rfl⟩ := List.mem_map.1 h
 exact ⟨i, List.mem_range.1 hi, rfl⟩
section
variable {B : List (List UInt8)} {S : StD} {gs : List Nat} {l : List RecD}
theorem SOk.bl (h : SOk B S gs) : S.sup.blocks.toNat = B.length := by rw [h.blocks, Int.toNat_natCast]
theorem SOk.glast (h : SOk B S gs) : ∃ m, gs.length = m + 1 ∧ gs[m]? = some S.sup.tail.toNat := by
 have hp : 0 < gs.length := List.length_pos_iff.2 h.ne
 refine ⟨gs.length - 1, by omega, ?_⟩
 rw [h.tail, Int.toNat_natCast, List.getLast_eq_getElem]
 exact List.getElem?_eq_getElem _
theorem SOk.lastle (h : SOk B S gs) : S.last ≤ 15 := by
 have := h.last
 have := h.high
 have := List.length_pos_iff.2 h.ne
 omega
def gsG (S : StD) (gs : List Nat) (l : List RecD) : List Nat := gs ++ takG S l
theorem SOk.taken (h : SOk B S gs) (hf : moreN S l ≤ (freeL S.U S.sup.blocks.toNat).length) : (takG S l).length = moreN S l := by
 unfold takG; rw [List.length_take]; omega
theorem SOk.takm (h : SOk B S gs) {p : Nat} (hp : p ∈ takG S l) : 74 ≤ p ∧ p < B.length ∧ p ∉ blksX S.inos ++ gs := by
 have h1 := List.mem_of_mem_take hp
 rw [h.bl] at h1
 obtain ⟨h2, h3⟩ := freeL_mem.1 h1
 rw [h.u] at h3
 unfold usedBy usedU at h3
 simp at h3
 refine ⟨by omega, h2, ?_⟩
 rw [List.mem_append]
 intro hm
 rcases hm with hm | hm
 ·exact h3.2.1 hm
 ·exact h3.2.2 hm
theorem SOk.taknd (h : SOk B S gs) : (takG S l).Nodup := (List.take_sublist _ _).nodup (freeL_nd _ _)
theorem SOk.glen' (h : SOk B S gs) (hf : moreN S l ≤ (freeL S.U S.sup.blocks.toNat).length) : (gsG S gs l).length = gs.length + moreN S l := by
 unfold gsG; rw [List.length_append, h.taken hf]
theorem SOk.bkAt (h : SOk B S gs) {m : Nat} (hm : gs.length = m + 1) (i : Nat) : (gsG S gs l)[m + i]? = (blkG S l)[i]? := by
 obtain ⟨m', h1, h2⟩ := h.glast
 obtain rfl : m' = m := by omega
 unfold gsG blkG
 cases i with
 | zero => rw [List.getElem?_append_left (by omega), Nat.add_zero, h2]; rfl
 | succ i => rw [List.getElem?_append_right (by omega), List.getElem?_cons_succ, show m' + (i + 1) - gs.length = i by omega]
theorem SOk.bnext (h : SOk B S gs) {m : Nat} (hm : gs.length = m + 1) (i : Nat) : nextG (gsG S gs l) (m + i) = nextG (blkG S l) i := by
 unfold nextG
 rw [show m + i + 1 = m + (i + 1) by omega, h.bkAt hm]
theorem chunk_drop (l : List RecD) (m i : Nat) : chunk (l.drop (15 * m)) i = chunk l (m + i) := by
 unfold chunk
 rw [List.drop_drop, show 15 * m + 15 * i = 15 * (m + i) by omega]
theorem SOk.rest (h : SOk B S gs) {m : Nat} (hm : gs.length = m + 1) : restG S l = (allG S l).drop (15 * m) := by
 unfold restG
 have := h.last
 have := h.low
 rw [show S.recs.length - S.last = 15 * m by rw [hm] at *; omega]
theorem SOk.lens (h : SOk B S gs) {m : Nat} (hm : gs.length = m + 1) : S.recs.length = 15 * m + S.last ∧ S.last ≤ 15 := by
 have := h.last
 have := h.low
 have := h.high
 rw [hm] at *
 omega
theorem allG_len : (allG S l).length = S.recs.length + l.length := by unfold allG; rw [List.length_append]
theorem SOk.alllen (h : SOk B S gs) (hl : l.length ≤ 60) : (allG S l).length ≤ 15420 := by
 have := h.glen
 have := h.high
 rw [allG_len]; omega
theorem supG_blocks (shown : Bool) : (supG S l shown).blocks = S.sup.blocks := by unfold supG; split <;> rfl
theorem supG_head (shown : Bool) : (supG S l shown).head = S.sup.head := by unfold supG; split <;> rfl
theorem supG_records (shown : Bool) : (supG S l shown).records = (((allG S l).length : Nat) : Int) := by unfold supG; split <;> rfl
theorem moreN_nil (h : S.last ≤ 15) : moreN S [] = 0 := by unfold moreN; simp; omega
theorem SOk.gtail (h : SOk B S gs) (hf : moreN S l ≤ (freeL S.U S.sup.blocks.toNat).length) (shown : Bool) {m : Nat} (hm : gs.length = m + 1) : ∃ t, (gsG S gs l)[m + moreN S l]? = some t ∧ (supG S l shown).tail = (t : Int) := by
 have hb := h.bkAt (l := l) hm (moreN S l)
 have hbl : moreN S l < (blkG S l).length := by unfold blkG; rw [List.length_cons, h.taken hf]; omega
 rw [List.getElem?_eq_getElem hbl] at hb
 refine ⟨_, hb, ?_⟩
 unfold supG
 split
 ·rename_i hl
  subst hl
  have h0 := moreN_nil h.lastle
  obtain ⟨m', h1, h2⟩ := h.glast
  have : 0 ≤ S.sup.tail := by rw [h.tail]; omega
  show S.sup.tail = _
  simp only [h0]
  show S.sup.tail = ((S.sup.tail.toNat : Nat) : Int)
  omega
 ·show ((bAt (blkG S l) (moreN S l) : Nat) : Int) = _
  unfold bAt
  rw [List.getElem?_eq_getElem hbl]
  rfl
theorem SOk.gmem (h : SOk B S gs) {p : Nat} (hp : p ∈ gsG S gs l) : 74 ≤ p ∧ p < B.length := by
 unfold gsG at hp
 rcases List.mem_append.1 hp with hp | hp
 ·exact h.rng p (List.mem_append_right _ hp)
 ·have := h.takm hp
  exact ⟨this.1, this.2.1⟩
theorem SOk.gnd (h : SOk B S gs) : (blksX S.inos ++ gsG S gs l).Nodup := by
 unfold gsG
 rw [← List.append_assoc, List.nodup_append]
 refine ⟨h.nd, h.taknd, fun a ha b hb e => ?_⟩
 subst e
 exact (h.takm hb).2.2 ha
theorem SOk.gsup (h : SOk B S gs) (hl : l.length ≤ 60) (hf : moreN S l ≤ (freeL S.U S.sup.blocks.toNat).length) (shown : Bool) : okSup (supG S l shown) = true := by
 obtain ⟨m, hm, _⟩ := h.glast
 obtain ⟨t, ht, ht2⟩ := h.gtail hf shown hm
 have htm := h.gmem (List.mem_of_getElem? ht)
 have hal := h.alllen hl
 have hs := h.sup
 have hrc := h.recs
 have hlen : S.recs.length ≤ (allG S l).length := by rw [allG_len]; omega
 have e1 := supG_blocks (S := S) (l := l) shown
 have e2 := supG_head (S := S) (l := l) shown
 have e3 := supG_records (S := S) (l := l) shown
 have e4 : (supG S l shown).next = S.sup.next := by unfold supG; split <;> rfl
 have e5 : (supG S l shown).mounts = S.sup.mounts := by unfold supG; split <;> rfl
 have e6 : (supG S l shown).shown = if shown then (((allG S l).length : Nat) : Int) else S.sup.shown := by unfold supG; split <;> rfl
 have hb := h.blocks
 unfold okSup inB at hs ⊢
 simp only [Bool.and_eq_true, decide_eq_true_eq] at hs ⊢
 rw [e1, e2, e3, e4, e5, e6, ht2]
 obtain ⟨⟨⟨⟨⟨⟨⟨a1, a2⟩, a3, a4⟩, a5, a6⟩, a7, a8⟩, a9⟩, a10, a11⟩, a12, a13⟩ := hs
 refine ⟨⟨⟨⟨⟨⟨⟨a1, a2⟩, a3, a4⟩, by omega, by omega⟩, ?_⟩, by omega⟩, a10, a11⟩, a12, a13⟩
 cases shown
 ·simp; omega
 ·simp
theorem SOk.ggr (h : SOk B S gs) (hl : l.length ≤ 60) (hf : moreN S l ≤ (freeL S.U S.sup.blocks.toNat).length) (shown : Bool) : OkGr B.length (wrG S l shown) := by
 obtain ⟨m, hm, hmt⟩ := h.glast
 have hll := h.lastle
 have hm5 : moreN S l ≤ 4 := by unfold moreN; omega
 have hn1 := h.n1
 have hbm : ∀ i, i < moreN S l + 1 → 74 ≤ bAt (blkG S l) i ∧ bAt (blkG S l) i < B.length := fun i hi => by
  have hb := h.bkAt (l := l) hm i
  have hbl : i < (blkG S l).length := by unfold blkG; rw [List.length_cons, h.taken hf]; omega
  rw [List.getElem?_eq_getElem hbl] at hb
  have := h.gmem (List.mem_of_getElem? hb)
  unfold bAt
  rw [List.getElem?_eq_getElem hbl]
  exact this
 have hinj : ∀ i j, i < moreN S l + 1 → j < moreN S l + 1 → bAt (blkG S l) i = bAt (blkG S l) j → i = j := fun i j hi hj e => by
  have hb := h.bkAt (l := l) hm i
  have hb2 := h.bkAt (l := l) hm j
  have hbl : i < (blkG S l).length := by unfold blkG; rw [List.length_cons, h.taken hf]; omega
  have hbl2 : j < (blkG S l).length := by unfold blkG; rw [List.length_cons, h.taken hf]; omega
  unfold bAt at e
  rw [List.getElem?_eq_getElem hbl] at hb e
  rw [List.getElem?_eq_getElem hbl2] at hb2 e
  have e2 : (blkG S l)[i] = (blkG S l)[j] := e
  have := (List.getElem?_inj (by rw [h.glen' hf]; omega) (List.nodup_append.1 h.gnd).2.1).1 (hb.trans ((congrArg some e2).trans hb2.symm))
  omega
 have hw0 : ∀ x ∈ wrG0 S l, ∃ i, i < moreN S l + 1 ∧ x = (((bAt (blkG S l) i : Nat) : Int), encB (chunk (restG S l) i) (nextG (blkG S l) i)) := fun x hx => by
  unfold wrG0 at hx
  split at hx
  ·exact absurd hx List.not_mem_nil
  ·exact pcsG_mem hx
 have hl0 : (wrG0 S l).length ≤ moreN S l + 1 := by
  unfold wrG0
  split
  ·simp
  ·rw [pcsG_len]; exact Nat.le_refl _
 have hl1 : (wrG1 S l).length ≤ moreN S l + 2 := by
  unfold wrG1
  rw [List.length_append]
  split <;> simp <;> omega
 refine okG_mk ?_ ?_ ?_ ?_
 ·unfold wrG; rw [List.length_append]; simp
 ·unfold wrG; rw [List.length_append, List.length_singleton]; omega
 ·intro x hx
  unfold wrG wrG1 at hx
  rcases List.mem_append.1 hx with hx | hx
  ·rcases List.mem_append.1 hx with hx | hx
   ·obtain ⟨i, hi, rfl⟩ := hw0 x hx
    have := hbm i hi
    refine ⟨⟨by dsimp only; omega, by dsimp only; omega, ?_⟩, .inr (by dsimp only; omega)⟩
    dsimp only
    exact encB_len _ (by rw [chunk_len]; omega)
   ·split at hx
    ·exact absurd hx List.not_mem_nil
    ·rw [List.mem_singleton.1 hx]
     exact ⟨⟨(show (0 : Int) ≤ 1 by decide), (show (1 : Int) < _ by omega), mapB_len _⟩, .inl (show (1 : Int) < 2 by decide)⟩
  ·rw [List.mem_singleton.1 hx]
   exact ⟨⟨Int.le_refl _, (show (0 : Int) < _ by omega), encS_len _⟩, .inl (show (0 : Int) < 2 by decide)⟩
 ·unfold wrG wrG1
  rw [List.map_append, List.map_append, List.nodup_append, List.nodup_append]
  refine ⟨⟨?_, ?_, ?_⟩, by simp, ?_⟩
  ·unfold wrG0
   split
   ·simp
   ·unfold pcsG
    rw [List.map_map]
    rw [List.nodup_iff_pairwise_ne, List.pairwise_map]
    refine List.Pairwise.imp_of_mem ?_ (List.nodup_iff_pairwise_ne.1 List.nodup_range)
    intro a b ha hb hab e
    dsimp only [Function.comp] at e
    exact hab (hinj a b (List.mem_range.1 ha) (List.mem_range.1 hb) (by omega))
  ·split <;> simp
  ·intro a ha b hb e
   subst e
   obtain ⟨x, hx, rfl⟩ := List.mem_map.1 ha
   obtain ⟨i, hi, rfl⟩ := hw0 x hx
   have := hbm i hi
   split at hb
   ·exact absurd hb List.not_mem_nil
   ·rw [List.map_singleton, List.mem_singleton] at hb
    dsimp only at hb
    omega
  ·intro a ha b hb e
   subst e
   rw [List.map_singleton, List.mem_singleton] at hb
   dsimp only at hb
   rcases List.mem_append.1 ha with ha | ha
   ·obtain ⟨x, hx, rfl⟩ := List.mem_map.1 ha
    obtain ⟨i, hi, rfl⟩ := hw0 x hx
    have := hbm i hi
    dsimp only at hb
    omega
   ·split at ha
    ·exact absurd ha List.not_mem_nil
    ·rw [List.map_singleton, List.mem_singleton] at ha
     dsimp only at ha
     omega
end
end Go.Proofs.YtchohheleofncaaGreat
namespace Go.Proofs.YtchohheleofncaaGreat
open Go.RowKit Go.Sep
section
variable {B : List (List UInt8)} {S : StD} {gs : List Nat} {l : List RecD}
theorem growBad_no (h : growBad S l = false) : l.all recOk = true ∧ (Gr.new.appL (allG S l)).2 = (allG S l).length ∧ l.length ≤ 60 := by
 unfold growBad at h
 simp only [Bool.or_eq_false_iff, Bool.not_eq_false', decide_eq_true_eq, decide_eq_false_iff_not] at h
 exact ⟨h.1, h.2.1, by have := h.2.2; omega⟩
theorem takG_nil (h : S.last ≤ 15) : takG S [] = [] := by unfold takG; rw [moreN_nil h, List.take_zero]
theorem mem_wrG {shown : Bool} {x : Int × List UInt8} (h : x ∈ wrG S l shown) : (l ≠ [] ∧ ∃ i, i < moreN S l + 1 ∧ x = (((bAt (blkG S l) i : Nat) : Int), encB (chunk (restG S l) i) (nextG (blkG S l) i))) ∨ (takG S l ≠ [] ∧ x = (1, mapB (mapG S l))) ∨ x = (0, encS (supG S l shown)) := by
 unfold wrG wrG1 wrG0 at h
 rcases List.mem_append.1 h with h | h
 ·rcases List.mem_append.1 h with h | h
  ·split at h
   ·exact absurd h List.not_mem_nil
   ·rename_i hl
    exact .inl ⟨hl, pcsG_mem h⟩
  ·split at h
   ·exact absurd h List.not_mem_nil
   ·rename_i ht
    exact .inr (.inl ⟨ht, List.mem_singleton.1 h⟩)
 ·exact .inr (.inr (List.mem_singleton.1 h))
theorem chunk_app {a b : List RecD} {i : Nat} (h : 15 * (i + 1) ≤ a.length) : chunk (a ++ b) i = chunk a i := by
 unfold chunk
 rw [List.drop_append_of_le_length (by omega), List.take_append_of_le_length (by rw [List.length_drop]; omega)]
theorem SOk.bin (h : SOk B S gs) (hf : moreN S l ≤ (freeL S.U S.sup.blocks.toNat).length) {m : Nat} (hm : gs.length = m + 1) {i : Nat} (hi : i < moreN S l + 1) : (gsG S gs l)[m + i]? = some (bAt (blkG S l) i) := by
 have hbl : i < (blkG S l).length := by unfold blkG; rw [List.length_cons, h.taken hf]; omega
 rw [h.bkAt hm, List.getElem?_eq_getElem hbl]
 unfold bAt
 rw [List.getElem?_eq_getElem hbl]
 rfl
theorem SOk.grow (h : SOk B S gs) (hb : growBad S l = false) (hf : moreN S l ≤ (freeL S.U S.sup.blocks.toNat).length) (shown : Bool) : SOk (cmtB B (wrG S l shown)) (S.grown l shown) (gsG S gs l) := by
 obtain ⟨hr, hg, hl⟩ := growBad_no hb
 obtain ⟨m, hm, hmt⟩ := h.glast
 obtain ⟨hlen, hl15⟩ := h.lens hm
 have hgr := h.ggr hl hf shown
 have hn1 := h.n1
 have hgl := h.glen' hf
 have htl := h.taken hf
 have hmn : moreN S l = (l.length + S.last - 1) / 15 := rfl
 have hal := allG_len (S := S) (l := l)
 have hnd := (List.nodup_append.1 (h.gnd (l := l))).2.1
 have hlow : ∀ x ∈ wrG S l shown, x.1 = 0 ∨ x.1 = 1 ∨ ∃ i, i < moreN S l + 1 ∧ x.1 = ((bAt (blkG S l) i : Nat) : Int) ∧ 74 ≤ bAt (blkG S l) i := fun x hx => by
  rcases mem_wrG hx with ⟨_, i, hi, rfl⟩ | ⟨_, rfl⟩ | rfl
  ·exact .inr (.inr ⟨i, hi, rfl, (h.gmem (List.mem_of_getElem? (h.bin hf hm hi))).1⟩)
  ·exact .inr (.inl rfl)
  ·exact .inl rfl
 have hb2 : (cmtB B (wrG S l shown))[2]? = some (zeros 128) := cmtB_2 (by omega)
 exact
  {n1 := by rw [cmtB_len]; exact h.n1
   n2 := by rw [cmtB_len]; exact h.n2
   x := h.x
   sup := h.gsup hl hf shown
   blocks := by rw [cmtB_len]; exact (supG_blocks shown).trans h.blocks
   ne := by unfold gsG; simp [h.ne]
   head := by
    show (supG S l shown).head = _
    rw [supG_head, h.head]
    unfold gsG
    rw [List.head_append_of_ne_nil h.ne]
   tail := by
    obtain ⟨t, h1, h2⟩ := h.gtail hf shown hm
    show (supG S l shown).tail = _
    rw [h2, List.getLast_eq_getElem]
    have h3 : m + moreN S l < (gsG S gs l).length := by omega
    rw [List.getElem?_eq_getElem h3] at h1
    rw [← Option.some.inj h1]
    congr 2
    omega
   recs := supG_records shown
   low := by show 15 * ((gsG S gs l).length - 1) ≤ (allG S l).length; omega
   high := by show (allG S l).length ≤ 15 * (gsG S gs l).length; omega
   last := by
    show lastG S l = (allG S l).length - 15 * ((gsG S gs l).length - 1)
    unfold lastG
    split
    ·rename_i hl0
     subst hl0
     have := moreN_nil hl15
     simp at hal
     omega
    ·rw [h.rest hm, chunk_drop, chunk_len]
     omega
   rok := by
    show (allG S l).all recOk = true
    unfold allG
    rw [List.all_append, h.rok, hr]
    rfl
   gr := hg
   rng := fun p hp => by
    rw [cmtB_len]
    rcases List.mem_append.1 hp with hp | hp
    ·exact h.rng p (List.mem_append_left _ hp)
    ·exact h.gmem hp
   nd := h.gnd
   u := by
    show mapG S l = _
    funext p
    unfold mapG
    rw [moreU_at, h.u, cmtB_len]
    show _ = usedBy B.length (blksX S.inos ++ gsG S gs l) p
    unfold usedBy gsG
    rw [← List.append_assoc]
    rw [Bool.or_assoc]
    congr 1
    cases h1 : ((blksX S.inos ++ gs) ++ takG S l).contains p
    ·rw [List.contains_eq_mem, decide_eq_false_iff_not] at h1
     rw [Bool.or_eq_false_iff, List.contains_eq_mem, List.contains_eq_mem, decide_eq_false_iff_not, decide_eq_false_iff_not]
     exact ⟨fun hx => h1 (List.mem_append_left _ hx), fun hx => h1 (List.mem_append_right _ hx)⟩
    ·rw [List.contains_eq_mem, decide_eq_true_eq] at h1
     rw [Bool.or_eq_true, List.contains_eq_mem, List.contains_eq_mem, decide_eq_true_eq, decide_eq_true_eq]
     exact List.mem_append.1 h1
   b0 := cmt_at hgr (j := 0) (by unfold wrG; exact List.mem_append_right _ (List.mem_singleton.2 rfl))
   b1 := by
    show _ = some (mapB (mapG S l))
    by_cases ht : takG S l = []
    ·rw [cmt_other hgr (by omega) (fun x hx => by
      rcases mem_wrG hx with ⟨_, i, hi, rfl⟩ | ⟨h2, _⟩ | rfl
      ·have := (h.gmem (List.mem_of_getElem? (h.bin hf hm hi))).1
       dsimp only
       omega
      ·exact absurd ht h2
      ·exact (by decide : (0 : Int).toNat ≠ 1))]
     rw [h.b1]
     unfold mapG
     rw [ht]
     rfl
    ·exact cmt_at hgr (j := 1) (by unfold wrG wrG1; rw [if_neg ht]; exact List.mem_append_left _ (List.mem_append_right _ (List.mem_singleton.2 rfl)))
   b2 := hb2
   bi := fun i x hx => by
    have hi48 : i < 48 := by have := (List.getElem?_eq_some_iff.1 hx).1; have hx2 := h.x.len; show i < 48; rw [← hx2]; exact this
    rw [cmt_other hgr (by omega) (fun y hy => by
     rcases hlow y hy with h1 | h1 | ⟨j, _, h1, h2⟩ <;> rw [h1]
     ·show (0 : Int).toNat ≠ _
      have : (0 : Int).toNat = 0 := rfl
      omega
     ·have : (1 : Int).toNat = 1 := rfl
      omega
     ·omega)]
    exact h.bi i x hx
   bg := fun i g hg' => by
    show _ = some (encB (chunk (allG S l) i) (nextG (gsG S gs l) i))
    have hgm := h.gmem (List.mem_of_getElem? hg')
    have hil := (List.getElem?_eq_some_iff.1 hg').1
    by_cases hl0 : l = []
    ·subst hl0
     have ht := takG_nil hl15
     have e1 : gsG S gs [] = gs := by unfold gsG; rw [ht, List.append_nil]
     have e2 : allG S [] = S.recs := List.append_nil _
     rw [e1] at hg' ⊢
     rw [e2]
     rw [cmt_other hgr (by omega) (fun y hy => by
      rcases mem_wrG hy with ⟨h1, _⟩ | ⟨h1, _⟩ | rfl
      ·exact absurd rfl h1
      ·exact absurd ht h1
      ·show (0 : Int).toNat ≠ _
       have : (0 : Int).toNat = 0 := rfl
       omega)]
     exact h.bg i g hg'
    ·by_cases him : i < m
     ·have hgi : gs[i]? = some g := by
       unfold gsG at hg'
       rw [List.getElem?_append_left (by omega)] at hg'
       exact hg'
      rw [cmt_other hgr (by omega) (fun y hy => by
       rcases mem_wrG hy with ⟨_, j, hj, rfl⟩ | ⟨_, rfl⟩ | rfl
       ·dsimp only
        rw [Int.toNat_natCast]
        intro e
        have h1 := h.bin hf hm hj
        rw [e] at h1
        have := (List.getElem?_inj hil hnd).1 (hg'.trans h1.symm)
        omega
       ·have : (1 : Int).toNat = 1 := rfl
        dsimp only
        omega
       ·show (0 : Int).toNat ≠ _
        have : (0 : Int).toNat = 0 := rfl
        omega)]
      rw [h.bg i g hgi]
      unfold allG
      rw [chunk_app (by omega)]
      congr 2
      unfold nextG gsG
      rw [List.getElem?_append_left (by omega)]
     ·obtain ⟨j, rfl⟩ : ∃ j, i = m + j := ⟨i - m, by omega⟩
      have hj : j < moreN S l + 1 := by omega
      have h1 := h.bin hf hm hj
      have hgj : g = bAt (blkG S l) j := Option.some.inj (hg'.symm.trans h1)
      have hmem : ((g : Int), encB (chunk (restG S l) j) (nextG (blkG S l) j)) ∈ wrG S l shown := by
       unfold wrG wrG1 wrG0
       rw [if_neg hl0, hgj]
       exact List.mem_append_left _ (List.mem_append_left _ (List.mem_map.2 ⟨j, List.mem_range.2 hj, rfl⟩))
      rw [cmt_at hgr hmem, h.rest hm, chunk_drop, h.bnext hm] }
theorem restG_len (h : SOk B S gs) : (restG S l).length = S.last + l.length := by
 obtain ⟨m, hm, _⟩ := h.glast
 have := h.lens hm
 rw [h.rest hm, List.length_drop, allG_len]
 omega
theorem SOk.gput (h : SOk B S gs) (hb : growBad S l = false) (hf : moreN S l ≤ (freeL S.U S.sup.blocks.toNat).length) {i : Nat} (hi : i < moreN S l + 1) : Proofs.YtchohheleofncaaGreat.okPut (chunk (restG S l) i) (Proofs.YtchohheleofncaaGreat.nextG (blkG S l) i) = true := by
 obtain ⟨hr, _, _⟩ := growBad_no hb
 obtain ⟨m, hm, _⟩ := h.glast
 have h1 : (chunk (restG S l) i).all recOk = true := by
  rw [List.all_eq_true]
  intro x hx
  have h2 := List.mem_of_mem_drop (List.mem_of_mem_drop (List.mem_of_mem_take hx))
  unfold allG at h2
  rcases List.mem_append.1 h2 with h2 | h2
  ·exact List.all_eq_true.1 h.rok x h2
  ·exact List.all_eq_true.1 hr x h2
 have h2 : okNext (Proofs.YtchohheleofncaaGreat.nextG (blkG S l) i) = true := by
  rw [← h.bnext hm]
  unfold Proofs.YtchohheleofncaaGreat.nextG
  cases hg : (gsG S gs l)[m + i + 1]? with
  | none => rfl
  | some g =>
   have := h.gmem (List.mem_of_getElem? hg)
   have := h.n2
   unfold okNext inB
   simp
   omega
 unfold Proofs.YtchohheleofncaaGreat.okPut
 rw [h1, h2, decide_eq_true (by rw [chunk_len]; omega)]
 rfl
end
end Go.Proofs.YtchohheleofncaaGreat
namespace Go.Proofs.YtchohheleofncaaGreat
open Go.RowKit Go.Sep
structure Grown (B : List (List UInt8)) (S : StD) (gs : List Nat) (l : List RecD) (shown : Bool) (B' : List (List UInt8)) (S' : StD) (gs' : List Nat) : Prop where
 ok : SOk B' S' gs'
 len : B'.length = B.length
 recs : S'.recs = S.recs ++ l
 inos : S'.inos = S.inos
 glen : gs'.length = gs.length + moreN S l
 shown : S'.sup.shown = if shown then (((S.recs ++ l).length : Nat) : Int) else S.sup.shown
 next : S'.sup.next = S.sup.next
 mounts : S'.sup.mounts = S.sup.mounts
 blocks : S'.sup.blocks = S.sup.blocks
 keep : ∀ p ∈ blksX S.inos, B'[p]? = B[p]?
theorem grow_live {S : StD} {D : DiskS} {B : List (List UInt8)} {gs : List Nat} {k : Nat} {l : List RecD} {shown : Bool} (hok : SOk B S gs) (hl : Lv D B k) (hb : growBad S l = false) (hf : moreN S l ≤ (freeL S.U S.sup.blocks.toNat).length) :
  ∃ S' D' B' gs', growR S D l shown = (0, S', D') ∧ Lv D' B' (k + 42) ∧ Grown B S gs l shown B' S' gs' := by
 obtain ⟨hr, hg, h60⟩ := growBad_no hb
 by_cases hs : supG1 S l shown = S.sup
 ·have hl0 : l = [] := by
   have h1 : (supG1 S l shown).records = S.sup.records := by rw [hs]
   rw [hok.recs] at h1
   have h2 : (((allG S l).length : Nat) : Int) = ((S.recs.length : Nat) : Int) := h1
   rw [allG_len] at h2
   exact List.length_eq_zero_iff.1 (by omega)
  have hsh : (supG1 S l shown).shown = S.sup.shown := by rw [hs]
  refine ⟨S, D, B, gs, ?_, hl.mono (by omega), ?_⟩
  ·unfold growR
   rw [if_neg (by rw [hb]; decide), if_neg (by omega), if_pos hs]
  ·exact
    {ok := hok
     len := rfl
     recs := by rw [hl0, List.append_nil]
     inos := rfl
     glen := by rw [hl0, moreN_nil hok.lastle]; rfl
     shown := hsh.symm
     next := rfl
     mounts := rfl
     blocks := rfl
     keep := fun _ _ => rfl }
 ·have hgr := hok.ggr h60 hf shown
  obtain ⟨D', h1, h2⟩ := commit_live hl (by have := hok.n1; omega) hgr
  refine ⟨S.grown l shown, D', cmtB B (wrG S l shown), gsG S gs l, ?_, h2, ?_⟩
  ·unfold growR
   rw [if_neg (by rw [hb]; decide), if_neg (by omega), if_neg hs, h1]
   rfl
  ·exact
    {ok := hok.grow hb hf shown
     len := cmtB_len _ _
     recs := rfl
     inos := rfl
     glen := hok.glen' hf
     shown := by
      show (supG S l shown).shown = _
      unfold supG
      split <;> rfl
     next := by
      show (supG S l shown).next = _
      unfold supG
      split <;> rfl
     mounts := by
      show (supG S l shown).mounts = _
      unfold supG
      split <;> rfl
     blocks := supG_blocks shown
     keep := fun p hp => by
      have hrg := hok.rng p (List.mem_append_left _ hp)
      obtain ⟨m, hm, _⟩ := hok.glast
      refine cmt_other hgr (by omega) (fun x hx => ?_)
      rcases mem_wrG hx with ⟨_, i, hi, rfl⟩ | ⟨_, rfl⟩ | rfl
      ·dsimp only
       rw [Int.toNat_natCast]
       intro e
       have h3 := List.mem_of_getElem? (hok.bin hf hm hi)
       rw [e] at h3
       exact (List.nodup_append.1 (hok.gnd (l := l))).2.2 p hp p h3 rfl
      ·have : (1 : Int).toNat = 1 := rfl
       dsimp only
       omega
      ·have : (0 : Int).toNat = 0 := rfl
       dsimp only
       omega }
theorem appL_nodes : ∀ (l : List RecD) (G : Gr), (∀ x ∈ l, x.k = 1 ∧ x.a = 2 ∧ 1 ≤ x.b ∧ x.b ≤ 16777215) → G.N.length + l.length ≤ 4096 → (G.appL l).2 = l.length
 | [], _, _, _ => rfl
 | x :: l, G, h, hn => by
  obtain ⟨h1, h2, h3, h4⟩ := h x (List.mem_cons_self ..)
  rw [List.length_cons] at hn
  have hok : okRec x.k x.a x.b = true := by
   unfold okRec inB
   rw [if_pos h1, h2]
   simp
   omega
  have hno : newOk x.a x.b = true := by
   unfold newOk
   rw [h2]
   simp
   omega
  have he : G.appE x.k x.a x.b = 0 := by
   unfold Gr.appE Gr.addE
   rw [if_pos hok, if_pos h1, if_pos hno, if_pos (by omega)]
  have hg : (G.appG x.k x.a x.b).N.length = G.N.length + 1 := by
   unfold Gr.appG Gr.addG Gr.addOk
   rw [if_pos hok, if_pos h1, hno, decide_eq_true (show G.N.length < 4096 by omega)]
   show (G.N ++ [_]).length = _
   rw [List.length_append, List.length_singleton]
  unfold Gr.appL
  rw [if_pos he]
  show (Gr.appL (G.appG x.k x.a x.b) l).2 + 1 = l.length + 1
  rw [appL_nodes l _ (fun y hy => h y (List.mem_cons_of_mem _ hy)) (by omega)]
def nodF (n j : Nat) : List RecD := (List.range j).map fun i : Nat => ⟨1, 2, 1 + (n : Int) + (i : Int)⟩
theorem nodF_succ (n j : Nat) : nodF n (j + 1) = nodF n j ++ [⟨1, 2, 1 + (n : Int) + (j : Int)⟩] := by unfold nodF; rw [List.range_succ, List.map_append]; rfl
theorem nodF_len (n j : Nat) : (nodF n j).length = j := by simp [nodF]
theorem nodF_add (n k : Nat) : nodF 0 n ++ nodF n k = nodF 0 (n + k) := by
 induction k with
 | zero => simp [nodF]
 | succ k ih =>
  rw [nodF_succ, ← List.append_assoc, ih, ← Nat.add_assoc, nodF_succ]
  congr 3
  omega
theorem nodF_mem {n j : Nat} (h : n + j ≤ 100000) : ∀ x ∈ nodF n j, x.k = 1 ∧ x.a = 2 ∧ 1 ≤ x.b ∧ x.b ≤ 16777215 := fun x hx => by
 obtain ⟨i, hi, rfl⟩ := List.mem_map.1 hx
 have := List.mem_range.1 hi
 refine ⟨rfl, rfl, ?_, ?_⟩ <;> dsimp only <;> omega
theorem nodF_bad {S : StD} {n k : Nat} (hr : S.recs = nodF 0 n) (h : n + k ≤ 4000) (hk : k ≤ 60) : growBad S (nodF n k) = false := by
 unfold growBad
 have h1 : (nodF n k).all recOk = true := by
  rw [List.all_eq_true]
  intro x hx
  obtain ⟨a, b, c, d⟩ := nodF_mem (by omega) x hx
  unfold recOk okRec inB
  rw [if_pos a, b]
  simp
  omega
 have h2 : allG S (nodF n k) = nodF 0 (n + k) := by unfold allG; rw [hr, nodF_add]
 have h3 : (Gr.new.appL (allG S (nodF n k))).2 = (allG S (nodF n k)).length := by
  rw [h2]
  exact appL_nodes _ _ (nodF_mem (by omega)) (by rw [nodF_len]; show 0 + (n + k) ≤ 4096; omega)
 rw [h1, decide_eq_true h3, decide_eq_false (by rw [nodF_len]; omega)]
 rfl
end Go.Proofs.YtchohheleofncaaGreat
