/-
 Package store: chain.
-/
import Derived.Test.YtchohheleofncaaGreatMSto
set_option linter.unusedSimpArgs false
set_option linter.unusedVariables false
namespace Go.Proofs.YtchohheleofncaaGreat
open Go.RowKit Go.Sep
attribute [local irreducible] Go.Oper.wp Go.wpList Go.Calls Go.Code.wp Go.Sep.Reg
def posOf : List Nat → Nat → Nat
 | [], _ => 0
 | x :: l, a => if x = a then 0 else posOf l a + 1
theorem posOf_at : ∀ (l : List Nat), l.Nodup → ∀ (i a : Nat), l[i]? = some a → posOf l a = i
 | [], _, i, a, h => by simp at h
 | x :: l, hn, i, a, h => by
  unfold posOf
  cases i with
  | zero =>
   simp at h
   rw [if_pos h]
  | succ i =>
   rw [List.getElem?_cons_succ] at h
   have hm := List.mem_of_getElem? h
   have hne : x ≠ a := fun e => (List.nodup_cons.1 hn).1 (e ▸ hm)
   rw [if_neg hne, posOf_at l (List.nodup_cons.1 hn).2 i a h]
theorem posOf_none : ∀ (l : List Nat) (a : Nat), a ∉ l → posOf l a = l.length
 | [], _, _ => rfl
 | x :: l, a, h => by
  unfold posOf
  have hne : x ≠ a := by
   rintro rfl
   exact h (List.mem_cons_self ..)
  rw [if_neg hne, posOf_none l a (fun hm => h (List.mem_cons_of_mem _ hm))]
  rfl
def atG (gs : List Nat) (i : Nat) : Nat := gs[i]?.getD 0
def prevG (gs : List Nat) : Nat → Nat
 | 0 => 0
 | i + 1 => atG gs i
def lstG (l : List RecD) : Nat → Nat
 | 0 => 0
 | i + 1 => (chunk l i).length
theorem SOk.pos {B : List (List UInt8)} {S : StD} {gs : List Nat} (h : SOk B S gs) {i : Nat} (hi : i ≤ gs.length) : posOf gs (atG gs i) = i := by
 have hn := (List.nodup_append.1 h.nd).2.1
 unfold atG
 cases hg : gs[i]? with
 | some g => exact posOf_at gs hn i g hg
 | none =>
  have hl : gs.length ≤ i := List.getElem?_eq_none_iff.1 hg
  rw [show i = gs.length by omega]
  refine posOf_none gs 0 fun hm => ?_
  have := (h.rng 0 (List.mem_append_right _ hm)).1
  omega
theorem rget_m {W w : World} {L : List Asrt} (hS : Sat W w L) (b : List UInt8) (ao : Option Addr) (c : Nat) {m : Nat} (hm : b.length = m) (hr : ∀ w, Sat W w L → Rd w (.slice ao m c) m 1 (bv b)) (hb : m ≤ 140737488355328) {l : List RecD} {x : Int} (h1 : getL b = l) (h2 : getX b = x) (h3 : getOk b = true) :
  Calls Tryz.prog 94 #[.slice ao m c] w fun e w' => ∃ v', e = .returned (.tuple #[v', .int .i64 x, .bool true]) ∧ Sat W w' (Tb 53 3 rv v' l :: L) := by
 subst hm h1 h2
 rw [← h3]
 exact rget_any hS b ao c hr hb
def ChI (W : World) (L : List Asrt) (ps pd : Nat) (S : StD) (D : DiskS) (B : List (List UInt8)) (gs : List Nat) (vu v5 v6 : Value) (wz : World) : Prop :=
 ∃ (i : Nat) (r : Value), i ≤ gs.length ∧ v5 = .int .i64 ((atG gs i : Nat) : Int) ∧ v6 = .int .i64 ((prevG gs i : Nat) : Int) ∧ Sat W wz (Cs ps 85 (stv pd S.sup (.slice none 0 0) S.inos r (lstG S.recs i)) :: Tb 53 3 rv r (S.recs.take (15 * i)) :: IsMap vu (usedBy B.length (blksX S.inos ++ gs.take i)) :: IsDisk pd D :: L)
def ChM (gs : List Nat) (v5 : Value) : Nat := gs.length - posOf gs (intOf v5).toNat
theorem SOk.chm {B : List (List UInt8)} {S : StD} {gs : List Nat} (h : SOk B S gs) {i : Nat} (hi : i < gs.length) : ChM gs (.int .i64 ((atG gs (i + 1) : Nat) : Int)) < ChM gs (.int .i64 ((atG gs i : Nat) : Int)) := by
 unfold ChM
 show gs.length - posOf gs ((atG gs (i + 1) : Nat) : Int).toNat < gs.length - posOf gs ((atG gs i : Nat) : Int).toNat
 rw [Int.toNat_natCast, Int.toNat_natCast, h.pos (by omega), h.pos (by omega)]
 omega
set_option maxRecDepth 20000 in
set_option maxHeartbeats 4000000 in
theorem chain_any {W w : World} {L : List Asrt} {ps pd k : Nat} {vu : Value} {S : StD} {D : DiskS} {B : List (List UInt8)} {gs : List Nat} (hok : SOk B S gs) (hl : Lv D B k)
  (hS : Sat W w (Cs ps 85 (stv pd S.sup (.slice none 0 0) S.inos (.slice none 0 0) 0) :: IsMap vu (usedBy B.length (blksX S.inos)) :: IsDisk pd D :: L)) :
  Calls Tryz.prog 50 #[.pointer (some ⟨ps, 0, none⟩), vu] w fun e w' => ∃ r, e = .returned (.bool true) ∧ Sat W w' (Cs ps 85 (stv pd S.sup (.slice none 0 0) S.inos r S.last) :: Tb 53 3 rv r S.recs :: IsMap vu S.U :: IsDisk pd D :: L) := by
 have HK := Lib.hid hok
 have HL := Lib.hid hl
 have H0 : Hid (Sat W w (Cs ps 85 (stv pd S.sup (.slice none 0 0) S.inos (.slice none 0 0) ((lstG S.recs 0 : Nat) : Int)) :: Tb 53 3 rv (.slice none 0 0) (S.recs.take (15 * 0)) :: IsMap vu (usedBy B.length (blksX S.inos ++ gs.take 0)) :: IsDisk pd D :: L)) := Lib.hid (by
  rw [show S.recs.take (15 * 0) = [] from rfl, show blksX S.inos ++ gs.take 0 = blksX S.inos by rw [List.take_zero, List.append_nil]]
  exact (Sat.tbNil hS).pull1)
 have gH : (stv pd S.sup (.slice none 0 0) S.inos (.slice none 0 0) 0)[2]? = some (.int .i64 ((atG gs 0 : Nat) : Int)) := by
  rw [stv_low (by decide)]
  show some (Value.int .i64 S.sup.head) = _
  rw [hok.head]
  unfold atG
  cases gs with
  | nil => exact absurd rfl hok.ne
  | cons g gs => rfl
 have GH := Lib.hid gH
 have hlen := hok.glen
 clear gH hok hl
 go_enter Tryz.func50, Tryz.ntmps50
 go_wp2_with (refine toList (by rfl) ?_; refine ld hS _ _ (by rfl) _ _ (by rfl) (agOf (by rfl)) Has.z GH.out ?_)
 clear hS
 go_loopw [5, 6] (fun v5 v6 wz => ChI W L ps pd S D B gs vu v5 v6 wz) (fun v5 _ _ => ChM gs v5)
 case atStart => exact ⟨0, .slice none 0 0, Nat.zero_le _, rfl, rfl, H0.out⟩
 case round =>
  clear H0
  obtain ⟨i, r, hi, rfl, rfl, hS⟩ := hrel
  by_cases hlt : i < gs.length
  ·obtain ⟨g, hg⟩ : ∃ g, gs[i]? = some g := ⟨_, List.getElem?_eq_getElem hlt⟩
   have hat : atG gs i = g := by unfold atG; rw [hg]; rfl
   have hrg := HK.out.rng g (List.mem_append_right _ (List.mem_of_getElem? hg))
   have hn2 := HK.out.n2
   have hnm : g ∉ blksX S.inos ++ gs.take i := by
    intro hm
    have hn := HK.out.nd
    rcases List.mem_append.1 hm with hm | hm
    ·exact (List.nodup_append.1 hn).2.2 g hm g (List.mem_of_getElem? hg) rfl
    ·obtain ⟨j, hj⟩ := List.getElem?_of_mem hm
     have hji : j < i := by have := (List.getElem?_eq_some_iff.1 hj).1; simp at this; omega
     rw [List.getElem?_take_of_lt hji] at hj
     have := (List.getElem?_inj (by omega) (List.nodup_append.1 hn).2.1).1 (hj.trans hg.symm)
     omega
   have HG4 := Lib.hid (show g < 1024 by omega)
   have HNW := Lib.hid (usedBy_new (n := B.length) hrg.1 hrg.2 hnm)
   have HUU := Lib.hid (show upd (usedBy B.length (blksX S.inos ++ gs.take i)) g true = usedBy B.length (blksX S.inos ++ gs.take (i + 1)) by
    rw [usedBy_snoc, List.append_assoc, List.take_add_one, hg]; rfl)
   have HBG := Lib.hid (HK.out.bg i g hg)
   have he := getOk_enc (HK.out.okPut i)
   have HE1 := Lib.hid he.2.1
   have HE2 := Lib.hid he.2.2
   have HE3 := Lib.hid he.1
   have HEL := Lib.hid (encB_len (nextG gs i) (l := chunk S.recs i) (by rw [chunk_len]; omega))
   have GD := Lib.hid (show (stv pd S.sup (.slice none 0 0) S.inos r (lstG S.recs i))[0]? = some (.pointer (some ⟨pd, 0, none⟩)) from rfl)
   have GL := Lib.hid (stv_last (pd := pd) (s := S.sup) (fv := .slice none 0 0) (r := r) (last := ((lstG S.recs i : Nat) : Int)) HK.out.x)
   have e0 : ((g : Int) == 0) = false := beq_eq_false_iff_ne.2 (by omega)
   have HLT := Lib.hid hlt
   have HXO := Lib.hid HK.out.x
   have GR := Lib.hid (stv_rec (pd := pd) (s := S.sup) (fv := .slice none 0 0) (r := r) (last := ((lstG S.recs i : Nat) : Int)) HK.out.x)
   have HRL := Lib.hid (show ∀ x ∈ chunk S.recs i, (rv x).length = 3 from fun _ _ => rfl)
   have HRO := Lib.hid (show ∀ u ∈ (chunk S.recs i).flatMap rv, u.oneCell' = true from fun u hu => by
    obtain ⟨x, _, hx⟩ := List.mem_flatMap.1 hu
    exact rv_all x u hx)
   have HTL := Lib.hid (show (S.recs.take (15 * i)).length ≤ 15360 by rw [List.length_take]; omega)
   have HCL := Lib.hid (show (chunk S.recs i).length ≤ 15 by rw [chunk_len]; omega)
   have HCT := Lib.hid (chunk_take S.recs i)
   obtain ⟨nn, hnn⟩ : ∃ n, (S.recs.take (15 * i) ++ chunk S.recs i).length = n := ⟨_, rfl⟩
   have HNN := Lib.hid hnn
   clear hnn
   have HNX := Lib.hid (show Value.int .i64 (nextG gs i) = .int .i64 ((atG gs (i + 1) : Nat) : Int) from rfl)
   have HPV := Lib.hid (show Value.int .i64 (g : Int) = .int .i64 ((prevG gs (i + 1) : Nat) : Int) by show _ = Value.int .i64 ((atG gs i : Nat) : Int); rw [hat])
   have HCH := Lib.hid (HK.out.chm hlt)
   rw [hat] at HCH
   rw [hat]
   cases i with
   | zero =>
    clear hlt hg hat hrg hn2 hnm he hi
    go_wp2_with (first
     | (refine toList (by rfl) ?_; refine ld hS _ _ (by rfl) _ _ (by rfl) (agOf (by rfl)) Has.z GD.out ?_)
     | (refine toList (by rfl) ?_; refine ld hS _ _ (by rfl) _ _ (by rfl) (agOf (by rfl)) Has.z GL.out ?_)
     | (go_at_call 49; refine (Calls.atS hS (k := 2) rfl (fun hF => takes_any hF g HG4.out HNW.out)).mono ?_; clear hS; rintro e w1 ⟨rfl, hS⟩; dsimp only [List.set_cons_zero, List.set_cons_succ] at hS; rw [HUU.out] at hS)
     | (go_at_call 42; refine (dread_any (hS.re [3, 0, 1, 2]) HL.out rfl HBG.out).mono ?_; clear hS; rintro e w1 ⟨q, rfl, hS⟩)
     | (go_at_call 94; refine (rget_m hS _ (some ⟨q, 0, none⟩) 128 HEL.out (fun w h => h.csRd0 (n := 128) (sz := 1) Has.z (by decide) (by rw [bv_length, HEL.out])) (by decide) HE1.out HE2.out HE3.out).mono ?_; clear hS; rintro e w1 ⟨v9, rfl, hS⟩; obtain ⟨ao9, c9, rfl, _⟩ := hS.tbShape (k := 0) rfl)
     | (refine toList (by rfl) ?_; refine ld hS _ _ (by rfl) _ _ (by rfl) (agOf (by rfl)) (Has.s (Has.s (Has.s Has.z))) GR.out ?_)
     | (refine toList (by rfl) ?_; refine apTbS hS _ _ _ _ (by rfl) _ _ (by rfl) (by rfl) (elOf (by rfl)) (by rfl) (by decide) (inOf (by rfl)) (Has.s (Has.s (Has.s (Has.s Has.z)))) (chunk S.recs 0) HRL.out (.inl (hS.tbRd Has.z)) HRO.out (by have := HTL.out; have := HCL.out; omega) (by have := HTL.out; have := HCL.out; omega) ?_; clear hS; intro aor cr w1 _ hS; dsimp only [List.set_cons_zero, List.set_cons_succ] at hS; rw [HNN.out] at hS ⊢)
     | (refine toList (by rfl) ?_; refine st hS _ _ _ (by rfl) _ _ (by rfl) _ (by first | exact evC | exact evT (by rfl)) (by rfl) (szOf (by rfl)) (Has.s (Has.s (Has.s Has.z))) (by rw [stv_len HXO.out]; decide) ?_; clear hS; intro w1 hS; dsimp only [List.set_cons_zero, List.set_cons_succ] at hS; first | rw [stv_setRec HXO.out] at hS | rw [stv_setLast HXO.out] at hS))
    rw [HCT.out] at hS
    refine ⟨⟨0 + 1, _, HLT.out, HNX.out, HPV.out, (hS.re [0, 1, 3, 4, 5, 2]).drop.drop⟩, HCH.out⟩
   | succ j =>
    have hl15 : lstG S.recs (j + 1) = 15 := by
     show (chunk S.recs j).length = 15
     rw [chunk_len]
     have := HK.out.low
     omega
    rw [hl15] at GL GR
    have hpj : prevG gs (j + 1) ≠ 0 := by
     show atG gs j ≠ 0
     obtain ⟨g2, hg2⟩ : ∃ g, gs[j]? = some g := ⟨_, List.getElem?_eq_getElem (by omega)⟩
     have := (HK.out.rng g2 (List.mem_append_right _ (List.mem_of_getElem? hg2))).1
     unfold atG
     rw [hg2]
     show g2 ≠ 0
     omega
    rw [hl15] at hS
    obtain ⟨pv, hpv⟩ : ∃ p, prevG gs (j + 1) = p := ⟨_, rfl⟩
    rw [hpv] at hpj ⊢
    have e1 : ((pv : Int) != 0) = true := bne_iff_ne.2 (by omega)
    clear hlt hg hat hrg hn2 hnm he hi hl15 hpj
    go_wp2_with (first
     | (refine toList (by rfl) ?_; refine ld hS _ _ (by rfl) _ _ (by rfl) (agOf (by rfl)) Has.z GD.out ?_)
     | (refine toList (by rfl) ?_; refine ld hS _ _ (by rfl) _ _ (by rfl) (agOf (by rfl)) Has.z GL.out ?_)
     | (go_at_call 49; refine (Calls.atS hS (k := 2) rfl (fun hF => takes_any hF g HG4.out HNW.out)).mono ?_; clear hS; rintro e w1 ⟨rfl, hS⟩; dsimp only [List.set_cons_zero, List.set_cons_succ] at hS; rw [HUU.out] at hS)
     | (go_at_call 42; refine (dread_any (hS.re [3, 0, 1, 2]) HL.out rfl HBG.out).mono ?_; clear hS; rintro e w1 ⟨q, rfl, hS⟩)
     | (go_at_call 94; refine (rget_m hS _ (some ⟨q, 0, none⟩) 128 HEL.out (fun w h => h.csRd0 (n := 128) (sz := 1) Has.z (by decide) (by rw [bv_length, HEL.out])) (by decide) HE1.out HE2.out HE3.out).mono ?_; clear hS; rintro e w1 ⟨v9, rfl, hS⟩; obtain ⟨ao9, c9, rfl, _⟩ := hS.tbShape (k := 0) rfl)
     | (refine toList (by rfl) ?_; refine ld hS _ _ (by rfl) _ _ (by rfl) (agOf (by rfl)) (Has.s (Has.s (Has.s Has.z))) GR.out ?_)
     | (refine toList (by rfl) ?_; refine apTbS hS _ _ _ _ (by rfl) _ _ (by rfl) (by rfl) (elOf (by rfl)) (by rfl) (by decide) (inOf (by rfl)) (Has.s (Has.s (Has.s (Has.s Has.z)))) (chunk S.recs (j + 1)) HRL.out (.inl (hS.tbRd Has.z)) HRO.out (by have := HTL.out; have := HCL.out; omega) (by have := HTL.out; have := HCL.out; omega) ?_; clear hS; intro aor cr w1 _ hS; dsimp only [List.set_cons_zero, List.set_cons_succ] at hS; rw [HNN.out] at hS ⊢)
     | (refine toList (by rfl) ?_; refine st hS _ _ _ (by rfl) _ _ (by rfl) _ (by first | exact evC | exact evT (by rfl)) (by rfl) (szOf (by rfl)) (Has.s (Has.s (Has.s Has.z))) (by rw [stv_len HXO.out]; decide) ?_; clear hS; intro w1 hS; dsimp only [List.set_cons_zero, List.set_cons_succ] at hS; first | rw [stv_setRec HXO.out] at hS | rw [stv_setLast HXO.out] at hS))
    rw [HCT.out] at hS
    refine ⟨⟨(j + 1) + 1, _, HLT.out, HNX.out, HPV.out, (hS.re [0, 1, 3, 4, 5, 2]).drop.drop⟩, HCH.out⟩
  ·obtain rfl : i = gs.length := by omega
   have hall : S.recs.take (15 * gs.length) = S.recs := List.take_of_length_le HK.out.high
   have hpos : 0 < gs.length := List.length_pos_iff.2 HK.out.ne
   obtain ⟨m, hm⟩ : ∃ m, gs.length = m + 1 := ⟨gs.length - 1, by omega⟩
   have hlast : lstG S.recs gs.length = S.last := by
    rw [hm, HK.out.last]
    show (chunk S.recs m).length = _
    rw [chunk_len]
    have := HK.out.high
    have := HK.out.low
    omega
   have htl : S.sup.tail = ((prevG gs gs.length : Nat) : Int) := by
    rw [HK.out.tail, List.getLast_eq_getElem]
    congr 1
    conv => rhs; rw [hm]
    show _ = atG gs m
    unfold atG
    rw [List.getElem?_eq_getElem (by omega)]
    show gs[gs.length - 1] = gs[m]
    congr 1
    omega
   have hz : atG gs gs.length = 0 := by unfold atG; rw [List.getElem?_eq_none (Nat.le_refl _)]; rfl
   have hU : usedBy B.length (blksX S.inos ++ gs.take gs.length) = S.U := by rw [List.take_length, HK.out.u]
   rw [hall, hlast, hU] at hS
   obtain ⟨ao, c, rfl, _⟩ := hS.tbShape (k := 1) rfl
   have GT := Lib.hid (show (stv pd S.sup (.slice none 0 0) S.inos (.slice ao S.recs.length c) S.last)[3]? = some (.int .i64 ((prevG gs gs.length : Nat) : Int)) by rw [stv_low (by decide), ← htl]; rfl)
   have GC := Lib.hid (show (stv pd S.sup (.slice none 0 0) S.inos (.slice ao S.recs.length c) S.last)[4]? = some (.int .i64 ((S.recs.length : Nat) : Int)) by rw [stv_low (by decide), ← HK.out.recs]; rfl)
   have GR := Lib.hid (stv_rec (pd := pd) (s := S.sup) (fv := .slice none 0 0) (r := .slice ao S.recs.length c) (last := (S.last : Int)) HK.out.x)
   have HG := Lib.hid (decide_eq_true HK.out.gr)
   have HRL := Lib.hid (show S.recs.length ≤ 900000 by have := HK.out.high; omega)
   rw [hz]
   obtain ⟨pl, hpl⟩ : ∃ p, prevG gs gs.length = p := ⟨_, rfl⟩
   rw [hpl] at GT ⊢
   obtain ⟨rl, hrl⟩ : ∃ l, S.recs.length = l := ⟨_, rfl⟩
   have hri : (rl : Int) ≤ 900000 := by have := HRL.out; omega
   have e5 : ((pl : Int) == (pl : Int)) = true := by simp
   have e6 : ((rl : Int) == (rl : Int)) = true := by simp
   have HGC := Lib.hid (fun w h => graph_any (W := W) (w := w) (L := Cs ps 85 (stv pd S.sup (.slice none 0 0) S.inos (.slice ao S.recs.length c) S.last) :: Tb 53 3 rv (.slice ao S.recs.length c) S.recs :: IsMap vu S.U :: IsDisk pd D :: L) h S.recs ao c (fun w h => h.tbRd (k := 1) rfl) HRL.out)
   rw [HG.out] at HGC
   rw [hrl] at hS GT GC GR HGC
   clear hlt hi hall hpos hm hlast htl hz hU hpl
   go_wp2_with (first
    | (refine toList (by rfl) ?_; refine ld hS _ _ (by rfl) _ _ (by rfl) (agOf (by rfl)) Has.z GR.out ?_)
    | (go_at_call 54; refine (HGC.out _ hS).mono ?_; rintro e w1 ⟨pg, rfl, hS1⟩; clear hS; have hS := hS1.drop; clear hS1))
   refine regStart [] hS (by kernel_rfl) rfl ?_
   intro w1 hS1
   clear hS; have hS := hS1; clear hS1
   (refine rgP 0 hS (fun _ h => h) ?_; go_frame)
   (refine rgP 1 hS (fun _ h => h) ?_; go_frame)
   (first | (refine rgP 2 hS (fun _ h => h) ?_; go_frame) | (refine rgN 2 hS (fun _ h => h) ?_; go_frame))
   (first | (refine rgP 3 hS (fun _ h => h) ?_; go_frame) | (refine rgN 3 hS (fun _ h => h) ?_; go_frame))
   (first | (refine rgP 4 hS (fun _ h => h) ?_; go_frame) | (refine rgN 4 hS (fun _ h => h) ?_; go_frame))
   (first | (refine rgP 5 hS (fun _ h => h) ?_; go_frame) | (refine rgN 5 hS (fun _ h => h) ?_; go_frame))
   (first | (refine rgP 6 hS (fun _ h => h) ?_; go_frame) | (refine rgN 6 hS (fun _ h => h) ?_; go_frame))
   (first | (refine rgR 7 hS (fun _ h => h) ?_; (first
          | refine ⟨_, yLd _ _ (by rfl) _ _ (by rfl) (agOf (by rfl)) Has.z GT.out, ?_⟩
          | refine ⟨_, yLd _ _ (by rfl) _ _ (by rfl) (agOf (by rfl)) Has.z GR.out, ?_⟩
          | refine ⟨_, yLd _ _ (by rfl) _ _ (by rfl) (agOf (by rfl)) Has.z GC.out, ?_⟩); go_frame) | (refine rgN 7 hS (fun _ h => h) ?_; go_frame))
   (first | (refine rgP 8 hS (fun _ h => h) ?_; go_frame) | (refine rgN 8 hS (fun _ h => h) ?_; go_frame))
   (refine rgP 9 hS (fun _ h => h) ?_; go_frame)
   (refine rgP 10 hS (fun _ h => h) ?_; go_frame)
   (first | (refine rgP 11 hS (fun _ h => h) ?_; go_frame) | (refine rgN 11 hS (fun _ h => h) ?_; go_frame))
   (first | (refine rgP 12 hS (fun _ h => h) ?_; go_frame) | (refine rgN 12 hS (fun _ h => h) ?_; go_frame))
   (first | (refine rgP 13 hS (fun _ h => h) ?_; go_frame) | (refine rgN 13 hS (fun _ h => h) ?_; go_frame))
   (first | (refine rgR 14 hS (fun _ h => h) ?_; (first
          | refine ⟨_, yLd _ _ (by rfl) _ _ (by rfl) (agOf (by rfl)) Has.z GT.out, ?_⟩
          | refine ⟨_, yLd _ _ (by rfl) _ _ (by rfl) (agOf (by rfl)) Has.z GR.out, ?_⟩
          | refine ⟨_, yLd _ _ (by rfl) _ _ (by rfl) (agOf (by rfl)) Has.z GC.out, ?_⟩); go_frame) | (refine rgN 14 hS (fun _ h => h) ?_; go_frame))
   (first | (refine rgP 15 hS (fun _ h => h) ?_; go_frame) | (refine rgN 15 hS (fun _ h => h) ?_; go_frame))
   (first | (refine rgP 16 hS (fun _ h => h) ?_; go_frame) | (refine rgN 16 hS (fun _ h => h) ?_; go_frame))
   (first | (refine rgP 17 hS (fun _ h => h) ?_; go_frame) | (refine rgN 17 hS (fun _ h => h) ?_; go_frame))
   (first | (refine rgP 18 hS (fun _ h => h) ?_; go_frame) | (refine rgN 18 hS (fun _ h => h) ?_; go_frame))
   (first | (refine rgP 19 hS (fun _ h => h) ?_; go_frame) | (refine rgN 19 hS (fun _ h => h) ?_; go_frame))
   (first | (refine rgR 20 hS (fun _ h => h) ?_; (first
          | refine ⟨_, yLd _ _ (by rfl) _ _ (by rfl) (agOf (by rfl)) Has.z GT.out, ?_⟩
          | refine ⟨_, yLd _ _ (by rfl) _ _ (by rfl) (agOf (by rfl)) Has.z GR.out, ?_⟩
          | refine ⟨_, yLd _ _ (by rfl) _ _ (by rfl) (agOf (by rfl)) Has.z GC.out, ?_⟩); go_frame) | (refine rgN 20 hS (fun _ h => h) ?_; go_frame))
   (first | (refine rgP 21 hS (fun _ h => h) ?_; go_frame) | (refine rgN 21 hS (fun _ h => h) ?_; go_frame))
   (refine rgP 22 hS (fun _ h => h) ?_; go_frame)
   (refine rgP 23 hS (fun _ h => h) ?_; go_frame)
   refine regDone (by kernel_rfl) ?_
   go_wp2
   go_ret
   exact ⟨_, rfl, hS⟩
end Go.Proofs.YtchohheleofncaaGreat
