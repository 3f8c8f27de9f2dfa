/-
 Package store: Open (of a good store).
-/
import Derived.Test.YtchohheleofncaaGreatStChain
import Derived.Test.YtchohheleofncaaGreatMIno
set_option linter.unusedSimpArgs false
set_option linter.unusedVariables false
namespace Go.Proofs.YtchohheleofncaaGreat
open Go.RowKit Go.Sep
attribute [local irreducible] Go.Oper.wp Go.wpList Go.Calls Go.Code.wp Go.Sep.Reg
theorem live_rec {D : DiskS} {B : List (List UInt8)} {k : Nat} (h : Lv D B k) (h2 : B[2]? = some (zeros 128)) : recB D = false ∧ recR D = (0, D) := by
 obtain ⟨a, b⟩ := rec_zero (D := D) (by rw [h.bl]; exact h2)
 exact ⟨by unfold recB; rw [a]; rfl, b⟩
def zX : List InoD := List.replicate 48 zeroI
theorem zX_ok : XOk zX := ⟨rfl, fun x hx => by rw [List.eq_of_mem_replicate hx]; exact okI_zero⟩
def toX (X : List InoD) (i : Nat) : List InoD := X.take i ++ List.replicate (48 - i) zeroI
theorem toX_zero (X : List InoD) : toX X 0 = zX := by unfold toX zX; simp
theorem toX_all {X : List InoD} (h : X.length = 48) : toX X 48 = X := by unfold toX; rw [List.take_of_length_le (by omega), Nat.sub_self]; simp
theorem toX_ok {X : List InoD} (h : XOk X) {i : Nat} (hi : i ≤ 48) : XOk (toX X i) where
 len := by unfold toX; rw [List.length_append, List.length_take, List.length_replicate, h.len]; omega
 ok x hx := by
  unfold toX at hx
  rcases List.mem_append.1 hx with hx | hx
  ·exact h.ok x (List.mem_of_mem_take hx)
  ·rw [List.eq_of_mem_replicate hx]; exact okI_zero
theorem toX_set {X : List InoD} (h : X.length = 48) {i : Nat} {x : InoD} (hx : X[i]? = some x) : (toX X i).set i x = toX X (i + 1) := by
 have hi := (List.getElem?_eq_some_iff.1 hx).1
 unfold toX
 rw [List.set_append_right _ _ (by rw [List.length_take]; omega), List.length_take, show i - min i X.length = 0 by omega]
 rw [List.take_add_one, hx, Option.toList_some, List.append_assoc, show 48 - i = (48 - (i + 1)) + 1 by omega, List.replicate_succ]
 rfl
def blksP (l : List Int) : List Nat := (l.filter (fun p => decide (p ≠ 0))).map Int.toNat
theorem blksP_all (x : InoD) : blksP x.ptrs = blksI x := rfl
theorem blksP_skip {l : List Int} {j : Nat} (h : l[j]? = some 0) : blksP (l.take (j + 1)) = blksP (l.take j) := by
 unfold blksP
 rw [List.take_add_one, h]
 simp
theorem blksP_snoc {l : List Int} {j p : Nat} (h : l[j]? = some (p : Int)) (hp : p ≠ 0) : blksP (l.take (j + 1)) = blksP (l.take j) ++ [p] := by
 unfold blksP
 rw [List.take_add_one, h, Option.toList_some, List.filter_append, List.map_append]
 have : ¬ ((p : Int) = 0) := by omega
 simp [hp]
theorem blksX_snoc {X : List InoD} {i : Nat} {x : InoD} (h : X[i]? = some x) : blksX (X.take (i + 1)) = blksX (X.take i) ++ blksI x := by
 unfold blksX
 rw [List.take_add_one, h, Option.toList_some, List.flatMap_append]
 simp
theorem stv_ptrs {pd : Nat} {s : SupD} {fv : Value} {X : List InoD} {r : Value} {last : Int} (h : XOk X) {i : Nat} {x : InoD} (hx : X[i]? = some x) : ((stv pd s fv X r last).drop (9 + i * 37 + 5)).take 32 = pv x.ptrs := by
 have h1 := stv_ino (pd := pd) (s := s) (fv := fv) (r := r) (last := last) h hx
 rw [← List.drop_drop]
 have h2 : (((stv pd s fv X r last).drop (9 + i * 37)).drop 5).take 32 = (((stv pd s fv X r last).drop (9 + i * 37)).take 37).drop 5 := by rw [List.drop_take]
 rw [h2, h1]
 rfl
theorem blksP_cons {q : Nat} (l : List Int) (h : q ≠ 0) : blksP ((q : Int) :: l) = q :: blksP l := by
 unfold blksP
 rw [List.filter_cons_of_pos (by simp; exact h), List.map_cons]
 rfl
theorem blksP_split {l : List Int} {j q : Nat} (h : l[j]? = some (q : Int)) (hq : q ≠ 0) : blksP l = blksP (l.take j) ++ q :: blksP (l.drop (j + 1)) := by
 have hj := (List.getElem?_eq_some_iff.1 h).1
 have he : l[j] = (q : Int) := (List.getElem?_eq_some_iff.1 h).2
 conv => lhs; rw [← List.take_append_drop j l, List.drop_eq_getElem_cons hj, he]
 rw [← blksP_cons _ hq]
 unfold blksP
 rw [List.filter_append, List.map_append]
theorem blks_new {X : List InoD} {gs : List Nat} (hn : (blksX X ++ gs).Nodup) {i j q : Nat} {x : InoD} (hx : X[i]? = some x) (hp : x.ptrs[j]? = some (q : Int)) (hq : q ≠ 0) : q ∈ blksX X ∧ q ∉ blksX (X.take i) ++ blksP (x.ptrs.take j) := by
 have e : blksX X = (blksX (X.take i) ++ blksP (x.ptrs.take j)) ++ q :: (blksP (x.ptrs.drop (j + 1)) ++ blksX (X.drop (i + 1))) := by
  have hi := (List.getElem?_eq_some_iff.1 hx).1
  have he : X[i] = x := (List.getElem?_eq_some_iff.1 hx).2
  unfold blksX
  conv => lhs; rw [← List.take_append_drop i X, List.drop_eq_getElem_cons hi, he, List.flatMap_append, List.flatMap_cons, ← blksP_all, blksP_split hp hq]
  simp only [List.append_assoc, List.cons_append]
 have h1 := (List.nodup_append.1 hn).1
 rw [e] at h1
 refine ⟨by rw [e]; simp, fun hm => ?_⟩
 exact (List.nodup_append.1 h1).2.2 q hm q (List.mem_cons_self ..) rfl
theorem opFv {W w : World} {R : List Asrt} {q : Nat} {U : Nat → Bool} {E : TypeId} {A B C X : Asrt} (h : Sat W w (Cs q E (bv (mapB U)) :: A :: B :: C :: X :: R)) : Sat W w (IsMap (.slice (some ⟨q, 0, none⟩) 128 128) U :: A :: B :: C :: R) := by
 have h2 : Sat W w (Cs q E ([] ++ bv (mapB U) ++ []) :: A :: B :: C :: R) := by
  rw [List.nil_append, List.append_nil]
  exact ((h.re [4, 0, 1, 2, 3]).drop)
 unfold IsMap
 exact Sat.slMk (n := 128) (cap := 128) (sz := 1) h2 (Nat.le_refl _) (by decide) (by rw [bv_length, mapB_len]) rfl (by rw [bv_length, mapB_len]; decide)
def OpJ (W : World) (L : List Asrt) (ps pd n i : Nat) (S : StD) (D : DiskS) (x : InoD) (vu v84 : Value) (wz : World) : Prop :=
 ∃ j : Nat, v84 = .int .i64 (j : Int) ∧ j ≤ 32 ∧ Sat W wz (Cs ps 85 (stv pd S.sup (.slice none 0 0) (toX S.inos (i + 1)) (.slice none 0 0) 0) :: IsMap vu (usedBy n (blksX (S.inos.take i) ++ blksP (x.ptrs.take j))) :: IsDisk pd D :: L)
def OpE (W : World) (L : List Asrt) (pd : Nat) (S : StD) (D : DiskS) (e : Ending) (w' : World) : Prop := ∃ ps, e = .returned (.tuple #[.pointer (some ⟨ps, 0, none⟩), .int .i64 0]) ∧ Sat W w' (IsSt ps pd S :: IsDisk pd D :: L)
def OpM (n : Nat) (v : Value) : Nat := n - (intOf v).toNat
theorem opM_lt {n i : Nat} (h : i < n) : OpM n (.int .i64 ((i + 1 : Nat) : Int)) < OpM n (.int .i64 (i : Int)) := by
 unfold OpM
 show n - (((i + 1 : Nat) : Int)).toNat < n - ((i : Int)).toNat
 rw [Int.toNat_natCast, Int.toNat_natCast]
 omega
def OpI (W : World) (L : List Asrt) (ps pd n : Nat) (S : StD) (D : DiskS) (vu v55 : Value) (wz : World) : Prop :=
 ∃ i : Nat, v55 = .int .i64 (i : Int) ∧ i ≤ 48 ∧ Sat W wz (Cs ps 85 (stv pd S.sup (.slice none 0 0) (toX S.inos i) (.slice none 0 0) 0) :: IsMap vu (usedBy n (blksX (S.inos.take i))) :: IsDisk pd D :: L)
set_option maxRecDepth 20000 in
set_option maxHeartbeats 4000000 in
theorem open_any {W w : World} {L : List Asrt} {pd k k0 : Nat} {S : StD} {D0 D : DiskS} {B : List (List UInt8)} {gs : List Nat} (hok : SOk B S gs) (hG : DG D0 k0) (hk : k0 ≤ 90000) (h26 : 26 ≤ D0.blocks.length) (hrec : recR D0 = (0, D)) (hl : Lv D B k) (hS : Sat W w (IsDisk pd D0 :: L)) :
  Calls Tryz.prog 14 #[.pointer (some ⟨pd, 0, none⟩)] w fun e w' => OpE W L pd S D e w' := by
 have HK := Lib.hid hok
 have HL := Lib.hid hl
 have HREC := Lib.hid (fun w (h : Sat W w (IsDisk pd D0 :: L)) => wrecover_any h hG hk h26)
 rw [hrec] at HREC
 obtain ⟨rb, hrb⟩ : ∃ b, recB D0 = b := ⟨_, rfl⟩
 rw [hrb] at HREC
 clear hrb
 obtain ⟨n, hn⟩ : ∃ n, B.length = n := ⟨_, rfl⟩
 have HDB := Lib.hid (show (D.blocks.length : Int) = (n : Int) by rw [hl.bl, hn])
 have hsb : S.sup.blocks = (n : Int) := by rw [hok.blocks, hn]
 have n1 : (160 : Int) ≤ (n : Int) := by have := hok.n1; omega
 have n2 : (n : Int) ≤ 1024 := by have := hok.n2; omega
 have hse := getSOk_enc hok.sup
 have HB0 := Lib.hid hok.b0
 have HSG := Lib.hid (fun w L q (h : Sat W w (Cs q 143 (bv (encS S.sup)) :: L)) => by
  have := sget_any h (encS S.sup) (some ⟨q, 0, none⟩) 128 (fun w h => by rw [encS_len]; exact h.csRd0 (n := 128) (sz := 1) Has.z (by decide) (by rw [bv_length, encS_len])) (by rw [encS_len]; decide)
  rw [encS_len, hse.1, hse.2] at this
  exact this)
 have HBD := Lib.hid (show ∀ u : World, (Instr.build 85 #[(0, .pointer (some ⟨pd, 0, none⟩))]).run Tryz.prog u = .ok (.agg (stv pd zeroS (.slice none 0 0) zX (.slice none 0 0) 0).toArray) u from fun u => run_build u _ _ _ (by kernel_rfl))
 have HZL := Lib.hid (stv_len (pd := pd) (s := zeroS) (fv := .slice none 0 0) (r := .slice none 0 0) (last := 0) zX_ok)
 have HSS := Lib.hid (stv_setSup (pd := pd) (s := zeroS) (s' := S.sup) (fv := .slice none 0 0) (X := zX) (r := .slice none 0 0) (last := 0))
 have G1 := Lib.hid (show (stv pd S.sup (.slice none 0 0) zX (.slice none 0 0) 0)[1]? = some (.int .i64 (n : Int)) by rw [stv_low (by decide), ← hsb]; rfl)
 have e0 : ((n : Int) == (n : Int)) = true := by simp
 have HNL := Lib.hid (show 0 < n ∧ n ≤ 1024 by omega)
 clear hok hl hrec hsb hse hk hG h26
 obtain ⟨Z, hZ⟩ : ∃ Z, stv pd zeroS (.slice none 0 0) zX (.slice none 0 0) 0 = Z := ⟨_, rfl⟩
 rw [hZ] at HBD HZL HSS
 clear hZ
 go_enter Tryz.func14, Tryz.ntmps14
 go_wp2_with (first
  | (go_at_call 44; refine (HREC.out _ hS).mono ?_; clear hS; rintro e w1 ⟨rfl, hS⟩)
  | (refine toList (by rfl) ?_; refine bd _ _ (by rfl) (by simp only [List.map_toArray, List.map_cons, List.map_nil]; rfl) HBD.out ?_)
  | (refine toList (by rfl) ?_; refine bx hS _ _ (by rfl) _ (by first | exact evC | exact evT (by rfl)) ?_; clear hS; intro ps w1 hS; rw [cells_agg] at hS)
  | (go_at_call 42; refine (dread_any hS.pull1 HL.out (n := 0) rfl HB0.out).mono ?_; clear hS; rintro e w1 ⟨q, rfl, hS⟩)
  | (go_at_call 45; refine (HSG.out _ _ _ hS).mono ?_; clear hS; rintro e w1 ⟨rfl, hS⟩)
  | (refine toList (by rfl) ?_; refine stA hS _ _ _ (by rfl) _ _ (by rfl) (sv S.sup) (by rfl) (sv_all _) (by exact szOf (by rfl)) (Has.s (Has.s Has.z)) (by rw [HZL.out]; show 8 ≤ 1787; decide) ?_; clear hS; intro w1 hS; dsimp only [List.set_cons_zero, List.set_cons_succ] at hS; rw [show 1 + (sv S.sup).length = 8 from rfl, HSS.out] at hS))
 refine regStart [] hS (by kernel_rfl) rfl ?_
 intro w1 hS1
 clear hS; have hS := hS1; clear hS1
 (refine rgP 0 hS (fun _ h => h) ?_; go_frame)
 (refine rgP 1 hS (fun _ h => h) ?_; go_frame)
 (refine rgP 2 hS (fun _ h => h) ?_; go_frame)
 (first | (refine rgP 3 hS (fun _ h => h) ?_; go_frame) | (refine rgN 3 hS (fun _ h => h) ?_; go_frame))
 (first | (refine rgP 4 hS (fun _ h => h) ?_; go_frame) | (refine rgN 4 hS (fun _ h => h) ?_; go_frame))
 (first | (refine rgP 5 hS (fun _ h => h) ?_; go_frame) | (refine rgN 5 hS (fun _ h => h) ?_; go_frame))
 (first | (refine rgP 6 hS (fun _ h => h) ?_; go_frame) | (refine rgN 6 hS (fun _ h => h) ?_; go_frame))
 (first | (refine rgR 7 hS (fun _ h => h) ?_; (refine ⟨_, yLd _ _ (by rfl) _ _ (by rfl) (agOf (by rfl)) (Has.s (Has.s Has.z)) G1.out, ?_⟩); go_frame) | (refine rgN 7 hS (fun _ h => h) ?_; go_frame))
 (first | (refine rgP 8 hS (fun _ h => h) ?_; go_frame) | (refine rgN 8 hS (fun _ h => h) ?_; go_frame))
 (first | (refine rgA 9 false fun K hK => ?_; (refine Go.Sep.cl 46 _ _ (by rfl) (by rfl) (by kernel_rfl) (blocks_any (hS.re [1]) HDB.out) ?_; rintro e w1 ⟨rfl, rfl⟩; refine ⟨_, rfl, ?_⟩); refine hK _ _ _ hS (by first | (intro h; cases h; done) | exact fun _ _ h => h | exact fun _ _ h => h.drop | exact fun _ _ h => h.drop.drop | exact fun _ _ h => h.drop.pull1 | exact fun _ _ h => h.take2 | exact fun _ _ h => h.one Has.z | exact fun _ _ h => h.one (Has.s Has.z) | exact fun _ _ h => h.one (Has.s (Has.s Has.z))) ?_; clear hK K; go_frame) | (refine rgN 9 hS (fun _ h => h) ?_; go_frame))
 (first | (refine rgP 10 hS (fun _ h => h) ?_; go_frame) | (refine rgN 10 hS (fun _ h => h) ?_; go_frame))
 (refine rgP 11 hS (fun _ h => h) ?_; go_frame)
 refine regDone (by kernel_rfl) ?_
 go_wp2_with (first
  | (go_at_call 46; refine (blocks_any (hS.re [1]) HDB.out).mono ?_; rintro e w1 ⟨rfl, rfl⟩)
  | (go_at_call 47; refine (bnew_any hS n (by have := HNL.out; omega)).mono ?_; clear hS; rintro e w1 ⟨vu, rfl, hS⟩))
 have H0 : Hid (Sat W _ (Cs ps 85 (stv pd S.sup (.slice none 0 0) (toX S.inos 0) (.slice none 0 0) 0) :: IsMap vu (usedBy n (blksX (S.inos.take 0))) :: IsDisk pd D :: L)) := Lib.hid (by
  rw [toX_zero, show usedBy n (blksX (S.inos.take 0)) = usedU n from usedBy_nil n]
  exact ((hS.re [1, 3, 0, 2]).drop))
 clear hS
 go_loopw [55] (fun v55 wz => OpI W L ps pd n S D vu v55 wz) (fun v55 _ => OpM 48 v55)
 case atStart => exact ⟨0, rfl, by decide, H0.out⟩
 case round =>
  clear H0
  obtain ⟨i, rfl, hi, hS⟩ := hrel
  by_cases hlt : i < 48
  ·have k1 : (i : Int) < 48 := by omega
   have HLT := Lib.hid hlt
   obtain ⟨x, hx⟩ : ∃ x, S.inos[i]? = some x := ⟨_, List.getElem?_eq_getElem (by rw [HK.out.x.len]; exact hlt)⟩
   have HX := Lib.hid hx
   have HOX := Lib.hid (HK.out.x.ok x (List.mem_of_getElem? hx))
   have HBI := Lib.hid (HK.out.bi i x hx)
   have HGX := Lib.hid (fun w L q (h : Sat W w (Cs q 143 (bv (encI x)) :: L)) => iget_any h x HOX.out (some ⟨q, 0, none⟩) 128 (fun w L' h => h.csRd0 (n := 128) (sz := 1) (has_add Has.z L') (by decide) (by rw [bv_length, encI_len x HOX.out.pl])))
   have HTL := Lib.hid (stv_len (pd := pd) (s := S.sup) (fv := .slice none 0 0) (r := .slice none 0 0) (last := 0) (toX_ok HK.out.x hi))
   have HIL := Lib.hid (show (inv x).length = 37 by rw [inv_len, HOX.out.pl])
   have HI1 := Lib.hid (inv_one x)
   have HSI := Lib.hid (show (stv pd S.sup (.slice none 0 0) (toX S.inos i) (.slice none 0 0) 0).take (9 + i * 37) ++ inv x ++ (stv pd S.sup (.slice none 0 0) (toX S.inos i) (.slice none 0 0) 0).drop (9 + i * 37 + (inv x).length) = stv pd S.sup (.slice none 0 0) (toX S.inos (i + 1)) (.slice none 0 0) 0 by
    rw [HIL.out, stv_setIno (toX_ok HK.out.x hi) hlt x HOX.out.pl, toX_set HK.out.x.len hx])
   obtain ⟨iv, hiv⟩ : ∃ iv, inv x = iv := ⟨_, rfl⟩
   rw [hiv] at HGX HIL HI1 HSI
   clear hlt hi hx hiv
   go_wp2_with (go_at_call 42; refine (dread_any (hS.re [2, 0, 1]) HL.out (n := 26 + i) (by omega) HBI.out).mono ?_; clear hS; rintro e w1 ⟨q, rfl, hS⟩)
   refine regStart [3, 10] hS (by kernel_rfl) rfl ?_
   intro w1 hS1
   clear hS; have hS := hS1; clear hS1
   (refine rgP 0 hS (fun _ h => h) ?_; go_frame)
   (refine rgP 1 hS (fun _ h => h) ?_; go_frame)
   (refine rgP 2 hS (fun _ h => h) ?_; go_frame)
   (refine rgP 7 hS (fun _ h => h) ?_; go_frame)
   (refine rgP 8 hS (fun _ h => h) ?_; go_frame)
   (refine rgA 3 true fun K hK => ?_; (first
          | (refine Go.Sep.cl 48 _ _ (by rfl) (by rfl) (by kernel_rfl) (HGX.out _ _ _ hS) ?_; clear hS; rintro e w1 ⟨rfl, hS⟩; refine ⟨_, rfl, ?_⟩)
          | (refine stA hS _ _ _ (by rfl) _ _ (by rfl) iv (by rfl) HI1.out (by rw [HIL.out]; exact szOf (by rfl)) (Has.s (Has.s Has.z)) (by rw [HTL.out, HIL.out]; have := HLT.out; omega) ?_; clear hS; intro w1 hS; dsimp only [List.set_cons_zero, List.set_cons_succ] at hS)); refine hK _ _ _ hS (by first | (intro h; cases h; done) | exact fun _ _ h => h | exact fun _ _ h => h.drop | exact fun _ _ h => h.drop.drop | exact fun _ _ h => h.drop.pull1 | exact fun _ _ h => h.take2 | exact fun _ _ h => h.one Has.z | exact fun _ _ h => h.one (Has.s Has.z) | exact fun _ _ h => h.one (Has.s (Has.s Has.z))) ?_; clear hK K; go_frame)
   (refine rgP 4 hS (fun _ h => h) ?_; go_frame)
   (refine rgP 5 hS (fun _ h => h) ?_; go_frame)
   (refine rgP 6 hS (fun _ h => h) ?_; go_frame)
   (refine rgP 9 hS (fun _ h => h) ?_; go_frame)
   (refine rgA 10 true fun K hK => ?_; (first
          | (refine Go.Sep.cl 48 _ _ (by rfl) (by rfl) (by kernel_rfl) (HGX.out _ _ _ hS) ?_; clear hS; rintro e w1 ⟨rfl, hS⟩; refine ⟨_, rfl, ?_⟩)
          | (refine stA hS _ _ _ (by rfl) _ _ (by rfl) iv (by rfl) HI1.out (by rw [HIL.out]; exact szOf (by rfl)) (Has.s (Has.s Has.z)) (by rw [HTL.out, HIL.out]; have := HLT.out; omega) ?_; clear hS; intro w1 hS; dsimp only [List.set_cons_zero, List.set_cons_succ] at hS)); refine hK _ _ _ hS (by first | (intro h; cases h; done) | exact fun _ _ h => h | exact fun _ _ h => h.drop | exact fun _ _ h => h.drop.drop | exact fun _ _ h => h.drop.pull1 | exact fun _ _ h => h.take2 | exact fun _ _ h => h.one Has.z | exact fun _ _ h => h.one (Has.s Has.z) | exact fun _ _ h => h.one (Has.s (Has.s Has.z))) ?_; clear hK K; go_frame)
   (refine rgP 11 hS (fun _ h => h) ?_; go_frame)
   refine regDone (by kernel_rfl) ?_
   rw [HSI.out] at hS
   have HTX := Lib.hid (show (toX S.inos (i + 1))[i]? = some x by
    unfold toX
    have hil := (List.getElem?_eq_some_iff.1 HX.out).1
    rw [List.getElem?_append_left (by rw [List.length_take]; omega), List.getElem?_take_of_lt (by omega)]
    exact HX.out)
   have HPT := Lib.hid (stv_ptrs (pd := pd) (s := S.sup) (fv := .slice none 0 0) (r := .slice none 0 0) (last := 0) (toX_ok HK.out.x (i := i + 1) (by have := HLT.out; omega)) HTX.out)
   have HPL := Lib.hid (show (pv x.ptrs).length = 32 by rw [pv_len, HOX.out.pl])
   go_wp2_with (refine toList (by rfl) ?_; refine wp_of_reads (rLdA hS _ _ (by rfl) _ _ (by rfl) (agOf (by rfl)) (szOf (by rfl)) (Has.s (Has.s Has.z)) (vs := pv x.ptrs) HPT.out HPL.out) ?_)
   have H1 : Hid (Sat W _ (Cs ps 85 (stv pd S.sup (.slice none 0 0) (toX S.inos (i + 1)) (.slice none 0 0) 0) :: IsMap vu (usedBy n (blksX (S.inos.take i) ++ blksP (x.ptrs.take 0))) :: IsDisk pd D :: L)) := Lib.hid (by
    rw [show blksX (S.inos.take i) ++ blksP (x.ptrs.take 0) = blksX (S.inos.take i) from List.append_nil _]
    exact (hS.re [0, 2, 3, 1]).drop)
   clear hS
   go_loopw [84] (fun v84 wz => OpJ W L ps pd n i S D x vu v84 wz) (fun v84 _ => OpM 32 v84)
   case atStart => exact ⟨0, rfl, by decide, H1.out⟩
   case round =>
    clear H1
    obtain ⟨j, rfl, hj, hS⟩ := hrel
    by_cases hjl : j < 32
    ·obtain ⟨p, hp⟩ : ∃ p, x.ptrs[j]? = some p := ⟨_, List.getElem?_eq_getElem (by rw [HOX.out.pl]; exact hjl)⟩
     have hix := fun w => idx_ptr hjl hp w
     have k2 : (j : Int) < 32 := by omega
     have HJ := Lib.hid hjl
     by_cases h0 : p = 0
     ·subst h0
      have HN := Lib.hid (blksP_skip hp)
      clear hp hjl hj
      go_wp2
      rw [← HN.out] at hS
      exact ⟨⟨j + 1, by go_num, HJ.out, hS⟩, opM_lt HJ.out⟩
     ·have hpt := HOX.out.pt j p hp h0
      obtain ⟨q, rfl⟩ : ∃ q : Nat, p = (q : Int) := ⟨p.toNat, by omega⟩
      have hb := blks_new HK.out.nd HX.out hp (by omega)
      have hrg := HK.out.rng q (List.mem_append_left _ hb.1)
      rw [hn] at hrg
      have HNW := Lib.hid (usedBy_new (n := n) hrg.1 hrg.2 hb.2)
      have HQ4 := Lib.hid (show q < 1024 by omega)
      have HN := Lib.hid (show upd (usedBy n (blksX (S.inos.take i) ++ blksP (x.ptrs.take j))) q true = usedBy n (blksX (S.inos.take i) ++ blksP (x.ptrs.take (j + 1))) by
       rw [usedBy_snoc, blksP_snoc hp (by omega), List.append_assoc])
      have e1 : ((q : Int) != 0) = true := bne_iff_ne.2 h0
      clear hp hjl hj hpt hb hrg h0
      go_wp2_with (go_at_call 49; refine (Calls.atS hS (k := 1) rfl (fun hF => takes_any hF q HQ4.out HNW.out)).mono ?_; clear hS; rintro e w1 ⟨rfl, hS⟩; dsimp only [List.set_cons_zero, List.set_cons_succ] at hS; rw [HN.out] at hS)
      exact ⟨⟨j + 1, by go_num, HJ.out, hS⟩, opM_lt HJ.out⟩
    ·obtain rfl : j = 32 := by omega
     have HBX := Lib.hid (show blksX (S.inos.take i) ++ blksP (x.ptrs.take 32) = blksX (S.inos.take (i + 1)) by
      rw [blksX_snoc HX.out, show x.ptrs.take 32 = x.ptrs from List.take_of_length_le (by rw [HOX.out.pl]; exact Nat.le_refl _), blksP_all])
     rw [HBX.out] at hS
     clear hjl hj
     go_wp2
     exact ⟨⟨i + 1, by go_num, HLT.out, hS⟩, opM_lt HLT.out⟩
  ·obtain rfl : i = 48 := by omega
   subst hn
   rw [toX_all HK.out.x.len, show blksX (S.inos.take 48) = blksX S.inos by rw [List.take_of_length_le (by rw [HK.out.x.len]; exact Nat.le_refl _)]] at hS
   have HCH := Lib.hid (fun w (h : Sat W w (Cs ps 85 (stv pd S.sup (.slice none 0 0) S.inos (.slice none 0 0) 0) :: IsMap vu (usedBy B.length (blksX S.inos)) :: IsDisk pd D :: L)) => chain_any HK.out HL.out h)
   have HB1 := Lib.hid HK.out.b1
   have HXO := Lib.hid HK.out.x
   clear hlt hi
   go_wp2_with (first
    | (go_at_call 50; refine (HCH.out _ hS).mono ?_; clear hS; rintro e w1 ⟨r, rfl, hS⟩)
    | (go_at_call 42; refine (dread_any (hS.re [3, 0, 1, 2]) HL.out (n := 1) rfl HB1.out).mono ?_; clear hS; rintro e w1 ⟨q, rfl, hS⟩)
    | (refine toList (by rfl) ?_; refine Go.Sep.st hS _ _ _ (by rfl) _ _ (by rfl) _ (by first | exact evC | exact evT (by rfl)) (by rfl) (szOf (by rfl)) (Has.s (Has.s Has.z)) (by rw [stv_len HXO.out]; decide) ?_; clear hS; intro w1 hS; dsimp only [List.set_cons_zero, List.set_cons_succ] at hS; rw [stv_setFree] at hS))
   have G8 := Lib.hid (stv_free (pd := pd) (s := S.sup) (fv := .slice (some ⟨q, 0, none⟩) 128 128) (X := S.inos) (r := r) (last := S.last))
   refine regStart [] hS (by kernel_rfl) rfl ?_
   intro w1 hS1
   clear hS; have hS := hS1; clear hS1
   (refine rgP 0 hS (fun _ h => h) ?_; go_frame)
   (refine rgP 1 hS (fun _ h => h) ?_; go_frame)
   (refine rgP 2 hS (fun _ h => h) ?_; go_frame)
   (refine rgR 3 hS (fun _ h => h) ?_; (first
          | refine ⟨_, yLd _ _ (by rfl) _ _ (by rfl) (agOf (by rfl)) (Has.s (Has.s Has.z)) G8.out, ?_⟩
          | refine ⟨_, yCv _ _ _ (by rfl) (.slice (some ⟨q, 0, none⟩) 128 128) (by rfl) strBytes (fun u hu => hu.csRd0 (n := 128) (sz := 1) Has.z (by decide) (by rw [bv_length, mapB_len])), ?_⟩
          | refine ⟨_, yCv _ _ _ (by rfl) vu (by rfl) strBytes (fun u hu => map_rd (Has.s (Has.s (Has.s (Has.s Has.z)))) u [] hu), ?_⟩); go_frame)
   (refine rgR 4 hS (fun _ h => h) ?_; (first
          | refine ⟨_, yLd _ _ (by rfl) _ _ (by rfl) (agOf (by rfl)) (Has.s (Has.s Has.z)) G8.out, ?_⟩
          | refine ⟨_, yCv _ _ _ (by rfl) (.slice (some ⟨q, 0, none⟩) 128 128) (by rfl) strBytes (fun u hu => hu.csRd0 (n := 128) (sz := 1) Has.z (by decide) (by rw [bv_length, mapB_len])), ?_⟩
          | refine ⟨_, yCv _ _ _ (by rfl) vu (by rfl) strBytes (fun u hu => map_rd (Has.s (Has.s (Has.s (Has.s Has.z)))) u [] hu), ?_⟩); go_frame)
   (refine rgP 5 hS (fun _ h => h) ?_; go_frame)
   (refine rgR 6 hS (fun _ h => h) ?_; (first
          | refine ⟨_, yLd _ _ (by rfl) _ _ (by rfl) (agOf (by rfl)) (Has.s (Has.s Has.z)) G8.out, ?_⟩
          | refine ⟨_, yCv _ _ _ (by rfl) (.slice (some ⟨q, 0, none⟩) 128 128) (by rfl) strBytes (fun u hu => hu.csRd0 (n := 128) (sz := 1) Has.z (by decide) (by rw [bv_length, mapB_len])), ?_⟩
          | refine ⟨_, yCv _ _ _ (by rfl) vu (by rfl) strBytes (fun u hu => map_rd (Has.s (Has.s (Has.s (Has.s Has.z)))) u [] hu), ?_⟩); go_frame)
   (refine rgP 7 hS (fun _ h => h) ?_; go_frame)
   refine regDone (by kernel_rfl) ?_
   go_wp2
   go_ret2
   refine ⟨ps, rfl, IsSt.mk (fv := .slice (some ⟨q, 0, none⟩) 128 128) (r := r) ?_⟩
   have h1 := hS.re [0, 2, 3, 1]
   exact (opFv h1).re [1, 0, 2, 3]
end Go.Proofs.YtchohheleofncaaGreat
