/-
  Record: a block's records; awake.
-/
import Derived.Test.YtapodjhkpahdnaaRecGet
import Derived.Test.YtapodjhkpahdnaaSepLaw
namespace Go.Proofs.Ytapodjhkpahdnaa
open Go.RowKit Go.Sep
set_option linter.unusedSimpArgs false
set_option linter.unusedVariables false
attribute [local irreducible] Go.Oper.wp Go.wpList Go.Calls Go.Code.wp Go.Sep.Reg
theorem getN_mid (A C : List UInt8) (v : Int) (n t : Nat) (h0 : 0 ≤ v) (h : v < (256 ^ n : Nat)) (ht : A.length = t) : ((getN (A ++ le v n ++ C) t n : Nat) : Int) = v := by
  subst ht
  obtain ⟨k, rfl⟩ := Int.eq_ofNat_of_zero_le h0
  unfold getN
  rw [if_pos (by simp [le_length])]
  rw [List.append_assoc, List.drop_left', List.take_left' (le_length _ _), un_le n k (by omega)]
  rfl
theorem encB_split {l : List RecD} {next : Int} {i : Nat} {x : RecD} (hx : l[i]? = some x) :
    ∃ A C, encB l next = A ++ encR x ++ C ∧ A.length = 3 + 7 * i := by
  have hi := (List.getElem?_eq_some_iff.1 hx).1
  refine ⟨encH l.length next ++ (l.take i).flatMap encR, (l.drop (i + 1)).flatMap encR ++ List.replicate (128 - (encH l.length next ++ l.flatMap encR).length) 0, ?_, ?_⟩
  · have hs : l.flatMap encR = (l.take i).flatMap encR ++ encR x ++ (l.drop (i + 1)).flatMap encR := by
      have he : l[i] = x := (List.getElem?_eq_some_iff.1 hx).2
      conv => lhs; rw [← List.take_append_drop i l, List.drop_eq_getElem_cons hi, he]
      rw [List.flatMap_append, List.flatMap_cons, List.append_assoc]
    unfold encB padTo
    conv => lhs; arg 1; rw [hs]
    simp only [List.append_assoc]
  · rw [List.length_append, encH_len, encRs_len, List.length_take]; omega
theorem recAt_enc {l : List RecD} {next : Int} {i : Nat} {x : RecD} (hx : l[i]? = some x) (hok : recOk x = true) : recAt (encB l next) i = x := by
  obtain ⟨A, C, h1, h2⟩ := encB_split (next := next) hx
  obtain ⟨r1, r2, r3, r4, r5, r6⟩ := recOk_range hok
  obtain ⟨k, a, b⟩ := x
  dsimp only at r1 r2 r3 r4 r5 r6
  unfold recAt
  rw [h1]
  unfold encR
  congr 1
  · have := getN_mid A (le a 3 ++ le b 3 ++ C) k 1 (3 + 7 * i) r1 (by simp; omega) h2
    simpa only [List.append_assoc] using this
  · have := getN_mid (A ++ le k 1) (le b 3 ++ C) a 3 (4 + 7 * i) r3 (by simp; omega) (by rw [List.length_append, h2, le_length]; omega)
    simpa only [List.append_assoc] using this
  · have := getN_mid (A ++ le k 1 ++ le a 3) C b 3 (7 + 7 * i) r5 (by simp; omega) (by rw [List.length_append, List.length_append, h2, le_length, le_length]; omega)
    simpa only [List.append_assoc] using this
theorem okPut_parts {l : List RecD} {next : Int} (h : okPut l next = true) : l.length ≤ 15 ∧ okNext next = true ∧ ∀ x ∈ l, recOk x = true := by
  unfold okPut at h
  simp only [Bool.and_eq_true, decide_eq_true_eq, List.all_eq_true] at h
  exact ⟨h.1.1, h.1.2, h.2⟩
theorem cnt_enc {l : List RecD} {next : Int} (h : okPut l next = true) : cntOf (encB l next) = l.length := by
  obtain ⟨h1, _, _⟩ := okPut_parts h
  have := getN_mid [] (le next 2 ++ (l.flatMap encR ++ List.replicate (128 - (encH l.length next ++ l.flatMap encR).length) 0)) (l.length : Nat) 1 0 (by omega) (by simp; omega) rfl
  have h2 : getN (encB l next) 0 1 = l.length := by
    unfold encB padTo encH
    simp only [List.nil_append, List.append_assoc] at this ⊢
    unfold encH at this
    simp only [List.append_assoc] at this
    exact_mod_cast this
  rw [cntOf, h2]; omega
theorem next_enc {l : List RecD} {next : Int} (h : okPut l next = true) : nextOf (encB l next) = next := by
  obtain ⟨_, h1, _⟩ := okPut_parts h
  have hr := okNext_range h1
  have := getN_mid (le l.length 1) (l.flatMap encR ++ List.replicate (128 - (encH l.length next ++ l.flatMap encR).length) 0) next 2 1 hr.1 (by simp; omega) (le_length _ _)
  unfold nextOf encB padTo
  conv => lhs; arg 1; arg 1; arg 1; arg 1; unfold encH
  simpa only [List.append_assoc] using this
theorem parse_enc {l : List RecD} {next : Int} (h : okPut l next = true) : parse (encB l next) = l := by
  obtain ⟨_, _, h3⟩ := okPut_parts h
  unfold parse recsAt
  rw [cnt_enc h]
  apply List.ext_getElem?
  intro i
  rw [List.getElem?_map]
  rcases Nat.lt_or_ge i l.length with hi | hi
  · rw [List.getElem?_range hi, List.getElem?_eq_getElem hi]
    exact congrArg some (recAt_enc (List.getElem?_eq_getElem hi) (h3 _ (List.getElem_mem hi)))
  · rw [List.getElem?_eq_none (by simpa using hi), List.getElem?_eq_none hi]; rfl
theorem getOk_enc {l : List RecD} {next : Int} (h : okPut l next = true) : getOk (encB l next) = true ∧ getL (encB l next) = l ∧ getX (encB l next) = next := by
  have h1 : getOk (encB l next) = true := by unfold getOk; rw [parse_enc h, next_enc h, h]; simp
  exact ⟨h1, by rw [getL_yes h1, parse_enc h], by rw [getX_yes h1, next_enc h]⟩
/-- Another block is read as something else. -/
theorem getOk_other {l : List RecD} {next : Int} {b : List UInt8} (hb : b ≠ encB l next) (h : getOk b = true) : ¬ (getL b = l ∧ getX b = next) := fun ⟨h1, h2⟩ => by
  rw [getL_yes h] at h1
  rw [getX_yes h] at h2
  unfold getOk at h
  simp only [Bool.and_eq_true, decide_eq_true_eq] at h
  rw [h1, h2] at h
  exact hb h.2.symm
def zeros (n : Nat) : List UInt8 := List.replicate n 0
theorem enc_nil : encB [] 0 = zeros 128 := by decide
theorem ok_nil : okPut [] 0 = true := by decide
theorem made_u8 (n : Nat) : (madeCells (Value.int .u8 0).cells (n * 1)).toList = bv (zeros n) := by
  simp [madeCells, Value.cells, bv, zeros, u8, Nat.mod_one, List.map_const']
theorem rd_nil3 (w : World) : Rd w (.slice none 0 0) 0 3 [] := ⟨none, 0, rfl, Nat.le_refl _, by omega, rfl, fun h => by omega⟩
set_option maxRecDepth 20000 in
theorem awake_any {W w : World} {L : List Asrt} (hS : Sat W w L) :
    Calls Try.prog 24 #[] w fun e w' => e = .returned (.bool true) ∧ Sat W w' L := by
  have HG := Lib.hid (getOk_enc ok_nil)
  rw [enc_nil] at HG
  have HOK := Lib.hid ok_nil
  have HPB := Lib.hid (putB_yes ok_nil)
  rw [enc_nil] at HPB
  go_enter Try.func24, Try.ntmps24
  go_wp2_with (first
    | (go_at_call 57; refine (rput_any hS [] none 0 (fun w _ => rd_nil3 w) (by decide) 0).mono ?_; rintro e w1 ⟨v1, rfl, hS1⟩; rw [HOK.out]; rw [HPB.out] at hS1; clear hS; have hS := hS1; clear hS1)
    | (refine toList (by rfl) ?_; refine mk hS _ _ _ (by rfl) 128 128 _ _ (by rfl) (by rfl) (elOf (by rfl)) (by omega) (by omega) (by omega) ?_; intro pb w1 hS1; clear hS; have hS := hS1; clear hS1; rw [made_u8] at hS)
    | (go_at_call 58; refine (rget_any hS (zeros 128) (some ⟨pb, 0, none⟩) 128 (fun w h => h.csRd0 (n := 128) Has.z (by decide) (by simp [bv, zeros])) (by decide)).mono ?_; rintro e w1 ⟨v2, rfl, hS1⟩; rw [HG.out.1, HG.out.2.1, HG.out.2.2] at *; clear hS; have hS := hS1; clear hS1; obtain ⟨ao2, c2, rfl, _⟩ := hS.tbShape (k := 0) rfl))
  refine regStart [] hS (by kernel_rfl) rfl ?_
  intro w1 hS1
  clear hS; have hS := hS1; clear hS1
  (refine regP 0 hS (fun _ h => h) rfl (by kernel_rfl) (by kernel_rfl) (by kernel_rfl) (fun _ _ _ _ h => h) (by rfl) (by rfl) ?_; apply Exists.intro; apply And.intro; (intro w; go_simp; try with_reducible rfl); (simp only [Act.put, List.setIfInBounds_toArray, List.set_cons_zero, List.set_cons_succ]))
  (refine regP 1 hS (fun _ h => h) rfl (by kernel_rfl) (by kernel_rfl) (by kernel_rfl) (fun _ _ _ _ h => h) (by rfl) (by rfl) ?_; apply Exists.intro; apply And.intro; (intro w; go_simp; try with_reducible rfl); (simp only [Act.put, List.setIfInBounds_toArray, List.set_cons_zero, List.set_cons_succ]))
  (first | (refine regP 2 hS (fun _ h => h) rfl (by kernel_rfl) (by kernel_rfl) (by kernel_rfl) (fun _ _ _ _ h => h) (by rfl) (by rfl) ?_; apply Exists.intro; apply And.intro; (intro w; go_simp; try with_reducible rfl); (simp only [Act.put, List.setIfInBounds_toArray, List.set_cons_zero, List.set_cons_succ])) | (refine regN 2 hS (fun _ h => h) rfl (by kernel_rfl) (by kernel_rfl) (by kernel_rfl) (fun _ _ _ h => h) (by rfl) (by rfl) ?_; (simp only [Act.put, List.setIfInBounds_toArray, List.set_cons_zero, List.set_cons_succ])))
  (refine regP 3 hS (fun _ h => h) rfl (by kernel_rfl) (by kernel_rfl) (by kernel_rfl) (fun _ _ _ _ h => h) (by rfl) (by rfl) ?_; apply Exists.intro; apply And.intro; (intro w; go_simp; try with_reducible rfl); (simp only [Act.put, List.setIfInBounds_toArray, List.set_cons_zero, List.set_cons_succ]))
  (refine regP 4 hS (fun _ h => h) rfl (by kernel_rfl) (by kernel_rfl) (by kernel_rfl) (fun _ _ _ _ h => h) (by rfl) (by rfl) ?_; apply Exists.intro; apply And.intro; (intro w; go_simp; try with_reducible rfl); (simp only [Act.put, List.setIfInBounds_toArray, List.set_cons_zero, List.set_cons_succ]))
  (first | (refine regP 5 hS (fun _ h => h) rfl (by kernel_rfl) (by kernel_rfl) (by kernel_rfl) (fun _ _ _ _ h => h) (by rfl) (by rfl) ?_; apply Exists.intro; apply And.intro; (intro w; go_simp; try with_reducible rfl); (simp only [Act.put, List.setIfInBounds_toArray, List.set_cons_zero, List.set_cons_succ])) | (refine regN 5 hS (fun _ h => h) rfl (by kernel_rfl) (by kernel_rfl) (by kernel_rfl) (fun _ _ _ h => h) (by rfl) (by rfl) ?_; (simp only [Act.put, List.setIfInBounds_toArray, List.set_cons_zero, List.set_cons_succ])))
  (first | (refine regP 6 hS (fun _ h => h) rfl (by kernel_rfl) (by kernel_rfl) (by kernel_rfl) (fun _ _ _ _ h => h) (by rfl) (by rfl) ?_; apply Exists.intro; apply And.intro; (intro w; go_simp; try with_reducible rfl); (simp only [Act.put, List.setIfInBounds_toArray, List.set_cons_zero, List.set_cons_succ])) | (refine regN 6 hS (fun _ h => h) rfl (by kernel_rfl) (by kernel_rfl) (by kernel_rfl) (fun _ _ _ h => h) (by rfl) (by rfl) ?_; (simp only [Act.put, List.setIfInBounds_toArray, List.set_cons_zero, List.set_cons_succ])))
  (first | (refine regP 7 hS (fun _ h => h) rfl (by kernel_rfl) (by kernel_rfl) (by kernel_rfl) (fun _ _ _ _ h => h) (by rfl) (by rfl) ?_; apply Exists.intro; apply And.intro; (intro w; go_simp; try with_reducible rfl); (simp only [Act.put, List.setIfInBounds_toArray, List.set_cons_zero, List.set_cons_succ])) | (refine regN 7 hS (fun _ h => h) rfl (by kernel_rfl) (by kernel_rfl) (by kernel_rfl) (fun _ _ _ h => h) (by rfl) (by rfl) ?_; (simp only [Act.put, List.setIfInBounds_toArray, List.set_cons_zero, List.set_cons_succ])))
  (refine regP 8 hS (fun _ h => h) rfl (by kernel_rfl) (by kernel_rfl) (by kernel_rfl) (fun _ _ _ _ h => h) (by rfl) (by rfl) ?_; apply Exists.intro; apply And.intro; (intro w; go_simp; try with_reducible rfl); (simp only [Act.put, List.setIfInBounds_toArray, List.set_cons_zero, List.set_cons_succ]))
  (refine regP 9 hS (fun _ h => h) rfl (by kernel_rfl) (by kernel_rfl) (by kernel_rfl) (fun _ _ _ _ h => h) (by rfl) (by rfl) ?_; apply Exists.intro; apply And.intro; (intro w; go_simp; try with_reducible rfl); (simp only [Act.put, List.setIfInBounds_toArray, List.set_cons_zero, List.set_cons_succ]))
  (first | (refine regP 10 hS (fun _ h => h) rfl (by kernel_rfl) (by kernel_rfl) (by kernel_rfl) (fun _ _ _ _ h => h) (by rfl) (by rfl) ?_; apply Exists.intro; apply And.intro; (intro w; go_simp; try with_reducible rfl); (simp only [Act.put, List.setIfInBounds_toArray, List.set_cons_zero, List.set_cons_succ])) | (refine regN 10 hS (fun _ h => h) rfl (by kernel_rfl) (by kernel_rfl) (by kernel_rfl) (fun _ _ _ h => h) (by rfl) (by rfl) ?_; (simp only [Act.put, List.setIfInBounds_toArray, List.set_cons_zero, List.set_cons_succ])))
  (first | (refine regP 11 hS (fun _ h => h) rfl (by kernel_rfl) (by kernel_rfl) (by kernel_rfl) (fun _ _ _ _ h => h) (by rfl) (by rfl) ?_; apply Exists.intro; apply And.intro; (intro w; go_simp; try with_reducible rfl); (simp only [Act.put, List.setIfInBounds_toArray, List.set_cons_zero, List.set_cons_succ])) | (refine regN 11 hS (fun _ h => h) rfl (by kernel_rfl) (by kernel_rfl) (by kernel_rfl) (fun _ _ _ h => h) (by rfl) (by rfl) ?_; (simp only [Act.put, List.setIfInBounds_toArray, List.set_cons_zero, List.set_cons_succ])))
  (refine regP 12 hS (fun _ h => h) rfl (by kernel_rfl) (by kernel_rfl) (by kernel_rfl) (fun _ _ _ _ h => h) (by rfl) (by rfl) ?_; apply Exists.intro; apply And.intro; (intro w; go_simp; try with_reducible rfl); (simp only [Act.put, List.setIfInBounds_toArray, List.set_cons_zero, List.set_cons_succ]))
  (refine regP 13 hS (fun _ h => h) rfl (by kernel_rfl) (by kernel_rfl) (by kernel_rfl) (fun _ _ _ _ h => h) (by rfl) (by rfl) ?_; apply Exists.intro; apply And.intro; (intro w; go_simp; try with_reducible rfl); (simp only [Act.put, List.setIfInBounds_toArray, List.set_cons_zero, List.set_cons_succ]))
  (first | (refine regP 14 hS (fun _ h => h) rfl (by kernel_rfl) (by kernel_rfl) (by kernel_rfl) (fun _ _ _ _ h => h) (by rfl) (by rfl) ?_; apply Exists.intro; apply And.intro; (intro w; go_simp; try with_reducible rfl); (simp only [Act.put, List.setIfInBounds_toArray, List.set_cons_zero, List.set_cons_succ])) | (refine regN 14 hS (fun _ h => h) rfl (by kernel_rfl) (by kernel_rfl) (by kernel_rfl) (fun _ _ _ h => h) (by rfl) (by rfl) ?_; (simp only [Act.put, List.setIfInBounds_toArray, List.set_cons_zero, List.set_cons_succ])))
  (first | (refine regR 15 hS (fun _ h => h) rfl (by kernel_rfl) (by kernel_rfl) (by kernel_rfl) (by kernel_rfl) (by kernel_rfl) (fun _ _ _ _ h => h) (by rfl) (by rfl) ?_; (first
          | refine ⟨_, yCv _ _ _ (by rfl) _ (by rfl) strBytes (fun u hu => by first | exact hu.slRd (Has.s (Has.s Has.z)) | exact hu.csRd0 (n := 128) Has.z (by decide) (by simp [bv, zeros])), ?_⟩); (simp only [Act.put, List.setIfInBounds_toArray, List.set_cons_zero, List.set_cons_succ])) | (refine regN 15 hS (fun _ h => h) rfl (by kernel_rfl) (by kernel_rfl) (by kernel_rfl) (fun _ _ _ h => h) (by rfl) (by rfl) ?_; (simp only [Act.put, List.setIfInBounds_toArray, List.set_cons_zero, List.set_cons_succ])))
  (first | (refine regA 16 rfl (by kernel_rfl) (by rfl) (by rfl) false (by kernel_rfl) (fun K hK => ?_); (first
          | (refine mk hS _ _ _ (by rfl) 128 128 _ _ (by rfl) (by rfl) (elOf (by rfl)) (by omega) (by omega) (by omega) ?_; intro pb2 w1 hS1; clear hS; have hS := hS1; clear hS1; rw [made_u8] at hS)); refine hK _ _ _ hS (by first | (intro h; cases h; done) | exact fun _ _ h => h | exact fun _ _ h => h.drop | exact fun _ _ h => h.drop.drop | exact fun _ _ h => h.drop.pull1 | exact fun _ _ h => h.take2 | exact fun _ _ h => h.one Has.z | exact fun _ _ h => h.one (Has.s Has.z) | exact fun _ _ h => h.one (Has.s (Has.s Has.z))) ?_; clear hK K; (simp only [Act.put, List.setIfInBounds_toArray, List.set_cons_zero, List.set_cons_succ])) | (refine regN 16 hS (fun _ h => h) rfl (by kernel_rfl) (by kernel_rfl) (by kernel_rfl) (fun _ _ _ h => h) (by rfl) (by rfl) ?_; (simp only [Act.put, List.setIfInBounds_toArray, List.set_cons_zero, List.set_cons_succ])))
  (first | (refine regR 17 hS (fun _ h => h) rfl (by kernel_rfl) (by kernel_rfl) (by kernel_rfl) (by kernel_rfl) (by kernel_rfl) (fun _ _ _ _ h => h) (by rfl) (by rfl) ?_; (first
          | refine ⟨_, yCv _ _ _ (by rfl) _ (by rfl) strBytes (fun u hu => by first | exact hu.slRd (Has.s (Has.s Has.z)) | exact hu.csRd0 (n := 128) Has.z (by decide) (by simp [bv, zeros])), ?_⟩); (simp only [Act.put, List.setIfInBounds_toArray, List.set_cons_zero, List.set_cons_succ])) | (refine regN 17 hS (fun _ h => h) rfl (by kernel_rfl) (by kernel_rfl) (by kernel_rfl) (fun _ _ _ h => h) (by rfl) (by rfl) ?_; (simp only [Act.put, List.setIfInBounds_toArray, List.set_cons_zero, List.set_cons_succ])))
  (first | (refine regP 18 hS (fun _ h => h) rfl (by kernel_rfl) (by kernel_rfl) (by kernel_rfl) (fun _ _ _ _ h => h) (by rfl) (by rfl) ?_; apply Exists.intro; apply And.intro; (intro w; go_simp; try with_reducible rfl); (simp only [Act.put, List.setIfInBounds_toArray, List.set_cons_zero, List.set_cons_succ])) | (refine regN 18 hS (fun _ h => h) rfl (by kernel_rfl) (by kernel_rfl) (by kernel_rfl) (fun _ _ _ h => h) (by rfl) (by rfl) ?_; (simp only [Act.put, List.setIfInBounds_toArray, List.set_cons_zero, List.set_cons_succ])))
  (refine regP 19 hS (fun _ h => h) rfl (by kernel_rfl) (by kernel_rfl) (by kernel_rfl) (fun _ _ _ _ h => h) (by rfl) (by rfl) ?_; apply Exists.intro; apply And.intro; (intro w; go_simp; try with_reducible rfl); (simp only [Act.put, List.setIfInBounds_toArray, List.set_cons_zero, List.set_cons_succ]))
  (refine regP 20 hS (fun _ h => h) rfl (by kernel_rfl) (by kernel_rfl) (by kernel_rfl) (fun _ _ _ _ h => h) (by rfl) (by rfl) ?_; apply Exists.intro; apply And.intro; (intro w; go_simp; try with_reducible rfl); (simp only [Act.put, List.setIfInBounds_toArray, List.set_cons_zero, List.set_cons_succ]))
  (refine regP 21 hS (fun _ h => h) rfl (by kernel_rfl) (by kernel_rfl) (by kernel_rfl) (fun _ _ _ _ h => h) (by rfl) (by rfl) ?_; apply Exists.intro; apply And.intro; (intro w; go_simp; try with_reducible rfl); (simp only [Act.put, List.setIfInBounds_toArray, List.set_cons_zero, List.set_cons_succ]))
  (refine regP 22 hS (fun _ h => h) rfl (by kernel_rfl) (by kernel_rfl) (by kernel_rfl) (fun _ _ _ _ h => h) (by rfl) (by rfl) ?_; apply Exists.intro; apply And.intro; (intro w; go_simp; try with_reducible rfl); (simp only [Act.put, List.setIfInBounds_toArray, List.set_cons_zero, List.set_cons_succ]))
  refine regDone (by kernel_rfl) ?_
  go_wp2
  go_ret
  exact ⟨rfl, hS.drop.drop.drop.drop⟩
end Go.Proofs.Ytapodjhkpahdnaa
