/-
  Trees: what was renamed is found, and renamed back (plain).
-/
import Derived.Test.YtiieicdhkcikpaaMPth
namespace Go.Proofs.Ytiieicdhkcikpaa
open Go.Sep
set_option linter.unusedSimpArgs false
set_option linter.unusedVariables false
namespace TrD
theorem dirs_ext {A B : List (List EntD)} (ha : A.length = 48) (hb : B.length = 48) (h : ∀ k, k < 48 → A[k]?.getD [] = B[k]?.getD []) : A = B := by
  apply List.ext_getElem (by rw [ha, hb])
  intro k h1 h2
  have := h k (by omega)
  rw [List.getElem?_eq_getElem h1, List.getElem?_eq_getElem h2] at this
  exact this
theorem Tre.moves {T : TrD} (hR : T.Tre) (h : T.Ok) {l m : List (List UInt8)} {x : Nat} (hl : T.walk 0 l = ((x : Int), 0)) (hm : (T.walk 0 m).2 ≠ 0) (h0 : T.rnE l m = 0) :
    T.rnX l m = x ∧ T.rnY l m = 0 ∧ (T.rn l m).walk 0 m = ((x : Int), 0) ∧ ((T.rn l m).walk 0 l).2 ≠ 0 ∧ (T.rn l m).dir x = T.dir x ∧ (T.rn l m).rnE m l = 0 ∧ (T.rn l m).rnX m l = x ∧ ((T.rn l m).rn m l).kinds = T.kinds ∧ ((T.rn l m).rn m l).dirs = T.dirs := by
  have hok1 := h.rn l m
  obtain ⟨hlne, hmne, hw, hp, x', hx, hx48, hc⟩ := rnE_zero h0 h
  rw [hl] at hx
  obtain rfl : x = x' := by simp only at hx; omega
  obtain ⟨p1, p2, p3, p4, p5, p6⟩ := h.parent hlne hw
  obtain ⟨_, hn, hd, hkd, hwd⟩ := h.pE_zero hp
  have hpd : T.Pth 0 m.dropLast (T.pD m) := hwd
  have hpf : T.Pth 0 l.dropLast (T.pD l) := by
    have := pth_of h p3
    exact this
  have hpx : T.Pth 0 l x := hl
  have hf : findE (T.dir (T.pD m)) (lastN m) = none := by
    cases hf : findE (T.dir (T.pD m)) (lastN m) with
    | none => rfl
    | some z =>
      exfalso
      obtain ⟨_, z1, z2⟩ := h.find_ino hd hf
      obtain ⟨y, rfl⟩ := Int.eq_ofNat_of_zero_le (show 0 ≤ z by omega)
      have : T.Pth 0 (m.dropLast ++ [lastN m]) y := (h.pth_snoc (by omega)).2 ⟨_, hpd, hkd, hf⟩
      rw [← split_last hmne] at this
      have : T.walk 0 m = ((y : Int), 0) := this
      rw [this] at hm; exact hm rfl
  have hbl := hR.below h h0 hpx
  obtain ⟨r1, r2, r3⟩ := rn_none h0 (by rw [hl]) hf
  rw [hl] at p5
  dsimp only at p5
  have hsp := split_last hlne
  have hspm := split_last hmne
  obtain ⟨f, hff⟩ : ∃ f, T.pD l = f := ⟨_, rfl⟩
  obtain ⟨o, hoo⟩ : ∃ o, lastN l = o := ⟨_, rfl⟩
  obtain ⟨d, hdd⟩ : ∃ d, T.pD m = d := ⟨_, rfl⟩
  obtain ⟨n, hnn⟩ : ∃ n, lastN m = n := ⟨_, rfl⟩
  rw [hff] at p2 p4 p5 hpf r3
  rw [hoo] at p5 p6 r3 hsp
  rw [hdd] at hd hkd hpd hf r3 hbl
  rw [hnn] at hn hf r3 hspm
  have hno := hasE_find.2 hf
  have hon : f = d → n ≠ o := fun e e2 => by
    subst e; subst e2
    rw [hf] at p5; cases p5
  obtain ⟨hRM, hkeep, hto⟩ := hR.mov h p2 p4 p5 hd hkd hno hbl
  have hok := h.del p2 o
  have hno' : hasE ((T.del f o).dir d) n = false := by
    rw [dir_del]
    split
    · rename_i e; subst e; exact hasE_rem_no _ hno
    · exact hno
  obtain ⟨_, x1, x2⟩ := h.find_ino p2 p5
  have hdr : ∀ j, ((T.del f o).put d x n).dir j = if j = d then insE ((T.del f o).dir d) ⟨n, x⟩ else (T.del f o).dir j := fun j => put_dir' hok hd x n j
  obtain ⟨TM, hTM⟩ : ∃ TM, (T.del f o).put d x n = TM := ⟨_, rfl⟩
  rw [hTM] at hdr hRM hkeep hto r3
  have hkk : TM.kind = T.kind := by rw [← hTM]; rfl
  have hks : TM.kinds = T.kinds := by rw [← hTM]; rfl
  obtain ⟨T1, hT1⟩ : ∃ T1, T.rn l m = T1 := ⟨_, rfl⟩
  rw [hT1] at hok1 r3 ⊢
  have hk1 : T1.kind = T.kind := by rw [r3, ← hkk]; rfl
  have hd1 : T1.dir = TM.dir := by rw [r3]; rfl
  have hw1 : ∀ l i, T1.walk i l = TM.walk i l := fun l i => walk_congr (by rw [hk1, hkk]) hd1 l i
  have nof : ∀ {q : List (List UInt8)} {k : Nat}, T.Pth 0 q k → T.kind k = 2 → (∀ s, T.kind x = 2 → ¬ T.Pth x s k) → TM.Pth 0 q k := fun {q k} hq hk2 hb => hkeep hq fun a b e hpa => by
    rw [e] at hq
    obtain ⟨g1, g2⟩ := h.step hq (by omega) hpa p5 hk2
    exact hb b g1 g2
  have hpf' : TM.Pth 0 l.dropLast f := nof hpf p4 fun s hk2 hs => by
    have g1 : T.Pth 0 (l ++ s) f := pth_append.2 ⟨x, hpx, hs⟩
    have g2 := congrArg List.length (hR.uniq' h hpf g1 p4)
    have g3 : l.length = l.dropLast.length + 1 := by
      rw [List.length_dropLast]
      have := List.length_pos_iff.2 hlne
      omega
    rw [List.length_append] at g2; omega
  have hpd' : TM.Pth 0 m.dropLast d := nof hpd hkd fun s hk2 hs => hbl hk2 s hs
  have hfo' : findE (TM.dir f) o = none := by
    rw [hdr]
    split
    · rename_i e
      subst e
      rw [findE_ins hno', if_neg (hon rfl), dir_del, if_pos rfl]
      exact hasE_find.1 (hasE_rem_self _ _)
    · rw [dir_del, if_pos rfl]
      exact hasE_find.1 (hasE_rem_self _ _)
  have hxf : x ≠ f := fun e => by
    subst e
    have g2 := congrArg List.length (hR.uniq' h hpf hpx p4)
    have g3 : l.length = l.dropLast.length + 1 := by
      rw [List.length_dropLast]
      have := List.length_pos_iff.2 hlne
      omega
    omega
  have hxd : x ≠ d := fun e => by
    subst e
    exact hbl hkd [] (pth_nil.2 rfl)
  have w1 : T1.walk 0 m = ((x : Int), 0) := by
    rw [hw1]
    have := hto hpd
    rw [← hspm] at this
    exact this
  have hpE : T1.pE l = 0 := by
    unfold pE
    rw [if_neg hlne, hoo, if_pos p6, hw1, (show TM.walk 0 l.dropLast = ((f : Int), 0) from hpf'), if_pos rfl]
    simp only [Int.toNat_natCast]
    rw [hk1, if_pos p4]
  have hpD : T1.pD l = f := by
    unfold pD
    rw [hw1, (show TM.walk 0 l.dropLast = ((f : Int), 0) from hpf')]
    simp only [Int.toNat_natCast]
  have hpDm : T1.pD m = d := by
    unfold pD
    rw [hw1, (show TM.walk 0 m.dropLast = ((d : Int), 0) from hpd')]
    simp only [Int.toNat_natCast]
  have hnone : findE (T1.dir (T1.pD l)) (lastN l) = none := by rw [hpD, hoo, hd1]; exact hfo'
  have hE1 : T1.rnE m l = 0 := by
    unfold rnE
    rw [if_neg (fun e => e.elim hmne hlne), hoo, if_neg (by rw [p6]; decide), w1, if_neg (by simp), if_neg, hpE, if_neg (by simp), ← hoo, hnone]
    · dsimp only
      rw [if_neg]
      rintro ⟨e1, e2⟩
      rw [hpD, hpDm] at e1
      rw [hpD, hd1, hdr, if_neg e1, dir_del, if_pos rfl] at e2
      have := remE_lt p5
      have := h.len _ (h.dir_mem p2)
      omega
    · rintro ⟨_, hu, _⟩
      unfold under at hu
      simp only [Bool.and_eq_true, decide_eq_true_eq] at hu
      have e : l = m ++ l.drop m.length := by conv => lhs; rw [← List.take_append_drop m.length l, hu.2]
      rw [e] at hpx
      obtain ⟨k, g1, _⟩ := pth_append.1 hpx
      have g1 : T.walk 0 m = ((k : Int), 0) := g1
      rw [g1] at hm; exact hm rfl
  obtain ⟨s1, s2, s3⟩ := rn_none hE1 (by rw [w1]) hnone
  refine ⟨r1, r2, w1, ?_, ?_, hE1, s1, ?_, ?_⟩
  · intro e
    have hokM : TM.Ok := by
      have := hok1
      rw [r3] at this
      exact ⟨this.kl, this.dl, this.srt, this.ent, this.len, this.k0, this.kk, by rw [← hTM]; exact h.lst⟩
    rw [hw1] at e
    have g1 := pth_of hokM e
    rw [hsp, hokM.pth_snoc (by omega)] at g1
    obtain ⟨d', g2, _, g3⟩ := g1
    have g2 : TM.walk 0 l.dropLast = ((d' : Int), 0) := g2
    rw [(show TM.walk 0 l.dropLast = ((f : Int), 0) from hpf')] at g2
    simp only [Prod.mk.injEq, and_true] at g2
    obtain rfl : f = d' := by omega
    rw [hfo'] at g3; cases g3
  · rw [hd1, hdr, if_neg hxd, dir_del, if_neg hxf]
  · rw [s3]
    show T1.kinds = _
    rw [r3]; exact hks
  · rw [s3, hpD, hpDm, hnn, hoo]
    have hokD : (T1.del d n).Ok := hok1.del hd n
    refine dirs_ext (by show (((T1.del d n).put f x o).dirs).length = 48; unfold TrD.put; dsimp only; rw [List.length_set]; exact hokD.dl) h.dl fun k hk => ?_
    show ((T1.del d n).put f x o).dir k = T.dir k
    rw [put_dir' hokD p2, dir_del, dir_del, hd1]
    have hmem := findE_of p5
    have hsrt := h.srt _ (h.dir_mem p2)
    have hsrd := h.srt _ (h.dir_mem hd)
    by_cases e : f = d
    · subst e
      rw [if_pos rfl, hdr, if_pos rfl, dir_del, if_pos rfl]
      have g1 := rem_ins (hsrt.rem o) (e := ⟨n, (x : Int)⟩) (hasE_rem_no _ hno)
      have g2 := ins_rem hsrt hmem
      dsimp only at g1 g2
      rw [g1, g2]
      split
      · rename_i e2; subst e2; rfl
      · rename_i e2
        rw [hdr, if_neg e2, dir_del, if_neg e2]
    · have e' : ¬ d = f := fun e2 => e e2.symm
      have t1 : TM.dir d = insE (T.dir d) ⟨n, (x : Int)⟩ := by rw [hdr, if_pos rfl, dir_del, if_neg e']
      have t2 : TM.dir f = remE (T.dir f) o := by rw [hdr, if_neg e, dir_del, if_pos rfl]
      have g1 := rem_ins hsrd (e := ⟨n, (x : Int)⟩) hno
      have g2 := ins_rem hsrt hmem
      dsimp only at g1 g2
      rw [if_neg e, t1, t2, g1, g2]
      split
      · rename_i e2; subst e2; rfl
      · rename_i e2
        split
        · rename_i e3; subst e3; rfl
        · rename_i e3
          rw [hdr, if_neg e3, dir_del, if_neg e2]
end TrD
end Go.Proofs.Ytiieicdhkcikpaa
