/-
  A number more in a rising list (pedigreelaw00.in).
-/
import Derived.Test.YtapodjhkpahdnaaGrDo
namespace Go.Sep
open Go
variable {P : Program} {w : World} {a : Act} {o : Oper}
/-- s[lo:], nothing behind it. -/
theorem rSlcE {T : TypeId} {x y : Operand} (ho : o.op = .slice T x (some y) none none) {b off n lo e size bytes : Nat} {k : IntKind} {z : Option Value} (hx : a.eval x = .slice (some ⟨b, off, none⟩) n lo) {v : Int} (hy : a.eval y = .int k v) (hv : v = (lo : Nat)) (hlo : lo ≤ n) (hn : n ≤ lo)
    (hT : elemB P T = some (e, size, bytes, z)) (w : World) : (execOp a.eval o).run P w = .ok (.value (.slice (some ⟨b, off, none⟩) 0 0)) w := by
  subst hv
  obtain rfl : n = lo := by omega
  obtain ⟨hu, i, hi, rfl, rfl, _⟩ := elemB_parts hT
  have he : P.elem T = e := by simp [Program.elem, hu]
  have hr := run_slice_l (P := P) (w := w) T (some ⟨b, off, none⟩) n n (by rw [he]; exact hu) k n (by omega) (by omega)
  rw [he] at hr
  refine rd_of (s := Instr.sliceAt T (.slice (some ⟨b, off, none⟩) n n) (some (.int k n)) none none) (by simp [execOp, ho, hx, hy]) (v := .slice (some ⟨b, off, none⟩) 0 0) ?_
  rw [run_sliceAt_slice (h := by rw [he]; exact hu), hr]
  simp [sizeOf, typeInfo, hi, sliced]
theorem rd_zero (ao : Option Addr) (c sz : Nat) (hc : c ≤ 9223372036854775807) (w : World) : Rd w (.slice ao 0 c) 0 sz [] := ⟨ao, c, rfl, Nat.zero_le _, hc, by simp, fun h => by omega⟩
theorem Rd.takeI {ao : Option Addr} {n c : Nat} {l : List Nat} (h : Rd w (.slice ao n c) n 1 (iv l)) (i : Nat) (hi : i ≤ n) : Rd w (.slice ao i c) (l.take i).length 1 (iv (l.take i)) := by
  obtain ⟨_, _, he, h1, h2, h3, h5⟩ := h
  simp only [Value.slice.injEq, true_and] at he
  obtain ⟨rfl, rfl⟩ := he
  rw [iv_length] at h3
  have hl : (l.take i).length = i := by rw [List.length_take]; omega
  rw [hl]
  refine ⟨_, _, rfl, by omega, h2, by rw [iv_length, hl]; omega, fun hi0 => ?_⟩
  obtain ⟨b'', off'', h6, h7⟩ := h5 (by omega)
  refine ⟨b'', off'', h6, fun j u hu => h7 j u ?_⟩
  rw [← iv_take, List.getElem?_take] at hu
  split at hu
  · exact hu
  · cases hu
theorem Rd.dropI {b off n c : Nat} {l : List Nat} (h : Rd w (.slice (some ⟨b, off, none⟩) n c) n 1 (iv l)) (i : Nat) (hi : i < n) : Rd w (.slice (some ⟨b, off + i * 1, none⟩) (n - i) (c - i)) (l.drop i).length 1 (iv (l.drop i)) := by
  obtain ⟨_, _, he, h1, h2, h3, h5⟩ := h
  simp only [Value.slice.injEq, true_and] at he
  obtain ⟨rfl, rfl⟩ := he
  rw [iv_length] at h3
  have hl : (l.drop i).length = n - i := by rw [List.length_drop]; omega
  rw [hl, Nat.mul_one]
  refine ⟨_, _, rfl, by omega, by omega, by rw [iv_length, hl]; omega, fun hi0 => ?_⟩
  obtain ⟨b'', off'', h6, h7⟩ := h5 (by omega)
  simp only [Option.some.injEq, Addr.mk.injEq, and_true] at h6
  obtain ⟨rfl, rfl⟩ := h6
  refine ⟨_, _, rfl, fun j u hu => ?_⟩
  rw [Nat.add_assoc]
  refine h7 (i + j) u ?_
  rw [← iv_drop, List.getElem?_drop] at hu
  exact hu
end Go.Sep
namespace Go.Proofs.Ytapodjhkpahdnaa
open Go.RowKit Go.Sep
set_option linter.unusedSimpArgs false
set_option linter.unusedVariables false
attribute [local irreducible] Go.Oper.wp Go.wpList Go.Calls Go.Code.wp Go.Sep.Reg
theorem ins_of {l : List Nat} {x k : Nat} (hs : l.Pairwise (· < ·)) (hx : x ∉ l) (hk : k ≤ l.length) (h1 : ∀ j y, k ≤ j → l[j]? = some y → x < y) (h2 : ∀ j y, j + 1 = k → l[j]? = some y → ¬ x < y) : ins l x = l.take k ++ [x] ++ l.drop k := by
  have hc : l.countP (· < x) = k := by
    conv => lhs; rw [← List.take_append_drop k l]
    rw [List.countP_append]
    have e1 : (l.drop k).countP (fun z => decide (z < x)) = 0 := List.countP_eq_zero.2 fun z hz => by
      obtain ⟨j, hj⟩ := List.mem_iff_getElem?.1 hz
      rw [List.getElem?_drop] at hj
      have := h1 _ z (by omega) hj
      simp; omega
    have e2 : (l.take k).countP (fun z => decide (z < x)) = (l.take k).length := List.countP_eq_length.2 fun z hz => by
      obtain ⟨j, hj⟩ := List.mem_iff_getElem?.1 hz
      rw [List.getElem?_take] at hj
      split at hj
      · rename_i hjk
        obtain ⟨m, rfl⟩ : ∃ m, k = m + 1 := ⟨k - 1, by omega⟩
        obtain ⟨y, hy⟩ : ∃ y, l[m]? = some y := ⟨_, List.getElem?_eq_getElem (by omega)⟩
        have h3 := h2 m y rfl hy
        have hne : z ≠ x := fun e => hx (e ▸ List.mem_of_getElem? hj)
        have hzy : z ≤ y := by
          by_cases hjm : j = m
          · subst hjm; rw [hy] at hj; cases hj; exact Nat.le_refl _
          · obtain ⟨h4, h5⟩ := List.getElem?_eq_some_iff.1 hj
            obtain ⟨h6, h7⟩ := List.getElem?_eq_some_iff.1 hy
            have := List.pairwise_iff_getElem.1 hs j m h4 h6 (by omega)
            rw [h5, h7] at this; omega
        simp; omega
      · cases hj
    rw [e1, e2, List.length_take]; omega
  unfold ins insAt
  rw [hc]; simp
set_option maxRecDepth 20000 in
set_option maxHeartbeats 1000000 in
theorem in_any {W w : World} {L : List Asrt} {v : Value} {l : List Nat} (hS : Sat W w L) (hr : ∀ w, Sat W w L → Rd w v l.length 1 (iv l)) (hl : l.length ≤ 4096) (hv : l = [] → v = .slice none 0 0) (hs : l.Pairwise (· < ·)) (x : Nat) (hx : x ∉ l) :
    Calls Try.prog 43 #[v, .int .i64 (x : Int)] w fun e w' => ∃ v', e = .returned v' ∧ Sat W w' (Ir v' (ins l x) :: L) := by
  by_cases h0 : l = []
  · subst h0
    obtain rfl := hv rfl
    have HI := Lib.hid (show ins [] x = [] ++ [x] ++ [] from rfl)
    have HN : Hid (∀ w, Rd w (.slice none 0 0) ([] : List Nat).length 1 (iv [])) := Lib.hid fun w => rd_zero none 0 1 (by decide) w
    have H0 := Lib.hid hS
    clear hr hl hv hs hx
    go_enter Try.func43, Try.ntmps43
    go_wp2
    go_loopw [5] (fun v5 wz => v5 = .int .i64 0 ∧ Sat W wz L) (fun _ _ => 0)
    case atStart => exact ⟨rfl, H0.out⟩
    case round =>
      clear hS H0
      obtain ⟨rfl, hS⟩ := hrel
      replace hS := hS.irNil
      go_wp2_with (first
        | (refine toList (by rfl) ?_; refine bsF hS _ _ _ (by rfl) (elOf (by rfl)) [.int .i64 x] (by rfl) (by rfl) (by decide) (by decide) (by simp [Value.cells]) ?_; intro b1 w1 hS1; clear hS; have hS := hS1; clear hS1; rw [sca1 rfl] at hS)
        | (refine toList (by rfl) ?_; refine apI (m := [x]) hS _ _ _ _ (by rfl) (by rfl) (by rfl) (elOf (by rfl)) (by rfl) (by rfl) (by rfl) (inOf (by rfl)) (Has.s Has.z) (by exact hS.csRd0 (n := 1) (sz := 1) Has.z (by decide) rfl) (by simp) ?_; intro v1 w1 hS1; clear hS; have hS := hS1; clear hS1; dsimp only [List.set_cons_zero, List.set_cons_succ] at hS)
        | (refine toList (by rfl) ?_; refine apI (m := []) hS _ _ _ _ (by rfl) (by rfl) (by rfl) (elOf (by rfl)) (by rfl) (by rfl) (by rfl) (inOf (by rfl)) (Has.s Has.z) (by exact HN.out _) (by simp) ?_; intro v1 w1 hS1; clear hS; have hS := hS1; clear hS1; dsimp only [List.set_cons_zero, List.set_cons_succ] at hS)
        | (refine toList (by rfl) ?_; refine apI (m := []) hS _ _ _ _ (by rfl) (by rfl) (by rfl) (elOf (by rfl)) (by rfl) (by rfl) (by rfl) (inOf (by rfl)) Has.z (by exact HN.out _) (by simp) ?_; intro v1 w1 hS1; clear hS; have hS := hS1; clear hS1; dsimp only [List.set_cons_zero, List.nil_append] at hS))
      go_ret
      refine ⟨_, rfl, ?_⟩
      rw [HI.out]
      exact hS.drop
  · have hpos : 0 < l.length := List.length_pos_iff.2 h0
    have hlen := hl
    obtain ⟨ao, c, rfl, hc1, hc2, hc3, h5⟩ := hr w hS
    obtain ⟨b, off, rfl, _⟩ := h5 hpos
    have HR := Lib.hid hr
    have HS := Lib.hid hs
    have HX := Lib.hid hx
    have H0 := Lib.hid hS
    clear hr hv hs hx h5 h0 hc3 hl
    have hli : (l.length : Int) ≤ 4096 := by omega
    go_enter Try.func43, Try.ntmps43
    go_wp2
    go_loopw [5] (fun v5 wz => ∃ (k : Nat) (z : Int), v5 = .int .i64 z ∧ z = k ∧ k ≤ l.length ∧ (∀ j y, k ≤ j → l[j]? = some y → x < y) ∧ Sat W wz L) (fun v5 _ => (intOf v5).toNat)
    case atStart => exact ⟨l.length, _, rfl, rfl, by omega, (fun j y hj h => by rw [List.getElem?_eq_none (by omega)] at h; cases h), H0.out⟩
    case round =>
      clear hS H0
      obtain ⟨k, z, rfl, hz, hk, hall, hS⟩ := hrel
      have HALL := Lib.hid hall
      clear hall
      have HT : Hid (∀ w, Sat W w L → Rd w (.slice (some ⟨b, off, none⟩) k c) (l.take k).length 1 (iv (l.take k))) := Lib.hid fun w h => (HR.out w h).takeI k hk
      have hkc : (k : Int) ≤ (c : Int) := by omega
      by_cases hend : k = 0 ∨ ∃ j y, j + 1 = k ∧ l[j]? = some y ∧ ¬ x < y
      · have HI := Lib.hid (show ins l x = l.take k ++ [x] ++ l.drop k from ins_of HS.out HX.out hk HALL.out (fun j y hj hy => by
          rcases hend with rfl | ⟨j', y', h1, h2, h3⟩
          · omega
          · obtain rfl : j = j' := by omega
            rw [hy] at h2; cases h2; exact h3))
        have hkl : k = l.length ∨ k < l.length := by omega
        subst hz
        rcases hkl with hkl | hkl
        · by_cases hcl : c = k
          · have HD : Hid (∀ w, Sat W w L → Rd w (.slice (some ⟨b, off, none⟩) 0 0) (l.drop k).length 1 (iv (l.drop k))) := Lib.hid fun w _ => by rw [List.drop_eq_nil_of_le (by omega)]; exact rd_zero _ 0 1 (by decide) w
            subst hcl
            rcases hend with rfl | ⟨j, y, rfl, hy, hxy⟩
            · omega
            · have HY := Lib.hid (iv_at hy)
              have n1 : ¬ (x : Int) < (y : Int) := by omega
              have n2 : ((j + 1 : Nat) : Int) - 1 = (j : Int) := by omega
              have n3 : (j : Int) < (l.length : Int) := by omega
              clear hy hxy hkl
              replace hS := hS.irNil
              go_wp2_with (first
                | (refine toList (by rfl) ?_; refine apI (m := l.take (j + 1)) hS _ _ _ _ (by rfl) (by rfl) (by rfl) (elOf (by rfl)) (by rfl) (by rfl) (by rfl) (inOf (by rfl)) Has.z (by first | exact HT.out _ hS.drop | exact HT.out _ hS.drop.drop) (by first | (simp; omega) | simp) ?_; intro v1 w1 hS1; clear hS; have hS := hS1; clear hS1; dsimp only [List.set_cons_zero, List.nil_append] at hS)
                | (refine toList (by rfl) ?_; refine bsF hS _ _ _ (by rfl) (elOf (by rfl)) [.int .i64 x] (by rfl) (by rfl) (by decide) (by decide) (by simp [Value.cells]) ?_; intro b1 w1 hS1; clear hS; have hS := hS1; clear hS1; rw [sca1 rfl] at hS)
                | (refine toList (by rfl) ?_; refine apI (m := [x]) hS _ _ _ _ (by rfl) (by rfl) (by rfl) (elOf (by rfl)) (by rfl) (by rfl) (by rfl) (inOf (by rfl)) (Has.s Has.z) (by exact hS.csRd0 (n := 1) (sz := 1) Has.z (by decide) rfl) (by first | (simp; omega) | simp) ?_; intro v1 w1 hS1; clear hS; have hS := hS1; clear hS1; dsimp only [List.set_cons_zero, List.set_cons_succ] at hS)
                | (refine toList (by rfl) ?_; refine apI (m := l.drop (j + 1)) hS _ _ _ _ (by rfl) (by rfl) (by rfl) (elOf (by rfl)) (by rfl) (by rfl) (by rfl) (inOf (by rfl)) (Has.s Has.z) (by exact HD.out _ hS.drop.drop) (by first | (simp; omega) | simp) ?_; intro v1 w1 hS1; clear hS; have hS := hS1; clear hS1; dsimp only [List.set_cons_zero, List.set_cons_succ] at hS)
                | (refine toList (by rfl) ?_; refine wp_of_reads (rSlcE (by rfl) (by rfl) (by rfl) (by rfl) (by omega) (by omega) (elOf (by rfl)) _) ?_)
                            | (refine toList (by rfl) ?_; refine wp_of_reads (rLdRd1 (HR.out _ hS.drop) _ _ (by rfl) _ (by rfl) (agOf (by rfl)) j (by omega) HY.out (by omega)) ?_))
              go_ret
              refine ⟨_, rfl, ?_⟩
              rw [HI.out]
              exact hS.drop
          · have HD : Hid (∀ w, Sat W w L → Rd w (.slice (some ⟨b, off + k * 1, none⟩) (l.length - k) (c - k)) (l.drop k).length 1 (iv (l.drop k))) := Lib.hid fun w _ => by
              rw [List.drop_eq_nil_of_le (by omega), show l.length - k = 0 by omega]; exact rd_zero _ _ 1 (by omega) w
            rcases hend with rfl | ⟨j, y, rfl, hy, hxy⟩
            · omega
            · have HY := Lib.hid (iv_at hy)
              have n1 : ¬ (x : Int) < (y : Int) := by omega
              have n2 : ((j + 1 : Nat) : Int) - 1 = (j : Int) := by omega
              have n3 : (j : Int) < (l.length : Int) := by omega
              have n4 : j + 1 < c := by omega
              clear hy hxy hkl hcl
              replace hS := hS.irNil
              go_wp2_with (first
                | (refine toList (by rfl) ?_; refine apI (m := l.take (j + 1)) hS _ _ _ _ (by rfl) (by rfl) (by rfl) (elOf (by rfl)) (by rfl) (by rfl) (by rfl) (inOf (by rfl)) Has.z (by first | exact HT.out _ hS.drop | exact HT.out _ hS.drop.drop) (by first | (simp; omega) | simp) ?_; intro v1 w1 hS1; clear hS; have hS := hS1; clear hS1; dsimp only [List.set_cons_zero, List.nil_append] at hS)
                | (refine toList (by rfl) ?_; refine bsF hS _ _ _ (by rfl) (elOf (by rfl)) [.int .i64 x] (by rfl) (by rfl) (by decide) (by decide) (by simp [Value.cells]) ?_; intro b1 w1 hS1; clear hS; have hS := hS1; clear hS1; rw [sca1 rfl] at hS)
                | (refine toList (by rfl) ?_; refine apI (m := [x]) hS _ _ _ _ (by rfl) (by rfl) (by rfl) (elOf (by rfl)) (by rfl) (by rfl) (by rfl) (inOf (by rfl)) (Has.s Has.z) (by exact hS.csRd0 (n := 1) (sz := 1) Has.z (by decide) rfl) (by first | (simp; omega) | simp) ?_; intro v1 w1 hS1; clear hS; have hS := hS1; clear hS1; dsimp only [List.set_cons_zero, List.set_cons_succ] at hS)
                | (refine toList (by rfl) ?_; refine apI (m := l.drop (j + 1)) hS _ _ _ _ (by rfl) (by rfl) (by rfl) (elOf (by rfl)) (by rfl) (by rfl) (by rfl) (inOf (by rfl)) (Has.s Has.z) (by exact HD.out _ hS.drop.drop) (by first | (simp; omega) | simp) ?_; intro v1 w1 hS1; clear hS; have hS := hS1; clear hS1; dsimp only [List.set_cons_zero, List.set_cons_succ] at hS)
                | (refine toList (by rfl) ?_; refine wp_of_reads (rSlcL (lo := j + 1) (by rfl) (by rfl) (by rfl) (by rfl) (by omega) (by omega) (elOf (by rfl)) _) ?_)
                            | (refine toList (by rfl) ?_; refine wp_of_reads (rLdRd1 (HR.out _ hS.drop) _ _ (by rfl) _ (by rfl) (agOf (by rfl)) j (by omega) HY.out (by omega)) ?_))
              go_ret
              refine ⟨_, rfl, ?_⟩
              rw [HI.out]
              exact hS.drop
        · have HD : Hid (∀ w, Sat W w L → Rd w (.slice (some ⟨b, off + k * 1, none⟩) (l.length - k) (c - k)) (l.drop k).length 1 (iv (l.drop k))) := Lib.hid fun w h => (HR.out w h).dropI k hkl
          have hkci : k < c := by omega
          rcases hend with rfl | ⟨j, y, rfl, hy, hxy⟩
          · replace hS := hS.irNil
            go_wp2_with (first
              | (refine toList (by rfl) ?_; refine apI (m := l.take 0) hS _ _ _ _ (by rfl) (by rfl) (by rfl) (elOf (by rfl)) (by rfl) (by rfl) (by rfl) (inOf (by rfl)) Has.z (by first | exact HT.out _ hS.drop | exact HT.out _ hS.drop.drop) (by first | (simp; omega) | simp) ?_; intro v1 w1 hS1; clear hS; have hS := hS1; clear hS1; dsimp only [List.set_cons_zero, List.nil_append] at hS)
              | (refine toList (by rfl) ?_; refine bsF hS _ _ _ (by rfl) (elOf (by rfl)) [.int .i64 x] (by rfl) (by rfl) (by decide) (by decide) (by simp [Value.cells]) ?_; intro b1 w1 hS1; clear hS; have hS := hS1; clear hS1; rw [sca1 rfl] at hS)
              | (refine toList (by rfl) ?_; refine apI (m := [x]) hS _ _ _ _ (by rfl) (by rfl) (by rfl) (elOf (by rfl)) (by rfl) (by rfl) (by rfl) (inOf (by rfl)) (Has.s Has.z) (by exact hS.csRd0 (n := 1) (sz := 1) Has.z (by decide) rfl) (by first | (simp; omega) | simp) ?_; intro v1 w1 hS1; clear hS; have hS := hS1; clear hS1; dsimp only [List.set_cons_zero, List.set_cons_succ] at hS)
              | (refine toList (by rfl) ?_; refine apI (m := l.drop 0) hS _ _ _ _ (by rfl) (by rfl) (by rfl) (elOf (by rfl)) (by rfl) (by rfl) (by rfl) (inOf (by rfl)) (Has.s Has.z) (by exact HD.out _ hS.drop.drop) (by first | (simp; omega) | simp) ?_; intro v1 w1 hS1; clear hS; have hS := hS1; clear hS1; dsimp only [List.set_cons_zero, List.set_cons_succ] at hS)
              | (refine toList (by rfl) ?_; refine wp_of_reads (rSlcL (lo := 0) (by rfl) (by rfl) (by rfl) (by rfl) (by omega) (by omega) (elOf (by rfl)) _) ?_))
            go_ret
            refine ⟨_, rfl, ?_⟩
            rw [HI.out]
            exact hS.drop
          · have HY := Lib.hid (iv_at hy)
            have n1 : ¬ (x : Int) < (y : Int) := by omega
            have n2 : ((j + 1 : Nat) : Int) - 1 = (j : Int) := by omega
            have n3 : (j : Int) < (l.length : Int) := by omega
            clear hy hxy
            replace hS := hS.irNil
            go_wp2_with (first
              | (refine toList (by rfl) ?_; refine apI (m := l.take (j + 1)) hS _ _ _ _ (by rfl) (by rfl) (by rfl) (elOf (by rfl)) (by rfl) (by rfl) (by rfl) (inOf (by rfl)) Has.z (by first | exact HT.out _ hS.drop | exact HT.out _ hS.drop.drop) (by first | (simp; omega) | simp) ?_; intro v1 w1 hS1; clear hS; have hS := hS1; clear hS1; dsimp only [List.set_cons_zero, List.nil_append] at hS)
              | (refine toList (by rfl) ?_; refine bsF hS _ _ _ (by rfl) (elOf (by rfl)) [.int .i64 x] (by rfl) (by rfl) (by decide) (by decide) (by simp [Value.cells]) ?_; intro b1 w1 hS1; clear hS; have hS := hS1; clear hS1; rw [sca1 rfl] at hS)
              | (refine toList (by rfl) ?_; refine apI (m := [x]) hS _ _ _ _ (by rfl) (by rfl) (by rfl) (elOf (by rfl)) (by rfl) (by rfl) (by rfl) (inOf (by rfl)) (Has.s Has.z) (by exact hS.csRd0 (n := 1) (sz := 1) Has.z (by decide) rfl) (by first | (simp; omega) | simp) ?_; intro v1 w1 hS1; clear hS; have hS := hS1; clear hS1; dsimp only [List.set_cons_zero, List.set_cons_succ] at hS)
              | (refine toList (by rfl) ?_; refine apI (m := l.drop (j + 1)) hS _ _ _ _ (by rfl) (by rfl) (by rfl) (elOf (by rfl)) (by rfl) (by rfl) (by rfl) (inOf (by rfl)) (Has.s Has.z) (by exact HD.out _ hS.drop.drop) (by first | (simp; omega) | simp) ?_; intro v1 w1 hS1; clear hS; have hS := hS1; clear hS1; dsimp only [List.set_cons_zero, List.set_cons_succ] at hS)
              | (refine toList (by rfl) ?_; refine wp_of_reads (rSlcL (lo := j + 1) (by rfl) (by rfl) (by rfl) (by rfl) (by omega) (by omega) (elOf (by rfl)) _) ?_)
                        | (refine toList (by rfl) ?_; refine wp_of_reads (rLdRd1 (HR.out _ hS.drop) _ _ (by rfl) _ (by rfl) (agOf (by rfl)) j (by omega) HY.out (by omega)) ?_))
            go_ret
            refine ⟨_, rfl, ?_⟩
            rw [HI.out]
            exact hS.drop
      · obtain ⟨j, rfl⟩ : ∃ j, k = j + 1 := ⟨k - 1, by omega⟩
        obtain ⟨y, hy⟩ : ∃ y, l[j]? = some y := ⟨_, List.getElem?_eq_getElem (by omega)⟩
        have hxy : x < y := by
          rcases Nat.lt_or_ge x y with h | h
          · exact h
          · exact absurd (.inr ⟨j, y, rfl, hy, by omega⟩) hend
        have HN := Lib.hid (show ∀ i z, j ≤ i → l[i]? = some z → x < z by
          intro i t hi ht
          by_cases hij : i = j
          · rw [hij, hy] at ht; cases ht; exact hxy
          · exact HALL.out i t (by omega) ht)
        have HY := Lib.hid (iv_at hy)
        obtain rfl : z = (j : Int) + 1 := by omega
        have n1 : (x : Int) < (y : Int) := by omega
        have n3 : (j : Int) < (l.length : Int) := by omega
        have n5 : (0 : Int) < (j : Int) + 1 := by omega
        have HJ := Lib.hid hk
        clear hy hxy hz hk hend
        go_wp2_with (refine toList (by rfl) ?_; refine wp_of_reads (rLdRd1 (HR.out _ hS) _ _ (by rfl) _ (by rfl) (agOf (by rfl)) j (by omega) HY.out (by omega)) ?_)
        exact ⟨⟨j, _, by go_num, by omega, by have := HJ.out; omega, HN.out, hS⟩, by first | (simp [intOf]; done) | (simp [intOf]; omega)⟩
end Go.Proofs.Ytapodjhkpahdnaa
