/-
  Labels (plain): which sources reach a node; the stack that goes up.
-/
import Derived.Test.YtapodjhkpahdnaaGrAcyP
namespace Go.Proofs.Ytapodjhkpahdnaa
open Go.Sep
set_option linter.unusedSimpArgs false
set_option linter.unusedVariables false
def bitsOf (f : Nat → Bool) : Nat → Nat
  | 0 => 0
  | k + 1 => bitsOf f k ||| (if f k then 2 ^ k else 0)
theorem bitsOf_test (f : Nat → Bool) (s : Nat) : ∀ k, (bitsOf f k).testBit s = (decide (s < k) && f s)
  | 0 => by simp [bitsOf]
  | k + 1 => by
    unfold bitsOf
    rw [Nat.testBit_or, bitsOf_test f s k]
    by_cases h : s = k
    · subst h
      cases hf : f s <;> simp [Nat.testBit_two_pow]
    · have h2 : (if f k then 2 ^ k else 0).testBit s = false := by
        split
        · rw [Nat.testBit_two_pow]; simp; omega
        · simp
      rw [h2, Bool.or_false]
      congr 1
      rw [decide_eq_decide]; omega
theorem bitsOf_lt (f : Nat → Bool) : ∀ k, bitsOf f k < 2 ^ k
  | 0 => by simp [bitsOf]
  | k + 1 => by
    unfold bitsOf
    have := bitsOf_lt f k
    refine Nat.or_lt_two_pow (by rw [Nat.pow_succ]; omega) ?_
    split
    · exact Nat.pow_lt_pow_right (by decide) (by omega)
    · exact Nat.two_pow_pos _
namespace Gr
/-- A source reaches a node. -/
def Src (G : Gr) (s n : Nat) : Prop := ∀ S : Nat → Prop, (∀ m x, G.N[m]? = some x → x.mark.testBit s = true → x.clear.testBit s = false → S m) →
  (∀ m u x, (m, u) ∈ G.E → G.N[m]? = some x → x.clear.testBit s = false → S u → S m) → S n
theorem Src.base {G : Gr} {s m : Nat} {x : NodeD} (h : G.N[m]? = some x) (h1 : x.mark.testBit s = true) (h2 : x.clear.testBit s = false) : G.Src s m := fun _ hb _ => hb m x h h1 h2
theorem Src.step {G : Gr} {s m u : Nat} {x : NodeD} (he : (m, u) ∈ G.E) (h : G.N[m]? = some x) (h2 : x.clear.testBit s = false) (hu : G.Src s u) : G.Src s m := fun S hb hs => hs m u x he h h2 (hu S hb hs)
theorem src_iff {G : Gr} {s n : Nat} : G.Src s n ↔ ∃ x, G.N[n]? = some x ∧ x.clear.testBit s = false ∧ (x.mark.testBit s = true ∨ ∃ u, (n, u) ∈ G.E ∧ G.Src s u) := by
  have hr : ∀ n, (∃ x, G.N[n]? = some x ∧ x.clear.testBit s = false ∧ (x.mark.testBit s = true ∨ ∃ u, (n, u) ∈ G.E ∧ G.Src s u)) → G.Src s n := fun n ⟨x, h1, h2, h3⟩ => by
    rcases h3 with h3 | ⟨u, h3, h4⟩
    · exact Src.base h1 h3 h2
    · exact Src.step h3 h1 h2 h4
  refine ⟨fun h => ?_, hr n⟩
  exact h (fun n => ∃ x, G.N[n]? = some x ∧ x.clear.testBit s = false ∧ (x.mark.testBit s = true ∨ ∃ u, (n, u) ∈ G.E ∧ G.Src s u)) (fun m x h1 h2 h3 => ⟨x, h1, h3, .inl h2⟩) fun m u x h1 h2 h3 h4 => ⟨x, h2, h3, .inr ⟨u, h1, hr u h4⟩⟩
open Classical in
noncomputable def srcB (G : Gr) (n s : Nat) : Bool := decide (G.Src s n)
theorem srcB_iff {G : Gr} {n s : Nat} : G.srcB n s = true ↔ G.Src s n := by simp [srcB]
noncomputable def lab (G : Gr) (n : Nat) : Nat := bitsOf (G.srcB n) 8
theorem lab_test (G : Gr) (n s : Nat) : (G.lab n).testBit s = (decide (s < 8) && G.srcB n s) := bitsOf_test _ _ _
theorem lab_lt (G : Gr) (n : Nat) : G.lab n < 256 := bitsOf_lt _ 8
end Gr
def orL (f : Nat → Nat) (l : List Nat) (m : Nat) : Nat := l.foldl (fun a u => a ||| f u) m
theorem orL_test (f : Nat → Nat) (s : Nat) : ∀ (l : List Nat) (m : Nat), (orL f l m).testBit s = (m.testBit s || l.any fun u => (f u).testBit s)
  | [], m => by simp [orL]
  | u :: l, m => by
    show (orL f l (m ||| f u)).testBit s = _
    rw [orL_test f s l, Nat.testBit_or, List.any_cons, Bool.or_assoc]
theorem orL_lt {f : Nat → Nat} (hf : ∀ u, f u < 256) : ∀ (l : List Nat) {m : Nat}, m < 256 → orL f l m < 256
  | [], _, h => h
  | _ :: l, _, h => orL_lt hf l (Nat.or_lt_two_pow (n := 8) h (hf _))
theorem orL_snoc (f : Nat → Nat) (l : List Nat) (u m : Nat) : orL f (l ++ [u]) m = orL f l m ||| f u := by simp [orL]
theorem orL_congr {f g : Nat → Nat} : ∀ {l : List Nat} {m : Nat}, (∀ u ∈ l, f u = g u) → orL f l m = orL g l m
  | [], _, _ => rfl
  | u :: l, m, h => by
    show orL f l (m ||| f u) = orL g l (m ||| g u)
    rw [h u (List.mem_cons_self ..)]
    exact orL_congr fun v hv => h v (List.mem_cons_of_mem _ hv)
def andn (x c : Nat) : Nat := x &&& (255 ^^^ c)
theorem andn_test (x c s : Nat) : (andn x c).testBit s = (x.testBit s && (decide (s < 8) ^^ c.testBit s)) := by
  unfold andn
  rw [Nat.testBit_and, Nat.testBit_xor, show (255 : Nat) = 2 ^ 8 - 1 from rfl, Nat.testBit_two_pow_sub_one]
theorem andn_lt {x c : Nat} (h : x < 256) : andn x c < 256 := by
  unfold andn
  exact Nat.lt_of_le_of_lt Nat.and_le_left h
theorem test_big {x s : Nat} (h : x < 256) (hs : 8 ≤ s) : x.testBit s = false := Nat.testBit_lt_two_pow (Nat.lt_of_lt_of_le h (Nat.pow_le_pow_right (n := 2) (by decide) hs))
theorem Gr.lab_eq {G : Gr} (hG : G.Ok) {n : Nat} {x : NodeD} (hx : G.N[n]? = some x) : andn (orL G.lab (G.ups n) x.mark) x.clear = G.lab n := by
  apply Nat.eq_of_testBit_eq
  intro s
  have hm := hG.marks x (List.mem_of_getElem? hx)
  rw [andn_test, orL_test, Gr.lab_test]
  by_cases hs : s < 8
  · rw [decide_eq_true hs, Bool.true_and, Bool.eq_iff_iff, Gr.srcB_iff, Gr.src_iff]
    simp only [Bool.and_eq_true, Bool.or_eq_true, Bool.true_xor, Bool.not_eq_true', List.any_eq_true]
    constructor
    · rintro ⟨h1, h2⟩
      refine ⟨x, hx, h2, ?_⟩
      rcases h1 with h1 | ⟨u, hu, h1⟩
      · exact .inl h1
      · rw [Gr.lab_test, decide_eq_true hs, Bool.true_and, Gr.srcB_iff] at h1
        exact .inr ⟨u, (Gr.mem_ups.1 hu).2, h1⟩
    · rintro ⟨y, hy, h2, h1⟩
      rw [hx] at hy; cases hy
      refine ⟨?_, h2⟩
      rcases h1 with h1 | ⟨u, hu, h1⟩
      · exact .inl h1
      · refine .inr ⟨u, Gr.mem_ups.2 ⟨(hG.low _ hu).2, hu⟩, ?_⟩
        rw [Gr.lab_test, decide_eq_true hs, Bool.true_and, Gr.srcB_iff]; exact h1
  · rw [decide_eq_false hs, Bool.false_and, test_big hm.1 (by omega), Bool.false_or]
    have : (G.ups n).any (fun u => (G.lab u).testBit s) = false := List.any_eq_false.2 fun u _ => by rw [test_big (G.lab_lt u) (by omega)]; decide
    rw [this, Bool.false_and]
/-! ### the numbers' bits, as Go has them -/
theorem bv_nat (n : Nat) (hn : n < 256) : (BitVec.ofInt 64 (n : Int)).toNat = n := by
  rw [BitVec.ofInt_natCast, BitVec.toNat_ofNat]; exact Nat.mod_eq_of_lt (by omega)
theorem or_256' (x u : Nat) (hx : x < 256) (hu : u < 256) : bits .or .i64 (x : Int) (u : Int) = ((x ||| u : Nat) : Int) := by
  have hx2 : x ||| u < 2 ^ 8 := Nat.or_lt_two_pow (by omega) (by omega)
  show IntKind.i64.wrap ((BitVec.ofInt 64 (x : Int) ||| BitVec.ofInt 64 (u : Int)).toNat : Int) = _
  rw [BitVec.toNat_or, bv_nat x hx, bv_nat u hu, IntWalk.i64_in _ (by omega)]
theorem andn_256 (x c : Nat) (hx : x < 256) (hc : c < 256) : bits .andNot .i64 (x : Int) (c : Int) = ((andn x c : Nat) : Int) := by
  have hx2 : andn x c < 256 := andn_lt hx
  show IntKind.i64.wrap ((BitVec.ofInt 64 (x : Int) &&& ~~~ BitVec.ofInt 64 (c : Int)).toNat : Int) = _
  have e : (BitVec.ofInt 64 (x : Int) &&& ~~~ BitVec.ofInt 64 (c : Int)).toNat = andn x c := by
    apply Nat.eq_of_testBit_eq
    intro s
    rw [andn_test, BitVec.toNat_and, Nat.testBit_and, bv_nat x hx]
    by_cases hs : s < 8
    · rw [decide_eq_true hs, BitVec.testBit_toNat, BitVec.getLsbD_not, ← BitVec.testBit_toNat, bv_nat c hc, decide_eq_true (by omega)]; simp
    · rw [test_big hx (by omega)]; simp
  rw [e, IntWalk.i64_in _ (by omega)]
/-! ### going up -/
/-- How much there is above a node, at most so far. -/
def wt (G : Gr) : Nat → Nat → Nat
  | 0, _ => 2
  | f + 1, k => 2 + ((G.ups k).map (wt G f)).sum
theorem sum_le {α : Type} {f g : α → Nat} : ∀ {l : List α}, (∀ x ∈ l, f x ≤ g x) → (l.map f).sum ≤ (l.map g).sum
  | [], _ => Nat.le_refl _
  | x :: l, h => by
    simp only [List.map_cons, List.sum_cons]
    have := h x (List.mem_cons_self ..)
    have := sum_le (l := l) fun y hy => h y (List.mem_cons_of_mem _ hy)
    omega
theorem sum_filter_le {f : Nat → Nat} (p : Nat → Bool) : ∀ {l : List Nat}, ((l.filter p).map f).sum ≤ (l.map f).sum
  | [] => Nat.le_refl _
  | x :: l => by
    have := sum_filter_le (f := f) p (l := l)
    rw [List.filter_cons]
    split <;> simp only [List.map_cons, List.sum_cons] <;> omega
theorem wt_mono (G : Gr) : ∀ (f g : Nat) (k : Nat), f ≤ g → wt G f k ≤ wt G g k
  | 0, 0, _, _ => Nat.le_refl _
  | 0, g + 1, k, _ => by unfold wt; omega
  | f + 1, 0, _, h => by omega
  | f + 1, g + 1, k, h => by
    unfold wt
    have := sum_le (l := G.ups k) fun x _ => wt_mono G f g x (by omega)
    omega
noncomputable def ww (G : Gr) (k : Nat) : Nat := wt G (G.above k).length k
theorem ww_pos (G : Gr) (k : Nat) : 2 ≤ ww G k := by
  show wt G 0 k ≤ _
  exact wt_mono G 0 (G.above k).length k (by omega)
theorem nodup_sub_len : ∀ {l m : List Nat}, l.Nodup → (∀ x ∈ l, x ∈ m) → l.length ≤ m.length
  | [], _, _, _ => Nat.zero_le _
  | x :: l, m, hd, hs => by
    rw [List.nodup_cons] at hd
    have hx := hs x (List.mem_cons_self ..)
    have h := nodup_sub_len (l := l) (m := m.erase x) hd.2 fun y hy => (List.mem_erase_of_ne (a := y) (b := x) (fun e => hd.1 (by rw [← e]; exact hy))).2 (hs y (List.mem_cons_of_mem _ hy))
    rw [List.length_erase_of_mem hx] at h
    have := List.length_pos_of_mem hx
    simp only [List.length_cons]
    omega
theorem above_less {G : Gr} (hG : G.Ok) (hA : G.Acyc) {k u : Nat} (he : (k, u) ∈ G.E) : (G.above u).length < (G.above k).length := by
  have hk := (hG.low _ he).1
  have h1 : k ∈ G.above k := Gr.mem_above.2 ⟨hk, Gr.Reach.refl G k⟩
  have h2 : ∀ x, x ∈ G.above u → x ∈ (G.above k).erase k := fun x hx => by
    obtain ⟨h3, h4⟩ := Gr.mem_above.1 hx
    have hne : x ≠ k := fun e => hA k u he (e ▸ h4)
    exact (List.mem_erase_of_ne hne).2 (Gr.mem_above.2 ⟨h3, (Gr.Reach.edge he).trans h4⟩)
  have h3 : (G.above u).Nodup := (G.above_lt u).imp fun h => Nat.ne_of_lt h
  have h4 : (G.above u).length ≤ ((G.above k).erase k).length := nodup_sub_len h3 h2
  rw [List.length_erase_of_mem h1] at h4
  have := List.length_pos_of_mem h1
  omega
theorem ww_ups {G : Gr} (hG : G.Ok) (hA : G.Acyc) {k : Nat} (p : Nat → Bool) : 2 + (((G.ups k).filter p).map (ww G)).sum ≤ ww G k ∨ G.ups k = [] := by
  by_cases h : G.ups k = []
  · exact .inr h
  · left
    obtain ⟨u, hu⟩ := List.exists_mem_of_ne_nil _ h
    have hl := above_less hG hA (Gr.mem_ups.1 hu).2
    obtain ⟨m, hm⟩ : ∃ m, (G.above k).length = m + 1 := ⟨(G.above k).length - 1, by omega⟩
    have h1 : (((G.ups k).filter p).map (ww G)).sum ≤ ((G.ups k).map (ww G)).sum := sum_filter_le p
    have h2 : ((G.ups k).map (ww G)).sum ≤ ((G.ups k).map (wt G m)).sum := sum_le fun x hx => by
      have := above_less hG hA (Gr.mem_ups.1 hx).2
      exact wt_mono G _ _ x (by omega)
    have h3 : ww G k = 2 + ((G.ups k).map (wt G m)).sum := by unfold ww; rw [hm]; rfl
    omega
/-- The rows of nodes on the way: a row for each node that is open, its own first one in front. -/
inductive Fr (G : Gr) (D : Nat → Bool) (n : Nat) : List (List Nat) → Prop
  | none (h : D n = true) : Fr G D n []
  | one : Fr G D n [[n]]
  | more {k : Nat} {sib : List Nat} {rest : List (List Nat)} {f : List Nat} (h0 : f ≠ []) (h1 : ∀ x ∈ f, (k, x) ∈ G.E) (h2 : ∀ u, (k, u) ∈ G.E → D u = true ∨ u ∈ f) (h3 : f.length ≤ G.N.length) (h : Fr G D n ((k :: sib) :: rest)) : Fr G D n (f :: (k :: sib) :: rest)
def addD (D : Nat → Bool) (k : Nat) : Nat → Bool := fun t => D t || decide (t = k)
theorem addD_old {D : Nat → Bool} {k t : Nat} (h : D t = true) : addD D k t = true := by simp [addD, h]
theorem addD_new (D : Nat → Bool) (k : Nat) : addD D k k = true := by simp [addD]
theorem Fr.mono {G : Gr} {D D' : Nat → Bool} {n : Nat} (hd : ∀ t, D t = true → D' t = true) {fr : List (List Nat)} (h : Fr G D n fr) : Fr G D' n fr := by
  induction h with
  | none h => exact .none (hd _ h)
  | one => exact .one
  | more h0 h1 h2 h3 _ ih => exact .more h0 h1 (fun u hu => (h2 u hu).imp (hd u) id) h3 ih
def popF : List (List Nat) → List (List Nat)
  | (_ :: y :: sib) :: rest => (y :: sib) :: rest
  | _ :: rest => rest
  | [] => []
def stkF (fr : List (List Nat)) : List Nat := fr.flatten.reverse
theorem stkF_top (k : Nat) (sib : List Nat) (rest : List (List Nat)) : stkF ((k :: sib) :: rest) = stkF (popF ((k :: sib) :: rest)) ++ [k] := by
  cases sib <;> simp [stkF, popF]
theorem stkF_push (U : List Nat) (fr : List (List Nat)) : stkF (U.reverse :: fr) = stkF fr ++ U := by simp [stkF]
theorem Fr.top {G : Gr} {D : Nat → Bool} {n : Nat} {f : List Nat} {rest : List (List Nat)} (h : Fr G D n (f :: rest)) : ∃ k sib, f = k :: sib := by
  cases h with
  | one => exact ⟨_, _, rfl⟩
  | more h0 => exact List.exists_cons_of_ne_nil h0
theorem Fr.push {G : Gr} {D : Nat → Bool} {n k : Nat} {sib : List Nat} {rest : List (List Nat)} {U : List Nat} (h : Fr G D n ((k :: sib) :: rest)) (hG : G.Ok) (hU : (G.ups k).filter (fun u => !D u) = U) (hne : U ≠ []) : Fr G D n (U.reverse :: (k :: sib) :: rest) := by
  subst hU
  refine .more (by simpa using hne) (fun x hx => ?_) (fun u hu => ?_) ?_ h
  · have := (List.mem_filter.1 (List.mem_reverse.1 hx)).1
    exact (Gr.mem_ups.1 this).2
  · cases hd : D u with
    | true => exact .inl rfl
    | false => exact .inr (List.mem_reverse.2 (List.mem_filter.2 ⟨Gr.mem_ups.2 ⟨(hG.low _ hu).2, hu⟩, by simp [hd]⟩))
  · rw [List.length_reverse]
    have := List.length_filter_le (fun u => !D u) (G.ups k)
    have := G.ups_len k
    omega
theorem Fr.pop {G : Gr} {D : Nat → Bool} {n k : Nat} {sib : List Nat} {rest : List (List Nat)} (h : Fr G D n ((k :: sib) :: rest)) : Fr G (addD D k) n (popF ((k :: sib) :: rest)) ∧
    (sib = [] → ∀ k' sib' rest', rest = (k' :: sib') :: rest' → ∀ u, (k', u) ∈ G.E → addD D k u = true) := by
  cases h with
  | one => exact ⟨.none (addD_new D n), fun _ k' sib' rest' h => by cases h⟩
  | more h0 h1 h2 h3 h =>
    cases sib with
    | nil =>
      refine ⟨h.mono fun t ht => addD_old ht, fun _ k' sib' rest' he u hu => ?_⟩
      simp only [List.cons.injEq] at he
      obtain ⟨⟨rfl, _⟩, _⟩ := he
      rcases h2 u hu with h4 | h4
      · exact addD_old h4
      · rw [List.mem_singleton.1 h4]; exact addD_new D k
    | cons y sib =>
      refine ⟨.more (by simp) (fun x hx => h1 x (List.mem_cons_of_mem _ hx)) (fun u hu => ?_) (by simp only [List.length_cons] at h3 ⊢; omega) (h.mono fun t ht => addD_old ht), fun e => by cases e⟩
      rcases h2 u hu with h4 | h4
      · exact .inl (addD_old h4)
      · rcases List.mem_cons.1 h4 with rfl | h4
        · exact .inl (addD_new D u)
        · exact .inr h4
theorem Fr.depth {G : Gr} (hG : G.Ok) (hA : G.Acyc) {D : Nat → Bool} {n : Nat} {fr : List (List Nat)} (h : Fr G D n fr) : ∀ k sib rest, fr = (k :: sib) :: rest → (G.above k).length + rest.length ≤ (G.above n).length := by
  induction h with
  | none => intro _ _ _ h; cases h
  | one => intro k sib rest h; simp only [List.cons.injEq] at h; obtain ⟨⟨rfl, _⟩, rfl⟩ := h; simp
  | more h0 h1 h2 h3 _ ih =>
    intro k sib rest h
    simp only [List.cons.injEq] at h
    obtain ⟨rfl, rfl⟩ := h
    have h4 := ih _ _ _ rfl
    have h5 := above_less hG hA (h1 k (List.mem_cons_self ..))
    simp only [List.length_cons]
    omega
theorem Fr.rows {G : Gr} {D : Nat → Bool} {n : Nat} {fr : List (List Nat)} (h : Fr G D n fr) : fr.flatten.length ≤ fr.length * (G.N.length + 1) := by
  induction h with
  | none => simp
  | one => simp
  | more h0 h1 h2 h3 _ ih =>
    simp only [List.flatten_cons, List.length_append, List.length_cons] at ih ⊢
    simp only [Nat.add_mul] at ih ⊢
    omega
theorem Fr.len {G : Gr} (hG : G.Ok) (hA : G.Acyc) {D : Nat → Bool} {n : Nat} {fr : List (List Nat)} (h : Fr G D n fr) : (stkF fr).length ≤ 16785409 := by
  have h1 := h.rows
  have hgl := hG.len
  have h2 : fr.length ≤ 4097 := by
    cases fr with
    | nil => simp
    | cons f rest =>
      obtain ⟨k, sib, rfl⟩ := h.top
      have h3 := h.depth hG hA k sib rest rfl
      have := G.above_len n
      simp only [List.length_cons]; omega
  have h4 : fr.length * (G.N.length + 1) ≤ 4097 * 4097 := Nat.mul_le_mul h2 (by omega)
  unfold stkF
  rw [List.length_reverse]
  omega
theorem Fr.low {G : Gr} (hG : G.Ok) {D : Nat → Bool} {n : Nat} (hn : n < G.N.length) {fr : List (List Nat)} (h : Fr G D n fr) : ∀ f ∈ fr, ∀ x ∈ f, x < G.N.length := by
  induction h with
  | none => intro f hf; cases hf
  | one => intro f hf x hx; rw [List.mem_singleton.1 hf] at hx; rw [List.mem_singleton.1 hx]; exact hn
  | more h0 h1 h2 h3 _ ih =>
    intro f hf x hx
    rcases List.mem_cons.1 hf with rfl | hf
    · exact (hG.low _ (h1 x hx)).2
    · exact ih f hf x hx
noncomputable def topW (G : Gr) (D : Nat → Bool) (k : Nat) : Nat := if (G.ups k).all D then 1 else ww G k
theorem topW_le (G : Gr) (D : Nat → Bool) (k : Nat) : topW G D k ≤ ww G k := by
  unfold topW
  have := ww_pos G k
  split <;> omega
noncomputable def lowS (G : Gr) (fr : List (List Nat)) : Nat := (fr.map fun f => 1 + ((f.tail).map (ww G)).sum).sum
noncomputable def msF (G : Gr) (D : Nat → Bool) : List (List Nat) → Nat
  | (k :: sib) :: rest => topW G D k + (sib.map (ww G)).sum + lowS G rest
  | _ => 0
theorem msF_push {G : Gr} (hG : G.Ok) (hA : G.Acyc) {D : Nat → Bool} {k : Nat} {sib : List Nat} {rest : List (List Nat)} {U : List Nat} (hU : (G.ups k).filter (fun u => !D u) = U) (hne : U ≠ []) : msF G D (U.reverse :: (k :: sib) :: rest) < msF G D ((k :: sib) :: rest) := by
  have hw := ww_ups hG hA (k := k) fun u => !D u
  rw [hU] at hw
  have hnil : G.ups k ≠ [] := fun e => hne (by rw [← hU, e]; rfl)
  have hw := hw.resolve_right hnil
  have ht : topW G D k = ww G k := by
    unfold topW
    rw [if_neg]
    intro h
    apply hne
    rw [← hU]
    exact List.filter_eq_nil_iff.2 fun u hu => by simp [List.all_eq_true.1 h u hu]
  have hs : (U.reverse.map (ww G)).sum = (U.map (ww G)).sum := by rw [List.map_reverse, List.sum_reverse]
  obtain ⟨x, xs, hx⟩ := List.exists_cons_of_ne_nil (show U.reverse ≠ [] by simpa using hne)
  rw [hx] at hs ⊢
  simp only [List.map_cons, List.sum_cons] at hs
  have := topW_le G D x
  unfold msF lowS
  simp only [List.map_cons, List.sum_cons, List.tail_cons, ht]
  omega
theorem msF_pop {G : Gr} {D : Nat → Bool} {n k : Nat} {sib : List Nat} {rest : List (List Nat)} (h : Fr G D n ((k :: sib) :: rest)) (hall : (G.ups k).all D = true) : msF G (addD D k) (popF ((k :: sib) :: rest)) < msF G D ((k :: sib) :: rest) := by
  have ht : topW G D k = 1 := by unfold topW; rw [if_pos hall]
  have hp := h.pop.2
  cases sib with
  | cons y sib =>
    have := topW_le G (addD D k) y
    unfold popF msF
    simp only [List.map_cons, List.sum_cons, ht]
    omega
  | nil =>
    cases rest with
    | nil => unfold popF msF; simp [ht, lowS]
    | cons f rest =>
      have hf : Fr G D n (f :: rest) := by
        cases h with
        | more _ _ _ _ h => exact h
      obtain ⟨k', sib', rfl⟩ := hf.top
      have h3 := hp rfl k' sib' rest rfl
      have h4 : topW G (addD D k) k' = 1 := by
        unfold topW
        rw [if_pos (List.all_eq_true.2 fun u hu => h3 u (Gr.mem_ups.1 hu).2)]
      unfold popF msF
      simp only [h4, ht, lowS, List.map_cons, List.sum_cons, List.tail_cons, List.map_nil, List.sum_nil]
      omega
/-! ### a measure that may look at what is only there -/
theorem exists_min {P : Nat → Prop} : ∀ m, P m → ∃ m, P m ∧ ∀ j, P j → m ≤ j := by
  intro m
  induction m using Nat.strongRecOn with
  | ind m ih =>
    intro h
    by_cases h2 : ∃ j, j < m ∧ P j
    · obtain ⟨j, hj, hp⟩ := h2
      exact ih j hj hp
    · exact ⟨m, h, fun j hj => by
        rcases Nat.lt_or_ge j m with h3 | h3
        · exact absurd ⟨j, h3, hj⟩ h2
        · exact h3⟩
theorem minT_ex {σ : Type} {R : σ → Prop} {T : σ → Nat} (h : ∃ st, R st) : ∃ m, (∃ st, R st ∧ T st = m) ∧ ∀ j, (∃ st, R st ∧ T st = j) → m ≤ j := by
  obtain ⟨st, hs⟩ := h
  exact exists_min (P := fun m => ∃ st, R st ∧ T st = m) (T st) ⟨st, hs, rfl⟩
open Classical in
noncomputable def minT {σ : Type} (R : σ → Prop) (T : σ → Nat) : Nat := if h : ∃ st, R st then Classical.choose (minT_ex (T := T) h) else 0
theorem minT_get {σ : Type} {R : σ → Prop} {T : σ → Nat} (h : ∃ st, R st) : ∃ st, R st ∧ T st = minT R T := by
  unfold minT
  rw [dif_pos h]
  exact (Classical.choose_spec (minT_ex (T := T) h)).1
theorem minT_le {σ : Type} {R : σ → Prop} {T : σ → Nat} {st : σ} (h : R st) : minT R T ≤ T st := by
  have h2 : ∃ st, R st := ⟨st, h⟩
  unfold minT
  rw [dif_pos h2]
  exact (Classical.choose_spec (minT_ex (T := T) h2)).2 _ ⟨st, h, rfl⟩
end Go.Proofs.Ytapodjhkpahdnaa
