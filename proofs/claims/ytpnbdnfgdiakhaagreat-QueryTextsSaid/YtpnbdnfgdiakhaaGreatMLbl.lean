/-
  Labels (plain): which sources reach a node; the stack that goes up.
  Package label: All.
  Graphs that keep a property.
-/
import Derived.Test.YtpnbdnfgdiakhaaGreatMGrc
import Derived.Test.YtpnbdnfgdiakhaaGreatMGrd
namespace Go.Proofs.YtpnbdnfgdiakhaaGreat
open Go.Sep
set_option linter.unusedSimpArgs false
set_option linter.unusedVariables false
def bitsOf (f : Nat → Bool) : Nat → Nat
  | 0 => 0
  | k + 1 => bitsOf f k ||| (if f k then 2 ^ k else 0)
theorem bitsOf_test (f : Nat → Bool) (s : Nat) : ∀ k, (bitsOf f k).testBit s = (decide (s < k) && f s)
  | 0 => by simp [bitsOf]
  | k + 1 => by
    unfold bitsOf
    rw [Nat.testBit_or, bitsOf_test f s k]
    by_cases h : s = k
    · subst h
      cases hf : f s <;> simp [Nat.testBit_two_pow]
    · have h2 : (if f k then 2 ^ k else 0).testBit s = false := by
        split
        · rw [Nat.testBit_two_pow]; simp; omega
        · simp
      rw [h2, Bool.or_false]
      congr 1
      rw [decide_eq_decide]; omega
theorem bitsOf_lt (f : Nat → Bool) : ∀ k, bitsOf f k < 2 ^ k
  | 0 => by simp [bitsOf]
  | k + 1 => by
    unfold bitsOf
    have := bitsOf_lt f k
    refine Nat.or_lt_two_pow (by rw [Nat.pow_succ]; omega) ?_
    split
    · exact Nat.pow_lt_pow_right (by decide) (by omega)
    · exact Nat.two_pow_pos _
namespace Gr
/-- A source reaches a node. -/
def Src (G : Gr) (s n : Nat) : Prop := ∀ S : Nat → Prop, (∀ m x, G.N[m]? = some x → x.mark.testBit s = true → x.clear.testBit s = false → S m) →
  (∀ m u x, (m, u) ∈ G.E → G.N[m]? = some x → x.clear.testBit s = false → S u → S m) → S n
theorem Src.base {G : Gr} {s m : Nat} {x : NodeD} (h : G.N[m]? = some x) (h1 : x.mark.testBit s = true) (h2 : x.clear.testBit s = false) : G.Src s m := fun _ hb _ => hb m x h h1 h2
theorem Src.step {G : Gr} {s m u : Nat} {x : NodeD} (he : (m, u) ∈ G.E) (h : G.N[m]? = some x) (h2 : x.clear.testBit s = false) (hu : G.Src s u) : G.Src s m := fun S hb hs => hs m u x he h h2 (hu S hb hs)
theorem src_iff {G : Gr} {s n : Nat} : G.Src s n ↔ ∃ x, G.N[n]? = some x ∧ x.clear.testBit s = false ∧ (x.mark.testBit s = true ∨ ∃ u, (n, u) ∈ G.E ∧ G.Src s u) := by
  have hr : ∀ n, (∃ x, G.N[n]? = some x ∧ x.clear.testBit s = false ∧ (x.mark.testBit s = true ∨ ∃ u, (n, u) ∈ G.E ∧ G.Src s u)) → G.Src s n := fun n ⟨x, h1, h2, h3⟩ => by
    rcases h3 with h3 | ⟨u, h3, h4⟩
    · exact Src.base h1 h3 h2
    · exact Src.step h3 h1 h2 h4
  refine ⟨fun h => ?_, hr n⟩
  exact h (fun n => ∃ x, G.N[n]? = some x ∧ x.clear.testBit s = false ∧ (x.mark.testBit s = true ∨ ∃ u, (n, u) ∈ G.E ∧ G.Src s u)) (fun m x h1 h2 h3 => ⟨x, h1, h3, .inl h2⟩) fun m u x h1 h2 h3 h4 => ⟨x, h2, h3, .inr ⟨u, h1, hr u h4⟩⟩
open Classical in
noncomputable def srcB (G : Gr) (n s : Nat) : Bool := decide (G.Src s n)
theorem srcB_iff {G : Gr} {n s : Nat} : G.srcB n s = true ↔ G.Src s n := by simp [srcB]
noncomputable def lab (G : Gr) (n : Nat) : Nat := bitsOf (G.srcB n) 8
theorem lab_test (G : Gr) (n s : Nat) : (G.lab n).testBit s = (decide (s < 8) && G.srcB n s) := bitsOf_test _ _ _
theorem lab_lt (G : Gr) (n : Nat) : G.lab n < 256 := bitsOf_lt _ 8
end Gr
def orL (f : Nat → Nat) (l : List Nat) (m : Nat) : Nat := l.foldl (fun a u => a ||| f u) m
theorem orL_test (f : Nat → Nat) (s : Nat) : ∀ (l : List Nat) (m : Nat), (orL f l m).testBit s = (m.testBit s || l.any fun u => (f u).testBit s)
  | [], m => by simp [orL]
  | u :: l, m => by
    show (orL f l (m ||| f u)).testBit s = _
    rw [orL_test f s l, Nat.testBit_or, List.any_cons, Bool.or_assoc]
theorem orL_lt {f : Nat → Nat} (hf : ∀ u, f u < 256) : ∀ (l : List Nat) {m : Nat}, m < 256 → orL f l m < 256
  | [], _, h => h
  | _ :: l, _, h => orL_lt hf l (Nat.or_lt_two_pow (n := 8) h (hf _))
theorem orL_snoc (f : Nat → Nat) (l : List Nat) (u m : Nat) : orL f (l ++ [u]) m = orL f l m ||| f u := by simp [orL]
theorem orL_congr {f g : Nat → Nat} : ∀ {l : List Nat} {m : Nat}, (∀ u ∈ l, f u = g u) → orL f l m = orL g l m
  | [], _, _ => rfl
  | u :: l, m, h => by
    show orL f l (m ||| f u) = orL g l (m ||| g u)
    rw [h u (List.mem_cons_self ..)]
    exact orL_congr fun v hv => h v (List.mem_cons_of_mem _ hv)
def andn (x c : Nat) : Nat := x &&& (255 ^^^ c)
theorem andn_test (x c s : Nat) : (andn x c).testBit s = (x.testBit s && (decide (s < 8) ^^ c.testBit s)) := by
  unfold andn
  rw [Nat.testBit_and, Nat.testBit_xor, show (255 : Nat) = 2 ^ 8 - 1 from rfl, Nat.testBit_two_pow_sub_one]
theorem andn_lt {x c : Nat} (h : x < 256) : andn x c < 256 := by
  unfold andn
  exact Nat.lt_of_le_of_lt Nat.and_le_left h
theorem test_big {x s : Nat} (h : x < 256) (hs : 8 ≤ s) : x.testBit s = false := Nat.testBit_lt_two_pow (Nat.lt_of_lt_of_le h (Nat.pow_le_pow_right (n := 2) (by decide) hs))
theorem Gr.lab_eq {G : Gr} (hG : G.Ok) {n : Nat} {x : NodeD} (hx : G.N[n]? = some x) : andn (orL G.lab (G.ups n) x.mark) x.clear = G.lab n := by
  apply Nat.eq_of_testBit_eq
  intro s
  have hm := hG.marks x (List.mem_of_getElem? hx)
  rw [andn_test, orL_test, Gr.lab_test]
  by_cases hs : s < 8
  · rw [decide_eq_true hs, Bool.true_and, Bool.eq_iff_iff, Gr.srcB_iff, Gr.src_iff]
    simp only [Bool.and_eq_true, Bool.or_eq_true, Bool.true_xor, Bool.not_eq_true', List.any_eq_true]
    constructor
    · rintro ⟨h1, h2⟩
      refine ⟨x, hx, h2, ?_⟩
      rcases h1 with h1 | ⟨u, hu, h1⟩
      · exact .inl h1
      · rw [Gr.lab_test, decide_eq_true hs, Bool.true_and, Gr.srcB_iff] at h1
        exact .inr ⟨u, (Gr.mem_ups.1 hu).2, h1⟩
    · rintro ⟨y, hy, h2, h1⟩
      rw [hx] at hy; cases hy
      refine ⟨?_, h2⟩
      rcases h1 with h1 | ⟨u, hu, h1⟩
      · exact .inl h1
      · refine .inr ⟨u, Gr.mem_ups.2 ⟨(hG.low _ hu).2, hu⟩, ?_⟩
        rw [Gr.lab_test, decide_eq_true hs, Bool.true_and, Gr.srcB_iff]; exact h1
  · rw [decide_eq_false hs, Bool.false_and, test_big hm.1 (by omega), Bool.false_or]
    have : (G.ups n).any (fun u => (G.lab u).testBit s) = false := List.any_eq_false.2 fun u _ => by rw [test_big (G.lab_lt u) (by omega)]; decide
    rw [this, Bool.false_and]
/-! ### the numbers' bits, as Go has them -/
theorem bv_nat (n : Nat) (hn : n < 256) : (BitVec.ofInt 64 (n : Int)).toNat = n := by
  rw [BitVec.ofInt_natCast, BitVec.toNat_ofNat]; exact Nat.mod_eq_of_lt (by omega)
theorem or_256' (x u : Nat) (hx : x < 256) (hu : u < 256) : bits .or .i64 (x : Int) (u : Int) = ((x ||| u : Nat) : Int) := by
  have hx2 : x ||| u < 2 ^ 8 := Nat.or_lt_two_pow (by omega) (by omega)
  show IntKind.i64.wrap ((BitVec.ofInt 64 (x : Int) ||| BitVec.ofInt 64 (u : Int)).toNat : Int) = _
  rw [BitVec.toNat_or, bv_nat x hx, bv_nat u hu, IntWalk.i64_in _ (by omega)]
theorem andn_256 (x c : Nat) (hx : x < 256) (hc : c < 256) : bits .andNot .i64 (x : Int) (c : Int) = ((andn x c : Nat) : Int) := by
  have hx2 : andn x c < 256 := andn_lt hx
  show IntKind.i64.wrap ((BitVec.ofInt 64 (x : Int) &&& ~~~ BitVec.ofInt 64 (c : Int)).toNat : Int) = _
  have e : (BitVec.ofInt 64 (x : Int) &&& ~~~ BitVec.ofInt 64 (c : Int)).toNat = andn x c := by
    apply Nat.eq_of_testBit_eq
    intro s
    rw [andn_test, BitVec.toNat_and, Nat.testBit_and, bv_nat x hx]
    by_cases hs : s < 8
    · rw [decide_eq_true hs, BitVec.testBit_toNat, BitVec.getLsbD_not, ← BitVec.testBit_toNat, bv_nat c hc, decide_eq_true (by omega)]; simp
    · rw [test_big hx (by omega)]; simp
  rw [e, IntWalk.i64_in _ (by omega)]
/-! ### going up -/
/-- How much there is above a node, at most so far. -/
def wt (G : Gr) : Nat → Nat → Nat
  | 0, _ => 2
  | f + 1, k => 2 + ((G.ups k).map (wt G f)).sum
theorem sum_le {α : Type} {f g : α → Nat} : ∀ {l : List α}, (∀ x ∈ l, f x ≤ g x) → (l.map f).sum ≤ (l.map g).sum
  | [], _ => Nat.le_refl _
  | x :: l, h => by
    simp only [List.map_cons, List.sum_cons]
    have := h x (List.mem_cons_self ..)
    have := sum_le (l := l) fun y hy => h y (List.mem_cons_of_mem _ hy)
    omega
theorem sum_filter_le {f : Nat → Nat} (p : Nat → Bool) : ∀ {l : List Nat}, ((l.filter p).map f).sum ≤ (l.map f).sum
  | [] => Nat.le_refl _
  | x :: l => by
    have := sum_filter_le (f := f) p (l := l)
    rw [List.filter_cons]
    split <;> simp only [List.map_cons, List.sum_cons] <;> omega
theorem wt_mono (G : Gr) : ∀ (f g : Nat) (k : Nat), f ≤ g → wt G f k ≤ wt G g k
  | 0, 0, _, _ => Nat.le_refl _
  | 0, g + 1, k, _ => by unfold wt; omega
  | f + 1, 0, _, h => by omega
  | f + 1, g + 1, k, h => by
    unfold wt
    have := sum_le (l := G.ups k) fun x _ => wt_mono G f g x (by omega)
    omega
noncomputable def ww (G : Gr) (k : Nat) : Nat := wt G (G.above k).length k
theorem ww_pos (G : Gr) (k : Nat) : 2 ≤ ww G k := by
  show wt G 0 k ≤ _
  exact wt_mono G 0 (G.above k).length k (by omega)
theorem nodup_sub_len : ∀ {l m : List Nat}, l.Nodup → (∀ x ∈ l, x ∈ m) → l.length ≤ m.length
  | [], _, _, _ => Nat.zero_le _
  | x :: l, m, hd, hs => by
    rw [List.nodup_cons] at hd
    have hx := hs x (List.mem_cons_self ..)
    have h := nodup_sub_len (l := l) (m := m.erase x) hd.2 fun y hy => (List.mem_erase_of_ne (a := y) (b := x) (fun e => hd.1 (by rw [← e]; exact hy))).2 (hs y (List.mem_cons_of_mem _ hy))
    rw [List.length_erase_of_mem hx] at h
    have := List.length_pos_of_mem hx
    simp only [List.length_cons]
    omega
theorem above_less {G : Gr} (hG : G.Ok) (hA : G.Acyc) {k u : Nat} (he : (k, u) ∈ G.E) : (G.above u).length < (G.above k).length := by
  have hk := (hG.low _ he).1
  have h1 : k ∈ G.above k := Gr.mem_above.2 ⟨hk, Gr.Reach.refl G k⟩
  have h2 : ∀ x, x ∈ G.above u → x ∈ (G.above k).erase k := fun x hx => by
    obtain ⟨h3, h4⟩ := Gr.mem_above.1 hx
    have hne : x ≠ k := fun e => hA k u he (e ▸ h4)
    exact (List.mem_erase_of_ne hne).2 (Gr.mem_above.2 ⟨h3, (Gr.Reach.edge he).trans h4⟩)
  have h3 : (G.above u).Nodup := (G.above_lt u).imp fun h => Nat.ne_of_lt h
  have h4 : (G.above u).length ≤ ((G.above k).erase k).length := nodup_sub_len h3 h2
  rw [List.length_erase_of_mem h1] at h4
  have := List.length_pos_of_mem h1
  omega
theorem ww_ups {G : Gr} (hG : G.Ok) (hA : G.Acyc) {k : Nat} (p : Nat → Bool) : 2 + (((G.ups k).filter p).map (ww G)).sum ≤ ww G k ∨ G.ups k = [] := by
  by_cases h : G.ups k = []
  · exact .inr h
  · left
    obtain ⟨u, hu⟩ := List.exists_mem_of_ne_nil _ h
    have hl := above_less hG hA (Gr.mem_ups.1 hu).2
    obtain ⟨m, hm⟩ : ∃ m, (G.above k).length = m + 1 := ⟨(G.above k).length - 1, by omega⟩
    have h1 : (((G.ups k).filter p).map (ww G)).sum ≤ ((G.ups k).map (ww G)).sum := sum_filter_le p
    have h2 : ((G.ups k).map (ww G)).sum ≤ ((G.ups k).map (wt G m)).sum := sum_le fun x hx => by
      have := above_less hG hA (Gr.mem_ups.1 hx).2
      exact wt_mono G _ _ x (by omega)
    have h3 : ww G k = 2 + ((G.ups k).map (wt G m)).sum := by unfold ww; rw [hm]; rfl
    omega
/-- The rows of nodes on the way: a row for each node that is open, its own first one in front. -/
inductive Fr (G : Gr) (D : Nat → Bool) (n : Nat) : List (List Nat) → Prop
  | none (h : D n = true) : Fr G D n []
  | one : Fr G D n [[n]]
  | more {k : Nat} {sib : List Nat} {rest : List (List Nat)} {f : List Nat} (h0 : f ≠ []) (h1 : ∀ x ∈ f, (k, x) ∈ G.E) (h2 : ∀ u, (k, u) ∈ G.E → D u = true ∨ u ∈ f) (h3 : f.length ≤ G.N.length) (h : Fr G D n ((k :: sib) :: rest)) : Fr G D n (f :: (k :: sib) :: rest)
def addD (D : Nat → Bool) (k : Nat) : Nat → Bool := fun t => D t || decide (t = k)
theorem addD_old {D : Nat → Bool} {k t : Nat} (h : D t = true) : addD D k t = true := by simp [addD, h]
theorem addD_new (D : Nat → Bool) (k : Nat) : addD D k k = true := by simp [addD]
theorem Fr.mono {G : Gr} {D D' : Nat → Bool} {n : Nat} (hd : ∀ t, D t = true → D' t = true) {fr : List (List Nat)} (h : Fr G D n fr) : Fr G D' n fr := by
  induction h with
  | none h => exact .none (hd _ h)
  | one => exact .one
  | more h0 h1 h2 h3 _ ih => exact .more h0 h1 (fun u hu => (h2 u hu).imp (hd u) id) h3 ih
def popF : List (List Nat) → List (List Nat)
  | (_ :: y :: sib) :: rest => (y :: sib) :: rest
  | _ :: rest => rest
  | [] => []
def stkF (fr : List (List Nat)) : List Nat := fr.flatten.reverse
theorem stkF_top (k : Nat) (sib : List Nat) (rest : List (List Nat)) : stkF ((k :: sib) :: rest) = stkF (popF ((k :: sib) :: rest)) ++ [k] := by
  cases sib <;> simp [stkF, popF]
theorem stkF_push (U : List Nat) (fr : List (List Nat)) : stkF (U.reverse :: fr) = stkF fr ++ U := by simp [stkF]
theorem Fr.top {G : Gr} {D : Nat → Bool} {n : Nat} {f : List Nat} {rest : List (List Nat)} (h : Fr G D n (f :: rest)) : ∃ k sib, f = k :: sib := by
  cases h with
  | one => exact ⟨_, _, rfl⟩
  | more h0 => exact List.exists_cons_of_ne_nil h0
theorem Fr.push {G : Gr} {D : Nat → Bool} {n k : Nat} {sib : List Nat} {rest : List (List Nat)} {U : List Nat} (h : Fr G D n ((k :: sib) :: rest)) (hG : G.Ok) (hU : (G.ups k).filter (fun u => !D u) = U) (hne : U ≠ []) : Fr G D n (U.reverse :: (k :: sib) :: rest) := by
  subst hU
  refine .more (by simpa using hne) (fun x hx => ?_) (fun u hu => ?_) ?_ h
  · have := (List.mem_filter.1 (List.mem_reverse.1 hx)).1
    exact (Gr.mem_ups.1 this).2
  · cases hd : D u with
    | true => exact .inl rfl
    | false => exact .inr (List.mem_reverse.2 (List.mem_filter.2 ⟨Gr.mem_ups.2 ⟨(hG.low _ hu).2, hu⟩, by simp [hd]⟩))
  · rw [List.length_reverse]
    have := List.length_filter_le (fun u => !D u) (G.ups k)
    have := G.ups_len k
    omega
theorem Fr.pop {G : Gr} {D : Nat → Bool} {n k : Nat} {sib : List Nat} {rest : List (List Nat)} (h : Fr G D n ((k :: sib) :: rest)) : Fr G (addD D k) n (popF ((k :: sib) :: rest)) ∧
    (sib = [] → ∀ k' sib' rest', rest = (k' :: sib') :: rest' → ∀ u, (k', u) ∈ G.E → addD D k u = true) := by
  cases h with
  | one => exact ⟨.none (addD_new D n), fun _ k' sib' rest' h => by cases h⟩
  | more h0 h1 h2 h3 h =>
    cases sib with
    | nil =>
      refine ⟨h.mono fun t ht => addD_old ht, fun _ k' sib' rest' he u hu => ?_⟩
      simp only [List.cons.injEq] at he
      obtain ⟨⟨rfl, _⟩, _⟩ := he
      rcases h2 u hu with h4 | h4
      · exact addD_old h4
      · rw [List.mem_singleton.1 h4]; exact addD_new D k
    | cons y sib =>
      refine ⟨.more (by simp) (fun x hx => h1 x (List.mem_cons_of_mem _ hx)) (fun u hu => ?_) (by simp only [List.length_cons] at h3 ⊢; omega) (h.mono fun t ht => addD_old ht), fun e => by cases e⟩
      rcases h2 u hu with h4 | h4
      · exact .inl (addD_old h4)
      · rcases List.mem_cons.1 h4 with rfl | h4
        · exact .inl (addD_new D u)
        · exact .inr h4
theorem Fr.depth {G : Gr} (hG : G.Ok) (hA : G.Acyc) {D : Nat → Bool} {n : Nat} {fr : List (List Nat)} (h : Fr G D n fr) : ∀ k sib rest, fr = (k :: sib) :: rest → (G.above k).length + rest.length ≤ (G.above n).length := by
  induction h with
  | none => intro _ _ _ h; cases h
  | one => intro k sib rest h; simp only [List.cons.injEq] at h; obtain ⟨⟨rfl, _⟩, rfl⟩ := h; simp
  | more h0 h1 h2 h3 _ ih =>
    intro k sib rest h
    simp only [List.cons.injEq] at h
    obtain ⟨rfl, rfl⟩ := h
    have h4 := ih _ _ _ rfl
    have h5 := above_less hG hA (h1 k (List.mem_cons_self ..))
    simp only [List.length_cons]
    omega
theorem Fr.rows {G : Gr} {D : Nat → Bool} {n : Nat} {fr : List (List Nat)} (h : Fr G D n fr) : fr.flatten.length ≤ fr.length * (G.N.length + 1) := by
  induction h with
  | none => simp
  | one => simp
  | more h0 h1 h2 h3 _ ih =>
    simp only [List.flatten_cons, List.length_append, List.length_cons] at ih ⊢
    simp only [Nat.add_mul] at ih ⊢
    omega
theorem Fr.len {G : Gr} (hG : G.Ok) (hA : G.Acyc) {D : Nat → Bool} {n : Nat} {fr : List (List Nat)} (h : Fr G D n fr) : (stkF fr).length ≤ 16785409 := by
  have h1 := h.rows
  have hgl := hG.len
  have h2 : fr.length ≤ 4097 := by
    cases fr with
    | nil => simp
    | cons f rest =>
      obtain ⟨k, sib, rfl⟩ := h.top
      have h3 := h.depth hG hA k sib rest rfl
      have := G.above_len n
      simp only [List.length_cons]; omega
  have h4 : fr.length * (G.N.length + 1) ≤ 4097 * 4097 := Nat.mul_le_mul h2 (by omega)
  unfold stkF
  rw [List.length_reverse]
  omega
theorem Fr.low {G : Gr} (hG : G.Ok) {D : Nat → Bool} {n : Nat} (hn : n < G.N.length) {fr : List (List Nat)} (h : Fr G D n fr) : ∀ f ∈ fr, ∀ x ∈ f, x < G.N.length := by
  induction h with
  | none => intro f hf; cases hf
  | one => intro f hf x hx; rw [List.mem_singleton.1 hf] at hx; rw [List.mem_singleton.1 hx]; exact hn
  | more h0 h1 h2 h3 _ ih =>
    intro f hf x hx
    rcases List.mem_cons.1 hf with rfl | hf
    · exact (hG.low _ (h1 x hx)).2
    · exact ih f hf x hx
noncomputable def topW (G : Gr) (D : Nat → Bool) (k : Nat) : Nat := if (G.ups k).all D then 1 else ww G k
theorem topW_le (G : Gr) (D : Nat → Bool) (k : Nat) : topW G D k ≤ ww G k := by
  unfold topW
  have := ww_pos G k
  split <;> omega
noncomputable def lowS (G : Gr) (fr : List (List Nat)) : Nat := (fr.map fun f => 1 + ((f.tail).map (ww G)).sum).sum
noncomputable def msF (G : Gr) (D : Nat → Bool) : List (List Nat) → Nat
  | (k :: sib) :: rest => topW G D k + (sib.map (ww G)).sum + lowS G rest
  | _ => 0
theorem msF_push {G : Gr} (hG : G.Ok) (hA : G.Acyc) {D : Nat → Bool} {k : Nat} {sib : List Nat} {rest : List (List Nat)} {U : List Nat} (hU : (G.ups k).filter (fun u => !D u) = U) (hne : U ≠ []) : msF G D (U.reverse :: (k :: sib) :: rest) < msF G D ((k :: sib) :: rest) := by
  have hw := ww_ups hG hA (k := k) fun u => !D u
  rw [hU] at hw
  have hnil : G.ups k ≠ [] := fun e => hne (by rw [← hU, e]; rfl)
  have hw := hw.resolve_right hnil
  have ht : topW G D k = ww G k := by
    unfold topW
    rw [if_neg]
    intro h
    apply hne
    rw [← hU]
    exact List.filter_eq_nil_iff.2 fun u hu => by simp [List.all_eq_true.1 h u hu]
  have hs : (U.reverse.map (ww G)).sum = (U.map (ww G)).sum := by rw [List.map_reverse, List.sum_reverse]
  obtain ⟨x, xs, hx⟩ := List.exists_cons_of_ne_nil (show U.reverse ≠ [] by simpa using hne)
  rw [hx] at hs ⊢
  simp only [List.map_cons, List.sum_cons] at hs
  have := topW_le G D x
  unfold msF lowS
  simp only [List.map_cons, List.sum_cons, List.tail_cons, ht]
  omega
theorem msF_pop {G : Gr} {D : Nat → Bool} {n k : Nat} {sib : List Nat} {rest : List (List Nat)} (h : Fr G D n ((k :: sib) :: rest)) (hall : (G.ups k).all D = true) : msF G (addD D k) (popF ((k :: sib) :: rest)) < msF G D ((k :: sib) :: rest) := by
  have ht : topW G D k = 1 := by unfold topW; rw [if_pos hall]
  have hp := h.pop.2
  cases sib with
  | cons y sib =>
    have := topW_le G (addD D k) y
    unfold popF msF
    simp only [List.map_cons, List.sum_cons, ht]
    omega
  | nil =>
    cases rest with
    | nil => unfold popF msF; simp [ht, lowS]
    | cons f rest =>
      have hf : Fr G D n (f :: rest) := by
        cases h with
        | more _ _ _ _ h => exact h
      obtain ⟨k', sib', rfl⟩ := hf.top
      have h3 := hp rfl k' sib' rest rfl
      have h4 : topW G (addD D k) k' = 1 := by
        unfold topW
        rw [if_pos (List.all_eq_true.2 fun u hu => h3 u (Gr.mem_ups.1 hu).2)]
      unfold popF msF
      simp only [h4, ht, lowS, List.map_cons, List.sum_cons, List.tail_cons, List.map_nil, List.sum_nil]
      omega
/-! ### a measure that may look at what is only there -/
theorem exists_min {P : Nat → Prop} : ∀ m, P m → ∃ m, P m ∧ ∀ j, P j → m ≤ j := by
  intro m
  induction m using Nat.strongRecOn with
  | ind m ih =>
    intro h
    by_cases h2 : ∃ j, j < m ∧ P j
    · obtain ⟨j, hj, hp⟩ := h2
      exact ih j hj hp
    · exact ⟨m, h, fun j hj => by
        rcases Nat.lt_or_ge j m with h3 | h3
        · exact absurd ⟨j, h3, hj⟩ h2
        · exact h3⟩
theorem minT_ex {σ : Type} {R : σ → Prop} {T : σ → Nat} (h : ∃ st, R st) : ∃ m, (∃ st, R st ∧ T st = m) ∧ ∀ j, (∃ st, R st ∧ T st = j) → m ≤ j := by
  obtain ⟨st, hs⟩ := h
  exact exists_min (P := fun m => ∃ st, R st ∧ T st = m) (T st) ⟨st, hs, rfl⟩
open Classical in
noncomputable def minT {σ : Type} (R : σ → Prop) (T : σ → Nat) : Nat := if h : ∃ st, R st then Classical.choose (minT_ex (T := T) h) else 0
theorem minT_get {σ : Type} {R : σ → Prop} {T : σ → Nat} (h : ∃ st, R st) : ∃ st, R st ∧ T st = minT R T := by
  unfold minT
  rw [dif_pos h]
  exact (Classical.choose_spec (minT_ex (T := T) h)).1
theorem minT_le {σ : Type} {R : σ → Prop} {T : σ → Nat} {st : σ} (h : R st) : minT R T ≤ T st := by
  have h2 : ∃ st, R st := ⟨st, h⟩
  unfold minT
  rw [dif_pos h2]
  exact (Classical.choose_spec (minT_ex (T := T) h2)).2 _ ⟨st, h, rfl⟩
end Go.Proofs.YtpnbdnfgdiakhaaGreat
namespace Go.Sep
open Go
/-- The first ones of a row. -/
theorem Sat.irTake {W w : World} {L : List Asrt} {ao : Option Addr} {c : Nat} {l : List Nat} (h : Sat W w (Ir (.slice ao l.length c) l :: L)) (k : Nat) (hk : k ≤ l.length) : Sat W w (Ir (.slice ao k c) (l.take k) :: L) := by
  have hl : (l.take k).length = k := by rw [List.length_take]; omega
  unfold Ir at h ⊢
  rcases h.slOpen with ⟨h1, h2, h3, h4⟩ | ⟨E', b', off', cap, pre, rest, h1, g1, g2, g3, g4, g5, h5⟩
  · simp only [Value.slice.injEq] at h1
    obtain ⟨rfl, h6, rfl⟩ := h1
    obtain rfl : k = 0 := by omega
    have := h4.slNil (E := 0) (sz := 1)
    simpa [iv] using this
  · simp only [Value.slice.injEq, true_and] at h1
    obtain ⟨rfl, rfl⟩ := h1
    rw [hl]
    refine Sat.slMk (E' := E') (pre := pre) (vs := iv (l.take k)) (rest := iv (l.drop k) ++ rest) ?_ (by omega) g2 (by rw [iv_length, hl]; omega) g4 (by rw [List.length_append, iv_length, iv_length, List.length_take, List.length_drop]; rw [iv_length] at g5; omega)
    have e : pre ++ iv (l.take k) ++ (iv (l.drop k) ++ rest) = pre ++ iv l ++ rest := by
      rw [List.append_assoc, ← List.append_assoc (iv (l.take k)), ← iv_append, List.take_append_drop, List.append_assoc]
    rw [e]
    exact h5
theorem Sat.irAddr {W w : World} {L : List Asrt} {k n : Nat} {ao : Option Addr} {c : Nat} {l : List Nat} (h : Sat W w L) (hk : Has L k (Ir (.slice ao n c) l)) (hl : l.length = n) (hn : 0 < n) : ∃ b o, ao = some ⟨b, o, none⟩ := by
  obtain ⟨_, _, he, h1, h2, h3, h5⟩ := h.irRd hk
  obtain ⟨b', o', h6, _⟩ := h5 (by omega)
  simp only [Value.slice.injEq] at he
  exact ⟨b', o', by rw [he.1, h6]⟩
end Go.Sep
namespace Go.Proofs.YtpnbdnfgdiakhaaGreat
open Go.RowKit Go.Sep
set_option linter.unusedSimpArgs false
set_option linter.unusedVariables false
attribute [local irreducible] Go.Oper.wp Go.wpList Go.Calls Go.Code.wp Go.Sep.Reg
attribute [local irreducible] IsG
def il (f : Nat → Nat) (n : Nat) : List Value := (List.range n).map fun k => .int .i64 (f k : Int)
theorem il_len (f : Nat → Nat) (n : Nat) : (il f n).length = n := by simp [il]
theorem il_at {f : Nat → Nat} {n k : Nat} (h : k < n) : (il f n)[k]? = some (.int .i64 (f k : Int)) := by simp [il, h]
def setF (f : Nat → Nat) (k x : Nat) : Nat → Nat := fun t => if t = k then x else f t
theorem il_set {f : Nat → Nat} {n k : Nat} (x : Nat) (h : k < n) : (il f n).set k (.int .i64 (x : Int)) = il (setF f k x) n := by
  apply List.ext_getElem?
  intro i
  rw [List.getElem?_set, il_len]
  by_cases hi : k = i
  · subst hi; rw [if_pos rfl, if_pos h, il_at h]; simp [setF]
  · rw [if_neg hi]
    by_cases h2 : i < n
    · rw [il_at h2, il_at h2]; simp [setF, Ne.symm hi]
    · rw [List.getElem?_eq_none (by rw [il_len]; omega), List.getElem?_eq_none (by rw [il_len]; omega)]
theorem il_congr {f g : Nat → Nat} {n : Nat} (h : ∀ k, k < n → f k = g k) : il f n = il g n := by
  unfold il
  refine List.map_congr_left fun k hk => ?_
  rw [h k (List.mem_range.1 hk)]
theorem made_int (n : Nat) : (madeCells (Value.int .i64 0).cells (n * 1)).toList = il (fun _ => 0) n := by
  simp [madeCells, Value.cells, Nat.mod_one, List.map_const', il]
structure LbOk (G : Gr) (n : Nat) (D : Nat → Bool) (F : Nat → Nat) : Prop where
  lab : ∀ k, D k = true → F k = G.lab k
  old : ∀ k, k < n → D k = true
  small : ∀ k, F k < 256
theorem LbOk.put {G : Gr} {n : Nat} {D : Nat → Bool} {F : Nat → Nat} (h : LbOk G n D F) (k : Nat) : LbOk G n (addD D k) (setF F k (G.lab k)) where
  lab := fun t ht => by
    unfold setF
    split
    · rename_i e; rw [e]
    · rename_i e
      refine h.lab t ?_
      simpa [addD, e] using ht
  old := fun t ht => addD_old (h.old t ht)
  small := fun t => by
    unfold setF
    split
    · exact G.lab_lt _
    · exact h.small t
abbrev LbSt := List (List Nat) × (Nat → Bool) × (Nat → Nat)
def LbInv (W : World) (p bd lb : Nat) (G : Gr) (L : List Asrt) (n : Nat) (st : LbSt) (v : Value) (w : World) : Prop :=
  Fr G st.2.1 n st.1 ∧ LbOk G n st.2.1 st.2.2 ∧ Sat W w (Ir v (stkF st.1) :: Cs bd 4 (bl st.2.1 G.N.length) :: Cs lb 3 (il st.2.2 G.N.length) :: IsG p G :: L)
noncomputable def LbT (G : Gr) (st : LbSt) : Nat := msF G st.2.1 st.1
theorem filter_next {p : Nat → Bool} {l : List Nat} {i u : Nat} (h : l[i]? = some u) : (l.take (i + 1)).filter p = (l.take i).filter p ++ (if p u then [u] else []) := by
  rw [List.take_add_one, h, List.filter_append]
  congr 1
  cases hp : p u <;> simp [hp]
theorem orL_next {f : Nat → Nat} {l : List Nat} {i u m : Nat} (h : l[i]? = some u) : orL f (l.take (i + 1)) m = orL f (l.take i) m ||| f u := by
  rw [List.take_add_one, h]
  exact orL_snoc f _ u m
theorem drop2L {W w : World} {A B C D : Asrt} {L : List Asrt} (h : Sat W w (C :: D :: A :: B :: L)) : Sat W w (C :: D :: L) := (h.re [2, 3]).drop.drop
theorem drop6L {W w : World} {A B C D E F : Asrt} {L : List Asrt} (h : Sat W w (A :: B :: C :: D :: E :: F :: L)) : Sat W w (A :: E :: F :: C :: L) := (h.re [1, 3, 0, 4, 5, 2]).drop.drop
theorem drop5L {W w : World} {A B C D E : Asrt} {L : List Asrt} (h : Sat W w (A :: B :: C :: D :: E :: L)) : Sat W w (A :: D :: E :: C :: L) := (h.re [1, 0, 3, 4, 2]).drop
set_option maxRecDepth 20000 in
set_option maxHeartbeats 4000000 in
theorem all_any {W w : World} {L : List Asrt} {p : Nat} {G : Gr} (hS : Sat W w (IsG p G :: L)) (hG : G.Ok) (hA : G.Acyc) :
    Calls Tryz.prog 21 #[.pointer (some ⟨p, 0, none⟩)] w fun e w' => ∃ b, e = .returned (.slice (some ⟨b, 0, none⟩) G.N.length G.N.length) ∧ Sat W w' (Cs b 3 (il G.lab G.N.length) :: IsG p G :: L) := by
  have HG := Lib.hid hG
  have HA := Lib.hid hA
  have hnl : (G.N.length : Int) ≤ 4096 := by have := hG.len; omega
  clear hG hA
  go_enter Tryz.func21, Tryz.ntmps21
  go_wp2_with (first
    | (go_at_call 45; refine (len_any hS rfl).mono ?_; rintro e w1 ⟨rfl, rfl⟩)
    | (go_at_call 45; refine (len_any hS.pull1 rfl).mono ?_; rintro e w1 ⟨rfl, rfl⟩)
    | (go_at_call 45; refine (len_any (hS.re [2]) rfl).mono ?_; rintro e w1 ⟨rfl, rfl⟩)
    | (refine toList (by rfl) ?_; refine mk (show Sat W _ (IsG p G :: L) from hS) _ _ _ (by rfl) G.N.length G.N.length _ _ (by rfl) (by rfl) (elOf (by rfl)) (by omega) (by omega) (by omega) ?_; intro lb w1 hS1; clear hS; have hS := hS1; clear hS1; rw [made_int] at hS)
    | (refine toList (by rfl) ?_; refine mk hS _ _ _ (by rfl) G.N.length G.N.length _ _ (by rfl) (by rfl) (elOf (by rfl)) (by omega) (by omega) (by omega) ?_; intro bd w1 hS1; clear hS; have hS := hS1; clear hS1; rw [made_bool] at hS))
  have H0 := Lib.hid hS.irNil
  go_loopw [5, 25] (fun v5 v25 wz => ∃ (n : Nat) (td : List Nat) (D : Nat → Bool) (F : Nat → Nat), v25 = .int .i64 n ∧ n ≤ G.N.length ∧ LbOk G n D F ∧ Sat W wz (Ir v5 td :: Cs bd 4 (bl D G.N.length) :: Cs lb 3 (il F G.N.length) :: IsG p G :: L)) (fun _ v25 _ => G.N.length - (intOf v25).toNat)
  case atStart => exact ⟨0, [], fun _ => false, fun _ => 0, rfl, by omega, ⟨(fun k h => by cases h), (fun k h => by omega), (fun k => by decide)⟩, H0.out⟩
  case round =>
    clear hS H0
    obtain ⟨n, td, D, F, rfl, hn, hok, hS⟩ := hrel
    have HOK := Lib.hid hok
    clear hok
    by_cases hl : n < G.N.length
    · have k1 : (n : Int) < (G.N.length : Int) := by omega
      have HNL := Lib.hid hl
      obtain ⟨ao, c, rfl, _⟩ := hS.irShape (k := 0) rfl
      replace hS := hS.irTake 0 (Nat.zero_le _)
      rw [List.take_zero] at hS
      clear hl
      go_wp2_with (first
        | (refine toList (by rfl) ?_; refine bsF hS _ _ _ (by rfl) (elOf (by rfl)) [.int .i64 n] (by rfl) (by rfl) (by decide) (by decide) (by simp [Value.cells]) ?_; intro b1 w1 hS1; clear hS; have hS := hS1; clear hS1; rw [sca1 rfl] at hS)
        | (refine toList (by rfl) ?_; refine apI (m := [n]) hS _ _ _ _ (by rfl) (by rfl) (by rfl) (elOf (by rfl)) (by rfl) (by rfl) (by rfl) (inOf (by rfl)) (Has.s Has.z) (by exact hS.csRd0 (n := 1) (sz := 1) Has.z (by decide) rfl) (by simp) ?_; intro v1 w1 hS1; clear hS; have hS := hS1; clear hS1; dsimp only [List.set_cons_zero, List.set_cons_succ, List.nil_append] at hS))
      have H1 : Hid (LbInv W p bd lb G L n ([[n]], D, F) _ _) := Lib.hid ⟨.one, HOK.out, hS.drop⟩
      go_loopw [5] (fun v wz => ∃ st, LbInv W p bd lb G L n st v wz) (fun v wz => minT (fun st => LbInv W p bd lb G L n st v wz) (LbT G))
      case atStart => exact ⟨_, H1.out⟩
      case round =>
        clear hS H1 HOK
        obtain ⟨⟨fr, D, F⟩, ⟨hfr, hok, hS⟩, hmin⟩ := minT_get (T := LbT G) hrel
        dsimp only at hfr hok hS
        clear hrel
        cases fr with
        | nil =>
          have hD : D n = true := by cases hfr; assumption
          have HD := Lib.hid hD
          have HOK := Lib.hid hok
          replace hS : Sat W _ (Ir _ [] :: _) := hS
          obtain ⟨a5, c5, rfl, _⟩ := hS.irShape (k := 0) rfl
          clear hD hok hfr hmin
          go_wp2
          exact ⟨⟨n + 1, [], D, F, by go_num, HNL.out, ⟨HOK.out.lab, (fun t ht => by
            by_cases e : t = n
            · rw [e]; exact HD.out
            · exact HOK.out.old t (by omega)), HOK.out.small⟩, hS⟩, by simp [intOf]; have := HNL.out; omega⟩
        | cons f rest =>
          obtain ⟨k, sib, rfl⟩ := hfr.top
          have hkl := hfr.low HG.out HNL.out _ (List.mem_cons_self ..) k (List.mem_cons_self ..)
          have hslen := hfr.len HG.out HA.out
          obtain ⟨S, hSd⟩ : ∃ S, stkF ((k :: sib) :: rest) = S := ⟨_, rfl⟩
          obtain ⟨s0, hs0⟩ : ∃ s0, stkF (popF ((k :: sib) :: rest)) = s0 := ⟨_, rfl⟩
          have hS0 : S = s0 ++ [k] := by rw [← hSd, ← hs0]; exact stkF_top k sib rest
          rw [hSd] at hS hslen
          obtain ⟨m, hm⟩ : ∃ m, s0.length = m := ⟨_, rfl⟩
          have hSl : S.length = m + 1 := by rw [hS0, List.length_append, hm]; rfl
          have HSK := Lib.hid (show S[m]? = some k by rw [hS0, ← hm]; simp)
          have HST := Lib.hid (show S.take m = s0 by rw [hS0, ← hm]; simp)
          have HSD := Lib.hid hSd
          have HS0 := Lib.hid hs0
          have HFR := Lib.hid hfr
          have HOK := Lib.hid hok
          have HMIN := Lib.hid hmin
          obtain ⟨a5, c5, rfl, hc5⟩ := hS.irShape (k := 0) rfl
          obtain ⟨b5, o5, rfl⟩ := hS.irAddr (k := 0) rfl rfl (by omega)
          obtain ⟨us, hus⟩ : ∃ us, G.ups k = us := ⟨_, rfl⟩
          obtain ⟨⟨x1, x2, x3, x4, x5, x6⟩, hx⟩ : ∃ x, G.N[k]? = some x := ⟨_, List.getElem?_eq_getElem hkl⟩
          have hmk := HG.out.marks _ (List.mem_of_getElem? hx)
          dsimp only at hmk
          have HMK := Lib.hid hmk
          have HEQ := Lib.hid (show andn (orL G.lab us x4) x5 = G.lab k by rw [← hus]; exact Gr.lab_eq HG.out hx)
          have HUS := Lib.hid hus
          have hul : us.length ≤ 4096 := by rw [← hus]; have := G.ups_len k; have := HG.out.len; omega
          have HLOW := Lib.hid (show ∀ u ∈ us, u < G.N.length by intro u hu; rw [← hus] at hu; exact (Gr.mem_ups.1 hu).1)
          have HUPS := Lib.hid (fun w L (h : Sat W w (IsG p G :: L)) => (show Calls Tryz.prog 46 #[.pointer (some ⟨p, 0, none⟩), .int .i64 (k : Int)] w fun e w' => ∃ v, e = .returned v ∧ Sat W w' (Ir v us :: IsG p G :: L) by
            have := ups_any h (k : Int) HG.out.len
            rw [Gr.upsI_nat hkl, hus] at this
            exact this))
          have HNODE := Lib.hid (fun w (L : List Asrt) (h : Sat W w (IsG p G :: L)) => (show Calls Tryz.prog 20 #[.pointer (some ⟨p, 0, none⟩), .int .i64 (k : Int)] w fun e w' =>
              e = .returned (.tuple #[.agg #[.int .i64 x1, .int .i64 x2, .int .i64 (x3 : Int), .int .i64 (x4 : Int), .int .i64 (x5 : Int), .bool x6], .bool true]) ∧ Sat W w' (IsG p G :: L) by
            have := node_any h (k : Int)
            rw [Gr.is_mk hkl, Gr.nodeI_at hx] at this
            exact this))
          have HKL := Lib.hid hkl
          have k2 : (k : Int) < (G.N.length : Int) := by omega
          have hm1 : (S.length : Int) - 1 = (m : Int) := by omega
          have hm2 : (0 : Int) < (S.length : Int) := by omega
          have hm3 : decide (0 < S.length) = true := decide_eq_true (by omega)
          have hm4 : (S.length : Int) ≤ 16785409 := by omega
          have hm5 : (m : Int) < (S.length : Int) := by omega
          have HM := Lib.hid hSl
          clear hfr hok hmin hkl hslen hSd hs0 hS0 hm hSl hus hx hmk
          go_wp2_with (first
            | (refine toList (by rfl) ?_; refine ldSl hS _ _ (by rfl) _ _ (by rfl) (agOf (by rfl)) Has.z m (by omega) (iv_at HSK.out) ?_)
            | (go_at_call 46; refine (HUPS.out _ _ (hS.re [3])).mono ?_; rintro e w1 ⟨vu, rfl, hS1⟩; clear hS; have hS := hS1; clear hS1; obtain ⟨au, cu, rfl, _⟩ := hS.irShape (k := 0) rfl))
          have H2 : Hid (Sat W _ (Ir (.slice (some ⟨b5, o5, none⟩) S.length c5) (S ++ (us.take 0).filter fun u => !D u) :: Ir (.slice au us.length cu) us :: IsG p G :: Cs bd 4 (bl D G.N.length) :: Cs lb 3 (il F G.N.length) :: L)) := Lib.hid (by
            rw [List.take_zero, List.filter_nil, List.append_nil]
            exact hS.re [2, 0, 1])
          go_loopw [5, 49] (fun v5 v49 wz => ∃ i : Nat, v49 = .int .i64 i ∧ i ≤ us.length ∧ Sat W wz (Ir v5 (S ++ (us.take i).filter fun u => !D u) :: Ir (.slice au us.length cu) us :: IsG p G :: Cs bd 4 (bl D G.N.length) :: Cs lb 3 (il F G.N.length) :: L)) (fun _ v49 _ => us.length - (intOf v49).toNat)
          case atStart => exact ⟨0, rfl, by omega, H2.out⟩
          case round =>
            clear hS H2
            obtain ⟨i, rfl, hi, hS⟩ := hrel
            by_cases hl : i < us.length
            · have i1 : (i : Int) < (us.length : Int) := by omega
              obtain ⟨u, hu⟩ : ∃ u, us[i]? = some u := ⟨_, List.getElem?_eq_getElem hl⟩
              have HU := Lib.hid hu
              have hul2 := HLOW.out u (List.mem_of_getElem? hu)
              have u1 : (u : Int) < (G.N.length : Int) := by omega
              have hb := bl_at (S := D) hul2
              have HIL := Lib.hid hl
              have hfn := filter_next (p := fun u => !D u) hu
              obtain ⟨b6, o6, rfl⟩ := hS.irAddr (k := 1) rfl rfl (by omega)
              have hbnd : (S ++ (us.take i).filter fun u => !D u).length ≤ 16789505 := by
                have := List.length_filter_le (fun u => !D u) (us.take i)
                rw [List.length_take] at this
                rw [List.length_append]; omega
              obtain ⟨T, hT⟩ : ∃ T, (S ++ (us.take i).filter fun u => !D u) = T := ⟨_, rfl⟩
              rw [hT] at hS hbnd
              obtain ⟨a7, c7, rfl, _⟩ := hS.irShape (k := 0) rfl
              clear hu hul2 hl
              cases hd : D u
              · rw [hd] at hb
                rw [hd, Bool.not_false, if_pos rfl] at hfn
                have HB := Lib.hid hb
                have HFN := Lib.hid (show (S ++ (us.take (i + 1)).filter fun u => !D u) = T ++ [u] by rw [hfn, ← List.append_assoc, hT])
                have HBN := Lib.hid hbnd
                clear hb hd hfn hT hbnd
                go_wp2_with (first
                  | (refine toList (by rfl) ?_; refine ldSl hS _ _ (by rfl) _ _ (by rfl) (agOf (by rfl)) (Has.s Has.z) i (by omega) (iv_at HU.out) ?_)
                  | (refine toList (by rfl) ?_; refine ld hS _ _ (by rfl) _ _ (by rfl) (agOf (by rfl)) (Has.s (Has.s (Has.s Has.z))) HB.out ?_)
                  | (refine toList (by rfl) ?_; refine bsF hS _ _ _ (by rfl) (elOf (by rfl)) [.int .i64 u] (by rfl) (by rfl) (by decide) (by decide) (by simp [Value.cells]) ?_; intro b1 w1 hS1; clear hS; have hS := hS1; clear hS1; rw [sca1 rfl] at hS)
                  | (refine toList (by rfl) ?_; refine apI (m := [u]) hS _ _ _ _ (by rfl) (by rfl) (by rfl) (elOf (by rfl)) (by rfl) (by rfl) (by rfl) (inOf (by rfl)) (Has.s Has.z) (by exact hS.csRd0 (n := 1) (sz := 1) Has.z (by decide) rfl) (by have := HBN.out; rw [List.length_singleton]; omega) ?_; intro v1 w1 hS1; clear hS; have hS := hS1; clear hS1; dsimp only [List.set_cons_zero, List.set_cons_succ] at hS; rw [← HFN.out] at hS))
                exact ⟨⟨i + 1, by go_num, HIL.out, hS.drop⟩, by simp [intOf]; have := HIL.out; omega⟩
              · rw [hd] at hb
                rw [hd, Bool.not_true, if_neg (by decide), List.append_nil] at hfn
                have HB := Lib.hid hb
                have HFN := Lib.hid (show T = S ++ (us.take (i + 1)).filter fun u => !D u by rw [hfn, hT])
                clear hb hd hfn hT hbnd
                go_wp2_with (first
                  | (refine toList (by rfl) ?_; refine ldSl hS _ _ (by rfl) _ _ (by rfl) (agOf (by rfl)) (Has.s Has.z) i (by omega) (iv_at HU.out) ?_)
                  | (refine toList (by rfl) ?_; refine ld hS _ _ (by rfl) _ _ (by rfl) (agOf (by rfl)) (Has.s (Has.s (Has.s Has.z))) HB.out ?_))
                exact ⟨⟨i + 1, by go_num, HIL.out, by rw [← HFN.out]; exact hS⟩, by simp [intOf]; have := HIL.out; omega⟩
            · have i1 : ¬ (i : Int) < (us.length : Int) := by omega
              obtain rfl : i = us.length := by omega
              clear hl
              rw [List.take_length] at hS
              obtain ⟨U, hU⟩ : ∃ U, (us.filter fun u => !D u) = U := ⟨_, rfl⟩
              rw [hU] at hS
              by_cases hne : U = []
              · subst hne
                rw [List.append_nil] at hS
                have HALL := Lib.hid (show ∀ u ∈ us, D u = true by
                  intro u hu
                  have := List.filter_eq_nil_iff.1 hU u hu
                  simpa using this)
                obtain ⟨a6, c6, rfl, hc6⟩ := hS.irShape (k := 0) rfl
                obtain ⟨b6, o6, rfl⟩ := hS.irAddr (k := 0) rfl rfl (by omega)
                have hmc : (m : Int) ≤ (c6 : Int) := by omega
                clear hU
                go_wp2_with (first
                  | (go_at_call 20; refine (HNODE.out _ _ (hS.re [2])).mono ?_; rintro e w1 ⟨rfl, hS1⟩; clear hS; have hS := hS1; clear hS1)
                  | (refine toList (by rfl) ?_; refine al hS _ (by rfl) (zrOf (by rfl)) ?_; intro px w1 hS1; clear hS; have hS := hS1; clear hS1; rw [cells_agg] at hS)
                  | (refine toList (by rfl) ?_; refine stW hS _ _ _ (by rfl) (by rfl) [.int .i64 x1, .int .i64 x2, .int .i64 (x3 : Int), .int .i64 (x4 : Int), .int .i64 (x5 : Int), .bool x6] (by rfl) (by simp [Value.oneCell']) (szOf (by rfl)) Has.z rfl ?_; intro w1 hS1; clear hS; have hS := hS1; clear hS1; dsimp only [List.set_cons_zero] at hS)
                  | (refine toList (by rfl) ?_; refine ld hS _ _ (by rfl) _ _ (by rfl) (agOf (by rfl)) Has.z (by rfl) ?_))
                have H3 := Lib.hid hS
                go_loopw [14, 77] (fun v14 v77 wz => ∃ i : Nat, v77 = .int .i64 i ∧ i ≤ us.length ∧ v14 = .int .i64 (orL F (us.take i) x4 : Nat) ∧ Sat W wz (Cs px 60 [.int .i64 x1, .int .i64 x2, .int .i64 (x3 : Int), .int .i64 (x4 : Int), .int .i64 (x5 : Int), .bool x6] :: IsG p G ::
                  Ir (.slice (some ⟨b6, o6, none⟩) S.length c6) S :: Ir (.slice au us.length cu) us :: Cs bd 4 (bl D G.N.length) :: Cs lb 3 (il F G.N.length) :: L)) (fun _ v77 _ => us.length - (intOf v77).toNat)
                case atStart => exact ⟨0, rfl, by omega, rfl, H3.out⟩
                case round =>
                  clear hS H3
                  obtain ⟨i, rfl, hi, rfl, hS⟩ := hrel
                  have ha := orL_lt HOK.out.small (us.take i) HMK.out.1
                  by_cases hl : i < us.length
                  · have i2 : (i : Int) < (us.length : Int) := by omega
                    obtain ⟨u, hu⟩ : ∃ u, us[i]? = some u := ⟨_, List.getElem?_eq_getElem hl⟩
                    have HU := Lib.hid hu
                    have hul2 := HLOW.out u (List.mem_of_getElem? hu)
                    have u1 : (u : Int) < (G.N.length : Int) := by omega
                    have hb := il_at (f := F) hul2
                    have HIL := Lib.hid hl
                    have hfn := orL_next (f := F) (m := x4) hu
                    have hy := HOK.out.small u
                    obtain ⟨b8, o8, rfl⟩ := hS.irAddr (k := 3) rfl rfl (by omega)
                    obtain ⟨y, hyy⟩ : ∃ y, F u = y := ⟨_, rfl⟩
                    obtain ⟨q, hq⟩ : ∃ q, orL F (us.take i) x4 = q := ⟨_, rfl⟩
                    rw [hyy] at hb hfn hy
                    rw [hq] at hfn ha ⊢
                    have hor := or_256' q y ha hy
                    have HB := Lib.hid hb
                    have HFN := Lib.hid hfn
                    clear hu hul2 hl hb hfn hy hyy hq ha
                    go_wp2_with (first
                      | (refine toList (by rfl) ?_; refine ldSl hS _ _ (by rfl) _ _ (by rfl) (agOf (by rfl)) (Has.s (Has.s (Has.s Has.z))) i (by omega) (iv_at HU.out) ?_)
                      | (refine toList (by rfl) ?_; refine ld hS _ _ (by rfl) _ _ (by rfl) (agOf (by rfl)) (Has.s (Has.s (Has.s (Has.s (Has.s Has.z))))) HB.out ?_))
                    exact ⟨⟨i + 1, by go_num, HIL.out, by rw [HFN.out], hS⟩, by simp [intOf]; have := HIL.out; omega⟩
                  · have i2 : ¬ (i : Int) < (us.length : Int) := by omega
                    obtain rfl : i = us.length := by omega
                    clear hl
                    rw [List.take_length] at ha ⊢
                    have hc : orL F us x4 = orL G.lab us x4 := orL_congr fun u hu => HOK.out.lab u (HALL.out u hu)
                    obtain ⟨q, hq⟩ : ∃ q, orL F us x4 = q := ⟨_, rfl⟩
                    have hand := andn_256 q x5 (by rw [← hq]; exact ha) HMK.out.2
                    rw [← hq, hc, HEQ.out, ← hc, hq] at hand
                    rw [hq]
                    clear ha hc hq
                    have HBS := Lib.hid (bl_set (S := D) HKL.out)
                    have HIS := Lib.hid (il_set (f := F) (G.lab k) HKL.out)
                    have HALLB := Lib.hid (show (G.ups k).all D = true by rw [HUS.out]; exact List.all_eq_true.2 HALL.out)
                    go_wp2_with (first
                      | (refine toList (by rfl) ?_; refine ld hS _ _ (by rfl) _ _ (by rfl) (agOf (by rfl)) Has.z (by rfl) ?_)
                      | (refine toList (by rfl) ?_; refine st hS _ _ _ (by rfl) _ _ (by rfl) _ (by first | exact evC | exact evT (by rfl)) (by rfl) (szOf (by rfl)) (Has.s (Has.s (Has.s (Has.s (Has.s Has.z))))) (by rw [il_len]; exact HKL.out) ?_; intro w1 hS1; clear hS; have hS := hS1; clear hS1; simp only [List.set_cons_zero, List.set_cons_succ] at hS; rw [HIS.out] at hS)
                      | (refine toList (by rfl) ?_; refine st hS _ _ _ (by rfl) _ _ (by rfl) _ (by first | exact evC | exact evT (by rfl)) (by rfl) (szOf (by rfl)) (Has.s (Has.s (Has.s (Has.s Has.z)))) (by rw [bl_len]; exact HKL.out) ?_; intro w1 hS1; clear hS; have hS := hS1; clear hS1; simp only [List.set_cons_zero, List.set_cons_succ] at hS; rw [HBS.out] at hS))
                    have hinv : LbInv W p bd lb G L n (popF ((k :: sib) :: rest), addD D k, setF F k (G.lab k)) (.slice (some ⟨b6, o6, none⟩) m c6) _ := ⟨HFR.out.pop.1, HOK.out.put k, by
                      show Sat W _ (Ir _ (stkF (popF ((k :: sib) :: rest))) :: Cs bd 4 (bl (fun t => D t || decide (t = k)) G.N.length) :: _)
                      rw [HS0.out, ← HST.out]
                      exact drop6L ((hS.re [2]).irTake m (by rw [HM.out]; omega))⟩
                    exact ⟨⟨_, hinv⟩, by rw [← HMIN.out]; exact Nat.lt_of_le_of_lt (minT_le (T := LbT G) hinv) (msF_pop HFR.out HALLB.out)⟩
              · obtain ⟨T, hT⟩ : ∃ T, S ++ U = T := ⟨_, rfl⟩
                have hTl : S.length < T.length := by rw [← hT, List.length_append]; have := List.length_pos_iff.2 hne; omega
                rw [hT] at hS
                obtain ⟨a6, c6, rfl, hc6⟩ := hS.irShape (k := 0) rfl
                have t1 : (S.length : Int) < (T.length : Int) := by omega
                have t2 : decide (S.length < T.length) = true := decide_eq_true hTl
                have HUN := Lib.hid (show (G.ups k).filter (fun u => !D u) = U by rw [HUS.out]; exact hU)
                have HNE := Lib.hid hne
                have HTT := Lib.hid hT
                clear hU hne hT
                go_wp2
                have hinv : LbInv W p bd lb G L n (U.reverse :: (k :: sib) :: rest, D, F) (.slice a6 T.length c6) _ := ⟨HFR.out.push HG.out HUN.out HNE.out, HOK.out, by
                  show Sat W _ (Ir _ (stkF (U.reverse :: (k :: sib) :: rest)) :: _)
                  rw [stkF_push, HSD.out, HTT.out]
                  exact drop5L hS⟩
                exact ⟨⟨_, hinv⟩, by rw [← HMIN.out]; exact Nat.lt_of_le_of_lt (minT_le (T := LbT G) hinv) (msF_push HG.out HA.out HUN.out HNE.out)⟩
    · have k1 : ¬ (n : Int) < (G.N.length : Int) := by omega
      obtain rfl : n = G.N.length := by omega
      have HCG := Lib.hid (il_congr (n := G.N.length) fun k hk => HOK.out.lab k (HOK.out.old k hk))
      clear hl
      go_wp2
      go_ret
      refine ⟨lb, rfl, ?_⟩
      rw [← HCG.out]
      exact drop2L (hS.re [2, 3])
end Go.Proofs.YtpnbdnfgdiakhaaGreat
namespace Go.Proofs.YtpnbdnfgdiakhaaGreat
open Go.RowKit Go.Sep
set_option linter.unusedSimpArgs false
set_option linter.unusedVariables false
attribute [local irreducible] Go.Oper.wp Go.wpList Go.Calls Go.Code.wp Go.Sep.Reg
attribute [local irreducible] IsG
theorem Gr.step_acyc {G : Gr} (hA : G.Acyc) (x : GOpD) : (G.step x).Acyc := by
  unfold Gr.step
  split
  · exact Gr.acyc_add hA _ _
  · split
    · unfold Gr.markG
      split <;> exact hA
    · split
      · unfold Gr.clearG
        split <;> exact hA
      · split
        · unfold Gr.lostG
          split <;> exact hA
        · exact Gr.acyc_edge hA _ _
set_option maxRecDepth 20000 in
set_option maxHeartbeats 1000000 in
theorem graphsI_any {W w : World} {L : List Asrt} (hS : Sat W w L) (l : List GOpD) (ao : Option Addr) (c : Nat) {I : Gr → Prop} (hI0 : I Gr.new) (hIs : ∀ G x, x ∈ l → G.Ok → I G → I (G.step x))
    (hr : ∀ u, Sat W u L → Rd u (.slice ao l.length c) l.length 3 (l.flatMap gov)) :
    Calls Tryz.prog 6 #[.slice ao l.length c] w fun e w' => ∃ p q G, e = .returned (.tuple #[.pointer (some ⟨p, 0, none⟩), .pointer (some ⟨q, 0, none⟩), .bool true]) ∧ G.Ok ∧ G.Acyc ∧ I G ∧ G.E.length ≤ 80 ∧ G.N.length ≤ 80 ∧ Sat W w' (IsG p G :: IsR q G :: L) := by
  have HR := Lib.hid hr
  have HIS := Lib.hid hIs
  obtain ⟨_, _, he, hc1, hc2, _, h5⟩ := hr w hS
  simp only [Value.slice.injEq, true_and] at he
  obtain ⟨rfl, rfl⟩ := he
  have H5 := Lib.hid h5
  clear h5 hr hIs
  go_enter Tryz.func6, Tryz.ntmps6
  go_wp2_with (first
    | (go_at_call 10; refine (new_any hS).mono ?_; rintro e w1 ⟨p, rfl, hS1⟩; clear hS; have hS := hS1; clear hS1)
    | (refine toList (by rfl) ?_; refine bx hS _ _ (by rfl) _ (by first | exact evC | exact evT (by rfl)) ?_; intro q w1 hS1; clear hS; have hS := hS1; clear hS1; rw [cells_agg] at hS))
  have H0 : Hid (Sat W _ (IsG p Gr.new :: IsR q Gr.new :: L)) := Lib.hid (by
    have h1 := ((hS.tbNil (α := Nat × Nat) (f := ev) (E := 83) (sz := 2)).tbNil (α := NodeD) (f := nv) (E := 60) (sz := 6))
    exact (IsR.mk (G := Gr.new) (h1.re [2, 0, 1])).pull1)
  go_loopw [7] (fun v wz => ∃ (i : Nat) (G : Gr), v = .int .i64 i ∧ i ≤ 80 ∧ (G.Ok ∧ G.Acyc ∧ I G) ∧ G.E.length ≤ i ∧ G.N.length ≤ i ∧ Sat W wz (IsG p G :: IsR q G :: L)) (fun v _ => 80 - (intOf v).toNat)
  case atStart => exact ⟨0, Gr.new, rfl, by omega, ⟨Gr.new_ok, Gr.acyc_new, hI0⟩, Nat.le_refl _, Nat.le_refl _, H0.out⟩
  case round =>
    clear hS H0
    obtain ⟨i, G, rfl, hi, hok, hel, hnl, hS⟩ := hrel
    have HOK := Lib.hid hok
    have HEL := Lib.hid hel
    have HNL := Lib.hid hnl
    clear hok hel hnl
    by_cases hf : i < l.length
    · have i1 : (i : Int) < (l.length : Int) := by omega
      have e1 : decide ((i : Int) < (l.length : Int)) = true := decide_eq_true i1
      by_cases h80 : i < 80
      · have i3 : (i : Int) < 80 := by omega
        have e3 : decide ((i : Int) < 80) = true := decide_eq_true i3
        obtain ⟨x, hx⟩ : ∃ x, l[i]? = some x := ⟨_, List.getElem?_eq_getElem hf⟩
        have HX := Lib.hid hx
        obtain ⟨b0, off, rfl, _⟩ := H5.out (by omega)
        have HD := Lib.hid (fun w (h : Sat W w (IsG p G :: IsR q G :: L)) => gdo_any h HOK.out.1 (by have := HEL.out; omega) x)
        have HOK2 := Lib.hid (show (G.step x).Ok ∧ (G.step x).Acyc ∧ I (G.step x) from ⟨Gr.step_ok HOK.out.1 (by have := HEL.out; omega) x, Gr.step_acyc HOK.out.2.1 x, HIS.out G x (List.mem_of_getElem? hx) HOK.out.1 HOK.out.2.2⟩)
        have HE2 := Lib.hid (show (G.step x).E.length ≤ i + 1 by have := G.step_E x; have := HEL.out; omega)
        have HN2 := Lib.hid (show (G.step x).N.length ≤ i + 1 by have := G.step_N x; have := HNL.out; omega)
        obtain ⟨G2, hG2⟩ : ∃ G2, G.step x = G2 := ⟨_, rfl⟩
        rw [hG2] at HD HOK2 HE2 HN2
        clear hx hG2
        go_wp2_with (first
          | (refine toList (by rfl) ?_; refine wp_of_reads (rLdRdA (HR.out _ hS.drop.drop) (gov_len l) _ _ (by rfl) _ (by rfl) (agOf (by rfl)) (szOf (by rfl)) i (by rfl) HX.out (by omega)) ?_)
          | (go_at_call 18; refine (HD.out _ hS).mono ?_; rintro e w1 ⟨rfl, hS1⟩; clear hS; have hS := hS1; clear hS1))
        exact ⟨⟨i + 1, G2, by go_num, by omega, HOK2.out, HE2.out, HN2.out, hS⟩, by simp [intOf]; omega⟩
      · have e3 : decide ((i : Int) < 80) = false := decide_eq_false (by omega)
        have e4 : ¬ (i : Int) < 80 := by omega
        clear h80
        go_wp2
        go_ret3
        exact ⟨p, q, rfl, G, HOK.out.1, HOK.out.2.1, HOK.out.2.2, by have := HEL.out; omega, by have := HNL.out; omega, hS⟩
    · have e1 : decide ((i : Int) < (l.length : Int)) = false := decide_eq_false (by omega)
      have e1b : decide (i < l.length) = false := decide_eq_false hf
      have e4 : ¬ (i : Int) < (l.length : Int) := by omega
      clear hf
      go_wp2
      go_ret3
      exact ⟨p, q, rfl, G, HOK.out.1, HOK.out.2.1, HOK.out.2.2, by have := HEL.out; omega, by have := HNL.out; omega, hS⟩
/-! ### a bit, as the laws look at it -/
theorem and_one (y k : Nat) (hy : y < 256) : bits .and .i64 ((y : Int) / 2 ^ k) 1 = if y.testBit k then 1 else 0 := by
  have e1 : ((y : Int) / 2 ^ k) = ((y / 2 ^ k : Nat) : Int) := by simp
  rw [e1]
  have hq : y / 2 ^ k < 256 := Nat.lt_of_le_of_lt (Nat.div_le_self _ _) hy
  have h1 : bits .and .i64 ((y / 2 ^ k : Nat) : Int) 1 = (((y / 2 ^ k) &&& 1 : Nat) : Int) := by
    have hx2 : (y / 2 ^ k) &&& 1 ≤ 1 := Nat.and_le_right
    show IntKind.i64.wrap ((BitVec.ofInt 64 ((y / 2 ^ k : Nat) : Int) &&& BitVec.ofInt 64 ((1 : Nat) : Int)).toNat : Int) = _
    rw [BitVec.toNat_and, bv_nat _ hq, bv_nat 1 (by decide), IntWalk.i64_in _ (by omega)]
  rw [h1, Nat.and_one_is_mod, Nat.testBit_eq_decide_div_mod_eq]
  rcases Nat.mod_two_eq_zero_or_one (y / 2 ^ k) with h | h
  · rw [h]; rfl
  · rw [h]; rfl
end Go.Proofs.YtpnbdnfgdiakhaaGreat
