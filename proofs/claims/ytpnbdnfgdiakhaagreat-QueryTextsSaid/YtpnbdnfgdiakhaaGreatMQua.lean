/-
  Questions to graphs: what they are, which may be, where they lead (plain).
  Where a star leads: sets that grow until nothing is added (plain).
  Ways up from one node to another (plain).
  Questions in memory; questions that come in.
-/
import Derived.Test.YtpnbdnfgdiakhaaGreatMLbl
import Derived.Test.YtpnbdnfgdiakhaaGreatMReg
import Derived.Test.YtpnbdnfgdiakhaaGreatMSep
import Derived.Test.YtpnbdnfgdiakhaaGreatTypes
namespace Go.Proofs.YtpnbdnfgdiakhaaGreat
open Go.Sep
open Go
set_option linter.unusedSimpArgs false
set_option linter.unusedVariables false
/-- A question: what it is, its number, the value under which its kids lie in memory, they. -/
inductive StepD where
  | mk (op n : Int) (u : Value) (kids : List StepD)
namespace StepD
def op : StepD → Int | mk o _ _ _ => o
def n : StepD → Int | mk _ n _ _ => n
def u : StepD → Value | mk _ _ u _ => u
def kids : StepD → List StepD | mk _ _ _ k => k
/-- May a question be, whatever its kids are? -/
def alone (q : StepD) : Bool :=
  if q.op = 1 ∨ q.op = 2 ∨ q.op = 8 then decide (q.n = 0) && decide (q.kids.length = 0)
  else if q.op = 3 then decide (1 ≤ q.n) && decide (q.n ≤ 5) && decide (q.kids.length = 0)
  else if q.op = 4 then decide (0 ≤ q.n) && decide (q.n < 8) && decide (q.kids.length = 0)
  else if q.op = 5 then decide (q.n = 0) && decide (q.kids.length = 1)
  else if q.op = 6 ∨ q.op = 7 then decide (q.n = 0) && decide (2 ≤ q.kids.length) && !(q.kids.any fun k => decide (k.op = q.op))
  else false
def ok : Nat → StepD → Bool
  | 0, _ => false
  | d + 1, q => q.alone && q.kids.all (ok d)
def cnt : Nat → StepD → Nat
  | 0, _ => 1
  | d + 1, q => 1 + (q.kids.map (cnt d)).sum
/-- May a question be, so deep, with so many parts? -/
def fits (d left : Nat) (q : StepD) : Bool := q.ok d && decide (q.cnt d ≤ left)
def chk (q : StepD) : Bool := q.fits 12 40
theorem ok_succ {d : Nat} {q : StepD} : q.ok (d + 1) = true ↔ q.alone = true ∧ ∀ k ∈ q.kids, k.ok d = true := by
  show (q.alone && q.kids.all (ok d)) = true ↔ _
  rw [Bool.and_eq_true, List.all_eq_true]
theorem cnt_succ (d : Nat) (q : StepD) : q.cnt (d + 1) = 1 + (q.kids.map (cnt d)).sum := rfl
theorem cnt_pos (d : Nat) (q : StepD) : 1 ≤ q.cnt d := by
  cases d with
  | zero => exact Nat.le_refl _
  | succ d => rw [cnt_succ]; omega
theorem sum_take_le (f : StepD → Nat) (l : List StepD) (i : Nat) : ((l.take i).map f).sum ≤ (l.map f).sum := by
  conv => rhs; rw [← List.take_append_drop i l, List.map_append, List.sum_append]
  omega
theorem sum_take_succ (f : StepD → Nat) {l : List StepD} {i : Nat} {k : StepD} (h : l[i]? = some k) : ((l.take (i + 1)).map f).sum = ((l.take i).map f).sum + f k := by
  rw [List.take_add_one, h, List.map_append, List.sum_append]; simp
/-- A kid that does not fit into what is left: the whole does not. -/
theorem fits_no {d left : Nat} {q k : StepD} {i : Nat} (hk : q.kids[i]? = some k) (hn : k.fits d (left - 1 - ((q.kids.take i).map (cnt d)).sum) = false) : q.fits (d + 1) left = false := by
  cases h : q.fits (d + 1) left with
  | false => rfl
  | true =>
    exfalso
    unfold fits at h hn
    rw [Bool.and_eq_true, decide_eq_true_eq, cnt_succ, ok_succ] at h
    have h1 := h.1.2 k (List.mem_of_getElem? hk)
    rw [h1, Bool.true_and, decide_eq_false_iff_not] at hn
    have h2 := sum_take_succ (cnt d) hk
    have h3 := sum_take_le (cnt d) q.kids (i + 1)
    omega
theorem fits_yes {d left : Nat} {q : StepD} (ha : q.alone = true) (hk : ∀ (i : Nat) (k : StepD), q.kids[i]? = some k → k.ok d = true) (hs : 1 + (q.kids.map (cnt d)).sum ≤ left) : q.fits (d + 1) left = true := by
  unfold fits
  rw [Bool.and_eq_true, decide_eq_true_eq, cnt_succ, ok_succ]
  exact ⟨⟨ha, fun k hm => by obtain ⟨i, hi⟩ := List.getElem?_of_mem hm; exact hk i k hi⟩, hs⟩
end StepD
/-! ### where a question leads -/
def StarR (R : Nat → Nat → Prop) (m n : Nat) : Prop := ∀ T : Nat → Prop, T m → (∀ x y, T x → R x y → T y) → T n
theorem StarR.refl {R : Nat → Nat → Prop} (m : Nat) : StarR R m m := fun _ h _ => h
theorem StarR.snoc {R : Nat → Nat → Prop} {a b c : Nat} (h : StarR R a b) (k : R b c) : StarR R a c := fun T h0 hs => hs b c (h T h0 hs) k
theorem StarR.trans {R : Nat → Nat → Prop} {a b c : Nat} (h : StarR R a b) (k : StarR R b c) : StarR R a c := fun T h0 hs => k T (h T h0 hs) hs
def CompR (f : StepD → Nat → Nat → Prop) : List StepD → Nat → Nat → Prop
  | [] => fun m n => m = n
  | k :: ks => fun m n => ∃ x, f k m x ∧ CompR f ks x n
def Rel (G : Gr) : Nat → StepD → Nat → Nat → Prop
  | 0, _ => fun _ _ => False
  | d + 1, q =>
    if q.op = 1 then fun m n => (m, n) ∈ G.E
    else if q.op = 2 then fun m n => (n, m) ∈ G.E
    else if q.op = 3 then fun m n => m = n ∧ ∃ x, G.N[m]? = some x ∧ x.kind = q.n
    else if q.op = 4 then fun m n => m = n ∧ (G.lab m).testBit q.n.toNat = true
    else if q.op = 8 then fun m n => m = n ∧ ∃ x, G.N[m]? = some x ∧ x.orph = false
    else if q.op = 5 then StarR fun m n => ∃ k, q.kids[0]? = some k ∧ Rel G d k m n
    else if q.op = 7 then CompR (Rel G d) q.kids
    else fun m n => ∃ k ∈ q.kids, Rel G d k m n
def Img (R : Nat → Nat → Prop) (S : Nat → Prop) (n : Nat) : Prop := ∃ m, S m ∧ R m n
theorem comp_snoc (f : StepD → Nat → Nat → Prop) (k : StepD) : ∀ (ks : List StepD) (m n : Nat), CompR f (ks ++ [k]) m n ↔ ∃ x, CompR f ks m x ∧ f k x n
  | [], m, n => by
    constructor
    · rintro ⟨x, h1, h2⟩
      exact ⟨m, rfl, by cases h2; exact h1⟩
    · rintro ⟨x, h1, h2⟩
      cases h1
      exact ⟨n, h2, rfl⟩
  | k' :: ks, m, n => by
    constructor
    · rintro ⟨x, h1, h2⟩
      obtain ⟨y, h3, h4⟩ := (comp_snoc f k ks x n).1 h2
      exact ⟨y, ⟨x, h1, h3⟩, h4⟩
    · rintro ⟨y, ⟨x, h1, h3⟩, h4⟩
      exact ⟨x, h1, (comp_snoc f k ks x n).2 ⟨y, h3, h4⟩⟩
theorem comp_lt {G : Gr} {f : StepD → Nat → Nat → Prop} {N : Nat} (hf : ∀ k m n, m < N → f k m n → n < N) : ∀ (ks : List StepD) (m n : Nat), m < N → CompR f ks m n → n < N
  | [], m, n, hm, h => by cases h; exact hm
  | k :: ks, m, n, hm, ⟨x, h1, h2⟩ => comp_lt (G := G) hf ks x n (hf k m x hm h1) h2
theorem rel_lt {G : Gr} (hG : G.Ok) : ∀ (d : Nat) (q : StepD) (m n : Nat), m < G.N.length → Rel G d q m n → n < G.N.length
  | 0, _, _, _, _, h => h.elim
  | d + 1, q, m, n, hm, h => by
    unfold Rel at h
    split at h
    · exact (hG.low _ h).2
    · split at h
      · exact (hG.low _ h).1
      · split at h
        · rw [← h.1]; exact hm
        · split at h
          · rw [← h.1]; exact hm
          · split at h
            · rw [← h.1]; exact hm
            · split at h
              · exact h (fun x => x < G.N.length) hm fun x y hx ⟨k, _, hr⟩ => rel_lt hG d k x y hx hr
              · split at h
                · exact comp_lt (G := G) (fun k m n => rel_lt hG d k m n) _ m n hm h
                · obtain ⟨k, _, hr⟩ := h
                  exact rel_lt hG d k m n hm hr
theorem img_lt {G : Gr} (hG : G.Ok) {d : Nat} {q : StepD} {S : Nat → Prop} (hS : ∀ m, S m → m < G.N.length) {n : Nat} (h : Img (Rel G d q) S n) : n < G.N.length := by
  obtain ⟨m, h1, h2⟩ := h
  exact rel_lt hG d q m n (hS m h1) h2
theorem img_comp (f : StepD → Nat → Nat → Prop) (k : StepD) (ks : List StepD) (S : Nat → Prop) (n : Nat) : Img (CompR f (ks ++ [k])) S n ↔ Img (f k) (Img (CompR f ks) S) n := by
  constructor
  · rintro ⟨m, h1, h2⟩
    obtain ⟨x, h3, h4⟩ := (comp_snoc f k ks m n).1 h2
    exact ⟨x, ⟨m, h1, h3⟩, h4⟩
  · rintro ⟨x, ⟨m, h1, h3⟩, h4⟩
    exact ⟨m, h1, (comp_snoc f k ks m n).2 ⟨x, h3, h4⟩⟩
theorem img_congr {R : Nat → Nat → Prop} {S T : Nat → Prop} (h : ∀ m, S m ↔ T m) (n : Nat) : Img R S n ↔ Img R T n := by
  constructor
  · rintro ⟨m, h1, h2⟩; exact ⟨m, (h m).1 h1, h2⟩
  · rintro ⟨m, h1, h2⟩; exact ⟨m, (h m).2 h1, h2⟩
end Go.Proofs.YtpnbdnfgdiakhaaGreat
namespace Go.Proofs.YtpnbdnfgdiakhaaGreat
open Go.Sep
open Go
set_option linter.unusedSimpArgs false
set_option linter.unusedVariables false
structure StI (R : Nat → Nat → Prop) (S O F : List Nat) : Prop where
  base : ∀ m ∈ S, m ∈ O
  sound : ∀ n ∈ O, ∃ m ∈ S, StarR R m n
  front : ∀ n ∈ F, n ∈ O
  closed : ∀ n ∈ O, n ∉ F → ∀ x, R n x → x ∈ O
theorem StI.start {R : Nat → Nat → Prop} {S O : List Nat} (h : ∀ n, n ∈ O ↔ n ∈ S) : StI R S O S where
  base := fun m hm => (h m).2 hm
  sound := fun n hn => ⟨n, (h n).1 hn, StarR.refl n⟩
  front := fun n hn => (h n).2 hn
  closed := fun n hn hf => absurd ((h n).1 hn) hf
theorem StI.next {R : Nat → Nat → Prop} {S O F F' O' : List Nat} (h : StI R S O F) (hF : ∀ n, n ∈ F' ↔ Img R (· ∈ F) n ∧ n ∉ O) (hO : ∀ n, n ∈ O' ↔ n ∈ O ∨ n ∈ F') : StI R S O' F' where
  base := fun m hm => (hO m).2 (.inl (h.base m hm))
  sound := fun n hn => by
    rcases (hO n).1 hn with h1 | h1
    · exact h.sound n h1
    · obtain ⟨⟨m, hm, hr⟩, _⟩ := (hF n).1 h1
      obtain ⟨s, hs, hst⟩ := h.sound m (h.front m hm)
      exact ⟨s, hs, hst.snoc hr⟩
  front := fun n hn => (hO n).2 (.inr hn)
  closed := fun n hn hf x hr => by
    rcases (hO n).1 hn with h1 | h1
    · by_cases hF2 : n ∈ F
      · by_cases hx : x ∈ O
        · exact (hO x).2 (.inl hx)
        · exact (hO x).2 (.inr ((hF x).2 ⟨⟨n, hF2, hr⟩, hx⟩))
      · exact (hO x).2 (.inl (h.closed n h1 hF2 x hr))
    · exact absurd h1 hf
theorem StI.done {R : Nat → Nat → Prop} {S O : List Nat} (h : StI R S O []) (n : Nat) : n ∈ O ↔ Img (StarR R) (· ∈ S) n := by
  constructor
  · intro hn
    obtain ⟨m, hm, hr⟩ := h.sound n hn
    exact ⟨m, hm, hr⟩
  · rintro ⟨m, hm, hr⟩
    exact hr (· ∈ O) (h.base m hm) fun x y hx hxy => h.closed x hx (by simp) y hxy
/-- How much is left: nodes that are not in it. -/
def stT (N : Nat) (O F : List Nat) : Nat := 2 * (N - O.length) + (if F = [] then 0 else 1)
theorem stT_next {N : Nat} {O F F' O' : List Nat} (hF : F ≠ []) (hn : O'.Nodup) (hno : O.Nodup) (hlt : ∀ n ∈ O', n < N) (hO : ∀ n, n ∈ O' ↔ n ∈ O ∨ n ∈ F') (hF2 : ∀ n ∈ F', n ∉ O) : stT N O' F' < stT N O F := by
  unfold stT
  rw [if_neg hF]
  have hl1 := nodup_len hn hlt
  by_cases h : F' = []
  · subst h
    have h1 : O.length ≤ O'.length := nodup_sub_len hno fun x hx => (hO x).2 (.inl hx)
    rw [if_pos rfl]; omega
  · rw [if_neg h]
    obtain ⟨x, hx⟩ := List.exists_mem_of_ne_nil _ h
    have h1 : (x :: O).length ≤ O'.length := nodup_sub_len (List.nodup_cons.2 ⟨hF2 x hx, hno⟩) fun y hy => by
      rcases List.mem_cons.1 hy with rfl | hy
      · exact (hO y).2 (.inr hx)
      · exact (hO y).2 (.inl hy)
    rw [List.length_cons] at h1
    omega
/-- Those nodes for which something holds, rising. -/
noncomputable def fltN (N : Nat) (P : Nat → Prop) : List Nat := open Classical in (List.range N).filter fun n => decide (P n)
theorem mem_fltN {N : Nat} {P : Nat → Prop} {n : Nat} : n ∈ fltN N P ↔ n < N ∧ P n := by simp [fltN]
theorem fltN_lt (N : Nat) (P : Nat → Prop) : (fltN N P).Pairwise (· < ·) := List.Pairwise.filter _ List.pairwise_lt_range
theorem fltN_len (N : Nat) (P : Nat → Prop) : (fltN N P).length ≤ N := by
  have := List.length_filter_le (fun n => open Classical in decide (P n)) (List.range N)
  simpa [fltN] using this
theorem fltN_eq {N : Nat} {P : Nat → Prop} {l : List Nat} (hl : l.Pairwise (· < ·)) (h : ∀ n, n ∈ l ↔ n < N ∧ P n) : l = fltN N P := sorted_eq hl (fltN_lt N P) fun n => by rw [h, mem_fltN]
theorem fltN_congr {N : Nat} {P Q : Nat → Prop} (h : ∀ n, n < N → (P n ↔ Q n)) : fltN N P = fltN N Q := fltN_eq (fltN_lt N P) fun n => by rw [mem_fltN]; exact and_congr_right fun hn => h n hn
theorem srt_flt {N : Nat} {P : Nat → Prop} {ks : List Nat} (hn : ks.Nodup) (h : ∀ n, n ∈ ks ↔ n < N ∧ P n) : srt ks = fltN N P := fltN_eq (srt_lt hn) fun n => by rw [srt_mem, h]
end Go.Proofs.YtpnbdnfgdiakhaaGreat
namespace Go.Proofs.YtpnbdnfgdiakhaaGreat
open Go.Sep
open Go
set_option linter.unusedSimpArgs false
set_option linter.unusedVariables false
namespace Gr
/-- The ways up from a to b, of fewer than so many steps. -/
def pth (G : Gr) (b : Nat) : Nat → Nat → List (List Nat)
  | 0, _ => []
  | d + 1, a => if a = b then [[a]] else (G.ups a).flatMap fun u => (pth G b d u).map (a :: ·)
noncomputable def rk (G : Gr) (a : Nat) : Nat := (G.above a).length
noncomputable def wy (G : Gr) (b a : Nat) : List (List Nat) := pth G b (G.rk a) a
theorem rk_pos {G : Gr} {a : Nat} (h : a < G.N.length) : 0 < G.rk a := List.length_pos_of_mem (mem_above.2 ⟨h, Reach.refl G a⟩)
theorem rk_up {G : Gr} (hG : G.Ok) (hA : G.Acyc) {a u : Nat} (h : u ∈ G.ups a) : G.rk u < G.rk a := above_less hG hA (mem_ups.1 h).2
theorem upsLt {G : Gr} {a u : Nat} (h : u ∈ G.ups a) : u < G.N.length := (mem_ups.1 h).1
theorem pth_same {G : Gr} (hG : G.Ok) (hA : G.Acyc) (b : Nat) : ∀ (d e a : Nat), a < G.N.length → G.rk a ≤ d → G.rk a ≤ e → pth G b d a = pth G b e a
  | 0, _, _, ha, h, _ => by have := rk_pos ha; omega
  | _ + 1, 0, _, ha, _, h => by have := rk_pos ha; omega
  | d + 1, e + 1, a, ha, h1, h2 => by
    unfold pth
    split
    · rfl
    · rw [List.flatMap_def, List.flatMap_def]
      congr 1
      apply List.map_congr_left
      intro u hu
      have := rk_up hG hA hu
      rw [pth_same hG hA b d e u (upsLt hu) (by omega) (by omega)]
theorem wy_eq {G : Gr} (hG : G.Ok) (hA : G.Acyc) (b : Nat) {a : Nat} (ha : a < G.N.length) : G.wy b a = if a = b then [[a]] else (G.ups a).flatMap fun u => (G.wy b u).map (a :: ·) := by
  have h1 : G.wy b a = pth G b (G.rk a + 1) a := pth_same hG hA b _ _ a ha (Nat.le_refl _) (by omega)
  rw [h1]
  show (if a = b then [[a]] else (G.ups a).flatMap fun u => (pth G b (G.rk a) u).map (a :: ·)) = _
  split
  · rfl
  · rw [List.flatMap_def, List.flatMap_def]
    congr 1
    apply List.map_congr_left
    intro u hu
    have := rk_up hG hA hu
    rw [show G.wy b u = pth G b (G.rk a) u from pth_same hG hA b _ _ u (upsLt hu) (Nat.le_refl _) (by omega)]
theorem wy_self {G : Gr} (hG : G.Ok) (hA : G.Acyc) {b : Nat} (hb : b < G.N.length) : G.wy b b = [[b]] := by rw [wy_eq hG hA b hb, if_pos rfl]
theorem wy_ne {G : Gr} (hG : G.Ok) (hA : G.Acyc) {b a : Nat} (ha : a < G.N.length) (h : a ≠ b) : G.wy b a = (G.ups a).flatMap fun u => (G.wy b u).map (a :: ·) := by rw [wy_eq hG hA b ha, if_neg h]
theorem pth_reach {G : Gr} (b : Nat) : ∀ (d a : Nat) (p : List Nat), p ∈ pth G b d a → G.Reach a b
  | 0, _, _, h => nomatch h
  | d + 1, a, p, h => by
    unfold pth at h
    split at h
    · rename_i e; rw [e]; exact Reach.refl G b
    · obtain ⟨u, hu, h2⟩ := List.mem_flatMap.1 h
      obtain ⟨q, hq, _⟩ := List.mem_map.1 h2
      exact (Reach.edge (mem_ups.1 hu).2).trans (pth_reach b d u q hq)
theorem wy_none {G : Gr} {a b : Nat} (h : ¬ G.Reach a b) : G.wy b a = [] := List.eq_nil_iff_forall_not_mem.2 fun p hp => h (pth_reach b _ a p hp)
/-- A reach begins with a step, or is none. -/
theorem Reach.cases {G : Gr} {a b : Nat} (h : G.Reach a b) : a = b ∨ ∃ u, (a, u) ∈ G.E ∧ G.Reach u b := by
  have := h (fun z => a = z ∨ ∃ u, (a, u) ∈ G.E ∧ G.Reach u z) (.inl rfl) (fun x y hx he => by
    rcases hx with rfl | ⟨u, h1, h2⟩
    · exact .inr ⟨y, he, Reach.refl G y⟩
    · exact .inr ⟨u, h1, h2.snoc he⟩)
  exact this
theorem wy_some {G : Gr} (hG : G.Ok) (hA : G.Acyc) (b : Nat) : ∀ (d a : Nat), G.rk a ≤ d → a < G.N.length → G.Reach a b → G.wy b a ≠ []
  | 0, _, h, ha, _ => by have := rk_pos ha; omega
  | d + 1, a, h, ha, hr => by
    by_cases e : a = b
    · subst e; rw [wy_self hG hA ha]; exact List.cons_ne_nil _ _
    · rw [wy_ne hG hA ha e]
      rcases hr.cases with h1 | ⟨u, he, h2⟩
      · exact absurd h1 e
      · have hu : u ∈ G.ups a := mem_ups.2 ⟨(hG.low _ he).2, he⟩
        have h3 := rk_up hG hA hu
        obtain ⟨p, hp⟩ := List.exists_mem_of_ne_nil _ (wy_some hG hA b d u (by omega) (upsLt hu) h2)
        exact List.ne_nil_of_mem (List.mem_flatMap.2 ⟨u, hu, List.mem_map.2 ⟨p, hp, rfl⟩⟩)
/-- What a node tells, behind a way that ends with it. -/
noncomputable def tell (G : Gr) (b : Nat) (P : List Nat) (n : Nat) : List (List Nat) := (G.wy b n).map (P ++ ·)
/-- What its nodes above tell, the first i of them. -/
noncomputable def tells (G : Gr) (b : Nat) (P : List Nat) (n : Nat) (i : Nat) : List (List Nat) := ((G.ups n).take i).flatMap fun u => G.tell b (P ++ [n]) u
theorem tells_zero (G : Gr) (b : Nat) (P : List Nat) (n : Nat) : G.tells b P n 0 = [] := rfl
theorem tells_next {G : Gr} {b : Nat} {P : List Nat} {n i u : Nat} (h : (G.ups n)[i]? = some u) : G.tells b P n (i + 1) = G.tells b P n i ++ G.tell b (P ++ [n]) u := by
  unfold tells
  rw [List.take_add_one, h, List.flatMap_append]
  simp
theorem tells_skip {G : Gr} {b : Nat} {P : List Nat} {n i u : Nat} (h : (G.ups n)[i]? = some u) (hr : ¬ G.Reach u b) : G.tells b P n (i + 1) = G.tells b P n i := by
  rw [tells_next h, tell, wy_none hr]; simp
theorem tell_all {G : Gr} (hG : G.Ok) (hA : G.Acyc) {b n : Nat} (P : List Nat) (hn : n < G.N.length) (h : n ≠ b) : G.tell b P n = G.tells b P n (G.ups n).length := by
  unfold tell tells
  rw [wy_ne hG hA hn h, List.take_length, List.map_flatMap]
  rw [List.flatMap_def, List.flatMap_def]
  congr 1
  apply List.map_congr_left
  intro u hu
  unfold tell
  rw [List.map_map]
  apply List.map_congr_left
  intro p _
  simp [Function.comp]
theorem tell_self {G : Gr} (hG : G.Ok) (hA : G.Acyc) {b : Nat} (P : List Nat) (hb : b < G.N.length) : G.tell b P b = [P ++ [b]] := by
  unfold tell; rw [wy_self hG hA hb]; rfl
/-- What is told behind i of them is not more than all. -/
theorem tells_split (G : Gr) (b : Nat) (P : List Nat) (n i : Nat) : ∃ r, G.tells b P n (G.ups n).length = G.tells b P n i ++ r := by
  refine ⟨((G.ups n).drop i).flatMap fun u => G.tell b (P ++ [n]) u, ?_⟩
  unfold tells
  rw [← List.flatMap_append, List.take_length, List.take_append_drop]
end Gr
/-- A list that is full already. -/
theorem take_full {α : Type} (a x r : List α) (K : Nat) (h : K ≤ (a ++ x).length) : (a ++ (x ++ r)).take K = (a ++ x).take K := by
  rw [← List.append_assoc, List.take_append_of_le_length h]
end Go.Proofs.YtpnbdnfgdiakhaaGreat
namespace Go.Proofs.YtpnbdnfgdiakhaaGreat
open Go.RowKit Go.Sep Go.ChangeShapes Go.WideShapes Go.ChangeAt
set_option linter.unusedSimpArgs false
set_option linter.unusedVariables false
attribute [local irreducible] Go.Oper.wp Go.wpList Go.Calls Go.Code.wp Go.Sep.Reg
def qv (q : StepD) : List Value := [.int .i64 q.op, .int .i64 q.n, q.u]
theorem qv_len (l : List StepD) : ∀ x ∈ l, (qv x).length = 3 := fun _ _ => rfl
/-- In w a question's kids can be read, so deep. -/
def QRd (w : World) : Nat → StepD → Prop
  | 0, q => ∃ ao n c, q.u = .slice ao n c
  | d + 1, q => Rd w q.u q.kids.length 3 (q.kids.flatMap qv) ∧ ∀ k ∈ q.kids, QRd w d k
theorem QRd.shape {w : World} : ∀ {d : Nat} {q : StepD}, QRd w d q → ∃ ao n c, q.u = .slice ao n c
  | 0, _, h => h
  | d + 1, _, ⟨⟨ao, c, h, _⟩, _⟩ => ⟨ao, _, c, h⟩
theorem QRd.old {W w : World} {L : List Asrt} (hS : Sat W w L) : ∀ {d : Nat} {q : StepD}, QRd W d q → QRd w d q
  | 0, _, h => h
  | d + 1, _, ⟨h2, h3⟩ => ⟨h2.old hS, fun x hx => (h3 x hx).old hS⟩
theorem QRd.less {w : World} : ∀ {d : Nat} {q : StepD}, QRd w (d + 1) q → QRd w d q
  | 0, _, h => h.shape
  | d + 1, _, ⟨h2, h3⟩ => ⟨h2, fun x hx => (h3 x hx).less⟩
section
variable {H : Type} {enc : TypeId × Value → H} {P : Program} {W : World}
/-- A slice that came in: its rows, with the fuel. -/
theorem open_slN {t e sz : Nat} (ht : P.underlying t = some (.slice e)) (hc : P.cellsOf e = sz) (hs : 0 < sz) {ao : Option Addr} {len cap fuel : Nat} {y : DataW H × List MemPlace}
    (h : DataW.trod enc P W 0 (fun _ => true) true fuel t [.slice ao len cap] = some y) :
    ∃ rows : List (List Value), rows.length = len ∧ Rd W (.slice ao len cap) len sz rows.flatten ∧
      ∀ (i : Nat) (r : List Value), rows[i]? = some r → r.length = sz ∧ ∃ (n : Nat) (x : DataW H × List MemPlace), n < fuel ∧ DataW.trod enc P W 0 (fun _ => true) true n e r = some x := by
  subst hc
  have h0 := h
  rcases DataW.trod_slice ht h with ⟨h1, h2⟩ | ⟨a, len', cap', elems, rest, n, hfu, h1, h2, _, hl, hm, hlen, hel, _, _⟩
  · simp at h1
    obtain ⟨rfl, rfl, rfl⟩ := h1
    exact ⟨[], rfl, ⟨none, 0, rfl, Nat.le_refl _, by omega, by simp, fun h => by omega⟩, fun i r hr => by simp at hr⟩
  · simp at h1
    obtain ⟨rfl, rfl, rfl⟩ := h1
    obtain ⟨rows, g1, g2, _, g4⟩ := open_sl (P := P) (W := W) (enc := enc) ht rfl hs (d := y.1) (ps := y.2) ⟨fuel, h0⟩
    refine ⟨rows, g1, g2, fun i r hr => ?_⟩
    refine ⟨(g4 i r hr).1, ?_⟩
    have hi : i < len := by rw [← g1]; exact (List.getElem?_eq_some_iff.1 hr).1
    have h3 := hel i hi
    rw [List.getElem?_eq_getElem (by omega)] at h3
    obtain ⟨r', hr', hx⟩ := Option.bind_eq_some_iff.1 h3
    have hrr : r' = r := by
      have hl2 : ∀ z ∈ rows, z.length = P.cellsOf e := fun z hz => by
        obtain ⟨k, hk⟩ := List.getElem?_of_mem hz
        exact (g4 k z hk).1
      obtain ⟨_, _, he, _, _, _, h5⟩ := g2
      simp only [Value.slice.injEq, true_and, Option.some.injEq] at he
      obtain ⟨rfl, rfl⟩ := he
      obtain ⟨b, off, he, h6⟩ := h5 (by omega)
      cases he
      have c1 := cells?_zero hr'
      apply List.ext_getElem?
      intro j
      by_cases hj : j < P.cellsOf e
      · have hrl := (g4 i r hr).1
        obtain ⟨u, hu⟩ : ∃ u, r[j]? = some u := ⟨_, List.getElem?_eq_getElem (by omega)⟩
        obtain ⟨u', hu'⟩ : ∃ u, r'[j]? = some u := ⟨_, List.getElem?_eq_getElem (by rw [c1.1]; exact hj)⟩
        have k1 := h6 (i * P.cellsOf e + j) u (fm_cell (f := id) (xs := rows) (fun z hz => hl2 z hz) hr hu |> fun h => by simpa [List.flatMap_id] using h)
        have k2 := c1.2 j u' hu'
        simp only [Addr.add_lit] at k2
        rw [← Nat.add_assoc] at k1
        rw [k1] at k2
        rw [hu, hu', Option.some.inj k2]
      · rw [List.getElem?_eq_none (by rw [c1.1]; omega), List.getElem?_eq_none (by rw [(g4 i r hr).1]; omega)]
    exact ⟨n, _, by omega, by rw [← hrr]; exact hx⟩
end
theorem cells3' {r : List Value} {a b c : Value} (h : r.length = 3) (h0 : (r.drop 0).take 1 = [a]) (h1 : (r.drop 1).take 1 = [b]) (h2 : (r.drop 2).take 1 = [c]) : r = [a, b, c] := cells3 h h0 h1 h2
theorem open_step {H : Type} {enc : TypeId × Value → H} {W : World} : ∀ (fuel : Nat) (cs : List Value) (x : DataW H × List MemPlace), DataW.trod enc Tryz.prog W 0 (fun _ => true) true fuel 27 cs = some x →
    ∃ y : StepD, cs = qv y ∧ ∀ d, QRd W d y := by
  intro fuel
  induction fuel using Nat.strongRecOn with
  | _ fuel ih =>
    intro cs x h
    obtain ⟨xs, m, hfu, _, hcl, hlen, hf⟩ := DataW.trod_struct Tryz.underlying27 h
    have hlen : xs.length = 3 := hlen
    have c1 : Tryz.prog.cellsOf 3 = 1 := by kernel_rfl
    have c2 : Tryz.prog.cellsOf 25 = 1 := by kernel_rfl
    have c3 : Tryz.prog.cellsOf 27 = 3 := by kernel_rfl
    have f0 : DataW.trod enc Tryz.prog W 0 (fun _ => true) true m 3 ((cs.drop 0).take (Tryz.prog.cellsOf 3)) = xs[0]? := hf 0 _ rfl
    have f1 : DataW.trod enc Tryz.prog W 0 (fun _ => true) true m 3 ((cs.drop 1).take (Tryz.prog.cellsOf 3)) = xs[1]? := hf 1 _ rfl
    have f2 : DataW.trod enc Tryz.prog W 0 (fun _ => true) true m 25 ((cs.drop 2).take (Tryz.prog.cellsOf 25)) = xs[2]? := hf 2 _ rfl
    rw [c1, List.getElem?_eq_getElem (by omega)] at f0 f1
    rw [c2, List.getElem?_eq_getElem (by omega)] at f2
    obtain ⟨o, e0, _, _⟩ := DataW.trod_int Tryz.underlying3 f0
    obtain ⟨n, e1, _, _⟩ := DataW.trod_int Tryz.underlying3 f1
    rw [c3] at hcl
    have hkids : ∃ (v : Value) (l : List StepD), (cs.drop 2).take 1 = [v] ∧ Rd W v l.length 3 (l.flatMap qv) ∧ ∀ y ∈ l, ∀ d, QRd W d y := by
      rcases DataW.trod_slice Tryz.underlying25 f2 with ⟨h1, _⟩ | ⟨a, len, cap, elems, rest, m', _, h1, _⟩
      · exact ⟨_, [], h1, ⟨none, 0, rfl, Nat.le_refl _, by omega, rfl, fun h => by simp at h⟩, fun y hy => (List.not_mem_nil hy).elim⟩
      · rw [h1] at f2
        obtain ⟨rows, g1, g2, g3⟩ := open_slN Tryz.underlying25 c3 (by decide) f2
        obtain ⟨l, h5, h6, h7⟩ := rows_enc (f := qv) (Q := fun y : StepD => ∀ d, QRd W d y) (rows := rows) (fun r hr => by
          obtain ⟨i, hi⟩ := List.getElem?_of_mem hr
          obtain ⟨_, n, x, hn, hx⟩ := g3 i r hi
          exact ih n (by omega) r x hx)
        exact ⟨_, l, h1, by rw [← h5, h6, g1]; exact g2, h7⟩
    obtain ⟨v, l, e2, hr, hl⟩ := hkids
    refine ⟨.mk o n v l, ?_, fun d => ?_⟩
    · rw [cells3 hcl e0 e1 e2]; rfl
    · cases d with
      | zero => obtain ⟨ao, c, h, _⟩ := hr; exact ⟨ao, _, c, h⟩
      | succ d => exact ⟨hr, fun y hy => hl y hy d⟩
end Go.Proofs.YtpnbdnfgdiakhaaGreat
