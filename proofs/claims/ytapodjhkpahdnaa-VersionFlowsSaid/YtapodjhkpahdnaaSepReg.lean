/-
  Regions that draw their order, in the logic of separate memory: what yields in every world at hand is taken first (the loads too), the other operations go in their own order;
  what must hold for the loads may grow from operation to operation, and ends where all loads have been.
-/
import Derived.OrdersHeld
import Derived.Test.YtapodjhkpahdnaaSepQuiet
namespace Go.Sep
open Go

/-- Number j waits for number i, by way of at most so many. -/
def awaits (md : Region.Mode) (ops : Array Oper) : Nat → Nat → Nat → Bool
  | 0, _, _ => false
  | n + 1, j, i => match ops[j]? with
    | none => false
    | some o => o.after.any fun e => Region.binds md e && (e.on == i || awaits md ops n e.on i)
def Closed (md : Region.Mode) (ops : Array Oper) (listed : Array Bool) : Prop :=
  ∀ j o, listed.getD j false = true → ops[j]? = some o → ∀ e ∈ o.after, Region.binds md e = true → listed.getD e.on false = true
def closedB (md : Region.Mode) (ops : Array Oper) (listed : Array Bool) : Bool :=
  (List.range listed.size).all fun j => !listed.getD j false || (match ops[j]? with | none => true | some o => o.after.all fun e => !Region.binds md e || listed.getD e.on false)

section
variable {P : Program} {ops : Array Oper} {Q : Exit → Act → World → Prop} {md : Region.Mode}

theorem closed_of {listed : Array Bool} (h : closedB md ops listed = true) : Closed md ops listed := fun j o hj ho e he hb => by
  unfold closedB at h
  rw [List.all_eq_true] at h
  have hlt : j < listed.size := by
    rcases Nat.lt_or_ge j listed.size with h' | h'
    · exact h'
    · simp [Array.getElem?_eq_none h'] at hj
  have h1 := h j (List.mem_range.2 hlt)
  simp only [hj, ho, Bool.not_true, Bool.false_or, Array.all_eq_true_iff_forall_mem, Bool.or_eq_true, Bool.not_eq_true'] at h1
  rcases h1 e he with h2 | h2
  · rw [hb] at h2; cases h2
  · exact h2
theorem closed_set {listed : Array Bool} {i : Nat} (h : Closed md ops listed) (hr : i ∈ Region.ready md ops listed) : Closed md ops (listed.setIfInBounds i true) := fun j o hj ho e he hb => by
  by_cases hij : i = j
  · subst hij
    obtain ⟨_, o', ho', hall⟩ := mem_ready.1 hr
    rw [ho] at ho'; cases ho'
    exact getD_set_true (hall e he hb)
  · rw [getD_set_ne false hij] at hj
    exact getD_set_true (h j o hj ho e he hb)
theorem awaits_listed {listed : Array Bool} (hc : Closed md ops listed) {i : Nat} : ∀ (n j : Nat) (o : Oper), ops[j]? = some o → (∀ e ∈ o.after, Region.binds md e = true → listed.getD e.on false = true) →
    awaits md ops n j i = true → listed.getD i false = true
  | 0, _, _, _, _, h => by cases h
  | n + 1, j, o, ho, hall, h => by
    unfold awaits at h
    simp only [ho] at h
    obtain ⟨e, he, hb⟩ := Array.any_eq_true'.1 h
    simp only [Bool.and_eq_true, Bool.or_eq_true, beq_iff_eq] at hb
    rcases hb.2 with h2 | h2
    · subst h2; exact hall e he hb.1
    · have hl := hall e he hb.1
      cases n with
      | zero => cases h2
      | succ n =>
        cases ho2 : ops[e.on]? with
        | none => unfold awaits at h2; simp [ho2] at h2
        | some o2 => exact awaits_listed hc (n + 1) e.on o2 ho2 (fun e2 he2 hb2 => hc e.on o2 hl ho2 e2 he2 hb2) h2

/-- Whatever order is picked from here on. 'S' is what the loads that were taken first stand on; it may grow; behind an operation of 'free' it may be any. -/
def wpAnyG (P : Program) (md : Region.Mode) (ops : Array Oper) (Q : Exit → Act → World → Prop) (free : List Nat) : Nat → (World → Prop) → Array Bool → Act → World → Prop
  | 0, _, listed, a, w => Region.ready md ops listed = [] ∧ Q .normal a w
  | fuel + 1, S, listed, a, w =>
    (Region.ready md ops listed = [] → Q .normal a w) ∧
    ∀ i ∈ Region.ready md ops listed, wpOp P ops Q i (fun a' w' => ∃ S' : World → Prop, S' w' ∧ (free.contains i = false → ∀ u, S' u → S u) ∧ wpAnyG P md ops Q free fuel S' (listed.setIfInBounds i true) a' w') a w

theorem wpAny_of_G {free : List Nat} : ∀ (fuel : Nat) (S : World → Prop) (listed : Array Bool) (a : Act) (w : World), wpAnyG P md ops Q free fuel S listed a w → wpAny P md ops Q fuel listed a w
  | 0, _, _, _, _, h => h
  | fuel + 1, _, _, _, _, h => ⟨h.1, fun i hi => wpOp_mono (fun a' w' ⟨S', _, _, h'⟩ => wpAny_of_G fuel S' _ a' w' h') (h.2 i hi)⟩

theorem YieldsIf.weaken {S S' : World → Prop} (h : ∀ u, S' u → S u) {o : Oper} {v : Value} {a : Act} (hy : YieldsIf P ops S o v a) : YieldsIf P ops S' o v a :=
  hy.imp (fun ⟨x, y⟩ => ⟨x, fun w hw => y w (h w hw)⟩) id

theorem wpAnyG_first {free : List Nat} {N i : Nat} {oi : Oper} {v : Value} (hi : ops[i]? = some oi) (hsel : ∀ (j : Nat) (o : Oper) cs b, ops[j]? = some o → o.op ≠ .select cs b)
    (hQ : ∀ c a w, Q (.panic c) (a.put oi.dst v) w → Q (.panic c) a w) :
    ∀ (fuel : Nat) (S : World → Prop) (listed : Array Bool) (a : Act) (w : World), Closed md ops listed →
      (∀ j oj, ops[j]? = some oj → j ≠ i → listed.getD j true = false → (∀ e ∈ oj.after, Region.binds md e = true → e.on ≠ i) → oi.apart ops oj = true) →
      (∀ j, j ≠ i → free.contains j = true → listed.getD j true = false → awaits md ops N j i = true) →
      i ∈ Region.ready md ops listed → YieldsIf P ops S oi v a → S w →
      wpAnyG P md ops Q free fuel S (listed.setIfInBounds i true) (a.put oi.dst v) w → wpAnyG P md ops Q free (fuel + 1) S listed a w := by
  intro fuel
  induction fuel with
  | zero =>
    intro S listed a w _ _ _ hr hy hS H
    refine ⟨fun h => (by rw [h] at hr; cases hr), fun j hj => ?_⟩
    by_cases hji : j = i
    · subst hji; exact hy.wpOp hi hS ⟨S, hS, fun _ _ h => h, H⟩
    · have := ready_mono hj hji
      rw [H.1] at this
      cases this
  | succ fuel ih =>
    intro S listed a w hcl hfree hnd hr hy hS H
    refine ⟨fun h => (by rw [h] at hr; cases hr), fun j hj => ?_⟩
    by_cases hji : j = i
    · subst hji; exact hy.wpOp hi hS ⟨S, hS, fun _ _ h => h, H⟩
    · have h1 := H.2 j (ready_mono hj hji)
      obtain ⟨hjun, oj, hoj, hall⟩ := mem_ready.1 hj
      have h0 := (mem_ready.1 hr).1
      have hun : listed.getD i false = false := by
        rcases Nat.lt_or_ge i listed.size with h' | h'
        · simp [h'] at h0 ⊢; exact h0
        · simp [Array.getElem?_eq_none h'] at h0
      have hnot : ∀ e ∈ oj.after, Region.binds md e = true → e.on ≠ i := fun e he hb heq => by
        have h1 := hall e he hb
        rw [heq, hun] at h1; cases h1
      have hjf : free.contains j = false := by
        cases hf : free.contains j with
        | false => rfl
        | true =>
          have := awaits_listed hcl N j oj hoj hall (hnd j hji hf hjun)
          rw [hun] at this; cases this
      have h2 := wpOp_putIf hoj (hfree j oj hoj hji hjun hnot) (fun cs b => hsel i oi cs b hi) (fun cs b => hsel j oj cs b hoj) hQ hy h1
      have hset : ∀ k, (listed.setIfInBounds j true).getD k true = false → listed.getD k true = false := fun k hun => by
        by_cases hjk : j = k
        · subst hjk; exact hjun
        · rw [getD_set_ne true hjk] at hun; exact hun
      refine wpOp_mono (fun a' w' h3 => ?_) h2
      obtain ⟨hy', S', hS', hSS, h4⟩ := h3
      refine ⟨S', hS', hSS, ih S' (listed.setIfInBounds j true) a' w' (closed_set hcl hj)
        (fun k ok hk hki hun hno => hfree k ok hk hki (hset k hun) hno) (fun k hki hf hun => hnd k hki hf (hset k hun))
        (ready_mono hr (Ne.symm hji)) (YieldsIf.weaken (hSS hjf) hy') hS' ?_⟩
      rw [Array.setIfInBounds_comm _ _ hji]
      exact h4
/-- What yields in whatever world. -/
theorem wpAnyG_firstP {free : List Nat} {i : Nat} {oi : Oper} {v : Value} (hi : ops[i]? = some oi) (hsel : ∀ (j : Nat) (o : Oper) cs b, ops[j]? = some o → o.op ≠ .select cs b)
    (hQ : ∀ c a w, Q (.panic c) (a.put oi.dst v) w → Q (.panic c) a w) :
    ∀ (fuel : Nat) (S : World → Prop) (listed : Array Bool) (a : Act) (w : World),
      (∀ j oj, ops[j]? = some oj → j ≠ i → listed.getD j true = false → (∀ e ∈ oj.after, Region.binds md e = true → e.on ≠ i) → oi.apart ops oj = true) →
      i ∈ Region.ready md ops listed → YieldsIf P ops (fun _ => True) oi v a → S w →
      wpAnyG P md ops Q free fuel S (listed.setIfInBounds i true) (a.put oi.dst v) w → wpAnyG P md ops Q free (fuel + 1) S listed a w := by
  intro fuel
  induction fuel with
  | zero =>
    intro S listed a w _ hr hy hS H
    refine ⟨fun h => (by rw [h] at hr; cases hr), fun j hj => ?_⟩
    by_cases hji : j = i
    · subst hji; exact hy.wpOp hi trivial ⟨S, hS, fun _ _ h => h, H⟩
    · have := ready_mono hj hji
      rw [H.1] at this
      cases this
  | succ fuel ih =>
    intro S listed a w hfree hr hy hS H
    refine ⟨fun h => (by rw [h] at hr; cases hr), fun j hj => ?_⟩
    by_cases hji : j = i
    · subst hji; exact hy.wpOp hi trivial ⟨S, hS, fun _ _ h => h, H⟩
    · have h1 := H.2 j (ready_mono hj hji)
      obtain ⟨hjun, oj, hoj, hall⟩ := mem_ready.1 hj
      have h0 := (mem_ready.1 hr).1
      have hnot : ∀ e ∈ oj.after, Region.binds md e = true → e.on ≠ i := fun e he hb heq => by
        have h1 := hall e he hb
        rw [heq] at h1
        rcases Nat.lt_or_ge i listed.size with h' | h'
        · simp [h'] at h0 h1; rw [h0] at h1; cases h1
        · simp [Array.getElem?_eq_none h'] at h1
      have h2 := wpOp_putIf hoj (hfree j oj hoj hji hjun hnot) (fun cs b => hsel i oi cs b hi) (fun cs b => hsel j oj cs b hoj) hQ hy h1
      have hset : ∀ k, (listed.setIfInBounds j true).getD k true = false → listed.getD k true = false := fun k hun => by
        by_cases hjk : j = k
        · subst hjk; exact hjun
        · rw [getD_set_ne true hjk] at hun; exact hun
      refine wpOp_mono (fun a' w' h3 => ?_) h2
      obtain ⟨hy', S', hS', hSS, h4⟩ := h3
      refine ⟨S', hS', hSS, ih S' (listed.setIfInBounds j true) a' w'
        (fun k ok hk hki hun hno => hfree k ok hk hki (hset k hun) hno) (ready_mono hr (Ne.symm hji)) hy' hS' ?_⟩
      rw [Array.setIfInBounds_comm _ _ hji]
      exact h4
end

/-! ### the moves of a walk -/
/-- The n-th of a list; it yields the element as it is written. -/
def nth : List Oper → Nat → Option Oper
  | [], _ => none
  | o :: _, 0 => some o
  | _ :: l, n + 1 => nth l n
theorem nth_eq : ∀ (l : List Oper) (n : Nat), nth l n = l.toArray[n]?
  | [], n => by simp [nth]
  | o :: l, 0 => by simp [nth]
  | o :: l, n + 1 => by rw [nth, nth_eq l n]; simp

/-- The walk's state: the loads that were taken first stand on 'Sat W · L'. -/
def Reg (P : Program) (Q : Exit → Act → World → Prop) (free : List Nat) (l : List Oper) (W : World) (fuel : Nat) (L : List Asrt) (listed : List Bool) (a : Act) (w : World) : Prop :=
  wpAnyG P .any l.toArray Q free fuel (fun u => Sat W u L) listed.toArray a w

section
variable {P : Program} {Q : Exit → Act → World → Prop} {free : List Nat} {l : List Oper} {W w : World} {L L' : List Asrt} {fuel : Nat} {listed : List Bool} {a : Act}

/-- The same assertions behind the draw. -/
theorem Sat.of_draw (hS : Sat W w L) {w' : World} {L0 : List Asrt} (_ : Sat W w' L0) (h : w'.heap = w.heap) (h2 : w'.os = w.os) (h3 : w'.output = w.output) : Sat W w' L := hS.of_heap h h2 h3
theorem regStart (free : List Nat) (hS : Sat W w L) {id : Nat} {n : Nat} (hm : P.follows .mixedOrders = true) (hn : l.length = n)
    (h : ∀ w', Sat W w' L → Reg P Q free l W n L (List.replicate n false) a w') : (Code.region id l.toArray true).wp P Q a w := by
  subst hn
  refine wp_region_any hm (wpAny_of_G (free := free) _ (fun u => Sat W u L) _ _ _ ?_)
  have := h _ (hS.of_heap (w' := { w with drawn := w.drawn + 1 }) rfl rfl rfl)
  unfold Reg at this
  simpa using this

theorem regStart2 {Lf : List Asrt} (free : List Nat) (hS : Sat W w Lf) (_ : ∀ u, Sat W u Lf → Sat W u L) {id : Nat} {n : Nat} (hm : P.follows .mixedOrders = true) (hn : l.length = n)
    (h : ∀ w', Sat W w' Lf → Reg P Q free l W n L (List.replicate n false) a w') : (Code.region id l.toArray true).wp P Q a w := by
  subst hn
  refine wp_region_any hm (wpAny_of_G (free := free) _ (fun u => Sat W u L) _ _ _ ?_)
  have := h _ (hS.of_heap (w' := { w with drawn := w.drawn + 1 }) rfl rfl rfl)
  unfold Reg at this
  simpa using this
theorem regP (i : Nat) (hS : Sat W w L') (hL : ∀ u, Sat W u L' → Sat W u L) {oi : Oper} (hi : nth l i = some oi) (hs : Region.noSelect l.toArray = true) (hf : Region.free .any l.toArray listed.toArray i = true)
    (hr : (Region.ready .any l.toArray listed.toArray).contains i = true) (hQ : ∀ v c a w, Q (.panic c) (a.put oi.dst v) w → Q (.panic c) a w)
    (hw : Region.wanted oi (yielded l.toArray a.tmps) = true) {listed' : List Bool} (hl : listed.set i true = listed')
    (h : ∃ v, (∀ u, (execOp a.eval oi).run P u = .ok (.value v) u) ∧ Reg P Q free l W fuel L listed' (a.put oi.dst v) w) : Reg P Q free l W (fuel + 1) L listed a w := by
  subst hl
  rw [nth_eq] at hi
  obtain ⟨v, hy, h⟩ := h
  exact wpAnyG_firstP hi (Region.noSelect_spec hs) (hQ v) fuel _ _ a w (Region.free_spec hi hf) (by simpa using hr) (.inl ⟨hw, fun u _ => hy u⟩) (hL w hS) (by simpa [Reg] using h)
/-- A guard that does not want it. -/
theorem regN (i : Nat) (hS : Sat W w L') (hL : ∀ u, Sat W u L' → Sat W u L) {oi : Oper} (hi : nth l i = some oi) (hs : Region.noSelect l.toArray = true) (hf : Region.free .any l.toArray listed.toArray i = true)
    (hr : (Region.ready .any l.toArray listed.toArray).contains i = true) (hQ : ∀ c a w, Q (.panic c) (a.put oi.dst undef) w → Q (.panic c) a w)
    (hw : Region.wanted oi (yielded l.toArray a.tmps) = false)
    {listed' : List Bool} (hl : listed.set i true = listed') (h : Reg P Q free l W fuel L listed' (a.put oi.dst undef) w) : Reg P Q free l W (fuel + 1) L listed a w := by
  subst hl
  rw [nth_eq] at hi
  exact wpAnyG_firstP hi (Region.noSelect_spec hs) hQ fuel _ _ a w (Region.free_spec hi hf) (by simpa using hr) (.inr ⟨hw, rfl⟩) (hL w hS) (by simpa [Reg] using h)
/-- Operations of 'free' wait for number i. -/
def waitsB (l : List Oper) (free : List Nat) (listed : List Bool) (i : Nat) : Bool :=
  free.all fun j => j == i || listed.toArray.getD j true || awaits .any l.toArray 3 j i
theorem regR (i : Nat) (hS : Sat W w L') (hL : ∀ u, Sat W u L' → Sat W u L) {oi : Oper} (hi : nth l i = some oi) (hs : Region.noSelect l.toArray = true) (hf : Region.free .any l.toArray listed.toArray i = true)
    (hr : (Region.ready .any l.toArray listed.toArray).contains i = true) (hc : closedB .any l.toArray listed.toArray = true) (hn : waitsB l free listed i = true)
    (hQ : ∀ v c a w, Q (.panic c) (a.put oi.dst v) w → Q (.panic c) a w)
    (hw : Region.wanted oi (yielded l.toArray a.tmps) = true) {listed' : List Bool} (hl : listed.set i true = listed')
    (h : ∃ v, (∀ u, Sat W u L → (execOp a.eval oi).run P u = .ok (.value v) u) ∧ Reg P Q free l W fuel L listed' (a.put oi.dst v) w) : Reg P Q free l W (fuel + 1) L listed a w := by
  subst hl
  rw [nth_eq] at hi
  obtain ⟨v, hy, h⟩ := h
  refine wpAnyG_first (N := 3) hi (Region.noSelect_spec hs) (hQ v) fuel _ _ a w (closed_of hc) (Region.free_spec hi hf) (fun j hji hj hun => ?_) (by simpa using hr) (.inl ⟨hw, hy⟩) (hL w hS) (by simpa [Reg] using h)
  unfold waitsB at hn
  have := List.all_eq_true.1 hn j (by simpa using hj)
  simp only [Bool.or_eq_true, beq_iff_eq, hun, hji, Bool.false_eq_true, false_or] at this
  exact this
/-- The only one that may come up. -/
theorem regA (i : Nat) {oi : Oper} (hi : nth l i = some oi) (hr : Region.ready .any l.toArray listed.toArray = [i])
    (hw : Region.wanted oi (yielded l.toArray a.tmps) = true) {listed' : List Bool} (hl : listed.set i true = listed') (b : Bool) (hb : free.contains i = b)
    (h : ∀ K : Act → World → Prop, (∀ a' w' (L' : List Asrt), Sat W w' L' → (b = false → ∀ u, Sat W u L' → Sat W u L) → Reg P Q free l W fuel L' listed' a' w' → K a' w') → oi.wp P a w K Q) : Reg P Q free l W (fuel + 1) L listed a w := by
  subst hl
  subst hb
  unfold Reg wpAnyG
  refine ⟨fun h0 => (by rw [hr] at h0; cases h0), fun j hj => ?_⟩
  rw [hr, List.mem_singleton] at hj
  subst hj
  rw [nth_eq] at hi
  unfold wpOp
  simp only [hi]
  rw [if_pos hw]
  refine .inl (h _ fun a' w' L' h1 h2 h3 => ⟨fun u => Sat W u L', h1, h2, ?_⟩)
  simpa [Reg] using h3
/-- One that may come up, and is not wanted. -/
theorem regDone (hr : Region.ready .any l.toArray listed.toArray = []) (h : Q .normal a w) : Reg P Q free l W fuel L listed a w := by
  unfold Reg
  cases fuel with
  | zero => exact ⟨hr, h⟩
  | succ n => exact ⟨fun _ => h, by rw [hr]; simp⟩

/-! ### what only reads -/
variable {o : Oper} {K : Act → World → Prop} {k b off : Nat} {T : TypeId}
theorem wp_of_reads {v : Value} (hr : (execOp a.eval o).run P w = .ok (.value v) w) (h : K (a.put o.dst v) w) : o.wp P a w K Q := by
  unfold Oper.wp
  rw [hr]
  exact h
theorem rd_of {s : Sem Value} (hs : execOp a.eval o = (do let x ← s; pure (.value x))) {v : Value} (hr : s.run P w = .ok v w) : (execOp a.eval o).run P w = .ok (.value v) w := by
  rw [hs]; simp [hr]
theorem rLd (hS : Sat W w L) (T : TypeId) (x : Operand) (ho : o.op = .load T x) (b off : Nat) (hx : a.eval x = .pointer (some ⟨b, off, none⟩)) (hT : aggB P T = some false)
    {k E l v} (hk : Has L k (Cs b E l)) (hv : l[off]? = some v) : (execOp a.eval o).run P w = .ok (.value v) w :=
  rd_of (s := loadVar T ⟨b, off, none⟩) (by simp [execOp, ho, hx, Instr.loadAt, Instr.sureAddr]) (run_loadScalar hT (hS.cell hk hv))
theorem rLdA (hS : Sat W w L) (T : TypeId) (x : Operand) (ho : o.op = .load T x) (b off : Nat) (hx : a.eval x = .pointer (some ⟨b, off, none⟩)) (hT : aggB P T = some true)
    {n} (hn : szB P T = some n) {k E l} (hk : Has L k (Cs b E l)) {vs : List Value} (hvs : (l.drop off).take n = vs) (hb : vs.length = n) : (execOp a.eval o).run P w = .ok (.value (.agg vs.toArray)) w := by
  subst hvs
  exact rd_of (s := loadVar T ⟨b, off, none⟩) (by simp [execOp, ho, hx, Instr.loadAt, Instr.sureAddr])
    (run_loadAgg hT hn hb fun j v hv => hS.cell hk (by
      rw [List.getElem?_take] at hv
      split at hv
      · rwa [List.getElem?_drop] at hv
      · cases hv))
theorem rLdOld (hS : Sat W w L) (T : TypeId) (x : Operand) (ho : o.op = .load T x) (b off : Nat) (hx : a.eval x = .pointer (some ⟨b, off, none⟩)) (hT : aggB P T = some false)
    {v} (hv : W.cell? ⟨b, off, none⟩ = some v) : (execOp a.eval o).run P w = .ok (.value v) w :=
  rd_of (s := loadVar T ⟨b, off, none⟩) (by simp [execOp, ho, hx, Instr.loadAt, Instr.sureAddr])
    (run_loadScalar hT (by rw [World.cell?_of_block (hS.old (World.block_lt_of_cell? W _ hv))]; exact hv))
theorem rLdAOld (hS : Sat W w L) (T : TypeId) (x : Operand) (ho : o.op = .load T x) (b off : Nat) (hx : a.eval x = .pointer (some ⟨b, off, none⟩)) (hT : aggB P T = some true)
    {n} (hn : szB P T = some n) {vs : List Value} (hb : vs.length = n) (hv : ∀ j v, vs[j]? = some v → W.cell? ⟨b, off + j, none⟩ = some v) : (execOp a.eval o).run P w = .ok (.value (.agg vs.toArray)) w :=
  rd_of (s := loadVar T ⟨b, off, none⟩) (by simp [execOp, ho, hx, Instr.loadAt, Instr.sureAddr])
    (run_loadAgg hT hn hb fun j v h => by
      have h2 := hv j v h
      rw [World.cell?_of_block (hS.old (World.block_lt_of_cell? W _ h2))]; exact h2)
/-- Out of a slice that is only read: a cell, a whole element. -/
theorem Rd.at {v : Value} {b off n sz c : Nat} {vs : List Value} {j : Nat} (h : Rd w (.slice (some ⟨b, off, none⟩) n c) n sz vs) (hn : 0 < n) (hv : vs[j]? = some v) : w.cell? ⟨b, off + j, none⟩ = some v := by
  obtain ⟨ao, c', h1, _, _, _, h5⟩ := h
  simp only [Value.slice.injEq, true_and] at h1
  obtain ⟨rfl, rfl⟩ := h1
  obtain ⟨b', off', h6, h7⟩ := h5 hn
  simp only [Option.some.injEq, Addr.mk.injEq, and_true] at h6
  obtain ⟨rfl, rfl⟩ := h6
  exact h7 _ _ hv
theorem rLdRdA {α : Type} {f : α → List Value} {l : List α} {x : α} {off n sz c : Nat} (h : Rd w (.slice (some ⟨b, off, none⟩) n c) n sz (l.flatMap f)) (hf : ∀ x ∈ l, (f x).length = sz) (T : TypeId) (y : Operand) (ho : o.op = .load T y) (ad : Nat) (hy : a.eval y = .pointer (some ⟨b, ad, none⟩)) (hT : aggB P T = some true) (hs : szB P T = some sz)
    (i : Nat) (hj : ad = off + i * sz) (hx : l[i]? = some x) (hn : 0 < n) : (execOp a.eval o).run P w = .ok (.value (.agg (f x).toArray)) w := by
  subst hj
  exact rd_of (s := loadVar T ⟨b, off + i * sz, none⟩) (by simp [execOp, ho, hy, Instr.loadAt, Instr.sureAddr])
    (run_loadAgg hT hs (hf x (List.mem_of_getElem? hx)) fun j u hu => by rw [Nat.add_assoc]; exact h.at hn (fm_cell hf hx hu))
theorem rLdRd {α : Type} {f : α → List Value} {l : List α} {x : α} {off n sz c : Nat} (h : Rd w (.slice (some ⟨b, off, none⟩) n c) n sz (l.flatMap f)) (hf : ∀ x ∈ l, (f x).length = sz) (T : TypeId) (y : Operand) (ho : o.op = .load T y) (ad : Nat) (hy : a.eval y = .pointer (some ⟨b, ad, none⟩)) (hT : aggB P T = some false)
    (i j : Nat) (hj : ad = off + (i * sz + j)) (hx : l[i]? = some x) {u : Value} (hu : (f x)[j]? = some u) (hn : 0 < n) : (execOp a.eval o).run P w = .ok (.value u) w := by
  subst hj
  exact rd_of (s := loadVar T ⟨b, off + (i * sz + j), none⟩) (by simp [execOp, ho, hy, Instr.loadAt, Instr.sureAddr]) (run_loadScalar hT (h.at hn (fm_cell hf hx hu)))
theorem rLdSl (hS : Sat W w L) (T : TypeId) (x : Operand) (ho : o.op = .load T x) (b ad : Nat) (hx : a.eval x = .pointer (some ⟨b, ad, none⟩)) (hT : aggB P T = some false)
    {k E sz off c n vs} (hk : Has L k (Sl E sz (.slice (some ⟨b, off, none⟩) n c) n vs)) (j : Nat) (hj : ad = off + j) {v : Value} (hv : vs[j]? = some v) : (execOp a.eval o).run P w = .ok (.value v) w := by
  subst hj
  exact rd_of (s := loadVar T ⟨b, off + j, none⟩) (by simp [execOp, ho, hx, Instr.loadAt, Instr.sureAddr]) (run_loadScalar hT (hS.slCell hk hv).1)
theorem rLdTb {α : Type} {f : α → List Value} {xs : List α} {x : α} {off sz c E k : Nat} (hS : Sat W w L) (T : TypeId) (y : Operand) (ho : o.op = .load T y) (b ad : Nat) (hy : a.eval y = .pointer (some ⟨b, ad, none⟩)) (hT : aggB P T = some false)
    (hk : Has L k (Tb E sz f (.slice (some ⟨b, off, none⟩) xs.length c) xs)) (i j : Nat) (hj : ad = off + (i * sz + j)) (hx : xs[i]? = some x) {u : Value} (hu : (f x)[j]? = some u) : (execOp a.eval o).run P w = .ok (.value u) w := by
  subst hj
  exact rd_of (s := loadVar T ⟨b, off + (i * sz + j), none⟩) (by simp [execOp, ho, hy, Instr.loadAt, Instr.sureAddr]) (run_loadScalar hT (hS.tbCell hk hx hu).1)
theorem rLdTbA {α : Type} {f : α → List Value} {xs : List α} {x : α} {off sz c E k : Nat} (hS : Sat W w L) (T : TypeId) (y : Operand) (ho : o.op = .load T y) (b ad : Nat) (hy : a.eval y = .pointer (some ⟨b, ad, none⟩)) (hT : aggB P T = some true) (hn : szB P T = some sz)
    (hk : Has L k (Tb E sz f (.slice (some ⟨b, off, none⟩) xs.length c) xs)) (i : Nat) (hj : ad = off + i * sz) (hx : xs[i]? = some x) : (execOp a.eval o).run P w = .ok (.value (.agg (f x).toArray)) w := by
  subst hj
  have hl := hS.tbLen hk x (List.mem_of_getElem? hx)
  exact rd_of (s := loadVar T ⟨b, off + i * sz, none⟩) (by simp [execOp, ho, hy, Instr.loadAt, Instr.sureAddr])
    (run_loadAgg hT hn hl fun j u hu => by rw [Nat.add_assoc]; exact (hS.tbCell hk hx hu).1)
theorem rCv (S T : TypeId) (x : Operand) (ho : o.op = .convert S T x) (xv : Value) (hx : a.eval x = xv) {e : TypeId} (hST : strB P S T = some e)
    {n : Nat} {l : List UInt8} (hr : Rd w xv n 1 (bv l)) : (execOp a.eval o).run P w = .ok (.value (.string ⟨l.toArray⟩)) w := by
  unfold strB at hST
  split at hST
  · rename_i e' hS hT
    split at hST
    · rename_i he
      have hrun := hr.bytes (P := P)
      obtain ⟨ao, c, rfl, _⟩ := hr
      refine rd_of (s := convert S T (.slice ao n c)) (by simp [execOp, ho, hx]) (v := .string ⟨l.toArray⟩) ?_
      cases ao <;> simp [convert, run_underlying hS, run_underlying hT, run_underlying he, hrun]
    · cases hST
  · cases hST

/-! ### the same, in all worlds that meet L -/
section
variable {W : World} {L : List Asrt}
theorem yLd (T : TypeId) (x : Operand) (ho : o.op = .load T x) (b off : Nat) (hx : a.eval x = .pointer (some ⟨b, off, none⟩)) (hT : aggB P T = some false)
    {k E l v} (hk : Has L k (Cs b E l)) (hv : l[off]? = some v) : ∀ u, Sat W u L → (execOp a.eval o).run P u = .ok (.value v) u := fun _ hS => rLd hS T x ho b off hx hT hk hv
theorem yLdA (T : TypeId) (x : Operand) (ho : o.op = .load T x) (b off : Nat) (hx : a.eval x = .pointer (some ⟨b, off, none⟩)) (hT : aggB P T = some true)
    {n} (hn : szB P T = some n) {k E l} (hk : Has L k (Cs b E l)) {vs : List Value} (hvs : (l.drop off).take n = vs) (hb : vs.length = n) : ∀ u, Sat W u L → (execOp a.eval o).run P u = .ok (.value (.agg vs.toArray)) u :=
  fun _ hS => rLdA hS T x ho b off hx hT hn hk hvs hb
theorem yLdOld (T : TypeId) (x : Operand) (ho : o.op = .load T x) (b off : Nat) (hx : a.eval x = .pointer (some ⟨b, off, none⟩)) (hT : aggB P T = some false)
    {v} (hv : W.cell? ⟨b, off, none⟩ = some v) : ∀ u, Sat W u L → (execOp a.eval o).run P u = .ok (.value v) u := fun _ hS => rLdOld hS T x ho b off hx hT hv
theorem yLdSl (T : TypeId) (x : Operand) (ho : o.op = .load T x) (b ad : Nat) (hx : a.eval x = .pointer (some ⟨b, ad, none⟩)) (hT : aggB P T = some false)
    {k E sz off c n vs} (hk : Has L k (Sl E sz (.slice (some ⟨b, off, none⟩) n c) n vs)) (j : Nat) (hj : ad = off + j) {v : Value} (hv : vs[j]? = some v) : ∀ u, Sat W u L → (execOp a.eval o).run P u = .ok (.value v) u :=
  fun _ hS => rLdSl hS T x ho b ad hx hT hk j hj hv
theorem yLdTb {α : Type} {f : α → List Value} {xs : List α} {x : α} {off sz c E k : Nat} (T : TypeId) (y : Operand) (ho : o.op = .load T y) (b ad : Nat) (hy : a.eval y = .pointer (some ⟨b, ad, none⟩)) (hT : aggB P T = some false)
    (hk : Has L k (Tb E sz f (.slice (some ⟨b, off, none⟩) xs.length c) xs)) (i j : Nat) (hj : ad = off + (i * sz + j)) (hx : xs[i]? = some x) {v : Value} (hu : (f x)[j]? = some v) : ∀ u, Sat W u L → (execOp a.eval o).run P u = .ok (.value v) u :=
  fun _ hS => rLdTb hS T y ho b ad hy hT hk i j hj hx hu
theorem yLdTbA {α : Type} {f : α → List Value} {xs : List α} {x : α} {off sz c E k : Nat} (T : TypeId) (y : Operand) (ho : o.op = .load T y) (b ad : Nat) (hy : a.eval y = .pointer (some ⟨b, ad, none⟩)) (hT : aggB P T = some true) (hn : szB P T = some sz)
    (hk : Has L k (Tb E sz f (.slice (some ⟨b, off, none⟩) xs.length c) xs)) (i : Nat) (hj : ad = off + i * sz) (hx : xs[i]? = some x) : ∀ u, Sat W u L → (execOp a.eval o).run P u = .ok (.value (.agg (f x).toArray)) u :=
  fun _ hS => rLdTbA hS T y ho b ad hy hT hn hk i hj hx
theorem yCv (S T : TypeId) (x : Operand) (ho : o.op = .convert S T x) (xv : Value) (hx : a.eval x = xv) {e : TypeId} (hST : strB P S T = some e)
    {n : Nat} {l : List UInt8} (hr : ∀ u, Sat W u L → Rd u xv n 1 (bv l)) : ∀ u, Sat W u L → (execOp a.eval o).run P u = .ok (.value (.string ⟨l.toArray⟩)) u := fun u hS => rCv S T x ho xv hx hST (hr u hS)
end
theorem agg1 (X : List Value) : [Value.agg X.toArray].flatMap (fun v => v.cells.toList) = X := by simp [Value.cells]
theorem sca1 {v : Value} (h : v.cells = #[v]) : [v].flatMap (fun v => v.cells.toList) = [v] := by simp [h]
theorem fm1 {α : Type} (f : α → List Value) (x : α) : [x].flatMap f = f x := by simp
/-- The row of one element that a call of append makes for itself. -/
theorem Sat.src1 {α : Type} {f : α → List Value} {x : α} {sz E b k : Nat} {L : List Asrt} (h : Sat W w L) (hk : Has L k (Cs b E (f x))) (hf : (f x).length = sz) : Src w (.slice (some ⟨b, 0, none⟩) 1 1) [x].length sz ([x].flatMap f) := by
  rw [fm1]
  exact .inl (h.csRd0 hk (by decide) (by simp [hf]))
theorem stTbN {α : Type} {f : α → List Value} {xs : List α} {off sz c E k n : Nat} (hS : Sat W w L) (T : TypeId) (z y : Operand) (ho : o.op = .store T z y) (b ad : Nat) (hz : a.eval z = .pointer (some ⟨b, ad, none⟩)) (x' : α) (hy : a.eval y = .agg (f x').toArray) (h1 : ∀ u ∈ f x', u.oneCell' = true) (hlen : (f x').length = sz) (hn : szB P T = some sz)
    (hk : Has L k (Tb E sz f (.slice (some ⟨b, off, none⟩) n c) xs)) (hxn : xs.length = n) (i : Nat) (hj : ad = off + i * sz) (hi : i < n)
    (h : ∀ w', Sat W w' (L.set k (Tb E sz f (.slice (some ⟨b, off, none⟩) n c) (xs.set i x'))) → K (a.put o.dst undef) w') : o.wp P a w K Q := by
  subst hxn
  exact stTbA hS T z y ho b ad hz x' hy h1 hlen hn hk i hj hi h
/-- What a slice of elements is: nil, or a place. -/
theorem Sat.tbCases {α : Type} {f : α → List Value} {xs : List α} {v : Value} {sz E k : Nat} (h : Sat W w L) (hk : Has L k (Tb E sz f v xs)) :
    (v = .slice none 0 0 ∧ xs = []) ∨ ∃ b off c, v = .slice (some ⟨b, off, none⟩) xs.length c ∧ xs.length ≤ c ∧ c ≤ 9223372036854775807 := by
  rcases (h.front k hk).tbOpen.2.slOpen with ⟨h1, h2, _⟩ | ⟨E', b, off, cap, pre, rest, h1, h2, h3, _⟩
  · exact .inl ⟨h1, List.eq_nil_of_length_eq_zero h2⟩
  · exact .inr ⟨b, off, cap, h1, h2, h3⟩
/-- A whole variable of several cells is written. -/
theorem stW {k b E : Nat} {l : List Value} (hS : Sat W w L) (T : TypeId) (x y : Operand) (ho : o.op = .store T x y) (hx : a.eval x = .pointer (some ⟨b, 0, none⟩)) (vs : List Value) (hy : a.eval y = .agg vs.toArray) (hv : ∀ v ∈ vs, v.oneCell' = true) (hn : szB P T = some vs.length)
    (hk : Has L k (Cs b E l)) (hb : vs.length = l.length) (h : ∀ w', Sat W w' (L.set k (Cs b E vs)) → K (a.put o.dst undef) w') : o.wp P a w K Q := by
  refine stA hS T x y ho b 0 hx vs hy hv hn hk (by omega) fun w' hS' => h w' ?_
  rw [List.take_zero, List.nil_append, Nat.zero_add, List.drop_eq_nil_of_le (by omega), List.append_nil] at hS'
  exact hS'
/-- An element more; the slice is shown. -/
theorem apTbS {α : Type} {f : α → List Value} {xs : List α} {k : Nat} (hS : Sat W w L) (T T2 : TypeId) (y z : Operand) (ho : o.op = .call { callee := .builtin .append, args := #[y, z], argTypes := #[T, T2] }) (v xv : Value) (hy : a.eval y = v) (hz : a.eval z = xv)
    {e size bytes : Nat} {zv : Value} (hT : elemB P T = some (e, size, bytes, some zv)) (hzs : zv.cells.size = size) (hpos : 0 < size) (hT2 : intB P T2 = some false)
    (hk : Has L k (Tb e size f v xs)) (ys : List α) (hlen : ∀ x ∈ ys, (f x).length = size) (hsrc : Src w xv ys.length size (ys.flatMap f)) (h1 : ∀ u ∈ ys.flatMap f, u.oneCell' = true) (hb : (xs.length + ys.length) * bytes ≤ 140737488355328) (hm : xs.length + ys.length ≤ 9223372036854775807)
    (h : ∀ ao c w', (xs ++ ys).length ≤ c → Sat W w' (L.set k (Tb e size f (.slice ao (xs ++ ys).length c) (xs ++ ys))) → K (a.put o.dst (.slice ao (xs ++ ys).length c)) w') : o.wp P a w K Q := by
  refine apTb hS T T2 y z ho v xv hy hz hT hzs hpos hT2 hk ys hlen hsrc h1 hb hm fun v' w' hS' => ?_
  have hkl : k < L.length := (List.getElem?_eq_some_iff.1 hk).1
  obtain ⟨ao, c, rfl, hc⟩ := hS'.tbShape (k := k) (by unfold Has; rw [List.getElem?_set_self hkl])
  exact h ao c w' hc hS'
theorem _root_.Go.Calls.atS {P : Program} {W w : World} {L : List Asrt} {k : Nat} {f : FuncId} {args : Array Value} {v : Value} {A A' : Asrt} (hS : Sat W w L) (hk : Has L k A)
    (hc : Sat W w (A :: L.eraseIdx k) → Calls P f args w fun e w' => e = .returned v ∧ Sat W w' (A' :: L.eraseIdx k)) : Calls P f args w fun e w' => e = .returned v ∧ Sat W w' (L.set k A') :=
  (hc (hS.front k hk)).mono fun _ _ ⟨h1, h2⟩ => ⟨h1, h2.back hk⟩
/-! ### a call -/
def callB (P : Program) (f : FuncId) : Bool := match P.funcs[f]? with | some fn => !(fn.name == "runtime.NumGoroutine") && !fn.body.isNone | none => false
theorem run_callB {f : FuncId} (h : callB P f = true) (args : Array Value) (w : World) : (callFunc f args).run P w = .ok (.enter f args) w := by
  unfold callB at h
  split at h
  · rename_i fn hf
    simp only [Bool.and_eq_true, Bool.not_eq_true'] at h
    have h1 : ¬ fn.name = "runtime.NumGoroutine" := by simpa using h.1
    have h2 : ¬ fn.body = none := fun e => by rw [e] at h; simp at h
    simp [callFunc, hf, h1, h2]
  · cases h
theorem cl (f : FuncId) (xs : List Operand) (ts : Array TypeId) (ho : o.op = .call { callee := .value (.func f), args := xs.toArray, argTypes := ts }) {args : List Value} (hx : xs.map a.eval = args)
    (hf : callB P f = true) {R : Ending → World → Prop} (hc : Calls P f args.toArray w R) (h : ∀ e w', R e w' → ∃ v, e = .returned v ∧ K (a.put o.dst v) w') : o.wp P a w K Q := by
  subst hx
  unfold Oper.wp
  have hr : (execOp a.eval o).run P w = .ok (.enter f (xs.map a.eval).toArray) w := by
    rw [show execOp a.eval o = callFunc f (#[] ++ xs.toArray.map a.eval ++ #[]) from by unfold execOp; rw [ho]; rfl, run_callB hf]
    simp
  rw [hr, Oper.upon_enter]
  refine hc.mono fun e w' he => ?_
  obtain ⟨v, rfl, hK⟩ := h e w' he
  exact hK
theorem Sat.stSnoc {A : Asrt} {M : List Asrt} (h : Sat W w (A :: St M :: L)) : Sat W w (St (M ++ [A]) :: L) := Sat.mkSt (by simpa using h.pull1.open)
theorem Sat.stNil (h : Sat W w L) : Sat W w (St [] :: L) := Sat.mkSt h
theorem Sat.one {A : Asrt} {k : Nat} (h : Sat W w L) (hk : Has L k A) : Sat W w [A] := by
  have h2 := (h.front k hk)
  exact h2.map fun _ ⟨h1, h2, s1, _, _, a, _⟩ => ⟨h1, fun _ => none, s1, (fun _ _ e => by cases e), fun _ => .inr rfl, a, trivial⟩
/-- A row among many. -/
theorem Sat.stAt {A : Asrt} {M : List Asrt} {k j : Nat} (h : Sat W w L) (hk : Has L k (St M)) (hj : Has M j A) : ∃ L', Sat W w (A :: L') := by
  have h2 := (h.front k hk).open
  exact ⟨_, h2.front j (by rw [List.getElem?_append_left (List.getElem?_eq_some_iff.1 hj).1]; exact hj)⟩
end
end Go.Sep
