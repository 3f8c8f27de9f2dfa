/-
  Versions: what a keeper does to its graph, and what it writes down (plain).
-/
import Derived.Test.YtapodjhkpahdnaaLbKeepP
import Derived.Test.YtapodjhkpahdnaaGrDo
import Derived.Test.YtapodjhkpahdnaaRecD
namespace Go.Proofs.Ytapodjhkpahdnaa
open Go.Sep
set_option linter.unusedSimpArgs false
set_option linter.unusedVariables false
/-- Objects that may be. -/
def Gr.Vd (G : Gr) : Prop := ∀ x ∈ G.N, newOk x.kind x.obj = true
theorem Gr.vd_add {G : Gr} (h : G.Vd) (k o : Int) : (G.addG k o).Vd := by
  unfold Gr.addG
  split
  · rename_i h2
    simp only [Gr.addOk, Bool.and_eq_true] at h2
    intro x hx
    simp only [Gr.plus, List.mem_append, List.mem_singleton] at hx
    rcases hx with hx | rfl
    · exact h x hx
    · exact h2.1
  · exact h
theorem Gr.vd_withN {G : Gr} (h : G.Vd) {N : List NodeD} (hN : N.map (fun x => (x.kind, x.obj)) = G.N.map (fun x => (x.kind, x.obj))) : (G.withN N).Vd := fun x hx => by
  have h2 : (x.kind, x.obj) ∈ N.map (fun x => (x.kind, x.obj)) := List.mem_map.2 ⟨x, hx, rfl⟩
  rw [hN] at h2
  obtain ⟨y, hy, e⟩ := List.mem_map.1 h2
  simp only [Prod.mk.injEq] at e
  have := h y hy
  rw [e.1, e.2] at this
  exact this
theorem Gr.vd_edge {G : Gr} (h : G.Vd) (a b : Int) : (G.edgeG a b).Vd := fun x hx => by rw [Gr.edgeG_N] at hx; exact h x hx
theorem Gr.markG_cases (G : Gr) (n s : Int) : ∃ N, G.markG n s = G.withN N ∧ N.map (fun x => (x.kind, x.obj)) = G.N.map (fun x => (x.kind, x.obj)) := by
  unfold Gr.markG
  split
  · rename_i h
    obtain ⟨h1, h2⟩ := bitOk_is h
    obtain ⟨k, rfl, hk⟩ := Gr.is_nat h1
    have hx := List.getElem?_eq_getElem hk
    exact ⟨_, rfl, by rw [Int.toNat_natCast]; exact map_set_same hx (by rw [Gr.nodeI_at hx]) (by rw [Gr.nodeI_at hx])⟩
  · exact ⟨G.N, rfl, rfl⟩
theorem Gr.clearG_cases (G : Gr) (n s : Int) : ∃ N, G.clearG n s = G.withN N ∧ N.map (fun x => (x.kind, x.obj)) = G.N.map (fun x => (x.kind, x.obj)) := by
  unfold Gr.clearG
  split
  · rename_i h
    obtain ⟨h1, h2⟩ := bitOk_is h
    obtain ⟨k, rfl, hk⟩ := Gr.is_nat h1
    have hx := List.getElem?_eq_getElem hk
    exact ⟨_, rfl, by rw [Int.toNat_natCast]; exact map_set_same hx (by rw [Gr.nodeI_at hx]) (by rw [Gr.nodeI_at hx])⟩
  · exact ⟨G.N, rfl, rfl⟩
theorem Gr.lostG_cases (G : Gr) (n s : Int) : ∃ N, G.lostG n s = G.withN N ∧ N.map (fun x => (x.kind, x.obj)) = G.N.map (fun x => (x.kind, x.obj)) := by
  unfold Gr.lostG
  split
  · exact ⟨_, rfl, orphN_same _ _ _⟩
  · exact ⟨G.N, rfl, rfl⟩
/-- A keeper: its graph, what was done. -/
structure KD where
  G : Gr
  R : List RecD
def KD.new : KD := ⟨Gr.new, []⟩
structure KD.Ok (K : KD) (n : Nat) : Prop where
  g : K.G.Ok
  a : K.G.Acyc
  v : K.G.Vd
  e : K.G.E.length ≤ n
  l : K.G.N.length ≤ n
  r : K.R.length ≤ n
theorem KD.new_ok : KD.new.Ok 0 := ⟨Gr.new_ok, Gr.acyc_new, (fun x hx => by cases hx), Nat.le_refl _, Nat.le_refl _, Nat.le_refl _⟩
theorem KD.Ok.mono {K : KD} {n m : Nat} (h : K.Ok n) (hm : n ≤ m) : K.Ok m := ⟨h.g, h.a, h.v, by have := h.e; omega, by have := h.l; omega, by have := h.r; omega⟩
def KD.says (K : KD) (k a b : Int) : KD := ⟨K.G, K.R ++ [⟨k, a, b⟩]⟩
theorem KD.Ok.says {K : KD} {n : Nat} (h : K.Ok n) (k a b : Int) : (K.says k a b).Ok (n + 1) := ⟨h.g, h.a, h.v, by have := h.e; exact Nat.le_succ_of_le this, by have := h.l; exact Nat.le_succ_of_le this, by have := h.r; simp [KD.says]; omega⟩
/-- A node more. -/
def KD.born (K : KD) (k o : Int) : KD := if K.G.addE k o = 0 then (⟨K.G.addG k o, K.R⟩ : KD).says 1 k o else K
theorem addE_ok {G : Gr} {k o : Int} : G.addE k o = 0 ↔ G.addOk k o = true := by
  unfold Gr.addE Gr.addOk
  cases newOk k o with
  | false => simp
  | true =>
    by_cases h : G.N.length < 4096
    · rw [if_pos rfl, if_pos h, decide_eq_true h]; simp
    · rw [if_pos rfl, if_neg h, decide_eq_false h]; simp
theorem addG_no {G : Gr} {k o : Int} (h : G.addE k o ≠ 0) : G.addG k o = G := by
  unfold Gr.addG
  rw [if_neg (fun e => h (addE_ok.2 e))]
theorem addG_yes {G : Gr} {k o : Int} (h : G.addE k o = 0) : G.addG k o = G.plus k o ∧ G.addI k o = G.N.length ∧ G.N.length < 4096 := by
  have h2 := addE_ok.1 h
  refine ⟨by unfold Gr.addG; rw [if_pos h2], by unfold Gr.addI; rw [if_pos h2], ?_⟩
  unfold Gr.addOk at h2
  simp only [Bool.and_eq_true, decide_eq_true_eq] at h2
  exact h2.2
theorem KD.born_G (K : KD) (k o : Int) : (K.born k o).G = K.G.addG k o := by
  unfold KD.born
  split
  · rfl
  · rename_i h; rw [addG_no h]
theorem KD.Ok.born {K : KD} {n : Nat} (h : K.Ok n) (k o : Int) : (K.born k o).Ok (n + 1) := by
  refine ⟨by rw [KD.born_G]; exact Gr.addG_ok h.g k o, by rw [KD.born_G]; exact Gr.acyc_add h.a k o, by rw [KD.born_G]; exact Gr.vd_add h.v k o, ?_, ?_, ?_⟩
  · rw [KD.born_G]
    have := h.e
    unfold Gr.addG; split <;> simp [Gr.plus] <;> omega
  · rw [KD.born_G]
    have := h.l
    unfold Gr.addG; split <;> simp [Gr.plus] <;> omega
  · have := h.r
    unfold KD.born; split <;> simp [KD.says] <;> omega
/-- An edge more, if there is none. -/
noncomputable def KD.edge (K : KD) (a b : Int) : KD := if K.G.edgeE a b = 0 then (⟨K.G.edgeG a b, K.R⟩ : KD).says 2 a b else K
theorem KD.edge_G (K : KD) (a b : Int) : (K.edge a b).G = K.G.edgeG a b := by
  unfold KD.edge
  split
  · rfl
  · rename_i h; unfold Gr.edgeG; rw [if_neg h]
theorem KD.Ok.edge {K : KD} {n : Nat} (h : K.Ok n) (hn : n < 1000000) (a b : Int) : (K.edge a b).Ok (n + 1) := by
  have he := h.e
  refine ⟨by rw [KD.edge_G]; exact Gr.edgeG_ok h.g a b (by omega), by rw [KD.edge_G]; exact Gr.acyc_edge h.a a b, by rw [KD.edge_G]; exact Gr.vd_edge h.v a b, ?_, ?_, ?_⟩
  · rw [KD.edge_G]
    have := Gr.edgeG_len K.G a b
    omega
  · rw [KD.edge_G, Gr.edgeG_N]
    have := h.l; omega
  · have := h.r
    unfold KD.edge; split <;> simp [KD.says] <;> omega
/-- A new version behind a node. -/
def KD.nextE (K : KD) (n : Int) : Int := K.G.addE (K.G.nodeI n).kind (K.G.nodeI n).obj
def KD.nextI (K : KD) (n : Int) : Int := K.G.addI (K.G.nodeI n).kind (K.G.nodeI n).obj
noncomputable def KD.next (K : KD) (n : Int) : KD := if K.nextE n = 0 then (K.born (K.G.nodeI n).kind (K.G.nodeI n).obj).edge (K.nextI n) n else K
theorem KD.Ok.next {K : KD} {n : Nat} (h : K.Ok n) (hn : n < 999999) (k : Int) : (K.next k).Ok (n + 2) := by
  unfold KD.next
  split
  · exact (h.born _ _).edge (by omega) _ _
  · exact h.mono (by omega)
def KD.wrong (K : KD) (a b : Int) : Bool := !K.G.is a || !K.G.is b || decide (a = b)
def KD.ends (K : KD) (n : Int) : Bool := decide (0 < (K.G.downsI n).length) || decide ((K.G.nodeI n).clear ≠ 0)
/-- Something flows. -/
def KD.flowE (K : KD) (a b : Int) : Int := if K.wrong a b = true then 1 else if K.ends b = true then K.nextE b else 0
def KD.flowI (K : KD) (a b : Int) : Int := if K.wrong a b = true then 0 else if K.ends b = true then (if K.nextE b = 0 then K.nextI b else 0) else b
noncomputable def KD.flow (K : KD) (a b : Int) : KD := if K.wrong a b = true then K else if K.ends b = true then (if K.nextE b = 0 then (K.next b).edge (K.nextI b) a else K) else K.edge b a
theorem KD.Ok.flow {K : KD} {n : Nat} (h : K.Ok n) (hn : n < 999990) (a b : Int) : (K.flow a b).Ok (n + 3) := by
  unfold KD.flow
  split
  · exact h.mono (by omega)
  · split
    · split
      · exact (h.next (by omega) b).edge (by omega) _ _
      · exact h.mono (by omega)
    · exact (h.edge (by omega) _ _).mono (by omega)
/-- A new version, on which something is done (c: a source is taken). -/
def KD.setBad (K : KD) (n s : Int) : Bool := !K.G.is n || decide (s < 0) || decide (8 ≤ s)
def KD.setE (K : KD) (n s : Int) : Int := if K.setBad n s = true then 1 else K.nextE n
def KD.setI (K : KD) (n s : Int) : Int := if K.setBad n s = true then 0 else if K.nextE n = 0 then K.nextI n else 0
def Gr.bitG (G : Gr) (c : Bool) (n s : Int) : Gr := if c = true then G.clearG n s else G.markG n s
noncomputable def KD.set (K : KD) (c : Bool) (n s : Int) : KD := if K.setBad n s = true then K else if K.nextE n = 0 then (⟨(K.next n).G.bitG c (K.nextI n) s, (K.next n).R⟩ : KD).says (if c = true then 4 else 3) (K.nextI n) s else K
theorem Gr.withN_of {G : Gr} {N : List NodeD} (hN : N.map (fun x => (x.kind, x.obj)) = G.N.map (fun x => (x.kind, x.obj))) : N.length = G.N.length := by
  have := congrArg List.length hN; simpa using this
theorem Gr.bitG_cases (G : Gr) (c : Bool) (n s : Int) : ∃ N, G.bitG c n s = G.withN N ∧ N.map (fun x => (x.kind, x.obj)) = G.N.map (fun x => (x.kind, x.obj)) := by
  unfold Gr.bitG
  split
  · exact G.clearG_cases n s
  · exact G.markG_cases n s
theorem Gr.bitG_ok {G : Gr} (h : G.Ok) (c : Bool) (n s : Int) : (G.bitG c n s).Ok := by
  unfold Gr.bitG
  split
  · exact Gr.clearG_ok h n s
  · exact Gr.markG_ok h n s
theorem KD.Ok.withN {K : KD} {n : Nat} (h : K.Ok n) {G : Gr} (hok : G.Ok) (hc : ∃ N, G = K.G.withN N ∧ N.map (fun x => (x.kind, x.obj)) = K.G.N.map (fun x => (x.kind, x.obj))) : (⟨G, K.R⟩ : KD).Ok n := by
  obtain ⟨N, rfl, hN⟩ := hc
  exact ⟨hok, h.a, Gr.vd_withN h.v hN, h.e, by show N.length ≤ n; rw [Gr.withN_of hN]; exact h.l, h.r⟩
theorem KD.Ok.set {K : KD} {n : Nat} (h : K.Ok n) (hn : n < 999990) (c : Bool) (k s : Int) : (K.set c k s).Ok (n + 3) := by
  unfold KD.set
  split
  · exact h.mono (by omega)
  · split
    · have h2 := h.next (by omega) k
      exact (h2.withN (Gr.bitG_ok h2.g c _ _) (Gr.bitG_cases _ c _ _)).says _ _ _
    · exact h.mono (by omega)
def KD.lost (K : KD) (a b : Int) : KD := if lostE K.G a b = 0 then (⟨K.G.lostG a b, K.R⟩ : KD).says 5 a b else K
theorem KD.Ok.lost {K : KD} {n : Nat} (h : K.Ok n) (a b : Int) : (K.lost a b).Ok (n + 1) := by
  unfold KD.lost
  split
  · exact (h.withN (Gr.lostG_ok h.g a b) (Gr.lostG_cases _ a b)).says _ _ _
  · exact h.mono (by omega)
def KD.clean (K : KD) : KD := ⟨K.G, []⟩
theorem KD.Ok.clean {K : KD} {n : Nat} (h : K.Ok n) : K.clean.Ok n := ⟨h.g, h.a, h.v, h.e, h.l, Nat.zero_le _⟩
/-- How many records a flow makes. -/
noncomputable def KD.need (K : KD) (a b : Int) : Nat := if K.flowE a b = 0 then (K.clean.flow a b).R.length else 0
/-! ### what the steps are, where they are done -/
theorem reach_open {G : Gr} {a y : Nat} (ho : ∀ m, (m, a) ∉ G.E) (h : G.Reach y a) : y = a :=
  h (fun z => z = a → y = a) id (fun u v _ he hv => absurd he (by rw [hv]; exact ho u)) rfl
theorem edgeE_yes {G : Gr} {x y : Nat} (hx : x < G.N.length) (hy : y < G.N.length) (hne : x ≠ y) (hin : (x, y) ∉ G.E) (hr : ¬ G.Reach y x) : G.edgeE (x : Int) (y : Int) = 0 := by
  unfold Gr.edgeE
  rw [Gr.is_mk hx, Gr.is_mk hy, if_neg (by simp; omega), if_neg (fun h => hin (Gr.has_nat.1 h)), if_neg (by rw [Gr.reaches_false hr]; simp)]
theorem edgeE_two {G : Gr} {x y : Nat} (hx : x < G.N.length) (hy : y < G.N.length) (hne : x ≠ y) (hin : (x, y) ∈ G.E) : G.edgeE (x : Int) (y : Int) = 23 := by
  unfold Gr.edgeE
  rw [Gr.is_mk hx, Gr.is_mk hy, if_neg (by simp; omega), if_pos (Gr.has_nat.2 hin)]
theorem new_no {G : Gr} (hG : G.Ok) : (∀ m, (m, G.N.length) ∉ G.E) ∧ ∀ m, (G.N.length, m) ∉ G.E :=
  ⟨fun m he => by have := (hG.low _ he).2; simp at this, fun m he => by have := (hG.low _ he).1; simp at this⟩
theorem KD.edge_of {K : KD} {x y : Nat} (h : K.G.edgeE (x : Int) (y : Int) = 0) : K.edge (x : Int) (y : Int) = ⟨K.G.link x y, K.R ++ [⟨2, x, y⟩]⟩ := by
  unfold KD.edge
  rw [if_pos h]
  unfold Gr.edgeG
  rw [if_pos h]; rfl
theorem plus_reach {G : Gr} {k o : Int} {x y : Nat} : (G.plus k o).Reach x y ↔ G.Reach x y := Iff.rfl
theorem KD.next_yes {K : KD} {n : Nat} (h : K.Ok n) {b : Nat} (hb : b < K.G.N.length) (hl : K.G.N.length < 4096) :
    K.nextE (b : Int) = 0 ∧ K.nextI (b : Int) = K.G.N.length ∧ K.next (b : Int) = ⟨(K.G.plus (K.G.nodeI b).kind (K.G.nodeI b).obj).link K.G.N.length b, K.R ++ [⟨1, (K.G.nodeI b).kind, (K.G.nodeI b).obj⟩, ⟨2, K.G.N.length, b⟩]⟩ := by
  have hv := h.v _ (Gr.nodeI_mem (Gr.is_mk hb))
  have he : K.nextE (b : Int) = 0 := by unfold KD.nextE Gr.addE; rw [hv, if_pos rfl, if_pos hl]
  obtain ⟨h1, h2, h3⟩ := addG_yes he
  have hi : K.nextI (b : Int) = K.G.N.length := h2
  refine ⟨he, hi, ?_⟩
  obtain ⟨n1, n2⟩ := new_no h.g
  unfold KD.next
  rw [if_pos he, hi]
  have hB : K.born (K.G.nodeI b).kind (K.G.nodeI b).obj = ⟨K.G.plus (K.G.nodeI b).kind (K.G.nodeI b).obj, K.R ++ [⟨1, (K.G.nodeI b).kind, (K.G.nodeI b).obj⟩]⟩ := by
    unfold KD.born; rw [if_pos (show K.G.addE (K.G.nodeI b).kind (K.G.nodeI b).obj = 0 from he), h1]; rfl
  rw [hB, KD.edge_of]
  · simp
  · refine edgeE_yes ?_ ?_ (by omega) (n2 b) fun hr => ?_
    · show K.G.N.length < (K.G.N ++ [_]).length; simp
    · show b < (K.G.N ++ [_]).length; simp; omega
    · have := reach_open (a := K.G.N.length) n1 hr
      omega
theorem KD.wrong_no {K : KD} {a b : Int} (h : K.wrong a b = false) : ∃ x y : Nat, a = x ∧ b = y ∧ x < K.G.N.length ∧ y < K.G.N.length ∧ x ≠ y := by
  unfold KD.wrong at h
  simp only [Bool.or_eq_false_iff, Bool.not_eq_false', decide_eq_false_iff_not] at h
  obtain ⟨⟨h1, h2⟩, h3⟩ := h
  obtain ⟨x, rfl, hx⟩ := Gr.is_nat h1
  obtain ⟨y, rfl, hy⟩ := Gr.is_nat h2
  exact ⟨x, y, rfl, rfl, hx, hy, by omega⟩
theorem KD.wrong_of {K : KD} {x y : Nat} (hx : x < K.G.N.length) (hy : y < K.G.N.length) (hne : x ≠ y) : K.wrong (x : Int) (y : Int) = false := by
  unfold KD.wrong
  rw [Gr.is_mk hx, Gr.is_mk hy]; simp; omega
/-- Something flows into a node that ends: two edges out of a new node. -/
theorem KD.flow_ends {K : KD} {n : Nat} (h : K.Ok n) {a b : Nat} (ha : a < K.G.N.length) (hb : b < K.G.N.length) (hne : a ≠ b) (hl : K.G.N.length < 4096) (he : K.ends (b : Int) = true) :
    K.flowE (a : Int) (b : Int) = 0 ∧ K.flowI (a : Int) (b : Int) = K.G.N.length ∧ (K.next (b : Int)).G.edgeE (K.G.N.length : Int) (a : Int) = 0 ∧
    K.flow (a : Int) (b : Int) = ⟨((K.G.plus (K.G.nodeI b).kind (K.G.nodeI b).obj).link K.G.N.length b).link K.G.N.length a, K.R ++ [⟨1, (K.G.nodeI b).kind, (K.G.nodeI b).obj⟩, ⟨2, K.G.N.length, b⟩, ⟨2, K.G.N.length, a⟩]⟩ := by
  obtain ⟨h1, h2, h3⟩ := KD.next_yes h hb hl
  have hw := KD.wrong_of ha hb hne
  obtain ⟨n1, n2⟩ := new_no h.g
  have hz : (K.next (b : Int)).G.edgeE (K.G.N.length : Int) (a : Int) = 0 := by
    rw [h3]
    refine edgeE_yes ?_ ?_ (by omega) (fun hin => ?_) fun hr => ?_
    · show K.G.N.length < (K.G.N ++ [_]).length; simp
    · show a < (K.G.N ++ [_]).length; simp; omega
    · rcases Gr.mem_link.1 hin with hin | ⟨_, e⟩
      · exact n2 a hin
      · exact hne e
    · rcases Gr.link_reach hr with hr | ⟨hr, _⟩
      · have := reach_open (a := K.G.N.length) n1 hr; omega
      · have := reach_open (a := K.G.N.length) n1 hr; omega
  refine ⟨by unfold KD.flowE; rw [hw, he, if_neg (by simp), if_pos rfl, h1], by unfold KD.flowI; rw [hw, he, if_neg (by simp), if_pos rfl, if_pos h1, h2], hz, ?_⟩
  unfold KD.flow
  rw [hw, he, if_neg (by simp), if_pos rfl, if_pos h1, h2]
  rw [KD.edge_of hz, h3]
  simp
theorem KD.open_no {K : KD} {n : Nat} (h : K.Ok n) {b : Nat} (hb : b < K.G.N.length) (he : K.ends (b : Int) = false) : (∀ m, (m, b) ∉ K.G.E) ∧ K.G.downs b = [] ∧ (K.G.nodeI b).clear = 0 := by
  unfold KD.ends at he
  simp only [Bool.or_eq_false_iff, decide_eq_false_iff_not, Gr.downsI_nat hb, Decidable.not_not] at he
  have h0 : K.G.downs b = [] := List.eq_nil_of_length_eq_zero (by omega)
  exact ⟨open_of h.g h0, h0, he.2⟩
theorem KD.flow_open {K : KD} {n : Nat} (h : K.Ok n) {a b : Nat} (ha : a < K.G.N.length) (hb : b < K.G.N.length) (hne : a ≠ b) (he : K.ends (b : Int) = false) :
    K.flowE (a : Int) (b : Int) = 0 ∧ K.flowI (a : Int) (b : Int) = b ∧ K.flow (a : Int) (b : Int) = if (b, a) ∈ K.G.E then K else ⟨K.G.link b a, K.R ++ [⟨2, b, a⟩]⟩ := by
  have hw := KD.wrong_of ha hb hne
  obtain ⟨n1, _, _⟩ := KD.open_no h hb he
  refine ⟨by unfold KD.flowE; rw [hw, he, if_neg (by simp), if_neg (by simp)], by unfold KD.flowI; rw [hw, he, if_neg (by simp), if_neg (by simp)], ?_⟩
  unfold KD.flow
  rw [hw, he, if_neg (by simp), if_neg (by simp)]
  split
  · rename_i hin
    unfold KD.edge
    rw [edgeE_two hb ha (by omega) hin, if_neg (by decide)]
  · rename_i hin
    exact KD.edge_of (edgeE_yes hb ha (by omega) hin fun hr => hne (reach_open n1 hr))
theorem KD.clean_ends (K : KD) (b : Int) : K.clean.ends b = K.ends b := rfl
/-- What Need answers. -/
theorem KD.need_eq {K : KD} {n : Nat} (h : K.Ok n) (a b : Int) :
    K.need a b = if K.wrong a b = true then 0 else if K.ends b = true then (if 4096 ≤ K.G.N.length then 0 else 3) else if (K.G.upsI b).any (fun y => decide ((y : Int) = a)) then 0 else 1 := by
  cases hw : K.wrong a b with
  | true =>
    rw [if_pos rfl]
    unfold KD.need KD.flowE
    rw [hw, if_pos rfl, if_neg (by decide)]
  | false =>
    rw [if_neg (by simp)]
    obtain ⟨x, y, rfl, rfl, hx, hy, hne⟩ := KD.wrong_no hw
    cases he : K.ends (y : Int) with
    | true =>
      rw [if_pos rfl]
      by_cases hl : K.G.N.length < 4096
      · obtain ⟨h1, _, _, _⟩ := KD.flow_ends h hx hy hne hl he
        obtain ⟨_, _, _, h2⟩ := KD.flow_ends h.clean hx hy hne hl he
        unfold KD.need
        rw [if_pos h1, h2, if_neg (by omega)]; rfl
      · have hE : K.flowE (x : Int) (y : Int) ≠ 0 := by
          unfold KD.flowE
          rw [hw, he, if_neg (by simp), if_pos rfl]
          unfold KD.nextE Gr.addE
          rw [if_neg hl]
          split <;> decide
        unfold KD.need
        rw [if_neg hE, if_pos (by omega)]
    | false =>
      rw [if_neg (by simp)]
      obtain ⟨h1, _, _⟩ := KD.flow_open h hx hy hne he
      obtain ⟨_, _, h2⟩ := KD.flow_open h.clean hx hy hne he
      unfold KD.need
      rw [if_pos h1, h2, Gr.upsI_nat hy]
      have e : (K.G.ups y).any (fun z => decide ((z : Int) = (x : Int))) = decide ((y, x) ∈ K.G.E) := by
        rw [Bool.eq_iff_iff, List.any_eq_true, decide_eq_true_iff]
        constructor
        · rintro ⟨z, hz, e⟩
          obtain rfl : z = x := by have := of_decide_eq_true e; omega
          exact (Gr.mem_ups.1 hz).2
        · exact fun hin => ⟨x, Gr.mem_ups.2 ⟨hx, hin⟩, by simp⟩
      rw [e]
      by_cases hin : (y, x) ∈ K.G.E
      · rw [if_pos (show (y, x) ∈ K.clean.G.E from hin), if_pos (by simpa using hin)]; rfl
      · rw [if_neg (show (y, x) ∉ K.clean.G.E from hin), if_neg (by simpa using hin)]; rfl
theorem KD.need_le {K : KD} {n : Nat} (h : K.Ok n) (a b : Int) : K.need a b ≤ 3 := by
  rw [KD.need_eq h]
  repeat' split
  all_goals omega
/-! ### what the cache knows stays true -/
/-- The cache tells each node's label, and knows nothing of others. -/
structure KW (f : Int → Option (Nat × Nat)) (G : Gr) : Prop where
  yes : ∀ (n : Nat) (x : NodeD), G.N[n]? = some x → (cv f (n : Int)).2 = x.clear ∧ (cv f (n : Int)).1 < 256 ∧ andn (cv f (n : Int)).1 x.clear = G.lab n
  no : ∀ n : Int, G.is n = false → cv f n = (0, 0)
theorem andn_or (x y c : Nat) : andn (x ||| y) c = andn x c ||| andn y c := by
  apply Nat.eq_of_testBit_eq
  intro s
  rw [andn_test, Nat.testBit_or, Nat.testBit_or, andn_test, andn_test]
  cases x.testBit s <;> cases y.testBit s <;> cases (decide (s < 8) ^^ c.testBit s) <;> rfl
theorem andn_andn {x c d : Nat} (hx : x < 256) : andn x (c ||| d) = andn (andn x c) d := by
  apply Nat.eq_of_testBit_eq
  intro s
  rw [andn_test, andn_test, andn_test, Nat.testBit_or]
  by_cases hs : s < 8
  · rw [decide_eq_true hs]
    cases x.testBit s <;> cases c.testBit s <;> cases d.testBit s <;> rfl
  · rw [test_big hx (by omega)]; simp
theorem KW.lab {f : Int → Option (Nat × Nat)} {G : Gr} (h : KW f G) (n : Int) : clab f n = G.labI n := by
  cases hb : G.is n with
  | true =>
    obtain ⟨k, rfl, hk⟩ := Gr.is_nat hb
    obtain ⟨x, hx⟩ : ∃ x, G.N[k]? = some x := ⟨_, List.getElem?_eq_getElem hk⟩
    obtain ⟨h1, _, h3⟩ := h.yes k x hx
    unfold clab
    rw [h1, h3, Gr.labI_nat hk]
  | false =>
    unfold clab
    rw [h.no n hb, Gr.labI_no hb]
    rfl
theorem KW.small {f : Int → Option (Nat × Nat)} {G : Gr} (h : KW f G) (hG : G.Ok) (n : Int) : (cv f n).1 < 256 ∧ (cv f n).2 < 256 := by
  cases hb : G.is n with
  | true =>
    obtain ⟨k, rfl, hk⟩ := Gr.is_nat hb
    obtain ⟨x, hx⟩ : ∃ x, G.N[k]? = some x := ⟨_, List.getElem?_eq_getElem hk⟩
    obtain ⟨h1, h2, _⟩ := h.yes k x hx
    exact ⟨h2, by rw [h1]; exact (hG.marks x (List.mem_of_getElem? hx)).2⟩
  | false => rw [h.no n hb]; exact ⟨by decide, by decide⟩
theorem is_of_none {G : Gr} {k : Nat} (h : G.N[k]? = none) : G.is (k : Int) = false := by
  have := List.getElem?_eq_none_iff.1 h
  cases hb : G.is (k : Int) with
  | false => rfl
  | true => obtain ⟨j, e, hj⟩ := Gr.is_nat hb; omega
theorem none_of_is {G : Gr} {k : Nat} (h : G.is (k : Int) = false) : G.N[k]? = none := List.getElem?_eq_none_iff.2 (by rcases Gr.is_no h with h | h <;> omega)
theorem is_neg {G : Gr} {n : Int} (h : n < 0) : G.is n = false := by unfold Gr.is; rw [decide_eq_false (by omega)]; rfl
theorem KW.none : KW (fun _ => Option.none) Gr.new := ⟨(fun n x hx => by cases hx), fun n _ => rfl⟩
theorem KW.turn {f : Int → Option (Nat × Nat)} {a : Nat} {G H : Gr} {y : Nat × Nat} (h : KW f G) (hl : Alike a G H) (ha : a < H.N.length)
    (hy : ∀ x, H.N[a]? = some x → y.2 = x.clear ∧ y.1 < 256 ∧ andn y.1 x.clear = H.lab a) : KW (updC f (a : Int) y) H := by
  refine ⟨fun n x hx => ?_, fun n hn => ?_⟩
  · rw [cv_upd]
    by_cases hna : n = a
    · subst hna
      rw [if_pos rfl]
      exact hy x hx
    · rw [if_neg (by omega), ← hl.lab hna]
      exact h.yes n x (by rw [hl.node n hna]; exact hx)
  · rw [cv_upd]
    by_cases hna : n = a
    · subst hna
      rw [Gr.is_mk ha] at hn; cases hn
    · rw [if_neg hna]
      refine h.no n ?_
      rcases Int.lt_or_le n 0 with h0 | h0
      · exact is_neg h0
      · obtain ⟨k, rfl⟩ := Int.eq_ofNat_of_zero_le h0
        refine is_of_none ?_
        rw [hl.node k (by omega)]
        exact none_of_is hn
theorem KW.plus {f : Int → Option (Nat × Nat)} {G : Gr} (h : KW f G) (hG : G.Ok) {k o : Int} (hl : G.N.length < 4096) : KW (updC f (G.N.length : Int) (0, 0)) (G.plus k o) := by
  have hP := Gr.plus_ok (k := k) (o := o) hG hl
  obtain ⟨hno, hno2⟩ := new_no hG
  refine h.turn (a := G.N.length) ⟨fun m hm => ?_, fun m u _ => Iff.rfl, fun m _ => hno m⟩ (by show _ < (G.N ++ [_]).length; simp) fun x hx => ?_
  · show G.N[m]? = (G.N ++ [G.newN k o])[m]?
    by_cases h2 : m < G.N.length
    · rw [List.getElem?_append_left h2]
    · rw [List.getElem?_eq_none (by omega), List.getElem?_eq_none (by simp; omega)]
  · have hlab := Gr.lab_eq hP hx
    have hx2 : (G.N ++ [G.newN k o])[G.N.length]? = some x := hx
    rw [List.getElem?_append_right (Nat.le_refl _), Nat.sub_self] at hx2
    cases hx2
    have hu : (G.plus k o).ups G.N.length = [] := List.filter_eq_nil_iff.2 fun u _ he => hno2 u (of_decide_eq_true he)
    rw [hu] at hlab
    exact ⟨rfl, by decide, hlab⟩
theorem KW.born {f : Int → Option (Nat × Nat)} {K : KD} (h : KW f K.G) (hG : K.G.Ok) {k o : Int} (he : K.G.addE k o = 0) : KW (updC f (K.G.addI k o) (0, 0)) (K.born k o).G := by
  obtain ⟨h1, h2, h3⟩ := addG_yes he
  rw [KD.born_G, h1, h2]
  exact h.plus hG h3
theorem KW.link {f : Int → Option (Nat × Nat)} {G : Gr} (h : KW f G) (hG : G.Ok) {a b : Nat} (ha : a < G.N.length) (hb : b < G.N.length) (hab : a ≠ b) (hn : (a, b) ∉ G.E) (hl : G.E.length < 1000000) (ho : G.downs a = []) :
    KW (updC f (a : Int) ((cv f (a : Int)).1 ||| clab f (b : Int), (cv f (a : Int)).2)) (G.link a b) := by
  have hop := open_of hG ho
  have hH := Gr.link_ok hG ha hb hn hl
  have hal : Alike a G (G.link a b) := ⟨fun m _ => rfl, fun m u hm => by rw [Gr.mem_link]; exact ⟨.inl, fun h => h.resolve_right fun e => hm e.1⟩, fun m _ => hop m⟩
  refine h.turn hal ha fun x hx => ?_
  have hx : G.N[a]? = some x := hx
  obtain ⟨h1, h2, h3⟩ := h.yes a x hx
  have hlab := Gr.lab_eq hH (show (G.link a b).N[a]? = some x from hx)
  rw [Gr.link_ups hb hn, if_pos rfl] at hlab
  have e1 : orL (G.link a b).lab (ins (G.ups a) b) x.mark = orL G.lab (G.ups a ++ [b]) x.mark := orL_mem (fun u => by rw [ins_mem, List.mem_append, List.mem_singleton]; exact or_comm) fun u hu => by
    rcases ins_mem.1 hu with rfl | hu
    · exact (hal.lab (fun e => hab e.symm)).symm
    · exact (hal.lab (fun e => hop a (by have h2 := (Gr.mem_ups.1 hu).2; rw [e] at h2; exact h2))).symm
  rw [e1, orL_snoc, andn_or, Gr.lab_eq hG hx] at hlab
  refine ⟨h1, ?_, ?_⟩
  · have h4 : clab f (b : Int) < 256 := by rw [h.lab]; exact G.labI_lt _
    exact Nat.or_lt_two_pow (n := 8) h2 h4
  · rw [andn_or, h3, h.lab, Gr.labI_nat hb, hlab]
theorem KW.edge {f : Int → Option (Nat × Nat)} {G : Gr} (h : KW f G) (hG : G.Ok) (hl : G.E.length < 1000000) {a b : Int} (he : G.edgeE a b = 0) (ho : G.downsI a = []) : KW (updC f a ((cv f a).1 ||| clab f b, (cv f a).2)) (G.edgeG a b) := by
  obtain ⟨x, y, rfl, rfl, hx, hy, hne, hin, hr⟩ := Gr.edge_yes he
  have h1 := h.link hG hx hy hne hin hl (by rw [← Gr.downsI_nat hx]; exact ho)
  have e : G.edgeG (x : Int) (y : Int) = G.link x y := by unfold Gr.edgeG; rw [if_pos he]; simp
  rw [e]
  exact h1
theorem KW.mark {f : Int → Option (Nat × Nat)} {G : Gr} (h : KW f G) (hG : G.Ok) {a s : Nat} (ha : a < G.N.length) (hs : s < 8) (ho : G.downs a = []) : KW (updC f (a : Int) ((cv f (a : Int)).1 ||| 2 ^ s, (cv f (a : Int)).2)) (G.markG (a : Int) (s : Int)) := by
  have hop := open_of hG ho
  have hH := Gr.markG_ok hG (a : Int) (s : Int)
  have hb := bitOk_yes (G := G) ha hs
  obtain ⟨x, hx⟩ : ∃ x, G.N[a]? = some x := ⟨_, List.getElem?_eq_getElem ha⟩
  have e : G.markG (a : Int) (s : Int) = G.withN (G.N.set a { x with mark := x.mark ||| 2 ^ s }) := by
    unfold Gr.markG
    rw [hb, if_pos rfl, Gr.nodeI_at hx, Int.toNat_natCast, Int.toNat_natCast]
  rw [e] at hH ⊢
  have hal : Alike a G (G.withN (G.N.set a { x with mark := x.mark ||| 2 ^ s })) := ⟨fun m hm => by show _ = (G.N.set a _)[m]?; rw [List.getElem?_set, if_neg (fun e => hm e.symm)], fun m u _ => Iff.rfl, fun m _ => hop m⟩
  refine h.turn hal (by show _ < (G.N.set a _).length; rw [List.length_set]; exact ha) fun y hy => ?_
  have hlab := Gr.lab_eq hH hy
  have hy : (G.N.set a { x with mark := x.mark ||| 2 ^ s })[a]? = some y := hy
  rw [List.getElem?_set, if_pos rfl, if_pos ha] at hy
  cases hy
  obtain ⟨h1, h2, h3⟩ := h.yes a x hx
  have e1 : orL (G.withN (G.N.set a { x with mark := x.mark ||| 2 ^ s })).lab ((G.withN (G.N.set a { x with mark := x.mark ||| 2 ^ s })).ups a) (x.mark ||| 2 ^ s) = orL G.lab (G.ups a) x.mark ||| 2 ^ s := by
    rw [← orL_more]
    refine orL_mem (fun u => ?_) fun u hu => ?_
    · rw [Gr.mem_ups, Gr.mem_ups]
      show u < (G.N.set a _).length ∧ _ ↔ u < G.N.length ∧ _
      rw [List.length_set]; exact Iff.rfl
    · exact (hal.lab fun e => hop a (by have h2 := (Gr.mem_ups.1 hu).2; rw [e] at h2; exact h2)).symm
  rw [e1, andn_or, Gr.lab_eq hG hx] at hlab
  refine ⟨h1, or_256 h2 hs, ?_⟩
  show andn ((cv f (a : Int)).1 ||| 2 ^ s) x.clear = _
  rw [andn_or, h3, hlab]
theorem KW.clear {f : Int → Option (Nat × Nat)} {G : Gr} (h : KW f G) (hG : G.Ok) {a s : Nat} (ha : a < G.N.length) (hs : s < 8) (ho : G.downs a = []) : KW (updC f (a : Int) ((cv f (a : Int)).1, (cv f (a : Int)).2 ||| 2 ^ s)) (G.clearG (a : Int) (s : Int)) := by
  have hop := open_of hG ho
  have hH := Gr.clearG_ok hG (a : Int) (s : Int)
  have hb := bitOk_yes (G := G) ha hs
  obtain ⟨x, hx⟩ : ∃ x, G.N[a]? = some x := ⟨_, List.getElem?_eq_getElem ha⟩
  have e : G.clearG (a : Int) (s : Int) = G.withN (G.N.set a { x with clear := x.clear ||| 2 ^ s }) := by
    unfold Gr.clearG
    rw [hb, if_pos rfl, Gr.nodeI_at hx, Int.toNat_natCast, Int.toNat_natCast]
  rw [e] at hH ⊢
  have hal : Alike a G (G.withN (G.N.set a { x with clear := x.clear ||| 2 ^ s })) := ⟨fun m hm => by show _ = (G.N.set a _)[m]?; rw [List.getElem?_set, if_neg (fun e => hm e.symm)], fun m u _ => Iff.rfl, fun m _ => hop m⟩
  refine h.turn hal (by show _ < (G.N.set a _).length; rw [List.length_set]; exact ha) fun y hy => ?_
  have hlab := Gr.lab_eq hH hy
  have hy : (G.N.set a { x with clear := x.clear ||| 2 ^ s })[a]? = some y := hy
  rw [List.getElem?_set, if_pos rfl, if_pos ha] at hy
  cases hy
  obtain ⟨h1, h2, h3⟩ := h.yes a x hx
  have e1 : orL (G.withN (G.N.set a { x with clear := x.clear ||| 2 ^ s })).lab ((G.withN (G.N.set a { x with clear := x.clear ||| 2 ^ s })).ups a) x.mark = orL G.lab (G.ups a) x.mark := by
    refine orL_mem (fun u => ?_) fun u hu => ?_
    · rw [Gr.mem_ups, Gr.mem_ups]
      show u < (G.N.set a _).length ∧ _ ↔ u < G.N.length ∧ _
      rw [List.length_set]; exact Iff.rfl
    · exact (hal.lab fun e => hop a (by have h2 := (Gr.mem_ups.1 hu).2; rw [e] at h2; exact h2)).symm
  have hm : orL G.lab (G.ups a) x.mark < 256 := orL_lt G.lab_lt _ (hG.marks x (List.mem_of_getElem? hx)).1
  have hlab : andn (orL (G.withN (G.N.set a { x with clear := x.clear ||| 2 ^ s })).lab ((G.withN (G.N.set a { x with clear := x.clear ||| 2 ^ s })).ups a) x.mark) (x.clear ||| 2 ^ s) = _ := hlab
  rw [e1, andn_andn hm, Gr.lab_eq hG hx] at hlab
  refine ⟨by show (cv f (a : Int)).2 ||| 2 ^ s = x.clear ||| 2 ^ s; rw [h1], h2, ?_⟩
  show andn (cv f (a : Int)).1 (x.clear ||| 2 ^ s) = _
  rw [andn_andn h2, h3, hlab]
theorem lab_same {G H : Gr} (hE : ∀ e, e ∈ G.E ↔ e ∈ H.E) (hN : G.N.map (fun x => (x.mark, x.clear)) = H.N.map (fun x => (x.mark, x.clear))) (n : Nat) : G.lab n = H.lab n := by
  have half : ∀ {G H : Gr}, (∀ e, e ∈ G.E ↔ e ∈ H.E) → G.N.map (fun x => (x.mark, x.clear)) = H.N.map (fun x => (x.mark, x.clear)) → ∀ s, G.Src s n → H.Src s n := fun {G H} hE hN s hs => by
    have get : ∀ (m : Nat) (x : NodeD), G.N[m]? = some x → ∃ y : NodeD, H.N[m]? = some y ∧ y.mark = x.mark ∧ y.clear = x.clear := fun m x hx => by
      have h1 : (G.N.map (fun x => (x.mark, x.clear)))[m]? = some (x.mark, x.clear) := by rw [List.getElem?_map, hx]; rfl
      rw [hN, List.getElem?_map] at h1
      obtain ⟨y, hy, e⟩ := Option.map_eq_some_iff.1 h1
      simp only [Prod.mk.injEq] at e
      exact ⟨y, hy, e.1, e.2⟩
    exact hs (fun m => H.Src s m) (fun m x hx h1 h2 => by obtain ⟨y, hy, e1, e2⟩ := get m x hx; exact Gr.Src.base hy (by rw [e1]; exact h1) (by rw [e2]; exact h2))
      (fun m u x he hx h2 hu => by obtain ⟨y, hy, e1, e2⟩ := get m x hx; exact Gr.Src.step ((hE _).1 he) hy (by rw [e2]; exact h2) hu)
  exact lab_ext fun s => ⟨half hE hN s, half (fun e => (hE e).symm) hN.symm s⟩
theorem orphN_bits (N : List NodeD) (a b : Nat) : (orphN N a b).map (fun x => (x.mark, x.clear)) = N.map (fun x => (x.mark, x.clear)) := by
  apply List.ext_getElem?
  intro i
  rw [List.getElem?_map, orphN_at, List.getElem?_map]
  cases N[i]? with
  | none => rfl
  | some y => simp only [Option.map_some]; split <;> rfl
theorem KW.lost {f : Int → Option (Nat × Nat)} {G : Gr} (h : KW f G) (a b : Int) : KW f (G.lostG a b) := by
  unfold Gr.lostG
  split
  · refine ⟨fun n x hx => ?_, fun n hn => h.no n ?_⟩
    · have hl : (G.withN (orphN G.N a.toNat b.toNat)).lab n = G.lab n := lab_same (G := G.withN (orphN G.N a.toNat b.toNat)) (H := G) (fun _ => Iff.rfl) (orphN_bits _ _ _) n
      have hx : (orphN G.N a.toNat b.toNat)[n]? = some x := hx
      rw [orphN_at] at hx
      obtain ⟨y, hy, rfl⟩ := Option.map_eq_some_iff.1 hx
      obtain ⟨h1, h2, h3⟩ := h.yes n y hy
      rw [hl]
      split
      · exact ⟨h1, h2, h3⟩
      · exact ⟨h1, h2, h3⟩
    · unfold Gr.is at hn ⊢
      simp only [Gr.withN, orphN_len] at hn
      exact hn
  · exact h
theorem KW.own {G : Gr} (hG : G.Ok) : KW (G.own G.N.length) G := by
  refine ⟨fun n x hx => ?_, fun n hn => ?_⟩
  · have hn := (List.getElem?_eq_some_iff.1 hx).1
    have e : cv (G.own G.N.length) (n : Int) = (G.lab n, x.clear) := by
      unfold cv Gr.own
      rw [if_pos (by simp; omega), Int.toNat_natCast, Gr.nodeI_at hx]; rfl
    rw [e]
    refine ⟨rfl, G.lab_lt n, ?_⟩
    show andn (G.lab n) x.clear = G.lab n
    rw [← Gr.lab_eq hG hx]
    have hm : orL G.lab (G.ups n) x.mark < 256 := orL_lt G.lab_lt _ (hG.marks x (List.mem_of_getElem? hx)).1
    rw [← andn_andn hm, Nat.or_self]
  · unfold cv Gr.own
    rw [if_neg]
    · rfl
    · unfold Gr.is at hn
      rw [hn]; simp
/-- A new node is open. -/
theorem downs_new {G : Gr} (hG : G.Ok) {k o : Int} : (G.plus k o).downs G.N.length = [] := by
  unfold Gr.downs
  rw [List.filter_eq_nil_iff]
  intro x hx
  simp only [decide_eq_true_eq]
  exact (new_no hG).1 x
end Go.Proofs.Ytapodjhkpahdnaa
