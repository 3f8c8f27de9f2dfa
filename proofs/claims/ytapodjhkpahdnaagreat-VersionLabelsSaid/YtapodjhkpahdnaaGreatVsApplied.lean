/-
  Versions: what was written down makes the graph; records that make a graph anew (plain); pedigreelaw17.applied, pedigreelaw17.replay.
-/
import Derived.Test.YtapodjhkpahdnaaGreatVsBoth
import Derived.Test.YtapodjhkpahdnaaGreatLbLaw
namespace Go.Proofs.YtapodjhkpahdnaaGreat
open Go.Sep
set_option linter.unusedSimpArgs false
set_option linter.unusedVariables false
noncomputable def Gr.apG (G : Gr) (x : RecD) : Gr := if x.k = 1 then G.addG x.a x.b else if x.k = 2 then G.edgeG x.a x.b else if x.k = 3 then G.markG x.a x.b else if x.k = 4 then G.clearG x.a x.b else if x.k = 5 then G.lostG x.a x.b else G
noncomputable def Gr.apE (G : Gr) (x : RecD) : Int := if x.k = 1 then G.addE x.a x.b else if x.k = 2 then G.edgeE x.a x.b else if x.k = 3 then bitE G x.a x.b else if x.k = 4 then bitE G x.a x.b else if x.k = 5 then lostE G x.a x.b else 1
theorem Gr.apG_ok {G : Gr} (hG : G.Ok) (hel : G.E.length < 1000000) (x : RecD) : (G.apG x).Ok := by
  unfold Gr.apG
  split
  · exact Gr.addG_ok hG _ _
  · split
    · exact Gr.edgeG_ok hG _ _ hel
    · split
      · exact Gr.markG_ok hG _ _
      · split
        · exact Gr.clearG_ok hG _ _
        · split
          · exact Gr.lostG_ok hG _ _
          · exact hG
theorem Gr.apG_E (G : Gr) (x : RecD) : (G.apG x).E.length ≤ G.E.length + 1 := by
  unfold Gr.apG
  split
  · unfold Gr.addG; split <;> simp [Gr.plus]
  · split
    · exact Gr.edgeG_len _ _ _
    · split
      · unfold Gr.markG; split <;> simp [Gr.withN]
      · split
        · unfold Gr.clearG; split <;> simp [Gr.withN]
        · split
          · unfold Gr.lostG; split <;> simp [Gr.withN]
          · omega
/-- Records, one by one: all can be. -/
noncomputable def Gr.dn : Gr → List RecD → Option Gr
  | G, [] => some G
  | G, x :: l => if G.apE x = 0 then Gr.dn (G.apG x) l else none
theorem Gr.dn_append : ∀ (l m : List RecD) (G : Gr), G.dn (l ++ m) = (G.dn l).bind fun H => H.dn m
  | [], m, G => rfl
  | x :: l, m, G => by
    show (if G.apE x = 0 then Gr.dn (G.apG x) (l ++ m) else none) = (if G.apE x = 0 then Gr.dn (G.apG x) l else none).bind _
    split
    · exact Gr.dn_append l m _
    · rfl
theorem Gr.dn_trans {G H I : Gr} {l m : List RecD} (h : G.dn l = some H) (h2 : H.dn m = some I) : G.dn (l ++ m) = some I := by
  rw [Gr.dn_append, h]; exact h2
theorem Gr.dn_one {G : Gr} {x : RecD} (h : G.apE x = 0) : G.dn [x] = some (G.apG x) := by
  unfold Gr.dn; rw [if_pos h]; rfl
/-- One keeper is another one and some records more, which make its graph. -/
def KD.Ext (c : Nat) (K J : KD) : Prop := ∃ e, J.R = K.R ++ e ∧ K.G.dn e = some J.G ∧ e.length ≤ c
theorem KD.Ext.refl (c : Nat) (K : KD) : K.Ext c K := ⟨[], (List.append_nil _).symm, rfl, Nat.zero_le _⟩
theorem KD.Ext.trans {K J I : KD} {c d : Nat} (h : KD.Ext c K J) (h2 : KD.Ext d J I) : KD.Ext (c + d) K I := by
  obtain ⟨e, h1, h3, h4⟩ := h
  obtain ⟨f, h5, h6, h7⟩ := h2
  exact ⟨e ++ f, by rw [h5, h1, List.append_assoc], Gr.dn_trans h3 h6, by simp; omega⟩
theorem KD.Ext.mono {K J : KD} {c d : Nat} (h : KD.Ext c K J) (hc : c ≤ d) : KD.Ext d K J := by
  obtain ⟨e, h1, h3, h4⟩ := h
  exact ⟨e, h1, h3, by omega⟩
theorem KD.ext_one (K : KD) {x : RecD} (h : K.G.apE x = 0) : KD.Ext 1 K ⟨K.G.apG x, K.R ++ [x]⟩ := ⟨[x], rfl, Gr.dn_one h, by simp⟩
theorem KD.ext_born (K : KD) (k o : Int) : KD.Ext 1 K (K.born k o) := by
  unfold KD.born
  split
  · rename_i h
    exact K.ext_one (x := ⟨1, k, o⟩) h
  · exact KD.Ext.refl _ _
theorem KD.ext_edge (K : KD) (a b : Int) : KD.Ext 1 K (K.edge a b) := by
  unfold KD.edge
  split
  · rename_i h
    exact K.ext_one (x := ⟨2, a, b⟩) h
  · exact KD.Ext.refl _ _
theorem KD.ext_next (K : KD) (n : Int) : KD.Ext 2 K (K.next n) := by
  unfold KD.next
  split
  · exact (K.ext_born _ _).trans (KD.ext_edge _ _ _)
  · exact KD.Ext.refl _ _
theorem KD.ext_flow (K : KD) (a b : Int) : KD.Ext 3 K (K.flow a b) := by
  unfold KD.flow
  split
  · exact KD.Ext.refl _ _
  · split
    · split
      · exact (K.ext_next _).trans (KD.ext_edge _ _ _)
      · exact KD.Ext.refl _ _
    · exact (K.ext_edge _ _).mono (by omega)
theorem KD.ext_set {K : KD} {n : Nat} (h : K.Ok n) (c : Bool) (m s : Int) : KD.Ext 3 K (K.set c m s) := by
  unfold KD.set
  split
  · exact KD.Ext.refl _ _
  · rename_i hb
    split
    · rename_i h0
      have hb2 : K.setBad m s = false := by cases hx : K.setBad m s with | true => exact absurd hx hb | false => rfl
      unfold KD.setBad at hb2
      simp only [Bool.or_eq_false_iff, Bool.not_eq_false', decide_eq_false_iff_not] at hb2
      obtain ⟨⟨ib, h1⟩, h2⟩ := hb2
      obtain ⟨_, hI, hlt⟩ := flow_open2 h ib h0
      obtain ⟨t, rfl⟩ := Int.eq_ofNat_of_zero_le (show 0 ≤ s by omega)
      have hbit : bitE (K.next m).G (K.nextI m) (t : Int) = 0 := by rw [hI]; unfold bitE; rw [bitOk_yes hlt (by omega)]; rfl
      refine KD.Ext.trans (c := 2) (d := 1) (K.ext_next m) ?_
      cases c with
      | true => exact KD.ext_one (K.next m) (x := ⟨4, K.nextI m, t⟩) hbit
      | false => exact KD.ext_one (K.next m) (x := ⟨3, K.nextI m, t⟩) hbit
    · exact KD.Ext.refl _ _
theorem KD.ext_lost (K : KD) (a b : Int) : KD.Ext 1 K (K.lost a b) := by
  unfold KD.lost
  split
  · rename_i h
    exact K.ext_one (x := ⟨5, a, b⟩) h
  · exact KD.Ext.refl _ _
theorem KD.Ok.ext_step {K : KD} {n : Nat} (h : K.Ok n) (x : RecD) (hx : x.k % 11 ≠ 9) : KD.Ext 3 K (K.step x) := by
  unfold KD.step
  split
  · exact (K.ext_born _ _).mono (by omega)
  · split
    · exact KD.ext_set h _ _ _
    · split
      · exact KD.ext_set h _ _ _
      · split
        · exact (K.ext_lost _ _).mono (by omega)
        · exact K.ext_flow _ _
/-- A node of which so many bits are set. -/
def NodeD.low (x : NodeD) (s : Nat) : NodeD := ⟨x.kind, x.obj, x.ver, x.mark % 2 ^ s, x.clear % 2 ^ s, false⟩
def Gr.repN (G : Gr) : List RecD := G.N.map fun x => ⟨1, x.kind, x.obj⟩
def bitR (n : Nat) (x : NodeD) (s : Nat) : List RecD := (if x.mark.testBit s then [⟨3, n, s⟩] else []) ++ (if x.clear.testBit s then [⟨4, n, s⟩] else [])
def bitsR (n : Nat) (x : NodeD) : Nat → List RecD
  | 0 => []
  | s + 1 => bitsR n x s ++ bitR n x s
def lostR (n : Nat) (x : NodeD) : List RecD := if x.orph then [⟨5, n, n + 1⟩] else []
def edgesR (n : Nat) (u : List Nat) : List RecD := u.map fun k : Nat => ⟨2, (n : Int), (k : Int)⟩
def Gr.repE (G : Gr) : Nat → List RecD
  | 0 => []
  | i + 1 => G.repE i ++ (edgesR i (G.ups i) ++ (bitsR i (G.nodeI i) 8 ++ lostR i (G.nodeI i)))
def Gr.replay (G : Gr) : List RecD := G.repN ++ G.repE G.N.length
/-- All edges out of the first nodes. -/
def Gr.outE (G : Gr) : Nat → List (Nat × Nat)
  | 0 => []
  | i + 1 => G.outE i ++ (G.ups i).map fun u => (i, u)
theorem Gr.mem_outE {G : Gr} {a b : Nat} : ∀ {i : Nat}, (a, b) ∈ G.outE i ↔ a < i ∧ b ∈ G.ups a
  | 0 => by simp [Gr.outE]
  | i + 1 => by
    simp only [Gr.outE, List.mem_append, Gr.mem_outE (i := i), List.mem_map, Prod.mk.injEq]
    constructor
    · rintro (⟨h1, h2⟩ | ⟨u, h1, rfl, rfl⟩)
      · exact ⟨by omega, h2⟩
      · exact ⟨by omega, h1⟩
    · rintro ⟨h1, h2⟩
      by_cases h : a < i
      · exact .inl ⟨h, h2⟩
      · obtain rfl : a = i := by omega
        exact .inr ⟨b, h2, rfl, rfl⟩
theorem two_step (m s : Nat) : m % 2 ^ (s + 1) = if m.testBit s then m % 2 ^ s ||| 2 ^ s else m % 2 ^ s := by
  apply Nat.eq_of_testBit_eq
  intro i
  rw [Nat.testBit_mod_two_pow]
  by_cases h : m.testBit s
  · rw [if_pos h, Nat.testBit_or, Nat.testBit_mod_two_pow, Nat.testBit_two_pow]
    by_cases hi : i = s
    · subst hi; simp [h]
    · have e1 : decide (i < s + 1) = decide (i < s) := by rw [decide_eq_decide]; omega
      have e2 : decide (s = i) = false := decide_eq_false (by omega)
      rw [e1, e2]; simp
  · rw [if_neg h, Nat.testBit_mod_two_pow]
    by_cases hi : i = s
    · subst hi; simp only [Bool.not_eq_true] at h; simp [h]
    · have e1 : decide (i < s + 1) = decide (i < s) := by rw [decide_eq_decide]; omega
      rw [e1]
theorem two_zero (m : Nat) : m % 2 ^ 0 = 0 := by simp [Nat.mod_one]
/-- All nodes. -/
theorem Gr.dn_repN {G : Gr} (hG : G.Ok) (hv : G.Vd) : ∀ i, i ≤ G.N.length → Gr.new.dn (G.repN.take i) = some ⟨(G.N.take i).map fun x => x.low 0, []⟩
  | 0, _ => by simp [Gr.dn]; rfl
  | i + 1, hi => by
    have ih := Gr.dn_repN hG hv i (by omega)
    obtain ⟨x, hx⟩ : ∃ x, G.N[i]? = some x := ⟨_, List.getElem?_eq_getElem (by omega)⟩
    have e1 : G.repN.take (i + 1) = G.repN.take i ++ [⟨1, x.kind, x.obj⟩] := by
      unfold Gr.repN
      rw [List.take_add_one, List.getElem?_map, hx]; rfl
    have e2 : G.N.take (i + 1) = G.N.take i ++ [x] := by rw [List.take_add_one, hx]; rfl
    rw [e1, e2, List.map_append]
    refine Gr.dn_trans ih ?_
    have hl := hG.len
    have hE : (⟨(G.N.take i).map fun x => x.low 0, []⟩ : Gr).addE x.kind x.obj = 0 := by
      unfold Gr.addE
      rw [hv x (List.mem_of_getElem? hx), if_pos rfl, if_pos]
      rw [List.length_map, List.length_take]; omega
    have hap : (⟨(G.N.take i).map fun x => x.low 0, []⟩ : Gr).apE ⟨1, x.kind, x.obj⟩ = 0 := hE
    rw [Gr.dn_one hap]
    have : (⟨(G.N.take i).map fun x => x.low 0, []⟩ : Gr).apG ⟨1, x.kind, x.obj⟩ = (⟨(G.N.take i).map fun x => x.low 0, []⟩ : Gr).plus x.kind x.obj := (addG_yes hE).1
    rw [this]
    unfold Gr.plus
    congr 2
    simp only [List.map_cons, List.map_nil, List.append_cancel_left_eq, List.cons.injEq, and_true]
    have hver := hG.vers i x hx
    unfold Gr.newN NodeD.low Gr.count
    have e3 : ((G.N.take i).map fun x => x.low 0).filter (Gr.same x.kind x.obj) = ((G.N.take i).filter (Gr.same x.kind x.obj)).map fun x => x.low 0 := by
      rw [List.filter_map]; rfl
    show (⟨x.kind, x.obj, (((G.N.take i).map fun x => x.low 0).filter (Gr.same x.kind x.obj)).length + 1, 0, 0, false⟩ : NodeD) = _
    rw [e3, List.length_map, two_zero, two_zero]
    congr 1
    rw [hver, e2, List.filter_append, List.length_append]
    have : Gr.same x.kind x.obj x = true := by unfold Gr.same; simp
    rw [List.filter_cons, if_pos this]; rfl
theorem Gr.sub_reach {G H : Gr} (h : ∀ e, e ∈ H.E → e ∈ G.E) {a b : Nat} (hr : H.Reach a b) : G.Reach a b :=
  hr (fun z => G.Reach a z) (Gr.Reach.refl _ _) fun _ _ h1 h2 => h1.snoc (h _ h2)
theorem Gr.loop_no {G : Gr} (hA : G.Acyc) {a b : Nat} (h : (a, b) ∈ G.E) : a ≠ b := fun e => by
  subst e; exact hA a a h (Gr.Reach.refl _ _)
/-- The edges out of a node. -/
theorem Gr.dn_edges {G : Gr} (hA : G.Acyc) {N : List NodeD} (hN : N.length = G.N.length) {i : Nat} (hi : i < G.N.length) : ∀ (u v : List Nat), G.ups i = v ++ u →
    (⟨N, G.outE i ++ v.map fun k => (i, k)⟩ : Gr).dn (edgesR i u) = some ⟨N, G.outE (i + 1)⟩
  | [], v, h => by
    show some _ = some _
    rw [List.append_nil] at h
    rw [← h]; rfl
  | k :: u, v, h => by
    have hk : k ∈ G.ups i := by rw [h]; simp
    obtain ⟨hkl, hke⟩ := Gr.mem_ups.1 hk
    have hnd : (G.ups i).Nodup := by unfold Gr.ups; exact List.Pairwise.filter _ List.nodup_range
    have hkv : k ∉ v := by
      rw [h] at hnd
      intro hm
      exact (List.nodup_append.1 hnd).2.2 k hm k (by simp) rfl
    have hsub : ∀ e, e ∈ (⟨N, G.outE i ++ v.map fun k => (i, k)⟩ : Gr).E → e ∈ G.E := fun e he => by
      obtain ⟨a, b⟩ := e
      rcases List.mem_append.1 he with he | he
      · exact (Gr.mem_ups.1 (Gr.mem_outE.1 he).2).2
      · obtain ⟨z, hz, e⟩ := List.mem_map.1 he
        cases e
        exact (Gr.mem_ups.1 (by rw [h]; exact List.mem_append_left _ hz)).2
    have hE : (⟨N, G.outE i ++ v.map fun k => (i, k)⟩ : Gr).edgeE (i : Int) (k : Int) = 0 := by
      refine edgeE_yes (by show i < N.length; omega) (by show k < N.length; omega) (Gr.loop_no hA hke) (fun hin => ?_) fun hr => hA i k hke (Gr.sub_reach hsub hr)
      rcases List.mem_append.1 hin with he | he
      · exact absurd (Gr.mem_outE.1 he).1 (by omega)
      · obtain ⟨z, hz, e⟩ := List.mem_map.1 he
        cases e
        exact hkv hz
    have hap : (⟨N, G.outE i ++ v.map fun k => (i, k)⟩ : Gr).apE ⟨2, i, k⟩ = 0 := hE
    have hg : (⟨N, G.outE i ++ v.map fun k => (i, k)⟩ : Gr).apG ⟨2, i, k⟩ = ⟨N, G.outE i ++ (v ++ [k]).map fun k => (i, k)⟩ := by
      show (⟨N, G.outE i ++ v.map fun k => (i, k)⟩ : Gr).edgeG (i : Int) (k : Int) = _
      unfold Gr.edgeG
      rw [if_pos hE]
      simp [Gr.link]
    show (if (⟨N, G.outE i ++ v.map fun k => (i, k)⟩ : Gr).apE ⟨2, i, k⟩ = 0 then _ else none) = _
    rw [if_pos hap, hg]
    exact Gr.dn_edges hA hN hi u (v ++ [k]) (by rw [h, List.append_assoc]; rfl)
theorem set_set {α : Type} (l : List α) (i : Nat) (a b : α) : (l.set i a).set i b = l.set i b := by simp
/-- A node's bits. -/
theorem Gr.dn_bits {N : List NodeD} {E : List (Nat × Nat)} {i : Nat} {x : NodeD} (hx : N[i]? = some (x.low 0)) : ∀ s, s ≤ 8 → (⟨N, E⟩ : Gr).dn (bitsR i x s) = some ⟨N.set i (x.low s), E⟩
  | 0, _ => by
    show some _ = some _
    obtain ⟨hi, e⟩ := List.getElem?_eq_some_iff.1 hx
    rw [← e, List.set_getElem_self]
  | s + 1, hs => by
    refine Gr.dn_trans (Gr.dn_bits hx s (by omega)) ?_
    have hi := (List.getElem?_eq_some_iff.1 hx).1
    have mk : ∀ (y : NodeD), (⟨N.set i y, E⟩ : Gr).dn [⟨3, i, s⟩] = some ⟨N.set i { y with mark := y.mark ||| 2 ^ s }, E⟩ := fun y => by
      have hy : (N.set i y)[i]? = some y := by rw [List.getElem?_set, if_pos rfl, if_pos hi]
      have hb : bitOk (⟨N.set i y, E⟩ : Gr) (i : Int) (s : Int) = true := bitOk_yes (by show i < (N.set i y).length; simpa using hi) (by omega)
      rw [Gr.dn_one (show (⟨N.set i y, E⟩ : Gr).apE ⟨3, i, s⟩ = 0 by show bitE _ _ _ = 0; unfold bitE; rw [hb]; rfl)]
      show some ((⟨N.set i y, E⟩ : Gr).markG (i : Int) (s : Int)) = _
      unfold Gr.markG
      rw [hb, if_pos rfl, Gr.nodeI_at (G := ⟨N.set i y, E⟩) hy]
      simp only [Gr.withN, Int.toNat_natCast, set_set]
    have cl : ∀ (y : NodeD), (⟨N.set i y, E⟩ : Gr).dn [⟨4, i, s⟩] = some ⟨N.set i { y with clear := y.clear ||| 2 ^ s }, E⟩ := fun y => by
      have hy : (N.set i y)[i]? = some y := by rw [List.getElem?_set, if_pos rfl, if_pos hi]
      have hb : bitOk (⟨N.set i y, E⟩ : Gr) (i : Int) (s : Int) = true := bitOk_yes (by show i < (N.set i y).length; simpa using hi) (by omega)
      rw [Gr.dn_one (show (⟨N.set i y, E⟩ : Gr).apE ⟨4, i, s⟩ = 0 by show bitE _ _ _ = 0; unfold bitE; rw [hb]; rfl)]
      show some ((⟨N.set i y, E⟩ : Gr).clearG (i : Int) (s : Int)) = _
      unfold Gr.clearG
      rw [hb, if_pos rfl, Gr.nodeI_at (G := ⟨N.set i y, E⟩) hy]
      simp only [Gr.withN, Int.toNat_natCast, set_set]
    unfold bitR
    have e0 : x.low (s + 1) = ⟨x.kind, x.obj, x.ver, if x.mark.testBit s then x.mark % 2 ^ s ||| 2 ^ s else x.mark % 2 ^ s, if x.clear.testBit s then x.clear % 2 ^ s ||| 2 ^ s else x.clear % 2 ^ s, false⟩ := by
      unfold NodeD.low; rw [two_step, two_step]
    rw [e0]
    cases x.mark.testBit s <;> cases x.clear.testBit s
    · rfl
    · exact cl _
    · simp only [if_true, List.append_nil]; exact mk _
    · exact Gr.dn_trans (mk _) (cl _)
/-- A node's loss. -/
theorem Gr.dn_lost {N : List NodeD} {E : List (Nat × Nat)} {i : Nat} {x : NodeD} (hi : i < N.length) (hm : x.mark < 256 ∧ x.clear < 256) : (⟨N.set i (x.low 8), E⟩ : Gr).dn (lostR i x) = some ⟨N.set i x, E⟩ := by
  have e8 : x.low 8 = ⟨x.kind, x.obj, x.ver, x.mark, x.clear, false⟩ := by
    unfold NodeD.low; rw [Nat.mod_eq_of_lt hm.1, Nat.mod_eq_of_lt hm.2]
  rw [e8]
  unfold lostR
  cases hx : x.orph with
  | false =>
    show some _ = some _
    have : (⟨x.kind, x.obj, x.ver, x.mark, x.clear, false⟩ : NodeD) = x := by cases x; cases hx; rfl
    rw [this]
  | true =>
    have hok : lostOk (⟨N.set i ⟨x.kind, x.obj, x.ver, x.mark, x.clear, false⟩, E⟩ : Gr) (i : Int) ((i : Int) + 1) = true := by
      unfold lostOk
      simp only [List.length_set, Bool.and_eq_true, decide_eq_true_eq]
      omega
    rw [if_pos rfl, Gr.dn_one (show (⟨N.set i ⟨x.kind, x.obj, x.ver, x.mark, x.clear, false⟩, E⟩ : Gr).apE ⟨5, i, i + 1⟩ = 0 by show lostE _ _ _ = 0; unfold lostE; rw [hok]; rfl)]
    show some (Gr.lostG _ (i : Int) ((i : Int) + 1)) = _
    unfold Gr.lostG
    rw [hok, if_pos rfl]
    unfold Gr.withN
    congr 2
    apply List.ext_getElem?
    intro j
    rw [orphN_at, List.getElem?_set, List.getElem?_set]
    have e1 : (i : Int).toNat = i := by omega
    have e2 : ((i : Int) + 1).toNat = i + 1 := by omega
    rw [e1, e2]
    by_cases hj : i = j
    · subst hj
      rw [if_pos rfl, if_pos hi, if_pos rfl, if_pos hi]
      simp only [Option.map_some]
      rw [if_pos (by omega)]
      cases x; cases hx; rfl
    · rw [if_neg hj, if_neg hj]
      cases N[j]? with
      | none => rfl
      | some y => simp only [Option.map_some]; rw [if_neg (by omega)]
/-- The nodes on the way. -/
def Gr.mid (G : Gr) (i : Nat) : List NodeD := G.N.take i ++ (G.N.drop i).map fun x => x.low 0
theorem Gr.mid_len (G : Gr) {i : Nat} (hi : i ≤ G.N.length) : (G.mid i).length = G.N.length := by
  unfold Gr.mid; simp; omega
theorem Gr.mid_next {G : Gr} {i : Nat} {x : NodeD} (hx : G.N[i]? = some x) : (G.mid i)[i]? = some (x.low 0) ∧ (G.mid i).set i x = G.mid (i + 1) := by
  obtain ⟨hi, hx2⟩ := List.getElem?_eq_some_iff.1 hx
  have hlt : (G.N.take i).length = i := by rw [List.length_take]; omega
  constructor
  · unfold Gr.mid
    rw [List.getElem?_append_right (by omega), hlt, Nat.sub_self, List.getElem?_map, List.getElem?_drop, Nat.add_zero, hx]; rfl
  · unfold Gr.mid
    rw [List.set_append_right _ _ (by omega), hlt, Nat.sub_self, List.drop_eq_getElem_cons hi, hx2, List.take_add_one, hx]
    simp
theorem Gr.dn_repE {G : Gr} (hG : G.Ok) (hA : G.Acyc) : ∀ i, i ≤ G.N.length → (⟨G.mid 0, []⟩ : Gr).dn (G.repE i) = some ⟨G.mid i, G.outE i⟩
  | 0, _ => rfl
  | i + 1, hi => by
    obtain ⟨x, hx⟩ : ∃ x, G.N[i]? = some x := ⟨_, List.getElem?_eq_getElem (by omega)⟩
    obtain ⟨h1, h2⟩ := Gr.mid_next hx
    have hml := G.mid_len (i := i) (by omega)
    refine Gr.dn_trans (Gr.dn_repE hG hA i (by omega)) ?_
    rw [Gr.nodeI_at hx]
    have h3 := Gr.dn_edges hA hml (show i < G.N.length by omega) (G.ups i) [] rfl
    rw [List.map_nil, List.append_nil] at h3
    refine Gr.dn_trans h3 (Gr.dn_trans (Gr.dn_bits h1 8 (Nat.le_refl _)) ?_)
    rw [Gr.dn_lost (by omega) (hG.marks x (List.mem_of_getElem? hx)), h2]
/-- The graph, made anew. -/
theorem Gr.dn_replay {G : Gr} (hG : G.Ok) (hv : G.Vd) (hA : G.Acyc) : ∃ H, Gr.new.dn G.replay = some H ∧ H.N = G.N ∧ ∀ e, e ∈ H.E ↔ e ∈ G.E := by
  refine ⟨⟨G.N, G.outE G.N.length⟩, ?_, rfl, fun e => ?_⟩
  · have h1 := Gr.dn_repN hG hv G.N.length (Nat.le_refl _)
    have e1 : G.repN.take G.N.length = G.repN := List.take_of_length_le (by unfold Gr.repN; simp)
    rw [e1, List.take_length] at h1
    refine Gr.dn_trans h1 ?_
    have h2 := Gr.dn_repE hG hA G.N.length (Nat.le_refl _)
    have e2 : G.mid G.N.length = G.N := by unfold Gr.mid; simp
    have e3 : G.mid 0 = G.N.map fun x => x.low 0 := by unfold Gr.mid; simp
    rw [e2, e3] at h2
    exact h2
  · obtain ⟨a, b⟩ := e
    constructor
    · intro h
      exact (Gr.mem_ups.1 (Gr.mem_outE.1 h).2).2
    · intro h
      have := hG.low _ h
      exact Gr.mem_outE.2 ⟨this.1, Gr.mem_ups.2 ⟨this.2, h⟩⟩
theorem edgesR_len (n : Nat) (u : List Nat) : (edgesR n u).length = u.length := by simp [edgesR]
theorem bitsR_len (n : Nat) (x : NodeD) : ∀ s, (bitsR n x s).length ≤ 2 * s
  | 0 => by simp [bitsR]
  | s + 1 => by
    have := bitsR_len n x s
    simp only [bitsR, bitR, List.length_append]
    split <;> split <;> simp <;> omega
theorem Gr.repE_len (G : Gr) : ∀ i, (G.repE i).length ≤ i * (G.N.length + 17)
  | 0 => by simp [Gr.repE]
  | i + 1 => by
    have h1 := G.repE_len i
    have h2 := bitsR_len i (G.nodeI i) 8
    have h3 := G.ups_len i
    simp only [Gr.repE, List.length_append, edgesR_len]
    have h4 : (lostR i (G.nodeI i)).length ≤ 1 := by unfold lostR; split <;> simp
    rw [Nat.succ_mul]
    omega
/-- A graph in memory does not tell in which order its edges came. -/
theorem IsG.same {W w : World} {L : List Asrt} {p : Nat} {G H : Gr} (hN : H.N = G.N) (hE : ∀ e, e ∈ H.E ↔ e ∈ G.E) (h : Sat W w (IsG p H :: L)) : Sat W w (IsG p G :: L) := by
  have e : IsG p H = IsG p G := by
    have hu : H.upsL = G.upsL := by
      unfold Gr.upsL Gr.ups
      rw [hN]
      refine List.map_congr_left fun n _ => List.filter_congr fun k _ => ?_
      rw [decide_eq_decide]; exact hE _
    have hd : H.downsL = G.downsL := by
      unfold Gr.downsL Gr.downs
      rw [hN]
      refine List.map_congr_left fun n _ => List.filter_congr fun k _ => ?_
      rw [decide_eq_decide]; exact hE _
    have hf : H.edgesF = G.edgesF := by
      funext e
      have : H.has e = G.has e := by
        rw [Bool.eq_iff_iff]
        unfold Gr.has
        rw [List.any_eq_true, List.any_eq_true]
        exact ⟨fun ⟨x, h1, h2⟩ => ⟨x, (hE x).1 h1, h2⟩, fun ⟨x, h1, h2⟩ => ⟨x, (hE x).2 h1, h2⟩⟩
      unfold Gr.edgesF; rw [this]
    have hl : H.latF = G.latF := by
      funext k
      unfold Gr.latF Gr.latest; rw [hN]
    unfold IsG
    rw [hN, hu, hd, hf, hl]
  rw [← e]; exact h
end Go.Proofs.YtapodjhkpahdnaaGreat
namespace Go.Proofs.YtapodjhkpahdnaaGreat
open Go.RowKit Go.Sep
set_option linter.unusedSimpArgs false
set_option linter.unusedVariables false
attribute [local irreducible] Go.Oper.wp Go.wpList Go.Calls Go.Code.wp Go.Sep.Reg
attribute [local irreducible] IsG IsK IsQ IsR
theorem Gr.dn_step {G H : Gr} {l : List RecD} {i : Nat} {x : RecD} (hx : l[i]? = some x) (h : G.dn (l.drop i) = some H) : G.apE x = 0 ∧ (G.apG x).dn (l.drop (i + 1)) = some H := by
  obtain ⟨hi, rfl⟩ := List.getElem?_eq_some_iff.1 hx
  rw [List.drop_eq_getElem_cons hi, Gr.dn] at h
  split at h
  · exact ⟨‹_›, h⟩
  · cases h
theorem Gr.apE_kind {G : Gr} {x : RecD} (h : G.apE x = 0) : x.k = 1 ∨ x.k = 2 ∨ x.k = 3 ∨ x.k = 4 ∨ x.k = 5 := by
  unfold Gr.apE at h
  split at h
  · omega
  · split at h
    · omega
    · split at h
      · omega
      · split at h
        · omega
        · split at h
          · omega
          · cases h
set_option maxRecDepth 20000 in
set_option maxHeartbeats 4000000 in
theorem applied_any {W w : World} {L : List Asrt} (hS : Sat W w L) (l : List RecD) (ao : Option Addr) (c : Nat) (hr : ∀ w, Sat W w L → Rd w (.slice ao l.length c) l.length 3 (l.flatMap rv)) (hb : l.length ≤ 900000) {H : Gr} (hd : Gr.new.dn l = some H) :
    Calls Tryz.prog 12 #[.slice ao l.length c] w fun e w' => ∃ p, e = .returned (.tuple #[.pointer (some ⟨p, 0, none⟩), .int .i64 (l.length : Nat), .bool true]) ∧ Sat W w' (IsG p H :: L) := by
  have HR : Hid (∀ w, Sat W w L → Rd w (.slice ao l.length c) l.length 3 (l.flatMap rv)) := Lib.hid hr
  obtain ⟨_, _, he, hc1, hc2, _, h5⟩ := hr w hS
  simp only [Value.slice.injEq, true_and] at he
  obtain ⟨rfl, rfl⟩ := he
  have H5 := Lib.hid h5
  have i5 : (l.length : Int) ≤ 1000000 := by omega
  have HD := Lib.hid hd
  clear hr h5 hd
  go_enter Tryz.func12, Tryz.ntmps12
  go_wp2_with (first
    | (go_at_call 23; refine (new_any hS).mono ?_; rintro e w1 ⟨p, rfl, hS1⟩; clear hS; have hS := hS1; clear hS1))
  have H0 := Lib.hid hS
  go_loopw [6] (fun v wz => ∃ (i : Nat) (G : Gr), v = .int .i64 i ∧ i ≤ l.length ∧ G.Ok ∧ G.E.length ≤ i ∧ G.dn (l.drop i) = some H ∧ Sat W wz (IsG p G :: L)) (fun v _ => l.length - (intOf v).toNat)
  case atStart => exact ⟨0, Gr.new, rfl, by omega, Gr.new_ok, Nat.le_refl _, HD.out, H0.out⟩
  case round =>
    clear hS H0
    obtain ⟨i, G, rfl, hi, hok, hel, hdn, hS⟩ := hrel
    have HOK := Lib.hid hok
    have HEL := Lib.hid hel
    clear hok hel
    by_cases hlt : i < l.length
    · obtain ⟨b, off, rfl, _⟩ := H5.out (by omega)
      obtain ⟨⟨xk, xa, xb⟩, hx⟩ : ∃ x, l[i]? = some x := ⟨_, List.getElem?_eq_getElem hlt⟩
      have j1 : (i : Int) < (l.length : Int) := by omega
      have HX := Lib.hid hx
      have HLT := Lib.hid hlt
      obtain ⟨he, hdn2⟩ := Gr.dn_step hx hdn
      have hkind := Gr.apE_kind he
      dsimp only at hkind
      clear hx hdn
      rcases hkind with rfl | rfl | rfl | rfl | rfl
      · obtain ⟨G2, hG2⟩ : ∃ G2, G.addG xa xb = G2 := ⟨_, rfl⟩
        have hap : G.apG ⟨1, xa, xb⟩ = G2 := by unfold Gr.apG; simp [hG2]
        have hE0 : G.addE xa xb = 0 := by unfold Gr.apE at he; simpa using he
        have HA := Lib.hid (fun w (L : List Asrt) (h2 : Sat W w (IsG p G :: L)) => by have := add_any h2 HOK.out xa xb; rw [hE0, hG2] at this; exact this)
        have HOK2 := Lib.hid (show G2.Ok by rw [← hap]; exact Gr.apG_ok HOK.out (by have := HEL.out; omega) _)
        have HE2 := Lib.hid (show G2.E.length ≤ i + 1 by have := Gr.apG_E G ⟨1, xa, xb⟩; rw [hap] at this; have := HEL.out; omega)
        rw [hap] at hdn2
        have HD2 := Lib.hid hdn2
        clear hap hE0 hG2 hdn2 he hlt
        go_wp2_with (refine toList (by rfl) ?_; refine wp_of_reads (rLdRd (f := rv) (x := ⟨1, xa, xb⟩) (HR.out _ hS.drop) (rv_len l) _ _ (by rfl) _ (by rfl) (agOf (by rfl)) i 0 (by omega) HX.out (by rfl) (by omega)) ?_)
        refine regStart [11] hS (by kernel_rfl) rfl ?_
        intro w1 hS1
        clear hS; have hS := hS1; clear hS1
        (refine regP 0 hS (fun _ h => h) rfl (by kernel_rfl) (by kernel_rfl) (by kernel_rfl) (fun _ _ _ _ h => h) (by rfl) (by rfl) ?_; apply Exists.intro; apply And.intro; (intro w; go_simp; try with_reducible rfl); (simp only [Act.put, List.setIfInBounds_toArray, List.set_cons_zero, List.set_cons_succ]))
        (refine regP 1 hS (fun _ h => h) rfl (by kernel_rfl) (by kernel_rfl) (by kernel_rfl) (fun _ _ _ _ h => h) (by rfl) (by rfl) ?_; apply Exists.intro; apply And.intro; (intro w; go_simp; try with_reducible rfl); (simp only [Act.put, List.setIfInBounds_toArray, List.set_cons_zero, List.set_cons_succ]))
        (refine regP 2 hS (fun _ h => h) rfl (by kernel_rfl) (by kernel_rfl) (by kernel_rfl) (fun _ _ _ _ h => h) (by rfl) (by rfl) ?_; apply Exists.intro; apply And.intro; (intro w; go_simp; try with_reducible rfl); (simp only [Act.put, List.setIfInBounds_toArray, List.set_cons_zero, List.set_cons_succ]))
        (refine regP 3 hS (fun _ h => h) rfl (by kernel_rfl) (by kernel_rfl) (by kernel_rfl) (fun _ _ _ _ h => h) (by rfl) (by rfl) ?_; apply Exists.intro; apply And.intro; (intro w; go_simp; try with_reducible rfl); (simp only [Act.put, List.setIfInBounds_toArray, List.set_cons_zero, List.set_cons_succ]))
        (refine regP 4 hS (fun _ h => h) rfl (by kernel_rfl) (by kernel_rfl) (by kernel_rfl) (fun _ _ _ _ h => h) (by rfl) (by rfl) ?_; apply Exists.intro; apply And.intro; (intro w; go_simp; try with_reducible rfl); (simp only [Act.put, List.setIfInBounds_toArray, List.set_cons_zero, List.set_cons_succ]))
        (refine regR 5 hS (fun _ h => h) rfl (by kernel_rfl) (by kernel_rfl) (by kernel_rfl) (by kernel_rfl) (by kernel_rfl) (fun _ _ _ _ h => h) (by rfl) (by rfl) ?_; (first
                          | refine ⟨_, fun u hu => rLdRd (f := rv) (x := ⟨1, xa, xb⟩) (HR.out _ hu.drop) (rv_len l) _ _ (by rfl) _ (by rfl) (agOf (by rfl)) i 1 (by omega) HX.out (by rfl) (by omega), ?_⟩
                          | refine ⟨_, fun u hu => rLdRd (f := rv) (x := ⟨1, xa, xb⟩) (HR.out _ hu.drop) (rv_len l) _ _ (by rfl) _ (by rfl) (agOf (by rfl)) i 2 (by omega) HX.out (by rfl) (by omega), ?_⟩); (simp only [Act.put, List.setIfInBounds_toArray, List.set_cons_zero, List.set_cons_succ]))
        (refine regP 6 hS (fun _ h => h) rfl (by kernel_rfl) (by kernel_rfl) (by kernel_rfl) (fun _ _ _ _ h => h) (by rfl) (by rfl) ?_; apply Exists.intro; apply And.intro; (intro w; go_simp; try with_reducible rfl); (simp only [Act.put, List.setIfInBounds_toArray, List.set_cons_zero, List.set_cons_succ]))
        (refine regP 7 hS (fun _ h => h) rfl (by kernel_rfl) (by kernel_rfl) (by kernel_rfl) (fun _ _ _ _ h => h) (by rfl) (by rfl) ?_; apply Exists.intro; apply And.intro; (intro w; go_simp; try with_reducible rfl); (simp only [Act.put, List.setIfInBounds_toArray, List.set_cons_zero, List.set_cons_succ]))
        (refine regP 8 hS (fun _ h => h) rfl (by kernel_rfl) (by kernel_rfl) (by kernel_rfl) (fun _ _ _ _ h => h) (by rfl) (by rfl) ?_; apply Exists.intro; apply And.intro; (intro w; go_simp; try with_reducible rfl); (simp only [Act.put, List.setIfInBounds_toArray, List.set_cons_zero, List.set_cons_succ]))
        (refine regP 9 hS (fun _ h => h) rfl (by kernel_rfl) (by kernel_rfl) (by kernel_rfl) (fun _ _ _ _ h => h) (by rfl) (by rfl) ?_; apply Exists.intro; apply And.intro; (intro w; go_simp; try with_reducible rfl); (simp only [Act.put, List.setIfInBounds_toArray, List.set_cons_zero, List.set_cons_succ]))
        (refine regR 10 hS (fun _ h => h) rfl (by kernel_rfl) (by kernel_rfl) (by kernel_rfl) (by kernel_rfl) (by kernel_rfl) (fun _ _ _ _ h => h) (by rfl) (by rfl) ?_; (first
                          | refine ⟨_, fun u hu => rLdRd (f := rv) (x := ⟨1, xa, xb⟩) (HR.out _ hu.drop) (rv_len l) _ _ (by rfl) _ (by rfl) (agOf (by rfl)) i 1 (by omega) HX.out (by rfl) (by omega), ?_⟩
                          | refine ⟨_, fun u hu => rLdRd (f := rv) (x := ⟨1, xa, xb⟩) (HR.out _ hu.drop) (rv_len l) _ _ (by rfl) _ (by rfl) (agOf (by rfl)) i 2 (by omega) HX.out (by rfl) (by omega), ?_⟩); (simp only [Act.put, List.setIfInBounds_toArray, List.set_cons_zero, List.set_cons_succ]))
        (refine regA 11 rfl (by kernel_rfl) (by rfl) (by rfl) true (by kernel_rfl) (fun K hK => ?_); (refine Go.Sep.cl 35 _ _ (by rfl) (by rfl) (by kernel_rfl) (HA.out _ _ hS) ?_; rintro e w1 ⟨rfl, hS1⟩; clear hS; have hS := hS1; clear hS1; refine ⟨_, rfl, ?_⟩); refine hK _ _ _ hS (by first | (intro h; cases h; done) | exact fun _ _ h => h | exact fun _ _ h => h.drop | exact fun _ _ h => h.drop.drop | exact fun _ _ h => h.drop.pull1 | exact fun _ _ h => h.take2 | exact fun _ _ h => h.one Has.z | exact fun _ _ h => h.one (Has.s Has.z) | exact fun _ _ h => h.one (Has.s (Has.s Has.z))) ?_; clear hK K; (simp only [Act.put, List.setIfInBounds_toArray, List.set_cons_zero, List.set_cons_succ]))
        (refine regP 12 hS (fun _ h => h) rfl (by kernel_rfl) (by kernel_rfl) (by kernel_rfl) (fun _ _ _ _ h => h) (by rfl) (by rfl) ?_; apply Exists.intro; apply And.intro; (intro w; go_simp; try with_reducible rfl); (simp only [Act.put, List.setIfInBounds_toArray, List.set_cons_zero, List.set_cons_succ]))
        (refine regP 13 hS (fun _ h => h) rfl (by kernel_rfl) (by kernel_rfl) (by kernel_rfl) (fun _ _ _ _ h => h) (by rfl) (by rfl) ?_; apply Exists.intro; apply And.intro; (intro w; go_simp; try with_reducible rfl); (simp only [Act.put, List.setIfInBounds_toArray, List.set_cons_zero, List.set_cons_succ]))
        (refine regP 14 hS (fun _ h => h) rfl (by kernel_rfl) (by kernel_rfl) (by kernel_rfl) (fun _ _ _ _ h => h) (by rfl) (by rfl) ?_; apply Exists.intro; apply And.intro; (intro w; go_simp; try with_reducible rfl); (simp only [Act.put, List.setIfInBounds_toArray, List.set_cons_zero, List.set_cons_succ]))
        (refine regP 15 hS (fun _ h => h) rfl (by kernel_rfl) (by kernel_rfl) (by kernel_rfl) (fun _ _ _ _ h => h) (by rfl) (by rfl) ?_; apply Exists.intro; apply And.intro; (intro w; go_simp; try with_reducible rfl); (simp only [Act.put, List.setIfInBounds_toArray, List.set_cons_zero, List.set_cons_succ]))
        refine regDone (by kernel_rfl) ?_
        go_wp2
        exact ⟨⟨i + 1, G2, by go_num, HLT.out, HOK2.out, HE2.out, HD2.out, hS⟩, by simp [intOf]; have := HLT.out; omega⟩
      · obtain ⟨G2, hG2⟩ : ∃ G2, G.edgeG xa xb = G2 := ⟨_, rfl⟩
        have hap : G.apG ⟨2, xa, xb⟩ = G2 := by unfold Gr.apG; simp [hG2]
        have hE0 : G.edgeE xa xb = 0 := by unfold Gr.apE at he; simpa using he
        have HA := Lib.hid (fun w (L : List Asrt) (h2 : Sat W w (IsG p G :: L)) => by have := edge_any h2 HOK.out xa xb; rw [hE0, hG2] at this; exact this)
        have HOK2 := Lib.hid (show G2.Ok by rw [← hap]; exact Gr.apG_ok HOK.out (by have := HEL.out; omega) _)
        have HE2 := Lib.hid (show G2.E.length ≤ i + 1 by have := Gr.apG_E G ⟨2, xa, xb⟩; rw [hap] at this; have := HEL.out; omega)
        rw [hap] at hdn2
        have HD2 := Lib.hid hdn2
        clear hap hE0 hG2 hdn2 he hlt
        go_wp2_with (refine toList (by rfl) ?_; refine wp_of_reads (rLdRd (f := rv) (x := ⟨2, xa, xb⟩) (HR.out _ hS.drop) (rv_len l) _ _ (by rfl) _ (by rfl) (agOf (by rfl)) i 0 (by omega) HX.out (by rfl) (by omega)) ?_)
        refine regStart [11] hS (by kernel_rfl) rfl ?_
        intro w1 hS1
        clear hS; have hS := hS1; clear hS1
        (refine regP 0 hS (fun _ h => h) rfl (by kernel_rfl) (by kernel_rfl) (by kernel_rfl) (fun _ _ _ _ h => h) (by rfl) (by rfl) ?_; apply Exists.intro; apply And.intro; (intro w; go_simp; try with_reducible rfl); (simp only [Act.put, List.setIfInBounds_toArray, List.set_cons_zero, List.set_cons_succ]))
        (refine regP 1 hS (fun _ h => h) rfl (by kernel_rfl) (by kernel_rfl) (by kernel_rfl) (fun _ _ _ _ h => h) (by rfl) (by rfl) ?_; apply Exists.intro; apply And.intro; (intro w; go_simp; try with_reducible rfl); (simp only [Act.put, List.setIfInBounds_toArray, List.set_cons_zero, List.set_cons_succ]))
        (refine regP 2 hS (fun _ h => h) rfl (by kernel_rfl) (by kernel_rfl) (by kernel_rfl) (fun _ _ _ _ h => h) (by rfl) (by rfl) ?_; apply Exists.intro; apply And.intro; (intro w; go_simp; try with_reducible rfl); (simp only [Act.put, List.setIfInBounds_toArray, List.set_cons_zero, List.set_cons_succ]))
        (refine regP 3 hS (fun _ h => h) rfl (by kernel_rfl) (by kernel_rfl) (by kernel_rfl) (fun _ _ _ _ h => h) (by rfl) (by rfl) ?_; apply Exists.intro; apply And.intro; (intro w; go_simp; try with_reducible rfl); (simp only [Act.put, List.setIfInBounds_toArray, List.set_cons_zero, List.set_cons_succ]))
        (refine regP 4 hS (fun _ h => h) rfl (by kernel_rfl) (by kernel_rfl) (by kernel_rfl) (fun _ _ _ _ h => h) (by rfl) (by rfl) ?_; apply Exists.intro; apply And.intro; (intro w; go_simp; try with_reducible rfl); (simp only [Act.put, List.setIfInBounds_toArray, List.set_cons_zero, List.set_cons_succ]))
        (refine regR 5 hS (fun _ h => h) rfl (by kernel_rfl) (by kernel_rfl) (by kernel_rfl) (by kernel_rfl) (by kernel_rfl) (fun _ _ _ _ h => h) (by rfl) (by rfl) ?_; (first
                          | refine ⟨_, fun u hu => rLdRd (f := rv) (x := ⟨2, xa, xb⟩) (HR.out _ hu.drop) (rv_len l) _ _ (by rfl) _ (by rfl) (agOf (by rfl)) i 1 (by omega) HX.out (by rfl) (by omega), ?_⟩
                          | refine ⟨_, fun u hu => rLdRd (f := rv) (x := ⟨2, xa, xb⟩) (HR.out _ hu.drop) (rv_len l) _ _ (by rfl) _ (by rfl) (agOf (by rfl)) i 2 (by omega) HX.out (by rfl) (by omega), ?_⟩); (simp only [Act.put, List.setIfInBounds_toArray, List.set_cons_zero, List.set_cons_succ]))
        (refine regP 6 hS (fun _ h => h) rfl (by kernel_rfl) (by kernel_rfl) (by kernel_rfl) (fun _ _ _ _ h => h) (by rfl) (by rfl) ?_; apply Exists.intro; apply And.intro; (intro w; go_simp; try with_reducible rfl); (simp only [Act.put, List.setIfInBounds_toArray, List.set_cons_zero, List.set_cons_succ]))
        (refine regP 7 hS (fun _ h => h) rfl (by kernel_rfl) (by kernel_rfl) (by kernel_rfl) (fun _ _ _ _ h => h) (by rfl) (by rfl) ?_; apply Exists.intro; apply And.intro; (intro w; go_simp; try with_reducible rfl); (simp only [Act.put, List.setIfInBounds_toArray, List.set_cons_zero, List.set_cons_succ]))
        (refine regP 8 hS (fun _ h => h) rfl (by kernel_rfl) (by kernel_rfl) (by kernel_rfl) (fun _ _ _ _ h => h) (by rfl) (by rfl) ?_; apply Exists.intro; apply And.intro; (intro w; go_simp; try with_reducible rfl); (simp only [Act.put, List.setIfInBounds_toArray, List.set_cons_zero, List.set_cons_succ]))
        (refine regP 9 hS (fun _ h => h) rfl (by kernel_rfl) (by kernel_rfl) (by kernel_rfl) (fun _ _ _ _ h => h) (by rfl) (by rfl) ?_; apply Exists.intro; apply And.intro; (intro w; go_simp; try with_reducible rfl); (simp only [Act.put, List.setIfInBounds_toArray, List.set_cons_zero, List.set_cons_succ]))
        (refine regR 10 hS (fun _ h => h) rfl (by kernel_rfl) (by kernel_rfl) (by kernel_rfl) (by kernel_rfl) (by kernel_rfl) (fun _ _ _ _ h => h) (by rfl) (by rfl) ?_; (first
                          | refine ⟨_, fun u hu => rLdRd (f := rv) (x := ⟨2, xa, xb⟩) (HR.out _ hu.drop) (rv_len l) _ _ (by rfl) _ (by rfl) (agOf (by rfl)) i 1 (by omega) HX.out (by rfl) (by omega), ?_⟩
                          | refine ⟨_, fun u hu => rLdRd (f := rv) (x := ⟨2, xa, xb⟩) (HR.out _ hu.drop) (rv_len l) _ _ (by rfl) _ (by rfl) (agOf (by rfl)) i 2 (by omega) HX.out (by rfl) (by omega), ?_⟩); (simp only [Act.put, List.setIfInBounds_toArray, List.set_cons_zero, List.set_cons_succ]))
        (refine regA 11 rfl (by kernel_rfl) (by rfl) (by rfl) true (by kernel_rfl) (fun K hK => ?_); (refine Go.Sep.cl 36 _ _ (by rfl) (by rfl) (by kernel_rfl) (HA.out _ _ hS) ?_; rintro e w1 ⟨rfl, hS1⟩; clear hS; have hS := hS1; clear hS1; refine ⟨_, rfl, ?_⟩); refine hK _ _ _ hS (by first | (intro h; cases h; done) | exact fun _ _ h => h | exact fun _ _ h => h.drop | exact fun _ _ h => h.drop.drop | exact fun _ _ h => h.drop.pull1 | exact fun _ _ h => h.take2 | exact fun _ _ h => h.one Has.z | exact fun _ _ h => h.one (Has.s Has.z) | exact fun _ _ h => h.one (Has.s (Has.s Has.z))) ?_; clear hK K; (simp only [Act.put, List.setIfInBounds_toArray, List.set_cons_zero, List.set_cons_succ]))
        (refine regP 12 hS (fun _ h => h) rfl (by kernel_rfl) (by kernel_rfl) (by kernel_rfl) (fun _ _ _ _ h => h) (by rfl) (by rfl) ?_; apply Exists.intro; apply And.intro; (intro w; go_simp; try with_reducible rfl); (simp only [Act.put, List.setIfInBounds_toArray, List.set_cons_zero, List.set_cons_succ]))
        refine regDone (by kernel_rfl) ?_
        go_wp2
        exact ⟨⟨i + 1, G2, by go_num, HLT.out, HOK2.out, HE2.out, HD2.out, hS⟩, by simp [intOf]; have := HLT.out; omega⟩
      · obtain ⟨G2, hG2⟩ : ∃ G2, G.markG xa xb = G2 := ⟨_, rfl⟩
        have hap : G.apG ⟨3, xa, xb⟩ = G2 := by unfold Gr.apG; simp [hG2]
        have hE0 : bitE G xa xb = 0 := by unfold Gr.apE at he; simpa using he
        have HA := Lib.hid (fun w (L : List Asrt) (h2 : Sat W w (IsG p G :: L)) => by have := mark_any h2 xa xb HOK.out.marks; rw [hE0, hG2] at this; exact this)
        have HOK2 := Lib.hid (show G2.Ok by rw [← hap]; exact Gr.apG_ok HOK.out (by have := HEL.out; omega) _)
        have HE2 := Lib.hid (show G2.E.length ≤ i + 1 by have := Gr.apG_E G ⟨3, xa, xb⟩; rw [hap] at this; have := HEL.out; omega)
        rw [hap] at hdn2
        have HD2 := Lib.hid hdn2
        clear hap hE0 hG2 hdn2 he hlt
        go_wp2_with (refine toList (by rfl) ?_; refine wp_of_reads (rLdRd (f := rv) (x := ⟨3, xa, xb⟩) (HR.out _ hS.drop) (rv_len l) _ _ (by rfl) _ (by rfl) (agOf (by rfl)) i 0 (by omega) HX.out (by rfl) (by omega)) ?_)
        refine regStart [11] hS (by kernel_rfl) rfl ?_
        intro w1 hS1
        clear hS; have hS := hS1; clear hS1
        (refine regP 0 hS (fun _ h => h) rfl (by kernel_rfl) (by kernel_rfl) (by kernel_rfl) (fun _ _ _ _ h => h) (by rfl) (by rfl) ?_; apply Exists.intro; apply And.intro; (intro w; go_simp; try with_reducible rfl); (simp only [Act.put, List.setIfInBounds_toArray, List.set_cons_zero, List.set_cons_succ]))
        (refine regP 1 hS (fun _ h => h) rfl (by kernel_rfl) (by kernel_rfl) (by kernel_rfl) (fun _ _ _ _ h => h) (by rfl) (by rfl) ?_; apply Exists.intro; apply And.intro; (intro w; go_simp; try with_reducible rfl); (simp only [Act.put, List.setIfInBounds_toArray, List.set_cons_zero, List.set_cons_succ]))
        (refine regP 2 hS (fun _ h => h) rfl (by kernel_rfl) (by kernel_rfl) (by kernel_rfl) (fun _ _ _ _ h => h) (by rfl) (by rfl) ?_; apply Exists.intro; apply And.intro; (intro w; go_simp; try with_reducible rfl); (simp only [Act.put, List.setIfInBounds_toArray, List.set_cons_zero, List.set_cons_succ]))
        (refine regP 3 hS (fun _ h => h) rfl (by kernel_rfl) (by kernel_rfl) (by kernel_rfl) (fun _ _ _ _ h => h) (by rfl) (by rfl) ?_; apply Exists.intro; apply And.intro; (intro w; go_simp; try with_reducible rfl); (simp only [Act.put, List.setIfInBounds_toArray, List.set_cons_zero, List.set_cons_succ]))
        (refine regP 4 hS (fun _ h => h) rfl (by kernel_rfl) (by kernel_rfl) (by kernel_rfl) (fun _ _ _ _ h => h) (by rfl) (by rfl) ?_; apply Exists.intro; apply And.intro; (intro w; go_simp; try with_reducible rfl); (simp only [Act.put, List.setIfInBounds_toArray, List.set_cons_zero, List.set_cons_succ]))
        (refine regR 5 hS (fun _ h => h) rfl (by kernel_rfl) (by kernel_rfl) (by kernel_rfl) (by kernel_rfl) (by kernel_rfl) (fun _ _ _ _ h => h) (by rfl) (by rfl) ?_; (first
                          | refine ⟨_, fun u hu => rLdRd (f := rv) (x := ⟨3, xa, xb⟩) (HR.out _ hu.drop) (rv_len l) _ _ (by rfl) _ (by rfl) (agOf (by rfl)) i 1 (by omega) HX.out (by rfl) (by omega), ?_⟩
                          | refine ⟨_, fun u hu => rLdRd (f := rv) (x := ⟨3, xa, xb⟩) (HR.out _ hu.drop) (rv_len l) _ _ (by rfl) _ (by rfl) (agOf (by rfl)) i 2 (by omega) HX.out (by rfl) (by omega), ?_⟩); (simp only [Act.put, List.setIfInBounds_toArray, List.set_cons_zero, List.set_cons_succ]))
        (refine regP 6 hS (fun _ h => h) rfl (by kernel_rfl) (by kernel_rfl) (by kernel_rfl) (fun _ _ _ _ h => h) (by rfl) (by rfl) ?_; apply Exists.intro; apply And.intro; (intro w; go_simp; try with_reducible rfl); (simp only [Act.put, List.setIfInBounds_toArray, List.set_cons_zero, List.set_cons_succ]))
        (refine regP 7 hS (fun _ h => h) rfl (by kernel_rfl) (by kernel_rfl) (by kernel_rfl) (fun _ _ _ _ h => h) (by rfl) (by rfl) ?_; apply Exists.intro; apply And.intro; (intro w; go_simp; try with_reducible rfl); (simp only [Act.put, List.setIfInBounds_toArray, List.set_cons_zero, List.set_cons_succ]))
        (refine regP 8 hS (fun _ h => h) rfl (by kernel_rfl) (by kernel_rfl) (by kernel_rfl) (fun _ _ _ _ h => h) (by rfl) (by rfl) ?_; apply Exists.intro; apply And.intro; (intro w; go_simp; try with_reducible rfl); (simp only [Act.put, List.setIfInBounds_toArray, List.set_cons_zero, List.set_cons_succ]))
        (refine regP 9 hS (fun _ h => h) rfl (by kernel_rfl) (by kernel_rfl) (by kernel_rfl) (fun _ _ _ _ h => h) (by rfl) (by rfl) ?_; apply Exists.intro; apply And.intro; (intro w; go_simp; try with_reducible rfl); (simp only [Act.put, List.setIfInBounds_toArray, List.set_cons_zero, List.set_cons_succ]))
        (refine regR 10 hS (fun _ h => h) rfl (by kernel_rfl) (by kernel_rfl) (by kernel_rfl) (by kernel_rfl) (by kernel_rfl) (fun _ _ _ _ h => h) (by rfl) (by rfl) ?_; (first
                          | refine ⟨_, fun u hu => rLdRd (f := rv) (x := ⟨3, xa, xb⟩) (HR.out _ hu.drop) (rv_len l) _ _ (by rfl) _ (by rfl) (agOf (by rfl)) i 1 (by omega) HX.out (by rfl) (by omega), ?_⟩
                          | refine ⟨_, fun u hu => rLdRd (f := rv) (x := ⟨3, xa, xb⟩) (HR.out _ hu.drop) (rv_len l) _ _ (by rfl) _ (by rfl) (agOf (by rfl)) i 2 (by omega) HX.out (by rfl) (by omega), ?_⟩); (simp only [Act.put, List.setIfInBounds_toArray, List.set_cons_zero, List.set_cons_succ]))
        (refine regA 11 rfl (by kernel_rfl) (by rfl) (by rfl) true (by kernel_rfl) (fun K hK => ?_); (refine Go.Sep.cl 37 _ _ (by rfl) (by rfl) (by kernel_rfl) (HA.out _ _ hS) ?_; rintro e w1 ⟨rfl, hS1⟩; clear hS; have hS := hS1; clear hS1; refine ⟨_, rfl, ?_⟩); refine hK _ _ _ hS (by first | (intro h; cases h; done) | exact fun _ _ h => h | exact fun _ _ h => h.drop | exact fun _ _ h => h.drop.drop | exact fun _ _ h => h.drop.pull1 | exact fun _ _ h => h.take2 | exact fun _ _ h => h.one Has.z | exact fun _ _ h => h.one (Has.s Has.z) | exact fun _ _ h => h.one (Has.s (Has.s Has.z))) ?_; clear hK K; (simp only [Act.put, List.setIfInBounds_toArray, List.set_cons_zero, List.set_cons_succ]))
        (refine regP 12 hS (fun _ h => h) rfl (by kernel_rfl) (by kernel_rfl) (by kernel_rfl) (fun _ _ _ _ h => h) (by rfl) (by rfl) ?_; apply Exists.intro; apply And.intro; (intro w; go_simp; try with_reducible rfl); (simp only [Act.put, List.setIfInBounds_toArray, List.set_cons_zero, List.set_cons_succ]))
        refine regDone (by kernel_rfl) ?_
        go_wp2
        exact ⟨⟨i + 1, G2, by go_num, HLT.out, HOK2.out, HE2.out, HD2.out, hS⟩, by simp [intOf]; have := HLT.out; omega⟩
      · obtain ⟨G2, hG2⟩ : ∃ G2, G.clearG xa xb = G2 := ⟨_, rfl⟩
        have hap : G.apG ⟨4, xa, xb⟩ = G2 := by unfold Gr.apG; simp [hG2]
        have hE0 : bitE G xa xb = 0 := by unfold Gr.apE at he; simpa using he
        have HA := Lib.hid (fun w (L : List Asrt) (h2 : Sat W w (IsG p G :: L)) => by have := clear_any h2 xa xb HOK.out.marks; rw [hE0, hG2] at this; exact this)
        have HOK2 := Lib.hid (show G2.Ok by rw [← hap]; exact Gr.apG_ok HOK.out (by have := HEL.out; omega) _)
        have HE2 := Lib.hid (show G2.E.length ≤ i + 1 by have := Gr.apG_E G ⟨4, xa, xb⟩; rw [hap] at this; have := HEL.out; omega)
        rw [hap] at hdn2
        have HD2 := Lib.hid hdn2
        clear hap hE0 hG2 hdn2 he hlt
        go_wp2_with (refine toList (by rfl) ?_; refine wp_of_reads (rLdRd (f := rv) (x := ⟨4, xa, xb⟩) (HR.out _ hS.drop) (rv_len l) _ _ (by rfl) _ (by rfl) (agOf (by rfl)) i 0 (by omega) HX.out (by rfl) (by omega)) ?_)
        refine regStart [11] hS (by kernel_rfl) rfl ?_
        intro w1 hS1
        clear hS; have hS := hS1; clear hS1
        (refine regP 0 hS (fun _ h => h) rfl (by kernel_rfl) (by kernel_rfl) (by kernel_rfl) (fun _ _ _ _ h => h) (by rfl) (by rfl) ?_; apply Exists.intro; apply And.intro; (intro w; go_simp; try with_reducible rfl); (simp only [Act.put, List.setIfInBounds_toArray, List.set_cons_zero, List.set_cons_succ]))
        (refine regP 1 hS (fun _ h => h) rfl (by kernel_rfl) (by kernel_rfl) (by kernel_rfl) (fun _ _ _ _ h => h) (by rfl) (by rfl) ?_; apply Exists.intro; apply And.intro; (intro w; go_simp; try with_reducible rfl); (simp only [Act.put, List.setIfInBounds_toArray, List.set_cons_zero, List.set_cons_succ]))
        (refine regP 2 hS (fun _ h => h) rfl (by kernel_rfl) (by kernel_rfl) (by kernel_rfl) (fun _ _ _ _ h => h) (by rfl) (by rfl) ?_; apply Exists.intro; apply And.intro; (intro w; go_simp; try with_reducible rfl); (simp only [Act.put, List.setIfInBounds_toArray, List.set_cons_zero, List.set_cons_succ]))
        (refine regP 3 hS (fun _ h => h) rfl (by kernel_rfl) (by kernel_rfl) (by kernel_rfl) (fun _ _ _ _ h => h) (by rfl) (by rfl) ?_; apply Exists.intro; apply And.intro; (intro w; go_simp; try with_reducible rfl); (simp only [Act.put, List.setIfInBounds_toArray, List.set_cons_zero, List.set_cons_succ]))
        (refine regP 4 hS (fun _ h => h) rfl (by kernel_rfl) (by kernel_rfl) (by kernel_rfl) (fun _ _ _ _ h => h) (by rfl) (by rfl) ?_; apply Exists.intro; apply And.intro; (intro w; go_simp; try with_reducible rfl); (simp only [Act.put, List.setIfInBounds_toArray, List.set_cons_zero, List.set_cons_succ]))
        (refine regR 5 hS (fun _ h => h) rfl (by kernel_rfl) (by kernel_rfl) (by kernel_rfl) (by kernel_rfl) (by kernel_rfl) (fun _ _ _ _ h => h) (by rfl) (by rfl) ?_; (first
                          | refine ⟨_, fun u hu => rLdRd (f := rv) (x := ⟨4, xa, xb⟩) (HR.out _ hu.drop) (rv_len l) _ _ (by rfl) _ (by rfl) (agOf (by rfl)) i 1 (by omega) HX.out (by rfl) (by omega), ?_⟩
                          | refine ⟨_, fun u hu => rLdRd (f := rv) (x := ⟨4, xa, xb⟩) (HR.out _ hu.drop) (rv_len l) _ _ (by rfl) _ (by rfl) (agOf (by rfl)) i 2 (by omega) HX.out (by rfl) (by omega), ?_⟩); (simp only [Act.put, List.setIfInBounds_toArray, List.set_cons_zero, List.set_cons_succ]))
        (refine regP 6 hS (fun _ h => h) rfl (by kernel_rfl) (by kernel_rfl) (by kernel_rfl) (fun _ _ _ _ h => h) (by rfl) (by rfl) ?_; apply Exists.intro; apply And.intro; (intro w; go_simp; try with_reducible rfl); (simp only [Act.put, List.setIfInBounds_toArray, List.set_cons_zero, List.set_cons_succ]))
        (refine regP 7 hS (fun _ h => h) rfl (by kernel_rfl) (by kernel_rfl) (by kernel_rfl) (fun _ _ _ _ h => h) (by rfl) (by rfl) ?_; apply Exists.intro; apply And.intro; (intro w; go_simp; try with_reducible rfl); (simp only [Act.put, List.setIfInBounds_toArray, List.set_cons_zero, List.set_cons_succ]))
        (refine regP 8 hS (fun _ h => h) rfl (by kernel_rfl) (by kernel_rfl) (by kernel_rfl) (fun _ _ _ _ h => h) (by rfl) (by rfl) ?_; apply Exists.intro; apply And.intro; (intro w; go_simp; try with_reducible rfl); (simp only [Act.put, List.setIfInBounds_toArray, List.set_cons_zero, List.set_cons_succ]))
        (refine regP 9 hS (fun _ h => h) rfl (by kernel_rfl) (by kernel_rfl) (by kernel_rfl) (fun _ _ _ _ h => h) (by rfl) (by rfl) ?_; apply Exists.intro; apply And.intro; (intro w; go_simp; try with_reducible rfl); (simp only [Act.put, List.setIfInBounds_toArray, List.set_cons_zero, List.set_cons_succ]))
        (refine regR 10 hS (fun _ h => h) rfl (by kernel_rfl) (by kernel_rfl) (by kernel_rfl) (by kernel_rfl) (by kernel_rfl) (fun _ _ _ _ h => h) (by rfl) (by rfl) ?_; (first
                          | refine ⟨_, fun u hu => rLdRd (f := rv) (x := ⟨4, xa, xb⟩) (HR.out _ hu.drop) (rv_len l) _ _ (by rfl) _ (by rfl) (agOf (by rfl)) i 1 (by omega) HX.out (by rfl) (by omega), ?_⟩
                          | refine ⟨_, fun u hu => rLdRd (f := rv) (x := ⟨4, xa, xb⟩) (HR.out _ hu.drop) (rv_len l) _ _ (by rfl) _ (by rfl) (agOf (by rfl)) i 2 (by omega) HX.out (by rfl) (by omega), ?_⟩); (simp only [Act.put, List.setIfInBounds_toArray, List.set_cons_zero, List.set_cons_succ]))
        (refine regA 11 rfl (by kernel_rfl) (by rfl) (by rfl) true (by kernel_rfl) (fun K hK => ?_); (refine Go.Sep.cl 38 _ _ (by rfl) (by rfl) (by kernel_rfl) (HA.out _ _ hS) ?_; rintro e w1 ⟨rfl, hS1⟩; clear hS; have hS := hS1; clear hS1; refine ⟨_, rfl, ?_⟩); refine hK _ _ _ hS (by first | (intro h; cases h; done) | exact fun _ _ h => h | exact fun _ _ h => h.drop | exact fun _ _ h => h.drop.drop | exact fun _ _ h => h.drop.pull1 | exact fun _ _ h => h.take2 | exact fun _ _ h => h.one Has.z | exact fun _ _ h => h.one (Has.s Has.z) | exact fun _ _ h => h.one (Has.s (Has.s Has.z))) ?_; clear hK K; (simp only [Act.put, List.setIfInBounds_toArray, List.set_cons_zero, List.set_cons_succ]))
        (refine regP 12 hS (fun _ h => h) rfl (by kernel_rfl) (by kernel_rfl) (by kernel_rfl) (fun _ _ _ _ h => h) (by rfl) (by rfl) ?_; apply Exists.intro; apply And.intro; (intro w; go_simp; try with_reducible rfl); (simp only [Act.put, List.setIfInBounds_toArray, List.set_cons_zero, List.set_cons_succ]))
        refine regDone (by kernel_rfl) ?_
        go_wp2
        exact ⟨⟨i + 1, G2, by go_num, HLT.out, HOK2.out, HE2.out, HD2.out, hS⟩, by simp [intOf]; have := HLT.out; omega⟩
      · obtain ⟨G2, hG2⟩ : ∃ G2, G.lostG xa xb = G2 := ⟨_, rfl⟩
        have hap : G.apG ⟨5, xa, xb⟩ = G2 := by unfold Gr.apG; simp [hG2]
        have hE0 : lostE G xa xb = 0 := by unfold Gr.apE at he; simpa using he
        have HA := Lib.hid (fun w (L : List Asrt) (h2 : Sat W w (IsG p G :: L)) => by have := lost_any h2 xa xb (by have := HOK.out.len; omega); rw [hE0, hG2] at this; exact this)
        have HOK2 := Lib.hid (show G2.Ok by rw [← hap]; exact Gr.apG_ok HOK.out (by have := HEL.out; omega) _)
        have HE2 := Lib.hid (show G2.E.length ≤ i + 1 by have := Gr.apG_E G ⟨5, xa, xb⟩; rw [hap] at this; have := HEL.out; omega)
        rw [hap] at hdn2
        have HD2 := Lib.hid hdn2
        clear hap hE0 hG2 hdn2 he hlt
        go_wp2_with (refine toList (by rfl) ?_; refine wp_of_reads (rLdRd (f := rv) (x := ⟨5, xa, xb⟩) (HR.out _ hS.drop) (rv_len l) _ _ (by rfl) _ (by rfl) (agOf (by rfl)) i 0 (by omega) HX.out (by rfl) (by omega)) ?_)
        refine regStart [11] hS (by kernel_rfl) rfl ?_
        intro w1 hS1
        clear hS; have hS := hS1; clear hS1
        (refine regP 0 hS (fun _ h => h) rfl (by kernel_rfl) (by kernel_rfl) (by kernel_rfl) (fun _ _ _ _ h => h) (by rfl) (by rfl) ?_; apply Exists.intro; apply And.intro; (intro w; go_simp; try with_reducible rfl); (simp only [Act.put, List.setIfInBounds_toArray, List.set_cons_zero, List.set_cons_succ]))
        (refine regP 1 hS (fun _ h => h) rfl (by kernel_rfl) (by kernel_rfl) (by kernel_rfl) (fun _ _ _ _ h => h) (by rfl) (by rfl) ?_; apply Exists.intro; apply And.intro; (intro w; go_simp; try with_reducible rfl); (simp only [Act.put, List.setIfInBounds_toArray, List.set_cons_zero, List.set_cons_succ]))
        (refine regP 2 hS (fun _ h => h) rfl (by kernel_rfl) (by kernel_rfl) (by kernel_rfl) (fun _ _ _ _ h => h) (by rfl) (by rfl) ?_; apply Exists.intro; apply And.intro; (intro w; go_simp; try with_reducible rfl); (simp only [Act.put, List.setIfInBounds_toArray, List.set_cons_zero, List.set_cons_succ]))
        (refine regP 3 hS (fun _ h => h) rfl (by kernel_rfl) (by kernel_rfl) (by kernel_rfl) (fun _ _ _ _ h => h) (by rfl) (by rfl) ?_; apply Exists.intro; apply And.intro; (intro w; go_simp; try with_reducible rfl); (simp only [Act.put, List.setIfInBounds_toArray, List.set_cons_zero, List.set_cons_succ]))
        (refine regP 4 hS (fun _ h => h) rfl (by kernel_rfl) (by kernel_rfl) (by kernel_rfl) (fun _ _ _ _ h => h) (by rfl) (by rfl) ?_; apply Exists.intro; apply And.intro; (intro w; go_simp; try with_reducible rfl); (simp only [Act.put, List.setIfInBounds_toArray, List.set_cons_zero, List.set_cons_succ]))
        (refine regR 5 hS (fun _ h => h) rfl (by kernel_rfl) (by kernel_rfl) (by kernel_rfl) (by kernel_rfl) (by kernel_rfl) (fun _ _ _ _ h => h) (by rfl) (by rfl) ?_; (first
                          | refine ⟨_, fun u hu => rLdRd (f := rv) (x := ⟨5, xa, xb⟩) (HR.out _ hu.drop) (rv_len l) _ _ (by rfl) _ (by rfl) (agOf (by rfl)) i 1 (by omega) HX.out (by rfl) (by omega), ?_⟩
                          | refine ⟨_, fun u hu => rLdRd (f := rv) (x := ⟨5, xa, xb⟩) (HR.out _ hu.drop) (rv_len l) _ _ (by rfl) _ (by rfl) (agOf (by rfl)) i 2 (by omega) HX.out (by rfl) (by omega), ?_⟩); (simp only [Act.put, List.setIfInBounds_toArray, List.set_cons_zero, List.set_cons_succ]))
        (refine regP 6 hS (fun _ h => h) rfl (by kernel_rfl) (by kernel_rfl) (by kernel_rfl) (fun _ _ _ _ h => h) (by rfl) (by rfl) ?_; apply Exists.intro; apply And.intro; (intro w; go_simp; try with_reducible rfl); (simp only [Act.put, List.setIfInBounds_toArray, List.set_cons_zero, List.set_cons_succ]))
        (refine regP 7 hS (fun _ h => h) rfl (by kernel_rfl) (by kernel_rfl) (by kernel_rfl) (fun _ _ _ _ h => h) (by rfl) (by rfl) ?_; apply Exists.intro; apply And.intro; (intro w; go_simp; try with_reducible rfl); (simp only [Act.put, List.setIfInBounds_toArray, List.set_cons_zero, List.set_cons_succ]))
        (refine regP 8 hS (fun _ h => h) rfl (by kernel_rfl) (by kernel_rfl) (by kernel_rfl) (fun _ _ _ _ h => h) (by rfl) (by rfl) ?_; apply Exists.intro; apply And.intro; (intro w; go_simp; try with_reducible rfl); (simp only [Act.put, List.setIfInBounds_toArray, List.set_cons_zero, List.set_cons_succ]))
        (refine regP 9 hS (fun _ h => h) rfl (by kernel_rfl) (by kernel_rfl) (by kernel_rfl) (fun _ _ _ _ h => h) (by rfl) (by rfl) ?_; apply Exists.intro; apply And.intro; (intro w; go_simp; try with_reducible rfl); (simp only [Act.put, List.setIfInBounds_toArray, List.set_cons_zero, List.set_cons_succ]))
        (refine regR 10 hS (fun _ h => h) rfl (by kernel_rfl) (by kernel_rfl) (by kernel_rfl) (by kernel_rfl) (by kernel_rfl) (fun _ _ _ _ h => h) (by rfl) (by rfl) ?_; (first
                          | refine ⟨_, fun u hu => rLdRd (f := rv) (x := ⟨5, xa, xb⟩) (HR.out _ hu.drop) (rv_len l) _ _ (by rfl) _ (by rfl) (agOf (by rfl)) i 1 (by omega) HX.out (by rfl) (by omega), ?_⟩
                          | refine ⟨_, fun u hu => rLdRd (f := rv) (x := ⟨5, xa, xb⟩) (HR.out _ hu.drop) (rv_len l) _ _ (by rfl) _ (by rfl) (agOf (by rfl)) i 2 (by omega) HX.out (by rfl) (by omega), ?_⟩); (simp only [Act.put, List.setIfInBounds_toArray, List.set_cons_zero, List.set_cons_succ]))
        (refine regA 11 rfl (by kernel_rfl) (by rfl) (by rfl) true (by kernel_rfl) (fun K hK => ?_); (refine Go.Sep.cl 39 _ _ (by rfl) (by rfl) (by kernel_rfl) (HA.out _ _ hS) ?_; rintro e w1 ⟨rfl, hS1⟩; clear hS; have hS := hS1; clear hS1; refine ⟨_, rfl, ?_⟩); refine hK _ _ _ hS (by first | (intro h; cases h; done) | exact fun _ _ h => h | exact fun _ _ h => h.drop | exact fun _ _ h => h.drop.drop | exact fun _ _ h => h.drop.pull1 | exact fun _ _ h => h.take2 | exact fun _ _ h => h.one Has.z | exact fun _ _ h => h.one (Has.s Has.z) | exact fun _ _ h => h.one (Has.s (Has.s Has.z))) ?_; clear hK K; (simp only [Act.put, List.setIfInBounds_toArray, List.set_cons_zero, List.set_cons_succ]))
        (refine regP 12 hS (fun _ h => h) rfl (by kernel_rfl) (by kernel_rfl) (by kernel_rfl) (fun _ _ _ _ h => h) (by rfl) (by rfl) ?_; apply Exists.intro; apply And.intro; (intro w; go_simp; try with_reducible rfl); (simp only [Act.put, List.setIfInBounds_toArray, List.set_cons_zero, List.set_cons_succ]))
        refine regDone (by kernel_rfl) ?_
        go_wp2
        exact ⟨⟨i + 1, G2, by go_num, HLT.out, HOK2.out, HE2.out, HD2.out, hS⟩, by simp [intOf]; have := HLT.out; omega⟩
    · have j1 : ¬ (i : Int) < (l.length : Int) := by omega
      rw [List.drop_eq_nil_of_le (by omega)] at hdn
      obtain rfl : G = H := Option.some.inj hdn
      clear hdn hlt
      go_wp2
      go_ret3
      exact ⟨p, rfl, hS⟩
theorem edgesR_snoc {n : Nat} {u : List Nat} {j y : Nat} (h : u[j]? = some y) : edgesR n (u.take (j + 1)) = edgesR n (u.take j) ++ [⟨2, n, y⟩] := by
  unfold edgesR
  rw [List.take_add_one, h, List.map_append]; rfl
theorem repN_snoc {G : Gr} {i : Nat} {x : NodeD} (h : G.N[i]? = some x) : G.repN.take (i + 1) = G.repN.take i ++ [⟨1, x.kind, x.obj⟩] := by
  unfold Gr.repN
  rw [List.take_add_one, List.getElem?_map, h]; rfl
set_option maxRecDepth 20000 in
set_option maxHeartbeats 4000000 in
theorem replay_any {W w : World} {L : List Asrt} {p : Nat} {G : Gr} (hS : Sat W w (IsG p G :: L)) (hG : G.Ok) (hn : G.N.length ≤ 300) :
    Calls Tryz.prog 17 #[.pointer (some ⟨p, 0, none⟩)] w fun e w' => ∃ v, e = .returned v ∧ Sat W w' (Tb 64 3 rv v G.replay :: IsG p G :: L) := by
  have HG := Lib.hid hG
  obtain ⟨N, hN⟩ : ∃ N, G.N.length = N := ⟨_, rfl⟩
  have HL := Lib.hid (fun w (L : List Asrt) (h2 : Sat W w (IsG p G :: L)) => len_any h2 (n := (N : Int)) (by rw [hN]))
  rw [hN] at hn
  have hni : (N : Int) ≤ 300 := by omega
  have HN := Lib.hid hN
  clear hG hN
  have H0 := Lib.hid (hS.tbNil (α := RecD) (f := rv) (E := 64) (sz := 3))
  go_enter Tryz.func17, Tryz.ntmps17
  go_wp2
  go_loopw [3, 4] (fun v3 v4 wz => ∃ i : Nat, v4 = .int .i64 i ∧ i ≤ N ∧ Sat W wz (Tb 64 3 rv v3 (G.repN.take i) :: IsG p G :: L)) (fun _ v _ => N - (intOf v).toNat)
  case atStart => exact ⟨0, rfl, by omega, H0.out⟩
  case round =>
    clear hS H0
    obtain ⟨i, rfl, hi, hS⟩ := hrel
    by_cases hl : i < N
    · have k1 : (i : Int) < (N : Int) := by omega
      have HLT := Lib.hid hl
      obtain ⟨⟨x1, x2, x3, x4, x5, x6⟩, hx⟩ : ∃ x, G.N[i]? = some x := ⟨_, List.getElem?_eq_getElem (by have := HN.out; omega)⟩
      have HND := Lib.hid (fun w (L : List Asrt) (h2 : Sat W w (IsG p G :: L)) => (show Calls Tryz.prog 41 #[.pointer (some ⟨p, 0, none⟩), .int .i64 (i : Int)] w fun e w' => e = .returned (.tuple #[.agg #[.int .i64 x1, .int .i64 x2, .int .i64 (x3 : Int), .int .i64 (x4 : Int), .int .i64 (x5 : Int), .bool x6], .bool true]) ∧ Sat W w' (IsG p G :: L) by
        have := node_any h2 (i : Int)
        rw [Gr.is_mk (by have := HN.out; omega), Gr.nodeI_at hx] at this
        exact this))
      have hsn := repN_snoc hx
      dsimp only at hsn
      have hrl : (G.repN.take i).length ≤ 300 := by rw [List.length_take]; omega
      obtain ⟨R0, hR0⟩ : ∃ R0, G.repN.take i = R0 := ⟨_, rfl⟩
      rw [hR0] at hsn hrl hS
      have HSN := Lib.hid hsn
      obtain ⟨av, cv0, rfl, hcv⟩ := hS.tbShape (k := 0) rfl
      clear hx hl hi hsn hR0
      go_wp2_with (first
        | (go_at_call 20; refine (HL.out _ _ (hS.re [1])).mono ?_; rintro e w1 ⟨rfl, rfl⟩)
        | (go_at_call 41; refine (HND.out _ _ (hS.re [1])).mono ?_; rintro e w1 ⟨rfl, hS1⟩; clear hS; have hS := hS1; clear hS1)
        | (refine toList (by rfl) ?_; refine al hS _ (by rfl) (zrOf (by rfl)) ?_; intro px w1 hS1; clear hS; have hS := hS1; clear hS1; rw [cells_agg] at hS)
        | (refine toList (by rfl) ?_; refine stW hS _ _ _ (by rfl) (by rfl) [.int .i64 x1, .int .i64 x2, .int .i64 (x3 : Int), .int .i64 (x4 : Int), .int .i64 (x5 : Int), .bool x6] (by rfl) (by simp [Value.oneCell']) (szOf (by rfl)) Has.z rfl ?_; intro w1 hS1; clear hS; have hS := hS1; clear hS1; dsimp only [List.set_cons_zero] at hS)
        | (refine toList (by rfl) ?_; refine ld hS _ _ (by rfl) _ _ (by rfl) (agOf (by rfl)) (by first | exact Has.z | exact Has.s Has.z | exact Has.s (Has.s Has.z) | exact Has.s (Has.s (Has.s Has.z)) | exact Has.s (Has.s (Has.s (Has.s Has.z))) | exact Has.s (Has.s (Has.s (Has.s (Has.s Has.z))))) (by rfl) ?_)
        | (refine toList (by rfl) ?_; refine bsF hS _ _ _ (by rfl) (elOf (by rfl)) [.agg (rv (⟨1, x1, x2⟩ : RecD)).toArray] (by rfl) (by rfl) (by decide) (by decide) (by intro v hv; rw [List.mem_singleton.1 hv]; rfl) ?_; intro b1 w1 hS1; clear hS; have hS := hS1; clear hS1; rw [agg1] at hS)
        | (refine toList (by rfl) ?_; refine apTbS (f := rv) hS _ _ _ _ (by rfl) _ _ (by rfl) (by rfl) (elOf (by rfl)) (by rfl) (by decide) (inOf (by rfl)) (by first | exact Has.z | exact Has.s Has.z | exact Has.s (Has.s Has.z) | exact Has.s (Has.s (Has.s Has.z)) | exact Has.s (Has.s (Has.s (Has.s Has.z))) | exact Has.s (Has.s (Has.s (Has.s (Has.s Has.z))))) [(⟨1, x1, x2⟩ : RecD)] (by exact rv_len _) (by exact hS.src1 (f := rv) Has.z rfl) (by exact rv_one _) (by simp; omega) (by simp; omega) ?_; intro ao5 c5 w1 hcap5 hS1; clear hS; have hS := hS1; clear hS1; dsimp only [List.set_cons_zero, List.set_cons_succ] at hS))
      have h9 := hS.drop.drop
      rw [List.length_append] at h9
      exact ⟨⟨i + 1, by go_num, HLT.out, by rw [HSN.out]; exact h9.pull1⟩, by simp [intOf]; have := HLT.out; omega⟩
    · obtain rfl : N = i := by omega
      have k1 : ¬ (N : Int) < (N : Int) := by omega
      rw [List.take_of_length_le (by unfold Gr.repN; rw [List.length_map]; have := HN.out; omega)] at hS
      have H1 := Lib.hid (show Sat W _ (Tb 64 3 rv _ (G.repN ++ G.repE 0) :: IsG p G :: L) by rw [show G.repE 0 = [] from rfl, List.append_nil]; exact hS)
      clear hl hi
      go_wp2_with (first
        | (go_at_call 20; refine (HL.out _ _ (hS.re [1])).mono ?_; rintro e w1 ⟨rfl, rfl⟩))
      go_loopw [3, 7] (fun v3 v7 wz => ∃ n : Nat, v7 = .int .i64 n ∧ n ≤ N ∧ Sat W wz (Tb 64 3 rv v3 (G.repN ++ G.repE n) :: IsG p G :: L)) (fun _ v _ => N - (intOf v).toNat)
      case atStart => exact ⟨0, rfl, by omega, H1.out⟩
      case round =>
        clear hS H1
        obtain ⟨n, rfl, hnn, hS⟩ := hrel
        by_cases hl : n < N
        · have k2 : (n : Int) < (N : Int) := by omega
          have HLT := Lib.hid hl
          obtain ⟨⟨x1, x2, x3, x4, x5, x6⟩, hx⟩ : ∃ x, G.N[n]? = some x := ⟨_, List.getElem?_eq_getElem (by have := HN.out; omega)⟩
          have hmk := HG.out.marks _ (List.mem_of_getElem? hx)
          dsimp only at hmk
          have HND := Lib.hid (fun w (L : List Asrt) (h2 : Sat W w (IsG p G :: L)) => (show Calls Tryz.prog 41 #[.pointer (some ⟨p, 0, none⟩), .int .i64 (n : Int)] w fun e w' => e = .returned (.tuple #[.agg #[.int .i64 x1, .int .i64 x2, .int .i64 (x3 : Int), .int .i64 (x4 : Int), .int .i64 (x5 : Int), .bool x6], .bool true]) ∧ Sat W w' (IsG p G :: L) by
            have := node_any h2 (n : Int)
            rw [Gr.is_mk (by have := HN.out; omega), Gr.nodeI_at hx] at this
            exact this))
          have hru : G.repE (n + 1) = G.repE n ++ (edgesR n (G.ups n) ++ (bitsR n ⟨x1, x2, x3, x4, x5, x6⟩ 8 ++ lostR n ⟨x1, x2, x3, x4, x5, x6⟩)) := by
            show G.repE n ++ (edgesR n (G.ups n) ++ (bitsR n (G.nodeI n) 8 ++ lostR n (G.nodeI n))) = _
            rw [Gr.nodeI_at hx]
          have HU := Lib.hid (fun w (L : List Asrt) (h2 : Sat W w (IsG p G :: L)) => by have := ups_any h2 (n : Int) (by have := HN.out; omega); rw [Gr.upsI_nat (by have := HN.out; omega)] at this; exact this)
          obtain ⟨u, hu⟩ : ∃ u, G.ups n = u := ⟨_, rfl⟩
          have hul : u.length ≤ 300 := by rw [← hu]; have := G.ups_len n; have := HN.out; omega
          have hrl : (G.repN ++ G.repE n).length ≤ 300 + 300 * 317 := by
            rw [List.length_append]
            have h1 : G.repN.length ≤ 300 := by unfold Gr.repN; rw [List.length_map]; have := HN.out; omega
            have h2 := G.repE_len n
            have h3 : n * (G.N.length + 17) ≤ 300 * 317 := Nat.mul_le_mul (by omega) (by have := HN.out; omega)
            omega
          obtain ⟨R0, hR0⟩ : ∃ R0, G.repN ++ G.repE n = R0 := ⟨_, rfl⟩
          rw [hu] at hru HU
          have HRU := Lib.hid (show G.repN ++ G.repE (n + 1) = R0 ++ edgesR n u ++ bitsR n ⟨x1, x2, x3, x4, x5, x6⟩ 8 ++ lostR n ⟨x1, x2, x3, x4, x5, x6⟩ by rw [hru, ← hR0]; simp only [List.append_assoc])
          rw [hR0] at hrl hS
          clear hx hl hnn hru hR0 hu
          go_wp2_with (first
            | (go_at_call 20; refine (HL.out _ _ (hS.re [1])).mono ?_; rintro e w1 ⟨rfl, rfl⟩)
            | (go_at_call 41; refine (HND.out _ _ (hS.re [1])).mono ?_; rintro e w1 ⟨rfl, hS1⟩; clear hS; have hS := hS1; clear hS1)
            | (refine toList (by rfl) ?_; refine al hS _ (by rfl) (zrOf (by rfl)) ?_; intro px w1 hS1; clear hS; have hS := hS1; clear hS1; rw [cells_agg] at hS)
            | (refine toList (by rfl) ?_; refine stW hS _ _ _ (by rfl) (by rfl) [.int .i64 x1, .int .i64 x2, .int .i64 (x3 : Int), .int .i64 (x4 : Int), .int .i64 (x5 : Int), .bool x6] (by rfl) (by simp [Value.oneCell']) (szOf (by rfl)) Has.z rfl ?_; intro w1 hS1; clear hS; have hS := hS1; clear hS1; dsimp only [List.set_cons_zero] at hS))
          go_wp2_with (first
            | (go_at_call 43; refine (HU.out _ _ (hS.re [1])).mono ?_; rintro e w1 ⟨vu, rfl, hS1⟩; clear hS; have hS := hS1; clear hS1; obtain ⟨au, cu, rfl, hcu⟩ := hS.irShape (k := 0) rfl; replace hS := hS.re [3, 1, 0, 2]))
          have H2 := Lib.hid (show Sat W _ (Tb 64 3 rv _ (R0 ++ edgesR n (u.take 0)) :: _) by rw [show edgesR n (u.take 0) = [] from rfl, List.append_nil]; exact hS)
          go_loopw [3, 11] (fun v3 v11 wz => ∃ j : Nat, v11 = .int .i64 j ∧ j ≤ u.length ∧ Sat W wz (Tb 64 3 rv v3 (R0 ++ edgesR n (u.take j)) :: IsG p G :: Ir (.slice au u.length cu) u :: Cs px 71 [.int .i64 x1, .int .i64 x2, .int .i64 (x3 : Int), .int .i64 (x4 : Int), .int .i64 (x5 : Int), .bool x6] :: L)) (fun _ v _ => u.length - (intOf v).toNat)
          case atStart => exact ⟨0, rfl, by omega, H2.out⟩
          case round =>
            clear hS H2
            obtain ⟨j, rfl, hj, hS⟩ := hrel
            by_cases hl2 : j < u.length
            · have k3 : (j : Int) < (u.length : Int) := by omega
              have HLT2 := Lib.hid hl2
              obtain ⟨y, hy⟩ : ∃ y, u[j]? = some y := ⟨_, List.getElem?_eq_getElem hl2⟩
              have hsn := edgesR_snoc (n := n) hy
              have hel : (R0 ++ edgesR n (u.take j)).length ≤ 96000 := by rw [List.length_append, edgesR_len, List.length_take]; omega
              have hsn2 : R0 ++ edgesR n (u.take (j + 1)) = (R0 ++ edgesR n (u.take j)) ++ [⟨2, n, y⟩] := by rw [hsn, List.append_assoc]
              obtain ⟨R1, hR1⟩ : ∃ R1, R0 ++ edgesR n (u.take j) = R1 := ⟨_, rfl⟩
              rw [hR1] at hsn2 hel hS
              have HSN := Lib.hid hsn2
              have HY := Lib.hid hy
              obtain ⟨av, cv0, rfl, hcv⟩ := hS.tbShape (k := 0) rfl
              obtain ⟨bu, ou, rfl⟩ := hS.irAddr (k := 2) rfl rfl (by omega)
              clear hl2 hj hy hsn hsn2 hR1 hrl
              go_wp2_with (first
                | (refine toList (by rfl) ?_; refine ldSl hS _ _ (by rfl) _ _ (by rfl) (agOf (by rfl)) (Has.s (Has.s Has.z)) j (by omega) (iv_at HY.out) ?_)
                | (refine toList (by rfl) ?_; refine bsF hS _ _ _ (by rfl) (elOf (by rfl)) [.agg (rv (⟨2, (n : Int), (y : Int)⟩ : RecD)).toArray] (by rfl) (by rfl) (by decide) (by decide) (by intro v hv; rw [List.mem_singleton.1 hv]; rfl) ?_; intro b1 w1 hS1; clear hS; have hS := hS1; clear hS1; rw [agg1] at hS)
                | (refine toList (by rfl) ?_; refine apTbS (f := rv) hS _ _ _ _ (by rfl) _ _ (by rfl) (by rfl) (elOf (by rfl)) (by rfl) (by decide) (inOf (by rfl)) (by first | exact Has.z | exact Has.s Has.z | exact Has.s (Has.s Has.z) | exact Has.s (Has.s (Has.s Has.z)) | exact Has.s (Has.s (Has.s (Has.s Has.z))) | exact Has.s (Has.s (Has.s (Has.s (Has.s Has.z))))) [(⟨2, (n : Int), (y : Int)⟩ : RecD)] (by exact rv_len _) (by exact hS.src1 (f := rv) Has.z rfl) (by exact rv_one _) (by simp; omega) (by simp; omega) ?_; intro ao5 c5 w1 hcap5 hS1; clear hS; have hS := hS1; clear hS1; dsimp only [List.set_cons_zero, List.set_cons_succ] at hS))
              have h9 := hS.drop
              rw [List.length_append] at h9
              exact ⟨⟨j + 1, by go_num, HLT2.out, by rw [HSN.out]; exact h9⟩, by simp [intOf]; have := HLT2.out; omega⟩
            · have k3 : ¬ (j : Int) < (u.length : Int) := by omega
              rw [List.take_of_length_le (by omega)] at hS
              have hel : (R0 ++ edgesR n u).length ≤ 96000 := by rw [List.length_append, edgesR_len]; omega
              obtain ⟨R1, hR1⟩ : ∃ R1, R0 ++ edgesR n u = R1 := ⟨_, rfl⟩
              rw [hR1] at HRU hel hS
              clear hl2 hj hR1 hrl
              go_wp2
              have H3 := Lib.hid (show Sat W _ (Tb 64 3 rv _ (R1 ++ bitsR n ⟨x1, x2, x3, x4, x5, x6⟩ 0) :: _) by rw [show bitsR n ⟨x1, x2, x3, x4, x5, x6⟩ 0 = [] from rfl, List.append_nil]; exact hS)
              go_loopw [3, 12] (fun v3 v12 wz => ∃ s : Nat, v12 = .int .i64 s ∧ s ≤ 8 ∧ Sat W wz (Tb 64 3 rv v3 (R1 ++ bitsR n ⟨x1, x2, x3, x4, x5, x6⟩ s) :: IsG p G :: Ir (.slice au u.length cu) u :: Cs px 71 [.int .i64 x1, .int .i64 x2, .int .i64 (x3 : Int), .int .i64 (x4 : Int), .int .i64 (x5 : Int), .bool x6] :: L)) (fun _ v _ => 8 - (intOf v).toNat)
              case atStart => exact ⟨0, rfl, by omega, H3.out⟩
              case round =>
                clear hS H3
                obtain ⟨s, rfl, hs8, hS⟩ := hrel
                have hbl : (R1 ++ bitsR n ⟨x1, x2, x3, x4, x5, x6⟩ s).length ≤ 96100 := by have := bitsR_len n ⟨x1, x2, x3, x4, x5, x6⟩ s; rw [List.length_append]; omega
                by_cases hl3 : s < 8
                · have k4 : (s : Int) < 8 := by omega
                  have HLT3 := Lib.hid hl3
                  have hsn : R1 ++ bitsR n ⟨x1, x2, x3, x4, x5, x6⟩ (s + 1) = (R1 ++ bitsR n ⟨x1, x2, x3, x4, x5, x6⟩ s) ++ bitR n ⟨x1, x2, x3, x4, x5, x6⟩ s := by rw [List.append_assoc]; rfl
                  have hand4 := and_one x4 s hmk.1
                  have hand5 := and_one x5 s hmk.2
                  obtain ⟨R2, hR2⟩ : ∃ R2, R1 ++ bitsR n ⟨x1, x2, x3, x4, x5, x6⟩ s = R2 := ⟨_, rfl⟩
                  rw [hR2] at hsn hS hbl
                  unfold bitR at hsn
                  dsimp only at hsn
                  obtain ⟨av, cv0, rfl, hcv⟩ := hS.tbShape (k := 0) rfl
                  clear hl3 hR2
                  cases hb4 : x4.testBit s <;> cases hb5 : x5.testBit s <;> rw [hb4] at hsn hand4 <;> rw [hb5] at hsn hand5 <;> simp only [if_true, Bool.false_eq_true, if_false, List.append_nil, List.nil_append] at hsn hand4 hand5
                  · have HSN := Lib.hid hsn
                    clear hsn hb4 hb5
                    go_wp2_with (first
                      | (refine toList (by rfl) ?_; refine ld hS _ _ (by rfl) _ _ (by rfl) (agOf (by rfl)) (by first | exact Has.z | exact Has.s Has.z | exact Has.s (Has.s Has.z) | exact Has.s (Has.s (Has.s Has.z)) | exact Has.s (Has.s (Has.s (Has.s Has.z))) | exact Has.s (Has.s (Has.s (Has.s (Has.s Has.z))))) (by rfl) ?_))
                    exact ⟨⟨s + 1, by go_num, HLT3.out, by rw [HSN.out]; exact hS⟩, by simp [intOf]; have := HLT3.out; omega⟩
                  · have HSN := Lib.hid hsn
                    clear hsn hb4 hb5
                    go_wp2_with (first
                      | (refine toList (by rfl) ?_; refine ld hS _ _ (by rfl) _ _ (by rfl) (agOf (by rfl)) (by first | exact Has.z | exact Has.s Has.z | exact Has.s (Has.s Has.z) | exact Has.s (Has.s (Has.s Has.z)) | exact Has.s (Has.s (Has.s (Has.s Has.z))) | exact Has.s (Has.s (Has.s (Has.s (Has.s Has.z))))) (by rfl) ?_)
                      | (refine toList (by rfl) ?_; refine bsF hS _ _ _ (by rfl) (elOf (by rfl)) [.agg (rv (⟨4, (n : Int), (s : Int)⟩ : RecD)).toArray] (by rfl) (by rfl) (by decide) (by decide) (by intro v hv; rw [List.mem_singleton.1 hv]; rfl) ?_; intro b1 w1 hS1; clear hS; have hS := hS1; clear hS1; rw [agg1] at hS)
                      | (refine toList (by rfl) ?_; refine apTbS (f := rv) hS _ _ _ _ (by rfl) _ _ (by rfl) (by rfl) (elOf (by rfl)) (by rfl) (by decide) (inOf (by rfl)) (by first | exact Has.z | exact Has.s Has.z | exact Has.s (Has.s Has.z) | exact Has.s (Has.s (Has.s Has.z)) | exact Has.s (Has.s (Has.s (Has.s Has.z))) | exact Has.s (Has.s (Has.s (Has.s (Has.s Has.z))))) [(⟨4, (n : Int), (s : Int)⟩ : RecD)] (by exact rv_len _) (by exact hS.src1 (f := rv) Has.z rfl) (by exact rv_one _) (by simp; omega) (by simp; omega) ?_; intro ao5 c5 w1 hcap5 hS1; clear hS; have hS := hS1; clear hS1; dsimp only [List.set_cons_zero, List.set_cons_succ] at hS))
                    have h9 := hS.drop
                    rw [List.length_append] at h9
                    exact ⟨⟨s + 1, by go_num, HLT3.out, by rw [HSN.out]; exact h9⟩, by simp [intOf]; have := HLT3.out; omega⟩
                  · have HSN := Lib.hid hsn
                    clear hsn hb4 hb5
                    go_wp2_with (first
                      | (refine toList (by rfl) ?_; refine ld hS _ _ (by rfl) _ _ (by rfl) (agOf (by rfl)) (by first | exact Has.z | exact Has.s Has.z | exact Has.s (Has.s Has.z) | exact Has.s (Has.s (Has.s Has.z)) | exact Has.s (Has.s (Has.s (Has.s Has.z))) | exact Has.s (Has.s (Has.s (Has.s (Has.s Has.z))))) (by rfl) ?_)
                      | (refine toList (by rfl) ?_; refine bsF hS _ _ _ (by rfl) (elOf (by rfl)) [.agg (rv (⟨3, (n : Int), (s : Int)⟩ : RecD)).toArray] (by rfl) (by rfl) (by decide) (by decide) (by intro v hv; rw [List.mem_singleton.1 hv]; rfl) ?_; intro b1 w1 hS1; clear hS; have hS := hS1; clear hS1; rw [agg1] at hS)
                      | (refine toList (by rfl) ?_; refine apTbS (f := rv) hS _ _ _ _ (by rfl) _ _ (by rfl) (by rfl) (elOf (by rfl)) (by rfl) (by decide) (inOf (by rfl)) (by first | exact Has.z | exact Has.s Has.z | exact Has.s (Has.s Has.z) | exact Has.s (Has.s (Has.s Has.z)) | exact Has.s (Has.s (Has.s (Has.s Has.z))) | exact Has.s (Has.s (Has.s (Has.s (Has.s Has.z))))) [(⟨3, (n : Int), (s : Int)⟩ : RecD)] (by exact rv_len _) (by exact hS.src1 (f := rv) Has.z rfl) (by exact rv_one _) (by simp; omega) (by simp; omega) ?_; intro ao5 c5 w1 hcap5 hS1; clear hS; have hS := hS1; clear hS1; dsimp only [List.set_cons_zero, List.set_cons_succ] at hS))
                    have h9 := hS.drop
                    rw [List.length_append] at h9
                    exact ⟨⟨s + 1, by go_num, HLT3.out, by rw [HSN.out]; exact h9⟩, by simp [intOf]; have := HLT3.out; omega⟩
                  · have HSN := Lib.hid (hsn.trans (show R2 ++ _ = R2 ++ [⟨3, n, s⟩] ++ [⟨4, n, s⟩] by simp))
                    clear hsn hb4 hb5
                    go_wp2_with (first
                      | (refine toList (by rfl) ?_; refine ld hS _ _ (by rfl) _ _ (by rfl) (agOf (by rfl)) (by first | exact Has.z | exact Has.s Has.z | exact Has.s (Has.s Has.z) | exact Has.s (Has.s (Has.s Has.z)) | exact Has.s (Has.s (Has.s (Has.s Has.z))) | exact Has.s (Has.s (Has.s (Has.s (Has.s Has.z))))) (by rfl) ?_)
                      | (refine toList (by rfl) ?_; refine bsF hS _ _ _ (by rfl) (elOf (by rfl)) [.agg (rv (⟨3, (n : Int), (s : Int)⟩ : RecD)).toArray] (by rfl) (by rfl) (by decide) (by decide) (by intro v hv; rw [List.mem_singleton.1 hv]; rfl) ?_; intro b1 w1 hS1; clear hS; have hS := hS1; clear hS1; rw [agg1] at hS)
                      | ((refine toList (by rfl) ?_; refine apTbS (f := rv) hS _ _ _ _ (by rfl) _ _ (by rfl) (by rfl) (elOf (by rfl)) (by rfl) (by decide) (inOf (by rfl)) (by first | exact Has.z | exact Has.s Has.z | exact Has.s (Has.s Has.z) | exact Has.s (Has.s (Has.s Has.z)) | exact Has.s (Has.s (Has.s (Has.s Has.z))) | exact Has.s (Has.s (Has.s (Has.s (Has.s Has.z))))) [(⟨3, (n : Int), (s : Int)⟩ : RecD)] (by exact rv_len _) (by exact hS.src1 (f := rv) Has.z rfl) (by exact rv_one _) (by simp; omega) (by simp; omega) ?_; intro ao5 c5 w1 hcap5 hS1; clear hS; have hS := hS1; clear hS1; dsimp only [List.set_cons_zero, List.set_cons_succ] at hS); rw [List.length_append] at hS)
                      | (refine toList (by rfl) ?_; refine bsF hS _ _ _ (by rfl) (elOf (by rfl)) [.agg (rv (⟨4, (n : Int), (s : Int)⟩ : RecD)).toArray] (by rfl) (by rfl) (by decide) (by decide) (by intro v hv; rw [List.mem_singleton.1 hv]; rfl) ?_; intro b1 w1 hS1; clear hS; have hS := hS1; clear hS1; rw [agg1] at hS)
                      | (refine toList (by rfl) ?_; refine apTbS (f := rv) hS _ _ _ _ (by rfl) _ _ (by rfl) (by rfl) (elOf (by rfl)) (by rfl) (by decide) (inOf (by rfl)) (by first | exact Has.z | exact Has.s Has.z | exact Has.s (Has.s Has.z) | exact Has.s (Has.s (Has.s Has.z)) | exact Has.s (Has.s (Has.s (Has.s Has.z))) | exact Has.s (Has.s (Has.s (Has.s (Has.s Has.z))))) [(⟨4, (n : Int), (s : Int)⟩ : RecD)] (by exact rv_len _) (by exact hS.src1 (f := rv) Has.z rfl) (by exact rv_one _) (by simp; omega) (by simp; omega) ?_; intro ao5 c5 w1 hcap5 hS1; clear hS; have hS := hS1; clear hS1; dsimp only [List.set_cons_zero, List.set_cons_succ] at hS))
                    have h9 := hS.drop.drop
                    rw [List.length_append, List.length_append] at h9
                    exact ⟨⟨s + 1, by go_num, HLT3.out, by rw [HSN.out]; exact h9⟩, by simp [intOf]; have := HLT3.out; omega⟩
                · obtain rfl : s = 8 := by omega
                  have hlo : lostR n ⟨x1, x2, x3, x4, x5, x6⟩ = if x6 then [⟨5, n, n + 1⟩] else [] := rfl
                  obtain ⟨R2, hR2⟩ : ∃ R2, R1 ++ bitsR n ⟨x1, x2, x3, x4, x5, x6⟩ 8 = R2 := ⟨_, rfl⟩
                  rw [hR2, hlo] at HRU
                  rw [hR2] at hS hbl
                  obtain ⟨av, cv0, rfl, hcv⟩ := hS.tbShape (k := 0) rfl
                  clear hl3 hR2 hlo hs8
                  cases x6
                  · rw [if_neg (by decide), List.append_nil] at HRU
                    go_wp2_with (first
                      | (refine toList (by rfl) ?_; refine ld hS _ _ (by rfl) _ _ (by rfl) (agOf (by rfl)) (by first | exact Has.z | exact Has.s Has.z | exact Has.s (Has.s Has.z) | exact Has.s (Has.s (Has.s Has.z)) | exact Has.s (Has.s (Has.s (Has.s Has.z))) | exact Has.s (Has.s (Has.s (Has.s (Has.s Has.z))))) (by rfl) ?_))
                    exact ⟨⟨n + 1, by go_num, HLT.out, by rw [HRU.out]; exact (hS.re [2, 3]).drop.drop⟩, by simp [intOf]; have := HLT.out; omega⟩
                  · rw [if_pos rfl] at HRU
                    go_wp2_with (first
                      | (refine toList (by rfl) ?_; refine ld hS _ _ (by rfl) _ _ (by rfl) (agOf (by rfl)) (by first | exact Has.z | exact Has.s Has.z | exact Has.s (Has.s Has.z) | exact Has.s (Has.s (Has.s Has.z)) | exact Has.s (Has.s (Has.s (Has.s Has.z))) | exact Has.s (Has.s (Has.s (Has.s (Has.s Has.z))))) (by rfl) ?_)
                      | (refine toList (by rfl) ?_; refine bsF hS _ _ _ (by rfl) (elOf (by rfl)) [.agg (rv (⟨5, (n : Int), (n : Int) + 1⟩ : RecD)).toArray] (by rfl) (by rfl) (by decide) (by decide) (by intro v hv; rw [List.mem_singleton.1 hv]; rfl) ?_; intro b1 w1 hS1; clear hS; have hS := hS1; clear hS1; rw [agg1] at hS)
                      | (refine toList (by rfl) ?_; refine apTbS (f := rv) hS _ _ _ _ (by rfl) _ _ (by rfl) (by rfl) (elOf (by rfl)) (by rfl) (by decide) (inOf (by rfl)) (by first | exact Has.z | exact Has.s Has.z | exact Has.s (Has.s Has.z) | exact Has.s (Has.s (Has.s Has.z)) | exact Has.s (Has.s (Has.s (Has.s Has.z))) | exact Has.s (Has.s (Has.s (Has.s (Has.s Has.z))))) [(⟨5, (n : Int), (n : Int) + 1⟩ : RecD)] (by exact rv_len _) (by exact hS.src1 (f := rv) Has.z rfl) (by exact rv_one _) (by simp; omega) (by simp; omega) ?_; intro ao5 c5 w1 hcap5 hS1; clear hS; have hS := hS1; clear hS1; dsimp only [List.set_cons_zero, List.set_cons_succ] at hS))
                    have h9 := hS.drop
                    rw [List.length_append] at h9
                    exact ⟨⟨n + 1, by go_num, HLT.out, by rw [HRU.out]; exact (h9.re [2, 3]).drop.drop⟩, by simp [intOf]; have := HLT.out; omega⟩
        · obtain rfl : n = N := by omega
          have k2 : ¬ (n : Int) < (n : Int) := by omega
          clear hl
          go_wp2_with (first
            | (go_at_call 20; refine (HL.out _ _ (hS.re [1])).mono ?_; rintro e w1 ⟨rfl, rfl⟩))
          go_ret
          exact ⟨_, rfl, by unfold Gr.replay; rw [HN.out]; exact hS⟩
end Go.Proofs.YtapodjhkpahdnaaGreat
