/-
  Graphs of versions: the plain part.
-/
import Derived.Test.YtapodjhkpahdnaaSepRows
import Derived.Test.YtapodjhkpahdnaaSepMap
namespace Go.Proofs.Ytapodjhkpahdnaa
open Go.Sep
set_option linter.unusedSimpArgs false
set_option linter.unusedVariables false
structure NodeD where
  kind : Int
  obj : Int
  ver : Nat
  mark : Nat
  clear : Nat
  orph : Bool
structure Gr where
  N : List NodeD
  E : List (Nat × Nat)
def nv (x : NodeD) : List Value := [.int .i64 x.kind, .int .i64 x.obj, .int .i64 (x.ver : Int), .int .i64 (x.mark : Int), .int .i64 (x.clear : Int), .bool x.orph]
theorem nv_len (l : List NodeD) : ∀ x ∈ l, (nv x).length = 6 := fun _ _ => rfl
theorem nv_all (x : NodeD) : ∀ u ∈ nv x, u.oneCell' = true := fun u hu => by
  simp only [nv, List.mem_cons, List.not_mem_nil, or_false] at hu
  rcases hu with rfl | rfl | rfl | rfl | rfl | rfl <;> rfl
theorem nv_one (l : List NodeD) : ∀ u ∈ l.flatMap nv, u.oneCell' = true := fun u hu => by
  obtain ⟨x, _, hu⟩ := List.mem_flatMap.1 hu
  exact nv_all x u hu
namespace Gr
def new : Gr := ⟨[], []⟩
def ups (G : Gr) (n : Nat) : List Nat := (List.range G.N.length).filter fun k => decide ((n, k) ∈ G.E)
def downs (G : Gr) (n : Nat) : List Nat := (List.range G.N.length).filter fun k => decide ((k, n) ∈ G.E)
def upsL (G : Gr) : List (List Nat) := (List.range G.N.length).map G.ups
def downsL (G : Gr) : List (List Nat) := (List.range G.N.length).map G.downs
def is (G : Gr) (n : Int) : Bool := decide (0 ≤ n) && decide (n < G.N.length)
def upsI (G : Gr) (n : Int) : List Nat := if G.is n then G.ups n.toNat else []
def downsI (G : Gr) (n : Int) : List Nat := if G.is n then G.downs n.toNat else []
/-- Where an object's last version stands. -/
def same (k o : Int) (x : NodeD) : Bool := decide (x.kind = k) && decide (x.obj = o)
def lastOf (k o : Int) : List NodeD → Nat → Option Nat
  | [], _ => none
  | x :: l, i => match lastOf k o l (i + 1) with
    | some j => some j
    | none => if same k o x then some i else none
def latest (G : Gr) (k o : Int) : Option Nat := lastOf k o G.N 0
def has (G : Gr) (e : Int × Int) : Bool := G.E.any fun p => decide ((p.1 : Int) = e.1) && decide ((p.2 : Int) = e.2)
def edgesF (G : Gr) (e : Int × Int) : Option Bool := if G.has e then some true else none
def latF (G : Gr) (k : Int × Int) : Option Nat := (G.latest k.1 k.2).map (· + 1)
/-- One comes from the other. -/
def Reach (G : Gr) (a b : Nat) : Prop := ∀ S : Nat → Prop, S a → (∀ x y, S x → (x, y) ∈ G.E → S y) → S b
structure Ok (G : Gr) : Prop where
  len : G.N.length ≤ 4096
  low : ∀ e ∈ G.E, e.1 < G.N.length ∧ e.2 < G.N.length
  edges : G.E.length ≤ 1000000
  one : G.E.Nodup
  marks : ∀ x ∈ G.N, x.mark < 256 ∧ x.clear < 256
  vers : ∀ (i : Nat) (x : NodeD), G.N[i]? = some x → x.ver = ((G.N.take (i + 1)).filter (same x.kind x.obj)).length
theorem Reach.refl (G : Gr) (a : Nat) : G.Reach a a := fun _ h _ => h
theorem Reach.trans {G : Gr} {a b c : Nat} (h : G.Reach a b) (k : G.Reach b c) : G.Reach a c := fun S ha hs => k S (h S ha hs) hs
theorem Reach.edge {G : Gr} {a b : Nat} (h : (a, b) ∈ G.E) : G.Reach a b := fun S ha hs => hs _ _ ha h
theorem Reach.snoc {G : Gr} {a b c : Nat} (h : G.Reach a b) (k : (b, c) ∈ G.E) : G.Reach a c := h.trans (Reach.edge k)
theorem Reach.lt {G : Gr} (hG : G.Ok) {a b : Nat} (h : G.Reach a b) (ha : a < G.N.length) : b < G.N.length :=
  h (fun x => x < G.N.length) ha fun x y _ he => (hG.low (x, y) he).2
theorem mem_ups {G : Gr} {n k : Nat} : k ∈ G.ups n ↔ k < G.N.length ∧ (n, k) ∈ G.E := by simp [ups]
theorem mem_downs {G : Gr} {n k : Nat} : k ∈ G.downs n ↔ k < G.N.length ∧ (k, n) ∈ G.E := by simp [downs]
theorem ups_len (G : Gr) (n : Nat) : (G.ups n).length ≤ G.N.length := by
  have := List.length_filter_le (fun k => decide ((n, k) ∈ G.E)) (List.range G.N.length)
  simpa [ups] using this
theorem downs_len (G : Gr) (n : Nat) : (G.downs n).length ≤ G.N.length := by
  have := List.length_filter_le (fun k => decide ((k, n) ∈ G.E)) (List.range G.N.length)
  simpa [downs] using this
theorem upsL_len (G : Gr) : G.upsL.length = G.N.length := by simp [upsL]
theorem downsL_len (G : Gr) : G.downsL.length = G.N.length := by simp [downsL]
theorem upsL_at {G : Gr} {n : Nat} (h : n < G.N.length) : G.upsL[n]? = some (G.ups n) := by simp [upsL, h]
theorem downsL_at {G : Gr} {n : Nat} (h : n < G.N.length) : G.downsL[n]? = some (G.downs n) := by simp [downsL, h]
theorem is_nat {G : Gr} {n : Int} (h : G.is n = true) : ∃ k : Nat, n = k ∧ k < G.N.length := by
  unfold is at h
  simp only [Bool.and_eq_true, decide_eq_true_eq] at h
  exact ⟨n.toNat, by omega, by omega⟩
theorem is_mk {G : Gr} {k : Nat} (h : k < G.N.length) : G.is (k : Int) = true := by unfold is; simp; omega
theorem is_no {G : Gr} {n : Int} (h : G.is n = false) : n < 0 ∨ (G.N.length : Int) ≤ n := by
  unfold is at h
  simp only [Bool.and_eq_false_iff, decide_eq_false_iff_not] at h
  omega
theorem upsI_no {G : Gr} {n : Int} (h : G.is n = false) : G.upsI n = [] := by simp [upsI, h]
theorem upsI_nat {G : Gr} {k : Nat} (h : k < G.N.length) : G.upsI (k : Int) = G.ups k := by simp [upsI, is_mk h]
theorem downsI_no {G : Gr} {n : Int} (h : G.is n = false) : G.downsI n = [] := by simp [downsI, h]
theorem downsI_nat {G : Gr} {k : Nat} (h : k < G.N.length) : G.downsI (k : Int) = G.downs k := by simp [downsI, is_mk h]
end Gr
def ek (e : Int × Int) : Value := .agg #[.int .i64 e.1, .int .i64 e.2]
def bw (b : Bool) : Value := .bool b
def nw (n : Nat) : Value := .int .i64 (n : Int)
/-- A row of numbers; an empty one is nil. -/
def Irn (v : Value) (l : List Nat) : Asrt := St [Pu (l = [] → v = .slice none 0 0), Ir v l]
section
variable {W w : World} {L : List Asrt} {k i : Nat} {u v : Value} {vs : List Value} {xs : List (List Nat)} {x : List Nat}
theorem irnOpen {l : List Nat} (h : Sat W w (Irn v l :: L)) : (l = [] → v = .slice none 0 0) ∧ Sat W w (Ir v l :: L) := by
  have h2 : Sat W w (Pu (l = [] → v = .slice none 0 0) :: Ir v l :: L) := h.open
  exact h2.pu
theorem irnMk {l : List Nat} (h0 : l = [] → v = .slice none 0 0) (h : Sat W w (Ir v l :: L)) : Sat W w (Irn v l :: L) := Sat.mkSt (Sat.mkPu h0 h)
theorem irnNil (h : Sat W w L) : Sat W w (Irn (.slice none 0 0) [] :: L) := irnMk (fun _ => rfl) h.irNil
theorem irnRow (h : Sat W w L) (hk : Has L k (St (List.zipWith Irn vs xs))) (hu : vs[i]? = some u) (hx : xs[i]? = some x) : ∃ L', Sat W w (Ir u x :: L') := by
  obtain ⟨L', h2⟩ := h.stRow hk hu hx
  exact ⟨L', (irnOpen h2).2⟩
theorem irnRowNil (h : Sat W w L) (hk : Has L k (St (List.zipWith Irn vs xs))) (hu : vs[i]? = some u) (hx : xs[i]? = some x) : x = [] → u = .slice none 0 0 := by
  obtain ⟨L', h2⟩ := h.stRow hk hu hx
  exact (irnOpen h2).1
end
def IsG (p : Nat) (G : Gr) : Asrt :=
  Ex fun x : (Value × Value × Value) × Nat × Nat => St [Cs p 78 [x.1.1, x.1.2.1, x.1.2.2, .map (some x.2.1), .map (some x.2.2)], Tb 32 6 nv x.1.1 G.N, Rws Irn x.1.2.1 G.upsL, Rws Irn x.1.2.2 G.downsL,
    Mp ek bw x.2.1 G.edgesF, Mp ek nw x.2.2 G.latF]
theorem IsG.open {W w : World} {L : List Asrt} {p : Nat} {G : Gr} (h : Sat W w (IsG p G :: L)) : ∃ vn vu vd me ml,
    Sat W w (Cs p 78 [vn, vu, vd, .map (some me), .map (some ml)] :: Tb 32 6 nv vn G.N :: Rws Irn vu G.upsL :: Rws Irn vd G.downsL :: Mp ek bw me G.edgesF :: Mp ek nw ml G.latF :: L) := by
  obtain ⟨⟨⟨vn, vu, vd⟩, me, ml⟩, h⟩ := h.ex
  exact ⟨vn, vu, vd, me, ml, h.open⟩
theorem IsG.mk {W w : World} {L : List Asrt} {p : Nat} {G : Gr} {vn vu vd : Value} {me ml : Nat}
    (h : Sat W w (Cs p 78 [vn, vu, vd, .map (some me), .map (some ml)] :: Tb 32 6 nv vn G.N :: Rws Irn vu G.upsL :: Rws Irn vd G.downsL :: Mp ek bw me G.edgesF :: Mp ek nw ml G.latF :: L)) : Sat W w (IsG p G :: L) :=
  Sat.mkEx ((vn, vu, vd), me, ml) (Sat.mkSt h)

end Go.Proofs.Ytapodjhkpahdnaa
