/-
 Graphs of versions: the plain part.
 Package graph: contracts of New, Len, none, Node, Closed; the keys of its maps.
 Package graph: Mark, Clear, Lost.
 Contracts of the library's functions on slices of numbers: Sort, BinarySearch, Index, Contains, Clone, Clip, Insert; graph's with.
-/
import Derived.Test.YtchohheleofncaaGreatMReg
import Derived.Test.YtchohheleofncaaGreatTypes
import Derived.Lib.Hide
import Derived.Test.YtchohheleofncaaGreatGrShelf
import Derived.WalkLawsBesides
set_option linter.unusedSimpArgs false
set_option linter.unusedVariables false
namespace Go.Proofs.YtchohheleofncaaGreat
open Go.Sep
structure NodeD where
 kind : Int
 obj : Int
 ver : Nat
 mark : Nat
 clear : Nat
 orph : Bool
structure Gr where
 N : List NodeD
 E : List (Nat × Nat)
def nv (x : NodeD) : List Value := [.int .i64 x.kind, .int .i64 x.obj, .int .i64 (x.ver : Int), .int .i64 (x.mark : Int), .int .i64 (x.clear : Int), .bool x.orph]
theorem nv_all (x : NodeD) : ∀ u ∈ nv x, u.oneCell' = true := fun u hu => by
 simp only [nv, List.mem_cons, List.not_mem_nil, or_false] at hu
 rcases hu with rfl | rfl | rfl | rfl | rfl | rfl <;> rfl
theorem nv_one (l : List NodeD) : ∀ u ∈ l.flatMap nv, u.oneCell' = true := fun u hu => by
 obtain ⟨x, _, hu⟩ := List.mem_flatMap.1 hu
 exact nv_all x u hu
namespace Gr
def new : Gr := ⟨[], []⟩
def ups (G : Gr) (n : Nat) : List Nat := (List.range G.N.length).filter fun k => decide ((n, k) ∈ G.E)
def downs (G : Gr) (n : Nat) : List Nat := (List.range G.N.length).filter fun k => decide ((k, n) ∈ G.E)
def upsL (G : Gr) : List (List Nat) := (List.range G.N.length).map G.ups
def downsL (G : Gr) : List (List Nat) := (List.range G.N.length).map G.downs
def is (G : Gr) (n : Int) : Bool := decide (0 ≤ n) && decide (n < G.N.length)
def upsI (G : Gr) (n : Int) : List Nat := if G.is n then G.ups n.toNat else []
def downsI (G : Gr) (n : Int) : List Nat := if G.is n then G.downs n.toNat else []
def same (k o : Int) (x : NodeD) : Bool := decide (x.kind = k) && decide (x.obj = o)
def lastOf (k o : Int) : List NodeD → Nat → Option Nat
 | [], _ => none
 | x :: l, i => match lastOf k o l (i + 1) with
  | some j => some j
  | none => if same k o x then some i else none
def latest (G : Gr) (k o : Int) : Option Nat := lastOf k o G.N 0
def has (G : Gr) (e : Int × Int) : Bool := G.E.any fun p => decide ((p.1 : Int) = e.1) && decide ((p.2 : Int) = e.2)
def edgesF (G : Gr) (e : Int × Int) : Option Bool := if G.has e then some true else none
def latF (G : Gr) (k : Int × Int) : Option Nat := (G.latest k.1 k.2).map (· + 1)
def Reach (G : Gr) (a b : Nat) : Prop := ∀ S : Nat → Prop, S a → (∀ x y, S x → (x, y) ∈ G.E → S y) → S b
structure Ok (G : Gr) : Prop where
 len : G.N.length ≤ 4096
 low : ∀ e ∈ G.E, e.1 < G.N.length ∧ e.2 < G.N.length
 edges : G.E.length ≤ 1000000
 one : G.E.Nodup
 marks : ∀ x ∈ G.N, x.mark < 256 ∧ x.clear < 256
 vers : ∀ (i : Nat) (x : NodeD), G.N[i]? = some x → x.ver = ((G.N.take (i + 1)).filter (same x.kind x.obj)).length
theorem Reach.refl (G : Gr) (a : Nat) : G.Reach a a := fun _ h _ => h
theorem Reach.trans {G : Gr} {a b c : Nat} (h : G.Reach a b) (k : G.Reach b c) : G.Reach a c := fun S ha hs => k S (h S ha hs) hs
theorem Reach.edge {G : Gr} {a b : Nat} (h : (a, b) ∈ G.E) : G.Reach a b := fun S ha hs => hs _ _ ha h
theorem Reach.snoc {G : Gr} {a b c : Nat} (h : G.Reach a b) (k : (b, c) ∈ G.E) : G.Reach a c := h.trans (Reach.edge k)
theorem Reach.lt {G : Gr} (hG : G.Ok) {a b : Nat} (h : G.Reach a b) (ha : a < G.N.length) : b < G.N.length :=
 h (fun x => x < G.N.length) ha fun x y _ he => (hG.low (x, y) he).2
theorem mem_ups {G : Gr} {n k : Nat} : k ∈ G.ups n ↔ k < G.N.length ∧ (n, k) ∈ G.E := by simp [ups]
theorem mem_downs {G : Gr} {n k : Nat} : k ∈ G.downs n ↔ k < G.N.length ∧ (k, n) ∈ G.E := by simp [downs]
theorem ups_len (G : Gr) (n : Nat) : (G.ups n).length ≤ G.N.length := by
 have := List.length_filter_le (fun k => decide ((n, k) ∈ G.E)) (List.range G.N.length)
 simpa [ups] using this
theorem downs_len (G : Gr) (n : Nat) : (G.downs n).length ≤ G.N.length := by
 have := List.length_filter_le (fun k => decide ((k, n) ∈ G.E)) (List.range G.N.length)
 simpa [downs] using this
theorem upsL_len (G : Gr) : G.upsL.length = G.N.length := by simp [upsL]
theorem downsL_len (G : Gr) : G.downsL.length = G.N.length := by simp [downsL]
theorem upsL_at {G : Gr} {n : Nat} (h : n < G.N.length) : G.upsL[n]? = some (G.ups n) := by simp [upsL, h]
theorem downsL_at {G : Gr} {n : Nat} (h : n < G.N.length) : G.downsL[n]? = some (G.downs n) := by simp [downsL, h]
theorem is_nat {G : Gr} {n : Int} (h : G.is n = true) : ∃ k : Nat, n = k ∧ k < G.N.length := by
 unfold is at h
 simp only [Bool.and_eq_true, decide_eq_true_eq] at h
 exact ⟨n.toNat, by omega, by omega⟩
theorem is_mk {G : Gr} {k : Nat} (h : k < G.N.length) : G.is (k : Int) = true := by unfold is; simp; omega
end Gr
def ek (e : Int × Int) : Value := .agg #[.int .i64 e.1, .int .i64 e.2]
def bw (b : Bool) : Value := .bool b
def nw (n : Nat) : Value := .int .i64 (n : Int)
def Irn (v : Value) (l : List Nat) : Asrt := St [Pu (l = [] → v = .slice none 0 0), Ir v l]
section
variable {W w : World} {L : List Asrt} {k i : Nat} {u v : Value} {vs : List Value} {xs : List (List Nat)} {x : List Nat}
theorem irnOpen {l : List Nat} (h : Sat W w (Irn v l :: L)) : (l = [] → v = .slice none 0 0) ∧ Sat W w (Ir v l :: L) := by
 have h2 : Sat W w (Pu (l = [] → v = .slice none 0 0) :: Ir v l :: L) := h.open
 exact h2.pu
theorem irnMk {l : List Nat} (h0 : l = [] → v = .slice none 0 0) (h : Sat W w (Ir v l :: L)) : Sat W w (Irn v l :: L) := Sat.mkSt (Sat.mkPu h0 h)
theorem irnNil (h : Sat W w L) : Sat W w (Irn (.slice none 0 0) [] :: L) := irnMk (fun _ => rfl) h.irNil
theorem irnRow (h : Sat W w L) (hk : Has L k (St (List.zipWith Irn vs xs))) (hu : vs[i]? = some u) (hx : xs[i]? = some x) : ∃ L', Sat W w (Ir u x :: L') := by
 obtain ⟨L', h2⟩ := h.stRow hk hu hx
 exact ⟨L', (irnOpen h2).2⟩
theorem irnRowNil (h : Sat W w L) (hk : Has L k (St (List.zipWith Irn vs xs))) (hu : vs[i]? = some u) (hx : xs[i]? = some x) : x = [] → u = .slice none 0 0 := by
 obtain ⟨L', h2⟩ := h.stRow hk hu hx
 exact (irnOpen h2).1
end
def IsG (p : Nat) (G : Gr) : Asrt :=
 Ex fun x : (Value × Value × Value) × Nat × Nat => St [Cs p 207 [x.1.1, x.1.2.1, x.1.2.2, .map (some x.2.1), .map (some x.2.2)], Tb 220 6 nv x.1.1 G.N, Rws Irn x.1.2.1 G.upsL, Rws Irn x.1.2.2 G.downsL,
  Mp ek bw x.2.1 G.edgesF, Mp ek nw x.2.2 G.latF]
theorem IsG.open {W w : World} {L : List Asrt} {p : Nat} {G : Gr} (h : Sat W w (IsG p G :: L)) : ∃ vn vu vd me ml,
  Sat W w (Cs p 207 [vn, vu, vd, .map (some me), .map (some ml)] :: Tb 220 6 nv vn G.N :: Rws Irn vu G.upsL :: Rws Irn vd G.downsL :: Mp ek bw me G.edgesF :: Mp ek nw ml G.latF :: L) := by
 obtain ⟨⟨⟨vn, vu, vd⟩, me, ml⟩, h⟩ := h.ex
 exact ⟨vn, vu, vd, me, ml, h.open⟩
theorem IsG.mk {W w : World} {L : List Asrt} {p : Nat} {G : Gr} {vn vu vd : Value} {me ml : Nat}
  (h : Sat W w (Cs p 207 [vn, vu, vd, .map (some me), .map (some ml)] :: Tb 220 6 nv vn G.N :: Rws Irn vu G.upsL :: Rws Irn vd G.downsL :: Mp ek bw me G.edgesF :: Mp ek nw ml G.latF :: L)) : Sat W w (IsG p G :: L) :=
 Sat.mkEx ((vn, vu, vd), me, ml) (Sat.mkSt h)


end Go.Proofs.YtchohheleofncaaGreat
namespace Go.Proofs.YtchohheleofncaaGreat
open Go.RowKit Go.Sep
attribute [local irreducible] Go.Oper.wp Go.wpList Go.Calls Go.Code.wp Go.Sep.Reg
set_option maxRecDepth 20000
attribute [local irreducible] IsG
theorem eq_edge (x y : Int × Int) (w : World) : (Op.equalIn 10000 224 (ek x) (ek y)).run Tryz.prog w = .ok (decide (x = y)) w := by
 obtain ⟨a, b⟩ := x
 obtain ⟨c, d⟩ := y
 simp only [Prod.mk.injEq]
 unfold ek
 by_cases h1 : a = c
 ·subst h1
  by_cases h2 : b = d
  ·subst h2; go_simp
  ·have e3 : (b == d) = false := beq_eq_false_iff_ne.2 h2
   go_simp
 ·have e3 : (a == c) = false := beq_eq_false_iff_ne.2 h1
  go_simp
theorem eq_obj (x y : Int × Int) (w : World) : (Op.equalIn 10000 222 (ek x) (ek y)).run Tryz.prog w = .ok (decide (x = y)) w := by
 obtain ⟨a, b⟩ := x
 obtain ⟨c, d⟩ := y
 simp only [Prod.mk.injEq]
 unfold ek
 by_cases h1 : a = c
 ·subst h1
  by_cases h2 : b = d
  ·subst h2; go_simp
  ·have e3 : (b == d) = false := beq_eq_false_iff_ne.2 h2
   go_simp
 ·have e3 : (a == c) = false := beq_eq_false_iff_ne.2 h1
  go_simp
theorem key_edge : KeyOk Tryz.prog 224 ek := key_struct Tryz.underlying224 (fun k => ⟨_, rfl⟩) eq_edge (fun e k w => by unfold ek; kernel_rfl) (fun k => by unfold ek; simp [Instr.sameBits])
theorem key_obj : KeyOk Tryz.prog 222 ek := key_struct Tryz.underlying222 (fun k => ⟨_, rfl⟩) eq_obj (fun e k w => by unfold ek; kernel_rfl) (fun k => by unfold ek; simp [Instr.sameBits])
theorem new_any {W w : World} {L : List Asrt} (hS : Sat W w L) : Calls Tryz.prog 96 #[] w fun e w' => ∃ p, e = .returned (.pointer (some ⟨p, 0, none⟩)) ∧ Sat W w' (IsG p Gr.new :: L) := by
 go_enter Tryz.func96, Tryz.ntmps96
 go_wp2_with (first
  | (refine toList (by rfl) ?_; refine mpMake ek bw (show Sat W _ L from hS) _ (by rfl) ?_; clear hS; intro me w1 hS)
  | (refine toList (by rfl) ?_; refine mpMake ek nw hS _ (by rfl) ?_; clear hS; intro ml w1 hS)
  | (refine toList (by rfl) ?_; refine bx hS _ _ (by rfl) _ (by first | exact evC | exact evT (by rfl)) ?_; clear hS; intro p w1 hS; rw [cells_agg] at hS))
 go_ret
 have h1 := (hS.re [0, 2, 1]).rwsNil (R := Irn)
 have h2 := (h1.rwsNil (R := Irn)).tbNil (α := NodeD) (f := nv) (E := 220) (sz := 6)
 exact ⟨p, rfl, IsG.mk (h2.re [3])⟩
theorem none_any {W w : World} {L : List Asrt} {p : Nat} {G : Gr} (hS : Sat W w (IsG p G :: L)) (n : Int) {b : Bool} (hb : (!G.is n) = b) :
  Calls Tryz.prog 143 #[.pointer (some ⟨p, 0, none⟩), .int .i64 n] w fun e w' => e = .returned (.bool b) ∧ w = w' := by
 subst hb
 obtain ⟨vn, vu, vd, me, ml, hS⟩ := IsG.open hS
 obtain ⟨aon, cn, rfl, _⟩ := hS.tbShape (k := 1) rfl
 by_cases h1 : n < 0
 ·have HB := Lib.hid (show (!G.is n) = true by unfold Gr.is; simp; omega)
  go_enter Tryz.func143, Tryz.ntmps143
  go_wp2
  go_ret
  rw [HB.out]
  exact ⟨rfl, rfl⟩
 by_cases h2 : (G.N.length : Int) ≤ n
 ·have HB := Lib.hid (show (!G.is n) = true by unfold Gr.is; simp; omega)
  have h0 : 0 ≤ n := by omega
  have e1 : decide (n < 0) = false := by simp; omega
  clear h1
  go_enter Tryz.func143, Tryz.ntmps143
  go_wp2_with (refine toList (by rfl) ?_; refine ld hS _ _ (by rfl) _ _ (by rfl) (agOf (by rfl)) (by repeat first | exact Has.z | apply Has.s) (by rfl) ?_)
  go_ret
  rw [HB.out]
  exact ⟨rfl, rfl⟩
 ·have HB := Lib.hid (show (!G.is n) = false by unfold Gr.is; simp; omega)
  have h0 : 0 ≤ n := by omega
  have h3 : n < (G.N.length : Int) := by omega
  have e1 : decide (n < 0) = false := by simp; omega
  clear h1 h2
  go_enter Tryz.func143, Tryz.ntmps143
  go_wp2_with (refine toList (by rfl) ?_; refine ld hS _ _ (by rfl) _ _ (by rfl) (agOf (by rfl)) (by repeat first | exact Has.z | apply Has.s) (by rfl) ?_)
  go_ret
  rw [HB.out]
  refine ⟨?_, rfl⟩
  rw [show (false : Bool) = decide ((G.N.length : Int) ≤ n) from (decide_eq_false (by omega)).symm]
  rfl
def Gr.nodeI (G : Gr) (n : Int) : NodeD := if G.is n then G.N[n.toNat]?.getD ⟨0, 0, 0, 0, 0, false⟩ else ⟨0, 0, 0, 0, 0, false⟩
theorem Gr.nodeI_at {G : Gr} {k : Nat} {x : NodeD} (h : G.N[k]? = some x) : G.nodeI (k : Int) = x := by
 have := is_mk (List.getElem?_eq_some_iff.1 h).1
 simp [Gr.nodeI, this, h]
end Go.Proofs.YtchohheleofncaaGreat
namespace Go.Proofs.YtchohheleofncaaGreat
open Go.RowKit Go.Sep
attribute [local irreducible] Go.Oper.wp Go.wpList Go.Calls Go.Code.wp Go.Sep.Reg
attribute [local irreducible] IsG
theorem map_lat : mapB Tryz.prog 203 = some (222, 3) := by kernel_rfl
theorem map_edg : mapB Tryz.prog 202 = some (224, 4) := by kernel_rfl
def Gr.latI (G : Gr) (k o : Int) : Int := ((G.latest k o).getD 0 : Nat)
theorem lastOf_congr (k o : Int) : ∀ (l m : List NodeD) (j : Nat), l.map (fun x => (x.kind, x.obj)) = m.map (fun x => (x.kind, x.obj)) → Gr.lastOf k o l j = Gr.lastOf k o m j
 | [], [], _, _ => rfl
 | [], _ :: _, _, h => by simp at h
 | _ :: _, [], _, h => by simp at h
 | x :: l, y :: m, j, h => by
  simp only [List.map_cons, List.cons.injEq, Prod.mk.injEq] at h
  unfold Gr.lastOf
  rw [lastOf_congr k o l m (j + 1) h.2]
  unfold Gr.same
  rw [h.1.1, h.1.2]
def Gr.withN (G : Gr) (N : List NodeD) : Gr := ⟨N, G.E⟩
theorem Gr.withN_ups {G : Gr} {N : List NodeD} (h : N.length = G.N.length) : (G.withN N).upsL = G.upsL := by
 unfold Gr.upsL Gr.ups Gr.withN; simp only [h]
theorem Gr.withN_downs {G : Gr} {N : List NodeD} (h : N.length = G.N.length) : (G.withN N).downsL = G.downsL := by
 unfold Gr.downsL Gr.downs Gr.withN; simp only [h]
theorem Gr.withN_lat {G : Gr} {N : List NodeD} (h : N.map (fun x => (x.kind, x.obj)) = G.N.map (fun x => (x.kind, x.obj))) : (G.withN N).latF = G.latF := by
 funext e
 unfold Gr.latF Gr.latest
 rw [show (G.withN N).N = N from rfl, lastOf_congr e.1 e.2 N G.N 0 h]
theorem IsG.with {W w : World} {L : List Asrt} {p : Nat} {G : Gr} {N : List NodeD} {vn vu vd : Value} {me ml : Nat} (hN : N.map (fun x => (x.kind, x.obj)) = G.N.map (fun x => (x.kind, x.obj)))
  (h : Sat W w (Cs p 207 [vn, vu, vd, .map (some me), .map (some ml)] :: Tb 220 6 nv vn N :: Rws Irn vu G.upsL :: Rws Irn vd G.downsL :: Mp ek bw me G.edgesF :: Mp ek nw ml G.latF :: L)) : Sat W w (IsG p (G.withN N) :: L) := by
 refine IsG.mk (vn := vn) (vu := vu) (vd := vd) (me := me) (ml := ml) ?_
 have hl : N.length = G.N.length := by have := congrArg List.length hN; simpa using this
 rw [Gr.withN_ups hl, Gr.withN_downs hl, Gr.withN_lat hN]
 exact h
theorem map_set_same {N : List NodeD} {i : Nat} {x y : NodeD} (hx : N[i]? = some x) (hk : y.kind = x.kind) (ho : y.obj = x.obj) : (N.set i y).map (fun x => (x.kind, x.obj)) = N.map (fun x => (x.kind, x.obj)) := by
 apply List.ext_getElem?
 intro j
 simp only [List.getElem?_map, List.getElem?_set]
 by_cases h : i = j
 ·subst h
  have := (List.getElem?_eq_some_iff.1 hx).1
  rw [if_pos rfl, if_pos this, hx]
  simp [hk, ho]
 ·simp [h]
theorem or_small (x u : Nat) (hx : x < 256) (hu : u ≤ 128) : bits .or .i64 (x : Int) (IntKind.i64.wrap (u : Int)) = ((x ||| u : Nat) : Int) := by
 rw [IntWalk.i64_in _ (by omega)]
 have hx2 : x ||| u < 2 ^ 63 := Nat.or_lt_two_pow (by omega) (by omega)
 show IntKind.i64.wrap ((BitVec.ofInt 64 (x : Int) ||| BitVec.ofInt 64 (u : Int)).toNat : Int) = _
 have e : ∀ n : Nat, n < 9223372036854775808 → (BitVec.ofInt 64 (n : Int)).toNat = n := fun n hn => by
  rw [BitVec.ofInt_natCast, BitVec.toNat_ofNat]; exact Nat.mod_eq_of_lt (by omega)
 rw [BitVec.toNat_or, e x (by omega), e u (by omega), IntWalk.i64_in _ (by omega)]
theorem or_bit (x t : Nat) (hx : x < 256) (ht : t < 8) : bits .or .i64 (x : Int) (IntKind.i64.wrap (2 ^ t)) = ((x ||| 2 ^ t : Nat) : Int) := by
 have h2 : 2 ^ t ≤ 128 := by
  have : 2 ^ t ≤ 2 ^ 7 := Nat.pow_le_pow_right (by decide) (by omega)
  omega
 have := or_small x (2 ^ t) hx h2
 rw [show (2 : Int) ^ t = ((2 ^ t : Nat) : Int) by simp]
 exact this
def bitOk (G : Gr) (n s : Int) : Bool := G.is n && decide (0 ≤ s) && decide (s < 8)
def bitE (G : Gr) (n s : Int) : Int := if bitOk G n s then 0 else 1
theorem bitOk_no1 {G : Gr} {n s : Int} (h : G.is n = false) : bitOk G n s = false := by simp [bitOk, h]
theorem bitOk_no2 {G : Gr} {n s : Int} (h : s < 0 ∨ 8 ≤ s) : bitOk G n s = false := by
 unfold bitOk
 rcases h with h | h
 ·rw [decide_eq_false (by omega : ¬ 0 ≤ s)]; simp
 ·rw [decide_eq_false (by omega : ¬ s < 8)]; simp
theorem bitOk_yes {G : Gr} {k t : Nat} (hk : k < G.N.length) (ht : t < 8) : bitOk G (k : Int) (t : Int) = true := by
 unfold bitOk
 rw [Gr.is_mk hk]; simp; omega
def Gr.markG (G : Gr) (n s : Int) : Gr := if bitOk G n s then G.withN (G.N.set n.toNat { G.nodeI n with mark := (G.nodeI n).mark ||| 2 ^ s.toNat }) else G
set_option maxRecDepth 20000 in
theorem mark_any {W w : World} {L : List Asrt} {p : Nat} {G : Gr} (hS : Sat W w (IsG p G :: L)) (n s : Int) (hm : ∀ x ∈ G.N, x.mark < 256 ∧ x.clear < 256) :
  Calls Tryz.prog 128 #[.pointer (some ⟨p, 0, none⟩), .int .i64 n, .int .i64 s] w fun e w' => e = .returned (.int .i64 (bitE G n s)) ∧ Sat W w' (IsG p (G.markG n s) :: L) := by
 cases hb : G.is n
 ·have HB := Lib.hid (show (!G.is n) = true by simp [hb])
  skip
  have HF := Lib.hid (bitOk_no1 (G := G) (n := n) (s := s) hb)
  unfold bitE Gr.markG
  rw [HF.out]
  go_enter Tryz.func128, Tryz.ntmps128
  go_wp2_with (go_at_call 143; refine (none_any hS n HB.out).mono ?_; rintro e w1 ⟨rfl, rfl⟩)
  go_ret
  exact ⟨rfl, hS⟩
 have HB := Lib.hid (show (!G.is n) = false by simp [hb])
 by_cases h1 : s < 0
 ·skip
  skip
  have HF := Lib.hid (bitOk_no2 (G := G) (n := n) (s := s) (.inl h1))
  unfold bitE Gr.markG
  rw [HF.out]
  go_enter Tryz.func128, Tryz.ntmps128
  go_wp2_with (go_at_call 143; refine (none_any hS n HB.out).mono ?_; rintro e w1 ⟨rfl, rfl⟩)
  go_ret
  exact ⟨rfl, hS⟩
 by_cases h2 : 8 ≤ s
 ·have e1 : decide (s < 0) = false := decide_eq_false h1
  skip
  have HF := Lib.hid (bitOk_no2 (G := G) (n := n) (s := s) (.inr h2))
  unfold bitE Gr.markG
  rw [HF.out]
  go_enter Tryz.func128, Tryz.ntmps128
  go_wp2_with (go_at_call 143; refine (none_any hS n HB.out).mono ?_; rintro e w1 ⟨rfl, rfl⟩)
  go_ret
  exact ⟨rfl, hS⟩
 obtain ⟨t, rfl⟩ := Int.eq_ofNat_of_zero_le (show 0 ≤ s by omega)
 obtain ⟨k, rfl, hk⟩ := Gr.is_nat hb
 have HOK := Lib.hid (bitOk_yes hk (show t < 8 by omega))
 obtain ⟨⟨x1, x2, x3, x4, x5, x6⟩, hx⟩ : ∃ x, G.N[k]? = some x := ⟨_, List.getElem?_eq_getElem hk⟩
 have HX := Lib.hid hx
 have hm := hm _ (List.mem_of_getElem? hx)
 dsimp only at hm
 have HBO := Lib.hid (or_bit x4 t (by omega) (by omega))
 have HNI := Lib.hid (Gr.nodeI_at hx)
 have j1 : (k : Int) < (G.N.length : Int) := by omega
 have j2 : (t : Int) < 8 := by omega
 have e1 : decide ((t : Int) < 0) = false := decide_eq_false (by omega)
 have e2 : decide (8 ≤ (t : Int)) = false := decide_eq_false (by omega)
 clear hb h1 h2 hm
 obtain ⟨vn, vu, vd, me, ml, hO⟩ := IsG.open hS
 obtain ⟨b, off, c, rfl, hc⟩ := hO.tbAddr (k := 1) rfl (by omega)
 unfold bitE Gr.markG
 rw [HOK.out, if_pos rfl, if_pos rfl, HNI.out]
 go_enter Tryz.func128, Tryz.ntmps128
 clear hS
 have hS := hO
 clear hO
 go_wp2_with (first
  | (go_at_call 143; refine (none_any (IsG.mk hS) k HB.out).mono ?_; rintro e w1 ⟨rfl, rfl⟩))
 refine regStart [13] hS (by kernel_rfl) rfl ?_
 intro w1 hS1
 clear hS; have hS := hS1; clear hS1
 (refine rgP 0 hS (fun _ h => h) ?_; go_frame)
 (refine rgP 1 hS (fun _ h => h) ?_; go_frame)
 (refine rgP 2 hS (fun _ h => h) ?_; go_frame)
 (refine rgR 3 hS (fun _ h => h) ?_; (first
    | refine ⟨_, yLd _ _ (by rfl) _ _ (by rfl) (agOf (by rfl)) (by repeat first | exact Has.z | apply Has.s) (by rfl), ?_⟩
    | refine ⟨_, yLdTb _ _ (by rfl) _ _ (by rfl) (agOf (by rfl)) (Has.s Has.z) k 3 (by omega) HX.out (by rfl), ?_⟩); go_frame)
 (refine rgP 4 hS (fun _ h => h) ?_; go_frame)
 (refine rgP 5 hS (fun _ h => h) ?_; go_frame)
 (refine rgP 6 hS (fun _ h => h) ?_; go_frame)
 (refine rgR 7 hS (fun _ h => h) ?_; (first
    | refine ⟨_, yLd _ _ (by rfl) _ _ (by rfl) (agOf (by rfl)) (by repeat first | exact Has.z | apply Has.s) (by rfl), ?_⟩
    | refine ⟨_, yLdTb _ _ (by rfl) _ _ (by rfl) (agOf (by rfl)) (Has.s Has.z) k 3 (by omega) HX.out (by rfl), ?_⟩); go_frame)
 (refine rgP 8 hS (fun _ h => h) ?_; go_frame)
 (refine rgP 9 hS (fun _ h => h) ?_; go_frame)
 (refine rgP 10 hS (fun _ h => h) ?_; go_frame)
 (refine rgP 11 hS (fun _ h => h) ?_; go_frame)
 (refine rgP 12 hS (fun _ h => h) ?_; go_frame)
 (refine rgA 13 true fun K hK => ?_; (refine stTbF hS _ _ _ (by rfl) _ _ (by rfl) (.int .i64 ((x4 ||| 2 ^ t : Nat) : Int)) (by rw [← HBO.out]; rfl) (by rfl) (szOf (by rfl)) (Has.s Has.z) rfl k 3 (by omega) HX.out ⟨x1, x2, x3, x4 ||| 2 ^ t, x5, x6⟩ (by rfl) (by decide) ?_; clear hS; intro w1 hS; dsimp only [List.set_cons_zero, List.set_cons_succ] at hS); refine hK _ _ _ hS (by first | (intro h; cases h; done) | exact fun _ _ h => h | exact fun _ _ h => h.drop | exact fun _ _ h => h.drop.drop | exact fun _ _ h => h.drop.pull1 | exact fun _ _ h => h.take2 | exact fun _ _ h => h.one Has.z | exact fun _ _ h => h.one (Has.s Has.z) | exact fun _ _ h => h.one (Has.s (Has.s Has.z))) ?_; clear hK K; go_frame)
 refine regDone (by kernel_rfl) ?_
 go_wp2
 go_ret
 exact ⟨rfl, IsG.with (map_set_same HX.out rfl rfl) (by simpa using hS)⟩
def Gr.clearG (G : Gr) (n s : Int) : Gr := if bitOk G n s then G.withN (G.N.set n.toNat { G.nodeI n with clear := (G.nodeI n).clear ||| 2 ^ s.toNat }) else G
set_option maxRecDepth 20000 in
theorem clear_any {W w : World} {L : List Asrt} {p : Nat} {G : Gr} (hS : Sat W w (IsG p G :: L)) (n s : Int) (hm : ∀ x ∈ G.N, x.mark < 256 ∧ x.clear < 256) :
  Calls Tryz.prog 129 #[.pointer (some ⟨p, 0, none⟩), .int .i64 n, .int .i64 s] w fun e w' => e = .returned (.int .i64 (bitE G n s)) ∧ Sat W w' (IsG p (G.clearG n s) :: L) := by
 cases hb : G.is n
 ·have HB := Lib.hid (show (!G.is n) = true by simp [hb])
  skip
  have HF := Lib.hid (bitOk_no1 (G := G) (n := n) (s := s) hb)
  unfold bitE Gr.clearG
  rw [HF.out]
  go_enter Tryz.func129, Tryz.ntmps129
  go_wp2_with (go_at_call 143; refine (none_any hS n HB.out).mono ?_; rintro e w1 ⟨rfl, rfl⟩)
  go_ret
  exact ⟨rfl, hS⟩
 have HB := Lib.hid (show (!G.is n) = false by simp [hb])
 by_cases h1 : s < 0
 ·skip
  skip
  have HF := Lib.hid (bitOk_no2 (G := G) (n := n) (s := s) (.inl h1))
  unfold bitE Gr.clearG
  rw [HF.out]
  go_enter Tryz.func129, Tryz.ntmps129
  go_wp2_with (go_at_call 143; refine (none_any hS n HB.out).mono ?_; rintro e w1 ⟨rfl, rfl⟩)
  go_ret
  exact ⟨rfl, hS⟩
 by_cases h2 : 8 ≤ s
 ·have e1 : decide (s < 0) = false := decide_eq_false h1
  skip
  have HF := Lib.hid (bitOk_no2 (G := G) (n := n) (s := s) (.inr h2))
  unfold bitE Gr.clearG
  rw [HF.out]
  go_enter Tryz.func129, Tryz.ntmps129
  go_wp2_with (go_at_call 143; refine (none_any hS n HB.out).mono ?_; rintro e w1 ⟨rfl, rfl⟩)
  go_ret
  exact ⟨rfl, hS⟩
 obtain ⟨t, rfl⟩ := Int.eq_ofNat_of_zero_le (show 0 ≤ s by omega)
 obtain ⟨k, rfl, hk⟩ := Gr.is_nat hb
 have HOK := Lib.hid (bitOk_yes hk (show t < 8 by omega))
 obtain ⟨⟨x1, x2, x3, x4, x5, x6⟩, hx⟩ : ∃ x, G.N[k]? = some x := ⟨_, List.getElem?_eq_getElem hk⟩
 have HX := Lib.hid hx
 have hm := hm _ (List.mem_of_getElem? hx)
 dsimp only at hm
 have HBO := Lib.hid (or_bit x5 t (by omega) (by omega))
 have HNI := Lib.hid (Gr.nodeI_at hx)
 have j1 : (k : Int) < (G.N.length : Int) := by omega
 have j2 : (t : Int) < 8 := by omega
 have e1 : decide ((t : Int) < 0) = false := decide_eq_false (by omega)
 have e2 : decide (8 ≤ (t : Int)) = false := decide_eq_false (by omega)
 clear hb h1 h2 hm
 obtain ⟨vn, vu, vd, me, ml, hO⟩ := IsG.open hS
 obtain ⟨b, off, c, rfl, hc⟩ := hO.tbAddr (k := 1) rfl (by omega)
 unfold bitE Gr.clearG
 rw [HOK.out, if_pos rfl, if_pos rfl, HNI.out]
 go_enter Tryz.func129, Tryz.ntmps129
 clear hS
 have hS := hO
 clear hO
 go_wp2_with (first
  | (go_at_call 143; refine (none_any (IsG.mk hS) k HB.out).mono ?_; rintro e w1 ⟨rfl, rfl⟩))
 refine regStart [13] hS (by kernel_rfl) rfl ?_
 intro w1 hS1
 clear hS; have hS := hS1; clear hS1
 (refine rgP 0 hS (fun _ h => h) ?_; go_frame)
 (refine rgP 1 hS (fun _ h => h) ?_; go_frame)
 (refine rgP 2 hS (fun _ h => h) ?_; go_frame)
 (refine rgR 3 hS (fun _ h => h) ?_; (first
    | refine ⟨_, yLd _ _ (by rfl) _ _ (by rfl) (agOf (by rfl)) (by repeat first | exact Has.z | apply Has.s) (by rfl), ?_⟩
    | refine ⟨_, yLdTb _ _ (by rfl) _ _ (by rfl) (agOf (by rfl)) (Has.s Has.z) k 4 (by omega) HX.out (by rfl), ?_⟩); go_frame)
 (refine rgP 4 hS (fun _ h => h) ?_; go_frame)
 (refine rgP 5 hS (fun _ h => h) ?_; go_frame)
 (refine rgP 6 hS (fun _ h => h) ?_; go_frame)
 (refine rgR 7 hS (fun _ h => h) ?_; (first
    | refine ⟨_, yLd _ _ (by rfl) _ _ (by rfl) (agOf (by rfl)) (by repeat first | exact Has.z | apply Has.s) (by rfl), ?_⟩
    | refine ⟨_, yLdTb _ _ (by rfl) _ _ (by rfl) (agOf (by rfl)) (Has.s Has.z) k 4 (by omega) HX.out (by rfl), ?_⟩); go_frame)
 (refine rgP 8 hS (fun _ h => h) ?_; go_frame)
 (refine rgP 9 hS (fun _ h => h) ?_; go_frame)
 (refine rgP 10 hS (fun _ h => h) ?_; go_frame)
 (refine rgP 11 hS (fun _ h => h) ?_; go_frame)
 (refine rgP 12 hS (fun _ h => h) ?_; go_frame)
 (refine rgA 13 true fun K hK => ?_; (refine stTbF hS _ _ _ (by rfl) _ _ (by rfl) (.int .i64 ((x5 ||| 2 ^ t : Nat) : Int)) (by rw [← HBO.out]; rfl) (by rfl) (szOf (by rfl)) (Has.s Has.z) rfl k 4 (by omega) HX.out ⟨x1, x2, x3, x4, x5 ||| 2 ^ t, x6⟩ (by rfl) (by decide) ?_; clear hS; intro w1 hS; dsimp only [List.set_cons_zero, List.set_cons_succ] at hS); refine hK _ _ _ hS (by first | (intro h; cases h; done) | exact fun _ _ h => h | exact fun _ _ h => h.drop | exact fun _ _ h => h.drop.drop | exact fun _ _ h => h.drop.pull1 | exact fun _ _ h => h.take2 | exact fun _ _ h => h.one Has.z | exact fun _ _ h => h.one (Has.s Has.z) | exact fun _ _ h => h.one (Has.s (Has.s Has.z))) ?_; clear hK K; go_frame)
 refine regDone (by kernel_rfl) ?_
 go_wp2
 go_ret
 exact ⟨rfl, IsG.with (map_set_same HX.out rfl rfl) (by simpa using hS)⟩
def orphN (N : List NodeD) (a b : Nat) : List NodeD := N.mapIdx fun i x => if a ≤ i ∧ i < b then { x with orph := true } else x
theorem orphN_at (N : List NodeD) (a b i : Nat) : (orphN N a b)[i]? = (N[i]?).map fun x => if a ≤ i ∧ i < b then { x with orph := true } else x := by simp [orphN]
theorem orphN_len (N : List NodeD) (a b : Nat) : (orphN N a b).length = N.length := by simp [orphN]
theorem orphN_none (N : List NodeD) (a : Nat) : orphN N a a = N := by
 apply List.ext_getElem?
 intro i
 rw [orphN_at]
 cases N[i]? with
 | none => rfl
 | some y => simp only [Option.map_some]; rw [if_neg (by omega)]
theorem orphN_step {N : List NodeD} {a b : Nat} {x : NodeD} (hx : (orphN N a b)[b]? = some x) (hab : a ≤ b) : (orphN N a b).set b { x with orph := true } = orphN N a (b + 1) := by
 apply List.ext_getElem?
 intro i
 have hb := (List.getElem?_eq_some_iff.1 hx).1
 rw [List.getElem?_set, orphN_at]
 rw [orphN_at] at hx
 by_cases h : b = i
 ·subst h
  rw [if_pos rfl, if_pos (by simpa [orphN_len] using hb)]
  cases hN : N[b]? with
  | none => rw [hN] at hx; simp at hx
  | some y =>
   rw [hN] at hx
   simp only [Option.map_some, Option.some.injEq] at hx
   rw [if_neg (by omega)] at hx
   rw [orphN_at, hN]
   simp only [Option.map_some]
   rw [if_pos (by omega), hx]
 ·rw [if_neg h, orphN_at]
  cases N[i]? with
  | none => rfl
  | some y =>
   simp only [Option.map_some]
   by_cases h2 : a ≤ i ∧ i < b
   ·rw [if_pos h2, if_pos (by omega)]
   ·rw [if_neg h2, if_neg (by omega)]
theorem orphN_same (N : List NodeD) (a b : Nat) : (orphN N a b).map (fun x => (x.kind, x.obj)) = N.map (fun x => (x.kind, x.obj)) := by
 apply List.ext_getElem?
 intro i
 rw [List.getElem?_map, orphN_at, List.getElem?_map]
 cases N[i]? with
 | none => rfl
 | some y => simp only [Option.map_some]; split <;> rfl
def lostOk (G : Gr) (a b : Int) : Bool := decide (0 ≤ a) && decide (a ≤ b) && decide (b ≤ G.N.length)
def lostE (G : Gr) (a b : Int) : Int := if lostOk G a b then 0 else 1
def Gr.lostG (G : Gr) (a b : Int) : Gr := if lostOk G a b then G.withN (orphN G.N a.toNat b.toNat) else G
set_option maxRecDepth 20000 in
set_option maxHeartbeats 1000000 in
theorem lost_any {W w : World} {L : List Asrt} {p : Nat} {G : Gr} (hS : Sat W w (IsG p G :: L)) (a b : Int) (hG : G.N.length ≤ 1000000) :
  Calls Tryz.prog 130 #[.pointer (some ⟨p, 0, none⟩), .int .i64 a, .int .i64 b] w fun e w' => e = .returned (.int .i64 (lostE G a b)) ∧ Sat W w' (IsG p (G.lostG a b) :: L) := by
 by_cases h1 : a < 0
 ·have HF := Lib.hid (show lostOk G a b = false by unfold lostOk; rw [decide_eq_false (by omega : ¬ 0 ≤ a)]; rfl)
  unfold lostE Gr.lostG
  rw [HF.out]
  go_enter Tryz.func130, Tryz.ntmps130
  go_wp2
  go_ret
  exact ⟨rfl, hS⟩
 have e1 : decide (a < 0) = false := decide_eq_false h1
 by_cases h2 : b < a
 ·have HF := Lib.hid (show lostOk G a b = false by unfold lostOk; rw [decide_eq_false (by omega : ¬ a ≤ b)]; simp)
  unfold lostE Gr.lostG
  rw [HF.out]
  go_enter Tryz.func130, Tryz.ntmps130
  go_wp2
  go_ret
  exact ⟨rfl, hS⟩
 have e2 : decide (b < a) = false := decide_eq_false h2
 obtain ⟨vn, vu, vd, me, ml, hO⟩ := IsG.open hS
 obtain ⟨aon, cn, rfl, _⟩ := hO.tbShape (k := 1) rfl
 by_cases h3 : (G.N.length : Int) < b
 ·have HF := Lib.hid (show lostOk G a b = false by unfold lostOk; rw [decide_eq_false (by omega : ¬ b ≤ (G.N.length : Int))]; simp)
  unfold lostE Gr.lostG
  rw [HF.out]
  go_enter Tryz.func130, Tryz.ntmps130
  go_wp2_with (refine toList (by rfl) ?_; refine ld hO _ _ (by rfl) _ _ (by rfl) (agOf (by rfl)) Has.z (by rfl) ?_)
  go_ret
  exact ⟨rfl, hS⟩
 have HF := Lib.hid (show lostOk G a b = true by unfold lostOk; simp; omega)
 have e3 : decide ((G.N.length : Int) < b) = false := decide_eq_false h3
 unfold lostE Gr.lostG
 rw [HF.out, if_pos rfl, if_pos rfl]
 obtain ⟨i, rfl⟩ := Int.eq_ofNat_of_zero_le (show 0 ≤ a by omega)
 obtain ⟨j, rfl⟩ := Int.eq_ofNat_of_zero_le (show 0 ≤ b by omega)
 have hij : i ≤ j := by omega
 have hjl : j ≤ G.N.length := by omega
 have hji : (j : Int) ≤ 1000000 := by omega
 have e4 : decide (j < i) = false := decide_eq_false (by omega)
 have e5 : decide (G.N.length < j) = false := decide_eq_false (by omega)
 clear h1 h2 h3 HF
 have H0 := Lib.hid (show Sat W w (Cs p 207 [.slice aon G.N.length cn, vu, vd, .map (some me), .map (some ml)] :: Tb 220 6 nv (.slice aon G.N.length cn) (orphN G.N i i) :: Rws Irn vu G.upsL :: Rws Irn vd G.downsL :: Mp ek bw me G.edgesF :: Mp ek nw ml G.latF :: L) by rw [orphN_none]; exact hO)
 go_enter Tryz.func130, Tryz.ntmps130
 go_wp2_with (refine toList (by rfl) ?_; refine ld hO _ _ (by rfl) _ _ (by rfl) (agOf (by rfl)) Has.z (by rfl) ?_)
 clear hS hO
 go_loopw [7] (fun vi wz => ∃ k : Nat, i ≤ k ∧ k ≤ j ∧ vi = .int .i64 k ∧ Sat W wz (Cs p 207 [.slice aon G.N.length cn, vu, vd, .map (some me), .map (some ml)] :: Tb 220 6 nv (.slice aon G.N.length cn) (orphN G.N i k) :: Rws Irn vu G.upsL :: Rws Irn vd G.downsL :: Mp ek bw me G.edgesF :: Mp ek nw ml G.latF :: L)) (fun vi _ => j - (intOf vi).toNat)
 case atStart => exact ⟨i, Nat.le_refl _, hij, rfl, H0.out⟩
 case round =>
  clear H0
  obtain ⟨k, hik, hkj, rfl, hS⟩ := hrel
  by_cases hlt : k < j
  ·have j1 : (k : Int) < (j : Int) := by omega
   have j2 : (k : Int) < (G.N.length : Int) := by omega
   obtain ⟨⟨x1, x2, x3, x4, x5, x6⟩, hx⟩ : ∃ x, (orphN G.N i k)[k]? = some x := ⟨_, List.getElem?_eq_getElem (by rw [orphN_len]; omega)⟩
   have HX := Lib.hid hx
   have HST := Lib.hid (orphN_step hx hik)
   obtain ⟨bb, off, c, he, _⟩ := hS.tbAddr (k := 1) rfl (by rw [orphN_len]; omega)
   simp only [Value.slice.injEq] at he
   obtain ⟨rfl, hjunk, rfl⟩ := he
   clear hjunk
   have HLN := Lib.hid (orphN_len G.N i k)
   clear hx
   go_wp2_with (first
    | (refine toList (by rfl) ?_; refine ld hS _ _ (by rfl) _ _ (by rfl) (agOf (by rfl)) (by repeat first | exact Has.z | apply Has.s) (by rfl) ?_)
    | (refine toList (by rfl) ?_; refine stTbF hS _ _ _ (by rfl) _ _ (by rfl) (.bool true) (by rfl) (by rfl) (szOf (by rfl)) (Has.s Has.z) HLN.out k 5 (by omega) HX.out ⟨x1, x2, x3, x4, x5, true⟩ (by rfl) (by decide) ?_; clear hS; intro w1 hS; dsimp only [List.set_cons_zero, List.set_cons_succ] at hS; rw [HST.out] at hS))
   exact ⟨⟨k + 1, by omega, by omega, by go_num, hS⟩, by simp [intOf]; omega⟩
  ·obtain rfl : k = j := by omega
   go_wp2
   go_ret
   exact ⟨rfl, IsG.with (orphN_same _ _ _) hS⟩

end Go.Proofs.YtchohheleofncaaGreat
namespace Go.Proofs.YtchohheleofncaaGreat
open Go.RowKit Go.Sep
attribute [local irreducible] Go.Oper.wp Go.wpList Go.Calls Go.Code.wp Go.Sep.Reg
def srt (l : List Nat) : List Nat := l.mergeSort fun x y => decide (x ≤ y)
theorem srt_len (l : List Nat) : (srt l).length = l.length := by simp [srt]
theorem ints_iv (l : List Nat) : (l.map fun x : Nat => (x : Int)).map (Value.int .i64) = iv l := by simp [iv]
theorem srt_ints (l : List Nat) : (l.map fun x : Nat => (x : Int)).mergeSort (fun x y => decide (x ≤ y)) = (srt l).map fun x : Nat => (x : Int) := by
 unfold srt
 exact (List.map_mergeSort (f := fun x : Nat => (x : Int)) (r := fun x y => decide (x ≤ y)) (s := fun x y => decide (x ≤ y)) (fun a _ b _ => by simp)).symm
theorem sort_any {W w : World} {L : List Asrt} {v : Value} {l : List Nat} (hS : Sat W w (Ir v l :: L)) (hl : l.length ≤ 1000000) :
  Calls Tryz.prog 169 #[v] w fun e w' => e = .returned (.tuple #[]) ∧ Sat W w' (Ir v (srt l) :: L) := by
 by_cases h0 : l.length = 0
 ·obtain ⟨ao, c, rfl, _⟩ := hS.irShape (k := 0) rfl
  obtain rfl : l = [] := List.eq_nil_of_length_eq_zero h0
  refine (Tryz.slices_Sort_int_none ao c w).mono fun e w' ⟨h1, h2⟩ => ⟨h1, ?_⟩
  subst h2
  simpa [srt] using hS
 ·have hS' := hS
  unfold Ir at hS'
  rcases hS'.slOpen with ⟨_, h1, _⟩ | ⟨E', b, off, cap, pre, rest, rfl, h1, h2, h3, h4, h5, h6⟩
  ·exact absurd h1 h0
  ·have hz : ((l.map fun x : Nat => (x : Int)).length) = l.length := by simp
   have hH : Go.Sort.Holds (Value.int .i64) w b off (l.map fun x : Nat => (x : Int)).toArray := by
    intro j hj
    have hj' : j < l.length := by simpa using hj
    obtain ⟨y, hy⟩ : ∃ y, l[j]? = some y := ⟨_, List.getElem?_eq_getElem hj'⟩
    have hc := hS'.slCell (k := 0) rfl (iv_at hy)
    have hd : ∀ (A : Array Int), A = (l.map fun x : Nat => (x : Int)).toArray → A[j]! = (y : Int) := fun A hA => by
     subst hA
     rw [getElem!_pos _ j hj]
     have := (List.getElem?_eq_some_iff.1 hy).2
     simp [this]
    rw [hd _ rfl]
    exact hc
   have hblk : b < w.heap.size := by
    obtain ⟨fz, _, h7⟩ := h6.openCs
    exact h7.lt
   have := Tryz.slices_Sort_int b off cap (l.map fun x : Nat => (x : Int)) w hH hblk (by rw [hz]; omega)
   rw [hz] at this
   refine this.mono fun e w' ⟨h7, n, os, h8⟩ => ⟨h7, ?_⟩
   subst h8
   rw [srt_ints]
   have h9 := ((h6.ahead n).putRow (Value.int .i64) ((srt l).map fun x : Nat => (x : Int)) (by simp [srt_len, iv_length]) h4).grow os
   rw [ints_iv] at h9
   unfold Ir
   rw [srt_len]
   exact Sat.slMk h9 h1 h2 (by simp [iv_length, srt_len]) h4 (by simp [iv_length, srt_len] at h5 ⊢; omega)
theorem bsearch_any {W w : World} {L : List Asrt} {v : Value} {l : List Nat} (hS : Sat W w L) (hr : Rd w v l.length 1 (iv l)) (hs : l.Pairwise (· ≤ ·)) (hl : l.length ≤ 1000000) (x : Nat) :
  Calls Tryz.prog 158 #[v, .int .i64 x] w fun e w' => ∃ b, e = .returned (.tuple #[.int .i64 (l.countP (· < x) : Nat), .bool b]) ∧ Sat W w' L := by
 by_cases h0 : l.length = 0
 ·obtain ⟨ao, c, rfl, _⟩ := hr
  obtain rfl : l = [] := List.eq_nil_of_length_eq_zero h0
  refine (Tryz.slices_BinarySearch_int_empty ao c x w).mono fun e w' ⟨h1, h2⟩ => ⟨false, h1, ?_⟩
  subst h2; exact hS
 ·obtain ⟨ao, c, rfl, h1, h2, h3, h5⟩ := hr
  obtain ⟨b, off, rfl, hc⟩ := h5 (by omega)
  have := Tryz.slices_BinarySearch_int b off l.length c (l.map fun x : Nat => (x : Int)) x w (by simp) (by omega) (fun j hj => by
   have hj' : j < l.length := by simpa using hj
   have h := hc j _ (iv_at (List.getElem?_eq_getElem hj'))
   rw [h]
   simp [List.getD, hj']) (by
   rw [List.take_of_length_le (by simp)]
   exact List.pairwise_map.2 (hs.imp fun h => by simpa using h))
  refine this.mono fun e w' ⟨h7, q, h8⟩ => ?_
  subst h8
  rw [List.take_of_length_le (by simp)] at h7
  refine ⟨(l.map fun x : Nat => (x : Int)).contains (x : Int), ?_, hS.drewN q⟩
  rw [h7]
  congr 5
  rw [List.countP_map]
  exact congrArg Nat.cast (List.countP_congr fun a _ => by simp)
theorem index_any {W w : World} {L : List Asrt} (hS : Sat W w L) (l : List Nat) (ao : Option Addr) (c : Nat) (hr : Rd w (.slice ao l.length c) l.length 1 (iv l)) (hl : l.length ≤ 1000000) (x : Int) :
  Calls Tryz.prog 168 #[.slice ao l.length c, .int .i64 x] w fun e w' => ∃ r : Int, e = .returned (.int .i64 r) ∧ (0 ≤ r ↔ ∃ y, y ∈ l ∧ (y : Int) = x) ∧ w = w' := by
 have HR := Lib.hid hr
 obtain ⟨_, _, he, hc1, hc2, _, h5⟩ := hr
 simp only [Value.slice.injEq, true_and] at he
 obtain ⟨rfl, rfl⟩ := he
 have i5 : (l.length : Int) ≤ 1000000 := by omega
 go_enter Tryz.func168, Tryz.ntmps168
 go_wp2
 go_loop [8] (fun vi => ∃ k : Nat, k ≤ l.length ∧ vi = .int .i64 k ∧ (l.take k).any (fun y => decide ((y : Int) = x)) = false) (fun vi => l.length - (intOf vi).toNat)
 case atStart => exact ⟨0, by omega, rfl, rfl⟩
 case round =>
  obtain ⟨k, hk, rfl, hno⟩ := hrel
  by_cases hlt : k < l.length
  ·obtain ⟨b, off, rfl, _⟩ := h5 (by omega)
   obtain ⟨y, hy⟩ : ∃ y, l[k]? = some y := ⟨_, List.getElem?_eq_getElem hlt⟩
   have j1 : (k : Int) < (l.length : Int) := by omega
   have HY := Lib.hid (iv_at hy)
   have HNO := Lib.hid hno
   have HY2 := Lib.hid hy
   clear hno hy h5
   by_cases hxy : (y : Int) = x
   ·subst hxy
    go_wp2_with (refine toList (by rfl) ?_; refine wp_of_reads (rLdRd1 HR.out _ _ (by rfl) _ (by rfl) (agOf (by rfl)) k (by omega) HY.out (by omega)) ?_)
    go_ret
    refine ⟨_, rfl, ?_, rfl⟩
    exact ⟨fun _ => ⟨y, List.mem_of_getElem? HY2.out, rfl⟩, fun _ => by omega⟩
   ·have e1 : (x == (y : Int)) = false := beq_eq_false_iff_ne.2 (Ne.symm hxy)
    have HN := Lib.hid (show (l.take (k + 1)).any (fun y => decide ((y : Int) = x)) = false by rw [List.take_add_one, HY2.out]; simp [HNO.out, hxy])
    clear hxy
    go_wp2_with (refine toList (by rfl) ?_; refine wp_of_reads (rLdRd1 HR.out _ _ (by rfl) _ (by rfl) (agOf (by rfl)) k (by omega) HY.out (by omega)) ?_)
    exact ⟨⟨k + 1, by omega, by go_num, HN.out⟩, by simp [intOf]; omega⟩
  ·obtain rfl : k = l.length := by omega
   rw [List.take_length] at hno
   have HNO := Lib.hid hno
   clear hno
   go_wp2
   go_ret
   exact ⟨_, rfl, ⟨fun h => by omega, fun ⟨y, hy, h⟩ => by have := List.any_eq_false.1 HNO.out y hy; simp [h] at this⟩, rfl⟩
theorem contains_any {W w : World} {L : List Asrt} (hS : Sat W w L) (l : List Nat) (ao : Option Addr) (c : Nat) (hr : Rd w (.slice ao l.length c) l.length 1 (iv l)) (hl : l.length ≤ 1000000) (x : Int) {r : Bool} (hx : l.any (fun y => decide ((y : Int) = x)) = r) :
  Calls Tryz.prog 156 #[.slice ao l.length c, .int .i64 x] w fun e w' => e = .returned (.bool r) ∧ w = w' := by
 subst hx
 have HX := Lib.hid (index_any hS l ao c hr hl x)
 go_enter Tryz.func156, Tryz.ntmps156
 go_wp2_with (go_at_call 168; refine HX.out.mono ?_; rintro e w1 ⟨r, rfl, hri, rfl⟩)
 go_ret
 refine ⟨congrArg Ending.returned (show Value.bool _ = Value.bool _ from congrArg Value.bool ?_), rfl⟩
 rw [Bool.eq_iff_iff, decide_eq_true_iff]
 simp
theorem ir_of_cs {W w : World} {L : List Asrt} {b E c : Nat} {l : List Nat} {rest : List Value} (h : Sat W w (Cs b E (iv l ++ rest) :: L)) (h1 : l.length ≤ c) (h2 : c ≤ 9223372036854775807) (h3 : c ≤ l.length + rest.length) : Sat W w (Ir (.slice (some ⟨b, 0, none⟩) l.length c) l :: L) :=
 Sat.slMk (pre := []) (vs := iv l) (rest := rest) (by simpa using h) h1 h2 (by simp [iv_length]) rfl (by simp [iv_length]; omega)
theorem run_eql_nil {P : Program} (w : World) {t e : TypeId} (h : P.underlying t = some (.slice e)) (a : Option Addr) (n c : Nat) : (binOp .eql t (.slice a n c) (.slice none 0 0)).run P w = .ok (.bool a.isNone) w := by
 simp only [binOp]
 simp [run_equal_slice_nil w t e a n c h]
set_option maxRecDepth 20000 in
theorem clone_any {W w : World} {L : List Asrt} {v : Value} {l : List Nat} (hS : Sat W w L) (hr : ∀ w, Sat W w L → Rd w v l.length 1 (iv l)) (hl : l.length ≤ 1000000) (hv : l = [] → v = .slice none 0 0) :
  Calls Tryz.prog 161 #[v] w fun e w' => ∃ v', e = .returned v' ∧ (l = [] → v' = .slice none 0 0) ∧ Sat W w' (Ir v' l :: L) := by
 have E34 : ∀ (a : Option Addr) (n c : Nat) (w : World), (binOp .eql 22 (.slice a n c) (.slice none 0 0)).run Tryz.prog w = .ok (.bool a.isNone) w := fun a n c w => run_eql_nil w Tryz.underlying22 a n c
 by_cases h0 : l = []
 ·subst h0
  obtain rfl := hv rfl
  go_enter Tryz.func161, Tryz.ntmps161
  go_wp2
  go_ret
  refine ⟨_, rfl, ?_, hS.irNil⟩
  first | exact fun _ => rfl | rfl
 ·have HR := Lib.hid hr
  obtain ⟨_, c, rfl, hc1, hc2, _, h5⟩ := hr w hS
  have hpos : 0 < l.length := List.length_pos_iff.2 h0
  obtain ⟨b, off, rfl, _⟩ := h5 hpos
  have H0 := Lib.hid h0
  clear h0 hv hr h5
  go_enter Tryz.func161, Tryz.ntmps161
  go_wp2_with (first
   | (refine toList (by rfl) ?_; refine bs0 hS _ (by rfl) (elOf (by rfl)) ?_; clear hS; intro b1 w1 hS; replace hS := ir_of_cs (l := []) (c := 0) (rest := []) hS (by decide) (by decide) (by decide))
   | (refine toList (by rfl) ?_; refine apI hS _ _ _ _ (by rfl) (by rfl) (by rfl) (elOf (by rfl)) (by rfl) (by rfl) (by rfl) (inOf (by rfl)) Has.z (by exact HR.out _ hS.drop) (by simp; omega) ?_; clear hS; intro v1 w1 hS; dsimp only [List.set_cons_zero, List.nil_append] at hS))
  go_ret
  exact ⟨_, rfl, fun h => absurd h H0.out, hS⟩
def Tight (v : Value) : Prop := v = .slice none 0 0 ∨ ∃ b off n, v = .slice (some ⟨b, off, none⟩) n n
set_option maxRecDepth 20000 in
theorem clip_any {W w : World} {L : List Asrt} {v : Value} {l : List Nat} (hS : Sat W w (Ir v l :: L)) :
  Calls Tryz.prog 160 #[v] w fun e w' => ∃ v', e = .returned v' ∧ Tight v' ∧ Sat W w' (Ir v' l :: L) := by
 rcases hS.slCases (E := 0) (sz := 1) (n := l.length) (vs := iv l) (k := 0) rfl with ⟨rfl, h0, h1⟩ | ⟨b, off, c, rfl, hc1, hc2⟩
 ·go_enter Tryz.func160, Tryz.ntmps160
  go_wp2
  go_ret
  exact ⟨_, rfl, .inl rfl, hS⟩
 ·go_enter Tryz.func160, Tryz.ntmps160
  go_wp2
  go_ret
  refine ⟨_, rfl, .inr ⟨b, off, l.length, rfl⟩, ?_⟩
  unfold Ir at hS ⊢
  exact hS.slClip
def insAt (l : List Nat) (i x : Nat) : List Nat := l.take i ++ x :: l.drop i
set_option maxRecDepth 20000 in
set_option maxHeartbeats 1000000 in
theorem insert_any {W w : World} {L : List Asrt} {v : Value} {l : List Nat} (hS : Sat W w (Ir v l :: L)) (ht : Tight v) (hl : l.length ≤ 1000000) (i x : Nat) (hi : i ≤ l.length) (b : Nat) (hr : ∀ w, Sat W w L → Rd w (.slice (some ⟨b, 0, none⟩) 1 1) 1 1 (iv [x])) :
  Calls Tryz.prog 159 #[v, .int .i64 i, .slice (some ⟨b, 0, none⟩) 1 1] w fun e w' => ∃ v', e = .returned v' ∧ Sat W w' (Ir v' (insAt l i x) :: L) := by
 have HR := Lib.hid hr
 clear hr
 by_cases h : i = l.length
 ·subst h
  have HI := Lib.hid (show l ++ [x] = insAt l l.length x by simp [insAt])
  rcases ht with rfl | ⟨b', off, n, rfl⟩
  ·obtain ⟨ao, c, he, hc⟩ := hS.irShape (k := 0) rfl
   simp only [Value.slice.injEq] at he
   obtain ⟨j1, h0, j2⟩ := he
   obtain rfl : l = [] := List.eq_nil_of_length_eq_zero h0.symm
   clear j1 h0 j2 hc ao c hi hl
   go_enter Tryz.func159, Tryz.ntmps159
   go_wp2_with (refine toList (by rfl) ?_; refine apI (m := [x]) hS _ _ _ _ (by rfl) (by rfl) (by rfl) (elOf (by rfl)) (by rfl) (by rfl) (by rfl) (inOf (by rfl)) Has.z (by exact HR.out _ hS.drop) (by simp) ?_; clear hS; intro v1 w1 hS; dsimp only [List.set_cons_zero] at hS; rw [HI.out] at hS)
   go_ret
   exact ⟨_, rfl, hS⟩
  ·obtain ⟨ao, c, he, hc⟩ := hS.irShape (k := 0) rfl
   simp only [Value.slice.injEq] at he
   obtain ⟨rfl, h0, rfl⟩ := he
   subst h0
   clear hc hi
   have i1 : (l.length : Int) ≤ 1000000 := by omega
   go_enter Tryz.func159, Tryz.ntmps159
   go_wp2_with (refine toList (by rfl) ?_; refine apI (m := [x]) hS _ _ _ _ (by rfl) (by rfl) (by rfl) (elOf (by rfl)) (by rfl) (by rfl) (by rfl) (inOf (by rfl)) Has.z (by exact HR.out _ hS.drop) (by simp; omega) ?_; clear hS; intro v1 w1 hS; dsimp only [List.set_cons_zero] at hS; rw [HI.out] at hS)
   go_ret
   exact ⟨_, rfl, hS⟩
 ·rcases ht with rfl | ⟨b', off, n, rfl⟩
  ·obtain ⟨ao, c, he, hc⟩ := hS.irShape (k := 0) rfl
   simp only [Value.slice.injEq] at he
   omega
  ·obtain ⟨ao, c, he, hc⟩ := hS.irShape (k := 0) rfl
   simp only [Value.slice.injEq] at he
   obtain ⟨rfl, h0, rfl⟩ := he
   subst h0
   clear hc
   have i1 : (l.length : Int) ≤ 1000000 := by omega
   have i2 : (i : Int) < (l.length : Int) := by omega
   have e1 : ((i : Int) == (l.length : Int)) = false := beq_eq_false_iff_ne.2 (by omega)
   have e2 : (i == l.length) = false := beq_eq_false_iff_ne.2 h
   clear h
   have e3 : decide (l.length < l.length + 1) = true := decide_eq_true (by omega)
   have e4 : decide ((l.length : Int) < (l.length : Int) + 1) = true := decide_eq_true (by omega)
   have HN : Hid ((l.length : Int) + 1 - (i : Int) = ((l.length + 1 - i : Nat) : Int)) := Lib.hid (by omega)
   have HRS : ∀ w, Sat W w (Ir (.slice (some ⟨b', off, none⟩) l.length l.length) l :: L) → Rd w (.slice (some ⟨b', off, none⟩) i l.length) i 1 (iv (l.take i)) := fun w h => by
    obtain ⟨_, _, he, h1, h2, h3, h5⟩ := h.irRd (k := 0) rfl
    simp only [Value.slice.injEq, true_and] at he
    obtain ⟨rfl, rfl⟩ := he
    refine ⟨_, _, rfl, by omega, h2, by simp [iv_length]; omega, fun hi0 => ?_⟩
    obtain ⟨b'', off'', h6, h7⟩ := h5 (by omega)
    refine ⟨b'', off'', h6, fun j u hu => h7 j u ?_⟩
    rw [← iv_take, List.getElem?_take] at hu
    split at hu
    ·exact hu
    ·cases hu
   have HRT : ∀ w, Sat W w (Ir (.slice (some ⟨b', off, none⟩) l.length l.length) l :: L) → Rd w (.slice (some ⟨b', off + i, none⟩) (l.length - i) (l.length - i)) (l.length - i) 1 (iv (l.drop i)) := fun w h => by
    obtain ⟨_, _, he, h1, h2, h3, h5⟩ := h.irRd (k := 0) rfl
    simp only [Value.slice.injEq, true_and] at he
    obtain ⟨rfl, rfl⟩ := he
    refine ⟨_, _, rfl, by omega, by omega, by simp [iv_length], fun hi0 => ?_⟩
    obtain ⟨b'', off'', h6, h7⟩ := h5 (by omega)
    simp only [Option.some.injEq, Addr.mk.injEq, and_true] at h6
    obtain ⟨rfl, rfl⟩ := h6
    refine ⟨_, _, rfl, fun j u hu => ?_⟩
    rw [Nat.add_assoc]
    refine h7 (i + j) u ?_
    rw [← iv_drop, List.getElem?_drop] at hu
    exact hu
   have HRS := Lib.hid HRS
   have HRT := Lib.hid HRT
   have HN2 := Lib.hid (show i + (l.length + 1 - i) = l.length + 1 by omega)
   have HV : Hid (∀ (z : Value), (((iv (l.take i) ++ List.replicate (l.length + 1 - i) z).take i ++ iv [x] ++ (iv (l.take i) ++ List.replicate (l.length + 1 - i) z).drop (i + 1)).take (i + 1) ++ iv (l.drop i) ++
     ((iv (l.take i) ++ List.replicate (l.length + 1 - i) z).take i ++ iv [x] ++ (iv (l.take i) ++ List.replicate (l.length + 1 - i) z).drop (i + 1)).drop (i + 1 + (l.length - i))) = iv (insAt l i x)) := Lib.hid fun z => by
    have e0 : (iv (l.take i)).length = i := by rw [iv_length, List.length_take]; omega
    rw [List.take_left' e0]
    have e1 : (iv (l.take i) ++ iv [x]).length = i + 1 := by rw [List.length_append, e0]; rfl
    have hD : (List.drop (i + 1) (iv (l.take i) ++ List.replicate (l.length + 1 - i) z)).length = l.length - i := by
     simp only [List.length_drop, List.length_append, e0, List.length_replicate]; omega
    generalize List.drop (i + 1) (iv (l.take i) ++ List.replicate (l.length + 1 - i) z) = D at hD ⊢
    rw [List.take_left' e1]
    have e3 : (iv (l.take i) ++ iv [x] ++ D).drop (i + 1 + (l.length - i)) = [] := List.drop_eq_nil_of_le (by rw [List.length_append, e1, hD]; omega)
    rw [e3]
    simp [insAt, iv, List.map_take, List.map_drop]
   have HLV : ∀ (z : Value), (iv (l.take i) ++ List.replicate (l.length + 1 - i) z).length = l.length + 1 := fun z => by
    simp only [List.length_append, iv_length, List.length_take, List.length_replicate]; omega
   have HLV := Lib.hid HLV
   clear e3 e4 hl
   go_enter Tryz.func159, Tryz.ntmps159
   go_wp2_with (first
    | (refine toList (by rfl) ?_; refine apGZ hS _ _ _ _ (by rfl) (by rfl) (l.length + 1 - i) (by rw [← HN.out]; rfl) (elOf (by rfl)) (by rfl) (by rfl) (inOf (by rfl)) (HRS.out _ hS) (by omega) (by omega) (by omega) ?_; clear hS; intro v1 w1 hS; rw [HN2.out] at hS; obtain ⟨b2, off2, c2, rfl, hc2⟩ := hS.slAddr (k := 0) rfl (by omega))
    | (refine toList (by rfl) ?_; refine cpSl hS _ _ _ _ (by rfl) _ _ _ _ _ (by rfl) (by rfl) (elOf (by rfl)) (by rfl) Has.z i (by omega) (by rw [HLV.out]; omega) (by exact HR.out _ hS.drop.drop) (iv_one _) (by omega) ?_; clear hS; intro w1 hS; dsimp only [List.set_cons_zero] at hS))
   have q1 : ¬ c2 = i + 1 := by omega
   have q2 : ¬ l.length = i := by omega
   have q3 : i + 1 ≤ l.length + 1 := by omega
   have q4 : i ≤ l.length := by omega
   refine regStart [8] hS (by kernel_rfl) rfl ?_
   intro w1 hS1
   clear hS; have hS := hS1; clear hS1
   (refine rgP 0 hS (fun _ h => h) ?_; go_frame)
   (refine rgP 1 hS (fun _ h => h) ?_; go_frame)
   (refine rgP 2 hS (fun _ h => h) ?_; go_frame)
   (refine rgP 3 hS (fun _ h => h) ?_; go_frame; try simp (disch := omega) only [IntWalk.i64_in])
   (refine regP 4 hS (fun _ h => h) rfl (by kernel_rfl) (by kernel_rfl) (by kernel_rfl) (fun _ _ _ _ h => h) (by rfl) (by rfl) ?_; apply Exists.intro; apply And.intro; (intro w; first | first | exact rSlcL (lo := i + 1) (by rfl) (by rfl) (by rfl) (by first | omega | (rw [IntWalk.i64_in _ (by omega)]; omega)) (by omega) (by omega) (elOf (by rfl)) w | exact rSlcL (lo := i) (by rfl) (by rfl) (by rfl) (by first | omega | (rw [IntWalk.i64_in _ (by omega)]; omega)) (by omega) (by omega) (elOf (by rfl)) w | (go_simp; try with_reducible rfl)); go_frame)
   (refine rgP 5 hS (fun _ h => h) ?_; go_frame)
   (refine rgP 6 hS (fun _ h => h) ?_; go_frame)
   (refine regP 7 hS (fun _ h => h) rfl (by kernel_rfl) (by kernel_rfl) (by kernel_rfl) (fun _ _ _ _ h => h) (by rfl) (by rfl) ?_; apply Exists.intro; apply And.intro; (intro w; first | first | exact rSlcL (lo := i + 1) (by rfl) (by rfl) (by rfl) (by first | omega | (rw [IntWalk.i64_in _ (by omega)]; omega)) (by omega) (by omega) (elOf (by rfl)) w | exact rSlcL (lo := i) (by rfl) (by rfl) (by rfl) (by first | omega | (rw [IntWalk.i64_in _ (by omega)]; omega)) (by omega) (by omega) (elOf (by rfl)) w | (go_simp; try with_reducible rfl)); go_frame)
   (refine rgA 8 true fun K hK => ?_; (refine cpSl (m := l.length - i) hS _ _ _ _ (by rfl) _ _ _ _ (Value.slice (some ⟨b', off + i * 1, none⟩) (l.length - i) (l.length - i)) (by rfl) (by rfl) (elOf (by rfl)) (by rfl) Has.z (i + 1) (by omega) (by rw [List.length_append, List.length_append, List.length_take, List.length_drop, HLV.out, iv_length]; simp; omega) (by rw [Nat.mul_one]; exact HRT.out _ hS.drop) (iv_one _) (by omega) ?_; clear hS; intro w1 hS; dsimp only [List.set_cons_zero] at hS); refine hK _ _ _ hS (by first | (intro h; cases h; done) | exact fun _ _ h => h | exact fun _ _ h => h.drop | exact fun _ _ h => h.drop.drop | exact fun _ _ h => h.drop.pull1 | exact fun _ _ h => h.take2 | exact fun _ _ h => h.one Has.z | exact fun _ _ h => h.one (Has.s Has.z) | exact fun _ _ h => h.one (Has.s (Has.s Has.z))) ?_; clear hK K; go_frame)
   refine regDone (by kernel_rfl) ?_
   go_wp2
   go_ret
   rw [HV.out] at hS
   have hlen : (insAt l i x).length = l.length + 1 := by simp only [insAt, List.length_append, List.length_take, List.length_cons, List.length_drop]; omega
   refine ⟨_, rfl, ?_⟩
   unfold Ir
   rw [hlen, sl_E 0 3]
   exact hS.pull1.drop
def ins (l : List Nat) (x : Nat) : List Nat := insAt l (l.countP (· < x)) x
set_option maxRecDepth 20000 in
theorem with_any {W w : World} {L : List Asrt} {v : Value} {l : List Nat} (hS : Sat W w L) (hr : ∀ w, Sat W w L → Rd w v l.length 1 (iv l)) (hl : l.length ≤ 999999) (hv : l = [] → v = .slice none 0 0) (hs : l.Pairwise (· ≤ ·)) (x : Nat) :
  Calls Tryz.prog 145 #[v, .int .i64 x] w fun e w' => ∃ v', e = .returned v' ∧ Sat W w' (Ir v' (ins l x) :: L) := by
 have HR := Lib.hid hr
 have HC := Lib.hid hv
 have HS := Lib.hid hs
 have HLE := Lib.hid (List.countP_le_length (p := (· < x)) (l := l))
 clear hr hv hs
 unfold ins
 obtain ⟨i, hi⟩ : ∃ i, l.countP (· < x) = i := ⟨_, rfl⟩
 have HI := Lib.hid hi
 rw [hi]
 rw [hi] at HLE
 clear hi
 go_enter Tryz.func145, Tryz.ntmps145
 go_wp2_with (first
  | (go_at_call 158; refine (bsearch_any hS (HR.out _ hS) HS.out (by omega) x).mono ?_; rintro e w1 ⟨fb, rfl, hS1⟩; rw [HI.out]; clear hS; have hS := hS1; clear hS1)
  | (go_at_call 161; refine (clone_any hS HR.out (by omega) HC.out).mono ?_; clear hS; rintro e w1 ⟨v1, rfl, _, hS⟩)
  | (go_at_call 160; refine (clip_any hS).mono ?_; rintro e w1 ⟨v2, rfl, ht, hS1⟩; have HT := Lib.hid ht; clear ht; clear hS; have hS := hS1; clear hS1)
  | (refine toList (by rfl) ?_; refine bsF hS _ _ _ (by rfl) (elOf (by rfl)) [.int .i64 x] (by rfl) (by rfl) (by decide) (by decide) (by simp [Value.cells]) ?_; clear hS; intro b1 w1 hS; rw [sca1 rfl] at hS)
  | (go_at_call 159; refine (insert_any hS.pull1 HT.out (by omega) i x HLE.out b1 (fun w h => h.csRd0 (n := 1) (sz := 1) Has.z (by decide) rfl)).mono ?_; clear hS; rintro e w1 ⟨v3, rfl, hS⟩))
 go_ret
 exact ⟨_, rfl, hS.pull1.drop⟩

end Go.Proofs.YtchohheleofncaaGreat
