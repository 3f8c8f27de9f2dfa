/-
  Questions that are made: what is owned of them; the reader's place, as a number.
  The document's reader: blanks, wrong, sign, run, number.
  The document's reader: a number.
-/
import Derived.Test.YtpnbdnfgdiakhaaGreatMQua
import Derived.Test.YtpnbdnfgdiakhaaGreatMReg
import Derived.Lib.Hide
namespace Go.Proofs.YtpnbdnfgdiakhaaGreat
open Go.RowKit Go.Sep
set_option linter.unusedSimpArgs false
set_option linter.unusedVariables false
attribute [local irreducible] Go.Oper.wp Go.wpList Go.Calls Go.Code.wp Go.Sep.Reg
theorem Stars.mem' : ∀ {L : List Asrt} {h : Hp}, Stars L h → ∀ A ∈ L, ∃ g : Hp, g.sub h ∧ A g
  | A :: L, h, ⟨h1, h2, s1, s2, d, a, r⟩, B, hB => by
    rcases List.mem_cons.1 hB with rfl | hB
    · exact ⟨h1, s1, a⟩
    · obtain ⟨g, sg, bg⟩ := Stars.mem' r B hB
      exact ⟨g, Hp.sub_trans sg s2, bg⟩
/-- A question can be read in whatever world holds what is owned of it. -/
def Qq (q : StepD) : Asrt := fun h => ∀ w, h.sub (hp w) → ∀ d, QRd w d q
theorem sat_of {g : Hp} {A : Asrt} {w : World} (ha : A g) (hs : g.sub (hp w)) : Sat { w with heap := #[] } w [A] :=
  ⟨rfl, rfl, (fun _ => none), g, (fun _ _ e => by cases e), hs, (fun _ => .inl rfl), (fun b o e => by simp at e), g, (fun _ => none), Hp.sub_refl _, (fun _ _ e => by cases e), (fun _ => .inr rfl), ha, trivial⟩
theorem Qq.read {W w : World} {L : List Asrt} {k : Nat} {q : StepD} (h : Sat W w L) (hk : Has L k (Qq q)) (d : Nat) : QRd w d q := by
  obtain ⟨g, sg, hg⟩ := Stars.mem' h.stars (Qq q) (List.mem_cons_of_mem _ (List.mem_of_getElem? hk))
  exact hg w sg d
theorem qrd_nil (w : World) (op n : Int) : ∀ d, QRd w d (.mk op n (.slice none 0 0) [])
  | 0 => ⟨_, _, _, rfl⟩
  | _ + 1 => ⟨⟨none, 0, rfl, Nat.le_refl _, by decide, rfl, fun h => absurd h (Nat.lt_irrefl _)⟩, fun _ h => nomatch h⟩
theorem Qq.nil {W w : World} {L : List Asrt} (h : Sat W w L) (op n : Int) : Sat W w (Qq (.mk op n (.slice none 0 0) []) :: L) := by
  obtain ⟨h1, h2, s1, s2, d, e, r⟩ := h.stars
  exact ⟨h.os, h.output, h1, h2, s1, s2, d, e, (fun _ => none), h2, (fun _ _ e => by cases e), Hp.sub_refl _, (fun _ => .inl rfl), (fun w _ d => qrd_nil w op n d), r⟩
/-- Rows of questions, and what is owned of each, are what is owned of one that has them. -/
theorem Qq.row {W w : World} {L : List Asrt} {E : TypeId} {v : Value} {l : List StepD} (op n : Int) (h : Sat W w (Tb E 3 qv v l :: St (l.map Qq) :: L)) : Sat W w (Qq (.mk op n v l) :: L) := by
  obtain ⟨ao, c, hv, _⟩ := h.tbShape (k := 0) rfl
  refine h.map fun k hs => ?_
  obtain ⟨h1, h2, s1, s2, d, a, r⟩ := (Stars.append (L := [Tb E 3 qv v l, St (l.map Qq)])).2 hs
  refine ⟨h1, h2, s1, s2, d, ?_, r⟩
  obtain ⟨x1, x2, u1, u2, dd, tb, y1, y2, v1, v2, ee, stq, _⟩ := a
  intro w hw d
  cases d with
  | zero => exact ⟨ao, _, c, hv⟩
  | succ d =>
    refine ⟨(sat_of tb (Hp.sub_trans u1 hw)).tbRd (k := 0) rfl, fun k hk => ?_⟩
    obtain ⟨g, sg, hg⟩ := Stars.mem' stq (Qq k) (List.mem_map_of_mem hk)
    exact hg w (Hp.sub_trans sg (Hp.sub_trans v1 (Hp.sub_trans u2 hw))) d
theorem Qq.one {W w : World} {L : List Asrt} {b : Nat} {E : TypeId} {q : StepD} (op n : Int) (h : Sat W w (Cs b E (qv q) :: Qq q :: L)) : Sat W w (Qq (.mk op n (.slice (some ⟨b, 0, none⟩) 1 1) [q]) :: L) := by
  have h1 : Sat W w (Tb E 3 qv (.slice (some ⟨b, 0, none⟩) 1 1) [q] :: Qq q :: L) := Sat.csTb (qv_len _) rfl (by decide) (by simpa using h)
  refine Qq.row (E := E) op n (h1.map fun k hs => ?_)
  refine hs.cons_mono fun k hs => ?_
  obtain ⟨h1, h2, s1, s2, d, a, r⟩ := hs
  exact ⟨h1, h2, s1, s2, d, ⟨h1, (fun _ => none), Hp.sub_refl _, (fun _ _ e => by cases e), (fun _ => .inr rfl), a, trivial⟩, r⟩
/-- A cell's number. -/
def cellN (w : World) (b off : Nat) : Nat := match w.cell? ⟨b, off, none⟩ with | some (.int _ v) => v.toNat | _ => 0
theorem cellN_eq {w : World} {b off : Nat} {n : Nat} (h : w.cell? ⟨b, off, none⟩ = some (.int .i64 (n : Int))) : cellN w b off = n := by
  simp [cellN, h]
theorem chr_any {s : ByteArray} {i : Nat} (hi : i < s.size) : ∃ x : UInt8, ∀ w, (Instr.index 9 (.string s) (.int .i64 (i : Int))).run Tryz.prog w = .ok (.int .u8 (x.toNat : Int)) w := by
  refine ⟨s[i], fun w => ?_⟩
  rw [run_index_string _ _ _ _ _ Tryz.underlying9]
  rw [dif_pos ⟨by omega, by omega⟩]
  congr 3
theorem rIdxS {P : Program} {a : Act} {o : Oper} {T : TypeId} {x y : Operand} (ho : o.op = .index T x y) {s : Value} (hx : a.eval x = s) {i : Value} (hy : a.eval y = i) {v : Value} (h : ∀ w, (Instr.index T s i).run P w = .ok v w) (w : World) : (execOp a.eval o).run P w = .ok (.value v) w :=
  rd_of (s := Instr.index T s i) (by simp [execOp, ho, hx, hy]) (h w)
theorem rCutS {P : Program} {a : Act} {o : Oper} {T : TypeId} {x y z : Operand} (ho : o.op = .slice T x (some y) (some z) none) {s : ByteArray} (hx : a.eval x = .string s) {i j : Nat} (hy : a.eval y = .int .i64 (i : Int)) (hz : a.eval z = .int .i64 (j : Int)) (hT : P.underlying T = some .string) (h1 : i ≤ j) (h2 : j ≤ s.size) (w : World) :
    (execOp a.eval o).run P w = .ok (.value (.string (s.extract i j))) w := by
  refine rd_of (s := Instr.sliceAt T (.string s) (some (.int .i64 (i : Int))) (some (.int .i64 (j : Int))) none) (by simp [execOp, ho, hx, hy, hz]) ?_
  rw [run_sliceAt_string (h := hT), run_slice_string (h := hT) (h0 := by omega) (h1 := by omega) (h2 := by omega)]
  rfl
/-- What the reader's functions do: the place goes on. -/
def BlkP (W : World) (T : TypeId) (px : Nat) (s : ByteArray) (I : Nat) (B : Int) (L : List Asrt) (w' : World) : Prop :=
  ∃ J : Nat, I ≤ J ∧ J ≤ s.size ∧ Sat W w' (Cs px T [.string s, .int .i64 (J : Int), .int .i64 B] :: L)
def WrgP (W : World) (T : TypeId) (px : Nat) (s : ByteArray) (I : Nat) (L : List Asrt) (w' : World) : Prop :=
  ∃ (J : Nat) (B : Int), I ≤ J ∧ J ≤ s.size ∧ Sat W w' (Cs px T [.string s, .int .i64 (J : Int), .int .i64 B] :: L)
def SgnP (W : World) (T : TypeId) (px : Nat) (s : ByteArray) (I : Nat) (B : Int) (L : List Asrt) (v : Value) (w' : World) : Prop :=
  ∃ (J : Nat) (b : Bool), v = .bool b ∧ I ≤ J ∧ J ≤ s.size ∧ (b = true → I < J) ∧ Sat W w' (Cs px T [.string s, .int .i64 (J : Int), .int .i64 B] :: L)
def RunP (W : World) (T : TypeId) (px : Nat) (s : ByteArray) (I : Nat) (B : Int) (L : List Asrt) (v : Value) (w' : World) : Prop :=
  ∃ (J : Nat) (t : ByteArray), v = .string t ∧ I ≤ J ∧ J + t.size ≤ s.size ∧ Sat W w' (Cs px T [.string s, .int .i64 (J : Int), .int .i64 B] :: L)
def NumP (W : World) (T : TypeId) (px : Nat) (s : ByteArray) (I : Nat) (L : List Asrt) (v : Value) (w' : World) : Prop :=
  ∃ (n : Int) (J : Nat) (B : Int), v = .int .i64 n ∧ I ≤ J ∧ J ≤ s.size ∧ Sat W w' (Cs px T [.string s, .int .i64 (J : Int), .int .i64 B] :: L)
def StpP (W : World) (T : TypeId) (px : Nat) (s : ByteArray) (I : Nat) (L : List Asrt) (v : Value) (w' : World) : Prop :=
  ∃ (op n : Int) (ao : Option Addr) (m c : Nat) (ks : List StepD) (J : Nat) (B : Int), v = .agg #[.int .i64 op, .int .i64 n, .slice ao m c] ∧ I ≤ J ∧ J ≤ s.size ∧ Sat W w' (Cs px T [.string s, .int .i64 (J : Int), .int .i64 B] :: Qq (.mk op n (.slice ao m c) ks) :: L)
theorem stp_all (op n : Int) (ao : Option Addr) (m c : Nat) : ∀ u ∈ [Value.int .i64 op, .int .i64 n, .slice ao m c], u.oneCell' = true := by
  intro u hu
  simp only [List.mem_cons, List.not_mem_nil, or_false] at hu
  rcases hu with rfl | rfl | rfl <;> rfl
theorem stp_done {W w : World} {L : List Asrt} {T E : TypeId} {px p2 I : Nat} {s : ByteArray} {z B op n : Int} (h : Sat W w (Cs px T [.string s, .int .i64 z, .int .i64 B] :: Cs p2 E [.int .i64 op, .int .i64 n, .slice none 0 0] :: L)) (h1 : (I : Int) ≤ z) (h2 : z ≤ (s.size : Int)) :
    StpP W T px s I L (.agg #[.int .i64 op, .int .i64 n, .slice none 0 0]) w := by
  obtain ⟨J, rfl⟩ : ∃ J : Nat, z = (J : Int) := ⟨z.toNat, by omega⟩
  exact ⟨op, n, none, 0, 0, [], J, B, rfl, by omega, by omega, (Qq.nil ((h.re [1]).drop) op n).re [1]⟩
/-- From here on: the reader at I, so many bytes ahead of the end at most. -/
def StC (W : World) (T : TypeId) (s : ByteArray) (F : FuncId) (xs : Array Value) (f : Nat) : Prop :=
  ∀ (w : World) (px I : Nat) (B : Int) (L : List Asrt), I ≤ s.size → s.size - I ≤ f → Sat W w (Cs px T [.string s, .int .i64 (I : Int), .int .i64 B] :: L) →
    Calls Tryz.prog F (#[.pointer (some ⟨px, 0, none⟩)] ++ xs) w fun e w' => ∃ v, e = .returned v ∧ StpP W T px s I L v w'
end Go.Proofs.YtpnbdnfgdiakhaaGreat
namespace Go.Proofs.YtpnbdnfgdiakhaaGreat
open Go.RowKit Go.Sep
set_option linter.unusedSimpArgs false
set_option linter.unusedVariables false
attribute [local irreducible] Go.Oper.wp Go.wpList Go.Calls Go.Code.wp Go.Sep.Reg
set_option maxRecDepth 20000 in
set_option maxHeartbeats 2000000 in
theorem blanks_any {W w : World} {L : List Asrt} {px : Nat} {s : ByteArray} {I : Nat} {B : Int} (hS : Sat W w (Cs px 47 [.string s, .int .i64 (I : Int), .int .i64 B] :: L)) (hI : I ≤ s.size) (hs : s.size ≤ 200) :
    Calls Tryz.prog 15 #[.pointer (some ⟨px, 0, none⟩)] w fun e w' => ∃ u, e = .returned u ∧ BlkP W 47 px s I B L w' := by
  have H0 := Lib.hid hS
  have HI := Lib.hid hI
  have hsi : (s.size : Int) ≤ 200 := by omega
  clear hI hs
  go_enter Tryz.func15, Tryz.ntmps15
  go_wp2
  go_loopw [] (fun wz => ∃ J : Nat, I ≤ J ∧ J ≤ s.size ∧ Sat W wz (Cs px 47 [.string s, .int .i64 (J : Int), .int .i64 B] :: L)) (fun wz => s.size - cellN wz px 1)
  case atStart => exact ⟨I, Nat.le_refl _, HI.out, H0.out⟩
  case round =>
    clear hS H0
    obtain ⟨J, h1, h2, hS⟩ := hrel
    have HJ := Lib.hid (cellN_eq (hS.cell (k := 0) (off := 1) Has.z rfl))
    have HJ1 := Lib.hid h1
    have HJ2 := Lib.hid h2
    clear h1
    by_cases hlt : J < s.size
    · have k1 : (J : Int) < (s.size : Int) := by omega
      have k2 : decide ((J : Int) < (s.size : Int)) = true := decide_eq_true k1
      have k3 : decide (J < s.size) = true := decide_eq_true hlt
      have HLT := Lib.hid hlt
      obtain ⟨x, HX⟩ := chr_any hlt
      clear hlt h2
      by_cases hx : (x.toNat : Int) = 32
      · have e1 : ((x.toNat : Int) == 32) = true := beq_iff_eq.2 hx
        have e2 : (x.toNat == 32) = true := beq_iff_eq.2 (by omega)
        clear hx
        go_wp2
        refine regStart [] hS (by kernel_rfl) rfl ?_
        intro w1 hS1
        clear hS; have hS := hS1; clear hS1
        (refine rgP 0 hS (fun _ h => h) ?_; go_frame)
        (refine rgP 1 hS (fun _ h => h) ?_; go_frame)
        (refine rgP 2 hS (fun _ h => h) ?_; go_frame)
        (refine rgR 3 hS (fun _ h => h) ?_; (first | refine ⟨_, yLd _ _ (by rfl) _ _ (by rfl) (agOf (by rfl)) (by repeat first | exact Has.z | apply Has.s) (by rfl), ?_⟩ | (refine ⟨_, fun u _ => rIdxS (by rfl) (by rfl) (by rfl) HX u, ?_⟩)); go_frame)
        (refine rgP 4 hS (fun _ h => h) ?_; go_frame)
        (refine rgP 5 hS (fun _ h => h) ?_; go_frame)
        (refine rgP 6 hS (fun _ h => h) ?_; go_frame)
        (refine rgR 7 hS (fun _ h => h) ?_; (first | refine ⟨_, yLd _ _ (by rfl) _ _ (by rfl) (agOf (by rfl)) (by repeat first | exact Has.z | apply Has.s) (by rfl), ?_⟩ | (refine ⟨_, fun u _ => rIdxS (by rfl) (by rfl) (by rfl) HX u, ?_⟩)); go_frame)
        (refine rgP 8 hS (fun _ h => h) ?_; go_frame)
        (refine rgP 9 hS (fun _ h => h) ?_; go_frame)
        (refine rgP 10 hS (fun _ h => h) ?_; go_frame)
        (first | (refine rgP 11 hS (fun _ h => h) ?_; go_frame) | (refine rgN 11 hS (fun _ h => h) ?_; go_frame))
        (first | (refine rgP 12 hS (fun _ h => h) ?_; go_frame) | (refine rgN 12 hS (fun _ h => h) ?_; go_frame))
        (first | (refine rgP 13 hS (fun _ h => h) ?_; go_frame) | (refine rgN 13 hS (fun _ h => h) ?_; go_frame))
        (first | (refine rgR 14 hS (fun _ h => h) ?_; (first | refine ⟨_, yLd _ _ (by rfl) _ _ (by rfl) (agOf (by rfl)) (by repeat first | exact Has.z | apply Has.s) (by rfl), ?_⟩ | (refine ⟨_, fun u _ => rIdxS (by rfl) (by rfl) (by rfl) HX u, ?_⟩)); go_frame) | (refine rgN 14 hS (fun _ h => h) ?_; go_frame))
        (first | (refine rgP 15 hS (fun _ h => h) ?_; go_frame) | (refine rgN 15 hS (fun _ h => h) ?_; go_frame))
        (first | (refine rgP 16 hS (fun _ h => h) ?_; go_frame) | (refine rgN 16 hS (fun _ h => h) ?_; go_frame))
        (first | (refine rgP 17 hS (fun _ h => h) ?_; go_frame) | (refine rgN 17 hS (fun _ h => h) ?_; go_frame))
        (first | (refine rgR 18 hS (fun _ h => h) ?_; (first | refine ⟨_, yLd _ _ (by rfl) _ _ (by rfl) (agOf (by rfl)) (by repeat first | exact Has.z | apply Has.s) (by rfl), ?_⟩ | (refine ⟨_, fun u _ => rIdxS (by rfl) (by rfl) (by rfl) HX u, ?_⟩)); go_frame) | (refine rgN 18 hS (fun _ h => h) ?_; go_frame))
        (first | (refine rgR 19 hS (fun _ h => h) ?_; (first | refine ⟨_, yLd _ _ (by rfl) _ _ (by rfl) (agOf (by rfl)) (by repeat first | exact Has.z | apply Has.s) (by rfl), ?_⟩ | (refine ⟨_, fun u _ => rIdxS (by rfl) (by rfl) (by rfl) HX u, ?_⟩)); go_frame) | (refine rgN 19 hS (fun _ h => h) ?_; go_frame))
        (first | (refine rgP 20 hS (fun _ h => h) ?_; go_frame) | (refine rgN 20 hS (fun _ h => h) ?_; go_frame))
        (refine rgP 21 hS (fun _ h => h) ?_; go_frame)
        refine regDone (by kernel_rfl) ?_
        go_wp2_with (first
          | (refine toList (by rfl) ?_; refine ld hS _ _ (by rfl) _ _ (by rfl) (agOf (by rfl)) (by repeat first | exact Has.z | apply Has.s) (by rfl) ?_)
          | (refine toList (by rfl) ?_; refine st hS _ _ _ (by rfl) _ _ (by rfl) _ (by first | exact evC | exact evT (by rfl)) (by rfl) (szOf (by rfl)) (by repeat first | exact Has.z | apply Has.s) (by exact Nat.le_of_ble_eq_true rfl) ?_; intro w1 hS1; clear hS; have hS := hS1; clear hS1; dsimp only [List.set] at hS))
        have hS2 : Sat W w1 (Cs px 47 [.string s, .int .i64 ((J + 1 : Nat) : Int), .int .i64 B] :: L) := hS
        go_frame
        go_roundw
        case rel => exact ⟨J + 1, by have := HJ1.out; omega, HLT.out, hS2⟩
        case measure =>
          have e := cellN_eq (hS2.cell (k := 0) (off := 1) Has.z rfl)
          have := HLT.out
          rw [HJ.out, e]; omega
      · have e1 : ((x.toNat : Int) == 32) = false := beq_eq_false_iff_ne.2 hx
        have e2 : (x.toNat == 32) = false := beq_eq_false_iff_ne.2 (by omega)
        clear hx
        go_wp2
        refine regStart [] hS (by kernel_rfl) rfl ?_
        intro w1 hS1
        clear hS; have hS := hS1; clear hS1
        (refine rgP 0 hS (fun _ h => h) ?_; go_frame)
        (refine rgP 1 hS (fun _ h => h) ?_; go_frame)
        (refine rgP 2 hS (fun _ h => h) ?_; go_frame)
        (refine rgR 3 hS (fun _ h => h) ?_; (first | refine ⟨_, yLd _ _ (by rfl) _ _ (by rfl) (agOf (by rfl)) (by repeat first | exact Has.z | apply Has.s) (by rfl), ?_⟩ | (refine ⟨_, fun u _ => rIdxS (by rfl) (by rfl) (by rfl) HX u, ?_⟩)); go_frame)
        (refine rgP 4 hS (fun _ h => h) ?_; go_frame)
        (refine rgP 5 hS (fun _ h => h) ?_; go_frame)
        (refine rgP 6 hS (fun _ h => h) ?_; go_frame)
        (refine rgR 7 hS (fun _ h => h) ?_; (first | refine ⟨_, yLd _ _ (by rfl) _ _ (by rfl) (agOf (by rfl)) (by repeat first | exact Has.z | apply Has.s) (by rfl), ?_⟩ | (refine ⟨_, fun u _ => rIdxS (by rfl) (by rfl) (by rfl) HX u, ?_⟩)); go_frame)
        (refine rgP 8 hS (fun _ h => h) ?_; go_frame)
        (refine rgP 9 hS (fun _ h => h) ?_; go_frame)
        (refine rgP 10 hS (fun _ h => h) ?_; go_frame)
        (first | (refine rgP 11 hS (fun _ h => h) ?_; go_frame) | (refine rgN 11 hS (fun _ h => h) ?_; go_frame))
        (first | (refine rgP 12 hS (fun _ h => h) ?_; go_frame) | (refine rgN 12 hS (fun _ h => h) ?_; go_frame))
        (first | (refine rgP 13 hS (fun _ h => h) ?_; go_frame) | (refine rgN 13 hS (fun _ h => h) ?_; go_frame))
        (first | (refine rgR 14 hS (fun _ h => h) ?_; (first | refine ⟨_, yLd _ _ (by rfl) _ _ (by rfl) (agOf (by rfl)) (by repeat first | exact Has.z | apply Has.s) (by rfl), ?_⟩ | (refine ⟨_, fun u _ => rIdxS (by rfl) (by rfl) (by rfl) HX u, ?_⟩)); go_frame) | (refine rgN 14 hS (fun _ h => h) ?_; go_frame))
        (first | (refine rgP 15 hS (fun _ h => h) ?_; go_frame) | (refine rgN 15 hS (fun _ h => h) ?_; go_frame))
        (first | (refine rgP 16 hS (fun _ h => h) ?_; go_frame) | (refine rgN 16 hS (fun _ h => h) ?_; go_frame))
        (first | (refine rgP 17 hS (fun _ h => h) ?_; go_frame) | (refine rgN 17 hS (fun _ h => h) ?_; go_frame))
        (first | (refine rgR 18 hS (fun _ h => h) ?_; (first | refine ⟨_, yLd _ _ (by rfl) _ _ (by rfl) (agOf (by rfl)) (by repeat first | exact Has.z | apply Has.s) (by rfl), ?_⟩ | (refine ⟨_, fun u _ => rIdxS (by rfl) (by rfl) (by rfl) HX u, ?_⟩)); go_frame) | (refine rgN 18 hS (fun _ h => h) ?_; go_frame))
        (first | (refine rgR 19 hS (fun _ h => h) ?_; (first | refine ⟨_, yLd _ _ (by rfl) _ _ (by rfl) (agOf (by rfl)) (by repeat first | exact Has.z | apply Has.s) (by rfl), ?_⟩ | (refine ⟨_, fun u _ => rIdxS (by rfl) (by rfl) (by rfl) HX u, ?_⟩)); go_frame) | (refine rgN 19 hS (fun _ h => h) ?_; go_frame))
        (first | (refine rgP 20 hS (fun _ h => h) ?_; go_frame) | (refine rgN 20 hS (fun _ h => h) ?_; go_frame))
        (refine rgP 21 hS (fun _ h => h) ?_; go_frame)
        refine regDone (by kernel_rfl) ?_
        go_wp2
        go_end0
        exact ⟨_, rfl, J, HJ1.out, HJ2.out, hS⟩
    · have k1 : ¬ (J : Int) < (s.size : Int) := by omega
      have k2 : decide ((J : Int) < (s.size : Int)) = false := decide_eq_false k1
      have k3 : decide (J < s.size) = false := decide_eq_false hlt
      clear hlt h2
      go_wp2
      refine regStart [] hS (by kernel_rfl) rfl ?_
      intro w1 hS1
      clear hS; have hS := hS1; clear hS1
      (refine rgP 0 hS (fun _ h => h) ?_; go_frame)
      (refine rgP 1 hS (fun _ h => h) ?_; go_frame)
      (refine rgP 2 hS (fun _ h => h) ?_; go_frame)
      (refine rgR 3 hS (fun _ h => h) ?_; (first | refine ⟨_, yLd _ _ (by rfl) _ _ (by rfl) (agOf (by rfl)) (by repeat first | exact Has.z | apply Has.s) (by rfl), ?_⟩ | (refine ⟨_, fun u _ => rIdxS (by rfl) (by rfl) (by rfl) HX u, ?_⟩)); go_frame)
      (refine rgP 4 hS (fun _ h => h) ?_; go_frame)
      (refine rgP 5 hS (fun _ h => h) ?_; go_frame)
      (refine rgP 6 hS (fun _ h => h) ?_; go_frame)
      (refine rgR 7 hS (fun _ h => h) ?_; (first | refine ⟨_, yLd _ _ (by rfl) _ _ (by rfl) (agOf (by rfl)) (by repeat first | exact Has.z | apply Has.s) (by rfl), ?_⟩ | (refine ⟨_, fun u _ => rIdxS (by rfl) (by rfl) (by rfl) HX u, ?_⟩)); go_frame)
      (refine rgP 8 hS (fun _ h => h) ?_; go_frame)
      (refine rgP 9 hS (fun _ h => h) ?_; go_frame)
      (refine rgP 10 hS (fun _ h => h) ?_; go_frame)
      (first | (refine rgP 11 hS (fun _ h => h) ?_; go_frame) | (refine rgN 11 hS (fun _ h => h) ?_; go_frame))
      (first | (refine rgP 12 hS (fun _ h => h) ?_; go_frame) | (refine rgN 12 hS (fun _ h => h) ?_; go_frame))
      (first | (refine rgP 13 hS (fun _ h => h) ?_; go_frame) | (refine rgN 13 hS (fun _ h => h) ?_; go_frame))
      (first | (refine rgR 14 hS (fun _ h => h) ?_; (first | refine ⟨_, yLd _ _ (by rfl) _ _ (by rfl) (agOf (by rfl)) (by repeat first | exact Has.z | apply Has.s) (by rfl), ?_⟩ | (refine ⟨_, fun u _ => rIdxS (by rfl) (by rfl) (by rfl) HX u, ?_⟩)); go_frame) | (refine rgN 14 hS (fun _ h => h) ?_; go_frame))
      (first | (refine rgP 15 hS (fun _ h => h) ?_; go_frame) | (refine rgN 15 hS (fun _ h => h) ?_; go_frame))
      (first | (refine rgP 16 hS (fun _ h => h) ?_; go_frame) | (refine rgN 16 hS (fun _ h => h) ?_; go_frame))
      (first | (refine rgP 17 hS (fun _ h => h) ?_; go_frame) | (refine rgN 17 hS (fun _ h => h) ?_; go_frame))
      (first | (refine rgR 18 hS (fun _ h => h) ?_; (first | refine ⟨_, yLd _ _ (by rfl) _ _ (by rfl) (agOf (by rfl)) (by repeat first | exact Has.z | apply Has.s) (by rfl), ?_⟩ | (refine ⟨_, fun u _ => rIdxS (by rfl) (by rfl) (by rfl) HX u, ?_⟩)); go_frame) | (refine rgN 18 hS (fun _ h => h) ?_; go_frame))
      (first | (refine rgR 19 hS (fun _ h => h) ?_; (first | refine ⟨_, yLd _ _ (by rfl) _ _ (by rfl) (agOf (by rfl)) (by repeat first | exact Has.z | apply Has.s) (by rfl), ?_⟩ | (refine ⟨_, fun u _ => rIdxS (by rfl) (by rfl) (by rfl) HX u, ?_⟩)); go_frame) | (refine rgN 19 hS (fun _ h => h) ?_; go_frame))
      (first | (refine rgP 20 hS (fun _ h => h) ?_; go_frame) | (refine rgN 20 hS (fun _ h => h) ?_; go_frame))
      (refine rgP 21 hS (fun _ h => h) ?_; go_frame)
      refine regDone (by kernel_rfl) ?_
      go_wp2
      go_end0
      exact ⟨_, rfl, J, HJ1.out, HJ2.out, hS⟩
set_option maxRecDepth 20000 in
set_option maxHeartbeats 2000000 in
theorem wrong_any {W w : World} {L : List Asrt} {px : Nat} {s : ByteArray} {I : Nat} {B : Int} (hS : Sat W w (Cs px 47 [.string s, .int .i64 (I : Int), .int .i64 B] :: L)) (hI : I ≤ s.size) (hs : s.size ≤ 200) :
    Calls Tryz.prog 16 #[.pointer (some ⟨px, 0, none⟩)] w fun e w' => ∃ u, e = .returned u ∧ WrgP W 47 px s I L w' := by
  have HB := Lib.hid (blanks_any hS hI hs)
  clear hI hs hS
  by_cases hb : B < 0
  · have e1 : decide (B < 0) = true := decide_eq_true hb
    go_enter Tryz.func16, Tryz.ntmps16
    go_wp2_with (first
      | (go_at_call 15; refine HB.out.mono ?_; rintro e w1 ⟨u, rfl, J, h1, h2, hS⟩; have H1 := Lib.hid h1; have H2 := Lib.hid h2; clear h1 h2)
      | (refine toList (by rfl) ?_; refine ld hS _ _ (by rfl) _ _ (by rfl) (agOf (by rfl)) (by repeat first | exact Has.z | apply Has.s) (by rfl) ?_)
      | (refine toList (by rfl) ?_; refine st hS _ _ _ (by rfl) _ _ (by rfl) _ (by first | exact evC | exact evT (by rfl)) (by rfl) (szOf (by rfl)) (by repeat first | exact Has.z | apply Has.s) (by exact Nat.le_of_ble_eq_true rfl) ?_; intro w1 hS1; clear hS; have hS := hS1; clear hS1; dsimp only [List.set] at hS))
    go_end0
    first | exact ⟨⟨_, rfl⟩, J, _, H1.out, H2.out, hS⟩ | exact ⟨_, rfl, J, _, H1.out, H2.out, hS⟩
  · have e1 : decide (B < 0) = false := decide_eq_false hb
    go_enter Tryz.func16, Tryz.ntmps16
    go_wp2_with (first
      | (go_at_call 15; refine HB.out.mono ?_; rintro e w1 ⟨u, rfl, J, h1, h2, hS⟩; have H1 := Lib.hid h1; have H2 := Lib.hid h2; clear h1 h2)
      | (refine toList (by rfl) ?_; refine ld hS _ _ (by rfl) _ _ (by rfl) (agOf (by rfl)) (by repeat first | exact Has.z | apply Has.s) (by rfl) ?_))
    go_end0
    first | exact ⟨⟨_, rfl⟩, J, _, H1.out, H2.out, hS⟩ | exact ⟨_, rfl, J, _, H1.out, H2.out, hS⟩
set_option maxRecDepth 20000 in
set_option maxHeartbeats 4000000 in
theorem sign_any {W w : World} {L : List Asrt} {px : Nat} {s : ByteArray} {I : Nat} {B : Int} (hS : Sat W w (Cs px 47 [.string s, .int .i64 (I : Int), .int .i64 B] :: L)) (hI : I ≤ s.size) (hs : s.size ≤ 200) (c : Int) :
    Calls Tryz.prog 66 #[.pointer (some ⟨px, 0, none⟩), .int .u8 c] w fun e w' => ∃ v, e = .returned v ∧ SgnP W 47 px s I B L v w' := by
  have HB := Lib.hid (blanks_any hS hI hs)
  have hsi : (s.size : Int) ≤ 200 := by omega
  clear hI hs hS
  go_enter Tryz.func66, Tryz.ntmps66
  go_wp2_with (go_at_call 15; refine HB.out.mono ?_; rintro e w1 ⟨u, rfl, J, h1, h2, hS⟩; have H1 := Lib.hid h1; have H2 := Lib.hid h2; clear h1)
  by_cases hb : 0 ≤ B
  · have e1 : decide (0 ≤ B) = true := decide_eq_true hb
    clear h2
    refine regStart [] hS (by kernel_rfl) rfl ?_
    intro w1 hS1
    clear hS; have hS := hS1; clear hS1
    (refine rgP 0 hS (fun _ h => h) ?_; go_frame)
    (refine rgP 1 hS (fun _ h => h) ?_; go_frame)
    (refine rgP 2 hS (fun _ h => h) ?_; go_frame)
    (refine rgR 3 hS (fun _ h => h) ?_; (first | refine ⟨_, yLd _ _ (by rfl) _ _ (by rfl) (agOf (by rfl)) (by repeat first | exact Has.z | apply Has.s) (by rfl), ?_⟩ | (refine ⟨_, fun u _ => rIdxS (by rfl) (by rfl) (by rfl) HX u, ?_⟩)); go_frame)
    (refine rgP 4 hS (fun _ h => h) ?_; go_frame)
    (refine rgP 5 hS (fun _ h => h) ?_; go_frame)
    (first | (refine rgP 6 hS (fun _ h => h) ?_; go_frame) | (refine rgN 6 hS (fun _ h => h) ?_; go_frame))
    (first | (refine rgP 7 hS (fun _ h => h) ?_; go_frame) | (refine rgN 7 hS (fun _ h => h) ?_; go_frame))
    (first | (refine rgP 8 hS (fun _ h => h) ?_; go_frame) | (refine rgN 8 hS (fun _ h => h) ?_; go_frame))
    (first | (refine rgR 9 hS (fun _ h => h) ?_; (first | refine ⟨_, yLd _ _ (by rfl) _ _ (by rfl) (agOf (by rfl)) (by repeat first | exact Has.z | apply Has.s) (by rfl), ?_⟩ | (refine ⟨_, fun u _ => rIdxS (by rfl) (by rfl) (by rfl) HX u, ?_⟩)); go_frame) | (refine rgN 9 hS (fun _ h => h) ?_; go_frame))
    (first | (refine rgP 10 hS (fun _ h => h) ?_; go_frame) | (refine rgN 10 hS (fun _ h => h) ?_; go_frame))
    (first | (refine rgP 11 hS (fun _ h => h) ?_; go_frame) | (refine rgN 11 hS (fun _ h => h) ?_; go_frame))
    (first | (refine rgP 12 hS (fun _ h => h) ?_; go_frame) | (refine rgN 12 hS (fun _ h => h) ?_; go_frame))
    (first | (refine rgR 13 hS (fun _ h => h) ?_; (first | refine ⟨_, yLd _ _ (by rfl) _ _ (by rfl) (agOf (by rfl)) (by repeat first | exact Has.z | apply Has.s) (by rfl), ?_⟩ | (refine ⟨_, fun u _ => rIdxS (by rfl) (by rfl) (by rfl) HX u, ?_⟩)); go_frame) | (refine rgN 13 hS (fun _ h => h) ?_; go_frame))
    (first | (refine rgP 14 hS (fun _ h => h) ?_; go_frame) | (refine rgN 14 hS (fun _ h => h) ?_; go_frame))
    (first | (refine rgP 15 hS (fun _ h => h) ?_; go_frame) | (refine rgN 15 hS (fun _ h => h) ?_; go_frame))
    (refine rgP 16 hS (fun _ h => h) ?_; go_frame)
    (refine rgP 17 hS (fun _ h => h) ?_; go_frame)
    (first | (refine rgP 18 hS (fun _ h => h) ?_; go_frame) | (refine rgN 18 hS (fun _ h => h) ?_; go_frame))
    (first | (refine rgP 19 hS (fun _ h => h) ?_; go_frame) | (refine rgN 19 hS (fun _ h => h) ?_; go_frame))
    (first | (refine rgP 20 hS (fun _ h => h) ?_; go_frame) | (refine rgN 20 hS (fun _ h => h) ?_; go_frame))
    (first | (refine rgR 21 hS (fun _ h => h) ?_; (first | refine ⟨_, yLd _ _ (by rfl) _ _ (by rfl) (agOf (by rfl)) (by repeat first | exact Has.z | apply Has.s) (by rfl), ?_⟩ | (refine ⟨_, fun u _ => rIdxS (by rfl) (by rfl) (by rfl) HX u, ?_⟩)); go_frame) | (refine rgN 21 hS (fun _ h => h) ?_; go_frame))
    (first | (refine rgP 22 hS (fun _ h => h) ?_; go_frame) | (refine rgN 22 hS (fun _ h => h) ?_; go_frame))
    (first | (refine rgP 23 hS (fun _ h => h) ?_; go_frame) | (refine rgN 23 hS (fun _ h => h) ?_; go_frame))
    (first | (refine rgP 24 hS (fun _ h => h) ?_; go_frame) | (refine rgN 24 hS (fun _ h => h) ?_; go_frame))
    (first | (refine rgR 25 hS (fun _ h => h) ?_; (first | refine ⟨_, yLd _ _ (by rfl) _ _ (by rfl) (agOf (by rfl)) (by repeat first | exact Has.z | apply Has.s) (by rfl), ?_⟩ | (refine ⟨_, fun u _ => rIdxS (by rfl) (by rfl) (by rfl) HX u, ?_⟩)); go_frame) | (refine rgN 25 hS (fun _ h => h) ?_; go_frame))
    (first | (refine rgR 26 hS (fun _ h => h) ?_; (first | refine ⟨_, yLd _ _ (by rfl) _ _ (by rfl) (agOf (by rfl)) (by repeat first | exact Has.z | apply Has.s) (by rfl), ?_⟩ | (refine ⟨_, fun u _ => rIdxS (by rfl) (by rfl) (by rfl) HX u, ?_⟩)); go_frame) | (refine rgN 26 hS (fun _ h => h) ?_; go_frame))
    (first | (refine rgP 27 hS (fun _ h => h) ?_; go_frame) | (refine rgN 27 hS (fun _ h => h) ?_; go_frame))
    (first | (refine rgP 28 hS (fun _ h => h) ?_; go_frame) | (refine rgN 28 hS (fun _ h => h) ?_; go_frame))
    (refine rgP 29 hS (fun _ h => h) ?_; go_frame)
    refine regDone (by kernel_rfl) ?_
    go_wp2
    go_ret
    exact ⟨_, rfl, J, false, rfl, H1.out, H2.out, (fun h => by cases h), hS⟩
  · have e1 : decide (0 ≤ B) = false := decide_eq_false hb
    by_cases hlt : J < s.size
    · have k1 : (J : Int) < (s.size : Int) := by omega
      have k2 : decide ((s.size : Int) ≤ (J : Int)) = false := decide_eq_false (by omega)
      have k3 : decide (s.size ≤ J) = false := decide_eq_false (by omega)
      have HLT := Lib.hid hlt
      obtain ⟨x, HX⟩ := chr_any hlt
      clear hlt h2
      by_cases hx : (x.toNat : Int) = c
      · have e2 : ((x.toNat : Int) == c) = true := beq_iff_eq.2 hx
        have e3 : (!((x.toNat : Int) == c)) = false := by rw [e2]; rfl
        clear hx
        refine regStart [] hS (by kernel_rfl) rfl ?_
        intro w1 hS1
        clear hS; have hS := hS1; clear hS1
        (refine rgP 0 hS (fun _ h => h) ?_; go_frame)
        (refine rgP 1 hS (fun _ h => h) ?_; go_frame)
        (refine rgP 2 hS (fun _ h => h) ?_; go_frame)
        (refine rgR 3 hS (fun _ h => h) ?_; (first | refine ⟨_, yLd _ _ (by rfl) _ _ (by rfl) (agOf (by rfl)) (by repeat first | exact Has.z | apply Has.s) (by rfl), ?_⟩ | (refine ⟨_, fun u _ => rIdxS (by rfl) (by rfl) (by rfl) HX u, ?_⟩)); go_frame)
        (refine rgP 4 hS (fun _ h => h) ?_; go_frame)
        (refine rgP 5 hS (fun _ h => h) ?_; go_frame)
        (first | (refine rgP 6 hS (fun _ h => h) ?_; go_frame) | (refine rgN 6 hS (fun _ h => h) ?_; go_frame))
        (first | (refine rgP 7 hS (fun _ h => h) ?_; go_frame) | (refine rgN 7 hS (fun _ h => h) ?_; go_frame))
        (first | (refine rgP 8 hS (fun _ h => h) ?_; go_frame) | (refine rgN 8 hS (fun _ h => h) ?_; go_frame))
        (first | (refine rgR 9 hS (fun _ h => h) ?_; (first | refine ⟨_, yLd _ _ (by rfl) _ _ (by rfl) (agOf (by rfl)) (by repeat first | exact Has.z | apply Has.s) (by rfl), ?_⟩ | (refine ⟨_, fun u _ => rIdxS (by rfl) (by rfl) (by rfl) HX u, ?_⟩)); go_frame) | (refine rgN 9 hS (fun _ h => h) ?_; go_frame))
        (first | (refine rgP 10 hS (fun _ h => h) ?_; go_frame) | (refine rgN 10 hS (fun _ h => h) ?_; go_frame))
        (first | (refine rgP 11 hS (fun _ h => h) ?_; go_frame) | (refine rgN 11 hS (fun _ h => h) ?_; go_frame))
        (first | (refine rgP 12 hS (fun _ h => h) ?_; go_frame) | (refine rgN 12 hS (fun _ h => h) ?_; go_frame))
        (first | (refine rgR 13 hS (fun _ h => h) ?_; (first | refine ⟨_, yLd _ _ (by rfl) _ _ (by rfl) (agOf (by rfl)) (by repeat first | exact Has.z | apply Has.s) (by rfl), ?_⟩ | (refine ⟨_, fun u _ => rIdxS (by rfl) (by rfl) (by rfl) HX u, ?_⟩)); go_frame) | (refine rgN 13 hS (fun _ h => h) ?_; go_frame))
        (first | (refine rgP 14 hS (fun _ h => h) ?_; go_frame) | (refine rgN 14 hS (fun _ h => h) ?_; go_frame))
        (first | (refine rgP 15 hS (fun _ h => h) ?_; go_frame) | (refine rgN 15 hS (fun _ h => h) ?_; go_frame))
        (refine rgP 16 hS (fun _ h => h) ?_; go_frame)
        (refine rgP 17 hS (fun _ h => h) ?_; go_frame)
        (first | (refine rgP 18 hS (fun _ h => h) ?_; go_frame) | (refine rgN 18 hS (fun _ h => h) ?_; go_frame))
        (first | (refine rgP 19 hS (fun _ h => h) ?_; go_frame) | (refine rgN 19 hS (fun _ h => h) ?_; go_frame))
        (first | (refine rgP 20 hS (fun _ h => h) ?_; go_frame) | (refine rgN 20 hS (fun _ h => h) ?_; go_frame))
        (first | (refine rgR 21 hS (fun _ h => h) ?_; (first | refine ⟨_, yLd _ _ (by rfl) _ _ (by rfl) (agOf (by rfl)) (by repeat first | exact Has.z | apply Has.s) (by rfl), ?_⟩ | (refine ⟨_, fun u _ => rIdxS (by rfl) (by rfl) (by rfl) HX u, ?_⟩)); go_frame) | (refine rgN 21 hS (fun _ h => h) ?_; go_frame))
        (first | (refine rgP 22 hS (fun _ h => h) ?_; go_frame) | (refine rgN 22 hS (fun _ h => h) ?_; go_frame))
        (first | (refine rgP 23 hS (fun _ h => h) ?_; go_frame) | (refine rgN 23 hS (fun _ h => h) ?_; go_frame))
        (first | (refine rgP 24 hS (fun _ h => h) ?_; go_frame) | (refine rgN 24 hS (fun _ h => h) ?_; go_frame))
        (first | (refine rgR 25 hS (fun _ h => h) ?_; (first | refine ⟨_, yLd _ _ (by rfl) _ _ (by rfl) (agOf (by rfl)) (by repeat first | exact Has.z | apply Has.s) (by rfl), ?_⟩ | (refine ⟨_, fun u _ => rIdxS (by rfl) (by rfl) (by rfl) HX u, ?_⟩)); go_frame) | (refine rgN 25 hS (fun _ h => h) ?_; go_frame))
        (first | (refine rgR 26 hS (fun _ h => h) ?_; (first | refine ⟨_, yLd _ _ (by rfl) _ _ (by rfl) (agOf (by rfl)) (by repeat first | exact Has.z | apply Has.s) (by rfl), ?_⟩ | (refine ⟨_, fun u _ => rIdxS (by rfl) (by rfl) (by rfl) HX u, ?_⟩)); go_frame) | (refine rgN 26 hS (fun _ h => h) ?_; go_frame))
        (first | (refine rgP 27 hS (fun _ h => h) ?_; go_frame) | (refine rgN 27 hS (fun _ h => h) ?_; go_frame))
        (first | (refine rgP 28 hS (fun _ h => h) ?_; go_frame) | (refine rgN 28 hS (fun _ h => h) ?_; go_frame))
        (refine rgP 29 hS (fun _ h => h) ?_; go_frame)
        refine regDone (by kernel_rfl) ?_
        go_wp2_with (first
          | (refine toList (by rfl) ?_; refine ld hS _ _ (by rfl) _ _ (by rfl) (agOf (by rfl)) (by repeat first | exact Has.z | apply Has.s) (by rfl) ?_)
          | (refine toList (by rfl) ?_; refine st hS _ _ _ (by rfl) _ _ (by rfl) _ (by first | exact evC | exact evT (by rfl)) (by rfl) (szOf (by rfl)) (by repeat first | exact Has.z | apply Has.s) (by exact Nat.le_of_ble_eq_true rfl) ?_; intro w1 hS1; clear hS; have hS := hS1; clear hS1; dsimp only [List.set] at hS))
        go_ret
        exact ⟨_, rfl, J + 1, true, rfl, by have := H1.out; omega, HLT.out, (fun _ => by have := H1.out; omega), hS⟩
      · have e2 : ((x.toNat : Int) == c) = false := beq_eq_false_iff_ne.2 hx
        have e3 : (!((x.toNat : Int) == c)) = true := by rw [e2]; rfl
        clear hx
        refine regStart [] hS (by kernel_rfl) rfl ?_
        intro w1 hS1
        clear hS; have hS := hS1; clear hS1
        (refine rgP 0 hS (fun _ h => h) ?_; go_frame)
        (refine rgP 1 hS (fun _ h => h) ?_; go_frame)
        (refine rgP 2 hS (fun _ h => h) ?_; go_frame)
        (refine rgR 3 hS (fun _ h => h) ?_; (first | refine ⟨_, yLd _ _ (by rfl) _ _ (by rfl) (agOf (by rfl)) (by repeat first | exact Has.z | apply Has.s) (by rfl), ?_⟩ | (refine ⟨_, fun u _ => rIdxS (by rfl) (by rfl) (by rfl) HX u, ?_⟩)); go_frame)
        (refine rgP 4 hS (fun _ h => h) ?_; go_frame)
        (refine rgP 5 hS (fun _ h => h) ?_; go_frame)
        (first | (refine rgP 6 hS (fun _ h => h) ?_; go_frame) | (refine rgN 6 hS (fun _ h => h) ?_; go_frame))
        (first | (refine rgP 7 hS (fun _ h => h) ?_; go_frame) | (refine rgN 7 hS (fun _ h => h) ?_; go_frame))
        (first | (refine rgP 8 hS (fun _ h => h) ?_; go_frame) | (refine rgN 8 hS (fun _ h => h) ?_; go_frame))
        (first | (refine rgR 9 hS (fun _ h => h) ?_; (first | refine ⟨_, yLd _ _ (by rfl) _ _ (by rfl) (agOf (by rfl)) (by repeat first | exact Has.z | apply Has.s) (by rfl), ?_⟩ | (refine ⟨_, fun u _ => rIdxS (by rfl) (by rfl) (by rfl) HX u, ?_⟩)); go_frame) | (refine rgN 9 hS (fun _ h => h) ?_; go_frame))
        (first | (refine rgP 10 hS (fun _ h => h) ?_; go_frame) | (refine rgN 10 hS (fun _ h => h) ?_; go_frame))
        (first | (refine rgP 11 hS (fun _ h => h) ?_; go_frame) | (refine rgN 11 hS (fun _ h => h) ?_; go_frame))
        (first | (refine rgP 12 hS (fun _ h => h) ?_; go_frame) | (refine rgN 12 hS (fun _ h => h) ?_; go_frame))
        (first | (refine rgR 13 hS (fun _ h => h) ?_; (first | refine ⟨_, yLd _ _ (by rfl) _ _ (by rfl) (agOf (by rfl)) (by repeat first | exact Has.z | apply Has.s) (by rfl), ?_⟩ | (refine ⟨_, fun u _ => rIdxS (by rfl) (by rfl) (by rfl) HX u, ?_⟩)); go_frame) | (refine rgN 13 hS (fun _ h => h) ?_; go_frame))
        (first | (refine rgP 14 hS (fun _ h => h) ?_; go_frame) | (refine rgN 14 hS (fun _ h => h) ?_; go_frame))
        (first | (refine rgP 15 hS (fun _ h => h) ?_; go_frame) | (refine rgN 15 hS (fun _ h => h) ?_; go_frame))
        (refine rgP 16 hS (fun _ h => h) ?_; go_frame)
        (refine rgP 17 hS (fun _ h => h) ?_; go_frame)
        (first | (refine rgP 18 hS (fun _ h => h) ?_; go_frame) | (refine rgN 18 hS (fun _ h => h) ?_; go_frame))
        (first | (refine rgP 19 hS (fun _ h => h) ?_; go_frame) | (refine rgN 19 hS (fun _ h => h) ?_; go_frame))
        (first | (refine rgP 20 hS (fun _ h => h) ?_; go_frame) | (refine rgN 20 hS (fun _ h => h) ?_; go_frame))
        (first | (refine rgR 21 hS (fun _ h => h) ?_; (first | refine ⟨_, yLd _ _ (by rfl) _ _ (by rfl) (agOf (by rfl)) (by repeat first | exact Has.z | apply Has.s) (by rfl), ?_⟩ | (refine ⟨_, fun u _ => rIdxS (by rfl) (by rfl) (by rfl) HX u, ?_⟩)); go_frame) | (refine rgN 21 hS (fun _ h => h) ?_; go_frame))
        (first | (refine rgP 22 hS (fun _ h => h) ?_; go_frame) | (refine rgN 22 hS (fun _ h => h) ?_; go_frame))
        (first | (refine rgP 23 hS (fun _ h => h) ?_; go_frame) | (refine rgN 23 hS (fun _ h => h) ?_; go_frame))
        (first | (refine rgP 24 hS (fun _ h => h) ?_; go_frame) | (refine rgN 24 hS (fun _ h => h) ?_; go_frame))
        (first | (refine rgR 25 hS (fun _ h => h) ?_; (first | refine ⟨_, yLd _ _ (by rfl) _ _ (by rfl) (agOf (by rfl)) (by repeat first | exact Has.z | apply Has.s) (by rfl), ?_⟩ | (refine ⟨_, fun u _ => rIdxS (by rfl) (by rfl) (by rfl) HX u, ?_⟩)); go_frame) | (refine rgN 25 hS (fun _ h => h) ?_; go_frame))
        (first | (refine rgR 26 hS (fun _ h => h) ?_; (first | refine ⟨_, yLd _ _ (by rfl) _ _ (by rfl) (agOf (by rfl)) (by repeat first | exact Has.z | apply Has.s) (by rfl), ?_⟩ | (refine ⟨_, fun u _ => rIdxS (by rfl) (by rfl) (by rfl) HX u, ?_⟩)); go_frame) | (refine rgN 26 hS (fun _ h => h) ?_; go_frame))
        (first | (refine rgP 27 hS (fun _ h => h) ?_; go_frame) | (refine rgN 27 hS (fun _ h => h) ?_; go_frame))
        (first | (refine rgP 28 hS (fun _ h => h) ?_; go_frame) | (refine rgN 28 hS (fun _ h => h) ?_; go_frame))
        (refine rgP 29 hS (fun _ h => h) ?_; go_frame)
        refine regDone (by kernel_rfl) ?_
        go_wp2
        go_ret
        exact ⟨_, rfl, J, false, rfl, H1.out, H2.out, (fun h => by cases h), hS⟩
    · have k1 : ¬ (J : Int) < (s.size : Int) := by omega
      have k2 : decide ((s.size : Int) ≤ (J : Int)) = true := decide_eq_true (by omega)
      have k3 : decide (s.size ≤ J) = true := decide_eq_true (by omega)
      clear hlt h2
      refine regStart [] hS (by kernel_rfl) rfl ?_
      intro w1 hS1
      clear hS; have hS := hS1; clear hS1
      (refine rgP 0 hS (fun _ h => h) ?_; go_frame)
      (refine rgP 1 hS (fun _ h => h) ?_; go_frame)
      (refine rgP 2 hS (fun _ h => h) ?_; go_frame)
      (refine rgR 3 hS (fun _ h => h) ?_; (first | refine ⟨_, yLd _ _ (by rfl) _ _ (by rfl) (agOf (by rfl)) (by repeat first | exact Has.z | apply Has.s) (by rfl), ?_⟩ | (refine ⟨_, fun u _ => rIdxS (by rfl) (by rfl) (by rfl) HX u, ?_⟩)); go_frame)
      (refine rgP 4 hS (fun _ h => h) ?_; go_frame)
      (refine rgP 5 hS (fun _ h => h) ?_; go_frame)
      (first | (refine rgP 6 hS (fun _ h => h) ?_; go_frame) | (refine rgN 6 hS (fun _ h => h) ?_; go_frame))
      (first | (refine rgP 7 hS (fun _ h => h) ?_; go_frame) | (refine rgN 7 hS (fun _ h => h) ?_; go_frame))
      (first | (refine rgP 8 hS (fun _ h => h) ?_; go_frame) | (refine rgN 8 hS (fun _ h => h) ?_; go_frame))
      (first | (refine rgR 9 hS (fun _ h => h) ?_; (first | refine ⟨_, yLd _ _ (by rfl) _ _ (by rfl) (agOf (by rfl)) (by repeat first | exact Has.z | apply Has.s) (by rfl), ?_⟩ | (refine ⟨_, fun u _ => rIdxS (by rfl) (by rfl) (by rfl) HX u, ?_⟩)); go_frame) | (refine rgN 9 hS (fun _ h => h) ?_; go_frame))
      (first | (refine rgP 10 hS (fun _ h => h) ?_; go_frame) | (refine rgN 10 hS (fun _ h => h) ?_; go_frame))
      (first | (refine rgP 11 hS (fun _ h => h) ?_; go_frame) | (refine rgN 11 hS (fun _ h => h) ?_; go_frame))
      (first | (refine rgP 12 hS (fun _ h => h) ?_; go_frame) | (refine rgN 12 hS (fun _ h => h) ?_; go_frame))
      (first | (refine rgR 13 hS (fun _ h => h) ?_; (first | refine ⟨_, yLd _ _ (by rfl) _ _ (by rfl) (agOf (by rfl)) (by repeat first | exact Has.z | apply Has.s) (by rfl), ?_⟩ | (refine ⟨_, fun u _ => rIdxS (by rfl) (by rfl) (by rfl) HX u, ?_⟩)); go_frame) | (refine rgN 13 hS (fun _ h => h) ?_; go_frame))
      (first | (refine rgP 14 hS (fun _ h => h) ?_; go_frame) | (refine rgN 14 hS (fun _ h => h) ?_; go_frame))
      (first | (refine rgP 15 hS (fun _ h => h) ?_; go_frame) | (refine rgN 15 hS (fun _ h => h) ?_; go_frame))
      (refine rgP 16 hS (fun _ h => h) ?_; go_frame)
      (refine rgP 17 hS (fun _ h => h) ?_; go_frame)
      (first | (refine rgP 18 hS (fun _ h => h) ?_; go_frame) | (refine rgN 18 hS (fun _ h => h) ?_; go_frame))
      (first | (refine rgP 19 hS (fun _ h => h) ?_; go_frame) | (refine rgN 19 hS (fun _ h => h) ?_; go_frame))
      (first | (refine rgP 20 hS (fun _ h => h) ?_; go_frame) | (refine rgN 20 hS (fun _ h => h) ?_; go_frame))
      (first | (refine rgR 21 hS (fun _ h => h) ?_; (first | refine ⟨_, yLd _ _ (by rfl) _ _ (by rfl) (agOf (by rfl)) (by repeat first | exact Has.z | apply Has.s) (by rfl), ?_⟩ | (refine ⟨_, fun u _ => rIdxS (by rfl) (by rfl) (by rfl) HX u, ?_⟩)); go_frame) | (refine rgN 21 hS (fun _ h => h) ?_; go_frame))
      (first | (refine rgP 22 hS (fun _ h => h) ?_; go_frame) | (refine rgN 22 hS (fun _ h => h) ?_; go_frame))
      (first | (refine rgP 23 hS (fun _ h => h) ?_; go_frame) | (refine rgN 23 hS (fun _ h => h) ?_; go_frame))
      (first | (refine rgP 24 hS (fun _ h => h) ?_; go_frame) | (refine rgN 24 hS (fun _ h => h) ?_; go_frame))
      (first | (refine rgR 25 hS (fun _ h => h) ?_; (first | refine ⟨_, yLd _ _ (by rfl) _ _ (by rfl) (agOf (by rfl)) (by repeat first | exact Has.z | apply Has.s) (by rfl), ?_⟩ | (refine ⟨_, fun u _ => rIdxS (by rfl) (by rfl) (by rfl) HX u, ?_⟩)); go_frame) | (refine rgN 25 hS (fun _ h => h) ?_; go_frame))
      (first | (refine rgR 26 hS (fun _ h => h) ?_; (first | refine ⟨_, yLd _ _ (by rfl) _ _ (by rfl) (agOf (by rfl)) (by repeat first | exact Has.z | apply Has.s) (by rfl), ?_⟩ | (refine ⟨_, fun u _ => rIdxS (by rfl) (by rfl) (by rfl) HX u, ?_⟩)); go_frame) | (refine rgN 26 hS (fun _ h => h) ?_; go_frame))
      (first | (refine rgP 27 hS (fun _ h => h) ?_; go_frame) | (refine rgN 27 hS (fun _ h => h) ?_; go_frame))
      (first | (refine rgP 28 hS (fun _ h => h) ?_; go_frame) | (refine rgN 28 hS (fun _ h => h) ?_; go_frame))
      (refine rgP 29 hS (fun _ h => h) ?_; go_frame)
      refine regDone (by kernel_rfl) ?_
      go_wp2
      go_ret
      exact ⟨_, rfl, J, false, rfl, H1.out, H2.out, (fun h => by cases h), hS⟩
set_option maxRecDepth 20000 in
set_option maxHeartbeats 4000000 in
theorem run_any {W w : World} {L : List Asrt} {px : Nat} {s : ByteArray} {I : Nat} {B : Int} (hS : Sat W w (Cs px 47 [.string s, .int .i64 (I : Int), .int .i64 B] :: L)) (hI : I ≤ s.size) (hs : s.size ≤ 200) (fr to : Int) :
    Calls Tryz.prog 100 #[.pointer (some ⟨px, 0, none⟩), .int .u8 fr, .int .u8 to] w fun e w' => ∃ v, e = .returned v ∧ RunP W 47 px s I B L v w' := by
  have HB := Lib.hid (blanks_any hS hI hs)
  have hsi : (s.size : Int) ≤ 200 := by omega
  clear hI hs hS
  go_enter Tryz.func100, Tryz.ntmps100
  go_wp2_with (first
    | (go_at_call 15; refine HB.out.mono ?_; rintro e w1 ⟨u, rfl, J, h1, h2, hS⟩; have H1 := Lib.hid h1; have H2 := Lib.hid h2; clear h1 h2)
    | (refine toList (by rfl) ?_; refine ld hS _ _ (by rfl) _ _ (by rfl) (agOf (by rfl)) (by repeat first | exact Has.z | apply Has.s) (by rfl) ?_))
  have H0 := Lib.hid hS
  go_loopw [7] (fun v wz => ∃ k : Nat, v = .int .i64 (k : Int) ∧ J ≤ k ∧ k ≤ s.size ∧ Sat W wz (Cs px 47 [.string s, .int .i64 (J : Int), .int .i64 B] :: L)) (fun v _ => s.size - (intOf v).toNat)
  case atStart => exact ⟨J, rfl, Nat.le_refl _, H2.out, H0.out⟩
  case round =>
    clear hS H0
    obtain ⟨k, rfl, h1, h2, hS⟩ := hrel
    have HK1 := Lib.hid h1
    have HK2 := Lib.hid h2
    clear h1 h2
    by_cases hlt : k < s.size
    · have k1 : (k : Int) < (s.size : Int) := by omega
      have k2 : decide ((k : Int) < (s.size : Int)) = true := decide_eq_true k1
      have k3 : decide (k < s.size) = true := decide_eq_true hlt
      have HLT := Lib.hid hlt
      obtain ⟨x, HX⟩ := chr_any hlt
      clear hlt
      by_cases ha : fr ≤ (x.toNat : Int)
      · have e1 : decide (fr ≤ (x.toNat : Int)) = true := decide_eq_true ha
        by_cases hb : (x.toNat : Int) ≤ to
        · have e2 : decide ((x.toNat : Int) ≤ to) = true := decide_eq_true hb
          go_wp2_with (first | (refine toList (by rfl) ?_; refine ld hS _ _ (by rfl) _ _ (by rfl) (agOf (by rfl)) (by repeat first | exact Has.z | apply Has.s) (by rfl) ?_) | (refine toList (by rfl) ?_; refine wp_of_reads (rIdxS (by rfl) (by rfl) (by rfl) HX _) ?_))
          exact ⟨⟨k + 1, by go_num, by have := HK1.out; omega, HLT.out, hS⟩, by simp [intOf]; have := HLT.out; omega⟩
        · have e2 : decide ((x.toNat : Int) ≤ to) = false := decide_eq_false hb
          go_wp2_with (first | (refine toList (by rfl) ?_; refine ld hS _ _ (by rfl) _ _ (by rfl) (agOf (by rfl)) (by repeat first | exact Has.z | apply Has.s) (by rfl) ?_) | (refine toList (by rfl) ?_; refine wp_of_reads (rIdxS (by rfl) (by rfl) (by rfl) HX _) ?_))
          refine regStart [] hS (by kernel_rfl) rfl ?_
          intro w1 hS1
          clear hS; have hS := hS1; clear hS1
          (refine rgP 0 hS (fun _ h => h) ?_; go_frame)
          (refine rgP 1 hS (fun _ h => h) ?_; go_frame)
          (refine rgP 2 hS (fun _ h => h) ?_; go_frame)
          (refine rgR 3 hS (fun _ h => h) ?_; (refine ⟨_, yLd _ _ (by rfl) _ _ (by rfl) (agOf (by rfl)) (by repeat first | exact Has.z | apply Has.s) (by rfl), ?_⟩); go_frame)
          (refine rgP 4 hS (fun _ h => h) ?_; go_frame)
          (refine rgP 5 hS (fun _ h => h) ?_; go_frame)
          (refine rgP 6 hS (fun _ h => h) ?_; go_frame)
          (refine rgR 7 hS (fun _ h => h) ?_; (refine ⟨_, yLd _ _ (by rfl) _ _ (by rfl) (agOf (by rfl)) (by repeat first | exact Has.z | apply Has.s) (by rfl), ?_⟩); go_frame)
          (refine rgP 8 hS (fun _ h => h) ?_; go_frame)
          (refine regP 9 hS (fun _ h => h) rfl (by kernel_rfl) (by kernel_rfl) (by kernel_rfl) (fun _ _ _ _ h => h) (by rfl) (by rfl) ?_; apply Exists.intro; apply And.intro; (intro w; first | exact rCutS (by rfl) (by rfl) (by rfl) (by rfl) Tryz.underlying9 HK1.out HK2.out w | (go_simp; try with_reducible rfl)); go_frame)
          (refine rgP 10 hS (fun _ h => h) ?_; go_frame)
          refine regDone (by kernel_rfl) ?_
          go_wp2
          go_ret
          exact ⟨_, rfl, J, _, rfl, H1.out, by have := HK1.out; have := HK2.out; simp only [ByteArray.size_extract]; omega, hS⟩
      · have e1 : decide (fr ≤ (x.toNat : Int)) = false := decide_eq_false ha
        go_wp2_with (first | (refine toList (by rfl) ?_; refine ld hS _ _ (by rfl) _ _ (by rfl) (agOf (by rfl)) (by repeat first | exact Has.z | apply Has.s) (by rfl) ?_) | (refine toList (by rfl) ?_; refine wp_of_reads (rIdxS (by rfl) (by rfl) (by rfl) HX _) ?_))
        refine regStart [] hS (by kernel_rfl) rfl ?_
        intro w1 hS1
        clear hS; have hS := hS1; clear hS1
        (refine rgP 0 hS (fun _ h => h) ?_; go_frame)
        (refine rgP 1 hS (fun _ h => h) ?_; go_frame)
        (refine rgP 2 hS (fun _ h => h) ?_; go_frame)
        (refine rgR 3 hS (fun _ h => h) ?_; (refine ⟨_, yLd _ _ (by rfl) _ _ (by rfl) (agOf (by rfl)) (by repeat first | exact Has.z | apply Has.s) (by rfl), ?_⟩); go_frame)
        (refine rgP 4 hS (fun _ h => h) ?_; go_frame)
        (refine rgP 5 hS (fun _ h => h) ?_; go_frame)
        (refine rgP 6 hS (fun _ h => h) ?_; go_frame)
        (refine rgR 7 hS (fun _ h => h) ?_; (refine ⟨_, yLd _ _ (by rfl) _ _ (by rfl) (agOf (by rfl)) (by repeat first | exact Has.z | apply Has.s) (by rfl), ?_⟩); go_frame)
        (refine rgP 8 hS (fun _ h => h) ?_; go_frame)
        (refine regP 9 hS (fun _ h => h) rfl (by kernel_rfl) (by kernel_rfl) (by kernel_rfl) (fun _ _ _ _ h => h) (by rfl) (by rfl) ?_; apply Exists.intro; apply And.intro; (intro w; first | exact rCutS (by rfl) (by rfl) (by rfl) (by rfl) Tryz.underlying9 HK1.out HK2.out w | (go_simp; try with_reducible rfl)); go_frame)
        (refine rgP 10 hS (fun _ h => h) ?_; go_frame)
        refine regDone (by kernel_rfl) ?_
        go_wp2
        go_ret
        exact ⟨_, rfl, J, _, rfl, H1.out, by have := HK1.out; have := HK2.out; simp only [ByteArray.size_extract]; omega, hS⟩
    · have k1 : ¬ (k : Int) < (s.size : Int) := by omega
      have k2 : decide ((k : Int) < (s.size : Int)) = false := decide_eq_false k1
      have k3 : decide (k < s.size) = false := decide_eq_false hlt
      clear hlt
      go_wp2_with (first | (refine toList (by rfl) ?_; refine ld hS _ _ (by rfl) _ _ (by rfl) (agOf (by rfl)) (by repeat first | exact Has.z | apply Has.s) (by rfl) ?_) | (refine toList (by rfl) ?_; refine wp_of_reads (rIdxS (by rfl) (by rfl) (by rfl) HX _) ?_))
      refine regStart [] hS (by kernel_rfl) rfl ?_
      intro w1 hS1
      clear hS; have hS := hS1; clear hS1
      (refine rgP 0 hS (fun _ h => h) ?_; go_frame)
      (refine rgP 1 hS (fun _ h => h) ?_; go_frame)
      (refine rgP 2 hS (fun _ h => h) ?_; go_frame)
      (refine rgR 3 hS (fun _ h => h) ?_; (refine ⟨_, yLd _ _ (by rfl) _ _ (by rfl) (agOf (by rfl)) (by repeat first | exact Has.z | apply Has.s) (by rfl), ?_⟩); go_frame)
      (refine rgP 4 hS (fun _ h => h) ?_; go_frame)
      (refine rgP 5 hS (fun _ h => h) ?_; go_frame)
      (refine rgP 6 hS (fun _ h => h) ?_; go_frame)
      (refine rgR 7 hS (fun _ h => h) ?_; (refine ⟨_, yLd _ _ (by rfl) _ _ (by rfl) (agOf (by rfl)) (by repeat first | exact Has.z | apply Has.s) (by rfl), ?_⟩); go_frame)
      (refine rgP 8 hS (fun _ h => h) ?_; go_frame)
      (refine regP 9 hS (fun _ h => h) rfl (by kernel_rfl) (by kernel_rfl) (by kernel_rfl) (fun _ _ _ _ h => h) (by rfl) (by rfl) ?_; apply Exists.intro; apply And.intro; (intro w; first | exact rCutS (by rfl) (by rfl) (by rfl) (by rfl) Tryz.underlying9 HK1.out HK2.out w | (go_simp; try with_reducible rfl)); go_frame)
      (refine rgP 10 hS (fun _ h => h) ?_; go_frame)
      refine regDone (by kernel_rfl) ?_
      go_wp2
      go_ret
      exact ⟨_, rfl, J, _, rfl, H1.out, by have := HK1.out; have := HK2.out; simp only [ByteArray.size_extract]; omega, hS⟩
/-- A number in a word, of which the value is not asked. -/
theorem wd_any (t : ByteArray) : (t.size < 1 ∨ 2 < t.size) ∨ (1 ≤ t.size ∧ t.size ≤ 1) ∨ (2 ≤ t.size ∧ t.size ≤ 2) := by omega
end Go.Proofs.YtpnbdnfgdiakhaaGreat
namespace Go.Proofs.YtpnbdnfgdiakhaaGreat
open Go.RowKit Go.Sep
set_option linter.unusedSimpArgs false
set_option linter.unusedVariables false
attribute [local irreducible] Go.Oper.wp Go.wpList Go.Calls Go.Code.wp Go.Sep.Reg
set_option maxRecDepth 20000 in
set_option maxHeartbeats 4000000 in
theorem number_any {W w : World} {L : List Asrt} {px : Nat} {s : ByteArray} {I : Nat} {B : Int} (hS : Sat W w (Cs px 47 [.string s, .int .i64 (I : Int), .int .i64 B] :: L)) (hI : I ≤ s.size) (hs : s.size ≤ 200) :
    Calls Tryz.prog 101 #[.pointer (some ⟨px, 0, none⟩)] w fun e w' => ∃ v, e = .returned v ∧ NumP W 47 px s I L v w' := by
  have HSG := Lib.hid (fun w (I : Nat) (B : Int) c (hS : Sat W w (Cs px 47 [.string s, .int .i64 (I : Int), .int .i64 B] :: L)) (hI : I ≤ s.size) => sign_any hS hI hs c)
  have HWR := Lib.hid (fun w (I : Nat) (B : Int) (hS : Sat W w (Cs px 47 [.string s, .int .i64 (I : Int), .int .i64 B] :: L)) (hI : I ≤ s.size) => wrong_any hS hI hs)
  have HRU := Lib.hid (fun w (I : Nat) (B : Int) fr to (hS : Sat W w (Cs px 47 [.string s, .int .i64 (I : Int), .int .i64 B] :: L)) (hI : I ≤ s.size) => run_any hS hI hs fr to)
  have HI := Lib.hid hI
  have hsi : (s.size : Int) ≤ 200 := by omega
  clear hI hs
  go_enter Tryz.func101, Tryz.ntmps101
  go_wp2_with (first
    | (go_at_call 66; refine (HSG.out _ _ _ _ hS (by have := HI.out; omega)).mono ?_; rintro e w1 ⟨v, rfl, J1, bJ1, rfl, h1, h2, h3, hS1⟩; have AJ1 := Lib.hid h1; have CJ1 := Lib.hid h2; clear h1 h2 h3; cases bJ1 <;> (clear hS; have hS := hS1; clear hS1))
    | (go_at_call 16; refine (HWR.out _ _ _ hS (by have := CJ1.out; omega)).mono ?_; rintro e w1 ⟨u, rfl, J2, BJ2, h1, h2, hS1⟩; have AJ2 := Lib.hid h1; have CJ2 := Lib.hid h2; clear h1 h2; clear hS; have hS := hS1; clear hS1)
    | (go_at_call 100; refine (HRU.out _ _ _ _ _ hS (by have := CJ1.out; omega)).mono ?_; rintro e w1 ⟨v, rfl, J, t, rfl, h1, h2, hS1⟩; have AJ := Lib.hid h1; have CJ := Lib.hid h2; have hti : (t.size : Int) ≤ 200 := (by omega); have hJi : (J : Int) + (t.size : Int) ≤ 200 := (by omega); clear h1 h2; clear hS; have hS := hS1; clear hS1)
    | (go_at_call 16; refine (HWR.out _ _ _ hS (by have := CJ.out; omega)).mono ?_; rintro e w1 ⟨u, rfl, J2, BJ2, h1, h2, hS1⟩; have AJ2 := Lib.hid h1; have CJ2 := Lib.hid h2; clear h1 h2; clear hS; have hS := hS1; clear hS1)
    | (refine toList (by rfl) ?_; refine ld hS _ _ (by rfl) _ _ (by rfl) (agOf (by rfl)) (by repeat first | exact Has.z | apply Has.s) (by rfl) ?_)
    | (refine toList (by rfl) ?_; refine st hS _ _ _ (by rfl) _ _ (by rfl) _ (by first | exact evC | exact evT (by rfl)) (by rfl) (szOf (by rfl)) (by repeat first | exact Has.z | apply Has.s) (by exact Nat.le_of_ble_eq_true rfl) ?_; intro w1 hS1; clear hS; have hS := hS1; clear hS1; dsimp only [List.set] at hS))
  all_goals try (go_ret; exact ⟨_, rfl, 0, J2, _, rfl, by first | (have := AJ1.out; have := AJ2.out; have := AJ.out; omega) | (have := AJ1.out; have := AJ2.out; omega), CJ2.out, hS⟩)
  · have HS0 := Lib.hid hS
    have HLE := Lib.hid (show J + t.size ≤ s.size from CJ.out)
    have HAJ := Lib.hid (show I ≤ J from by have := AJ1.out; have := AJ.out; omega)
    go_wp2
    go_loopw [4, 5] (fun v4 v5 wz => ∃ (n : Int) (i : Nat), v4 = .int .i64 n ∧ v5 = .int .i64 (i : Int) ∧ i ≤ t.size ∧ Sat W wz (Cs px 47 [.string s, .int .i64 ((J : Int) + (2 : Int)), .int .i64 B] :: L)) (fun _ v5 _ => t.size - (intOf v5).toNat)
    case atStart => exact ⟨0, 0, rfl, rfl, Nat.zero_le _, HS0.out⟩
    case round =>
      clear hS HS0
      obtain ⟨n, i, rfl, rfl, hi, hS⟩ := hrel
      by_cases hlt : i < t.size
      · have k1 : (i : Int) < (2 : Int) := by omega
        have k2 : decide ((i : Int) < (2 : Int)) = true := decide_eq_true k1
        have HLT := Lib.hid hlt
        obtain ⟨x, HX⟩ := chr_any hlt
        clear hlt
        go_wp2_with (refine toList (by rfl) ?_; refine wp_of_reads (rIdxS (by rfl) (by rfl) (by rfl) HX _) ?_)
        exact ⟨⟨_, i + 1, rfl, by go_num, HLT.out, hS⟩, by simp [intOf]; have := HLT.out; omega⟩
      · obtain rfl : i = t.size := by omega
        have k1 : ¬ (2 : Int) < (2 : Int) := by omega
        have k2 : decide ((2 : Int) < (2 : Int)) = false := decide_eq_false k1
        clear hi hlt
        have hS3 : Sat W wr (Cs px 47 [.string s, .int .i64 ((J + t.size : Nat) : Int), .int .i64 B] :: L) := by rw [show ((J + t.size : Nat) : Int) = (J : Int) + (2 : Int) by omega]; exact hS
        clear hS
        have hS := hS3
        clear hS3
        go_wp2_with (first
          | (go_at_call 66; refine (HSG.out _ _ _ _ hS HLE.out).mono ?_; rintro e w1 ⟨v, rfl, J3, b3, rfl, h1, h2, h3, hS1⟩; have A3 := Lib.hid h1; have C3 := Lib.hid h2; clear h1 h2 h3; cases b3 <;> (clear hS; have hS := hS1; clear hS1))
          | (go_at_call 16; refine (HWR.out _ _ _ hS C3.out).mono ?_; rintro e w1 ⟨u, rfl, J4, B4, h1, h2, hS1⟩; have A4 := Lib.hid h1; have C4 := Lib.hid h2; clear h1 h2; clear hS; have hS := hS1; clear hS1))
        · go_ret
          exact ⟨_, rfl, _, J4, _, rfl, by have := HAJ.out; have := A3.out; have := A4.out; omega, C4.out, hS⟩
        · go_ret
          exact ⟨_, rfl, _, J3, _, rfl, by have := HAJ.out; have := A3.out; omega, C3.out, hS⟩
  · have HS0 := Lib.hid hS
    have HLE := Lib.hid (show J + t.size ≤ s.size from CJ.out)
    have HAJ := Lib.hid (show I ≤ J from by have := AJ1.out; have := AJ.out; omega)
    go_wp2
    go_loopw [4, 5] (fun v4 v5 wz => ∃ (n : Int) (i : Nat), v4 = .int .i64 n ∧ v5 = .int .i64 (i : Int) ∧ i ≤ t.size ∧ Sat W wz (Cs px 47 [.string s, .int .i64 ((J : Int) + (t.size : Int)), .int .i64 B] :: L)) (fun _ v5 _ => t.size - (intOf v5).toNat)
    case atStart => exact ⟨0, 0, rfl, rfl, Nat.zero_le _, HS0.out⟩
    case round =>
      clear hS HS0
      obtain ⟨n, i, rfl, rfl, hi, hS⟩ := hrel
      by_cases hlt : i < t.size
      · have k1 : (i : Int) < (t.size : Int) := by omega
        have k2 : decide ((i : Int) < (t.size : Int)) = true := decide_eq_true k1
        have HLT := Lib.hid hlt
        obtain ⟨x, HX⟩ := chr_any hlt
        clear hlt
        go_wp2_with (refine toList (by rfl) ?_; refine wp_of_reads (rIdxS (by rfl) (by rfl) (by rfl) HX _) ?_)
        exact ⟨⟨_, i + 1, rfl, by go_num, HLT.out, hS⟩, by simp [intOf]; have := HLT.out; omega⟩
      · obtain rfl : i = t.size := by omega
        have k1 : ¬ (t.size : Int) < (t.size : Int) := by omega
        have k2 : decide ((t.size : Int) < (t.size : Int)) = false := decide_eq_false k1
        clear hi hlt
        have hS3 : Sat W wr (Cs px 47 [.string s, .int .i64 ((J + t.size : Nat) : Int), .int .i64 B] :: L) := by rw [show ((J + t.size : Nat) : Int) = (J : Int) + (t.size : Int) by omega]; exact hS
        clear hS
        have hS := hS3
        clear hS3
        go_wp2_with (first
          | (go_at_call 66; refine (HSG.out _ _ _ _ hS HLE.out).mono ?_; rintro e w1 ⟨v, rfl, J3, b3, rfl, h1, h2, h3, hS1⟩; have A3 := Lib.hid h1; have C3 := Lib.hid h2; clear h1 h2 h3; cases b3 <;> (clear hS; have hS := hS1; clear hS1))
          | (go_at_call 16; refine (HWR.out _ _ _ hS C3.out).mono ?_; rintro e w1 ⟨u, rfl, J4, B4, h1, h2, hS1⟩; have A4 := Lib.hid h1; have C4 := Lib.hid h2; clear h1 h2; clear hS; have hS := hS1; clear hS1))
        · go_ret
          exact ⟨_, rfl, _, J4, _, rfl, by have := HAJ.out; have := A3.out; have := A4.out; omega, C4.out, hS⟩
        · go_ret
          exact ⟨_, rfl, _, J3, _, rfl, by have := HAJ.out; have := A3.out; omega, C3.out, hS⟩
end Go.Proofs.YtpnbdnfgdiakhaaGreat
