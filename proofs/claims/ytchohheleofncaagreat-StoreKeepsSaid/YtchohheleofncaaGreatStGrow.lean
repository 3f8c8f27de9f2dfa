/-
 Package store: Grow.
-/
import Derived.Test.YtchohheleofncaaGreatMGrw
import Derived.Test.YtchohheleofncaaGreatMMad
import Derived.Test.YtchohheleofncaaGreatMRsu
import Derived.Test.YtchohheleofncaaGreatMReg
set_option linter.unusedSimpArgs false
set_option linter.unusedVariables false
namespace Go.Proofs.YtchohheleofncaaGreat
open Go.RowKit Go.Sep
attribute [local irreducible] Go.Oper.wp Go.wpList Go.Calls Go.Code.wp Go.Sep.Reg
def GrC (W : World) (L : List Asrt) (ps pd : Nat) (S : StD) (D : DiskS) (l : List RecD) (va : Value) (v33 : Value) (wz : World) : Prop :=
 ∃ i : Nat, v33 = .int .i64 (i : Int) ∧ i ≤ l.length ∧ (∀ j x, j < i → l[j]? = some x → recOk x = true) ∧ Sat W wz (Tb 53 3 rv va (allG S l) :: IsSt ps pd S :: IsDisk pd D :: L)
def GrR (ps pd : Nat) (S : StD) (D : DiskS) (l : List RecD) (fv r va vt vm : Value) : List Asrt :=
 [Ir vt (takG S l), IsMap vm (mapG S l), Cs ps 85 (stv pd S.sup fv S.inos r S.last), IsMap fv S.U, Tb 53 3 rv r S.recs, Tb 53 3 rv va (allG S l), IsDisk pd D]
def GrS (L : List Asrt) (ps pd p16 : Nat) (S : StD) (D : DiskS) (l : List RecD) (shown : Bool) (fv r va vt vm vb vw : Value) (gws : List GW) : List Asrt :=
 Tb 95 2 gw vw gws :: St (gws.map grow) :: Ir vb (blkG S l) :: Cs p16 77 (sv (supG S l shown)) :: (GrR ps pd S D l fv r va vt vm ++ L)
def grJ1 (W : World) (L : List Asrt) (ps pd p16 : Nat) (S : StD) (D : DiskS) (l : List RecD) (shown : Bool) (aq : Option Addr) (ln cq : Nat) (fv r va vt vm : Value) : Act → World → Prop := (fun (a' : Act) (w' : World) => (Sat W w' (Cs p16 77 (sv (supG1 S l shown)) :: (GrR ps pd S D l fv r va vt vm ++ L))) ∧ a' = ⟨#[.pointer (some ⟨ps, 0, none⟩), .slice aq ln cq, .bool shown, (a'.tmps.getD 3 undef), (a'.tmps.getD 4 undef), (a'.tmps.getD 5 undef), (a'.tmps.getD 6 undef), va, (a'.tmps.getD 8 undef), (a'.tmps.getD 9 undef), (a'.tmps.getD 10 undef), (a'.tmps.getD 11 undef), (a'.tmps.getD 12 undef), vt, vm, (a'.tmps.getD 15 undef), .pointer (some ⟨p16, 0, none⟩), undef, undef, undef, undef, undef, undef, undef, undef, undef, undef, (a'.tmps.getD 27 undef), (a'.tmps.getD 28 undef), (a'.tmps.getD 29 undef), (a'.tmps.getD 30 undef), (a'.tmps.getD 31 undef), (a'.tmps.getD 32 undef), (a'.tmps.getD 33 undef), (a'.tmps.getD 34 undef), (a'.tmps.getD 35 undef), (a'.tmps.getD 36 undef), (a'.tmps.getD 37 undef), (a'.tmps.getD 38 undef), (a'.tmps.getD 39 undef), (a'.tmps.getD 40 undef), (a'.tmps.getD 41 undef), (a'.tmps.getD 42 undef), (a'.tmps.getD 43 undef), (a'.tmps.getD 44 undef), (a'.tmps.getD 45 undef), (a'.tmps.getD 46 undef), (a'.tmps.getD 47 undef), (a'.tmps.getD 48 undef), (a'.tmps.getD 49 undef), (a'.tmps.getD 50 undef), (a'.tmps.getD 51 undef), (a'.tmps.getD 52 undef), (a'.tmps.getD 53 undef), (a'.tmps.getD 54 undef), (a'.tmps.getD 55 undef), (a'.tmps.getD 56 undef), (a'.tmps.getD 57 undef), (a'.tmps.getD 58 undef), (a'.tmps.getD 59 undef), (a'.tmps.getD 60 undef), (a'.tmps.getD 61 undef), (a'.tmps.getD 62 undef), (a'.tmps.getD 63 undef), (a'.tmps.getD 64 undef), (a'.tmps.getD 65 undef), (a'.tmps.getD 66 undef), (a'.tmps.getD 67 undef), (a'.tmps.getD 68 undef), (a'.tmps.getD 69 undef), (a'.tmps.getD 70 undef), (a'.tmps.getD 71 undef), (a'.tmps.getD 72 undef), (a'.tmps.getD 73 undef), (a'.tmps.getD 74 undef), (a'.tmps.getD 75 undef), (a'.tmps.getD 76 undef), (a'.tmps.getD 77 undef), (a'.tmps.getD 78 undef), (a'.tmps.getD 79 undef), (a'.tmps.getD 80 undef), (a'.tmps.getD 81 undef), (a'.tmps.getD 82 undef), (a'.tmps.getD 83 undef), (a'.tmps.getD 84 undef), undef, undef, undef, undef, undef, undef, undef, undef, undef, undef, undef, undef, undef, undef, undef, undef, undef, undef, undef, undef, undef, undef, undef, undef, undef, undef, undef, undef, undef, undef, undef, undef, undef, undef, undef, undef, undef, undef, undef, undef, undef, undef, undef, undef, undef, undef, undef, undef, undef, undef, undef, undef, undef, undef, undef, undef, undef, undef, undef, undef, undef, undef, undef, undef, undef, undef, undef, undef, undef, undef, undef, undef, undef, undef, undef, undef, undef, undef, undef, undef, undef, undef, undef, undef, undef, undef, undef, undef, undef, undef, undef, undef, undef, undef, undef, undef, undef, undef, undef, undef, undef, undef, undef, undef, undef, undef, undef, undef, undef], []⟩)
def grJ2 (W : World) (L : List Asrt) (ps pd p16 : Nat) (S : StD) (D : DiskS) (l : List RecD) (shown : Bool) (aq : Option Addr) (ln cq : Nat) (fv r va vt vm : Value) : Act → World → Prop := (fun (a' : Act) (w' : World) => (∃ gws : List GW, g2 gws = wrG0 S l ∧ Sat W w' (Tb 95 2 gw (a'.tmps.getD 17 undef) gws :: St (gws.map grow) :: Cs p16 77 (sv (supG S l shown)) :: (GrR ps pd S D l fv r va vt vm ++ L))) ∧ a' = ⟨#[.pointer (some ⟨ps, 0, none⟩), .slice aq ln cq, (a'.tmps.getD 2 undef), (a'.tmps.getD 3 undef), (a'.tmps.getD 4 undef), (a'.tmps.getD 5 undef), (a'.tmps.getD 6 undef), va, (a'.tmps.getD 8 undef), (a'.tmps.getD 9 undef), (a'.tmps.getD 10 undef), (a'.tmps.getD 11 undef), (a'.tmps.getD 12 undef), vt, vm, (a'.tmps.getD 15 undef), .pointer (some ⟨p16, 0, none⟩), (a'.tmps.getD 17 undef), .int .i64 ((lastG S l : Nat) : Int), (a'.tmps.getD 19 undef), (a'.tmps.getD 20 undef), (a'.tmps.getD 21 undef), (a'.tmps.getD 22 undef), (a'.tmps.getD 23 undef), (a'.tmps.getD 24 undef), (a'.tmps.getD 25 undef), (a'.tmps.getD 26 undef), (a'.tmps.getD 27 undef), (a'.tmps.getD 28 undef), (a'.tmps.getD 29 undef), (a'.tmps.getD 30 undef), (a'.tmps.getD 31 undef), (a'.tmps.getD 32 undef), (a'.tmps.getD 33 undef), (a'.tmps.getD 34 undef), (a'.tmps.getD 35 undef), (a'.tmps.getD 36 undef), (a'.tmps.getD 37 undef), (a'.tmps.getD 38 undef), (a'.tmps.getD 39 undef), (a'.tmps.getD 40 undef), (a'.tmps.getD 41 undef), (a'.tmps.getD 42 undef), (a'.tmps.getD 43 undef), (a'.tmps.getD 44 undef), (a'.tmps.getD 45 undef), (a'.tmps.getD 46 undef), (a'.tmps.getD 47 undef), (a'.tmps.getD 48 undef), (a'.tmps.getD 49 undef), (a'.tmps.getD 50 undef), (a'.tmps.getD 51 undef), (a'.tmps.getD 52 undef), (a'.tmps.getD 53 undef), (a'.tmps.getD 54 undef), (a'.tmps.getD 55 undef), (a'.tmps.getD 56 undef), (a'.tmps.getD 57 undef), (a'.tmps.getD 58 undef), (a'.tmps.getD 59 undef), (a'.tmps.getD 60 undef), (a'.tmps.getD 61 undef), (a'.tmps.getD 62 undef), (a'.tmps.getD 63 undef), (a'.tmps.getD 64 undef), (a'.tmps.getD 65 undef), (a'.tmps.getD 66 undef), (a'.tmps.getD 67 undef), (a'.tmps.getD 68 undef), (a'.tmps.getD 69 undef), (a'.tmps.getD 70 undef), (a'.tmps.getD 71 undef), (a'.tmps.getD 72 undef), (a'.tmps.getD 73 undef), (a'.tmps.getD 74 undef), (a'.tmps.getD 75 undef), (a'.tmps.getD 76 undef), (a'.tmps.getD 77 undef), (a'.tmps.getD 78 undef), (a'.tmps.getD 79 undef), (a'.tmps.getD 80 undef), (a'.tmps.getD 81 undef), (a'.tmps.getD 82 undef), (a'.tmps.getD 83 undef), (a'.tmps.getD 84 undef), (a'.tmps.getD 85 undef), (a'.tmps.getD 86 undef), (a'.tmps.getD 87 undef), (a'.tmps.getD 88 undef), (a'.tmps.getD 89 undef), (a'.tmps.getD 90 undef), (a'.tmps.getD 91 undef), (a'.tmps.getD 92 undef), (a'.tmps.getD 93 undef), (a'.tmps.getD 94 undef), (a'.tmps.getD 95 undef), (a'.tmps.getD 96 undef), (a'.tmps.getD 97 undef), (a'.tmps.getD 98 undef), (a'.tmps.getD 99 undef), (a'.tmps.getD 100 undef), (a'.tmps.getD 101 undef), (a'.tmps.getD 102 undef), (a'.tmps.getD 103 undef), (a'.tmps.getD 104 undef), (a'.tmps.getD 105 undef), (a'.tmps.getD 106 undef), (a'.tmps.getD 107 undef), (a'.tmps.getD 108 undef), (a'.tmps.getD 109 undef), (a'.tmps.getD 110 undef), (a'.tmps.getD 111 undef), (a'.tmps.getD 112 undef), (a'.tmps.getD 113 undef), (a'.tmps.getD 114 undef), (a'.tmps.getD 115 undef), (a'.tmps.getD 116 undef), (a'.tmps.getD 117 undef), (a'.tmps.getD 118 undef), (a'.tmps.getD 119 undef), (a'.tmps.getD 120 undef), (a'.tmps.getD 121 undef), (a'.tmps.getD 122 undef), (a'.tmps.getD 123 undef), (a'.tmps.getD 124 undef), (a'.tmps.getD 125 undef), (a'.tmps.getD 126 undef), (a'.tmps.getD 127 undef), (a'.tmps.getD 128 undef), (a'.tmps.getD 129 undef), (a'.tmps.getD 130 undef), (a'.tmps.getD 131 undef), (a'.tmps.getD 132 undef), (a'.tmps.getD 133 undef), (a'.tmps.getD 134 undef), (a'.tmps.getD 135 undef), (a'.tmps.getD 136 undef), (a'.tmps.getD 137 undef), (a'.tmps.getD 138 undef), (a'.tmps.getD 139 undef), (a'.tmps.getD 140 undef), (a'.tmps.getD 141 undef), (a'.tmps.getD 142 undef), (a'.tmps.getD 143 undef), (a'.tmps.getD 144 undef), (a'.tmps.getD 145 undef), (a'.tmps.getD 146 undef), (a'.tmps.getD 147 undef), (a'.tmps.getD 148 undef), (a'.tmps.getD 149 undef), (a'.tmps.getD 150 undef), (a'.tmps.getD 151 undef), (a'.tmps.getD 152 undef), (a'.tmps.getD 153 undef), (a'.tmps.getD 154 undef), (a'.tmps.getD 155 undef), (a'.tmps.getD 156 undef), (a'.tmps.getD 157 undef), (a'.tmps.getD 158 undef), (a'.tmps.getD 159 undef), (a'.tmps.getD 160 undef), (a'.tmps.getD 161 undef), (a'.tmps.getD 162 undef), undef, undef, undef, undef, undef, undef, undef, undef, undef, undef, undef, undef, undef, undef, undef, undef, undef, undef, undef, undef, undef, undef, undef, undef, undef, undef, undef, undef, undef, undef, undef], []⟩)
def mapW (S : StD) (l : List RecD) (vm : Value) : List GW := if takG S l = [] then [] else [⟨1, vm, mapB (mapG S l)⟩]
def grJ3 (W : World) (L : List Asrt) (ps pd p16 : Nat) (S : StD) (D : DiskS) (l : List RecD) (shown : Bool) (aq : Option Addr) (ln cq : Nat) (fv r va vt vm : Value) : Act → World → Prop := (fun (a' : Act) (w' : World) => (∃ gws : List GW, g2 gws = wrG0 S l ∧ Sat W w' (Tb 95 2 gw (a'.tmps.getD 17 undef) (gws ++ mapW S l vm) :: St (gws.map grow) :: Cs p16 77 (sv (supG S l shown)) :: (GrR ps pd S D l fv r va vt vm ++ L))) ∧ a' = ⟨#[.pointer (some ⟨ps, 0, none⟩), .slice aq ln cq, (a'.tmps.getD 2 undef), (a'.tmps.getD 3 undef), (a'.tmps.getD 4 undef), (a'.tmps.getD 5 undef), (a'.tmps.getD 6 undef), va, (a'.tmps.getD 8 undef), (a'.tmps.getD 9 undef), (a'.tmps.getD 10 undef), (a'.tmps.getD 11 undef), (a'.tmps.getD 12 undef), vt, vm, (a'.tmps.getD 15 undef), .pointer (some ⟨p16, 0, none⟩), (a'.tmps.getD 17 undef), .int .i64 ((lastG S l : Nat) : Int), (a'.tmps.getD 19 undef), (a'.tmps.getD 20 undef), (a'.tmps.getD 21 undef), (a'.tmps.getD 22 undef), (a'.tmps.getD 23 undef), (a'.tmps.getD 24 undef), (a'.tmps.getD 25 undef), (a'.tmps.getD 26 undef), (a'.tmps.getD 27 undef), (a'.tmps.getD 28 undef), (a'.tmps.getD 29 undef), (a'.tmps.getD 30 undef), (a'.tmps.getD 31 undef), (a'.tmps.getD 32 undef), (a'.tmps.getD 33 undef), (a'.tmps.getD 34 undef), (a'.tmps.getD 35 undef), (a'.tmps.getD 36 undef), (a'.tmps.getD 37 undef), (a'.tmps.getD 38 undef), (a'.tmps.getD 39 undef), (a'.tmps.getD 40 undef), (a'.tmps.getD 41 undef), (a'.tmps.getD 42 undef), (a'.tmps.getD 43 undef), (a'.tmps.getD 44 undef), (a'.tmps.getD 45 undef), (a'.tmps.getD 46 undef), (a'.tmps.getD 47 undef), (a'.tmps.getD 48 undef), (a'.tmps.getD 49 undef), (a'.tmps.getD 50 undef), (a'.tmps.getD 51 undef), (a'.tmps.getD 52 undef), (a'.tmps.getD 53 undef), (a'.tmps.getD 54 undef), (a'.tmps.getD 55 undef), (a'.tmps.getD 56 undef), (a'.tmps.getD 57 undef), (a'.tmps.getD 58 undef), (a'.tmps.getD 59 undef), (a'.tmps.getD 60 undef), (a'.tmps.getD 61 undef), (a'.tmps.getD 62 undef), (a'.tmps.getD 63 undef), (a'.tmps.getD 64 undef), (a'.tmps.getD 65 undef), (a'.tmps.getD 66 undef), (a'.tmps.getD 67 undef), (a'.tmps.getD 68 undef), (a'.tmps.getD 69 undef), (a'.tmps.getD 70 undef), (a'.tmps.getD 71 undef), (a'.tmps.getD 72 undef), (a'.tmps.getD 73 undef), (a'.tmps.getD 74 undef), (a'.tmps.getD 75 undef), (a'.tmps.getD 76 undef), (a'.tmps.getD 77 undef), (a'.tmps.getD 78 undef), (a'.tmps.getD 79 undef), (a'.tmps.getD 80 undef), (a'.tmps.getD 81 undef), (a'.tmps.getD 82 undef), (a'.tmps.getD 83 undef), (a'.tmps.getD 84 undef), (a'.tmps.getD 85 undef), (a'.tmps.getD 86 undef), (a'.tmps.getD 87 undef), (a'.tmps.getD 88 undef), (a'.tmps.getD 89 undef), (a'.tmps.getD 90 undef), (a'.tmps.getD 91 undef), (a'.tmps.getD 92 undef), (a'.tmps.getD 93 undef), (a'.tmps.getD 94 undef), (a'.tmps.getD 95 undef), (a'.tmps.getD 96 undef), (a'.tmps.getD 97 undef), (a'.tmps.getD 98 undef), (a'.tmps.getD 99 undef), (a'.tmps.getD 100 undef), (a'.tmps.getD 101 undef), (a'.tmps.getD 102 undef), (a'.tmps.getD 103 undef), (a'.tmps.getD 104 undef), (a'.tmps.getD 105 undef), (a'.tmps.getD 106 undef), (a'.tmps.getD 107 undef), (a'.tmps.getD 108 undef), (a'.tmps.getD 109 undef), (a'.tmps.getD 110 undef), (a'.tmps.getD 111 undef), (a'.tmps.getD 112 undef), (a'.tmps.getD 113 undef), (a'.tmps.getD 114 undef), (a'.tmps.getD 115 undef), (a'.tmps.getD 116 undef), (a'.tmps.getD 117 undef), (a'.tmps.getD 118 undef), (a'.tmps.getD 119 undef), (a'.tmps.getD 120 undef), (a'.tmps.getD 121 undef), (a'.tmps.getD 122 undef), (a'.tmps.getD 123 undef), (a'.tmps.getD 124 undef), (a'.tmps.getD 125 undef), (a'.tmps.getD 126 undef), (a'.tmps.getD 127 undef), (a'.tmps.getD 128 undef), (a'.tmps.getD 129 undef), (a'.tmps.getD 130 undef), (a'.tmps.getD 131 undef), (a'.tmps.getD 132 undef), (a'.tmps.getD 133 undef), (a'.tmps.getD 134 undef), (a'.tmps.getD 135 undef), (a'.tmps.getD 136 undef), (a'.tmps.getD 137 undef), (a'.tmps.getD 138 undef), (a'.tmps.getD 139 undef), (a'.tmps.getD 140 undef), (a'.tmps.getD 141 undef), (a'.tmps.getD 142 undef), (a'.tmps.getD 143 undef), (a'.tmps.getD 144 undef), (a'.tmps.getD 145 undef), (a'.tmps.getD 146 undef), (a'.tmps.getD 147 undef), (a'.tmps.getD 148 undef), (a'.tmps.getD 149 undef), (a'.tmps.getD 150 undef), (a'.tmps.getD 151 undef), (a'.tmps.getD 152 undef), (a'.tmps.getD 153 undef), (a'.tmps.getD 154 undef), (a'.tmps.getD 155 undef), (a'.tmps.getD 156 undef), (a'.tmps.getD 157 undef), (a'.tmps.getD 158 undef), (a'.tmps.getD 159 undef), (a'.tmps.getD 160 undef), (a'.tmps.getD 161 undef), (a'.tmps.getD 162 undef), (a'.tmps.getD 163 undef), (a'.tmps.getD 164 undef), (a'.tmps.getD 165 undef), (a'.tmps.getD 166 undef), (a'.tmps.getD 167 undef), (a'.tmps.getD 168 undef), (a'.tmps.getD 169 undef), (a'.tmps.getD 170 undef), undef, undef, undef, undef, undef, undef, undef, undef, undef, undef, undef, undef, undef, undef, undef, undef, undef, undef, undef, undef, undef, undef, undef], []⟩)
def lstP (S : StD) (l : List RecD) : Nat → Nat
 | 0 => S.last
 | i + 1 => (chunk (restG S l) i).length
def GrL (W : World) (L : List Asrt) (ps pd p16 m : Nat) (S : StD) (D : DiskS) (l : List RecD) (shown : Bool) (fv r va vt vm vb : Value) (v127 v17 v18 v20 : Value) (wz : World) : Prop :=
 ∃ (i : Nat) (gws : List GW) (ao : Option Addr) (n c : Nat), v127 = .int .i64 (i : Int) ∧ i ≤ m + 1 ∧ v18 = .int .i64 ((lstP S l i : Nat) : Int) ∧ v20 = .slice ao n c ∧ n = (restG S l).length - 15 * i ∧
  (∀ w L', Sat W w (L' ++ (Tb 53 3 rv va (allG S l) :: IsDisk pd D :: L)) → Rd w (.slice ao n c) n 3 (((restG S l).drop (15 * i)).flatMap rv)) ∧ g2 gws = pcsG (blkG S l) (restG S l) i ∧
  Sat W wz (Tb 95 2 gw v17 gws :: St (gws.map grow) :: Ir vb (blkG S l) :: Cs p16 77 (sv (supG S l shown)) :: (GrR ps pd S D l fv r va vt vm ++ L))
theorem csIr {W w : World} {L : List Asrt} {b E : Nat} (x : Nat) (h : Sat W w (Cs b E [.int .i64 (x : Int)] :: L)) : Sat W w (Ir (.slice (some ⟨b, 0, none⟩) 1 1) [x] :: L) := by
 have h2 : Sat W w (Cs b E ([] ++ iv [x] ++ []) :: L) := h
 exact Sat.slMk (n := 1) (cap := 1) (sz := 1) h2 (Nat.le_refl _) (by decide) rfl rfl (Nat.le_refl 1)
theorem _root_.Go.Sep.Sat.irRdm {W w : World} {L : List Asrt} {k m : Nat} {v : Value} {l : List Nat} (h : Sat W w L) (hm : l.length = m) (hk : Has L k (Ir v l)) : Rd w v m 1 (iv l) := by
 have := h.irRd hk
 rw [hm] at this
 exact this
theorem _root_.Go.Sep.Sat.irAddr {W w : World} {L : List Asrt} {k m : Nat} {v : Value} {l : List Nat} (h : Sat W w L) (hm : l.length = m + 1) (hk : Has L k (Ir v l)) : ∃ b off c, v = .slice (some ⟨b, off, none⟩) (m + 1) c := by
 unfold Ir at hk
 obtain ⟨b, off, c, he, _⟩ := h.slAddr hk (by omega)
 rw [hm] at he
 exact ⟨b, off, c, he⟩
theorem gr2_snoc (xs : List GW) (a : Int) (v : Value) (d : List UInt8) : g2 (xs ++ [⟨a, v, d⟩]) = g2 xs ++ [(a, d)] := by simp [g2]
theorem map_one {W w : World} {R : List Asrt} {A : Asrt} {v : Value} {U : Nat → Bool} (h : Sat W w (A :: IsMap v U :: R)) : v.oneCell' = true := by
 have h2 := h.drop
 unfold IsMap at h2
 obtain ⟨b, o, c, rfl, _⟩ := h2.slAddr (k := 0) rfl (by decide)
 rfl
theorem rput_m {W w : World} {L : List Asrt} (hS : Sat W w L) (l : List RecD) (ao : Option Addr) (c : Nat) {q : Nat} (hq : l.length = q) (hr : ∀ w, Sat W w L → Rd w (.slice ao q c) q 3 (l.flatMap rv)) (next : Int) (hok : okPut l next = true) {d : List UInt8} (hd : encB l next = d) (hdl : d.length = 128) :
  Calls Tryz.prog 55 #[.slice ao q c, .int .i64 next] w fun e w' => ∃ v', e = .returned (.tuple #[v', .bool true]) ∧ Sat W w' (Sl 5 1 v' 128 (bv d) :: L) := by
 subst hq
 have h15 : l.length ≤ 15 := (okPut_parts hok).1
 refine (rput_any hS l ao c hr (by omega) next).mono ?_
 rintro e w' ⟨v', he, h⟩
 rw [hok] at he
 rw [putB_yes hok, hd, hdl] at h
 exact ⟨v', he, h⟩
def GrE (W : World) (L : List Asrt) (ps pd : Nat) (R : Int × StD × DiskS) (e : Ending) (w' : World) : Prop := e = .returned (.int .i64 R.1) ∧ Sat W w' (IsSt ps pd R.2.1 :: IsDisk pd R.2.2 :: L)
theorem rdNilI (w : World) : Rd w (.slice none 0 0) ([] : List Nat).length 1 (iv []) := ⟨none, 0, rfl, Nat.le_refl _, by decide, rfl, fun h => absurd h (Nat.lt_irrefl 0)⟩
theorem sv_rec (s : SupD) (x : Int) : (sv s).set 3 (.int .i64 x) = sv { s with records := x } := rfl
theorem sv_shown (s : SupD) (x : Int) : (sv s).set 4 (.int .i64 x) = sv { s with shown := x } := rfl
theorem graph_m {W w : World} {L : List Asrt} (hS : Sat W w L) (l : List RecD) (ao : Option Addr) (c : Nat) {m : Nat} (hm : l.length = m) (hr : ∀ w, Sat W w L → Rd w (.slice ao m c) m 3 (l.flatMap rv)) (hb : m ≤ 900000) :
  Calls Tryz.prog 54 #[.slice ao m c] w fun e w' => ∃ p, e = .returned (.tuple #[.pointer (some ⟨p, 0, none⟩), .int .i64 ((Gr.new.appL l).2 : Nat), .bool (decide ((Gr.new.appL l).2 = m))]) ∧ Sat W w' (IsG p (Gr.new.appL l).1 :: L) := by
 subst hm
 exact graph_any hS l ao c hr hb
theorem eq_run (u : World) (x y : SupD) : (binOp .eql 77 (.agg (sv x).toArray) (.agg (sv y).toArray)).run Tryz.prog u = .ok (.bool (decide (x = y))) u := by
 rw [run_eql_struct, eq_sup]
 rfl
theorem growR_bad {S : StD} {D : DiskS} {l : List RecD} {shown : Bool} (h : growBad S l = true) : growR S D l shown = (1, S, D) := if_pos h
set_option maxRecDepth 20000 in
set_option maxHeartbeats 8000000 in
theorem sgrow_any {W w : World} {L : List Asrt} {ps pd k : Nat} {S : StD} {D : DiskS} {gs : List Nat} (hS : Sat W w (IsSt ps pd S :: IsDisk pd D :: L)) (hok : SOk D.blocks S gs) (hD : DG D k) (hk : k ≤ 90000)
  (l : List RecD) (shown : Bool) (aq : Option Addr) (cq : Nat) (hr : ∀ w L', Sat W w (L' ++ L) → Rd w (.slice aq l.length cq) l.length 3 (l.flatMap rv)) (hl : l.length ≤ 100000) :
  Calls Tryz.prog 19 #[.pointer (some ⟨ps, 0, none⟩), .slice aq l.length cq, .bool shown] w fun e w' => GrE W L ps pd (growR S D l shown) e w' := by
 have HOK := Lib.hid hok
 have HD := Lib.hid hD
 have HR := Lib.hid hr
 have hrl : S.recs.length ≤ 15360 := by have := hok.high; have := hok.glen; omega
 have HRL := Lib.hid hrl
 have HLL := Lib.hid hl
 have HSR := Lib.hid (fun w L (h : Sat W w (IsSt ps pd S :: L)) => srecs_any h hok.x (by omega))
 have H3 := Lib.hid (show ∀ x ∈ l, (rv x).length = 3 from fun _ _ => rfl)
 have HO := Lib.hid (show ∀ u ∈ l.flatMap rv, u.oneCell' = true from fun u hu => by
  obtain ⟨x, _, hx⟩ := List.mem_flatMap.1 hu
  exact rv_all x u hx)
 obtain ⟨_, _, he, hc1, hc2, _, h5⟩ := hr w [_, _] hS
 simp only [Value.slice.injEq, true_and] at he
 obtain ⟨rfl, rfl⟩ := he
 have H5 := Lib.hid h5
 obtain ⟨ln, hln⟩ : ∃ n, l.length = n := ⟨_, rfl⟩
 have HLN := Lib.hid hln
 have hli : (ln : Int) ≤ 100000 := by omega
 obtain ⟨na, hna⟩ : ∃ n, (allG S l).length = n := ⟨_, rfl⟩
 have HNA := Lib.hid (show (S.recs ++ l).length = na from hna)
 have HNB := Lib.hid hna
 have HALL2 := Lib.hid (show (allG S l).length ≤ 200000 by rw [allG_len]; omega)
 clear hok hD hr hl h5 hc1 hc2 hrl hln hna
 go_enter Tryz.func19, Tryz.ntmps19
 refine sep_part (fun KX HKX => ?_)
 go_wp2
 refine HKX.out _ _ ?_
 clear HKX KX
 refine sep_part (fun KX HKX => ?_)
 go_wp2_with (first
  | (go_at_call 52; refine (HSR.out _ _ hS).mono ?_; clear hS; rintro e w1 ⟨v0, rfl, hS⟩; obtain ⟨ao0, c0, rfl, _⟩ := hS.tbShape (k := 0) rfl)
  | (at_builtin; refine toList (by rfl) ?_; refine apTbS hS _ _ _ _ (by rfl) _ _ (by rfl) (by rfl) (elOf (by rfl)) (by rfl) (by decide) (inOf (by rfl)) Has.z l H3.out (.inl (HR.out _ [_, _, _] hS)) HO.out (by have := HRL.out; have := HLL.out; omega) (by have := HRL.out; have := HLL.out; omega) ?_; clear hS; intro ao7 c7 w1 _ hS; rw [List.set_cons_zero] at hS; rw [HNA.out] at hS ⊢))
 refine HKX.out _ _ ?_
 clear HKX KX
 have H0 : Hid (Sat W _ (Tb 53 3 rv (.slice ao7 na c7) (allG S l) :: IsSt ps pd S :: IsDisk pd D :: L)) := Lib.hid hS
 clear hS
 refine sep_part (fun KX HKX => ?_)
 go_wp2
 rw [HLN.out]
 go_loopw [33] (fun v33 wz => GrC W L ps pd S D l (.slice ao7 na c7) v33 wz) (fun v33 _ => lpM ln v33)
 case atStart => exact ⟨0, rfl, Nat.zero_le _, fun j x hj => absurd hj (Nat.not_lt_zero _), H0.out⟩
 case round =>
  clear H0
  obtain ⟨i, rfl, hi, hall, hS⟩ := hrel
  rw [HLN.out] at hi
  have HA := Lib.hid hall
  clear hall
  by_cases hlt : i < ln
  ·have k1 : (i : Int) < (ln : Int) := by omega
   have HLT := Lib.hid hlt
   obtain ⟨pb, po, rfl, _⟩ := H5.out (by have := HLN.out; omega)
   obtain ⟨x, hx⟩ : ∃ x, l[i]? = some x := ⟨_, List.getElem?_eq_getElem (by have := HLN.out; omega)⟩
   have HX := Lib.hid hx
   have HRX := Lib.hid (HR.out _ [_, _, _] hS)
   have HCK := Lib.hid (fun w L (h : Sat W w L) => check_any w W L h x.k x.a x.b)
   obtain ⟨c, hc⟩ : ∃ c, okRec x.k x.a x.b = c := ⟨_, rfl⟩
   have hcx : recOk x = c := hc
   have HC := Lib.hid hcx
   rw [hc] at HCK
   clear hc hcx hx hi hlt
   obtain ⟨xk, xa, xb⟩ := x
   cases c with
   | false =>
    have hbad : growBad S l = true := by
     unfold growBad
     have : l.all recOk = false := by
      rw [List.all_eq_false]
      exact ⟨_, List.mem_of_getElem? HX.out, by rw [HC.out]; decide⟩
     rw [this]; rfl
    have HBAD := Lib.hid (growR_bad (D := D) (shown := shown) hbad)
    clear hbad
    go_wp2_with (first
     | (refine toList (by rfl) ?_; refine wp_of_reads (rLdRdA (f := rv) (x := ⟨xk, xa, xb⟩) HRX.out (fun _ _ => rfl) _ _ (by rfl) _ (by rfl) (agOf (by rfl)) (szOf (by rfl)) i (by omega) HX.out (by have := HLT.out; have := HLN.out; omega)) ?_)
     | (refine toList (by rfl) ?_; refine Go.Sep.al hS _ (by rfl) (zrOf (by rfl)) ?_; clear hS; intro p9 w1 hS; rw [cells_agg] at hS)
     | (refine toList (by rfl) ?_; refine stW hS _ _ _ (by rfl) (by rfl) (rv ⟨xk, xa, xb⟩) (by rfl) (rv_all _) (szOf (by rfl)) Has.z (by rfl) ?_; clear hS; intro w1 hS; rw [List.set_cons_zero] at hS)
     | (refine toList (by rfl) ?_; refine wp_of_reads (rLdA hS _ _ (by rfl) _ _ (by rfl) (agOf (by rfl)) (szOf (by rfl)) Has.z (vs := rv ⟨xk, xa, xb⟩) (by rfl) (by rfl)) ?_)
     | (go_at_call 53; refine (HCK.out _ _ hS).mono ?_; clear hS; rintro e w1 ⟨rfl, hS⟩))
    go_ret
    rw [HBAD.out]
    exact ⟨rfl, hS.drop.drop⟩
   | true =>
    go_wp2_with (first
     | (refine toList (by rfl) ?_; refine wp_of_reads (rLdRdA (f := rv) (x := ⟨xk, xa, xb⟩) HRX.out (fun _ _ => rfl) _ _ (by rfl) _ (by rfl) (agOf (by rfl)) (szOf (by rfl)) i (by omega) HX.out (by have := HLT.out; have := HLN.out; omega)) ?_)
     | (refine toList (by rfl) ?_; refine Go.Sep.al hS _ (by rfl) (zrOf (by rfl)) ?_; clear hS; intro p9 w1 hS; rw [cells_agg] at hS)
     | (refine toList (by rfl) ?_; refine stW hS _ _ _ (by rfl) (by rfl) (rv ⟨xk, xa, xb⟩) (by rfl) (rv_all _) (szOf (by rfl)) Has.z (by rfl) ?_; clear hS; intro w1 hS; rw [List.set_cons_zero] at hS)
     | (refine toList (by rfl) ?_; refine wp_of_reads (rLdA hS _ _ (by rfl) _ _ (by rfl) (agOf (by rfl)) (szOf (by rfl)) Has.z (vs := rv ⟨xk, xa, xb⟩) (by rfl) (by rfl)) ?_)
     | (go_at_call 53; refine (HCK.out _ _ hS).mono ?_; clear hS; rintro e w1 ⟨rfl, hS⟩))
    exact ⟨⟨i + 1, by go_num, by rw [HLN.out]; exact HLT.out, fun j y hj hy => by
     by_cases e : j = i
     ·subst e
      rw [HX.out] at hy
      rw [← Option.some.inj hy]
      exact HC.out
     ·exact HA.out j y (by omega) hy, hS.drop⟩, lpM_lt HLT.out⟩
  ·obtain rfl : i = ln := by omega
   have k1 : ¬ (i : Int) < (i : Int) := by omega
   have hok : l.all recOk = true := by
    rw [List.all_eq_true]
    intro x hx
    obtain ⟨j, hj⟩ := List.getElem?_of_mem hx
    exact HA.out j x (by have := (List.getElem?_eq_some_iff.1 hj).1; have := HLN.out; omega) hj
   have HAO := Lib.hid hok
   clear hlt hi hok HA
   go_wp2
   refine HKX.out _ _ ?_
   clear HKX
   -- the graph; too many
   have HGC := Lib.hid (fun w h => graph_m (W := W) (w := w) (L := Tb 53 3 rv (.slice ao7 na c7) (allG S l) :: IsSt ps pd S :: IsDisk pd D :: L) h (allG S l) ao7 c7 HNB.out (fun w h => by have := h.tbRd (k := 0) rfl; rw [HNB.out] at this; exact this) (by have := HALL2.out; have := HNB.out; omega))
   obtain ⟨g2v, hgv⟩ : ∃ n, (Gr.new.appL (allG S l)).2 = n := ⟨_, rfl⟩
   obtain ⟨gok, hgo⟩ : ∃ b, decide ((Gr.new.appL (allG S l)).2 = na) = b := ⟨_, rfl⟩
   have HGO := Lib.hid hgo
   rw [hgo, hgv] at HGC
   clear hgo hgv
   refine sep_part (fun KX HKX => ?_)
   obtain ⟨big, hbg⟩ : ∃ b, decide (60 < i) = b := ⟨_, rfl⟩
   have hbg2 : decide ((60 : Int) < (i : Int)) = big := by rw [← hbg]; exact decide_eq_decide.2 (by omega)
   have HBB := Lib.hid (show growBad S l = (!gok || big) by unfold growBad; rw [HAO.out, HNB.out, HGO.out, HLN.out, hbg]; rfl)
   have HBF := Lib.hid (show big = false → i ≤ 60 from fun h => by rw [h] at hbg; have := of_decide_eq_false hbg; omega)
   clear hbg
   cases gok with
   | false =>
    have HBAD := Lib.hid (growR_bad (D := D) (shown := shown) (HBB.out.trans rfl))
    go_wp2_with (go_at_call 54; refine (HGC.out _ hS).mono ?_; rintro e w1 ⟨pg, rfl, hS1⟩; clear hS; have hS := hS1.drop; clear hS1)
    go_ret
    rw [HBAD.out]
    exact ⟨rfl, hS.drop⟩
   | true =>
   cases big with
   | true =>
    have HBAD := Lib.hid (growR_bad (D := D) (shown := shown) (HBB.out.trans rfl))
    go_wp2_with (go_at_call 54; refine (HGC.out _ hS).mono ?_; rintro e w1 ⟨pg, rfl, hS1⟩; clear hS; have hS := hS1.drop; clear hS1)
    go_ret
    rw [HBAD.out]
    exact ⟨rfl, hS.drop⟩
   | false =>
   have HB := Lib.hid (show growBad S l = false from HBB.out.trans rfl)
   have h60 := HBF.out rfl
   have HL60 := Lib.hid (show l.length ≤ 60 by rw [HLN.out]; exact h60)
   have n60 : (i : Int) ≤ 60 := by omega
   clear HBB HBF
   go_wp2_with (go_at_call 54; refine (HGC.out _ hS).mono ?_; rintro e w1 ⟨pg, rfl, hS1⟩; clear hS; have hS := hS1.drop; clear hS1)
   refine HKX.out _ _ ?_
   clear HKX
   -- the plan
   refine sep_part (fun KX HKX => ?_)
   obtain ⟨fv, r, hS1⟩ := IsSt.open hS.pull1
   clear hS
   have hS := hS1
   clear hS1
   have hSm := hS
   have hk1 : Has _ 1 (IsMap fv S.U) := (Has.s Has.z : Has (Cs ps 85 (stv pd S.sup fv S.inos r S.last) :: IsMap fv S.U :: Tb 53 3 rv r S.recs :: Tb 53 3 rv (.slice ao7 na c7) (allG S l) :: IsDisk pd D :: L) 1 (IsMap fv S.U))
   unfold IsMap at hk1
   obtain ⟨fb, fo, fc, rfl, _⟩ := hS.slAddr hk1 (by decide)
   clear hk1 hSm
   obtain ⟨nb, hnb⟩ : ∃ n, D.blocks.length = n := ⟨_, rfl⟩
   have HNBL := Lib.hid hnb
   have hbl : S.sup.blocks = (nb : Int) := by rw [← hnb]; exact HOK.out.blocks
   have HBT := Lib.hid (show S.sup.blocks.toNat = nb by rw [hbl]; exact Int.toNat_natCast nb)
   have n1 : 160 ≤ nb := by rw [← hnb]; exact HOK.out.n1
   have n2 : nb ≤ 1024 := by rw [← hnb]; exact HOK.out.n2
   have G1 := Lib.hid (show (stv pd S.sup (.slice (some ⟨fb, fo, none⟩) 128 fc) S.inos r S.last)[1]? = some (.int .i64 (nb : Int)) by rw [stv_low (by decide), ← hbl]; rfl)
   have G8 := Lib.hid (stv_free (pd := pd) (s := S.sup) (fv := .slice (some ⟨fb, fo, none⟩) 128 fc) (X := S.inos) (r := r) (last := S.last))
   have HMK := Lib.hid (fun w M h => IsSt.mk (W := W) (w := w) (L := M) (ps := ps) (pd := pd) (S := S) (fv := .slice (some ⟨fb, fo, none⟩) 128 fc) (r := r) h)
   have HMR := Lib.hid (fun w M (h : Sat W w (IsSt ps pd S :: M)) => smore_any h HOK.out.x i (by omega) HOK.out.lastle)
   obtain ⟨m, hm⟩ : ∃ m, (i + S.last - 1) / 15 = m := ⟨_, rfl⟩
   have HM := Lib.hid (show moreN S l = m by unfold moreN; rw [HLN.out]; exact hm)
   rw [hm] at HMR
   have hm4 : m ≤ 4 := by have := HOK.out.lastle; omega
   have m4 : (m : Int) ≤ 4 := by omega
   by_cases hno : (freeL S.U nb).length < m
   ·have HPN := Lib.hid (fun w (h : Sat W w (Cs ps 85 (stv pd S.sup (.slice (some ⟨fb, fo, none⟩) 128 fc) S.inos r S.last) :: IsMap (.slice (some ⟨fb, fo, none⟩) 128 fc) S.U :: Tb 53 3 rv r S.recs :: Tb 53 3 rv (.slice ao7 na c7) (allG S l) :: IsDisk pd D :: L)) => plan_no h S.U fb fo fc nb m n2 (by omega) hno (map_rd (Has.s Has.z)) (.slice none 0 0))
    have HNO := Lib.hid (show growR S D l shown = (2, S, D) by
     unfold growR
     rw [if_neg (by rw [HB.out]; decide), if_pos (by rw [HBT.out, HM.out]; exact hno)])
    clear hno hnb hbl n1 n2 hm hm4
    refine regStart [13] hS (by kernel_rfl) rfl ?_
    intro w1 hS1
    clear hS; have hS := hS1; clear hS1
    (refine rgP 0 hS (fun _ h => h) ?_; go_frame)
    (refine rgP 1 hS (fun _ h => h) ?_; go_frame)
    (refine rgP 2 hS (fun _ h => h) ?_; go_frame)
    (refine rgR 3 hS (fun _ h => h) ?_; (first
             | refine ⟨_, yLd _ _ (by rfl) _ _ (by rfl) (agOf (by rfl)) Has.z G1.out, ?_⟩
             | refine ⟨_, yLd _ _ (by rfl) _ _ (by rfl) (agOf (by rfl)) Has.z G8.out, ?_⟩); go_frame)
    (refine rgP 4 hS (fun _ h => h) ?_; go_frame)
    (refine rgP 5 hS (fun _ h => h) ?_; go_frame)
    (refine rgP 6 hS (fun _ h => h) ?_; go_frame)
    (refine rgP 7 hS (fun _ h => h) ?_; go_frame)
    (refine rgR 8 hS (fun _ h => h) ?_; (first
             | refine ⟨_, yLd _ _ (by rfl) _ _ (by rfl) (agOf (by rfl)) Has.z G1.out, ?_⟩
             | refine ⟨_, yLd _ _ (by rfl) _ _ (by rfl) (agOf (by rfl)) Has.z G8.out, ?_⟩); go_frame)
    (refine rgP 9 hS (fun _ h => h) ?_; go_frame)
    (refine rgP 10 hS (fun _ h => h) ?_; go_frame)
    (refine rgP 11 hS (fun _ h => h) ?_; go_frame)
    (refine rgA 12 false fun K hK => ?_; (first
             | (refine Go.Sep.cl 51 _ _ (by rfl) (by rfl) (by kernel_rfl) (HMR.out _ _ (HMK.out _ _ hS)) ?_; rintro e w1 ⟨rfl, rfl⟩; refine ⟨_, rfl, ?_⟩)
             | (refine Go.Sep.cl 40 _ _ (by rfl) (by rfl) (by kernel_rfl) (HPN.out _ hS) ?_; clear hS; rintro e w1 ⟨rfl, hS⟩; refine ⟨_, rfl, ?_⟩)); refine hK _ _ _ hS (by first | (intro h; cases h; done) | exact fun _ _ h => h | exact fun _ _ h => h.drop | exact fun _ _ h => h.drop.drop | exact fun _ _ h => h.drop.pull1 | exact fun _ _ h => h.take2 | exact fun _ _ h => h.one Has.z | exact fun _ _ h => h.one (Has.s Has.z) | exact fun _ _ h => h.one (Has.s (Has.s Has.z))) ?_; clear hK K; go_frame)
    (refine rgA 13 true fun K hK => ?_; (first
             | (refine Go.Sep.cl 51 _ _ (by rfl) (by rfl) (by kernel_rfl) (HMR.out _ _ (HMK.out _ _ hS)) ?_; rintro e w1 ⟨rfl, rfl⟩; refine ⟨_, rfl, ?_⟩)
             | (refine Go.Sep.cl 40 _ _ (by rfl) (by rfl) (by kernel_rfl) (HPN.out _ hS) ?_; clear hS; rintro e w1 ⟨rfl, hS⟩; refine ⟨_, rfl, ?_⟩)); refine hK _ _ _ hS (by first | (intro h; cases h; done) | exact fun _ _ h => h | exact fun _ _ h => h.drop | exact fun _ _ h => h.drop.drop | exact fun _ _ h => h.drop.pull1 | exact fun _ _ h => h.take2 | exact fun _ _ h => h.one Has.z | exact fun _ _ h => h.one (Has.s Has.z) | exact fun _ _ h => h.one (Has.s (Has.s Has.z))) ?_; clear hK K; go_frame)
    (refine rgP 14 hS (fun _ h => h) ?_; go_frame)
    (refine rgP 15 hS (fun _ h => h) ?_; go_frame)
    (refine rgP 16 hS (fun _ h => h) ?_; go_frame)
    (refine rgP 17 hS (fun _ h => h) ?_; go_frame)
    (refine rgP 18 hS (fun _ h => h) ?_; go_frame)
    (refine rgP 19 hS (fun _ h => h) ?_; go_frame)
    (refine rgP 20 hS (fun _ h => h) ?_; go_frame)
    refine regDone (by kernel_rfl) ?_
    refine HKX.out _ _ ?_
    go_wp2
    go_ret
    rw [HNO.out]
    exact ⟨rfl, ((HMK.out _ _ hS).re [1, 0, 2]).drop⟩
   ·have hf : m ≤ (freeL S.U nb).length := by omega
    have HF := Lib.hid (show moreN S l ≤ (freeL S.U S.sup.blocks.toNat).length by rw [HM.out, HBT.out]; exact hf)
    have htk : (freeL S.U nb).take m = takG S l := by unfold takG; rw [HM.out, HBT.out]
    have HPN := Lib.hid (fun w (h : Sat W w (Cs ps 85 (stv pd S.sup (.slice (some ⟨fb, fo, none⟩) 128 fc) S.inos r S.last) :: IsMap (.slice (some ⟨fb, fo, none⟩) 128 fc) S.U :: Tb 53 3 rv r S.recs :: Tb 53 3 rv (.slice ao7 na c7) (allG S l) :: IsDisk pd D :: L)) => plan_ok h S.U fb fo fc nb m n2 (by omega) hf (map_rd (Has.s Has.z)) [] none 0 (fun w _ _ => rdNilI w) (GoneOk.nil _ _) (by decide))
    rw [htk] at HPN
    have HXL := Lib.hid (stv_len (pd := pd) (s := S.sup) (fv := .slice (some ⟨fb, fo, none⟩) 128 fc) (r := r) (last := S.last) HOK.out.x)
    have HS0 := Lib.hid (stv_sup (pd := pd) (s := S.sup) (fv := .slice (some ⟨fb, fo, none⟩) 128 fc) (X := S.inos) (r := r) (last := S.last))
    have HTKL := Lib.hid (show (takG S l).length = m by rw [HOK.out.taken HF.out, HM.out])
    have HM4 := Lib.hid hm4
    clear hno hnb hbl n1 n2 hm hm4 hf htk
    refine regStart [13] hS (by kernel_rfl) rfl ?_
    intro w1 hS1
    clear hS; have hS := hS1; clear hS1
    (refine rgP 0 hS (fun _ h => h) ?_; go_frame)
    (refine rgP 1 hS (fun _ h => h) ?_; go_frame)
    (refine rgP 2 hS (fun _ h => h) ?_; go_frame)
    (refine rgR 3 hS (fun _ h => h) ?_; (first
             | refine ⟨_, yLd _ _ (by rfl) _ _ (by rfl) (agOf (by rfl)) Has.z G1.out, ?_⟩
             | refine ⟨_, yLd _ _ (by rfl) _ _ (by rfl) (agOf (by rfl)) Has.z G8.out, ?_⟩); go_frame)
    (refine rgP 4 hS (fun _ h => h) ?_; go_frame)
    (refine rgP 5 hS (fun _ h => h) ?_; go_frame)
    (refine rgP 6 hS (fun _ h => h) ?_; go_frame)
    (refine rgP 7 hS (fun _ h => h) ?_; go_frame)
    (refine rgR 8 hS (fun _ h => h) ?_; (first
             | refine ⟨_, yLd _ _ (by rfl) _ _ (by rfl) (agOf (by rfl)) Has.z G1.out, ?_⟩
             | refine ⟨_, yLd _ _ (by rfl) _ _ (by rfl) (agOf (by rfl)) Has.z G8.out, ?_⟩); go_frame)
    (refine rgP 9 hS (fun _ h => h) ?_; go_frame)
    (refine rgP 10 hS (fun _ h => h) ?_; go_frame)
    (refine rgP 11 hS (fun _ h => h) ?_; go_frame)
    (refine rgA 12 false fun K hK => ?_; (first
             | (refine Go.Sep.cl 51 _ _ (by rfl) (by rfl) (by kernel_rfl) (HMR.out _ _ (HMK.out _ _ hS)) ?_; rintro e w1 ⟨rfl, rfl⟩; refine ⟨_, rfl, ?_⟩)
             | (refine Go.Sep.cl 40 _ _ (by rfl) (by rfl) (by kernel_rfl) (HPN.out _ hS) ?_; rintro e w1 hE; obtain ⟨vt, vm, rfl, hS1⟩ := hE; clear hS; have hS := hS1; clear hS1; refine ⟨_, rfl, ?_⟩)); refine hK _ _ _ hS (by first | (intro h; cases h; done) | exact fun _ _ h => h | exact fun _ _ h => h.drop | exact fun _ _ h => h.drop.drop | exact fun _ _ h => h.drop.pull1 | exact fun _ _ h => h.take2 | exact fun _ _ h => h.one Has.z | exact fun _ _ h => h.one (Has.s Has.z) | exact fun _ _ h => h.one (Has.s (Has.s Has.z))) ?_; clear hK K; go_frame)
    (refine rgA 13 true fun K hK => ?_; (first
             | (refine Go.Sep.cl 51 _ _ (by rfl) (by rfl) (by kernel_rfl) (HMR.out _ _ (HMK.out _ _ hS)) ?_; rintro e w1 ⟨rfl, rfl⟩; refine ⟨_, rfl, ?_⟩)
             | (refine Go.Sep.cl 40 _ _ (by rfl) (by rfl) (by kernel_rfl) (HPN.out _ hS) ?_; rintro e w1 hE; obtain ⟨vt, vm, rfl, hS1⟩ := hE; clear hS; have hS := hS1; clear hS1; refine ⟨_, rfl, ?_⟩)); refine hK _ _ _ hS (by first | (intro h; cases h; done) | exact fun _ _ h => h | exact fun _ _ h => h.drop | exact fun _ _ h => h.drop.drop | exact fun _ _ h => h.drop.pull1 | exact fun _ _ h => h.take2 | exact fun _ _ h => h.one Has.z | exact fun _ _ h => h.one (Has.s Has.z) | exact fun _ _ h => h.one (Has.s (Has.s Has.z))) ?_; clear hK K; go_frame)
    (refine rgP 14 hS (fun _ h => h) ?_; go_frame)
    (refine rgP 15 hS (fun _ h => h) ?_; go_frame)
    (refine rgP 16 hS (fun _ h => h) ?_; go_frame)
    (refine rgP 17 hS (fun _ h => h) ?_; go_frame)
    (refine rgP 18 hS (fun _ h => h) ?_; go_frame)
    (refine rgP 19 hS (fun _ h => h) ?_; go_frame)
    (refine rgP 20 hS (fun _ h => h) ?_; go_frame)
    refine regDone (by kernel_rfl) ?_
    refine HKX.out _ _ ?_
    clear HKX HPN HMR
    obtain ⟨at_, ct, rfl, _⟩ := hS.irShape Has.z
    have HVM := Lib.hid (map_one hS)
    rw [HTKL.out] at hS ⊢
    refine sep_part (fun KX HKX => ?_)
    go_wp2
    refine HKX.out _ _ ?_
    clear HKX
    refine sep_part (fun KX HKX => ?_)
    go_wp2_with (first
     | (refine toList (by rfl) ?_; refine wp_of_reads (rLdA hS _ _ (by rfl) _ _ (by rfl) (agOf (by rfl)) (szOf (by rfl)) (Has.s (Has.s Has.z)) (vs := sv S.sup) HS0.out (by rfl)) ?_)
     | (refine toList (by rfl) ?_; refine Go.Sep.al hS _ (by rfl) (zrOf (by rfl)) ?_; clear hS; intro p16 w1 hS; rw [cells_agg] at hS)
     | (refine toList (by rfl) ?_; refine stW hS _ _ _ (by rfl) (by rfl) (sv S.sup) (by rfl) (sv_all _) (szOf (by rfl)) Has.z (by rfl) ?_; clear hS; intro w1 hS; rw [List.set_cons_zero] at hS))
    refine HKX.out _ _ ?_
    clear HKX
    refine sep_part (fun KX HKX => ?_)
    go_wp2_with (refine toList (by rfl) ?_; refine Go.Sep.st hS _ _ _ (by rfl) _ _ (by rfl) _ (by first | exact evC | exact evT (by rfl)) (by rfl) (szOf (by rfl)) Has.z (by exact Nat.le_of_ble_eq_true rfl) ?_; clear hS; intro w1 hS; rw [List.set_cons_zero, sv_rec] at hS)
    refine HKX.out _ _ ?_
    clear HKX
    refine sep_cut (grJ1 W L ps pd p16 S D l shown aq i cq (.slice (some ⟨fb, fo, none⟩) 128 fc) r (.slice ao7 na c7) (.slice at_ m ct) vm) (fun KX HKX => ?_) ?_
    ·have HS1 := Lib.hid (show ∀ b, supG1 S l b = if b then { S.sup with records := (na : Int), shown := (na : Int) } else { S.sup with records := (na : Int) } by
      intro b; unfold supG1; rw [HNB.out]; cases b <;> rfl)
     have G3 := Lib.hid (show (sv { S.sup with records := (na : Int) })[3]? = some (.int .i64 (na : Int)) from rfl)
     cases shown with
     | false =>
      go_wp2
      refine HKX.out _ _ ?_
      unfold grJ1
      refine ⟨?_, rfl⟩
      rw [HS1.out]
      exact hS
     | true =>
      go_wp2_with (first
       | (refine toList (by rfl) ?_; refine ld hS _ _ (by rfl) _ _ (by rfl) (agOf (by rfl)) Has.z G3.out ?_)
       | (refine toList (by rfl) ?_; refine Go.Sep.st hS _ _ _ (by rfl) _ _ (by rfl) _ (by first | exact evC | exact evT (by rfl)) (by rfl) (szOf (by rfl)) Has.z (by exact Nat.le_of_ble_eq_true rfl) ?_; clear hS; intro w1 hS; rw [List.set_cons_zero, sv_shown] at hS))
      refine HKX.out _ _ ?_
      unfold grJ1
      refine ⟨?_, rfl⟩
      rw [HS1.out]
      exact hS
    clear hS HS0 HSR
    rintro a wz hinv
    unfold grJ1 at hinv
    obtain ⟨hrel, ha⟩ := hinv
    obtain ⟨z, hz⟩ : ∃ z : Nat → Value, ∀ i, a.tmps.getD i undef = z i := ⟨_, fun _ => rfl⟩
    simp only [hz] at hrel ha
    clear hz
    subst ha
    have hS := hrel
    clear hrel
    unfold GrR at hS
    rw [List.cons_append, List.cons_append, List.cons_append, List.cons_append, List.cons_append, List.cons_append, List.cons_append, List.nil_append] at hS
    have HEQ := fun u => eq_run u (supG1 S l shown) S.sup
    refine sep_part (fun KX HKX => ?_)
    by_cases hsame : supG1 S l shown = S.sup
    ·rw [decide_eq_true hsame] at HEQ
     have HSM := Lib.hid (show growR S D l shown = (0, S, D) by
      unfold growR
      rw [if_neg (by rw [HB.out]; decide), if_neg (by have := HF.out; omega), if_pos hsame])
     clear hsame
     go_wp2
     refine regStart [] hS (by kernel_rfl) rfl ?_
     intro w1 hS1
     clear hS; have hS := hS1; clear hS1
     (refine rgR 0 hS (fun _ h => h) ?_; (first
                | refine ⟨_, yLdA _ _ (by rfl) _ _ (by rfl) (agOf (by rfl)) (szOf (by rfl)) Has.z (vs := sv (supG1 S l shown)) (by rfl) (by rfl), ?_⟩
                | refine ⟨_, yLdA _ _ (by rfl) _ _ (by rfl) (agOf (by rfl)) (szOf (by rfl)) (Has.s (Has.s (Has.s Has.z))) (vs := sv S.sup) (by rfl) (by rfl), ?_⟩); go_frame)
     (refine rgP 1 hS (fun _ h => h) ?_; go_frame)
     (refine rgP 2 hS (fun _ h => h) ?_; go_frame)
     (refine rgP 3 hS (fun _ h => h) ?_; go_frame)
     (refine rgR 4 hS (fun _ h => h) ?_; (first
                | refine ⟨_, yLdA _ _ (by rfl) _ _ (by rfl) (agOf (by rfl)) (szOf (by rfl)) Has.z (vs := sv (supG1 S l shown)) (by rfl) (by rfl), ?_⟩
                | refine ⟨_, yLdA _ _ (by rfl) _ _ (by rfl) (agOf (by rfl)) (szOf (by rfl)) (Has.s (Has.s (Has.s Has.z))) (vs := sv S.sup) (by rfl) (by rfl), ?_⟩); go_frame)
     (refine rgP 5 hS (fun _ h => h) ?_; go_frame)
     refine regDone (by kernel_rfl) ?_
     go_wp2
     go_ret
     rw [HSM.out]
     exact ⟨rfl, ((HMK.out _ _ (hS.re [3, 4, 5, 7, 0, 1, 2, 6])).re [2, 3, 4, 5, 0, 1]).drop.drop.drop.drop⟩
    ·rw [decide_eq_false hsame] at HEQ
     have HGR := Lib.hid (show growR S D l shown = ((commitR D (wrG S l shown)).1, (if (commitR D (wrG S l shown)).1 = 0 then S.grown l shown else S), (commitR D (wrG S l shown)).2) by
      unfold growR
      rw [if_neg (by rw [HB.out]; decide), if_neg (by have := HF.out; omega), if_neg hsame])
     clear hsame
     go_wp2
     refine regStart [] hS (by kernel_rfl) rfl ?_
     intro w1 hS1
     clear hS; have hS := hS1; clear hS1
     (refine rgR 0 hS (fun _ h => h) ?_; (first
                | refine ⟨_, yLdA _ _ (by rfl) _ _ (by rfl) (agOf (by rfl)) (szOf (by rfl)) Has.z (vs := sv (supG1 S l shown)) (by rfl) (by rfl), ?_⟩
                | refine ⟨_, yLdA _ _ (by rfl) _ _ (by rfl) (agOf (by rfl)) (szOf (by rfl)) (Has.s (Has.s (Has.s Has.z))) (vs := sv S.sup) (by rfl) (by rfl), ?_⟩); go_frame)
     (refine rgP 1 hS (fun _ h => h) ?_; go_frame)
     (refine rgP 2 hS (fun _ h => h) ?_; go_frame)
     (refine rgP 3 hS (fun _ h => h) ?_; go_frame)
     (refine rgR 4 hS (fun _ h => h) ?_; (first
                | refine ⟨_, yLdA _ _ (by rfl) _ _ (by rfl) (agOf (by rfl)) (szOf (by rfl)) Has.z (vs := sv (supG1 S l shown)) (by rfl) (by rfl), ?_⟩
                | refine ⟨_, yLdA _ _ (by rfl) _ _ (by rfl) (agOf (by rfl)) (szOf (by rfl)) (Has.s (Has.s (Has.s Has.z))) (vs := sv S.sup) (by rfl) (by rfl), ?_⟩); go_frame)
     (refine rgP 5 hS (fun _ h => h) ?_; go_frame)
     refine regDone (by kernel_rfl) ?_
     go_wp2
     refine HKX.out _ _ ?_
     clear HKX HEQ
     refine sep_part (fun KX HKX => ?_)
     go_wp2
     refine HKX.out _ _ ?_
     clear HKX
     have GL := Lib.hid (stv_last (pd := pd) (s := S.sup) (fv := .slice (some ⟨fb, fo, none⟩) 128 fc) (r := r) (last := S.last) HOK.out.x)
     have GR := Lib.hid (stv_rec (pd := pd) (s := S.sup) (fv := .slice (some ⟨fb, fo, none⟩) 128 fc) (r := r) (last := S.last) HOK.out.x)
     have htl0 : 0 ≤ S.sup.tail := by rw [HOK.out.tail]; omega
     obtain ⟨tl, htl⟩ : ∃ n : Nat, S.sup.tail = (n : Int) := ⟨S.sup.tail.toNat, by omega⟩
     have GT := Lib.hid (show (stv pd S.sup (.slice (some ⟨fb, fo, none⟩) 128 fc) S.inos r S.last)[3]? = some (.int .i64 (tl : Int)) by rw [stv_low (by decide), ← htl]; rfl)
     have HBK := Lib.hid (show blkG S l = [tl] ++ takG S l by unfold blkG; rw [htl, Int.toNat_natCast]; rfl)
     clear htl htl0
     refine sep_part (fun KX HKX => ?_)
     go_wp2_with (refine toList (by rfl) ?_; refine ld hS _ _ (by rfl) _ _ (by rfl) (agOf (by rfl)) (Has.s (Has.s (Has.s Has.z))) GL.out ?_)
     refine HKX.out _ _ ?_
     clear HKX
     refine sep_cut (grJ2 W L ps pd p16 S D l shown aq i cq (.slice (some ⟨fb, fo, none⟩) 128 fc) r (.slice ao7 na c7) (.slice at_ m ct) vm) (fun KX HKX => ?_) ?_
     ·by_cases hi0 : i = 0
      ·subst hi0
       have hl0 : l = [] := List.length_eq_zero_iff.1 HLN.out
       have hla : lastG S l = S.last := if_pos hl0
       have hsu : supG S l shown = supG1 S l shown := if_pos hl0
       have hw0 : wrG0 S l = [] := if_pos hl0
       have HLA := Lib.hid hla
       have HSU := Lib.hid hsu
       have HW0 := Lib.hid hw0
       clear hl0 hla hsu hw0
       go_wp2
       refine HKX.out _ _ ?_
       unfold grJ2
       refine ⟨⟨[], HW0.out.symm, Sat.tbNil ((Sat.stNil ?_))⟩, ?_⟩
       ·rw [HSU.out]; exact hS
       ·rw [HLA.out]; rfl
      ·have hl0 : l ≠ [] := fun e => hi0 (by rw [← HLN.out, e]; rfl)
       have i0 : (0 : Int) < (i : Int) := by omega
       have HI0 := Lib.hid (show 0 < i by omega)
       have HLA := Lib.hid (show lastG S l = lstP S l (m + 1) by rw [← HM.out]; exact if_neg hl0)
       have HSU := Lib.hid (show supG S l shown = { supG1 S l shown with tail := ((bAt (blkG S l) m : Nat) : Int) } by rw [← HM.out]; exact if_neg hl0)
       have HW0 := Lib.hid (show wrG0 S l = pcsG (blkG S l) (restG S l) (m + 1) by rw [← HM.out]; exact if_neg hl0)
       have HBL := Lib.hid (show (blkG S l).length = m + 1 by rw [HBK.out, List.length_append, HTKL.out]; simp; omega)
       have hbm : (blkG S l)[m]? = some (bAt (blkG S l) m) := by
        rw [List.getElem?_eq_getElem (by rw [HBL.out]; omega)]
        unfold bAt
        rw [List.getElem?_eq_getElem (by rw [HBL.out]; omega)]
        rfl
       have HBM := Lib.hid (iv_at hbm)
       obtain ⟨tb, htb⟩ : ∃ t, bAt (blkG S l) m = t := ⟨_, rfl⟩
       rw [htb] at HBM HSU
       have HS9 := Lib.hid (show (sv (supG1 S l shown)).set 2 (.int .i64 (tb : Int)) = sv (supG S l shown) by rw [HSU.out]; rfl)
       obtain ⟨ar, cr, rfl, _⟩ := hS.tbShape (k := 5) rfl
       obtain ⟨nr, hnr⟩ : ∃ n, S.recs.length = n := ⟨_, rfl⟩
       obtain ⟨la, hla⟩ : ∃ n, S.last = n := ⟨_, rfl⟩
       have hlar : la ≤ nr := by rw [← hla, ← hnr]; obtain ⟨m', hm', _⟩ := HOK.out.glast; have := HOK.out.lens hm'; omega
       have hnar : na = nr + i := by rw [← hnr, ← HLN.out, ← HNB.out]; exact allG_len
       have HLO := Lib.hid (show restG S l = (allG S l).drop (nr - la) by unfold restG; rw [hnr, hla])
       have hvlo : (nr : Int) - (la : Int) = ((nr - la : Nat) : Int) := by omega
       obtain ⟨lo, hlo⟩ : ∃ n, nr - la = n := ⟨_, rfl⟩
       rw [hlo] at hvlo HLO
       have nr1 : (nr : Int) ≤ 15360 := by have := HRL.out; omega
       have la1 : (la : Int) ≤ 15 := by have := HOK.out.lastle; omega
       have HVLO := Lib.hid hvlo
       have HNAR := Lib.hid hnar
       have HLON := Lib.hid (show lo ≤ na by omega)
       have HNC := Lib.hid (show na ≤ c7 by
        obtain ⟨_, _, hec, hc7, _⟩ := hS.tbRd (Has.s (Has.s (Has.s (Has.s (Has.s (Has.s Has.z))))))
        simp only [Value.slice.injEq] at hec
        rw [hec.2.1, hec.2.2]
        exact hc7)
       have m5 : (m : Int) + 1 ≤ 5 := by omega
       rw [hla] at hS GL GR GT ⊢
       rw [hnr] at hS GR GL GT
       have HLA2 := Lib.hid hla
       have HNR2 := Lib.hid hnr
       clear hbm htb hnr hla hlo hi0 hl0 hvlo hlar hnar
       go_wp2_with (first
        | (refine toList (by rfl) ?_; refine ld hS _ _ (by rfl) _ _ (by rfl) (agOf (by rfl)) (Has.s (Has.s (Has.s Has.z))) GT.out ?_)
        | (refine toList (by rfl) ?_; refine bsF hS _ _ _ (by rfl) (elOf (by rfl)) [.int .i64 (tl : Int)] (by rfl) (by rfl) (by decide) (by decide) (by simp [Value.cells]) ?_; clear hS; intro b1 w1 hS; rw [sca1 rfl] at hS; replace hS := csIr _ hS)
        | (at_builtin; refine toList (by rfl) ?_; refine apI hS _ _ _ _ (by rfl) (by rfl) (by rfl) (elOf (by rfl)) (by rfl) (by rfl) (by rfl) (inOf (by rfl)) Has.z (m := takG S l) (by exact hS.irRd (Has.s (Has.s Has.z))) (by rw [HTKL.out]; simp; omega) ?_; clear hS; intro vb w1 hS; rw [List.set_cons_zero, ← HBK.out] at hS; obtain ⟨abb, abo, cb, rfl⟩ := hS.irAddr HBL.out Has.z)
        | (refine toList (by rfl) ?_; refine wp_of_reads (rLdRd1 (hS.irRdm HBL.out Has.z) _ _ (by rfl) _ (by rfl) (agOf (by rfl)) m (by omega) HBM.out (by omega)) ?_)
        | (refine toList (by rfl) ?_; refine Go.Sep.st hS _ _ _ (by rfl) _ _ (by rfl) _ (by first | exact evC | exact evT (by rfl)) (by rfl) (szOf (by rfl)) (Has.s Has.z) (by exact Nat.le_of_ble_eq_true rfl) ?_; clear hS; intro w1 hS; rw [List.set_cons_succ, List.set_cons_zero, HS9.out] at hS))
       have hvlo := HVLO.out
       refine regStart [] hS (by kernel_rfl) rfl ?_
       intro w1 hS1
       clear hS; have hS := hS1; clear hS1
       (refine rgP 0 hS (fun _ h => h) ?_; go_frame)
       (refine rgP 1 hS (fun _ h => h) ?_; go_frame)
       (refine rgP 2 hS (fun _ h => h) ?_; go_frame)
       (refine rgP 3 hS (fun _ h => h) ?_; go_frame)
       (refine rgR 4 hS (fun _ h => h) ?_; (first
                      | refine ⟨_, yLd _ _ (by rfl) _ _ (by rfl) (agOf (by rfl)) (Has.s (Has.s (Has.s (Has.s Has.z)))) GL.out, ?_⟩
                      | refine ⟨_, yLd _ _ (by rfl) _ _ (by rfl) (agOf (by rfl)) (Has.s (Has.s (Has.s (Has.s Has.z)))) GR.out, ?_⟩); go_frame)
       (refine rgP 5 hS (fun _ h => h) ?_; go_frame)
       (refine rgP 6 hS (fun _ h => h) ?_; go_frame)
       (refine rgP 7 hS (fun _ h => h) ?_; go_frame)
       (refine rgP 8 hS (fun _ h => h) ?_; go_frame)
       (refine rgR 9 hS (fun _ h => h) ?_; (first
                      | refine ⟨_, yLd _ _ (by rfl) _ _ (by rfl) (agOf (by rfl)) (Has.s (Has.s (Has.s (Has.s Has.z)))) GL.out, ?_⟩
                      | refine ⟨_, yLd _ _ (by rfl) _ _ (by rfl) (agOf (by rfl)) (Has.s (Has.s (Has.s (Has.s Has.z)))) GR.out, ?_⟩); go_frame)
       (refine rgP 10 hS (fun _ h => h) ?_; go_frame; try simp (disch := omega) only [IntWalk.i64_in])
       (refine regP 11 hS (fun _ h => h) rfl (by kernel_rfl) (by kernel_rfl) (by kernel_rfl) (fun _ _ _ _ h => h) (by rfl) (by rfl) ?_; apply Exists.intro; apply And.intro; (intro w; first | exact rCutL (lo := lo) (by rfl) (by rfl) (by rfl) (by first | exact HVLO.out | omega) HLON.out HNC.out (elOf (by rfl)) w | (go_simp; try with_reducible rfl)); go_frame)
       (refine rgP 12 hS (fun _ h => h) ?_; go_frame)
       refine regDone (by kernel_rfl) ?_
       clear hvlo
       rw [← HLA2.out] at hS ⊢
       have HRD0 := Lib.hid (show ∀ w L', Sat W w (L' ++ (Tb 53 3 rv (.slice ao7 na c7) (allG S l) :: IsDisk pd D :: L)) → Rd w (.slice (cutA ao7 c7 lo 3) (na - lo) (c7 - lo)) (na - lo) 3 (((restG S l).drop (15 * 0)).flatMap rv) from fun w L' h => by
        have h1 := h.tbRd (has_add Has.z L')
        rw [HNB.out] at h1
        have h2 := h1.cutL lo HLON.out
        rw [fm_drop (f := rv) (sz := 3) _ _ (fun _ _ => rfl), ← HLO.out] at h2
        exact h2)
       have HN0 := Lib.hid (show na - lo = (restG S l).length - 15 * 0 by rw [HLO.out, List.length_drop, HNB.out]; omega)
       have H1 := Lib.hid ((show ∀ w, Sat W w (Ir (.slice (some ⟨abb, abo, none⟩) (m + 1) cb) (blkG S l) :: Cs p16 77 (sv (supG S l shown)) :: (GrR ps pd S D l (.slice (some ⟨fb, fo, none⟩) 128 fc) (.slice ar nr cr) (.slice ao7 na c7) (.slice at_ m ct) vm ++ L)) → Sat W w (Tb 95 2 gw (.slice none 0 0) ([] : List GW) :: St (([] : List GW).map grow) :: Ir (.slice (some ⟨abb, abo, none⟩) (m + 1) cb) (blkG S l) :: Cs p16 77 (sv (supG S l shown)) :: (GrR ps pd S D l (.slice (some ⟨fb, fo, none⟩) 128 fc) (.slice ar nr cr) (.slice ao7 na c7) (.slice at_ m ct) vm ++ L)) from fun w h => Sat.tbNil (Sat.stNil h)) _ hS)
       have HPO := Lib.hid (fun j (h : j < m + 1) => HOK.out.gput HB.out HF.out (i := j) (by rw [HM.out]; exact h))
       have HRLN := Lib.hid (show (restG S l).length = S.last + i by rw [restG_len HOK.out, HLN.out])
       have HMV := Lib.hid (show (i + S.last - 1) / 15 = m by rw [← HM.out]; unfold moreN; rw [HLN.out])
       have hm4 := HM4.out
       clear hS HVLO HLON HNC
       go_wp2
       go_loopw [127, 17, 18, 20] (fun v127 v17 v18 v20 wz => GrL W L ps pd p16 m S D l shown (.slice (some ⟨fb, fo, none⟩) 128 fc) (.slice ar nr cr) (.slice ao7 na c7) (.slice at_ m ct) vm (.slice (some ⟨abb, abo, none⟩) (m + 1) cb) v127 v17 v18 v20 wz) (fun v127 _ _ _ _ => lpM (m + 1) v127)
       case atStart => exact ⟨0, [], _, _, _, rfl, Nat.zero_le _, rfl, rfl, HN0.out, HRD0.out, rfl, H1.out⟩
       case round =>
        clear H1 HRD0 HN0
        obtain ⟨j, gws, ao, n, c, rfl, hj, rfl, rfl, hn, hrd, hg2, hS⟩ := hrel
        have HRD := Lib.hid hrd
        have HG2 := Lib.hid hg2
        unfold GrR at hS
        rw [List.cons_append, List.cons_append, List.cons_append, List.cons_append, List.cons_append, List.cons_append, List.cons_append, List.nil_append] at hS
        have hgl : gws.length = j := by
         have := congrArg List.length hg2
         rw [g2_len, pcsG_len] at this
         exact this
        have HGL := Lib.hid (show gws.length ≤ 5 by omega)
        have HGL1 := Lib.hid (show ∀ x : GW, (gws ++ [x]).length = j + 1 from fun x => by rw [List.length_append, hgl]; rfl)
        clear hrd hg2 hgl
        by_cases hlt : j < m + 1
        ·have k2 : (j : Int) < (m : Int) + 1 := by omega
         have HLT := Lib.hid hlt
         have hbj : (blkG S l)[j]? = some (bAt (blkG S l) j) := by
          rw [List.getElem?_eq_getElem (by rw [HBL.out]; omega)]
          unfold bAt
          rw [List.getElem?_eq_getElem (by rw [HBL.out]; omega)]
          rfl
         have HBJ := Lib.hid (iv_at hbj)
         have hrd := HRD.out _ [_, _, _, _, _, _, _, _, _] hS
         have HC := Lib.hid (show n ≤ c by
          obtain ⟨_, _, hec, hcc, _⟩ := hrd
          simp only [Value.slice.injEq] at hec
          rw [hec.2.2]
          exact hcc)
         obtain ⟨d, hd⟩ : ∃ d, encB (chunk (restG S l) j) (nextG (blkG S l) j) = d := ⟨_, rfl⟩
         have hdl : d.length = 128 := by rw [← hd]; exact encB_len _ (by rw [chunk_len]; omega)
         have HMAP := Lib.hid (fun (x : GW) => (show gws.map grow ++ [grow x] = (gws ++ [x]).map grow by rw [List.map_append]; rfl))
         have HGROW := Lib.hid (show ∀ v, Sl 5 1 v 128 (bv d) = grow ⟨((bAt (blkG S l) j : Nat) : Int), v, d⟩ from fun v => by unfold grow; rw [hdl])
         have HGN := Lib.hid (show ∀ v, g2 (gws ++ [⟨((bAt (blkG S l) j : Nat) : Int), v, d⟩]) = pcsG (blkG S l) (restG S l) (j + 1) from fun v => by
          rw [gr2_snoc, HG2.out, pcsG_succ, hd])
         have hrl := HRLN.out
         have hmv := HMV.out
         have HPD := Lib.hid (HPO.out j hlt)
         have HNXS := Lib.hid hd
         have HDL := Lib.hid hdl
         have HCH := Lib.hid (fun q (hq : q ≤ n) (hq2 : (chunk (restG S l) j).length = q) => (show ∀ w vw, Sat W w (GrS L ps pd p16 S D l shown (.slice (some ⟨fb, fo, none⟩) 128 fc) (.slice ar nr cr) (.slice ao7 na c7) (.slice at_ m ct) vm (.slice (some ⟨abb, abo, none⟩) (m + 1) cb) vw gws) → Rd w (.slice ao q c) q 3 ((chunk (restG S l) j).flatMap rv) from fun w vw h => by
          have h1 := (HRD.out w [_, _, _, _, _, _, _, _, _] h).cutH q hq
          rw [fm_take (f := rv) (sz := 3) _ _ (fun _ _ => rfl)] at h1
          have h2 : ((restG S l).drop (15 * j)).take q = chunk (restG S l) j := by
           have hql : q = min 15 n := by rw [← hq2, chunk_len, hn]
           by_cases h15 : 15 ≤ n
           ·rw [hql, Nat.min_eq_left h15]; rfl
           ·rw [hql, Nat.min_eq_right (by omega)]
            unfold chunk
            rw [List.take_of_length_le (i := n) (by rw [List.length_drop, hn]; exact Nat.le_refl _), List.take_of_length_le (i := 15) (by rw [List.length_drop]; omega)]
          rw [h2] at h1
          exact h1))
         have HCN := Lib.hid (fun q (hq : q ≤ n) (hq15 : q ≤ 15) (hq2 : 15 * (j + 1) = 15 * j + q ∨ n ≤ q) => (show ∀ w L', Sat W w (L' ++ (Tb 53 3 rv (.slice ao7 na c7) (allG S l) :: IsDisk pd D :: L)) → Rd w (.slice (cutA ao c q 3) (n - q) (c - q)) (n - q) 3 (((restG S l).drop (15 * (j + 1))).flatMap rv) from fun w L' h => by
          have h1 := (HRD.out w L' h).cutL q hq
          rw [fm_drop (f := rv) (sz := 3) _ _ (fun _ _ => rfl), List.drop_drop] at h1
          have h2 : (restG S l).drop (15 * j + q) = (restG S l).drop (15 * (j + 1)) := by
           rcases hq2 with hq2 | hq2
           ·rw [hq2]
           ·rw [List.drop_eq_nil_of_le (by omega), List.drop_eq_nil_of_le (by omega)]
          rw [h2] at h1
          exact h1))
         by_cases hjm : j < m
         ·obtain ⟨nx, hnx⟩ : ∃ nx, (blkG S l)[j + 1]? = some nx := ⟨_, List.getElem?_eq_getElem (by rw [HBL.out]; omega)⟩
          have HNX := Lib.hid (iv_at hnx)
          have hnxv : nextG (blkG S l) j = (nx : Int) := by unfold nextG; rw [hnx]; rfl
          rw [hnxv] at HPD HNXS
          have hq : (chunk (restG S l) j).length = 15 := by rw [chunk_len]; omega
          have HLP := Lib.hid (show Value.int .i64 15 = .int .i64 ((lstP S l (j + 1) : Nat) : Int) by show _ = Value.int .i64 (((chunk (restG S l) j).length : Nat) : Int); rw [hq]; rfl)
          have HPUT := Lib.hid (fun w vw (h : Sat W w (GrS L ps pd p16 S D l shown (.slice (some ⟨fb, fo, none⟩) 128 fc) (.slice ar nr cr) (.slice ao7 na c7) (.slice at_ m ct) vm (.slice (some ⟨abb, abo, none⟩) (m + 1) cb) vw gws)) => rput_m h (chunk (restG S l) j) ao c hq (fun w h => HCH.out 15 (by omega) hq w vw h) (nx : Int) HPD.out HNXS.out HDL.out)
          have HRDN := Lib.hid (HCN.out 15 (by omega) (Nat.le_refl _) (.inl (by omega)))
          have HNN := Lib.hid (show n - 15 = (restG S l).length - 15 * (j + 1) by omega)
          have hmin : min (n : Int) 15 = 15 := Int.min_eq_right (by omega)
          have hn15 : (15 : Int) < (n : Int) := by omega
          have k3 : (j : Int) + 1 < (m : Int) + 1 := by omega
          have k4 : (j : Int) < (m : Int) := by omega
          have hnn := Lib.hid (show 15 ≤ n by omega)
          clear hbj hrd hd hdl hnx hnxv hq hn hlt hj hrl hmv hjm
          go_wp2_with (first
           | (refine toList (by rfl) ?_; refine wp_of_reads (rLdRd1 (hS.irRdm HBL.out (Has.s (Has.s Has.z))) _ _ (by rfl) _ (by rfl) (agOf (by rfl)) j (by omega) HBJ.out (by omega)) ?_)
           | (refine toList (by rfl) ?_; refine wp_of_reads (rLdRd1 (hS.irRdm HBL.out (Has.s (Has.s Has.z))) _ _ (by rfl) _ (by rfl) (agOf (by rfl)) (j + 1) (by omega) HNX.out (by omega)) ?_)
           | (refine toList (by rfl) ?_; refine wp_of_reads (rCutH (hi := 15) (by rfl) (by rfl) (by rfl) (by first | rfl | omega) (by have := HC.out; omega) (elOf (by rfl)) _) ?_)
           | (go_at_call 55; refine (HPUT.out _ _ hS).mono ?_; clear hS; rintro e w1 ⟨v7, rfl, hS⟩; unfold GrS GrR at hS; rw [List.cons_append, List.cons_append, List.cons_append, List.cons_append, List.cons_append, List.cons_append, List.cons_append, List.nil_append] at hS; obtain ⟨b7, o7, c7x, rfl, _⟩ := hS.slAddr (k := 0) rfl (by decide))
           | (refine toList (by rfl) ?_; refine bsF hS _ _ _ (by rfl) (elOf (by rfl)) [.agg (gw ⟨((bAt (blkG S l) j : Nat) : Int), .slice (some ⟨b7, o7, none⟩) 128 c7x, d⟩).toArray] (by rfl) (by rfl) (by decide) (by decide) (by simp [gw, Value.cells]) ?_; clear hS; intro b1 w1 hS; rw [agg1] at hS)
           | (at_builtin; refine toList (by rfl) ?_; refine apTbS hS _ _ _ _ (by rfl) _ _ (by rfl) (by rfl) (elOf (by rfl)) (by rfl) (by decide) (inOf (by rfl)) (Has.s (Has.s Has.z)) [⟨((bAt (blkG S l) j : Nat) : Int), .slice (some ⟨b7, o7, none⟩) 128 c7x, d⟩] (fun _ _ => rfl) (by exact hS.src1 Has.z rfl) (by rw [fm1]; exact gw_one _ _) (by have := HGL.out; simp; omega) (by have := HGL.out; simp; omega) ?_; clear hS; intro aw cw w1 _ hS; rw [List.set_cons_succ, List.set_cons_succ, List.set_cons_zero] at hS; rw [HGL1.out] at hS ⊢)
           | (refine toList (by rfl) ?_; refine wp_of_reads (rCutL (lo := 15) (by rfl) (by rfl) (by rfl) (by first | rfl | omega) (by omega) HC.out (elOf (by rfl)) _) ?_))
          have h3 := (hS.drop.re [0, 2])
          rw [HGROW.out] at h3
          have h4 := (Sat.stSnoc h3).pull1
          rw [HMAP.out] at h4
          exact ⟨⟨j + 1, gws ++ [⟨((bAt (blkG S l) j : Nat) : Int), .slice (some ⟨b7, o7, none⟩) 128 c7x, d⟩], _, _, _, by go_num, HLT.out, HLP.out, rfl, HNN.out, HRDN.out, HGN.out _, h4⟩, lpM_lt HLT.out⟩
         ·obtain rfl : m = j := by omega
          have hnxv : nextG (blkG S l) m = 0 := by unfold nextG; rw [List.getElem?_eq_none (by rw [HBL.out]; omega)]; rfl
          rw [hnxv] at HPD HNXS
          have hn15' : n ≤ 15 := by omega
          have hq : (chunk (restG S l) m).length = n := by rw [chunk_len]; omega
          have HLP := Lib.hid (show Value.int .i64 (n : Int) = .int .i64 ((lstP S l (m + 1) : Nat) : Int) by show _ = Value.int .i64 (((chunk (restG S l) m).length : Nat) : Int); rw [hq])
          have HPUT := Lib.hid (fun w vw (h : Sat W w (GrS L ps pd p16 S D l shown (.slice (some ⟨fb, fo, none⟩) 128 fc) (.slice ar nr cr) (.slice ao7 na c7) (.slice at_ m ct) vm (.slice (some ⟨abb, abo, none⟩) (m + 1) cb) vw gws)) => rput_m h (chunk (restG S l) m) ao c hq (fun w h => HCH.out n (Nat.le_refl _) hq w vw h) 0 HPD.out HNXS.out HDL.out)
          have HRDN := HCN.out n (Nat.le_refl _) hn15' (.inr (Nat.le_refl _))
          rw [Nat.sub_self] at HRDN
          have HRDN := Lib.hid HRDN
          have HNN := Lib.hid (show 0 = (restG S l).length - 15 * (m + 1) by omega)
          have hmin : min (n : Int) 15 = (n : Int) := Int.min_eq_left (by omega)
          have hn15 : (n : Int) ≤ 15 := by omega
          have k3 : ¬ (m : Int) + 1 < (m : Int) + 1 := by omega
          have hnn := Lib.hid (show n ≤ n by omega)
          clear hbj hrd hd hdl hnxv hq hn hlt hj hrl hmv hjm hn15'
          go_wp2_with (first
           | (refine toList (by rfl) ?_; refine wp_of_reads (rLdRd1 (hS.irRdm HBL.out (Has.s (Has.s Has.z))) _ _ (by rfl) _ (by rfl) (agOf (by rfl)) m (by omega) HBJ.out (by omega)) ?_)
           | (refine toList (by rfl) ?_; refine wp_of_reads (rCutH (hi := n) (by rfl) (by rfl) (by rfl) (by first | rfl | omega) (by have := HC.out; omega) (elOf (by rfl)) _) ?_)
           | (go_at_call 55; refine (HPUT.out _ _ hS).mono ?_; clear hS; rintro e w1 ⟨v7, rfl, hS⟩; unfold GrS GrR at hS; rw [List.cons_append, List.cons_append, List.cons_append, List.cons_append, List.cons_append, List.cons_append, List.cons_append, List.nil_append] at hS; obtain ⟨b7, o7, c7x, rfl, _⟩ := hS.slAddr (k := 0) rfl (by decide))
           | (refine toList (by rfl) ?_; refine bsF hS _ _ _ (by rfl) (elOf (by rfl)) [.agg (gw ⟨((bAt (blkG S l) m : Nat) : Int), .slice (some ⟨b7, o7, none⟩) 128 c7x, d⟩).toArray] (by rfl) (by rfl) (by decide) (by decide) (by simp [gw, Value.cells]) ?_; clear hS; intro b1 w1 hS; rw [agg1] at hS)
           | (at_builtin; refine toList (by rfl) ?_; refine apTbS hS _ _ _ _ (by rfl) _ _ (by rfl) (by rfl) (elOf (by rfl)) (by rfl) (by decide) (inOf (by rfl)) (Has.s (Has.s Has.z)) [⟨((bAt (blkG S l) m : Nat) : Int), .slice (some ⟨b7, o7, none⟩) 128 c7x, d⟩] (fun _ _ => rfl) (by exact hS.src1 Has.z rfl) (by rw [fm1]; exact gw_one _ _) (by have := HGL.out; simp; omega) (by have := HGL.out; simp; omega) ?_; clear hS; intro aw cw w1 _ hS; rw [List.set_cons_succ, List.set_cons_succ, List.set_cons_zero] at hS; rw [HGL1.out] at hS ⊢)
           | (refine toList (by rfl) ?_; refine wp_of_reads (rCutL (lo := n) (by rfl) (by rfl) (by rfl) (by first | rfl | omega) (by omega) HC.out (elOf (by rfl)) _) ?_))
          have h3 := (hS.drop.re [0, 2])
          rw [HGROW.out] at h3
          have h4 := (Sat.stSnoc h3).pull1
          rw [HMAP.out] at h4
          exact ⟨⟨m + 1, gws ++ [⟨((bAt (blkG S l) m : Nat) : Int), .slice (some ⟨b7, o7, none⟩) 128 c7x, d⟩], _, _, _, by go_num, HLT.out, HLP.out, rfl, HNN.out, HRDN.out, HGN.out _, h4⟩, lpM_lt HLT.out⟩
        ·obtain rfl : j = m + 1 := by omega
         have k2 : ¬ ((m : Int) + 1 < (m : Int) + 1) := by omega
         have HG3 := Lib.hid (HG2.out.trans HW0.out.symm)
         have HLA3 := Lib.hid (show Value.int .i64 ((lstP S l (m + 1) : Nat) : Int) = .int .i64 ((lastG S l : Nat) : Int) by rw [HLA.out])
         rw [← HNR2.out] at hS
         clear hlt hj hn HRD HG2
         go_wp2
         refine HKX.out _ _ ?_
         unfold grJ2
         refine ⟨⟨gws, HG3.out, (hS.re [2]).drop⟩, ?_⟩
         rw [HLA3.out]
         rfl
     clear hS GL GR GT HBK
     rintro a wz hinv
     unfold grJ2 at hinv
     obtain ⟨hrel, ha⟩ := hinv
     obtain ⟨z, hz⟩ : ∃ z : Nat → Value, ∀ i, a.tmps.getD i undef = z i := ⟨_, fun _ => rfl⟩
     simp only [hz] at hrel ha
     clear hz
     subst ha
     obtain ⟨gws, hg2, hS⟩ := hrel
     have HG2 := Lib.hid hg2
     have hgl : gws.length ≤ m + 1 := by
      have := congrArg List.length hg2
      rw [g2_len] at this
      rw [this]
      unfold wrG0
      split
      ·simp
      ·rw [pcsG_len, HM.out]; exact Nat.le_refl _
     have HGL := Lib.hid (show gws.length ≤ 5 by have := HM4.out; omega)
     clear hg2 hgl
     unfold GrR at hS
     rw [List.cons_append, List.cons_append, List.cons_append, List.cons_append, List.cons_append, List.cons_append, List.cons_append, List.nil_append] at hS
     refine sep_cut (grJ3 W L ps pd p16 S D l shown aq i cq (.slice (some ⟨fb, fo, none⟩) 128 fc) r (.slice ao7 na c7) (.slice at_ m ct) vm) (fun KX HKX => ?_) ?_
     ·by_cases hm0 : m = 0
      ·have hmi : ¬ ((0 : Int) < (m : Int)) := by omega
       have hmw : mapW S l vm = [] := if_pos (List.length_eq_zero_iff.1 (HTKL.out.trans hm0))
       have HMW := Lib.hid hmw
       clear hm0 hmw
       go_wp2
       refine HKX.out _ _ ?_
       unfold grJ3
       refine ⟨⟨gws, HG2.out, ?_⟩, rfl⟩
       rw [HMW.out, List.append_nil]
       exact hS
      ·have hmi : (0 : Int) < (m : Int) := by omega
       have hk4 : Has _ 4 (IsMap vm (mapG S l)) := (show Has (Tb 95 2 gw (z 17) gws :: St (gws.map grow) :: Cs p16 77 (sv (supG S l shown)) :: (GrR ps pd S D l (.slice (some ⟨fb, fo, none⟩) 128 fc) r (.slice ao7 na c7) (.slice at_ m ct) vm ++ L)) 4 (IsMap vm (mapG S l)) from rfl)
       have hS2 := (show Sat W wz (Tb 95 2 gw (z 17) gws :: St (gws.map grow) :: Cs p16 77 (sv (supG S l shown)) :: (GrR ps pd S D l (.slice (some ⟨fb, fo, none⟩) 128 fc) r (.slice ao7 na c7) (.slice at_ m ct) vm ++ L)) from hS)
       unfold IsMap at hk4
       obtain ⟨vb, vo, vc, hve, _⟩ := hS2.slAddr hk4 (by decide)
       clear hS2 hk4
       have HMW := Lib.hid (show mapW S l vm = [⟨1, vm, mapB (mapG S l)⟩] from if_neg (fun e => hm0 (by rw [← HTKL.out, e]; rfl)))
       subst hve
       obtain ⟨az, cz, hz17, _⟩ := hS.tbShape (k := 0) rfl
       clear hm0
       rw [hz17] at hS ⊢
       obtain ⟨ng, hng⟩ : ∃ n, gws.length = n := ⟨_, rfl⟩
       have HNG := Lib.hid (show ∀ x : GW, (gws ++ [x]).length = ng + 1 from fun x => by rw [List.length_append, hng]; rfl)
       have HNG0 := Lib.hid hng
       rw [hng] at hS ⊢
       clear hng hz17
       go_wp2_with (first
        | (refine toList (by rfl) ?_; refine bsF hS _ _ _ (by rfl) (elOf (by rfl)) [.agg (gw ⟨1, .slice (some ⟨vb, vo, none⟩) 128 vc, mapB (mapG S l)⟩).toArray] (by rfl) (by rfl) (by decide) (by decide) (by simp [gw, Value.cells]) ?_; clear hS; intro b1 w1 hS; rw [agg1] at hS)
        | (at_builtin; refine toList (by rfl) ?_; refine apTbS hS _ _ _ _ (by rfl) _ _ (by rfl) (by rfl) (elOf (by rfl)) (by rfl) (by decide) (inOf (by rfl)) (Has.s Has.z) [⟨1, .slice (some ⟨vb, vo, none⟩) 128 vc, mapB (mapG S l)⟩] (fun _ _ => rfl) (by exact hS.src1 Has.z rfl) (by rw [fm1]; exact gw_one _ _) (by have := HGL.out; simp; omega) (by have := HGL.out; simp; omega) ?_; clear hS; intro aw cw w1 _ hS; rw [List.set_cons_succ, List.set_cons_zero] at hS; rw [HNG.out] at hS ⊢))
       refine HKX.out _ _ ?_
       unfold grJ3
       refine ⟨⟨gws, HG2.out, ?_⟩, rfl⟩
       rw [HMW.out]
       exact hS.drop
     clear hS HG2 HGL
     rintro a wz hinv
     unfold grJ3 at hinv
     obtain ⟨hrel, ha⟩ := hinv
     obtain ⟨z, hz⟩ : ∃ z : Nat → Value, ∀ i, a.tmps.getD i undef = z i := ⟨_, fun _ => rfl⟩
     simp only [hz] at hrel ha
     clear hz
     subst ha
     obtain ⟨gws, hg2, hS⟩ := hrel
     unfold GrR at hS
     rw [List.cons_append, List.cons_append, List.cons_append, List.cons_append, List.cons_append, List.cons_append, List.cons_append, List.nil_append] at hS
     have hgl : gws.length ≤ m + 1 := by
      have := congrArg List.length hg2
      rw [g2_len] at this
      rw [this]
      unfold wrG0
      split
      ·simp
      ·rw [pcsG_len, HM.out]; exact Nat.le_refl _
     have hml : (gws ++ mapW S l vm).length ≤ 1000 := by
      rw [List.length_append]
      have := HM4.out
      unfold mapW
      split <;> simp <;> omega
     have hgw : g2 (gws ++ mapW S l vm) ++ [(0, encS (supG S l shown))] = wrG S l shown := by
      unfold wrG wrG1
      congr 1
      unfold g2 at hg2 ⊢
      rw [List.map_append, hg2]
      congr 1
      unfold mapW
      split <;> rfl
     have HOS := Lib.hid (HOK.out.gsup HL60.out HF.out shown)
     have HG := Lib.hid (fun w v (h : Sat W w (Tb 95 2 gw v (gws ++ mapW S l vm) :: St (gws.map grow) :: Cs p16 77 (sv (supG S l shown)) :: (GrR ps pd S D l (.slice (some ⟨fb, fo, none⟩) 128 fc) r (.slice ao7 na c7) (.slice at_ m ct) vm ++ L))) =>
      group_any (L := St (gws.map grow) :: Cs p16 77 (sv (supG S l shown)) :: Ir (.slice at_ m ct) (takG S l) :: IsMap vm (mapG S l) :: Tb 53 3 rv (.slice ao7 na c7) (allG S l) :: L) (HMK.out _ _ (h.re [5, 6, 7, 0, 9, 1, 2, 3, 4, 8])).pull1 HD.out hk (supG S l shown) HOS.out hml (fun w L' h x hx => by
       rcases List.mem_append.1 hx with hx | hx
       ·obtain ⟨j, hj⟩ := List.getElem?_of_mem hx
        obtain ⟨L2, h2⟩ := h.stAt (j := j) (A := grow x) (has_add Has.z L') (by unfold Has; rw [List.getElem?_map, hj]; rfl)
        exact h2.slRd Has.z
       ·unfold mapW at hx
        split at hx
        ·exact absurd hx List.not_mem_nil
        ·rw [List.mem_singleton.1 hx]
         have h2 := has_add (Has.s (Has.s (Has.s Has.z)) : Has (St (gws.map grow) :: Cs p16 77 (sv (supG S l shown)) :: Ir (.slice at_ m ct) (takG S l) :: IsMap vm (mapG S l) :: Tb 53 3 rv (.slice ao7 na c7) (allG S l) :: L) 3 (IsMap vm (mapG S l))) L'
         unfold IsMap at h2
         have h3 := h.slRd h2
         show Rd w vm (mapB (mapG S l)).length 1 _
         rw [mapB_len]
         exact h3))
     rw [hgw] at HG
     obtain ⟨cc, hcc⟩ : ∃ x, commitR D (wrG S l shown) = x := ⟨_, rfl⟩
     obtain ⟨cd, D'⟩ := cc
     rw [hcc] at HG HGR
     have HVL := Lib.hid (fun fv r => stv_len (pd := pd) (s := S.sup) (fv := fv) (r := r) (last := S.last) HOK.out.x)
     have HVL2 := Lib.hid (fun fv r => stv_len (pd := pd) (s := supG S l shown) (fv := fv) (r := r) (last := S.last) HOK.out.x)
     have HVL3 := Lib.hid (fun fv r => stv_len (pd := pd) (s := supG S l shown) (fv := fv) (r := r) (last := (lastG S l : Int)) HOK.out.x)
     have HST := Lib.hid (fun fv r => stv_setSup (pd := pd) (s := S.sup) (s' := supG S l shown) (fv := fv) (X := S.inos) (r := r) (last := S.last))
     have HSR2 := Lib.hid (fun fv r r' => stv_setRec (pd := pd) (s := supG S l shown) (fv := fv) (r := r) (r' := r') (last := S.last) HOK.out.x)
     have HSL := Lib.hid (fun fv r => stv_setLast (pd := pd) (s := supG S l shown) (fv := fv) (r := r) (last := S.last) (last' := (lastG S l : Int)) HOK.out.x)
     have HSO := Lib.hid (show ∀ v ∈ sv (supG S l shown), v.oneCell' = true from sv_all _)
     have HO2 := Lib.hid (fun w L (h : Sat W w (IsSt ps pd S :: L)) => IsSt.open h)
     have HMK2 := Lib.hid (fun w M (h : Sat W w (Cs ps 85 (stv pd (supG S l shown) vm S.inos (.slice ao7 na c7) (lastG S l)) :: IsMap vm (mapG S l) :: Tb 53 3 rv (.slice ao7 na c7) (allG S l) :: M)) => IsSt.mk (S := S.grown l shown) h)
     clear hg2 hgl hml hgw hcc
     by_cases hc0 : cd = 0
     ·subst hc0
      have HGR2 := Lib.hid (show growR S D l shown = (0, S.grown l shown, D') from HGR.out)
      clear HGR
      go_wp2_with (first
       | (refine toList (by rfl) ?_; refine wp_of_reads (rLdA hS _ _ (by rfl) _ _ (by rfl) (agOf (by rfl)) (szOf (by rfl)) (Has.s (Has.s Has.z)) (vs := sv (supG S l shown)) (by rfl) (by rfl)) ?_)
       | (go_at_call 41; refine (HG.out _ _ hS).mono ?_; rintro e w1 ⟨rfl, hS2⟩; obtain ⟨fv2, r2, hS1⟩ := HO2.out _ _ hS2; clear hS2; clear hS; have hS := hS1; clear hS1)
       | (refine toList (by rfl) ?_; refine wp_of_reads (rLdA hS _ _ (by rfl) _ _ (by rfl) (agOf (by rfl)) (szOf (by rfl)) (Has.s (Has.s (Has.s (Has.s (Has.s Has.z))))) (vs := sv (supG S l shown)) (by rfl) (by rfl)) ?_)
       | (refine toList (by rfl) ?_; refine stA hS _ _ _ (by rfl) _ _ (by rfl) (sv (supG S l shown)) (by rfl) HSO.out (by exact szOf (by rfl)) Has.z (by rw [HVL.out]; show 8 ≤ 1787; decide) ?_; clear hS; intro w1 hS; rw [List.set_cons_zero, show 1 + (sv (supG S l shown)).length = 8 from rfl, HST.out] at hS)
       | (refine toList (by rfl) ?_; refine Go.Sep.st hS _ _ _ (by rfl) _ _ (by rfl) _ (by first | exact evC | exact evT (by rfl)) (by first | exact HVM.out | rfl) (szOf (by rfl)) Has.z (by first | (rw [HVL2.out]; decide) | (rw [HVL3.out]; decide)) ?_; clear hS; intro w1 hS; rw [List.set_cons_zero] at hS; first | rw [HSR2.out] at hS | rw [HSL.out] at hS | rw [stv_setFree] at hS))
      go_ret
      rw [HGR2.out]
      exact ⟨rfl, ((HMK2.out _ _ (hS.re [0, 7, 8, 3, 1, 2, 4, 5, 6])).re [2, 3, 4, 5, 6, 0, 1]).drop.drop.drop.drop.drop⟩
     ·have e9 : (cd != 0) = true := bne_iff_ne.2 hc0
      have HGR2 := Lib.hid (show growR S D l shown = (cd, S, D') by rw [HGR.out]; dsimp only; rw [if_neg hc0])
      clear HGR hc0
      go_wp2_with (first
       | (refine toList (by rfl) ?_; refine wp_of_reads (rLdA hS _ _ (by rfl) _ _ (by rfl) (agOf (by rfl)) (szOf (by rfl)) (Has.s (Has.s Has.z)) (vs := sv (supG S l shown)) (by rfl) (by rfl)) ?_)
       | (go_at_call 41; refine (HG.out _ _ hS).mono ?_; clear hS; rintro e w1 ⟨rfl, hS⟩))
      go_ret
      rw [HGR2.out]
      exact ⟨rfl, (hS.re [2, 3, 4, 5, 6, 0, 1]).drop.drop.drop.drop.drop⟩
end Go.Proofs.YtchohheleofncaaGreat
