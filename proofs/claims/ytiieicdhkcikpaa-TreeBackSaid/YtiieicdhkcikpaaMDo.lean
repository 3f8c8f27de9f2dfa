/-
  Package pedigreelaw11: what a call does (plain).
  Package pedigreelaw11: a call at both trees.
-/
import Derived.Test.YtiieicdhkcikpaaMLaw
import Derived.Test.YtiieicdhkcikpaaMPth
import Derived.Test.YtiieicdhkcikpaaTrRf11
import Derived.Test.YtiieicdhkcikpaaMReg
namespace Go.Proofs.Ytiieicdhkcikpaa
open Go.Sep
set_option linter.unusedSimpArgs false
set_option linter.unusedVariables false
def rawB (x : TOp) : Prop := 0 < x.raw.length ∧ x.raw.length < 5 ∧ (x.raw.headD []).length < 100
instance (x : TOp) : Decidable (rawB x) := by unfold rawB; infer_instance
def TOp.names (x : TOp) : List (List UInt8) := if rawB x then x.raw else namesD x.l
def kW (k : Int) : Int := if 2 < k then 1 + k % 2 else k
def TrD.step (T : TrD) (x : TOp) : TrD :=
  if x.kind % 9 < 3 then T.mk' x.names (kW x.what) else if x.kind % 9 = 3 then T.lk x.names (namesD x.to) else if x.kind % 9 = 4 then T.ul x.names
  else if x.kind % 9 = 5 then T.rd x.names else if x.kind % 9 = 6 then T.rn x.names (namesD x.to) else if x.kind % 9 = 7 then T.dr x.what else T
theorem TrD.Ok.stepO {T : TrD} (h : T.Ok) (x : TOp) : (T.step x).Ok := by
  unfold TrD.step
  split
  · exact h.mk' _ _
  · split
    · exact h.lk _ _
    · split
      · exact h.ul _
      · split
        · exact h.rd _
        · split
          · exact h.rn _ _
          · split
            · exact h.dr _
            · exact h
theorem TrD.Tre.stepO {T : TrD} (hR : T.Tre) (h : T.Ok) (x : TOp) : (T.step x).Tre := by
  unfold TrD.step
  split
  · exact hR.mk'' h _ _
  · split
    · exact hR.lk h _ _
    · split
      · exact hR.ul h _
      · split
        · exact hR.rd h _
        · split
          · exact hR.rn h _ _
          · split
            · exact hR.dr h _
            · exact hR
theorem namesD_len (l : List Int) : (namesD l).length ≤ 5 := by unfold namesD; simp; omega
theorem TOp.names_len (x : TOp) : x.names.length ≤ 5 := by
  unfold TOp.names
  split
  · rename_i h; unfold rawB at h; omega
  · exact namesD_len _
end Go.Proofs.Ytiieicdhkcikpaa
namespace Go.Proofs.Ytiieicdhkcikpaa
open Go.RowKit Go.Sep
set_option linter.unusedSimpArgs false
set_option linter.unusedVariables false
attribute [local irreducible] Go.Oper.wp Go.wpList Go.Calls Go.Code.wp Go.Sep.Reg
attribute [local irreducible] IsT IsW
set_option maxRecDepth 100000 in
def doJ1 (W : World) (L : List Asrt) (p q : Nat) (T : TrD) (x : TOp) : Act → World → Prop := (fun (a' : Act) (w' : World) => (∃ px : Nat, (a'.tmps.getD 5 undef) = .pointer (some ⟨px, 0, none⟩) ∧ Sat W w' (Cs px 46 (opv x) :: Tb 9 1 sv1 (a'.tmps.getD 7 undef) x.names :: Tb 9 1 sv1 (a'.tmps.getD 8 undef) (namesD x.to) :: IsT p T :: IsW q T :: L)) ∧ a' = ⟨#[.pointer (some ⟨p, 0, none⟩), .pointer (some ⟨q, 0, none⟩), (a'.tmps.getD 2 undef), (a'.tmps.getD 3 undef), (a'.tmps.getD 4 undef), (a'.tmps.getD 5 undef), .bool false, (a'.tmps.getD 7 undef), (a'.tmps.getD 8 undef), undef, undef, undef, undef, undef, undef, undef, undef, undef, undef, undef, undef, undef, undef, undef, undef, undef, undef, undef, undef, undef, undef, undef, undef, undef, undef, undef, undef, undef, undef, (a'.tmps.getD 39 undef), (a'.tmps.getD 40 undef), (a'.tmps.getD 41 undef), (a'.tmps.getD 42 undef), (a'.tmps.getD 43 undef), (a'.tmps.getD 44 undef), (a'.tmps.getD 45 undef), (a'.tmps.getD 46 undef), (a'.tmps.getD 47 undef), (a'.tmps.getD 48 undef), (a'.tmps.getD 49 undef), (a'.tmps.getD 50 undef), (a'.tmps.getD 51 undef), (a'.tmps.getD 52 undef), (a'.tmps.getD 53 undef), (a'.tmps.getD 54 undef), (a'.tmps.getD 55 undef), (a'.tmps.getD 56 undef), (a'.tmps.getD 57 undef), (a'.tmps.getD 58 undef), (a'.tmps.getD 59 undef), (a'.tmps.getD 60 undef), (a'.tmps.getD 61 undef), (a'.tmps.getD 62 undef), (a'.tmps.getD 63 undef), (a'.tmps.getD 64 undef), (a'.tmps.getD 65 undef), undef, undef, undef, undef, undef, undef, undef, undef, undef, undef, undef, undef, undef, undef, undef, undef, undef, undef, undef, undef, undef, undef, undef, undef, undef, undef, undef, undef, undef, undef, undef, undef, undef, undef, undef, undef, undef, undef, undef, undef, undef, undef, undef, undef, undef, undef, undef, undef, undef, undef, undef, undef, undef, undef, undef, undef, undef, undef, undef, undef, undef, undef, undef, undef, undef, undef, undef, undef, undef, undef, undef, undef, undef, undef, undef, undef, undef, undef, undef, undef, undef, undef, undef, undef, undef, undef, undef, undef, undef, undef, undef, undef, undef, undef, undef, undef, undef, undef, undef, undef, undef, undef, undef, undef, undef, undef, undef, undef, undef, undef, undef, undef, undef, undef, undef, undef, undef, undef, undef, undef, undef, undef, undef, undef, undef, undef, undef, undef, undef, undef, undef, undef, undef, undef, undef, undef, undef, undef, undef, undef, undef, undef, undef, undef, undef, undef, undef, undef, undef, undef, undef, undef, undef, undef, undef, undef, undef, undef, undef, undef, undef, undef, undef, undef, undef, undef, undef, undef, undef, undef, undef, undef, undef, undef, undef, undef, undef, undef, undef, undef, undef, undef, undef, undef, undef, undef, undef, undef], []⟩)
set_option maxRecDepth 100000 in
def doJ2 (W : World) (L : List Asrt) (p q : Nat) (T2 : TrD) : Act → World → Prop := (fun (a' : Act) (w' : World) => (∃ (E : Int) (dn : Bool), (a'.tmps.getD 9 undef) = .int .i64 E ∧ (a'.tmps.getD 10 undef) = .bool dn ∧ Sat W w' (IsT p T2 :: IsW q T2 :: L)) ∧ a' = ⟨#[.pointer (some ⟨p, 0, none⟩), .pointer (some ⟨q, 0, none⟩), (a'.tmps.getD 2 undef), (a'.tmps.getD 3 undef), (a'.tmps.getD 4 undef), (a'.tmps.getD 5 undef), .bool false, (a'.tmps.getD 7 undef), (a'.tmps.getD 8 undef), (a'.tmps.getD 9 undef), (a'.tmps.getD 10 undef), (a'.tmps.getD 11 undef), (a'.tmps.getD 12 undef), (a'.tmps.getD 13 undef), (a'.tmps.getD 14 undef), (a'.tmps.getD 15 undef), (a'.tmps.getD 16 undef), (a'.tmps.getD 17 undef), (a'.tmps.getD 18 undef), (a'.tmps.getD 19 undef), (a'.tmps.getD 20 undef), (a'.tmps.getD 21 undef), (a'.tmps.getD 22 undef), (a'.tmps.getD 23 undef), (a'.tmps.getD 24 undef), (a'.tmps.getD 25 undef), (a'.tmps.getD 26 undef), (a'.tmps.getD 27 undef), (a'.tmps.getD 28 undef), (a'.tmps.getD 29 undef), (a'.tmps.getD 30 undef), (a'.tmps.getD 31 undef), (a'.tmps.getD 32 undef), (a'.tmps.getD 33 undef), (a'.tmps.getD 34 undef), (a'.tmps.getD 35 undef), (a'.tmps.getD 36 undef), (a'.tmps.getD 37 undef), (a'.tmps.getD 38 undef), (a'.tmps.getD 39 undef), (a'.tmps.getD 40 undef), (a'.tmps.getD 41 undef), (a'.tmps.getD 42 undef), (a'.tmps.getD 43 undef), (a'.tmps.getD 44 undef), (a'.tmps.getD 45 undef), (a'.tmps.getD 46 undef), (a'.tmps.getD 47 undef), (a'.tmps.getD 48 undef), (a'.tmps.getD 49 undef), (a'.tmps.getD 50 undef), (a'.tmps.getD 51 undef), (a'.tmps.getD 52 undef), (a'.tmps.getD 53 undef), (a'.tmps.getD 54 undef), (a'.tmps.getD 55 undef), (a'.tmps.getD 56 undef), (a'.tmps.getD 57 undef), (a'.tmps.getD 58 undef), (a'.tmps.getD 59 undef), (a'.tmps.getD 60 undef), (a'.tmps.getD 61 undef), (a'.tmps.getD 62 undef), (a'.tmps.getD 63 undef), (a'.tmps.getD 64 undef), (a'.tmps.getD 65 undef), (a'.tmps.getD 66 undef), (a'.tmps.getD 67 undef), (a'.tmps.getD 68 undef), (a'.tmps.getD 69 undef), (a'.tmps.getD 70 undef), (a'.tmps.getD 71 undef), (a'.tmps.getD 72 undef), (a'.tmps.getD 73 undef), (a'.tmps.getD 74 undef), (a'.tmps.getD 75 undef), (a'.tmps.getD 76 undef), (a'.tmps.getD 77 undef), (a'.tmps.getD 78 undef), (a'.tmps.getD 79 undef), (a'.tmps.getD 80 undef), (a'.tmps.getD 81 undef), (a'.tmps.getD 82 undef), (a'.tmps.getD 83 undef), (a'.tmps.getD 84 undef), (a'.tmps.getD 85 undef), (a'.tmps.getD 86 undef), (a'.tmps.getD 87 undef), (a'.tmps.getD 88 undef), (a'.tmps.getD 89 undef), (a'.tmps.getD 90 undef), (a'.tmps.getD 91 undef), (a'.tmps.getD 92 undef), (a'.tmps.getD 93 undef), (a'.tmps.getD 94 undef), (a'.tmps.getD 95 undef), (a'.tmps.getD 96 undef), (a'.tmps.getD 97 undef), (a'.tmps.getD 98 undef), (a'.tmps.getD 99 undef), (a'.tmps.getD 100 undef), (a'.tmps.getD 101 undef), (a'.tmps.getD 102 undef), (a'.tmps.getD 103 undef), (a'.tmps.getD 104 undef), (a'.tmps.getD 105 undef), (a'.tmps.getD 106 undef), (a'.tmps.getD 107 undef), (a'.tmps.getD 108 undef), (a'.tmps.getD 109 undef), (a'.tmps.getD 110 undef), (a'.tmps.getD 111 undef), (a'.tmps.getD 112 undef), (a'.tmps.getD 113 undef), (a'.tmps.getD 114 undef), (a'.tmps.getD 115 undef), (a'.tmps.getD 116 undef), (a'.tmps.getD 117 undef), (a'.tmps.getD 118 undef), (a'.tmps.getD 119 undef), (a'.tmps.getD 120 undef), (a'.tmps.getD 121 undef), (a'.tmps.getD 122 undef), (a'.tmps.getD 123 undef), (a'.tmps.getD 124 undef), (a'.tmps.getD 125 undef), (a'.tmps.getD 126 undef), (a'.tmps.getD 127 undef), (a'.tmps.getD 128 undef), (a'.tmps.getD 129 undef), (a'.tmps.getD 130 undef), (a'.tmps.getD 131 undef), (a'.tmps.getD 132 undef), (a'.tmps.getD 133 undef), (a'.tmps.getD 134 undef), (a'.tmps.getD 135 undef), (a'.tmps.getD 136 undef), (a'.tmps.getD 137 undef), (a'.tmps.getD 138 undef), (a'.tmps.getD 139 undef), (a'.tmps.getD 140 undef), (a'.tmps.getD 141 undef), (a'.tmps.getD 142 undef), (a'.tmps.getD 143 undef), (a'.tmps.getD 144 undef), (a'.tmps.getD 145 undef), (a'.tmps.getD 146 undef), (a'.tmps.getD 147 undef), (a'.tmps.getD 148 undef), (a'.tmps.getD 149 undef), (a'.tmps.getD 150 undef), (a'.tmps.getD 151 undef), (a'.tmps.getD 152 undef), (a'.tmps.getD 153 undef), (a'.tmps.getD 154 undef), (a'.tmps.getD 155 undef), (a'.tmps.getD 156 undef), (a'.tmps.getD 157 undef), (a'.tmps.getD 158 undef), (a'.tmps.getD 159 undef), (a'.tmps.getD 160 undef), (a'.tmps.getD 161 undef), (a'.tmps.getD 162 undef), (a'.tmps.getD 163 undef), (a'.tmps.getD 164 undef), (a'.tmps.getD 165 undef), (a'.tmps.getD 166 undef), (a'.tmps.getD 167 undef), (a'.tmps.getD 168 undef), (a'.tmps.getD 169 undef), (a'.tmps.getD 170 undef), (a'.tmps.getD 171 undef), (a'.tmps.getD 172 undef), (a'.tmps.getD 173 undef), (a'.tmps.getD 174 undef), (a'.tmps.getD 175 undef), (a'.tmps.getD 176 undef), (a'.tmps.getD 177 undef), (a'.tmps.getD 178 undef), (a'.tmps.getD 179 undef), (a'.tmps.getD 180 undef), (a'.tmps.getD 181 undef), (a'.tmps.getD 182 undef), (a'.tmps.getD 183 undef), (a'.tmps.getD 184 undef), (a'.tmps.getD 185 undef), (a'.tmps.getD 186 undef), (a'.tmps.getD 187 undef), (a'.tmps.getD 188 undef), (a'.tmps.getD 189 undef), (a'.tmps.getD 190 undef), (a'.tmps.getD 191 undef), (a'.tmps.getD 192 undef), (a'.tmps.getD 193 undef), (a'.tmps.getD 194 undef), (a'.tmps.getD 195 undef), (a'.tmps.getD 196 undef), (a'.tmps.getD 197 undef), (a'.tmps.getD 198 undef), (a'.tmps.getD 199 undef), (a'.tmps.getD 200 undef), (a'.tmps.getD 201 undef), (a'.tmps.getD 202 undef), (a'.tmps.getD 203 undef), (a'.tmps.getD 204 undef), (a'.tmps.getD 205 undef), (a'.tmps.getD 206 undef), (a'.tmps.getD 207 undef), (a'.tmps.getD 208 undef), (a'.tmps.getD 209 undef), (a'.tmps.getD 210 undef), (a'.tmps.getD 211 undef), (a'.tmps.getD 212 undef), (a'.tmps.getD 213 undef), (a'.tmps.getD 214 undef), (a'.tmps.getD 215 undef), (a'.tmps.getD 216 undef), (a'.tmps.getD 217 undef), (a'.tmps.getD 218 undef), (a'.tmps.getD 219 undef), (a'.tmps.getD 220 undef), (a'.tmps.getD 221 undef), (a'.tmps.getD 222 undef), (a'.tmps.getD 223 undef), (a'.tmps.getD 224 undef), (a'.tmps.getD 225 undef), (a'.tmps.getD 226 undef), (a'.tmps.getD 227 undef), (a'.tmps.getD 228 undef), (a'.tmps.getD 229 undef), (a'.tmps.getD 230 undef), (a'.tmps.getD 231 undef), (a'.tmps.getD 232 undef), (a'.tmps.getD 233 undef), (a'.tmps.getD 234 undef), (a'.tmps.getD 235 undef), (a'.tmps.getD 236 undef), (a'.tmps.getD 237 undef), (a'.tmps.getD 238 undef), undef, undef, undef, undef, undef, undef, undef, undef, undef, undef, undef, undef, undef, undef, undef], []⟩)
theorem drop345 {W w : World} {L : List Asrt} {A B C D E : Asrt} (h : Sat W w (A :: B :: C :: D :: E :: L)) : Sat W w (D :: E :: L) := h.drop.drop.drop
set_option maxRecDepth 100000 in
set_option maxHeartbeats 4000000 in
theorem do_any {W w : World} {L : List Asrt} {p q : Nat} {T : TrD} (hS : Sat W w (IsT p T :: IsW q T :: L)) (hT : T.Ok) (x : TOp) (hx : x.Ok W) :
    Calls Try.prog 22 #[.pointer (some ⟨p, 0, none⟩), .pointer (some ⟨q, 0, none⟩), .agg (opv x).toArray] w fun r w' => r = .returned (.bool true) ∧ Sat W w' (IsT p (T.step x) :: IsW q (T.step x) :: L) := by
  obtain ⟨xk, lv, l, tv, to, xw, rv, raw⟩ := x
  obtain ⟨hkb, hwb, hlr, hlb, htr, htb, hrr⟩ := hx
  dsimp only at hkb hwb hlr hlb htr htb hrr
  obtain ⟨x, hxx⟩ : ∃ x : TOp, (⟨xk, lv, l, tv, to, xw, rv, raw⟩ : TOp) = x := ⟨_, rfl⟩
  have hr4 : rawB x ∨ (¬ rawB x ∧ (raw.length = 0 ∨ 5 ≤ raw.length ∨ (0 < raw.length ∧ raw.length < 5 ∧ 100 ≤ (raw.headD []).length))) := by
    subst hxx
    unfold rawB
    dsimp only
    omega
  have hrb : rawB x → 0 < raw.length ∧ raw.length < 5 ∧ (raw.headD []).length < 100 := by
    subst hxx
    exact fun h => h
  have HNR := Lib.hid (fun h : rawB x => show x.names = raw by subst hxx; unfold TOp.names; exact if_pos h)
  have HNL := Lib.hid (fun h : ¬ rawB x => show x.names = namesD l by subst hxx; unfold TOp.names; exact if_neg h)
  have HTO := Lib.hid (show namesD x.to = namesD to by subst hxx; rfl)
  have HOP := Lib.hid (show opv x = [.int .i64 xk, lv, tv, .int .i64 xw, rv] by subst hxx; rfl)
  have hstep0 : T.step x = if xk % 9 < 3 then T.mk' x.names (kW xw) else if xk % 9 = 3 then T.lk x.names (namesD x.to) else if xk % 9 = 4 then T.ul x.names
      else if xk % 9 = 5 then T.rd x.names else if xk % 9 = 6 then T.rn x.names (namesD x.to) else if xk % 9 = 7 then T.dr xw else T := by
    subst hxx; rfl
  rw [hxx, HOP.out]
  obtain ⟨aol, cl, rfl, _⟩ := id hlr
  obtain ⟨aot, ct, rfl, _⟩ := id htr
  obtain ⟨aor, cr, rfl, hcr, _, _, h5r⟩ := id hrr
  have HL1 := Lib.hid (fun w Lc (h : Sat W w Lc) => names_any h l aol cl (fun w L' h => hlr.old h) hlb)
  have HL2 := Lib.hid (fun w Lc (h : Sat W w Lc) => names_any h to aot ct (fun w L' h => htr.old h) htb)
  have HTX := Lib.hid (fun (hlen : raw.length ≤ 1000000) w Lc (h : Sat W w Lc) => texts_any h raw aor cr (fun w L' h => hrr.old h) hlen)
  have HRR := Lib.hid (fun w Lc (h : Sat W w Lc) => hrr.old h)
  have H5R := Lib.hid h5r
  clear hxx hlr htr hrr h5r hlb htb
  go_enter Try.func22, Try.ntmps22
  refine sep_part (fun K HK => ?_)
  go_wp2_with (refine toList (by rfl) ?_; refine bx hS _ _ (by rfl) _ (by first | exact evC | exact evT (by rfl)) ?_; intro px w1 hS1; clear hS; have hS := hS1; clear hS1; rw [cells_agg] at hS)
  refine HK.out _ _ ?_
  clear HK K
  refine sep_part (fun K HK => ?_)
  go_wp2_with (first
    | (refine toList (by rfl) ?_; refine ld hS _ _ (by rfl) _ _ (by rfl) (agOf (by rfl)) Has.z (by rfl) ?_)
    | (go_at_call 25; refine (HL1.out _ _ hS).mono ?_; rintro e w1 ⟨nv1, rfl, hS1⟩; clear hS; have hS := hS1; clear hS1))
  refine HK.out _ _ ?_
  clear HK K
  refine sep_part (fun K HK => ?_)
  go_wp2_with (first
    | (refine toList (by rfl) ?_; refine ld hS _ _ (by rfl) _ _ (by rfl) (agOf (by rfl)) (Has.s Has.z) (by rfl) ?_)
    | (go_at_call 25; refine (HL2.out _ _ hS).mono ?_; rintro e w1 ⟨nv2, rfl, hS1⟩; clear hS; have hS := hS1; clear hS1))
  refine HK.out _ _ ?_
  clear HK K
  refine sep_cut (doJ1 W L p q T x) (fun K HK => ?_) ?_
  · rcases hr4 with hr | ⟨hr, hc⟩
    · obtain ⟨g1, g2, g3⟩ := hrb hr
      have HN := Lib.hid (HNR.out hr)
      have HTY := Lib.hid (HTX.out (by omega))
      obtain ⟨n0, hn0⟩ : ∃ n, raw[0]? = some n := ⟨_, List.getElem?_eq_getElem g1⟩
      have hhd : raw.headD [] = n0 := by
        cases raw with
        | nil => cases hn0
        | cons a r => simp at hn0 ⊢; exact hn0
      rw [hhd] at g3
      have HX := Lib.hid hn0
      obtain ⟨br, or', rfl, _⟩ := H5R.out g1
      have d1 : decide ((0 : Int) < (raw.length : Int)) = true := decide_eq_true (by omega)
      have d2 : decide (0 < raw.length) = true := decide_eq_true g1
      have d3 : decide ((raw.length : Int) < 5) = true := decide_eq_true (by omega)
      have d4 : decide (raw.length < 5) = true := decide_eq_true g2
      have d5 : decide ((n0.length : Int) < 100) = true := decide_eq_true (by omega)
      have d6 : decide (n0.length < 100) = true := decide_eq_true g3
      have d7 : (0 : Int) < (raw.length : Int) := by omega
      clear hr hn0 hhd hrb
      go_wp2_with (first
        | (refine toList (by rfl) ?_; refine ld hS _ _ (by rfl) _ _ (by rfl) (agOf (by rfl)) (Has.s (Has.s Has.z)) (by rfl) ?_)
        | (refine toList (by rfl) ?_; refine wp_of_reads (rLdRd (f := sv1) (x := n0) (u := .string ⟨n0.toArray⟩) (HRR.out _ _ hS) (sv1_len _) _ _ (by rfl) _ (by rfl) (agOf (by rfl)) 0 0 (by omega) HX.out (by rfl) (by omega)) ?_)
        | (go_at_call 39; refine (HTY.out _ _ hS).mono ?_; rintro e w1 ⟨nv3, rfl, hS1⟩; clear hS; have hS := hS1; clear hS1))
      refine HK.out _ _ ?_
      clear HK K
      unfold doJ1
      refine ⟨⟨px, rfl, ?_⟩, rfl⟩
      rw [HN.out, HTO.out, HOP.out]
      exact (hS.re [2]).drop.re [2, 0, 1]
    · have HN := Lib.hid (HNL.out hr)
      rcases hc with g1 | g1 | ⟨g1, g2, g3⟩
      · have d1 : decide ((0 : Int) < (raw.length : Int)) = false := decide_eq_false (by omega)
        have d2 : decide (0 < raw.length) = false := decide_eq_false (by omega)
        have n0 : List UInt8 := []
        have HX := 0
        clear hr hrb g1
        go_wp2_with (first
          | (refine toList (by rfl) ?_; refine ld hS _ _ (by rfl) _ _ (by rfl) (agOf (by rfl)) (Has.s (Has.s Has.z)) (by rfl) ?_)
          | (refine toList (by rfl) ?_; refine wp_of_reads (rLdRd (f := sv1) (x := n0) (u := .string ⟨n0.toArray⟩) (HRR.out _ _ hS) (sv1_len _) _ _ (by rfl) _ (by rfl) (agOf (by rfl)) 0 0 (by omega) HX.out (by rfl) (by omega)) ?_)
          )
        refine HK.out _ _ ?_
        clear HK K
        unfold doJ1
        refine ⟨⟨px, rfl, ?_⟩, rfl⟩
        rw [HN.out, HTO.out, HOP.out]
        exact hS.re [2, 1, 0]
      · have d1 : decide ((0 : Int) < (raw.length : Int)) = true := decide_eq_true (by omega)
        have d2 : decide (0 < raw.length) = true := decide_eq_true (by omega)
        have d3 : decide ((raw.length : Int) < 5) = false := decide_eq_false (by omega)
        have d4 : decide (raw.length < 5) = false := decide_eq_false (by omega)
        have n0 : List UInt8 := []
        have HX := 0
        clear hr hrb g1
        go_wp2_with (first
          | (refine toList (by rfl) ?_; refine ld hS _ _ (by rfl) _ _ (by rfl) (agOf (by rfl)) (Has.s (Has.s Has.z)) (by rfl) ?_)
          | (refine toList (by rfl) ?_; refine wp_of_reads (rLdRd (f := sv1) (x := n0) (u := .string ⟨n0.toArray⟩) (HRR.out _ _ hS) (sv1_len _) _ _ (by rfl) _ (by rfl) (agOf (by rfl)) 0 0 (by omega) HX.out (by rfl) (by omega)) ?_)
          )
        refine HK.out _ _ ?_
        clear HK K
        unfold doJ1
        refine ⟨⟨px, rfl, ?_⟩, rfl⟩
        rw [HN.out, HTO.out, HOP.out]
        exact hS.re [2, 1, 0]
      · obtain ⟨n0, hn0⟩ : ∃ n, raw[0]? = some n := ⟨_, List.getElem?_eq_getElem g1⟩
        have hhd : raw.headD [] = n0 := by
          cases raw with
          | nil => cases hn0
          | cons a r => simp at hn0 ⊢; exact hn0
        rw [hhd] at g3
        have HX := Lib.hid hn0
        obtain ⟨br, or', rfl, _⟩ := H5R.out g1
        have d1 : decide ((0 : Int) < (raw.length : Int)) = true := decide_eq_true (by omega)
        have d2 : decide (0 < raw.length) = true := decide_eq_true g1
        have d3 : decide ((raw.length : Int) < 5) = true := decide_eq_true (by omega)
        have d4 : decide (raw.length < 5) = true := decide_eq_true g2
        have d5 : decide ((n0.length : Int) < 100) = false := decide_eq_false (by omega)
        have d6 : decide (n0.length < 100) = false := decide_eq_false (by omega)
        have d7 : (0 : Int) < (raw.length : Int) := by omega
        clear hr hn0 hhd hrb
        go_wp2_with (first
          | (refine toList (by rfl) ?_; refine ld hS _ _ (by rfl) _ _ (by rfl) (agOf (by rfl)) (Has.s (Has.s Has.z)) (by rfl) ?_)
          | (refine toList (by rfl) ?_; refine wp_of_reads (rLdRd (f := sv1) (x := n0) (u := .string ⟨n0.toArray⟩) (HRR.out _ _ hS) (sv1_len _) _ _ (by rfl) _ (by rfl) (agOf (by rfl)) 0 0 (by omega) HX.out (by rfl) (by omega)) ?_)
          )
        refine HK.out _ _ ?_
        clear HK K
        unfold doJ1
        refine ⟨⟨px, rfl, ?_⟩, rfl⟩
        rw [HN.out, HTO.out, HOP.out]
        exact hS.re [2, 1, 0]
  · clear hS hr4 hrb HNR HNL HL1 HL2 HTX HRR H5R
    intro a w0 hinv
    unfold doJ1 at hinv
    obtain ⟨hrel, ha⟩ := hinv
    obtain ⟨z, hz⟩ : ∃ z : Nat → Value, ∀ i, a.tmps.getD i undef = z i := ⟨_, fun _ => rfl⟩
    simp only [hz] at hrel ha
    clear hz
    subst ha
    obtain ⟨px, z5, hS⟩ := hrel
    rw [HTO.out, HOP.out] at hS
    rw [HTO.out] at hstep0
    obtain ⟨ls, hls⟩ : ∃ ls, x.names = ls := ⟨_, rfl⟩
    obtain ⟨ts, hts⟩ : ∃ ts, namesD to = ts := ⟨_, rfl⟩
    have hll : ls.length ≤ 1000000 := by rw [← hls]; have := x.names_len; omega
    have htl : ts.length ≤ 1000000 := by rw [← hts]; have := namesD_len to; omega
    rw [hls, hts] at hS hstep0
    obtain ⟨ao1, c1, z7, _⟩ := hS.tbShape (k := 1) rfl
    obtain ⟨ao2, c2, z8, _⟩ := hS.tbShape (k := 2) rfl
    simp only [z5, z7, z8] at hS ⊢
    clear z5 z7 z8
    have rdl : ∀ (A : Asrt) w L', Sat W w (L' ++ (Cs px 46 [.int .i64 xk, .slice aol l.length cl, .slice aot to.length ct, .int .i64 xw, .slice aor raw.length cr] :: Tb 9 1 sv1 (.slice ao1 ls.length c1) ls :: Tb 9 1 sv1 (.slice ao2 ts.length c2) ts :: A :: L)) → Rd w (.slice ao1 ls.length c1) ls.length 1 (ls.flatMap sv1) := fun A w L' h => h.tbRd (has_at (k := 1) rfl)
    have rdt : ∀ (A : Asrt) w L', Sat W w (L' ++ (Cs px 46 [.int .i64 xk, .slice aol l.length cl, .slice aot to.length ct, .int .i64 xw, .slice aor raw.length cr] :: Tb 9 1 sv1 (.slice ao1 ls.length c1) ls :: Tb 9 1 sv1 (.slice ao2 ts.length c2) ts :: A :: L)) → Rd w (.slice ao2 ts.length c2) ts.length 1 (ts.flatMap sv1) := fun A w L' h => h.tbRd (has_at (k := 2) rfl)
    clear hls hts HTO HOP
    refine sep_part (fun K HK => ?_)
    go_wp2
    refine HK.out _ _ ?_
    clear HK K
    refine sep_part (fun K HK => ?_)
    go_wp2
    refine HK.out _ _ ?_
    clear HK K
    have HK9 := Lib.hid (fun w => place_any xk 9 (by decide) (by decide) w)
    refine sep_cut (doJ2 W L p q (T.step x)) (fun K HK => ?_) ?_
    · have hq9 : xk % 9 = 0 ∨ xk % 9 = 1 ∨ xk % 9 = 2 ∨ xk % 9 = 3 ∨ xk % 9 = 4 ∨ xk % 9 = 5 ∨ xk % 9 = 6 ∨ xk % 9 = 7 ∨ xk % 9 = 8 := by omega
      rcases hq9 with hq | hq | hq | hq | hq | hq | hq | hq | hq
      · rw [hq] at HK9 hstep0
        have hstep : T.step x = T.mk' ls (kW xw) := hstep0
        obtain ⟨kw, hkw⟩ : ∃ k, kW xw = k := ⟨_, rfl⟩
        have HP0 := Lib.hid (fun w (h : Sat W w (IsT p T :: Cs px 46 [.int .i64 xk, .slice aol l.length cl, .slice aot to.length ct, .int .i64 xw, .slice aor raw.length cr] :: Tb 9 1 sv1 (.slice ao1 ls.length c1) ls :: Tb 9 1 sv1 (.slice ao2 ts.length c2) ts :: IsW q T :: L)) => tmake_any h hT ls ao1 c1 (rdl _) hll kw)
        have HQ0 := Lib.hid (fun T2 w (h : Sat W w (IsW q T :: Cs px 46 [.int .i64 xk, .slice aol l.length cl, .slice aot to.length ct, .int .i64 xw, .slice aor raw.length cr] :: Tb 9 1 sv1 (.slice ao1 ls.length c1) ls :: Tb 9 1 sv1 (.slice ao2 ts.length c2) ts :: IsT p T2 :: L)) => rmake_any h hT ls ao1 c1 (rdl (IsT p T2)) hll kw)
        rw [hkw] at hstep
        obtain ⟨I, hI⟩ : ∃ I, T.mkI ls kw = I := ⟨_, rfl⟩
        obtain ⟨E, hE⟩ : ∃ E, T.mkE ls kw = E := ⟨_, rfl⟩
        obtain ⟨T3, hT3⟩ : ∃ T3, T.mk' ls kw = T3 := ⟨_, rfl⟩
        rw [hI, hE, hT3] at HP0 HQ0
        rw [hT3] at hstep
        have HP := Lib.hid (HP0.out)
        have HQ := Lib.hid (HQ0.out T3)
        clear hstep0 hq hI hE hT3 HP0 HQ0 rdl rdt
        by_cases hw : 2 < xw
        · have d1 : decide ((2 : Int) < xw) = true := decide_eq_true hw
          have hk : 1 + xw % 2 = kw := by rw [← hkw]; unfold kW; rw [if_pos hw]
          obtain ⟨rr, hrr⟩ : ∃ rr, xw % 2 = rr := ⟨_, rfl⟩
          have hr0 : 0 ≤ rr ∧ rr ≤ 1 := by omega
          have HK2 := Lib.hid (fun w => place_any xw 2 (by decide) (by decide) w)
          rw [hrr] at HK2 hk
          obtain ⟨r0, r1⟩ := hr0
          have HWK := Lib.hid hstep
          clear hw hkw hrr hstep
          subst hk
          go_wp2_with (first
            | (go_at_call 13; refine (HK9.out _).mono ?_; rintro e w1 ⟨rfl, rfl⟩)
            | (refine toList (by rfl) ?_; refine ld hS _ _ (by rfl) _ _ (by rfl) (agOf (by rfl)) Has.z (by rfl) ?_)
            | (go_at_call 13; refine (HK2.out _).mono ?_; rintro e w1 ⟨rfl, rfl⟩)
            | (go_at_call 11; refine (Calls.atS hS (k := 3) rfl (fun hF => HP.out _ hF)).mono ?_; rintro e w1 ⟨rfl, hS1⟩; clear hS; have hS := hS1; clear hS1; dsimp only [List.set_cons_zero, List.set_cons_succ] at hS)
            | (go_at_call 40; refine (Calls.atS hS (k := 4) rfl (fun hF => HQ.out _ hF)).mono ?_; rintro e w1 ⟨rfl, hS1⟩; clear hS; have hS := hS1; clear hS1; dsimp only [List.set_cons_zero, List.set_cons_succ] at hS))
          have hstep := HWK.out
          refine HK.out _ _ ?_
          clear HK K
          unfold doJ2
          refine ⟨⟨E, true, rfl, rfl, ?_⟩, rfl⟩
          rw [hstep]
          exact hS.drop.drop.drop
        · have d1 : decide ((2 : Int) < xw) = false := decide_eq_false hw
          have hk : xw = kw := by rw [← hkw]; unfold kW; rw [if_neg hw]
          have HWK := Lib.hid hstep
          clear hw hkw hstep
          subst hk
          go_wp2_with (first
            | (go_at_call 13; refine (HK9.out _).mono ?_; rintro e w1 ⟨rfl, rfl⟩)
            | (refine toList (by rfl) ?_; refine ld hS _ _ (by rfl) _ _ (by rfl) (agOf (by rfl)) Has.z (by rfl) ?_)
            | (go_at_call 11; refine (Calls.atS hS (k := 3) rfl (fun hF => HP.out _ hF)).mono ?_; rintro e w1 ⟨rfl, hS1⟩; clear hS; have hS := hS1; clear hS1; dsimp only [List.set_cons_zero, List.set_cons_succ] at hS)
            | (go_at_call 40; refine (Calls.atS hS (k := 4) rfl (fun hF => HQ.out _ hF)).mono ?_; rintro e w1 ⟨rfl, hS1⟩; clear hS; have hS := hS1; clear hS1; dsimp only [List.set_cons_zero, List.set_cons_succ] at hS))
          have hstep := HWK.out
          refine HK.out _ _ ?_
          clear HK K
          unfold doJ2
          refine ⟨⟨E, true, rfl, rfl, ?_⟩, rfl⟩
          rw [hstep]
          exact hS.drop.drop.drop
      · rw [hq] at HK9 hstep0
        have hstep : T.step x = T.mk' ls (kW xw) := hstep0
        obtain ⟨kw, hkw⟩ : ∃ k, kW xw = k := ⟨_, rfl⟩
        have HP0 := Lib.hid (fun w (h : Sat W w (IsT p T :: Cs px 46 [.int .i64 xk, .slice aol l.length cl, .slice aot to.length ct, .int .i64 xw, .slice aor raw.length cr] :: Tb 9 1 sv1 (.slice ao1 ls.length c1) ls :: Tb 9 1 sv1 (.slice ao2 ts.length c2) ts :: IsW q T :: L)) => tmake_any h hT ls ao1 c1 (rdl _) hll kw)
        have HQ0 := Lib.hid (fun T2 w (h : Sat W w (IsW q T :: Cs px 46 [.int .i64 xk, .slice aol l.length cl, .slice aot to.length ct, .int .i64 xw, .slice aor raw.length cr] :: Tb 9 1 sv1 (.slice ao1 ls.length c1) ls :: Tb 9 1 sv1 (.slice ao2 ts.length c2) ts :: IsT p T2 :: L)) => rmake_any h hT ls ao1 c1 (rdl (IsT p T2)) hll kw)
        rw [hkw] at hstep
        obtain ⟨I, hI⟩ : ∃ I, T.mkI ls kw = I := ⟨_, rfl⟩
        obtain ⟨E, hE⟩ : ∃ E, T.mkE ls kw = E := ⟨_, rfl⟩
        obtain ⟨T3, hT3⟩ : ∃ T3, T.mk' ls kw = T3 := ⟨_, rfl⟩
        rw [hI, hE, hT3] at HP0 HQ0
        rw [hT3] at hstep
        have HP := Lib.hid (HP0.out)
        have HQ := Lib.hid (HQ0.out T3)
        clear hstep0 hq hI hE hT3 HP0 HQ0 rdl rdt
        by_cases hw : 2 < xw
        · have d1 : decide ((2 : Int) < xw) = true := decide_eq_true hw
          have hk : 1 + xw % 2 = kw := by rw [← hkw]; unfold kW; rw [if_pos hw]
          obtain ⟨rr, hrr⟩ : ∃ rr, xw % 2 = rr := ⟨_, rfl⟩
          have hr0 : 0 ≤ rr ∧ rr ≤ 1 := by omega
          have HK2 := Lib.hid (fun w => place_any xw 2 (by decide) (by decide) w)
          rw [hrr] at HK2 hk
          obtain ⟨r0, r1⟩ := hr0
          have HWK := Lib.hid hstep
          clear hw hkw hrr hstep
          subst hk
          go_wp2_with (first
            | (go_at_call 13; refine (HK9.out _).mono ?_; rintro e w1 ⟨rfl, rfl⟩)
            | (refine toList (by rfl) ?_; refine ld hS _ _ (by rfl) _ _ (by rfl) (agOf (by rfl)) Has.z (by rfl) ?_)
            | (go_at_call 13; refine (HK2.out _).mono ?_; rintro e w1 ⟨rfl, rfl⟩)
            | (go_at_call 11; refine (Calls.atS hS (k := 3) rfl (fun hF => HP.out _ hF)).mono ?_; rintro e w1 ⟨rfl, hS1⟩; clear hS; have hS := hS1; clear hS1; dsimp only [List.set_cons_zero, List.set_cons_succ] at hS)
            | (go_at_call 40; refine (Calls.atS hS (k := 4) rfl (fun hF => HQ.out _ hF)).mono ?_; rintro e w1 ⟨rfl, hS1⟩; clear hS; have hS := hS1; clear hS1; dsimp only [List.set_cons_zero, List.set_cons_succ] at hS))
          have hstep := HWK.out
          refine HK.out _ _ ?_
          clear HK K
          unfold doJ2
          refine ⟨⟨E, true, rfl, rfl, ?_⟩, rfl⟩
          rw [hstep]
          exact hS.drop.drop.drop
        · have d1 : decide ((2 : Int) < xw) = false := decide_eq_false hw
          have hk : xw = kw := by rw [← hkw]; unfold kW; rw [if_neg hw]
          have HWK := Lib.hid hstep
          clear hw hkw hstep
          subst hk
          go_wp2_with (first
            | (go_at_call 13; refine (HK9.out _).mono ?_; rintro e w1 ⟨rfl, rfl⟩)
            | (refine toList (by rfl) ?_; refine ld hS _ _ (by rfl) _ _ (by rfl) (agOf (by rfl)) Has.z (by rfl) ?_)
            | (go_at_call 11; refine (Calls.atS hS (k := 3) rfl (fun hF => HP.out _ hF)).mono ?_; rintro e w1 ⟨rfl, hS1⟩; clear hS; have hS := hS1; clear hS1; dsimp only [List.set_cons_zero, List.set_cons_succ] at hS)
            | (go_at_call 40; refine (Calls.atS hS (k := 4) rfl (fun hF => HQ.out _ hF)).mono ?_; rintro e w1 ⟨rfl, hS1⟩; clear hS; have hS := hS1; clear hS1; dsimp only [List.set_cons_zero, List.set_cons_succ] at hS))
          have hstep := HWK.out
          refine HK.out _ _ ?_
          clear HK K
          unfold doJ2
          refine ⟨⟨E, true, rfl, rfl, ?_⟩, rfl⟩
          rw [hstep]
          exact hS.drop.drop.drop
      · rw [hq] at HK9 hstep0
        have hstep : T.step x = T.mk' ls (kW xw) := hstep0
        obtain ⟨kw, hkw⟩ : ∃ k, kW xw = k := ⟨_, rfl⟩
        have HP0 := Lib.hid (fun w (h : Sat W w (IsT p T :: Cs px 46 [.int .i64 xk, .slice aol l.length cl, .slice aot to.length ct, .int .i64 xw, .slice aor raw.length cr] :: Tb 9 1 sv1 (.slice ao1 ls.length c1) ls :: Tb 9 1 sv1 (.slice ao2 ts.length c2) ts :: IsW q T :: L)) => tmake_any h hT ls ao1 c1 (rdl _) hll kw)
        have HQ0 := Lib.hid (fun T2 w (h : Sat W w (IsW q T :: Cs px 46 [.int .i64 xk, .slice aol l.length cl, .slice aot to.length ct, .int .i64 xw, .slice aor raw.length cr] :: Tb 9 1 sv1 (.slice ao1 ls.length c1) ls :: Tb 9 1 sv1 (.slice ao2 ts.length c2) ts :: IsT p T2 :: L)) => rmake_any h hT ls ao1 c1 (rdl (IsT p T2)) hll kw)
        rw [hkw] at hstep
        obtain ⟨I, hI⟩ : ∃ I, T.mkI ls kw = I := ⟨_, rfl⟩
        obtain ⟨E, hE⟩ : ∃ E, T.mkE ls kw = E := ⟨_, rfl⟩
        obtain ⟨T3, hT3⟩ : ∃ T3, T.mk' ls kw = T3 := ⟨_, rfl⟩
        rw [hI, hE, hT3] at HP0 HQ0
        rw [hT3] at hstep
        have HP := Lib.hid (HP0.out)
        have HQ := Lib.hid (HQ0.out T3)
        clear hstep0 hq hI hE hT3 HP0 HQ0 rdl rdt
        by_cases hw : 2 < xw
        · have d1 : decide ((2 : Int) < xw) = true := decide_eq_true hw
          have hk : 1 + xw % 2 = kw := by rw [← hkw]; unfold kW; rw [if_pos hw]
          obtain ⟨rr, hrr⟩ : ∃ rr, xw % 2 = rr := ⟨_, rfl⟩
          have hr0 : 0 ≤ rr ∧ rr ≤ 1 := by omega
          have HK2 := Lib.hid (fun w => place_any xw 2 (by decide) (by decide) w)
          rw [hrr] at HK2 hk
          obtain ⟨r0, r1⟩ := hr0
          have HWK := Lib.hid hstep
          clear hw hkw hrr hstep
          subst hk
          go_wp2_with (first
            | (go_at_call 13; refine (HK9.out _).mono ?_; rintro e w1 ⟨rfl, rfl⟩)
            | (refine toList (by rfl) ?_; refine ld hS _ _ (by rfl) _ _ (by rfl) (agOf (by rfl)) Has.z (by rfl) ?_)
            | (go_at_call 13; refine (HK2.out _).mono ?_; rintro e w1 ⟨rfl, rfl⟩)
            | (go_at_call 11; refine (Calls.atS hS (k := 3) rfl (fun hF => HP.out _ hF)).mono ?_; rintro e w1 ⟨rfl, hS1⟩; clear hS; have hS := hS1; clear hS1; dsimp only [List.set_cons_zero, List.set_cons_succ] at hS)
            | (go_at_call 40; refine (Calls.atS hS (k := 4) rfl (fun hF => HQ.out _ hF)).mono ?_; rintro e w1 ⟨rfl, hS1⟩; clear hS; have hS := hS1; clear hS1; dsimp only [List.set_cons_zero, List.set_cons_succ] at hS))
          have hstep := HWK.out
          refine HK.out _ _ ?_
          clear HK K
          unfold doJ2
          refine ⟨⟨E, true, rfl, rfl, ?_⟩, rfl⟩
          rw [hstep]
          exact hS.drop.drop.drop
        · have d1 : decide ((2 : Int) < xw) = false := decide_eq_false hw
          have hk : xw = kw := by rw [← hkw]; unfold kW; rw [if_neg hw]
          have HWK := Lib.hid hstep
          clear hw hkw hstep
          subst hk
          go_wp2_with (first
            | (go_at_call 13; refine (HK9.out _).mono ?_; rintro e w1 ⟨rfl, rfl⟩)
            | (refine toList (by rfl) ?_; refine ld hS _ _ (by rfl) _ _ (by rfl) (agOf (by rfl)) Has.z (by rfl) ?_)
            | (go_at_call 11; refine (Calls.atS hS (k := 3) rfl (fun hF => HP.out _ hF)).mono ?_; rintro e w1 ⟨rfl, hS1⟩; clear hS; have hS := hS1; clear hS1; dsimp only [List.set_cons_zero, List.set_cons_succ] at hS)
            | (go_at_call 40; refine (Calls.atS hS (k := 4) rfl (fun hF => HQ.out _ hF)).mono ?_; rintro e w1 ⟨rfl, hS1⟩; clear hS; have hS := hS1; clear hS1; dsimp only [List.set_cons_zero, List.set_cons_succ] at hS))
          have hstep := HWK.out
          refine HK.out _ _ ?_
          clear HK K
          unfold doJ2
          refine ⟨⟨E, true, rfl, rfl, ?_⟩, rfl⟩
          rw [hstep]
          exact hS.drop.drop.drop
      · rw [hq] at HK9 hstep0
        have hstep : T.step x = T.lk ls ts := hstep0
        have HP0 := Lib.hid (fun w (h : Sat W w (IsT p T :: Cs px 46 [.int .i64 xk, .slice aol l.length cl, .slice aot to.length ct, .int .i64 xw, .slice aor raw.length cr] :: Tb 9 1 sv1 (.slice ao1 ls.length c1) ls :: Tb 9 1 sv1 (.slice ao2 ts.length c2) ts :: IsW q T :: L)) => tlink_any h hT ls ts ao1 ao2 c1 c2 (rdl _) hll (rdt _) htl)
        have HQ0 := Lib.hid (fun T2 w (h : Sat W w (IsW q T :: Cs px 46 [.int .i64 xk, .slice aol l.length cl, .slice aot to.length ct, .int .i64 xw, .slice aor raw.length cr] :: Tb 9 1 sv1 (.slice ao1 ls.length c1) ls :: Tb 9 1 sv1 (.slice ao2 ts.length c2) ts :: IsT p T2 :: L)) => rlink_any h hT ls ts ao1 ao2 c1 c2 (rdl (IsT p T2)) hll (rdt (IsT p T2)) htl)
        obtain ⟨I, hI⟩ : ∃ I, T.lkI ls ts = I := ⟨_, rfl⟩
        obtain ⟨E, hE⟩ : ∃ E, T.lkE ls ts = E := ⟨_, rfl⟩
        obtain ⟨T3, hT3⟩ : ∃ T3, T.lk ls ts = T3 := ⟨_, rfl⟩
        rw [hI, hE, hT3] at HP0 HQ0
        rw [hT3] at hstep
        have HP := Lib.hid (HP0.out)
        have HQ := Lib.hid (HQ0.out T3)
        have HWK := Lib.hid hstep
        clear hstep0 hq hI hE hT3 HP0 HQ0 rdl rdt hstep
        go_wp2_with (first
          | (go_at_call 13; refine (HK9.out _).mono ?_; rintro e w1 ⟨rfl, rfl⟩)
          | (refine toList (by rfl) ?_; refine ld hS _ _ (by rfl) _ _ (by rfl) (agOf (by rfl)) Has.z (by rfl) ?_)
          | (go_at_call 20; refine (Calls.atS hS (k := 3) rfl (fun hF => HP.out _ hF)).mono ?_; rintro e w1 ⟨rfl, hS1⟩; clear hS; have hS := hS1; clear hS1; dsimp only [List.set_cons_zero, List.set_cons_succ] at hS)
          | (go_at_call 41; refine (Calls.atS hS (k := 4) rfl (fun hF => HQ.out _ hF)).mono ?_; rintro e w1 ⟨rfl, hS1⟩; clear hS; have hS := hS1; clear hS1; dsimp only [List.set_cons_zero, List.set_cons_succ] at hS))
        have hstep := HWK.out
        refine HK.out _ _ ?_
        clear HK K
        unfold doJ2
        refine ⟨⟨E, true, rfl, rfl, ?_⟩, rfl⟩
        rw [hstep]
        exact hS.drop.drop.drop
      · rw [hq] at HK9 hstep0
        have hstep : T.step x = T.ul ls := hstep0
        have HP0 := Lib.hid (fun w (h : Sat W w (IsT p T :: Cs px 46 [.int .i64 xk, .slice aol l.length cl, .slice aot to.length ct, .int .i64 xw, .slice aor raw.length cr] :: Tb 9 1 sv1 (.slice ao1 ls.length c1) ls :: Tb 9 1 sv1 (.slice ao2 ts.length c2) ts :: IsW q T :: L)) => tunlink_any h hT ls ao1 c1 (rdl _) hll)
        have HQ0 := Lib.hid (fun T2 w (h : Sat W w (IsW q T :: Cs px 46 [.int .i64 xk, .slice aol l.length cl, .slice aot to.length ct, .int .i64 xw, .slice aor raw.length cr] :: Tb 9 1 sv1 (.slice ao1 ls.length c1) ls :: Tb 9 1 sv1 (.slice ao2 ts.length c2) ts :: IsT p T2 :: L)) => runlink_any h hT ls ao1 c1 (rdl (IsT p T2)) hll)
        obtain ⟨I, hI⟩ : ∃ I, T.ulI ls = I := ⟨_, rfl⟩
        obtain ⟨E, hE⟩ : ∃ E, T.ulE ls = E := ⟨_, rfl⟩
        obtain ⟨T3, hT3⟩ : ∃ T3, T.ul ls = T3 := ⟨_, rfl⟩
        rw [hI, hE, hT3] at HP0 HQ0
        rw [hT3] at hstep
        have HP := Lib.hid (HP0.out)
        have HQ := Lib.hid (HQ0.out T3)
        have HWK := Lib.hid hstep
        clear hstep0 hq hI hE hT3 HP0 HQ0 rdl rdt hstep
        go_wp2_with (first
          | (go_at_call 13; refine (HK9.out _).mono ?_; rintro e w1 ⟨rfl, rfl⟩)
          | (refine toList (by rfl) ?_; refine ld hS _ _ (by rfl) _ _ (by rfl) (agOf (by rfl)) Has.z (by rfl) ?_)
          | (go_at_call 14; refine (Calls.atS hS (k := 3) rfl (fun hF => HP.out _ hF)).mono ?_; rintro e w1 ⟨rfl, hS1⟩; clear hS; have hS := hS1; clear hS1; dsimp only [List.set_cons_zero, List.set_cons_succ] at hS)
          | (go_at_call 42; refine (Calls.atS hS (k := 4) rfl (fun hF => HQ.out _ hF)).mono ?_; rintro e w1 ⟨rfl, hS1⟩; clear hS; have hS := hS1; clear hS1; dsimp only [List.set_cons_zero, List.set_cons_succ] at hS))
        have hstep := HWK.out
        refine HK.out _ _ ?_
        clear HK K
        unfold doJ2
        refine ⟨⟨E, true, rfl, rfl, ?_⟩, rfl⟩
        rw [hstep]
        exact hS.drop.drop.drop
      · rw [hq] at HK9 hstep0
        have hstep : T.step x = T.rd ls := hstep0
        have HP0 := Lib.hid (fun w (h : Sat W w (IsT p T :: Cs px 46 [.int .i64 xk, .slice aol l.length cl, .slice aot to.length ct, .int .i64 xw, .slice aor raw.length cr] :: Tb 9 1 sv1 (.slice ao1 ls.length c1) ls :: Tb 9 1 sv1 (.slice ao2 ts.length c2) ts :: IsW q T :: L)) => trmdir_any h hT ls ao1 c1 (rdl _) hll)
        have HQ0 := Lib.hid (fun T2 w (h : Sat W w (IsW q T :: Cs px 46 [.int .i64 xk, .slice aol l.length cl, .slice aot to.length ct, .int .i64 xw, .slice aor raw.length cr] :: Tb 9 1 sv1 (.slice ao1 ls.length c1) ls :: Tb 9 1 sv1 (.slice ao2 ts.length c2) ts :: IsT p T2 :: L)) => rrmdir_any h hT ls ao1 c1 (rdl (IsT p T2)) hll)
        obtain ⟨I, hI⟩ : ∃ I, T.rdI ls = I := ⟨_, rfl⟩
        obtain ⟨E, hE⟩ : ∃ E, T.rdE ls = E := ⟨_, rfl⟩
        obtain ⟨T3, hT3⟩ : ∃ T3, T.rd ls = T3 := ⟨_, rfl⟩
        rw [hI, hE, hT3] at HP0 HQ0
        rw [hT3] at hstep
        have HP := Lib.hid (HP0.out)
        have HQ := Lib.hid (HQ0.out T3)
        have HWK := Lib.hid hstep
        clear hstep0 hq hI hE hT3 HP0 HQ0 rdl rdt hstep
        go_wp2_with (first
          | (go_at_call 13; refine (HK9.out _).mono ?_; rintro e w1 ⟨rfl, rfl⟩)
          | (refine toList (by rfl) ?_; refine ld hS _ _ (by rfl) _ _ (by rfl) (agOf (by rfl)) Has.z (by rfl) ?_)
          | (go_at_call 43; refine (Calls.atS hS (k := 3) rfl (fun hF => HP.out _ hF)).mono ?_; rintro e w1 ⟨rfl, hS1⟩; clear hS; have hS := hS1; clear hS1; dsimp only [List.set_cons_zero, List.set_cons_succ] at hS)
          | (go_at_call 44; refine (Calls.atS hS (k := 4) rfl (fun hF => HQ.out _ hF)).mono ?_; rintro e w1 ⟨rfl, hS1⟩; clear hS; have hS := hS1; clear hS1; dsimp only [List.set_cons_zero, List.set_cons_succ] at hS))
        have hstep := HWK.out
        refine HK.out _ _ ?_
        clear HK K
        unfold doJ2
        refine ⟨⟨E, true, rfl, rfl, ?_⟩, rfl⟩
        rw [hstep]
        exact hS.drop.drop.drop
      · rw [hq] at HK9 hstep0
        have hstep : T.step x = T.rn ls ts := hstep0
        have HP0 := Lib.hid (fun w (h : Sat W w (IsT p T :: Cs px 46 [.int .i64 xk, .slice aol l.length cl, .slice aot to.length ct, .int .i64 xw, .slice aor raw.length cr] :: Tb 9 1 sv1 (.slice ao1 ls.length c1) ls :: Tb 9 1 sv1 (.slice ao2 ts.length c2) ts :: IsW q T :: L)) => trename_any h hT ls ts ao1 ao2 c1 c2 (rdl _) hll (rdt _) htl)
        have HQ0 := Lib.hid (fun T2 w (h : Sat W w (IsW q T :: Cs px 46 [.int .i64 xk, .slice aol l.length cl, .slice aot to.length ct, .int .i64 xw, .slice aor raw.length cr] :: Tb 9 1 sv1 (.slice ao1 ls.length c1) ls :: Tb 9 1 sv1 (.slice ao2 ts.length c2) ts :: IsT p T2 :: L)) => rrename_any h hT ls ts ao1 ao2 c1 c2 (rdl (IsT p T2)) hll (rdt (IsT p T2)) htl)
        obtain ⟨I, hI⟩ : ∃ I, T.rnX ls ts = I := ⟨_, rfl⟩
        obtain ⟨E, hE⟩ : ∃ E, T.rnE ls ts = E := ⟨_, rfl⟩
        obtain ⟨T3, hT3⟩ : ∃ T3, T.rn ls ts = T3 := ⟨_, rfl⟩
        obtain ⟨Y, hY⟩ : ∃ Y, T.rnY ls ts = Y := ⟨_, rfl⟩
        rw [hI, hY, hE, hT3] at HP0 HQ0
        rw [hT3] at hstep
        have HP := Lib.hid (HP0.out)
        have HQ := Lib.hid (HQ0.out T3)
        have HWK := Lib.hid hstep
        clear hstep0 hq hI hE hT3 HP0 HQ0 rdl rdt hstep hY
        go_wp2_with (first
          | (go_at_call 13; refine (HK9.out _).mono ?_; rintro e w1 ⟨rfl, rfl⟩)
          | (refine toList (by rfl) ?_; refine ld hS _ _ (by rfl) _ _ (by rfl) (agOf (by rfl)) Has.z (by rfl) ?_)
          | (go_at_call 28; refine (Calls.atS hS (k := 3) rfl (fun hF => HP.out _ hF)).mono ?_; rintro e w1 ⟨rfl, hS1⟩; clear hS; have hS := hS1; clear hS1; dsimp only [List.set_cons_zero, List.set_cons_succ] at hS)
          | (go_at_call 45; refine (Calls.atS hS (k := 4) rfl (fun hF => HQ.out _ hF)).mono ?_; rintro e w1 ⟨rfl, hS1⟩; clear hS; have hS := hS1; clear hS1; dsimp only [List.set_cons_zero, List.set_cons_succ] at hS))
        have hstep := HWK.out
        refine HK.out _ _ ?_
        clear HK K
        unfold doJ2
        refine ⟨⟨E, true, rfl, rfl, ?_⟩, rfl⟩
        rw [hstep]
        exact hS.drop.drop.drop
      · rw [hq] at HK9 hstep0
        have hstep : T.step x = T.dr xw := hstep0
        have HP0 := Lib.hid (fun w (h : Sat W w (IsT p T :: Cs px 46 [.int .i64 xk, .slice aol l.length cl, .slice aot to.length ct, .int .i64 xw, .slice aor raw.length cr] :: Tb 9 1 sv1 (.slice ao1 ls.length c1) ls :: Tb 9 1 sv1 (.slice ao2 ts.length c2) ts :: IsW q T :: L)) => tdrop_any h hT xw)
        have HQ0 := Lib.hid (fun T2 w (h : Sat W w (IsW q T :: Cs px 46 [.int .i64 xk, .slice aol l.length cl, .slice aot to.length ct, .int .i64 xw, .slice aor raw.length cr] :: Tb 9 1 sv1 (.slice ao1 ls.length c1) ls :: Tb 9 1 sv1 (.slice ao2 ts.length c2) ts :: IsT p T2 :: L)) => rdrop_any h hT xw)
        obtain ⟨E, hE⟩ : ∃ E, T.drOk xw = E := ⟨_, rfl⟩
        obtain ⟨T3, hT3⟩ : ∃ T3, T.dr xw = T3 := ⟨_, rfl⟩
        rw [hE, hT3] at HP0 HQ0
        rw [hT3] at hstep
        have HP := Lib.hid (HP0.out)
        have HQ := Lib.hid (HQ0.out T3)
        have HWK := Lib.hid hstep
        clear hstep0 hq hE hT3 HP0 HQ0 rdl rdt hstep
        cases E
        all_goals
          go_wp2_with (first
            | (go_at_call 13; refine (HK9.out _).mono ?_; rintro e w1 ⟨rfl, rfl⟩)
            | (refine toList (by rfl) ?_; refine ld hS _ _ (by rfl) _ _ (by rfl) (agOf (by rfl)) Has.z (by rfl) ?_)
            | (go_at_call 17; refine (Calls.atS hS (k := 3) rfl (fun hF => HP.out _ hF)).mono ?_; rintro e w1 ⟨rfl, hS1⟩; clear hS; have hS := hS1; clear hS1; dsimp only [List.set_cons_zero, List.set_cons_succ] at hS)
            | (go_at_call 46; refine (Calls.atS hS (k := 4) rfl (fun hF => HQ.out _ hF)).mono ?_; rintro e w1 ⟨rfl, hS1⟩; clear hS; have hS := hS1; clear hS1; dsimp only [List.set_cons_zero, List.set_cons_succ] at hS))
          have hstep := HWK.out
          refine HK.out _ _ ?_
          clear HK K
          unfold doJ2
          refine ⟨⟨0, _, rfl, rfl, ?_⟩, rfl⟩
          rw [hstep]
          exact hS.drop.drop.drop
      · rw [hq] at HK9 hstep0
        have hstep : T.step x = T := hstep0
        have HP0 := Lib.hid (fun w (h : Sat W w (IsT p T :: Cs px 46 [.int .i64 xk, .slice aol l.length cl, .slice aot to.length ct, .int .i64 xw, .slice aor raw.length cr] :: Tb 9 1 sv1 (.slice ao1 ls.length c1) ls :: Tb 9 1 sv1 (.slice ao2 ts.length c2) ts :: IsW q T :: L)) => twalk_any h hT ls ao1 c1 (rdl _) hll)
        have HQ0 := Lib.hid (fun T2 w (h : Sat W w (IsW q T :: Cs px 46 [.int .i64 xk, .slice aol l.length cl, .slice aot to.length ct, .int .i64 xw, .slice aor raw.length cr] :: Tb 9 1 sv1 (.slice ao1 ls.length c1) ls :: Tb 9 1 sv1 (.slice ao2 ts.length c2) ts :: IsT p T2 :: L)) => rwalk_any h hT ls ao1 c1 (rdl (IsT p T2)) hll)
        obtain ⟨I, hI⟩ : ∃ I, (T.walk 0 ls).1 = I := ⟨_, rfl⟩
        obtain ⟨E, hE⟩ : ∃ E, (T.walk 0 ls).2 = E := ⟨_, rfl⟩
        rw [hI, hE] at HP0 HQ0
        have HP := Lib.hid (HP0.out)
        have HQ := Lib.hid (HQ0.out T)
        have HWK := Lib.hid hstep
        clear hstep0 hq hI hE HP0 HQ0 rdl rdt hstep
        go_wp2_with (first
          | (go_at_call 13; refine (HK9.out _).mono ?_; rintro e w1 ⟨rfl, rfl⟩)
          | (refine toList (by rfl) ?_; refine ld hS _ _ (by rfl) _ _ (by rfl) (agOf (by rfl)) Has.z (by rfl) ?_)
          | (go_at_call 26; refine (Calls.atS hS (k := 3) rfl (fun hF => HP.out _ hF)).mono ?_; rintro e w1 ⟨rfl, hS1⟩; clear hS; have hS := hS1; clear hS1; dsimp only [List.set_cons_zero, List.set_cons_succ] at hS)
          | (go_at_call 47; refine (Calls.atS hS (k := 4) rfl (fun hF => HQ.out _ hF)).mono ?_; rintro e w1 ⟨rfl, hS1⟩; clear hS; have hS := hS1; clear hS1; dsimp only [List.set_cons_zero, List.set_cons_succ] at hS))
        have hstep := HWK.out
        refine HK.out _ _ ?_
        clear HK K
        unfold doJ2
        refine ⟨⟨0, false, rfl, rfl, ?_⟩, rfl⟩
        rw [hstep]
        exact hS.drop.drop.drop
    · clear hS HK9 hstep0 rdl rdt hll htl
      have hok := hT.stepO x
      obtain ⟨T2, hT2⟩ : ∃ T2, T.step x = T2 := ⟨_, rfl⟩
      rw [hT2] at hok ⊢
      clear hT2
      intro a w0 hinv
      unfold doJ2 at hinv
      obtain ⟨hrel, ha⟩ := hinv
      obtain ⟨z, hz⟩ : ∃ z : Nat → Value, ∀ i, a.tmps.getD i undef = z i := ⟨_, fun _ => rfl⟩
      simp only [hz] at hrel ha
      clear hz
      subst ha
      obtain ⟨E, dn, z9, z10, hS⟩ := hrel
      simp only [z9, z10]
      clear z9 z10
      obtain ⟨v, vt, hO⟩ := IsW.open hS.pull1
      clear hS
      have hS := (show Sat W w0 (Cs q 79 (wl T2.kind v vt) :: IsT p T2 :: rws v T2.dir :: Ir vt T2.last :: L) from hO.re [0, 3, 1, 2])
      clear hO
      obtain ⟨aoT, cT, rfl, _⟩ := hS.irShape (k := 3) rfl
      have hlst := hok.lst
      have HTD := Lib.hid (fun w Lc (h : Sat W w (IsT p T2 :: Lc)) => ttouched_any h hok)
      have HSI := Lib.hid (fun w Lc ao bo c d (h : Sat W w Lc) h1 h2 => same_any h T2.last ao bo c d h1 h2 (by omega))
      cases dn
      · go_wp2
        refine regStart [13] hS (by kernel_rfl) rfl ?_
        intro w1 hS1
        clear hS; have hS := hS1; clear hS1
        (refine regP 0 hS (fun _ h => h) rfl (by kernel_rfl) (by kernel_rfl) (by kernel_rfl) (fun _ _ _ _ h => h) (by rfl) (by rfl) ?_; apply Exists.intro; apply And.intro; (intro w; go_simp; try with_reducible rfl); go_frame)
        (refine regP 1 hS (fun _ h => h) rfl (by kernel_rfl) (by kernel_rfl) (by kernel_rfl) (fun _ _ _ _ h => h) (by rfl) (by rfl) ?_; apply Exists.intro; apply And.intro; (intro w; go_simp; try with_reducible rfl); go_frame)
        (refine regP 2 hS (fun _ h => h) rfl (by kernel_rfl) (by kernel_rfl) (by kernel_rfl) (fun _ _ _ _ h => h) (by rfl) (by rfl) ?_; apply Exists.intro; apply And.intro; (intro w; go_simp; try with_reducible rfl); go_frame)
        (first | (refine regP 3 hS (fun _ h => h) rfl (by kernel_rfl) (by kernel_rfl) (by kernel_rfl) (fun _ _ _ _ h => h) (by rfl) (by rfl) ?_; apply Exists.intro; apply And.intro; (intro w; go_simp; try with_reducible rfl); go_frame) | (refine regN 3 hS (fun _ h => h) rfl (by kernel_rfl) (by kernel_rfl) (by kernel_rfl) (fun _ _ _ h => h) (by rfl) (by rfl) ?_; go_frame))
        (first | (refine regP 4 hS (fun _ h => h) rfl (by kernel_rfl) (by kernel_rfl) (by kernel_rfl) (fun _ _ _ _ h => h) (by rfl) (by rfl) ?_; apply Exists.intro; apply And.intro; (intro w; go_simp; try with_reducible rfl); go_frame) | (refine regN 4 hS (fun _ h => h) rfl (by kernel_rfl) (by kernel_rfl) (by kernel_rfl) (fun _ _ _ h => h) (by rfl) (by rfl) ?_; go_frame))
        (refine regP 5 hS (fun _ h => h) rfl (by kernel_rfl) (by kernel_rfl) (by kernel_rfl) (fun _ _ _ _ h => h) (by rfl) (by rfl) ?_; apply Exists.intro; apply And.intro; (intro w; go_simp; try with_reducible rfl); go_frame)
        (refine regP 6 hS (fun _ h => h) rfl (by kernel_rfl) (by kernel_rfl) (by kernel_rfl) (fun _ _ _ _ h => h) (by rfl) (by rfl) ?_; apply Exists.intro; apply And.intro; (intro w; go_simp; try with_reducible rfl); go_frame)
        (first | (refine regP 7 hS (fun _ h => h) rfl (by kernel_rfl) (by kernel_rfl) (by kernel_rfl) (fun _ _ _ _ h => h) (by rfl) (by rfl) ?_; apply Exists.intro; apply And.intro; (intro w; go_simp; try with_reducible rfl); go_frame) | (refine regN 7 hS (fun _ h => h) rfl (by kernel_rfl) (by kernel_rfl) (by kernel_rfl) (fun _ _ _ h => h) (by rfl) (by rfl) ?_; go_frame))
        (first | (refine regP 9 hS (fun _ h => h) rfl (by kernel_rfl) (by kernel_rfl) (by kernel_rfl) (fun _ _ _ _ h => h) (by rfl) (by rfl) ?_; apply Exists.intro; apply And.intro; (intro w; go_simp; try with_reducible rfl); go_frame) | (refine regN 9 hS (fun _ h => h) rfl (by kernel_rfl) (by kernel_rfl) (by kernel_rfl) (fun _ _ _ h => h) (by rfl) (by rfl) ?_; go_frame))
        (first | (refine regP 10 hS (fun _ h => h) rfl (by kernel_rfl) (by kernel_rfl) (by kernel_rfl) (fun _ _ _ _ h => h) (by rfl) (by rfl) ?_; apply Exists.intro; apply And.intro; (intro w; go_simp; try with_reducible rfl); go_frame) | (refine regN 10 hS (fun _ h => h) rfl (by kernel_rfl) (by kernel_rfl) (by kernel_rfl) (fun _ _ _ h => h) (by rfl) (by rfl) ?_; go_frame))
        (first | (refine regP 11 hS (fun _ h => h) rfl (by kernel_rfl) (by kernel_rfl) (by kernel_rfl) (fun _ _ _ _ h => h) (by rfl) (by rfl) ?_; apply Exists.intro; apply And.intro; (intro w; go_simp; try with_reducible rfl); go_frame) | (refine regN 11 hS (fun _ h => h) rfl (by kernel_rfl) (by kernel_rfl) (by kernel_rfl) (fun _ _ _ h => h) (by rfl) (by rfl) ?_; go_frame))
        (first | (refine regR 12 hS (fun _ h => h) rfl (by kernel_rfl) (by kernel_rfl) (by kernel_rfl) (by kernel_rfl) (by kernel_rfl) (fun _ _ _ _ h => h) (by rfl) (by rfl) ?_; (refine ⟨.slice aoT T2.last.length cT, yLd _ _ (by rfl) _ _ (by rfl) (agOf (by rfl)) Has.z wl_last, ?_⟩); go_frame) | (refine regN 12 hS (fun _ h => h) rfl (by kernel_rfl) (by kernel_rfl) (by kernel_rfl) (fun _ _ _ h => h) (by rfl) (by rfl) ?_; go_frame))
        (first | (refine regA 8 rfl (by kernel_rfl) (by rfl) (by rfl) false (by kernel_rfl) (fun K hK => ?_); (first
                          | (refine Go.Sep.cl 49 _ _ (by rfl) (by rfl) (by kernel_rfl) (HTD.out _ _ hS.pull1) ?_; rintro e w1 ⟨tv1, rfl, hS1⟩; clear hS; have hS := (show Sat W w1 (Cs q 79 (wl T2.kind v (.slice aoT T2.last.length cT)) :: Ir tv1 T2.last :: IsT p T2 :: rws v T2.dir :: Ir (.slice aoT T2.last.length cT) T2.last :: L) from hS1.re [2, 0, 1]); clear hS1; obtain ⟨aoV, cV, rfl, _⟩ := hS.irShape (k := 1) rfl; refine ⟨_, rfl, ?_⟩)
                          | (refine Go.Sep.cl 48 _ _ (by rfl) (by rfl) (by kernel_rfl) (HSI.out _ _ _ _ _ _ hS (fun w h => h.irRd (k := 1) rfl) (fun w h => h.irRd (k := 4) rfl)) ?_; rintro e w1 ⟨rfl, hS1⟩; clear hS; have hS := hS1; clear hS1; refine ⟨_, rfl, ?_⟩)); refine hK _ _ _ hS (by first | (intro h; cases h; done) | exact fun _ _ h => h | exact fun _ _ h => h.drop | exact fun _ _ h => h.drop.drop | exact fun _ _ h => h.drop.pull1 | exact fun _ _ h => h.take2 | exact fun _ _ h => h.one Has.z | exact fun _ _ h => h.one (Has.s Has.z) | exact fun _ _ h => h.one (Has.s (Has.s Has.z))) ?_; clear hK K; go_frame) | (refine regN 8 hS (fun _ h => h) rfl (by kernel_rfl) (by kernel_rfl) (by kernel_rfl) (fun _ _ _ h => h) (by rfl) (by rfl) ?_; go_frame))
        (first | (refine regA 13 rfl (by kernel_rfl) (by rfl) (by rfl) true (by kernel_rfl) (fun K hK => ?_); (first
                          | (refine Go.Sep.cl 49 _ _ (by rfl) (by rfl) (by kernel_rfl) (HTD.out _ _ hS.pull1) ?_; rintro e w1 ⟨tv1, rfl, hS1⟩; clear hS; have hS := (show Sat W w1 (Cs q 79 (wl T2.kind v (.slice aoT T2.last.length cT)) :: Ir tv1 T2.last :: IsT p T2 :: rws v T2.dir :: Ir (.slice aoT T2.last.length cT) T2.last :: L) from hS1.re [2, 0, 1]); clear hS1; obtain ⟨aoV, cV, rfl, _⟩ := hS.irShape (k := 1) rfl; refine ⟨_, rfl, ?_⟩)
                          | (refine Go.Sep.cl 48 _ _ (by rfl) (by rfl) (by kernel_rfl) (HSI.out _ _ _ _ _ _ hS (fun w h => h.irRd (k := 1) rfl) (fun w h => h.irRd (k := 4) rfl)) ?_; rintro e w1 ⟨rfl, hS1⟩; clear hS; have hS := hS1; clear hS1; refine ⟨_, rfl, ?_⟩)); refine hK _ _ _ hS (by first | (intro h; cases h; done) | exact fun _ _ h => h | exact fun _ _ h => h.drop | exact fun _ _ h => h.drop.drop | exact fun _ _ h => h.drop.pull1 | exact fun _ _ h => h.take2 | exact fun _ _ h => h.one Has.z | exact fun _ _ h => h.one (Has.s Has.z) | exact fun _ _ h => h.one (Has.s (Has.s Has.z))) ?_; clear hK K; go_frame) | (refine regN 13 hS (fun _ h => h) rfl (by kernel_rfl) (by kernel_rfl) (by kernel_rfl) (fun _ _ _ h => h) (by rfl) (by rfl) ?_; go_frame))
        (refine regP 14 hS (fun _ h => h) rfl (by kernel_rfl) (by kernel_rfl) (by kernel_rfl) (fun _ _ _ _ h => h) (by rfl) (by rfl) ?_; apply Exists.intro; apply And.intro; (intro w; go_simp; try with_reducible rfl); go_frame)
        (refine regP 15 hS (fun _ h => h) rfl (by kernel_rfl) (by kernel_rfl) (by kernel_rfl) (fun _ _ _ _ h => h) (by rfl) (by rfl) ?_; apply Exists.intro; apply And.intro; (intro w; go_simp; try with_reducible rfl); go_frame)
        refine regDone (by kernel_rfl) ?_
        go_wp2
        go_ret
        refine ⟨rfl, ?_⟩
        exact (IsW.mk (hS.re [0, 2, 3, 1])).pull1
      · by_cases hE : E = 0
        · subst hE
          go_wp2
          refine regStart2 [13] hS (fun _ h => h.one Has.z) (by kernel_rfl) rfl ?_
          intro w1 hS1
          clear hS; have hS := hS1; clear hS1
          (refine regP 0 hS (fun _ h => h.one Has.z) rfl (by kernel_rfl) (by kernel_rfl) (by kernel_rfl) (fun _ _ _ _ h => h) (by rfl) (by rfl) ?_; apply Exists.intro; apply And.intro; (intro w; go_simp; try with_reducible rfl); go_frame)
          (refine regP 1 hS (fun _ h => h.one Has.z) rfl (by kernel_rfl) (by kernel_rfl) (by kernel_rfl) (fun _ _ _ _ h => h) (by rfl) (by rfl) ?_; apply Exists.intro; apply And.intro; (intro w; go_simp; try with_reducible rfl); go_frame)
          (refine regP 2 hS (fun _ h => h.one Has.z) rfl (by kernel_rfl) (by kernel_rfl) (by kernel_rfl) (fun _ _ _ _ h => h) (by rfl) (by rfl) ?_; apply Exists.intro; apply And.intro; (intro w; go_simp; try with_reducible rfl); go_frame)
          (first | (refine regP 3 hS (fun _ h => h.one Has.z) rfl (by kernel_rfl) (by kernel_rfl) (by kernel_rfl) (fun _ _ _ _ h => h) (by rfl) (by rfl) ?_; apply Exists.intro; apply And.intro; (intro w; go_simp; try with_reducible rfl); go_frame) | (refine regN 3 hS (fun _ h => h.one Has.z) rfl (by kernel_rfl) (by kernel_rfl) (by kernel_rfl) (fun _ _ _ h => h) (by rfl) (by rfl) ?_; go_frame))
          (first | (refine regP 4 hS (fun _ h => h.one Has.z) rfl (by kernel_rfl) (by kernel_rfl) (by kernel_rfl) (fun _ _ _ _ h => h) (by rfl) (by rfl) ?_; apply Exists.intro; apply And.intro; (intro w; go_simp; try with_reducible rfl); go_frame) | (refine regN 4 hS (fun _ h => h.one Has.z) rfl (by kernel_rfl) (by kernel_rfl) (by kernel_rfl) (fun _ _ _ h => h) (by rfl) (by rfl) ?_; go_frame))
          (refine regP 5 hS (fun _ h => h.one Has.z) rfl (by kernel_rfl) (by kernel_rfl) (by kernel_rfl) (fun _ _ _ _ h => h) (by rfl) (by rfl) ?_; apply Exists.intro; apply And.intro; (intro w; go_simp; try with_reducible rfl); go_frame)
          (refine regP 6 hS (fun _ h => h.one Has.z) rfl (by kernel_rfl) (by kernel_rfl) (by kernel_rfl) (fun _ _ _ _ h => h) (by rfl) (by rfl) ?_; apply Exists.intro; apply And.intro; (intro w; go_simp; try with_reducible rfl); go_frame)
          (first | (refine regP 7 hS (fun _ h => h.one Has.z) rfl (by kernel_rfl) (by kernel_rfl) (by kernel_rfl) (fun _ _ _ _ h => h) (by rfl) (by rfl) ?_; apply Exists.intro; apply And.intro; (intro w; go_simp; try with_reducible rfl); go_frame) | (refine regN 7 hS (fun _ h => h.one Has.z) rfl (by kernel_rfl) (by kernel_rfl) (by kernel_rfl) (fun _ _ _ h => h) (by rfl) (by rfl) ?_; go_frame))
          (first | (refine regP 9 hS (fun _ h => h.one Has.z) rfl (by kernel_rfl) (by kernel_rfl) (by kernel_rfl) (fun _ _ _ _ h => h) (by rfl) (by rfl) ?_; apply Exists.intro; apply And.intro; (intro w; go_simp; try with_reducible rfl); go_frame) | (refine regN 9 hS (fun _ h => h.one Has.z) rfl (by kernel_rfl) (by kernel_rfl) (by kernel_rfl) (fun _ _ _ h => h) (by rfl) (by rfl) ?_; go_frame))
          (first | (refine regP 10 hS (fun _ h => h.one Has.z) rfl (by kernel_rfl) (by kernel_rfl) (by kernel_rfl) (fun _ _ _ _ h => h) (by rfl) (by rfl) ?_; apply Exists.intro; apply And.intro; (intro w; go_simp; try with_reducible rfl); go_frame) | (refine regN 10 hS (fun _ h => h.one Has.z) rfl (by kernel_rfl) (by kernel_rfl) (by kernel_rfl) (fun _ _ _ h => h) (by rfl) (by rfl) ?_; go_frame))
          (first | (refine regP 11 hS (fun _ h => h.one Has.z) rfl (by kernel_rfl) (by kernel_rfl) (by kernel_rfl) (fun _ _ _ _ h => h) (by rfl) (by rfl) ?_; apply Exists.intro; apply And.intro; (intro w; go_simp; try with_reducible rfl); go_frame) | (refine regN 11 hS (fun _ h => h.one Has.z) rfl (by kernel_rfl) (by kernel_rfl) (by kernel_rfl) (fun _ _ _ h => h) (by rfl) (by rfl) ?_; go_frame))
          (first | (refine regR 12 hS (fun _ h => h.one Has.z) rfl (by kernel_rfl) (by kernel_rfl) (by kernel_rfl) (by kernel_rfl) (by kernel_rfl) (fun _ _ _ _ h => h) (by rfl) (by rfl) ?_; (refine ⟨.slice aoT T2.last.length cT, yLd _ _ (by rfl) _ _ (by rfl) (agOf (by rfl)) Has.z wl_last, ?_⟩); go_frame) | (refine regN 12 hS (fun _ h => h.one Has.z) rfl (by kernel_rfl) (by kernel_rfl) (by kernel_rfl) (fun _ _ _ h => h) (by rfl) (by rfl) ?_; go_frame))
          (first | (refine regA 8 rfl (by kernel_rfl) (by rfl) (by rfl) false (by kernel_rfl) (fun K hK => ?_); (first
                                | (refine Go.Sep.cl 49 _ _ (by rfl) (by rfl) (by kernel_rfl) (HTD.out _ _ hS.pull1) ?_; rintro e w1 ⟨tv1, rfl, hS1⟩; clear hS; have hS := (show Sat W w1 (Cs q 79 (wl T2.kind v (.slice aoT T2.last.length cT)) :: Ir tv1 T2.last :: IsT p T2 :: rws v T2.dir :: Ir (.slice aoT T2.last.length cT) T2.last :: L) from hS1.re [2, 0, 1]); clear hS1; obtain ⟨aoV, cV, rfl, _⟩ := hS.irShape (k := 1) rfl; refine ⟨_, rfl, ?_⟩)
                                | (refine Go.Sep.cl 48 _ _ (by rfl) (by rfl) (by kernel_rfl) (HSI.out _ _ _ _ _ _ hS (fun w h => h.irRd (k := 1) rfl) (fun w h => h.irRd (k := 4) rfl)) ?_; rintro e w1 ⟨rfl, hS1⟩; clear hS; have hS := hS1; clear hS1; refine ⟨_, rfl, ?_⟩)); refine hK _ _ _ (hS.upTo (fun _ h => by first | exact h.one Has.z | exact h.one (Has.s Has.z) | exact h.one (Has.s (Has.s Has.z)) | exact h.one (Has.s (Has.s (Has.s Has.z))) | exact h | exact h.drop | exact h.drop.drop | exact h.drop.drop.drop | exact h.drop.drop.drop.drop)) (fun _ _ h => h) ?_; clear hK K; go_frame) | (refine regN 8 hS (fun _ h => h.one Has.z) rfl (by kernel_rfl) (by kernel_rfl) (by kernel_rfl) (fun _ _ _ h => h) (by rfl) (by rfl) ?_; go_frame))
          (first | (refine regA 13 rfl (by kernel_rfl) (by rfl) (by rfl) true (by kernel_rfl) (fun K hK => ?_); (first
                                | (refine Go.Sep.cl 49 _ _ (by rfl) (by rfl) (by kernel_rfl) (HTD.out _ _ hS.pull1) ?_; rintro e w1 ⟨tv1, rfl, hS1⟩; clear hS; have hS := (show Sat W w1 (Cs q 79 (wl T2.kind v (.slice aoT T2.last.length cT)) :: Ir tv1 T2.last :: IsT p T2 :: rws v T2.dir :: Ir (.slice aoT T2.last.length cT) T2.last :: L) from hS1.re [2, 0, 1]); clear hS1; obtain ⟨aoV, cV, rfl, _⟩ := hS.irShape (k := 1) rfl; refine ⟨_, rfl, ?_⟩)
                                | (refine Go.Sep.cl 48 _ _ (by rfl) (by rfl) (by kernel_rfl) (HSI.out _ _ _ _ _ _ hS (fun w h => h.irRd (k := 1) rfl) (fun w h => h.irRd (k := 4) rfl)) ?_; rintro e w1 ⟨rfl, hS1⟩; clear hS; have hS := hS1; clear hS1; refine ⟨_, rfl, ?_⟩)); refine hK _ _ _ hS (by first | (intro h; cases h; done) | exact fun _ _ h => h | exact fun _ _ h => h.drop | exact fun _ _ h => h.drop.drop | exact fun _ _ h => h.drop.pull1 | exact fun _ _ h => h.take2 | exact fun _ _ h => h.one Has.z | exact fun _ _ h => h.one (Has.s Has.z) | exact fun _ _ h => h.one (Has.s (Has.s Has.z))) ?_; clear hK K; go_frame) | (refine regN 13 hS (fun _ h => by first | exact h.one Has.z | exact h.one (Has.s Has.z) | exact h.one (Has.s (Has.s Has.z)) | exact h.one (Has.s (Has.s (Has.s Has.z))) | exact h | exact h.drop | exact h.drop.drop | exact h.drop.drop.drop | exact h.drop.drop.drop.drop) rfl (by kernel_rfl) (by kernel_rfl) (by kernel_rfl) (fun _ _ _ h => h) (by rfl) (by rfl) ?_; go_frame))
          (refine regP 14 hS (fun _ h => h) rfl (by kernel_rfl) (by kernel_rfl) (by kernel_rfl) (fun _ _ _ _ h => h) (by rfl) (by rfl) ?_; apply Exists.intro; apply And.intro; (intro w; go_simp; try with_reducible rfl); go_frame)
          (refine regP 15 hS (fun _ h => h) rfl (by kernel_rfl) (by kernel_rfl) (by kernel_rfl) (fun _ _ _ _ h => h) (by rfl) (by rfl) ?_; apply Exists.intro; apply And.intro; (intro w; go_simp; try with_reducible rfl); go_frame)
          refine regDone (by kernel_rfl) ?_
          go_wp2
          go_ret
          refine ⟨rfl, ?_⟩
          exact (IsW.mk ((hS.re [1]).drop.re [0, 2, 3, 1])).pull1
        · have d1 : (E != 0) = true := bne_iff_ne.2 hE
          clear hE
          go_wp2
          refine regStart [13] hS (by kernel_rfl) rfl ?_
          intro w1 hS1
          clear hS; have hS := hS1; clear hS1
          (refine regP 0 hS (fun _ h => h) rfl (by kernel_rfl) (by kernel_rfl) (by kernel_rfl) (fun _ _ _ _ h => h) (by rfl) (by rfl) ?_; apply Exists.intro; apply And.intro; (intro w; go_simp; try with_reducible rfl); go_frame)
          (refine regP 1 hS (fun _ h => h) rfl (by kernel_rfl) (by kernel_rfl) (by kernel_rfl) (fun _ _ _ _ h => h) (by rfl) (by rfl) ?_; apply Exists.intro; apply And.intro; (intro w; go_simp; try with_reducible rfl); go_frame)
          (refine regP 2 hS (fun _ h => h) rfl (by kernel_rfl) (by kernel_rfl) (by kernel_rfl) (fun _ _ _ _ h => h) (by rfl) (by rfl) ?_; apply Exists.intro; apply And.intro; (intro w; go_simp; try with_reducible rfl); go_frame)
          (first | (refine regP 3 hS (fun _ h => h) rfl (by kernel_rfl) (by kernel_rfl) (by kernel_rfl) (fun _ _ _ _ h => h) (by rfl) (by rfl) ?_; apply Exists.intro; apply And.intro; (intro w; go_simp; try with_reducible rfl); go_frame) | (refine regN 3 hS (fun _ h => h) rfl (by kernel_rfl) (by kernel_rfl) (by kernel_rfl) (fun _ _ _ h => h) (by rfl) (by rfl) ?_; go_frame))
          (first | (refine regP 4 hS (fun _ h => h) rfl (by kernel_rfl) (by kernel_rfl) (by kernel_rfl) (fun _ _ _ _ h => h) (by rfl) (by rfl) ?_; apply Exists.intro; apply And.intro; (intro w; go_simp; try with_reducible rfl); go_frame) | (refine regN 4 hS (fun _ h => h) rfl (by kernel_rfl) (by kernel_rfl) (by kernel_rfl) (fun _ _ _ h => h) (by rfl) (by rfl) ?_; go_frame))
          (refine regP 5 hS (fun _ h => h) rfl (by kernel_rfl) (by kernel_rfl) (by kernel_rfl) (fun _ _ _ _ h => h) (by rfl) (by rfl) ?_; apply Exists.intro; apply And.intro; (intro w; go_simp; try with_reducible rfl); go_frame)
          (refine regP 6 hS (fun _ h => h) rfl (by kernel_rfl) (by kernel_rfl) (by kernel_rfl) (fun _ _ _ _ h => h) (by rfl) (by rfl) ?_; apply Exists.intro; apply And.intro; (intro w; go_simp; try with_reducible rfl); go_frame)
          (first | (refine regP 7 hS (fun _ h => h) rfl (by kernel_rfl) (by kernel_rfl) (by kernel_rfl) (fun _ _ _ _ h => h) (by rfl) (by rfl) ?_; apply Exists.intro; apply And.intro; (intro w; go_simp; try with_reducible rfl); go_frame) | (refine regN 7 hS (fun _ h => h) rfl (by kernel_rfl) (by kernel_rfl) (by kernel_rfl) (fun _ _ _ h => h) (by rfl) (by rfl) ?_; go_frame))
          (first | (refine regP 9 hS (fun _ h => h) rfl (by kernel_rfl) (by kernel_rfl) (by kernel_rfl) (fun _ _ _ _ h => h) (by rfl) (by rfl) ?_; apply Exists.intro; apply And.intro; (intro w; go_simp; try with_reducible rfl); go_frame) | (refine regN 9 hS (fun _ h => h) rfl (by kernel_rfl) (by kernel_rfl) (by kernel_rfl) (fun _ _ _ h => h) (by rfl) (by rfl) ?_; go_frame))
          (first | (refine regP 10 hS (fun _ h => h) rfl (by kernel_rfl) (by kernel_rfl) (by kernel_rfl) (fun _ _ _ _ h => h) (by rfl) (by rfl) ?_; apply Exists.intro; apply And.intro; (intro w; go_simp; try with_reducible rfl); go_frame) | (refine regN 10 hS (fun _ h => h) rfl (by kernel_rfl) (by kernel_rfl) (by kernel_rfl) (fun _ _ _ h => h) (by rfl) (by rfl) ?_; go_frame))
          (first | (refine regP 11 hS (fun _ h => h) rfl (by kernel_rfl) (by kernel_rfl) (by kernel_rfl) (fun _ _ _ _ h => h) (by rfl) (by rfl) ?_; apply Exists.intro; apply And.intro; (intro w; go_simp; try with_reducible rfl); go_frame) | (refine regN 11 hS (fun _ h => h) rfl (by kernel_rfl) (by kernel_rfl) (by kernel_rfl) (fun _ _ _ h => h) (by rfl) (by rfl) ?_; go_frame))
          (first | (refine regR 12 hS (fun _ h => h) rfl (by kernel_rfl) (by kernel_rfl) (by kernel_rfl) (by kernel_rfl) (by kernel_rfl) (fun _ _ _ _ h => h) (by rfl) (by rfl) ?_; (refine ⟨.slice aoT T2.last.length cT, yLd _ _ (by rfl) _ _ (by rfl) (agOf (by rfl)) Has.z wl_last, ?_⟩); go_frame) | (refine regN 12 hS (fun _ h => h) rfl (by kernel_rfl) (by kernel_rfl) (by kernel_rfl) (fun _ _ _ h => h) (by rfl) (by rfl) ?_; go_frame))
          (first | (refine regA 8 rfl (by kernel_rfl) (by rfl) (by rfl) false (by kernel_rfl) (fun K hK => ?_); (first
                                | (refine Go.Sep.cl 49 _ _ (by rfl) (by rfl) (by kernel_rfl) (HTD.out _ _ hS.pull1) ?_; rintro e w1 ⟨tv1, rfl, hS1⟩; clear hS; have hS := (show Sat W w1 (Cs q 79 (wl T2.kind v (.slice aoT T2.last.length cT)) :: Ir tv1 T2.last :: IsT p T2 :: rws v T2.dir :: Ir (.slice aoT T2.last.length cT) T2.last :: L) from hS1.re [2, 0, 1]); clear hS1; obtain ⟨aoV, cV, rfl, _⟩ := hS.irShape (k := 1) rfl; refine ⟨_, rfl, ?_⟩)
                                | (refine Go.Sep.cl 48 _ _ (by rfl) (by rfl) (by kernel_rfl) (HSI.out _ _ _ _ _ _ hS (fun w h => h.irRd (k := 1) rfl) (fun w h => h.irRd (k := 4) rfl)) ?_; rintro e w1 ⟨rfl, hS1⟩; clear hS; have hS := hS1; clear hS1; refine ⟨_, rfl, ?_⟩)); refine hK _ _ _ hS (by first | (intro h; cases h; done) | exact fun _ _ h => h | exact fun _ _ h => h.drop | exact fun _ _ h => h.drop.drop | exact fun _ _ h => h.drop.pull1 | exact fun _ _ h => h.take2 | exact fun _ _ h => h.one Has.z | exact fun _ _ h => h.one (Has.s Has.z) | exact fun _ _ h => h.one (Has.s (Has.s Has.z))) ?_; clear hK K; go_frame) | (refine regN 8 hS (fun _ h => h) rfl (by kernel_rfl) (by kernel_rfl) (by kernel_rfl) (fun _ _ _ h => h) (by rfl) (by rfl) ?_; go_frame))
          (first | (refine regA 13 rfl (by kernel_rfl) (by rfl) (by rfl) true (by kernel_rfl) (fun K hK => ?_); (first
                                | (refine Go.Sep.cl 49 _ _ (by rfl) (by rfl) (by kernel_rfl) (HTD.out _ _ hS.pull1) ?_; rintro e w1 ⟨tv1, rfl, hS1⟩; clear hS; have hS := (show Sat W w1 (Cs q 79 (wl T2.kind v (.slice aoT T2.last.length cT)) :: Ir tv1 T2.last :: IsT p T2 :: rws v T2.dir :: Ir (.slice aoT T2.last.length cT) T2.last :: L) from hS1.re [2, 0, 1]); clear hS1; obtain ⟨aoV, cV, rfl, _⟩ := hS.irShape (k := 1) rfl; refine ⟨_, rfl, ?_⟩)
                                | (refine Go.Sep.cl 48 _ _ (by rfl) (by rfl) (by kernel_rfl) (HSI.out _ _ _ _ _ _ hS (fun w h => h.irRd (k := 1) rfl) (fun w h => h.irRd (k := 4) rfl)) ?_; rintro e w1 ⟨rfl, hS1⟩; clear hS; have hS := hS1; clear hS1; refine ⟨_, rfl, ?_⟩)); refine hK _ _ _ hS (by first | (intro h; cases h; done) | exact fun _ _ h => h | exact fun _ _ h => h.drop | exact fun _ _ h => h.drop.drop | exact fun _ _ h => h.drop.pull1 | exact fun _ _ h => h.take2 | exact fun _ _ h => h.one Has.z | exact fun _ _ h => h.one (Has.s Has.z) | exact fun _ _ h => h.one (Has.s (Has.s Has.z))) ?_; clear hK K; go_frame) | (refine regN 13 hS (fun _ h => h) rfl (by kernel_rfl) (by kernel_rfl) (by kernel_rfl) (fun _ _ _ h => h) (by rfl) (by rfl) ?_; go_frame))
          (refine regP 14 hS (fun _ h => h) rfl (by kernel_rfl) (by kernel_rfl) (by kernel_rfl) (fun _ _ _ _ h => h) (by rfl) (by rfl) ?_; apply Exists.intro; apply And.intro; (intro w; go_simp; try with_reducible rfl); go_frame)
          (refine regP 15 hS (fun _ h => h) rfl (by kernel_rfl) (by kernel_rfl) (by kernel_rfl) (fun _ _ _ _ h => h) (by rfl) (by rfl) ?_; apply Exists.intro; apply And.intro; (intro w; go_simp; try with_reducible rfl); go_frame)
          refine regDone (by kernel_rfl) ?_
          go_wp2
          go_ret
          refine ⟨rfl, ?_⟩
          exact (IsW.mk (hS.re [0, 2, 3, 1])).pull1
end Go.Proofs.Ytiieicdhkcikpaa
