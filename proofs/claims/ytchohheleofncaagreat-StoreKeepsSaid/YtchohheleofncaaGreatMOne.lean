/-
 A commit of one set to a store that is not cut (plain).
 StoreKeeps: what is known of the store, commit by commit (plain).
 Files set whole, one behind the other (plain).
-/
import Derived.Test.YtchohheleofncaaGreatMCmt
import Derived.Test.YtchohheleofncaaGreatMMad
import Derived.Test.YtchohheleofncaaGreatMGrw
set_option linter.unusedSimpArgs false
set_option linter.unusedVariables false
namespace Go.Proofs.YtchohheleofncaaGreat
open Go.RowKit Go.Sep
theorem chunkB_lt {z : Int} {k : Nat} (h : (k : Int) < chunkB z) : (k : Int) * 128 < z := by
 unfold chunkB at h
 split at h
 ·omega
 ·rw [Int.tdiv_eq_ediv_of_nonneg (by omega)] at h
  omega
theorem lt_chunkB {z : Int} {k : Nat} (h : (k : Int) * 128 < z) : (k : Int) < chunkB z := by
 unfold chunkB
 split
 ·omega
 ·rw [Int.tdiv_eq_ediv_of_nonneg (by omega)]
  omega
theorem nextOk_file {old now : InoD} {pieces : List Int} {t : List Nat} (ho : OkI old) (hf : Fresh old t) (hlen : pieces.length = t.length) (hp : pcAll (nxB now) pieces = true) (hk : now.kind = 1) (hs : 0 ≤ now.size ∧ now.size ≤ 4096)
  (hl : 0 ≤ now.links ∧ now.links ≤ 10000) (hob : 1 ≤ now.obj ∧ now.obj ≤ 16777215) (hn : 0 ≤ now.node ∧ now.node ≤ 16777215) : nextOk old now pieces t = true := by
 have h0 : nx0 now = now := if_neg (by rw [hk]; decide)
 have hb : nxB now = chunkB now.size := if_neg (by rw [hk]; decide)
 have hA := fun k hk => nxI_ptr (now := now) ho.pl hp hlen (k := k) hk
 have hkp : ∀ k : Nat, nxK old now k ≠ 0 → (k : Int) < chunkB now.size := fun k h => by
  unfold nxK at h
  split at h
  ·rename_i h2
   unfold nxKeep at h2
   rw [Bool.and_eq_true, decide_eq_true_eq, hb] at h2
   exact h2.1
  ·exact absurd rfl h
 have hkd : (nxI old now pieces t).kind = 1 := by
  show (nx0 now).kind = 1
  rw [h0]; exact hk
 have h32 : ∀ {k : Nat} {p : Int}, (nxI old now pieces t).ptrs[k]? = some p → k < 32 := fun {k p} hp => by
  have := (List.getElem?_eq_some_iff.1 hp).1
  rw [nxI_len] at this
  exact this
 have hold : ∀ m p, m < 32 → nxK old now m = p → p ≠ 0 → old.ptrs[m]? = some p := fun m p hm e hp0 => by
  rcases nxK_or (now := now) ho.pl hm with h6 | h6
  ·exact absurd (e.symm.trans h6) hp0
  ·rw [e] at h6; exact h6
 unfold nextOk
 rw [decide_eq_true hlen, hp, Bool.true_and, Bool.true_and]
 refine okI_okIb ?_
 exact
  {pl := nxI_len
   zero := fun e => by rw [hkd] at e; exact absurd e (by decide)
   kd := by rw [hkd]; decide
   sz := by show 0 ≤ (nx0 now).size ∧ (nx0 now).size ≤ 4096; rw [h0]; exact hs
   lk := by show 0 ≤ (nx0 now).links ∧ (nx0 now).links ≤ 10000; rw [h0]; exact hl
   ob := by show 0 ≤ (nx0 now).obj ∧ (nx0 now).obj ≤ 16777215; rw [h0]; omega
   ob1 := fun _ => by show 1 ≤ (nx0 now).obj; rw [h0]; exact hob.1
   nd := by show 0 ≤ (nx0 now).node ∧ (nx0 now).node ≤ 16777215; rw [h0]; exact hn
   dir := fun e => by rw [hkd] at e; exact absurd e (by decide)
   pt := fun k p hk hp0 => by
    have hk32 := h32 hk
    have hsz : (nxI old now pieces t).size = now.size := by show (nx0 now).size = _; rw [h0]
    rw [hsz]
    rcases hA k hk32 with ⟨i, q, e1, e2, e3⟩ | ⟨_, e⟩
    ·rw [hk] at e3
     have h1 := Option.some.inj e3
     have h2 := hf.rng q (List.mem_of_getElem? e2)
     have h3 := (pcAll_at hp e1).2.1
     rw [hb] at h3
     exact ⟨chunkB_lt h3, by omega, by omega⟩
    ·rw [hk] at e
     have h1 := (Option.some.inj e).symm
     have h2 := hold k p hk32 h1 hp0
     have h3 := ho.pt k p h2 hp0
     exact ⟨chunkB_lt (hkp k (by rw [h1]; exact hp0)), h3.2⟩
   nd' := fun j k p hjk hj hk => by
    by_cases hp0 : p = 0
    ·exact hp0
    have hj32 := h32 hj
    have hk32 := h32 hk
    rcases hA j hj32 with ⟨i1, q1, a1, a2, a3⟩ | ⟨_, a2⟩
    ·rw [hj] at a3
     have e1 := Option.some.inj a3
     rcases hA k hk32 with ⟨i2, q2, b1, b2, b3⟩ | ⟨_, b2⟩
     ·rw [hk] at b3
      have e2 := Option.some.inj b3
      have e3 : q1 = q2 := by omega
      subst e3
      have e4 := (List.getElem?_inj (List.getElem?_eq_some_iff.1 a2).1 hf.nd).1 (a2.trans b2.symm)
      subst e4
      have := Option.some.inj (a1.symm.trans b1)
      omega
     ·rw [hk] at b2
      have h6 := hold k p hk32 (Option.some.inj b2).symm hp0
      rw [e1] at h6
      exact absurd (List.mem_of_getElem? h6) (hf.new q1 (List.mem_of_getElem? a2))
    ·rw [hj] at a2
     have h5 := hold j p hj32 (Option.some.inj a2).symm hp0
     rcases hA k hk32 with ⟨i2, q2, b1, b2, b3⟩ | ⟨_, b2⟩
     ·rw [hk] at b3
      have e2 := Option.some.inj b3
      rw [e2] at h5
      exact absurd (List.mem_of_getElem? h5) (hf.new q2 (List.mem_of_getElem? b2))
     ·rw [hk] at b2
      have h6 := hold k p hk32 (Option.some.inj b2).symm hp0
      exact ho.nd' j k p hjk h5 h6 }
theorem othersL_len {l : List Int} {n : Nat} (h : n + l.length ≤ 950) : (othersL l n).length = n := by
 have h1 := List.length_eq_countP_add_countP (fun b : Nat => !l.contains (b : Int)) (l := List.range' 74 950)
 rw [List.countP_eq_length_filter, List.countP_eq_length_filter, List.length_range'] at h1
 have h2 : ((List.range' 74 950).filter fun b : Nat => decide ¬(!l.contains (b : Int)) = true).length ≤ (l.map Int.toNat).length := by
  refine nodup_sub _ _ (List.filter_sublist.nodup (List.nodup_range' (step := 1))) ?_
  intro b hb
  have h3 := (List.mem_filter.1 hb).2
  simp at h3
  exact List.mem_map.2 ⟨(b : Int), h3, Int.toNat_natCast b⟩
 rw [List.length_map] at h2
 unfold othersL othF
 rw [List.length_take]
 omega
structure OneIn (S : StD) (x : SetD) (n : Nat) (y : InoD) : Prop where
 at_ : x.at_ = (n : Int)
 n48 : n < 48
 ino : S.inos[n]? = some y
 dl : x.data.length = x.pieces.length
 d128 : ∀ d ∈ x.data, d.length = 128
 next : nextOk y x.ino x.pieces (othersL y.ptrs x.pieces.length) = true
theorem OneIn.inoS {S : StD} {x : SetD} {n : Nat} {y : InoD} (h : OneIn S x n y) : inoS S x = y := by unfold Proofs.YtchohheleofncaaGreat.inoS; rw [h.at_, Int.toNat_natCast, h.ino]; rfl
theorem OneIn.right {S : StD} {x : SetD} {n : Nat} {y : InoD} (h : OneIn S x n y) : rightB S [x] = true := by
 refine rightB_yes (by simp) ?_
 intro i z hz
 have hi : i = 0 := by have := (List.getElem?_eq_some_iff.1 hz).1; simp at this; exact this
 subst hi
 have := Option.some.inj hz
 subst this
 unfold setOk
 have h48 := h.n48
 rw [h.inoS, h.next, h.at_, h.dl, decide_eq_false (by omega), decide_eq_false (by omega)]
 simp [seenS]
 exact h.d128
theorem tot_one (x : SetD) : totS [x] = x.pieces.length := by simp [totS]
structure OneC (B : List (List UInt8)) (S : StD) (gs : List Nat) (x : SetD) (n : Nat) (y : InoD) (next : Int) (shown : Bool) (B' : List (List UInt8)) (S' : StD) : Prop where
 ok : SOk B' S' gs
 len : B'.length = B.length
 inos : S'.inos = S.inos.set n (newI S [x] 0 x)
 sup : S'.sup = supC S next shown
 recs : S'.recs = S.recs
 last : S'.last = S.last
 set : SetIn S [x] 0 x n y
 data : ∀ (k p : Nat) d, (mineS S [x] 0 x)[k]? = some p → x.data[k]? = some d → B'[p]? = some d
 keep : ∀ p ∈ blksX S.inos, B'[p]? = B[p]?
theorem commit_one {B : List (List UInt8)} {S : StD} {gs : List Nat} {D : DiskS} {k : Nat} {x : SetD} {n : Nat} {y : InoD} {next : Int} (hok : SOk B S gs) (hl : Lv D B k) (hx : OneIn S x n y) (hf : x.pieces.length ≤ (freeL S.U B.length).length) (h1 : S.sup.next ≤ next) (h2 : next ≤ 16777215) (shown : Bool) :
  ∃ S' D' B', commitS S D [x] next shown = (0, S', D') ∧ Lv D' B' (k + x.pieces.length + 42) ∧ OneC B S gs x n y next shown B' S' := by
 have hr := hx.right
 have hf2 : totS [x] ≤ (freeL S.U S.sup.blocks.toNat).length := by rw [tot_one, hok.bl]; exact hf
 obtain ⟨D', e1, e2⟩ := commit_live' (l := [x]) (shown := shown) hok hl hr hf2 h1 h2 (fun h => absurd h.1 (by simp))
 rw [tot_one] at e2
 obtain ⟨q, y2, hq⟩ := hok.setIn hr hf2 (i := 0) (x := x) rfl
 have hqn : q = n := by have := hq.at_; have := hx.at_; omega
 subst hqn
 have hy2 : y2 = y := by have := hq.ino; rw [hx.ino] at this; exact (Option.some.inj this).symm
 subst hy2
 refine ⟨_, D', _, e1, e2, ?_⟩
 exact
  {ok := hok.commit hr hf2 h1 h2 shown
   len := by rw [cmtB_len, putAll_len]
   inos := by
    show inosS S [x] 1 = _
    rw [inosS_succ (i := 0) (x := x) rfl, hq.at_, Int.toNat_natCast]
    rfl
   sup := rfl
   recs := rfl
   last := rfl
   set := hq
   data := fun j p d hp hd => hok.data hr hf2 (i := 0) (x := x) rfl hp hd
   keep := fun p hp => hok.stays hr hf2 (hok.rng p (List.mem_append_left _ hp)).1 (fun hm => (hok.takSm hm).2.2 (List.mem_append_left _ hp)) }
theorem blksX_set : ∀ {X : List InoD} {n : Nat} {y : InoD} (_ : X[n]? = some y) (f : InoD), (blksX (X.set n f)).length + (blksI y).length = (blksX X).length + (blksI f).length
 | [], n, y, h, f => by simp at h
 | a :: X, 0, y, h, f => by
  simp at h
  subst h
  unfold blksX
  rw [List.set_cons_zero, List.flatMap_cons, List.flatMap_cons, List.length_append, List.length_append]
  omega
 | a :: X, n + 1, y, h, f => by
  rw [List.getElem?_cons_succ] at h
  have := blksX_set h f
  unfold blksX at this ⊢
  rw [List.set_cons_succ, List.flatMap_cons, List.flatMap_cons, List.length_append, List.length_append]
  omega
theorem same_len {l m : List Nat} (hl : l.Nodup) (hm : m.Nodup) (h : ∀ p, p ∈ l ↔ p ∈ m) : l.length = m.length :=
 Nat.le_antisymm (nodup_sub l m hl fun p hp => (h p).1 hp) (nodup_sub m l hm fun p hp => (h p).2 hp)
def ups (m : Nat) : List Int := (List.range m).map fun i : Nat => (i : Int)
theorem ups_len (m : Nat) : (ups m).length = m := by simp [ups]
theorem ups_at {m i : Nat} (h : i < m) : (ups m)[i]? = some (i : Int) := by unfold ups; rw [List.getElem?_map, List.getElem?_range h]; rfl
theorem pcAll_ups {b : Int} {m : Nat} (hb : (m : Int) ≤ b) (h32 : m ≤ 32) : pcAll b (ups m) = true := by
 refine pcAll_yes ?_
 intro i hi
 rw [ups_len] at hi
 unfold pcOk
 rw [ups_at hi]
 have hl : pcLast (ups m) i < (i : Int) := by
  cases i with
  | zero => exact (by decide : (-1 : Int) < 0)
  | succ j =>
   show (ups m)[j]?.getD 0 < _
   rw [ups_at (by omega)]
   show (j : Int) < _
   omega
 simp
 omega
theorem pcAll_one {b : Int} {k : Nat} (hb : (k : Int) < b) (h32 : k < 32) : pcAll b [(k : Int)] = true := by
 refine pcAll_yes ?_
 intro i hi
 have : i = 0 := by simp at hi; exact hi
 subst this
 unfold pcOk pcLast
 simp
 omega
theorem blksI_zero : blksI zeroI = [] := by decide
theorem ups_chunk (m : Nat) : (m : Int) ≤ chunkB ((m : Int) * 128) := by
 cases m with
 | zero => decide
 | succ k =>
  have := lt_chunkB (z := ((k + 1 : Nat) : Int) * 128) (k := k) (by omega)
  omega
def fileI (m : Nat) (obj : Int) : InoD := ⟨1, (m : Int) * 128, 1, obj, 0, List.replicate 32 0⟩
theorem commit_all {B : List (List UInt8)} {S : StD} {gs : List Nat} {D : DiskS} {k : Nat} {x : SetD} {n m : Nat} {obj next : Int} (hok : SOk B S gs) (hl : Lv D B k) (hat : x.at_ = (n : Int)) (hn : n < 48) (hz : S.inos[n]? = some zeroI) (hi : x.ino = fileI m obj) (ho : 1 ≤ obj ∧ obj ≤ 16777215)
  (hp : x.pieces = ups m) (hm : m ≤ 32) (hdl : x.data.length = m) (hd : ∀ d ∈ x.data, d.length = 128) (hf : m ≤ (freeL S.U B.length).length) (h1 : S.sup.next ≤ next) (h2 : next ≤ 16777215) (shown : Bool) :
  ∃ S' D' B', commitS S D [x] next shown = (0, S', D') ∧ Lv D' B' (k + m + 42) ∧ OneC B S gs x n zeroI next shown B' S' ∧ (blksX S'.inos).length = (blksX S.inos).length + m ∧
   ∀ j, j < m → ∃ p : Nat, (newI S [x] 0 x).ptrs[j]? = some (p : Int) ∧ p ∈ blksX S'.inos ∧ B'[p]? = x.data[j]? := by
 have hpl : x.pieces.length = m := by rw [hp, ups_len]
 have hnx : nextOk zeroI x.ino x.pieces (othersL zeroI.ptrs x.pieces.length) = true := by
  refine nextOk_file okI_zero othersL_fresh (by rw [othersL_len (by rw [hpl]; show m + 32 ≤ 950; omega)]) ?_ (by rw [hi]; rfl) ?_ (by rw [hi]; exact ⟨(by decide : (0:Int) ≤ 1), (by decide : (1:Int) ≤ 10000)⟩) (by rw [hi]; exact ho) (by rw [hi]; exact ⟨(by decide : (0:Int) ≤ 0), (by decide : (0:Int) ≤ 16777215)⟩)
  ·rw [hp]
   refine pcAll_ups ?_ hm
   rw [hi]
   exact ups_chunk m
  ·rw [hi]
   show 0 ≤ (m : Int) * 128 ∧ (m : Int) * 128 ≤ 4096
   omega
 have hx : OneIn S x n zeroI := { at_ := hat, n48 := hn, ino := hz, dl := by rw [hdl, hpl], d128 := hd, next := hnx }
 obtain ⟨S', D', B', e1, e2, e3⟩ := commit_one hok hl hx (by rw [hpl]; exact hf) h1 h2 shown
 have hf2 : totS [x] ≤ (freeL S.U S.sup.blocks.toNat).length := by rw [tot_one, hok.bl, hpl]; exact hf
 have hml : (mineS S [x] 0 x).length = m := by rw [mineS_len hf2 (i := 0) (x := x) rfl, hpl]
 have hb : ∀ p, p ∈ blksI (newI S [x] 0 x) ↔ p ∈ mineS S [x] 0 x := fun p => by
  rw [e3.set.blks hok, blksI_zero]
  simp
 have hbl : (blksI (newI S [x] 0 x)).length = m := by rw [same_len (blksI_nd e3.set.ok) mineS_nd hb, hml]
 have hset := blksX_set hz (newI S [x] 0 x)
 rw [hbl, blksI_zero, ← e3.inos] at hset
 refine ⟨S', D', B', e1, by rw [hpl] at e2; exact e2, e3, by simpa using hset, ?_⟩
 intro j hj
 rcases e3.set.ptr (k := j) (by omega) with ⟨i, p, a1, a2, a3⟩ | ⟨a1, _⟩
 ·have hij : i = j := by
   have hi2 := (List.getElem?_eq_some_iff.1 a1).1
   rw [hp, ups_len] at hi2
   rw [hp, ups_at hi2] at a1
   have := Option.some.inj a1
   omega
  subst hij
  refine ⟨p, a3, ?_, ?_⟩
  ·rw [e3.inos]
   refine List.mem_flatMap.2 ⟨newI S [x] 0 x, List.mem_of_getElem? (i := n) (by rw [List.getElem?_set_self (by rw [hok.x.len]; exact hn)]), ?_⟩
   exact (hb p).2 (List.mem_of_getElem? a2)
  ·obtain ⟨d, hd2⟩ : ∃ d, x.data[i]? = some d := ⟨_, List.getElem?_eq_getElem (by omega)⟩
   rw [hd2]
   exact e3.data i p d a2 hd2
 ·exact absurd (by rw [hp]; exact ups_at hj) (a1 j)
end Go.Proofs.YtchohheleofncaaGreat
namespace Go.Proofs.YtchohheleofncaaGreat
open Go.RowKit Go.Sep
theorem commit_none {B : List (List UInt8)} {S : StD} {gs : List Nat} {D : DiskS} {k : Nat} {x : SetD} {n : Nat} {y : InoD} {next : Int} (hok : SOk B S gs) (hl : Lv D B k) (hat : x.at_ = (n : Int)) (hn : n < 48) (hy : S.inos[n]? = some y) (hi : x.ino = zeroI)
  (hp : x.pieces = []) (hd : x.data = []) (h1 : S.sup.next ≤ next) (h2 : next ≤ 16777215) (shown : Bool) :
  ∃ S' D' B', commitS S D [x] next shown = (0, S', D') ∧ Lv D' B' (k + 42) ∧ OneC B S gs x n y next shown B' S' ∧ S'.inos = S.inos.set n zeroI ∧ (blksX S'.inos).length + (blksI y).length = (blksX S.inos).length := by
 have hk0 : ∀ t, (nxI y x.ino x.pieces t).kind = 0 := fun t => by
  show (nx0 x.ino).kind = 0
  rw [hi]; rfl
 have hnx : nextOk y x.ino x.pieces (othersL y.ptrs x.pieces.length) = true := by
  have : okIb (nxI y x.ino x.pieces (othersL y.ptrs x.pieces.length)) = true := by
   unfold okIb
   rw [hk0]; rfl
  unfold nextOk
  rw [this, hp]
  rfl
 have hx : OneIn S x n y := { at_ := hat, n48 := hn, ino := hy, dl := (by rw [hp, hd]; rfl), d128 := (fun d h => by rw [hd] at h; exact absurd h List.not_mem_nil), next := hnx }
 obtain ⟨S', D', B', e1, e2, e3⟩ := commit_one hok hl hx (by rw [hp]; exact Nat.zero_le _) h1 h2 shown
 have hz : newI S [x] 0 x = zeroI := by
  rw [e3.set.newE]
  exact nxI_zero e3.set.pc (hk0 _)
 have hset := blksX_set hy zeroI
 rw [hp] at e2
 refine ⟨S', D', B', e1, e2, e3, by rw [e3.inos, hz], ?_⟩
 rw [e3.inos, hz, hset, blksI_zero]
 rfl
theorem blksI_count {f : InoD} {there : Nat → Bool} (hl : f.ptrs.length = 32) (h : ∀ j, j < 32 → ∃ p : Nat, f.ptrs[j]? = some (p : Int) ∧ ((there j = true ∧ p ≠ 0) ∨ (there j = false ∧ p = 0))) : (blksI f).length = ((List.range 32).filter there).length := by
 have e : f.ptrs = (List.range 32).map fun j => f.ptrs[j]?.getD 0 := by
  apply List.ext_getElem?
  intro j
  rw [List.getElem?_map]
  by_cases hj : j < 32
  ·rw [List.getElem?_range hj, Option.map_some, List.getElem?_eq_getElem (by omega)]; rfl
  ·rw [List.getElem?_eq_none (by omega), List.getElem?_eq_none (by rw [List.length_range]; omega)]; rfl
 unfold blksI
 rw [List.length_map, e, List.filter_map, List.length_map]
 congr 1
 apply List.filter_congr
 intro j hj
 have hj := List.mem_range.1 hj
 obtain ⟨p, hp, h3⟩ := h j hj
 show decide (f.ptrs[j]?.getD 0 ≠ 0) = there j
 rw [hp]
 show decide ((p : Int) ≠ 0) = there j
 rcases h3 with ⟨a, b⟩ | ⟨a, b⟩
 ·rw [a]; exact decide_eq_true (by omega)
 ·rw [a]; exact decide_eq_false (by omega)
structure KpS (i : Nat) (want : Nat → UInt8) (there : Nat → Bool) (size : Int) (f : InoD) (D : DiskS) (B : List (List UInt8)) (S : StD) : Prop where
 i12 : i ≤ 12
 lv : Lv D B (60 + 43 * i)
 ok : SOk B S [74]
 bl : B.length = 400
 inos : S.inos = (S0 400).inos.set 5 f
 fk : (f = zeroI ∧ size = 0) ∨ (f.kind = 1 ∧ f.obj = 9 ∧ f.size = size ∧ 0 < size)
 next : S.sup.next ≤ 10
 ptr : ∀ j, j < 32 → ∃ p : Nat, f.ptrs[j]? = some (p : Int) ∧ ((there j = true ∧ p ≠ 0 ∧ B[p]? = some (List.replicate 128 (want j))) ∨ (there j = false ∧ p = 0))
def keepT (there : Nat → Bool) (n k : Nat) : Nat → Bool := upd (fun j => there j && decide (j < n)) k true
def keepX (z : Int) (i k : Nat) (v : UInt8) (pv dv : Value) (dvs : List Value) : SetD := ⟨5, ⟨1, z, 1, 9, (i : Int), List.replicate 32 0⟩, [(k : Int)], [List.replicate 128 v], pv, dv, dvs⟩
theorem KpS.at5 {i : Nat} {want : Nat → UInt8} {there : Nat → Bool} {size : Int} {f : InoD} {D : DiskS} {B : List (List UInt8)} {S : StD} (h : KpS i want there size f D B S) : S.inos[5]? = some f := by
 rw [h.inos]
 rw [List.getElem?_set_self (by decide)]
theorem KpS.okf {i : Nat} {want : Nat → UInt8} {there : Nat → Bool} {size : Int} {f : InoD} {D : DiskS} {B : List (List UInt8)} {S : StD} (h : KpS i want there size f D B S) : OkI f := h.ok.x.ok f (List.mem_of_getElem? h.at5)
theorem KpS.blks {i : Nat} {want : Nat → UInt8} {there : Nat → Bool} {size : Int} {f : InoD} {D : DiskS} {B : List (List UInt8)} {S : StD} (h : KpS i want there size f D B S) : (blksX S.inos).length = ((List.range 32).filter there).length := by
 have h1 := blksX_set (X := (S0 400).inos) (n := 5) (y := zeroI) rfl f
 rw [← h.inos, blksX_S0, blksI_zero] at h1
 rw [← blksI_count h.okf.pl (fun j hj => by
  obtain ⟨p, h1, h2⟩ := h.ptr j hj
  refine ⟨p, h1, ?_⟩
  rcases h2 with ⟨a, b, _⟩ | ⟨a, b⟩
  ·exact .inl ⟨a, b⟩
  ·exact .inr ⟨a, b⟩)]
 simpa using h1
theorem KpS.free {i : Nat} {want : Nat → UInt8} {there : Nat → Bool} {size : Int} {f : InoD} {D : DiskS} {B : List (List UInt8)} {S : StD} (h : KpS i want there size f D B S) : (freeL S.U 400).length + ((List.range 32).filter there).length = 325 := by
 have h1 := h.ok.free
 rw [h.bl, h.blks] at h1
 simp at h1
 omega
theorem KpS.step {i : Nat} {want : Nat → UInt8} {there : Nat → Bool} {size : Int} {f : InoD} {D : DiskS} {B : List (List UInt8)} {S : StD} (h : KpS i want there size f D B S) (hi : i < 12) {z : Int} {n k : Nat} (hz : 1 ≤ z ∧ z ≤ 4096) (hn : (n : Int) = (z + 127) / 128) (hk : k < n) (v : UInt8) (pv dv : Value) (dvs : List Value) :
  ∃ S' D' B' f', commitS S D [keepX z i k v pv dv dvs] 10 true = (0, S', D') ∧ KpS (i + 1) (fun j => if j = k then v else want j) (keepT there n k) z f' D' B' S' := by
 obtain ⟨x, hxe⟩ : ∃ x, keepX z i k v pv dv dvs = x := ⟨_, rfl⟩
 have hnx : nxB x.ino = (n : Int) := by
  rw [← hxe]
  show chunkB z = _
  unfold chunkB
  rw [if_neg (by omega), Int.tdiv_eq_ediv_of_nonneg (by omega)]
  omega
 have hk32 : k < 32 := by omega
 have hpl : x.pieces.length = 1 := by rw [← hxe]; rfl
 have hx : OneIn S x 5 f := {
  at_ := by rw [← hxe]; rfl
  n48 := by decide
  ino := h.at5
  dl := by rw [← hxe]; rfl
  d128 := fun d hd => by
   rw [← hxe] at hd
   rw [List.mem_singleton.1 hd]
   simp
  next := by
   refine nextOk_file h.okf othersL_fresh (by rw [othersL_len (by rw [hpl, h.okf.pl]; decide)]) ?_ (by rw [← hxe]; rfl) (by rw [← hxe]; exact ⟨(show (0:Int) ≤ z by omega), hz.2⟩) (by rw [← hxe]; exact ⟨(by decide : (0:Int) ≤ 1), (by decide : (1:Int) ≤ 10000)⟩) (by rw [← hxe]; exact ⟨(by decide : (1:Int) ≤ 9), (by decide : (9:Int) ≤ 16777215)⟩) (by rw [← hxe]; exact ⟨(show (0:Int) ≤ (i : Int) by omega), (show (i : Int) ≤ 16777215 by omega)⟩)
   rw [hnx, ← hxe]
   exact pcAll_one (by omega) hk32 }
 have hfr := h.free
 have hcnt : ((List.range 32).filter there).length ≤ 32 := by
  have := List.length_filter_le there (List.range 32)
  rw [List.length_range] at this
  exact this
 obtain ⟨S', D', B', e1, e2, e3⟩ := commit_one h.ok h.lv hx (by rw [hpl, h.bl]; omega) h.next (by decide) true
 have hf2 : totS [x] ≤ (freeL S.U S.sup.blocks.toNat).length := by rw [tot_one, h.ok.bl, hpl, h.bl]; omega
 refine ⟨S', D', B', newI S [x] 0 x, by rw [hxe]; exact e1, ?_⟩
 have hnew : newI S [x] 0 x = nxI f x.ino x.pieces (mineS S [x] 0 x) := e3.set.newE
 have hx0 : nx0 x.ino = x.ino := if_neg (by rw [← hxe]; exact (by decide : ¬ (1 : Int) = 0))
 exact
  {i12 := hi
   lv := e2.mono (by rw [hpl]; omega)
   ok := e3.ok
   bl := by rw [e3.len]; exact h.bl
   inos := by rw [e3.inos, h.inos, List.set_set]
   fk := .inr ⟨by rw [hnew]; show (nx0 x.ino).kind = 1; rw [hx0, ← hxe]; rfl, by rw [hnew]; show (nx0 x.ino).obj = 9; rw [hx0, ← hxe]; rfl, by rw [hnew]; show (nx0 x.ino).size = z; rw [hx0, ← hxe]; rfl, by omega⟩
   next := by rw [e3.sup]; exact Int.le_refl _
   ptr := fun j hj => by
    rcases e3.set.ptr hj with ⟨m, p, a1, a2, a3⟩ | ⟨a1, a2⟩
    ·have hm : m = 0 := by
      have := (List.getElem?_eq_some_iff.1 a1).1
      omega
     subst hm
     have hjk : j = k := by
      rw [← hxe] at a1
      have : (k : Int) = (j : Int) := Option.some.inj a1
      omega
     subst hjk
     refine ⟨p, a3, .inl ⟨by unfold keepT upd; simp, ?_, ?_⟩⟩
     ·have := h.ok.takSm (mineS_mem (List.mem_of_getElem? a2))
      omega
     ·rw [if_pos rfl]
      exact e3.data 0 p _ a2 (by rw [← hxe]; rfl)
    ·have hjk : j ≠ k := fun e => by
      subst e
      refine a1 0 ?_
      rw [← hxe]
      rfl
     have hkt : keepT there n k j = (there j && decide (j < n)) := by unfold keepT upd; rw [if_neg hjk]
     obtain ⟨p, b1, b2⟩ := h.ptr j hj
     by_cases hjn : j < n
     ·have hkk : nxK f x.ino j = (p : Int) := by
       unfold nxK
       split
       ·rw [b1]; rfl
       ·rename_i hc
        unfold nxKeep at hc
        rw [hnx, decide_eq_true (by omega), hx0] at hc
        rcases h.fk with ⟨c1, _⟩ | ⟨c1, c2, _⟩
        ·rw [c1] at b1
         have h3 := List.mem_of_getElem? b1
         exact (List.eq_of_mem_replicate h3).symm
        ·rw [c1, c2, ← hxe] at hc
         exact absurd rfl hc
      rw [hkk] at a2
      refine ⟨p, a2, ?_⟩
      rw [hkt, decide_eq_true hjn, Bool.and_true, if_neg hjk]
      rcases b2 with ⟨c1, c2, c3⟩ | ⟨c1, c2⟩
      ·refine .inl ⟨c1, c2, ?_⟩
       rw [e3.keep p (h.ok.inoM h.at5 ((mem_blksI' h.okf).2 ⟨c2, List.mem_of_getElem? b1⟩))]
       exact c3
      ·exact .inr ⟨c1, c2⟩
     ·have hkk : nxK f x.ino j = 0 := by
       unfold nxK nxKeep
       rw [hnx, decide_eq_false (by omega)]
       rfl
      rw [hkk] at a2
      refine ⟨0, a2, .inr ⟨by rw [hkt, decide_eq_false hjn, Bool.and_false], rfl⟩⟩ }
end Go.Proofs.YtchohheleofncaaGreat
namespace Go.Proofs.YtchohheleofncaaGreat
open Go.RowKit Go.Sep
structure StAt (k nb c : Nat) (gs : List Nat) (D : DiskS) (B : List (List UInt8)) (S : StD) : Prop where
 lv : Lv D B k
 ok : SOk B S gs
 bl : B.length = nb
 cnt : (blksX S.inos).length = c
theorem StAt.free {k nb c : Nat} {gs : List Nat} {D : DiskS} {B : List (List UInt8)} {S : StD} (h : StAt k nb c gs D B S) : (freeL S.U nb).length = nb - (c + gs.length + 74) ∧ c + gs.length + 74 ≤ nb := by
 have h1 := h.ok.free
 rw [h.bl, h.cnt] at h1
 omega
theorem StAt.ok' {k nb c : Nat} {gs : List Nat} {D : DiskS} {B : List (List UInt8)} {S : StD} (h : StAt k nb c gs D B S) : SOk D.blocks S gs := by
 rw [h.lv.bl]
 exact h.ok
theorem StAt.sup {k nb c : Nat} {gs : List Nat} {D : DiskS} {B : List (List UInt8)} {S : StD} (h : StAt k nb c gs D B S) : S.sup.blocks = (nb : Int) := by rw [h.ok.blocks, h.bl]
theorem StAt.new {nb : Nat} {D : DiskS} (h1 : 160 ≤ nb) (h2 : nb ≤ 1024) (hl : Lv D (fmtB nb) 60) : StAt 60 nb 0 [74] D (fmtB nb) (S0 nb) where
 lv := hl
 ok := sok_fmt h1 h2
 bl := fmtB_len nb
 cnt := by rw [blksX_S0]; rfl
structure PutA (S : StD) (x : SetD) (n m : Nat) (next : Int) (B B' : List (List UInt8)) (S' : StD) : Prop where
 next : S'.sup.next = next
 recs : S'.recs = S.recs
 inos : ∃ f, S'.inos = S.inos.set n f ∧ (blksI f).length = m ∧ ∀ j, j < m → ∃ p : Nat, f.ptrs[j]? = some (p : Int) ∧ p ∈ blksX S'.inos ∧ B'[p]? = x.data[j]?
 keep : ∀ p ∈ blksX S.inos, B'[p]? = B[p]?
theorem StAt.put {k nb c : Nat} {gs : List Nat} {D : DiskS} {B : List (List UInt8)} {S : StD} (h : StAt k nb c gs D B S) {x : SetD} {n m : Nat} {obj next : Int} (hat : x.at_ = (n : Int)) (hn : n < 48) (hz : S.inos[n]? = some zeroI) (hi : x.ino = fileI m obj) (ho : 1 ≤ obj ∧ obj ≤ 16777215)
  (hp : x.pieces = ups m) (hm : m ≤ 32) (hdl : x.data.length = m) (hd : ∀ d ∈ x.data, d.length = 128) (hf : c + m + gs.length + 74 ≤ nb) (h1 : S.sup.next ≤ next) (h2 : next ≤ 16777215) (shown : Bool) :
  ∃ S' D' B', commitS S D [x] next shown = (0, S', D') ∧ StAt (k + m + 42) nb (c + m) gs D' B' S' ∧ PutA S x n m next B B' S' := by
 have hfr := h.free
 obtain ⟨S', D', B', e1, e2, e3, e4, e5⟩ := commit_all h.ok h.lv hat hn hz hi ho hp hm hdl hd (by rw [h.bl]; omega) h1 h2 shown
 refine ⟨S', D', B', e1, { lv := e2, ok := e3.ok, bl := by rw [e3.len]; exact h.bl, cnt := by rw [e4, h.cnt] }, ?_⟩
 have hset := blksX_set hz (newI S [x] 0 x)
 rw [← e3.inos, blksI_zero, e4] at hset
 exact
  {next := by rw [e3.sup]; rfl
   recs := e3.recs
   inos := ⟨_, e3.inos, by simp at hset; omega, e5⟩
   keep := e3.keep }
theorem StAt.full {k nb c : Nat} {gs : List Nat} {D : DiskS} {B : List (List UInt8)} {S : StD} (h : StAt k nb c gs D B S) {x : SetD} {n m : Nat} {obj next : Int} (hat : x.at_ = (n : Int)) (hn : n < 48) (hz : S.inos[n]? = some zeroI) (hi : x.ino = fileI m obj) (ho : 1 ≤ obj ∧ obj ≤ 16777215)
  (hp : x.pieces = ups m) (hm : m ≤ 32) (hdl : x.data.length = m) (hd : ∀ d ∈ x.data, d.length = 128) (hf : nb < c + m + gs.length + 74) (h1 : S.sup.next ≤ next) (h2 : next ≤ 16777215) (shown : Bool) :
  commitS S D [x] next shown = (2, S, D) := by
 have hpl : x.pieces.length = m := by rw [hp, ups_len]
 have hnx : nextOk zeroI x.ino x.pieces (othersL zeroI.ptrs x.pieces.length) = true := by
  refine nextOk_file okI_zero othersL_fresh (by rw [othersL_len (by rw [hpl]; show m + 32 ≤ 950; omega)]) ?_ (by rw [hi]; rfl) ?_ (by rw [hi]; exact ⟨(by decide : (0:Int) ≤ 1), (by decide : (1:Int) ≤ 10000)⟩) (by rw [hi]; exact ho) (by rw [hi]; exact ⟨(by decide : (0:Int) ≤ 0), (by decide : (0:Int) ≤ 16777215)⟩)
  ·rw [hp]
   refine pcAll_ups ?_ hm
   rw [hi]
   exact ups_chunk m
  ·rw [hi]
   show 0 ≤ (m : Int) * 128 ∧ (m : Int) * 128 ≤ 4096
   omega
 have hx : OneIn S x n zeroI := { at_ := hat, n48 := hn, ino := hz, dl := by rw [hdl, hpl], d128 := hd, next := hnx }
 have hfr := h.free
 unfold commitS
 rw [if_neg (by unfold cmtBad; rw [hx.right, decide_eq_false (by omega), decide_eq_false (by omega)]; decide), if_pos (by rw [tot_one, hpl, h.ok.bl, h.bl]; omega)]
theorem StAt.gone {k nb c : Nat} {gs : List Nat} {D : DiskS} {B : List (List UInt8)} {S : StD} (h : StAt k nb c gs D B S) {x : SetD} {n m : Nat} {y : InoD} {next : Int} (hat : x.at_ = (n : Int)) (hn : n < 48) (hy : S.inos[n]? = some y) (hym : (blksI y).length = m) (hi : x.ino = zeroI)
  (hp : x.pieces = []) (hd : x.data = []) (h1 : S.sup.next ≤ next) (h2 : next ≤ 16777215) (shown : Bool) :
  ∃ S' D' B', commitS S D [x] next shown = (0, S', D') ∧ StAt (k + 42) nb (c - m) gs D' B' S' ∧ S'.inos = S.inos.set n zeroI ∧ ∀ p ∈ blksX S.inos, B'[p]? = B[p]? := by
 obtain ⟨S', D', B', e1, e2, e3, e4, e5⟩ := commit_none h.ok h.lv hat hn hy hi hp hd h1 h2 shown
 refine ⟨S', D', B', e1, { lv := e2, ok := e3.ok, bl := by rw [e3.len]; exact h.bl, cnt := by rw [hym, h.cnt] at e5; omega }, e4, e3.keep⟩
end Go.Proofs.YtchohheleofncaaGreat
