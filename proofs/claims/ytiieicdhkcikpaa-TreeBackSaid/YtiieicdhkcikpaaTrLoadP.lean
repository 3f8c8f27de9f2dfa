/-
  Trees that are loaded from kinds and entries (plain).
-/
import Derived.Test.YtiieicdhkcikpaaMPth
namespace Go.Proofs.Ytiieicdhkcikpaa
open Go.Sep
set_option linter.unusedSimpArgs false
set_option linter.unusedVariables false
/-- Entries that may be. -/
structure ChkD (l : List EntD) : Prop where
  len : l.length ≤ 64
  ent : ∀ e ∈ l, entOk e = true
  srt : SrtE l
theorem SrtE.snoc {l : List EntD} {i : Nat} {e : EntD} (h : SrtE (l.take i)) (hx : l[i]? = some e) (ha : i = 0 ∨ ∃ a, l[i - 1]? = some a ∧ less a.nm e.nm = true) : SrtE (l.take (i + 1)) := by
  have hi := (List.getElem?_eq_some_iff.1 hx).1
  rw [List.take_add_one, hx]
  unfold SrtE
  rw [List.pairwise_append]
  refine ⟨h, by simp, fun x hxm y hy => ?_⟩
  obtain rfl : y = e := by simpa using hy
  obtain ⟨k, hk⟩ := List.getElem?_of_mem hxm
  have hki : k < i := by
    have := (List.getElem?_eq_some_iff.1 hk).1
    rw [List.length_take] at this; omega
  rcases ha with rfl | ⟨a, ha, hl⟩
  · omega
  · rcases Nat.lt_or_ge k (i - 1) with h1 | h1
    · exact less_trans (h.lt hk (show (l.take i)[i - 1]? = some a by rw [List.getElem?_take_of_lt (by omega)]; exact ha) h1) hl
    · obtain rfl : k = i - 1 := by omega
      rw [List.getElem?_take_of_lt hki, ha] at hk
      cases hk; exact hl
theorem SrtE.prev {l : List EntD} (h : SrtE l) {i : Nat} {a e : EntD} (ha : l[i - 1]? = some a) (hx : l[i]? = some e) (hi : i ≠ 0) : less a.nm e.nm = true := h.lt ha hx (by omega)
namespace TrD
def padT (ks : List Int) (ds : List (List EntD)) : TrD := ⟨ks ++ List.replicate (48 - ks.length) 0, ds ++ List.replicate (48 - ds.length) [], []⟩
theorem pad_kind (ks : List Int) (ds : List (List EntD)) (i : Nat) : (padT ks ds).kind i = (ks[i]?).getD 0 := by
  unfold kind padT
  show ((ks ++ List.replicate (48 - ks.length) 0)[i]?).getD 0 = _
  by_cases h : i < ks.length
  · rw [List.getElem?_append_left h]
  · rw [List.getElem?_append_right (by omega), List.getElem?_eq_none (l := ks) (by omega), List.getElem?_replicate]
    split <;> rfl
theorem pad_dir (ks : List Int) (ds : List (List EntD)) (i : Nat) : (padT ks ds).dir i = (ds[i]?).getD [] := by
  unfold dir padT
  show ((ds ++ List.replicate (48 - ds.length) [])[i]?).getD [] = _
  by_cases h : i < ds.length
  · rw [List.getElem?_append_left h]
  · rw [List.getElem?_append_right (by omega), List.getElem?_eq_none (l := ds) (by omega), List.getElem?_replicate]
    split <;> rfl
theorem cnt_pad (ds : List (List EntD)) (n i : Nat) : cnt (ds ++ List.replicate n []) i = cnt ds i := by
  unfold cnt
  rw [List.flatten_append]
  have : (List.replicate n ([] : List EntD)).flatten = [] := by simp
  rw [this, List.append_nil]
theorem pad_links (ks : List Int) (ds : List (List EntD)) (i : Nat) : (padT ks ds).links i = if i = 0 then 1 else cnt ds i := by
  unfold links
  rw [show (padT ks ds).dirs = ds ++ List.replicate (48 - ds.length) [] from rfl, cnt_pad]
/-- What entries lead to, from the top. -/
def Rc (d : Nat → List EntD) (i : Nat) : Prop := ∀ S : Nat → Prop, S 0 → (∀ k, S k → ∀ e ∈ d k, S e.ino.toNat) → S i
theorem Rc.zero {d : Nat → List EntD} : Rc d 0 := fun _ h _ => h
theorem Rc.step {d : Nat → List EntD} {i : Nat} (h : Rc d i) {e : EntD} (he : e ∈ d i) : Rc d e.ino.toNat := fun S h0 hs => hs i (h S h0 hs) e he
/-- Has each inode names as it may? -/
structure Right (T : TrD) : Prop where
  no : ∀ i, i < 48 → T.kind i = 0 → T.links i = 0
  dr : ∀ i, i < 48 → T.kind i = 2 → Rc T.dir i ∧ T.links i = 1
structure LoadOk (ks : List Int) (ds : List (List EntD)) : Prop where
  k48 : ks.length ≤ 48
  d48 : ds.length ≤ 48
  k0 : (ks[0]?).getD 0 = 2
  kk : ∀ k ∈ ks, 0 ≤ k ∧ k ≤ 2
  chk : ∀ d ∈ ds, ChkD d
  nd : ∀ (i : Nat) (d : List EntD), ds[i]? = some d → d ≠ [] → (ks[i]?).getD 0 = 2
  right : Right (padT ks ds)
theorem LoadOk.k1 {ks : List Int} {ds : List (List EntD)} (h : LoadOk ks ds) : 1 ≤ ks.length := by
  have := h.k0
  cases ks with
  | nil => simp at this
  | cons => simp
theorem pad_ok {ks : List Int} {ds : List (List EntD)} (k48 : ks.length ≤ 48) (d48 : ds.length ≤ 48) (k0 : (ks[0]?).getD 0 = 2) (kk : ∀ k ∈ ks, 0 ≤ k ∧ k ≤ 2) (chk : ∀ d ∈ ds, ChkD d) : (padT ks ds).Ok := by
  have hd : ∀ d ∈ (padT ks ds).dirs, ChkD d := fun d hd => by
    rcases List.mem_append.1 hd with hd | hd
    · exact chk d hd
    · obtain rfl := List.eq_of_mem_replicate hd
      exact ⟨Nat.zero_le _, fun e he => (List.not_mem_nil he).elim, List.Pairwise.nil⟩
  exact {
    kl := by show (ks ++ List.replicate (48 - ks.length) 0).length = 48; rw [List.length_append, List.length_replicate]; omega
    dl := by show (ds ++ List.replicate (48 - ds.length) []).length = 48; rw [List.length_append, List.length_replicate]; omega
    srt := fun d h => (hd d h).srt
    ent := fun d h => (hd d h).ent
    len := fun d h => (hd d h).len
    k0 := by rw [pad_kind]; exact k0
    kk := fun k hk => by
      rcases List.mem_append.1 hk with hk | hk
      · have := kk k hk; omega
      · exact .inl (List.eq_of_mem_replicate hk)
    lst := Nat.zero_le _ }
theorem LoadOk.ok {ks : List Int} {ds : List (List EntD)} (h : LoadOk ks ds) : (padT ks ds).Ok := pad_ok h.k48 h.d48 h.k0 h.kk h.chk
theorem pth_rc {T : TrD} (hT : T.Ok) : ∀ {l : List (List UInt8)} {i j : Nat}, i < 48 → T.Pth i l j → Rc T.dir i → Rc T.dir j
  | [], i, j, _, hp, h => by rw [← pth_nil.1 hp]; exact h
  | n :: l, i, j, hi, hp, h => by
    obtain ⟨_, z, hf, hp2⟩ := pth_cons.1 hp
    obtain ⟨e, he, _, rfl⟩ := findE_mem hf
    obtain ⟨_, h1, h2⟩ := hT.find_ino hi hf
    exact pth_rc hT (by omega) hp2 (h.step he)
/-- A tree can be loaded. -/
theorem Tre.load {T : TrD} (hR : T.Tre) (hT : T.Ok) : LoadOk T.kinds T.dirs ∧ padT T.kinds T.dirs = ⟨T.kinds, T.dirs, []⟩ := by
  have he : padT T.kinds T.dirs = ⟨T.kinds, T.dirs, []⟩ := by
    unfold padT
    rw [hT.kl, hT.dl]; simp
  refine ⟨{ k48 := by rw [hT.kl]; omega
            d48 := by rw [hT.dl]; omega
            k0 := hT.k0
            kk := fun k hk => by have := hT.kk k hk; omega
            chk := fun d hd => ⟨hT.len d hd, hT.ent d hd, hT.srt d hd⟩
            nd := fun i d hd hne => by
              have hi : i < 48 := by rw [← hT.dl]; exact (List.getElem?_eq_some_iff.1 hd).1
              by_cases h : T.kind i = 2
              · exact h
              · have h2 := hR.nd i hi h
                have h3 := hT.dir_at hi
                rw [h2, hd] at h3
                cases h3
                exact absurd rfl hne
            right := ?_ }, he⟩
  rw [he]
  refine ⟨fun i hi hk => ?_, fun i hi hk => ?_⟩
  · rcases Nat.eq_zero_or_pos i with rfl | hp
    · have := hT.k0
      have hk' : T.kind 0 = 0 := hk
      rw [this] at hk'; cases hk'
    · exact hR.no i hp hi hk
  · rcases Nat.eq_zero_or_pos i with rfl | hp
    · exact ⟨Rc.zero, rfl⟩
    · obtain ⟨l, hl⟩ := hR.up i hi hk
      exact ⟨pth_rc hT (by omega) hl Rc.zero, hR.one i hp hi hk⟩
/-! ### counting names -/
theorem cnt_snoc (ds : List (List EntD)) (l : List EntD) (i : Nat) : cnt (ds ++ [l]) i = cnt ds i + cnt1 l i := by
  unfold cnt cnt1
  rw [List.flatten_append, List.filter_append, List.length_append]; simp
/-- Names so far: some directories, some entries of the next. -/
def lk0 (ds : List (List EntD)) (l : List EntD) (j : Nat) : Int := if j = 0 then 1 else ((cnt ds j + cnt1 l j : Nat) : Int)
theorem lk0_nil (j : Nat) : lk0 [] [] j = if j = 0 then 1 else 0 := by unfold lk0; split <;> rfl
theorem lk0_snoc (ds : List (List EntD)) (l : List EntD) : lk0 (ds ++ [l]) [] = lk0 ds l := by
  funext j
  unfold lk0
  rw [cnt_snoc]
  split
  · rfl
  · rfl
theorem lk0_ent (ds : List (List EntD)) (l : List EntD) (e : EntD) (a : Nat) (ha : e.ino = (a : Int)) (h1 : 1 ≤ a) : lk0 ds (l ++ [e]) = upd (lk0 ds l) a (lk0 ds l a + 1) := by
  funext j
  have hc : cnt1 (l ++ [e]) j = cnt1 l j + if e.ino = (j : Int) then 1 else 0 := by
    unfold cnt1
    rw [List.filter_append, List.length_append, List.filter_cons]
    split <;> rename_i h2
    · rw [if_pos (of_decide_eq_true h2)]; rfl
    · rw [if_neg (fun e2 => h2 (decide_eq_true e2))]; rfl
  by_cases hj : j = a
  · subst hj
    rw [upd_at]
    unfold lk0
    rw [if_neg (by omega), hc, if_pos ha]; omega
  · rw [upd_no _ _ hj]
    unfold lk0
    rw [hc, if_neg (show ¬ e.ino = (j : Int) by omega)]; rfl
theorem pad_lnk (ks : List Int) (ds : List (List EntD)) : (padT ks ds).lnk = lk0 ds [] := by
  funext j
  unfold lnk lk0
  rw [pad_links]
  split
  · rfl
  · rfl
theorem cnt_mem {ds : List (List EntD)} {d : List EntD} {e : EntD} {j : Nat} (hd : d ∈ ds) (he : e ∈ d) (hj : e.ino = (j : Int)) : 1 ≤ cnt ds j := by
  unfold cnt
  exact List.length_pos_of_mem (List.mem_filter.2 ⟨List.mem_flatten.2 ⟨d, hd, he⟩, decide_eq_true hj⟩)
theorem cnt_zero {ds : List (List EntD)} {j : Nat} (h : cnt ds j = 0) {d : List EntD} {e : EntD} (hd : d ∈ ds) (he : e ∈ d) : e.ino ≠ (j : Int) := fun hj => by
  have := cnt_mem hd he hj; omega
theorem cnt_none {ds : List (List EntD)} {j : Nat} (h : ∀ d ∈ ds, ∀ e ∈ d, e.ino ≠ (j : Int)) : cnt ds j = 0 := by
  unfold cnt
  rw [List.length_eq_zero_iff, List.filter_eq_nil_iff]
  intro e he
  obtain ⟨d, hd, he⟩ := List.mem_flatten.1 he
  simpa using h d hd e he
/-- The document's own way to say it. -/
theorem right_iff {ks : List Int} {ds : List (List EntD)} (k0 : (ks[0]?).getD 0 = 2) (chk : ∀ d ∈ ds, ChkD d) :
    Right (padT ks ds) ↔ (∀ d ∈ ds, ∀ e ∈ d, (ks[e.ino.toNat]?).getD 0 ≠ 0) ∧ ∀ i, 1 ≤ i → i < 48 → (ks[i]?).getD 0 = 2 → cnt ds i = 1 ∧ Rc (padT ks ds).dir i := by
  constructor
  · intro h
    refine ⟨fun d hd e he h0 => ?_, fun i h1 h2 h3 => ?_⟩
    · have hent := (chk d hd).ent e he
      unfold entOk at hent
      simp only [Bool.and_eq_true, decide_eq_true_eq] at hent
      have := h.no e.ino.toNat (by omega) (by rw [pad_kind]; exact h0)
      rw [pad_links, if_neg (by omega)] at this
      exact cnt_zero this hd he (by omega)
    · have := h.dr i h2 (by rw [pad_kind]; exact h3)
      rw [pad_links, if_neg (by omega)] at this
      exact ⟨this.2, this.1⟩
  · rintro ⟨h1, h2⟩
    refine ⟨fun i hi hk => ?_, fun i hi hk => ?_⟩
    · rw [pad_kind] at hk
      have hi0 : i ≠ 0 := fun e => by subst e; rw [k0] at hk; cases hk
      rw [pad_links, if_neg hi0]
      refine cnt_none fun d hd e he hj => h1 d hd e he ?_
      rw [hj, Int.toNat_natCast]; exact hk
    · rw [pad_kind] at hk
      rcases Nat.eq_zero_or_pos i with rfl | hp
      · exact ⟨Rc.zero, by rw [pad_links, if_pos rfl]⟩
      · rw [pad_links, if_neg (by omega)]
        exact ⟨(h2 i hp hi hk).2, (h2 i hp hi hk).1⟩
end TrD
end Go.Proofs.Ytiieicdhkcikpaa
