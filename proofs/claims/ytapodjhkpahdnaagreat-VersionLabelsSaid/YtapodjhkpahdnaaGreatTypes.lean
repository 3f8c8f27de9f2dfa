/-
  Closed facts on the types of this translation: sizes, zero values, which are aggregates.
-/
import Derived.Test.YtapodjhkpahdnaaGreatRows
import Derived.Test.YtapodjhkpahdnaaGreatSepSl
namespace Go.Proofs.YtapodjhkpahdnaaGreat
open Go.Sep
set_option maxRecDepth 20000
structure TypeRow (α : Type) (F : Nat → Option α) where
  key : Nat
  val : α
  is : F key = some val
def lookRow {α : Type} {F : Nat → Option α} : List (TypeRow α F) → Nat → Option α
  | [], _ => none
  | r :: l, T => bif Nat.beq r.key T then some r.val else lookRow l T
theorem lookRow_of {α : Type} {F : Nat → Option α} {x : α} {T : Nat} : ∀ {l : List (TypeRow α F)}, lookRow l T = some x → F T = some x
  | [], h => by cases h
  | r :: l, h => by
    unfold lookRow at h
    cases hb : Nat.beq r.key T with
    | true =>
      rw [hb] at h
      have e := Nat.eq_of_beq_eq_true hb
      have h2 : r.val = x := by simpa using h
      rw [← e, r.is, h2]
    | false =>
      rw [hb] at h
      exact lookRow_of (l := l) h

theorem ag0 : aggB Tryz.prog 0 = some false := by kernel_rfl
theorem ag1 : aggB Tryz.prog 1 = some false := by kernel_rfl
theorem ag2 : aggB Tryz.prog 2 = some false := by kernel_rfl
theorem ag3 : aggB Tryz.prog 3 = some false := by kernel_rfl
theorem ag4 : aggB Tryz.prog 4 = some false := by kernel_rfl
theorem ag5 : aggB Tryz.prog 5 = some false := by kernel_rfl
theorem ag6 : aggB Tryz.prog 6 = some false := by kernel_rfl
theorem ag7 : aggB Tryz.prog 7 = some true := by kernel_rfl
theorem ag8 : aggB Tryz.prog 8 = some true := by kernel_rfl
theorem ag9 : aggB Tryz.prog 9 = some false := by kernel_rfl
theorem ag10 : aggB Tryz.prog 10 = some false := by kernel_rfl
theorem ag11 : aggB Tryz.prog 11 = some false := by kernel_rfl
theorem ag12 : aggB Tryz.prog 12 = some false := by kernel_rfl
theorem ag13 : aggB Tryz.prog 13 = some true := by kernel_rfl
theorem ag14 : aggB Tryz.prog 14 = some true := by kernel_rfl
theorem ag15 : aggB Tryz.prog 15 = some false := by kernel_rfl
theorem ag16 : aggB Tryz.prog 16 = some false := by kernel_rfl
theorem ag17 : aggB Tryz.prog 17 = some false := by kernel_rfl
theorem ag18 : aggB Tryz.prog 18 = some true := by kernel_rfl
theorem ag19 : aggB Tryz.prog 19 = some true := by kernel_rfl
theorem ag20 : aggB Tryz.prog 20 = some false := by kernel_rfl
theorem ag21 : aggB Tryz.prog 21 = some false := by kernel_rfl
theorem ag22 : aggB Tryz.prog 22 = some false := by kernel_rfl
theorem ag23 : aggB Tryz.prog 23 = some false := by kernel_rfl
theorem ag24 : aggB Tryz.prog 24 = some false := by kernel_rfl
theorem ag25 : aggB Tryz.prog 25 = some false := by kernel_rfl
theorem ag26 : aggB Tryz.prog 26 = some false := by kernel_rfl
theorem ag27 : aggB Tryz.prog 27 = some false := by kernel_rfl
theorem ag28 : aggB Tryz.prog 28 = some true := by kernel_rfl
theorem ag29 : aggB Tryz.prog 29 = some true := by kernel_rfl
theorem ag30 : aggB Tryz.prog 30 = some false := by kernel_rfl
theorem ag31 : aggB Tryz.prog 31 = some false := by kernel_rfl
theorem ag32 : aggB Tryz.prog 32 = some false := by kernel_rfl
theorem ag33 : aggB Tryz.prog 33 = some false := by kernel_rfl
theorem ag34 : aggB Tryz.prog 34 = some false := by kernel_rfl
theorem ag35 : aggB Tryz.prog 35 = some false := by kernel_rfl
theorem ag36 : aggB Tryz.prog 36 = some false := by kernel_rfl
theorem ag37 : aggB Tryz.prog 37 = some false := by kernel_rfl
theorem ag38 : aggB Tryz.prog 38 = some true := by kernel_rfl
theorem ag39 : aggB Tryz.prog 39 = some true := by kernel_rfl
theorem ag40 : aggB Tryz.prog 40 = some false := by kernel_rfl
theorem ag41 : aggB Tryz.prog 41 = some false := by kernel_rfl
theorem ag42 : aggB Tryz.prog 42 = some false := by kernel_rfl
theorem ag43 : aggB Tryz.prog 43 = some false := by kernel_rfl
theorem ag44 : aggB Tryz.prog 44 = some false := by kernel_rfl
theorem ag45 : aggB Tryz.prog 45 = some false := by kernel_rfl
theorem ag46 : aggB Tryz.prog 46 = some false := by kernel_rfl
theorem ag47 : aggB Tryz.prog 47 = some false := by kernel_rfl
theorem ag48 : aggB Tryz.prog 48 = some false := by kernel_rfl
theorem ag49 : aggB Tryz.prog 49 = some false := by kernel_rfl
theorem ag50 : aggB Tryz.prog 50 = some false := by kernel_rfl
theorem ag51 : aggB Tryz.prog 51 = some false := by kernel_rfl
theorem ag52 : aggB Tryz.prog 52 = some true := by kernel_rfl
theorem ag53 : aggB Tryz.prog 53 = some true := by kernel_rfl
theorem ag54 : aggB Tryz.prog 54 = some false := by kernel_rfl
theorem ag55 : aggB Tryz.prog 55 = some true := by kernel_rfl
theorem ag56 : aggB Tryz.prog 56 = some true := by kernel_rfl
theorem ag57 : aggB Tryz.prog 57 = some true := by kernel_rfl
theorem ag58 : aggB Tryz.prog 58 = some true := by kernel_rfl
theorem ag59 : aggB Tryz.prog 59 = some false := by kernel_rfl
theorem ag60 : aggB Tryz.prog 60 = some false := by kernel_rfl
theorem ag61 : aggB Tryz.prog 61 = some false := by kernel_rfl
theorem ag62 : aggB Tryz.prog 62 = some false := by kernel_rfl
theorem ag63 : aggB Tryz.prog 63 = some false := by kernel_rfl
theorem ag64 : aggB Tryz.prog 64 = some true := by kernel_rfl
theorem ag65 : aggB Tryz.prog 65 = some false := by kernel_rfl
theorem ag66 : aggB Tryz.prog 66 = some false := by kernel_rfl
theorem ag67 : aggB Tryz.prog 67 = some false := by kernel_rfl
theorem ag68 : aggB Tryz.prog 68 = some true := by kernel_rfl
theorem ag69 : aggB Tryz.prog 69 = some true := by kernel_rfl
theorem ag70 : aggB Tryz.prog 70 = some true := by kernel_rfl
theorem ag71 : aggB Tryz.prog 71 = some true := by kernel_rfl
theorem ag72 : aggB Tryz.prog 72 = some false := by kernel_rfl
theorem ag73 : aggB Tryz.prog 73 = some false := by kernel_rfl
theorem ag74 : aggB Tryz.prog 74 = some false := by kernel_rfl
theorem ag75 : aggB Tryz.prog 75 = some false := by kernel_rfl
theorem ag76 : aggB Tryz.prog 76 = some false := by kernel_rfl
theorem ag77 : aggB Tryz.prog 77 = some false := by kernel_rfl
theorem ag78 : aggB Tryz.prog 78 = some false := by kernel_rfl
theorem ag79 : aggB Tryz.prog 79 = some false := by kernel_rfl
theorem ag80 : aggB Tryz.prog 80 = some false := by kernel_rfl
theorem ag81 : aggB Tryz.prog 81 = some false := by kernel_rfl
theorem ag82 : aggB Tryz.prog 82 = some true := by kernel_rfl
theorem ag83 : aggB Tryz.prog 83 = some true := by kernel_rfl
theorem ag84 : aggB Tryz.prog 84 = some false := by kernel_rfl
theorem ag85 : aggB Tryz.prog 85 = some false := by kernel_rfl
theorem ag86 : aggB Tryz.prog 86 = some false := by kernel_rfl
theorem ag87 : aggB Tryz.prog 87 = some false := by kernel_rfl
theorem ag88 : aggB Tryz.prog 88 = some false := by kernel_rfl
theorem ag89 : aggB Tryz.prog 89 = some false := by kernel_rfl
theorem ag90 : aggB Tryz.prog 90 = some true := by kernel_rfl
theorem ag91 : aggB Tryz.prog 91 = some true := by kernel_rfl
theorem ag92 : aggB Tryz.prog 92 = some false := by kernel_rfl
theorem ag93 : aggB Tryz.prog 93 = some true := by kernel_rfl
theorem ag94 : aggB Tryz.prog 94 = some true := by kernel_rfl
theorem ag95 : aggB Tryz.prog 95 = some false := by kernel_rfl
theorem ag96 : aggB Tryz.prog 96 = some true := by kernel_rfl
theorem ag97 : aggB Tryz.prog 97 = some true := by kernel_rfl
theorem ag98 : aggB Tryz.prog 98 = some false := by kernel_rfl
theorem ag99 : aggB Tryz.prog 99 = some false := by kernel_rfl
theorem ag100 : aggB Tryz.prog 100 = some false := by kernel_rfl
theorem ag101 : aggB Tryz.prog 101 = some false := by kernel_rfl
theorem ag102 : aggB Tryz.prog 102 = some false := by kernel_rfl
theorem ag103 : aggB Tryz.prog 103 = some false := by kernel_rfl
theorem ag104 : aggB Tryz.prog 104 = some false := by kernel_rfl
theorem ag105 : aggB Tryz.prog 105 = some false := by kernel_rfl
theorem ag106 : aggB Tryz.prog 106 = some false := by kernel_rfl
theorem ag107 : aggB Tryz.prog 107 = some false := by kernel_rfl
theorem ag108 : aggB Tryz.prog 108 = some false := by kernel_rfl
theorem ag109 : aggB Tryz.prog 109 = some false := by kernel_rfl
theorem ag110 : aggB Tryz.prog 110 = some false := by kernel_rfl
theorem ag111 : aggB Tryz.prog 111 = some false := by kernel_rfl
theorem ag112 : aggB Tryz.prog 112 = some false := by kernel_rfl
theorem ag113 : aggB Tryz.prog 113 = some false := by kernel_rfl
theorem ag114 : aggB Tryz.prog 114 = some false := by kernel_rfl
theorem ag115 : aggB Tryz.prog 115 = some false := by kernel_rfl
theorem ag116 : aggB Tryz.prog 116 = some false := by kernel_rfl
theorem ag117 : aggB Tryz.prog 117 = some false := by kernel_rfl
theorem ag118 : aggB Tryz.prog 118 = some false := by kernel_rfl
theorem ag119 : aggB Tryz.prog 119 = some false := by kernel_rfl
theorem ag120 : aggB Tryz.prog 120 = some false := by kernel_rfl
theorem ag121 : aggB Tryz.prog 121 = some false := by kernel_rfl
theorem ag122 : aggB Tryz.prog 122 = some false := by kernel_rfl
theorem ag123 : aggB Tryz.prog 123 = some false := by kernel_rfl
theorem ag124 : aggB Tryz.prog 124 = some false := by kernel_rfl
theorem ag125 : aggB Tryz.prog 125 = some false := by kernel_rfl
theorem ag126 : aggB Tryz.prog 126 = some false := by kernel_rfl
theorem ag127 : aggB Tryz.prog 127 = some false := by kernel_rfl
theorem ag128 : aggB Tryz.prog 128 = some false := by kernel_rfl
theorem ag129 : aggB Tryz.prog 129 = some false := by kernel_rfl
theorem ag130 : aggB Tryz.prog 130 = some false := by kernel_rfl
theorem ag131 : aggB Tryz.prog 131 = some false := by kernel_rfl
theorem ag132 : aggB Tryz.prog 132 = some false := by kernel_rfl
theorem ag133 : aggB Tryz.prog 133 = some false := by kernel_rfl
theorem ag134 : aggB Tryz.prog 134 = some true := by kernel_rfl
theorem ag135 : aggB Tryz.prog 135 = some true := by kernel_rfl
theorem ag136 : aggB Tryz.prog 136 = some true := by kernel_rfl
theorem ag137 : aggB Tryz.prog 137 = some true := by kernel_rfl
theorem ag138 : aggB Tryz.prog 138 = some true := by kernel_rfl
theorem ag139 : aggB Tryz.prog 139 = some false := by kernel_rfl
theorem ag140 : aggB Tryz.prog 140 = some false := by kernel_rfl
theorem ag141 : aggB Tryz.prog 141 = some false := by kernel_rfl
theorem ag142 : aggB Tryz.prog 142 = some false := by kernel_rfl
theorem ag143 : aggB Tryz.prog 143 = some false := by kernel_rfl
theorem ag144 : aggB Tryz.prog 144 = some false := by kernel_rfl
theorem ag145 : aggB Tryz.prog 145 = some true := by kernel_rfl
theorem ag146 : aggB Tryz.prog 146 = some true := by kernel_rfl
def agList : List (TypeRow (Bool) (aggB Tryz.prog)) :=
  [⟨0, false, ag0⟩,
   ⟨1, false, ag1⟩,
   ⟨2, false, ag2⟩,
   ⟨3, false, ag3⟩,
   ⟨4, false, ag4⟩,
   ⟨5, false, ag5⟩,
   ⟨6, false, ag6⟩,
   ⟨7, true, ag7⟩,
   ⟨8, true, ag8⟩,
   ⟨9, false, ag9⟩,
   ⟨10, false, ag10⟩,
   ⟨11, false, ag11⟩,
   ⟨12, false, ag12⟩,
   ⟨13, true, ag13⟩,
   ⟨14, true, ag14⟩,
   ⟨15, false, ag15⟩,
   ⟨16, false, ag16⟩,
   ⟨17, false, ag17⟩,
   ⟨18, true, ag18⟩,
   ⟨19, true, ag19⟩,
   ⟨20, false, ag20⟩,
   ⟨21, false, ag21⟩,
   ⟨22, false, ag22⟩,
   ⟨23, false, ag23⟩,
   ⟨24, false, ag24⟩,
   ⟨25, false, ag25⟩,
   ⟨26, false, ag26⟩,
   ⟨27, false, ag27⟩,
   ⟨28, true, ag28⟩,
   ⟨29, true, ag29⟩,
   ⟨30, false, ag30⟩,
   ⟨31, false, ag31⟩,
   ⟨32, false, ag32⟩,
   ⟨33, false, ag33⟩,
   ⟨34, false, ag34⟩,
   ⟨35, false, ag35⟩,
   ⟨36, false, ag36⟩,
   ⟨37, false, ag37⟩,
   ⟨38, true, ag38⟩,
   ⟨39, true, ag39⟩,
   ⟨40, false, ag40⟩,
   ⟨41, false, ag41⟩,
   ⟨42, false, ag42⟩,
   ⟨43, false, ag43⟩,
   ⟨44, false, ag44⟩,
   ⟨45, false, ag45⟩,
   ⟨46, false, ag46⟩,
   ⟨47, false, ag47⟩,
   ⟨48, false, ag48⟩,
   ⟨49, false, ag49⟩,
   ⟨50, false, ag50⟩,
   ⟨51, false, ag51⟩,
   ⟨52, true, ag52⟩,
   ⟨53, true, ag53⟩,
   ⟨54, false, ag54⟩,
   ⟨55, true, ag55⟩,
   ⟨56, true, ag56⟩,
   ⟨57, true, ag57⟩,
   ⟨58, true, ag58⟩,
   ⟨59, false, ag59⟩,
   ⟨60, false, ag60⟩,
   ⟨61, false, ag61⟩,
   ⟨62, false, ag62⟩,
   ⟨63, false, ag63⟩,
   ⟨64, true, ag64⟩,
   ⟨65, false, ag65⟩,
   ⟨66, false, ag66⟩,
   ⟨67, false, ag67⟩,
   ⟨68, true, ag68⟩,
   ⟨69, true, ag69⟩,
   ⟨70, true, ag70⟩,
   ⟨71, true, ag71⟩,
   ⟨72, false, ag72⟩,
   ⟨73, false, ag73⟩,
   ⟨74, false, ag74⟩,
   ⟨75, false, ag75⟩,
   ⟨76, false, ag76⟩,
   ⟨77, false, ag77⟩,
   ⟨78, false, ag78⟩,
   ⟨79, false, ag79⟩,
   ⟨80, false, ag80⟩,
   ⟨81, false, ag81⟩,
   ⟨82, true, ag82⟩,
   ⟨83, true, ag83⟩,
   ⟨84, false, ag84⟩,
   ⟨85, false, ag85⟩,
   ⟨86, false, ag86⟩,
   ⟨87, false, ag87⟩,
   ⟨88, false, ag88⟩,
   ⟨89, false, ag89⟩,
   ⟨90, true, ag90⟩,
   ⟨91, true, ag91⟩,
   ⟨92, false, ag92⟩,
   ⟨93, true, ag93⟩,
   ⟨94, true, ag94⟩,
   ⟨95, false, ag95⟩,
   ⟨96, true, ag96⟩,
   ⟨97, true, ag97⟩,
   ⟨98, false, ag98⟩,
   ⟨99, false, ag99⟩,
   ⟨100, false, ag100⟩,
   ⟨101, false, ag101⟩,
   ⟨102, false, ag102⟩,
   ⟨103, false, ag103⟩,
   ⟨104, false, ag104⟩,
   ⟨105, false, ag105⟩,
   ⟨106, false, ag106⟩,
   ⟨107, false, ag107⟩,
   ⟨108, false, ag108⟩,
   ⟨109, false, ag109⟩,
   ⟨110, false, ag110⟩,
   ⟨111, false, ag111⟩,
   ⟨112, false, ag112⟩,
   ⟨113, false, ag113⟩,
   ⟨114, false, ag114⟩,
   ⟨115, false, ag115⟩,
   ⟨116, false, ag116⟩,
   ⟨117, false, ag117⟩,
   ⟨118, false, ag118⟩,
   ⟨119, false, ag119⟩,
   ⟨120, false, ag120⟩,
   ⟨121, false, ag121⟩,
   ⟨122, false, ag122⟩,
   ⟨123, false, ag123⟩,
   ⟨124, false, ag124⟩,
   ⟨125, false, ag125⟩,
   ⟨126, false, ag126⟩,
   ⟨127, false, ag127⟩,
   ⟨128, false, ag128⟩,
   ⟨129, false, ag129⟩,
   ⟨130, false, ag130⟩,
   ⟨131, false, ag131⟩,
   ⟨132, false, ag132⟩,
   ⟨133, false, ag133⟩,
   ⟨134, true, ag134⟩,
   ⟨135, true, ag135⟩,
   ⟨136, true, ag136⟩,
   ⟨137, true, ag137⟩,
   ⟨138, true, ag138⟩,
   ⟨139, false, ag139⟩,
   ⟨140, false, ag140⟩,
   ⟨141, false, ag141⟩,
   ⟨142, false, ag142⟩,
   ⟨143, false, ag143⟩,
   ⟨144, false, ag144⟩,
   ⟨145, true, ag145⟩,
   ⟨146, true, ag146⟩]
def agTab (T : Nat) : Option (Bool) := lookRow agList T
theorem agOf {T : Nat} {x : Bool} (h : agTab T = some x) : aggB Tryz.prog T = some x := lookRow_of h
theorem sz0 : szB Tryz.prog 0 = some 1 := by kernel_rfl
theorem sz1 : szB Tryz.prog 1 = some 1 := by kernel_rfl
theorem sz2 : szB Tryz.prog 2 = some 1 := by kernel_rfl
theorem sz3 : szB Tryz.prog 3 = some 1 := by kernel_rfl
theorem sz4 : szB Tryz.prog 4 = some 1 := by kernel_rfl
theorem sz5 : szB Tryz.prog 5 = some 1 := by kernel_rfl
theorem sz6 : szB Tryz.prog 6 = some 1 := by kernel_rfl
theorem sz7 : szB Tryz.prog 7 = some 4 := by kernel_rfl
theorem sz8 : szB Tryz.prog 8 = some 4 := by kernel_rfl
theorem sz9 : szB Tryz.prog 9 = some 1 := by kernel_rfl
theorem sz10 : szB Tryz.prog 10 = some 1 := by kernel_rfl
theorem sz11 : szB Tryz.prog 11 = some 1 := by kernel_rfl
theorem sz12 : szB Tryz.prog 12 = some 1 := by kernel_rfl
theorem sz13 : szB Tryz.prog 13 = some 2 := by kernel_rfl
theorem sz14 : szB Tryz.prog 14 = some 2 := by kernel_rfl
theorem sz15 : szB Tryz.prog 15 = some 1 := by kernel_rfl
theorem sz16 : szB Tryz.prog 16 = some 1 := by kernel_rfl
theorem sz17 : szB Tryz.prog 17 = some 1 := by kernel_rfl
theorem sz18 : szB Tryz.prog 18 = some 1 := by kernel_rfl
theorem sz19 : szB Tryz.prog 19 = some 1 := by kernel_rfl
theorem sz20 : szB Tryz.prog 20 = some 1 := by kernel_rfl
theorem sz21 : szB Tryz.prog 21 = some 1 := by kernel_rfl
theorem sz22 : szB Tryz.prog 22 = some 1 := by kernel_rfl
theorem sz23 : szB Tryz.prog 23 = some 1 := by kernel_rfl
theorem sz24 : szB Tryz.prog 24 = some 1 := by kernel_rfl
theorem sz25 : szB Tryz.prog 25 = some 1 := by kernel_rfl
theorem sz26 : szB Tryz.prog 26 = some 1 := by kernel_rfl
theorem sz27 : szB Tryz.prog 27 = some 1 := by kernel_rfl
theorem sz28 : szB Tryz.prog 28 = some 3 := by kernel_rfl
theorem sz29 : szB Tryz.prog 29 = some 3 := by kernel_rfl
theorem sz30 : szB Tryz.prog 30 = some 1 := by kernel_rfl
theorem sz31 : szB Tryz.prog 31 = some 1 := by kernel_rfl
theorem sz32 : szB Tryz.prog 32 = some 1 := by kernel_rfl
theorem sz33 : szB Tryz.prog 33 = some 1 := by kernel_rfl
theorem sz34 : szB Tryz.prog 34 = some 1 := by kernel_rfl
theorem sz35 : szB Tryz.prog 35 = some 1 := by kernel_rfl
theorem sz36 : szB Tryz.prog 36 = some 1 := by kernel_rfl
theorem sz37 : szB Tryz.prog 37 = some 1 := by kernel_rfl
theorem sz38 : szB Tryz.prog 38 = some 2 := by kernel_rfl
theorem sz39 : szB Tryz.prog 39 = some 2 := by kernel_rfl
theorem sz40 : szB Tryz.prog 40 = some 1 := by kernel_rfl
theorem sz41 : szB Tryz.prog 41 = some 1 := by kernel_rfl
theorem sz42 : szB Tryz.prog 42 = some 1 := by kernel_rfl
theorem sz43 : szB Tryz.prog 43 = some 1 := by kernel_rfl
theorem sz44 : szB Tryz.prog 44 = some 1 := by kernel_rfl
theorem sz45 : szB Tryz.prog 45 = some 1 := by kernel_rfl
theorem sz46 : szB Tryz.prog 46 = some 1 := by kernel_rfl
theorem sz47 : szB Tryz.prog 47 = some 1 := by kernel_rfl
theorem sz48 : szB Tryz.prog 48 = some 1 := by kernel_rfl
theorem sz49 : szB Tryz.prog 49 = some 1 := by kernel_rfl
theorem sz50 : szB Tryz.prog 50 = some 1 := by kernel_rfl
theorem sz51 : szB Tryz.prog 51 = some 1 := by kernel_rfl
theorem sz52 : szB Tryz.prog 52 = some 2 := by kernel_rfl
theorem sz53 : szB Tryz.prog 53 = some 2 := by kernel_rfl
theorem sz54 : szB Tryz.prog 54 = some 1 := by kernel_rfl
theorem sz55 : szB Tryz.prog 55 = some 3 := by kernel_rfl
theorem sz56 : szB Tryz.prog 56 = some 3 := by kernel_rfl
theorem sz57 : szB Tryz.prog 57 = some 3 := by kernel_rfl
theorem sz58 : szB Tryz.prog 58 = some 3 := by kernel_rfl
theorem sz59 : szB Tryz.prog 59 = some 1 := by kernel_rfl
theorem sz60 : szB Tryz.prog 60 = some 1 := by kernel_rfl
theorem sz61 : szB Tryz.prog 61 = some 1 := by kernel_rfl
theorem sz62 : szB Tryz.prog 62 = some 1 := by kernel_rfl
theorem sz63 : szB Tryz.prog 63 = some 1 := by kernel_rfl
theorem sz64 : szB Tryz.prog 64 = some 3 := by kernel_rfl
theorem sz65 : szB Tryz.prog 65 = some 1 := by kernel_rfl
theorem sz66 : szB Tryz.prog 66 = some 1 := by kernel_rfl
theorem sz67 : szB Tryz.prog 67 = some 1 := by kernel_rfl
theorem sz68 : szB Tryz.prog 68 = some 2 := by kernel_rfl
theorem sz69 : szB Tryz.prog 69 = some 2 := by kernel_rfl
theorem sz70 : szB Tryz.prog 70 = some 6 := by kernel_rfl
theorem sz71 : szB Tryz.prog 71 = some 6 := by kernel_rfl
theorem sz72 : szB Tryz.prog 72 = some 1 := by kernel_rfl
theorem sz73 : szB Tryz.prog 73 = some 1 := by kernel_rfl
theorem sz74 : szB Tryz.prog 74 = some 1 := by kernel_rfl
theorem sz75 : szB Tryz.prog 75 = some 1 := by kernel_rfl
theorem sz76 : szB Tryz.prog 76 = some 1 := by kernel_rfl
theorem sz77 : szB Tryz.prog 77 = some 1 := by kernel_rfl
theorem sz78 : szB Tryz.prog 78 = some 1 := by kernel_rfl
theorem sz79 : szB Tryz.prog 79 = some 1 := by kernel_rfl
theorem sz80 : szB Tryz.prog 80 = some 1 := by kernel_rfl
theorem sz81 : szB Tryz.prog 81 = some 1 := by kernel_rfl
theorem sz82 : szB Tryz.prog 82 = some 5 := by kernel_rfl
theorem sz83 : szB Tryz.prog 83 = some 5 := by kernel_rfl
theorem sz84 : szB Tryz.prog 84 = some 1 := by kernel_rfl
theorem sz85 : szB Tryz.prog 85 = some 1 := by kernel_rfl
theorem sz86 : szB Tryz.prog 86 = some 1 := by kernel_rfl
theorem sz87 : szB Tryz.prog 87 = some 1 := by kernel_rfl
theorem sz88 : szB Tryz.prog 88 = some 1 := by kernel_rfl
theorem sz89 : szB Tryz.prog 89 = some 1 := by kernel_rfl
theorem sz90 : szB Tryz.prog 90 = some 2 := by kernel_rfl
theorem sz91 : szB Tryz.prog 91 = some 2 := by kernel_rfl
theorem sz92 : szB Tryz.prog 92 = some 1 := by kernel_rfl
theorem sz93 : szB Tryz.prog 93 = some 2 := by kernel_rfl
theorem sz94 : szB Tryz.prog 94 = some 2 := by kernel_rfl
theorem sz95 : szB Tryz.prog 95 = some 1 := by kernel_rfl
theorem sz96 : szB Tryz.prog 96 = some 1 := by kernel_rfl
theorem sz97 : szB Tryz.prog 97 = some 1 := by kernel_rfl
theorem sz98 : szB Tryz.prog 98 = some 1 := by kernel_rfl
theorem sz99 : szB Tryz.prog 99 = some 1 := by kernel_rfl
theorem sz100 : szB Tryz.prog 100 = some 1 := by kernel_rfl
theorem sz101 : szB Tryz.prog 101 = some 1 := by kernel_rfl
theorem sz102 : szB Tryz.prog 102 = some 1 := by kernel_rfl
theorem sz103 : szB Tryz.prog 103 = some 1 := by kernel_rfl
theorem sz104 : szB Tryz.prog 104 = some 1 := by kernel_rfl
theorem sz105 : szB Tryz.prog 105 = some 1 := by kernel_rfl
theorem sz106 : szB Tryz.prog 106 = some 1 := by kernel_rfl
theorem sz107 : szB Tryz.prog 107 = some 1 := by kernel_rfl
theorem sz108 : szB Tryz.prog 108 = some 1 := by kernel_rfl
theorem sz109 : szB Tryz.prog 109 = some 1 := by kernel_rfl
theorem sz110 : szB Tryz.prog 110 = some 1 := by kernel_rfl
theorem sz111 : szB Tryz.prog 111 = some 1 := by kernel_rfl
theorem sz112 : szB Tryz.prog 112 = some 1 := by kernel_rfl
theorem sz113 : szB Tryz.prog 113 = some 1 := by kernel_rfl
theorem sz114 : szB Tryz.prog 114 = some 1 := by kernel_rfl
theorem sz115 : szB Tryz.prog 115 = some 1 := by kernel_rfl
theorem sz116 : szB Tryz.prog 116 = some 1 := by kernel_rfl
theorem sz117 : szB Tryz.prog 117 = some 1 := by kernel_rfl
theorem sz118 : szB Tryz.prog 118 = some 1 := by kernel_rfl
theorem sz119 : szB Tryz.prog 119 = some 1 := by kernel_rfl
theorem sz120 : szB Tryz.prog 120 = some 1 := by kernel_rfl
theorem sz121 : szB Tryz.prog 121 = some 1 := by kernel_rfl
theorem sz122 : szB Tryz.prog 122 = some 1 := by kernel_rfl
theorem sz123 : szB Tryz.prog 123 = some 1 := by kernel_rfl
theorem sz124 : szB Tryz.prog 124 = some 1 := by kernel_rfl
theorem sz125 : szB Tryz.prog 125 = some 1 := by kernel_rfl
theorem sz126 : szB Tryz.prog 126 = some 1 := by kernel_rfl
theorem sz127 : szB Tryz.prog 127 = some 1 := by kernel_rfl
theorem sz128 : szB Tryz.prog 128 = some 1 := by kernel_rfl
theorem sz129 : szB Tryz.prog 129 = some 1 := by kernel_rfl
theorem sz130 : szB Tryz.prog 130 = some 1 := by kernel_rfl
theorem sz131 : szB Tryz.prog 131 = some 1 := by kernel_rfl
theorem sz132 : szB Tryz.prog 132 = some 1 := by kernel_rfl
theorem sz133 : szB Tryz.prog 133 = some 1 := by kernel_rfl
theorem sz134 : szB Tryz.prog 134 = some 4 := by kernel_rfl
theorem sz135 : szB Tryz.prog 135 = some 4 := by kernel_rfl
theorem sz136 : szB Tryz.prog 136 = some 0 := by kernel_rfl
theorem sz137 : szB Tryz.prog 137 = some 0 := by kernel_rfl
theorem sz138 : szB Tryz.prog 138 = some 0 := by kernel_rfl
theorem sz139 : szB Tryz.prog 139 = some 1 := by kernel_rfl
theorem sz140 : szB Tryz.prog 140 = some 1 := by kernel_rfl
theorem sz141 : szB Tryz.prog 141 = some 1 := by kernel_rfl
theorem sz142 : szB Tryz.prog 142 = some 1 := by kernel_rfl
theorem sz143 : szB Tryz.prog 143 = some 1 := by kernel_rfl
theorem sz144 : szB Tryz.prog 144 = some 1 := by kernel_rfl
theorem sz145 : szB Tryz.prog 145 = some 11 := by kernel_rfl
theorem sz146 : szB Tryz.prog 146 = some 11 := by kernel_rfl
def szList : List (TypeRow (Nat) (szB Tryz.prog)) :=
  [⟨0, 1, sz0⟩,
   ⟨1, 1, sz1⟩,
   ⟨2, 1, sz2⟩,
   ⟨3, 1, sz3⟩,
   ⟨4, 1, sz4⟩,
   ⟨5, 1, sz5⟩,
   ⟨6, 1, sz6⟩,
   ⟨7, 4, sz7⟩,
   ⟨8, 4, sz8⟩,
   ⟨9, 1, sz9⟩,
   ⟨10, 1, sz10⟩,
   ⟨11, 1, sz11⟩,
   ⟨12, 1, sz12⟩,
   ⟨13, 2, sz13⟩,
   ⟨14, 2, sz14⟩,
   ⟨15, 1, sz15⟩,
   ⟨16, 1, sz16⟩,
   ⟨17, 1, sz17⟩,
   ⟨18, 1, sz18⟩,
   ⟨19, 1, sz19⟩,
   ⟨20, 1, sz20⟩,
   ⟨21, 1, sz21⟩,
   ⟨22, 1, sz22⟩,
   ⟨23, 1, sz23⟩,
   ⟨24, 1, sz24⟩,
   ⟨25, 1, sz25⟩,
   ⟨26, 1, sz26⟩,
   ⟨27, 1, sz27⟩,
   ⟨28, 3, sz28⟩,
   ⟨29, 3, sz29⟩,
   ⟨30, 1, sz30⟩,
   ⟨31, 1, sz31⟩,
   ⟨32, 1, sz32⟩,
   ⟨33, 1, sz33⟩,
   ⟨34, 1, sz34⟩,
   ⟨35, 1, sz35⟩,
   ⟨36, 1, sz36⟩,
   ⟨37, 1, sz37⟩,
   ⟨38, 2, sz38⟩,
   ⟨39, 2, sz39⟩,
   ⟨40, 1, sz40⟩,
   ⟨41, 1, sz41⟩,
   ⟨42, 1, sz42⟩,
   ⟨43, 1, sz43⟩,
   ⟨44, 1, sz44⟩,
   ⟨45, 1, sz45⟩,
   ⟨46, 1, sz46⟩,
   ⟨47, 1, sz47⟩,
   ⟨48, 1, sz48⟩,
   ⟨49, 1, sz49⟩,
   ⟨50, 1, sz50⟩,
   ⟨51, 1, sz51⟩,
   ⟨52, 2, sz52⟩,
   ⟨53, 2, sz53⟩,
   ⟨54, 1, sz54⟩,
   ⟨55, 3, sz55⟩,
   ⟨56, 3, sz56⟩,
   ⟨57, 3, sz57⟩,
   ⟨58, 3, sz58⟩,
   ⟨59, 1, sz59⟩,
   ⟨60, 1, sz60⟩,
   ⟨61, 1, sz61⟩,
   ⟨62, 1, sz62⟩,
   ⟨63, 1, sz63⟩,
   ⟨64, 3, sz64⟩,
   ⟨65, 1, sz65⟩,
   ⟨66, 1, sz66⟩,
   ⟨67, 1, sz67⟩,
   ⟨68, 2, sz68⟩,
   ⟨69, 2, sz69⟩,
   ⟨70, 6, sz70⟩,
   ⟨71, 6, sz71⟩,
   ⟨72, 1, sz72⟩,
   ⟨73, 1, sz73⟩,
   ⟨74, 1, sz74⟩,
   ⟨75, 1, sz75⟩,
   ⟨76, 1, sz76⟩,
   ⟨77, 1, sz77⟩,
   ⟨78, 1, sz78⟩,
   ⟨79, 1, sz79⟩,
   ⟨80, 1, sz80⟩,
   ⟨81, 1, sz81⟩,
   ⟨82, 5, sz82⟩,
   ⟨83, 5, sz83⟩,
   ⟨84, 1, sz84⟩,
   ⟨85, 1, sz85⟩,
   ⟨86, 1, sz86⟩,
   ⟨87, 1, sz87⟩,
   ⟨88, 1, sz88⟩,
   ⟨89, 1, sz89⟩,
   ⟨90, 2, sz90⟩,
   ⟨91, 2, sz91⟩,
   ⟨92, 1, sz92⟩,
   ⟨93, 2, sz93⟩,
   ⟨94, 2, sz94⟩,
   ⟨95, 1, sz95⟩,
   ⟨96, 1, sz96⟩,
   ⟨97, 1, sz97⟩,
   ⟨98, 1, sz98⟩,
   ⟨99, 1, sz99⟩,
   ⟨100, 1, sz100⟩,
   ⟨101, 1, sz101⟩,
   ⟨102, 1, sz102⟩,
   ⟨103, 1, sz103⟩,
   ⟨104, 1, sz104⟩,
   ⟨105, 1, sz105⟩,
   ⟨106, 1, sz106⟩,
   ⟨107, 1, sz107⟩,
   ⟨108, 1, sz108⟩,
   ⟨109, 1, sz109⟩,
   ⟨110, 1, sz110⟩,
   ⟨111, 1, sz111⟩,
   ⟨112, 1, sz112⟩,
   ⟨113, 1, sz113⟩,
   ⟨114, 1, sz114⟩,
   ⟨115, 1, sz115⟩,
   ⟨116, 1, sz116⟩,
   ⟨117, 1, sz117⟩,
   ⟨118, 1, sz118⟩,
   ⟨119, 1, sz119⟩,
   ⟨120, 1, sz120⟩,
   ⟨121, 1, sz121⟩,
   ⟨122, 1, sz122⟩,
   ⟨123, 1, sz123⟩,
   ⟨124, 1, sz124⟩,
   ⟨125, 1, sz125⟩,
   ⟨126, 1, sz126⟩,
   ⟨127, 1, sz127⟩,
   ⟨128, 1, sz128⟩,
   ⟨129, 1, sz129⟩,
   ⟨130, 1, sz130⟩,
   ⟨131, 1, sz131⟩,
   ⟨132, 1, sz132⟩,
   ⟨133, 1, sz133⟩,
   ⟨134, 4, sz134⟩,
   ⟨135, 4, sz135⟩,
   ⟨136, 0, sz136⟩,
   ⟨137, 0, sz137⟩,
   ⟨138, 0, sz138⟩,
   ⟨139, 1, sz139⟩,
   ⟨140, 1, sz140⟩,
   ⟨141, 1, sz141⟩,
   ⟨142, 1, sz142⟩,
   ⟨143, 1, sz143⟩,
   ⟨144, 1, sz144⟩,
   ⟨145, 11, sz145⟩,
   ⟨146, 11, sz146⟩]
def szTab (T : Nat) : Option (Nat) := lookRow szList T
theorem szOf {T : Nat} {x : Nat} (h : szTab T = some x) : szB Tryz.prog T = some x := lookRow_of h
theorem zr1 : zeroB Tryz.prog 1 = some (some (Value.nilFunc)) := by kernel_rfl
theorem zr2 : zeroB Tryz.prog 2 = some (some (Value.int .i64 0)) := by kernel_rfl
theorem zr3 : zeroB Tryz.prog 3 = some (some (Value.int .i64 0)) := by kernel_rfl
theorem zr4 : zeroB Tryz.prog 4 = some (some (Value.bool false)) := by kernel_rfl
theorem zr5 : zeroB Tryz.prog 5 = some (some (Value.int .u8 0)) := by kernel_rfl
theorem zr6 : zeroB Tryz.prog 6 = some (some (Value.int .u8 0)) := by kernel_rfl
theorem zr7 : zeroB Tryz.prog 7 = some (some (Value.agg #[Value.int .i64 0, Value.int .i64 0, Value.bool false, Value.int .u8 0])) := by kernel_rfl
theorem zr8 : zeroB Tryz.prog 8 = some (some (Value.agg #[Value.int .i64 0, Value.int .i64 0, Value.bool false, Value.int .u8 0])) := by kernel_rfl
theorem zr9 : zeroB Tryz.prog 9 = some (some (Value.string ByteArray.empty)) := by kernel_rfl
theorem zr10 : zeroB Tryz.prog 10 = some (some (Value.string ByteArray.empty)) := by kernel_rfl
theorem zr11 : zeroB Tryz.prog 11 = some (some (Value.string ByteArray.empty)) := by kernel_rfl
theorem zr12 : zeroB Tryz.prog 12 = some (some (Value.int .u64 0)) := by kernel_rfl
theorem zr13 : zeroB Tryz.prog 13 = some (some (Value.agg #[Value.string ByteArray.empty, Value.int .u64 0])) := by kernel_rfl
theorem zr14 : zeroB Tryz.prog 14 = some (some (Value.agg #[Value.string ByteArray.empty, Value.int .u64 0])) := by kernel_rfl
theorem zr15 : zeroB Tryz.prog 15 = some (some (Value.pointer none)) := by kernel_rfl
theorem zr16 : zeroB Tryz.prog 16 = some (some (Value.pointer none)) := by kernel_rfl
theorem zr17 : zeroB Tryz.prog 17 = some (some (Value.pointer none)) := by kernel_rfl
theorem zr18 : zeroB Tryz.prog 18 = some (some (Value.agg #[Value.pointer none])) := by kernel_rfl
theorem zr19 : zeroB Tryz.prog 19 = some (some (Value.agg #[Value.pointer none])) := by kernel_rfl
theorem zr20 : zeroB Tryz.prog 20 = some (some (Value.nilIface)) := by kernel_rfl
theorem zr21 : zeroB Tryz.prog 21 = some (some (Value.int .i32 0)) := by kernel_rfl
theorem zr22 : zeroB Tryz.prog 22 = some (some (Value.slice none 0 0)) := by kernel_rfl
theorem zr23 : zeroB Tryz.prog 23 = some (some (Value.pointer none)) := by kernel_rfl
theorem zr24 : zeroB Tryz.prog 24 = some (some (Value.nilFunc)) := by kernel_rfl
theorem zr25 : zeroB Tryz.prog 25 = some (some (Value.pointer none)) := by kernel_rfl
theorem zr26 : zeroB Tryz.prog 26 = some (some (Value.nilFunc)) := by kernel_rfl
theorem zr27 : zeroB Tryz.prog 27 = some (some (Value.slice none 0 0)) := by kernel_rfl
theorem zr28 : zeroB Tryz.prog 28 = some (some (Value.agg #[Value.int .i64 0, Value.int .i64 0, Value.int .i64 0])) := by kernel_rfl
theorem zr29 : zeroB Tryz.prog 29 = some (some (Value.agg #[Value.int .i64 0, Value.int .i64 0, Value.int .i64 0])) := by kernel_rfl
theorem zr30 : zeroB Tryz.prog 30 = some (some (Value.nilFunc)) := by kernel_rfl
theorem zr31 : zeroB Tryz.prog 31 = some (some (Value.nilFunc)) := by kernel_rfl
theorem zr32 : zeroB Tryz.prog 32 = some (some (Value.nilFunc)) := by kernel_rfl
theorem zr33 : zeroB Tryz.prog 33 = some (some (Value.pointer none)) := by kernel_rfl
theorem zr35 : zeroB Tryz.prog 35 = some (some (Value.nilFunc)) := by kernel_rfl
theorem zr36 : zeroB Tryz.prog 36 = some (some (Value.nilFunc)) := by kernel_rfl
theorem zr37 : zeroB Tryz.prog 37 = some (some (Value.pointer none)) := by kernel_rfl
theorem zr38 : zeroB Tryz.prog 38 = some (some (Value.agg #[Value.pointer none, Value.slice none 0 0])) := by kernel_rfl
theorem zr39 : zeroB Tryz.prog 39 = some (some (Value.agg #[Value.pointer none, Value.slice none 0 0])) := by kernel_rfl
theorem zr40 : zeroB Tryz.prog 40 = some (some (Value.nilFunc)) := by kernel_rfl
theorem zr41 : zeroB Tryz.prog 41 = some (some (Value.nilFunc)) := by kernel_rfl
theorem zr42 : zeroB Tryz.prog 42 = some (some (Value.nilFunc)) := by kernel_rfl
theorem zr43 : zeroB Tryz.prog 43 = some (some (Value.nilFunc)) := by kernel_rfl
theorem zr44 : zeroB Tryz.prog 44 = some (some (Value.nilFunc)) := by kernel_rfl
theorem zr45 : zeroB Tryz.prog 45 = some (some (Value.nilFunc)) := by kernel_rfl
theorem zr46 : zeroB Tryz.prog 46 = some (some (Value.nilFunc)) := by kernel_rfl
theorem zr47 : zeroB Tryz.prog 47 = some (some (Value.nilFunc)) := by kernel_rfl
theorem zr48 : zeroB Tryz.prog 48 = some (some (Value.nilFunc)) := by kernel_rfl
theorem zr49 : zeroB Tryz.prog 49 = some (some (Value.nilFunc)) := by kernel_rfl
theorem zr50 : zeroB Tryz.prog 50 = some (some (Value.slice none 0 0)) := by kernel_rfl
theorem zr51 : zeroB Tryz.prog 51 = some (some (Value.slice none 0 0)) := by kernel_rfl
theorem zr52 : zeroB Tryz.prog 52 = some (some (Value.agg #[Value.slice none 0 0, Value.slice none 0 0])) := by kernel_rfl
theorem zr53 : zeroB Tryz.prog 53 = some (some (Value.agg #[Value.slice none 0 0, Value.slice none 0 0])) := by kernel_rfl
theorem zr54 : zeroB Tryz.prog 54 = some (some (Value.pointer none)) := by kernel_rfl
theorem zr55 : zeroB Tryz.prog 55 = some (some (Value.agg #[Value.pointer none, Value.pointer none, Value.slice none 0 0])) := by kernel_rfl
theorem zr56 : zeroB Tryz.prog 56 = some (some (Value.agg #[Value.pointer none, Value.pointer none, Value.slice none 0 0])) := by kernel_rfl
theorem zr57 : zeroB Tryz.prog 57 = some (some (Value.agg #[Value.pointer none, Value.pointer none, Value.slice none 0 0])) := by kernel_rfl
theorem zr58 : zeroB Tryz.prog 58 = some (some (Value.agg #[Value.pointer none, Value.pointer none, Value.slice none 0 0])) := by kernel_rfl
theorem zr59 : zeroB Tryz.prog 59 = some (some (Value.int .i64 0)) := by kernel_rfl
theorem zr61 : zeroB Tryz.prog 61 = some (some (Value.nilFunc)) := by kernel_rfl
theorem zr62 : zeroB Tryz.prog 62 = some (some (Value.nilFunc)) := by kernel_rfl
theorem zr63 : zeroB Tryz.prog 63 = some (some (Value.nilFunc)) := by kernel_rfl
theorem zr64 : zeroB Tryz.prog 64 = some (some (Value.agg #[Value.int .i64 0, Value.int .i64 0, Value.int .i64 0])) := by kernel_rfl
theorem zr65 : zeroB Tryz.prog 65 = some (some (Value.slice none 0 0)) := by kernel_rfl
theorem zr66 : zeroB Tryz.prog 66 = some (some (Value.slice none 0 0)) := by kernel_rfl
theorem zr67 : zeroB Tryz.prog 67 = some (some (Value.nilFunc)) := by kernel_rfl
theorem zr68 : zeroB Tryz.prog 68 = some (some (Value.agg #[Value.int .i64 0, Value.int .i64 0])) := by kernel_rfl
theorem zr69 : zeroB Tryz.prog 69 = some (some (Value.agg #[Value.int .i64 0, Value.int .i64 0])) := by kernel_rfl
theorem zr70 : zeroB Tryz.prog 70 = some (some (Value.agg #[Value.int .i64 0, Value.int .i64 0, Value.int .i64 0, Value.int .i64 0, Value.int .i64 0, Value.bool false])) := by kernel_rfl
theorem zr71 : zeroB Tryz.prog 71 = some (some (Value.agg #[Value.int .i64 0, Value.int .i64 0, Value.int .i64 0, Value.int .i64 0, Value.int .i64 0, Value.bool false])) := by kernel_rfl
theorem zr73 : zeroB Tryz.prog 73 = some (some (Value.nilFunc)) := by kernel_rfl
theorem zr74 : zeroB Tryz.prog 74 = some (some (Value.nilFunc)) := by kernel_rfl
theorem zr75 : zeroB Tryz.prog 75 = some (some (Value.nilFunc)) := by kernel_rfl
theorem zr76 : zeroB Tryz.prog 76 = some (some (Value.nilFunc)) := by kernel_rfl
theorem zr77 : zeroB Tryz.prog 77 = some (some (Value.int .u64 0)) := by kernel_rfl
theorem zr78 : zeroB Tryz.prog 78 = some (some (Value.nilFunc)) := by kernel_rfl
theorem zr79 : zeroB Tryz.prog 79 = some (some (Value.nilFunc)) := by kernel_rfl
theorem zr80 : zeroB Tryz.prog 80 = some (some (Value.map none)) := by kernel_rfl
theorem zr81 : zeroB Tryz.prog 81 = some (some (Value.map none)) := by kernel_rfl
theorem zr82 : zeroB Tryz.prog 82 = some (some (Value.agg #[Value.slice none 0 0, Value.slice none 0 0, Value.slice none 0 0, Value.map none, Value.map none])) := by kernel_rfl
theorem zr83 : zeroB Tryz.prog 83 = some (some (Value.agg #[Value.slice none 0 0, Value.slice none 0 0, Value.slice none 0 0, Value.map none, Value.map none])) := by kernel_rfl
theorem zr84 : zeroB Tryz.prog 84 = some (some (Value.nilFunc)) := by kernel_rfl
theorem zr85 : zeroB Tryz.prog 85 = some (some (Value.nilFunc)) := by kernel_rfl
theorem zr86 : zeroB Tryz.prog 86 = some (some (Value.nilFunc)) := by kernel_rfl
theorem zr87 : zeroB Tryz.prog 87 = some (some (Value.nilFunc)) := by kernel_rfl
theorem zr88 : zeroB Tryz.prog 88 = some (some (Value.nilFunc)) := by kernel_rfl
theorem zr89 : zeroB Tryz.prog 89 = some (some (Value.nilFunc)) := by kernel_rfl
theorem zr90 : zeroB Tryz.prog 90 = some (some (Value.agg #[Value.int .i64 0, Value.int .i64 0])) := by kernel_rfl
theorem zr91 : zeroB Tryz.prog 91 = some (some (Value.agg #[Value.int .i64 0, Value.int .i64 0])) := by kernel_rfl
theorem zr92 : zeroB Tryz.prog 92 = some (some (Value.nilFunc)) := by kernel_rfl
theorem zr93 : zeroB Tryz.prog 93 = some (some (Value.agg #[Value.int .i64 0, Value.int .i64 0])) := by kernel_rfl
theorem zr94 : zeroB Tryz.prog 94 = some (some (Value.agg #[Value.int .i64 0, Value.int .i64 0])) := by kernel_rfl
theorem zr95 : zeroB Tryz.prog 95 = some (some (Value.map none)) := by kernel_rfl
theorem zr96 : zeroB Tryz.prog 96 = some (some (Value.agg #[Value.map none])) := by kernel_rfl
theorem zr97 : zeroB Tryz.prog 97 = some (some (Value.agg #[Value.map none])) := by kernel_rfl
theorem zr98 : zeroB Tryz.prog 98 = some (some (Value.slice none 0 0)) := by kernel_rfl
theorem zr99 : zeroB Tryz.prog 99 = some (some (Value.pointer none)) := by kernel_rfl
theorem zr100 : zeroB Tryz.prog 100 = some (some (Value.nilFunc)) := by kernel_rfl
theorem zr101 : zeroB Tryz.prog 101 = some (some (Value.nilFunc)) := by kernel_rfl
theorem zr103 : zeroB Tryz.prog 103 = some (some (Value.nilFunc)) := by kernel_rfl
theorem zr104 : zeroB Tryz.prog 104 = some (some (Value.nilFunc)) := by kernel_rfl
theorem zr105 : zeroB Tryz.prog 105 = some (some (Value.nilFunc)) := by kernel_rfl
theorem zr106 : zeroB Tryz.prog 106 = some (some (Value.nilFunc)) := by kernel_rfl
theorem zr107 : zeroB Tryz.prog 107 = some (some (Value.map none)) := by kernel_rfl
theorem zr108 : zeroB Tryz.prog 108 = some (some (Value.nilFunc)) := by kernel_rfl
theorem zr109 : zeroB Tryz.prog 109 = some (some (Value.nilFunc)) := by kernel_rfl
theorem zr110 : zeroB Tryz.prog 110 = some (some (Value.nilFunc)) := by kernel_rfl
theorem zr111 : zeroB Tryz.prog 111 = some (some (Value.nilFunc)) := by kernel_rfl
theorem zr112 : zeroB Tryz.prog 112 = some (some (Value.nilFunc)) := by kernel_rfl
theorem zr113 : zeroB Tryz.prog 113 = some (some (Value.nilFunc)) := by kernel_rfl
theorem zr114 : zeroB Tryz.prog 114 = some (some (Value.int .i64 0)) := by kernel_rfl
theorem zr116 : zeroB Tryz.prog 116 = some (some (Value.nilFunc)) := by kernel_rfl
theorem zr117 : zeroB Tryz.prog 117 = some (some (Value.nilFunc)) := by kernel_rfl
theorem zr118 : zeroB Tryz.prog 118 = some (some (Value.nilFunc)) := by kernel_rfl
theorem zr119 : zeroB Tryz.prog 119 = some (some (Value.nilFunc)) := by kernel_rfl
theorem zr120 : zeroB Tryz.prog 120 = some (some (Value.nilFunc)) := by kernel_rfl
theorem zr121 : zeroB Tryz.prog 121 = some (some (Value.int .u32 0)) := by kernel_rfl
theorem zr122 : zeroB Tryz.prog 122 = some (some (Value.nilFunc)) := by kernel_rfl
theorem zr123 : zeroB Tryz.prog 123 = some (some (Value.int .u64 0)) := by kernel_rfl
theorem zr124 : zeroB Tryz.prog 124 = some (some (Value.int .u64 0)) := by kernel_rfl
theorem zr125 : zeroB Tryz.prog 125 = some (some (Value.nilFunc)) := by kernel_rfl
theorem zr126 : zeroB Tryz.prog 126 = some (some (Value.nilFunc)) := by kernel_rfl
theorem zr127 : zeroB Tryz.prog 127 = some (some (Value.nilFunc)) := by kernel_rfl
theorem zr128 : zeroB Tryz.prog 128 = some (some (Value.pointer none)) := by kernel_rfl
theorem zr129 : zeroB Tryz.prog 129 = some (some (Value.nilFunc)) := by kernel_rfl
theorem zr130 : zeroB Tryz.prog 130 = some (some (Value.pointer none)) := by kernel_rfl
theorem zr132 : zeroB Tryz.prog 132 = some (some (Value.nilFunc)) := by kernel_rfl
theorem zr133 : zeroB Tryz.prog 133 = some (some (Value.nilFunc)) := by kernel_rfl
theorem zr134 : zeroB Tryz.prog 134 = some (some (Value.agg #[Value.pointer none, Value.pointer none, Value.pointer none, Value.string ByteArray.empty])) := by kernel_rfl
theorem zr135 : zeroB Tryz.prog 135 = some (some (Value.agg #[Value.pointer none, Value.pointer none, Value.pointer none, Value.string ByteArray.empty])) := by kernel_rfl
theorem zr136 : zeroB Tryz.prog 136 = some (some (Value.agg #[])) := by kernel_rfl
theorem zr137 : zeroB Tryz.prog 137 = some (some (Value.agg #[])) := by kernel_rfl
theorem zr138 : zeroB Tryz.prog 138 = some (some (Value.agg #[])) := by kernel_rfl
theorem zr139 : zeroB Tryz.prog 139 = some (some (Value.int .u8 0)) := by kernel_rfl
theorem zr140 : zeroB Tryz.prog 140 = some (some (Value.int .u8 0)) := by kernel_rfl
theorem zr141 : zeroB Tryz.prog 141 = some (some (Value.nilFunc)) := by kernel_rfl
theorem zr142 : zeroB Tryz.prog 142 = some (some (Value.pointer none)) := by kernel_rfl
theorem zr143 : zeroB Tryz.prog 143 = some (some (Value.int .i32 0)) := by kernel_rfl
theorem zr144 : zeroB Tryz.prog 144 = some (some (Value.int .i32 0)) := by kernel_rfl
theorem zr145 : zeroB Tryz.prog 145 = some (some (Value.agg #[Value.int .u64 0, Value.int .u64 0, Value.int .u32 0, Value.int .u8 0, Value.int .u8 0, Value.int .u8 0, Value.int .u8 0, Value.nilFunc, Value.pointer none, Value.int .i32 0, Value.int .i32 0])) := by kernel_rfl
theorem zr146 : zeroB Tryz.prog 146 = some (some (Value.agg #[Value.int .u64 0, Value.int .u64 0, Value.int .u32 0, Value.int .u8 0, Value.int .u8 0, Value.int .u8 0, Value.int .u8 0, Value.nilFunc, Value.pointer none, Value.int .i32 0, Value.int .i32 0])) := by kernel_rfl
def zrList : List (TypeRow (Option Value) (zeroB Tryz.prog)) :=
  [⟨1, (some (Value.nilFunc)), zr1⟩,
   ⟨2, (some (Value.int .i64 0)), zr2⟩,
   ⟨3, (some (Value.int .i64 0)), zr3⟩,
   ⟨4, (some (Value.bool false)), zr4⟩,
   ⟨5, (some (Value.int .u8 0)), zr5⟩,
   ⟨6, (some (Value.int .u8 0)), zr6⟩,
   ⟨7, (some (Value.agg #[Value.int .i64 0, Value.int .i64 0, Value.bool false, Value.int .u8 0])), zr7⟩,
   ⟨8, (some (Value.agg #[Value.int .i64 0, Value.int .i64 0, Value.bool false, Value.int .u8 0])), zr8⟩,
   ⟨9, (some (Value.string ByteArray.empty)), zr9⟩,
   ⟨10, (some (Value.string ByteArray.empty)), zr10⟩,
   ⟨11, (some (Value.string ByteArray.empty)), zr11⟩,
   ⟨12, (some (Value.int .u64 0)), zr12⟩,
   ⟨13, (some (Value.agg #[Value.string ByteArray.empty, Value.int .u64 0])), zr13⟩,
   ⟨14, (some (Value.agg #[Value.string ByteArray.empty, Value.int .u64 0])), zr14⟩,
   ⟨15, (some (Value.pointer none)), zr15⟩,
   ⟨16, (some (Value.pointer none)), zr16⟩,
   ⟨17, (some (Value.pointer none)), zr17⟩,
   ⟨18, (some (Value.agg #[Value.pointer none])), zr18⟩,
   ⟨19, (some (Value.agg #[Value.pointer none])), zr19⟩,
   ⟨20, (some (Value.nilIface)), zr20⟩,
   ⟨21, (some (Value.int .i32 0)), zr21⟩,
   ⟨22, (some (Value.slice none 0 0)), zr22⟩,
   ⟨23, (some (Value.pointer none)), zr23⟩,
   ⟨24, (some (Value.nilFunc)), zr24⟩,
   ⟨25, (some (Value.pointer none)), zr25⟩,
   ⟨26, (some (Value.nilFunc)), zr26⟩,
   ⟨27, (some (Value.slice none 0 0)), zr27⟩,
   ⟨28, (some (Value.agg #[Value.int .i64 0, Value.int .i64 0, Value.int .i64 0])), zr28⟩,
   ⟨29, (some (Value.agg #[Value.int .i64 0, Value.int .i64 0, Value.int .i64 0])), zr29⟩,
   ⟨30, (some (Value.nilFunc)), zr30⟩,
   ⟨31, (some (Value.nilFunc)), zr31⟩,
   ⟨32, (some (Value.nilFunc)), zr32⟩,
   ⟨33, (some (Value.pointer none)), zr33⟩,
   ⟨35, (some (Value.nilFunc)), zr35⟩,
   ⟨36, (some (Value.nilFunc)), zr36⟩,
   ⟨37, (some (Value.pointer none)), zr37⟩,
   ⟨38, (some (Value.agg #[Value.pointer none, Value.slice none 0 0])), zr38⟩,
   ⟨39, (some (Value.agg #[Value.pointer none, Value.slice none 0 0])), zr39⟩,
   ⟨40, (some (Value.nilFunc)), zr40⟩,
   ⟨41, (some (Value.nilFunc)), zr41⟩,
   ⟨42, (some (Value.nilFunc)), zr42⟩,
   ⟨43, (some (Value.nilFunc)), zr43⟩,
   ⟨44, (some (Value.nilFunc)), zr44⟩,
   ⟨45, (some (Value.nilFunc)), zr45⟩,
   ⟨46, (some (Value.nilFunc)), zr46⟩,
   ⟨47, (some (Value.nilFunc)), zr47⟩,
   ⟨48, (some (Value.nilFunc)), zr48⟩,
   ⟨49, (some (Value.nilFunc)), zr49⟩,
   ⟨50, (some (Value.slice none 0 0)), zr50⟩,
   ⟨51, (some (Value.slice none 0 0)), zr51⟩,
   ⟨52, (some (Value.agg #[Value.slice none 0 0, Value.slice none 0 0])), zr52⟩,
   ⟨53, (some (Value.agg #[Value.slice none 0 0, Value.slice none 0 0])), zr53⟩,
   ⟨54, (some (Value.pointer none)), zr54⟩,
   ⟨55, (some (Value.agg #[Value.pointer none, Value.pointer none, Value.slice none 0 0])), zr55⟩,
   ⟨56, (some (Value.agg #[Value.pointer none, Value.pointer none, Value.slice none 0 0])), zr56⟩,
   ⟨57, (some (Value.agg #[Value.pointer none, Value.pointer none, Value.slice none 0 0])), zr57⟩,
   ⟨58, (some (Value.agg #[Value.pointer none, Value.pointer none, Value.slice none 0 0])), zr58⟩,
   ⟨59, (some (Value.int .i64 0)), zr59⟩,
   ⟨61, (some (Value.nilFunc)), zr61⟩,
   ⟨62, (some (Value.nilFunc)), zr62⟩,
   ⟨63, (some (Value.nilFunc)), zr63⟩,
   ⟨64, (some (Value.agg #[Value.int .i64 0, Value.int .i64 0, Value.int .i64 0])), zr64⟩,
   ⟨65, (some (Value.slice none 0 0)), zr65⟩,
   ⟨66, (some (Value.slice none 0 0)), zr66⟩,
   ⟨67, (some (Value.nilFunc)), zr67⟩,
   ⟨68, (some (Value.agg #[Value.int .i64 0, Value.int .i64 0])), zr68⟩,
   ⟨69, (some (Value.agg #[Value.int .i64 0, Value.int .i64 0])), zr69⟩,
   ⟨70, (some (Value.agg #[Value.int .i64 0, Value.int .i64 0, Value.int .i64 0, Value.int .i64 0, Value.int .i64 0, Value.bool false])), zr70⟩,
   ⟨71, (some (Value.agg #[Value.int .i64 0, Value.int .i64 0, Value.int .i64 0, Value.int .i64 0, Value.int .i64 0, Value.bool false])), zr71⟩,
   ⟨73, (some (Value.nilFunc)), zr73⟩,
   ⟨74, (some (Value.nilFunc)), zr74⟩,
   ⟨75, (some (Value.nilFunc)), zr75⟩,
   ⟨76, (some (Value.nilFunc)), zr76⟩,
   ⟨77, (some (Value.int .u64 0)), zr77⟩,
   ⟨78, (some (Value.nilFunc)), zr78⟩,
   ⟨79, (some (Value.nilFunc)), zr79⟩,
   ⟨80, (some (Value.map none)), zr80⟩,
   ⟨81, (some (Value.map none)), zr81⟩,
   ⟨82, (some (Value.agg #[Value.slice none 0 0, Value.slice none 0 0, Value.slice none 0 0, Value.map none, Value.map none])), zr82⟩,
   ⟨83, (some (Value.agg #[Value.slice none 0 0, Value.slice none 0 0, Value.slice none 0 0, Value.map none, Value.map none])), zr83⟩,
   ⟨84, (some (Value.nilFunc)), zr84⟩,
   ⟨85, (some (Value.nilFunc)), zr85⟩,
   ⟨86, (some (Value.nilFunc)), zr86⟩,
   ⟨87, (some (Value.nilFunc)), zr87⟩,
   ⟨88, (some (Value.nilFunc)), zr88⟩,
   ⟨89, (some (Value.nilFunc)), zr89⟩,
   ⟨90, (some (Value.agg #[Value.int .i64 0, Value.int .i64 0])), zr90⟩,
   ⟨91, (some (Value.agg #[Value.int .i64 0, Value.int .i64 0])), zr91⟩,
   ⟨92, (some (Value.nilFunc)), zr92⟩,
   ⟨93, (some (Value.agg #[Value.int .i64 0, Value.int .i64 0])), zr93⟩,
   ⟨94, (some (Value.agg #[Value.int .i64 0, Value.int .i64 0])), zr94⟩,
   ⟨95, (some (Value.map none)), zr95⟩,
   ⟨96, (some (Value.agg #[Value.map none])), zr96⟩,
   ⟨97, (some (Value.agg #[Value.map none])), zr97⟩,
   ⟨98, (some (Value.slice none 0 0)), zr98⟩,
   ⟨99, (some (Value.pointer none)), zr99⟩,
   ⟨100, (some (Value.nilFunc)), zr100⟩,
   ⟨101, (some (Value.nilFunc)), zr101⟩,
   ⟨103, (some (Value.nilFunc)), zr103⟩,
   ⟨104, (some (Value.nilFunc)), zr104⟩,
   ⟨105, (some (Value.nilFunc)), zr105⟩,
   ⟨106, (some (Value.nilFunc)), zr106⟩,
   ⟨107, (some (Value.map none)), zr107⟩,
   ⟨108, (some (Value.nilFunc)), zr108⟩,
   ⟨109, (some (Value.nilFunc)), zr109⟩,
   ⟨110, (some (Value.nilFunc)), zr110⟩,
   ⟨111, (some (Value.nilFunc)), zr111⟩,
   ⟨112, (some (Value.nilFunc)), zr112⟩,
   ⟨113, (some (Value.nilFunc)), zr113⟩,
   ⟨114, (some (Value.int .i64 0)), zr114⟩,
   ⟨116, (some (Value.nilFunc)), zr116⟩,
   ⟨117, (some (Value.nilFunc)), zr117⟩,
   ⟨118, (some (Value.nilFunc)), zr118⟩,
   ⟨119, (some (Value.nilFunc)), zr119⟩,
   ⟨120, (some (Value.nilFunc)), zr120⟩,
   ⟨121, (some (Value.int .u32 0)), zr121⟩,
   ⟨122, (some (Value.nilFunc)), zr122⟩,
   ⟨123, (some (Value.int .u64 0)), zr123⟩,
   ⟨124, (some (Value.int .u64 0)), zr124⟩,
   ⟨125, (some (Value.nilFunc)), zr125⟩,
   ⟨126, (some (Value.nilFunc)), zr126⟩,
   ⟨127, (some (Value.nilFunc)), zr127⟩,
   ⟨128, (some (Value.pointer none)), zr128⟩,
   ⟨129, (some (Value.nilFunc)), zr129⟩,
   ⟨130, (some (Value.pointer none)), zr130⟩,
   ⟨132, (some (Value.nilFunc)), zr132⟩,
   ⟨133, (some (Value.nilFunc)), zr133⟩,
   ⟨134, (some (Value.agg #[Value.pointer none, Value.pointer none, Value.pointer none, Value.string ByteArray.empty])), zr134⟩,
   ⟨135, (some (Value.agg #[Value.pointer none, Value.pointer none, Value.pointer none, Value.string ByteArray.empty])), zr135⟩,
   ⟨136, (some (Value.agg #[])), zr136⟩,
   ⟨137, (some (Value.agg #[])), zr137⟩,
   ⟨138, (some (Value.agg #[])), zr138⟩,
   ⟨139, (some (Value.int .u8 0)), zr139⟩,
   ⟨140, (some (Value.int .u8 0)), zr140⟩,
   ⟨141, (some (Value.nilFunc)), zr141⟩,
   ⟨142, (some (Value.pointer none)), zr142⟩,
   ⟨143, (some (Value.int .i32 0)), zr143⟩,
   ⟨144, (some (Value.int .i32 0)), zr144⟩,
   ⟨145, (some (Value.agg #[Value.int .u64 0, Value.int .u64 0, Value.int .u32 0, Value.int .u8 0, Value.int .u8 0, Value.int .u8 0, Value.int .u8 0, Value.nilFunc, Value.pointer none, Value.int .i32 0, Value.int .i32 0])), zr145⟩,
   ⟨146, (some (Value.agg #[Value.int .u64 0, Value.int .u64 0, Value.int .u32 0, Value.int .u8 0, Value.int .u8 0, Value.int .u8 0, Value.int .u8 0, Value.nilFunc, Value.pointer none, Value.int .i32 0, Value.int .i32 0])), zr146⟩]
def zrTab (T : Nat) : Option (Option Value) := lookRow zrList T
theorem zrOf {T : Nat} {x : Option Value} (h : zrTab T = some x) : zeroB Tryz.prog T = some x := lookRow_of h
theorem el22 : elemB Tryz.prog 22 = some (29, 3, 24, some (Value.agg #[Value.int .i64 0, Value.int .i64 0, Value.int .i64 0])) := by kernel_rfl
theorem el27 : elemB Tryz.prog 27 = some (64, 3, 24, some (Value.agg #[Value.int .i64 0, Value.int .i64 0, Value.int .i64 0])) := by kernel_rfl
theorem el50 : elemB Tryz.prog 50 = some (71, 6, 48, some (Value.agg #[Value.int .i64 0, Value.int .i64 0, Value.int .i64 0, Value.int .i64 0, Value.int .i64 0, Value.bool false])) := by kernel_rfl
theorem el51 : elemB Tryz.prog 51 = some (69, 2, 16, some (Value.agg #[Value.int .i64 0, Value.int .i64 0])) := by kernel_rfl
theorem el65 : elemB Tryz.prog 65 = some (66, 1, 24, some (Value.slice none 0 0)) := by kernel_rfl
theorem el66 : elemB Tryz.prog 66 = some (3, 1, 8, some (Value.int .i64 0)) := by kernel_rfl
theorem el98 : elemB Tryz.prog 98 = some (4, 1, 1, some (Value.bool false)) := by kernel_rfl
def elList : List (TypeRow (TypeId × Nat × Nat × Option Value) (elemB Tryz.prog)) :=
  [⟨22, (29, 3, 24, some (Value.agg #[Value.int .i64 0, Value.int .i64 0, Value.int .i64 0])), el22⟩,
   ⟨27, (64, 3, 24, some (Value.agg #[Value.int .i64 0, Value.int .i64 0, Value.int .i64 0])), el27⟩,
   ⟨50, (71, 6, 48, some (Value.agg #[Value.int .i64 0, Value.int .i64 0, Value.int .i64 0, Value.int .i64 0, Value.int .i64 0, Value.bool false])), el50⟩,
   ⟨51, (69, 2, 16, some (Value.agg #[Value.int .i64 0, Value.int .i64 0])), el51⟩,
   ⟨65, (66, 1, 24, some (Value.slice none 0 0)), el65⟩,
   ⟨66, (3, 1, 8, some (Value.int .i64 0)), el66⟩,
   ⟨98, (4, 1, 1, some (Value.bool false)), el98⟩]
def elTab (T : Nat) : Option (TypeId × Nat × Nat × Option Value) := lookRow elList T
theorem elOf {T : Nat} {x : TypeId × Nat × Nat × Option Value} (h : elTab T = some x) : elemB Tryz.prog T = some x := lookRow_of h
theorem in0 : intB Tryz.prog 0 = some false := by kernel_rfl
theorem in1 : intB Tryz.prog 1 = some false := by kernel_rfl
theorem in2 : intB Tryz.prog 2 = some true := by kernel_rfl
theorem in3 : intB Tryz.prog 3 = some true := by kernel_rfl
theorem in4 : intB Tryz.prog 4 = some false := by kernel_rfl
theorem in5 : intB Tryz.prog 5 = some true := by kernel_rfl
theorem in6 : intB Tryz.prog 6 = some true := by kernel_rfl
theorem in7 : intB Tryz.prog 7 = some false := by kernel_rfl
theorem in8 : intB Tryz.prog 8 = some false := by kernel_rfl
theorem in9 : intB Tryz.prog 9 = some false := by kernel_rfl
theorem in10 : intB Tryz.prog 10 = some false := by kernel_rfl
theorem in11 : intB Tryz.prog 11 = some false := by kernel_rfl
theorem in12 : intB Tryz.prog 12 = some true := by kernel_rfl
theorem in13 : intB Tryz.prog 13 = some false := by kernel_rfl
theorem in14 : intB Tryz.prog 14 = some false := by kernel_rfl
theorem in15 : intB Tryz.prog 15 = some false := by kernel_rfl
theorem in16 : intB Tryz.prog 16 = some false := by kernel_rfl
theorem in17 : intB Tryz.prog 17 = some false := by kernel_rfl
theorem in18 : intB Tryz.prog 18 = some false := by kernel_rfl
theorem in19 : intB Tryz.prog 19 = some false := by kernel_rfl
theorem in20 : intB Tryz.prog 20 = some false := by kernel_rfl
theorem in21 : intB Tryz.prog 21 = some true := by kernel_rfl
theorem in22 : intB Tryz.prog 22 = some false := by kernel_rfl
theorem in23 : intB Tryz.prog 23 = some false := by kernel_rfl
theorem in24 : intB Tryz.prog 24 = some false := by kernel_rfl
theorem in25 : intB Tryz.prog 25 = some false := by kernel_rfl
theorem in26 : intB Tryz.prog 26 = some false := by kernel_rfl
theorem in27 : intB Tryz.prog 27 = some false := by kernel_rfl
theorem in28 : intB Tryz.prog 28 = some false := by kernel_rfl
theorem in29 : intB Tryz.prog 29 = some false := by kernel_rfl
theorem in30 : intB Tryz.prog 30 = some false := by kernel_rfl
theorem in31 : intB Tryz.prog 31 = some false := by kernel_rfl
theorem in32 : intB Tryz.prog 32 = some false := by kernel_rfl
theorem in33 : intB Tryz.prog 33 = some false := by kernel_rfl
theorem in34 : intB Tryz.prog 34 = some false := by kernel_rfl
theorem in35 : intB Tryz.prog 35 = some false := by kernel_rfl
theorem in36 : intB Tryz.prog 36 = some false := by kernel_rfl
theorem in37 : intB Tryz.prog 37 = some false := by kernel_rfl
theorem in38 : intB Tryz.prog 38 = some false := by kernel_rfl
theorem in39 : intB Tryz.prog 39 = some false := by kernel_rfl
theorem in40 : intB Tryz.prog 40 = some false := by kernel_rfl
theorem in41 : intB Tryz.prog 41 = some false := by kernel_rfl
theorem in42 : intB Tryz.prog 42 = some false := by kernel_rfl
theorem in43 : intB Tryz.prog 43 = some false := by kernel_rfl
theorem in44 : intB Tryz.prog 44 = some false := by kernel_rfl
theorem in45 : intB Tryz.prog 45 = some false := by kernel_rfl
theorem in46 : intB Tryz.prog 46 = some false := by kernel_rfl
theorem in47 : intB Tryz.prog 47 = some false := by kernel_rfl
theorem in48 : intB Tryz.prog 48 = some false := by kernel_rfl
theorem in49 : intB Tryz.prog 49 = some false := by kernel_rfl
theorem in50 : intB Tryz.prog 50 = some false := by kernel_rfl
theorem in51 : intB Tryz.prog 51 = some false := by kernel_rfl
theorem in52 : intB Tryz.prog 52 = some false := by kernel_rfl
theorem in53 : intB Tryz.prog 53 = some false := by kernel_rfl
theorem in54 : intB Tryz.prog 54 = some false := by kernel_rfl
theorem in55 : intB Tryz.prog 55 = some false := by kernel_rfl
theorem in56 : intB Tryz.prog 56 = some false := by kernel_rfl
theorem in57 : intB Tryz.prog 57 = some false := by kernel_rfl
theorem in58 : intB Tryz.prog 58 = some false := by kernel_rfl
theorem in59 : intB Tryz.prog 59 = some true := by kernel_rfl
theorem in60 : intB Tryz.prog 60 = some false := by kernel_rfl
theorem in61 : intB Tryz.prog 61 = some false := by kernel_rfl
theorem in62 : intB Tryz.prog 62 = some false := by kernel_rfl
theorem in63 : intB Tryz.prog 63 = some false := by kernel_rfl
theorem in64 : intB Tryz.prog 64 = some false := by kernel_rfl
theorem in65 : intB Tryz.prog 65 = some false := by kernel_rfl
theorem in66 : intB Tryz.prog 66 = some false := by kernel_rfl
theorem in67 : intB Tryz.prog 67 = some false := by kernel_rfl
theorem in68 : intB Tryz.prog 68 = some false := by kernel_rfl
theorem in69 : intB Tryz.prog 69 = some false := by kernel_rfl
theorem in70 : intB Tryz.prog 70 = some false := by kernel_rfl
theorem in71 : intB Tryz.prog 71 = some false := by kernel_rfl
theorem in72 : intB Tryz.prog 72 = some false := by kernel_rfl
theorem in73 : intB Tryz.prog 73 = some false := by kernel_rfl
theorem in74 : intB Tryz.prog 74 = some false := by kernel_rfl
theorem in75 : intB Tryz.prog 75 = some false := by kernel_rfl
theorem in76 : intB Tryz.prog 76 = some false := by kernel_rfl
theorem in77 : intB Tryz.prog 77 = some true := by kernel_rfl
theorem in78 : intB Tryz.prog 78 = some false := by kernel_rfl
theorem in79 : intB Tryz.prog 79 = some false := by kernel_rfl
theorem in80 : intB Tryz.prog 80 = some false := by kernel_rfl
theorem in81 : intB Tryz.prog 81 = some false := by kernel_rfl
theorem in82 : intB Tryz.prog 82 = some false := by kernel_rfl
theorem in83 : intB Tryz.prog 83 = some false := by kernel_rfl
theorem in84 : intB Tryz.prog 84 = some false := by kernel_rfl
theorem in85 : intB Tryz.prog 85 = some false := by kernel_rfl
theorem in86 : intB Tryz.prog 86 = some false := by kernel_rfl
theorem in87 : intB Tryz.prog 87 = some false := by kernel_rfl
theorem in88 : intB Tryz.prog 88 = some false := by kernel_rfl
theorem in89 : intB Tryz.prog 89 = some false := by kernel_rfl
theorem in90 : intB Tryz.prog 90 = some false := by kernel_rfl
theorem in91 : intB Tryz.prog 91 = some false := by kernel_rfl
theorem in92 : intB Tryz.prog 92 = some false := by kernel_rfl
theorem in93 : intB Tryz.prog 93 = some false := by kernel_rfl
theorem in94 : intB Tryz.prog 94 = some false := by kernel_rfl
theorem in95 : intB Tryz.prog 95 = some false := by kernel_rfl
theorem in96 : intB Tryz.prog 96 = some false := by kernel_rfl
theorem in97 : intB Tryz.prog 97 = some false := by kernel_rfl
theorem in98 : intB Tryz.prog 98 = some false := by kernel_rfl
theorem in99 : intB Tryz.prog 99 = some false := by kernel_rfl
theorem in100 : intB Tryz.prog 100 = some false := by kernel_rfl
theorem in101 : intB Tryz.prog 101 = some false := by kernel_rfl
theorem in102 : intB Tryz.prog 102 = some false := by kernel_rfl
theorem in103 : intB Tryz.prog 103 = some false := by kernel_rfl
theorem in104 : intB Tryz.prog 104 = some false := by kernel_rfl
theorem in105 : intB Tryz.prog 105 = some false := by kernel_rfl
theorem in106 : intB Tryz.prog 106 = some false := by kernel_rfl
theorem in107 : intB Tryz.prog 107 = some false := by kernel_rfl
theorem in108 : intB Tryz.prog 108 = some false := by kernel_rfl
theorem in109 : intB Tryz.prog 109 = some false := by kernel_rfl
theorem in110 : intB Tryz.prog 110 = some false := by kernel_rfl
theorem in111 : intB Tryz.prog 111 = some false := by kernel_rfl
theorem in112 : intB Tryz.prog 112 = some false := by kernel_rfl
theorem in113 : intB Tryz.prog 113 = some false := by kernel_rfl
theorem in114 : intB Tryz.prog 114 = some true := by kernel_rfl
theorem in115 : intB Tryz.prog 115 = some false := by kernel_rfl
theorem in116 : intB Tryz.prog 116 = some false := by kernel_rfl
theorem in117 : intB Tryz.prog 117 = some false := by kernel_rfl
theorem in118 : intB Tryz.prog 118 = some false := by kernel_rfl
theorem in119 : intB Tryz.prog 119 = some false := by kernel_rfl
theorem in120 : intB Tryz.prog 120 = some false := by kernel_rfl
theorem in121 : intB Tryz.prog 121 = some true := by kernel_rfl
theorem in122 : intB Tryz.prog 122 = some false := by kernel_rfl
theorem in123 : intB Tryz.prog 123 = some true := by kernel_rfl
theorem in124 : intB Tryz.prog 124 = some true := by kernel_rfl
theorem in125 : intB Tryz.prog 125 = some false := by kernel_rfl
theorem in126 : intB Tryz.prog 126 = some false := by kernel_rfl
theorem in127 : intB Tryz.prog 127 = some false := by kernel_rfl
theorem in128 : intB Tryz.prog 128 = some false := by kernel_rfl
theorem in129 : intB Tryz.prog 129 = some false := by kernel_rfl
theorem in130 : intB Tryz.prog 130 = some false := by kernel_rfl
theorem in131 : intB Tryz.prog 131 = some false := by kernel_rfl
theorem in132 : intB Tryz.prog 132 = some false := by kernel_rfl
theorem in133 : intB Tryz.prog 133 = some false := by kernel_rfl
theorem in134 : intB Tryz.prog 134 = some false := by kernel_rfl
theorem in135 : intB Tryz.prog 135 = some false := by kernel_rfl
theorem in136 : intB Tryz.prog 136 = some false := by kernel_rfl
theorem in137 : intB Tryz.prog 137 = some false := by kernel_rfl
theorem in138 : intB Tryz.prog 138 = some false := by kernel_rfl
theorem in139 : intB Tryz.prog 139 = some true := by kernel_rfl
theorem in140 : intB Tryz.prog 140 = some true := by kernel_rfl
theorem in141 : intB Tryz.prog 141 = some false := by kernel_rfl
theorem in142 : intB Tryz.prog 142 = some false := by kernel_rfl
theorem in143 : intB Tryz.prog 143 = some true := by kernel_rfl
theorem in144 : intB Tryz.prog 144 = some true := by kernel_rfl
theorem in145 : intB Tryz.prog 145 = some false := by kernel_rfl
theorem in146 : intB Tryz.prog 146 = some false := by kernel_rfl
def inList : List (TypeRow (Bool) (intB Tryz.prog)) :=
  [⟨0, false, in0⟩,
   ⟨1, false, in1⟩,
   ⟨2, true, in2⟩,
   ⟨3, true, in3⟩,
   ⟨4, false, in4⟩,
   ⟨5, true, in5⟩,
   ⟨6, true, in6⟩,
   ⟨7, false, in7⟩,
   ⟨8, false, in8⟩,
   ⟨9, false, in9⟩,
   ⟨10, false, in10⟩,
   ⟨11, false, in11⟩,
   ⟨12, true, in12⟩,
   ⟨13, false, in13⟩,
   ⟨14, false, in14⟩,
   ⟨15, false, in15⟩,
   ⟨16, false, in16⟩,
   ⟨17, false, in17⟩,
   ⟨18, false, in18⟩,
   ⟨19, false, in19⟩,
   ⟨20, false, in20⟩,
   ⟨21, true, in21⟩,
   ⟨22, false, in22⟩,
   ⟨23, false, in23⟩,
   ⟨24, false, in24⟩,
   ⟨25, false, in25⟩,
   ⟨26, false, in26⟩,
   ⟨27, false, in27⟩,
   ⟨28, false, in28⟩,
   ⟨29, false, in29⟩,
   ⟨30, false, in30⟩,
   ⟨31, false, in31⟩,
   ⟨32, false, in32⟩,
   ⟨33, false, in33⟩,
   ⟨34, false, in34⟩,
   ⟨35, false, in35⟩,
   ⟨36, false, in36⟩,
   ⟨37, false, in37⟩,
   ⟨38, false, in38⟩,
   ⟨39, false, in39⟩,
   ⟨40, false, in40⟩,
   ⟨41, false, in41⟩,
   ⟨42, false, in42⟩,
   ⟨43, false, in43⟩,
   ⟨44, false, in44⟩,
   ⟨45, false, in45⟩,
   ⟨46, false, in46⟩,
   ⟨47, false, in47⟩,
   ⟨48, false, in48⟩,
   ⟨49, false, in49⟩,
   ⟨50, false, in50⟩,
   ⟨51, false, in51⟩,
   ⟨52, false, in52⟩,
   ⟨53, false, in53⟩,
   ⟨54, false, in54⟩,
   ⟨55, false, in55⟩,
   ⟨56, false, in56⟩,
   ⟨57, false, in57⟩,
   ⟨58, false, in58⟩,
   ⟨59, true, in59⟩,
   ⟨60, false, in60⟩,
   ⟨61, false, in61⟩,
   ⟨62, false, in62⟩,
   ⟨63, false, in63⟩,
   ⟨64, false, in64⟩,
   ⟨65, false, in65⟩,
   ⟨66, false, in66⟩,
   ⟨67, false, in67⟩,
   ⟨68, false, in68⟩,
   ⟨69, false, in69⟩,
   ⟨70, false, in70⟩,
   ⟨71, false, in71⟩,
   ⟨72, false, in72⟩,
   ⟨73, false, in73⟩,
   ⟨74, false, in74⟩,
   ⟨75, false, in75⟩,
   ⟨76, false, in76⟩,
   ⟨77, true, in77⟩,
   ⟨78, false, in78⟩,
   ⟨79, false, in79⟩,
   ⟨80, false, in80⟩,
   ⟨81, false, in81⟩,
   ⟨82, false, in82⟩,
   ⟨83, false, in83⟩,
   ⟨84, false, in84⟩,
   ⟨85, false, in85⟩,
   ⟨86, false, in86⟩,
   ⟨87, false, in87⟩,
   ⟨88, false, in88⟩,
   ⟨89, false, in89⟩,
   ⟨90, false, in90⟩,
   ⟨91, false, in91⟩,
   ⟨92, false, in92⟩,
   ⟨93, false, in93⟩,
   ⟨94, false, in94⟩,
   ⟨95, false, in95⟩,
   ⟨96, false, in96⟩,
   ⟨97, false, in97⟩,
   ⟨98, false, in98⟩,
   ⟨99, false, in99⟩,
   ⟨100, false, in100⟩,
   ⟨101, false, in101⟩,
   ⟨102, false, in102⟩,
   ⟨103, false, in103⟩,
   ⟨104, false, in104⟩,
   ⟨105, false, in105⟩,
   ⟨106, false, in106⟩,
   ⟨107, false, in107⟩,
   ⟨108, false, in108⟩,
   ⟨109, false, in109⟩,
   ⟨110, false, in110⟩,
   ⟨111, false, in111⟩,
   ⟨112, false, in112⟩,
   ⟨113, false, in113⟩,
   ⟨114, true, in114⟩,
   ⟨115, false, in115⟩,
   ⟨116, false, in116⟩,
   ⟨117, false, in117⟩,
   ⟨118, false, in118⟩,
   ⟨119, false, in119⟩,
   ⟨120, false, in120⟩,
   ⟨121, true, in121⟩,
   ⟨122, false, in122⟩,
   ⟨123, true, in123⟩,
   ⟨124, true, in124⟩,
   ⟨125, false, in125⟩,
   ⟨126, false, in126⟩,
   ⟨127, false, in127⟩,
   ⟨128, false, in128⟩,
   ⟨129, false, in129⟩,
   ⟨130, false, in130⟩,
   ⟨131, false, in131⟩,
   ⟨132, false, in132⟩,
   ⟨133, false, in133⟩,
   ⟨134, false, in134⟩,
   ⟨135, false, in135⟩,
   ⟨136, false, in136⟩,
   ⟨137, false, in137⟩,
   ⟨138, false, in138⟩,
   ⟨139, true, in139⟩,
   ⟨140, true, in140⟩,
   ⟨141, false, in141⟩,
   ⟨142, false, in142⟩,
   ⟨143, true, in143⟩,
   ⟨144, true, in144⟩,
   ⟨145, false, in145⟩,
   ⟨146, false, in146⟩]
def inTab (T : Nat) : Option (Bool) := lookRow inList T
theorem inOf {T : Nat} {x : Bool} (h : inTab T = some x) : intB Tryz.prog T = some x := lookRow_of h
end Go.Proofs.YtapodjhkpahdnaaGreat
