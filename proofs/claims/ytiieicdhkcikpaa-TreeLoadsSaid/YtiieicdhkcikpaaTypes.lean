/-
  Closed facts on the types of this translation: sizes, zero values, which are aggregates.
-/
import Derived.Test.YtiieicdhkcikpaaRows
import Derived.Test.YtiieicdhkcikpaaMSep
namespace Go.Proofs.Ytiieicdhkcikpaa
open Go.Sep
set_option maxRecDepth 20000
structure TypeRow (α : Type) (F : Nat → Option α) where
  key : Nat
  val : α
  is : F key = some val
def lookRow {α : Type} {F : Nat → Option α} : List (TypeRow α F) → Nat → Option α
  | [], _ => none
  | r :: l, T => bif Nat.beq r.key T then some r.val else lookRow l T
theorem lookRow_of {α : Type} {F : Nat → Option α} {x : α} {T : Nat} : ∀ {l : List (TypeRow α F)}, lookRow l T = some x → F T = some x
  | [], h => by cases h
  | r :: l, h => by
    unfold lookRow at h
    cases hb : Nat.beq r.key T with
    | true =>
      rw [hb] at h
      have e := Nat.eq_of_beq_eq_true hb
      have h2 : r.val = x := by simpa using h
      rw [← e, r.is, h2]
    | false =>
      rw [hb] at h
      exact lookRow_of (l := l) h

theorem ag0 : aggB Try.prog 0 = some false := by kernel_rfl
theorem ag1 : aggB Try.prog 1 = some false := by kernel_rfl
theorem ag2 : aggB Try.prog 2 = some false := by kernel_rfl
theorem ag3 : aggB Try.prog 3 = some false := by kernel_rfl
theorem ag4 : aggB Try.prog 4 = some false := by kernel_rfl
theorem ag5 : aggB Try.prog 5 = some false := by kernel_rfl
theorem ag6 : aggB Try.prog 6 = some false := by kernel_rfl
theorem ag7 : aggB Try.prog 7 = some true := by kernel_rfl
theorem ag8 : aggB Try.prog 8 = some true := by kernel_rfl
theorem ag9 : aggB Try.prog 9 = some false := by kernel_rfl
theorem ag10 : aggB Try.prog 10 = some false := by kernel_rfl
theorem ag11 : aggB Try.prog 11 = some false := by kernel_rfl
theorem ag12 : aggB Try.prog 12 = some false := by kernel_rfl
theorem ag13 : aggB Try.prog 13 = some true := by kernel_rfl
theorem ag14 : aggB Try.prog 14 = some true := by kernel_rfl
theorem ag15 : aggB Try.prog 15 = some false := by kernel_rfl
theorem ag16 : aggB Try.prog 16 = some false := by kernel_rfl
theorem ag17 : aggB Try.prog 17 = some false := by kernel_rfl
theorem ag18 : aggB Try.prog 18 = some true := by kernel_rfl
theorem ag19 : aggB Try.prog 19 = some true := by kernel_rfl
theorem ag20 : aggB Try.prog 20 = some false := by kernel_rfl
theorem ag21 : aggB Try.prog 21 = some false := by kernel_rfl
theorem ag22 : aggB Try.prog 22 = some false := by kernel_rfl
theorem ag23 : aggB Try.prog 23 = some false := by kernel_rfl
theorem ag24 : aggB Try.prog 24 = some false := by kernel_rfl
theorem ag25 : aggB Try.prog 25 = some false := by kernel_rfl
theorem ag26 : aggB Try.prog 26 = some false := by kernel_rfl
theorem ag27 : aggB Try.prog 27 = some false := by kernel_rfl
theorem ag28 : aggB Try.prog 28 = some false := by kernel_rfl
theorem ag29 : aggB Try.prog 29 = some false := by kernel_rfl
theorem ag30 : aggB Try.prog 30 = some false := by kernel_rfl
theorem ag31 : aggB Try.prog 31 = some false := by kernel_rfl
theorem ag32 : aggB Try.prog 32 = some false := by kernel_rfl
theorem ag33 : aggB Try.prog 33 = some false := by kernel_rfl
theorem ag34 : aggB Try.prog 34 = some false := by kernel_rfl
theorem ag35 : aggB Try.prog 35 = some false := by kernel_rfl
theorem ag36 : aggB Try.prog 36 = some false := by kernel_rfl
theorem ag37 : aggB Try.prog 37 = some false := by kernel_rfl
theorem ag38 : aggB Try.prog 38 = some false := by kernel_rfl
theorem ag39 : aggB Try.prog 39 = some true := by kernel_rfl
theorem ag40 : aggB Try.prog 40 = some false := by kernel_rfl
theorem ag41 : aggB Try.prog 41 = some false := by kernel_rfl
theorem ag42 : aggB Try.prog 42 = some false := by kernel_rfl
theorem ag43 : aggB Try.prog 43 = some false := by kernel_rfl
theorem ag44 : aggB Try.prog 44 = some false := by kernel_rfl
theorem ag45 : aggB Try.prog 45 = some true := by kernel_rfl
theorem ag46 : aggB Try.prog 46 = some true := by kernel_rfl
theorem ag47 : aggB Try.prog 47 = some false := by kernel_rfl
theorem ag48 : aggB Try.prog 48 = some false := by kernel_rfl
theorem ag49 : aggB Try.prog 49 = some false := by kernel_rfl
theorem ag50 : aggB Try.prog 50 = some false := by kernel_rfl
theorem ag51 : aggB Try.prog 51 = some false := by kernel_rfl
theorem ag52 : aggB Try.prog 52 = some false := by kernel_rfl
theorem ag53 : aggB Try.prog 53 = some false := by kernel_rfl
theorem ag54 : aggB Try.prog 54 = some false := by kernel_rfl
theorem ag55 : aggB Try.prog 55 = some false := by kernel_rfl
theorem ag56 : aggB Try.prog 56 = some false := by kernel_rfl
theorem ag57 : aggB Try.prog 57 = some false := by kernel_rfl
theorem ag58 : aggB Try.prog 58 = some true := by kernel_rfl
theorem ag59 : aggB Try.prog 59 = some true := by kernel_rfl
theorem ag60 : aggB Try.prog 60 = some false := by kernel_rfl
theorem ag61 : aggB Try.prog 61 = some false := by kernel_rfl
theorem ag62 : aggB Try.prog 62 = some false := by kernel_rfl
theorem ag63 : aggB Try.prog 63 = some false := by kernel_rfl
theorem ag64 : aggB Try.prog 64 = some false := by kernel_rfl
theorem ag65 : aggB Try.prog 65 = some true := by kernel_rfl
theorem ag66 : aggB Try.prog 66 = some true := by kernel_rfl
theorem ag67 : aggB Try.prog 67 = some true := by kernel_rfl
theorem ag68 : aggB Try.prog 68 = some true := by kernel_rfl
theorem ag69 : aggB Try.prog 69 = some true := by kernel_rfl
theorem ag70 : aggB Try.prog 70 = some false := by kernel_rfl
theorem ag71 : aggB Try.prog 71 = some false := by kernel_rfl
theorem ag72 : aggB Try.prog 72 = some false := by kernel_rfl
theorem ag73 : aggB Try.prog 73 = some false := by kernel_rfl
theorem ag74 : aggB Try.prog 74 = some false := by kernel_rfl
theorem ag75 : aggB Try.prog 75 = some false := by kernel_rfl
theorem ag76 : aggB Try.prog 76 = some true := by kernel_rfl
theorem ag77 : aggB Try.prog 77 = some true := by kernel_rfl
theorem ag78 : aggB Try.prog 78 = some true := by kernel_rfl
theorem ag79 : aggB Try.prog 79 = some true := by kernel_rfl
theorem ag80 : aggB Try.prog 80 = some false := by kernel_rfl
theorem ag81 : aggB Try.prog 81 = some false := by kernel_rfl
theorem ag82 : aggB Try.prog 82 = some false := by kernel_rfl
theorem ag83 : aggB Try.prog 83 = some true := by kernel_rfl
theorem ag84 : aggB Try.prog 84 = some false := by kernel_rfl
theorem ag85 : aggB Try.prog 85 = some false := by kernel_rfl
theorem ag86 : aggB Try.prog 86 = some false := by kernel_rfl
theorem ag87 : aggB Try.prog 87 = some false := by kernel_rfl
theorem ag88 : aggB Try.prog 88 = some true := by kernel_rfl
theorem ag89 : aggB Try.prog 89 = some false := by kernel_rfl
theorem ag90 : aggB Try.prog 90 = some false := by kernel_rfl
theorem ag91 : aggB Try.prog 91 = some false := by kernel_rfl
theorem ag92 : aggB Try.prog 92 = some false := by kernel_rfl
theorem ag93 : aggB Try.prog 93 = some false := by kernel_rfl
theorem ag94 : aggB Try.prog 94 = some false := by kernel_rfl
theorem ag95 : aggB Try.prog 95 = some false := by kernel_rfl
theorem ag96 : aggB Try.prog 96 = some false := by kernel_rfl
theorem ag97 : aggB Try.prog 97 = some false := by kernel_rfl
theorem ag98 : aggB Try.prog 98 = some false := by kernel_rfl
theorem ag99 : aggB Try.prog 99 = some false := by kernel_rfl
theorem ag100 : aggB Try.prog 100 = some false := by kernel_rfl
theorem ag101 : aggB Try.prog 101 = some false := by kernel_rfl
theorem ag102 : aggB Try.prog 102 = some false := by kernel_rfl
theorem ag103 : aggB Try.prog 103 = some false := by kernel_rfl
theorem ag104 : aggB Try.prog 104 = some false := by kernel_rfl
theorem ag105 : aggB Try.prog 105 = some false := by kernel_rfl
theorem ag106 : aggB Try.prog 106 = some false := by kernel_rfl
theorem ag107 : aggB Try.prog 107 = some false := by kernel_rfl
theorem ag108 : aggB Try.prog 108 = some false := by kernel_rfl
theorem ag109 : aggB Try.prog 109 = some false := by kernel_rfl
theorem ag110 : aggB Try.prog 110 = some false := by kernel_rfl
theorem ag111 : aggB Try.prog 111 = some false := by kernel_rfl
theorem ag112 : aggB Try.prog 112 = some false := by kernel_rfl
theorem ag113 : aggB Try.prog 113 = some false := by kernel_rfl
theorem ag114 : aggB Try.prog 114 = some false := by kernel_rfl
theorem ag115 : aggB Try.prog 115 = some false := by kernel_rfl
theorem ag116 : aggB Try.prog 116 = some false := by kernel_rfl
theorem ag117 : aggB Try.prog 117 = some false := by kernel_rfl
theorem ag118 : aggB Try.prog 118 = some false := by kernel_rfl
theorem ag119 : aggB Try.prog 119 = some false := by kernel_rfl
theorem ag120 : aggB Try.prog 120 = some false := by kernel_rfl
theorem ag121 : aggB Try.prog 121 = some false := by kernel_rfl
theorem ag122 : aggB Try.prog 122 = some true := by kernel_rfl
theorem ag123 : aggB Try.prog 123 = some true := by kernel_rfl
theorem ag124 : aggB Try.prog 124 = some true := by kernel_rfl
theorem ag125 : aggB Try.prog 125 = some true := by kernel_rfl
theorem ag126 : aggB Try.prog 126 = some true := by kernel_rfl
theorem ag127 : aggB Try.prog 127 = some false := by kernel_rfl
theorem ag128 : aggB Try.prog 128 = some false := by kernel_rfl
theorem ag129 : aggB Try.prog 129 = some false := by kernel_rfl
theorem ag130 : aggB Try.prog 130 = some false := by kernel_rfl
theorem ag131 : aggB Try.prog 131 = some false := by kernel_rfl
theorem ag132 : aggB Try.prog 132 = some false := by kernel_rfl
theorem ag133 : aggB Try.prog 133 = some false := by kernel_rfl
theorem ag134 : aggB Try.prog 134 = some true := by kernel_rfl
theorem ag135 : aggB Try.prog 135 = some true := by kernel_rfl
def agList : List (TypeRow (Bool) (aggB Try.prog)) :=
  [⟨0, false, ag0⟩,
   ⟨1, false, ag1⟩,
   ⟨2, false, ag2⟩,
   ⟨3, false, ag3⟩,
   ⟨4, false, ag4⟩,
   ⟨5, false, ag5⟩,
   ⟨6, false, ag6⟩,
   ⟨7, true, ag7⟩,
   ⟨8, true, ag8⟩,
   ⟨9, false, ag9⟩,
   ⟨10, false, ag10⟩,
   ⟨11, false, ag11⟩,
   ⟨12, false, ag12⟩,
   ⟨13, true, ag13⟩,
   ⟨14, true, ag14⟩,
   ⟨15, false, ag15⟩,
   ⟨16, false, ag16⟩,
   ⟨17, false, ag17⟩,
   ⟨18, true, ag18⟩,
   ⟨19, true, ag19⟩,
   ⟨20, false, ag20⟩,
   ⟨21, false, ag21⟩,
   ⟨22, false, ag22⟩,
   ⟨23, false, ag23⟩,
   ⟨24, false, ag24⟩,
   ⟨25, false, ag25⟩,
   ⟨26, false, ag26⟩,
   ⟨27, false, ag27⟩,
   ⟨28, false, ag28⟩,
   ⟨29, false, ag29⟩,
   ⟨30, false, ag30⟩,
   ⟨31, false, ag31⟩,
   ⟨32, false, ag32⟩,
   ⟨33, false, ag33⟩,
   ⟨34, false, ag34⟩,
   ⟨35, false, ag35⟩,
   ⟨36, false, ag36⟩,
   ⟨37, false, ag37⟩,
   ⟨38, false, ag38⟩,
   ⟨39, true, ag39⟩,
   ⟨40, false, ag40⟩,
   ⟨41, false, ag41⟩,
   ⟨42, false, ag42⟩,
   ⟨43, false, ag43⟩,
   ⟨44, false, ag44⟩,
   ⟨45, true, ag45⟩,
   ⟨46, true, ag46⟩,
   ⟨47, false, ag47⟩,
   ⟨48, false, ag48⟩,
   ⟨49, false, ag49⟩,
   ⟨50, false, ag50⟩,
   ⟨51, false, ag51⟩,
   ⟨52, false, ag52⟩,
   ⟨53, false, ag53⟩,
   ⟨54, false, ag54⟩,
   ⟨55, false, ag55⟩,
   ⟨56, false, ag56⟩,
   ⟨57, false, ag57⟩,
   ⟨58, true, ag58⟩,
   ⟨59, true, ag59⟩,
   ⟨60, false, ag60⟩,
   ⟨61, false, ag61⟩,
   ⟨62, false, ag62⟩,
   ⟨63, false, ag63⟩,
   ⟨64, false, ag64⟩,
   ⟨65, true, ag65⟩,
   ⟨66, true, ag66⟩,
   ⟨67, true, ag67⟩,
   ⟨68, true, ag68⟩,
   ⟨69, true, ag69⟩,
   ⟨70, false, ag70⟩,
   ⟨71, false, ag71⟩,
   ⟨72, false, ag72⟩,
   ⟨73, false, ag73⟩,
   ⟨74, false, ag74⟩,
   ⟨75, false, ag75⟩,
   ⟨76, true, ag76⟩,
   ⟨77, true, ag77⟩,
   ⟨78, true, ag78⟩,
   ⟨79, true, ag79⟩,
   ⟨80, false, ag80⟩,
   ⟨81, false, ag81⟩,
   ⟨82, false, ag82⟩,
   ⟨83, true, ag83⟩,
   ⟨84, false, ag84⟩,
   ⟨85, false, ag85⟩,
   ⟨86, false, ag86⟩,
   ⟨87, false, ag87⟩,
   ⟨88, true, ag88⟩,
   ⟨89, false, ag89⟩,
   ⟨90, false, ag90⟩,
   ⟨91, false, ag91⟩,
   ⟨92, false, ag92⟩,
   ⟨93, false, ag93⟩,
   ⟨94, false, ag94⟩,
   ⟨95, false, ag95⟩,
   ⟨96, false, ag96⟩,
   ⟨97, false, ag97⟩,
   ⟨98, false, ag98⟩,
   ⟨99, false, ag99⟩,
   ⟨100, false, ag100⟩,
   ⟨101, false, ag101⟩,
   ⟨102, false, ag102⟩,
   ⟨103, false, ag103⟩,
   ⟨104, false, ag104⟩,
   ⟨105, false, ag105⟩,
   ⟨106, false, ag106⟩,
   ⟨107, false, ag107⟩,
   ⟨108, false, ag108⟩,
   ⟨109, false, ag109⟩,
   ⟨110, false, ag110⟩,
   ⟨111, false, ag111⟩,
   ⟨112, false, ag112⟩,
   ⟨113, false, ag113⟩,
   ⟨114, false, ag114⟩,
   ⟨115, false, ag115⟩,
   ⟨116, false, ag116⟩,
   ⟨117, false, ag117⟩,
   ⟨118, false, ag118⟩,
   ⟨119, false, ag119⟩,
   ⟨120, false, ag120⟩,
   ⟨121, false, ag121⟩,
   ⟨122, true, ag122⟩,
   ⟨123, true, ag123⟩,
   ⟨124, true, ag124⟩,
   ⟨125, true, ag125⟩,
   ⟨126, true, ag126⟩,
   ⟨127, false, ag127⟩,
   ⟨128, false, ag128⟩,
   ⟨129, false, ag129⟩,
   ⟨130, false, ag130⟩,
   ⟨131, false, ag131⟩,
   ⟨132, false, ag132⟩,
   ⟨133, false, ag133⟩,
   ⟨134, true, ag134⟩,
   ⟨135, true, ag135⟩]
def agTab (T : Nat) : Option (Bool) := lookRow agList T
theorem agOf {T : Nat} {x : Bool} (h : agTab T = some x) : aggB Try.prog T = some x := lookRow_of h
theorem sz0 : szB Try.prog 0 = some 1 := by kernel_rfl
theorem sz1 : szB Try.prog 1 = some 1 := by kernel_rfl
theorem sz2 : szB Try.prog 2 = some 1 := by kernel_rfl
theorem sz3 : szB Try.prog 3 = some 1 := by kernel_rfl
theorem sz4 : szB Try.prog 4 = some 1 := by kernel_rfl
theorem sz5 : szB Try.prog 5 = some 1 := by kernel_rfl
theorem sz6 : szB Try.prog 6 = some 1 := by kernel_rfl
theorem sz7 : szB Try.prog 7 = some 4 := by kernel_rfl
theorem sz8 : szB Try.prog 8 = some 4 := by kernel_rfl
theorem sz9 : szB Try.prog 9 = some 1 := by kernel_rfl
theorem sz10 : szB Try.prog 10 = some 1 := by kernel_rfl
theorem sz11 : szB Try.prog 11 = some 1 := by kernel_rfl
theorem sz12 : szB Try.prog 12 = some 1 := by kernel_rfl
theorem sz13 : szB Try.prog 13 = some 2 := by kernel_rfl
theorem sz14 : szB Try.prog 14 = some 2 := by kernel_rfl
theorem sz15 : szB Try.prog 15 = some 1 := by kernel_rfl
theorem sz16 : szB Try.prog 16 = some 1 := by kernel_rfl
theorem sz17 : szB Try.prog 17 = some 1 := by kernel_rfl
theorem sz18 : szB Try.prog 18 = some 1 := by kernel_rfl
theorem sz19 : szB Try.prog 19 = some 1 := by kernel_rfl
theorem sz20 : szB Try.prog 20 = some 1 := by kernel_rfl
theorem sz21 : szB Try.prog 21 = some 1 := by kernel_rfl
theorem sz22 : szB Try.prog 22 = some 1 := by kernel_rfl
theorem sz23 : szB Try.prog 23 = some 1 := by kernel_rfl
theorem sz24 : szB Try.prog 24 = some 1 := by kernel_rfl
theorem sz25 : szB Try.prog 25 = some 1 := by kernel_rfl
theorem sz26 : szB Try.prog 26 = some 1 := by kernel_rfl
theorem sz27 : szB Try.prog 27 = some 1 := by kernel_rfl
theorem sz28 : szB Try.prog 28 = some 1 := by kernel_rfl
theorem sz29 : szB Try.prog 29 = some 1 := by kernel_rfl
theorem sz30 : szB Try.prog 30 = some 1 := by kernel_rfl
theorem sz31 : szB Try.prog 31 = some 1 := by kernel_rfl
theorem sz32 : szB Try.prog 32 = some 1 := by kernel_rfl
theorem sz33 : szB Try.prog 33 = some 1 := by kernel_rfl
theorem sz34 : szB Try.prog 34 = some 1 := by kernel_rfl
theorem sz35 : szB Try.prog 35 = some 1 := by kernel_rfl
theorem sz36 : szB Try.prog 36 = some 1 := by kernel_rfl
theorem sz37 : szB Try.prog 37 = some 1 := by kernel_rfl
theorem sz38 : szB Try.prog 38 = some 1 := by kernel_rfl
theorem sz39 : szB Try.prog 39 = some 20 := by kernel_rfl
theorem sz40 : szB Try.prog 40 = some 1 := by kernel_rfl
theorem sz41 : szB Try.prog 41 = some 1 := by kernel_rfl
theorem sz42 : szB Try.prog 42 = some 1 := by kernel_rfl
theorem sz43 : szB Try.prog 43 = some 1 := by kernel_rfl
theorem sz44 : szB Try.prog 44 = some 1 := by kernel_rfl
theorem sz45 : szB Try.prog 45 = some 5 := by kernel_rfl
theorem sz46 : szB Try.prog 46 = some 5 := by kernel_rfl
theorem sz47 : szB Try.prog 47 = some 1 := by kernel_rfl
theorem sz48 : szB Try.prog 48 = some 1 := by kernel_rfl
theorem sz49 : szB Try.prog 49 = some 1 := by kernel_rfl
theorem sz50 : szB Try.prog 50 = some 1 := by kernel_rfl
theorem sz51 : szB Try.prog 51 = some 1 := by kernel_rfl
theorem sz52 : szB Try.prog 52 = some 1 := by kernel_rfl
theorem sz53 : szB Try.prog 53 = some 1 := by kernel_rfl
theorem sz54 : szB Try.prog 54 = some 1 := by kernel_rfl
theorem sz55 : szB Try.prog 55 = some 1 := by kernel_rfl
theorem sz56 : szB Try.prog 56 = some 1 := by kernel_rfl
theorem sz57 : szB Try.prog 57 = some 1 := by kernel_rfl
theorem sz58 : szB Try.prog 58 = some 2 := by kernel_rfl
theorem sz59 : szB Try.prog 59 = some 2 := by kernel_rfl
theorem sz60 : szB Try.prog 60 = some 1 := by kernel_rfl
theorem sz61 : szB Try.prog 61 = some 1 := by kernel_rfl
theorem sz62 : szB Try.prog 62 = some 1 := by kernel_rfl
theorem sz63 : szB Try.prog 63 = some 1 := by kernel_rfl
theorem sz64 : szB Try.prog 64 = some 1 := by kernel_rfl
theorem sz65 : szB Try.prog 65 = some 3 := by kernel_rfl
theorem sz66 : szB Try.prog 66 = some 3 := by kernel_rfl
theorem sz67 : szB Try.prog 67 = some 144 := by kernel_rfl
theorem sz68 : szB Try.prog 68 = some 145 := by kernel_rfl
theorem sz69 : szB Try.prog 69 = some 145 := by kernel_rfl
theorem sz70 : szB Try.prog 70 = some 1 := by kernel_rfl
theorem sz71 : szB Try.prog 71 = some 1 := by kernel_rfl
theorem sz72 : szB Try.prog 72 = some 1 := by kernel_rfl
theorem sz73 : szB Try.prog 73 = some 1 := by kernel_rfl
theorem sz74 : szB Try.prog 74 = some 1 := by kernel_rfl
theorem sz75 : szB Try.prog 75 = some 1 := by kernel_rfl
theorem sz76 : szB Try.prog 76 = some 48 := by kernel_rfl
theorem sz77 : szB Try.prog 77 = some 48 := by kernel_rfl
theorem sz78 : szB Try.prog 78 = some 97 := by kernel_rfl
theorem sz79 : szB Try.prog 79 = some 97 := by kernel_rfl
theorem sz80 : szB Try.prog 80 = some 1 := by kernel_rfl
theorem sz81 : szB Try.prog 81 = some 1 := by kernel_rfl
theorem sz82 : szB Try.prog 82 = some 1 := by kernel_rfl
theorem sz83 : szB Try.prog 83 = some 6 := by kernel_rfl
theorem sz84 : szB Try.prog 84 = some 1 := by kernel_rfl
theorem sz85 : szB Try.prog 85 = some 1 := by kernel_rfl
theorem sz86 : szB Try.prog 86 = some 1 := by kernel_rfl
theorem sz87 : szB Try.prog 87 = some 1 := by kernel_rfl
theorem sz88 : szB Try.prog 88 = some 48 := by kernel_rfl
theorem sz89 : szB Try.prog 89 = some 1 := by kernel_rfl
theorem sz90 : szB Try.prog 90 = some 1 := by kernel_rfl
theorem sz91 : szB Try.prog 91 = some 1 := by kernel_rfl
theorem sz92 : szB Try.prog 92 = some 1 := by kernel_rfl
theorem sz93 : szB Try.prog 93 = some 1 := by kernel_rfl
theorem sz94 : szB Try.prog 94 = some 1 := by kernel_rfl
theorem sz95 : szB Try.prog 95 = some 1 := by kernel_rfl
theorem sz96 : szB Try.prog 96 = some 1 := by kernel_rfl
theorem sz97 : szB Try.prog 97 = some 1 := by kernel_rfl
theorem sz98 : szB Try.prog 98 = some 1 := by kernel_rfl
theorem sz99 : szB Try.prog 99 = some 1 := by kernel_rfl
theorem sz100 : szB Try.prog 100 = some 1 := by kernel_rfl
theorem sz101 : szB Try.prog 101 = some 1 := by kernel_rfl
theorem sz102 : szB Try.prog 102 = some 1 := by kernel_rfl
theorem sz103 : szB Try.prog 103 = some 1 := by kernel_rfl
theorem sz104 : szB Try.prog 104 = some 1 := by kernel_rfl
theorem sz105 : szB Try.prog 105 = some 1 := by kernel_rfl
theorem sz106 : szB Try.prog 106 = some 1 := by kernel_rfl
theorem sz107 : szB Try.prog 107 = some 1 := by kernel_rfl
theorem sz108 : szB Try.prog 108 = some 1 := by kernel_rfl
theorem sz109 : szB Try.prog 109 = some 1 := by kernel_rfl
theorem sz110 : szB Try.prog 110 = some 1 := by kernel_rfl
theorem sz111 : szB Try.prog 111 = some 1 := by kernel_rfl
theorem sz112 : szB Try.prog 112 = some 1 := by kernel_rfl
theorem sz113 : szB Try.prog 113 = some 1 := by kernel_rfl
theorem sz114 : szB Try.prog 114 = some 1 := by kernel_rfl
theorem sz115 : szB Try.prog 115 = some 1 := by kernel_rfl
theorem sz116 : szB Try.prog 116 = some 1 := by kernel_rfl
theorem sz117 : szB Try.prog 117 = some 1 := by kernel_rfl
theorem sz118 : szB Try.prog 118 = some 1 := by kernel_rfl
theorem sz119 : szB Try.prog 119 = some 1 := by kernel_rfl
theorem sz120 : szB Try.prog 120 = some 1 := by kernel_rfl
theorem sz121 : szB Try.prog 121 = some 1 := by kernel_rfl
theorem sz122 : szB Try.prog 122 = some 4 := by kernel_rfl
theorem sz123 : szB Try.prog 123 = some 4 := by kernel_rfl
theorem sz124 : szB Try.prog 124 = some 0 := by kernel_rfl
theorem sz125 : szB Try.prog 125 = some 0 := by kernel_rfl
theorem sz126 : szB Try.prog 126 = some 0 := by kernel_rfl
theorem sz127 : szB Try.prog 127 = some 1 := by kernel_rfl
theorem sz128 : szB Try.prog 128 = some 1 := by kernel_rfl
theorem sz129 : szB Try.prog 129 = some 1 := by kernel_rfl
theorem sz130 : szB Try.prog 130 = some 1 := by kernel_rfl
theorem sz131 : szB Try.prog 131 = some 1 := by kernel_rfl
theorem sz132 : szB Try.prog 132 = some 1 := by kernel_rfl
theorem sz133 : szB Try.prog 133 = some 1 := by kernel_rfl
theorem sz134 : szB Try.prog 134 = some 11 := by kernel_rfl
theorem sz135 : szB Try.prog 135 = some 11 := by kernel_rfl
def szList : List (TypeRow (Nat) (szB Try.prog)) :=
  [⟨0, 1, sz0⟩,
   ⟨1, 1, sz1⟩,
   ⟨2, 1, sz2⟩,
   ⟨3, 1, sz3⟩,
   ⟨4, 1, sz4⟩,
   ⟨5, 1, sz5⟩,
   ⟨6, 1, sz6⟩,
   ⟨7, 4, sz7⟩,
   ⟨8, 4, sz8⟩,
   ⟨9, 1, sz9⟩,
   ⟨10, 1, sz10⟩,
   ⟨11, 1, sz11⟩,
   ⟨12, 1, sz12⟩,
   ⟨13, 2, sz13⟩,
   ⟨14, 2, sz14⟩,
   ⟨15, 1, sz15⟩,
   ⟨16, 1, sz16⟩,
   ⟨17, 1, sz17⟩,
   ⟨18, 1, sz18⟩,
   ⟨19, 1, sz19⟩,
   ⟨20, 1, sz20⟩,
   ⟨21, 1, sz21⟩,
   ⟨22, 1, sz22⟩,
   ⟨23, 1, sz23⟩,
   ⟨24, 1, sz24⟩,
   ⟨25, 1, sz25⟩,
   ⟨26, 1, sz26⟩,
   ⟨27, 1, sz27⟩,
   ⟨28, 1, sz28⟩,
   ⟨29, 1, sz29⟩,
   ⟨30, 1, sz30⟩,
   ⟨31, 1, sz31⟩,
   ⟨32, 1, sz32⟩,
   ⟨33, 1, sz33⟩,
   ⟨34, 1, sz34⟩,
   ⟨35, 1, sz35⟩,
   ⟨36, 1, sz36⟩,
   ⟨37, 1, sz37⟩,
   ⟨38, 1, sz38⟩,
   ⟨39, 20, sz39⟩,
   ⟨40, 1, sz40⟩,
   ⟨41, 1, sz41⟩,
   ⟨42, 1, sz42⟩,
   ⟨43, 1, sz43⟩,
   ⟨44, 1, sz44⟩,
   ⟨45, 5, sz45⟩,
   ⟨46, 5, sz46⟩,
   ⟨47, 1, sz47⟩,
   ⟨48, 1, sz48⟩,
   ⟨49, 1, sz49⟩,
   ⟨50, 1, sz50⟩,
   ⟨51, 1, sz51⟩,
   ⟨52, 1, sz52⟩,
   ⟨53, 1, sz53⟩,
   ⟨54, 1, sz54⟩,
   ⟨55, 1, sz55⟩,
   ⟨56, 1, sz56⟩,
   ⟨57, 1, sz57⟩,
   ⟨58, 2, sz58⟩,
   ⟨59, 2, sz59⟩,
   ⟨60, 1, sz60⟩,
   ⟨61, 1, sz61⟩,
   ⟨62, 1, sz62⟩,
   ⟨63, 1, sz63⟩,
   ⟨64, 1, sz64⟩,
   ⟨65, 3, sz65⟩,
   ⟨66, 3, sz66⟩,
   ⟨67, 144, sz67⟩,
   ⟨68, 145, sz68⟩,
   ⟨69, 145, sz69⟩,
   ⟨70, 1, sz70⟩,
   ⟨71, 1, sz71⟩,
   ⟨72, 1, sz72⟩,
   ⟨73, 1, sz73⟩,
   ⟨74, 1, sz74⟩,
   ⟨75, 1, sz75⟩,
   ⟨76, 48, sz76⟩,
   ⟨77, 48, sz77⟩,
   ⟨78, 97, sz78⟩,
   ⟨79, 97, sz79⟩,
   ⟨80, 1, sz80⟩,
   ⟨81, 1, sz81⟩,
   ⟨82, 1, sz82⟩,
   ⟨83, 6, sz83⟩,
   ⟨84, 1, sz84⟩,
   ⟨85, 1, sz85⟩,
   ⟨86, 1, sz86⟩,
   ⟨87, 1, sz87⟩,
   ⟨88, 48, sz88⟩,
   ⟨89, 1, sz89⟩,
   ⟨90, 1, sz90⟩,
   ⟨91, 1, sz91⟩,
   ⟨92, 1, sz92⟩,
   ⟨93, 1, sz93⟩,
   ⟨94, 1, sz94⟩,
   ⟨95, 1, sz95⟩,
   ⟨96, 1, sz96⟩,
   ⟨97, 1, sz97⟩,
   ⟨98, 1, sz98⟩,
   ⟨99, 1, sz99⟩,
   ⟨100, 1, sz100⟩,
   ⟨101, 1, sz101⟩,
   ⟨102, 1, sz102⟩,
   ⟨103, 1, sz103⟩,
   ⟨104, 1, sz104⟩,
   ⟨105, 1, sz105⟩,
   ⟨106, 1, sz106⟩,
   ⟨107, 1, sz107⟩,
   ⟨108, 1, sz108⟩,
   ⟨109, 1, sz109⟩,
   ⟨110, 1, sz110⟩,
   ⟨111, 1, sz111⟩,
   ⟨112, 1, sz112⟩,
   ⟨113, 1, sz113⟩,
   ⟨114, 1, sz114⟩,
   ⟨115, 1, sz115⟩,
   ⟨116, 1, sz116⟩,
   ⟨117, 1, sz117⟩,
   ⟨118, 1, sz118⟩,
   ⟨119, 1, sz119⟩,
   ⟨120, 1, sz120⟩,
   ⟨121, 1, sz121⟩,
   ⟨122, 4, sz122⟩,
   ⟨123, 4, sz123⟩,
   ⟨124, 0, sz124⟩,
   ⟨125, 0, sz125⟩,
   ⟨126, 0, sz126⟩,
   ⟨127, 1, sz127⟩,
   ⟨128, 1, sz128⟩,
   ⟨129, 1, sz129⟩,
   ⟨130, 1, sz130⟩,
   ⟨131, 1, sz131⟩,
   ⟨132, 1, sz132⟩,
   ⟨133, 1, sz133⟩,
   ⟨134, 11, sz134⟩,
   ⟨135, 11, sz135⟩]
def szTab (T : Nat) : Option (Nat) := lookRow szList T
theorem szOf {T : Nat} {x : Nat} (h : szTab T = some x) : szB Try.prog T = some x := lookRow_of h
theorem zr1 : zeroB Try.prog 1 = some (some (Value.nilFunc)) := by kernel_rfl
theorem zr2 : zeroB Try.prog 2 = some (some (Value.int .i64 0)) := by kernel_rfl
theorem zr3 : zeroB Try.prog 3 = some (some (Value.int .i64 0)) := by kernel_rfl
theorem zr4 : zeroB Try.prog 4 = some (some (Value.bool false)) := by kernel_rfl
theorem zr5 : zeroB Try.prog 5 = some (some (Value.int .u8 0)) := by kernel_rfl
theorem zr6 : zeroB Try.prog 6 = some (some (Value.int .u8 0)) := by kernel_rfl
theorem zr7 : zeroB Try.prog 7 = some (some (Value.agg #[Value.int .i64 0, Value.int .i64 0, Value.bool false, Value.int .u8 0])) := by kernel_rfl
theorem zr8 : zeroB Try.prog 8 = some (some (Value.agg #[Value.int .i64 0, Value.int .i64 0, Value.bool false, Value.int .u8 0])) := by kernel_rfl
theorem zr9 : zeroB Try.prog 9 = some (some (Value.string ByteArray.empty)) := by kernel_rfl
theorem zr10 : zeroB Try.prog 10 = some (some (Value.string ByteArray.empty)) := by kernel_rfl
theorem zr11 : zeroB Try.prog 11 = some (some (Value.string ByteArray.empty)) := by kernel_rfl
theorem zr12 : zeroB Try.prog 12 = some (some (Value.int .u64 0)) := by kernel_rfl
theorem zr13 : zeroB Try.prog 13 = some (some (Value.agg #[Value.string ByteArray.empty, Value.int .u64 0])) := by kernel_rfl
theorem zr14 : zeroB Try.prog 14 = some (some (Value.agg #[Value.string ByteArray.empty, Value.int .u64 0])) := by kernel_rfl
theorem zr15 : zeroB Try.prog 15 = some (some (Value.pointer none)) := by kernel_rfl
theorem zr16 : zeroB Try.prog 16 = some (some (Value.pointer none)) := by kernel_rfl
theorem zr17 : zeroB Try.prog 17 = some (some (Value.pointer none)) := by kernel_rfl
theorem zr18 : zeroB Try.prog 18 = some (some (Value.agg #[Value.pointer none])) := by kernel_rfl
theorem zr19 : zeroB Try.prog 19 = some (some (Value.agg #[Value.pointer none])) := by kernel_rfl
theorem zr20 : zeroB Try.prog 20 = some (some (Value.nilIface)) := by kernel_rfl
theorem zr21 : zeroB Try.prog 21 = some (some (Value.int .i32 0)) := by kernel_rfl
theorem zr22 : zeroB Try.prog 22 = some (some (Value.pointer none)) := by kernel_rfl
theorem zr23 : zeroB Try.prog 23 = some (some (Value.nilFunc)) := by kernel_rfl
theorem zr24 : zeroB Try.prog 24 = some (some (Value.int .i64 0)) := by kernel_rfl
theorem zr26 : zeroB Try.prog 26 = some (some (Value.nilFunc)) := by kernel_rfl
theorem zr27 : zeroB Try.prog 27 = some (some (Value.slice none 0 0)) := by kernel_rfl
theorem zr28 : zeroB Try.prog 28 = some (some (Value.slice none 0 0)) := by kernel_rfl
theorem zr30 : zeroB Try.prog 30 = some (some (Value.nilFunc)) := by kernel_rfl
theorem zr31 : zeroB Try.prog 31 = some (some (Value.nilFunc)) := by kernel_rfl
theorem zr32 : zeroB Try.prog 32 = some (some (Value.nilFunc)) := by kernel_rfl
theorem zr33 : zeroB Try.prog 33 = some (some (Value.nilFunc)) := by kernel_rfl
theorem zr34 : zeroB Try.prog 34 = some (some (Value.nilFunc)) := by kernel_rfl
theorem zr35 : zeroB Try.prog 35 = some (some (Value.nilFunc)) := by kernel_rfl
theorem zr36 : zeroB Try.prog 36 = some (some (Value.slice none 0 0)) := by kernel_rfl
theorem zr37 : zeroB Try.prog 37 = some (some (Value.nilFunc)) := by kernel_rfl
theorem zr38 : zeroB Try.prog 38 = some (some (Value.nilFunc)) := by kernel_rfl
theorem zr39 : zeroB Try.prog 39 = some (some (Value.agg (List.replicate 20 (Value.bool false)).toArray)) := by kernel_rfl
theorem zr40 : zeroB Try.prog 40 = some (some (Value.nilFunc)) := by kernel_rfl
theorem zr41 : zeroB Try.prog 41 = some (some (Value.slice none 0 0)) := by kernel_rfl
theorem zr42 : zeroB Try.prog 42 = some (some (Value.pointer none)) := by kernel_rfl
theorem zr43 : zeroB Try.prog 43 = some (some (Value.nilFunc)) := by kernel_rfl
theorem zr44 : zeroB Try.prog 44 = some (some (Value.nilFunc)) := by kernel_rfl
theorem zr45 : zeroB Try.prog 45 = some (some (Value.agg #[Value.int .i64 0, Value.slice none 0 0, Value.slice none 0 0, Value.int .i64 0, Value.slice none 0 0])) := by kernel_rfl
theorem zr46 : zeroB Try.prog 46 = some (some (Value.agg #[Value.int .i64 0, Value.slice none 0 0, Value.slice none 0 0, Value.int .i64 0, Value.slice none 0 0])) := by kernel_rfl
theorem zr47 : zeroB Try.prog 47 = some (some (Value.nilFunc)) := by kernel_rfl
theorem zr48 : zeroB Try.prog 48 = some (some (Value.nilFunc)) := by kernel_rfl
theorem zr49 : zeroB Try.prog 49 = some (some (Value.nilFunc)) := by kernel_rfl
theorem zr50 : zeroB Try.prog 50 = some (some (Value.nilFunc)) := by kernel_rfl
theorem zr51 : zeroB Try.prog 51 = some (some (Value.slice none 0 0)) := by kernel_rfl
theorem zr52 : zeroB Try.prog 52 = some (some (Value.nilFunc)) := by kernel_rfl
theorem zr54 : zeroB Try.prog 54 = some (some (Value.nilFunc)) := by kernel_rfl
theorem zr55 : zeroB Try.prog 55 = some (some (Value.nilFunc)) := by kernel_rfl
theorem zr56 : zeroB Try.prog 56 = some (some (Value.nilFunc)) := by kernel_rfl
theorem zr57 : zeroB Try.prog 57 = some (some (Value.slice none 0 0)) := by kernel_rfl
theorem zr58 : zeroB Try.prog 58 = some (some (Value.agg #[Value.string ByteArray.empty, Value.int .i64 0])) := by kernel_rfl
theorem zr59 : zeroB Try.prog 59 = some (some (Value.agg #[Value.string ByteArray.empty, Value.int .i64 0])) := by kernel_rfl
theorem zr61 : zeroB Try.prog 61 = some (some (Value.nilFunc)) := by kernel_rfl
theorem zr62 : zeroB Try.prog 62 = some (some (Value.nilFunc)) := by kernel_rfl
theorem zr63 : zeroB Try.prog 63 = some (some (Value.nilFunc)) := by kernel_rfl
theorem zr64 : zeroB Try.prog 64 = some (some (Value.nilFunc)) := by kernel_rfl
theorem zr65 : zeroB Try.prog 65 = some (some (Value.agg #[Value.int .i64 0, Value.int .i64 0, Value.slice none 0 0])) := by kernel_rfl
theorem zr66 : zeroB Try.prog 66 = some (some (Value.agg #[Value.int .i64 0, Value.int .i64 0, Value.slice none 0 0])) := by kernel_rfl
theorem zr67 : zeroB Try.prog 67 = some (some (Value.agg ([Value.int .i64 0, Value.int .i64 0, Value.slice none 0 0, Value.int .i64 0, Value.int .i64 0, Value.slice none 0 0, Value.int .i64 0, Value.int .i64 0, Value.slice none 0 0, Value.int .i64 0, Value.int .i64 0, Value.slice none 0 0, Value.int .i64 0, Value.int .i64 0, Value.slice none 0 0, Value.int .i64 0, Value.int .i64 0, Value.slice none 0 0, Value.int .i64 0, Value.int .i64 0, Value.slice none 0 0, Value.int .i64 0, Value.int .i64 0, Value.slice none 0 0, Value.int .i64 0, Value.int .i64 0, Value.slice none 0 0, Value.int .i64 0, Value.int .i64 0, Value.slice none 0 0, Value.int .i64 0, Value.int .i64 0, Value.slice none 0 0, Value.int .i64 0, Value.int .i64 0, Value.slice none 0 0, Value.int .i64 0, Value.int .i64 0, Value.slice none 0 0, Value.int .i64 0, Value.int .i64 0, Value.slice none 0 0, Value.int .i64 0, Value.int .i64 0, Value.slice none 0 0, Value.int .i64 0, Value.int .i64 0, Value.slice none 0 0, Value.int .i64 0, Value.int .i64 0, Value.slice none 0 0, Value.int .i64 0, Value.int .i64 0, Value.slice none 0 0, Value.int .i64 0, Value.int .i64 0, Value.slice none 0 0, Value.int .i64 0, Value.int .i64 0, Value.slice none 0 0, Value.int .i64 0, Value.int .i64 0, Value.slice none 0 0, Value.int .i64 0, Value.int .i64 0, Value.slice none 0 0, Value.int .i64 0, Value.int .i64 0, Value.slice none 0 0, Value.int .i64 0, Value.int .i64 0, Value.slice none 0 0, Value.int .i64 0, Value.int .i64 0, Value.slice none 0 0, Value.int .i64 0, Value.int .i64 0, Value.slice none 0 0, Value.int .i64 0, Value.int .i64 0, Value.slice none 0 0, Value.int .i64 0, Value.int .i64 0, Value.slice none 0 0, Value.int .i64 0, Value.int .i64 0, Value.slice none 0 0, Value.int .i64 0, Value.int .i64 0, Value.slice none 0 0, Value.int .i64 0, Value.int .i64 0, Value.slice none 0 0, Value.int .i64 0, Value.int .i64 0, Value.slice none 0 0, Value.int .i64 0, Value.int .i64 0, Value.slice none 0 0, Value.int .i64 0, Value.int .i64 0, Value.slice none 0 0, Value.int .i64 0, Value.int .i64 0, Value.slice none 0 0, Value.int .i64 0, Value.int .i64 0, Value.slice none 0 0, Value.int .i64 0, Value.int .i64 0, Value.slice none 0 0, Value.int .i64 0, Value.int .i64 0, Value.slice none 0 0, Value.int .i64 0, Value.int .i64 0, Value.slice none 0 0, Value.int .i64 0, Value.int .i64 0, Value.slice none 0 0, Value.int .i64 0, Value.int .i64 0, Value.slice none 0 0, Value.int .i64 0, Value.int .i64 0, Value.slice none 0 0, Value.int .i64 0, Value.int .i64 0, Value.slice none 0 0, Value.int .i64 0, Value.int .i64 0, Value.slice none 0 0, Value.int .i64 0, Value.int .i64 0, Value.slice none 0 0, Value.int .i64 0, Value.int .i64 0, Value.slice none 0 0, Value.int .i64 0, Value.int .i64 0, Value.slice none 0 0, Value.int .i64 0, Value.int .i64 0, Value.slice none 0 0]).toArray)) := by kernel_rfl
theorem zr68 : zeroB Try.prog 68 = some (some (Value.agg ([Value.int .i64 0, Value.int .i64 0, Value.slice none 0 0, Value.int .i64 0, Value.int .i64 0, Value.slice none 0 0, Value.int .i64 0, Value.int .i64 0, Value.slice none 0 0, Value.int .i64 0, Value.int .i64 0, Value.slice none 0 0, Value.int .i64 0, Value.int .i64 0, Value.slice none 0 0, Value.int .i64 0, Value.int .i64 0, Value.slice none 0 0, Value.int .i64 0, Value.int .i64 0, Value.slice none 0 0, Value.int .i64 0, Value.int .i64 0, Value.slice none 0 0, Value.int .i64 0, Value.int .i64 0, Value.slice none 0 0, Value.int .i64 0, Value.int .i64 0, Value.slice none 0 0, Value.int .i64 0, Value.int .i64 0, Value.slice none 0 0, Value.int .i64 0, Value.int .i64 0, Value.slice none 0 0, Value.int .i64 0, Value.int .i64 0, Value.slice none 0 0, Value.int .i64 0, Value.int .i64 0, Value.slice none 0 0, Value.int .i64 0, Value.int .i64 0, Value.slice none 0 0, Value.int .i64 0, Value.int .i64 0, Value.slice none 0 0, Value.int .i64 0, Value.int .i64 0, Value.slice none 0 0, Value.int .i64 0, Value.int .i64 0, Value.slice none 0 0, Value.int .i64 0, Value.int .i64 0, Value.slice none 0 0, Value.int .i64 0, Value.int .i64 0, Value.slice none 0 0, Value.int .i64 0, Value.int .i64 0, Value.slice none 0 0, Value.int .i64 0, Value.int .i64 0, Value.slice none 0 0, Value.int .i64 0, Value.int .i64 0, Value.slice none 0 0, Value.int .i64 0, Value.int .i64 0, Value.slice none 0 0, Value.int .i64 0, Value.int .i64 0, Value.slice none 0 0, Value.int .i64 0, Value.int .i64 0, Value.slice none 0 0, Value.int .i64 0, Value.int .i64 0, Value.slice none 0 0, Value.int .i64 0, Value.int .i64 0, Value.slice none 0 0, Value.int .i64 0, Value.int .i64 0, Value.slice none 0 0, Value.int .i64 0, Value.int .i64 0, Value.slice none 0 0, Value.int .i64 0, Value.int .i64 0, Value.slice none 0 0, Value.int .i64 0, Value.int .i64 0, Value.slice none 0 0, Value.int .i64 0, Value.int .i64 0, Value.slice none 0 0, Value.int .i64 0, Value.int .i64 0, Value.slice none 0 0, Value.int .i64 0, Value.int .i64 0, Value.slice none 0 0, Value.int .i64 0, Value.int .i64 0, Value.slice none 0 0, Value.int .i64 0, Value.int .i64 0, Value.slice none 0 0, Value.int .i64 0, Value.int .i64 0, Value.slice none 0 0, Value.int .i64 0, Value.int .i64 0, Value.slice none 0 0, Value.int .i64 0, Value.int .i64 0, Value.slice none 0 0, Value.int .i64 0, Value.int .i64 0, Value.slice none 0 0, Value.int .i64 0, Value.int .i64 0, Value.slice none 0 0, Value.int .i64 0, Value.int .i64 0, Value.slice none 0 0, Value.int .i64 0, Value.int .i64 0, Value.slice none 0 0, Value.int .i64 0, Value.int .i64 0, Value.slice none 0 0, Value.int .i64 0, Value.int .i64 0, Value.slice none 0 0, Value.int .i64 0, Value.int .i64 0, Value.slice none 0 0, Value.int .i64 0, Value.int .i64 0, Value.slice none 0 0, Value.slice none 0 0]).toArray)) := by kernel_rfl
theorem zr69 : zeroB Try.prog 69 = some (some (Value.agg ([Value.int .i64 0, Value.int .i64 0, Value.slice none 0 0, Value.int .i64 0, Value.int .i64 0, Value.slice none 0 0, Value.int .i64 0, Value.int .i64 0, Value.slice none 0 0, Value.int .i64 0, Value.int .i64 0, Value.slice none 0 0, Value.int .i64 0, Value.int .i64 0, Value.slice none 0 0, Value.int .i64 0, Value.int .i64 0, Value.slice none 0 0, Value.int .i64 0, Value.int .i64 0, Value.slice none 0 0, Value.int .i64 0, Value.int .i64 0, Value.slice none 0 0, Value.int .i64 0, Value.int .i64 0, Value.slice none 0 0, Value.int .i64 0, Value.int .i64 0, Value.slice none 0 0, Value.int .i64 0, Value.int .i64 0, Value.slice none 0 0, Value.int .i64 0, Value.int .i64 0, Value.slice none 0 0, Value.int .i64 0, Value.int .i64 0, Value.slice none 0 0, Value.int .i64 0, Value.int .i64 0, Value.slice none 0 0, Value.int .i64 0, Value.int .i64 0, Value.slice none 0 0, Value.int .i64 0, Value.int .i64 0, Value.slice none 0 0, Value.int .i64 0, Value.int .i64 0, Value.slice none 0 0, Value.int .i64 0, Value.int .i64 0, Value.slice none 0 0, Value.int .i64 0, Value.int .i64 0, Value.slice none 0 0, Value.int .i64 0, Value.int .i64 0, Value.slice none 0 0, Value.int .i64 0, Value.int .i64 0, Value.slice none 0 0, Value.int .i64 0, Value.int .i64 0, Value.slice none 0 0, Value.int .i64 0, Value.int .i64 0, Value.slice none 0 0, Value.int .i64 0, Value.int .i64 0, Value.slice none 0 0, Value.int .i64 0, Value.int .i64 0, Value.slice none 0 0, Value.int .i64 0, Value.int .i64 0, Value.slice none 0 0, Value.int .i64 0, Value.int .i64 0, Value.slice none 0 0, Value.int .i64 0, Value.int .i64 0, Value.slice none 0 0, Value.int .i64 0, Value.int .i64 0, Value.slice none 0 0, Value.int .i64 0, Value.int .i64 0, Value.slice none 0 0, Value.int .i64 0, Value.int .i64 0, Value.slice none 0 0, Value.int .i64 0, Value.int .i64 0, Value.slice none 0 0, Value.int .i64 0, Value.int .i64 0, Value.slice none 0 0, Value.int .i64 0, Value.int .i64 0, Value.slice none 0 0, Value.int .i64 0, Value.int .i64 0, Value.slice none 0 0, Value.int .i64 0, Value.int .i64 0, Value.slice none 0 0, Value.int .i64 0, Value.int .i64 0, Value.slice none 0 0, Value.int .i64 0, Value.int .i64 0, Value.slice none 0 0, Value.int .i64 0, Value.int .i64 0, Value.slice none 0 0, Value.int .i64 0, Value.int .i64 0, Value.slice none 0 0, Value.int .i64 0, Value.int .i64 0, Value.slice none 0 0, Value.int .i64 0, Value.int .i64 0, Value.slice none 0 0, Value.int .i64 0, Value.int .i64 0, Value.slice none 0 0, Value.int .i64 0, Value.int .i64 0, Value.slice none 0 0, Value.int .i64 0, Value.int .i64 0, Value.slice none 0 0, Value.int .i64 0, Value.int .i64 0, Value.slice none 0 0, Value.int .i64 0, Value.int .i64 0, Value.slice none 0 0, Value.int .i64 0, Value.int .i64 0, Value.slice none 0 0, Value.slice none 0 0]).toArray)) := by kernel_rfl
theorem zr71 : zeroB Try.prog 71 = some (some (Value.nilFunc)) := by kernel_rfl
theorem zr72 : zeroB Try.prog 72 = some (some (Value.nilFunc)) := by kernel_rfl
theorem zr73 : zeroB Try.prog 73 = some (some (Value.nilFunc)) := by kernel_rfl
theorem zr74 : zeroB Try.prog 74 = some (some (Value.nilFunc)) := by kernel_rfl
theorem zr75 : zeroB Try.prog 75 = some (some (Value.nilFunc)) := by kernel_rfl
theorem zr76 : zeroB Try.prog 76 = some (some (Value.agg (List.replicate 48 (Value.int .i64 0)).toArray)) := by kernel_rfl
theorem zr77 : zeroB Try.prog 77 = some (some (Value.agg (List.replicate 48 (Value.slice none 0 0)).toArray)) := by kernel_rfl
theorem zr78 : zeroB Try.prog 78 = some (some (Value.agg (List.replicate 48 (Value.int .i64 0) ++ List.replicate 49 (Value.slice none 0 0)).toArray)) := by kernel_rfl
theorem zr79 : zeroB Try.prog 79 = some (some (Value.agg (List.replicate 48 (Value.int .i64 0) ++ List.replicate 49 (Value.slice none 0 0)).toArray)) := by kernel_rfl
theorem zr80 : zeroB Try.prog 80 = some (some (Value.nilFunc)) := by kernel_rfl
theorem zr81 : zeroB Try.prog 81 = some (some (Value.nilFunc)) := by kernel_rfl
theorem zr82 : zeroB Try.prog 82 = some (some (Value.nilFunc)) := by kernel_rfl
theorem zr83 : zeroB Try.prog 83 = some (some (Value.agg #[Value.string ByteArray.empty, Value.string ByteArray.empty, Value.string ByteArray.empty, Value.string ByteArray.empty, Value.string ByteArray.empty, Value.string ByteArray.empty])) := by kernel_rfl
theorem zr84 : zeroB Try.prog 84 = some (some (Value.nilFunc)) := by kernel_rfl
theorem zr85 : zeroB Try.prog 85 = some (some (Value.nilFunc)) := by kernel_rfl
theorem zr86 : zeroB Try.prog 86 = some (some (Value.nilFunc)) := by kernel_rfl
theorem zr87 : zeroB Try.prog 87 = some (some (Value.nilFunc)) := by kernel_rfl
theorem zr88 : zeroB Try.prog 88 = some (some (Value.agg (List.replicate 48 (Value.bool false)).toArray)) := by kernel_rfl
theorem zr90 : zeroB Try.prog 90 = some (some (Value.nilFunc)) := by kernel_rfl
theorem zr92 : zeroB Try.prog 92 = some (some (Value.nilFunc)) := by kernel_rfl
theorem zr93 : zeroB Try.prog 93 = some (some (Value.nilFunc)) := by kernel_rfl
theorem zr94 : zeroB Try.prog 94 = some (some (Value.nilFunc)) := by kernel_rfl
theorem zr95 : zeroB Try.prog 95 = some (some (Value.nilFunc)) := by kernel_rfl
theorem zr96 : zeroB Try.prog 96 = some (some (Value.nilFunc)) := by kernel_rfl
theorem zr97 : zeroB Try.prog 97 = some (some (Value.nilFunc)) := by kernel_rfl
theorem zr98 : zeroB Try.prog 98 = some (some (Value.int .u64 0)) := by kernel_rfl
theorem zr99 : zeroB Try.prog 99 = some (some (Value.nilFunc)) := by kernel_rfl
theorem zr100 : zeroB Try.prog 100 = some (some (Value.nilFunc)) := by kernel_rfl
theorem zr101 : zeroB Try.prog 101 = some (some (Value.int .i64 0)) := by kernel_rfl
theorem zr103 : zeroB Try.prog 103 = some (some (Value.nilFunc)) := by kernel_rfl
theorem zr104 : zeroB Try.prog 104 = some (some (Value.nilFunc)) := by kernel_rfl
theorem zr105 : zeroB Try.prog 105 = some (some (Value.nilFunc)) := by kernel_rfl
theorem zr106 : zeroB Try.prog 106 = some (some (Value.nilFunc)) := by kernel_rfl
theorem zr107 : zeroB Try.prog 107 = some (some (Value.nilFunc)) := by kernel_rfl
theorem zr108 : zeroB Try.prog 108 = some (some (Value.nilFunc)) := by kernel_rfl
theorem zr109 : zeroB Try.prog 109 = some (some (Value.int .u32 0)) := by kernel_rfl
theorem zr110 : zeroB Try.prog 110 = some (some (Value.nilFunc)) := by kernel_rfl
theorem zr111 : zeroB Try.prog 111 = some (some (Value.int .u64 0)) := by kernel_rfl
theorem zr112 : zeroB Try.prog 112 = some (some (Value.int .u64 0)) := by kernel_rfl
theorem zr113 : zeroB Try.prog 113 = some (some (Value.nilFunc)) := by kernel_rfl
theorem zr114 : zeroB Try.prog 114 = some (some (Value.nilFunc)) := by kernel_rfl
theorem zr115 : zeroB Try.prog 115 = some (some (Value.nilFunc)) := by kernel_rfl
theorem zr116 : zeroB Try.prog 116 = some (some (Value.pointer none)) := by kernel_rfl
theorem zr117 : zeroB Try.prog 117 = some (some (Value.nilFunc)) := by kernel_rfl
theorem zr118 : zeroB Try.prog 118 = some (some (Value.pointer none)) := by kernel_rfl
theorem zr120 : zeroB Try.prog 120 = some (some (Value.nilFunc)) := by kernel_rfl
theorem zr121 : zeroB Try.prog 121 = some (some (Value.nilFunc)) := by kernel_rfl
theorem zr122 : zeroB Try.prog 122 = some (some (Value.agg #[Value.pointer none, Value.pointer none, Value.pointer none, Value.string ByteArray.empty])) := by kernel_rfl
theorem zr123 : zeroB Try.prog 123 = some (some (Value.agg #[Value.pointer none, Value.pointer none, Value.pointer none, Value.string ByteArray.empty])) := by kernel_rfl
theorem zr124 : zeroB Try.prog 124 = some (some (Value.agg #[])) := by kernel_rfl
theorem zr125 : zeroB Try.prog 125 = some (some (Value.agg #[])) := by kernel_rfl
theorem zr126 : zeroB Try.prog 126 = some (some (Value.agg #[])) := by kernel_rfl
theorem zr127 : zeroB Try.prog 127 = some (some (Value.nilFunc)) := by kernel_rfl
theorem zr128 : zeroB Try.prog 128 = some (some (Value.int .u8 0)) := by kernel_rfl
theorem zr129 : zeroB Try.prog 129 = some (some (Value.int .u8 0)) := by kernel_rfl
theorem zr130 : zeroB Try.prog 130 = some (some (Value.nilFunc)) := by kernel_rfl
theorem zr131 : zeroB Try.prog 131 = some (some (Value.pointer none)) := by kernel_rfl
theorem zr132 : zeroB Try.prog 132 = some (some (Value.int .i32 0)) := by kernel_rfl
theorem zr133 : zeroB Try.prog 133 = some (some (Value.int .i32 0)) := by kernel_rfl
theorem zr134 : zeroB Try.prog 134 = some (some (Value.agg #[Value.int .u64 0, Value.int .u64 0, Value.int .u32 0, Value.int .u8 0, Value.int .u8 0, Value.int .u8 0, Value.int .u8 0, Value.nilFunc, Value.pointer none, Value.int .i32 0, Value.int .i32 0])) := by kernel_rfl
theorem zr135 : zeroB Try.prog 135 = some (some (Value.agg #[Value.int .u64 0, Value.int .u64 0, Value.int .u32 0, Value.int .u8 0, Value.int .u8 0, Value.int .u8 0, Value.int .u8 0, Value.nilFunc, Value.pointer none, Value.int .i32 0, Value.int .i32 0])) := by kernel_rfl
def zrList : List (TypeRow (Option Value) (zeroB Try.prog)) :=
  [⟨1, (some (Value.nilFunc)), zr1⟩,
   ⟨2, (some (Value.int .i64 0)), zr2⟩,
   ⟨3, (some (Value.int .i64 0)), zr3⟩,
   ⟨4, (some (Value.bool false)), zr4⟩,
   ⟨5, (some (Value.int .u8 0)), zr5⟩,
   ⟨6, (some (Value.int .u8 0)), zr6⟩,
   ⟨7, (some (Value.agg #[Value.int .i64 0, Value.int .i64 0, Value.bool false, Value.int .u8 0])), zr7⟩,
   ⟨8, (some (Value.agg #[Value.int .i64 0, Value.int .i64 0, Value.bool false, Value.int .u8 0])), zr8⟩,
   ⟨9, (some (Value.string ByteArray.empty)), zr9⟩,
   ⟨10, (some (Value.string ByteArray.empty)), zr10⟩,
   ⟨11, (some (Value.string ByteArray.empty)), zr11⟩,
   ⟨12, (some (Value.int .u64 0)), zr12⟩,
   ⟨13, (some (Value.agg #[Value.string ByteArray.empty, Value.int .u64 0])), zr13⟩,
   ⟨14, (some (Value.agg #[Value.string ByteArray.empty, Value.int .u64 0])), zr14⟩,
   ⟨15, (some (Value.pointer none)), zr15⟩,
   ⟨16, (some (Value.pointer none)), zr16⟩,
   ⟨17, (some (Value.pointer none)), zr17⟩,
   ⟨18, (some (Value.agg #[Value.pointer none])), zr18⟩,
   ⟨19, (some (Value.agg #[Value.pointer none])), zr19⟩,
   ⟨20, (some (Value.nilIface)), zr20⟩,
   ⟨21, (some (Value.int .i32 0)), zr21⟩,
   ⟨22, (some (Value.pointer none)), zr22⟩,
   ⟨23, (some (Value.nilFunc)), zr23⟩,
   ⟨24, (some (Value.int .i64 0)), zr24⟩,
   ⟨26, (some (Value.nilFunc)), zr26⟩,
   ⟨27, (some (Value.slice none 0 0)), zr27⟩,
   ⟨28, (some (Value.slice none 0 0)), zr28⟩,
   ⟨30, (some (Value.nilFunc)), zr30⟩,
   ⟨31, (some (Value.nilFunc)), zr31⟩,
   ⟨32, (some (Value.nilFunc)), zr32⟩,
   ⟨33, (some (Value.nilFunc)), zr33⟩,
   ⟨34, (some (Value.nilFunc)), zr34⟩,
   ⟨35, (some (Value.nilFunc)), zr35⟩,
   ⟨36, (some (Value.slice none 0 0)), zr36⟩,
   ⟨37, (some (Value.nilFunc)), zr37⟩,
   ⟨38, (some (Value.nilFunc)), zr38⟩,
   ⟨39, (some (Value.agg (List.replicate 20 (Value.bool false)).toArray)), zr39⟩,
   ⟨40, (some (Value.nilFunc)), zr40⟩,
   ⟨41, (some (Value.slice none 0 0)), zr41⟩,
   ⟨42, (some (Value.pointer none)), zr42⟩,
   ⟨43, (some (Value.nilFunc)), zr43⟩,
   ⟨44, (some (Value.nilFunc)), zr44⟩,
   ⟨45, (some (Value.agg #[Value.int .i64 0, Value.slice none 0 0, Value.slice none 0 0, Value.int .i64 0, Value.slice none 0 0])), zr45⟩,
   ⟨46, (some (Value.agg #[Value.int .i64 0, Value.slice none 0 0, Value.slice none 0 0, Value.int .i64 0, Value.slice none 0 0])), zr46⟩,
   ⟨47, (some (Value.nilFunc)), zr47⟩,
   ⟨48, (some (Value.nilFunc)), zr48⟩,
   ⟨49, (some (Value.nilFunc)), zr49⟩,
   ⟨50, (some (Value.nilFunc)), zr50⟩,
   ⟨51, (some (Value.slice none 0 0)), zr51⟩,
   ⟨52, (some (Value.nilFunc)), zr52⟩,
   ⟨54, (some (Value.nilFunc)), zr54⟩,
   ⟨55, (some (Value.nilFunc)), zr55⟩,
   ⟨56, (some (Value.nilFunc)), zr56⟩,
   ⟨57, (some (Value.slice none 0 0)), zr57⟩,
   ⟨58, (some (Value.agg #[Value.string ByteArray.empty, Value.int .i64 0])), zr58⟩,
   ⟨59, (some (Value.agg #[Value.string ByteArray.empty, Value.int .i64 0])), zr59⟩,
   ⟨61, (some (Value.nilFunc)), zr61⟩,
   ⟨62, (some (Value.nilFunc)), zr62⟩,
   ⟨63, (some (Value.nilFunc)), zr63⟩,
   ⟨64, (some (Value.nilFunc)), zr64⟩,
   ⟨65, (some (Value.agg #[Value.int .i64 0, Value.int .i64 0, Value.slice none 0 0])), zr65⟩,
   ⟨66, (some (Value.agg #[Value.int .i64 0, Value.int .i64 0, Value.slice none 0 0])), zr66⟩,
   ⟨67, (some (Value.agg ([Value.int .i64 0, Value.int .i64 0, Value.slice none 0 0, Value.int .i64 0, Value.int .i64 0, Value.slice none 0 0, Value.int .i64 0, Value.int .i64 0, Value.slice none 0 0, Value.int .i64 0, Value.int .i64 0, Value.slice none 0 0, Value.int .i64 0, Value.int .i64 0, Value.slice none 0 0, Value.int .i64 0, Value.int .i64 0, Value.slice none 0 0, Value.int .i64 0, Value.int .i64 0, Value.slice none 0 0, Value.int .i64 0, Value.int .i64 0, Value.slice none 0 0, Value.int .i64 0, Value.int .i64 0, Value.slice none 0 0, Value.int .i64 0, Value.int .i64 0, Value.slice none 0 0, Value.int .i64 0, Value.int .i64 0, Value.slice none 0 0, Value.int .i64 0, Value.int .i64 0, Value.slice none 0 0, Value.int .i64 0, Value.int .i64 0, Value.slice none 0 0, Value.int .i64 0, Value.int .i64 0, Value.slice none 0 0, Value.int .i64 0, Value.int .i64 0, Value.slice none 0 0, Value.int .i64 0, Value.int .i64 0, Value.slice none 0 0, Value.int .i64 0, Value.int .i64 0, Value.slice none 0 0, Value.int .i64 0, Value.int .i64 0, Value.slice none 0 0, Value.int .i64 0, Value.int .i64 0, Value.slice none 0 0, Value.int .i64 0, Value.int .i64 0, Value.slice none 0 0, Value.int .i64 0, Value.int .i64 0, Value.slice none 0 0, Value.int .i64 0, Value.int .i64 0, Value.slice none 0 0, Value.int .i64 0, Value.int .i64 0, Value.slice none 0 0, Value.int .i64 0, Value.int .i64 0, Value.slice none 0 0, Value.int .i64 0, Value.int .i64 0, Value.slice none 0 0, Value.int .i64 0, Value.int .i64 0, Value.slice none 0 0, Value.int .i64 0, Value.int .i64 0, Value.slice none 0 0, Value.int .i64 0, Value.int .i64 0, Value.slice none 0 0, Value.int .i64 0, Value.int .i64 0, Value.slice none 0 0, Value.int .i64 0, Value.int .i64 0, Value.slice none 0 0, Value.int .i64 0, Value.int .i64 0, Value.slice none 0 0, Value.int .i64 0, Value.int .i64 0, Value.slice none 0 0, Value.int .i64 0, Value.int .i64 0, Value.slice none 0 0, Value.int .i64 0, Value.int .i64 0, Value.slice none 0 0, Value.int .i64 0, Value.int .i64 0, Value.slice none 0 0, Value.int .i64 0, Value.int .i64 0, Value.slice none 0 0, Value.int .i64 0, Value.int .i64 0, Value.slice none 0 0, Value.int .i64 0, Value.int .i64 0, Value.slice none 0 0, Value.int .i64 0, Value.int .i64 0, Value.slice none 0 0, Value.int .i64 0, Value.int .i64 0, Value.slice none 0 0, Value.int .i64 0, Value.int .i64 0, Value.slice none 0 0, Value.int .i64 0, Value.int .i64 0, Value.slice none 0 0, Value.int .i64 0, Value.int .i64 0, Value.slice none 0 0, Value.int .i64 0, Value.int .i64 0, Value.slice none 0 0, Value.int .i64 0, Value.int .i64 0, Value.slice none 0 0, Value.int .i64 0, Value.int .i64 0, Value.slice none 0 0, Value.int .i64 0, Value.int .i64 0, Value.slice none 0 0, Value.int .i64 0, Value.int .i64 0, Value.slice none 0 0]).toArray)), zr67⟩,
   ⟨68, (some (Value.agg ([Value.int .i64 0, Value.int .i64 0, Value.slice none 0 0, Value.int .i64 0, Value.int .i64 0, Value.slice none 0 0, Value.int .i64 0, Value.int .i64 0, Value.slice none 0 0, Value.int .i64 0, Value.int .i64 0, Value.slice none 0 0, Value.int .i64 0, Value.int .i64 0, Value.slice none 0 0, Value.int .i64 0, Value.int .i64 0, Value.slice none 0 0, Value.int .i64 0, Value.int .i64 0, Value.slice none 0 0, Value.int .i64 0, Value.int .i64 0, Value.slice none 0 0, Value.int .i64 0, Value.int .i64 0, Value.slice none 0 0, Value.int .i64 0, Value.int .i64 0, Value.slice none 0 0, Value.int .i64 0, Value.int .i64 0, Value.slice none 0 0, Value.int .i64 0, Value.int .i64 0, Value.slice none 0 0, Value.int .i64 0, Value.int .i64 0, Value.slice none 0 0, Value.int .i64 0, Value.int .i64 0, Value.slice none 0 0, Value.int .i64 0, Value.int .i64 0, Value.slice none 0 0, Value.int .i64 0, Value.int .i64 0, Value.slice none 0 0, Value.int .i64 0, Value.int .i64 0, Value.slice none 0 0, Value.int .i64 0, Value.int .i64 0, Value.slice none 0 0, Value.int .i64 0, Value.int .i64 0, Value.slice none 0 0, Value.int .i64 0, Value.int .i64 0, Value.slice none 0 0, Value.int .i64 0, Value.int .i64 0, Value.slice none 0 0, Value.int .i64 0, Value.int .i64 0, Value.slice none 0 0, Value.int .i64 0, Value.int .i64 0, Value.slice none 0 0, Value.int .i64 0, Value.int .i64 0, Value.slice none 0 0, Value.int .i64 0, Value.int .i64 0, Value.slice none 0 0, Value.int .i64 0, Value.int .i64 0, Value.slice none 0 0, Value.int .i64 0, Value.int .i64 0, Value.slice none 0 0, Value.int .i64 0, Value.int .i64 0, Value.slice none 0 0, Value.int .i64 0, Value.int .i64 0, Value.slice none 0 0, Value.int .i64 0, Value.int .i64 0, Value.slice none 0 0, Value.int .i64 0, Value.int .i64 0, Value.slice none 0 0, Value.int .i64 0, Value.int .i64 0, Value.slice none 0 0, Value.int .i64 0, Value.int .i64 0, Value.slice none 0 0, Value.int .i64 0, Value.int .i64 0, Value.slice none 0 0, Value.int .i64 0, Value.int .i64 0, Value.slice none 0 0, Value.int .i64 0, Value.int .i64 0, Value.slice none 0 0, Value.int .i64 0, Value.int .i64 0, Value.slice none 0 0, Value.int .i64 0, Value.int .i64 0, Value.slice none 0 0, Value.int .i64 0, Value.int .i64 0, Value.slice none 0 0, Value.int .i64 0, Value.int .i64 0, Value.slice none 0 0, Value.int .i64 0, Value.int .i64 0, Value.slice none 0 0, Value.int .i64 0, Value.int .i64 0, Value.slice none 0 0, Value.int .i64 0, Value.int .i64 0, Value.slice none 0 0, Value.int .i64 0, Value.int .i64 0, Value.slice none 0 0, Value.int .i64 0, Value.int .i64 0, Value.slice none 0 0, Value.int .i64 0, Value.int .i64 0, Value.slice none 0 0, Value.int .i64 0, Value.int .i64 0, Value.slice none 0 0, Value.int .i64 0, Value.int .i64 0, Value.slice none 0 0, Value.slice none 0 0]).toArray)), zr68⟩,
   ⟨69, (some (Value.agg ([Value.int .i64 0, Value.int .i64 0, Value.slice none 0 0, Value.int .i64 0, Value.int .i64 0, Value.slice none 0 0, Value.int .i64 0, Value.int .i64 0, Value.slice none 0 0, Value.int .i64 0, Value.int .i64 0, Value.slice none 0 0, Value.int .i64 0, Value.int .i64 0, Value.slice none 0 0, Value.int .i64 0, Value.int .i64 0, Value.slice none 0 0, Value.int .i64 0, Value.int .i64 0, Value.slice none 0 0, Value.int .i64 0, Value.int .i64 0, Value.slice none 0 0, Value.int .i64 0, Value.int .i64 0, Value.slice none 0 0, Value.int .i64 0, Value.int .i64 0, Value.slice none 0 0, Value.int .i64 0, Value.int .i64 0, Value.slice none 0 0, Value.int .i64 0, Value.int .i64 0, Value.slice none 0 0, Value.int .i64 0, Value.int .i64 0, Value.slice none 0 0, Value.int .i64 0, Value.int .i64 0, Value.slice none 0 0, Value.int .i64 0, Value.int .i64 0, Value.slice none 0 0, Value.int .i64 0, Value.int .i64 0, Value.slice none 0 0, Value.int .i64 0, Value.int .i64 0, Value.slice none 0 0, Value.int .i64 0, Value.int .i64 0, Value.slice none 0 0, Value.int .i64 0, Value.int .i64 0, Value.slice none 0 0, Value.int .i64 0, Value.int .i64 0, Value.slice none 0 0, Value.int .i64 0, Value.int .i64 0, Value.slice none 0 0, Value.int .i64 0, Value.int .i64 0, Value.slice none 0 0, Value.int .i64 0, Value.int .i64 0, Value.slice none 0 0, Value.int .i64 0, Value.int .i64 0, Value.slice none 0 0, Value.int .i64 0, Value.int .i64 0, Value.slice none 0 0, Value.int .i64 0, Value.int .i64 0, Value.slice none 0 0, Value.int .i64 0, Value.int .i64 0, Value.slice none 0 0, Value.int .i64 0, Value.int .i64 0, Value.slice none 0 0, Value.int .i64 0, Value.int .i64 0, Value.slice none 0 0, Value.int .i64 0, Value.int .i64 0, Value.slice none 0 0, Value.int .i64 0, Value.int .i64 0, Value.slice none 0 0, Value.int .i64 0, Value.int .i64 0, Value.slice none 0 0, Value.int .i64 0, Value.int .i64 0, Value.slice none 0 0, Value.int .i64 0, Value.int .i64 0, Value.slice none 0 0, Value.int .i64 0, Value.int .i64 0, Value.slice none 0 0, Value.int .i64 0, Value.int .i64 0, Value.slice none 0 0, Value.int .i64 0, Value.int .i64 0, Value.slice none 0 0, Value.int .i64 0, Value.int .i64 0, Value.slice none 0 0, Value.int .i64 0, Value.int .i64 0, Value.slice none 0 0, Value.int .i64 0, Value.int .i64 0, Value.slice none 0 0, Value.int .i64 0, Value.int .i64 0, Value.slice none 0 0, Value.int .i64 0, Value.int .i64 0, Value.slice none 0 0, Value.int .i64 0, Value.int .i64 0, Value.slice none 0 0, Value.int .i64 0, Value.int .i64 0, Value.slice none 0 0, Value.int .i64 0, Value.int .i64 0, Value.slice none 0 0, Value.int .i64 0, Value.int .i64 0, Value.slice none 0 0, Value.int .i64 0, Value.int .i64 0, Value.slice none 0 0, Value.int .i64 0, Value.int .i64 0, Value.slice none 0 0, Value.slice none 0 0]).toArray)), zr69⟩,
   ⟨71, (some (Value.nilFunc)), zr71⟩,
   ⟨72, (some (Value.nilFunc)), zr72⟩,
   ⟨73, (some (Value.nilFunc)), zr73⟩,
   ⟨74, (some (Value.nilFunc)), zr74⟩,
   ⟨75, (some (Value.nilFunc)), zr75⟩,
   ⟨76, (some (Value.agg (List.replicate 48 (Value.int .i64 0)).toArray)), zr76⟩,
   ⟨77, (some (Value.agg (List.replicate 48 (Value.slice none 0 0)).toArray)), zr77⟩,
   ⟨78, (some (Value.agg (List.replicate 48 (Value.int .i64 0) ++ List.replicate 49 (Value.slice none 0 0)).toArray)), zr78⟩,
   ⟨79, (some (Value.agg (List.replicate 48 (Value.int .i64 0) ++ List.replicate 49 (Value.slice none 0 0)).toArray)), zr79⟩,
   ⟨80, (some (Value.nilFunc)), zr80⟩,
   ⟨81, (some (Value.nilFunc)), zr81⟩,
   ⟨82, (some (Value.nilFunc)), zr82⟩,
   ⟨83, (some (Value.agg #[Value.string ByteArray.empty, Value.string ByteArray.empty, Value.string ByteArray.empty, Value.string ByteArray.empty, Value.string ByteArray.empty, Value.string ByteArray.empty])), zr83⟩,
   ⟨84, (some (Value.nilFunc)), zr84⟩,
   ⟨85, (some (Value.nilFunc)), zr85⟩,
   ⟨86, (some (Value.nilFunc)), zr86⟩,
   ⟨87, (some (Value.nilFunc)), zr87⟩,
   ⟨88, (some (Value.agg (List.replicate 48 (Value.bool false)).toArray)), zr88⟩,
   ⟨90, (some (Value.nilFunc)), zr90⟩,
   ⟨92, (some (Value.nilFunc)), zr92⟩,
   ⟨93, (some (Value.nilFunc)), zr93⟩,
   ⟨94, (some (Value.nilFunc)), zr94⟩,
   ⟨95, (some (Value.nilFunc)), zr95⟩,
   ⟨96, (some (Value.nilFunc)), zr96⟩,
   ⟨97, (some (Value.nilFunc)), zr97⟩,
   ⟨98, (some (Value.int .u64 0)), zr98⟩,
   ⟨99, (some (Value.nilFunc)), zr99⟩,
   ⟨100, (some (Value.nilFunc)), zr100⟩,
   ⟨101, (some (Value.int .i64 0)), zr101⟩,
   ⟨103, (some (Value.nilFunc)), zr103⟩,
   ⟨104, (some (Value.nilFunc)), zr104⟩,
   ⟨105, (some (Value.nilFunc)), zr105⟩,
   ⟨106, (some (Value.nilFunc)), zr106⟩,
   ⟨107, (some (Value.nilFunc)), zr107⟩,
   ⟨108, (some (Value.nilFunc)), zr108⟩,
   ⟨109, (some (Value.int .u32 0)), zr109⟩,
   ⟨110, (some (Value.nilFunc)), zr110⟩,
   ⟨111, (some (Value.int .u64 0)), zr111⟩,
   ⟨112, (some (Value.int .u64 0)), zr112⟩,
   ⟨113, (some (Value.nilFunc)), zr113⟩,
   ⟨114, (some (Value.nilFunc)), zr114⟩,
   ⟨115, (some (Value.nilFunc)), zr115⟩,
   ⟨116, (some (Value.pointer none)), zr116⟩,
   ⟨117, (some (Value.nilFunc)), zr117⟩,
   ⟨118, (some (Value.pointer none)), zr118⟩,
   ⟨120, (some (Value.nilFunc)), zr120⟩,
   ⟨121, (some (Value.nilFunc)), zr121⟩,
   ⟨122, (some (Value.agg #[Value.pointer none, Value.pointer none, Value.pointer none, Value.string ByteArray.empty])), zr122⟩,
   ⟨123, (some (Value.agg #[Value.pointer none, Value.pointer none, Value.pointer none, Value.string ByteArray.empty])), zr123⟩,
   ⟨124, (some (Value.agg #[])), zr124⟩,
   ⟨125, (some (Value.agg #[])), zr125⟩,
   ⟨126, (some (Value.agg #[])), zr126⟩,
   ⟨127, (some (Value.nilFunc)), zr127⟩,
   ⟨128, (some (Value.int .u8 0)), zr128⟩,
   ⟨129, (some (Value.int .u8 0)), zr129⟩,
   ⟨130, (some (Value.nilFunc)), zr130⟩,
   ⟨131, (some (Value.pointer none)), zr131⟩,
   ⟨132, (some (Value.int .i32 0)), zr132⟩,
   ⟨133, (some (Value.int .i32 0)), zr133⟩,
   ⟨134, (some (Value.agg #[Value.int .u64 0, Value.int .u64 0, Value.int .u32 0, Value.int .u8 0, Value.int .u8 0, Value.int .u8 0, Value.int .u8 0, Value.nilFunc, Value.pointer none, Value.int .i32 0, Value.int .i32 0])), zr134⟩,
   ⟨135, (some (Value.agg #[Value.int .u64 0, Value.int .u64 0, Value.int .u32 0, Value.int .u8 0, Value.int .u8 0, Value.int .u8 0, Value.int .u8 0, Value.nilFunc, Value.pointer none, Value.int .i32 0, Value.int .i32 0])), zr135⟩]
def zrTab (T : Nat) : Option (Option Value) := lookRow zrList T
theorem zrOf {T : Nat} {x : Option Value} (h : zrTab T = some x) : zeroB Try.prog T = some x := lookRow_of h
theorem el27 : elemB Try.prog 27 = some (5, 1, 1, some (Value.int .u8 0)) := by kernel_rfl
theorem el28 : elemB Try.prog 28 = some (9, 1, 16, some (Value.string ByteArray.empty)) := by kernel_rfl
theorem el36 : elemB Try.prog 36 = some (3, 1, 8, some (Value.int .i64 0)) := by kernel_rfl
theorem el41 : elemB Try.prog 41 = some (46, 5, 88, some (Value.agg #[Value.int .i64 0, Value.slice none 0 0, Value.slice none 0 0, Value.int .i64 0, Value.slice none 0 0])) := by kernel_rfl
theorem el51 : elemB Try.prog 51 = some (59, 2, 24, some (Value.agg #[Value.string ByteArray.empty, Value.int .i64 0])) := by kernel_rfl
theorem el57 : elemB Try.prog 57 = some (51, 1, 24, some (Value.slice none 0 0)) := by kernel_rfl
def elList : List (TypeRow (TypeId × Nat × Nat × Option Value) (elemB Try.prog)) :=
  [⟨27, (5, 1, 1, some (Value.int .u8 0)), el27⟩,
   ⟨28, (9, 1, 16, some (Value.string ByteArray.empty)), el28⟩,
   ⟨36, (3, 1, 8, some (Value.int .i64 0)), el36⟩,
   ⟨41, (46, 5, 88, some (Value.agg #[Value.int .i64 0, Value.slice none 0 0, Value.slice none 0 0, Value.int .i64 0, Value.slice none 0 0])), el41⟩,
   ⟨51, (59, 2, 24, some (Value.agg #[Value.string ByteArray.empty, Value.int .i64 0])), el51⟩,
   ⟨57, (51, 1, 24, some (Value.slice none 0 0)), el57⟩]
def elTab (T : Nat) : Option (TypeId × Nat × Nat × Option Value) := lookRow elList T
theorem elOf {T : Nat} {x : TypeId × Nat × Nat × Option Value} (h : elTab T = some x) : elemB Try.prog T = some x := lookRow_of h
theorem in0 : intB Try.prog 0 = some false := by kernel_rfl
theorem in1 : intB Try.prog 1 = some false := by kernel_rfl
theorem in2 : intB Try.prog 2 = some true := by kernel_rfl
theorem in3 : intB Try.prog 3 = some true := by kernel_rfl
theorem in4 : intB Try.prog 4 = some false := by kernel_rfl
theorem in5 : intB Try.prog 5 = some true := by kernel_rfl
theorem in6 : intB Try.prog 6 = some true := by kernel_rfl
theorem in7 : intB Try.prog 7 = some false := by kernel_rfl
theorem in8 : intB Try.prog 8 = some false := by kernel_rfl
theorem in9 : intB Try.prog 9 = some false := by kernel_rfl
theorem in10 : intB Try.prog 10 = some false := by kernel_rfl
theorem in11 : intB Try.prog 11 = some false := by kernel_rfl
theorem in12 : intB Try.prog 12 = some true := by kernel_rfl
theorem in13 : intB Try.prog 13 = some false := by kernel_rfl
theorem in14 : intB Try.prog 14 = some false := by kernel_rfl
theorem in15 : intB Try.prog 15 = some false := by kernel_rfl
theorem in16 : intB Try.prog 16 = some false := by kernel_rfl
theorem in17 : intB Try.prog 17 = some false := by kernel_rfl
theorem in18 : intB Try.prog 18 = some false := by kernel_rfl
theorem in19 : intB Try.prog 19 = some false := by kernel_rfl
theorem in20 : intB Try.prog 20 = some false := by kernel_rfl
theorem in21 : intB Try.prog 21 = some true := by kernel_rfl
theorem in22 : intB Try.prog 22 = some false := by kernel_rfl
theorem in23 : intB Try.prog 23 = some false := by kernel_rfl
theorem in24 : intB Try.prog 24 = some true := by kernel_rfl
theorem in25 : intB Try.prog 25 = some false := by kernel_rfl
theorem in26 : intB Try.prog 26 = some false := by kernel_rfl
theorem in27 : intB Try.prog 27 = some false := by kernel_rfl
theorem in28 : intB Try.prog 28 = some false := by kernel_rfl
theorem in29 : intB Try.prog 29 = some false := by kernel_rfl
theorem in30 : intB Try.prog 30 = some false := by kernel_rfl
theorem in31 : intB Try.prog 31 = some false := by kernel_rfl
theorem in32 : intB Try.prog 32 = some false := by kernel_rfl
theorem in33 : intB Try.prog 33 = some false := by kernel_rfl
theorem in34 : intB Try.prog 34 = some false := by kernel_rfl
theorem in35 : intB Try.prog 35 = some false := by kernel_rfl
theorem in36 : intB Try.prog 36 = some false := by kernel_rfl
theorem in37 : intB Try.prog 37 = some false := by kernel_rfl
theorem in38 : intB Try.prog 38 = some false := by kernel_rfl
theorem in39 : intB Try.prog 39 = some false := by kernel_rfl
theorem in40 : intB Try.prog 40 = some false := by kernel_rfl
theorem in41 : intB Try.prog 41 = some false := by kernel_rfl
theorem in42 : intB Try.prog 42 = some false := by kernel_rfl
theorem in43 : intB Try.prog 43 = some false := by kernel_rfl
theorem in44 : intB Try.prog 44 = some false := by kernel_rfl
theorem in45 : intB Try.prog 45 = some false := by kernel_rfl
theorem in46 : intB Try.prog 46 = some false := by kernel_rfl
theorem in47 : intB Try.prog 47 = some false := by kernel_rfl
theorem in48 : intB Try.prog 48 = some false := by kernel_rfl
theorem in49 : intB Try.prog 49 = some false := by kernel_rfl
theorem in50 : intB Try.prog 50 = some false := by kernel_rfl
theorem in51 : intB Try.prog 51 = some false := by kernel_rfl
theorem in52 : intB Try.prog 52 = some false := by kernel_rfl
theorem in53 : intB Try.prog 53 = some false := by kernel_rfl
theorem in54 : intB Try.prog 54 = some false := by kernel_rfl
theorem in55 : intB Try.prog 55 = some false := by kernel_rfl
theorem in56 : intB Try.prog 56 = some false := by kernel_rfl
theorem in57 : intB Try.prog 57 = some false := by kernel_rfl
theorem in58 : intB Try.prog 58 = some false := by kernel_rfl
theorem in59 : intB Try.prog 59 = some false := by kernel_rfl
theorem in60 : intB Try.prog 60 = some false := by kernel_rfl
theorem in61 : intB Try.prog 61 = some false := by kernel_rfl
theorem in62 : intB Try.prog 62 = some false := by kernel_rfl
theorem in63 : intB Try.prog 63 = some false := by kernel_rfl
theorem in64 : intB Try.prog 64 = some false := by kernel_rfl
theorem in65 : intB Try.prog 65 = some false := by kernel_rfl
theorem in66 : intB Try.prog 66 = some false := by kernel_rfl
theorem in67 : intB Try.prog 67 = some false := by kernel_rfl
theorem in68 : intB Try.prog 68 = some false := by kernel_rfl
theorem in69 : intB Try.prog 69 = some false := by kernel_rfl
theorem in70 : intB Try.prog 70 = some false := by kernel_rfl
theorem in71 : intB Try.prog 71 = some false := by kernel_rfl
theorem in72 : intB Try.prog 72 = some false := by kernel_rfl
theorem in73 : intB Try.prog 73 = some false := by kernel_rfl
theorem in74 : intB Try.prog 74 = some false := by kernel_rfl
theorem in75 : intB Try.prog 75 = some false := by kernel_rfl
theorem in76 : intB Try.prog 76 = some false := by kernel_rfl
theorem in77 : intB Try.prog 77 = some false := by kernel_rfl
theorem in78 : intB Try.prog 78 = some false := by kernel_rfl
theorem in79 : intB Try.prog 79 = some false := by kernel_rfl
theorem in80 : intB Try.prog 80 = some false := by kernel_rfl
theorem in81 : intB Try.prog 81 = some false := by kernel_rfl
theorem in82 : intB Try.prog 82 = some false := by kernel_rfl
theorem in83 : intB Try.prog 83 = some false := by kernel_rfl
theorem in84 : intB Try.prog 84 = some false := by kernel_rfl
theorem in85 : intB Try.prog 85 = some false := by kernel_rfl
theorem in86 : intB Try.prog 86 = some false := by kernel_rfl
theorem in87 : intB Try.prog 87 = some false := by kernel_rfl
theorem in88 : intB Try.prog 88 = some false := by kernel_rfl
theorem in89 : intB Try.prog 89 = some false := by kernel_rfl
theorem in90 : intB Try.prog 90 = some false := by kernel_rfl
theorem in91 : intB Try.prog 91 = some false := by kernel_rfl
theorem in92 : intB Try.prog 92 = some false := by kernel_rfl
theorem in93 : intB Try.prog 93 = some false := by kernel_rfl
theorem in94 : intB Try.prog 94 = some false := by kernel_rfl
theorem in95 : intB Try.prog 95 = some false := by kernel_rfl
theorem in96 : intB Try.prog 96 = some false := by kernel_rfl
theorem in97 : intB Try.prog 97 = some false := by kernel_rfl
theorem in98 : intB Try.prog 98 = some true := by kernel_rfl
theorem in99 : intB Try.prog 99 = some false := by kernel_rfl
theorem in100 : intB Try.prog 100 = some false := by kernel_rfl
theorem in101 : intB Try.prog 101 = some true := by kernel_rfl
theorem in102 : intB Try.prog 102 = some false := by kernel_rfl
theorem in103 : intB Try.prog 103 = some false := by kernel_rfl
theorem in104 : intB Try.prog 104 = some false := by kernel_rfl
theorem in105 : intB Try.prog 105 = some false := by kernel_rfl
theorem in106 : intB Try.prog 106 = some false := by kernel_rfl
theorem in107 : intB Try.prog 107 = some false := by kernel_rfl
theorem in108 : intB Try.prog 108 = some false := by kernel_rfl
theorem in109 : intB Try.prog 109 = some true := by kernel_rfl
theorem in110 : intB Try.prog 110 = some false := by kernel_rfl
theorem in111 : intB Try.prog 111 = some true := by kernel_rfl
theorem in112 : intB Try.prog 112 = some true := by kernel_rfl
theorem in113 : intB Try.prog 113 = some false := by kernel_rfl
theorem in114 : intB Try.prog 114 = some false := by kernel_rfl
theorem in115 : intB Try.prog 115 = some false := by kernel_rfl
theorem in116 : intB Try.prog 116 = some false := by kernel_rfl
theorem in117 : intB Try.prog 117 = some false := by kernel_rfl
theorem in118 : intB Try.prog 118 = some false := by kernel_rfl
theorem in119 : intB Try.prog 119 = some false := by kernel_rfl
theorem in120 : intB Try.prog 120 = some false := by kernel_rfl
theorem in121 : intB Try.prog 121 = some false := by kernel_rfl
theorem in122 : intB Try.prog 122 = some false := by kernel_rfl
theorem in123 : intB Try.prog 123 = some false := by kernel_rfl
theorem in124 : intB Try.prog 124 = some false := by kernel_rfl
theorem in125 : intB Try.prog 125 = some false := by kernel_rfl
theorem in126 : intB Try.prog 126 = some false := by kernel_rfl
theorem in127 : intB Try.prog 127 = some false := by kernel_rfl
theorem in128 : intB Try.prog 128 = some true := by kernel_rfl
theorem in129 : intB Try.prog 129 = some true := by kernel_rfl
theorem in130 : intB Try.prog 130 = some false := by kernel_rfl
theorem in131 : intB Try.prog 131 = some false := by kernel_rfl
theorem in132 : intB Try.prog 132 = some true := by kernel_rfl
theorem in133 : intB Try.prog 133 = some true := by kernel_rfl
theorem in134 : intB Try.prog 134 = some false := by kernel_rfl
theorem in135 : intB Try.prog 135 = some false := by kernel_rfl
def inList : List (TypeRow (Bool) (intB Try.prog)) :=
  [⟨0, false, in0⟩,
   ⟨1, false, in1⟩,
   ⟨2, true, in2⟩,
   ⟨3, true, in3⟩,
   ⟨4, false, in4⟩,
   ⟨5, true, in5⟩,
   ⟨6, true, in6⟩,
   ⟨7, false, in7⟩,
   ⟨8, false, in8⟩,
   ⟨9, false, in9⟩,
   ⟨10, false, in10⟩,
   ⟨11, false, in11⟩,
   ⟨12, true, in12⟩,
   ⟨13, false, in13⟩,
   ⟨14, false, in14⟩,
   ⟨15, false, in15⟩,
   ⟨16, false, in16⟩,
   ⟨17, false, in17⟩,
   ⟨18, false, in18⟩,
   ⟨19, false, in19⟩,
   ⟨20, false, in20⟩,
   ⟨21, true, in21⟩,
   ⟨22, false, in22⟩,
   ⟨23, false, in23⟩,
   ⟨24, true, in24⟩,
   ⟨25, false, in25⟩,
   ⟨26, false, in26⟩,
   ⟨27, false, in27⟩,
   ⟨28, false, in28⟩,
   ⟨29, false, in29⟩,
   ⟨30, false, in30⟩,
   ⟨31, false, in31⟩,
   ⟨32, false, in32⟩,
   ⟨33, false, in33⟩,
   ⟨34, false, in34⟩,
   ⟨35, false, in35⟩,
   ⟨36, false, in36⟩,
   ⟨37, false, in37⟩,
   ⟨38, false, in38⟩,
   ⟨39, false, in39⟩,
   ⟨40, false, in40⟩,
   ⟨41, false, in41⟩,
   ⟨42, false, in42⟩,
   ⟨43, false, in43⟩,
   ⟨44, false, in44⟩,
   ⟨45, false, in45⟩,
   ⟨46, false, in46⟩,
   ⟨47, false, in47⟩,
   ⟨48, false, in48⟩,
   ⟨49, false, in49⟩,
   ⟨50, false, in50⟩,
   ⟨51, false, in51⟩,
   ⟨52, false, in52⟩,
   ⟨53, false, in53⟩,
   ⟨54, false, in54⟩,
   ⟨55, false, in55⟩,
   ⟨56, false, in56⟩,
   ⟨57, false, in57⟩,
   ⟨58, false, in58⟩,
   ⟨59, false, in59⟩,
   ⟨60, false, in60⟩,
   ⟨61, false, in61⟩,
   ⟨62, false, in62⟩,
   ⟨63, false, in63⟩,
   ⟨64, false, in64⟩,
   ⟨65, false, in65⟩,
   ⟨66, false, in66⟩,
   ⟨67, false, in67⟩,
   ⟨68, false, in68⟩,
   ⟨69, false, in69⟩,
   ⟨70, false, in70⟩,
   ⟨71, false, in71⟩,
   ⟨72, false, in72⟩,
   ⟨73, false, in73⟩,
   ⟨74, false, in74⟩,
   ⟨75, false, in75⟩,
   ⟨76, false, in76⟩,
   ⟨77, false, in77⟩,
   ⟨78, false, in78⟩,
   ⟨79, false, in79⟩,
   ⟨80, false, in80⟩,
   ⟨81, false, in81⟩,
   ⟨82, false, in82⟩,
   ⟨83, false, in83⟩,
   ⟨84, false, in84⟩,
   ⟨85, false, in85⟩,
   ⟨86, false, in86⟩,
   ⟨87, false, in87⟩,
   ⟨88, false, in88⟩,
   ⟨89, false, in89⟩,
   ⟨90, false, in90⟩,
   ⟨91, false, in91⟩,
   ⟨92, false, in92⟩,
   ⟨93, false, in93⟩,
   ⟨94, false, in94⟩,
   ⟨95, false, in95⟩,
   ⟨96, false, in96⟩,
   ⟨97, false, in97⟩,
   ⟨98, true, in98⟩,
   ⟨99, false, in99⟩,
   ⟨100, false, in100⟩,
   ⟨101, true, in101⟩,
   ⟨102, false, in102⟩,
   ⟨103, false, in103⟩,
   ⟨104, false, in104⟩,
   ⟨105, false, in105⟩,
   ⟨106, false, in106⟩,
   ⟨107, false, in107⟩,
   ⟨108, false, in108⟩,
   ⟨109, true, in109⟩,
   ⟨110, false, in110⟩,
   ⟨111, true, in111⟩,
   ⟨112, true, in112⟩,
   ⟨113, false, in113⟩,
   ⟨114, false, in114⟩,
   ⟨115, false, in115⟩,
   ⟨116, false, in116⟩,
   ⟨117, false, in117⟩,
   ⟨118, false, in118⟩,
   ⟨119, false, in119⟩,
   ⟨120, false, in120⟩,
   ⟨121, false, in121⟩,
   ⟨122, false, in122⟩,
   ⟨123, false, in123⟩,
   ⟨124, false, in124⟩,
   ⟨125, false, in125⟩,
   ⟨126, false, in126⟩,
   ⟨127, false, in127⟩,
   ⟨128, true, in128⟩,
   ⟨129, true, in129⟩,
   ⟨130, false, in130⟩,
   ⟨131, false, in131⟩,
   ⟨132, true, in132⟩,
   ⟨133, true, in133⟩,
   ⟨134, false, in134⟩,
   ⟨135, false, in135⟩]
def inTab (T : Nat) : Option (Bool) := lookRow inList T
theorem inOf {T : Nat} {x : Bool} (h : inTab T = some x) : intB Try.prog T = some x := lookRow_of h
theorem strBytes : strB Try.prog 27 9 = some 5 := by kernel_rfl
end Go.Proofs.Ytiieicdhkcikpaa
