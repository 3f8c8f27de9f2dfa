/-
  Closed facts on the types of this translation: sizes, zero values, which are aggregates.
-/
import Derived.Test.YtnppgkbincffeaaRows
import Derived.Test.YtnppgkbincffeaaSepSl
namespace Go.Proofs.Ytnppgkbincffeaa
open Go.Sep

theorem ag0 : aggB Try.prog 0 = some false := by kernel_rfl
theorem ag1 : aggB Try.prog 1 = some false := by kernel_rfl
theorem ag2 : aggB Try.prog 2 = some false := by kernel_rfl
theorem ag3 : aggB Try.prog 3 = some false := by kernel_rfl
theorem ag4 : aggB Try.prog 4 = some false := by kernel_rfl
theorem ag5 : aggB Try.prog 5 = some false := by kernel_rfl
theorem ag6 : aggB Try.prog 6 = some false := by kernel_rfl
theorem ag7 : aggB Try.prog 7 = some true := by kernel_rfl
theorem ag8 : aggB Try.prog 8 = some true := by kernel_rfl
theorem ag9 : aggB Try.prog 9 = some false := by kernel_rfl
theorem ag10 : aggB Try.prog 10 = some false := by kernel_rfl
theorem ag11 : aggB Try.prog 11 = some false := by kernel_rfl
theorem ag12 : aggB Try.prog 12 = some false := by kernel_rfl
theorem ag13 : aggB Try.prog 13 = some true := by kernel_rfl
theorem ag14 : aggB Try.prog 14 = some true := by kernel_rfl
theorem ag15 : aggB Try.prog 15 = some false := by kernel_rfl
theorem ag16 : aggB Try.prog 16 = some false := by kernel_rfl
theorem ag17 : aggB Try.prog 17 = some false := by kernel_rfl
theorem ag18 : aggB Try.prog 18 = some true := by kernel_rfl
theorem ag19 : aggB Try.prog 19 = some true := by kernel_rfl
theorem ag20 : aggB Try.prog 20 = some false := by kernel_rfl
theorem ag21 : aggB Try.prog 21 = some false := by kernel_rfl
theorem ag22 : aggB Try.prog 22 = some false := by kernel_rfl
theorem ag23 : aggB Try.prog 23 = some false := by kernel_rfl
theorem ag24 : aggB Try.prog 24 = some false := by kernel_rfl
theorem ag25 : aggB Try.prog 25 = some false := by kernel_rfl
theorem ag26 : aggB Try.prog 26 = some false := by kernel_rfl
theorem ag27 : aggB Try.prog 27 = some false := by kernel_rfl
theorem ag28 : aggB Try.prog 28 = some false := by kernel_rfl
theorem ag29 : aggB Try.prog 29 = some false := by kernel_rfl
theorem ag30 : aggB Try.prog 30 = some true := by kernel_rfl
theorem ag31 : aggB Try.prog 31 = some true := by kernel_rfl
theorem ag32 : aggB Try.prog 32 = some false := by kernel_rfl
theorem ag33 : aggB Try.prog 33 = some false := by kernel_rfl
theorem ag34 : aggB Try.prog 34 = some false := by kernel_rfl
theorem ag35 : aggB Try.prog 35 = some false := by kernel_rfl
theorem ag36 : aggB Try.prog 36 = some false := by kernel_rfl
theorem ag37 : aggB Try.prog 37 = some false := by kernel_rfl
theorem ag38 : aggB Try.prog 38 = some false := by kernel_rfl
theorem ag39 : aggB Try.prog 39 = some false := by kernel_rfl
theorem ag40 : aggB Try.prog 40 = some false := by kernel_rfl
theorem ag41 : aggB Try.prog 41 = some false := by kernel_rfl
theorem ag42 : aggB Try.prog 42 = some false := by kernel_rfl
theorem ag43 : aggB Try.prog 43 = some false := by kernel_rfl
theorem ag44 : aggB Try.prog 44 = some false := by kernel_rfl
theorem ag45 : aggB Try.prog 45 = some false := by kernel_rfl
theorem ag46 : aggB Try.prog 46 = some false := by kernel_rfl
theorem ag47 : aggB Try.prog 47 = some false := by kernel_rfl
theorem ag48 : aggB Try.prog 48 = some false := by kernel_rfl
theorem ag49 : aggB Try.prog 49 = some true := by kernel_rfl
theorem ag50 : aggB Try.prog 50 = some true := by kernel_rfl
theorem ag51 : aggB Try.prog 51 = some false := by kernel_rfl
theorem ag52 : aggB Try.prog 52 = some false := by kernel_rfl
theorem ag53 : aggB Try.prog 53 = some true := by kernel_rfl
theorem ag54 : aggB Try.prog 54 = some true := by kernel_rfl
theorem ag55 : aggB Try.prog 55 = some true := by kernel_rfl
theorem ag56 : aggB Try.prog 56 = some true := by kernel_rfl
theorem ag57 : aggB Try.prog 57 = some false := by kernel_rfl
theorem ag58 : aggB Try.prog 58 = some true := by kernel_rfl
theorem ag59 : aggB Try.prog 59 = some true := by kernel_rfl
theorem ag60 : aggB Try.prog 60 = some true := by kernel_rfl
theorem ag61 : aggB Try.prog 61 = some true := by kernel_rfl
theorem ag62 : aggB Try.prog 62 = some false := by kernel_rfl
theorem ag63 : aggB Try.prog 63 = some true := by kernel_rfl
theorem ag64 : aggB Try.prog 64 = some true := by kernel_rfl
theorem ag65 : aggB Try.prog 65 = some true := by kernel_rfl
theorem ag66 : aggB Try.prog 66 = some true := by kernel_rfl
theorem ag67 : aggB Try.prog 67 = some true := by kernel_rfl
theorem ag68 : aggB Try.prog 68 = some false := by kernel_rfl
theorem ag69 : aggB Try.prog 69 = some false := by kernel_rfl
theorem ag70 : aggB Try.prog 70 = some false := by kernel_rfl
theorem ag71 : aggB Try.prog 71 = some false := by kernel_rfl
theorem ag72 : aggB Try.prog 72 = some false := by kernel_rfl
theorem ag73 : aggB Try.prog 73 = some false := by kernel_rfl
theorem ag74 : aggB Try.prog 74 = some false := by kernel_rfl
theorem ag75 : aggB Try.prog 75 = some true := by kernel_rfl
theorem ag76 : aggB Try.prog 76 = some true := by kernel_rfl
def agTab (T : Nat) : Option (Bool) :=
  if T = 0 then some false else
  if T = 1 then some false else
  if T = 2 then some false else
  if T = 3 then some false else
  if T = 4 then some false else
  if T = 5 then some false else
  if T = 6 then some false else
  if T = 7 then some true else
  if T = 8 then some true else
  if T = 9 then some false else
  if T = 10 then some false else
  if T = 11 then some false else
  if T = 12 then some false else
  if T = 13 then some true else
  if T = 14 then some true else
  if T = 15 then some false else
  if T = 16 then some false else
  if T = 17 then some false else
  if T = 18 then some true else
  if T = 19 then some true else
  if T = 20 then some false else
  if T = 21 then some false else
  if T = 22 then some false else
  if T = 23 then some false else
  if T = 24 then some false else
  if T = 25 then some false else
  if T = 26 then some false else
  if T = 27 then some false else
  if T = 28 then some false else
  if T = 29 then some false else
  if T = 30 then some true else
  if T = 31 then some true else
  if T = 32 then some false else
  if T = 33 then some false else
  if T = 34 then some false else
  if T = 35 then some false else
  if T = 36 then some false else
  if T = 37 then some false else
  if T = 38 then some false else
  if T = 39 then some false else
  if T = 40 then some false else
  if T = 41 then some false else
  if T = 42 then some false else
  if T = 43 then some false else
  if T = 44 then some false else
  if T = 45 then some false else
  if T = 46 then some false else
  if T = 47 then some false else
  if T = 48 then some false else
  if T = 49 then some true else
  if T = 50 then some true else
  if T = 51 then some false else
  if T = 52 then some false else
  if T = 53 then some true else
  if T = 54 then some true else
  if T = 55 then some true else
  if T = 56 then some true else
  if T = 57 then some false else
  if T = 58 then some true else
  if T = 59 then some true else
  if T = 60 then some true else
  if T = 61 then some true else
  if T = 62 then some false else
  if T = 63 then some true else
  if T = 64 then some true else
  if T = 65 then some true else
  if T = 66 then some true else
  if T = 67 then some true else
  if T = 68 then some false else
  if T = 69 then some false else
  if T = 70 then some false else
  if T = 71 then some false else
  if T = 72 then some false else
  if T = 73 then some false else
  if T = 74 then some false else
  if T = 75 then some true else
  if T = 76 then some true else
  none
theorem agOf {T : Nat} {x : Bool} (h : agTab T = some x) : aggB Try.prog T = some x := by
  unfold agTab at h
  by_cases c : T = 0
  · subst c; rw [if_pos rfl] at h; cases h; exact ag0
  rw [if_neg c] at h; clear c
  by_cases c : T = 1
  · subst c; rw [if_pos rfl] at h; cases h; exact ag1
  rw [if_neg c] at h; clear c
  by_cases c : T = 2
  · subst c; rw [if_pos rfl] at h; cases h; exact ag2
  rw [if_neg c] at h; clear c
  by_cases c : T = 3
  · subst c; rw [if_pos rfl] at h; cases h; exact ag3
  rw [if_neg c] at h; clear c
  by_cases c : T = 4
  · subst c; rw [if_pos rfl] at h; cases h; exact ag4
  rw [if_neg c] at h; clear c
  by_cases c : T = 5
  · subst c; rw [if_pos rfl] at h; cases h; exact ag5
  rw [if_neg c] at h; clear c
  by_cases c : T = 6
  · subst c; rw [if_pos rfl] at h; cases h; exact ag6
  rw [if_neg c] at h; clear c
  by_cases c : T = 7
  · subst c; rw [if_pos rfl] at h; cases h; exact ag7
  rw [if_neg c] at h; clear c
  by_cases c : T = 8
  · subst c; rw [if_pos rfl] at h; cases h; exact ag8
  rw [if_neg c] at h; clear c
  by_cases c : T = 9
  · subst c; rw [if_pos rfl] at h; cases h; exact ag9
  rw [if_neg c] at h; clear c
  by_cases c : T = 10
  · subst c; rw [if_pos rfl] at h; cases h; exact ag10
  rw [if_neg c] at h; clear c
  by_cases c : T = 11
  · subst c; rw [if_pos rfl] at h; cases h; exact ag11
  rw [if_neg c] at h; clear c
  by_cases c : T = 12
  · subst c; rw [if_pos rfl] at h; cases h; exact ag12
  rw [if_neg c] at h; clear c
  by_cases c : T = 13
  · subst c; rw [if_pos rfl] at h; cases h; exact ag13
  rw [if_neg c] at h; clear c
  by_cases c : T = 14
  · subst c; rw [if_pos rfl] at h; cases h; exact ag14
  rw [if_neg c] at h; clear c
  by_cases c : T = 15
  · subst c; rw [if_pos rfl] at h; cases h; exact ag15
  rw [if_neg c] at h; clear c
  by_cases c : T = 16
  · subst c; rw [if_pos rfl] at h; cases h; exact ag16
  rw [if_neg c] at h; clear c
  by_cases c : T = 17
  · subst c; rw [if_pos rfl] at h; cases h; exact ag17
  rw [if_neg c] at h; clear c
  by_cases c : T = 18
  · subst c; rw [if_pos rfl] at h; cases h; exact ag18
  rw [if_neg c] at h; clear c
  by_cases c : T = 19
  · subst c; rw [if_pos rfl] at h; cases h; exact ag19
  rw [if_neg c] at h; clear c
  by_cases c : T = 20
  · subst c; rw [if_pos rfl] at h; cases h; exact ag20
  rw [if_neg c] at h; clear c
  by_cases c : T = 21
  · subst c; rw [if_pos rfl] at h; cases h; exact ag21
  rw [if_neg c] at h; clear c
  by_cases c : T = 22
  · subst c; rw [if_pos rfl] at h; cases h; exact ag22
  rw [if_neg c] at h; clear c
  by_cases c : T = 23
  · subst c; rw [if_pos rfl] at h; cases h; exact ag23
  rw [if_neg c] at h; clear c
  by_cases c : T = 24
  · subst c; rw [if_pos rfl] at h; cases h; exact ag24
  rw [if_neg c] at h; clear c
  by_cases c : T = 25
  · subst c; rw [if_pos rfl] at h; cases h; exact ag25
  rw [if_neg c] at h; clear c
  by_cases c : T = 26
  · subst c; rw [if_pos rfl] at h; cases h; exact ag26
  rw [if_neg c] at h; clear c
  by_cases c : T = 27
  · subst c; rw [if_pos rfl] at h; cases h; exact ag27
  rw [if_neg c] at h; clear c
  by_cases c : T = 28
  · subst c; rw [if_pos rfl] at h; cases h; exact ag28
  rw [if_neg c] at h; clear c
  by_cases c : T = 29
  · subst c; rw [if_pos rfl] at h; cases h; exact ag29
  rw [if_neg c] at h; clear c
  by_cases c : T = 30
  · subst c; rw [if_pos rfl] at h; cases h; exact ag30
  rw [if_neg c] at h; clear c
  by_cases c : T = 31
  · subst c; rw [if_pos rfl] at h; cases h; exact ag31
  rw [if_neg c] at h; clear c
  by_cases c : T = 32
  · subst c; rw [if_pos rfl] at h; cases h; exact ag32
  rw [if_neg c] at h; clear c
  by_cases c : T = 33
  · subst c; rw [if_pos rfl] at h; cases h; exact ag33
  rw [if_neg c] at h; clear c
  by_cases c : T = 34
  · subst c; rw [if_pos rfl] at h; cases h; exact ag34
  rw [if_neg c] at h; clear c
  by_cases c : T = 35
  · subst c; rw [if_pos rfl] at h; cases h; exact ag35
  rw [if_neg c] at h; clear c
  by_cases c : T = 36
  · subst c; rw [if_pos rfl] at h; cases h; exact ag36
  rw [if_neg c] at h; clear c
  by_cases c : T = 37
  · subst c; rw [if_pos rfl] at h; cases h; exact ag37
  rw [if_neg c] at h; clear c
  by_cases c : T = 38
  · subst c; rw [if_pos rfl] at h; cases h; exact ag38
  rw [if_neg c] at h; clear c
  by_cases c : T = 39
  · subst c; rw [if_pos rfl] at h; cases h; exact ag39
  rw [if_neg c] at h; clear c
  by_cases c : T = 40
  · subst c; rw [if_pos rfl] at h; cases h; exact ag40
  rw [if_neg c] at h; clear c
  by_cases c : T = 41
  · subst c; rw [if_pos rfl] at h; cases h; exact ag41
  rw [if_neg c] at h; clear c
  by_cases c : T = 42
  · subst c; rw [if_pos rfl] at h; cases h; exact ag42
  rw [if_neg c] at h; clear c
  by_cases c : T = 43
  · subst c; rw [if_pos rfl] at h; cases h; exact ag43
  rw [if_neg c] at h; clear c
  by_cases c : T = 44
  · subst c; rw [if_pos rfl] at h; cases h; exact ag44
  rw [if_neg c] at h; clear c
  by_cases c : T = 45
  · subst c; rw [if_pos rfl] at h; cases h; exact ag45
  rw [if_neg c] at h; clear c
  by_cases c : T = 46
  · subst c; rw [if_pos rfl] at h; cases h; exact ag46
  rw [if_neg c] at h; clear c
  by_cases c : T = 47
  · subst c; rw [if_pos rfl] at h; cases h; exact ag47
  rw [if_neg c] at h; clear c
  by_cases c : T = 48
  · subst c; rw [if_pos rfl] at h; cases h; exact ag48
  rw [if_neg c] at h; clear c
  by_cases c : T = 49
  · subst c; rw [if_pos rfl] at h; cases h; exact ag49
  rw [if_neg c] at h; clear c
  by_cases c : T = 50
  · subst c; rw [if_pos rfl] at h; cases h; exact ag50
  rw [if_neg c] at h; clear c
  by_cases c : T = 51
  · subst c; rw [if_pos rfl] at h; cases h; exact ag51
  rw [if_neg c] at h; clear c
  by_cases c : T = 52
  · subst c; rw [if_pos rfl] at h; cases h; exact ag52
  rw [if_neg c] at h; clear c
  by_cases c : T = 53
  · subst c; rw [if_pos rfl] at h; cases h; exact ag53
  rw [if_neg c] at h; clear c
  by_cases c : T = 54
  · subst c; rw [if_pos rfl] at h; cases h; exact ag54
  rw [if_neg c] at h; clear c
  by_cases c : T = 55
  · subst c; rw [if_pos rfl] at h; cases h; exact ag55
  rw [if_neg c] at h; clear c
  by_cases c : T = 56
  · subst c; rw [if_pos rfl] at h; cases h; exact ag56
  rw [if_neg c] at h; clear c
  by_cases c : T = 57
  · subst c; rw [if_pos rfl] at h; cases h; exact ag57
  rw [if_neg c] at h; clear c
  by_cases c : T = 58
  · subst c; rw [if_pos rfl] at h; cases h; exact ag58
  rw [if_neg c] at h; clear c
  by_cases c : T = 59
  · subst c; rw [if_pos rfl] at h; cases h; exact ag59
  rw [if_neg c] at h; clear c
  by_cases c : T = 60
  · subst c; rw [if_pos rfl] at h; cases h; exact ag60
  rw [if_neg c] at h; clear c
  by_cases c : T = 61
  · subst c; rw [if_pos rfl] at h; cases h; exact ag61
  rw [if_neg c] at h; clear c
  by_cases c : T = 62
  · subst c; rw [if_pos rfl] at h; cases h; exact ag62
  rw [if_neg c] at h; clear c
  by_cases c : T = 63
  · subst c; rw [if_pos rfl] at h; cases h; exact ag63
  rw [if_neg c] at h; clear c
  by_cases c : T = 64
  · subst c; rw [if_pos rfl] at h; cases h; exact ag64
  rw [if_neg c] at h; clear c
  by_cases c : T = 65
  · subst c; rw [if_pos rfl] at h; cases h; exact ag65
  rw [if_neg c] at h; clear c
  by_cases c : T = 66
  · subst c; rw [if_pos rfl] at h; cases h; exact ag66
  rw [if_neg c] at h; clear c
  by_cases c : T = 67
  · subst c; rw [if_pos rfl] at h; cases h; exact ag67
  rw [if_neg c] at h; clear c
  by_cases c : T = 68
  · subst c; rw [if_pos rfl] at h; cases h; exact ag68
  rw [if_neg c] at h; clear c
  by_cases c : T = 69
  · subst c; rw [if_pos rfl] at h; cases h; exact ag69
  rw [if_neg c] at h; clear c
  by_cases c : T = 70
  · subst c; rw [if_pos rfl] at h; cases h; exact ag70
  rw [if_neg c] at h; clear c
  by_cases c : T = 71
  · subst c; rw [if_pos rfl] at h; cases h; exact ag71
  rw [if_neg c] at h; clear c
  by_cases c : T = 72
  · subst c; rw [if_pos rfl] at h; cases h; exact ag72
  rw [if_neg c] at h; clear c
  by_cases c : T = 73
  · subst c; rw [if_pos rfl] at h; cases h; exact ag73
  rw [if_neg c] at h; clear c
  by_cases c : T = 74
  · subst c; rw [if_pos rfl] at h; cases h; exact ag74
  rw [if_neg c] at h; clear c
  by_cases c : T = 75
  · subst c; rw [if_pos rfl] at h; cases h; exact ag75
  rw [if_neg c] at h; clear c
  by_cases c : T = 76
  · subst c; rw [if_pos rfl] at h; cases h; exact ag76
  rw [if_neg c] at h; clear c
  cases h

theorem sz0 : szB Try.prog 0 = some 1 := by kernel_rfl
theorem sz1 : szB Try.prog 1 = some 1 := by kernel_rfl
theorem sz2 : szB Try.prog 2 = some 1 := by kernel_rfl
theorem sz3 : szB Try.prog 3 = some 1 := by kernel_rfl
theorem sz4 : szB Try.prog 4 = some 1 := by kernel_rfl
theorem sz5 : szB Try.prog 5 = some 1 := by kernel_rfl
theorem sz6 : szB Try.prog 6 = some 1 := by kernel_rfl
theorem sz7 : szB Try.prog 7 = some 4 := by kernel_rfl
theorem sz8 : szB Try.prog 8 = some 4 := by kernel_rfl
theorem sz9 : szB Try.prog 9 = some 1 := by kernel_rfl
theorem sz10 : szB Try.prog 10 = some 1 := by kernel_rfl
theorem sz11 : szB Try.prog 11 = some 1 := by kernel_rfl
theorem sz12 : szB Try.prog 12 = some 1 := by kernel_rfl
theorem sz13 : szB Try.prog 13 = some 2 := by kernel_rfl
theorem sz14 : szB Try.prog 14 = some 2 := by kernel_rfl
theorem sz15 : szB Try.prog 15 = some 1 := by kernel_rfl
theorem sz16 : szB Try.prog 16 = some 1 := by kernel_rfl
theorem sz17 : szB Try.prog 17 = some 1 := by kernel_rfl
theorem sz18 : szB Try.prog 18 = some 1 := by kernel_rfl
theorem sz19 : szB Try.prog 19 = some 1 := by kernel_rfl
theorem sz20 : szB Try.prog 20 = some 1 := by kernel_rfl
theorem sz21 : szB Try.prog 21 = some 1 := by kernel_rfl
theorem sz22 : szB Try.prog 22 = some 1 := by kernel_rfl
theorem sz23 : szB Try.prog 23 = some 1 := by kernel_rfl
theorem sz24 : szB Try.prog 24 = some 1 := by kernel_rfl
theorem sz25 : szB Try.prog 25 = some 1 := by kernel_rfl
theorem sz26 : szB Try.prog 26 = some 1 := by kernel_rfl
theorem sz27 : szB Try.prog 27 = some 1 := by kernel_rfl
theorem sz28 : szB Try.prog 28 = some 1 := by kernel_rfl
theorem sz29 : szB Try.prog 29 = some 1 := by kernel_rfl
theorem sz30 : szB Try.prog 30 = some 4 := by kernel_rfl
theorem sz31 : szB Try.prog 31 = some 4 := by kernel_rfl
theorem sz32 : szB Try.prog 32 = some 1 := by kernel_rfl
theorem sz33 : szB Try.prog 33 = some 1 := by kernel_rfl
theorem sz34 : szB Try.prog 34 = some 1 := by kernel_rfl
theorem sz35 : szB Try.prog 35 = some 1 := by kernel_rfl
theorem sz36 : szB Try.prog 36 = some 1 := by kernel_rfl
theorem sz37 : szB Try.prog 37 = some 1 := by kernel_rfl
theorem sz38 : szB Try.prog 38 = some 1 := by kernel_rfl
theorem sz39 : szB Try.prog 39 = some 1 := by kernel_rfl
theorem sz40 : szB Try.prog 40 = some 1 := by kernel_rfl
theorem sz41 : szB Try.prog 41 = some 1 := by kernel_rfl
theorem sz42 : szB Try.prog 42 = some 1 := by kernel_rfl
theorem sz43 : szB Try.prog 43 = some 1 := by kernel_rfl
theorem sz44 : szB Try.prog 44 = some 1 := by kernel_rfl
theorem sz45 : szB Try.prog 45 = some 1 := by kernel_rfl
theorem sz46 : szB Try.prog 46 = some 1 := by kernel_rfl
theorem sz47 : szB Try.prog 47 = some 1 := by kernel_rfl
theorem sz48 : szB Try.prog 48 = some 1 := by kernel_rfl
theorem sz49 : szB Try.prog 49 = some 5 := by kernel_rfl
theorem sz50 : szB Try.prog 50 = some 5 := by kernel_rfl
theorem sz51 : szB Try.prog 51 = some 1 := by kernel_rfl
theorem sz52 : szB Try.prog 52 = some 1 := by kernel_rfl
theorem sz53 : szB Try.prog 53 = some 5 := by kernel_rfl
theorem sz54 : szB Try.prog 54 = some 5 := by kernel_rfl
theorem sz55 : szB Try.prog 55 = some 128 := by kernel_rfl
theorem sz56 : szB Try.prog 56 = some 128 := by kernel_rfl
theorem sz57 : szB Try.prog 57 = some 1 := by kernel_rfl
theorem sz58 : szB Try.prog 58 = some 129 := by kernel_rfl
theorem sz59 : szB Try.prog 59 = some 129 := by kernel_rfl
theorem sz60 : szB Try.prog 60 = some 2 := by kernel_rfl
theorem sz61 : szB Try.prog 61 = some 2 := by kernel_rfl
theorem sz62 : szB Try.prog 62 = some 1 := by kernel_rfl
theorem sz63 : szB Try.prog 63 = some 4 := by kernel_rfl
theorem sz64 : szB Try.prog 64 = some 4 := by kernel_rfl
theorem sz65 : szB Try.prog 65 = some 0 := by kernel_rfl
theorem sz66 : szB Try.prog 66 = some 0 := by kernel_rfl
theorem sz67 : szB Try.prog 67 = some 0 := by kernel_rfl
theorem sz68 : szB Try.prog 68 = some 1 := by kernel_rfl
theorem sz69 : szB Try.prog 69 = some 1 := by kernel_rfl
theorem sz70 : szB Try.prog 70 = some 1 := by kernel_rfl
theorem sz71 : szB Try.prog 71 = some 1 := by kernel_rfl
theorem sz72 : szB Try.prog 72 = some 1 := by kernel_rfl
theorem sz73 : szB Try.prog 73 = some 1 := by kernel_rfl
theorem sz74 : szB Try.prog 74 = some 1 := by kernel_rfl
theorem sz75 : szB Try.prog 75 = some 11 := by kernel_rfl
theorem sz76 : szB Try.prog 76 = some 11 := by kernel_rfl
def szTab (T : Nat) : Option (Nat) :=
  if T = 0 then some 1 else
  if T = 1 then some 1 else
  if T = 2 then some 1 else
  if T = 3 then some 1 else
  if T = 4 then some 1 else
  if T = 5 then some 1 else
  if T = 6 then some 1 else
  if T = 7 then some 4 else
  if T = 8 then some 4 else
  if T = 9 then some 1 else
  if T = 10 then some 1 else
  if T = 11 then some 1 else
  if T = 12 then some 1 else
  if T = 13 then some 2 else
  if T = 14 then some 2 else
  if T = 15 then some 1 else
  if T = 16 then some 1 else
  if T = 17 then some 1 else
  if T = 18 then some 1 else
  if T = 19 then some 1 else
  if T = 20 then some 1 else
  if T = 21 then some 1 else
  if T = 22 then some 1 else
  if T = 23 then some 1 else
  if T = 24 then some 1 else
  if T = 25 then some 1 else
  if T = 26 then some 1 else
  if T = 27 then some 1 else
  if T = 28 then some 1 else
  if T = 29 then some 1 else
  if T = 30 then some 4 else
  if T = 31 then some 4 else
  if T = 32 then some 1 else
  if T = 33 then some 1 else
  if T = 34 then some 1 else
  if T = 35 then some 1 else
  if T = 36 then some 1 else
  if T = 37 then some 1 else
  if T = 38 then some 1 else
  if T = 39 then some 1 else
  if T = 40 then some 1 else
  if T = 41 then some 1 else
  if T = 42 then some 1 else
  if T = 43 then some 1 else
  if T = 44 then some 1 else
  if T = 45 then some 1 else
  if T = 46 then some 1 else
  if T = 47 then some 1 else
  if T = 48 then some 1 else
  if T = 49 then some 5 else
  if T = 50 then some 5 else
  if T = 51 then some 1 else
  if T = 52 then some 1 else
  if T = 53 then some 5 else
  if T = 54 then some 5 else
  if T = 55 then some 128 else
  if T = 56 then some 128 else
  if T = 57 then some 1 else
  if T = 58 then some 129 else
  if T = 59 then some 129 else
  if T = 60 then some 2 else
  if T = 61 then some 2 else
  if T = 62 then some 1 else
  if T = 63 then some 4 else
  if T = 64 then some 4 else
  if T = 65 then some 0 else
  if T = 66 then some 0 else
  if T = 67 then some 0 else
  if T = 68 then some 1 else
  if T = 69 then some 1 else
  if T = 70 then some 1 else
  if T = 71 then some 1 else
  if T = 72 then some 1 else
  if T = 73 then some 1 else
  if T = 74 then some 1 else
  if T = 75 then some 11 else
  if T = 76 then some 11 else
  none
theorem szOf {T : Nat} {x : Nat} (h : szTab T = some x) : szB Try.prog T = some x := by
  unfold szTab at h
  by_cases c : T = 0
  · subst c; rw [if_pos rfl] at h; cases h; exact sz0
  rw [if_neg c] at h; clear c
  by_cases c : T = 1
  · subst c; rw [if_pos rfl] at h; cases h; exact sz1
  rw [if_neg c] at h; clear c
  by_cases c : T = 2
  · subst c; rw [if_pos rfl] at h; cases h; exact sz2
  rw [if_neg c] at h; clear c
  by_cases c : T = 3
  · subst c; rw [if_pos rfl] at h; cases h; exact sz3
  rw [if_neg c] at h; clear c
  by_cases c : T = 4
  · subst c; rw [if_pos rfl] at h; cases h; exact sz4
  rw [if_neg c] at h; clear c
  by_cases c : T = 5
  · subst c; rw [if_pos rfl] at h; cases h; exact sz5
  rw [if_neg c] at h; clear c
  by_cases c : T = 6
  · subst c; rw [if_pos rfl] at h; cases h; exact sz6
  rw [if_neg c] at h; clear c
  by_cases c : T = 7
  · subst c; rw [if_pos rfl] at h; cases h; exact sz7
  rw [if_neg c] at h; clear c
  by_cases c : T = 8
  · subst c; rw [if_pos rfl] at h; cases h; exact sz8
  rw [if_neg c] at h; clear c
  by_cases c : T = 9
  · subst c; rw [if_pos rfl] at h; cases h; exact sz9
  rw [if_neg c] at h; clear c
  by_cases c : T = 10
  · subst c; rw [if_pos rfl] at h; cases h; exact sz10
  rw [if_neg c] at h; clear c
  by_cases c : T = 11
  · subst c; rw [if_pos rfl] at h; cases h; exact sz11
  rw [if_neg c] at h; clear c
  by_cases c : T = 12
  · subst c; rw [if_pos rfl] at h; cases h; exact sz12
  rw [if_neg c] at h; clear c
  by_cases c : T = 13
  · subst c; rw [if_pos rfl] at h; cases h; exact sz13
  rw [if_neg c] at h; clear c
  by_cases c : T = 14
  · subst c; rw [if_pos rfl] at h; cases h; exact sz14
  rw [if_neg c] at h; clear c
  by_cases c : T = 15
  · subst c; rw [if_pos rfl] at h; cases h; exact sz15
  rw [if_neg c] at h; clear c
  by_cases c : T = 16
  · subst c; rw [if_pos rfl] at h; cases h; exact sz16
  rw [if_neg c] at h; clear c
  by_cases c : T = 17
  · subst c; rw [if_pos rfl] at h; cases h; exact sz17
  rw [if_neg c] at h; clear c
  by_cases c : T = 18
  · subst c; rw [if_pos rfl] at h; cases h; exact sz18
  rw [if_neg c] at h; clear c
  by_cases c : T = 19
  · subst c; rw [if_pos rfl] at h; cases h; exact sz19
  rw [if_neg c] at h; clear c
  by_cases c : T = 20
  · subst c; rw [if_pos rfl] at h; cases h; exact sz20
  rw [if_neg c] at h; clear c
  by_cases c : T = 21
  · subst c; rw [if_pos rfl] at h; cases h; exact sz21
  rw [if_neg c] at h; clear c
  by_cases c : T = 22
  · subst c; rw [if_pos rfl] at h; cases h; exact sz22
  rw [if_neg c] at h; clear c
  by_cases c : T = 23
  · subst c; rw [if_pos rfl] at h; cases h; exact sz23
  rw [if_neg c] at h; clear c
  by_cases c : T = 24
  · subst c; rw [if_pos rfl] at h; cases h; exact sz24
  rw [if_neg c] at h; clear c
  by_cases c : T = 25
  · subst c; rw [if_pos rfl] at h; cases h; exact sz25
  rw [if_neg c] at h; clear c
  by_cases c : T = 26
  · subst c; rw [if_pos rfl] at h; cases h; exact sz26
  rw [if_neg c] at h; clear c
  by_cases c : T = 27
  · subst c; rw [if_pos rfl] at h; cases h; exact sz27
  rw [if_neg c] at h; clear c
  by_cases c : T = 28
  · subst c; rw [if_pos rfl] at h; cases h; exact sz28
  rw [if_neg c] at h; clear c
  by_cases c : T = 29
  · subst c; rw [if_pos rfl] at h; cases h; exact sz29
  rw [if_neg c] at h; clear c
  by_cases c : T = 30
  · subst c; rw [if_pos rfl] at h; cases h; exact sz30
  rw [if_neg c] at h; clear c
  by_cases c : T = 31
  · subst c; rw [if_pos rfl] at h; cases h; exact sz31
  rw [if_neg c] at h; clear c
  by_cases c : T = 32
  · subst c; rw [if_pos rfl] at h; cases h; exact sz32
  rw [if_neg c] at h; clear c
  by_cases c : T = 33
  · subst c; rw [if_pos rfl] at h; cases h; exact sz33
  rw [if_neg c] at h; clear c
  by_cases c : T = 34
  · subst c; rw [if_pos rfl] at h; cases h; exact sz34
  rw [if_neg c] at h; clear c
  by_cases c : T = 35
  · subst c; rw [if_pos rfl] at h; cases h; exact sz35
  rw [if_neg c] at h; clear c
  by_cases c : T = 36
  · subst c; rw [if_pos rfl] at h; cases h; exact sz36
  rw [if_neg c] at h; clear c
  by_cases c : T = 37
  · subst c; rw [if_pos rfl] at h; cases h; exact sz37
  rw [if_neg c] at h; clear c
  by_cases c : T = 38
  · subst c; rw [if_pos rfl] at h; cases h; exact sz38
  rw [if_neg c] at h; clear c
  by_cases c : T = 39
  · subst c; rw [if_pos rfl] at h; cases h; exact sz39
  rw [if_neg c] at h; clear c
  by_cases c : T = 40
  · subst c; rw [if_pos rfl] at h; cases h; exact sz40
  rw [if_neg c] at h; clear c
  by_cases c : T = 41
  · subst c; rw [if_pos rfl] at h; cases h; exact sz41
  rw [if_neg c] at h; clear c
  by_cases c : T = 42
  · subst c; rw [if_pos rfl] at h; cases h; exact sz42
  rw [if_neg c] at h; clear c
  by_cases c : T = 43
  · subst c; rw [if_pos rfl] at h; cases h; exact sz43
  rw [if_neg c] at h; clear c
  by_cases c : T = 44
  · subst c; rw [if_pos rfl] at h; cases h; exact sz44
  rw [if_neg c] at h; clear c
  by_cases c : T = 45
  · subst c; rw [if_pos rfl] at h; cases h; exact sz45
  rw [if_neg c] at h; clear c
  by_cases c : T = 46
  · subst c; rw [if_pos rfl] at h; cases h; exact sz46
  rw [if_neg c] at h; clear c
  by_cases c : T = 47
  · subst c; rw [if_pos rfl] at h; cases h; exact sz47
  rw [if_neg c] at h; clear c
  by_cases c : T = 48
  · subst c; rw [if_pos rfl] at h; cases h; exact sz48
  rw [if_neg c] at h; clear c
  by_cases c : T = 49
  · subst c; rw [if_pos rfl] at h; cases h; exact sz49
  rw [if_neg c] at h; clear c
  by_cases c : T = 50
  · subst c; rw [if_pos rfl] at h; cases h; exact sz50
  rw [if_neg c] at h; clear c
  by_cases c : T = 51
  · subst c; rw [if_pos rfl] at h; cases h; exact sz51
  rw [if_neg c] at h; clear c
  by_cases c : T = 52
  · subst c; rw [if_pos rfl] at h; cases h; exact sz52
  rw [if_neg c] at h; clear c
  by_cases c : T = 53
  · subst c; rw [if_pos rfl] at h; cases h; exact sz53
  rw [if_neg c] at h; clear c
  by_cases c : T = 54
  · subst c; rw [if_pos rfl] at h; cases h; exact sz54
  rw [if_neg c] at h; clear c
  by_cases c : T = 55
  · subst c; rw [if_pos rfl] at h; cases h; exact sz55
  rw [if_neg c] at h; clear c
  by_cases c : T = 56
  · subst c; rw [if_pos rfl] at h; cases h; exact sz56
  rw [if_neg c] at h; clear c
  by_cases c : T = 57
  · subst c; rw [if_pos rfl] at h; cases h; exact sz57
  rw [if_neg c] at h; clear c
  by_cases c : T = 58
  · subst c; rw [if_pos rfl] at h; cases h; exact sz58
  rw [if_neg c] at h; clear c
  by_cases c : T = 59
  · subst c; rw [if_pos rfl] at h; cases h; exact sz59
  rw [if_neg c] at h; clear c
  by_cases c : T = 60
  · subst c; rw [if_pos rfl] at h; cases h; exact sz60
  rw [if_neg c] at h; clear c
  by_cases c : T = 61
  · subst c; rw [if_pos rfl] at h; cases h; exact sz61
  rw [if_neg c] at h; clear c
  by_cases c : T = 62
  · subst c; rw [if_pos rfl] at h; cases h; exact sz62
  rw [if_neg c] at h; clear c
  by_cases c : T = 63
  · subst c; rw [if_pos rfl] at h; cases h; exact sz63
  rw [if_neg c] at h; clear c
  by_cases c : T = 64
  · subst c; rw [if_pos rfl] at h; cases h; exact sz64
  rw [if_neg c] at h; clear c
  by_cases c : T = 65
  · subst c; rw [if_pos rfl] at h; cases h; exact sz65
  rw [if_neg c] at h; clear c
  by_cases c : T = 66
  · subst c; rw [if_pos rfl] at h; cases h; exact sz66
  rw [if_neg c] at h; clear c
  by_cases c : T = 67
  · subst c; rw [if_pos rfl] at h; cases h; exact sz67
  rw [if_neg c] at h; clear c
  by_cases c : T = 68
  · subst c; rw [if_pos rfl] at h; cases h; exact sz68
  rw [if_neg c] at h; clear c
  by_cases c : T = 69
  · subst c; rw [if_pos rfl] at h; cases h; exact sz69
  rw [if_neg c] at h; clear c
  by_cases c : T = 70
  · subst c; rw [if_pos rfl] at h; cases h; exact sz70
  rw [if_neg c] at h; clear c
  by_cases c : T = 71
  · subst c; rw [if_pos rfl] at h; cases h; exact sz71
  rw [if_neg c] at h; clear c
  by_cases c : T = 72
  · subst c; rw [if_pos rfl] at h; cases h; exact sz72
  rw [if_neg c] at h; clear c
  by_cases c : T = 73
  · subst c; rw [if_pos rfl] at h; cases h; exact sz73
  rw [if_neg c] at h; clear c
  by_cases c : T = 74
  · subst c; rw [if_pos rfl] at h; cases h; exact sz74
  rw [if_neg c] at h; clear c
  by_cases c : T = 75
  · subst c; rw [if_pos rfl] at h; cases h; exact sz75
  rw [if_neg c] at h; clear c
  by_cases c : T = 76
  · subst c; rw [if_pos rfl] at h; cases h; exact sz76
  rw [if_neg c] at h; clear c
  cases h

theorem zr1 : zeroB Try.prog 1 = some (some (Value.nilFunc)) := by kernel_rfl
theorem zr2 : zeroB Try.prog 2 = some (some (Value.int .i64 0)) := by kernel_rfl
theorem zr3 : zeroB Try.prog 3 = some (some (Value.int .i64 0)) := by kernel_rfl
theorem zr4 : zeroB Try.prog 4 = some (some (Value.bool false)) := by kernel_rfl
theorem zr5 : zeroB Try.prog 5 = some (some (Value.int .u8 0)) := by kernel_rfl
theorem zr6 : zeroB Try.prog 6 = some (some (Value.int .u8 0)) := by kernel_rfl
theorem zr7 : zeroB Try.prog 7 = some (some (Value.agg #[Value.int .i64 0, Value.int .i64 0, Value.bool false, Value.int .u8 0])) := by kernel_rfl
theorem zr8 : zeroB Try.prog 8 = some (some (Value.agg #[Value.int .i64 0, Value.int .i64 0, Value.bool false, Value.int .u8 0])) := by kernel_rfl
theorem zr9 : zeroB Try.prog 9 = some (some (Value.string ByteArray.empty)) := by kernel_rfl
theorem zr10 : zeroB Try.prog 10 = some (some (Value.string ByteArray.empty)) := by kernel_rfl
theorem zr11 : zeroB Try.prog 11 = some (some (Value.string ByteArray.empty)) := by kernel_rfl
theorem zr12 : zeroB Try.prog 12 = some (some (Value.int .u64 0)) := by kernel_rfl
theorem zr13 : zeroB Try.prog 13 = some (some (Value.agg #[Value.string ByteArray.empty, Value.int .u64 0])) := by kernel_rfl
theorem zr14 : zeroB Try.prog 14 = some (some (Value.agg #[Value.string ByteArray.empty, Value.int .u64 0])) := by kernel_rfl
theorem zr15 : zeroB Try.prog 15 = some (some (Value.pointer none)) := by kernel_rfl
theorem zr16 : zeroB Try.prog 16 = some (some (Value.pointer none)) := by kernel_rfl
theorem zr17 : zeroB Try.prog 17 = some (some (Value.pointer none)) := by kernel_rfl
theorem zr18 : zeroB Try.prog 18 = some (some (Value.agg #[Value.pointer none])) := by kernel_rfl
theorem zr19 : zeroB Try.prog 19 = some (some (Value.agg #[Value.pointer none])) := by kernel_rfl
theorem zr20 : zeroB Try.prog 20 = some (some (Value.nilIface)) := by kernel_rfl
theorem zr21 : zeroB Try.prog 21 = some (some (Value.int .i32 0)) := by kernel_rfl
theorem zr22 : zeroB Try.prog 22 = some (some (Value.slice none 0 0)) := by kernel_rfl
theorem zr23 : zeroB Try.prog 23 = some (some (Value.pointer none)) := by kernel_rfl
theorem zr25 : zeroB Try.prog 25 = some (some (Value.nilFunc)) := by kernel_rfl
theorem zr26 : zeroB Try.prog 26 = some (some (Value.pointer none)) := by kernel_rfl
theorem zr27 : zeroB Try.prog 27 = some (some (Value.nilFunc)) := by kernel_rfl
theorem zr28 : zeroB Try.prog 28 = some (some (Value.nilFunc)) := by kernel_rfl
theorem zr29 : zeroB Try.prog 29 = some (some (Value.slice none 0 0)) := by kernel_rfl
theorem zr30 : zeroB Try.prog 30 = some (some (Value.agg #[Value.int .i64 0, Value.int .i64 0, Value.slice none 0 0, Value.bool false])) := by kernel_rfl
theorem zr31 : zeroB Try.prog 31 = some (some (Value.agg #[Value.int .i64 0, Value.int .i64 0, Value.slice none 0 0, Value.bool false])) := by kernel_rfl
theorem zr32 : zeroB Try.prog 32 = some (some (Value.nilFunc)) := by kernel_rfl
theorem zr33 : zeroB Try.prog 33 = some (some (Value.int .i64 0)) := by kernel_rfl
theorem zr35 : zeroB Try.prog 35 = some (some (Value.nilFunc)) := by kernel_rfl
theorem zr36 : zeroB Try.prog 36 = some (some (Value.nilFunc)) := by kernel_rfl
theorem zr37 : zeroB Try.prog 37 = some (some (Value.nilFunc)) := by kernel_rfl
theorem zr38 : zeroB Try.prog 38 = some (some (Value.nilFunc)) := by kernel_rfl
theorem zr39 : zeroB Try.prog 39 = some (some (Value.nilFunc)) := by kernel_rfl
theorem zr40 : zeroB Try.prog 40 = some (some (Value.nilFunc)) := by kernel_rfl
theorem zr41 : zeroB Try.prog 41 = some (some (Value.nilFunc)) := by kernel_rfl
theorem zr42 : zeroB Try.prog 42 = some (some (Value.nilFunc)) := by kernel_rfl
theorem zr43 : zeroB Try.prog 43 = some (some (Value.slice none 0 0)) := by kernel_rfl
theorem zr44 : zeroB Try.prog 44 = some (some (Value.slice none 0 0)) := by kernel_rfl
theorem zr45 : zeroB Try.prog 45 = some (some (Value.nilFunc)) := by kernel_rfl
theorem zr46 : zeroB Try.prog 46 = some (some (Value.nilFunc)) := by kernel_rfl
theorem zr47 : zeroB Try.prog 47 = some (some (Value.slice none 0 0)) := by kernel_rfl
theorem zr48 : zeroB Try.prog 48 = some (some (Value.slice none 0 0)) := by kernel_rfl
theorem zr49 : zeroB Try.prog 49 = some (some (Value.agg #[Value.slice none 0 0, Value.slice none 0 0, Value.slice none 0 0, Value.int .i64 0, Value.bool false])) := by kernel_rfl
theorem zr50 : zeroB Try.prog 50 = some (some (Value.agg #[Value.slice none 0 0, Value.slice none 0 0, Value.slice none 0 0, Value.int .i64 0, Value.bool false])) := by kernel_rfl
theorem zr51 : zeroB Try.prog 51 = some (some (Value.slice none 0 0)) := by kernel_rfl
theorem zr52 : zeroB Try.prog 52 = some (some (Value.slice none 0 0)) := by kernel_rfl
theorem zr53 : zeroB Try.prog 53 = some (some (Value.agg #[Value.slice none 0 0, Value.slice none 0 0, Value.bool false, Value.int .i64 0, Value.bool false])) := by kernel_rfl
theorem zr54 : zeroB Try.prog 54 = some (some (Value.agg #[Value.slice none 0 0, Value.slice none 0 0, Value.bool false, Value.int .i64 0, Value.bool false])) := by kernel_rfl
theorem zr55 : zeroB Try.prog 55 = some (some (Value.agg (List.replicate 128 (Value.int .u8 0)).toArray)) := by kernel_rfl
theorem zr56 : zeroB Try.prog 56 = some (some (Value.agg (List.replicate 128 (Value.int .u8 0)).toArray)) := by kernel_rfl
theorem zr57 : zeroB Try.prog 57 = some (some (Value.nilFunc)) := by kernel_rfl
theorem zr58 : zeroB Try.prog 58 = some (some (Value.agg ([Value.int .i64 0] ++ List.replicate 128 (Value.int .u8 0)).toArray)) := by kernel_rfl
theorem zr59 : zeroB Try.prog 59 = some (some (Value.agg ([Value.int .i64 0] ++ List.replicate 128 (Value.int .u8 0)).toArray)) := by kernel_rfl
theorem zr60 : zeroB Try.prog 60 = some (some (Value.agg #[Value.int .i64 0, Value.string ByteArray.empty])) := by kernel_rfl
theorem zr61 : zeroB Try.prog 61 = some (some (Value.agg #[Value.int .i64 0, Value.string ByteArray.empty])) := by kernel_rfl
theorem zr62 : zeroB Try.prog 62 = some (some (Value.nilFunc)) := by kernel_rfl
theorem zr63 : zeroB Try.prog 63 = some (some (Value.agg #[Value.pointer none, Value.pointer none, Value.pointer none, Value.string ByteArray.empty])) := by kernel_rfl
theorem zr64 : zeroB Try.prog 64 = some (some (Value.agg #[Value.pointer none, Value.pointer none, Value.pointer none, Value.string ByteArray.empty])) := by kernel_rfl
theorem zr65 : zeroB Try.prog 65 = some (some (Value.agg #[])) := by kernel_rfl
theorem zr66 : zeroB Try.prog 66 = some (some (Value.agg #[])) := by kernel_rfl
theorem zr67 : zeroB Try.prog 67 = some (some (Value.agg #[])) := by kernel_rfl
theorem zr68 : zeroB Try.prog 68 = some (some (Value.int .u32 0)) := by kernel_rfl
theorem zr69 : zeroB Try.prog 69 = some (some (Value.int .u8 0)) := by kernel_rfl
theorem zr70 : zeroB Try.prog 70 = some (some (Value.int .u8 0)) := by kernel_rfl
theorem zr71 : zeroB Try.prog 71 = some (some (Value.nilFunc)) := by kernel_rfl
theorem zr72 : zeroB Try.prog 72 = some (some (Value.pointer none)) := by kernel_rfl
theorem zr73 : zeroB Try.prog 73 = some (some (Value.int .i32 0)) := by kernel_rfl
theorem zr74 : zeroB Try.prog 74 = some (some (Value.int .i32 0)) := by kernel_rfl
theorem zr75 : zeroB Try.prog 75 = some (some (Value.agg #[Value.int .u64 0, Value.int .u64 0, Value.int .u32 0, Value.int .u8 0, Value.int .u8 0, Value.int .u8 0, Value.int .u8 0, Value.nilFunc, Value.pointer none, Value.int .i32 0, Value.int .i32 0])) := by kernel_rfl
theorem zr76 : zeroB Try.prog 76 = some (some (Value.agg #[Value.int .u64 0, Value.int .u64 0, Value.int .u32 0, Value.int .u8 0, Value.int .u8 0, Value.int .u8 0, Value.int .u8 0, Value.nilFunc, Value.pointer none, Value.int .i32 0, Value.int .i32 0])) := by kernel_rfl
def zrTab (T : Nat) : Option (Option Value) :=
  if T = 1 then some (some (Value.nilFunc)) else
  if T = 2 then some (some (Value.int .i64 0)) else
  if T = 3 then some (some (Value.int .i64 0)) else
  if T = 4 then some (some (Value.bool false)) else
  if T = 5 then some (some (Value.int .u8 0)) else
  if T = 6 then some (some (Value.int .u8 0)) else
  if T = 7 then some (some (Value.agg #[Value.int .i64 0, Value.int .i64 0, Value.bool false, Value.int .u8 0])) else
  if T = 8 then some (some (Value.agg #[Value.int .i64 0, Value.int .i64 0, Value.bool false, Value.int .u8 0])) else
  if T = 9 then some (some (Value.string ByteArray.empty)) else
  if T = 10 then some (some (Value.string ByteArray.empty)) else
  if T = 11 then some (some (Value.string ByteArray.empty)) else
  if T = 12 then some (some (Value.int .u64 0)) else
  if T = 13 then some (some (Value.agg #[Value.string ByteArray.empty, Value.int .u64 0])) else
  if T = 14 then some (some (Value.agg #[Value.string ByteArray.empty, Value.int .u64 0])) else
  if T = 15 then some (some (Value.pointer none)) else
  if T = 16 then some (some (Value.pointer none)) else
  if T = 17 then some (some (Value.pointer none)) else
  if T = 18 then some (some (Value.agg #[Value.pointer none])) else
  if T = 19 then some (some (Value.agg #[Value.pointer none])) else
  if T = 20 then some (some (Value.nilIface)) else
  if T = 21 then some (some (Value.int .i32 0)) else
  if T = 22 then some (some (Value.slice none 0 0)) else
  if T = 23 then some (some (Value.pointer none)) else
  if T = 25 then some (some (Value.nilFunc)) else
  if T = 26 then some (some (Value.pointer none)) else
  if T = 27 then some (some (Value.nilFunc)) else
  if T = 28 then some (some (Value.nilFunc)) else
  if T = 29 then some (some (Value.slice none 0 0)) else
  if T = 30 then some (some (Value.agg #[Value.int .i64 0, Value.int .i64 0, Value.slice none 0 0, Value.bool false])) else
  if T = 31 then some (some (Value.agg #[Value.int .i64 0, Value.int .i64 0, Value.slice none 0 0, Value.bool false])) else
  if T = 32 then some (some (Value.nilFunc)) else
  if T = 33 then some (some (Value.int .i64 0)) else
  if T = 35 then some (some (Value.nilFunc)) else
  if T = 36 then some (some (Value.nilFunc)) else
  if T = 37 then some (some (Value.nilFunc)) else
  if T = 38 then some (some (Value.nilFunc)) else
  if T = 39 then some (some (Value.nilFunc)) else
  if T = 40 then some (some (Value.nilFunc)) else
  if T = 41 then some (some (Value.nilFunc)) else
  if T = 42 then some (some (Value.nilFunc)) else
  if T = 43 then some (some (Value.slice none 0 0)) else
  if T = 44 then some (some (Value.slice none 0 0)) else
  if T = 45 then some (some (Value.nilFunc)) else
  if T = 46 then some (some (Value.nilFunc)) else
  if T = 47 then some (some (Value.slice none 0 0)) else
  if T = 48 then some (some (Value.slice none 0 0)) else
  if T = 49 then some (some (Value.agg #[Value.slice none 0 0, Value.slice none 0 0, Value.slice none 0 0, Value.int .i64 0, Value.bool false])) else
  if T = 50 then some (some (Value.agg #[Value.slice none 0 0, Value.slice none 0 0, Value.slice none 0 0, Value.int .i64 0, Value.bool false])) else
  if T = 51 then some (some (Value.slice none 0 0)) else
  if T = 52 then some (some (Value.slice none 0 0)) else
  if T = 53 then some (some (Value.agg #[Value.slice none 0 0, Value.slice none 0 0, Value.bool false, Value.int .i64 0, Value.bool false])) else
  if T = 54 then some (some (Value.agg #[Value.slice none 0 0, Value.slice none 0 0, Value.bool false, Value.int .i64 0, Value.bool false])) else
  if T = 55 then some (some (Value.agg (List.replicate 128 (Value.int .u8 0)).toArray)) else
  if T = 56 then some (some (Value.agg (List.replicate 128 (Value.int .u8 0)).toArray)) else
  if T = 57 then some (some (Value.nilFunc)) else
  if T = 58 then some (some (Value.agg ([Value.int .i64 0] ++ List.replicate 128 (Value.int .u8 0)).toArray)) else
  if T = 59 then some (some (Value.agg ([Value.int .i64 0] ++ List.replicate 128 (Value.int .u8 0)).toArray)) else
  if T = 60 then some (some (Value.agg #[Value.int .i64 0, Value.string ByteArray.empty])) else
  if T = 61 then some (some (Value.agg #[Value.int .i64 0, Value.string ByteArray.empty])) else
  if T = 62 then some (some (Value.nilFunc)) else
  if T = 63 then some (some (Value.agg #[Value.pointer none, Value.pointer none, Value.pointer none, Value.string ByteArray.empty])) else
  if T = 64 then some (some (Value.agg #[Value.pointer none, Value.pointer none, Value.pointer none, Value.string ByteArray.empty])) else
  if T = 65 then some (some (Value.agg #[])) else
  if T = 66 then some (some (Value.agg #[])) else
  if T = 67 then some (some (Value.agg #[])) else
  if T = 68 then some (some (Value.int .u32 0)) else
  if T = 69 then some (some (Value.int .u8 0)) else
  if T = 70 then some (some (Value.int .u8 0)) else
  if T = 71 then some (some (Value.nilFunc)) else
  if T = 72 then some (some (Value.pointer none)) else
  if T = 73 then some (some (Value.int .i32 0)) else
  if T = 74 then some (some (Value.int .i32 0)) else
  if T = 75 then some (some (Value.agg #[Value.int .u64 0, Value.int .u64 0, Value.int .u32 0, Value.int .u8 0, Value.int .u8 0, Value.int .u8 0, Value.int .u8 0, Value.nilFunc, Value.pointer none, Value.int .i32 0, Value.int .i32 0])) else
  if T = 76 then some (some (Value.agg #[Value.int .u64 0, Value.int .u64 0, Value.int .u32 0, Value.int .u8 0, Value.int .u8 0, Value.int .u8 0, Value.int .u8 0, Value.nilFunc, Value.pointer none, Value.int .i32 0, Value.int .i32 0])) else
  none
theorem zrOf {T : Nat} {x : Option Value} (h : zrTab T = some x) : zeroB Try.prog T = some x := by
  unfold zrTab at h
  by_cases c : T = 1
  · subst c; rw [if_pos rfl] at h; cases h; exact zr1
  rw [if_neg c] at h; clear c
  by_cases c : T = 2
  · subst c; rw [if_pos rfl] at h; cases h; exact zr2
  rw [if_neg c] at h; clear c
  by_cases c : T = 3
  · subst c; rw [if_pos rfl] at h; cases h; exact zr3
  rw [if_neg c] at h; clear c
  by_cases c : T = 4
  · subst c; rw [if_pos rfl] at h; cases h; exact zr4
  rw [if_neg c] at h; clear c
  by_cases c : T = 5
  · subst c; rw [if_pos rfl] at h; cases h; exact zr5
  rw [if_neg c] at h; clear c
  by_cases c : T = 6
  · subst c; rw [if_pos rfl] at h; cases h; exact zr6
  rw [if_neg c] at h; clear c
  by_cases c : T = 7
  · subst c; rw [if_pos rfl] at h; cases h; exact zr7
  rw [if_neg c] at h; clear c
  by_cases c : T = 8
  · subst c; rw [if_pos rfl] at h; cases h; exact zr8
  rw [if_neg c] at h; clear c
  by_cases c : T = 9
  · subst c; rw [if_pos rfl] at h; cases h; exact zr9
  rw [if_neg c] at h; clear c
  by_cases c : T = 10
  · subst c; rw [if_pos rfl] at h; cases h; exact zr10
  rw [if_neg c] at h; clear c
  by_cases c : T = 11
  · subst c; rw [if_pos rfl] at h; cases h; exact zr11
  rw [if_neg c] at h; clear c
  by_cases c : T = 12
  · subst c; rw [if_pos rfl] at h; cases h; exact zr12
  rw [if_neg c] at h; clear c
  by_cases c : T = 13
  · subst c; rw [if_pos rfl] at h; cases h; exact zr13
  rw [if_neg c] at h; clear c
  by_cases c : T = 14
  · subst c; rw [if_pos rfl] at h; cases h; exact zr14
  rw [if_neg c] at h; clear c
  by_cases c : T = 15
  · subst c; rw [if_pos rfl] at h; cases h; exact zr15
  rw [if_neg c] at h; clear c
  by_cases c : T = 16
  · subst c; rw [if_pos rfl] at h; cases h; exact zr16
  rw [if_neg c] at h; clear c
  by_cases c : T = 17
  · subst c; rw [if_pos rfl] at h; cases h; exact zr17
  rw [if_neg c] at h; clear c
  by_cases c : T = 18
  · subst c; rw [if_pos rfl] at h; cases h; exact zr18
  rw [if_neg c] at h; clear c
  by_cases c : T = 19
  · subst c; rw [if_pos rfl] at h; cases h; exact zr19
  rw [if_neg c] at h; clear c
  by_cases c : T = 20
  · subst c; rw [if_pos rfl] at h; cases h; exact zr20
  rw [if_neg c] at h; clear c
  by_cases c : T = 21
  · subst c; rw [if_pos rfl] at h; cases h; exact zr21
  rw [if_neg c] at h; clear c
  by_cases c : T = 22
  · subst c; rw [if_pos rfl] at h; cases h; exact zr22
  rw [if_neg c] at h; clear c
  by_cases c : T = 23
  · subst c; rw [if_pos rfl] at h; cases h; exact zr23
  rw [if_neg c] at h; clear c
  by_cases c : T = 25
  · subst c; rw [if_pos rfl] at h; cases h; exact zr25
  rw [if_neg c] at h; clear c
  by_cases c : T = 26
  · subst c; rw [if_pos rfl] at h; cases h; exact zr26
  rw [if_neg c] at h; clear c
  by_cases c : T = 27
  · subst c; rw [if_pos rfl] at h; cases h; exact zr27
  rw [if_neg c] at h; clear c
  by_cases c : T = 28
  · subst c; rw [if_pos rfl] at h; cases h; exact zr28
  rw [if_neg c] at h; clear c
  by_cases c : T = 29
  · subst c; rw [if_pos rfl] at h; cases h; exact zr29
  rw [if_neg c] at h; clear c
  by_cases c : T = 30
  · subst c; rw [if_pos rfl] at h; cases h; exact zr30
  rw [if_neg c] at h; clear c
  by_cases c : T = 31
  · subst c; rw [if_pos rfl] at h; cases h; exact zr31
  rw [if_neg c] at h; clear c
  by_cases c : T = 32
  · subst c; rw [if_pos rfl] at h; cases h; exact zr32
  rw [if_neg c] at h; clear c
  by_cases c : T = 33
  · subst c; rw [if_pos rfl] at h; cases h; exact zr33
  rw [if_neg c] at h; clear c
  by_cases c : T = 35
  · subst c; rw [if_pos rfl] at h; cases h; exact zr35
  rw [if_neg c] at h; clear c
  by_cases c : T = 36
  · subst c; rw [if_pos rfl] at h; cases h; exact zr36
  rw [if_neg c] at h; clear c
  by_cases c : T = 37
  · subst c; rw [if_pos rfl] at h; cases h; exact zr37
  rw [if_neg c] at h; clear c
  by_cases c : T = 38
  · subst c; rw [if_pos rfl] at h; cases h; exact zr38
  rw [if_neg c] at h; clear c
  by_cases c : T = 39
  · subst c; rw [if_pos rfl] at h; cases h; exact zr39
  rw [if_neg c] at h; clear c
  by_cases c : T = 40
  · subst c; rw [if_pos rfl] at h; cases h; exact zr40
  rw [if_neg c] at h; clear c
  by_cases c : T = 41
  · subst c; rw [if_pos rfl] at h; cases h; exact zr41
  rw [if_neg c] at h; clear c
  by_cases c : T = 42
  · subst c; rw [if_pos rfl] at h; cases h; exact zr42
  rw [if_neg c] at h; clear c
  by_cases c : T = 43
  · subst c; rw [if_pos rfl] at h; cases h; exact zr43
  rw [if_neg c] at h; clear c
  by_cases c : T = 44
  · subst c; rw [if_pos rfl] at h; cases h; exact zr44
  rw [if_neg c] at h; clear c
  by_cases c : T = 45
  · subst c; rw [if_pos rfl] at h; cases h; exact zr45
  rw [if_neg c] at h; clear c
  by_cases c : T = 46
  · subst c; rw [if_pos rfl] at h; cases h; exact zr46
  rw [if_neg c] at h; clear c
  by_cases c : T = 47
  · subst c; rw [if_pos rfl] at h; cases h; exact zr47
  rw [if_neg c] at h; clear c
  by_cases c : T = 48
  · subst c; rw [if_pos rfl] at h; cases h; exact zr48
  rw [if_neg c] at h; clear c
  by_cases c : T = 49
  · subst c; rw [if_pos rfl] at h; cases h; exact zr49
  rw [if_neg c] at h; clear c
  by_cases c : T = 50
  · subst c; rw [if_pos rfl] at h; cases h; exact zr50
  rw [if_neg c] at h; clear c
  by_cases c : T = 51
  · subst c; rw [if_pos rfl] at h; cases h; exact zr51
  rw [if_neg c] at h; clear c
  by_cases c : T = 52
  · subst c; rw [if_pos rfl] at h; cases h; exact zr52
  rw [if_neg c] at h; clear c
  by_cases c : T = 53
  · subst c; rw [if_pos rfl] at h; cases h; exact zr53
  rw [if_neg c] at h; clear c
  by_cases c : T = 54
  · subst c; rw [if_pos rfl] at h; cases h; exact zr54
  rw [if_neg c] at h; clear c
  by_cases c : T = 55
  · subst c; rw [if_pos rfl] at h; cases h; exact zr55
  rw [if_neg c] at h; clear c
  by_cases c : T = 56
  · subst c; rw [if_pos rfl] at h; cases h; exact zr56
  rw [if_neg c] at h; clear c
  by_cases c : T = 57
  · subst c; rw [if_pos rfl] at h; cases h; exact zr57
  rw [if_neg c] at h; clear c
  by_cases c : T = 58
  · subst c; rw [if_pos rfl] at h; cases h; exact zr58
  rw [if_neg c] at h; clear c
  by_cases c : T = 59
  · subst c; rw [if_pos rfl] at h; cases h; exact zr59
  rw [if_neg c] at h; clear c
  by_cases c : T = 60
  · subst c; rw [if_pos rfl] at h; cases h; exact zr60
  rw [if_neg c] at h; clear c
  by_cases c : T = 61
  · subst c; rw [if_pos rfl] at h; cases h; exact zr61
  rw [if_neg c] at h; clear c
  by_cases c : T = 62
  · subst c; rw [if_pos rfl] at h; cases h; exact zr62
  rw [if_neg c] at h; clear c
  by_cases c : T = 63
  · subst c; rw [if_pos rfl] at h; cases h; exact zr63
  rw [if_neg c] at h; clear c
  by_cases c : T = 64
  · subst c; rw [if_pos rfl] at h; cases h; exact zr64
  rw [if_neg c] at h; clear c
  by_cases c : T = 65
  · subst c; rw [if_pos rfl] at h; cases h; exact zr65
  rw [if_neg c] at h; clear c
  by_cases c : T = 66
  · subst c; rw [if_pos rfl] at h; cases h; exact zr66
  rw [if_neg c] at h; clear c
  by_cases c : T = 67
  · subst c; rw [if_pos rfl] at h; cases h; exact zr67
  rw [if_neg c] at h; clear c
  by_cases c : T = 68
  · subst c; rw [if_pos rfl] at h; cases h; exact zr68
  rw [if_neg c] at h; clear c
  by_cases c : T = 69
  · subst c; rw [if_pos rfl] at h; cases h; exact zr69
  rw [if_neg c] at h; clear c
  by_cases c : T = 70
  · subst c; rw [if_pos rfl] at h; cases h; exact zr70
  rw [if_neg c] at h; clear c
  by_cases c : T = 71
  · subst c; rw [if_pos rfl] at h; cases h; exact zr71
  rw [if_neg c] at h; clear c
  by_cases c : T = 72
  · subst c; rw [if_pos rfl] at h; cases h; exact zr72
  rw [if_neg c] at h; clear c
  by_cases c : T = 73
  · subst c; rw [if_pos rfl] at h; cases h; exact zr73
  rw [if_neg c] at h; clear c
  by_cases c : T = 74
  · subst c; rw [if_pos rfl] at h; cases h; exact zr74
  rw [if_neg c] at h; clear c
  by_cases c : T = 75
  · subst c; rw [if_pos rfl] at h; cases h; exact zr75
  rw [if_neg c] at h; clear c
  by_cases c : T = 76
  · subst c; rw [if_pos rfl] at h; cases h; exact zr76
  rw [if_neg c] at h; clear c
  cases h

theorem el22 : elemB Try.prog 22 = some (31, 4, 48, some (Value.agg #[Value.int .i64 0, Value.int .i64 0, Value.slice none 0 0, Value.bool false])) := by kernel_rfl
theorem el29 : elemB Try.prog 29 = some (5, 1, 1, some (Value.int .u8 0)) := by kernel_rfl
theorem el43 : elemB Try.prog 43 = some (3, 1, 8, some (Value.int .i64 0)) := by kernel_rfl
theorem el44 : elemB Try.prog 44 = some (29, 1, 24, some (Value.slice none 0 0)) := by kernel_rfl
theorem el47 : elemB Try.prog 47 = some (56, 128, 128, some (Value.agg (List.replicate 128 (Value.int .u8 0)).toArray)) := by kernel_rfl
theorem el48 : elemB Try.prog 48 = some (59, 129, 136, some (Value.agg ([Value.int .i64 0] ++ List.replicate 128 (Value.int .u8 0)).toArray)) := by kernel_rfl
theorem el51 : elemB Try.prog 51 = some (9, 1, 16, some (Value.string ByteArray.empty)) := by kernel_rfl
theorem el52 : elemB Try.prog 52 = some (61, 2, 24, some (Value.agg #[Value.int .i64 0, Value.string ByteArray.empty])) := by kernel_rfl
def elTab (T : Nat) : Option (TypeId × Nat × Nat × Option Value) :=
  if T = 22 then some (31, 4, 48, some (Value.agg #[Value.int .i64 0, Value.int .i64 0, Value.slice none 0 0, Value.bool false])) else
  if T = 29 then some (5, 1, 1, some (Value.int .u8 0)) else
  if T = 43 then some (3, 1, 8, some (Value.int .i64 0)) else
  if T = 44 then some (29, 1, 24, some (Value.slice none 0 0)) else
  if T = 47 then some (56, 128, 128, some (Value.agg (List.replicate 128 (Value.int .u8 0)).toArray)) else
  if T = 48 then some (59, 129, 136, some (Value.agg ([Value.int .i64 0] ++ List.replicate 128 (Value.int .u8 0)).toArray)) else
  if T = 51 then some (9, 1, 16, some (Value.string ByteArray.empty)) else
  if T = 52 then some (61, 2, 24, some (Value.agg #[Value.int .i64 0, Value.string ByteArray.empty])) else
  none
theorem elOf {T : Nat} {x : TypeId × Nat × Nat × Option Value} (h : elTab T = some x) : elemB Try.prog T = some x := by
  unfold elTab at h
  by_cases c : T = 22
  · subst c; rw [if_pos rfl] at h; cases h; exact el22
  rw [if_neg c] at h; clear c
  by_cases c : T = 29
  · subst c; rw [if_pos rfl] at h; cases h; exact el29
  rw [if_neg c] at h; clear c
  by_cases c : T = 43
  · subst c; rw [if_pos rfl] at h; cases h; exact el43
  rw [if_neg c] at h; clear c
  by_cases c : T = 44
  · subst c; rw [if_pos rfl] at h; cases h; exact el44
  rw [if_neg c] at h; clear c
  by_cases c : T = 47
  · subst c; rw [if_pos rfl] at h; cases h; exact el47
  rw [if_neg c] at h; clear c
  by_cases c : T = 48
  · subst c; rw [if_pos rfl] at h; cases h; exact el48
  rw [if_neg c] at h; clear c
  by_cases c : T = 51
  · subst c; rw [if_pos rfl] at h; cases h; exact el51
  rw [if_neg c] at h; clear c
  by_cases c : T = 52
  · subst c; rw [if_pos rfl] at h; cases h; exact el52
  rw [if_neg c] at h; clear c
  cases h

theorem in0 : intB Try.prog 0 = some false := by kernel_rfl
theorem in1 : intB Try.prog 1 = some false := by kernel_rfl
theorem in2 : intB Try.prog 2 = some true := by kernel_rfl
theorem in3 : intB Try.prog 3 = some true := by kernel_rfl
theorem in4 : intB Try.prog 4 = some false := by kernel_rfl
theorem in5 : intB Try.prog 5 = some true := by kernel_rfl
theorem in6 : intB Try.prog 6 = some true := by kernel_rfl
theorem in7 : intB Try.prog 7 = some false := by kernel_rfl
theorem in8 : intB Try.prog 8 = some false := by kernel_rfl
theorem in9 : intB Try.prog 9 = some false := by kernel_rfl
theorem in10 : intB Try.prog 10 = some false := by kernel_rfl
theorem in11 : intB Try.prog 11 = some false := by kernel_rfl
theorem in12 : intB Try.prog 12 = some true := by kernel_rfl
theorem in13 : intB Try.prog 13 = some false := by kernel_rfl
theorem in14 : intB Try.prog 14 = some false := by kernel_rfl
theorem in15 : intB Try.prog 15 = some false := by kernel_rfl
theorem in16 : intB Try.prog 16 = some false := by kernel_rfl
theorem in17 : intB Try.prog 17 = some false := by kernel_rfl
theorem in18 : intB Try.prog 18 = some false := by kernel_rfl
theorem in19 : intB Try.prog 19 = some false := by kernel_rfl
theorem in20 : intB Try.prog 20 = some false := by kernel_rfl
theorem in21 : intB Try.prog 21 = some true := by kernel_rfl
theorem in22 : intB Try.prog 22 = some false := by kernel_rfl
theorem in23 : intB Try.prog 23 = some false := by kernel_rfl
theorem in24 : intB Try.prog 24 = some false := by kernel_rfl
theorem in25 : intB Try.prog 25 = some false := by kernel_rfl
theorem in26 : intB Try.prog 26 = some false := by kernel_rfl
theorem in27 : intB Try.prog 27 = some false := by kernel_rfl
theorem in28 : intB Try.prog 28 = some false := by kernel_rfl
theorem in29 : intB Try.prog 29 = some false := by kernel_rfl
theorem in30 : intB Try.prog 30 = some false := by kernel_rfl
theorem in31 : intB Try.prog 31 = some false := by kernel_rfl
theorem in32 : intB Try.prog 32 = some false := by kernel_rfl
theorem in33 : intB Try.prog 33 = some true := by kernel_rfl
theorem in34 : intB Try.prog 34 = some false := by kernel_rfl
theorem in35 : intB Try.prog 35 = some false := by kernel_rfl
theorem in36 : intB Try.prog 36 = some false := by kernel_rfl
theorem in37 : intB Try.prog 37 = some false := by kernel_rfl
theorem in38 : intB Try.prog 38 = some false := by kernel_rfl
theorem in39 : intB Try.prog 39 = some false := by kernel_rfl
theorem in40 : intB Try.prog 40 = some false := by kernel_rfl
theorem in41 : intB Try.prog 41 = some false := by kernel_rfl
theorem in42 : intB Try.prog 42 = some false := by kernel_rfl
theorem in43 : intB Try.prog 43 = some false := by kernel_rfl
theorem in44 : intB Try.prog 44 = some false := by kernel_rfl
theorem in45 : intB Try.prog 45 = some false := by kernel_rfl
theorem in46 : intB Try.prog 46 = some false := by kernel_rfl
theorem in47 : intB Try.prog 47 = some false := by kernel_rfl
theorem in48 : intB Try.prog 48 = some false := by kernel_rfl
theorem in49 : intB Try.prog 49 = some false := by kernel_rfl
theorem in50 : intB Try.prog 50 = some false := by kernel_rfl
theorem in51 : intB Try.prog 51 = some false := by kernel_rfl
theorem in52 : intB Try.prog 52 = some false := by kernel_rfl
theorem in53 : intB Try.prog 53 = some false := by kernel_rfl
theorem in54 : intB Try.prog 54 = some false := by kernel_rfl
theorem in55 : intB Try.prog 55 = some false := by kernel_rfl
theorem in56 : intB Try.prog 56 = some false := by kernel_rfl
theorem in57 : intB Try.prog 57 = some false := by kernel_rfl
theorem in58 : intB Try.prog 58 = some false := by kernel_rfl
theorem in59 : intB Try.prog 59 = some false := by kernel_rfl
theorem in60 : intB Try.prog 60 = some false := by kernel_rfl
theorem in61 : intB Try.prog 61 = some false := by kernel_rfl
theorem in62 : intB Try.prog 62 = some false := by kernel_rfl
theorem in63 : intB Try.prog 63 = some false := by kernel_rfl
theorem in64 : intB Try.prog 64 = some false := by kernel_rfl
theorem in65 : intB Try.prog 65 = some false := by kernel_rfl
theorem in66 : intB Try.prog 66 = some false := by kernel_rfl
theorem in67 : intB Try.prog 67 = some false := by kernel_rfl
theorem in68 : intB Try.prog 68 = some true := by kernel_rfl
theorem in69 : intB Try.prog 69 = some true := by kernel_rfl
theorem in70 : intB Try.prog 70 = some true := by kernel_rfl
theorem in71 : intB Try.prog 71 = some false := by kernel_rfl
theorem in72 : intB Try.prog 72 = some false := by kernel_rfl
theorem in73 : intB Try.prog 73 = some true := by kernel_rfl
theorem in74 : intB Try.prog 74 = some true := by kernel_rfl
theorem in75 : intB Try.prog 75 = some false := by kernel_rfl
theorem in76 : intB Try.prog 76 = some false := by kernel_rfl
def inTab (T : Nat) : Option (Bool) :=
  if T = 0 then some false else
  if T = 1 then some false else
  if T = 2 then some true else
  if T = 3 then some true else
  if T = 4 then some false else
  if T = 5 then some true else
  if T = 6 then some true else
  if T = 7 then some false else
  if T = 8 then some false else
  if T = 9 then some false else
  if T = 10 then some false else
  if T = 11 then some false else
  if T = 12 then some true else
  if T = 13 then some false else
  if T = 14 then some false else
  if T = 15 then some false else
  if T = 16 then some false else
  if T = 17 then some false else
  if T = 18 then some false else
  if T = 19 then some false else
  if T = 20 then some false else
  if T = 21 then some true else
  if T = 22 then some false else
  if T = 23 then some false else
  if T = 24 then some false else
  if T = 25 then some false else
  if T = 26 then some false else
  if T = 27 then some false else
  if T = 28 then some false else
  if T = 29 then some false else
  if T = 30 then some false else
  if T = 31 then some false else
  if T = 32 then some false else
  if T = 33 then some true else
  if T = 34 then some false else
  if T = 35 then some false else
  if T = 36 then some false else
  if T = 37 then some false else
  if T = 38 then some false else
  if T = 39 then some false else
  if T = 40 then some false else
  if T = 41 then some false else
  if T = 42 then some false else
  if T = 43 then some false else
  if T = 44 then some false else
  if T = 45 then some false else
  if T = 46 then some false else
  if T = 47 then some false else
  if T = 48 then some false else
  if T = 49 then some false else
  if T = 50 then some false else
  if T = 51 then some false else
  if T = 52 then some false else
  if T = 53 then some false else
  if T = 54 then some false else
  if T = 55 then some false else
  if T = 56 then some false else
  if T = 57 then some false else
  if T = 58 then some false else
  if T = 59 then some false else
  if T = 60 then some false else
  if T = 61 then some false else
  if T = 62 then some false else
  if T = 63 then some false else
  if T = 64 then some false else
  if T = 65 then some false else
  if T = 66 then some false else
  if T = 67 then some false else
  if T = 68 then some true else
  if T = 69 then some true else
  if T = 70 then some true else
  if T = 71 then some false else
  if T = 72 then some false else
  if T = 73 then some true else
  if T = 74 then some true else
  if T = 75 then some false else
  if T = 76 then some false else
  none
theorem inOf {T : Nat} {x : Bool} (h : inTab T = some x) : intB Try.prog T = some x := by
  unfold inTab at h
  by_cases c : T = 0
  · subst c; rw [if_pos rfl] at h; cases h; exact in0
  rw [if_neg c] at h; clear c
  by_cases c : T = 1
  · subst c; rw [if_pos rfl] at h; cases h; exact in1
  rw [if_neg c] at h; clear c
  by_cases c : T = 2
  · subst c; rw [if_pos rfl] at h; cases h; exact in2
  rw [if_neg c] at h; clear c
  by_cases c : T = 3
  · subst c; rw [if_pos rfl] at h; cases h; exact in3
  rw [if_neg c] at h; clear c
  by_cases c : T = 4
  · subst c; rw [if_pos rfl] at h; cases h; exact in4
  rw [if_neg c] at h; clear c
  by_cases c : T = 5
  · subst c; rw [if_pos rfl] at h; cases h; exact in5
  rw [if_neg c] at h; clear c
  by_cases c : T = 6
  · subst c; rw [if_pos rfl] at h; cases h; exact in6
  rw [if_neg c] at h; clear c
  by_cases c : T = 7
  · subst c; rw [if_pos rfl] at h; cases h; exact in7
  rw [if_neg c] at h; clear c
  by_cases c : T = 8
  · subst c; rw [if_pos rfl] at h; cases h; exact in8
  rw [if_neg c] at h; clear c
  by_cases c : T = 9
  · subst c; rw [if_pos rfl] at h; cases h; exact in9
  rw [if_neg c] at h; clear c
  by_cases c : T = 10
  · subst c; rw [if_pos rfl] at h; cases h; exact in10
  rw [if_neg c] at h; clear c
  by_cases c : T = 11
  · subst c; rw [if_pos rfl] at h; cases h; exact in11
  rw [if_neg c] at h; clear c
  by_cases c : T = 12
  · subst c; rw [if_pos rfl] at h; cases h; exact in12
  rw [if_neg c] at h; clear c
  by_cases c : T = 13
  · subst c; rw [if_pos rfl] at h; cases h; exact in13
  rw [if_neg c] at h; clear c
  by_cases c : T = 14
  · subst c; rw [if_pos rfl] at h; cases h; exact in14
  rw [if_neg c] at h; clear c
  by_cases c : T = 15
  · subst c; rw [if_pos rfl] at h; cases h; exact in15
  rw [if_neg c] at h; clear c
  by_cases c : T = 16
  · subst c; rw [if_pos rfl] at h; cases h; exact in16
  rw [if_neg c] at h; clear c
  by_cases c : T = 17
  · subst c; rw [if_pos rfl] at h; cases h; exact in17
  rw [if_neg c] at h; clear c
  by_cases c : T = 18
  · subst c; rw [if_pos rfl] at h; cases h; exact in18
  rw [if_neg c] at h; clear c
  by_cases c : T = 19
  · subst c; rw [if_pos rfl] at h; cases h; exact in19
  rw [if_neg c] at h; clear c
  by_cases c : T = 20
  · subst c; rw [if_pos rfl] at h; cases h; exact in20
  rw [if_neg c] at h; clear c
  by_cases c : T = 21
  · subst c; rw [if_pos rfl] at h; cases h; exact in21
  rw [if_neg c] at h; clear c
  by_cases c : T = 22
  · subst c; rw [if_pos rfl] at h; cases h; exact in22
  rw [if_neg c] at h; clear c
  by_cases c : T = 23
  · subst c; rw [if_pos rfl] at h; cases h; exact in23
  rw [if_neg c] at h; clear c
  by_cases c : T = 24
  · subst c; rw [if_pos rfl] at h; cases h; exact in24
  rw [if_neg c] at h; clear c
  by_cases c : T = 25
  · subst c; rw [if_pos rfl] at h; cases h; exact in25
  rw [if_neg c] at h; clear c
  by_cases c : T = 26
  · subst c; rw [if_pos rfl] at h; cases h; exact in26
  rw [if_neg c] at h; clear c
  by_cases c : T = 27
  · subst c; rw [if_pos rfl] at h; cases h; exact in27
  rw [if_neg c] at h; clear c
  by_cases c : T = 28
  · subst c; rw [if_pos rfl] at h; cases h; exact in28
  rw [if_neg c] at h; clear c
  by_cases c : T = 29
  · subst c; rw [if_pos rfl] at h; cases h; exact in29
  rw [if_neg c] at h; clear c
  by_cases c : T = 30
  · subst c; rw [if_pos rfl] at h; cases h; exact in30
  rw [if_neg c] at h; clear c
  by_cases c : T = 31
  · subst c; rw [if_pos rfl] at h; cases h; exact in31
  rw [if_neg c] at h; clear c
  by_cases c : T = 32
  · subst c; rw [if_pos rfl] at h; cases h; exact in32
  rw [if_neg c] at h; clear c
  by_cases c : T = 33
  · subst c; rw [if_pos rfl] at h; cases h; exact in33
  rw [if_neg c] at h; clear c
  by_cases c : T = 34
  · subst c; rw [if_pos rfl] at h; cases h; exact in34
  rw [if_neg c] at h; clear c
  by_cases c : T = 35
  · subst c; rw [if_pos rfl] at h; cases h; exact in35
  rw [if_neg c] at h; clear c
  by_cases c : T = 36
  · subst c; rw [if_pos rfl] at h; cases h; exact in36
  rw [if_neg c] at h; clear c
  by_cases c : T = 37
  · subst c; rw [if_pos rfl] at h; cases h; exact in37
  rw [if_neg c] at h; clear c
  by_cases c : T = 38
  · subst c; rw [if_pos rfl] at h; cases h; exact in38
  rw [if_neg c] at h; clear c
  by_cases c : T = 39
  · subst c; rw [if_pos rfl] at h; cases h; exact in39
  rw [if_neg c] at h; clear c
  by_cases c : T = 40
  · subst c; rw [if_pos rfl] at h; cases h; exact in40
  rw [if_neg c] at h; clear c
  by_cases c : T = 41
  · subst c; rw [if_pos rfl] at h; cases h; exact in41
  rw [if_neg c] at h; clear c
  by_cases c : T = 42
  · subst c; rw [if_pos rfl] at h; cases h; exact in42
  rw [if_neg c] at h; clear c
  by_cases c : T = 43
  · subst c; rw [if_pos rfl] at h; cases h; exact in43
  rw [if_neg c] at h; clear c
  by_cases c : T = 44
  · subst c; rw [if_pos rfl] at h; cases h; exact in44
  rw [if_neg c] at h; clear c
  by_cases c : T = 45
  · subst c; rw [if_pos rfl] at h; cases h; exact in45
  rw [if_neg c] at h; clear c
  by_cases c : T = 46
  · subst c; rw [if_pos rfl] at h; cases h; exact in46
  rw [if_neg c] at h; clear c
  by_cases c : T = 47
  · subst c; rw [if_pos rfl] at h; cases h; exact in47
  rw [if_neg c] at h; clear c
  by_cases c : T = 48
  · subst c; rw [if_pos rfl] at h; cases h; exact in48
  rw [if_neg c] at h; clear c
  by_cases c : T = 49
  · subst c; rw [if_pos rfl] at h; cases h; exact in49
  rw [if_neg c] at h; clear c
  by_cases c : T = 50
  · subst c; rw [if_pos rfl] at h; cases h; exact in50
  rw [if_neg c] at h; clear c
  by_cases c : T = 51
  · subst c; rw [if_pos rfl] at h; cases h; exact in51
  rw [if_neg c] at h; clear c
  by_cases c : T = 52
  · subst c; rw [if_pos rfl] at h; cases h; exact in52
  rw [if_neg c] at h; clear c
  by_cases c : T = 53
  · subst c; rw [if_pos rfl] at h; cases h; exact in53
  rw [if_neg c] at h; clear c
  by_cases c : T = 54
  · subst c; rw [if_pos rfl] at h; cases h; exact in54
  rw [if_neg c] at h; clear c
  by_cases c : T = 55
  · subst c; rw [if_pos rfl] at h; cases h; exact in55
  rw [if_neg c] at h; clear c
  by_cases c : T = 56
  · subst c; rw [if_pos rfl] at h; cases h; exact in56
  rw [if_neg c] at h; clear c
  by_cases c : T = 57
  · subst c; rw [if_pos rfl] at h; cases h; exact in57
  rw [if_neg c] at h; clear c
  by_cases c : T = 58
  · subst c; rw [if_pos rfl] at h; cases h; exact in58
  rw [if_neg c] at h; clear c
  by_cases c : T = 59
  · subst c; rw [if_pos rfl] at h; cases h; exact in59
  rw [if_neg c] at h; clear c
  by_cases c : T = 60
  · subst c; rw [if_pos rfl] at h; cases h; exact in60
  rw [if_neg c] at h; clear c
  by_cases c : T = 61
  · subst c; rw [if_pos rfl] at h; cases h; exact in61
  rw [if_neg c] at h; clear c
  by_cases c : T = 62
  · subst c; rw [if_pos rfl] at h; cases h; exact in62
  rw [if_neg c] at h; clear c
  by_cases c : T = 63
  · subst c; rw [if_pos rfl] at h; cases h; exact in63
  rw [if_neg c] at h; clear c
  by_cases c : T = 64
  · subst c; rw [if_pos rfl] at h; cases h; exact in64
  rw [if_neg c] at h; clear c
  by_cases c : T = 65
  · subst c; rw [if_pos rfl] at h; cases h; exact in65
  rw [if_neg c] at h; clear c
  by_cases c : T = 66
  · subst c; rw [if_pos rfl] at h; cases h; exact in66
  rw [if_neg c] at h; clear c
  by_cases c : T = 67
  · subst c; rw [if_pos rfl] at h; cases h; exact in67
  rw [if_neg c] at h; clear c
  by_cases c : T = 68
  · subst c; rw [if_pos rfl] at h; cases h; exact in68
  rw [if_neg c] at h; clear c
  by_cases c : T = 69
  · subst c; rw [if_pos rfl] at h; cases h; exact in69
  rw [if_neg c] at h; clear c
  by_cases c : T = 70
  · subst c; rw [if_pos rfl] at h; cases h; exact in70
  rw [if_neg c] at h; clear c
  by_cases c : T = 71
  · subst c; rw [if_pos rfl] at h; cases h; exact in71
  rw [if_neg c] at h; clear c
  by_cases c : T = 72
  · subst c; rw [if_pos rfl] at h; cases h; exact in72
  rw [if_neg c] at h; clear c
  by_cases c : T = 73
  · subst c; rw [if_pos rfl] at h; cases h; exact in73
  rw [if_neg c] at h; clear c
  by_cases c : T = 74
  · subst c; rw [if_pos rfl] at h; cases h; exact in74
  rw [if_neg c] at h; clear c
  by_cases c : T = 75
  · subst c; rw [if_pos rfl] at h; cases h; exact in75
  rw [if_neg c] at h; clear c
  by_cases c : T = 76
  · subst c; rw [if_pos rfl] at h; cases h; exact in76
  rw [if_neg c] at h; clear c
  cases h

theorem strBytes : strB Try.prog 29 9 = some 5 := by kernel_rfl
end Go.Proofs.Ytnppgkbincffeaa
