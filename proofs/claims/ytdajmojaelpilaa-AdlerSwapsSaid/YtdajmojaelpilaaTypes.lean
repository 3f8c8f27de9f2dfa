/-
  Closed facts on the types of this translation: sizes, zero values, which are aggregates.
-/
import Derived.Test.YtdajmojaelpilaaRows
import Derived.Test.YtdajmojaelpilaaSepSl
namespace Go.Proofs.Ytdajmojaelpilaa
open Go.Sep

theorem ag0 : aggB Try.prog 0 = some false := by kernel_rfl
theorem ag1 : aggB Try.prog 1 = some false := by kernel_rfl
theorem ag2 : aggB Try.prog 2 = some false := by kernel_rfl
theorem ag3 : aggB Try.prog 3 = some false := by kernel_rfl
theorem ag4 : aggB Try.prog 4 = some false := by kernel_rfl
theorem ag5 : aggB Try.prog 5 = some false := by kernel_rfl
theorem ag6 : aggB Try.prog 6 = some false := by kernel_rfl
theorem ag7 : aggB Try.prog 7 = some true := by kernel_rfl
theorem ag8 : aggB Try.prog 8 = some true := by kernel_rfl
theorem ag9 : aggB Try.prog 9 = some false := by kernel_rfl
theorem ag10 : aggB Try.prog 10 = some false := by kernel_rfl
theorem ag11 : aggB Try.prog 11 = some false := by kernel_rfl
theorem ag12 : aggB Try.prog 12 = some false := by kernel_rfl
theorem ag13 : aggB Try.prog 13 = some true := by kernel_rfl
theorem ag14 : aggB Try.prog 14 = some true := by kernel_rfl
theorem ag15 : aggB Try.prog 15 = some false := by kernel_rfl
theorem ag16 : aggB Try.prog 16 = some false := by kernel_rfl
theorem ag17 : aggB Try.prog 17 = some false := by kernel_rfl
theorem ag18 : aggB Try.prog 18 = some true := by kernel_rfl
theorem ag19 : aggB Try.prog 19 = some true := by kernel_rfl
theorem ag20 : aggB Try.prog 20 = some false := by kernel_rfl
theorem ag21 : aggB Try.prog 21 = some false := by kernel_rfl
theorem ag22 : aggB Try.prog 22 = some false := by kernel_rfl
theorem ag23 : aggB Try.prog 23 = some false := by kernel_rfl
theorem ag24 : aggB Try.prog 24 = some false := by kernel_rfl
theorem ag25 : aggB Try.prog 25 = some false := by kernel_rfl
theorem ag26 : aggB Try.prog 26 = some false := by kernel_rfl
theorem ag27 : aggB Try.prog 27 = some false := by kernel_rfl
theorem ag28 : aggB Try.prog 28 = some false := by kernel_rfl
theorem ag29 : aggB Try.prog 29 = some false := by kernel_rfl
theorem ag30 : aggB Try.prog 30 = some false := by kernel_rfl
theorem ag31 : aggB Try.prog 31 = some false := by kernel_rfl
theorem ag32 : aggB Try.prog 32 = some false := by kernel_rfl
theorem ag33 : aggB Try.prog 33 = some false := by kernel_rfl
theorem ag34 : aggB Try.prog 34 = some false := by kernel_rfl
theorem ag35 : aggB Try.prog 35 = some false := by kernel_rfl
theorem ag36 : aggB Try.prog 36 = some false := by kernel_rfl
theorem ag37 : aggB Try.prog 37 = some false := by kernel_rfl
theorem ag38 : aggB Try.prog 38 = some true := by kernel_rfl
theorem ag39 : aggB Try.prog 39 = some true := by kernel_rfl
theorem ag40 : aggB Try.prog 40 = some true := by kernel_rfl
theorem ag41 : aggB Try.prog 41 = some true := by kernel_rfl
theorem ag42 : aggB Try.prog 42 = some true := by kernel_rfl
theorem ag43 : aggB Try.prog 43 = some false := by kernel_rfl
theorem ag44 : aggB Try.prog 44 = some false := by kernel_rfl
theorem ag45 : aggB Try.prog 45 = some false := by kernel_rfl
theorem ag46 : aggB Try.prog 46 = some false := by kernel_rfl
theorem ag47 : aggB Try.prog 47 = some false := by kernel_rfl
theorem ag48 : aggB Try.prog 48 = some false := by kernel_rfl
theorem ag49 : aggB Try.prog 49 = some false := by kernel_rfl
theorem ag50 : aggB Try.prog 50 = some true := by kernel_rfl
theorem ag51 : aggB Try.prog 51 = some true := by kernel_rfl
def agTab : Nat → Option (Bool)
  | 0 => some false
  | 1 => some false
  | 2 => some false
  | 3 => some false
  | 4 => some false
  | 5 => some false
  | 6 => some false
  | 7 => some true
  | 8 => some true
  | 9 => some false
  | 10 => some false
  | 11 => some false
  | 12 => some false
  | 13 => some true
  | 14 => some true
  | 15 => some false
  | 16 => some false
  | 17 => some false
  | 18 => some true
  | 19 => some true
  | 20 => some false
  | 21 => some false
  | 22 => some false
  | 23 => some false
  | 24 => some false
  | 25 => some false
  | 26 => some false
  | 27 => some false
  | 28 => some false
  | 29 => some false
  | 30 => some false
  | 31 => some false
  | 32 => some false
  | 33 => some false
  | 34 => some false
  | 35 => some false
  | 36 => some false
  | 37 => some false
  | 38 => some true
  | 39 => some true
  | 40 => some true
  | 41 => some true
  | 42 => some true
  | 43 => some false
  | 44 => some false
  | 45 => some false
  | 46 => some false
  | 47 => some false
  | 48 => some false
  | 49 => some false
  | 50 => some true
  | 51 => some true
  | _ => none
theorem agOf {T : Nat} {x : Bool} (h : agTab T = some x) : aggB Try.prog T = some x := by
  unfold agTab at h
  split at h
  · cases h; exact ag0
  · cases h; exact ag1
  · cases h; exact ag2
  · cases h; exact ag3
  · cases h; exact ag4
  · cases h; exact ag5
  · cases h; exact ag6
  · cases h; exact ag7
  · cases h; exact ag8
  · cases h; exact ag9
  · cases h; exact ag10
  · cases h; exact ag11
  · cases h; exact ag12
  · cases h; exact ag13
  · cases h; exact ag14
  · cases h; exact ag15
  · cases h; exact ag16
  · cases h; exact ag17
  · cases h; exact ag18
  · cases h; exact ag19
  · cases h; exact ag20
  · cases h; exact ag21
  · cases h; exact ag22
  · cases h; exact ag23
  · cases h; exact ag24
  · cases h; exact ag25
  · cases h; exact ag26
  · cases h; exact ag27
  · cases h; exact ag28
  · cases h; exact ag29
  · cases h; exact ag30
  · cases h; exact ag31
  · cases h; exact ag32
  · cases h; exact ag33
  · cases h; exact ag34
  · cases h; exact ag35
  · cases h; exact ag36
  · cases h; exact ag37
  · cases h; exact ag38
  · cases h; exact ag39
  · cases h; exact ag40
  · cases h; exact ag41
  · cases h; exact ag42
  · cases h; exact ag43
  · cases h; exact ag44
  · cases h; exact ag45
  · cases h; exact ag46
  · cases h; exact ag47
  · cases h; exact ag48
  · cases h; exact ag49
  · cases h; exact ag50
  · cases h; exact ag51
  · cases h

theorem sz0 : szB Try.prog 0 = some 1 := by kernel_rfl
theorem sz1 : szB Try.prog 1 = some 1 := by kernel_rfl
theorem sz2 : szB Try.prog 2 = some 1 := by kernel_rfl
theorem sz3 : szB Try.prog 3 = some 1 := by kernel_rfl
theorem sz4 : szB Try.prog 4 = some 1 := by kernel_rfl
theorem sz5 : szB Try.prog 5 = some 1 := by kernel_rfl
theorem sz6 : szB Try.prog 6 = some 1 := by kernel_rfl
theorem sz7 : szB Try.prog 7 = some 4 := by kernel_rfl
theorem sz8 : szB Try.prog 8 = some 4 := by kernel_rfl
theorem sz9 : szB Try.prog 9 = some 1 := by kernel_rfl
theorem sz10 : szB Try.prog 10 = some 1 := by kernel_rfl
theorem sz11 : szB Try.prog 11 = some 1 := by kernel_rfl
theorem sz12 : szB Try.prog 12 = some 1 := by kernel_rfl
theorem sz13 : szB Try.prog 13 = some 2 := by kernel_rfl
theorem sz14 : szB Try.prog 14 = some 2 := by kernel_rfl
theorem sz15 : szB Try.prog 15 = some 1 := by kernel_rfl
theorem sz16 : szB Try.prog 16 = some 1 := by kernel_rfl
theorem sz17 : szB Try.prog 17 = some 1 := by kernel_rfl
theorem sz18 : szB Try.prog 18 = some 1 := by kernel_rfl
theorem sz19 : szB Try.prog 19 = some 1 := by kernel_rfl
theorem sz20 : szB Try.prog 20 = some 1 := by kernel_rfl
theorem sz21 : szB Try.prog 21 = some 1 := by kernel_rfl
theorem sz22 : szB Try.prog 22 = some 1 := by kernel_rfl
theorem sz23 : szB Try.prog 23 = some 1 := by kernel_rfl
theorem sz24 : szB Try.prog 24 = some 1 := by kernel_rfl
theorem sz25 : szB Try.prog 25 = some 1 := by kernel_rfl
theorem sz26 : szB Try.prog 26 = some 1 := by kernel_rfl
theorem sz27 : szB Try.prog 27 = some 1 := by kernel_rfl
theorem sz28 : szB Try.prog 28 = some 1 := by kernel_rfl
theorem sz29 : szB Try.prog 29 = some 1 := by kernel_rfl
theorem sz30 : szB Try.prog 30 = some 1 := by kernel_rfl
theorem sz31 : szB Try.prog 31 = some 1 := by kernel_rfl
theorem sz32 : szB Try.prog 32 = some 1 := by kernel_rfl
theorem sz33 : szB Try.prog 33 = some 1 := by kernel_rfl
theorem sz34 : szB Try.prog 34 = some 1 := by kernel_rfl
theorem sz35 : szB Try.prog 35 = some 1 := by kernel_rfl
theorem sz36 : szB Try.prog 36 = some 1 := by kernel_rfl
theorem sz37 : szB Try.prog 37 = some 1 := by kernel_rfl
theorem sz38 : szB Try.prog 38 = some 4 := by kernel_rfl
theorem sz39 : szB Try.prog 39 = some 4 := by kernel_rfl
theorem sz40 : szB Try.prog 40 = some 0 := by kernel_rfl
theorem sz41 : szB Try.prog 41 = some 0 := by kernel_rfl
theorem sz42 : szB Try.prog 42 = some 0 := by kernel_rfl
theorem sz43 : szB Try.prog 43 = some 1 := by kernel_rfl
theorem sz44 : szB Try.prog 44 = some 1 := by kernel_rfl
theorem sz45 : szB Try.prog 45 = some 1 := by kernel_rfl
theorem sz46 : szB Try.prog 46 = some 1 := by kernel_rfl
theorem sz47 : szB Try.prog 47 = some 1 := by kernel_rfl
theorem sz48 : szB Try.prog 48 = some 1 := by kernel_rfl
theorem sz49 : szB Try.prog 49 = some 1 := by kernel_rfl
theorem sz50 : szB Try.prog 50 = some 11 := by kernel_rfl
theorem sz51 : szB Try.prog 51 = some 11 := by kernel_rfl
def szTab : Nat → Option (Nat)
  | 0 => some 1
  | 1 => some 1
  | 2 => some 1
  | 3 => some 1
  | 4 => some 1
  | 5 => some 1
  | 6 => some 1
  | 7 => some 4
  | 8 => some 4
  | 9 => some 1
  | 10 => some 1
  | 11 => some 1
  | 12 => some 1
  | 13 => some 2
  | 14 => some 2
  | 15 => some 1
  | 16 => some 1
  | 17 => some 1
  | 18 => some 1
  | 19 => some 1
  | 20 => some 1
  | 21 => some 1
  | 22 => some 1
  | 23 => some 1
  | 24 => some 1
  | 25 => some 1
  | 26 => some 1
  | 27 => some 1
  | 28 => some 1
  | 29 => some 1
  | 30 => some 1
  | 31 => some 1
  | 32 => some 1
  | 33 => some 1
  | 34 => some 1
  | 35 => some 1
  | 36 => some 1
  | 37 => some 1
  | 38 => some 4
  | 39 => some 4
  | 40 => some 0
  | 41 => some 0
  | 42 => some 0
  | 43 => some 1
  | 44 => some 1
  | 45 => some 1
  | 46 => some 1
  | 47 => some 1
  | 48 => some 1
  | 49 => some 1
  | 50 => some 11
  | 51 => some 11
  | _ => none
theorem szOf {T : Nat} {x : Nat} (h : szTab T = some x) : szB Try.prog T = some x := by
  unfold szTab at h
  split at h
  · cases h; exact sz0
  · cases h; exact sz1
  · cases h; exact sz2
  · cases h; exact sz3
  · cases h; exact sz4
  · cases h; exact sz5
  · cases h; exact sz6
  · cases h; exact sz7
  · cases h; exact sz8
  · cases h; exact sz9
  · cases h; exact sz10
  · cases h; exact sz11
  · cases h; exact sz12
  · cases h; exact sz13
  · cases h; exact sz14
  · cases h; exact sz15
  · cases h; exact sz16
  · cases h; exact sz17
  · cases h; exact sz18
  · cases h; exact sz19
  · cases h; exact sz20
  · cases h; exact sz21
  · cases h; exact sz22
  · cases h; exact sz23
  · cases h; exact sz24
  · cases h; exact sz25
  · cases h; exact sz26
  · cases h; exact sz27
  · cases h; exact sz28
  · cases h; exact sz29
  · cases h; exact sz30
  · cases h; exact sz31
  · cases h; exact sz32
  · cases h; exact sz33
  · cases h; exact sz34
  · cases h; exact sz35
  · cases h; exact sz36
  · cases h; exact sz37
  · cases h; exact sz38
  · cases h; exact sz39
  · cases h; exact sz40
  · cases h; exact sz41
  · cases h; exact sz42
  · cases h; exact sz43
  · cases h; exact sz44
  · cases h; exact sz45
  · cases h; exact sz46
  · cases h; exact sz47
  · cases h; exact sz48
  · cases h; exact sz49
  · cases h; exact sz50
  · cases h; exact sz51
  · cases h

theorem zr1 : zeroB Try.prog 1 = some (some (Value.nilFunc)) := by kernel_rfl
theorem zr2 : zeroB Try.prog 2 = some (some (Value.int .i64 0)) := by kernel_rfl
theorem zr3 : zeroB Try.prog 3 = some (some (Value.int .i64 0)) := by kernel_rfl
theorem zr4 : zeroB Try.prog 4 = some (some (Value.bool false)) := by kernel_rfl
theorem zr5 : zeroB Try.prog 5 = some (some (Value.int .u8 0)) := by kernel_rfl
theorem zr6 : zeroB Try.prog 6 = some (some (Value.int .u8 0)) := by kernel_rfl
theorem zr7 : zeroB Try.prog 7 = some (some (Value.agg #[Value.int .i64 0, Value.int .i64 0, Value.bool false, Value.int .u8 0])) := by kernel_rfl
theorem zr8 : zeroB Try.prog 8 = some (some (Value.agg #[Value.int .i64 0, Value.int .i64 0, Value.bool false, Value.int .u8 0])) := by kernel_rfl
theorem zr9 : zeroB Try.prog 9 = some (some (Value.string ByteArray.empty)) := by kernel_rfl
theorem zr10 : zeroB Try.prog 10 = some (some (Value.string ByteArray.empty)) := by kernel_rfl
theorem zr11 : zeroB Try.prog 11 = some (some (Value.string ByteArray.empty)) := by kernel_rfl
theorem zr12 : zeroB Try.prog 12 = some (some (Value.int .u64 0)) := by kernel_rfl
theorem zr13 : zeroB Try.prog 13 = some (some (Value.agg #[Value.string ByteArray.empty, Value.int .u64 0])) := by kernel_rfl
theorem zr14 : zeroB Try.prog 14 = some (some (Value.agg #[Value.string ByteArray.empty, Value.int .u64 0])) := by kernel_rfl
theorem zr15 : zeroB Try.prog 15 = some (some (Value.pointer none)) := by kernel_rfl
theorem zr16 : zeroB Try.prog 16 = some (some (Value.pointer none)) := by kernel_rfl
theorem zr17 : zeroB Try.prog 17 = some (some (Value.pointer none)) := by kernel_rfl
theorem zr18 : zeroB Try.prog 18 = some (some (Value.agg #[Value.pointer none])) := by kernel_rfl
theorem zr19 : zeroB Try.prog 19 = some (some (Value.agg #[Value.pointer none])) := by kernel_rfl
theorem zr20 : zeroB Try.prog 20 = some (some (Value.nilIface)) := by kernel_rfl
theorem zr21 : zeroB Try.prog 21 = some (some (Value.int .i32 0)) := by kernel_rfl
theorem zr22 : zeroB Try.prog 22 = some (some (Value.int .u32 0)) := by kernel_rfl
theorem zr23 : zeroB Try.prog 23 = some (some (Value.slice none 0 0)) := by kernel_rfl
theorem zr24 : zeroB Try.prog 24 = some (some (Value.nilFunc)) := by kernel_rfl
theorem zr25 : zeroB Try.prog 25 = some (some (Value.nilFunc)) := by kernel_rfl
theorem zr26 : zeroB Try.prog 26 = some (some (Value.nilFunc)) := by kernel_rfl
theorem zr27 : zeroB Try.prog 27 = some (some (Value.nilFunc)) := by kernel_rfl
theorem zr28 : zeroB Try.prog 28 = some (some (Value.nilFunc)) := by kernel_rfl
theorem zr29 : zeroB Try.prog 29 = some (some (Value.nilFunc)) := by kernel_rfl
theorem zr30 : zeroB Try.prog 30 = some (some (Value.nilFunc)) := by kernel_rfl
theorem zr31 : zeroB Try.prog 31 = some (some (Value.int .u64 0)) := by kernel_rfl
theorem zr32 : zeroB Try.prog 32 = some (some (Value.nilFunc)) := by kernel_rfl
theorem zr33 : zeroB Try.prog 33 = some (some (Value.nilFunc)) := by kernel_rfl
theorem zr34 : zeroB Try.prog 34 = some (some (Value.nilFunc)) := by kernel_rfl
theorem zr35 : zeroB Try.prog 35 = some (some (Value.nilFunc)) := by kernel_rfl
theorem zr36 : zeroB Try.prog 36 = some (some (Value.int .u64 0)) := by kernel_rfl
theorem zr37 : zeroB Try.prog 37 = some (some (Value.nilFunc)) := by kernel_rfl
theorem zr38 : zeroB Try.prog 38 = some (some (Value.agg #[Value.pointer none, Value.pointer none, Value.pointer none, Value.string ByteArray.empty])) := by kernel_rfl
theorem zr39 : zeroB Try.prog 39 = some (some (Value.agg #[Value.pointer none, Value.pointer none, Value.pointer none, Value.string ByteArray.empty])) := by kernel_rfl
theorem zr40 : zeroB Try.prog 40 = some (some (Value.agg #[])) := by kernel_rfl
theorem zr41 : zeroB Try.prog 41 = some (some (Value.agg #[])) := by kernel_rfl
theorem zr42 : zeroB Try.prog 42 = some (some (Value.agg #[])) := by kernel_rfl
theorem zr43 : zeroB Try.prog 43 = some (some (Value.nilFunc)) := by kernel_rfl
theorem zr44 : zeroB Try.prog 44 = some (some (Value.int .u8 0)) := by kernel_rfl
theorem zr45 : zeroB Try.prog 45 = some (some (Value.int .u8 0)) := by kernel_rfl
theorem zr46 : zeroB Try.prog 46 = some (some (Value.nilFunc)) := by kernel_rfl
theorem zr47 : zeroB Try.prog 47 = some (some (Value.pointer none)) := by kernel_rfl
theorem zr48 : zeroB Try.prog 48 = some (some (Value.int .i32 0)) := by kernel_rfl
theorem zr49 : zeroB Try.prog 49 = some (some (Value.int .i32 0)) := by kernel_rfl
theorem zr50 : zeroB Try.prog 50 = some (some (Value.agg #[Value.int .u64 0, Value.int .u64 0, Value.int .u32 0, Value.int .u8 0, Value.int .u8 0, Value.int .u8 0, Value.int .u8 0, Value.nilFunc, Value.pointer none, Value.int .i32 0, Value.int .i32 0])) := by kernel_rfl
theorem zr51 : zeroB Try.prog 51 = some (some (Value.agg #[Value.int .u64 0, Value.int .u64 0, Value.int .u32 0, Value.int .u8 0, Value.int .u8 0, Value.int .u8 0, Value.int .u8 0, Value.nilFunc, Value.pointer none, Value.int .i32 0, Value.int .i32 0])) := by kernel_rfl
def zrTab : Nat → Option (Option Value)
  | 1 => some (some (Value.nilFunc))
  | 2 => some (some (Value.int .i64 0))
  | 3 => some (some (Value.int .i64 0))
  | 4 => some (some (Value.bool false))
  | 5 => some (some (Value.int .u8 0))
  | 6 => some (some (Value.int .u8 0))
  | 7 => some (some (Value.agg #[Value.int .i64 0, Value.int .i64 0, Value.bool false, Value.int .u8 0]))
  | 8 => some (some (Value.agg #[Value.int .i64 0, Value.int .i64 0, Value.bool false, Value.int .u8 0]))
  | 9 => some (some (Value.string ByteArray.empty))
  | 10 => some (some (Value.string ByteArray.empty))
  | 11 => some (some (Value.string ByteArray.empty))
  | 12 => some (some (Value.int .u64 0))
  | 13 => some (some (Value.agg #[Value.string ByteArray.empty, Value.int .u64 0]))
  | 14 => some (some (Value.agg #[Value.string ByteArray.empty, Value.int .u64 0]))
  | 15 => some (some (Value.pointer none))
  | 16 => some (some (Value.pointer none))
  | 17 => some (some (Value.pointer none))
  | 18 => some (some (Value.agg #[Value.pointer none]))
  | 19 => some (some (Value.agg #[Value.pointer none]))
  | 20 => some (some (Value.nilIface))
  | 21 => some (some (Value.int .i32 0))
  | 22 => some (some (Value.int .u32 0))
  | 23 => some (some (Value.slice none 0 0))
  | 24 => some (some (Value.nilFunc))
  | 25 => some (some (Value.nilFunc))
  | 26 => some (some (Value.nilFunc))
  | 27 => some (some (Value.nilFunc))
  | 28 => some (some (Value.nilFunc))
  | 29 => some (some (Value.nilFunc))
  | 30 => some (some (Value.nilFunc))
  | 31 => some (some (Value.int .u64 0))
  | 32 => some (some (Value.nilFunc))
  | 33 => some (some (Value.nilFunc))
  | 34 => some (some (Value.nilFunc))
  | 35 => some (some (Value.nilFunc))
  | 36 => some (some (Value.int .u64 0))
  | 37 => some (some (Value.nilFunc))
  | 38 => some (some (Value.agg #[Value.pointer none, Value.pointer none, Value.pointer none, Value.string ByteArray.empty]))
  | 39 => some (some (Value.agg #[Value.pointer none, Value.pointer none, Value.pointer none, Value.string ByteArray.empty]))
  | 40 => some (some (Value.agg #[]))
  | 41 => some (some (Value.agg #[]))
  | 42 => some (some (Value.agg #[]))
  | 43 => some (some (Value.nilFunc))
  | 44 => some (some (Value.int .u8 0))
  | 45 => some (some (Value.int .u8 0))
  | 46 => some (some (Value.nilFunc))
  | 47 => some (some (Value.pointer none))
  | 48 => some (some (Value.int .i32 0))
  | 49 => some (some (Value.int .i32 0))
  | 50 => some (some (Value.agg #[Value.int .u64 0, Value.int .u64 0, Value.int .u32 0, Value.int .u8 0, Value.int .u8 0, Value.int .u8 0, Value.int .u8 0, Value.nilFunc, Value.pointer none, Value.int .i32 0, Value.int .i32 0]))
  | 51 => some (some (Value.agg #[Value.int .u64 0, Value.int .u64 0, Value.int .u32 0, Value.int .u8 0, Value.int .u8 0, Value.int .u8 0, Value.int .u8 0, Value.nilFunc, Value.pointer none, Value.int .i32 0, Value.int .i32 0]))
  | _ => none
theorem zrOf {T : Nat} {x : Option Value} (h : zrTab T = some x) : zeroB Try.prog T = some x := by
  unfold zrTab at h
  split at h
  · cases h; exact zr1
  · cases h; exact zr2
  · cases h; exact zr3
  · cases h; exact zr4
  · cases h; exact zr5
  · cases h; exact zr6
  · cases h; exact zr7
  · cases h; exact zr8
  · cases h; exact zr9
  · cases h; exact zr10
  · cases h; exact zr11
  · cases h; exact zr12
  · cases h; exact zr13
  · cases h; exact zr14
  · cases h; exact zr15
  · cases h; exact zr16
  · cases h; exact zr17
  · cases h; exact zr18
  · cases h; exact zr19
  · cases h; exact zr20
  · cases h; exact zr21
  · cases h; exact zr22
  · cases h; exact zr23
  · cases h; exact zr24
  · cases h; exact zr25
  · cases h; exact zr26
  · cases h; exact zr27
  · cases h; exact zr28
  · cases h; exact zr29
  · cases h; exact zr30
  · cases h; exact zr31
  · cases h; exact zr32
  · cases h; exact zr33
  · cases h; exact zr34
  · cases h; exact zr35
  · cases h; exact zr36
  · cases h; exact zr37
  · cases h; exact zr38
  · cases h; exact zr39
  · cases h; exact zr40
  · cases h; exact zr41
  · cases h; exact zr42
  · cases h; exact zr43
  · cases h; exact zr44
  · cases h; exact zr45
  · cases h; exact zr46
  · cases h; exact zr47
  · cases h; exact zr48
  · cases h; exact zr49
  · cases h; exact zr50
  · cases h; exact zr51
  · cases h

theorem el23 : elemB Try.prog 23 = some (5, 1, 1, some (Value.int .u8 0)) := by kernel_rfl
def elTab : Nat → Option (TypeId × Nat × Nat × Option Value)
  | 23 => some (5, 1, 1, some (Value.int .u8 0))
  | _ => none
theorem elOf {T : Nat} {x : TypeId × Nat × Nat × Option Value} (h : elTab T = some x) : elemB Try.prog T = some x := by
  unfold elTab at h
  split at h
  · cases h; exact el23
  · cases h

theorem in0 : intB Try.prog 0 = some false := by kernel_rfl
theorem in1 : intB Try.prog 1 = some false := by kernel_rfl
theorem in2 : intB Try.prog 2 = some true := by kernel_rfl
theorem in3 : intB Try.prog 3 = some true := by kernel_rfl
theorem in4 : intB Try.prog 4 = some false := by kernel_rfl
theorem in5 : intB Try.prog 5 = some true := by kernel_rfl
theorem in6 : intB Try.prog 6 = some true := by kernel_rfl
theorem in7 : intB Try.prog 7 = some false := by kernel_rfl
theorem in8 : intB Try.prog 8 = some false := by kernel_rfl
theorem in9 : intB Try.prog 9 = some false := by kernel_rfl
theorem in10 : intB Try.prog 10 = some false := by kernel_rfl
theorem in11 : intB Try.prog 11 = some false := by kernel_rfl
theorem in12 : intB Try.prog 12 = some true := by kernel_rfl
theorem in13 : intB Try.prog 13 = some false := by kernel_rfl
theorem in14 : intB Try.prog 14 = some false := by kernel_rfl
theorem in15 : intB Try.prog 15 = some false := by kernel_rfl
theorem in16 : intB Try.prog 16 = some false := by kernel_rfl
theorem in17 : intB Try.prog 17 = some false := by kernel_rfl
theorem in18 : intB Try.prog 18 = some false := by kernel_rfl
theorem in19 : intB Try.prog 19 = some false := by kernel_rfl
theorem in20 : intB Try.prog 20 = some false := by kernel_rfl
theorem in21 : intB Try.prog 21 = some true := by kernel_rfl
theorem in22 : intB Try.prog 22 = some true := by kernel_rfl
theorem in23 : intB Try.prog 23 = some false := by kernel_rfl
theorem in24 : intB Try.prog 24 = some false := by kernel_rfl
theorem in25 : intB Try.prog 25 = some false := by kernel_rfl
theorem in26 : intB Try.prog 26 = some false := by kernel_rfl
theorem in27 : intB Try.prog 27 = some false := by kernel_rfl
theorem in28 : intB Try.prog 28 = some false := by kernel_rfl
theorem in29 : intB Try.prog 29 = some false := by kernel_rfl
theorem in30 : intB Try.prog 30 = some false := by kernel_rfl
theorem in31 : intB Try.prog 31 = some true := by kernel_rfl
theorem in32 : intB Try.prog 32 = some false := by kernel_rfl
theorem in33 : intB Try.prog 33 = some false := by kernel_rfl
theorem in34 : intB Try.prog 34 = some false := by kernel_rfl
theorem in35 : intB Try.prog 35 = some false := by kernel_rfl
theorem in36 : intB Try.prog 36 = some true := by kernel_rfl
theorem in37 : intB Try.prog 37 = some false := by kernel_rfl
theorem in38 : intB Try.prog 38 = some false := by kernel_rfl
theorem in39 : intB Try.prog 39 = some false := by kernel_rfl
theorem in40 : intB Try.prog 40 = some false := by kernel_rfl
theorem in41 : intB Try.prog 41 = some false := by kernel_rfl
theorem in42 : intB Try.prog 42 = some false := by kernel_rfl
theorem in43 : intB Try.prog 43 = some false := by kernel_rfl
theorem in44 : intB Try.prog 44 = some true := by kernel_rfl
theorem in45 : intB Try.prog 45 = some true := by kernel_rfl
theorem in46 : intB Try.prog 46 = some false := by kernel_rfl
theorem in47 : intB Try.prog 47 = some false := by kernel_rfl
theorem in48 : intB Try.prog 48 = some true := by kernel_rfl
theorem in49 : intB Try.prog 49 = some true := by kernel_rfl
theorem in50 : intB Try.prog 50 = some false := by kernel_rfl
theorem in51 : intB Try.prog 51 = some false := by kernel_rfl
def inTab : Nat → Option (Bool)
  | 0 => some false
  | 1 => some false
  | 2 => some true
  | 3 => some true
  | 4 => some false
  | 5 => some true
  | 6 => some true
  | 7 => some false
  | 8 => some false
  | 9 => some false
  | 10 => some false
  | 11 => some false
  | 12 => some true
  | 13 => some false
  | 14 => some false
  | 15 => some false
  | 16 => some false
  | 17 => some false
  | 18 => some false
  | 19 => some false
  | 20 => some false
  | 21 => some true
  | 22 => some true
  | 23 => some false
  | 24 => some false
  | 25 => some false
  | 26 => some false
  | 27 => some false
  | 28 => some false
  | 29 => some false
  | 30 => some false
  | 31 => some true
  | 32 => some false
  | 33 => some false
  | 34 => some false
  | 35 => some false
  | 36 => some true
  | 37 => some false
  | 38 => some false
  | 39 => some false
  | 40 => some false
  | 41 => some false
  | 42 => some false
  | 43 => some false
  | 44 => some true
  | 45 => some true
  | 46 => some false
  | 47 => some false
  | 48 => some true
  | 49 => some true
  | 50 => some false
  | 51 => some false
  | _ => none
theorem inOf {T : Nat} {x : Bool} (h : inTab T = some x) : intB Try.prog T = some x := by
  unfold inTab at h
  split at h
  · cases h; exact in0
  · cases h; exact in1
  · cases h; exact in2
  · cases h; exact in3
  · cases h; exact in4
  · cases h; exact in5
  · cases h; exact in6
  · cases h; exact in7
  · cases h; exact in8
  · cases h; exact in9
  · cases h; exact in10
  · cases h; exact in11
  · cases h; exact in12
  · cases h; exact in13
  · cases h; exact in14
  · cases h; exact in15
  · cases h; exact in16
  · cases h; exact in17
  · cases h; exact in18
  · cases h; exact in19
  · cases h; exact in20
  · cases h; exact in21
  · cases h; exact in22
  · cases h; exact in23
  · cases h; exact in24
  · cases h; exact in25
  · cases h; exact in26
  · cases h; exact in27
  · cases h; exact in28
  · cases h; exact in29
  · cases h; exact in30
  · cases h; exact in31
  · cases h; exact in32
  · cases h; exact in33
  · cases h; exact in34
  · cases h; exact in35
  · cases h; exact in36
  · cases h; exact in37
  · cases h; exact in38
  · cases h; exact in39
  · cases h; exact in40
  · cases h; exact in41
  · cases h; exact in42
  · cases h; exact in43
  · cases h; exact in44
  · cases h; exact in45
  · cases h; exact in46
  · cases h; exact in47
  · cases h; exact in48
  · cases h; exact in49
  · cases h; exact in50
  · cases h; exact in51
  · cases h

theorem strBytes : strB Try.prog 23 9 = some 5 := by kernel_rfl
end Go.Proofs.Ytdajmojaelpilaa
