/-
  No cell of these rows narrows 'for every input' (looked for: loops, veiled, ifaces, maps, wideKeys, modest, calm, conditions, laid).
  DERIVED. THE GIVEN ROWS OF THIS SEAT. 11 by the template 'for every input the law returns true; each argument reads behind the call as it read before'; 0 by the template 'total and deterministic' (their statements: YtfbphibgcolmbaaTotals.lean).
  GIVEN WITH THE SEED: the statements are not yours to turn. If you find one false, say at which input.
  Laid BY PROGRAM, IN A SANDBOX (cutbox-rows.mjs): the forced cells as the released guide's own fill.sh prints them over the translation da751dd6562aa57f… (all of the seat's roots in one cut). By AI agents, Wed Nov 11 2026. No macro, syntax, notation, axiom, sorry.
-/
import Derived.Test.YtfbphibgcolmbaaChecked
import GoSem.Claim
import GoSem.ClaimJoined
import GoSem.ClaimMapViews
import Derived.JoinedTies
import Derived.KernelRfl
namespace Go.Proofs.Ytfbphibgcolmbaa
/- THE CELL 'sum', in the pinned program and in every row, IS THE sha256 OF THE DUMP (.gsa) THAT YtfbphibgcolmbaaProg.lean LOADS. Nothing in Lean hashes anything: it is a label: what it is worth is what the hold of that sum in a sandbox is worth. -/
noncomputable def Try.pinned : Pinned := { name := "ytfbphibgcolmbaa", sum := "da751dd6562aa57fe0115335462d94eee61cdc4ee2b408f6e082406b615026f3", checked := Try.checked }
namespace Rows
def none {H : Type} : Left H := { results := [], args := [] }

/-- 'pedigreelaw15.GraphAcyclic': WHATEVER THE INPUT: true; the input reads as it did. -/
def graphAcyclicSpec : ChangeSpec := { name := "graphAcyclic", fn := fun _ => fun
  | [d] => { results := [.lit (.bool true)], args := [d] }
  | _ => none }
def graphAcyclicRow : OpenClaim := { program := "ytfbphibgcolmbaa", sum := "da751dd6562aa57fe0115335462d94eee61cdc4ee2b408f6e082406b615026f3", func := "pedigree/pedigreelaw15.GraphAcyclic", spec := "graphAcyclic", inPlace := ["slices.overlaps[int]"], recurses := true, plainKeys := false, apart := false }
def GraphAcyclicSaid : Prop := graphAcyclicRow.holds Try.pinned (OpenSpec.ofChange graphAcyclicSpec)

/-- ITS FALSE NEIGHBOUR: 'it returns false'. Refute it at one input. -/
def graphAcyclicWrong : ChangeSpec := { name := "graphAcyclic", fn := fun _ => fun
  | [d] => { results := [.lit (.bool false)], args := [d] }
  | _ => none }
def GraphAcyclicWrongFalsely : Prop := graphAcyclicRow.holds Try.pinned (OpenSpec.ofChange graphAcyclicWrong)

/-- 'pedigreelaw15.GraphVersions': WHATEVER THE INPUT: true; the input reads as it did. -/
def graphVersionsSpec : ChangeSpec := { name := "graphVersions", fn := fun _ => fun
  | [d1, d2] => { results := [.lit (.bool true)], args := [d1, d2] }
  | _ => none }
def graphVersionsRow : OpenClaim := { program := "ytfbphibgcolmbaa", sum := "da751dd6562aa57fe0115335462d94eee61cdc4ee2b408f6e082406b615026f3", func := "pedigree/pedigreelaw15.GraphVersions", spec := "graphVersions", inPlace := ["slices.overlaps[int]"], recurses := true, plainKeys := false, apart := false }
def GraphVersionsSaid : Prop := graphVersionsRow.holds Try.pinned (OpenSpec.ofChange graphVersionsSpec)

/-- ITS FALSE NEIGHBOUR: 'it returns false'. Refute it at one input. -/
def graphVersionsWrong : ChangeSpec := { name := "graphVersions", fn := fun _ => fun
  | [d1, d2] => { results := [.lit (.bool false)], args := [d1, d2] }
  | _ => none }
def GraphVersionsWrongFalsely : Prop := graphVersionsRow.holds Try.pinned (OpenSpec.ofChange graphVersionsWrong)

/-- 'pedigreelaw15.GraphLost': WHATEVER THE INPUT: true; the input reads as it did. -/
def graphLostSpec : ChangeSpec := { name := "graphLost", fn := fun _ => fun
  | [d1, d2, d3] => { results := [.lit (.bool true)], args := [d1, d2, d3] }
  | _ => none }
def graphLostRow : OpenClaim := { program := "ytfbphibgcolmbaa", sum := "da751dd6562aa57fe0115335462d94eee61cdc4ee2b408f6e082406b615026f3", func := "pedigree/pedigreelaw15.GraphLost", spec := "graphLost", inPlace := ["slices.overlaps[int]"], recurses := true, plainKeys := false, apart := false }
def GraphLostSaid : Prop := graphLostRow.holds Try.pinned (OpenSpec.ofChange graphLostSpec)

/-- ITS FALSE NEIGHBOUR: 'it returns false'. Refute it at one input. -/
def graphLostWrong : ChangeSpec := { name := "graphLost", fn := fun _ => fun
  | [d1, d2, d3] => { results := [.lit (.bool false)], args := [d1, d2, d3] }
  | _ => none }
def GraphLostWrongFalsely : Prop := graphLostRow.holds Try.pinned (OpenSpec.ofChange graphLostWrong)

/-- 'pedigreelaw15.GraphWays': WHATEVER THE INPUT: true; the input reads as it did. -/
def graphWaysSpec : ChangeSpec := { name := "graphWays", fn := fun _ => fun
  | [d] => { results := [.lit (.bool true)], args := [d] }
  | _ => none }
def graphWaysRow : OpenClaim := { program := "ytfbphibgcolmbaa", sum := "da751dd6562aa57fe0115335462d94eee61cdc4ee2b408f6e082406b615026f3", func := "pedigree/pedigreelaw15.GraphWays", spec := "graphWays", inPlace := ["slices.overlaps[int]"], recurses := true, plainKeys := false, apart := false }
def GraphWaysSaid : Prop := graphWaysRow.holds Try.pinned (OpenSpec.ofChange graphWaysSpec)

/-- ITS FALSE NEIGHBOUR: 'it returns false'. Refute it at one input. -/
def graphWaysWrong : ChangeSpec := { name := "graphWays", fn := fun _ => fun
  | [d] => { results := [.lit (.bool false)], args := [d] }
  | _ => none }
def GraphWaysWrongFalsely : Prop := graphWaysRow.holds Try.pinned (OpenSpec.ofChange graphWaysWrong)

/-- 'pedigreelaw15.GraphPlays': WHATEVER THE INPUT: true; the input reads as it did. -/
def graphPlaysSpec : ChangeSpec := { name := "graphPlays", fn := fun _ => fun
  | [d1, d2, d3] => { results := [.lit (.bool true)], args := [d1, d2, d3] }
  | _ => none }
def graphPlaysRow : OpenClaim := { program := "ytfbphibgcolmbaa", sum := "da751dd6562aa57fe0115335462d94eee61cdc4ee2b408f6e082406b615026f3", func := "pedigree/pedigreelaw15.GraphPlays", spec := "graphPlays", inPlace := ["slices.overlaps[int]"], recurses := true, plainKeys := false, apart := false }
def GraphPlaysSaid : Prop := graphPlaysRow.holds Try.pinned (OpenSpec.ofChange graphPlaysSpec)

/-- ITS FALSE NEIGHBOUR: 'it returns false'. Refute it at one input. -/
def graphPlaysWrong : ChangeSpec := { name := "graphPlays", fn := fun _ => fun
  | [d1, d2, d3] => { results := [.lit (.bool false)], args := [d1, d2, d3] }
  | _ => none }
def GraphPlaysWrongFalsely : Prop := graphPlaysRow.holds Try.pinned (OpenSpec.ofChange graphPlaysWrong)

/-- 'pedigreelaw16.LabelLines': WHATEVER THE INPUT: true; the input reads as it did. -/
def labelLinesSpec : ChangeSpec := { name := "labelLines", fn := fun _ => fun
  | [d1, d2, d3] => { results := [.lit (.bool true)], args := [d1, d2, d3] }
  | _ => none }
def labelLinesRow : OpenClaim := { program := "ytfbphibgcolmbaa", sum := "da751dd6562aa57fe0115335462d94eee61cdc4ee2b408f6e082406b615026f3", func := "pedigree/pedigreelaw16.LabelLines", spec := "labelLines", inPlace := ["slices.overlaps[int]"], recurses := true, plainKeys := false, apart := false }
def LabelLinesSaid : Prop := labelLinesRow.holds Try.pinned (OpenSpec.ofChange labelLinesSpec)

/-- ITS FALSE NEIGHBOUR: 'it returns false'. Refute it at one input. -/
def labelLinesWrong : ChangeSpec := { name := "labelLines", fn := fun _ => fun
  | [d1, d2, d3] => { results := [.lit (.bool false)], args := [d1, d2, d3] }
  | _ => none }
def LabelLinesWrongFalsely : Prop := labelLinesRow.holds Try.pinned (OpenSpec.ofChange labelLinesWrong)

/-- 'pedigreelaw16.LabelAll': WHATEVER THE INPUT: true; the input reads as it did. -/
def labelAllSpec : ChangeSpec := { name := "labelAll", fn := fun _ => fun
  | [d1, d2] => { results := [.lit (.bool true)], args := [d1, d2] }
  | _ => none }
def labelAllRow : OpenClaim := { program := "ytfbphibgcolmbaa", sum := "da751dd6562aa57fe0115335462d94eee61cdc4ee2b408f6e082406b615026f3", func := "pedigree/pedigreelaw16.LabelAll", spec := "labelAll", inPlace := ["slices.overlaps[int]"], recurses := true, plainKeys := false, apart := false }
def LabelAllSaid : Prop := labelAllRow.holds Try.pinned (OpenSpec.ofChange labelAllSpec)

/-- ITS FALSE NEIGHBOUR: 'it returns false'. Refute it at one input. -/
def labelAllWrong : ChangeSpec := { name := "labelAll", fn := fun _ => fun
  | [d1, d2] => { results := [.lit (.bool false)], args := [d1, d2] }
  | _ => none }
def LabelAllWrongFalsely : Prop := labelAllRow.holds Try.pinned (OpenSpec.ofChange labelAllWrong)

/-- 'pedigreelaw16.LabelPaths': WHATEVER THE INPUT: true; the input reads as it did. -/
def labelPathsSpec : ChangeSpec := { name := "labelPaths", fn := fun _ => fun
  | [d1, d2] => { results := [.lit (.bool true)], args := [d1, d2] }
  | _ => none }
def labelPathsRow : OpenClaim := { program := "ytfbphibgcolmbaa", sum := "da751dd6562aa57fe0115335462d94eee61cdc4ee2b408f6e082406b615026f3", func := "pedigree/pedigreelaw16.LabelPaths", spec := "labelPaths", inPlace := ["slices.overlaps[int]"], recurses := true, plainKeys := false, apart := false }
def LabelPathsSaid : Prop := labelPathsRow.holds Try.pinned (OpenSpec.ofChange labelPathsSpec)

/-- ITS FALSE NEIGHBOUR: 'it returns false'. Refute it at one input. -/
def labelPathsWrong : ChangeSpec := { name := "labelPaths", fn := fun _ => fun
  | [d1, d2] => { results := [.lit (.bool false)], args := [d1, d2] }
  | _ => none }
def LabelPathsWrongFalsely : Prop := labelPathsRow.holds Try.pinned (OpenSpec.ofChange labelPathsWrong)

/-- 'pedigreelaw16.LabelGrows': WHATEVER THE INPUT: true; the input reads as it did. -/
def labelGrowsSpec : ChangeSpec := { name := "labelGrows", fn := fun _ => fun
  | [d1, d2] => { results := [.lit (.bool true)], args := [d1, d2] }
  | _ => none }
def labelGrowsRow : OpenClaim := { program := "ytfbphibgcolmbaa", sum := "da751dd6562aa57fe0115335462d94eee61cdc4ee2b408f6e082406b615026f3", func := "pedigree/pedigreelaw16.LabelGrows", spec := "labelGrows", inPlace := ["slices.overlaps[int]"], recurses := true, plainKeys := false, apart := false }
def LabelGrowsSaid : Prop := labelGrowsRow.holds Try.pinned (OpenSpec.ofChange labelGrowsSpec)

/-- ITS FALSE NEIGHBOUR: 'it returns false'. Refute it at one input. -/
def labelGrowsWrong : ChangeSpec := { name := "labelGrows", fn := fun _ => fun
  | [d1, d2] => { results := [.lit (.bool false)], args := [d1, d2] }
  | _ => none }
def LabelGrowsWrongFalsely : Prop := labelGrowsRow.holds Try.pinned (OpenSpec.ofChange labelGrowsWrong)

/-- 'pedigreelaw16.LabelNone': WHATEVER THE INPUT: true; the input reads as it did. -/
def labelNoneSpec : ChangeSpec := { name := "labelNone", fn := fun _ => fun
  | [d1, d2] => { results := [.lit (.bool true)], args := [d1, d2] }
  | _ => none }
def labelNoneRow : OpenClaim := { program := "ytfbphibgcolmbaa", sum := "da751dd6562aa57fe0115335462d94eee61cdc4ee2b408f6e082406b615026f3", func := "pedigree/pedigreelaw16.LabelNone", spec := "labelNone", inPlace := ["slices.overlaps[int]"], recurses := true, plainKeys := false, apart := false }
def LabelNoneSaid : Prop := labelNoneRow.holds Try.pinned (OpenSpec.ofChange labelNoneSpec)

/-- ITS FALSE NEIGHBOUR: 'it returns false'. Refute it at one input. -/
def labelNoneWrong : ChangeSpec := { name := "labelNone", fn := fun _ => fun
  | [d1, d2] => { results := [.lit (.bool false)], args := [d1, d2] }
  | _ => none }
def LabelNoneWrongFalsely : Prop := labelNoneRow.holds Try.pinned (OpenSpec.ofChange labelNoneWrong)

/-- 'pedigreelaw16.LabelKeeps': WHATEVER THE INPUT: true; the input reads as it did. -/
def labelKeepsSpec : ChangeSpec := { name := "labelKeeps", fn := fun _ => fun
  | [d] => { results := [.lit (.bool true)], args := [d] }
  | _ => none }
def labelKeepsRow : OpenClaim := { program := "ytfbphibgcolmbaa", sum := "da751dd6562aa57fe0115335462d94eee61cdc4ee2b408f6e082406b615026f3", func := "pedigree/pedigreelaw16.LabelKeeps", spec := "labelKeeps", inPlace := ["slices.overlaps[int]"], recurses := true, plainKeys := false, apart := false }
def LabelKeepsSaid : Prop := labelKeepsRow.holds Try.pinned (OpenSpec.ofChange labelKeepsSpec)

/-- ITS FALSE NEIGHBOUR: 'it returns false'. Refute it at one input. -/
def labelKeepsWrong : ChangeSpec := { name := "labelKeeps", fn := fun _ => fun
  | [d] => { results := [.lit (.bool false)], args := [d] }
  | _ => none }
def LabelKeepsWrongFalsely : Prop := labelKeepsRow.holds Try.pinned (OpenSpec.ofChange labelKeepsWrong)

/- THE SECOND FORM. 'bulk': how many values and letters a reading holds, each counted each time it is reached (what is shared counts as often as it is met; a slice's spare places count too). A statement '..UptoSaid' is the law's where the arguments, and the package variables that the reading takes, are together of bulk at most 1048576: NARROWER than '..Said'. Prove '..Said' where nothing that the law and all that it calls make is longer than what came in: it says more and counts as full. Else prove '..UptoSaid'. A law counts once. -/
mutual
def uptoBulk {H : Type} : DataW H → Nat
  | .lit (.string bytes) => bytes.length + 1
  | .lit _ => 1
  | .nil => 1
  | .ptr d => uptoBulk d + 1
  | .slice elems spare => uptoBulkAll elems + uptoBulkAll spare + 1
  | .agg parts => uptoBulkAll parts + 1
  | .iface _ d => uptoBulk d + 1
  | .map entries => uptoBulkEntries entries + 1
  | .held _ => 1
def uptoBulkAll {H : Type} : List (DataW H) → Nat
  | [] => 0
  | d :: r => uptoBulk d + uptoBulkAll r
def uptoBulkEntries {H : Type} : List (Lit × DataW H) → Nat
  | [] => 0
  | x :: r => uptoBulkEntry x + uptoBulkEntries r
def uptoBulkEntry {H : Type} : Lit × DataW H → Nat
  | (.string bytes, d) => bytes.length + uptoBulk d + 1
  | (_, d) => uptoBulk d + 1
 end
def uptoSmall : (H : Type) → List (DataW H) → Bool := fun _ ds => decide (uptoBulkAll ds ≤ 1048576)
def OpenSpec.upto (s : _root_.Go.ChangeSpec) : _root_.Go.OpenSpec := { _root_.Go.OpenSpec.ofChange s with cond := some uptoSmall }

/-- 'pedigreelaw15.GraphAcyclic', WHERE WHAT IT READS IS OF BULK AT MOST 1048576: true; the input reads as it did. -/
def graphAcyclicUptoRow : OpenClaim := { program := "ytfbphibgcolmbaa", sum := "da751dd6562aa57fe0115335462d94eee61cdc4ee2b408f6e082406b615026f3", func := "pedigree/pedigreelaw15.GraphAcyclic", spec := "graphAcyclic", inPlace := ["slices.overlaps[int]"], recurses := true, plainKeys := false, apart := false, narrowed := true }
def GraphAcyclicUptoSaid : Prop := graphAcyclicUptoRow.holds Try.pinned (OpenSpec.upto graphAcyclicSpec)

/-- 'pedigreelaw15.GraphVersions', WHERE WHAT IT READS IS OF BULK AT MOST 1048576: true; the input reads as it did. -/
def graphVersionsUptoRow : OpenClaim := { program := "ytfbphibgcolmbaa", sum := "da751dd6562aa57fe0115335462d94eee61cdc4ee2b408f6e082406b615026f3", func := "pedigree/pedigreelaw15.GraphVersions", spec := "graphVersions", inPlace := ["slices.overlaps[int]"], recurses := true, plainKeys := false, apart := false, narrowed := true }
def GraphVersionsUptoSaid : Prop := graphVersionsUptoRow.holds Try.pinned (OpenSpec.upto graphVersionsSpec)

/-- 'pedigreelaw15.GraphLost', WHERE WHAT IT READS IS OF BULK AT MOST 1048576: true; the input reads as it did. -/
def graphLostUptoRow : OpenClaim := { program := "ytfbphibgcolmbaa", sum := "da751dd6562aa57fe0115335462d94eee61cdc4ee2b408f6e082406b615026f3", func := "pedigree/pedigreelaw15.GraphLost", spec := "graphLost", inPlace := ["slices.overlaps[int]"], recurses := true, plainKeys := false, apart := false, narrowed := true }
def GraphLostUptoSaid : Prop := graphLostUptoRow.holds Try.pinned (OpenSpec.upto graphLostSpec)

/-- 'pedigreelaw15.GraphWays', WHERE WHAT IT READS IS OF BULK AT MOST 1048576: true; the input reads as it did. -/
def graphWaysUptoRow : OpenClaim := { program := "ytfbphibgcolmbaa", sum := "da751dd6562aa57fe0115335462d94eee61cdc4ee2b408f6e082406b615026f3", func := "pedigree/pedigreelaw15.GraphWays", spec := "graphWays", inPlace := ["slices.overlaps[int]"], recurses := true, plainKeys := false, apart := false, narrowed := true }
def GraphWaysUptoSaid : Prop := graphWaysUptoRow.holds Try.pinned (OpenSpec.upto graphWaysSpec)

/-- 'pedigreelaw15.GraphPlays', WHERE WHAT IT READS IS OF BULK AT MOST 1048576: true; the input reads as it did. -/
def graphPlaysUptoRow : OpenClaim := { program := "ytfbphibgcolmbaa", sum := "da751dd6562aa57fe0115335462d94eee61cdc4ee2b408f6e082406b615026f3", func := "pedigree/pedigreelaw15.GraphPlays", spec := "graphPlays", inPlace := ["slices.overlaps[int]"], recurses := true, plainKeys := false, apart := false, narrowed := true }
def GraphPlaysUptoSaid : Prop := graphPlaysUptoRow.holds Try.pinned (OpenSpec.upto graphPlaysSpec)

/-- 'pedigreelaw16.LabelLines', WHERE WHAT IT READS IS OF BULK AT MOST 1048576: true; the input reads as it did. -/
def labelLinesUptoRow : OpenClaim := { program := "ytfbphibgcolmbaa", sum := "da751dd6562aa57fe0115335462d94eee61cdc4ee2b408f6e082406b615026f3", func := "pedigree/pedigreelaw16.LabelLines", spec := "labelLines", inPlace := ["slices.overlaps[int]"], recurses := true, plainKeys := false, apart := false, narrowed := true }
def LabelLinesUptoSaid : Prop := labelLinesUptoRow.holds Try.pinned (OpenSpec.upto labelLinesSpec)

/-- 'pedigreelaw16.LabelAll', WHERE WHAT IT READS IS OF BULK AT MOST 1048576: true; the input reads as it did. -/
def labelAllUptoRow : OpenClaim := { program := "ytfbphibgcolmbaa", sum := "da751dd6562aa57fe0115335462d94eee61cdc4ee2b408f6e082406b615026f3", func := "pedigree/pedigreelaw16.LabelAll", spec := "labelAll", inPlace := ["slices.overlaps[int]"], recurses := true, plainKeys := false, apart := false, narrowed := true }
def LabelAllUptoSaid : Prop := labelAllUptoRow.holds Try.pinned (OpenSpec.upto labelAllSpec)

/-- 'pedigreelaw16.LabelPaths', WHERE WHAT IT READS IS OF BULK AT MOST 1048576: true; the input reads as it did. -/
def labelPathsUptoRow : OpenClaim := { program := "ytfbphibgcolmbaa", sum := "da751dd6562aa57fe0115335462d94eee61cdc4ee2b408f6e082406b615026f3", func := "pedigree/pedigreelaw16.LabelPaths", spec := "labelPaths", inPlace := ["slices.overlaps[int]"], recurses := true, plainKeys := false, apart := false, narrowed := true }
def LabelPathsUptoSaid : Prop := labelPathsUptoRow.holds Try.pinned (OpenSpec.upto labelPathsSpec)

/-- 'pedigreelaw16.LabelGrows', WHERE WHAT IT READS IS OF BULK AT MOST 1048576: true; the input reads as it did. -/
def labelGrowsUptoRow : OpenClaim := { program := "ytfbphibgcolmbaa", sum := "da751dd6562aa57fe0115335462d94eee61cdc4ee2b408f6e082406b615026f3", func := "pedigree/pedigreelaw16.LabelGrows", spec := "labelGrows", inPlace := ["slices.overlaps[int]"], recurses := true, plainKeys := false, apart := false, narrowed := true }
def LabelGrowsUptoSaid : Prop := labelGrowsUptoRow.holds Try.pinned (OpenSpec.upto labelGrowsSpec)

/-- 'pedigreelaw16.LabelNone', WHERE WHAT IT READS IS OF BULK AT MOST 1048576: true; the input reads as it did. -/
def labelNoneUptoRow : OpenClaim := { program := "ytfbphibgcolmbaa", sum := "da751dd6562aa57fe0115335462d94eee61cdc4ee2b408f6e082406b615026f3", func := "pedigree/pedigreelaw16.LabelNone", spec := "labelNone", inPlace := ["slices.overlaps[int]"], recurses := true, plainKeys := false, apart := false, narrowed := true }
def LabelNoneUptoSaid : Prop := labelNoneUptoRow.holds Try.pinned (OpenSpec.upto labelNoneSpec)

/-- 'pedigreelaw16.LabelKeeps', WHERE WHAT IT READS IS OF BULK AT MOST 1048576: true; the input reads as it did. -/
def labelKeepsUptoRow : OpenClaim := { program := "ytfbphibgcolmbaa", sum := "da751dd6562aa57fe0115335462d94eee61cdc4ee2b408f6e082406b615026f3", func := "pedigree/pedigreelaw16.LabelKeeps", spec := "labelKeeps", inPlace := ["slices.overlaps[int]"], recurses := true, plainKeys := false, apart := false, narrowed := true }
def LabelKeepsUptoSaid : Prop := labelKeepsUptoRow.holds Try.pinned (OpenSpec.upto labelKeepsSpec)

end Rows
end Go.Proofs.Ytfbphibgcolmbaa
