/-
  No cell of these rows narrows 'for every input' (looked for: loops, veiled, ifaces, maps, wideKeys, modest, calm, conditions, laid).
  DERIVED. THE GIVEN ROWS OF THIS SEAT. 5 by the template 'for every input the law returns true; each argument reads behind the call as it read before'; 0 by the template 'total and deterministic' (their statements: YtapodjhkpahdnaaTotals.lean).
  GIVEN WITH THE SEED: the statements are not yours to turn. If you find one false, say at which input.
  Laid BY PROGRAM, IN A SANDBOX (cutbox-rows.mjs): the forced cells as the released guide's own fill.sh prints them over the translation a27cb8396aa6bb93… (all of the seat's roots in one cut). By AI agents, Wed Nov 11 2026. No macro, syntax, notation, axiom, sorry.
-/
import Derived.Test.YtapodjhkpahdnaaChecked
import GoSem.Claim
import GoSem.ClaimJoined
import GoSem.ClaimMapViews
import Derived.JoinedTies
import Derived.KernelRfl
namespace Go.Proofs.Ytapodjhkpahdnaa
/- THE CELL 'sum', in the pinned program and in every row, IS THE sha256 OF THE DUMP (.gsa) THAT YtapodjhkpahdnaaProg.lean LOADS. Nothing in Lean hashes anything: it is a label: what it is worth is what the hold of that sum in a sandbox is worth. -/
noncomputable def Try.pinned : Pinned := { name := "ytapodjhkpahdnaa", sum := "a27cb8396aa6bb93e0e4e3e6a3604a7ab142646207e1699a73be10bb7f128f32", checked := Try.checked }
namespace Rows
def none {H : Type} : Left H := { results := [], args := [] }

/-- 'pedigreelaw17.VersionLine': WHATEVER THE INPUT: true; the input reads as it did. -/
def versionLineSpec : ChangeSpec := { name := "versionLine", fn := fun _ => fun
  | [d] => { results := [.lit (.bool true)], args := [d] }
  | _ => none }
def versionLineRow : OpenClaim := { program := "ytapodjhkpahdnaa", sum := "a27cb8396aa6bb93e0e4e3e6a3604a7ab142646207e1699a73be10bb7f128f32", func := "pedigree/pedigreelaw17.VersionLine", spec := "versionLine", inPlace := ["slices.overlaps[int]"], recurses := true, plainKeys := false, apart := false }
def VersionLineSaid : Prop := versionLineRow.holds Try.pinned (OpenSpec.ofChange versionLineSpec)

/-- ITS FALSE NEIGHBOUR: 'it returns false'. Refute it at one input. -/
def versionLineWrong : ChangeSpec := { name := "versionLine", fn := fun _ => fun
  | [d] => { results := [.lit (.bool false)], args := [d] }
  | _ => none }
def VersionLineWrongFalsely : Prop := versionLineRow.holds Try.pinned (OpenSpec.ofChange versionLineWrong)

/-- 'pedigreelaw21.RecordGraphs': WHATEVER THE INPUT: true; the input reads as it did. -/
def recordGraphsSpec : ChangeSpec := { name := "recordGraphs", fn := fun _ => fun
  | [d] => { results := [.lit (.bool true)], args := [d] }
  | _ => none }
def recordGraphsRow : OpenClaim := { program := "ytapodjhkpahdnaa", sum := "a27cb8396aa6bb93e0e4e3e6a3604a7ab142646207e1699a73be10bb7f128f32", func := "pedigree/pedigreelaw21.RecordGraphs", spec := "recordGraphs", inPlace := ["slices.overlaps[int]"], recurses := true, plainKeys := false, apart := false }
def RecordGraphsSaid : Prop := recordGraphsRow.holds Try.pinned (OpenSpec.ofChange recordGraphsSpec)

/-- ITS FALSE NEIGHBOUR: 'it returns false'. Refute it at one input. -/
def recordGraphsWrong : ChangeSpec := { name := "recordGraphs", fn := fun _ => fun
  | [d] => { results := [.lit (.bool false)], args := [d] }
  | _ => none }
def RecordGraphsWrongFalsely : Prop := recordGraphsRow.holds Try.pinned (OpenSpec.ofChange recordGraphsWrong)

/-- 'pedigreelaw21.RecordParts': WHATEVER THE INPUT: true; the input reads as it did. -/
def recordPartsSpec : ChangeSpec := { name := "recordParts", fn := fun _ => fun
  | [d1, d2] => { results := [.lit (.bool true)], args := [d1, d2] }
  | _ => none }
def recordPartsRow : OpenClaim := { program := "ytapodjhkpahdnaa", sum := "a27cb8396aa6bb93e0e4e3e6a3604a7ab142646207e1699a73be10bb7f128f32", func := "pedigree/pedigreelaw21.RecordParts", spec := "recordParts", inPlace := ["slices.overlaps[int]"], recurses := true, plainKeys := false, apart := false }
def RecordPartsSaid : Prop := recordPartsRow.holds Try.pinned (OpenSpec.ofChange recordPartsSpec)

/-- ITS FALSE NEIGHBOUR: 'it returns false'. Refute it at one input. -/
def recordPartsWrong : ChangeSpec := { name := "recordParts", fn := fun _ => fun
  | [d1, d2] => { results := [.lit (.bool false)], args := [d1, d2] }
  | _ => none }
def RecordPartsWrongFalsely : Prop := recordPartsRow.holds Try.pinned (OpenSpec.ofChange recordPartsWrong)

/-- 'pedigreelaw17.VersionNeeds': WHATEVER THE INPUT: true; the input reads as it did. -/
def versionNeedsSpec : ChangeSpec := { name := "versionNeeds", fn := fun _ => fun
  | [d1, d2, d3] => { results := [.lit (.bool true)], args := [d1, d2, d3] }
  | _ => none }
def versionNeedsRow : OpenClaim := { program := "ytapodjhkpahdnaa", sum := "a27cb8396aa6bb93e0e4e3e6a3604a7ab142646207e1699a73be10bb7f128f32", func := "pedigree/pedigreelaw17.VersionNeeds", spec := "versionNeeds", inPlace := ["slices.overlaps[int]"], recurses := true, plainKeys := false, apart := false }
def VersionNeedsSaid : Prop := versionNeedsRow.holds Try.pinned (OpenSpec.ofChange versionNeedsSpec)

/-- ITS FALSE NEIGHBOUR: 'it returns false'. Refute it at one input. -/
def versionNeedsWrong : ChangeSpec := { name := "versionNeeds", fn := fun _ => fun
  | [d1, d2, d3] => { results := [.lit (.bool false)], args := [d1, d2, d3] }
  | _ => none }
def VersionNeedsWrongFalsely : Prop := versionNeedsRow.holds Try.pinned (OpenSpec.ofChange versionNeedsWrong)

/-- 'pedigreelaw17.VersionFlows': WHATEVER THE INPUT: true; the input reads as it did. -/
def versionFlowsSpec : ChangeSpec := { name := "versionFlows", fn := fun _ => fun
  | [d1, d2, d3] => { results := [.lit (.bool true)], args := [d1, d2, d3] }
  | _ => none }
def versionFlowsRow : OpenClaim := { program := "ytapodjhkpahdnaa", sum := "a27cb8396aa6bb93e0e4e3e6a3604a7ab142646207e1699a73be10bb7f128f32", func := "pedigree/pedigreelaw17.VersionFlows", spec := "versionFlows", inPlace := ["slices.overlaps[int]"], recurses := true, plainKeys := false, apart := false }
def VersionFlowsSaid : Prop := versionFlowsRow.holds Try.pinned (OpenSpec.ofChange versionFlowsSpec)

/-- ITS FALSE NEIGHBOUR: 'it returns false'. Refute it at one input. -/
def versionFlowsWrong : ChangeSpec := { name := "versionFlows", fn := fun _ => fun
  | [d1, d2, d3] => { results := [.lit (.bool false)], args := [d1, d2, d3] }
  | _ => none }
def VersionFlowsWrongFalsely : Prop := versionFlowsRow.holds Try.pinned (OpenSpec.ofChange versionFlowsWrong)

/- THE SECOND FORM. 'bulk': how many values and letters a reading holds, each counted each time it is reached (what is shared counts as often as it is met; a slice's spare places count too). A statement '..UptoSaid' is the law's where the arguments, and the package variables that the reading takes, are together of bulk at most 1048576: NARROWER than '..Said'. Prove '..Said' where nothing that the law and all that it calls make is longer than what came in: it says more and counts as full. Else prove '..UptoSaid'. A law counts once. -/
mutual
def uptoBulk {H : Type} : DataW H → Nat
  | .lit (.string bytes) => bytes.length + 1
  | .lit _ => 1
  | .nil => 1
  | .ptr d => uptoBulk d + 1
  | .slice elems spare => uptoBulkAll elems + uptoBulkAll spare + 1
  | .agg parts => uptoBulkAll parts + 1
  | .iface _ d => uptoBulk d + 1
  | .map entries => uptoBulkEntries entries + 1
  | .held _ => 1
def uptoBulkAll {H : Type} : List (DataW H) → Nat
  | [] => 0
  | d :: r => uptoBulk d + uptoBulkAll r
def uptoBulkEntries {H : Type} : List (Lit × DataW H) → Nat
  | [] => 0
  | x :: r => uptoBulkEntry x + uptoBulkEntries r
def uptoBulkEntry {H : Type} : Lit × DataW H → Nat
  | (.string bytes, d) => bytes.length + uptoBulk d + 1
  | (_, d) => uptoBulk d + 1
 end
def uptoSmall : (H : Type) → List (DataW H) → Bool := fun _ ds => decide (uptoBulkAll ds ≤ 1048576)
def OpenSpec.upto (s : _root_.Go.ChangeSpec) : _root_.Go.OpenSpec := { _root_.Go.OpenSpec.ofChange s with cond := some uptoSmall }

/-- 'pedigreelaw17.VersionLine', WHERE WHAT IT READS IS OF BULK AT MOST 1048576: true; the input reads as it did. -/
def versionLineUptoRow : OpenClaim := { program := "ytapodjhkpahdnaa", sum := "a27cb8396aa6bb93e0e4e3e6a3604a7ab142646207e1699a73be10bb7f128f32", func := "pedigree/pedigreelaw17.VersionLine", spec := "versionLine", inPlace := ["slices.overlaps[int]"], recurses := true, plainKeys := false, apart := false, narrowed := true }
def VersionLineUptoSaid : Prop := versionLineUptoRow.holds Try.pinned (OpenSpec.upto versionLineSpec)

/-- 'pedigreelaw21.RecordGraphs', WHERE WHAT IT READS IS OF BULK AT MOST 1048576: true; the input reads as it did. -/
def recordGraphsUptoRow : OpenClaim := { program := "ytapodjhkpahdnaa", sum := "a27cb8396aa6bb93e0e4e3e6a3604a7ab142646207e1699a73be10bb7f128f32", func := "pedigree/pedigreelaw21.RecordGraphs", spec := "recordGraphs", inPlace := ["slices.overlaps[int]"], recurses := true, plainKeys := false, apart := false, narrowed := true }
def RecordGraphsUptoSaid : Prop := recordGraphsUptoRow.holds Try.pinned (OpenSpec.upto recordGraphsSpec)

/-- 'pedigreelaw21.RecordParts', WHERE WHAT IT READS IS OF BULK AT MOST 1048576: true; the input reads as it did. -/
def recordPartsUptoRow : OpenClaim := { program := "ytapodjhkpahdnaa", sum := "a27cb8396aa6bb93e0e4e3e6a3604a7ab142646207e1699a73be10bb7f128f32", func := "pedigree/pedigreelaw21.RecordParts", spec := "recordParts", inPlace := ["slices.overlaps[int]"], recurses := true, plainKeys := false, apart := false, narrowed := true }
def RecordPartsUptoSaid : Prop := recordPartsUptoRow.holds Try.pinned (OpenSpec.upto recordPartsSpec)

/-- 'pedigreelaw17.VersionNeeds', WHERE WHAT IT READS IS OF BULK AT MOST 1048576: true; the input reads as it did. -/
def versionNeedsUptoRow : OpenClaim := { program := "ytapodjhkpahdnaa", sum := "a27cb8396aa6bb93e0e4e3e6a3604a7ab142646207e1699a73be10bb7f128f32", func := "pedigree/pedigreelaw17.VersionNeeds", spec := "versionNeeds", inPlace := ["slices.overlaps[int]"], recurses := true, plainKeys := false, apart := false, narrowed := true }
def VersionNeedsUptoSaid : Prop := versionNeedsUptoRow.holds Try.pinned (OpenSpec.upto versionNeedsSpec)

/-- 'pedigreelaw17.VersionFlows', WHERE WHAT IT READS IS OF BULK AT MOST 1048576: true; the input reads as it did. -/
def versionFlowsUptoRow : OpenClaim := { program := "ytapodjhkpahdnaa", sum := "a27cb8396aa6bb93e0e4e3e6a3604a7ab142646207e1699a73be10bb7f128f32", func := "pedigree/pedigreelaw17.VersionFlows", spec := "versionFlows", inPlace := ["slices.overlaps[int]"], recurses := true, plainKeys := false, apart := false, narrowed := true }
def VersionFlowsUptoSaid : Prop := versionFlowsUptoRow.holds Try.pinned (OpenSpec.upto versionFlowsSpec)

end Rows
end Go.Proofs.Ytapodjhkpahdnaa
