/-
  No cell of these rows narrows 'for every input' (looked for: loops, veiled, ifaces, maps, wideKeys, modest, calm, conditions, laid).
  DERIVED. THE GIVEN ROWS OF THIS SEAT. 3 by the template 'for every input the law returns true; each argument reads behind the call as it read before'; 0 by the template 'total and deterministic' (their statements: YtapodjhkpahdnaaGreatTotals.lean).
  GIVEN WITH THE SEED: the statements are not yours to turn. If you find one false, say at which input.
  Laid BY PROGRAM, IN A SANDBOX (cutbox-rows.mjs): the forced cells as the released guide's own fill.sh prints them over the translation d266ff15bf003eb6… (all of the seat's roots in one cut). By AI agents, Wed Nov 11 2026. No macro, syntax, notation, axiom, sorry.
-/
import Derived.Test.YtapodjhkpahdnaaGreatChecked
import GoSem.Claim
import GoSem.ClaimJoined
import GoSem.ClaimMapViews
import Derived.JoinedTies
import Derived.KernelRfl
namespace Go.Proofs.YtapodjhkpahdnaaGreat
/- THE CELL 'sum', in the pinned program and in every row, IS THE sha256 OF THE DUMP (.gsa) THAT YtapodjhkpahdnaaGreatProg.lean LOADS. Nothing in Lean hashes anything: it is a label: what it is worth is what the hold of that sum in a sandbox is worth. -/
noncomputable def Tryz.pinned : Pinned := { name := "ytapodjhkpahdnaagreat", sum := "d266ff15bf003eb6bf78a1ceb873dcf795d4db6c776c54e7abee3e4f0b57f521", checked := Tryz.checked }
namespace Rows
def none {H : Type} : Left H := { results := [], args := [] }

/-- 'pedigreelaw17.VersionReplays': WHATEVER THE INPUT: true; the input reads as it did. -/
def versionReplaysSpec : ChangeSpec := { name := "versionReplays", fn := fun _ => fun
  | [d] => { results := [.lit (.bool true)], args := [d] }
  | _ => none }
def versionReplaysRow : OpenClaim := { program := "ytapodjhkpahdnaagreat", sum := "d266ff15bf003eb6bf78a1ceb873dcf795d4db6c776c54e7abee3e4f0b57f521", func := "pedigree/pedigreelaw17.VersionReplays", spec := "versionReplays", inPlace := ["slices.overlaps[int]"], recurses := true, plainKeys := false, apart := false }
def VersionReplaysSaid : Prop := versionReplaysRow.holds Tryz.pinned (OpenSpec.ofChange versionReplaysSpec)

/-- ITS FALSE NEIGHBOUR: 'it returns false'. Refute it at one input. -/
def versionReplaysWrong : ChangeSpec := { name := "versionReplays", fn := fun _ => fun
  | [d] => { results := [.lit (.bool false)], args := [d] }
  | _ => none }
def VersionReplaysWrongFalsely : Prop := versionReplaysRow.holds Tryz.pinned (OpenSpec.ofChange versionReplaysWrong)

/-- 'pedigreelaw17.VersionPlays': WHATEVER THE INPUT: true; the input reads as it did. -/
def versionPlaysSpec : ChangeSpec := { name := "versionPlays", fn := fun _ => fun
  | [d] => { results := [.lit (.bool true)], args := [d] }
  | _ => none }
def versionPlaysRow : OpenClaim := { program := "ytapodjhkpahdnaagreat", sum := "d266ff15bf003eb6bf78a1ceb873dcf795d4db6c776c54e7abee3e4f0b57f521", func := "pedigree/pedigreelaw17.VersionPlays", spec := "versionPlays", inPlace := ["slices.overlaps[int]"], recurses := true, plainKeys := false, apart := false }
def VersionPlaysSaid : Prop := versionPlaysRow.holds Tryz.pinned (OpenSpec.ofChange versionPlaysSpec)

/-- ITS FALSE NEIGHBOUR: 'it returns false'. Refute it at one input. -/
def versionPlaysWrong : ChangeSpec := { name := "versionPlays", fn := fun _ => fun
  | [d] => { results := [.lit (.bool false)], args := [d] }
  | _ => none }
def VersionPlaysWrongFalsely : Prop := versionPlaysRow.holds Tryz.pinned (OpenSpec.ofChange versionPlaysWrong)

/-- 'pedigreelaw17.VersionLabels': WHATEVER THE INPUT: true; the input reads as it did. -/
def versionLabelsSpec : ChangeSpec := { name := "versionLabels", fn := fun _ => fun
  | [d1, d2] => { results := [.lit (.bool true)], args := [d1, d2] }
  | _ => none }
def versionLabelsRow : OpenClaim := { program := "ytapodjhkpahdnaagreat", sum := "d266ff15bf003eb6bf78a1ceb873dcf795d4db6c776c54e7abee3e4f0b57f521", func := "pedigree/pedigreelaw17.VersionLabels", spec := "versionLabels", inPlace := ["slices.overlaps[int]"], recurses := true, plainKeys := false, apart := false }
def VersionLabelsSaid : Prop := versionLabelsRow.holds Tryz.pinned (OpenSpec.ofChange versionLabelsSpec)

/-- ITS FALSE NEIGHBOUR: 'it returns false'. Refute it at one input. -/
def versionLabelsWrong : ChangeSpec := { name := "versionLabels", fn := fun _ => fun
  | [d1, d2] => { results := [.lit (.bool false)], args := [d1, d2] }
  | _ => none }
def VersionLabelsWrongFalsely : Prop := versionLabelsRow.holds Tryz.pinned (OpenSpec.ofChange versionLabelsWrong)

/- THE SECOND FORM. 'bulk': how many values and letters a reading holds, each counted each time it is reached (what is shared counts as often as it is met; a slice's spare places count too). A statement '..UptoSaid' is the law's where the arguments, and the package variables that the reading takes, are together of bulk at most 1048576: NARROWER than '..Said'. Prove '..Said' where nothing that the law and all that it calls make is longer than what came in: it says more and counts as full. Else prove '..UptoSaid'. A law counts once. -/
mutual
def uptoBulk {H : Type} : DataW H → Nat
  | .lit (.string bytes) => bytes.length + 1
  | .lit _ => 1
  | .nil => 1
  | .ptr d => uptoBulk d + 1
  | .slice elems spare => uptoBulkAll elems + uptoBulkAll spare + 1
  | .agg parts => uptoBulkAll parts + 1
  | .iface _ d => uptoBulk d + 1
  | .map entries => uptoBulkEntries entries + 1
  | .held _ => 1
def uptoBulkAll {H : Type} : List (DataW H) → Nat
  | [] => 0
  | d :: r => uptoBulk d + uptoBulkAll r
def uptoBulkEntries {H : Type} : List (Lit × DataW H) → Nat
  | [] => 0
  | x :: r => uptoBulkEntry x + uptoBulkEntries r
def uptoBulkEntry {H : Type} : Lit × DataW H → Nat
  | (.string bytes, d) => bytes.length + uptoBulk d + 1
  | (_, d) => uptoBulk d + 1
 end
def uptoSmall : (H : Type) → List (DataW H) → Bool := fun _ ds => decide (uptoBulkAll ds ≤ 1048576)
def OpenSpec.upto (s : _root_.Go.ChangeSpec) : _root_.Go.OpenSpec := { _root_.Go.OpenSpec.ofChange s with cond := some uptoSmall }

/-- 'pedigreelaw17.VersionReplays', WHERE WHAT IT READS IS OF BULK AT MOST 1048576: true; the input reads as it did. -/
def versionReplaysUptoRow : OpenClaim := { program := "ytapodjhkpahdnaagreat", sum := "d266ff15bf003eb6bf78a1ceb873dcf795d4db6c776c54e7abee3e4f0b57f521", func := "pedigree/pedigreelaw17.VersionReplays", spec := "versionReplays", inPlace := ["slices.overlaps[int]"], recurses := true, plainKeys := false, apart := false, narrowed := true }
def VersionReplaysUptoSaid : Prop := versionReplaysUptoRow.holds Tryz.pinned (OpenSpec.upto versionReplaysSpec)

/-- 'pedigreelaw17.VersionPlays', WHERE WHAT IT READS IS OF BULK AT MOST 1048576: true; the input reads as it did. -/
def versionPlaysUptoRow : OpenClaim := { program := "ytapodjhkpahdnaagreat", sum := "d266ff15bf003eb6bf78a1ceb873dcf795d4db6c776c54e7abee3e4f0b57f521", func := "pedigree/pedigreelaw17.VersionPlays", spec := "versionPlays", inPlace := ["slices.overlaps[int]"], recurses := true, plainKeys := false, apart := false, narrowed := true }
def VersionPlaysUptoSaid : Prop := versionPlaysUptoRow.holds Tryz.pinned (OpenSpec.upto versionPlaysSpec)

/-- 'pedigreelaw17.VersionLabels', WHERE WHAT IT READS IS OF BULK AT MOST 1048576: true; the input reads as it did. -/
def versionLabelsUptoRow : OpenClaim := { program := "ytapodjhkpahdnaagreat", sum := "d266ff15bf003eb6bf78a1ceb873dcf795d4db6c776c54e7abee3e4f0b57f521", func := "pedigree/pedigreelaw17.VersionLabels", spec := "versionLabels", inPlace := ["slices.overlaps[int]"], recurses := true, plainKeys := false, apart := false, narrowed := true }
def VersionLabelsUptoSaid : Prop := versionLabelsUptoRow.holds Tryz.pinned (OpenSpec.upto versionLabelsSpec)

end Rows
end Go.Proofs.YtapodjhkpahdnaaGreat
