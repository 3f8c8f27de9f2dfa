/-
  No cell of these rows narrows 'for every input' (looked for: loops, veiled, ifaces, maps, wideKeys, modest, calm, conditions, laid).
  DERIVED. THE GIVEN ROWS OF THIS SEAT. 5 by the template 'for every input the law returns true; each argument reads behind the call as it read before'; 0 by the template 'total and deterministic' (their statements: YtefbkpggmmhgcaaTotals.lean).
  GIVEN WITH THE SEED: the statements are not yours to turn. If you find one false, say at which input.
  Laid BY PROGRAM, IN A SANDBOX (cutbox-rows.mjs): the forced cells as the released guide's own fill.sh prints them over the translation 2f2686ca019d8c97… (all of the seat's roots in one cut). By AI agents, Wed Nov 11 2026. No macro, syntax, notation, axiom, sorry.
-/
import Derived.Test.YtefbkpggmmhgcaaChecked
import GoSem.Claim
import GoSem.ClaimJoined
import GoSem.ClaimMapViews
import Derived.JoinedTies
import Derived.KernelRfl
namespace Go.Proofs.Ytefbkpggmmhgcaa
/- THE CELL 'sum', in the pinned program and in every row, IS THE sha256 OF THE DUMP (.gsa) THAT YtefbkpggmmhgcaaProg.lean LOADS. Nothing in Lean hashes anything: it is a label: what it is worth is what the hold of that sum in a sandbox is worth. -/
noncomputable def Try.pinned : Pinned := { name := "ytefbkpggmmhgcaa", sum := "2f2686ca019d8c97cdb489e15653486ca2eb27afcf452e4ad807856aedc7b89d", checked := Try.checked }
namespace Rows
def none {H : Type} : Left H := { results := [], args := [] }

/-- 'pedigreelaw07.WalWrites': WHATEVER THE INPUT: true; the input reads as it did. -/
def walWritesSpec : ChangeSpec := { name := "walWrites", fn := fun _ => fun
  | [d] => { results := [.lit (.bool true)], args := [d] }
  | _ => none }
def walWritesRow : OpenClaim := { program := "ytefbkpggmmhgcaa", sum := "2f2686ca019d8c97cdb489e15653486ca2eb27afcf452e4ad807856aedc7b89d", func := "pedigree/pedigreelaw07.WalWrites", spec := "walWrites", unfollowed := true, recurses := true, apart := false }
def WalWritesSaid : Prop := walWritesRow.holds Try.pinned (OpenSpec.ofChange walWritesSpec)

/-- ITS FALSE NEIGHBOUR: 'it returns false'. Refute it at one input. -/
def walWritesWrong : ChangeSpec := { name := "walWrites", fn := fun _ => fun
  | [d] => { results := [.lit (.bool false)], args := [d] }
  | _ => none }
def WalWritesWrongFalsely : Prop := walWritesRow.holds Try.pinned (OpenSpec.ofChange walWritesWrong)

/-- 'pedigreelaw07.WalTurned': WHATEVER THE INPUT: true; the input reads as it did. -/
def walTurnedSpec : ChangeSpec := { name := "walTurned", fn := fun _ => fun
  | [d1, d2, d3, d4] => { results := [.lit (.bool true)], args := [d1, d2, d3, d4] }
  | _ => none }
def walTurnedRow : OpenClaim := { program := "ytefbkpggmmhgcaa", sum := "2f2686ca019d8c97cdb489e15653486ca2eb27afcf452e4ad807856aedc7b89d", func := "pedigree/pedigreelaw07.WalTurned", spec := "walTurned", unfollowed := true, recurses := true, apart := false }
def WalTurnedSaid : Prop := walTurnedRow.holds Try.pinned (OpenSpec.ofChange walTurnedSpec)

/-- ITS FALSE NEIGHBOUR: 'it returns false'. Refute it at one input. -/
def walTurnedWrong : ChangeSpec := { name := "walTurned", fn := fun _ => fun
  | [d1, d2, d3, d4] => { results := [.lit (.bool false)], args := [d1, d2, d3, d4] }
  | _ => none }
def WalTurnedWrongFalsely : Prop := walTurnedRow.holds Try.pinned (OpenSpec.ofChange walTurnedWrong)

/-- 'pedigreelaw07.WalGroups': WHATEVER THE INPUT: true; the input reads as it did. -/
def walGroupsSpec : ChangeSpec := { name := "walGroups", fn := fun _ => fun
  | [d1, d2, d3] => { results := [.lit (.bool true)], args := [d1, d2, d3] }
  | _ => none }
def walGroupsRow : OpenClaim := { program := "ytefbkpggmmhgcaa", sum := "2f2686ca019d8c97cdb489e15653486ca2eb27afcf452e4ad807856aedc7b89d", func := "pedigree/pedigreelaw07.WalGroups", spec := "walGroups", unfollowed := true, recurses := true, apart := false }
def WalGroupsSaid : Prop := walGroupsRow.holds Try.pinned (OpenSpec.ofChange walGroupsSpec)

/-- ITS FALSE NEIGHBOUR: 'it returns false'. Refute it at one input. -/
def walGroupsWrong : ChangeSpec := { name := "walGroups", fn := fun _ => fun
  | [d1, d2, d3] => { results := [.lit (.bool false)], args := [d1, d2, d3] }
  | _ => none }
def WalGroupsWrongFalsely : Prop := walGroupsRow.holds Try.pinned (OpenSpec.ofChange walGroupsWrong)

/-- 'pedigreelaw07.WalRecovers': WHATEVER THE INPUT: true; the input reads as it did. -/
def walRecoversSpec : ChangeSpec := { name := "walRecovers", fn := fun _ => fun
  | [d1, d2, d3, d4, d5] => { results := [.lit (.bool true)], args := [d1, d2, d3, d4, d5] }
  | _ => none }
def walRecoversRow : OpenClaim := { program := "ytefbkpggmmhgcaa", sum := "2f2686ca019d8c97cdb489e15653486ca2eb27afcf452e4ad807856aedc7b89d", func := "pedigree/pedigreelaw07.WalRecovers", spec := "walRecovers", unfollowed := true, recurses := true, apart := false }
def WalRecoversSaid : Prop := walRecoversRow.holds Try.pinned (OpenSpec.ofChange walRecoversSpec)

/-- ITS FALSE NEIGHBOUR: 'it returns false'. Refute it at one input. -/
def walRecoversWrong : ChangeSpec := { name := "walRecovers", fn := fun _ => fun
  | [d1, d2, d3, d4, d5] => { results := [.lit (.bool false)], args := [d1, d2, d3, d4, d5] }
  | _ => none }
def WalRecoversWrongFalsely : Prop := walRecoversRow.holds Try.pinned (OpenSpec.ofChange walRecoversWrong)

/-- 'pedigreelaw07.WalWhole': WHATEVER THE INPUT: true; the input reads as it did. -/
def walWholeSpec : ChangeSpec := { name := "walWhole", fn := fun _ => fun
  | [d1, d2, d3, d4] => { results := [.lit (.bool true)], args := [d1, d2, d3, d4] }
  | _ => none }
def walWholeRow : OpenClaim := { program := "ytefbkpggmmhgcaa", sum := "2f2686ca019d8c97cdb489e15653486ca2eb27afcf452e4ad807856aedc7b89d", func := "pedigree/pedigreelaw07.WalWhole", spec := "walWhole", unfollowed := true, recurses := true, apart := false }
def WalWholeSaid : Prop := walWholeRow.holds Try.pinned (OpenSpec.ofChange walWholeSpec)

/-- ITS FALSE NEIGHBOUR: 'it returns false'. Refute it at one input. -/
def walWholeWrong : ChangeSpec := { name := "walWhole", fn := fun _ => fun
  | [d1, d2, d3, d4] => { results := [.lit (.bool false)], args := [d1, d2, d3, d4] }
  | _ => none }
def WalWholeWrongFalsely : Prop := walWholeRow.holds Try.pinned (OpenSpec.ofChange walWholeWrong)

/- THE SECOND FORM. 'bulk': how many values and letters a reading holds, each counted each time it is reached (what is shared counts as often as it is met; a slice's spare places count too). A statement '..UptoSaid' is the law's where the arguments, and the package variables that the reading takes, are together of bulk at most 1048576: NARROWER than '..Said'. Prove '..Said' where nothing that the law and all that it calls make is longer than what came in: it says more and counts as full. Else prove '..UptoSaid'. A law counts once. -/
mutual
def uptoBulk {H : Type} : DataW H → Nat
  | .lit (.string bytes) => bytes.length + 1
  | .lit _ => 1
  | .nil => 1
  | .ptr d => uptoBulk d + 1
  | .slice elems spare => uptoBulkAll elems + uptoBulkAll spare + 1
  | .agg parts => uptoBulkAll parts + 1
  | .iface _ d => uptoBulk d + 1
  | .map entries => uptoBulkEntries entries + 1
  | .held _ => 1
def uptoBulkAll {H : Type} : List (DataW H) → Nat
  | [] => 0
  | d :: r => uptoBulk d + uptoBulkAll r
def uptoBulkEntries {H : Type} : List (Lit × DataW H) → Nat
  | [] => 0
  | x :: r => uptoBulkEntry x + uptoBulkEntries r
def uptoBulkEntry {H : Type} : Lit × DataW H → Nat
  | (.string bytes, d) => bytes.length + uptoBulk d + 1
  | (_, d) => uptoBulk d + 1
 end
def uptoSmall : (H : Type) → List (DataW H) → Bool := fun _ ds => decide (uptoBulkAll ds ≤ 1048576)
def OpenSpec.upto (s : _root_.Go.ChangeSpec) : _root_.Go.OpenSpec := { _root_.Go.OpenSpec.ofChange s with cond := some uptoSmall }

/-- 'pedigreelaw07.WalWrites', WHERE WHAT IT READS IS OF BULK AT MOST 1048576: true; the input reads as it did. -/
def walWritesUptoRow : OpenClaim := { program := "ytefbkpggmmhgcaa", sum := "2f2686ca019d8c97cdb489e15653486ca2eb27afcf452e4ad807856aedc7b89d", func := "pedigree/pedigreelaw07.WalWrites", spec := "walWrites", unfollowed := true, recurses := true, apart := false, narrowed := true }
def WalWritesUptoSaid : Prop := walWritesUptoRow.holds Try.pinned (OpenSpec.upto walWritesSpec)

/-- 'pedigreelaw07.WalTurned', WHERE WHAT IT READS IS OF BULK AT MOST 1048576: true; the input reads as it did. -/
def walTurnedUptoRow : OpenClaim := { program := "ytefbkpggmmhgcaa", sum := "2f2686ca019d8c97cdb489e15653486ca2eb27afcf452e4ad807856aedc7b89d", func := "pedigree/pedigreelaw07.WalTurned", spec := "walTurned", unfollowed := true, recurses := true, apart := false, narrowed := true }
def WalTurnedUptoSaid : Prop := walTurnedUptoRow.holds Try.pinned (OpenSpec.upto walTurnedSpec)

/-- 'pedigreelaw07.WalGroups', WHERE WHAT IT READS IS OF BULK AT MOST 1048576: true; the input reads as it did. -/
def walGroupsUptoRow : OpenClaim := { program := "ytefbkpggmmhgcaa", sum := "2f2686ca019d8c97cdb489e15653486ca2eb27afcf452e4ad807856aedc7b89d", func := "pedigree/pedigreelaw07.WalGroups", spec := "walGroups", unfollowed := true, recurses := true, apart := false, narrowed := true }
def WalGroupsUptoSaid : Prop := walGroupsUptoRow.holds Try.pinned (OpenSpec.upto walGroupsSpec)

/-- 'pedigreelaw07.WalRecovers', WHERE WHAT IT READS IS OF BULK AT MOST 1048576: true; the input reads as it did. -/
def walRecoversUptoRow : OpenClaim := { program := "ytefbkpggmmhgcaa", sum := "2f2686ca019d8c97cdb489e15653486ca2eb27afcf452e4ad807856aedc7b89d", func := "pedigree/pedigreelaw07.WalRecovers", spec := "walRecovers", unfollowed := true, recurses := true, apart := false, narrowed := true }
def WalRecoversUptoSaid : Prop := walRecoversUptoRow.holds Try.pinned (OpenSpec.upto walRecoversSpec)

/-- 'pedigreelaw07.WalWhole', WHERE WHAT IT READS IS OF BULK AT MOST 1048576: true; the input reads as it did. -/
def walWholeUptoRow : OpenClaim := { program := "ytefbkpggmmhgcaa", sum := "2f2686ca019d8c97cdb489e15653486ca2eb27afcf452e4ad807856aedc7b89d", func := "pedigree/pedigreelaw07.WalWhole", spec := "walWhole", unfollowed := true, recurses := true, apart := false, narrowed := true }
def WalWholeUptoSaid : Prop := walWholeUptoRow.holds Try.pinned (OpenSpec.upto walWholeSpec)

end Rows
end Go.Proofs.Ytefbkpggmmhgcaa
