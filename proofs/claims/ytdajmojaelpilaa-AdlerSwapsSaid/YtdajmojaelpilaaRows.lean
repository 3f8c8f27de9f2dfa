/-
  No cell of these rows narrows 'for every input' (looked for: loops, veiled, ifaces, maps, wideKeys, modest, calm, conditions, laid).
  DERIVED. THE GIVEN ROWS OF THIS SEAT. 6 by the template 'for every input the law returns true; each argument reads behind the call as it read before'; 0 by the template 'total and deterministic' (their statements: YtdajmojaelpilaaTotals.lean).
  GIVEN WITH THE SEED: the statements are not yours to turn. If you find one false, say at which input.
  Laid BY PROGRAM, IN A SANDBOX (cutbox-rows.mjs): the forced cells as the released guide's own fill.sh prints them over the translation 75c994770563b291… (all of the seat's roots in one cut). By AI agents, Wed Nov 11 2026. No macro, syntax, notation, axiom, sorry.
-/
import Derived.Test.YtdajmojaelpilaaChecked
import GoSem.Claim
import GoSem.ClaimJoined
import GoSem.ClaimMapViews
import Derived.JoinedTies
import Derived.KernelRfl
namespace Go.Proofs.Ytdajmojaelpilaa
/- THE CELL 'sum', in the pinned program and in every row, IS THE sha256 OF THE DUMP (.gsa) THAT YtdajmojaelpilaaProg.lean LOADS. Nothing in Lean hashes anything: it is a label: what it is worth is what the hold of that sum in a sandbox is worth. -/
noncomputable def Try.pinned : Pinned := { name := "ytdajmojaelpilaa", sum := "75c994770563b2915984039002e4948723720bc5e38d6bb5bbe183dd233aac96", checked := Try.checked }
namespace Rows
def none {H : Type} : Left H := { results := [], args := [] }

/-- 'pedigreelaw03.AdlerOf': WHATEVER THE INPUT: true; the input reads as it did. -/
def adlerOfSpec : ChangeSpec := { name := "adlerOf", fn := fun _ => fun
  | [d1, d2] => { results := [.lit (.bool true)], args := [d1, d2] }
  | _ => none }
def adlerOfRow : OpenClaim := { program := "ytdajmojaelpilaa", sum := "75c994770563b2915984039002e4948723720bc5e38d6bb5bbe183dd233aac96", func := "pedigree/pedigreelaw03.AdlerOf", spec := "adlerOf", apart := false }
def AdlerOfSaid : Prop := adlerOfRow.holds Try.pinned (OpenSpec.ofChange adlerOfSpec)

/-- ITS FALSE NEIGHBOUR: 'it returns false'. Refute it at one input. -/
def adlerOfWrong : ChangeSpec := { name := "adlerOf", fn := fun _ => fun
  | [d1, d2] => { results := [.lit (.bool false)], args := [d1, d2] }
  | _ => none }
def AdlerOfWrongFalsely : Prop := adlerOfRow.holds Try.pinned (OpenSpec.ofChange adlerOfWrong)

/-- 'pedigreelaw03.AdlerOne': WHATEVER THE INPUT: true; the input reads as it did. -/
def adlerOneSpec : ChangeSpec := { name := "adlerOne", fn := fun _ => fun
  | [d1, d2, d3] => { results := [.lit (.bool true)], args := [d1, d2, d3] }
  | _ => none }
def adlerOneRow : OpenClaim := { program := "ytdajmojaelpilaa", sum := "75c994770563b2915984039002e4948723720bc5e38d6bb5bbe183dd233aac96", func := "pedigree/pedigreelaw03.AdlerOne", spec := "adlerOne", apart := false }
def AdlerOneSaid : Prop := adlerOneRow.holds Try.pinned (OpenSpec.ofChange adlerOneSpec)

/-- ITS FALSE NEIGHBOUR: 'it returns false'. Refute it at one input. -/
def adlerOneWrong : ChangeSpec := { name := "adlerOne", fn := fun _ => fun
  | [d1, d2, d3] => { results := [.lit (.bool false)], args := [d1, d2, d3] }
  | _ => none }
def AdlerOneWrongFalsely : Prop := adlerOneRow.holds Try.pinned (OpenSpec.ofChange adlerOneWrong)

/-- 'pedigreelaw03.AdlerBytes': WHATEVER THE INPUT: true; the input reads as it did. -/
def adlerBytesSpec : ChangeSpec := { name := "adlerBytes", fn := fun _ => fun
  | [d] => { results := [.lit (.bool true)], args := [d] }
  | _ => none }
def adlerBytesRow : OpenClaim := { program := "ytdajmojaelpilaa", sum := "75c994770563b2915984039002e4948723720bc5e38d6bb5bbe183dd233aac96", func := "pedigree/pedigreelaw03.AdlerBytes", spec := "adlerBytes", apart := false }
def AdlerBytesSaid : Prop := adlerBytesRow.holds Try.pinned (OpenSpec.ofChange adlerBytesSpec)

/-- ITS FALSE NEIGHBOUR: 'it returns false'. Refute it at one input. -/
def adlerBytesWrong : ChangeSpec := { name := "adlerBytes", fn := fun _ => fun
  | [d] => { results := [.lit (.bool false)], args := [d] }
  | _ => none }
def AdlerBytesWrongFalsely : Prop := adlerBytesRow.holds Try.pinned (OpenSpec.ofChange adlerBytesWrong)

/-- 'pedigreelaw03.AdlerSwaps': WHATEVER THE INPUT: true; the input reads as it did. -/
def adlerSwapsSpec : ChangeSpec := { name := "adlerSwaps", fn := fun _ => fun
  | [d1, d2] => { results := [.lit (.bool true)], args := [d1, d2] }
  | _ => none }
def adlerSwapsRow : OpenClaim := { program := "ytdajmojaelpilaa", sum := "75c994770563b2915984039002e4948723720bc5e38d6bb5bbe183dd233aac96", func := "pedigree/pedigreelaw03.AdlerSwaps", spec := "adlerSwaps", apart := false }
def AdlerSwapsSaid : Prop := adlerSwapsRow.holds Try.pinned (OpenSpec.ofChange adlerSwapsSpec)

/-- ITS FALSE NEIGHBOUR: 'it returns false'. Refute it at one input. -/
def adlerSwapsWrong : ChangeSpec := { name := "adlerSwaps", fn := fun _ => fun
  | [d1, d2] => { results := [.lit (.bool false)], args := [d1, d2] }
  | _ => none }
def AdlerSwapsWrongFalsely : Prop := adlerSwapsRow.holds Try.pinned (OpenSpec.ofChange adlerSwapsWrong)

/-- 'pedigreelaw03.AdlerParts': WHATEVER THE INPUT: true; the input reads as it did. -/
def adlerPartsSpec : ChangeSpec := { name := "adlerParts", fn := fun _ => fun
  | [d1, d2] => { results := [.lit (.bool true)], args := [d1, d2] }
  | _ => none }
def adlerPartsRow : OpenClaim := { program := "ytdajmojaelpilaa", sum := "75c994770563b2915984039002e4948723720bc5e38d6bb5bbe183dd233aac96", func := "pedigree/pedigreelaw03.AdlerParts", spec := "adlerParts", apart := false }
def AdlerPartsSaid : Prop := adlerPartsRow.holds Try.pinned (OpenSpec.ofChange adlerPartsSpec)

/-- ITS FALSE NEIGHBOUR: 'it returns false'. Refute it at one input. -/
def adlerPartsWrong : ChangeSpec := { name := "adlerParts", fn := fun _ => fun
  | [d1, d2] => { results := [.lit (.bool false)], args := [d1, d2] }
  | _ => none }
def AdlerPartsWrongFalsely : Prop := adlerPartsRow.holds Try.pinned (OpenSpec.ofChange adlerPartsWrong)

/-- 'pedigreelaw03.AdlerThree': WHATEVER THE INPUT: true; the input reads as it did. -/
def adlerThreeSpec : ChangeSpec := { name := "adlerThree", fn := fun _ => fun
  | [d1, d2, d3] => { results := [.lit (.bool true)], args := [d1, d2, d3] }
  | _ => none }
def adlerThreeRow : OpenClaim := { program := "ytdajmojaelpilaa", sum := "75c994770563b2915984039002e4948723720bc5e38d6bb5bbe183dd233aac96", func := "pedigree/pedigreelaw03.AdlerThree", spec := "adlerThree", apart := false }
def AdlerThreeSaid : Prop := adlerThreeRow.holds Try.pinned (OpenSpec.ofChange adlerThreeSpec)

/-- ITS FALSE NEIGHBOUR: 'it returns false'. Refute it at one input. -/
def adlerThreeWrong : ChangeSpec := { name := "adlerThree", fn := fun _ => fun
  | [d1, d2, d3] => { results := [.lit (.bool false)], args := [d1, d2, d3] }
  | _ => none }
def AdlerThreeWrongFalsely : Prop := adlerThreeRow.holds Try.pinned (OpenSpec.ofChange adlerThreeWrong)

/- THE SECOND FORM. 'bulk': how many values and letters a reading holds, each counted each time it is reached (what is shared counts as often as it is met; a slice's spare places count too). A statement '..UptoSaid' is the law's where the arguments, and the package variables that the reading takes, are together of bulk at most 1048576: NARROWER than '..Said'. Prove '..Said' where nothing that the law and all that it calls make is longer than what came in: it says more and counts as full. Else prove '..UptoSaid'. A law counts once. -/
mutual
def uptoBulk {H : Type} : DataW H → Nat
  | .lit (.string bytes) => bytes.length + 1
  | .lit _ => 1
  | .nil => 1
  | .ptr d => uptoBulk d + 1
  | .slice elems spare => uptoBulkAll elems + uptoBulkAll spare + 1
  | .agg parts => uptoBulkAll parts + 1
  | .iface _ d => uptoBulk d + 1
  | .map entries => uptoBulkEntries entries + 1
  | .held _ => 1
def uptoBulkAll {H : Type} : List (DataW H) → Nat
  | [] => 0
  | d :: r => uptoBulk d + uptoBulkAll r
def uptoBulkEntries {H : Type} : List (Lit × DataW H) → Nat
  | [] => 0
  | x :: r => uptoBulkEntry x + uptoBulkEntries r
def uptoBulkEntry {H : Type} : Lit × DataW H → Nat
  | (.string bytes, d) => bytes.length + uptoBulk d + 1
  | (_, d) => uptoBulk d + 1
 end
def uptoSmall : (H : Type) → List (DataW H) → Bool := fun _ ds => decide (uptoBulkAll ds ≤ 1048576)
def OpenSpec.upto (s : _root_.Go.ChangeSpec) : _root_.Go.OpenSpec := { _root_.Go.OpenSpec.ofChange s with cond := some uptoSmall }

/-- 'pedigreelaw03.AdlerOf', WHERE WHAT IT READS IS OF BULK AT MOST 1048576: true; the input reads as it did. -/
def adlerOfUptoRow : OpenClaim := { program := "ytdajmojaelpilaa", sum := "75c994770563b2915984039002e4948723720bc5e38d6bb5bbe183dd233aac96", func := "pedigree/pedigreelaw03.AdlerOf", spec := "adlerOf", apart := false, narrowed := true }
def AdlerOfUptoSaid : Prop := adlerOfUptoRow.holds Try.pinned (OpenSpec.upto adlerOfSpec)

/-- 'pedigreelaw03.AdlerOne', WHERE WHAT IT READS IS OF BULK AT MOST 1048576: true; the input reads as it did. -/
def adlerOneUptoRow : OpenClaim := { program := "ytdajmojaelpilaa", sum := "75c994770563b2915984039002e4948723720bc5e38d6bb5bbe183dd233aac96", func := "pedigree/pedigreelaw03.AdlerOne", spec := "adlerOne", apart := false, narrowed := true }
def AdlerOneUptoSaid : Prop := adlerOneUptoRow.holds Try.pinned (OpenSpec.upto adlerOneSpec)

/-- 'pedigreelaw03.AdlerBytes', WHERE WHAT IT READS IS OF BULK AT MOST 1048576: true; the input reads as it did. -/
def adlerBytesUptoRow : OpenClaim := { program := "ytdajmojaelpilaa", sum := "75c994770563b2915984039002e4948723720bc5e38d6bb5bbe183dd233aac96", func := "pedigree/pedigreelaw03.AdlerBytes", spec := "adlerBytes", apart := false, narrowed := true }
def AdlerBytesUptoSaid : Prop := adlerBytesUptoRow.holds Try.pinned (OpenSpec.upto adlerBytesSpec)

/-- 'pedigreelaw03.AdlerSwaps', WHERE WHAT IT READS IS OF BULK AT MOST 1048576: true; the input reads as it did. -/
def adlerSwapsUptoRow : OpenClaim := { program := "ytdajmojaelpilaa", sum := "75c994770563b2915984039002e4948723720bc5e38d6bb5bbe183dd233aac96", func := "pedigree/pedigreelaw03.AdlerSwaps", spec := "adlerSwaps", apart := false, narrowed := true }
def AdlerSwapsUptoSaid : Prop := adlerSwapsUptoRow.holds Try.pinned (OpenSpec.upto adlerSwapsSpec)

/-- 'pedigreelaw03.AdlerParts', WHERE WHAT IT READS IS OF BULK AT MOST 1048576: true; the input reads as it did. -/
def adlerPartsUptoRow : OpenClaim := { program := "ytdajmojaelpilaa", sum := "75c994770563b2915984039002e4948723720bc5e38d6bb5bbe183dd233aac96", func := "pedigree/pedigreelaw03.AdlerParts", spec := "adlerParts", apart := false, narrowed := true }
def AdlerPartsUptoSaid : Prop := adlerPartsUptoRow.holds Try.pinned (OpenSpec.upto adlerPartsSpec)

/-- 'pedigreelaw03.AdlerThree', WHERE WHAT IT READS IS OF BULK AT MOST 1048576: true; the input reads as it did. -/
def adlerThreeUptoRow : OpenClaim := { program := "ytdajmojaelpilaa", sum := "75c994770563b2915984039002e4948723720bc5e38d6bb5bbe183dd233aac96", func := "pedigree/pedigreelaw03.AdlerThree", spec := "adlerThree", apart := false, narrowed := true }
def AdlerThreeUptoSaid : Prop := adlerThreeUptoRow.holds Try.pinned (OpenSpec.upto adlerThreeSpec)

end Rows
end Go.Proofs.Ytdajmojaelpilaa
