/-
  NARROWER THAN 'FOR EVERY INPUT', by the rows' own cells (each row's printed sentence says how): QueryMore: loops · QueryLists: loops.
  DERIVED. THE GIVEN ROWS OF THIS SEAT. 7 by the template 'for every input the law returns true; each argument reads behind the call as it read before'; 0 by the template 'total and deterministic' (their statements: YtpnbdnfgdiakhaaTotals.lean).
  GIVEN WITH THE SEED: the statements are not yours to turn. If you find one false, say at which input.
  Laid BY PROGRAM, IN A SANDBOX (cutbox-rows.mjs): the forced cells as the released guide's own fill.sh prints them over the translation 85655ee6cc450672… (all of the seat's roots in one cut). By AI agents, Wed Nov 11 2026. No macro, syntax, notation, axiom, sorry.
-/
import Derived.Test.YtpnbdnfgdiakhaaChecked
import GoSem.Claim
import GoSem.ClaimJoined
import GoSem.ClaimMapViews
import Derived.JoinedTies
import Derived.KernelRfl
namespace Go.Proofs.Ytpnbdnfgdiakhaa
/- THE CELL 'sum', in the pinned program and in every row, IS THE sha256 OF THE DUMP (.gsa) THAT YtpnbdnfgdiakhaaProg.lean LOADS. Nothing in Lean hashes anything: it is a label: what it is worth is what the hold of that sum in a sandbox is worth. -/
noncomputable def Try.pinned : Pinned := { name := "ytpnbdnfgdiakhaa", sum := "85655ee6cc450672e81d78dcc30d5b2590cfb448a63ebb0be05486d38a0729a5", checked := Try.checked }
namespace Rows
def none {H : Type} : Left H := { results := [], args := [] }

/-- 'pedigreelaw20.QueryMost': WHATEVER THE INPUT: true; the input reads as it did. -/
def queryMostSpec : ChangeSpec := { name := "queryMost", fn := fun _ => fun
  | [d] => { results := [.lit (.bool true)], args := [d] }
  | _ => none }
def queryMostRow : OpenClaim := { program := "ytpnbdnfgdiakhaa", sum := "85655ee6cc450672e81d78dcc30d5b2590cfb448a63ebb0be05486d38a0729a5", func := "pedigree/pedigreelaw20.QueryMost", spec := "queryMost", inPlace := ["slices.overlaps[int]"], unfollowed := true, recurses := true, plainKeys := false, apart := false }
def QueryMostSaid : Prop := queryMostRow.holds Try.pinned (OpenSpec.ofChange queryMostSpec)

/-- ITS FALSE NEIGHBOUR: 'it returns false'. Refute it at one input. -/
def queryMostWrong : ChangeSpec := { name := "queryMost", fn := fun _ => fun
  | [d] => { results := [.lit (.bool false)], args := [d] }
  | _ => none }
def QueryMostWrongFalsely : Prop := queryMostRow.holds Try.pinned (OpenSpec.ofChange queryMostWrong)

/-- 'pedigreelaw20.QueryWays': WHATEVER THE INPUT: true; the input reads as it did. -/
def queryWaysSpec : ChangeSpec := { name := "queryWays", fn := fun _ => fun
  | [d1, d2, d3, d4] => { results := [.lit (.bool true)], args := [d1, d2, d3, d4] }
  | _ => none }
def queryWaysRow : OpenClaim := { program := "ytpnbdnfgdiakhaa", sum := "85655ee6cc450672e81d78dcc30d5b2590cfb448a63ebb0be05486d38a0729a5", func := "pedigree/pedigreelaw20.QueryWays", spec := "queryWays", inPlace := ["slices.overlaps[int]"], unfollowed := true, recurses := true, plainKeys := false, apart := false }
def QueryWaysSaid : Prop := queryWaysRow.holds Try.pinned (OpenSpec.ofChange queryWaysSpec)

/-- ITS FALSE NEIGHBOUR: 'it returns false'. Refute it at one input. -/
def queryWaysWrong : ChangeSpec := { name := "queryWays", fn := fun _ => fun
  | [d1, d2, d3, d4] => { results := [.lit (.bool false)], args := [d1, d2, d3, d4] }
  | _ => none }
def QueryWaysWrongFalsely : Prop := queryWaysRow.holds Try.pinned (OpenSpec.ofChange queryWaysWrong)

/-- 'pedigreelaw20.QuerySteps': WHATEVER THE INPUT: true; the input reads as it did. -/
def queryStepsSpec : ChangeSpec := { name := "querySteps", fn := fun _ => fun
  | [d1, d2, d3] => { results := [.lit (.bool true)], args := [d1, d2, d3] }
  | _ => none }
def queryStepsRow : OpenClaim := { program := "ytpnbdnfgdiakhaa", sum := "85655ee6cc450672e81d78dcc30d5b2590cfb448a63ebb0be05486d38a0729a5", func := "pedigree/pedigreelaw20.QuerySteps", spec := "querySteps", inPlace := ["slices.overlaps[int]"], unfollowed := true, recurses := true, plainKeys := false, apart := false }
def QueryStepsSaid : Prop := queryStepsRow.holds Try.pinned (OpenSpec.ofChange queryStepsSpec)

/-- ITS FALSE NEIGHBOUR: 'it returns false'. Refute it at one input. -/
def queryStepsWrong : ChangeSpec := { name := "querySteps", fn := fun _ => fun
  | [d1, d2, d3] => { results := [.lit (.bool false)], args := [d1, d2, d3] }
  | _ => none }
def QueryStepsWrongFalsely : Prop := queryStepsRow.holds Try.pinned (OpenSpec.ofChange queryStepsWrong)

/-- 'pedigreelaw20.QueryWaysGo': WHATEVER THE INPUT: true; the input reads as it did. -/
def queryWaysGoSpec : ChangeSpec := { name := "queryWaysGo", fn := fun _ => fun
  | [d1, d2, d3] => { results := [.lit (.bool true)], args := [d1, d2, d3] }
  | _ => none }
def queryWaysGoRow : OpenClaim := { program := "ytpnbdnfgdiakhaa", sum := "85655ee6cc450672e81d78dcc30d5b2590cfb448a63ebb0be05486d38a0729a5", func := "pedigree/pedigreelaw20.QueryWaysGo", spec := "queryWaysGo", inPlace := ["slices.overlaps[int]"], unfollowed := true, recurses := true, plainKeys := false, apart := false }
def QueryWaysGoSaid : Prop := queryWaysGoRow.holds Try.pinned (OpenSpec.ofChange queryWaysGoSpec)

/-- ITS FALSE NEIGHBOUR: 'it returns false'. Refute it at one input. -/
def queryWaysGoWrong : ChangeSpec := { name := "queryWaysGo", fn := fun _ => fun
  | [d1, d2, d3] => { results := [.lit (.bool false)], args := [d1, d2, d3] }
  | _ => none }
def QueryWaysGoWrongFalsely : Prop := queryWaysGoRow.holds Try.pinned (OpenSpec.ofChange queryWaysGoWrong)

/-- 'pedigreelaw20.QueryMore': WHATEVER THE INPUT: true; the input reads as it did. -/
def queryMoreSpec : ChangeSpec := { name := "queryMore", fn := fun _ => fun
  | [d1, d2, d3, d4] => { results := [.lit (.bool true)], args := [d1, d2, d3, d4] }
  | _ => none }
def queryMoreRow : OpenClaim := { program := "ytpnbdnfgdiakhaa", sum := "85655ee6cc450672e81d78dcc30d5b2590cfb448a63ebb0be05486d38a0729a5", func := "pedigree/pedigreelaw20.QueryMore", spec := "queryMore", inPlace := ["slices.overlaps[int]"], unfollowed := true, recurses := true, loops := true, plainKeys := false, apart := false }
def QueryMoreSaid : Prop := queryMoreRow.holds Try.pinned (OpenSpec.ofChange queryMoreSpec)

/-- ITS FALSE NEIGHBOUR: 'it returns false'. Refute it at one input. -/
def queryMoreWrong : ChangeSpec := { name := "queryMore", fn := fun _ => fun
  | [d1, d2, d3, d4] => { results := [.lit (.bool false)], args := [d1, d2, d3, d4] }
  | _ => none }
def QueryMoreWrongFalsely : Prop := queryMoreRow.holds Try.pinned (OpenSpec.ofChange queryMoreWrong)

/-- 'pedigreelaw20.QueryKinds': WHATEVER THE INPUT: true; the input reads as it did. -/
def queryKindsSpec : ChangeSpec := { name := "queryKinds", fn := fun _ => fun
  | [d] => { results := [.lit (.bool true)], args := [d] }
  | _ => none }
def queryKindsRow : OpenClaim := { program := "ytpnbdnfgdiakhaa", sum := "85655ee6cc450672e81d78dcc30d5b2590cfb448a63ebb0be05486d38a0729a5", func := "pedigree/pedigreelaw20.QueryKinds", spec := "queryKinds", inPlace := ["slices.overlaps[int]"], unfollowed := true, recurses := true, plainKeys := false, apart := false }
def QueryKindsSaid : Prop := queryKindsRow.holds Try.pinned (OpenSpec.ofChange queryKindsSpec)

/-- ITS FALSE NEIGHBOUR: 'it returns false'. Refute it at one input. -/
def queryKindsWrong : ChangeSpec := { name := "queryKinds", fn := fun _ => fun
  | [d] => { results := [.lit (.bool false)], args := [d] }
  | _ => none }
def QueryKindsWrongFalsely : Prop := queryKindsRow.holds Try.pinned (OpenSpec.ofChange queryKindsWrong)

/-- 'pedigreelaw20.QueryLists': WHATEVER THE INPUT: true; the input reads as it did. -/
def queryListsSpec : ChangeSpec := { name := "queryLists", fn := fun _ => fun
  | [d1, d2, d3, d4] => { results := [.lit (.bool true)], args := [d1, d2, d3, d4] }
  | _ => none }
def queryListsRow : OpenClaim := { program := "ytpnbdnfgdiakhaa", sum := "85655ee6cc450672e81d78dcc30d5b2590cfb448a63ebb0be05486d38a0729a5", func := "pedigree/pedigreelaw20.QueryLists", spec := "queryLists", inPlace := ["slices.overlaps[int]"], unfollowed := true, recurses := true, loops := true, plainKeys := false, apart := false }
def QueryListsSaid : Prop := queryListsRow.holds Try.pinned (OpenSpec.ofChange queryListsSpec)

/-- ITS FALSE NEIGHBOUR: 'it returns false'. Refute it at one input. -/
def queryListsWrong : ChangeSpec := { name := "queryLists", fn := fun _ => fun
  | [d1, d2, d3, d4] => { results := [.lit (.bool false)], args := [d1, d2, d3, d4] }
  | _ => none }
def QueryListsWrongFalsely : Prop := queryListsRow.holds Try.pinned (OpenSpec.ofChange queryListsWrong)

/- THE SECOND FORM. 'bulk': how many values and letters a reading holds, each counted each time it is reached (what is shared counts as often as it is met; a slice's spare places count too). A statement '..UptoSaid' is the law's where the arguments, and the package variables that the reading takes, are together of bulk at most 1048576: NARROWER than '..Said'. Prove '..Said' where nothing that the law and all that it calls make is longer than what came in: it says more and counts as full. Else prove '..UptoSaid'. A law counts once. -/
mutual
def uptoBulk {H : Type} : DataW H → Nat
  | .lit (.string bytes) => bytes.length + 1
  | .lit _ => 1
  | .nil => 1
  | .ptr d => uptoBulk d + 1
  | .slice elems spare => uptoBulkAll elems + uptoBulkAll spare + 1
  | .agg parts => uptoBulkAll parts + 1
  | .iface _ d => uptoBulk d + 1
  | .map entries => uptoBulkEntries entries + 1
  | .held _ => 1
def uptoBulkAll {H : Type} : List (DataW H) → Nat
  | [] => 0
  | d :: r => uptoBulk d + uptoBulkAll r
def uptoBulkEntries {H : Type} : List (Lit × DataW H) → Nat
  | [] => 0
  | x :: r => uptoBulkEntry x + uptoBulkEntries r
def uptoBulkEntry {H : Type} : Lit × DataW H → Nat
  | (.string bytes, d) => bytes.length + uptoBulk d + 1
  | (_, d) => uptoBulk d + 1
 end
def uptoSmall : (H : Type) → List (DataW H) → Bool := fun _ ds => decide (uptoBulkAll ds ≤ 1048576)
def OpenSpec.upto (s : _root_.Go.ChangeSpec) : _root_.Go.OpenSpec := { _root_.Go.OpenSpec.ofChange s with cond := some uptoSmall }

/-- 'pedigreelaw20.QueryMost', WHERE WHAT IT READS IS OF BULK AT MOST 1048576: true; the input reads as it did. -/
def queryMostUptoRow : OpenClaim := { program := "ytpnbdnfgdiakhaa", sum := "85655ee6cc450672e81d78dcc30d5b2590cfb448a63ebb0be05486d38a0729a5", func := "pedigree/pedigreelaw20.QueryMost", spec := "queryMost", inPlace := ["slices.overlaps[int]"], unfollowed := true, recurses := true, plainKeys := false, apart := false, narrowed := true }
def QueryMostUptoSaid : Prop := queryMostUptoRow.holds Try.pinned (OpenSpec.upto queryMostSpec)

/-- 'pedigreelaw20.QueryWays', WHERE WHAT IT READS IS OF BULK AT MOST 1048576: true; the input reads as it did. -/
def queryWaysUptoRow : OpenClaim := { program := "ytpnbdnfgdiakhaa", sum := "85655ee6cc450672e81d78dcc30d5b2590cfb448a63ebb0be05486d38a0729a5", func := "pedigree/pedigreelaw20.QueryWays", spec := "queryWays", inPlace := ["slices.overlaps[int]"], unfollowed := true, recurses := true, plainKeys := false, apart := false, narrowed := true }
def QueryWaysUptoSaid : Prop := queryWaysUptoRow.holds Try.pinned (OpenSpec.upto queryWaysSpec)

/-- 'pedigreelaw20.QuerySteps', WHERE WHAT IT READS IS OF BULK AT MOST 1048576: true; the input reads as it did. -/
def queryStepsUptoRow : OpenClaim := { program := "ytpnbdnfgdiakhaa", sum := "85655ee6cc450672e81d78dcc30d5b2590cfb448a63ebb0be05486d38a0729a5", func := "pedigree/pedigreelaw20.QuerySteps", spec := "querySteps", inPlace := ["slices.overlaps[int]"], unfollowed := true, recurses := true, plainKeys := false, apart := false, narrowed := true }
def QueryStepsUptoSaid : Prop := queryStepsUptoRow.holds Try.pinned (OpenSpec.upto queryStepsSpec)

/-- 'pedigreelaw20.QueryWaysGo', WHERE WHAT IT READS IS OF BULK AT MOST 1048576: true; the input reads as it did. -/
def queryWaysGoUptoRow : OpenClaim := { program := "ytpnbdnfgdiakhaa", sum := "85655ee6cc450672e81d78dcc30d5b2590cfb448a63ebb0be05486d38a0729a5", func := "pedigree/pedigreelaw20.QueryWaysGo", spec := "queryWaysGo", inPlace := ["slices.overlaps[int]"], unfollowed := true, recurses := true, plainKeys := false, apart := false, narrowed := true }
def QueryWaysGoUptoSaid : Prop := queryWaysGoUptoRow.holds Try.pinned (OpenSpec.upto queryWaysGoSpec)

/-- 'pedigreelaw20.QueryMore', WHERE WHAT IT READS IS OF BULK AT MOST 1048576: true; the input reads as it did. -/
def queryMoreUptoRow : OpenClaim := { program := "ytpnbdnfgdiakhaa", sum := "85655ee6cc450672e81d78dcc30d5b2590cfb448a63ebb0be05486d38a0729a5", func := "pedigree/pedigreelaw20.QueryMore", spec := "queryMore", inPlace := ["slices.overlaps[int]"], unfollowed := true, recurses := true, loops := true, plainKeys := false, apart := false, narrowed := true }
def QueryMoreUptoSaid : Prop := queryMoreUptoRow.holds Try.pinned (OpenSpec.upto queryMoreSpec)

/-- 'pedigreelaw20.QueryKinds', WHERE WHAT IT READS IS OF BULK AT MOST 1048576: true; the input reads as it did. -/
def queryKindsUptoRow : OpenClaim := { program := "ytpnbdnfgdiakhaa", sum := "85655ee6cc450672e81d78dcc30d5b2590cfb448a63ebb0be05486d38a0729a5", func := "pedigree/pedigreelaw20.QueryKinds", spec := "queryKinds", inPlace := ["slices.overlaps[int]"], unfollowed := true, recurses := true, plainKeys := false, apart := false, narrowed := true }
def QueryKindsUptoSaid : Prop := queryKindsUptoRow.holds Try.pinned (OpenSpec.upto queryKindsSpec)

/-- 'pedigreelaw20.QueryLists', WHERE WHAT IT READS IS OF BULK AT MOST 1048576: true; the input reads as it did. -/
def queryListsUptoRow : OpenClaim := { program := "ytpnbdnfgdiakhaa", sum := "85655ee6cc450672e81d78dcc30d5b2590cfb448a63ebb0be05486d38a0729a5", func := "pedigree/pedigreelaw20.QueryLists", spec := "queryLists", inPlace := ["slices.overlaps[int]"], unfollowed := true, recurses := true, loops := true, plainKeys := false, apart := false, narrowed := true }
def QueryListsUptoSaid : Prop := queryListsUptoRow.holds Try.pinned (OpenSpec.upto queryListsSpec)

end Rows
end Go.Proofs.Ytpnbdnfgdiakhaa
