/-
  No cell of these rows narrows 'for every input' (looked for: loops, veiled, ifaces, maps, wideKeys, modest, calm, conditions, laid).
  DERIVED. THE GIVEN ROWS OF THIS SEAT. 12 by the template 'for every input the law returns true; each argument reads behind the call as it read before'; 0 by the template 'total and deterministic' (their statements: YtnmhnkpijjmhjaaTotals.lean).
  GIVEN WITH THE SEED: the statements are not yours to turn. If you find one false, say at which input.
  Laid BY PROGRAM, IN A SANDBOX (cutbox-rows.mjs): the forced cells as the released guide's own fill.sh prints them over the translation 3333722d0267a82f… (all of the seat's roots in one cut). By AI agents, Wed Nov 11 2026. No macro, syntax, notation, axiom, sorry.
-/
import Derived.Test.YtnmhnkpijjmhjaaChecked
import GoSem.Claim
import GoSem.ClaimJoined
import GoSem.ClaimMapViews
import Derived.JoinedTies
import Derived.KernelRfl
namespace Go.Proofs.Ytnmhnkpijjmhjaa
/- THE CELL 'sum', in the pinned program and in every row, IS THE sha256 OF THE DUMP (.gsa) THAT YtnmhnkpijjmhjaaProg.lean LOADS. Nothing in Lean hashes anything: it is a label: what it is worth is what the hold of that sum in a sandbox is worth. -/
noncomputable def Try.pinned : Pinned := { name := "ytnmhnkpijjmhjaa", sum := "3333722d0267a82fd56c7da3ebae0baea86d1afe0afb9357d9f72afb9b74e1e8", checked := Try.checked }
namespace Rows
def none {H : Type} : Left H := { results := [], args := [] }

/-- 'laws.FnExactCollapseOf': WHATEVER THE INPUT: true; the input reads as it did. -/
def fnExactCollapseOfSpec : ChangeSpec := { name := "fnExactCollapseOf", fn := fun _ => fun
  | [d] => { results := [.lit (.bool true)], args := [d] }
  | _ => none }
def fnExactCollapseOfRow : OpenClaim := { program := "ytnmhnkpijjmhjaa", sum := "3333722d0267a82fd56c7da3ebae0baea86d1afe0afb9357d9f72afb9b74e1e8", func := "loop.example/g01348/laws.FnExactCollapseOf", spec := "fnExactCollapseOf", unfollowed := true, recurses := true, apart := false }
def FnExactCollapseOfSaid : Prop := fnExactCollapseOfRow.holds Try.pinned (OpenSpec.ofChange fnExactCollapseOfSpec)

/-- ITS FALSE NEIGHBOUR: 'it returns false'. Refute it at one input. -/
def fnExactCollapseOfWrong : ChangeSpec := { name := "fnExactCollapseOf", fn := fun _ => fun
  | [d] => { results := [.lit (.bool false)], args := [d] }
  | _ => none }
def FnExactCollapseOfWrongFalsely : Prop := fnExactCollapseOfRow.holds Try.pinned (OpenSpec.ofChange fnExactCollapseOfWrong)

/-- 'laws.FnExactCollapseKeeping': WHATEVER THE INPUT: true; the input reads as it did. -/
def fnExactCollapseKeepingSpec : ChangeSpec := { name := "fnExactCollapseKeeping", fn := fun _ => fun
  | [d1, d2] => { results := [.lit (.bool true)], args := [d1, d2] }
  | _ => none }
def fnExactCollapseKeepingRow : OpenClaim := { program := "ytnmhnkpijjmhjaa", sum := "3333722d0267a82fd56c7da3ebae0baea86d1afe0afb9357d9f72afb9b74e1e8", func := "loop.example/g01348/laws.FnExactCollapseKeeping", spec := "fnExactCollapseKeeping", unfollowed := true, recurses := true, apart := false }
def FnExactCollapseKeepingSaid : Prop := fnExactCollapseKeepingRow.holds Try.pinned (OpenSpec.ofChange fnExactCollapseKeepingSpec)

/-- ITS FALSE NEIGHBOUR: 'it returns false'. Refute it at one input. -/
def fnExactCollapseKeepingWrong : ChangeSpec := { name := "fnExactCollapseKeeping", fn := fun _ => fun
  | [d1, d2] => { results := [.lit (.bool false)], args := [d1, d2] }
  | _ => none }
def FnExactCollapseKeepingWrongFalsely : Prop := fnExactCollapseKeepingRow.holds Try.pinned (OpenSpec.ofChange fnExactCollapseKeepingWrong)

/-- 'laws.FnExactIsPseudomanifold': WHATEVER THE INPUT: true; the input reads as it did. -/
def fnExactIsPseudomanifoldSpec : ChangeSpec := { name := "fnExactIsPseudomanifold", fn := fun _ => fun
  | [d] => { results := [.lit (.bool true)], args := [d] }
  | _ => none }
def fnExactIsPseudomanifoldRow : OpenClaim := { program := "ytnmhnkpijjmhjaa", sum := "3333722d0267a82fd56c7da3ebae0baea86d1afe0afb9357d9f72afb9b74e1e8", func := "loop.example/g01348/laws.FnExactIsPseudomanifold", spec := "fnExactIsPseudomanifold", unfollowed := true, recurses := true, apart := false }
def FnExactIsPseudomanifoldSaid : Prop := fnExactIsPseudomanifoldRow.holds Try.pinned (OpenSpec.ofChange fnExactIsPseudomanifoldSpec)

/-- ITS FALSE NEIGHBOUR: 'it returns false'. Refute it at one input. -/
def fnExactIsPseudomanifoldWrong : ChangeSpec := { name := "fnExactIsPseudomanifold", fn := fun _ => fun
  | [d] => { results := [.lit (.bool false)], args := [d] }
  | _ => none }
def FnExactIsPseudomanifoldWrongFalsely : Prop := fnExactIsPseudomanifoldRow.holds Try.pinned (OpenSpec.ofChange fnExactIsPseudomanifoldWrong)

/-- 'laws.FnExactFlipOf': WHATEVER THE INPUT: true; the input reads as it did. -/
def fnExactFlipOfSpec : ChangeSpec := { name := "fnExactFlipOf", fn := fun _ => fun
  | [d1, d2] => { results := [.lit (.bool true)], args := [d1, d2] }
  | _ => none }
def fnExactFlipOfRow : OpenClaim := { program := "ytnmhnkpijjmhjaa", sum := "3333722d0267a82fd56c7da3ebae0baea86d1afe0afb9357d9f72afb9b74e1e8", func := "loop.example/g01348/laws.FnExactFlipOf", spec := "fnExactFlipOf", unfollowed := true, recurses := true, apart := false }
def FnExactFlipOfSaid : Prop := fnExactFlipOfRow.holds Try.pinned (OpenSpec.ofChange fnExactFlipOfSpec)

/-- ITS FALSE NEIGHBOUR: 'it returns false'. Refute it at one input. -/
def fnExactFlipOfWrong : ChangeSpec := { name := "fnExactFlipOf", fn := fun _ => fun
  | [d1, d2] => { results := [.lit (.bool false)], args := [d1, d2] }
  | _ => none }
def FnExactFlipOfWrongFalsely : Prop := fnExactFlipOfRow.holds Try.pinned (OpenSpec.ofChange fnExactFlipOfWrong)

/-- 'laws.FnExactCoreOf': WHATEVER THE INPUT: true; the input reads as it did. -/
def fnExactCoreOfSpec : ChangeSpec := { name := "fnExactCoreOf", fn := fun _ => fun
  | [d] => { results := [.lit (.bool true)], args := [d] }
  | _ => none }
def fnExactCoreOfRow : OpenClaim := { program := "ytnmhnkpijjmhjaa", sum := "3333722d0267a82fd56c7da3ebae0baea86d1afe0afb9357d9f72afb9b74e1e8", func := "loop.example/g01348/laws.FnExactCoreOf", spec := "fnExactCoreOf", unfollowed := true, recurses := true, apart := false }
def FnExactCoreOfSaid : Prop := fnExactCoreOfRow.holds Try.pinned (OpenSpec.ofChange fnExactCoreOfSpec)

/-- ITS FALSE NEIGHBOUR: 'it returns false'. Refute it at one input. -/
def fnExactCoreOfWrong : ChangeSpec := { name := "fnExactCoreOf", fn := fun _ => fun
  | [d] => { results := [.lit (.bool false)], args := [d] }
  | _ => none }
def FnExactCoreOfWrongFalsely : Prop := fnExactCoreOfRow.holds Try.pinned (OpenSpec.ofChange fnExactCoreOfWrong)

/-- 'laws.FnExactBoundaryComplex': WHATEVER THE INPUT: true; the input reads as it did. -/
def fnExactBoundaryComplexSpec : ChangeSpec := { name := "fnExactBoundaryComplex", fn := fun _ => fun
  | [d] => { results := [.lit (.bool true)], args := [d] }
  | _ => none }
def fnExactBoundaryComplexRow : OpenClaim := { program := "ytnmhnkpijjmhjaa", sum := "3333722d0267a82fd56c7da3ebae0baea86d1afe0afb9357d9f72afb9b74e1e8", func := "loop.example/g01348/laws.FnExactBoundaryComplex", spec := "fnExactBoundaryComplex", unfollowed := true, recurses := true, apart := false }
def FnExactBoundaryComplexSaid : Prop := fnExactBoundaryComplexRow.holds Try.pinned (OpenSpec.ofChange fnExactBoundaryComplexSpec)

/-- ITS FALSE NEIGHBOUR: 'it returns false'. Refute it at one input. -/
def fnExactBoundaryComplexWrong : ChangeSpec := { name := "fnExactBoundaryComplex", fn := fun _ => fun
  | [d] => { results := [.lit (.bool false)], args := [d] }
  | _ => none }
def FnExactBoundaryComplexWrongFalsely : Prop := fnExactBoundaryComplexRow.holds Try.pinned (OpenSpec.ofChange fnExactBoundaryComplexWrong)

/-- 'laws.FnExactReductionOf': WHATEVER THE INPUT: true; the input reads as it did. -/
def fnExactReductionOfSpec : ChangeSpec := { name := "fnExactReductionOf", fn := fun _ => fun
  | [d] => { results := [.lit (.bool true)], args := [d] }
  | _ => none }
def fnExactReductionOfRow : OpenClaim := { program := "ytnmhnkpijjmhjaa", sum := "3333722d0267a82fd56c7da3ebae0baea86d1afe0afb9357d9f72afb9b74e1e8", func := "loop.example/g01348/laws.FnExactReductionOf", spec := "fnExactReductionOf", unfollowed := true, recurses := true, apart := false }
def FnExactReductionOfSaid : Prop := fnExactReductionOfRow.holds Try.pinned (OpenSpec.ofChange fnExactReductionOfSpec)

/-- ITS FALSE NEIGHBOUR: 'it returns false'. Refute it at one input. -/
def fnExactReductionOfWrong : ChangeSpec := { name := "fnExactReductionOf", fn := fun _ => fun
  | [d] => { results := [.lit (.bool false)], args := [d] }
  | _ => none }
def FnExactReductionOfWrongFalsely : Prop := fnExactReductionOfRow.holds Try.pinned (OpenSpec.ofChange fnExactReductionOfWrong)

/-- 'laws.FnExactFirstShelling': WHATEVER THE INPUT: true; the input reads as it did. -/
def fnExactFirstShellingSpec : ChangeSpec := { name := "fnExactFirstShelling", fn := fun _ => fun
  | [d] => { results := [.lit (.bool true)], args := [d] }
  | _ => none }
def fnExactFirstShellingRow : OpenClaim := { program := "ytnmhnkpijjmhjaa", sum := "3333722d0267a82fd56c7da3ebae0baea86d1afe0afb9357d9f72afb9b74e1e8", func := "loop.example/g01348/laws.FnExactFirstShelling", spec := "fnExactFirstShelling", unfollowed := true, recurses := true, apart := false }
def FnExactFirstShellingSaid : Prop := fnExactFirstShellingRow.holds Try.pinned (OpenSpec.ofChange fnExactFirstShellingSpec)

/-- ITS FALSE NEIGHBOUR: 'it returns false'. Refute it at one input. -/
def fnExactFirstShellingWrong : ChangeSpec := { name := "fnExactFirstShelling", fn := fun _ => fun
  | [d] => { results := [.lit (.bool false)], args := [d] }
  | _ => none }
def FnExactFirstShellingWrongFalsely : Prop := fnExactFirstShellingRow.holds Try.pinned (OpenSpec.ofChange fnExactFirstShellingWrong)

/-- 'laws.FnExactInequalitiesFor': WHATEVER THE INPUT: true; the input reads as it did. -/
def fnExactInequalitiesForSpec : ChangeSpec := { name := "fnExactInequalitiesFor", fn := fun _ => fun
  | [d1, d2] => { results := [.lit (.bool true)], args := [d1, d2] }
  | _ => none }
def fnExactInequalitiesForRow : OpenClaim := { program := "ytnmhnkpijjmhjaa", sum := "3333722d0267a82fd56c7da3ebae0baea86d1afe0afb9357d9f72afb9b74e1e8", func := "loop.example/g01348/laws.FnExactInequalitiesFor", spec := "fnExactInequalitiesFor", unfollowed := true, recurses := true, apart := false }
def FnExactInequalitiesForSaid : Prop := fnExactInequalitiesForRow.holds Try.pinned (OpenSpec.ofChange fnExactInequalitiesForSpec)

/-- ITS FALSE NEIGHBOUR: 'it returns false'. Refute it at one input. -/
def fnExactInequalitiesForWrong : ChangeSpec := { name := "fnExactInequalitiesFor", fn := fun _ => fun
  | [d1, d2] => { results := [.lit (.bool false)], args := [d1, d2] }
  | _ => none }
def FnExactInequalitiesForWrongFalsely : Prop := fnExactInequalitiesForRow.holds Try.pinned (OpenSpec.ofChange fnExactInequalitiesForWrong)

/-- 'laws.FnExactWaysBetween': WHATEVER THE INPUT: true; the input reads as it did. -/
def fnExactWaysBetweenSpec : ChangeSpec := { name := "fnExactWaysBetween", fn := fun _ => fun
  | [d1, d2, d3, d4] => { results := [.lit (.bool true)], args := [d1, d2, d3, d4] }
  | _ => none }
def fnExactWaysBetweenRow : OpenClaim := { program := "ytnmhnkpijjmhjaa", sum := "3333722d0267a82fd56c7da3ebae0baea86d1afe0afb9357d9f72afb9b74e1e8", func := "loop.example/g01348/laws.FnExactWaysBetween", spec := "fnExactWaysBetween", unfollowed := true, recurses := true, apart := false }
def FnExactWaysBetweenSaid : Prop := fnExactWaysBetweenRow.holds Try.pinned (OpenSpec.ofChange fnExactWaysBetweenSpec)

/-- ITS FALSE NEIGHBOUR: 'it returns false'. Refute it at one input. -/
def fnExactWaysBetweenWrong : ChangeSpec := { name := "fnExactWaysBetween", fn := fun _ => fun
  | [d1, d2, d3, d4] => { results := [.lit (.bool false)], args := [d1, d2, d3, d4] }
  | _ => none }
def FnExactWaysBetweenWrongFalsely : Prop := fnExactWaysBetweenRow.holds Try.pinned (OpenSpec.ofChange fnExactWaysBetweenWrong)

/-- 'laws.FnExactMorseBoundary': WHATEVER THE INPUT: true; the input reads as it did. -/
def fnExactMorseBoundarySpec : ChangeSpec := { name := "fnExactMorseBoundary", fn := fun _ => fun
  | [d1, d2, d3] => { results := [.lit (.bool true)], args := [d1, d2, d3] }
  | _ => none }
def fnExactMorseBoundaryRow : OpenClaim := { program := "ytnmhnkpijjmhjaa", sum := "3333722d0267a82fd56c7da3ebae0baea86d1afe0afb9357d9f72afb9b74e1e8", func := "loop.example/g01348/laws.FnExactMorseBoundary", spec := "fnExactMorseBoundary", unfollowed := true, recurses := true, apart := false }
def FnExactMorseBoundarySaid : Prop := fnExactMorseBoundaryRow.holds Try.pinned (OpenSpec.ofChange fnExactMorseBoundarySpec)

/-- ITS FALSE NEIGHBOUR: 'it returns false'. Refute it at one input. -/
def fnExactMorseBoundaryWrong : ChangeSpec := { name := "fnExactMorseBoundary", fn := fun _ => fun
  | [d1, d2, d3] => { results := [.lit (.bool false)], args := [d1, d2, d3] }
  | _ => none }
def FnExactMorseBoundaryWrongFalsely : Prop := fnExactMorseBoundaryRow.holds Try.pinned (OpenSpec.ofChange fnExactMorseBoundaryWrong)

/-- 'laws.FnExactIsFullPairing': WHATEVER THE INPUT: true; the input reads as it did. -/
def fnExactIsFullPairingSpec : ChangeSpec := { name := "fnExactIsFullPairing", fn := fun _ => fun
  | [d1, d2] => { results := [.lit (.bool true)], args := [d1, d2] }
  | _ => none }
def fnExactIsFullPairingRow : OpenClaim := { program := "ytnmhnkpijjmhjaa", sum := "3333722d0267a82fd56c7da3ebae0baea86d1afe0afb9357d9f72afb9b74e1e8", func := "loop.example/g01348/laws.FnExactIsFullPairing", spec := "fnExactIsFullPairing", inPlace := ["slices.overlaps[loop.example/g01348/impl.Pair]"], unfollowed := true, recurses := true, apart := false }
def FnExactIsFullPairingSaid : Prop := fnExactIsFullPairingRow.holds Try.pinned (OpenSpec.ofChange fnExactIsFullPairingSpec)

/-- ITS FALSE NEIGHBOUR: 'it returns false'. Refute it at one input. -/
def fnExactIsFullPairingWrong : ChangeSpec := { name := "fnExactIsFullPairing", fn := fun _ => fun
  | [d1, d2] => { results := [.lit (.bool false)], args := [d1, d2] }
  | _ => none }
def FnExactIsFullPairingWrongFalsely : Prop := fnExactIsFullPairingRow.holds Try.pinned (OpenSpec.ofChange fnExactIsFullPairingWrong)

/- THE SECOND FORM. 'bulk': how many values and letters a reading holds, each counted each time it is reached (what is shared counts as often as it is met; a slice's spare places count too). A statement '..UptoSaid' is the law's where the arguments, and the package variables that the reading takes, are together of bulk at most 1048576: NARROWER than '..Said'. Prove '..Said' where nothing that the law and all that it calls make is longer than what came in: it says more and counts as full. Else prove '..UptoSaid'. A law counts once. -/
mutual
def uptoBulk {H : Type} : DataW H → Nat
  | .lit (.string bytes) => bytes.length + 1
  | .lit _ => 1
  | .nil => 1
  | .ptr d => uptoBulk d + 1
  | .slice elems spare => uptoBulkAll elems + uptoBulkAll spare + 1
  | .agg parts => uptoBulkAll parts + 1
  | .iface _ d => uptoBulk d + 1
  | .map entries => uptoBulkEntries entries + 1
  | .held _ => 1
def uptoBulkAll {H : Type} : List (DataW H) → Nat
  | [] => 0
  | d :: r => uptoBulk d + uptoBulkAll r
def uptoBulkEntries {H : Type} : List (Lit × DataW H) → Nat
  | [] => 0
  | x :: r => uptoBulkEntry x + uptoBulkEntries r
def uptoBulkEntry {H : Type} : Lit × DataW H → Nat
  | (.string bytes, d) => bytes.length + uptoBulk d + 1
  | (_, d) => uptoBulk d + 1
 end
def uptoSmall : (H : Type) → List (DataW H) → Bool := fun _ ds => decide (uptoBulkAll ds ≤ 1048576)
def OpenSpec.upto (s : _root_.Go.ChangeSpec) : _root_.Go.OpenSpec := { _root_.Go.OpenSpec.ofChange s with cond := some uptoSmall }

/-- 'laws.FnExactCollapseOf', WHERE WHAT IT READS IS OF BULK AT MOST 1048576: true; the input reads as it did. -/
def fnExactCollapseOfUptoRow : OpenClaim := { program := "ytnmhnkpijjmhjaa", sum := "3333722d0267a82fd56c7da3ebae0baea86d1afe0afb9357d9f72afb9b74e1e8", func := "loop.example/g01348/laws.FnExactCollapseOf", spec := "fnExactCollapseOf", unfollowed := true, recurses := true, apart := false, narrowed := true }
def FnExactCollapseOfUptoSaid : Prop := fnExactCollapseOfUptoRow.holds Try.pinned (OpenSpec.upto fnExactCollapseOfSpec)

/-- 'laws.FnExactCollapseKeeping', WHERE WHAT IT READS IS OF BULK AT MOST 1048576: true; the input reads as it did. -/
def fnExactCollapseKeepingUptoRow : OpenClaim := { program := "ytnmhnkpijjmhjaa", sum := "3333722d0267a82fd56c7da3ebae0baea86d1afe0afb9357d9f72afb9b74e1e8", func := "loop.example/g01348/laws.FnExactCollapseKeeping", spec := "fnExactCollapseKeeping", unfollowed := true, recurses := true, apart := false, narrowed := true }
def FnExactCollapseKeepingUptoSaid : Prop := fnExactCollapseKeepingUptoRow.holds Try.pinned (OpenSpec.upto fnExactCollapseKeepingSpec)

/-- 'laws.FnExactIsPseudomanifold', WHERE WHAT IT READS IS OF BULK AT MOST 1048576: true; the input reads as it did. -/
def fnExactIsPseudomanifoldUptoRow : OpenClaim := { program := "ytnmhnkpijjmhjaa", sum := "3333722d0267a82fd56c7da3ebae0baea86d1afe0afb9357d9f72afb9b74e1e8", func := "loop.example/g01348/laws.FnExactIsPseudomanifold", spec := "fnExactIsPseudomanifold", unfollowed := true, recurses := true, apart := false, narrowed := true }
def FnExactIsPseudomanifoldUptoSaid : Prop := fnExactIsPseudomanifoldUptoRow.holds Try.pinned (OpenSpec.upto fnExactIsPseudomanifoldSpec)

/-- 'laws.FnExactFlipOf', WHERE WHAT IT READS IS OF BULK AT MOST 1048576: true; the input reads as it did. -/
def fnExactFlipOfUptoRow : OpenClaim := { program := "ytnmhnkpijjmhjaa", sum := "3333722d0267a82fd56c7da3ebae0baea86d1afe0afb9357d9f72afb9b74e1e8", func := "loop.example/g01348/laws.FnExactFlipOf", spec := "fnExactFlipOf", unfollowed := true, recurses := true, apart := false, narrowed := true }
def FnExactFlipOfUptoSaid : Prop := fnExactFlipOfUptoRow.holds Try.pinned (OpenSpec.upto fnExactFlipOfSpec)

/-- 'laws.FnExactCoreOf', WHERE WHAT IT READS IS OF BULK AT MOST 1048576: true; the input reads as it did. -/
def fnExactCoreOfUptoRow : OpenClaim := { program := "ytnmhnkpijjmhjaa", sum := "3333722d0267a82fd56c7da3ebae0baea86d1afe0afb9357d9f72afb9b74e1e8", func := "loop.example/g01348/laws.FnExactCoreOf", spec := "fnExactCoreOf", unfollowed := true, recurses := true, apart := false, narrowed := true }
def FnExactCoreOfUptoSaid : Prop := fnExactCoreOfUptoRow.holds Try.pinned (OpenSpec.upto fnExactCoreOfSpec)

/-- 'laws.FnExactBoundaryComplex', WHERE WHAT IT READS IS OF BULK AT MOST 1048576: true; the input reads as it did. -/
def fnExactBoundaryComplexUptoRow : OpenClaim := { program := "ytnmhnkpijjmhjaa", sum := "3333722d0267a82fd56c7da3ebae0baea86d1afe0afb9357d9f72afb9b74e1e8", func := "loop.example/g01348/laws.FnExactBoundaryComplex", spec := "fnExactBoundaryComplex", unfollowed := true, recurses := true, apart := false, narrowed := true }
def FnExactBoundaryComplexUptoSaid : Prop := fnExactBoundaryComplexUptoRow.holds Try.pinned (OpenSpec.upto fnExactBoundaryComplexSpec)

/-- 'laws.FnExactReductionOf', WHERE WHAT IT READS IS OF BULK AT MOST 1048576: true; the input reads as it did. -/
def fnExactReductionOfUptoRow : OpenClaim := { program := "ytnmhnkpijjmhjaa", sum := "3333722d0267a82fd56c7da3ebae0baea86d1afe0afb9357d9f72afb9b74e1e8", func := "loop.example/g01348/laws.FnExactReductionOf", spec := "fnExactReductionOf", unfollowed := true, recurses := true, apart := false, narrowed := true }
def FnExactReductionOfUptoSaid : Prop := fnExactReductionOfUptoRow.holds Try.pinned (OpenSpec.upto fnExactReductionOfSpec)

/-- 'laws.FnExactFirstShelling', WHERE WHAT IT READS IS OF BULK AT MOST 1048576: true; the input reads as it did. -/
def fnExactFirstShellingUptoRow : OpenClaim := { program := "ytnmhnkpijjmhjaa", sum := "3333722d0267a82fd56c7da3ebae0baea86d1afe0afb9357d9f72afb9b74e1e8", func := "loop.example/g01348/laws.FnExactFirstShelling", spec := "fnExactFirstShelling", unfollowed := true, recurses := true, apart := false, narrowed := true }
def FnExactFirstShellingUptoSaid : Prop := fnExactFirstShellingUptoRow.holds Try.pinned (OpenSpec.upto fnExactFirstShellingSpec)

/-- 'laws.FnExactInequalitiesFor', WHERE WHAT IT READS IS OF BULK AT MOST 1048576: true; the input reads as it did. -/
def fnExactInequalitiesForUptoRow : OpenClaim := { program := "ytnmhnkpijjmhjaa", sum := "3333722d0267a82fd56c7da3ebae0baea86d1afe0afb9357d9f72afb9b74e1e8", func := "loop.example/g01348/laws.FnExactInequalitiesFor", spec := "fnExactInequalitiesFor", unfollowed := true, recurses := true, apart := false, narrowed := true }
def FnExactInequalitiesForUptoSaid : Prop := fnExactInequalitiesForUptoRow.holds Try.pinned (OpenSpec.upto fnExactInequalitiesForSpec)

/-- 'laws.FnExactWaysBetween', WHERE WHAT IT READS IS OF BULK AT MOST 1048576: true; the input reads as it did. -/
def fnExactWaysBetweenUptoRow : OpenClaim := { program := "ytnmhnkpijjmhjaa", sum := "3333722d0267a82fd56c7da3ebae0baea86d1afe0afb9357d9f72afb9b74e1e8", func := "loop.example/g01348/laws.FnExactWaysBetween", spec := "fnExactWaysBetween", unfollowed := true, recurses := true, apart := false, narrowed := true }
def FnExactWaysBetweenUptoSaid : Prop := fnExactWaysBetweenUptoRow.holds Try.pinned (OpenSpec.upto fnExactWaysBetweenSpec)

/-- 'laws.FnExactMorseBoundary', WHERE WHAT IT READS IS OF BULK AT MOST 1048576: true; the input reads as it did. -/
def fnExactMorseBoundaryUptoRow : OpenClaim := { program := "ytnmhnkpijjmhjaa", sum := "3333722d0267a82fd56c7da3ebae0baea86d1afe0afb9357d9f72afb9b74e1e8", func := "loop.example/g01348/laws.FnExactMorseBoundary", spec := "fnExactMorseBoundary", unfollowed := true, recurses := true, apart := false, narrowed := true }
def FnExactMorseBoundaryUptoSaid : Prop := fnExactMorseBoundaryUptoRow.holds Try.pinned (OpenSpec.upto fnExactMorseBoundarySpec)

/-- 'laws.FnExactIsFullPairing', WHERE WHAT IT READS IS OF BULK AT MOST 1048576: true; the input reads as it did. -/
def fnExactIsFullPairingUptoRow : OpenClaim := { program := "ytnmhnkpijjmhjaa", sum := "3333722d0267a82fd56c7da3ebae0baea86d1afe0afb9357d9f72afb9b74e1e8", func := "loop.example/g01348/laws.FnExactIsFullPairing", spec := "fnExactIsFullPairing", inPlace := ["slices.overlaps[loop.example/g01348/impl.Pair]"], unfollowed := true, recurses := true, apart := false, narrowed := true }
def FnExactIsFullPairingUptoSaid : Prop := fnExactIsFullPairingUptoRow.holds Try.pinned (OpenSpec.upto fnExactIsFullPairingSpec)

end Rows
end Go.Proofs.Ytnmhnkpijjmhjaa
