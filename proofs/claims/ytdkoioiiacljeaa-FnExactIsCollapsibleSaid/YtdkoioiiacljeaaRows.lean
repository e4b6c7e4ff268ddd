/-
  No cell of these rows narrows 'for every input' (looked for: loops, veiled, ifaces, maps, wideKeys, modest, calm, conditions, laid).
  DERIVED. THE GIVEN ROWS OF THIS SEAT. 12 by the template 'for every input the law returns true; each argument reads behind the call as it read before'; 0 by the template 'total and deterministic' (their statements: YtdkoioiiacljeaaTotals.lean).
  GIVEN WITH THE SEED: the statements are not yours to turn. If you find one false, say at which input.
  Laid BY PROGRAM, IN A SANDBOX (cutbox-rows.mjs): the forced cells as the released guide's own fill.sh prints them over the translation 1c291f8c0fa71ed9… (all of the seat's roots in one cut). By AI agents, Wed Nov 11 2026. No macro, syntax, notation, axiom, sorry.
-/
import Derived.Test.YtdkoioiiacljeaaChecked
import GoSem.Claim
import GoSem.ClaimJoined
import GoSem.ClaimMapViews
import Derived.JoinedTies
import Derived.KernelRfl
namespace Go.Proofs.Ytdkoioiiacljeaa
/- THE CELL 'sum', in the pinned program and in every row, IS THE sha256 OF THE DUMP (.gsa) THAT YtdkoioiiacljeaaProg.lean LOADS. Nothing in Lean hashes anything: it is a label: what it is worth is what the hold of that sum in a sandbox is worth. -/
noncomputable def Try.pinned : Pinned := { name := "ytdkoioiiacljeaa", sum := "1c291f8c0fa71ed9a9b5d11ed1e6b210f52e26f06d74181354130cc55841db26", checked := Try.checked }
namespace Rows
def none {H : Type} : Left H := { results := [], args := [] }

/-- 'laws.FnExactDualOf': WHATEVER THE INPUT: true; the input reads as it did. -/
def fnExactDualOfSpec : ChangeSpec := { name := "fnExactDualOf", fn := fun _ => fun
  | [d] => { results := [.lit (.bool true)], args := [d] }
  | _ => none }
def fnExactDualOfRow : OpenClaim := { program := "ytdkoioiiacljeaa", sum := "1c291f8c0fa71ed9a9b5d11ed1e6b210f52e26f06d74181354130cc55841db26", func := "loop.example/g01348/laws.FnExactDualOf", spec := "fnExactDualOf", unfollowed := true, recurses := true, apart := false }
def FnExactDualOfSaid : Prop := fnExactDualOfRow.holds Try.pinned (OpenSpec.ofChange fnExactDualOfSpec)

/-- ITS FALSE NEIGHBOUR: 'it returns false'. Refute it at one input. -/
def fnExactDualOfWrong : ChangeSpec := { name := "fnExactDualOf", fn := fun _ => fun
  | [d] => { results := [.lit (.bool false)], args := [d] }
  | _ => none }
def FnExactDualOfWrongFalsely : Prop := fnExactDualOfRow.holds Try.pinned (OpenSpec.ofChange fnExactDualOfWrong)

/-- 'laws.FnExactIsFreeFace': WHATEVER THE INPUT: true; the input reads as it did. -/
def fnExactIsFreeFaceSpec : ChangeSpec := { name := "fnExactIsFreeFace", fn := fun _ => fun
  | [d1, d2] => { results := [.lit (.bool true)], args := [d1, d2] }
  | _ => none }
def fnExactIsFreeFaceRow : OpenClaim := { program := "ytdkoioiiacljeaa", sum := "1c291f8c0fa71ed9a9b5d11ed1e6b210f52e26f06d74181354130cc55841db26", func := "loop.example/g01348/laws.FnExactIsFreeFace", spec := "fnExactIsFreeFace", unfollowed := true, recurses := true, apart := false }
def FnExactIsFreeFaceSaid : Prop := fnExactIsFreeFaceRow.holds Try.pinned (OpenSpec.ofChange fnExactIsFreeFaceSpec)

/-- ITS FALSE NEIGHBOUR: 'it returns false'. Refute it at one input. -/
def fnExactIsFreeFaceWrong : ChangeSpec := { name := "fnExactIsFreeFace", fn := fun _ => fun
  | [d1, d2] => { results := [.lit (.bool false)], args := [d1, d2] }
  | _ => none }
def FnExactIsFreeFaceWrongFalsely : Prop := fnExactIsFreeFaceRow.holds Try.pinned (OpenSpec.ofChange fnExactIsFreeFaceWrong)

/-- 'laws.FnExactMissingFaces': WHATEVER THE INPUT: true; the input reads as it did. -/
def fnExactMissingFacesSpec : ChangeSpec := { name := "fnExactMissingFaces", fn := fun _ => fun
  | [d] => { results := [.lit (.bool true)], args := [d] }
  | _ => none }
def fnExactMissingFacesRow : OpenClaim := { program := "ytdkoioiiacljeaa", sum := "1c291f8c0fa71ed9a9b5d11ed1e6b210f52e26f06d74181354130cc55841db26", func := "loop.example/g01348/laws.FnExactMissingFaces", spec := "fnExactMissingFaces", unfollowed := true, recurses := true, apart := false }
def FnExactMissingFacesSaid : Prop := fnExactMissingFacesRow.holds Try.pinned (OpenSpec.ofChange fnExactMissingFacesSpec)

/-- ITS FALSE NEIGHBOUR: 'it returns false'. Refute it at one input. -/
def fnExactMissingFacesWrong : ChangeSpec := { name := "fnExactMissingFaces", fn := fun _ => fun
  | [d] => { results := [.lit (.bool false)], args := [d] }
  | _ => none }
def FnExactMissingFacesWrongFalsely : Prop := fnExactMissingFacesRow.holds Try.pinned (OpenSpec.ofChange fnExactMissingFacesWrong)

/-- 'laws.FnExactSuspensionOf': WHATEVER THE INPUT: true; the input reads as it did. -/
def fnExactSuspensionOfSpec : ChangeSpec := { name := "fnExactSuspensionOf", fn := fun _ => fun
  | [d] => { results := [.lit (.bool true)], args := [d] }
  | _ => none }
def fnExactSuspensionOfRow : OpenClaim := { program := "ytdkoioiiacljeaa", sum := "1c291f8c0fa71ed9a9b5d11ed1e6b210f52e26f06d74181354130cc55841db26", func := "loop.example/g01348/laws.FnExactSuspensionOf", spec := "fnExactSuspensionOf", unfollowed := true, recurses := true, apart := false }
def FnExactSuspensionOfSaid : Prop := fnExactSuspensionOfRow.holds Try.pinned (OpenSpec.ofChange fnExactSuspensionOfSpec)

/-- ITS FALSE NEIGHBOUR: 'it returns false'. Refute it at one input. -/
def fnExactSuspensionOfWrong : ChangeSpec := { name := "fnExactSuspensionOf", fn := fun _ => fun
  | [d] => { results := [.lit (.bool false)], args := [d] }
  | _ => none }
def FnExactSuspensionOfWrongFalsely : Prop := fnExactSuspensionOfRow.holds Try.pinned (OpenSpec.ofChange fnExactSuspensionOfWrong)

/-- 'laws.FnExactIsChain': WHATEVER THE INPUT: true; the input reads as it did. -/
def fnExactIsChainSpec : ChangeSpec := { name := "fnExactIsChain", fn := fun _ => fun
  | [d1, d2] => { results := [.lit (.bool true)], args := [d1, d2] }
  | _ => none }
def fnExactIsChainRow : OpenClaim := { program := "ytdkoioiiacljeaa", sum := "1c291f8c0fa71ed9a9b5d11ed1e6b210f52e26f06d74181354130cc55841db26", func := "loop.example/g01348/laws.FnExactIsChain", spec := "fnExactIsChain", unfollowed := true, recurses := true, apart := false }
def FnExactIsChainSaid : Prop := fnExactIsChainRow.holds Try.pinned (OpenSpec.ofChange fnExactIsChainSpec)

/-- ITS FALSE NEIGHBOUR: 'it returns false'. Refute it at one input. -/
def fnExactIsChainWrong : ChangeSpec := { name := "fnExactIsChain", fn := fun _ => fun
  | [d1, d2] => { results := [.lit (.bool false)], args := [d1, d2] }
  | _ => none }
def FnExactIsChainWrongFalsely : Prop := fnExactIsChainRow.holds Try.pinned (OpenSpec.ofChange fnExactIsChainWrong)

/-- 'laws.FnExactDeleteVertex': WHATEVER THE INPUT: true; the input reads as it did. -/
def fnExactDeleteVertexSpec : ChangeSpec := { name := "fnExactDeleteVertex", fn := fun _ => fun
  | [d1, d2] => { results := [.lit (.bool true)], args := [d1, d2] }
  | _ => none }
def fnExactDeleteVertexRow : OpenClaim := { program := "ytdkoioiiacljeaa", sum := "1c291f8c0fa71ed9a9b5d11ed1e6b210f52e26f06d74181354130cc55841db26", func := "loop.example/g01348/laws.FnExactDeleteVertex", spec := "fnExactDeleteVertex", unfollowed := true, recurses := true, apart := false }
def FnExactDeleteVertexSaid : Prop := fnExactDeleteVertexRow.holds Try.pinned (OpenSpec.ofChange fnExactDeleteVertexSpec)

/-- ITS FALSE NEIGHBOUR: 'it returns false'. Refute it at one input. -/
def fnExactDeleteVertexWrong : ChangeSpec := { name := "fnExactDeleteVertex", fn := fun _ => fun
  | [d1, d2] => { results := [.lit (.bool false)], args := [d1, d2] }
  | _ => none }
def FnExactDeleteVertexWrongFalsely : Prop := fnExactDeleteVertexRow.holds Try.pinned (OpenSpec.ofChange fnExactDeleteVertexWrong)

/-- 'laws.FnExactFreePairs': WHATEVER THE INPUT: true; the input reads as it did. -/
def fnExactFreePairsSpec : ChangeSpec := { name := "fnExactFreePairs", fn := fun _ => fun
  | [d] => { results := [.lit (.bool true)], args := [d] }
  | _ => none }
def fnExactFreePairsRow : OpenClaim := { program := "ytdkoioiiacljeaa", sum := "1c291f8c0fa71ed9a9b5d11ed1e6b210f52e26f06d74181354130cc55841db26", func := "loop.example/g01348/laws.FnExactFreePairs", spec := "fnExactFreePairs", unfollowed := true, recurses := true, apart := false }
def FnExactFreePairsSaid : Prop := fnExactFreePairsRow.holds Try.pinned (OpenSpec.ofChange fnExactFreePairsSpec)

/-- ITS FALSE NEIGHBOUR: 'it returns false'. Refute it at one input. -/
def fnExactFreePairsWrong : ChangeSpec := { name := "fnExactFreePairs", fn := fun _ => fun
  | [d] => { results := [.lit (.bool false)], args := [d] }
  | _ => none }
def FnExactFreePairsWrongFalsely : Prop := fnExactFreePairsRow.holds Try.pinned (OpenSpec.ofChange fnExactFreePairsWrong)

/-- 'laws.FnExactIsPure': WHATEVER THE INPUT: true; the input reads as it did. -/
def fnExactIsPureSpec : ChangeSpec := { name := "fnExactIsPure", fn := fun _ => fun
  | [d] => { results := [.lit (.bool true)], args := [d] }
  | _ => none }
def fnExactIsPureRow : OpenClaim := { program := "ytdkoioiiacljeaa", sum := "1c291f8c0fa71ed9a9b5d11ed1e6b210f52e26f06d74181354130cc55841db26", func := "loop.example/g01348/laws.FnExactIsPure", spec := "fnExactIsPure", unfollowed := true, recurses := true, apart := false }
def FnExactIsPureSaid : Prop := fnExactIsPureRow.holds Try.pinned (OpenSpec.ofChange fnExactIsPureSpec)

/-- ITS FALSE NEIGHBOUR: 'it returns false'. Refute it at one input. -/
def fnExactIsPureWrong : ChangeSpec := { name := "fnExactIsPure", fn := fun _ => fun
  | [d] => { results := [.lit (.bool false)], args := [d] }
  | _ => none }
def FnExactIsPureWrongFalsely : Prop := fnExactIsPureRow.holds Try.pinned (OpenSpec.ofChange fnExactIsPureWrong)

/-- 'laws.FnExactDominatedVertices': WHATEVER THE INPUT: true; the input reads as it did. -/
def fnExactDominatedVerticesSpec : ChangeSpec := { name := "fnExactDominatedVertices", fn := fun _ => fun
  | [d] => { results := [.lit (.bool true)], args := [d] }
  | _ => none }
def fnExactDominatedVerticesRow : OpenClaim := { program := "ytdkoioiiacljeaa", sum := "1c291f8c0fa71ed9a9b5d11ed1e6b210f52e26f06d74181354130cc55841db26", func := "loop.example/g01348/laws.FnExactDominatedVertices", spec := "fnExactDominatedVertices", unfollowed := true, recurses := true, apart := false }
def FnExactDominatedVerticesSaid : Prop := fnExactDominatedVerticesRow.holds Try.pinned (OpenSpec.ofChange fnExactDominatedVerticesSpec)

/-- ITS FALSE NEIGHBOUR: 'it returns false'. Refute it at one input. -/
def fnExactDominatedVerticesWrong : ChangeSpec := { name := "fnExactDominatedVertices", fn := fun _ => fun
  | [d] => { results := [.lit (.bool false)], args := [d] }
  | _ => none }
def FnExactDominatedVerticesWrongFalsely : Prop := fnExactDominatedVerticesRow.holds Try.pinned (OpenSpec.ofChange fnExactDominatedVerticesWrong)

/-- 'laws.FnExactCollapsePair': WHATEVER THE INPUT: true; the input reads as it did. -/
def fnExactCollapsePairSpec : ChangeSpec := { name := "fnExactCollapsePair", fn := fun _ => fun
  | [d1, d2] => { results := [.lit (.bool true)], args := [d1, d2] }
  | _ => none }
def fnExactCollapsePairRow : OpenClaim := { program := "ytdkoioiiacljeaa", sum := "1c291f8c0fa71ed9a9b5d11ed1e6b210f52e26f06d74181354130cc55841db26", func := "loop.example/g01348/laws.FnExactCollapsePair", spec := "fnExactCollapsePair", unfollowed := true, recurses := true, apart := false }
def FnExactCollapsePairSaid : Prop := fnExactCollapsePairRow.holds Try.pinned (OpenSpec.ofChange fnExactCollapsePairSpec)

/-- ITS FALSE NEIGHBOUR: 'it returns false'. Refute it at one input. -/
def fnExactCollapsePairWrong : ChangeSpec := { name := "fnExactCollapsePair", fn := fun _ => fun
  | [d1, d2] => { results := [.lit (.bool false)], args := [d1, d2] }
  | _ => none }
def FnExactCollapsePairWrongFalsely : Prop := fnExactCollapsePairRow.holds Try.pinned (OpenSpec.ofChange fnExactCollapsePairWrong)

/-- 'laws.FnExactIsCollapsible': WHATEVER THE INPUT: true; the input reads as it did. -/
def fnExactIsCollapsibleSpec : ChangeSpec := { name := "fnExactIsCollapsible", fn := fun _ => fun
  | [d] => { results := [.lit (.bool true)], args := [d] }
  | _ => none }
def fnExactIsCollapsibleRow : OpenClaim := { program := "ytdkoioiiacljeaa", sum := "1c291f8c0fa71ed9a9b5d11ed1e6b210f52e26f06d74181354130cc55841db26", func := "loop.example/g01348/laws.FnExactIsCollapsible", spec := "fnExactIsCollapsible", unfollowed := true, recurses := true, apart := false }
def FnExactIsCollapsibleSaid : Prop := fnExactIsCollapsibleRow.holds Try.pinned (OpenSpec.ofChange fnExactIsCollapsibleSpec)

/-- ITS FALSE NEIGHBOUR: 'it returns false'. Refute it at one input. -/
def fnExactIsCollapsibleWrong : ChangeSpec := { name := "fnExactIsCollapsible", fn := fun _ => fun
  | [d] => { results := [.lit (.bool false)], args := [d] }
  | _ => none }
def FnExactIsCollapsibleWrongFalsely : Prop := fnExactIsCollapsibleRow.holds Try.pinned (OpenSpec.ofChange fnExactIsCollapsibleWrong)

/-- 'laws.FnExactNumbersH': WHATEVER THE INPUT: true; the input reads as it did. -/
def fnExactNumbersHSpec : ChangeSpec := { name := "fnExactNumbersH", fn := fun _ => fun
  | [d] => { results := [.lit (.bool true)], args := [d] }
  | _ => none }
def fnExactNumbersHRow : OpenClaim := { program := "ytdkoioiiacljeaa", sum := "1c291f8c0fa71ed9a9b5d11ed1e6b210f52e26f06d74181354130cc55841db26", func := "loop.example/g01348/laws.FnExactNumbersH", spec := "fnExactNumbersH", unfollowed := true, recurses := true, apart := false }
def FnExactNumbersHSaid : Prop := fnExactNumbersHRow.holds Try.pinned (OpenSpec.ofChange fnExactNumbersHSpec)

/-- ITS FALSE NEIGHBOUR: 'it returns false'. Refute it at one input. -/
def fnExactNumbersHWrong : ChangeSpec := { name := "fnExactNumbersH", fn := fun _ => fun
  | [d] => { results := [.lit (.bool false)], args := [d] }
  | _ => none }
def FnExactNumbersHWrongFalsely : Prop := fnExactNumbersHRow.holds Try.pinned (OpenSpec.ofChange fnExactNumbersHWrong)

/- THE SECOND FORM. 'bulk': how many values and letters a reading holds, each counted each time it is reached (what is shared counts as often as it is met; a slice's spare places count too). A statement '..UptoSaid' is the law's where the arguments, and the package variables that the reading takes, are together of bulk at most 1048576: NARROWER than '..Said'. Prove '..Said' where nothing that the law and all that it calls make is longer than what came in: it says more and counts as full. Else prove '..UptoSaid'. A law counts once. -/
mutual
def uptoBulk {H : Type} : DataW H → Nat
  | .lit (.string bytes) => bytes.length + 1
  | .lit _ => 1
  | .nil => 1
  | .ptr d => uptoBulk d + 1
  | .slice elems spare => uptoBulkAll elems + uptoBulkAll spare + 1
  | .agg parts => uptoBulkAll parts + 1
  | .iface _ d => uptoBulk d + 1
  | .map entries => uptoBulkEntries entries + 1
  | .held _ => 1
def uptoBulkAll {H : Type} : List (DataW H) → Nat
  | [] => 0
  | d :: r => uptoBulk d + uptoBulkAll r
def uptoBulkEntries {H : Type} : List (Lit × DataW H) → Nat
  | [] => 0
  | x :: r => uptoBulkEntry x + uptoBulkEntries r
def uptoBulkEntry {H : Type} : Lit × DataW H → Nat
  | (.string bytes, d) => bytes.length + uptoBulk d + 1
  | (_, d) => uptoBulk d + 1
 end
def uptoSmall : (H : Type) → List (DataW H) → Bool := fun _ ds => decide (uptoBulkAll ds ≤ 1048576)
def OpenSpec.upto (s : _root_.Go.ChangeSpec) : _root_.Go.OpenSpec := { _root_.Go.OpenSpec.ofChange s with cond := some uptoSmall }

/-- 'laws.FnExactDualOf', WHERE WHAT IT READS IS OF BULK AT MOST 1048576: true; the input reads as it did. -/
def fnExactDualOfUptoRow : OpenClaim := { program := "ytdkoioiiacljeaa", sum := "1c291f8c0fa71ed9a9b5d11ed1e6b210f52e26f06d74181354130cc55841db26", func := "loop.example/g01348/laws.FnExactDualOf", spec := "fnExactDualOf", unfollowed := true, recurses := true, apart := false, narrowed := true }
def FnExactDualOfUptoSaid : Prop := fnExactDualOfUptoRow.holds Try.pinned (OpenSpec.upto fnExactDualOfSpec)

/-- 'laws.FnExactIsFreeFace', WHERE WHAT IT READS IS OF BULK AT MOST 1048576: true; the input reads as it did. -/
def fnExactIsFreeFaceUptoRow : OpenClaim := { program := "ytdkoioiiacljeaa", sum := "1c291f8c0fa71ed9a9b5d11ed1e6b210f52e26f06d74181354130cc55841db26", func := "loop.example/g01348/laws.FnExactIsFreeFace", spec := "fnExactIsFreeFace", unfollowed := true, recurses := true, apart := false, narrowed := true }
def FnExactIsFreeFaceUptoSaid : Prop := fnExactIsFreeFaceUptoRow.holds Try.pinned (OpenSpec.upto fnExactIsFreeFaceSpec)

/-- 'laws.FnExactMissingFaces', WHERE WHAT IT READS IS OF BULK AT MOST 1048576: true; the input reads as it did. -/
def fnExactMissingFacesUptoRow : OpenClaim := { program := "ytdkoioiiacljeaa", sum := "1c291f8c0fa71ed9a9b5d11ed1e6b210f52e26f06d74181354130cc55841db26", func := "loop.example/g01348/laws.FnExactMissingFaces", spec := "fnExactMissingFaces", unfollowed := true, recurses := true, apart := false, narrowed := true }
def FnExactMissingFacesUptoSaid : Prop := fnExactMissingFacesUptoRow.holds Try.pinned (OpenSpec.upto fnExactMissingFacesSpec)

/-- 'laws.FnExactSuspensionOf', WHERE WHAT IT READS IS OF BULK AT MOST 1048576: true; the input reads as it did. -/
def fnExactSuspensionOfUptoRow : OpenClaim := { program := "ytdkoioiiacljeaa", sum := "1c291f8c0fa71ed9a9b5d11ed1e6b210f52e26f06d74181354130cc55841db26", func := "loop.example/g01348/laws.FnExactSuspensionOf", spec := "fnExactSuspensionOf", unfollowed := true, recurses := true, apart := false, narrowed := true }
def FnExactSuspensionOfUptoSaid : Prop := fnExactSuspensionOfUptoRow.holds Try.pinned (OpenSpec.upto fnExactSuspensionOfSpec)

/-- 'laws.FnExactIsChain', WHERE WHAT IT READS IS OF BULK AT MOST 1048576: true; the input reads as it did. -/
def fnExactIsChainUptoRow : OpenClaim := { program := "ytdkoioiiacljeaa", sum := "1c291f8c0fa71ed9a9b5d11ed1e6b210f52e26f06d74181354130cc55841db26", func := "loop.example/g01348/laws.FnExactIsChain", spec := "fnExactIsChain", unfollowed := true, recurses := true, apart := false, narrowed := true }
def FnExactIsChainUptoSaid : Prop := fnExactIsChainUptoRow.holds Try.pinned (OpenSpec.upto fnExactIsChainSpec)

/-- 'laws.FnExactDeleteVertex', WHERE WHAT IT READS IS OF BULK AT MOST 1048576: true; the input reads as it did. -/
def fnExactDeleteVertexUptoRow : OpenClaim := { program := "ytdkoioiiacljeaa", sum := "1c291f8c0fa71ed9a9b5d11ed1e6b210f52e26f06d74181354130cc55841db26", func := "loop.example/g01348/laws.FnExactDeleteVertex", spec := "fnExactDeleteVertex", unfollowed := true, recurses := true, apart := false, narrowed := true }
def FnExactDeleteVertexUptoSaid : Prop := fnExactDeleteVertexUptoRow.holds Try.pinned (OpenSpec.upto fnExactDeleteVertexSpec)

/-- 'laws.FnExactFreePairs', WHERE WHAT IT READS IS OF BULK AT MOST 1048576: true; the input reads as it did. -/
def fnExactFreePairsUptoRow : OpenClaim := { program := "ytdkoioiiacljeaa", sum := "1c291f8c0fa71ed9a9b5d11ed1e6b210f52e26f06d74181354130cc55841db26", func := "loop.example/g01348/laws.FnExactFreePairs", spec := "fnExactFreePairs", unfollowed := true, recurses := true, apart := false, narrowed := true }
def FnExactFreePairsUptoSaid : Prop := fnExactFreePairsUptoRow.holds Try.pinned (OpenSpec.upto fnExactFreePairsSpec)

/-- 'laws.FnExactIsPure', WHERE WHAT IT READS IS OF BULK AT MOST 1048576: true; the input reads as it did. -/
def fnExactIsPureUptoRow : OpenClaim := { program := "ytdkoioiiacljeaa", sum := "1c291f8c0fa71ed9a9b5d11ed1e6b210f52e26f06d74181354130cc55841db26", func := "loop.example/g01348/laws.FnExactIsPure", spec := "fnExactIsPure", unfollowed := true, recurses := true, apart := false, narrowed := true }
def FnExactIsPureUptoSaid : Prop := fnExactIsPureUptoRow.holds Try.pinned (OpenSpec.upto fnExactIsPureSpec)

/-- 'laws.FnExactDominatedVertices', WHERE WHAT IT READS IS OF BULK AT MOST 1048576: true; the input reads as it did. -/
def fnExactDominatedVerticesUptoRow : OpenClaim := { program := "ytdkoioiiacljeaa", sum := "1c291f8c0fa71ed9a9b5d11ed1e6b210f52e26f06d74181354130cc55841db26", func := "loop.example/g01348/laws.FnExactDominatedVertices", spec := "fnExactDominatedVertices", unfollowed := true, recurses := true, apart := false, narrowed := true }
def FnExactDominatedVerticesUptoSaid : Prop := fnExactDominatedVerticesUptoRow.holds Try.pinned (OpenSpec.upto fnExactDominatedVerticesSpec)

/-- 'laws.FnExactCollapsePair', WHERE WHAT IT READS IS OF BULK AT MOST 1048576: true; the input reads as it did. -/
def fnExactCollapsePairUptoRow : OpenClaim := { program := "ytdkoioiiacljeaa", sum := "1c291f8c0fa71ed9a9b5d11ed1e6b210f52e26f06d74181354130cc55841db26", func := "loop.example/g01348/laws.FnExactCollapsePair", spec := "fnExactCollapsePair", unfollowed := true, recurses := true, apart := false, narrowed := true }
def FnExactCollapsePairUptoSaid : Prop := fnExactCollapsePairUptoRow.holds Try.pinned (OpenSpec.upto fnExactCollapsePairSpec)

/-- 'laws.FnExactIsCollapsible', WHERE WHAT IT READS IS OF BULK AT MOST 1048576: true; the input reads as it did. -/
def fnExactIsCollapsibleUptoRow : OpenClaim := { program := "ytdkoioiiacljeaa", sum := "1c291f8c0fa71ed9a9b5d11ed1e6b210f52e26f06d74181354130cc55841db26", func := "loop.example/g01348/laws.FnExactIsCollapsible", spec := "fnExactIsCollapsible", unfollowed := true, recurses := true, apart := false, narrowed := true }
def FnExactIsCollapsibleUptoSaid : Prop := fnExactIsCollapsibleUptoRow.holds Try.pinned (OpenSpec.upto fnExactIsCollapsibleSpec)

/-- 'laws.FnExactNumbersH', WHERE WHAT IT READS IS OF BULK AT MOST 1048576: true; the input reads as it did. -/
def fnExactNumbersHUptoRow : OpenClaim := { program := "ytdkoioiiacljeaa", sum := "1c291f8c0fa71ed9a9b5d11ed1e6b210f52e26f06d74181354130cc55841db26", func := "loop.example/g01348/laws.FnExactNumbersH", spec := "fnExactNumbersH", unfollowed := true, recurses := true, apart := false, narrowed := true }
def FnExactNumbersHUptoSaid : Prop := fnExactNumbersHUptoRow.holds Try.pinned (OpenSpec.upto fnExactNumbersHSpec)

end Rows
end Go.Proofs.Ytdkoioiiacljeaa
