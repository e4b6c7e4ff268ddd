/-
  No cell of these rows narrows 'for every input' (looked for: loops, veiled, ifaces, maps, wideKeys, modest, calm, conditions, laid).
  DERIVED. THE GIVEN ROWS OF THIS SEAT. 10 by the template 'for every input the law returns true; each argument reads behind the call as it read before'; 0 by the template 'total and deterministic' (their statements: YtomdfjohnmikdaaTotals.lean).
  GIVEN WITH THE SEED: the statements are not yours to turn. If you find one false, say at which input.
  Laid BY PROGRAM, IN A SANDBOX (cutbox-rows.mjs): the forced cells as the released guide's own fill.sh prints them over the translation 1ca01b049f5db4e8… (all of the seat's roots in one cut). By AI agents, Wed Nov 11 2026. No macro, syntax, notation, axiom, sorry.
-/
import Derived.Test.YtomdfjohnmikdaaChecked
import GoSem.Claim
import GoSem.ClaimJoined
import GoSem.ClaimMapViews
import Derived.JoinedTies
import Derived.KernelRfl
namespace Go.Proofs.Ytomdfjohnmikdaa
/- THE CELL 'sum', in the pinned program and in every row, IS THE sha256 OF THE DUMP (.gsa) THAT YtomdfjohnmikdaaProg.lean LOADS. Nothing in Lean hashes anything: it is a label: what it is worth is what the hold of that sum in a sandbox is worth. -/
noncomputable def Try.pinned : Pinned := { name := "ytomdfjohnmikdaa", sum := "1ca01b049f5db4e891ecb8883580491863b75246e8baaaae52727d20cad28d07", checked := Try.checked }
namespace Rows
def none {H : Type} : Left H := { results := [], args := [] }

/-- 'laws.FnExactInequalitiesFor': WHATEVER THE INPUT: true; the input reads as it did. -/
def fnExactInequalitiesForSpec : ChangeSpec := { name := "fnExactInequalitiesFor", fn := fun _ => fun
  | [d1, d2] => { results := [.lit (.bool true)], args := [d1, d2] }
  | _ => none }
def fnExactInequalitiesForRow : OpenClaim := { program := "ytomdfjohnmikdaa", sum := "1ca01b049f5db4e891ecb8883580491863b75246e8baaaae52727d20cad28d07", func := "loop.example/g01348/laws.FnExactInequalitiesFor", spec := "fnExactInequalitiesFor", unfollowed := true, recurses := true, apart := false }
def FnExactInequalitiesForSaid : Prop := fnExactInequalitiesForRow.holds Try.pinned (OpenSpec.ofChange fnExactInequalitiesForSpec)

/-- ITS FALSE NEIGHBOUR: 'it returns false'. Refute it at one input. -/
def fnExactInequalitiesForWrong : ChangeSpec := { name := "fnExactInequalitiesFor", fn := fun _ => fun
  | [d1, d2] => { results := [.lit (.bool false)], args := [d1, d2] }
  | _ => none }
def FnExactInequalitiesForWrongFalsely : Prop := fnExactInequalitiesForRow.holds Try.pinned (OpenSpec.ofChange fnExactInequalitiesForWrong)

/-- 'laws.FnExactFillPairing': WHATEVER THE INPUT: true; the input reads as it did. -/
def fnExactFillPairingSpec : ChangeSpec := { name := "fnExactFillPairing", fn := fun _ => fun
  | [d1, d2] => { results := [.lit (.bool true)], args := [d1, d2] }
  | _ => none }
def fnExactFillPairingRow : OpenClaim := { program := "ytomdfjohnmikdaa", sum := "1ca01b049f5db4e891ecb8883580491863b75246e8baaaae52727d20cad28d07", func := "loop.example/g01348/laws.FnExactFillPairing", spec := "fnExactFillPairing", inPlace := ["slices.overlaps[loop.example/g01348/impl.Pair]"], unfollowed := true, recurses := true, apart := false }
def FnExactFillPairingSaid : Prop := fnExactFillPairingRow.holds Try.pinned (OpenSpec.ofChange fnExactFillPairingSpec)

/-- ITS FALSE NEIGHBOUR: 'it returns false'. Refute it at one input. -/
def fnExactFillPairingWrong : ChangeSpec := { name := "fnExactFillPairing", fn := fun _ => fun
  | [d1, d2] => { results := [.lit (.bool false)], args := [d1, d2] }
  | _ => none }
def FnExactFillPairingWrongFalsely : Prop := fnExactFillPairingRow.holds Try.pinned (OpenSpec.ofChange fnExactFillPairingWrong)

/-- 'laws.FnExactIsPerfect': WHATEVER THE INPUT: true; the input reads as it did. -/
def fnExactIsPerfectSpec : ChangeSpec := { name := "fnExactIsPerfect", fn := fun _ => fun
  | [d1, d2] => { results := [.lit (.bool true)], args := [d1, d2] }
  | _ => none }
def fnExactIsPerfectRow : OpenClaim := { program := "ytomdfjohnmikdaa", sum := "1ca01b049f5db4e891ecb8883580491863b75246e8baaaae52727d20cad28d07", func := "loop.example/g01348/laws.FnExactIsPerfect", spec := "fnExactIsPerfect", unfollowed := true, recurses := true, apart := false }
def FnExactIsPerfectSaid : Prop := fnExactIsPerfectRow.holds Try.pinned (OpenSpec.ofChange fnExactIsPerfectSpec)

/-- ITS FALSE NEIGHBOUR: 'it returns false'. Refute it at one input. -/
def fnExactIsPerfectWrong : ChangeSpec := { name := "fnExactIsPerfect", fn := fun _ => fun
  | [d1, d2] => { results := [.lit (.bool false)], args := [d1, d2] }
  | _ => none }
def FnExactIsPerfectWrongFalsely : Prop := fnExactIsPerfectRow.holds Try.pinned (OpenSpec.ofChange fnExactIsPerfectWrong)

/-- 'laws.FnExactCountAcyclic': WHATEVER THE INPUT: true; the input reads as it did. -/
def fnExactCountAcyclicSpec : ChangeSpec := { name := "fnExactCountAcyclic", fn := fun _ => fun
  | [d] => { results := [.lit (.bool true)], args := [d] }
  | _ => none }
def fnExactCountAcyclicRow : OpenClaim := { program := "ytomdfjohnmikdaa", sum := "1ca01b049f5db4e891ecb8883580491863b75246e8baaaae52727d20cad28d07", func := "loop.example/g01348/laws.FnExactCountAcyclic", spec := "fnExactCountAcyclic", inPlace := ["slices.overlaps[loop.example/g01348/impl.Pair]"], unfollowed := true, recurses := true, apart := false }
def FnExactCountAcyclicSaid : Prop := fnExactCountAcyclicRow.holds Try.pinned (OpenSpec.ofChange fnExactCountAcyclicSpec)

/-- ITS FALSE NEIGHBOUR: 'it returns false'. Refute it at one input. -/
def fnExactCountAcyclicWrong : ChangeSpec := { name := "fnExactCountAcyclic", fn := fun _ => fun
  | [d] => { results := [.lit (.bool false)], args := [d] }
  | _ => none }
def FnExactCountAcyclicWrongFalsely : Prop := fnExactCountAcyclicRow.holds Try.pinned (OpenSpec.ofChange fnExactCountAcyclicWrong)

/-- 'laws.FnExactFirstShelling': WHATEVER THE INPUT: true; the input reads as it did. -/
def fnExactFirstShellingSpec : ChangeSpec := { name := "fnExactFirstShelling", fn := fun _ => fun
  | [d] => { results := [.lit (.bool true)], args := [d] }
  | _ => none }
def fnExactFirstShellingRow : OpenClaim := { program := "ytomdfjohnmikdaa", sum := "1ca01b049f5db4e891ecb8883580491863b75246e8baaaae52727d20cad28d07", func := "loop.example/g01348/laws.FnExactFirstShelling", spec := "fnExactFirstShelling", unfollowed := true, recurses := true, apart := false }
def FnExactFirstShellingSaid : Prop := fnExactFirstShellingRow.holds Try.pinned (OpenSpec.ofChange fnExactFirstShellingSpec)

/-- ITS FALSE NEIGHBOUR: 'it returns false'. Refute it at one input. -/
def fnExactFirstShellingWrong : ChangeSpec := { name := "fnExactFirstShelling", fn := fun _ => fun
  | [d] => { results := [.lit (.bool false)], args := [d] }
  | _ => none }
def FnExactFirstShellingWrongFalsely : Prop := fnExactFirstShellingRow.holds Try.pinned (OpenSpec.ofChange fnExactFirstShellingWrong)

/-- 'laws.FnExactIsShelling': WHATEVER THE INPUT: true; the input reads as it did. -/
def fnExactIsShellingSpec : ChangeSpec := { name := "fnExactIsShelling", fn := fun _ => fun
  | [d1, d2] => { results := [.lit (.bool true)], args := [d1, d2] }
  | _ => none }
def fnExactIsShellingRow : OpenClaim := { program := "ytomdfjohnmikdaa", sum := "1ca01b049f5db4e891ecb8883580491863b75246e8baaaae52727d20cad28d07", func := "loop.example/g01348/laws.FnExactIsShelling", spec := "fnExactIsShelling", unfollowed := true, recurses := true, apart := false }
def FnExactIsShellingSaid : Prop := fnExactIsShellingRow.holds Try.pinned (OpenSpec.ofChange fnExactIsShellingSpec)

/-- ITS FALSE NEIGHBOUR: 'it returns false'. Refute it at one input. -/
def fnExactIsShellingWrong : ChangeSpec := { name := "fnExactIsShelling", fn := fun _ => fun
  | [d1, d2] => { results := [.lit (.bool false)], args := [d1, d2] }
  | _ => none }
def FnExactIsShellingWrongFalsely : Prop := fnExactIsShellingRow.holds Try.pinned (OpenSpec.ofChange fnExactIsShellingWrong)

/-- 'laws.FnExactRestrictionsOf': WHATEVER THE INPUT: true; the input reads as it did. -/
def fnExactRestrictionsOfSpec : ChangeSpec := { name := "fnExactRestrictionsOf", fn := fun _ => fun
  | [d1, d2] => { results := [.lit (.bool true)], args := [d1, d2] }
  | _ => none }
def fnExactRestrictionsOfRow : OpenClaim := { program := "ytomdfjohnmikdaa", sum := "1ca01b049f5db4e891ecb8883580491863b75246e8baaaae52727d20cad28d07", func := "loop.example/g01348/laws.FnExactRestrictionsOf", spec := "fnExactRestrictionsOf", unfollowed := true, recurses := true, apart := false }
def FnExactRestrictionsOfSaid : Prop := fnExactRestrictionsOfRow.holds Try.pinned (OpenSpec.ofChange fnExactRestrictionsOfSpec)

/-- ITS FALSE NEIGHBOUR: 'it returns false'. Refute it at one input. -/
def fnExactRestrictionsOfWrong : ChangeSpec := { name := "fnExactRestrictionsOf", fn := fun _ => fun
  | [d1, d2] => { results := [.lit (.bool false)], args := [d1, d2] }
  | _ => none }
def FnExactRestrictionsOfWrongFalsely : Prop := fnExactRestrictionsOfRow.holds Try.pinned (OpenSpec.ofChange fnExactRestrictionsOfWrong)

/-- 'laws.FnExactLeastCritical': WHATEVER THE INPUT: true; the input reads as it did. -/
def fnExactLeastCriticalSpec : ChangeSpec := { name := "fnExactLeastCritical", fn := fun _ => fun
  | [d] => { results := [.lit (.bool true)], args := [d] }
  | _ => none }
def fnExactLeastCriticalRow : OpenClaim := { program := "ytomdfjohnmikdaa", sum := "1ca01b049f5db4e891ecb8883580491863b75246e8baaaae52727d20cad28d07", func := "loop.example/g01348/laws.FnExactLeastCritical", spec := "fnExactLeastCritical", unfollowed := true, recurses := true, apart := false }
def FnExactLeastCriticalSaid : Prop := fnExactLeastCriticalRow.holds Try.pinned (OpenSpec.ofChange fnExactLeastCriticalSpec)

/-- ITS FALSE NEIGHBOUR: 'it returns false'. Refute it at one input. -/
def fnExactLeastCriticalWrong : ChangeSpec := { name := "fnExactLeastCritical", fn := fun _ => fun
  | [d] => { results := [.lit (.bool false)], args := [d] }
  | _ => none }
def FnExactLeastCriticalWrongFalsely : Prop := fnExactLeastCriticalRow.holds Try.pinned (OpenSpec.ofChange fnExactLeastCriticalWrong)

/-- 'laws.FnExactBestPairing': WHATEVER THE INPUT: true; the input reads as it did. -/
def fnExactBestPairingSpec : ChangeSpec := { name := "fnExactBestPairing", fn := fun _ => fun
  | [d] => { results := [.lit (.bool true)], args := [d] }
  | _ => none }
def fnExactBestPairingRow : OpenClaim := { program := "ytomdfjohnmikdaa", sum := "1ca01b049f5db4e891ecb8883580491863b75246e8baaaae52727d20cad28d07", func := "loop.example/g01348/laws.FnExactBestPairing", spec := "fnExactBestPairing", unfollowed := true, recurses := true, apart := false }
def FnExactBestPairingSaid : Prop := fnExactBestPairingRow.holds Try.pinned (OpenSpec.ofChange fnExactBestPairingSpec)

/-- ITS FALSE NEIGHBOUR: 'it returns false'. Refute it at one input. -/
def fnExactBestPairingWrong : ChangeSpec := { name := "fnExactBestPairing", fn := fun _ => fun
  | [d] => { results := [.lit (.bool false)], args := [d] }
  | _ => none }
def FnExactBestPairingWrongFalsely : Prop := fnExactBestPairingRow.holds Try.pinned (OpenSpec.ofChange fnExactBestPairingWrong)

/-- 'laws.FnExactMorseBoundary': WHATEVER THE INPUT: true; the input reads as it did. -/
def fnExactMorseBoundarySpec : ChangeSpec := { name := "fnExactMorseBoundary", fn := fun _ => fun
  | [d1, d2, d3] => { results := [.lit (.bool true)], args := [d1, d2, d3] }
  | _ => none }
def fnExactMorseBoundaryRow : OpenClaim := { program := "ytomdfjohnmikdaa", sum := "1ca01b049f5db4e891ecb8883580491863b75246e8baaaae52727d20cad28d07", func := "loop.example/g01348/laws.FnExactMorseBoundary", spec := "fnExactMorseBoundary", unfollowed := true, recurses := true, apart := false }
def FnExactMorseBoundarySaid : Prop := fnExactMorseBoundaryRow.holds Try.pinned (OpenSpec.ofChange fnExactMorseBoundarySpec)

/-- ITS FALSE NEIGHBOUR: 'it returns false'. Refute it at one input. -/
def fnExactMorseBoundaryWrong : ChangeSpec := { name := "fnExactMorseBoundary", fn := fun _ => fun
  | [d1, d2, d3] => { results := [.lit (.bool false)], args := [d1, d2, d3] }
  | _ => none }
def FnExactMorseBoundaryWrongFalsely : Prop := fnExactMorseBoundaryRow.holds Try.pinned (OpenSpec.ofChange fnExactMorseBoundaryWrong)

/- THE SECOND FORM. 'bulk': how many values and letters a reading holds, each counted each time it is reached (what is shared counts as often as it is met; a slice's spare places count too). A statement '..UptoSaid' is the law's where the arguments, and the package variables that the reading takes, are together of bulk at most 1048576: NARROWER than '..Said'. Prove '..Said' where nothing that the law and all that it calls make is longer than what came in: it says more and counts as full. Else prove '..UptoSaid'. A law counts once. -/
mutual
def uptoBulk {H : Type} : DataW H → Nat
  | .lit (.string bytes) => bytes.length + 1
  | .lit _ => 1
  | .nil => 1
  | .ptr d => uptoBulk d + 1
  | .slice elems spare => uptoBulkAll elems + uptoBulkAll spare + 1
  | .agg parts => uptoBulkAll parts + 1
  | .iface _ d => uptoBulk d + 1
  | .map entries => uptoBulkEntries entries + 1
  | .held _ => 1
def uptoBulkAll {H : Type} : List (DataW H) → Nat
  | [] => 0
  | d :: r => uptoBulk d + uptoBulkAll r
def uptoBulkEntries {H : Type} : List (Lit × DataW H) → Nat
  | [] => 0
  | x :: r => uptoBulkEntry x + uptoBulkEntries r
def uptoBulkEntry {H : Type} : Lit × DataW H → Nat
  | (.string bytes, d) => bytes.length + uptoBulk d + 1
  | (_, d) => uptoBulk d + 1
 end
def uptoSmall : (H : Type) → List (DataW H) → Bool := fun _ ds => decide (uptoBulkAll ds ≤ 1048576)
def OpenSpec.upto (s : _root_.Go.ChangeSpec) : _root_.Go.OpenSpec := { _root_.Go.OpenSpec.ofChange s with cond := some uptoSmall }

/-- 'laws.FnExactInequalitiesFor', WHERE WHAT IT READS IS OF BULK AT MOST 1048576: true; the input reads as it did. -/
def fnExactInequalitiesForUptoRow : OpenClaim := { program := "ytomdfjohnmikdaa", sum := "1ca01b049f5db4e891ecb8883580491863b75246e8baaaae52727d20cad28d07", func := "loop.example/g01348/laws.FnExactInequalitiesFor", spec := "fnExactInequalitiesFor", unfollowed := true, recurses := true, apart := false, narrowed := true }
def FnExactInequalitiesForUptoSaid : Prop := fnExactInequalitiesForUptoRow.holds Try.pinned (OpenSpec.upto fnExactInequalitiesForSpec)

/-- 'laws.FnExactFillPairing', WHERE WHAT IT READS IS OF BULK AT MOST 1048576: true; the input reads as it did. -/
def fnExactFillPairingUptoRow : OpenClaim := { program := "ytomdfjohnmikdaa", sum := "1ca01b049f5db4e891ecb8883580491863b75246e8baaaae52727d20cad28d07", func := "loop.example/g01348/laws.FnExactFillPairing", spec := "fnExactFillPairing", inPlace := ["slices.overlaps[loop.example/g01348/impl.Pair]"], unfollowed := true, recurses := true, apart := false, narrowed := true }
def FnExactFillPairingUptoSaid : Prop := fnExactFillPairingUptoRow.holds Try.pinned (OpenSpec.upto fnExactFillPairingSpec)

/-- 'laws.FnExactIsPerfect', WHERE WHAT IT READS IS OF BULK AT MOST 1048576: true; the input reads as it did. -/
def fnExactIsPerfectUptoRow : OpenClaim := { program := "ytomdfjohnmikdaa", sum := "1ca01b049f5db4e891ecb8883580491863b75246e8baaaae52727d20cad28d07", func := "loop.example/g01348/laws.FnExactIsPerfect", spec := "fnExactIsPerfect", unfollowed := true, recurses := true, apart := false, narrowed := true }
def FnExactIsPerfectUptoSaid : Prop := fnExactIsPerfectUptoRow.holds Try.pinned (OpenSpec.upto fnExactIsPerfectSpec)

/-- 'laws.FnExactCountAcyclic', WHERE WHAT IT READS IS OF BULK AT MOST 1048576: true; the input reads as it did. -/
def fnExactCountAcyclicUptoRow : OpenClaim := { program := "ytomdfjohnmikdaa", sum := "1ca01b049f5db4e891ecb8883580491863b75246e8baaaae52727d20cad28d07", func := "loop.example/g01348/laws.FnExactCountAcyclic", spec := "fnExactCountAcyclic", inPlace := ["slices.overlaps[loop.example/g01348/impl.Pair]"], unfollowed := true, recurses := true, apart := false, narrowed := true }
def FnExactCountAcyclicUptoSaid : Prop := fnExactCountAcyclicUptoRow.holds Try.pinned (OpenSpec.upto fnExactCountAcyclicSpec)

/-- 'laws.FnExactFirstShelling', WHERE WHAT IT READS IS OF BULK AT MOST 1048576: true; the input reads as it did. -/
def fnExactFirstShellingUptoRow : OpenClaim := { program := "ytomdfjohnmikdaa", sum := "1ca01b049f5db4e891ecb8883580491863b75246e8baaaae52727d20cad28d07", func := "loop.example/g01348/laws.FnExactFirstShelling", spec := "fnExactFirstShelling", unfollowed := true, recurses := true, apart := false, narrowed := true }
def FnExactFirstShellingUptoSaid : Prop := fnExactFirstShellingUptoRow.holds Try.pinned (OpenSpec.upto fnExactFirstShellingSpec)

/-- 'laws.FnExactIsShelling', WHERE WHAT IT READS IS OF BULK AT MOST 1048576: true; the input reads as it did. -/
def fnExactIsShellingUptoRow : OpenClaim := { program := "ytomdfjohnmikdaa", sum := "1ca01b049f5db4e891ecb8883580491863b75246e8baaaae52727d20cad28d07", func := "loop.example/g01348/laws.FnExactIsShelling", spec := "fnExactIsShelling", unfollowed := true, recurses := true, apart := false, narrowed := true }
def FnExactIsShellingUptoSaid : Prop := fnExactIsShellingUptoRow.holds Try.pinned (OpenSpec.upto fnExactIsShellingSpec)

/-- 'laws.FnExactRestrictionsOf', WHERE WHAT IT READS IS OF BULK AT MOST 1048576: true; the input reads as it did. -/
def fnExactRestrictionsOfUptoRow : OpenClaim := { program := "ytomdfjohnmikdaa", sum := "1ca01b049f5db4e891ecb8883580491863b75246e8baaaae52727d20cad28d07", func := "loop.example/g01348/laws.FnExactRestrictionsOf", spec := "fnExactRestrictionsOf", unfollowed := true, recurses := true, apart := false, narrowed := true }
def FnExactRestrictionsOfUptoSaid : Prop := fnExactRestrictionsOfUptoRow.holds Try.pinned (OpenSpec.upto fnExactRestrictionsOfSpec)

/-- 'laws.FnExactLeastCritical', WHERE WHAT IT READS IS OF BULK AT MOST 1048576: true; the input reads as it did. -/
def fnExactLeastCriticalUptoRow : OpenClaim := { program := "ytomdfjohnmikdaa", sum := "1ca01b049f5db4e891ecb8883580491863b75246e8baaaae52727d20cad28d07", func := "loop.example/g01348/laws.FnExactLeastCritical", spec := "fnExactLeastCritical", unfollowed := true, recurses := true, apart := false, narrowed := true }
def FnExactLeastCriticalUptoSaid : Prop := fnExactLeastCriticalUptoRow.holds Try.pinned (OpenSpec.upto fnExactLeastCriticalSpec)

/-- 'laws.FnExactBestPairing', WHERE WHAT IT READS IS OF BULK AT MOST 1048576: true; the input reads as it did. -/
def fnExactBestPairingUptoRow : OpenClaim := { program := "ytomdfjohnmikdaa", sum := "1ca01b049f5db4e891ecb8883580491863b75246e8baaaae52727d20cad28d07", func := "loop.example/g01348/laws.FnExactBestPairing", spec := "fnExactBestPairing", unfollowed := true, recurses := true, apart := false, narrowed := true }
def FnExactBestPairingUptoSaid : Prop := fnExactBestPairingUptoRow.holds Try.pinned (OpenSpec.upto fnExactBestPairingSpec)

/-- 'laws.FnExactMorseBoundary', WHERE WHAT IT READS IS OF BULK AT MOST 1048576: true; the input reads as it did. -/
def fnExactMorseBoundaryUptoRow : OpenClaim := { program := "ytomdfjohnmikdaa", sum := "1ca01b049f5db4e891ecb8883580491863b75246e8baaaae52727d20cad28d07", func := "loop.example/g01348/laws.FnExactMorseBoundary", spec := "fnExactMorseBoundary", unfollowed := true, recurses := true, apart := false, narrowed := true }
def FnExactMorseBoundaryUptoSaid : Prop := fnExactMorseBoundaryUptoRow.holds Try.pinned (OpenSpec.upto fnExactMorseBoundarySpec)

end Rows
end Go.Proofs.Ytomdfjohnmikdaa
