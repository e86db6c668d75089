/-
  No cell of these rows narrows 'for every input' (looked for: loops, veiled, ifaces, maps, wideKeys, modest, calm, conditions, laid).
  DERIVED. THE GIVEN ROWS OF THIS SEAT. 10 by the template 'for every input the law returns true; each argument reads behind the call as it read before'; 0 by the template 'total and deterministic' (their statements: YtjajlmaldeoobaaTotals.lean).
  GIVEN WITH THE SEED: the statements are not yours to turn. If you find one false, say at which input.
  Laid BY PROGRAM, IN A SANDBOX (cutbox-rows.mjs): the forced cells as the released guide's own fill.sh prints them over the translation cd9ef93489869a63… (all of the seat's roots in one cut). By AI agents, Wed Nov 11 2026. No macro, syntax, notation, axiom, sorry.
-/
import Derived.Test.YtjajlmaldeoobaaChecked
import GoSem.Claim
import GoSem.ClaimJoined
import GoSem.ClaimMapViews
import Derived.JoinedTies
import Derived.KernelRfl
namespace Go.Proofs.Ytjajlmaldeoobaa
/- THE CELL 'sum', in the pinned program and in every row, IS THE sha256 OF THE DUMP (.gsa) THAT YtjajlmaldeoobaaProg.lean LOADS. Nothing in Lean hashes anything: it is a label: what it is worth is what the hold of that sum in a sandbox is worth. -/
noncomputable def Try.pinned : Pinned := { name := "ytjajlmaldeoobaa", sum := "cd9ef93489869a632f3f35f1c72b3d727d85bc4d07cd0dd9656ba33ced6142ed", checked := Try.checked }
namespace Rows
def none {H : Type} : Left H := { results := [], args := [] }

/-- 'laws.FnExactStrayIn': WHATEVER THE INPUT: true; the input reads as it did. -/
def fnExactStrayInSpec : ChangeSpec := { name := "fnExactStrayIn", fn := fun _ => fun
  | [d1, d2] => { results := [.lit (.bool true)], args := [d1, d2] }
  | _ => none }
def fnExactStrayInRow : OpenClaim := { program := "ytjajlmaldeoobaa", sum := "cd9ef93489869a632f3f35f1c72b3d727d85bc4d07cd0dd9656ba33ced6142ed", func := "loop.example/g01353/laws.FnExactStrayIn", spec := "fnExactStrayIn", unfollowed := true, recurses := true, apart := false }
def FnExactStrayInSaid : Prop := fnExactStrayInRow.holds Try.pinned (OpenSpec.ofChange fnExactStrayInSpec)

/-- ITS FALSE NEIGHBOUR: 'it returns false'. Refute it at one input. -/
def fnExactStrayInWrong : ChangeSpec := { name := "fnExactStrayIn", fn := fun _ => fun
  | [d1, d2] => { results := [.lit (.bool false)], args := [d1, d2] }
  | _ => none }
def FnExactStrayInWrongFalsely : Prop := fnExactStrayInRow.holds Try.pinned (OpenSpec.ofChange fnExactStrayInWrong)

/-- 'laws.FnExactSameBottles': WHATEVER THE INPUT: true; the input reads as it did. -/
def fnExactSameBottlesSpec : ChangeSpec := { name := "fnExactSameBottles", fn := fun _ => fun
  | [d1, d2] => { results := [.lit (.bool true)], args := [d1, d2] }
  | _ => none }
def fnExactSameBottlesRow : OpenClaim := { program := "ytjajlmaldeoobaa", sum := "cd9ef93489869a632f3f35f1c72b3d727d85bc4d07cd0dd9656ba33ced6142ed", func := "loop.example/g01353/laws.FnExactSameBottles", spec := "fnExactSameBottles", unfollowed := true, recurses := true, apart := false }
def FnExactSameBottlesSaid : Prop := fnExactSameBottlesRow.holds Try.pinned (OpenSpec.ofChange fnExactSameBottlesSpec)

/-- ITS FALSE NEIGHBOUR: 'it returns false'. Refute it at one input. -/
def fnExactSameBottlesWrong : ChangeSpec := { name := "fnExactSameBottles", fn := fun _ => fun
  | [d1, d2] => { results := [.lit (.bool false)], args := [d1, d2] }
  | _ => none }
def FnExactSameBottlesWrongFalsely : Prop := fnExactSameBottlesRow.holds Try.pinned (OpenSpec.ofChange fnExactSameBottlesWrong)

/-- 'laws.FnExactMostOf': WHATEVER THE INPUT: true; the input reads as it did. -/
def fnExactMostOfSpec : ChangeSpec := { name := "fnExactMostOf", fn := fun _ => fun
  | [d] => { results := [.lit (.bool true)], args := [d] }
  | _ => none }
def fnExactMostOfRow : OpenClaim := { program := "ytjajlmaldeoobaa", sum := "cd9ef93489869a632f3f35f1c72b3d727d85bc4d07cd0dd9656ba33ced6142ed", func := "loop.example/g01353/laws.FnExactMostOf", spec := "fnExactMostOf", unfollowed := true, recurses := true, apart := false }
def FnExactMostOfSaid : Prop := fnExactMostOfRow.holds Try.pinned (OpenSpec.ofChange fnExactMostOfSpec)

/-- ITS FALSE NEIGHBOUR: 'it returns false'. Refute it at one input. -/
def fnExactMostOfWrong : ChangeSpec := { name := "fnExactMostOf", fn := fun _ => fun
  | [d] => { results := [.lit (.bool false)], args := [d] }
  | _ => none }
def FnExactMostOfWrongFalsely : Prop := fnExactMostOfRow.holds Try.pinned (OpenSpec.ofChange fnExactMostOfWrong)

/-- 'laws.FnExactMixedIn': WHATEVER THE INPUT: true; the input reads as it did. -/
def fnExactMixedInSpec : ChangeSpec := { name := "fnExactMixedIn", fn := fun _ => fun
  | [d] => { results := [.lit (.bool true)], args := [d] }
  | _ => none }
def fnExactMixedInRow : OpenClaim := { program := "ytjajlmaldeoobaa", sum := "cd9ef93489869a632f3f35f1c72b3d727d85bc4d07cd0dd9656ba33ced6142ed", func := "loop.example/g01353/laws.FnExactMixedIn", spec := "fnExactMixedIn", unfollowed := true, recurses := true, apart := false }
def FnExactMixedInSaid : Prop := fnExactMixedInRow.holds Try.pinned (OpenSpec.ofChange fnExactMixedInSpec)

/-- ITS FALSE NEIGHBOUR: 'it returns false'. Refute it at one input. -/
def fnExactMixedInWrong : ChangeSpec := { name := "fnExactMixedIn", fn := fun _ => fun
  | [d] => { results := [.lit (.bool false)], args := [d] }
  | _ => none }
def FnExactMixedInWrongFalsely : Prop := fnExactMixedInRow.holds Try.pinned (OpenSpec.ofChange fnExactMixedInWrong)

/-- 'laws.FnExactPureStack': WHATEVER THE INPUT: true; the input reads as it did. -/
def fnExactPureStackSpec : ChangeSpec := { name := "fnExactPureStack", fn := fun _ => fun
  | [d] => { results := [.lit (.bool true)], args := [d] }
  | _ => none }
def fnExactPureStackRow : OpenClaim := { program := "ytjajlmaldeoobaa", sum := "cd9ef93489869a632f3f35f1c72b3d727d85bc4d07cd0dd9656ba33ced6142ed", func := "loop.example/g01353/laws.FnExactPureStack", spec := "fnExactPureStack", unfollowed := true, recurses := true, apart := false }
def FnExactPureStackSaid : Prop := fnExactPureStackRow.holds Try.pinned (OpenSpec.ofChange fnExactPureStackSpec)

/-- ITS FALSE NEIGHBOUR: 'it returns false'. Refute it at one input. -/
def fnExactPureStackWrong : ChangeSpec := { name := "fnExactPureStack", fn := fun _ => fun
  | [d] => { results := [.lit (.bool false)], args := [d] }
  | _ => none }
def FnExactPureStackWrongFalsely : Prop := fnExactPureStackRow.holds Try.pinned (OpenSpec.ofChange fnExactPureStackWrong)

/-- 'laws.FnExactMovesFor': WHATEVER THE INPUT: true; the input reads as it did. -/
def fnExactMovesForSpec : ChangeSpec := { name := "fnExactMovesFor", fn := fun _ => fun
  | [d1, d2] => { results := [.lit (.bool true)], args := [d1, d2] }
  | _ => none }
def fnExactMovesForRow : OpenClaim := { program := "ytjajlmaldeoobaa", sum := "cd9ef93489869a632f3f35f1c72b3d727d85bc4d07cd0dd9656ba33ced6142ed", func := "loop.example/g01353/laws.FnExactMovesFor", spec := "fnExactMovesFor", unfollowed := true, recurses := true, apart := false }
def FnExactMovesForSaid : Prop := fnExactMovesForRow.holds Try.pinned (OpenSpec.ofChange fnExactMovesForSpec)

/-- ITS FALSE NEIGHBOUR: 'it returns false'. Refute it at one input. -/
def fnExactMovesForWrong : ChangeSpec := { name := "fnExactMovesFor", fn := fun _ => fun
  | [d1, d2] => { results := [.lit (.bool false)], args := [d1, d2] }
  | _ => none }
def FnExactMovesForWrongFalsely : Prop := fnExactMovesForRow.holds Try.pinned (OpenSpec.ofChange fnExactMovesForWrong)

/-- 'laws.FnExactBestRings': WHATEVER THE INPUT: true; the input reads as it did. -/
def fnExactBestRingsSpec : ChangeSpec := { name := "fnExactBestRings", fn := fun _ => fun
  | [d1, d2] => { results := [.lit (.bool true)], args := [d1, d2] }
  | _ => none }
def fnExactBestRingsRow : OpenClaim := { program := "ytjajlmaldeoobaa", sum := "cd9ef93489869a632f3f35f1c72b3d727d85bc4d07cd0dd9656ba33ced6142ed", func := "loop.example/g01353/laws.FnExactBestRings", spec := "fnExactBestRings", unfollowed := true, recurses := true, apart := false }
def FnExactBestRingsSaid : Prop := fnExactBestRingsRow.holds Try.pinned (OpenSpec.ofChange fnExactBestRingsSpec)

/-- ITS FALSE NEIGHBOUR: 'it returns false'. Refute it at one input. -/
def fnExactBestRingsWrong : ChangeSpec := { name := "fnExactBestRings", fn := fun _ => fun
  | [d1, d2] => { results := [.lit (.bool false)], args := [d1, d2] }
  | _ => none }
def FnExactBestRingsWrongFalsely : Prop := fnExactBestRingsRow.holds Try.pinned (OpenSpec.ofChange fnExactBestRingsWrong)

/-- 'laws.FnExactBestLabels': WHATEVER THE INPUT: true; the input reads as it did. -/
def fnExactBestLabelsSpec : ChangeSpec := { name := "fnExactBestLabels", fn := fun _ => fun
  | [d] => { results := [.lit (.bool true)], args := [d] }
  | _ => none }
def fnExactBestLabelsRow : OpenClaim := { program := "ytjajlmaldeoobaa", sum := "cd9ef93489869a632f3f35f1c72b3d727d85bc4d07cd0dd9656ba33ced6142ed", func := "loop.example/g01353/laws.FnExactBestLabels", spec := "fnExactBestLabels", unfollowed := true, recurses := true, apart := false }
def FnExactBestLabelsSaid : Prop := fnExactBestLabelsRow.holds Try.pinned (OpenSpec.ofChange fnExactBestLabelsSpec)

/-- ITS FALSE NEIGHBOUR: 'it returns false'. Refute it at one input. -/
def fnExactBestLabelsWrong : ChangeSpec := { name := "fnExactBestLabels", fn := fun _ => fun
  | [d] => { results := [.lit (.bool false)], args := [d] }
  | _ => none }
def FnExactBestLabelsWrongFalsely : Prop := fnExactBestLabelsRow.holds Try.pinned (OpenSpec.ofChange fnExactBestLabelsWrong)

/-- 'laws.FnExactLeastSwaps': WHATEVER THE INPUT: true; the input reads as it did. -/
def fnExactLeastSwapsSpec : ChangeSpec := { name := "fnExactLeastSwaps", fn := fun _ => fun
  | [d1, d2] => { results := [.lit (.bool true)], args := [d1, d2] }
  | _ => none }
def fnExactLeastSwapsRow : OpenClaim := { program := "ytjajlmaldeoobaa", sum := "cd9ef93489869a632f3f35f1c72b3d727d85bc4d07cd0dd9656ba33ced6142ed", func := "loop.example/g01353/laws.FnExactLeastSwaps", spec := "fnExactLeastSwaps", unfollowed := true, recurses := true, apart := false }
def FnExactLeastSwapsSaid : Prop := fnExactLeastSwapsRow.holds Try.pinned (OpenSpec.ofChange fnExactLeastSwapsSpec)

/-- ITS FALSE NEIGHBOUR: 'it returns false'. Refute it at one input. -/
def fnExactLeastSwapsWrong : ChangeSpec := { name := "fnExactLeastSwaps", fn := fun _ => fun
  | [d1, d2] => { results := [.lit (.bool false)], args := [d1, d2] }
  | _ => none }
def FnExactLeastSwapsWrongFalsely : Prop := fnExactLeastSwapsRow.holds Try.pinned (OpenSpec.ofChange fnExactLeastSwapsWrong)

/-- 'laws.FnExactRingsOf': WHATEVER THE INPUT: true; the input reads as it did. -/
def fnExactRingsOfSpec : ChangeSpec := { name := "fnExactRingsOf", fn := fun _ => fun
  | [d1, d2, d3] => { results := [.lit (.bool true)], args := [d1, d2, d3] }
  | _ => none }
def fnExactRingsOfRow : OpenClaim := { program := "ytjajlmaldeoobaa", sum := "cd9ef93489869a632f3f35f1c72b3d727d85bc4d07cd0dd9656ba33ced6142ed", func := "loop.example/g01353/laws.FnExactRingsOf", spec := "fnExactRingsOf", unfollowed := true, recurses := true, apart := false }
def FnExactRingsOfSaid : Prop := fnExactRingsOfRow.holds Try.pinned (OpenSpec.ofChange fnExactRingsOfSpec)

/-- ITS FALSE NEIGHBOUR: 'it returns false'. Refute it at one input. -/
def fnExactRingsOfWrong : ChangeSpec := { name := "fnExactRingsOf", fn := fun _ => fun
  | [d1, d2, d3] => { results := [.lit (.bool false)], args := [d1, d2, d3] }
  | _ => none }
def FnExactRingsOfWrongFalsely : Prop := fnExactRingsOfRow.holds Try.pinned (OpenSpec.ofChange fnExactRingsOfWrong)

/- THE SECOND FORM. 'bulk': how many values and letters a reading holds, each counted each time it is reached (what is shared counts as often as it is met; a slice's spare places count too). A statement '..UptoSaid' is the law's where the arguments, and the package variables that the reading takes, are together of bulk at most 1048576: NARROWER than '..Said'. Prove '..Said' where nothing that the law and all that it calls make is longer than what came in: it says more and counts as full. Else prove '..UptoSaid'. A law counts once. -/
mutual
def uptoBulk {H : Type} : DataW H → Nat
  | .lit (.string bytes) => bytes.length + 1
  | .lit _ => 1
  | .nil => 1
  | .ptr d => uptoBulk d + 1
  | .slice elems spare => uptoBulkAll elems + uptoBulkAll spare + 1
  | .agg parts => uptoBulkAll parts + 1
  | .iface _ d => uptoBulk d + 1
  | .map entries => uptoBulkEntries entries + 1
  | .held _ => 1
def uptoBulkAll {H : Type} : List (DataW H) → Nat
  | [] => 0
  | d :: r => uptoBulk d + uptoBulkAll r
def uptoBulkEntries {H : Type} : List (Lit × DataW H) → Nat
  | [] => 0
  | x :: r => uptoBulkEntry x + uptoBulkEntries r
def uptoBulkEntry {H : Type} : Lit × DataW H → Nat
  | (.string bytes, d) => bytes.length + uptoBulk d + 1
  | (_, d) => uptoBulk d + 1
 end
def uptoSmall : (H : Type) → List (DataW H) → Bool := fun _ ds => decide (uptoBulkAll ds ≤ 1048576)
def OpenSpec.upto (s : _root_.Go.ChangeSpec) : _root_.Go.OpenSpec := { _root_.Go.OpenSpec.ofChange s with cond := some uptoSmall }

/-- 'laws.FnExactStrayIn', WHERE WHAT IT READS IS OF BULK AT MOST 1048576: true; the input reads as it did. -/
def fnExactStrayInUptoRow : OpenClaim := { program := "ytjajlmaldeoobaa", sum := "cd9ef93489869a632f3f35f1c72b3d727d85bc4d07cd0dd9656ba33ced6142ed", func := "loop.example/g01353/laws.FnExactStrayIn", spec := "fnExactStrayIn", unfollowed := true, recurses := true, apart := false, narrowed := true }
def FnExactStrayInUptoSaid : Prop := fnExactStrayInUptoRow.holds Try.pinned (OpenSpec.upto fnExactStrayInSpec)

/-- 'laws.FnExactSameBottles', WHERE WHAT IT READS IS OF BULK AT MOST 1048576: true; the input reads as it did. -/
def fnExactSameBottlesUptoRow : OpenClaim := { program := "ytjajlmaldeoobaa", sum := "cd9ef93489869a632f3f35f1c72b3d727d85bc4d07cd0dd9656ba33ced6142ed", func := "loop.example/g01353/laws.FnExactSameBottles", spec := "fnExactSameBottles", unfollowed := true, recurses := true, apart := false, narrowed := true }
def FnExactSameBottlesUptoSaid : Prop := fnExactSameBottlesUptoRow.holds Try.pinned (OpenSpec.upto fnExactSameBottlesSpec)

/-- 'laws.FnExactMostOf', WHERE WHAT IT READS IS OF BULK AT MOST 1048576: true; the input reads as it did. -/
def fnExactMostOfUptoRow : OpenClaim := { program := "ytjajlmaldeoobaa", sum := "cd9ef93489869a632f3f35f1c72b3d727d85bc4d07cd0dd9656ba33ced6142ed", func := "loop.example/g01353/laws.FnExactMostOf", spec := "fnExactMostOf", unfollowed := true, recurses := true, apart := false, narrowed := true }
def FnExactMostOfUptoSaid : Prop := fnExactMostOfUptoRow.holds Try.pinned (OpenSpec.upto fnExactMostOfSpec)

/-- 'laws.FnExactMixedIn', WHERE WHAT IT READS IS OF BULK AT MOST 1048576: true; the input reads as it did. -/
def fnExactMixedInUptoRow : OpenClaim := { program := "ytjajlmaldeoobaa", sum := "cd9ef93489869a632f3f35f1c72b3d727d85bc4d07cd0dd9656ba33ced6142ed", func := "loop.example/g01353/laws.FnExactMixedIn", spec := "fnExactMixedIn", unfollowed := true, recurses := true, apart := false, narrowed := true }
def FnExactMixedInUptoSaid : Prop := fnExactMixedInUptoRow.holds Try.pinned (OpenSpec.upto fnExactMixedInSpec)

/-- 'laws.FnExactPureStack', WHERE WHAT IT READS IS OF BULK AT MOST 1048576: true; the input reads as it did. -/
def fnExactPureStackUptoRow : OpenClaim := { program := "ytjajlmaldeoobaa", sum := "cd9ef93489869a632f3f35f1c72b3d727d85bc4d07cd0dd9656ba33ced6142ed", func := "loop.example/g01353/laws.FnExactPureStack", spec := "fnExactPureStack", unfollowed := true, recurses := true, apart := false, narrowed := true }
def FnExactPureStackUptoSaid : Prop := fnExactPureStackUptoRow.holds Try.pinned (OpenSpec.upto fnExactPureStackSpec)

/-- 'laws.FnExactMovesFor', WHERE WHAT IT READS IS OF BULK AT MOST 1048576: true; the input reads as it did. -/
def fnExactMovesForUptoRow : OpenClaim := { program := "ytjajlmaldeoobaa", sum := "cd9ef93489869a632f3f35f1c72b3d727d85bc4d07cd0dd9656ba33ced6142ed", func := "loop.example/g01353/laws.FnExactMovesFor", spec := "fnExactMovesFor", unfollowed := true, recurses := true, apart := false, narrowed := true }
def FnExactMovesForUptoSaid : Prop := fnExactMovesForUptoRow.holds Try.pinned (OpenSpec.upto fnExactMovesForSpec)

/-- 'laws.FnExactBestRings', WHERE WHAT IT READS IS OF BULK AT MOST 1048576: true; the input reads as it did. -/
def fnExactBestRingsUptoRow : OpenClaim := { program := "ytjajlmaldeoobaa", sum := "cd9ef93489869a632f3f35f1c72b3d727d85bc4d07cd0dd9656ba33ced6142ed", func := "loop.example/g01353/laws.FnExactBestRings", spec := "fnExactBestRings", unfollowed := true, recurses := true, apart := false, narrowed := true }
def FnExactBestRingsUptoSaid : Prop := fnExactBestRingsUptoRow.holds Try.pinned (OpenSpec.upto fnExactBestRingsSpec)

/-- 'laws.FnExactBestLabels', WHERE WHAT IT READS IS OF BULK AT MOST 1048576: true; the input reads as it did. -/
def fnExactBestLabelsUptoRow : OpenClaim := { program := "ytjajlmaldeoobaa", sum := "cd9ef93489869a632f3f35f1c72b3d727d85bc4d07cd0dd9656ba33ced6142ed", func := "loop.example/g01353/laws.FnExactBestLabels", spec := "fnExactBestLabels", unfollowed := true, recurses := true, apart := false, narrowed := true }
def FnExactBestLabelsUptoSaid : Prop := fnExactBestLabelsUptoRow.holds Try.pinned (OpenSpec.upto fnExactBestLabelsSpec)

/-- 'laws.FnExactLeastSwaps', WHERE WHAT IT READS IS OF BULK AT MOST 1048576: true; the input reads as it did. -/
def fnExactLeastSwapsUptoRow : OpenClaim := { program := "ytjajlmaldeoobaa", sum := "cd9ef93489869a632f3f35f1c72b3d727d85bc4d07cd0dd9656ba33ced6142ed", func := "loop.example/g01353/laws.FnExactLeastSwaps", spec := "fnExactLeastSwaps", unfollowed := true, recurses := true, apart := false, narrowed := true }
def FnExactLeastSwapsUptoSaid : Prop := fnExactLeastSwapsUptoRow.holds Try.pinned (OpenSpec.upto fnExactLeastSwapsSpec)

/-- 'laws.FnExactRingsOf', WHERE WHAT IT READS IS OF BULK AT MOST 1048576: true; the input reads as it did. -/
def fnExactRingsOfUptoRow : OpenClaim := { program := "ytjajlmaldeoobaa", sum := "cd9ef93489869a632f3f35f1c72b3d727d85bc4d07cd0dd9656ba33ced6142ed", func := "loop.example/g01353/laws.FnExactRingsOf", spec := "fnExactRingsOf", unfollowed := true, recurses := true, apart := false, narrowed := true }
def FnExactRingsOfUptoSaid : Prop := fnExactRingsOfUptoRow.holds Try.pinned (OpenSpec.upto fnExactRingsOfSpec)

end Rows
end Go.Proofs.Ytjajlmaldeoobaa
