/-
  No cell of these rows narrows 'for every input' (looked for: loops, veiled, ifaces, maps, wideKeys, modest, calm, conditions, laid).
  DERIVED. THE GIVEN ROWS OF THIS SEAT. 12 by the template 'for every input the law returns true; each argument reads behind the call as it read before'; 0 by the template 'total and deterministic' (their statements: YtneefjegejlfeaaTotals.lean).
  GIVEN WITH THE SEED: the statements are not yours to turn. If you find one false, say at which input.
  Laid BY PROGRAM, IN A SANDBOX (cutbox-rows.mjs): the forced cells as the released guide's own fill.sh prints them over the translation d9dad83b53492584… (all of the seat's roots in one cut). By AI agents, Wed Nov 11 2026. No macro, syntax, notation, axiom, sorry.
-/
import Derived.Test.YtneefjegejlfeaaChecked
import GoSem.Claim
import GoSem.ClaimJoined
import GoSem.ClaimMapViews
import Derived.JoinedTies
import Derived.KernelRfl
namespace Go.Proofs.Ytneefjegejlfeaa
/- THE CELL 'sum', in the pinned program and in every row, IS THE sha256 OF THE DUMP (.gsa) THAT YtneefjegejlfeaaProg.lean LOADS. Nothing in Lean hashes anything: it is a label: what it is worth is what the hold of that sum in a sandbox is worth. -/
noncomputable def Try.pinned : Pinned := { name := "ytneefjegejlfeaa", sum := "d9dad83b53492584126b9a3c6cae7a9ff560b342d29a4ec30813ef316900895b", checked := Try.checked }
namespace Rows
def none {H : Type} : Left H := { results := [], args := [] }

/-- 'laws.FnExactSameRack': WHATEVER THE INPUT: true; the input reads as it did. -/
def fnExactSameRackSpec : ChangeSpec := { name := "fnExactSameRack", fn := fun _ => fun
  | [d1, d2] => { results := [.lit (.bool true)], args := [d1, d2] }
  | _ => none }
def fnExactSameRackRow : OpenClaim := { program := "ytneefjegejlfeaa", sum := "d9dad83b53492584126b9a3c6cae7a9ff560b342d29a4ec30813ef316900895b", func := "loop.example/g01353/laws.FnExactSameRack", spec := "fnExactSameRack", unfollowed := true, recurses := true, apart := false }
def FnExactSameRackSaid : Prop := fnExactSameRackRow.holds Try.pinned (OpenSpec.ofChange fnExactSameRackSpec)

/-- ITS FALSE NEIGHBOUR: 'it returns false'. Refute it at one input. -/
def fnExactSameRackWrong : ChangeSpec := { name := "fnExactSameRack", fn := fun _ => fun
  | [d1, d2] => { results := [.lit (.bool false)], args := [d1, d2] }
  | _ => none }
def FnExactSameRackWrongFalsely : Prop := fnExactSameRackRow.holds Try.pinned (OpenSpec.ofChange fnExactSameRackWrong)

/-- 'laws.FnExactValidRack': WHATEVER THE INPUT: true; the input reads as it did. -/
def fnExactValidRackSpec : ChangeSpec := { name := "fnExactValidRack", fn := fun _ => fun
  | [d] => { results := [.lit (.bool true)], args := [d] }
  | _ => none }
def fnExactValidRackRow : OpenClaim := { program := "ytneefjegejlfeaa", sum := "d9dad83b53492584126b9a3c6cae7a9ff560b342d29a4ec30813ef316900895b", func := "loop.example/g01353/laws.FnExactValidRack", spec := "fnExactValidRack", unfollowed := true, recurses := true, apart := false }
def FnExactValidRackSaid : Prop := fnExactValidRackRow.holds Try.pinned (OpenSpec.ofChange fnExactValidRackSpec)

/-- ITS FALSE NEIGHBOUR: 'it returns false'. Refute it at one input. -/
def fnExactValidRackWrong : ChangeSpec := { name := "fnExactValidRack", fn := fun _ => fun
  | [d] => { results := [.lit (.bool false)], args := [d] }
  | _ => none }
def FnExactValidRackWrongFalsely : Prop := fnExactValidRackRow.holds Try.pinned (OpenSpec.ofChange fnExactValidRackWrong)

/-- 'laws.FnExactAheadOf': WHATEVER THE INPUT: true; the input reads as it did. -/
def fnExactAheadOfSpec : ChangeSpec := { name := "fnExactAheadOf", fn := fun _ => fun
  | [d1, d2, d3] => { results := [.lit (.bool true)], args := [d1, d2, d3] }
  | _ => none }
def fnExactAheadOfRow : OpenClaim := { program := "ytneefjegejlfeaa", sum := "d9dad83b53492584126b9a3c6cae7a9ff560b342d29a4ec30813ef316900895b", func := "loop.example/g01353/laws.FnExactAheadOf", spec := "fnExactAheadOf", unfollowed := true, recurses := true, apart := false }
def FnExactAheadOfSaid : Prop := fnExactAheadOfRow.holds Try.pinned (OpenSpec.ofChange fnExactAheadOfSpec)

/-- ITS FALSE NEIGHBOUR: 'it returns false'. Refute it at one input. -/
def fnExactAheadOfWrong : ChangeSpec := { name := "fnExactAheadOf", fn := fun _ => fun
  | [d1, d2, d3] => { results := [.lit (.bool false)], args := [d1, d2, d3] }
  | _ => none }
def FnExactAheadOfWrongFalsely : Prop := fnExactAheadOfRow.holds Try.pinned (OpenSpec.ofChange fnExactAheadOfWrong)

/-- 'laws.FnExactBlockedIn': WHATEVER THE INPUT: true; the input reads as it did. -/
def fnExactBlockedInSpec : ChangeSpec := { name := "fnExactBlockedIn", fn := fun _ => fun
  | [d] => { results := [.lit (.bool true)], args := [d] }
  | _ => none }
def fnExactBlockedInRow : OpenClaim := { program := "ytneefjegejlfeaa", sum := "d9dad83b53492584126b9a3c6cae7a9ff560b342d29a4ec30813ef316900895b", func := "loop.example/g01353/laws.FnExactBlockedIn", spec := "fnExactBlockedIn", unfollowed := true, recurses := true, apart := false }
def FnExactBlockedInSaid : Prop := fnExactBlockedInRow.holds Try.pinned (OpenSpec.ofChange fnExactBlockedInSpec)

/-- ITS FALSE NEIGHBOUR: 'it returns false'. Refute it at one input. -/
def fnExactBlockedInWrong : ChangeSpec := { name := "fnExactBlockedIn", fn := fun _ => fun
  | [d] => { results := [.lit (.bool false)], args := [d] }
  | _ => none }
def FnExactBlockedInWrongFalsely : Prop := fnExactBlockedInRow.holds Try.pinned (OpenSpec.ofChange fnExactBlockedInWrong)

/-- 'laws.FnExactFreeIn': WHATEVER THE INPUT: true; the input reads as it did. -/
def fnExactFreeInSpec : ChangeSpec := { name := "fnExactFreeIn", fn := fun _ => fun
  | [d] => { results := [.lit (.bool true)], args := [d] }
  | _ => none }
def fnExactFreeInRow : OpenClaim := { program := "ytneefjegejlfeaa", sum := "d9dad83b53492584126b9a3c6cae7a9ff560b342d29a4ec30813ef316900895b", func := "loop.example/g01353/laws.FnExactFreeIn", spec := "fnExactFreeIn", unfollowed := true, recurses := true, apart := false }
def FnExactFreeInSaid : Prop := fnExactFreeInRow.holds Try.pinned (OpenSpec.ofChange fnExactFreeInSpec)

/-- ITS FALSE NEIGHBOUR: 'it returns false'. Refute it at one input. -/
def fnExactFreeInWrong : ChangeSpec := { name := "fnExactFreeIn", fn := fun _ => fun
  | [d] => { results := [.lit (.bool false)], args := [d] }
  | _ => none }
def FnExactFreeInWrongFalsely : Prop := fnExactFreeInRow.holds Try.pinned (OpenSpec.ofChange fnExactFreeInWrong)

/-- 'laws.FnExactStoredIn': WHATEVER THE INPUT: true; the input reads as it did. -/
def fnExactStoredInSpec : ChangeSpec := { name := "fnExactStoredIn", fn := fun _ => fun
  | [d] => { results := [.lit (.bool true)], args := [d] }
  | _ => none }
def fnExactStoredInRow : OpenClaim := { program := "ytneefjegejlfeaa", sum := "d9dad83b53492584126b9a3c6cae7a9ff560b342d29a4ec30813ef316900895b", func := "loop.example/g01353/laws.FnExactStoredIn", spec := "fnExactStoredIn", unfollowed := true, recurses := true, apart := false }
def FnExactStoredInSaid : Prop := fnExactStoredInRow.holds Try.pinned (OpenSpec.ofChange fnExactStoredInSpec)

/-- ITS FALSE NEIGHBOUR: 'it returns false'. Refute it at one input. -/
def fnExactStoredInWrong : ChangeSpec := { name := "fnExactStoredIn", fn := fun _ => fun
  | [d] => { results := [.lit (.bool false)], args := [d] }
  | _ => none }
def FnExactStoredInWrongFalsely : Prop := fnExactStoredInRow.holds Try.pinned (OpenSpec.ofChange fnExactStoredInWrong)

/-- 'laws.FnExactOldestOf': WHATEVER THE INPUT: true; the input reads as it did. -/
def fnExactOldestOfSpec : ChangeSpec := { name := "fnExactOldestOf", fn := fun _ => fun
  | [d1, d2] => { results := [.lit (.bool true)], args := [d1, d2] }
  | _ => none }
def fnExactOldestOfRow : OpenClaim := { program := "ytneefjegejlfeaa", sum := "d9dad83b53492584126b9a3c6cae7a9ff560b342d29a4ec30813ef316900895b", func := "loop.example/g01353/laws.FnExactOldestOf", spec := "fnExactOldestOf", unfollowed := true, recurses := true, apart := false }
def FnExactOldestOfSaid : Prop := fnExactOldestOfRow.holds Try.pinned (OpenSpec.ofChange fnExactOldestOfSpec)

/-- ITS FALSE NEIGHBOUR: 'it returns false'. Refute it at one input. -/
def fnExactOldestOfWrong : ChangeSpec := { name := "fnExactOldestOf", fn := fun _ => fun
  | [d1, d2] => { results := [.lit (.bool false)], args := [d1, d2] }
  | _ => none }
def FnExactOldestOfWrongFalsely : Prop := fnExactOldestOfRow.holds Try.pinned (OpenSpec.ofChange fnExactOldestOfWrong)

/-- 'laws.FnExactBestLane': WHATEVER THE INPUT: true; the input reads as it did. -/
def fnExactBestLaneSpec : ChangeSpec := { name := "fnExactBestLane", fn := fun _ => fun
  | [d1, d2] => { results := [.lit (.bool true)], args := [d1, d2] }
  | _ => none }
def fnExactBestLaneRow : OpenClaim := { program := "ytneefjegejlfeaa", sum := "d9dad83b53492584126b9a3c6cae7a9ff560b342d29a4ec30813ef316900895b", func := "loop.example/g01353/laws.FnExactBestLane", spec := "fnExactBestLane", unfollowed := true, recurses := true, apart := false }
def FnExactBestLaneSaid : Prop := fnExactBestLaneRow.holds Try.pinned (OpenSpec.ofChange fnExactBestLaneSpec)

/-- ITS FALSE NEIGHBOUR: 'it returns false'. Refute it at one input. -/
def fnExactBestLaneWrong : ChangeSpec := { name := "fnExactBestLane", fn := fun _ => fun
  | [d1, d2] => { results := [.lit (.bool false)], args := [d1, d2] }
  | _ => none }
def FnExactBestLaneWrongFalsely : Prop := fnExactBestLaneRow.holds Try.pinned (OpenSpec.ofChange fnExactBestLaneWrong)

/-- 'laws.FnExactStoreAt': WHATEVER THE INPUT: true; the input reads as it did. -/
def fnExactStoreAtSpec : ChangeSpec := { name := "fnExactStoreAt", fn := fun _ => fun
  | [d1, d2, d3] => { results := [.lit (.bool true)], args := [d1, d2, d3] }
  | _ => none }
def fnExactStoreAtRow : OpenClaim := { program := "ytneefjegejlfeaa", sum := "d9dad83b53492584126b9a3c6cae7a9ff560b342d29a4ec30813ef316900895b", func := "loop.example/g01353/laws.FnExactStoreAt", spec := "fnExactStoreAt", unfollowed := true, recurses := true, apart := false }
def FnExactStoreAtSaid : Prop := fnExactStoreAtRow.holds Try.pinned (OpenSpec.ofChange fnExactStoreAtSpec)

/-- ITS FALSE NEIGHBOUR: 'it returns false'. Refute it at one input. -/
def fnExactStoreAtWrong : ChangeSpec := { name := "fnExactStoreAt", fn := fun _ => fun
  | [d1, d2, d3] => { results := [.lit (.bool false)], args := [d1, d2, d3] }
  | _ => none }
def FnExactStoreAtWrongFalsely : Prop := fnExactStoreAtRow.holds Try.pinned (OpenSpec.ofChange fnExactStoreAtWrong)

/-- 'laws.FnExactTakeFront': WHATEVER THE INPUT: true; the input reads as it did. -/
def fnExactTakeFrontSpec : ChangeSpec := { name := "fnExactTakeFront", fn := fun _ => fun
  | [d1, d2] => { results := [.lit (.bool true)], args := [d1, d2] }
  | _ => none }
def fnExactTakeFrontRow : OpenClaim := { program := "ytneefjegejlfeaa", sum := "d9dad83b53492584126b9a3c6cae7a9ff560b342d29a4ec30813ef316900895b", func := "loop.example/g01353/laws.FnExactTakeFront", spec := "fnExactTakeFront", unfollowed := true, recurses := true, apart := false }
def FnExactTakeFrontSaid : Prop := fnExactTakeFrontRow.holds Try.pinned (OpenSpec.ofChange fnExactTakeFrontSpec)

/-- ITS FALSE NEIGHBOUR: 'it returns false'. Refute it at one input. -/
def fnExactTakeFrontWrong : ChangeSpec := { name := "fnExactTakeFront", fn := fun _ => fun
  | [d1, d2] => { results := [.lit (.bool false)], args := [d1, d2] }
  | _ => none }
def FnExactTakeFrontWrongFalsely : Prop := fnExactTakeFrontRow.holds Try.pinned (OpenSpec.ofChange fnExactTakeFrontWrong)

/-- 'laws.FnExactChoiceOf': WHATEVER THE INPUT: true; the input reads as it did. -/
def fnExactChoiceOfSpec : ChangeSpec := { name := "fnExactChoiceOf", fn := fun _ => fun
  | [d1, d2, d3] => { results := [.lit (.bool true)], args := [d1, d2, d3] }
  | _ => none }
def fnExactChoiceOfRow : OpenClaim := { program := "ytneefjegejlfeaa", sum := "d9dad83b53492584126b9a3c6cae7a9ff560b342d29a4ec30813ef316900895b", func := "loop.example/g01353/laws.FnExactChoiceOf", spec := "fnExactChoiceOf", unfollowed := true, recurses := true, apart := false }
def FnExactChoiceOfSaid : Prop := fnExactChoiceOfRow.holds Try.pinned (OpenSpec.ofChange fnExactChoiceOfSpec)

/-- ITS FALSE NEIGHBOUR: 'it returns false'. Refute it at one input. -/
def fnExactChoiceOfWrong : ChangeSpec := { name := "fnExactChoiceOf", fn := fun _ => fun
  | [d1, d2, d3] => { results := [.lit (.bool false)], args := [d1, d2, d3] }
  | _ => none }
def FnExactChoiceOfWrongFalsely : Prop := fnExactChoiceOfRow.holds Try.pinned (OpenSpec.ofChange fnExactChoiceOfWrong)

/-- 'laws.FnExactReachOut': WHATEVER THE INPUT: true; the input reads as it did. -/
def fnExactReachOutSpec : ChangeSpec := { name := "fnExactReachOut", fn := fun _ => fun
  | [d1, d2, d3] => { results := [.lit (.bool true)], args := [d1, d2, d3] }
  | _ => none }
def fnExactReachOutRow : OpenClaim := { program := "ytneefjegejlfeaa", sum := "d9dad83b53492584126b9a3c6cae7a9ff560b342d29a4ec30813ef316900895b", func := "loop.example/g01353/laws.FnExactReachOut", spec := "fnExactReachOut", unfollowed := true, recurses := true, apart := false }
def FnExactReachOutSaid : Prop := fnExactReachOutRow.holds Try.pinned (OpenSpec.ofChange fnExactReachOutSpec)

/-- ITS FALSE NEIGHBOUR: 'it returns false'. Refute it at one input. -/
def fnExactReachOutWrong : ChangeSpec := { name := "fnExactReachOut", fn := fun _ => fun
  | [d1, d2, d3] => { results := [.lit (.bool false)], args := [d1, d2, d3] }
  | _ => none }
def FnExactReachOutWrongFalsely : Prop := fnExactReachOutRow.holds Try.pinned (OpenSpec.ofChange fnExactReachOutWrong)

/- THE SECOND FORM. 'bulk': how many values and letters a reading holds, each counted each time it is reached (what is shared counts as often as it is met; a slice's spare places count too). A statement '..UptoSaid' is the law's where the arguments, and the package variables that the reading takes, are together of bulk at most 1048576: NARROWER than '..Said'. Prove '..Said' where nothing that the law and all that it calls make is longer than what came in: it says more and counts as full. Else prove '..UptoSaid'. A law counts once. -/
mutual
def uptoBulk {H : Type} : DataW H → Nat
  | .lit (.string bytes) => bytes.length + 1
  | .lit _ => 1
  | .nil => 1
  | .ptr d => uptoBulk d + 1
  | .slice elems spare => uptoBulkAll elems + uptoBulkAll spare + 1
  | .agg parts => uptoBulkAll parts + 1
  | .iface _ d => uptoBulk d + 1
  | .map entries => uptoBulkEntries entries + 1
  | .held _ => 1
def uptoBulkAll {H : Type} : List (DataW H) → Nat
  | [] => 0
  | d :: r => uptoBulk d + uptoBulkAll r
def uptoBulkEntries {H : Type} : List (Lit × DataW H) → Nat
  | [] => 0
  | x :: r => uptoBulkEntry x + uptoBulkEntries r
def uptoBulkEntry {H : Type} : Lit × DataW H → Nat
  | (.string bytes, d) => bytes.length + uptoBulk d + 1
  | (_, d) => uptoBulk d + 1
 end
def uptoSmall : (H : Type) → List (DataW H) → Bool := fun _ ds => decide (uptoBulkAll ds ≤ 1048576)
def OpenSpec.upto (s : _root_.Go.ChangeSpec) : _root_.Go.OpenSpec := { _root_.Go.OpenSpec.ofChange s with cond := some uptoSmall }

/-- 'laws.FnExactSameRack', WHERE WHAT IT READS IS OF BULK AT MOST 1048576: true; the input reads as it did. -/
def fnExactSameRackUptoRow : OpenClaim := { program := "ytneefjegejlfeaa", sum := "d9dad83b53492584126b9a3c6cae7a9ff560b342d29a4ec30813ef316900895b", func := "loop.example/g01353/laws.FnExactSameRack", spec := "fnExactSameRack", unfollowed := true, recurses := true, apart := false, narrowed := true }
def FnExactSameRackUptoSaid : Prop := fnExactSameRackUptoRow.holds Try.pinned (OpenSpec.upto fnExactSameRackSpec)

/-- 'laws.FnExactValidRack', WHERE WHAT IT READS IS OF BULK AT MOST 1048576: true; the input reads as it did. -/
def fnExactValidRackUptoRow : OpenClaim := { program := "ytneefjegejlfeaa", sum := "d9dad83b53492584126b9a3c6cae7a9ff560b342d29a4ec30813ef316900895b", func := "loop.example/g01353/laws.FnExactValidRack", spec := "fnExactValidRack", unfollowed := true, recurses := true, apart := false, narrowed := true }
def FnExactValidRackUptoSaid : Prop := fnExactValidRackUptoRow.holds Try.pinned (OpenSpec.upto fnExactValidRackSpec)

/-- 'laws.FnExactAheadOf', WHERE WHAT IT READS IS OF BULK AT MOST 1048576: true; the input reads as it did. -/
def fnExactAheadOfUptoRow : OpenClaim := { program := "ytneefjegejlfeaa", sum := "d9dad83b53492584126b9a3c6cae7a9ff560b342d29a4ec30813ef316900895b", func := "loop.example/g01353/laws.FnExactAheadOf", spec := "fnExactAheadOf", unfollowed := true, recurses := true, apart := false, narrowed := true }
def FnExactAheadOfUptoSaid : Prop := fnExactAheadOfUptoRow.holds Try.pinned (OpenSpec.upto fnExactAheadOfSpec)

/-- 'laws.FnExactBlockedIn', WHERE WHAT IT READS IS OF BULK AT MOST 1048576: true; the input reads as it did. -/
def fnExactBlockedInUptoRow : OpenClaim := { program := "ytneefjegejlfeaa", sum := "d9dad83b53492584126b9a3c6cae7a9ff560b342d29a4ec30813ef316900895b", func := "loop.example/g01353/laws.FnExactBlockedIn", spec := "fnExactBlockedIn", unfollowed := true, recurses := true, apart := false, narrowed := true }
def FnExactBlockedInUptoSaid : Prop := fnExactBlockedInUptoRow.holds Try.pinned (OpenSpec.upto fnExactBlockedInSpec)

/-- 'laws.FnExactFreeIn', WHERE WHAT IT READS IS OF BULK AT MOST 1048576: true; the input reads as it did. -/
def fnExactFreeInUptoRow : OpenClaim := { program := "ytneefjegejlfeaa", sum := "d9dad83b53492584126b9a3c6cae7a9ff560b342d29a4ec30813ef316900895b", func := "loop.example/g01353/laws.FnExactFreeIn", spec := "fnExactFreeIn", unfollowed := true, recurses := true, apart := false, narrowed := true }
def FnExactFreeInUptoSaid : Prop := fnExactFreeInUptoRow.holds Try.pinned (OpenSpec.upto fnExactFreeInSpec)

/-- 'laws.FnExactStoredIn', WHERE WHAT IT READS IS OF BULK AT MOST 1048576: true; the input reads as it did. -/
def fnExactStoredInUptoRow : OpenClaim := { program := "ytneefjegejlfeaa", sum := "d9dad83b53492584126b9a3c6cae7a9ff560b342d29a4ec30813ef316900895b", func := "loop.example/g01353/laws.FnExactStoredIn", spec := "fnExactStoredIn", unfollowed := true, recurses := true, apart := false, narrowed := true }
def FnExactStoredInUptoSaid : Prop := fnExactStoredInUptoRow.holds Try.pinned (OpenSpec.upto fnExactStoredInSpec)

/-- 'laws.FnExactOldestOf', WHERE WHAT IT READS IS OF BULK AT MOST 1048576: true; the input reads as it did. -/
def fnExactOldestOfUptoRow : OpenClaim := { program := "ytneefjegejlfeaa", sum := "d9dad83b53492584126b9a3c6cae7a9ff560b342d29a4ec30813ef316900895b", func := "loop.example/g01353/laws.FnExactOldestOf", spec := "fnExactOldestOf", unfollowed := true, recurses := true, apart := false, narrowed := true }
def FnExactOldestOfUptoSaid : Prop := fnExactOldestOfUptoRow.holds Try.pinned (OpenSpec.upto fnExactOldestOfSpec)

/-- 'laws.FnExactBestLane', WHERE WHAT IT READS IS OF BULK AT MOST 1048576: true; the input reads as it did. -/
def fnExactBestLaneUptoRow : OpenClaim := { program := "ytneefjegejlfeaa", sum := "d9dad83b53492584126b9a3c6cae7a9ff560b342d29a4ec30813ef316900895b", func := "loop.example/g01353/laws.FnExactBestLane", spec := "fnExactBestLane", unfollowed := true, recurses := true, apart := false, narrowed := true }
def FnExactBestLaneUptoSaid : Prop := fnExactBestLaneUptoRow.holds Try.pinned (OpenSpec.upto fnExactBestLaneSpec)

/-- 'laws.FnExactStoreAt', WHERE WHAT IT READS IS OF BULK AT MOST 1048576: true; the input reads as it did. -/
def fnExactStoreAtUptoRow : OpenClaim := { program := "ytneefjegejlfeaa", sum := "d9dad83b53492584126b9a3c6cae7a9ff560b342d29a4ec30813ef316900895b", func := "loop.example/g01353/laws.FnExactStoreAt", spec := "fnExactStoreAt", unfollowed := true, recurses := true, apart := false, narrowed := true }
def FnExactStoreAtUptoSaid : Prop := fnExactStoreAtUptoRow.holds Try.pinned (OpenSpec.upto fnExactStoreAtSpec)

/-- 'laws.FnExactTakeFront', WHERE WHAT IT READS IS OF BULK AT MOST 1048576: true; the input reads as it did. -/
def fnExactTakeFrontUptoRow : OpenClaim := { program := "ytneefjegejlfeaa", sum := "d9dad83b53492584126b9a3c6cae7a9ff560b342d29a4ec30813ef316900895b", func := "loop.example/g01353/laws.FnExactTakeFront", spec := "fnExactTakeFront", unfollowed := true, recurses := true, apart := false, narrowed := true }
def FnExactTakeFrontUptoSaid : Prop := fnExactTakeFrontUptoRow.holds Try.pinned (OpenSpec.upto fnExactTakeFrontSpec)

/-- 'laws.FnExactChoiceOf', WHERE WHAT IT READS IS OF BULK AT MOST 1048576: true; the input reads as it did. -/
def fnExactChoiceOfUptoRow : OpenClaim := { program := "ytneefjegejlfeaa", sum := "d9dad83b53492584126b9a3c6cae7a9ff560b342d29a4ec30813ef316900895b", func := "loop.example/g01353/laws.FnExactChoiceOf", spec := "fnExactChoiceOf", unfollowed := true, recurses := true, apart := false, narrowed := true }
def FnExactChoiceOfUptoSaid : Prop := fnExactChoiceOfUptoRow.holds Try.pinned (OpenSpec.upto fnExactChoiceOfSpec)

/-- 'laws.FnExactReachOut', WHERE WHAT IT READS IS OF BULK AT MOST 1048576: true; the input reads as it did. -/
def fnExactReachOutUptoRow : OpenClaim := { program := "ytneefjegejlfeaa", sum := "d9dad83b53492584126b9a3c6cae7a9ff560b342d29a4ec30813ef316900895b", func := "loop.example/g01353/laws.FnExactReachOut", spec := "fnExactReachOut", unfollowed := true, recurses := true, apart := false, narrowed := true }
def FnExactReachOutUptoSaid : Prop := fnExactReachOutUptoRow.holds Try.pinned (OpenSpec.upto fnExactReachOutSpec)

end Rows
end Go.Proofs.Ytneefjegejlfeaa
