/-
  No cell of these rows narrows 'for every input' (looked for: loops, veiled, ifaces, maps, wideKeys, modest, calm, conditions, laid).
  DERIVED. THE GIVEN ROWS OF THIS SEAT. 7 by the template 'for every input the law returns true; each argument reads behind the call as it read before'; 0 by the template 'total and deterministic' (their statements: YteaodjahafgbcaaTotals.lean).
  GIVEN WITH THE SEED: the statements are not yours to turn. If you find one false, say at which input.
  Laid BY PROGRAM, IN A SANDBOX (cutbox-rows.mjs): the forced cells as the released guide's own fill.sh prints them over the translation 9a6772c944f402e5… (all of the seat's roots in one cut). By AI agents, Wed Nov 11 2026. No macro, syntax, notation, axiom, sorry.
-/
import Derived.Test.YteaodjahafgbcaaChecked
import GoSem.Claim
import GoSem.ClaimJoined
import GoSem.ClaimMapViews
import Derived.JoinedTies
import Derived.KernelRfl
namespace Go.Proofs.Yteaodjahafgbcaa
/- THE CELL 'sum', in the pinned program and in every row, IS THE sha256 OF THE DUMP (.gsa) THAT YteaodjahafgbcaaProg.lean LOADS. Nothing in Lean hashes anything: it is a label: what it is worth is what the hold of that sum in a sandbox is worth. -/
noncomputable def Try.pinned : Pinned := { name := "yteaodjahafgbcaa", sum := "9a6772c944f402e5d0f8e45882bd28cd3b62503d0967d6cc68dce320a681971a", checked := Try.checked }
namespace Rows
def none {H : Type} : Left H := { results := [], args := [] }

/-- 'laws.FnExactFirstUnfair': WHATEVER THE INPUT: true; the input reads as it did. -/
def fnExactFirstUnfairSpec : ChangeSpec := { name := "fnExactFirstUnfair", fn := fun _ => fun
  | [d1, d2, d3] => { results := [.lit (.bool true)], args := [d1, d2, d3] }
  | _ => none }
def fnExactFirstUnfairRow : OpenClaim := { program := "yteaodjahafgbcaa", sum := "9a6772c944f402e5d0f8e45882bd28cd3b62503d0967d6cc68dce320a681971a", func := "loop.example/g01353/laws.FnExactFirstUnfair", spec := "fnExactFirstUnfair", unfollowed := true, recurses := true, plainKeys := false, apart := false }
def FnExactFirstUnfairSaid : Prop := fnExactFirstUnfairRow.holds Try.pinned (OpenSpec.ofChange fnExactFirstUnfairSpec)

/-- ITS FALSE NEIGHBOUR: 'it returns false'. Refute it at one input. -/
def fnExactFirstUnfairWrong : ChangeSpec := { name := "fnExactFirstUnfair", fn := fun _ => fun
  | [d1, d2, d3] => { results := [.lit (.bool false)], args := [d1, d2, d3] }
  | _ => none }
def FnExactFirstUnfairWrongFalsely : Prop := fnExactFirstUnfairRow.holds Try.pinned (OpenSpec.ofChange fnExactFirstUnfairWrong)

/-- 'laws.FnExactStoreAll': WHATEVER THE INPUT: true; the input reads as it did. -/
def fnExactStoreAllSpec : ChangeSpec := { name := "fnExactStoreAll", fn := fun _ => fun
  | [d1, d2] => { results := [.lit (.bool true)], args := [d1, d2] }
  | _ => none }
def fnExactStoreAllRow : OpenClaim := { program := "yteaodjahafgbcaa", sum := "9a6772c944f402e5d0f8e45882bd28cd3b62503d0967d6cc68dce320a681971a", func := "loop.example/g01353/laws.FnExactStoreAll", spec := "fnExactStoreAll", unfollowed := true, recurses := true, plainKeys := false, apart := false }
def FnExactStoreAllSaid : Prop := fnExactStoreAllRow.holds Try.pinned (OpenSpec.ofChange fnExactStoreAllSpec)

/-- ITS FALSE NEIGHBOUR: 'it returns false'. Refute it at one input. -/
def fnExactStoreAllWrong : ChangeSpec := { name := "fnExactStoreAll", fn := fun _ => fun
  | [d1, d2] => { results := [.lit (.bool false)], args := [d1, d2] }
  | _ => none }
def FnExactStoreAllWrongFalsely : Prop := fnExactStoreAllRow.holds Try.pinned (OpenSpec.ofChange fnExactStoreAllWrong)

/-- 'laws.FnExactSortLane': WHATEVER THE INPUT: true; the input reads as it did. -/
def fnExactSortLaneSpec : ChangeSpec := { name := "fnExactSortLane", fn := fun _ => fun
  | [d1, d2] => { results := [.lit (.bool true)], args := [d1, d2] }
  | _ => none }
def fnExactSortLaneRow : OpenClaim := { program := "yteaodjahafgbcaa", sum := "9a6772c944f402e5d0f8e45882bd28cd3b62503d0967d6cc68dce320a681971a", func := "loop.example/g01353/laws.FnExactSortLane", spec := "fnExactSortLane", unfollowed := true, recurses := true, plainKeys := false, apart := false }
def FnExactSortLaneSaid : Prop := fnExactSortLaneRow.holds Try.pinned (OpenSpec.ofChange fnExactSortLaneSpec)

/-- ITS FALSE NEIGHBOUR: 'it returns false'. Refute it at one input. -/
def fnExactSortLaneWrong : ChangeSpec := { name := "fnExactSortLane", fn := fun _ => fun
  | [d1, d2] => { results := [.lit (.bool false)], args := [d1, d2] }
  | _ => none }
def FnExactSortLaneWrongFalsely : Prop := fnExactSortLaneRow.holds Try.pinned (OpenSpec.ofChange fnExactSortLaneWrong)

/-- 'laws.FnExactTakeOldest': WHATEVER THE INPUT: true; the input reads as it did. -/
def fnExactTakeOldestSpec : ChangeSpec := { name := "fnExactTakeOldest", fn := fun _ => fun
  | [d1, d2, d3] => { results := [.lit (.bool true)], args := [d1, d2, d3] }
  | _ => none }
def fnExactTakeOldestRow : OpenClaim := { program := "yteaodjahafgbcaa", sum := "9a6772c944f402e5d0f8e45882bd28cd3b62503d0967d6cc68dce320a681971a", func := "loop.example/g01353/laws.FnExactTakeOldest", spec := "fnExactTakeOldest", unfollowed := true, recurses := true, plainKeys := false, apart := false }
def FnExactTakeOldestSaid : Prop := fnExactTakeOldestRow.holds Try.pinned (OpenSpec.ofChange fnExactTakeOldestSpec)

/-- ITS FALSE NEIGHBOUR: 'it returns false'. Refute it at one input. -/
def fnExactTakeOldestWrong : ChangeSpec := { name := "fnExactTakeOldest", fn := fun _ => fun
  | [d1, d2, d3] => { results := [.lit (.bool false)], args := [d1, d2, d3] }
  | _ => none }
def FnExactTakeOldestWrongFalsely : Prop := fnExactTakeOldestRow.holds Try.pinned (OpenSpec.ofChange fnExactTakeOldestWrong)

/-- 'laws.FnExactTakeEach': WHATEVER THE INPUT: true; the input reads as it did. -/
def fnExactTakeEachSpec : ChangeSpec := { name := "fnExactTakeEach", fn := fun _ => fun
  | [d1, d2, d3] => { results := [.lit (.bool true)], args := [d1, d2, d3] }
  | _ => none }
def fnExactTakeEachRow : OpenClaim := { program := "yteaodjahafgbcaa", sum := "9a6772c944f402e5d0f8e45882bd28cd3b62503d0967d6cc68dce320a681971a", func := "loop.example/g01353/laws.FnExactTakeEach", spec := "fnExactTakeEach", unfollowed := true, recurses := true, plainKeys := false, apart := false }
def FnExactTakeEachSaid : Prop := fnExactTakeEachRow.holds Try.pinned (OpenSpec.ofChange fnExactTakeEachSpec)

/-- ITS FALSE NEIGHBOUR: 'it returns false'. Refute it at one input. -/
def fnExactTakeEachWrong : ChangeSpec := { name := "fnExactTakeEach", fn := fun _ => fun
  | [d1, d2, d3] => { results := [.lit (.bool false)], args := [d1, d2, d3] }
  | _ => none }
def FnExactTakeEachWrongFalsely : Prop := fnExactTakeEachRow.holds Try.pinned (OpenSpec.ofChange fnExactTakeEachWrong)

/-- 'laws.FnExactBestTurn': WHATEVER THE INPUT: true; the input reads as it did. -/
def fnExactBestTurnSpec : ChangeSpec := { name := "fnExactBestTurn", fn := fun _ => fun
  | [d1, d2, d3] => { results := [.lit (.bool true)], args := [d1, d2, d3] }
  | _ => none }
def fnExactBestTurnRow : OpenClaim := { program := "yteaodjahafgbcaa", sum := "9a6772c944f402e5d0f8e45882bd28cd3b62503d0967d6cc68dce320a681971a", func := "loop.example/g01353/laws.FnExactBestTurn", spec := "fnExactBestTurn", unfollowed := true, recurses := true, plainKeys := false, apart := false }
def FnExactBestTurnSaid : Prop := fnExactBestTurnRow.holds Try.pinned (OpenSpec.ofChange fnExactBestTurnSpec)

/-- ITS FALSE NEIGHBOUR: 'it returns false'. Refute it at one input. -/
def fnExactBestTurnWrong : ChangeSpec := { name := "fnExactBestTurn", fn := fun _ => fun
  | [d1, d2, d3] => { results := [.lit (.bool false)], args := [d1, d2, d3] }
  | _ => none }
def FnExactBestTurnWrongFalsely : Prop := fnExactBestTurnRow.holds Try.pinned (OpenSpec.ofChange fnExactBestTurnWrong)

/-- 'laws.FnReached': WHATEVER THE INPUT: true; the input reads as it did. -/
def fnReachedSpec : ChangeSpec := { name := "fnReached", fn := fun _ => fun
  | [d1, d2] => { results := [.lit (.bool true)], args := [d1, d2] }
  | _ => none }
def fnReachedRow : OpenClaim := { program := "yteaodjahafgbcaa", sum := "9a6772c944f402e5d0f8e45882bd28cd3b62503d0967d6cc68dce320a681971a", func := "loop.example/g01353/laws.FnReached", spec := "fnReached", unfollowed := true, recurses := true, plainKeys := false, apart := false }
def FnReachedSaid : Prop := fnReachedRow.holds Try.pinned (OpenSpec.ofChange fnReachedSpec)

/-- ITS FALSE NEIGHBOUR: 'it returns false'. Refute it at one input. -/
def fnReachedWrong : ChangeSpec := { name := "fnReached", fn := fun _ => fun
  | [d1, d2] => { results := [.lit (.bool false)], args := [d1, d2] }
  | _ => none }
def FnReachedWrongFalsely : Prop := fnReachedRow.holds Try.pinned (OpenSpec.ofChange fnReachedWrong)

/- THE SECOND FORM. 'bulk': how many values and letters a reading holds, each counted each time it is reached (what is shared counts as often as it is met; a slice's spare places count too). A statement '..UptoSaid' is the law's where the arguments, and the package variables that the reading takes, are together of bulk at most 1048576: NARROWER than '..Said'. Prove '..Said' where nothing that the law and all that it calls make is longer than what came in: it says more and counts as full. Else prove '..UptoSaid'. A law counts once. -/
mutual
def uptoBulk {H : Type} : DataW H → Nat
  | .lit (.string bytes) => bytes.length + 1
  | .lit _ => 1
  | .nil => 1
  | .ptr d => uptoBulk d + 1
  | .slice elems spare => uptoBulkAll elems + uptoBulkAll spare + 1
  | .agg parts => uptoBulkAll parts + 1
  | .iface _ d => uptoBulk d + 1
  | .map entries => uptoBulkEntries entries + 1
  | .held _ => 1
def uptoBulkAll {H : Type} : List (DataW H) → Nat
  | [] => 0
  | d :: r => uptoBulk d + uptoBulkAll r
def uptoBulkEntries {H : Type} : List (Lit × DataW H) → Nat
  | [] => 0
  | x :: r => uptoBulkEntry x + uptoBulkEntries r
def uptoBulkEntry {H : Type} : Lit × DataW H → Nat
  | (.string bytes, d) => bytes.length + uptoBulk d + 1
  | (_, d) => uptoBulk d + 1
 end
def uptoSmall : (H : Type) → List (DataW H) → Bool := fun _ ds => decide (uptoBulkAll ds ≤ 1048576)
def OpenSpec.upto (s : _root_.Go.ChangeSpec) : _root_.Go.OpenSpec := { _root_.Go.OpenSpec.ofChange s with cond := some uptoSmall }

/-- 'laws.FnExactFirstUnfair', WHERE WHAT IT READS IS OF BULK AT MOST 1048576: true; the input reads as it did. -/
def fnExactFirstUnfairUptoRow : OpenClaim := { program := "yteaodjahafgbcaa", sum := "9a6772c944f402e5d0f8e45882bd28cd3b62503d0967d6cc68dce320a681971a", func := "loop.example/g01353/laws.FnExactFirstUnfair", spec := "fnExactFirstUnfair", unfollowed := true, recurses := true, plainKeys := false, apart := false, narrowed := true }
def FnExactFirstUnfairUptoSaid : Prop := fnExactFirstUnfairUptoRow.holds Try.pinned (OpenSpec.upto fnExactFirstUnfairSpec)

/-- 'laws.FnExactStoreAll', WHERE WHAT IT READS IS OF BULK AT MOST 1048576: true; the input reads as it did. -/
def fnExactStoreAllUptoRow : OpenClaim := { program := "yteaodjahafgbcaa", sum := "9a6772c944f402e5d0f8e45882bd28cd3b62503d0967d6cc68dce320a681971a", func := "loop.example/g01353/laws.FnExactStoreAll", spec := "fnExactStoreAll", unfollowed := true, recurses := true, plainKeys := false, apart := false, narrowed := true }
def FnExactStoreAllUptoSaid : Prop := fnExactStoreAllUptoRow.holds Try.pinned (OpenSpec.upto fnExactStoreAllSpec)

/-- 'laws.FnExactSortLane', WHERE WHAT IT READS IS OF BULK AT MOST 1048576: true; the input reads as it did. -/
def fnExactSortLaneUptoRow : OpenClaim := { program := "yteaodjahafgbcaa", sum := "9a6772c944f402e5d0f8e45882bd28cd3b62503d0967d6cc68dce320a681971a", func := "loop.example/g01353/laws.FnExactSortLane", spec := "fnExactSortLane", unfollowed := true, recurses := true, plainKeys := false, apart := false, narrowed := true }
def FnExactSortLaneUptoSaid : Prop := fnExactSortLaneUptoRow.holds Try.pinned (OpenSpec.upto fnExactSortLaneSpec)

/-- 'laws.FnExactTakeOldest', WHERE WHAT IT READS IS OF BULK AT MOST 1048576: true; the input reads as it did. -/
def fnExactTakeOldestUptoRow : OpenClaim := { program := "yteaodjahafgbcaa", sum := "9a6772c944f402e5d0f8e45882bd28cd3b62503d0967d6cc68dce320a681971a", func := "loop.example/g01353/laws.FnExactTakeOldest", spec := "fnExactTakeOldest", unfollowed := true, recurses := true, plainKeys := false, apart := false, narrowed := true }
def FnExactTakeOldestUptoSaid : Prop := fnExactTakeOldestUptoRow.holds Try.pinned (OpenSpec.upto fnExactTakeOldestSpec)

/-- 'laws.FnExactTakeEach', WHERE WHAT IT READS IS OF BULK AT MOST 1048576: true; the input reads as it did. -/
def fnExactTakeEachUptoRow : OpenClaim := { program := "yteaodjahafgbcaa", sum := "9a6772c944f402e5d0f8e45882bd28cd3b62503d0967d6cc68dce320a681971a", func := "loop.example/g01353/laws.FnExactTakeEach", spec := "fnExactTakeEach", unfollowed := true, recurses := true, plainKeys := false, apart := false, narrowed := true }
def FnExactTakeEachUptoSaid : Prop := fnExactTakeEachUptoRow.holds Try.pinned (OpenSpec.upto fnExactTakeEachSpec)

/-- 'laws.FnExactBestTurn', WHERE WHAT IT READS IS OF BULK AT MOST 1048576: true; the input reads as it did. -/
def fnExactBestTurnUptoRow : OpenClaim := { program := "yteaodjahafgbcaa", sum := "9a6772c944f402e5d0f8e45882bd28cd3b62503d0967d6cc68dce320a681971a", func := "loop.example/g01353/laws.FnExactBestTurn", spec := "fnExactBestTurn", unfollowed := true, recurses := true, plainKeys := false, apart := false, narrowed := true }
def FnExactBestTurnUptoSaid : Prop := fnExactBestTurnUptoRow.holds Try.pinned (OpenSpec.upto fnExactBestTurnSpec)

/-- 'laws.FnReached', WHERE WHAT IT READS IS OF BULK AT MOST 1048576: true; the input reads as it did. -/
def fnReachedUptoRow : OpenClaim := { program := "yteaodjahafgbcaa", sum := "9a6772c944f402e5d0f8e45882bd28cd3b62503d0967d6cc68dce320a681971a", func := "loop.example/g01353/laws.FnReached", spec := "fnReached", unfollowed := true, recurses := true, plainKeys := false, apart := false, narrowed := true }
def FnReachedUptoSaid : Prop := fnReachedUptoRow.holds Try.pinned (OpenSpec.upto fnReachedSpec)

end Rows
end Go.Proofs.Yteaodjahafgbcaa
