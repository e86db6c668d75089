/-
  No cell of these rows narrows 'for every input' (looked for: loops, veiled, ifaces, maps, wideKeys, modest, calm, conditions, laid).
  DERIVED. THE GIVEN ROWS OF THIS SEAT. 5 by the template 'for every input the law returns true; each argument reads behind the call as it read before'; 0 by the template 'total and deterministic' (their statements: YtnppegmilcocoaaTotals.lean).
  GIVEN WITH THE SEED: the statements are not yours to turn. If you find one false, say at which input.
  Laid BY PROGRAM, IN A SANDBOX (cutbox-rows.mjs): the forced cells as the released guide's own fill.sh prints them over the translation dc027a66bb39e8e9… (all of the seat's roots in one cut). By AI agents, Wed Nov 11 2026. No macro, syntax, notation, axiom, sorry.
-/
import Derived.Test.YtnppegmilcocoaaChecked
import GoSem.Claim
import GoSem.ClaimJoined
import GoSem.ClaimMapViews
import Derived.JoinedTies
import Derived.KernelRfl
namespace Go.Proofs.Ytnppegmilcocoaa
/- THE CELL 'sum', in the pinned program and in every row, IS THE sha256 OF THE DUMP (.gsa) THAT YtnppegmilcocoaaProg.lean LOADS. Nothing in Lean hashes anything: it is a label: what it is worth is what the hold of that sum in a sandbox is worth. -/
noncomputable def Try.pinned : Pinned := { name := "ytnppegmilcocoaa", sum := "dc027a66bb39e8e9280e898fa728a2b54387b31f8f8cb3a24f45e7f7e1413209", checked := Try.checked }
namespace Rows
def none {H : Type} : Left H := { results := [], args := [] }

/-- 'laws.FnExactNeverTurned': WHATEVER THE INPUT: true; the input reads as it did. -/
def fnExactNeverTurnedSpec : ChangeSpec := { name := "fnExactNeverTurned", fn := fun _ => fun
  | [d1, d2] => { results := [.lit (.bool true)], args := [d1, d2] }
  | _ => none }
def fnExactNeverTurnedRow : OpenClaim := { program := "ytnppegmilcocoaa", sum := "dc027a66bb39e8e9280e898fa728a2b54387b31f8f8cb3a24f45e7f7e1413209", func := "loop.example/g01353/laws.FnExactNeverTurned", spec := "fnExactNeverTurned", unfollowed := true, recurses := true, apart := false }
def FnExactNeverTurnedSaid : Prop := fnExactNeverTurnedRow.holds Try.pinned (OpenSpec.ofChange fnExactNeverTurnedSpec)

/-- ITS FALSE NEIGHBOUR: 'it returns false'. Refute it at one input. -/
def fnExactNeverTurnedWrong : ChangeSpec := { name := "fnExactNeverTurned", fn := fun _ => fun
  | [d1, d2] => { results := [.lit (.bool false)], args := [d1, d2] }
  | _ => none }
def FnExactNeverTurnedWrongFalsely : Prop := fnExactNeverTurnedRow.holds Try.pinned (OpenSpec.ofChange fnExactNeverTurnedWrong)

/-- 'laws.FnExactRepeatsBehind': WHATEVER THE INPUT: true; the input reads as it did. -/
def fnExactRepeatsBehindSpec : ChangeSpec := { name := "fnExactRepeatsBehind", fn := fun _ => fun
  | [d1, d2] => { results := [.lit (.bool true)], args := [d1, d2] }
  | _ => none }
def fnExactRepeatsBehindRow : OpenClaim := { program := "ytnppegmilcocoaa", sum := "dc027a66bb39e8e9280e898fa728a2b54387b31f8f8cb3a24f45e7f7e1413209", func := "loop.example/g01353/laws.FnExactRepeatsBehind", spec := "fnExactRepeatsBehind", unfollowed := true, recurses := true, apart := false }
def FnExactRepeatsBehindSaid : Prop := fnExactRepeatsBehindRow.holds Try.pinned (OpenSpec.ofChange fnExactRepeatsBehindSpec)

/-- ITS FALSE NEIGHBOUR: 'it returns false'. Refute it at one input. -/
def fnExactRepeatsBehindWrong : ChangeSpec := { name := "fnExactRepeatsBehind", fn := fun _ => fun
  | [d1, d2] => { results := [.lit (.bool false)], args := [d1, d2] }
  | _ => none }
def FnExactRepeatsBehindWrongFalsely : Prop := fnExactRepeatsBehindRow.holds Try.pinned (OpenSpec.ofChange fnExactRepeatsBehindWrong)

/-- 'laws.FnExactDayOf': WHATEVER THE INPUT: true; the input reads as it did. -/
def fnExactDayOfSpec : ChangeSpec := { name := "fnExactDayOf", fn := fun _ => fun
  | [d1, d2, d3] => { results := [.lit (.bool true)], args := [d1, d2, d3] }
  | _ => none }
def fnExactDayOfRow : OpenClaim := { program := "ytnppegmilcocoaa", sum := "dc027a66bb39e8e9280e898fa728a2b54387b31f8f8cb3a24f45e7f7e1413209", func := "loop.example/g01353/laws.FnExactDayOf", spec := "fnExactDayOf", unfollowed := true, recurses := true, apart := false }
def FnExactDayOfSaid : Prop := fnExactDayOfRow.holds Try.pinned (OpenSpec.ofChange fnExactDayOfSpec)

/-- ITS FALSE NEIGHBOUR: 'it returns false'. Refute it at one input. -/
def fnExactDayOfWrong : ChangeSpec := { name := "fnExactDayOf", fn := fun _ => fun
  | [d1, d2, d3] => { results := [.lit (.bool false)], args := [d1, d2, d3] }
  | _ => none }
def FnExactDayOfWrongFalsely : Prop := fnExactDayOfRow.holds Try.pinned (OpenSpec.ofChange fnExactDayOfWrong)

/-- 'laws.FnExactRowOn': WHATEVER THE INPUT: true; the input reads as it did. -/
def fnExactRowOnSpec : ChangeSpec := { name := "fnExactRowOn", fn := fun _ => fun
  | [d1, d2, d3] => { results := [.lit (.bool true)], args := [d1, d2, d3] }
  | _ => none }
def fnExactRowOnRow : OpenClaim := { program := "ytnppegmilcocoaa", sum := "dc027a66bb39e8e9280e898fa728a2b54387b31f8f8cb3a24f45e7f7e1413209", func := "loop.example/g01353/laws.FnExactRowOn", spec := "fnExactRowOn", unfollowed := true, recurses := true, apart := false }
def FnExactRowOnSaid : Prop := fnExactRowOnRow.holds Try.pinned (OpenSpec.ofChange fnExactRowOnSpec)

/-- ITS FALSE NEIGHBOUR: 'it returns false'. Refute it at one input. -/
def fnExactRowOnWrong : ChangeSpec := { name := "fnExactRowOn", fn := fun _ => fun
  | [d1, d2, d3] => { results := [.lit (.bool false)], args := [d1, d2, d3] }
  | _ => none }
def FnExactRowOnWrongFalsely : Prop := fnExactRowOnRow.holds Try.pinned (OpenSpec.ofChange fnExactRowOnWrong)

/-- 'laws.FnExactDaysOf': WHATEVER THE INPUT: true; the input reads as it did. -/
def fnExactDaysOfSpec : ChangeSpec := { name := "fnExactDaysOf", fn := fun _ => fun
  | [d1, d2, d3, d4] => { results := [.lit (.bool true)], args := [d1, d2, d3, d4] }
  | _ => none }
def fnExactDaysOfRow : OpenClaim := { program := "ytnppegmilcocoaa", sum := "dc027a66bb39e8e9280e898fa728a2b54387b31f8f8cb3a24f45e7f7e1413209", func := "loop.example/g01353/laws.FnExactDaysOf", spec := "fnExactDaysOf", unfollowed := true, recurses := true, apart := false }
def FnExactDaysOfSaid : Prop := fnExactDaysOfRow.holds Try.pinned (OpenSpec.ofChange fnExactDaysOfSpec)

/-- ITS FALSE NEIGHBOUR: 'it returns false'. Refute it at one input. -/
def fnExactDaysOfWrong : ChangeSpec := { name := "fnExactDaysOf", fn := fun _ => fun
  | [d1, d2, d3, d4] => { results := [.lit (.bool false)], args := [d1, d2, d3, d4] }
  | _ => none }
def FnExactDaysOfWrongFalsely : Prop := fnExactDaysOfRow.holds Try.pinned (OpenSpec.ofChange fnExactDaysOfWrong)

/- THE SECOND FORM. 'bulk': how many values and letters a reading holds, each counted each time it is reached (what is shared counts as often as it is met; a slice's spare places count too). A statement '..UptoSaid' is the law's where the arguments, and the package variables that the reading takes, are together of bulk at most 1048576: NARROWER than '..Said'. Prove '..Said' where nothing that the law and all that it calls make is longer than what came in: it says more and counts as full. Else prove '..UptoSaid'. A law counts once. -/
mutual
def uptoBulk {H : Type} : DataW H → Nat
  | .lit (.string bytes) => bytes.length + 1
  | .lit _ => 1
  | .nil => 1
  | .ptr d => uptoBulk d + 1
  | .slice elems spare => uptoBulkAll elems + uptoBulkAll spare + 1
  | .agg parts => uptoBulkAll parts + 1
  | .iface _ d => uptoBulk d + 1
  | .map entries => uptoBulkEntries entries + 1
  | .held _ => 1
def uptoBulkAll {H : Type} : List (DataW H) → Nat
  | [] => 0
  | d :: r => uptoBulk d + uptoBulkAll r
def uptoBulkEntries {H : Type} : List (Lit × DataW H) → Nat
  | [] => 0
  | x :: r => uptoBulkEntry x + uptoBulkEntries r
def uptoBulkEntry {H : Type} : Lit × DataW H → Nat
  | (.string bytes, d) => bytes.length + uptoBulk d + 1
  | (_, d) => uptoBulk d + 1
 end
def uptoSmall : (H : Type) → List (DataW H) → Bool := fun _ ds => decide (uptoBulkAll ds ≤ 1048576)
def OpenSpec.upto (s : _root_.Go.ChangeSpec) : _root_.Go.OpenSpec := { _root_.Go.OpenSpec.ofChange s with cond := some uptoSmall }

/-- 'laws.FnExactNeverTurned', WHERE WHAT IT READS IS OF BULK AT MOST 1048576: true; the input reads as it did. -/
def fnExactNeverTurnedUptoRow : OpenClaim := { program := "ytnppegmilcocoaa", sum := "dc027a66bb39e8e9280e898fa728a2b54387b31f8f8cb3a24f45e7f7e1413209", func := "loop.example/g01353/laws.FnExactNeverTurned", spec := "fnExactNeverTurned", unfollowed := true, recurses := true, apart := false, narrowed := true }
def FnExactNeverTurnedUptoSaid : Prop := fnExactNeverTurnedUptoRow.holds Try.pinned (OpenSpec.upto fnExactNeverTurnedSpec)

/-- 'laws.FnExactRepeatsBehind', WHERE WHAT IT READS IS OF BULK AT MOST 1048576: true; the input reads as it did. -/
def fnExactRepeatsBehindUptoRow : OpenClaim := { program := "ytnppegmilcocoaa", sum := "dc027a66bb39e8e9280e898fa728a2b54387b31f8f8cb3a24f45e7f7e1413209", func := "loop.example/g01353/laws.FnExactRepeatsBehind", spec := "fnExactRepeatsBehind", unfollowed := true, recurses := true, apart := false, narrowed := true }
def FnExactRepeatsBehindUptoSaid : Prop := fnExactRepeatsBehindUptoRow.holds Try.pinned (OpenSpec.upto fnExactRepeatsBehindSpec)

/-- 'laws.FnExactDayOf', WHERE WHAT IT READS IS OF BULK AT MOST 1048576: true; the input reads as it did. -/
def fnExactDayOfUptoRow : OpenClaim := { program := "ytnppegmilcocoaa", sum := "dc027a66bb39e8e9280e898fa728a2b54387b31f8f8cb3a24f45e7f7e1413209", func := "loop.example/g01353/laws.FnExactDayOf", spec := "fnExactDayOf", unfollowed := true, recurses := true, apart := false, narrowed := true }
def FnExactDayOfUptoSaid : Prop := fnExactDayOfUptoRow.holds Try.pinned (OpenSpec.upto fnExactDayOfSpec)

/-- 'laws.FnExactRowOn', WHERE WHAT IT READS IS OF BULK AT MOST 1048576: true; the input reads as it did. -/
def fnExactRowOnUptoRow : OpenClaim := { program := "ytnppegmilcocoaa", sum := "dc027a66bb39e8e9280e898fa728a2b54387b31f8f8cb3a24f45e7f7e1413209", func := "loop.example/g01353/laws.FnExactRowOn", spec := "fnExactRowOn", unfollowed := true, recurses := true, apart := false, narrowed := true }
def FnExactRowOnUptoSaid : Prop := fnExactRowOnUptoRow.holds Try.pinned (OpenSpec.upto fnExactRowOnSpec)

/-- 'laws.FnExactDaysOf', WHERE WHAT IT READS IS OF BULK AT MOST 1048576: true; the input reads as it did. -/
def fnExactDaysOfUptoRow : OpenClaim := { program := "ytnppegmilcocoaa", sum := "dc027a66bb39e8e9280e898fa728a2b54387b31f8f8cb3a24f45e7f7e1413209", func := "loop.example/g01353/laws.FnExactDaysOf", spec := "fnExactDaysOf", unfollowed := true, recurses := true, apart := false, narrowed := true }
def FnExactDaysOfUptoSaid : Prop := fnExactDaysOfUptoRow.holds Try.pinned (OpenSpec.upto fnExactDaysOfSpec)

end Rows
end Go.Proofs.Ytnppegmilcocoaa
