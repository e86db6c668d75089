/-
  No cell of these rows narrows 'for every input' (looked for: loops, veiled, ifaces, maps, wideKeys, modest, calm, conditions, laid).
  DERIVED. THE GIVEN ROWS OF THIS SEAT. 4 by the template 'for every input the law returns true; each argument reads behind the call as it read before'; 0 by the template 'total and deterministic' (their statements: YtlipfbihlmlplaaTotals.lean).
  GIVEN WITH THE SEED: the statements are not yours to turn. If you find one false, say at which input.
  Laid BY PROGRAM, IN A SANDBOX (cutbox-rows.mjs): the forced cells as the released guide's own fill.sh prints them over the translation 276d8e9a1cab9c15… (all of the seat's roots in one cut). By AI agents, Wed Nov 11 2026. No macro, syntax, notation, axiom, sorry.
-/
import Derived.Test.YtlipfbihlmlplaaChecked
import GoSem.Claim
import GoSem.ClaimJoined
import GoSem.ClaimMapViews
import Derived.JoinedTies
import Derived.KernelRfl
namespace Go.Proofs.Ytlipfbihlmlplaa
/- THE CELL 'sum', in the pinned program and in every row, IS THE sha256 OF THE DUMP (.gsa) THAT YtlipfbihlmlplaaProg.lean LOADS. Nothing in Lean hashes anything: it is a label: what it is worth is what the hold of that sum in a sandbox is worth. -/
noncomputable def Try.pinned : Pinned := { name := "ytlipfbihlmlplaa", sum := "276d8e9a1cab9c15d1464f59796c14e92ec92aa52f4d5a9e90a085c1a5610dc9", checked := Try.checked }
namespace Rows
def none {H : Type} : Left H := { results := [], args := [] }

/-- 'laws.FnExactSwapsFor': WHATEVER THE INPUT: true; the input reads as it did. -/
def fnExactSwapsForSpec : ChangeSpec := { name := "fnExactSwapsFor", fn := fun _ => fun
  | [d1, d2] => { results := [.lit (.bool true)], args := [d1, d2] }
  | _ => none }
def fnExactSwapsForRow : OpenClaim := { program := "ytlipfbihlmlplaa", sum := "276d8e9a1cab9c15d1464f59796c14e92ec92aa52f4d5a9e90a085c1a5610dc9", func := "loop.example/g01353/laws.FnExactSwapsFor", spec := "fnExactSwapsFor", unfollowed := true, recurses := true, apart := false }
def FnExactSwapsForSaid : Prop := fnExactSwapsForRow.holds Try.pinned (OpenSpec.ofChange fnExactSwapsForSpec)

/-- ITS FALSE NEIGHBOUR: 'it returns false'. Refute it at one input. -/
def fnExactSwapsForWrong : ChangeSpec := { name := "fnExactSwapsFor", fn := fun _ => fun
  | [d1, d2] => { results := [.lit (.bool false)], args := [d1, d2] }
  | _ => none }
def FnExactSwapsForWrongFalsely : Prop := fnExactSwapsForRow.holds Try.pinned (OpenSpec.ofChange fnExactSwapsForWrong)

/-- 'laws.FnPacked': WHATEVER THE INPUT: true; the input reads as it did. -/
def fnPackedSpec : ChangeSpec := { name := "fnPacked", fn := fun _ => fun
  | [d1, d2] => { results := [.lit (.bool true)], args := [d1, d2] }
  | _ => none }
def fnPackedRow : OpenClaim := { program := "ytlipfbihlmlplaa", sum := "276d8e9a1cab9c15d1464f59796c14e92ec92aa52f4d5a9e90a085c1a5610dc9", func := "loop.example/g01353/laws.FnPacked", spec := "fnPacked", unfollowed := true, recurses := true, apart := false }
def FnPackedSaid : Prop := fnPackedRow.holds Try.pinned (OpenSpec.ofChange fnPackedSpec)

/-- ITS FALSE NEIGHBOUR: 'it returns false'. Refute it at one input. -/
def fnPackedWrong : ChangeSpec := { name := "fnPacked", fn := fun _ => fun
  | [d1, d2] => { results := [.lit (.bool false)], args := [d1, d2] }
  | _ => none }
def FnPackedWrongFalsely : Prop := fnPackedRow.holds Try.pinned (OpenSpec.ofChange fnPackedWrong)

/-- 'laws.FnMoved': WHATEVER THE INPUT: true; the input reads as it did. -/
def fnMovedSpec : ChangeSpec := { name := "fnMoved", fn := fun _ => fun
  | [d1, d2] => { results := [.lit (.bool true)], args := [d1, d2] }
  | _ => none }
def fnMovedRow : OpenClaim := { program := "ytlipfbihlmlplaa", sum := "276d8e9a1cab9c15d1464f59796c14e92ec92aa52f4d5a9e90a085c1a5610dc9", func := "loop.example/g01353/laws.FnMoved", spec := "fnMoved", unfollowed := true, recurses := true, apart := false }
def FnMovedSaid : Prop := fnMovedRow.holds Try.pinned (OpenSpec.ofChange fnMovedSpec)

/-- ITS FALSE NEIGHBOUR: 'it returns false'. Refute it at one input. -/
def fnMovedWrong : ChangeSpec := { name := "fnMoved", fn := fun _ => fun
  | [d1, d2] => { results := [.lit (.bool false)], args := [d1, d2] }
  | _ => none }
def FnMovedWrongFalsely : Prop := fnMovedRow.holds Try.pinned (OpenSpec.ofChange fnMovedWrong)

/-- 'laws.FnLabels': WHATEVER THE INPUT: true; the input reads as it did. -/
def fnLabelsSpec : ChangeSpec := { name := "fnLabels", fn := fun _ => fun
  | [d1, d2] => { results := [.lit (.bool true)], args := [d1, d2] }
  | _ => none }
def fnLabelsRow : OpenClaim := { program := "ytlipfbihlmlplaa", sum := "276d8e9a1cab9c15d1464f59796c14e92ec92aa52f4d5a9e90a085c1a5610dc9", func := "loop.example/g01353/laws.FnLabels", spec := "fnLabels", unfollowed := true, recurses := true, apart := false }
def FnLabelsSaid : Prop := fnLabelsRow.holds Try.pinned (OpenSpec.ofChange fnLabelsSpec)

/-- ITS FALSE NEIGHBOUR: 'it returns false'. Refute it at one input. -/
def fnLabelsWrong : ChangeSpec := { name := "fnLabels", fn := fun _ => fun
  | [d1, d2] => { results := [.lit (.bool false)], args := [d1, d2] }
  | _ => none }
def FnLabelsWrongFalsely : Prop := fnLabelsRow.holds Try.pinned (OpenSpec.ofChange fnLabelsWrong)

/- THE SECOND FORM. 'bulk': how many values and letters a reading holds, each counted each time it is reached (what is shared counts as often as it is met; a slice's spare places count too). A statement '..UptoSaid' is the law's where the arguments, and the package variables that the reading takes, are together of bulk at most 1048576: NARROWER than '..Said'. Prove '..Said' where nothing that the law and all that it calls make is longer than what came in: it says more and counts as full. Else prove '..UptoSaid'. A law counts once. -/
mutual
def uptoBulk {H : Type} : DataW H → Nat
  | .lit (.string bytes) => bytes.length + 1
  | .lit _ => 1
  | .nil => 1
  | .ptr d => uptoBulk d + 1
  | .slice elems spare => uptoBulkAll elems + uptoBulkAll spare + 1
  | .agg parts => uptoBulkAll parts + 1
  | .iface _ d => uptoBulk d + 1
  | .map entries => uptoBulkEntries entries + 1
  | .held _ => 1
def uptoBulkAll {H : Type} : List (DataW H) → Nat
  | [] => 0
  | d :: r => uptoBulk d + uptoBulkAll r
def uptoBulkEntries {H : Type} : List (Lit × DataW H) → Nat
  | [] => 0
  | x :: r => uptoBulkEntry x + uptoBulkEntries r
def uptoBulkEntry {H : Type} : Lit × DataW H → Nat
  | (.string bytes, d) => bytes.length + uptoBulk d + 1
  | (_, d) => uptoBulk d + 1
 end
def uptoSmall : (H : Type) → List (DataW H) → Bool := fun _ ds => decide (uptoBulkAll ds ≤ 1048576)
def OpenSpec.upto (s : _root_.Go.ChangeSpec) : _root_.Go.OpenSpec := { _root_.Go.OpenSpec.ofChange s with cond := some uptoSmall }

/-- 'laws.FnExactSwapsFor', WHERE WHAT IT READS IS OF BULK AT MOST 1048576: true; the input reads as it did. -/
def fnExactSwapsForUptoRow : OpenClaim := { program := "ytlipfbihlmlplaa", sum := "276d8e9a1cab9c15d1464f59796c14e92ec92aa52f4d5a9e90a085c1a5610dc9", func := "loop.example/g01353/laws.FnExactSwapsFor", spec := "fnExactSwapsFor", unfollowed := true, recurses := true, apart := false, narrowed := true }
def FnExactSwapsForUptoSaid : Prop := fnExactSwapsForUptoRow.holds Try.pinned (OpenSpec.upto fnExactSwapsForSpec)

/-- 'laws.FnPacked', WHERE WHAT IT READS IS OF BULK AT MOST 1048576: true; the input reads as it did. -/
def fnPackedUptoRow : OpenClaim := { program := "ytlipfbihlmlplaa", sum := "276d8e9a1cab9c15d1464f59796c14e92ec92aa52f4d5a9e90a085c1a5610dc9", func := "loop.example/g01353/laws.FnPacked", spec := "fnPacked", unfollowed := true, recurses := true, apart := false, narrowed := true }
def FnPackedUptoSaid : Prop := fnPackedUptoRow.holds Try.pinned (OpenSpec.upto fnPackedSpec)

/-- 'laws.FnMoved', WHERE WHAT IT READS IS OF BULK AT MOST 1048576: true; the input reads as it did. -/
def fnMovedUptoRow : OpenClaim := { program := "ytlipfbihlmlplaa", sum := "276d8e9a1cab9c15d1464f59796c14e92ec92aa52f4d5a9e90a085c1a5610dc9", func := "loop.example/g01353/laws.FnMoved", spec := "fnMoved", unfollowed := true, recurses := true, apart := false, narrowed := true }
def FnMovedUptoSaid : Prop := fnMovedUptoRow.holds Try.pinned (OpenSpec.upto fnMovedSpec)

/-- 'laws.FnLabels', WHERE WHAT IT READS IS OF BULK AT MOST 1048576: true; the input reads as it did. -/
def fnLabelsUptoRow : OpenClaim := { program := "ytlipfbihlmlplaa", sum := "276d8e9a1cab9c15d1464f59796c14e92ec92aa52f4d5a9e90a085c1a5610dc9", func := "loop.example/g01353/laws.FnLabels", spec := "fnLabels", unfollowed := true, recurses := true, apart := false, narrowed := true }
def FnLabelsUptoSaid : Prop := fnLabelsUptoRow.holds Try.pinned (OpenSpec.upto fnLabelsSpec)

end Rows
end Go.Proofs.Ytlipfbihlmlplaa
