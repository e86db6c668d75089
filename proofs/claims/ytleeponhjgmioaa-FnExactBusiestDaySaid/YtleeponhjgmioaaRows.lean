/-
  No cell of these rows narrows 'for every input' (looked for: loops, veiled, ifaces, maps, wideKeys, modest, calm, conditions, laid).
  DERIVED. THE GIVEN ROWS OF THIS SEAT. 12 by the template 'for every input the law returns true; each argument reads behind the call as it read before'; 0 by the template 'total and deterministic' (their statements: YtleeponhjgmioaaTotals.lean).
  GIVEN WITH THE SEED: the statements are not yours to turn. If you find one false, say at which input.
  Laid BY PROGRAM, IN A SANDBOX (cutbox-rows.mjs): the forced cells as the released guide's own fill.sh prints them over the translation 9f3f572b826e7a8a… (all of the seat's roots in one cut). By AI agents, Wed Nov 11 2026. No macro, syntax, notation, axiom, sorry.
-/
import Derived.Test.YtleeponhjgmioaaChecked
import GoSem.Claim
import GoSem.ClaimJoined
import GoSem.ClaimMapViews
import Derived.JoinedTies
import Derived.KernelRfl
namespace Go.Proofs.Ytleeponhjgmioaa
/- THE CELL 'sum', in the pinned program and in every row, IS THE sha256 OF THE DUMP (.gsa) THAT YtleeponhjgmioaaProg.lean LOADS. Nothing in Lean hashes anything: it is a label: what it is worth is what the hold of that sum in a sandbox is worth. -/
noncomputable def Try.pinned : Pinned := { name := "ytleeponhjgmioaa", sum := "9f3f572b826e7a8a58371192cc0dbbcd6096ef05b279afaf59d31308f8a15b17", checked := Try.checked }
namespace Rows
def none {H : Type} : Left H := { results := [], args := [] }

/-- 'laws.FnExactSameRow': WHATEVER THE INPUT: true; the input reads as it did. -/
def fnExactSameRowSpec : ChangeSpec := { name := "fnExactSameRow", fn := fun _ => fun
  | [d1, d2] => { results := [.lit (.bool true)], args := [d1, d2] }
  | _ => none }
def fnExactSameRowRow : OpenClaim := { program := "ytleeponhjgmioaa", sum := "9f3f572b826e7a8a58371192cc0dbbcd6096ef05b279afaf59d31308f8a15b17", func := "loop.example/g01353/laws.FnExactSameRow", spec := "fnExactSameRow", apart := false }
def FnExactSameRowSaid : Prop := fnExactSameRowRow.holds Try.pinned (OpenSpec.ofChange fnExactSameRowSpec)

/-- ITS FALSE NEIGHBOUR: 'it returns false'. Refute it at one input. -/
def fnExactSameRowWrong : ChangeSpec := { name := "fnExactSameRow", fn := fun _ => fun
  | [d1, d2] => { results := [.lit (.bool false)], args := [d1, d2] }
  | _ => none }
def FnExactSameRowWrongFalsely : Prop := fnExactSameRowRow.holds Try.pinned (OpenSpec.ofChange fnExactSameRowWrong)

/-- 'laws.FnExactValidRow': WHATEVER THE INPUT: true; the input reads as it did. -/
def fnExactValidRowSpec : ChangeSpec := { name := "fnExactValidRow", fn := fun _ => fun
  | [d] => { results := [.lit (.bool true)], args := [d] }
  | _ => none }
def fnExactValidRowRow : OpenClaim := { program := "ytleeponhjgmioaa", sum := "9f3f572b826e7a8a58371192cc0dbbcd6096ef05b279afaf59d31308f8a15b17", func := "loop.example/g01353/laws.FnExactValidRow", spec := "fnExactValidRow", unfollowed := true, recurses := true, apart := false }
def FnExactValidRowSaid : Prop := fnExactValidRowRow.holds Try.pinned (OpenSpec.ofChange fnExactValidRowSpec)

/-- ITS FALSE NEIGHBOUR: 'it returns false'. Refute it at one input. -/
def fnExactValidRowWrong : ChangeSpec := { name := "fnExactValidRow", fn := fun _ => fun
  | [d] => { results := [.lit (.bool false)], args := [d] }
  | _ => none }
def FnExactValidRowWrongFalsely : Prop := fnExactValidRowRow.holds Try.pinned (OpenSpec.ofChange fnExactValidRowWrong)

/-- 'laws.FnExactRowText': WHATEVER THE INPUT: true; the input reads as it did. -/
def fnExactRowTextSpec : ChangeSpec := { name := "fnExactRowText", fn := fun _ => fun
  | [d] => { results := [.lit (.bool true)], args := [d] }
  | _ => none }
def fnExactRowTextRow : OpenClaim := { program := "ytleeponhjgmioaa", sum := "9f3f572b826e7a8a58371192cc0dbbcd6096ef05b279afaf59d31308f8a15b17", func := "loop.example/g01353/laws.FnExactRowText", spec := "fnExactRowText", unfollowed := true, recurses := true, apart := false }
def FnExactRowTextSaid : Prop := fnExactRowTextRow.holds Try.pinned (OpenSpec.ofChange fnExactRowTextSpec)

/-- ITS FALSE NEIGHBOUR: 'it returns false'. Refute it at one input. -/
def fnExactRowTextWrong : ChangeSpec := { name := "fnExactRowText", fn := fun _ => fun
  | [d] => { results := [.lit (.bool false)], args := [d] }
  | _ => none }
def FnExactRowTextWrongFalsely : Prop := fnExactRowTextRow.holds Try.pinned (OpenSpec.ofChange fnExactRowTextWrong)

/-- 'laws.FnExactReadRow': WHATEVER THE INPUT: true; the input reads as it did. -/
def fnExactReadRowSpec : ChangeSpec := { name := "fnExactReadRow", fn := fun _ => fun
  | [d] => { results := [.lit (.bool true)], args := [d] }
  | _ => none }
def fnExactReadRowRow : OpenClaim := { program := "ytleeponhjgmioaa", sum := "9f3f572b826e7a8a58371192cc0dbbcd6096ef05b279afaf59d31308f8a15b17", func := "loop.example/g01353/laws.FnExactReadRow", spec := "fnExactReadRow", unfollowed := true, recurses := true, apart := false }
def FnExactReadRowSaid : Prop := fnExactReadRowRow.holds Try.pinned (OpenSpec.ofChange fnExactReadRowSpec)

/-- ITS FALSE NEIGHBOUR: 'it returns false'. Refute it at one input. -/
def fnExactReadRowWrong : ChangeSpec := { name := "fnExactReadRow", fn := fun _ => fun
  | [d] => { results := [.lit (.bool false)], args := [d] }
  | _ => none }
def FnExactReadRowWrongFalsely : Prop := fnExactReadRowRow.holds Try.pinned (OpenSpec.ofChange fnExactReadRowWrong)

/-- 'laws.FnExactWalksOn': WHATEVER THE INPUT: true; the input reads as it did. -/
def fnExactWalksOnSpec : ChangeSpec := { name := "fnExactWalksOn", fn := fun _ => fun
  | [d1, d2, d3] => { results := [.lit (.bool true)], args := [d1, d2, d3] }
  | _ => none }
def fnExactWalksOnRow : OpenClaim := { program := "ytleeponhjgmioaa", sum := "9f3f572b826e7a8a58371192cc0dbbcd6096ef05b279afaf59d31308f8a15b17", func := "loop.example/g01353/laws.FnExactWalksOn", spec := "fnExactWalksOn", unfollowed := true, recurses := true, apart := false }
def FnExactWalksOnSaid : Prop := fnExactWalksOnRow.holds Try.pinned (OpenSpec.ofChange fnExactWalksOnSpec)

/-- ITS FALSE NEIGHBOUR: 'it returns false'. Refute it at one input. -/
def fnExactWalksOnWrong : ChangeSpec := { name := "fnExactWalksOn", fn := fun _ => fun
  | [d1, d2, d3] => { results := [.lit (.bool false)], args := [d1, d2, d3] }
  | _ => none }
def FnExactWalksOnWrongFalsely : Prop := fnExactWalksOnRow.holds Try.pinned (OpenSpec.ofChange fnExactWalksOnWrong)

/-- 'laws.FnExactValidWalkers': WHATEVER THE INPUT: true; the input reads as it did. -/
def fnExactValidWalkersSpec : ChangeSpec := { name := "fnExactValidWalkers", fn := fun _ => fun
  | [d1, d2] => { results := [.lit (.bool true)], args := [d1, d2] }
  | _ => none }
def fnExactValidWalkersRow : OpenClaim := { program := "ytleeponhjgmioaa", sum := "9f3f572b826e7a8a58371192cc0dbbcd6096ef05b279afaf59d31308f8a15b17", func := "loop.example/g01353/laws.FnExactValidWalkers", spec := "fnExactValidWalkers", unfollowed := true, recurses := true, apart := false }
def FnExactValidWalkersSaid : Prop := fnExactValidWalkersRow.holds Try.pinned (OpenSpec.ofChange fnExactValidWalkersSpec)

/-- ITS FALSE NEIGHBOUR: 'it returns false'. Refute it at one input. -/
def fnExactValidWalkersWrong : ChangeSpec := { name := "fnExactValidWalkers", fn := fun _ => fun
  | [d1, d2] => { results := [.lit (.bool false)], args := [d1, d2] }
  | _ => none }
def FnExactValidWalkersWrongFalsely : Prop := fnExactValidWalkersRow.holds Try.pinned (OpenSpec.ofChange fnExactValidWalkersWrong)

/-- 'laws.FnExactWalksUntil': WHATEVER THE INPUT: true; the input reads as it did. -/
def fnExactWalksUntilSpec : ChangeSpec := { name := "fnExactWalksUntil", fn := fun _ => fun
  | [d1, d2, d3] => { results := [.lit (.bool true)], args := [d1, d2, d3] }
  | _ => none }
def fnExactWalksUntilRow : OpenClaim := { program := "ytleeponhjgmioaa", sum := "9f3f572b826e7a8a58371192cc0dbbcd6096ef05b279afaf59d31308f8a15b17", func := "loop.example/g01353/laws.FnExactWalksUntil", spec := "fnExactWalksUntil", unfollowed := true, recurses := true, apart := false }
def FnExactWalksUntilSaid : Prop := fnExactWalksUntilRow.holds Try.pinned (OpenSpec.ofChange fnExactWalksUntilSpec)

/-- ITS FALSE NEIGHBOUR: 'it returns false'. Refute it at one input. -/
def fnExactWalksUntilWrong : ChangeSpec := { name := "fnExactWalksUntil", fn := fun _ => fun
  | [d1, d2, d3] => { results := [.lit (.bool false)], args := [d1, d2, d3] }
  | _ => none }
def FnExactWalksUntilWrongFalsely : Prop := fnExactWalksUntilRow.holds Try.pinned (OpenSpec.ofChange fnExactWalksUntilWrong)

/-- 'laws.FnExactTurnBottle': WHATEVER THE INPUT: true; the input reads as it did. -/
def fnExactTurnBottleSpec : ChangeSpec := { name := "fnExactTurnBottle", fn := fun _ => fun
  | [d1, d2, d3] => { results := [.lit (.bool true)], args := [d1, d2, d3] }
  | _ => none }
def fnExactTurnBottleRow : OpenClaim := { program := "ytleeponhjgmioaa", sum := "9f3f572b826e7a8a58371192cc0dbbcd6096ef05b279afaf59d31308f8a15b17", func := "loop.example/g01353/laws.FnExactTurnBottle", spec := "fnExactTurnBottle", unfollowed := true, recurses := true, apart := false }
def FnExactTurnBottleSaid : Prop := fnExactTurnBottleRow.holds Try.pinned (OpenSpec.ofChange fnExactTurnBottleSpec)

/-- ITS FALSE NEIGHBOUR: 'it returns false'. Refute it at one input. -/
def fnExactTurnBottleWrong : ChangeSpec := { name := "fnExactTurnBottle", fn := fun _ => fun
  | [d1, d2, d3] => { results := [.lit (.bool false)], args := [d1, d2, d3] }
  | _ => none }
def FnExactTurnBottleWrongFalsely : Prop := fnExactTurnBottleRow.holds Try.pinned (OpenSpec.ofChange fnExactTurnBottleWrong)

/-- 'laws.FnExactVisitsOf': WHATEVER THE INPUT: true; the input reads as it did. -/
def fnExactVisitsOfSpec : ChangeSpec := { name := "fnExactVisitsOf", fn := fun _ => fun
  | [d1, d2] => { results := [.lit (.bool true)], args := [d1, d2] }
  | _ => none }
def fnExactVisitsOfRow : OpenClaim := { program := "ytleeponhjgmioaa", sum := "9f3f572b826e7a8a58371192cc0dbbcd6096ef05b279afaf59d31308f8a15b17", func := "loop.example/g01353/laws.FnExactVisitsOf", spec := "fnExactVisitsOf", unfollowed := true, recurses := true, apart := false }
def FnExactVisitsOfSaid : Prop := fnExactVisitsOfRow.holds Try.pinned (OpenSpec.ofChange fnExactVisitsOfSpec)

/-- ITS FALSE NEIGHBOUR: 'it returns false'. Refute it at one input. -/
def fnExactVisitsOfWrong : ChangeSpec := { name := "fnExactVisitsOf", fn := fun _ => fun
  | [d1, d2] => { results := [.lit (.bool false)], args := [d1, d2] }
  | _ => none }
def FnExactVisitsOfWrongFalsely : Prop := fnExactVisitsOfRow.holds Try.pinned (OpenSpec.ofChange fnExactVisitsOfWrong)

/-- 'laws.FnExactMeetingDay': WHATEVER THE INPUT: true; the input reads as it did. -/
def fnExactMeetingDaySpec : ChangeSpec := { name := "fnExactMeetingDay", fn := fun _ => fun
  | [d1, d2, d3, d4] => { results := [.lit (.bool true)], args := [d1, d2, d3, d4] }
  | _ => none }
def fnExactMeetingDayRow : OpenClaim := { program := "ytleeponhjgmioaa", sum := "9f3f572b826e7a8a58371192cc0dbbcd6096ef05b279afaf59d31308f8a15b17", func := "loop.example/g01353/laws.FnExactMeetingDay", spec := "fnExactMeetingDay", unfollowed := true, recurses := true, apart := false }
def FnExactMeetingDaySaid : Prop := fnExactMeetingDayRow.holds Try.pinned (OpenSpec.ofChange fnExactMeetingDaySpec)

/-- ITS FALSE NEIGHBOUR: 'it returns false'. Refute it at one input. -/
def fnExactMeetingDayWrong : ChangeSpec := { name := "fnExactMeetingDay", fn := fun _ => fun
  | [d1, d2, d3, d4] => { results := [.lit (.bool false)], args := [d1, d2, d3, d4] }
  | _ => none }
def FnExactMeetingDayWrongFalsely : Prop := fnExactMeetingDayRow.holds Try.pinned (OpenSpec.ofChange fnExactMeetingDayWrong)

/-- 'laws.FnExactAllWalkEvery': WHATEVER THE INPUT: true; the input reads as it did. -/
def fnExactAllWalkEverySpec : ChangeSpec := { name := "fnExactAllWalkEvery", fn := fun _ => fun
  | [d1, d2] => { results := [.lit (.bool true)], args := [d1, d2] }
  | _ => none }
def fnExactAllWalkEveryRow : OpenClaim := { program := "ytleeponhjgmioaa", sum := "9f3f572b826e7a8a58371192cc0dbbcd6096ef05b279afaf59d31308f8a15b17", func := "loop.example/g01353/laws.FnExactAllWalkEvery", spec := "fnExactAllWalkEvery", unfollowed := true, recurses := true, apart := false }
def FnExactAllWalkEverySaid : Prop := fnExactAllWalkEveryRow.holds Try.pinned (OpenSpec.ofChange fnExactAllWalkEverySpec)

/-- ITS FALSE NEIGHBOUR: 'it returns false'. Refute it at one input. -/
def fnExactAllWalkEveryWrong : ChangeSpec := { name := "fnExactAllWalkEvery", fn := fun _ => fun
  | [d1, d2] => { results := [.lit (.bool false)], args := [d1, d2] }
  | _ => none }
def FnExactAllWalkEveryWrongFalsely : Prop := fnExactAllWalkEveryRow.holds Try.pinned (OpenSpec.ofChange fnExactAllWalkEveryWrong)

/-- 'laws.FnExactBusiestDay': WHATEVER THE INPUT: true; the input reads as it did. -/
def fnExactBusiestDaySpec : ChangeSpec := { name := "fnExactBusiestDay", fn := fun _ => fun
  | [d1, d2, d3, d4] => { results := [.lit (.bool true)], args := [d1, d2, d3, d4] }
  | _ => none }
def fnExactBusiestDayRow : OpenClaim := { program := "ytleeponhjgmioaa", sum := "9f3f572b826e7a8a58371192cc0dbbcd6096ef05b279afaf59d31308f8a15b17", func := "loop.example/g01353/laws.FnExactBusiestDay", spec := "fnExactBusiestDay", unfollowed := true, recurses := true, apart := false }
def FnExactBusiestDaySaid : Prop := fnExactBusiestDayRow.holds Try.pinned (OpenSpec.ofChange fnExactBusiestDaySpec)

/-- ITS FALSE NEIGHBOUR: 'it returns false'. Refute it at one input. -/
def fnExactBusiestDayWrong : ChangeSpec := { name := "fnExactBusiestDay", fn := fun _ => fun
  | [d1, d2, d3, d4] => { results := [.lit (.bool false)], args := [d1, d2, d3, d4] }
  | _ => none }
def FnExactBusiestDayWrongFalsely : Prop := fnExactBusiestDayRow.holds Try.pinned (OpenSpec.ofChange fnExactBusiestDayWrong)

/- THE SECOND FORM. 'bulk': how many values and letters a reading holds, each counted each time it is reached (what is shared counts as often as it is met; a slice's spare places count too). A statement '..UptoSaid' is the law's where the arguments, and the package variables that the reading takes, are together of bulk at most 1048576: NARROWER than '..Said'. Prove '..Said' where nothing that the law and all that it calls make is longer than what came in: it says more and counts as full. Else prove '..UptoSaid'. A law counts once. -/
mutual
def uptoBulk {H : Type} : DataW H → Nat
  | .lit (.string bytes) => bytes.length + 1
  | .lit _ => 1
  | .nil => 1
  | .ptr d => uptoBulk d + 1
  | .slice elems spare => uptoBulkAll elems + uptoBulkAll spare + 1
  | .agg parts => uptoBulkAll parts + 1
  | .iface _ d => uptoBulk d + 1
  | .map entries => uptoBulkEntries entries + 1
  | .held _ => 1
def uptoBulkAll {H : Type} : List (DataW H) → Nat
  | [] => 0
  | d :: r => uptoBulk d + uptoBulkAll r
def uptoBulkEntries {H : Type} : List (Lit × DataW H) → Nat
  | [] => 0
  | x :: r => uptoBulkEntry x + uptoBulkEntries r
def uptoBulkEntry {H : Type} : Lit × DataW H → Nat
  | (.string bytes, d) => bytes.length + uptoBulk d + 1
  | (_, d) => uptoBulk d + 1
 end
def uptoSmall : (H : Type) → List (DataW H) → Bool := fun _ ds => decide (uptoBulkAll ds ≤ 1048576)
def OpenSpec.upto (s : _root_.Go.ChangeSpec) : _root_.Go.OpenSpec := { _root_.Go.OpenSpec.ofChange s with cond := some uptoSmall }

/-- 'laws.FnExactSameRow', WHERE WHAT IT READS IS OF BULK AT MOST 1048576: true; the input reads as it did. -/
def fnExactSameRowUptoRow : OpenClaim := { program := "ytleeponhjgmioaa", sum := "9f3f572b826e7a8a58371192cc0dbbcd6096ef05b279afaf59d31308f8a15b17", func := "loop.example/g01353/laws.FnExactSameRow", spec := "fnExactSameRow", apart := false, narrowed := true }
def FnExactSameRowUptoSaid : Prop := fnExactSameRowUptoRow.holds Try.pinned (OpenSpec.upto fnExactSameRowSpec)

/-- 'laws.FnExactValidRow', WHERE WHAT IT READS IS OF BULK AT MOST 1048576: true; the input reads as it did. -/
def fnExactValidRowUptoRow : OpenClaim := { program := "ytleeponhjgmioaa", sum := "9f3f572b826e7a8a58371192cc0dbbcd6096ef05b279afaf59d31308f8a15b17", func := "loop.example/g01353/laws.FnExactValidRow", spec := "fnExactValidRow", unfollowed := true, recurses := true, apart := false, narrowed := true }
def FnExactValidRowUptoSaid : Prop := fnExactValidRowUptoRow.holds Try.pinned (OpenSpec.upto fnExactValidRowSpec)

/-- 'laws.FnExactRowText', WHERE WHAT IT READS IS OF BULK AT MOST 1048576: true; the input reads as it did. -/
def fnExactRowTextUptoRow : OpenClaim := { program := "ytleeponhjgmioaa", sum := "9f3f572b826e7a8a58371192cc0dbbcd6096ef05b279afaf59d31308f8a15b17", func := "loop.example/g01353/laws.FnExactRowText", spec := "fnExactRowText", unfollowed := true, recurses := true, apart := false, narrowed := true }
def FnExactRowTextUptoSaid : Prop := fnExactRowTextUptoRow.holds Try.pinned (OpenSpec.upto fnExactRowTextSpec)

/-- 'laws.FnExactReadRow', WHERE WHAT IT READS IS OF BULK AT MOST 1048576: true; the input reads as it did. -/
def fnExactReadRowUptoRow : OpenClaim := { program := "ytleeponhjgmioaa", sum := "9f3f572b826e7a8a58371192cc0dbbcd6096ef05b279afaf59d31308f8a15b17", func := "loop.example/g01353/laws.FnExactReadRow", spec := "fnExactReadRow", unfollowed := true, recurses := true, apart := false, narrowed := true }
def FnExactReadRowUptoSaid : Prop := fnExactReadRowUptoRow.holds Try.pinned (OpenSpec.upto fnExactReadRowSpec)

/-- 'laws.FnExactWalksOn', WHERE WHAT IT READS IS OF BULK AT MOST 1048576: true; the input reads as it did. -/
def fnExactWalksOnUptoRow : OpenClaim := { program := "ytleeponhjgmioaa", sum := "9f3f572b826e7a8a58371192cc0dbbcd6096ef05b279afaf59d31308f8a15b17", func := "loop.example/g01353/laws.FnExactWalksOn", spec := "fnExactWalksOn", unfollowed := true, recurses := true, apart := false, narrowed := true }
def FnExactWalksOnUptoSaid : Prop := fnExactWalksOnUptoRow.holds Try.pinned (OpenSpec.upto fnExactWalksOnSpec)

/-- 'laws.FnExactValidWalkers', WHERE WHAT IT READS IS OF BULK AT MOST 1048576: true; the input reads as it did. -/
def fnExactValidWalkersUptoRow : OpenClaim := { program := "ytleeponhjgmioaa", sum := "9f3f572b826e7a8a58371192cc0dbbcd6096ef05b279afaf59d31308f8a15b17", func := "loop.example/g01353/laws.FnExactValidWalkers", spec := "fnExactValidWalkers", unfollowed := true, recurses := true, apart := false, narrowed := true }
def FnExactValidWalkersUptoSaid : Prop := fnExactValidWalkersUptoRow.holds Try.pinned (OpenSpec.upto fnExactValidWalkersSpec)

/-- 'laws.FnExactWalksUntil', WHERE WHAT IT READS IS OF BULK AT MOST 1048576: true; the input reads as it did. -/
def fnExactWalksUntilUptoRow : OpenClaim := { program := "ytleeponhjgmioaa", sum := "9f3f572b826e7a8a58371192cc0dbbcd6096ef05b279afaf59d31308f8a15b17", func := "loop.example/g01353/laws.FnExactWalksUntil", spec := "fnExactWalksUntil", unfollowed := true, recurses := true, apart := false, narrowed := true }
def FnExactWalksUntilUptoSaid : Prop := fnExactWalksUntilUptoRow.holds Try.pinned (OpenSpec.upto fnExactWalksUntilSpec)

/-- 'laws.FnExactTurnBottle', WHERE WHAT IT READS IS OF BULK AT MOST 1048576: true; the input reads as it did. -/
def fnExactTurnBottleUptoRow : OpenClaim := { program := "ytleeponhjgmioaa", sum := "9f3f572b826e7a8a58371192cc0dbbcd6096ef05b279afaf59d31308f8a15b17", func := "loop.example/g01353/laws.FnExactTurnBottle", spec := "fnExactTurnBottle", unfollowed := true, recurses := true, apart := false, narrowed := true }
def FnExactTurnBottleUptoSaid : Prop := fnExactTurnBottleUptoRow.holds Try.pinned (OpenSpec.upto fnExactTurnBottleSpec)

/-- 'laws.FnExactVisitsOf', WHERE WHAT IT READS IS OF BULK AT MOST 1048576: true; the input reads as it did. -/
def fnExactVisitsOfUptoRow : OpenClaim := { program := "ytleeponhjgmioaa", sum := "9f3f572b826e7a8a58371192cc0dbbcd6096ef05b279afaf59d31308f8a15b17", func := "loop.example/g01353/laws.FnExactVisitsOf", spec := "fnExactVisitsOf", unfollowed := true, recurses := true, apart := false, narrowed := true }
def FnExactVisitsOfUptoSaid : Prop := fnExactVisitsOfUptoRow.holds Try.pinned (OpenSpec.upto fnExactVisitsOfSpec)

/-- 'laws.FnExactMeetingDay', WHERE WHAT IT READS IS OF BULK AT MOST 1048576: true; the input reads as it did. -/
def fnExactMeetingDayUptoRow : OpenClaim := { program := "ytleeponhjgmioaa", sum := "9f3f572b826e7a8a58371192cc0dbbcd6096ef05b279afaf59d31308f8a15b17", func := "loop.example/g01353/laws.FnExactMeetingDay", spec := "fnExactMeetingDay", unfollowed := true, recurses := true, apart := false, narrowed := true }
def FnExactMeetingDayUptoSaid : Prop := fnExactMeetingDayUptoRow.holds Try.pinned (OpenSpec.upto fnExactMeetingDaySpec)

/-- 'laws.FnExactAllWalkEvery', WHERE WHAT IT READS IS OF BULK AT MOST 1048576: true; the input reads as it did. -/
def fnExactAllWalkEveryUptoRow : OpenClaim := { program := "ytleeponhjgmioaa", sum := "9f3f572b826e7a8a58371192cc0dbbcd6096ef05b279afaf59d31308f8a15b17", func := "loop.example/g01353/laws.FnExactAllWalkEvery", spec := "fnExactAllWalkEvery", unfollowed := true, recurses := true, apart := false, narrowed := true }
def FnExactAllWalkEveryUptoSaid : Prop := fnExactAllWalkEveryUptoRow.holds Try.pinned (OpenSpec.upto fnExactAllWalkEverySpec)

/-- 'laws.FnExactBusiestDay', WHERE WHAT IT READS IS OF BULK AT MOST 1048576: true; the input reads as it did. -/
def fnExactBusiestDayUptoRow : OpenClaim := { program := "ytleeponhjgmioaa", sum := "9f3f572b826e7a8a58371192cc0dbbcd6096ef05b279afaf59d31308f8a15b17", func := "loop.example/g01353/laws.FnExactBusiestDay", spec := "fnExactBusiestDay", unfollowed := true, recurses := true, apart := false, narrowed := true }
def FnExactBusiestDayUptoSaid : Prop := fnExactBusiestDayUptoRow.holds Try.pinned (OpenSpec.upto fnExactBusiestDaySpec)

end Rows
end Go.Proofs.Ytleeponhjgmioaa
