/-
  DERIVED. GIVEN WITH THE SEED: THE CARDS: each row of YteaodjahafgbcaaDoorRows.lean that lists a variable, with what it lists TIED to the program's text (the seventh form; the later family's looks); each row that meets fmt, with fmt's text TOLD by the authors' own Lean function (tested against real Go, not proved from fmt's source: count such statements apart). THE CARD IS WHAT COUNTS. Prove the row's statement (the work); the ties are given (YteaodjahafgbcaaDoorTie.lean); close each card by the builder's one call (the guide's Derived/Test/ToyasCard.lean, 'card_holds'). Laid BY PROGRAM, IN A SANDBOX (cutbox-door.mjs). By AI agents, Wed Nov 11 2026. No macro, syntax, notation, axiom, sorry.
-/
import Derived.Test.YteaodjahafgbcaaDoorRows
import GoSem.ClaimSeven
namespace Go.Proofs.YteaodjahafgbcaaDoor
namespace Rows

/-- THE TIED CARD OF 'laws.FnExactRackText'. -/
def fnExactRackTextCard : Claim7 := { stood := { row := fnExactRackTextRow, standIns := [], harness := (true, "d6fe1aec9183d27980d2a010290d4d8f8f06e8e96ee8879b5414436de606af00"), looks := true }, kinds := [], alts := [], laidByText := true, laidKinds := [.data, .data, .data], laidTests := true, laidLooks := .later }
def FnExactRackTextCardSaid : Prop := Claim7.holds Tryd.pinned (.plain (OpenSpec.ofChange fnExactRackTextSpec)) fnExactRackTextCard

/-- THE TIED CARD OF 'laws.FnExactReadRack'. -/
def fnExactReadRackCard : Claim7 := { stood := { row := fnExactReadRackRow, standIns := [], harness := (true, "d6fe1aec9183d27980d2a010290d4d8f8f06e8e96ee8879b5414436de606af00"), looks := true }, kinds := [], alts := [], laidByText := true, laidKinds := [.data, .data, .data, .data, .sentinel, .sentinel, .pinned], laidTests := true, laidLooks := .later }
def FnExactReadRackCardSaid : Prop := Claim7.holds Tryd.pinned (.plain (OpenSpec.ofChange fnExactReadRackSpec)) fnExactReadRackCard

/-- THE SECOND FORM's CARD OF 'laws.FnExactRackText'. -/
def fnExactRackTextUptoCard : Claim7 := { stood := { row := fnExactRackTextUptoRow, standIns := [], harness := (true, "d6fe1aec9183d27980d2a010290d4d8f8f06e8e96ee8879b5414436de606af00"), looks := true }, kinds := [], alts := [], laidByText := true, laidKinds := [.data, .data, .data], laidTests := true, laidLooks := .later }
def FnExactRackTextUptoCardSaid : Prop := Claim7.holds Tryd.pinned (.plain (OpenSpec.upto fnExactRackTextSpec)) fnExactRackTextUptoCard

/-- THE SECOND FORM's CARD OF 'laws.FnExactReadRack'. -/
def fnExactReadRackUptoCard : Claim7 := { stood := { row := fnExactReadRackUptoRow, standIns := [], harness := (true, "d6fe1aec9183d27980d2a010290d4d8f8f06e8e96ee8879b5414436de606af00"), looks := true }, kinds := [], alts := [], laidByText := true, laidKinds := [.data, .data, .data, .data, .sentinel, .sentinel, .pinned], laidTests := true, laidLooks := .later }
def FnExactReadRackUptoCardSaid : Prop := Claim7.holds Tryd.pinned (.plain (OpenSpec.upto fnExactReadRackSpec)) fnExactReadRackUptoCard
end Rows
end Go.Proofs.YteaodjahafgbcaaDoor
