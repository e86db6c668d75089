/-
  DERIVED. GIVEN WITH THE SEED: THE CARDS: each row of YtjajlmaldeoobaaDoorRows.lean that lists a variable, with what it lists TIED to the program's text (the seventh form; the later family's looks); each row that meets fmt, with fmt's text TOLD by the authors' own Lean function (tested against real Go, not proved from fmt's source: count such statements apart). THE CARD IS WHAT COUNTS. Prove the row's statement (the work); the ties are given (YtjajlmaldeoobaaDoorTie.lean); close each card by the builder's one call (the guide's Derived/Test/ToyasCard.lean, 'card_holds'). Laid BY PROGRAM, IN A SANDBOX (cutbox-door.mjs). By AI agents, Wed Nov 11 2026. No macro, syntax, notation, axiom, sorry.
-/
import Derived.Test.YtjajlmaldeoobaaDoorRows
import GoSem.ClaimSeven
namespace Go.Proofs.YtjajlmaldeoobaaDoor
namespace Rows

/-- THE TIED CARD OF 'laws.FnExactSwapsText'. -/
def fnExactSwapsTextCard : Claim7 := { stood := { row := fnExactSwapsTextRow, standIns := [], harness := (true, "49bdee1d191f5b65aa0a9d0d4f9dd547b69c8f68fe4b1833ffebb5002ee39eb9"), looks := true }, kinds := [], alts := [], laidByText := true, laidKinds := [.data, .data, .data], laidTests := true, laidLooks := .later }
def FnExactSwapsTextCardSaid : Prop := Claim7.holds Tryd.pinned (.plain (OpenSpec.ofChange fnExactSwapsTextSpec)) fnExactSwapsTextCard

/-- THE TIED CARD OF 'laws.FnExactReadSwaps'. -/
def fnExactReadSwapsCard : Claim7 := { stood := { row := fnExactReadSwapsRow, standIns := [], harness := (true, "49bdee1d191f5b65aa0a9d0d4f9dd547b69c8f68fe4b1833ffebb5002ee39eb9"), looks := true }, kinds := [], alts := [], laidByText := true, laidKinds := [.data, .data, .data, .data, .sentinel, .sentinel, .pinned], laidTests := true, laidLooks := .later }
def FnExactReadSwapsCardSaid : Prop := Claim7.holds Tryd.pinned (.plain (OpenSpec.ofChange fnExactReadSwapsSpec)) fnExactReadSwapsCard

/-- THE SECOND FORM's CARD OF 'laws.FnExactSwapsText'. -/
def fnExactSwapsTextUptoCard : Claim7 := { stood := { row := fnExactSwapsTextUptoRow, standIns := [], harness := (true, "49bdee1d191f5b65aa0a9d0d4f9dd547b69c8f68fe4b1833ffebb5002ee39eb9"), looks := true }, kinds := [], alts := [], laidByText := true, laidKinds := [.data, .data, .data], laidTests := true, laidLooks := .later }
def FnExactSwapsTextUptoCardSaid : Prop := Claim7.holds Tryd.pinned (.plain (OpenSpec.upto fnExactSwapsTextSpec)) fnExactSwapsTextUptoCard

/-- THE SECOND FORM's CARD OF 'laws.FnExactReadSwaps'. -/
def fnExactReadSwapsUptoCard : Claim7 := { stood := { row := fnExactReadSwapsUptoRow, standIns := [], harness := (true, "49bdee1d191f5b65aa0a9d0d4f9dd547b69c8f68fe4b1833ffebb5002ee39eb9"), looks := true }, kinds := [], alts := [], laidByText := true, laidKinds := [.data, .data, .data, .data, .sentinel, .sentinel, .pinned], laidTests := true, laidLooks := .later }
def FnExactReadSwapsUptoCardSaid : Prop := Claim7.holds Tryd.pinned (.plain (OpenSpec.upto fnExactReadSwapsSpec)) fnExactReadSwapsUptoCard
end Rows
end Go.Proofs.YtjajlmaldeoobaaDoor
