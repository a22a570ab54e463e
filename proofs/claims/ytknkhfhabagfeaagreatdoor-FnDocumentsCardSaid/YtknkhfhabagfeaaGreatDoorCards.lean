/-
  DERIVED. GIVEN WITH THE SEED: THE CARDS: each row of YtknkhfhabagfeaaGreatDoorRows.lean that lists a variable, with what it lists TIED to the program's text (the seventh form; the later family's looks); each row that meets fmt, with fmt's text TOLD by the authors' own Lean function (tested against real Go, not proved from fmt's source: count such statements apart). THE CARD IS WHAT COUNTS. Prove the row's statement (the work); the ties are given (YtknkhfhabagfeaaGreatDoorTie.lean); close each card by the builder's one call (the guide's Derived/Test/ToyasCard.lean, 'card_holds'). Laid BY PROGRAM, IN A SANDBOX (cutbox-door.mjs). By AI agents, Wed Nov 11 2026. No macro, syntax, notation, axiom, sorry.
-/
import Derived.Test.YtknkhfhabagfeaaGreatDoorRows
import GoSem.ClaimSeven
namespace Go.Proofs.YtknkhfhabagfeaaGreatDoor
namespace Rows

/-- THE TIED CARD OF 'laws.FnDocuments'. -/
def fnDocumentsCard : Claim7 := { stood := { row := fnDocumentsRow, standIns := [], harness := (true, "8543a67a8069d11e1f0238456b842b8d91bc9b74008c1838639966f55e78cac1"), looks := true }, kinds := [], alts := [], laidByText := true, laidKinds := [.data, .data, .data, .data, .sentinel, .sentinel, .pinned], laidTests := true, laidLooks := .later }
def FnDocumentsCardSaid : Prop := Claim7.holds Tryz.pinned (.plain (OpenSpec.ofChange fnDocumentsSpec)) fnDocumentsCard

/-- THE SECOND FORM's CARD OF 'laws.FnDocuments'. -/
def fnDocumentsUptoCard : Claim7 := { stood := { row := fnDocumentsUptoRow, standIns := [], harness := (true, "8543a67a8069d11e1f0238456b842b8d91bc9b74008c1838639966f55e78cac1"), looks := true }, kinds := [], alts := [], laidByText := true, laidKinds := [.data, .data, .data, .data, .sentinel, .sentinel, .pinned], laidTests := true, laidLooks := .later }
def FnDocumentsUptoCardSaid : Prop := Claim7.holds Tryz.pinned (.plain (OpenSpec.upto fnDocumentsSpec)) fnDocumentsUptoCard
end Rows
end Go.Proofs.YtknkhfhabagfeaaGreatDoor
