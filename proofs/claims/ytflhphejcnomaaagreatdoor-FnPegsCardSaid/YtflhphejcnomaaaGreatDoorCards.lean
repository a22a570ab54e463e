/-
  DERIVED. GIVEN WITH THE SEED: THE CARDS: each row of YtflhphejcnomaaaGreatDoorRows.lean that lists a variable, with what it lists TIED to the program's text (the seventh form; the later family's looks); each row that meets fmt, with fmt's text TOLD by the authors' own Lean function (tested against real Go, not proved from fmt's source: count such statements apart). THE CARD IS WHAT COUNTS. Prove the row's statement (the work); the ties are given (YtflhphejcnomaaaGreatDoorTie.lean); close each card by the builder's one call (the guide's Derived/Test/ToyasCard.lean, 'card_holds'). Laid BY PROGRAM, IN A SANDBOX (cutbox-door.mjs). By AI agents, Wed Nov 11 2026. No macro, syntax, notation, axiom, sorry.
-/
import Derived.Test.YtflhphejcnomaaaGreatDoorRows
import GoSem.ClaimSeven
namespace Go.Proofs.YtflhphejcnomaaaGreatDoor
namespace Rows

/-- THE TIED CARD OF 'laws.FnPegs'. -/
def fnPegsCard : Claim7 := { stood := { row := fnPegsRow, standIns := [], harness := (true, "c15f7d72a3335d2a284284b46563459c36406f828fb5cdc079660ec1c2ffc08e"), looks := true }, kinds := [], alts := [], laidByText := true, laidKinds := [.data, .data, .data, .data, .sentinel, .sentinel, .pinned], laidTests := true, laidLooks := .later }
def FnPegsCardSaid : Prop := Claim7.holds Tryz.pinned (.plain (OpenSpec.ofChange fnPegsSpec)) fnPegsCard

/-- THE SECOND FORM's CARD OF 'laws.FnPegs'. -/
def fnPegsUptoCard : Claim7 := { stood := { row := fnPegsUptoRow, standIns := [], harness := (true, "c15f7d72a3335d2a284284b46563459c36406f828fb5cdc079660ec1c2ffc08e"), looks := true }, kinds := [], alts := [], laidByText := true, laidKinds := [.data, .data, .data, .data, .sentinel, .sentinel, .pinned], laidTests := true, laidLooks := .later }
def FnPegsUptoCardSaid : Prop := Claim7.holds Tryz.pinned (.plain (OpenSpec.upto fnPegsSpec)) fnPegsUptoCard
end Rows
end Go.Proofs.YtflhphejcnomaaaGreatDoor
