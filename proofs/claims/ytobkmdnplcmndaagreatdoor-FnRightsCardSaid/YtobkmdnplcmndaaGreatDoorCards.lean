/-
  DERIVED. GIVEN WITH THE SEED: THE CARDS: each row of YtobkmdnplcmndaaGreatDoorRows.lean that lists a variable, with what it lists TIED to the program's text (the seventh form; the later family's looks); each row that meets fmt, with fmt's text TOLD by the authors' own Lean function (tested against real Go, not proved from fmt's source: count such statements apart). THE CARD IS WHAT COUNTS. Prove the row's statement (the work); the ties are given (YtobkmdnplcmndaaGreatDoorTie.lean); close each card by the builder's one call (the guide's Derived/Test/ToyasCard.lean, 'card_holds'). Laid BY PROGRAM, IN A SANDBOX (cutbox-door.mjs). By AI agents, Wed Nov 11 2026. No macro, syntax, notation, axiom, sorry.
-/
import Derived.Test.YtobkmdnplcmndaaGreatDoorRows
import GoSem.ClaimSeven
namespace Go.Proofs.YtobkmdnplcmndaaGreatDoor
namespace Rows

/-- THE TIED CARD OF 'laws.FnRights'. -/
def fnRightsCard : Claim7 := { stood := { row := fnRightsRow, standIns := [], harness := (true, "c9194d3cb83db038d930b9d991ee6ef1601acb160888db8bbb3a1bcfe7769b37"), looks := false }, kinds := [], alts := [], laidByText := true, laidKinds := [.data, .pinned], laidTests := true, laidLooks := .later }
def FnRightsCardSaid : Prop := Claim7.holds Tryz.pinned (.plain (OpenSpec.ofChange fnRightsSpec)) fnRightsCard

/-- THE SECOND FORM's CARD OF 'laws.FnRights'. -/
def fnRightsUptoCard : Claim7 := { stood := { row := fnRightsUptoRow, standIns := [], harness := (true, "c9194d3cb83db038d930b9d991ee6ef1601acb160888db8bbb3a1bcfe7769b37"), looks := false }, kinds := [], alts := [], laidByText := true, laidKinds := [.data, .pinned], laidTests := true, laidLooks := .later }
def FnRightsUptoCardSaid : Prop := Claim7.holds Tryz.pinned (.plain (OpenSpec.upto fnRightsSpec)) fnRightsUptoCard
end Rows
end Go.Proofs.YtobkmdnplcmndaaGreatDoor
