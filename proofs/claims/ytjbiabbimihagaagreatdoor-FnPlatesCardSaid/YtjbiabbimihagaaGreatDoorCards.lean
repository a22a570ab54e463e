/-
  DERIVED. GIVEN WITH THE SEED: THE CARDS: each row of YtjbiabbimihagaaGreatDoorRows.lean that lists a variable, with what it lists TIED to the program's text (the seventh form; the later family's looks); each row that meets fmt, with fmt's text TOLD by the authors' own Lean function (tested against real Go, not proved from fmt's source: count such statements apart). THE CARD IS WHAT COUNTS. Prove the row's statement (the work); the ties are given (YtjbiabbimihagaaGreatDoorTie.lean); close each card by the builder's one call (the guide's Derived/Test/ToyasCard.lean, 'card_holds'). Laid BY PROGRAM, IN A SANDBOX (cutbox-door.mjs). By AI agents, Wed Nov 11 2026. No macro, syntax, notation, axiom, sorry.
-/
import Derived.Test.YtjbiabbimihagaaGreatDoorRows
import GoSem.ClaimSeven
namespace Go.Proofs.YtjbiabbimihagaaGreatDoor
namespace Rows

/-- THE TIED CARD OF 'laws.FnPlates'. -/
def fnPlatesCard : Claim7 := { stood := { row := fnPlatesRow, standIns := [], harness := (true, "b011ea76f854aa6bb6e469e7b74fd610966f49ed33f935d22d05361650c759ac"), looks := true }, kinds := [], alts := [], laidByText := true, laidKinds := [.data, .data, .data, .data, .sentinel, .sentinel, .pinned], laidTests := true, laidLooks := .later }
def FnPlatesCardSaid : Prop := Claim7.holds Tryz.pinned (.plain (OpenSpec.ofChange fnPlatesSpec)) fnPlatesCard

/-- THE SECOND FORM's CARD OF 'laws.FnPlates'. -/
def fnPlatesUptoCard : Claim7 := { stood := { row := fnPlatesUptoRow, standIns := [], harness := (true, "b011ea76f854aa6bb6e469e7b74fd610966f49ed33f935d22d05361650c759ac"), looks := true }, kinds := [], alts := [], laidByText := true, laidKinds := [.data, .data, .data, .data, .sentinel, .sentinel, .pinned], laidTests := true, laidLooks := .later }
def FnPlatesUptoCardSaid : Prop := Claim7.holds Tryz.pinned (.plain (OpenSpec.upto fnPlatesSpec)) fnPlatesUptoCard
end Rows
end Go.Proofs.YtjbiabbimihagaaGreatDoor
