/-
  DERIVED. GIVEN WITH THE SEED: THE CARDS: each row of YtmighhmhnlhfbaaGreatDoorRows.lean that lists a variable, with what it lists TIED to the program's text (the seventh form; the later family's looks); each row that meets fmt, with fmt's text TOLD by the authors' own Lean function (tested against real Go, not proved from fmt's source: count such statements apart). THE CARD IS WHAT COUNTS. Prove the row's statement (the work); the ties are given (YtmighhmhnlhfbaaGreatDoorTie.lean); close each card by the builder's one call (the guide's Derived/Test/ToyasCard.lean, 'card_holds'). Laid BY PROGRAM, IN A SANDBOX (cutbox-door.mjs). By AI agents, Wed Nov 11 2026. No macro, syntax, notation, axiom, sorry.
-/
import Derived.Test.YtmighhmhnlhfbaaGreatDoorRows
import GoSem.ClaimSeven
namespace Go.Proofs.YtmighhmhnlhfbaaGreatDoor
namespace Rows

/-- THE TIED CARD OF 'laws.FnProvenance'. -/
def fnProvenanceCard : Claim7 := { stood := { row := fnProvenanceRow, standIns := [], harness := (true, "318ad81c7764220d06edd62305d9dc69711288b765ec8bd9664b94ec00d17d8e"), looks := true }, kinds := [], alts := [], laidByText := true, laidKinds := [.data, .data, .data, .data, .sentinel, .sentinel, .pinned], laidTests := true, laidLooks := .later }
def FnProvenanceCardSaid : Prop := Claim7.holds Tryz.pinned (.plain (OpenSpec.ofChange fnProvenanceSpec)) fnProvenanceCard

/-- THE SECOND FORM's CARD OF 'laws.FnProvenance'. -/
def fnProvenanceUptoCard : Claim7 := { stood := { row := fnProvenanceUptoRow, standIns := [], harness := (true, "318ad81c7764220d06edd62305d9dc69711288b765ec8bd9664b94ec00d17d8e"), looks := true }, kinds := [], alts := [], laidByText := true, laidKinds := [.data, .data, .data, .data, .sentinel, .sentinel, .pinned], laidTests := true, laidLooks := .later }
def FnProvenanceUptoCardSaid : Prop := Claim7.holds Tryz.pinned (.plain (OpenSpec.upto fnProvenanceSpec)) fnProvenanceUptoCard
end Rows
end Go.Proofs.YtmighhmhnlhfbaaGreatDoor
