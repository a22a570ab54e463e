/-
  DERIVED. GIVEN WITH THE SEED: THE CARDS: each row of YtcadiimcjfakjaaGreatDoorRows.lean that lists a variable, with what it lists TIED to the program's text (the seventh form; the later family's looks); each row that meets fmt, with fmt's text TOLD by the authors' own Lean function (tested against real Go, not proved from fmt's source: count such statements apart). THE CARD IS WHAT COUNTS. Prove the row's statement (the work); the ties are given (YtcadiimcjfakjaaGreatDoorTie.lean); close each card by the builder's one call (the guide's Derived/Test/ToyasCard.lean, 'card_holds'). Laid BY PROGRAM, IN A SANDBOX (cutbox-door.mjs). By AI agents, Wed Nov 11 2026. No macro, syntax, notation, axiom, sorry.
-/
import Derived.Test.YtcadiimcjfakjaaGreatDoorRows
import GoSem.ClaimSeven
namespace Go.Proofs.YtcadiimcjfakjaaGreatDoor
namespace Rows

/-- THE TIED CARD OF 'laws.FnAudit'. -/
def fnAuditCard : Claim7 := { stood := { row := fnAuditRow, standIns := [], harness := (true, "ca8f410eba1c2d94e3067a88b4bbe58e9906c051aadf8aa4cdba24a8645b3695"), looks := false }, kinds := [], alts := [], laidByText := true, laidKinds := [.data, .data, .data], laidTests := true, laidLooks := .later }
def FnAuditCardSaid : Prop := Claim7.holds Tryz.pinned (.plain (OpenSpec.ofChange fnAuditSpec)) fnAuditCard

/-- THE TIED CARD OF 'laws.FnTop'. -/
def fnTopCard : Claim7 := { stood := { row := fnTopRow, standIns := [], harness := (true, "ca8f410eba1c2d94e3067a88b4bbe58e9906c051aadf8aa4cdba24a8645b3695"), looks := false }, kinds := [], alts := [], laidByText := true, laidKinds := [.data, .data, .data], laidTests := true, laidLooks := .later }
def FnTopCardSaid : Prop := Claim7.holds Tryz.pinned (.plain (OpenSpec.ofChange fnTopSpec)) fnTopCard

/-- THE SECOND FORM's CARD OF 'laws.FnAudit'. -/
def fnAuditUptoCard : Claim7 := { stood := { row := fnAuditUptoRow, standIns := [], harness := (true, "ca8f410eba1c2d94e3067a88b4bbe58e9906c051aadf8aa4cdba24a8645b3695"), looks := false }, kinds := [], alts := [], laidByText := true, laidKinds := [.data, .data, .data], laidTests := true, laidLooks := .later }
def FnAuditUptoCardSaid : Prop := Claim7.holds Tryz.pinned (.plain (OpenSpec.upto fnAuditSpec)) fnAuditUptoCard

/-- THE SECOND FORM's CARD OF 'laws.FnTop'. -/
def fnTopUptoCard : Claim7 := { stood := { row := fnTopUptoRow, standIns := [], harness := (true, "ca8f410eba1c2d94e3067a88b4bbe58e9906c051aadf8aa4cdba24a8645b3695"), looks := false }, kinds := [], alts := [], laidByText := true, laidKinds := [.data, .data, .data], laidTests := true, laidLooks := .later }
def FnTopUptoCardSaid : Prop := Claim7.holds Tryz.pinned (.plain (OpenSpec.upto fnTopSpec)) fnTopUptoCard
end Rows
end Go.Proofs.YtcadiimcjfakjaaGreatDoor
