/-
  DERIVED. GIVEN WITH THE SEED: THE CARDS: each row of YtfmleilgdgmpeaaGreatDoorRows.lean that lists a variable, with what it lists TIED to the program's text (the seventh form; the later family's looks); each row that meets fmt, with fmt's text TOLD by the authors' own Lean function (tested against real Go, not proved from fmt's source: count such statements apart). THE CARD IS WHAT COUNTS. Prove the row's statement (the work); the ties are given (YtfmleilgdgmpeaaGreatDoorTie.lean); close each card by the builder's one call (the guide's Derived/Test/ToyasCard.lean, 'card_holds'). Laid BY PROGRAM, IN A SANDBOX (cutbox-door.mjs). By AI agents, Wed Nov 11 2026. No macro, syntax, notation, axiom, sorry.
-/
import Derived.Test.YtfmleilgdgmpeaaGreatDoorRows
import GoSem.ClaimSeven
namespace Go.Proofs.YtfmleilgdgmpeaaGreatDoor
namespace Rows

/-- THE TIED CARD OF 'laws.FnDocuments'. -/
def fnDocumentsCard : Claim7 := { stood := { row := fnDocumentsRow, standIns := [], harness := (true, "32c5838fc076682accb11d2a0c400a7486063932c435185be8c55696cf16863e"), looks := true }, kinds := [], alts := [], laidByText := true, laidKinds := [.data, .data, .data, .data, .sentinel, .sentinel, .pinned], laidTests := true, laidLooks := .later }
def FnDocumentsCardSaid : Prop := Claim7.holds Tryz.pinned (.plain (OpenSpec.ofChange fnDocumentsSpec)) fnDocumentsCard

/-- THE TIED CARD OF 'laws.FnBooks'. -/
def fnBooksCard : Claim7 := { stood := { row := fnBooksRow, standIns := [], harness := (true, "32c5838fc076682accb11d2a0c400a7486063932c435185be8c55696cf16863e"), looks := true }, kinds := [], alts := [], laidByText := true, laidKinds := [.data, .data, .data, .data, .sentinel, .sentinel, .pinned], laidTests := true, laidLooks := .later }
def FnBooksCardSaid : Prop := Claim7.holds Tryz.pinned (.plain (OpenSpec.ofChange fnBooksSpec)) fnBooksCard

/-- THE SECOND FORM's CARD OF 'laws.FnDocuments'. -/
def fnDocumentsUptoCard : Claim7 := { stood := { row := fnDocumentsUptoRow, standIns := [], harness := (true, "32c5838fc076682accb11d2a0c400a7486063932c435185be8c55696cf16863e"), looks := true }, kinds := [], alts := [], laidByText := true, laidKinds := [.data, .data, .data, .data, .sentinel, .sentinel, .pinned], laidTests := true, laidLooks := .later }
def FnDocumentsUptoCardSaid : Prop := Claim7.holds Tryz.pinned (.plain (OpenSpec.upto fnDocumentsSpec)) fnDocumentsUptoCard

/-- THE SECOND FORM's CARD OF 'laws.FnBooks'. -/
def fnBooksUptoCard : Claim7 := { stood := { row := fnBooksUptoRow, standIns := [], harness := (true, "32c5838fc076682accb11d2a0c400a7486063932c435185be8c55696cf16863e"), looks := true }, kinds := [], alts := [], laidByText := true, laidKinds := [.data, .data, .data, .data, .sentinel, .sentinel, .pinned], laidTests := true, laidLooks := .later }
def FnBooksUptoCardSaid : Prop := Claim7.holds Tryz.pinned (.plain (OpenSpec.upto fnBooksSpec)) fnBooksUptoCard
end Rows
end Go.Proofs.YtfmleilgdgmpeaaGreatDoor
