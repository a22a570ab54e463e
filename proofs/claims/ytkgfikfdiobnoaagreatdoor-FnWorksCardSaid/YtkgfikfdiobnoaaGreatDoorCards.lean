/-
  DERIVED. GIVEN WITH THE SEED: THE CARDS: each row of YtkgfikfdiobnoaaGreatDoorRows.lean that lists a variable, with what it lists TIED to the program's text (the seventh form; the later family's looks); each row that meets fmt, with fmt's text TOLD by the authors' own Lean function (tested against real Go, not proved from fmt's source: count such statements apart). THE CARD IS WHAT COUNTS. Prove the row's statement (the work); the ties are given (YtkgfikfdiobnoaaGreatDoorTie.lean); close each card by the builder's one call (the guide's Derived/Test/ToyasCard.lean, 'card_holds'). Laid BY PROGRAM, IN A SANDBOX (cutbox-door.mjs). By AI agents, Wed Nov 11 2026. No macro, syntax, notation, axiom, sorry.
-/
import Derived.Test.YtkgfikfdiobnoaaGreatDoorRows
import GoSem.ClaimSeven
namespace Go.Proofs.YtkgfikfdiobnoaaGreatDoor
namespace Rows

/-- THE TIED CARD OF 'laws.FnWorks'. -/
def fnWorksCard : Claim7 := { stood := { row := fnWorksRow, standIns := [], harness := (true, "19cd46f5d250b03c0b59557196df2758f77c1ba20d0c5e16179450ad54c09552"), looks := true }, kinds := [], alts := [], laidByText := true, laidKinds := [.data, .data, .data, .data, .sentinel, .sentinel, .pinned], laidTests := true, laidLooks := .later }
def FnWorksCardSaid : Prop := Claim7.holds Tryz.pinned (.plain (OpenSpec.ofChange fnWorksSpec)) fnWorksCard

/-- THE SECOND FORM's CARD OF 'laws.FnWorks'. -/
def fnWorksUptoCard : Claim7 := { stood := { row := fnWorksUptoRow, standIns := [], harness := (true, "19cd46f5d250b03c0b59557196df2758f77c1ba20d0c5e16179450ad54c09552"), looks := true }, kinds := [], alts := [], laidByText := true, laidKinds := [.data, .data, .data, .data, .sentinel, .sentinel, .pinned], laidTests := true, laidLooks := .later }
def FnWorksUptoCardSaid : Prop := Claim7.holds Tryz.pinned (.plain (OpenSpec.upto fnWorksSpec)) fnWorksUptoCard
end Rows
end Go.Proofs.YtkgfikfdiobnoaaGreatDoor
