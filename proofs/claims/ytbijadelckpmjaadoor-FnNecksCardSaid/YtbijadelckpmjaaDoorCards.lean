/-
  DERIVED. GIVEN WITH THE SEED: THE CARDS: each row of YtbijadelckpmjaaDoorRows.lean that lists a variable, with what it lists TIED to the program's text (the seventh form; the later family's looks); each row that meets fmt, with fmt's text TOLD by the authors' own Lean function (tested against real Go, not proved from fmt's source: count such statements apart). THE CARD IS WHAT COUNTS. Prove the row's statement (the work); the ties are given (YtbijadelckpmjaaDoorTie.lean); close each card by the builder's one call (the guide's Derived/Test/ToyasCard.lean, 'card_holds'). Laid BY PROGRAM, IN A SANDBOX (cutbox-door.mjs). By AI agents, Wed Nov 11 2026. No macro, syntax, notation, axiom, sorry.
-/
import Derived.Test.YtbijadelckpmjaaDoorRows
import GoSem.ClaimSeven
namespace Go.Proofs.YtbijadelckpmjaaDoor
namespace Rows

/-- THE TIED CARD OF 'laws.FnUnits'. -/
def fnUnitsCard : Claim7 := { stood := { row := fnUnitsRow, standIns := [], harness := (true, "1392dc62c1b2b191221079823d01ef24d5e6a800f7d6bbbfca5d4126b531323d"), looks := true }, kinds := [], alts := [], laidByText := true, laidKinds := [.data, .data, .data], laidTests := true, laidLooks := .later }
def FnUnitsCardSaid : Prop := Claim7.holds Tryd.pinned (.plain (OpenSpec.ofChange fnUnitsSpec)) fnUnitsCard

/-- THE TIED CARD OF 'laws.FnDates'. -/
def fnDatesCard : Claim7 := { stood := { row := fnDatesRow, standIns := [], harness := (true, "1392dc62c1b2b191221079823d01ef24d5e6a800f7d6bbbfca5d4126b531323d"), looks := true }, kinds := [], alts := [], laidByText := true, laidKinds := [.data, .data, .data, .data, .pinned], laidTests := true, laidLooks := .later }
def FnDatesCardSaid : Prop := Claim7.holds Tryd.pinned (.plain (OpenSpec.ofChange fnDatesSpec)) fnDatesCard

/-- THE TIED CARD OF 'laws.FnNecks'. -/
def fnNecksCard : Claim7 := { stood := { row := fnNecksRow, standIns := [], harness := (true, "1392dc62c1b2b191221079823d01ef24d5e6a800f7d6bbbfca5d4126b531323d"), looks := true }, kinds := [], alts := [], laidByText := true, laidKinds := [.data, .data, .data, .data, .sentinel, .sentinel, .pinned], laidTests := true, laidLooks := .later }
def FnNecksCardSaid : Prop := Claim7.holds Tryd.pinned (.plain (OpenSpec.ofChange fnNecksSpec)) fnNecksCard

/-- THE SECOND FORM's CARD OF 'laws.FnUnits'. -/
def fnUnitsUptoCard : Claim7 := { stood := { row := fnUnitsUptoRow, standIns := [], harness := (true, "1392dc62c1b2b191221079823d01ef24d5e6a800f7d6bbbfca5d4126b531323d"), looks := true }, kinds := [], alts := [], laidByText := true, laidKinds := [.data, .data, .data], laidTests := true, laidLooks := .later }
def FnUnitsUptoCardSaid : Prop := Claim7.holds Tryd.pinned (.plain (OpenSpec.upto fnUnitsSpec)) fnUnitsUptoCard

/-- THE SECOND FORM's CARD OF 'laws.FnDates'. -/
def fnDatesUptoCard : Claim7 := { stood := { row := fnDatesUptoRow, standIns := [], harness := (true, "1392dc62c1b2b191221079823d01ef24d5e6a800f7d6bbbfca5d4126b531323d"), looks := true }, kinds := [], alts := [], laidByText := true, laidKinds := [.data, .data, .data, .data, .pinned], laidTests := true, laidLooks := .later }
def FnDatesUptoCardSaid : Prop := Claim7.holds Tryd.pinned (.plain (OpenSpec.upto fnDatesSpec)) fnDatesUptoCard

/-- THE SECOND FORM's CARD OF 'laws.FnNecks'. -/
def fnNecksUptoCard : Claim7 := { stood := { row := fnNecksUptoRow, standIns := [], harness := (true, "1392dc62c1b2b191221079823d01ef24d5e6a800f7d6bbbfca5d4126b531323d"), looks := true }, kinds := [], alts := [], laidByText := true, laidKinds := [.data, .data, .data, .data, .sentinel, .sentinel, .pinned], laidTests := true, laidLooks := .later }
def FnNecksUptoCardSaid : Prop := Claim7.holds Tryd.pinned (.plain (OpenSpec.upto fnNecksSpec)) fnNecksUptoCard
end Rows
end Go.Proofs.YtbijadelckpmjaaDoor
