/-
  DERIVED. GIVEN WITH THE SEED: THE CARDS: each row of YtdejhkhdilcadaaDoorRows.lean that lists a variable, with what it lists TIED to the program's text (the seventh form; the later family's looks); each row that meets fmt, with fmt's text TOLD by the authors' own Lean function (tested against real Go, not proved from fmt's source: count such statements apart). THE CARD IS WHAT COUNTS. Prove the row's statement (the work); the ties are given (YtdejhkhdilcadaaDoorTie.lean); close each card by the builder's one call (the guide's Derived/Test/ToyasCard.lean, 'card_holds'). Laid BY PROGRAM, IN A SANDBOX (cutbox-door.mjs). By AI agents, Wed Nov 11 2026. No macro, syntax, notation, axiom, sorry.
-/
import Derived.Test.YtdejhkhdilcadaaDoorRows
import GoSem.ClaimSeven
namespace Go.Proofs.YtdejhkhdilcadaaDoor
namespace Rows

/-- THE TIED CARD OF 'laws.FnExactPaperReport'. -/
def fnExactPaperReportCard : Claim7 := { stood := { row := fnExactPaperReportRow, standIns := [], harness := (true, "f46fedbefc2caf6d866cce9cedbf950179ef08c4b934b27281ea47af44fdfe9c"), looks := false }, kinds := [], alts := [], laidByText := true, laidKinds := [.data, .data, .data, .data, .pinned], laidTests := true, laidLooks := .later }
def FnExactPaperReportCardSaid : Prop := Claim7.holds Tryd.pinned (.plain (OpenSpec.ofChange fnExactPaperReportSpec)) fnExactPaperReportCard

/-- THE TIED CARD OF 'laws.FnExactPotReport'. -/
def fnExactPotReportCard : Claim7 := { stood := { row := fnExactPotReportRow, standIns := [], harness := (true, "f46fedbefc2caf6d866cce9cedbf950179ef08c4b934b27281ea47af44fdfe9c"), looks := false }, kinds := [], alts := [], laidByText := true, laidKinds := [.data, .data, .data, .data, .pinned], laidTests := true, laidLooks := .later }
def FnExactPotReportCardSaid : Prop := Claim7.holds Tryd.pinned (.plain (OpenSpec.ofChange fnExactPotReportSpec)) fnExactPotReportCard

/-- THE SECOND FORM's CARD OF 'laws.FnExactPaperReport'. -/
def fnExactPaperReportUptoCard : Claim7 := { stood := { row := fnExactPaperReportUptoRow, standIns := [], harness := (true, "f46fedbefc2caf6d866cce9cedbf950179ef08c4b934b27281ea47af44fdfe9c"), looks := false }, kinds := [], alts := [], laidByText := true, laidKinds := [.data, .data, .data, .data, .pinned], laidTests := true, laidLooks := .later }
def FnExactPaperReportUptoCardSaid : Prop := Claim7.holds Tryd.pinned (.plain (OpenSpec.upto fnExactPaperReportSpec)) fnExactPaperReportUptoCard

/-- THE SECOND FORM's CARD OF 'laws.FnExactPotReport'. -/
def fnExactPotReportUptoCard : Claim7 := { stood := { row := fnExactPotReportUptoRow, standIns := [], harness := (true, "f46fedbefc2caf6d866cce9cedbf950179ef08c4b934b27281ea47af44fdfe9c"), looks := false }, kinds := [], alts := [], laidByText := true, laidKinds := [.data, .data, .data, .data, .pinned], laidTests := true, laidLooks := .later }
def FnExactPotReportUptoCardSaid : Prop := Claim7.holds Tryd.pinned (.plain (OpenSpec.upto fnExactPotReportSpec)) fnExactPotReportUptoCard
end Rows
end Go.Proofs.YtdejhkhdilcadaaDoor
