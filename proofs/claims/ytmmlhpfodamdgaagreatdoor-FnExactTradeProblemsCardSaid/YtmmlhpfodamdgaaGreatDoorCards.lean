/-
  DERIVED. GIVEN WITH THE SEED: THE CARDS: each row of YtmmlhpfodamdgaaGreatDoorRows.lean that lists a variable, with what it lists TIED to the program's text (the seventh form; the later family's looks); each row that meets fmt, with fmt's text TOLD by the authors' own Lean function (tested against real Go, not proved from fmt's source: count such statements apart). THE CARD IS WHAT COUNTS. Prove the row's statement (the work); the ties are given (YtmmlhpfodamdgaaGreatDoorTie.lean); close each card by the builder's one call (the guide's Derived/Test/ToyasCard.lean, 'card_holds'). Laid BY PROGRAM, IN A SANDBOX (cutbox-door.mjs). By AI agents, Wed Nov 11 2026. No macro, syntax, notation, axiom, sorry.
-/
import Derived.Test.YtmmlhpfodamdgaaGreatDoorRows
import GoSem.ClaimSeven
namespace Go.Proofs.YtmmlhpfodamdgaaGreatDoor
namespace Rows

/-- THE TIED CARD OF 'laws.FnExactWorkProblems'. -/
def fnExactWorkProblemsCard : Claim7 := { stood := { row := fnExactWorkProblemsRow, standIns := [], harness := (true, "81df0491dbb0dcec3346f35abe71af94facc6eb051c99dd598c5c8f6eaa1d199"), looks := false }, kinds := [], alts := [], laidByText := true, laidKinds := [.data, .data, .data], laidTests := true, laidLooks := .later }
def FnExactWorkProblemsCardSaid : Prop := Claim7.holds Tryz.pinned (.plain (OpenSpec.ofChange fnExactWorkProblemsSpec)) fnExactWorkProblemsCard

/-- THE TIED CARD OF 'laws.FnExactTradeProblems'. -/
def fnExactTradeProblemsCard : Claim7 := { stood := { row := fnExactTradeProblemsRow, standIns := [], harness := (true, "81df0491dbb0dcec3346f35abe71af94facc6eb051c99dd598c5c8f6eaa1d199"), looks := false }, kinds := [], alts := [], laidByText := true, laidKinds := [.data, .data, .data], laidTests := true, laidLooks := .later }
def FnExactTradeProblemsCardSaid : Prop := Claim7.holds Tryz.pinned (.plain (OpenSpec.ofChange fnExactTradeProblemsSpec)) fnExactTradeProblemsCard

/-- THE TIED CARD OF 'laws.FnExactBodyProblems'. -/
def fnExactBodyProblemsCard : Claim7 := { stood := { row := fnExactBodyProblemsRow, standIns := [], harness := (true, "81df0491dbb0dcec3346f35abe71af94facc6eb051c99dd598c5c8f6eaa1d199"), looks := false }, kinds := [], alts := [], laidByText := true, laidKinds := [.data, .data, .data], laidTests := true, laidLooks := .later }
def FnExactBodyProblemsCardSaid : Prop := Claim7.holds Tryz.pinned (.plain (OpenSpec.ofChange fnExactBodyProblemsSpec)) fnExactBodyProblemsCard

/-- THE TIED CARD OF 'laws.FnExactAuditShop'. -/
def fnExactAuditShopCard : Claim7 := { stood := { row := fnExactAuditShopRow, standIns := [], harness := (true, "81df0491dbb0dcec3346f35abe71af94facc6eb051c99dd598c5c8f6eaa1d199"), looks := false }, kinds := [], alts := [], laidByText := true, laidKinds := [.data, .data, .data], laidTests := true, laidLooks := .later }
def FnExactAuditShopCardSaid : Prop := Claim7.holds Tryz.pinned (.plain (OpenSpec.ofChange fnExactAuditShopSpec)) fnExactAuditShopCard

/-- THE SECOND FORM's CARD OF 'laws.FnExactWorkProblems'. -/
def fnExactWorkProblemsUptoCard : Claim7 := { stood := { row := fnExactWorkProblemsUptoRow, standIns := [], harness := (true, "81df0491dbb0dcec3346f35abe71af94facc6eb051c99dd598c5c8f6eaa1d199"), looks := false }, kinds := [], alts := [], laidByText := true, laidKinds := [.data, .data, .data], laidTests := true, laidLooks := .later }
def FnExactWorkProblemsUptoCardSaid : Prop := Claim7.holds Tryz.pinned (.plain (OpenSpec.upto fnExactWorkProblemsSpec)) fnExactWorkProblemsUptoCard

/-- THE SECOND FORM's CARD OF 'laws.FnExactTradeProblems'. -/
def fnExactTradeProblemsUptoCard : Claim7 := { stood := { row := fnExactTradeProblemsUptoRow, standIns := [], harness := (true, "81df0491dbb0dcec3346f35abe71af94facc6eb051c99dd598c5c8f6eaa1d199"), looks := false }, kinds := [], alts := [], laidByText := true, laidKinds := [.data, .data, .data], laidTests := true, laidLooks := .later }
def FnExactTradeProblemsUptoCardSaid : Prop := Claim7.holds Tryz.pinned (.plain (OpenSpec.upto fnExactTradeProblemsSpec)) fnExactTradeProblemsUptoCard

/-- THE SECOND FORM's CARD OF 'laws.FnExactBodyProblems'. -/
def fnExactBodyProblemsUptoCard : Claim7 := { stood := { row := fnExactBodyProblemsUptoRow, standIns := [], harness := (true, "81df0491dbb0dcec3346f35abe71af94facc6eb051c99dd598c5c8f6eaa1d199"), looks := false }, kinds := [], alts := [], laidByText := true, laidKinds := [.data, .data, .data], laidTests := true, laidLooks := .later }
def FnExactBodyProblemsUptoCardSaid : Prop := Claim7.holds Tryz.pinned (.plain (OpenSpec.upto fnExactBodyProblemsSpec)) fnExactBodyProblemsUptoCard

/-- THE SECOND FORM's CARD OF 'laws.FnExactAuditShop'. -/
def fnExactAuditShopUptoCard : Claim7 := { stood := { row := fnExactAuditShopUptoRow, standIns := [], harness := (true, "81df0491dbb0dcec3346f35abe71af94facc6eb051c99dd598c5c8f6eaa1d199"), looks := false }, kinds := [], alts := [], laidByText := true, laidKinds := [.data, .data, .data], laidTests := true, laidLooks := .later }
def FnExactAuditShopUptoCardSaid : Prop := Claim7.holds Tryz.pinned (.plain (OpenSpec.upto fnExactAuditShopSpec)) fnExactAuditShopUptoCard
end Rows
end Go.Proofs.YtmmlhpfodamdgaaGreatDoor
