/-
  DERIVED. GIVEN WITH THE SEED: THE CARDS: each row of YtbijadelckpmjaaGreatDoorRows.lean that lists a variable, with what it lists TIED to the program's text (the seventh form; the later family's looks); each row that meets fmt, with fmt's text TOLD by the authors' own Lean function (tested against real Go, not proved from fmt's source: count such statements apart). THE CARD IS WHAT COUNTS. Prove the row's statement (the work); the ties are given (YtbijadelckpmjaaGreatDoorTie.lean); close each card by the builder's one call (the guide's Derived/Test/ToyasCard.lean, 'card_holds'). Laid BY PROGRAM, IN A SANDBOX (cutbox-door.mjs). By AI agents, Wed Nov 11 2026. No macro, syntax, notation, axiom, sorry.
-/
import Derived.Test.YtbijadelckpmjaaGreatDoorRows
import GoSem.ClaimSeven
namespace Go.Proofs.YtbijadelckpmjaaGreatDoor
namespace Rows

/-- THE TIED CARD OF 'laws.FnGlue'. -/
def fnGlueCard : Claim7 := { stood := { row := fnGlueRow, standIns := [], harness := (true, "9b7772904419ea9a85f5da0650d787911d8a6b1e215ee7587b799541be605f0a"), looks := true }, kinds := [], alts := [], laidByText := true, laidKinds := [.data, .data, .data, .data, .sentinel, .sentinel, .pinned], laidTests := true, laidLooks := .later }
def FnGlueCardSaid : Prop := Claim7.holds Tryz.pinned (.plain (OpenSpec.ofChange fnGlueSpec)) fnGlueCard

/-- THE TIED CARD OF 'laws.FnMoulds'. -/
def fnMouldsCard : Claim7 := { stood := { row := fnMouldsRow, standIns := [], harness := (true, "9b7772904419ea9a85f5da0650d787911d8a6b1e215ee7587b799541be605f0a"), looks := true }, kinds := [], alts := [], laidByText := true, laidKinds := [.data, .data, .data, .data, .sentinel, .sentinel, .pinned], laidTests := true, laidLooks := .later }
def FnMouldsCardSaid : Prop := Claim7.holds Tryz.pinned (.plain (OpenSpec.ofChange fnMouldsSpec)) fnMouldsCard

/-- THE TIED CARD OF 'laws.FnStacks'. -/
def fnStacksCard : Claim7 := { stood := { row := fnStacksRow, standIns := [], harness := (true, "9b7772904419ea9a85f5da0650d787911d8a6b1e215ee7587b799541be605f0a"), looks := true }, kinds := [], alts := [], laidByText := true, laidKinds := [.data, .data, .data, .data, .sentinel, .sentinel, .pinned], laidTests := true, laidLooks := .later }
def FnStacksCardSaid : Prop := Claim7.holds Tryz.pinned (.plain (OpenSpec.ofChange fnStacksSpec)) fnStacksCard

/-- THE SECOND FORM's CARD OF 'laws.FnGlue'. -/
def fnGlueUptoCard : Claim7 := { stood := { row := fnGlueUptoRow, standIns := [], harness := (true, "9b7772904419ea9a85f5da0650d787911d8a6b1e215ee7587b799541be605f0a"), looks := true }, kinds := [], alts := [], laidByText := true, laidKinds := [.data, .data, .data, .data, .sentinel, .sentinel, .pinned], laidTests := true, laidLooks := .later }
def FnGlueUptoCardSaid : Prop := Claim7.holds Tryz.pinned (.plain (OpenSpec.upto fnGlueSpec)) fnGlueUptoCard

/-- THE SECOND FORM's CARD OF 'laws.FnMoulds'. -/
def fnMouldsUptoCard : Claim7 := { stood := { row := fnMouldsUptoRow, standIns := [], harness := (true, "9b7772904419ea9a85f5da0650d787911d8a6b1e215ee7587b799541be605f0a"), looks := true }, kinds := [], alts := [], laidByText := true, laidKinds := [.data, .data, .data, .data, .sentinel, .sentinel, .pinned], laidTests := true, laidLooks := .later }
def FnMouldsUptoCardSaid : Prop := Claim7.holds Tryz.pinned (.plain (OpenSpec.upto fnMouldsSpec)) fnMouldsUptoCard

/-- THE SECOND FORM's CARD OF 'laws.FnStacks'. -/
def fnStacksUptoCard : Claim7 := { stood := { row := fnStacksUptoRow, standIns := [], harness := (true, "9b7772904419ea9a85f5da0650d787911d8a6b1e215ee7587b799541be605f0a"), looks := true }, kinds := [], alts := [], laidByText := true, laidKinds := [.data, .data, .data, .data, .sentinel, .sentinel, .pinned], laidTests := true, laidLooks := .later }
def FnStacksUptoCardSaid : Prop := Claim7.holds Tryz.pinned (.plain (OpenSpec.upto fnStacksSpec)) fnStacksUptoCard
end Rows
end Go.Proofs.YtbijadelckpmjaaGreatDoor
