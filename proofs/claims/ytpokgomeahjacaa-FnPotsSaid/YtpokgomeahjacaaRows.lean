/-
  No cell of these rows narrows 'for every input' (looked for: loops, veiled, ifaces, maps, wideKeys, modest, calm, conditions, laid).
  DERIVED. THE GIVEN ROWS OF THIS SEAT. 3 by the template 'for every input the law returns true; each argument reads behind the call as it read before'; 0 by the template 'total and deterministic' (their statements: YtpokgomeahjacaaTotals.lean).
  GIVEN WITH THE SEED: the statements are not yours to turn. If you find one false, say at which input.
  Laid BY PROGRAM, IN A SANDBOX (cutbox-rows.mjs): the forced cells as the released guide's own fill.sh prints them over the translation 98c05ef6cf44e299… (all of the seat's roots in one cut). By AI agents, Wed Nov 11 2026. No macro, syntax, notation, axiom, sorry.
-/
import Derived.Test.YtpokgomeahjacaaChecked
import GoSem.Claim
import GoSem.ClaimJoined
import GoSem.ClaimMapViews
import Derived.JoinedTies
import Derived.KernelRfl
namespace Go.Proofs.Ytpokgomeahjacaa
/- THE CELL 'sum', in the pinned program and in every row, IS THE sha256 OF THE DUMP (.gsa) THAT YtpokgomeahjacaaProg.lean LOADS. Nothing in Lean hashes anything: it is a label: what it is worth is what the hold of that sum in a sandbox is worth. -/
noncomputable def Try.pinned : Pinned := { name := "ytpokgomeahjacaa", sum := "98c05ef6cf44e29971ea9a8fbeff1283f7daf3c42afc38b8d1b6bb80314ba158", checked := Try.checked }
namespace Rows
def none {H : Type} : Left H := { results := [], args := [] }

/-- 'laws.FnModes': WHATEVER THE INPUT: true; the input reads as it did. -/
def fnModesSpec : ChangeSpec := { name := "fnModes", fn := fun _ => fun
  | [d1, d2] => { results := [.lit (.bool true)], args := [d1, d2] }
  | _ => none }
def fnModesRow : OpenClaim := { program := "ytpokgomeahjacaa", sum := "98c05ef6cf44e29971ea9a8fbeff1283f7daf3c42afc38b8d1b6bb80314ba158", func := "loop.example/g01061/laws.FnModes", spec := "fnModes", recurses := true, apart := false }
def FnModesSaid : Prop := fnModesRow.holds Try.pinned (OpenSpec.ofChange fnModesSpec)

/-- ITS FALSE NEIGHBOUR: 'it returns false'. Refute it at one input. -/
def fnModesWrong : ChangeSpec := { name := "fnModes", fn := fun _ => fun
  | [d1, d2] => { results := [.lit (.bool false)], args := [d1, d2] }
  | _ => none }
def FnModesWrongFalsely : Prop := fnModesRow.holds Try.pinned (OpenSpec.ofChange fnModesWrong)

/-- 'laws.FnRibs': WHATEVER THE INPUT: true; the input reads as it did. -/
def fnRibsSpec : ChangeSpec := { name := "fnRibs", fn := fun _ => fun
  | [d1, d2] => { results := [.lit (.bool true)], args := [d1, d2] }
  | _ => none }
def fnRibsRow : OpenClaim := { program := "ytpokgomeahjacaa", sum := "98c05ef6cf44e29971ea9a8fbeff1283f7daf3c42afc38b8d1b6bb80314ba158", func := "loop.example/g01061/laws.FnRibs", spec := "fnRibs", recurses := true, apart := false }
def FnRibsSaid : Prop := fnRibsRow.holds Try.pinned (OpenSpec.ofChange fnRibsSpec)

/-- ITS FALSE NEIGHBOUR: 'it returns false'. Refute it at one input. -/
def fnRibsWrong : ChangeSpec := { name := "fnRibs", fn := fun _ => fun
  | [d1, d2] => { results := [.lit (.bool false)], args := [d1, d2] }
  | _ => none }
def FnRibsWrongFalsely : Prop := fnRibsRow.holds Try.pinned (OpenSpec.ofChange fnRibsWrong)

/-- 'laws.FnPots': WHATEVER THE INPUT: true; the input reads as it did. -/
def fnPotsSpec : ChangeSpec := { name := "fnPots", fn := fun _ => fun
  | [d1, d2] => { results := [.lit (.bool true)], args := [d1, d2] }
  | _ => none }
def fnPotsRow : OpenClaim := { program := "ytpokgomeahjacaa", sum := "98c05ef6cf44e29971ea9a8fbeff1283f7daf3c42afc38b8d1b6bb80314ba158", func := "loop.example/g01061/laws.FnPots", spec := "fnPots", recurses := true, apart := false }
def FnPotsSaid : Prop := fnPotsRow.holds Try.pinned (OpenSpec.ofChange fnPotsSpec)

/-- ITS FALSE NEIGHBOUR: 'it returns false'. Refute it at one input. -/
def fnPotsWrong : ChangeSpec := { name := "fnPots", fn := fun _ => fun
  | [d1, d2] => { results := [.lit (.bool false)], args := [d1, d2] }
  | _ => none }
def FnPotsWrongFalsely : Prop := fnPotsRow.holds Try.pinned (OpenSpec.ofChange fnPotsWrong)

/- THE SECOND FORM. 'bulk': how many values and letters a reading holds, each counted each time it is reached (what is shared counts as often as it is met; a slice's spare places count too). A statement '..UptoSaid' is the law's where the arguments, and the package variables that the reading takes, are together of bulk at most 1048576: NARROWER than '..Said'. Prove '..Said' where nothing that the law and all that it calls make is longer than what came in: it says more and counts as full. Else prove '..UptoSaid'. A law counts once. -/
mutual
def uptoBulk {H : Type} : DataW H → Nat
  | .lit (.string bytes) => bytes.length + 1
  | .lit _ => 1
  | .nil => 1
  | .ptr d => uptoBulk d + 1
  | .slice elems spare => uptoBulkAll elems + uptoBulkAll spare + 1
  | .agg parts => uptoBulkAll parts + 1
  | .iface _ d => uptoBulk d + 1
  | .map entries => uptoBulkEntries entries + 1
  | .held _ => 1
def uptoBulkAll {H : Type} : List (DataW H) → Nat
  | [] => 0
  | d :: r => uptoBulk d + uptoBulkAll r
def uptoBulkEntries {H : Type} : List (Lit × DataW H) → Nat
  | [] => 0
  | x :: r => uptoBulkEntry x + uptoBulkEntries r
def uptoBulkEntry {H : Type} : Lit × DataW H → Nat
  | (.string bytes, d) => bytes.length + uptoBulk d + 1
  | (_, d) => uptoBulk d + 1
 end
def uptoSmall : (H : Type) → List (DataW H) → Bool := fun _ ds => decide (uptoBulkAll ds ≤ 1048576)
def OpenSpec.upto (s : _root_.Go.ChangeSpec) : _root_.Go.OpenSpec := { _root_.Go.OpenSpec.ofChange s with cond := some uptoSmall }

/-- 'laws.FnModes', WHERE WHAT IT READS IS OF BULK AT MOST 1048576: true; the input reads as it did. -/
def fnModesUptoRow : OpenClaim := { program := "ytpokgomeahjacaa", sum := "98c05ef6cf44e29971ea9a8fbeff1283f7daf3c42afc38b8d1b6bb80314ba158", func := "loop.example/g01061/laws.FnModes", spec := "fnModes", recurses := true, apart := false, narrowed := true }
def FnModesUptoSaid : Prop := fnModesUptoRow.holds Try.pinned (OpenSpec.upto fnModesSpec)

/-- 'laws.FnRibs', WHERE WHAT IT READS IS OF BULK AT MOST 1048576: true; the input reads as it did. -/
def fnRibsUptoRow : OpenClaim := { program := "ytpokgomeahjacaa", sum := "98c05ef6cf44e29971ea9a8fbeff1283f7daf3c42afc38b8d1b6bb80314ba158", func := "loop.example/g01061/laws.FnRibs", spec := "fnRibs", recurses := true, apart := false, narrowed := true }
def FnRibsUptoSaid : Prop := fnRibsUptoRow.holds Try.pinned (OpenSpec.upto fnRibsSpec)

/-- 'laws.FnPots', WHERE WHAT IT READS IS OF BULK AT MOST 1048576: true; the input reads as it did. -/
def fnPotsUptoRow : OpenClaim := { program := "ytpokgomeahjacaa", sum := "98c05ef6cf44e29971ea9a8fbeff1283f7daf3c42afc38b8d1b6bb80314ba158", func := "loop.example/g01061/laws.FnPots", spec := "fnPots", recurses := true, apart := false, narrowed := true }
def FnPotsUptoSaid : Prop := fnPotsUptoRow.holds Try.pinned (OpenSpec.upto fnPotsSpec)

end Rows
end Go.Proofs.Ytpokgomeahjacaa
