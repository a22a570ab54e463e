/-
  No cell of these rows narrows 'for every input' (looked for: loops, veiled, ifaces, maps, wideKeys, modest, calm, conditions, laid).
  DERIVED. THE GIVEN ROWS OF THIS SEAT. 6 by the template 'for every input the law returns true; each argument reads behind the call as it read before'; 0 by the template 'total and deterministic' (their statements: YtmleedejgoeggaaTotals.lean).
  GIVEN WITH THE SEED: the statements are not yours to turn. If you find one false, say at which input.
  Laid BY PROGRAM, IN A SANDBOX (cutbox-rows.mjs): the forced cells as the released guide's own fill.sh prints them over the translation 98effa691542e079… (all of the seat's roots in one cut). By AI agents, Wed Nov 11 2026. No macro, syntax, notation, axiom, sorry.
-/
import Derived.Test.YtmleedejgoeggaaChecked
import GoSem.Claim
import GoSem.ClaimJoined
import GoSem.ClaimMapViews
import Derived.JoinedTies
import Derived.KernelRfl
namespace Go.Proofs.Ytmleedejgoeggaa
/- THE CELL 'sum', in the pinned program and in every row, IS THE sha256 OF THE DUMP (.gsa) THAT YtmleedejgoeggaaProg.lean LOADS. Nothing in Lean hashes anything: it is a label: what it is worth is what the hold of that sum in a sandbox is worth. -/
noncomputable def Try.pinned : Pinned := { name := "ytmleedejgoeggaa", sum := "98effa691542e07940fccd99fd61f6cdaff204b1eb4bd55fedb454d9fc38bb46", checked := Try.checked }
namespace Rows
def none {H : Type} : Left H := { results := [], args := [] }

/-- 'laws.FnSetNecks': WHATEVER THE INPUT: true; the input reads as it did. -/
def fnSetNecksSpec : ChangeSpec := { name := "fnSetNecks", fn := fun _ => fun
  | [d1, d2] => { results := [.lit (.bool true)], args := [d1, d2] }
  | _ => none }
def fnSetNecksRow : OpenClaim := { program := "ytmleedejgoeggaa", sum := "98effa691542e07940fccd99fd61f6cdaff204b1eb4bd55fedb454d9fc38bb46", func := "loop.example/g01061/laws.FnSetNecks", spec := "fnSetNecks", apart := false }
def FnSetNecksSaid : Prop := fnSetNecksRow.holds Try.pinned (OpenSpec.ofChange fnSetNecksSpec)

/-- ITS FALSE NEIGHBOUR: 'it returns false'. Refute it at one input. -/
def fnSetNecksWrong : ChangeSpec := { name := "fnSetNecks", fn := fun _ => fun
  | [d1, d2] => { results := [.lit (.bool false)], args := [d1, d2] }
  | _ => none }
def FnSetNecksWrongFalsely : Prop := fnSetNecksRow.holds Try.pinned (OpenSpec.ofChange fnSetNecksWrong)

/-- 'laws.FnPosts': WHATEVER THE INPUT: true; the input reads as it did. -/
def fnPostsSpec : ChangeSpec := { name := "fnPosts", fn := fun _ => fun
  | [d1, d2] => { results := [.lit (.bool true)], args := [d1, d2] }
  | _ => none }
def fnPostsRow : OpenClaim := { program := "ytmleedejgoeggaa", sum := "98effa691542e07940fccd99fd61f6cdaff204b1eb4bd55fedb454d9fc38bb46", func := "loop.example/g01061/laws.FnPosts", spec := "fnPosts", recurses := true, apart := false }
def FnPostsSaid : Prop := fnPostsRow.holds Try.pinned (OpenSpec.ofChange fnPostsSpec)

/-- ITS FALSE NEIGHBOUR: 'it returns false'. Refute it at one input. -/
def fnPostsWrong : ChangeSpec := { name := "fnPosts", fn := fun _ => fun
  | [d1, d2] => { results := [.lit (.bool false)], args := [d1, d2] }
  | _ => none }
def FnPostsWrongFalsely : Prop := fnPostsRow.holds Try.pinned (OpenSpec.ofChange fnPostsWrong)

/-- 'laws.FnModes': WHATEVER THE INPUT: true; the input reads as it did. -/
def fnModesSpec : ChangeSpec := { name := "fnModes", fn := fun _ => fun
  | [d1, d2] => { results := [.lit (.bool true)], args := [d1, d2] }
  | _ => none }
def fnModesRow : OpenClaim := { program := "ytmleedejgoeggaa", sum := "98effa691542e07940fccd99fd61f6cdaff204b1eb4bd55fedb454d9fc38bb46", func := "loop.example/g01061/laws.FnModes", spec := "fnModes", recurses := true, apart := false }
def FnModesSaid : Prop := fnModesRow.holds Try.pinned (OpenSpec.ofChange fnModesSpec)

/-- ITS FALSE NEIGHBOUR: 'it returns false'. Refute it at one input. -/
def fnModesWrong : ChangeSpec := { name := "fnModes", fn := fun _ => fun
  | [d1, d2] => { results := [.lit (.bool false)], args := [d1, d2] }
  | _ => none }
def FnModesWrongFalsely : Prop := fnModesRow.holds Try.pinned (OpenSpec.ofChange fnModesWrong)

/-- 'laws.FnDrying': WHATEVER THE INPUT: true; the input reads as it did. -/
def fnDryingSpec : ChangeSpec := { name := "fnDrying", fn := fun _ => fun
  | [d1, d2] => { results := [.lit (.bool true)], args := [d1, d2] }
  | _ => none }
def fnDryingRow : OpenClaim := { program := "ytmleedejgoeggaa", sum := "98effa691542e07940fccd99fd61f6cdaff204b1eb4bd55fedb454d9fc38bb46", func := "loop.example/g01061/laws.FnDrying", spec := "fnDrying", apart := false }
def FnDryingSaid : Prop := fnDryingRow.holds Try.pinned (OpenSpec.ofChange fnDryingSpec)

/-- ITS FALSE NEIGHBOUR: 'it returns false'. Refute it at one input. -/
def fnDryingWrong : ChangeSpec := { name := "fnDrying", fn := fun _ => fun
  | [d1, d2] => { results := [.lit (.bool false)], args := [d1, d2] }
  | _ => none }
def FnDryingWrongFalsely : Prop := fnDryingRow.holds Try.pinned (OpenSpec.ofChange fnDryingWrong)

/-- 'laws.FnExactFitPegs': WHATEVER THE INPUT: true; the input reads as it did. -/
def fnExactFitPegsSpec : ChangeSpec := { name := "fnExactFitPegs", fn := fun _ => fun
  | [d1, d2, d3] => { results := [.lit (.bool true)], args := [d1, d2, d3] }
  | _ => none }
def fnExactFitPegsRow : OpenClaim := { program := "ytmleedejgoeggaa", sum := "98effa691542e07940fccd99fd61f6cdaff204b1eb4bd55fedb454d9fc38bb46", func := "loop.example/g01061/laws.FnExactFitPegs", spec := "fnExactFitPegs", recurses := true, apart := false }
def FnExactFitPegsSaid : Prop := fnExactFitPegsRow.holds Try.pinned (OpenSpec.ofChange fnExactFitPegsSpec)

/-- ITS FALSE NEIGHBOUR: 'it returns false'. Refute it at one input. -/
def fnExactFitPegsWrong : ChangeSpec := { name := "fnExactFitPegs", fn := fun _ => fun
  | [d1, d2, d3] => { results := [.lit (.bool false)], args := [d1, d2, d3] }
  | _ => none }
def FnExactFitPegsWrongFalsely : Prop := fnExactFitPegsRow.holds Try.pinned (OpenSpec.ofChange fnExactFitPegsWrong)

/-- 'laws.FnRibs': WHATEVER THE INPUT: true; the input reads as it did. -/
def fnRibsSpec : ChangeSpec := { name := "fnRibs", fn := fun _ => fun
  | [d1, d2] => { results := [.lit (.bool true)], args := [d1, d2] }
  | _ => none }
def fnRibsRow : OpenClaim := { program := "ytmleedejgoeggaa", sum := "98effa691542e07940fccd99fd61f6cdaff204b1eb4bd55fedb454d9fc38bb46", func := "loop.example/g01061/laws.FnRibs", spec := "fnRibs", recurses := true, apart := false }
def FnRibsSaid : Prop := fnRibsRow.holds Try.pinned (OpenSpec.ofChange fnRibsSpec)

/-- ITS FALSE NEIGHBOUR: 'it returns false'. Refute it at one input. -/
def fnRibsWrong : ChangeSpec := { name := "fnRibs", fn := fun _ => fun
  | [d1, d2] => { results := [.lit (.bool false)], args := [d1, d2] }
  | _ => none }
def FnRibsWrongFalsely : Prop := fnRibsRow.holds Try.pinned (OpenSpec.ofChange fnRibsWrong)

/- THE SECOND FORM. 'bulk': how many values and letters a reading holds, each counted each time it is reached (what is shared counts as often as it is met; a slice's spare places count too). A statement '..UptoSaid' is the law's where the arguments, and the package variables that the reading takes, are together of bulk at most 1048576: NARROWER than '..Said'. Prove '..Said' where nothing that the law and all that it calls make is longer than what came in: it says more and counts as full. Else prove '..UptoSaid'. A law counts once. -/
mutual
def uptoBulk {H : Type} : DataW H → Nat
  | .lit (.string bytes) => bytes.length + 1
  | .lit _ => 1
  | .nil => 1
  | .ptr d => uptoBulk d + 1
  | .slice elems spare => uptoBulkAll elems + uptoBulkAll spare + 1
  | .agg parts => uptoBulkAll parts + 1
  | .iface _ d => uptoBulk d + 1
  | .map entries => uptoBulkEntries entries + 1
  | .held _ => 1
def uptoBulkAll {H : Type} : List (DataW H) → Nat
  | [] => 0
  | d :: r => uptoBulk d + uptoBulkAll r
def uptoBulkEntries {H : Type} : List (Lit × DataW H) → Nat
  | [] => 0
  | x :: r => uptoBulkEntry x + uptoBulkEntries r
def uptoBulkEntry {H : Type} : Lit × DataW H → Nat
  | (.string bytes, d) => bytes.length + uptoBulk d + 1
  | (_, d) => uptoBulk d + 1
 end
def uptoSmall : (H : Type) → List (DataW H) → Bool := fun _ ds => decide (uptoBulkAll ds ≤ 1048576)
def OpenSpec.upto (s : _root_.Go.ChangeSpec) : _root_.Go.OpenSpec := { _root_.Go.OpenSpec.ofChange s with cond := some uptoSmall }

/-- 'laws.FnSetNecks', WHERE WHAT IT READS IS OF BULK AT MOST 1048576: true; the input reads as it did. -/
def fnSetNecksUptoRow : OpenClaim := { program := "ytmleedejgoeggaa", sum := "98effa691542e07940fccd99fd61f6cdaff204b1eb4bd55fedb454d9fc38bb46", func := "loop.example/g01061/laws.FnSetNecks", spec := "fnSetNecks", apart := false, narrowed := true }
def FnSetNecksUptoSaid : Prop := fnSetNecksUptoRow.holds Try.pinned (OpenSpec.upto fnSetNecksSpec)

/-- 'laws.FnPosts', WHERE WHAT IT READS IS OF BULK AT MOST 1048576: true; the input reads as it did. -/
def fnPostsUptoRow : OpenClaim := { program := "ytmleedejgoeggaa", sum := "98effa691542e07940fccd99fd61f6cdaff204b1eb4bd55fedb454d9fc38bb46", func := "loop.example/g01061/laws.FnPosts", spec := "fnPosts", recurses := true, apart := false, narrowed := true }
def FnPostsUptoSaid : Prop := fnPostsUptoRow.holds Try.pinned (OpenSpec.upto fnPostsSpec)

/-- 'laws.FnModes', WHERE WHAT IT READS IS OF BULK AT MOST 1048576: true; the input reads as it did. -/
def fnModesUptoRow : OpenClaim := { program := "ytmleedejgoeggaa", sum := "98effa691542e07940fccd99fd61f6cdaff204b1eb4bd55fedb454d9fc38bb46", func := "loop.example/g01061/laws.FnModes", spec := "fnModes", recurses := true, apart := false, narrowed := true }
def FnModesUptoSaid : Prop := fnModesUptoRow.holds Try.pinned (OpenSpec.upto fnModesSpec)

/-- 'laws.FnDrying', WHERE WHAT IT READS IS OF BULK AT MOST 1048576: true; the input reads as it did. -/
def fnDryingUptoRow : OpenClaim := { program := "ytmleedejgoeggaa", sum := "98effa691542e07940fccd99fd61f6cdaff204b1eb4bd55fedb454d9fc38bb46", func := "loop.example/g01061/laws.FnDrying", spec := "fnDrying", apart := false, narrowed := true }
def FnDryingUptoSaid : Prop := fnDryingUptoRow.holds Try.pinned (OpenSpec.upto fnDryingSpec)

/-- 'laws.FnExactFitPegs', WHERE WHAT IT READS IS OF BULK AT MOST 1048576: true; the input reads as it did. -/
def fnExactFitPegsUptoRow : OpenClaim := { program := "ytmleedejgoeggaa", sum := "98effa691542e07940fccd99fd61f6cdaff204b1eb4bd55fedb454d9fc38bb46", func := "loop.example/g01061/laws.FnExactFitPegs", spec := "fnExactFitPegs", recurses := true, apart := false, narrowed := true }
def FnExactFitPegsUptoSaid : Prop := fnExactFitPegsUptoRow.holds Try.pinned (OpenSpec.upto fnExactFitPegsSpec)

/-- 'laws.FnRibs', WHERE WHAT IT READS IS OF BULK AT MOST 1048576: true; the input reads as it did. -/
def fnRibsUptoRow : OpenClaim := { program := "ytmleedejgoeggaa", sum := "98effa691542e07940fccd99fd61f6cdaff204b1eb4bd55fedb454d9fc38bb46", func := "loop.example/g01061/laws.FnRibs", spec := "fnRibs", recurses := true, apart := false, narrowed := true }
def FnRibsUptoSaid : Prop := fnRibsUptoRow.holds Try.pinned (OpenSpec.upto fnRibsSpec)

end Rows
end Go.Proofs.Ytmleedejgoeggaa
