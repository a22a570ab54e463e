/-
  No cell of these rows narrows 'for every input' (looked for: loops, veiled, ifaces, maps, wideKeys, modest, calm, conditions, laid).
  DERIVED. THE GIVEN ROWS OF THIS SEAT. 5 by the template 'for every input the law returns true; each argument reads behind the call as it read before'; 0 by the template 'total and deterministic' (their statements: YtmkgkchbdhfakaaTotals.lean).
  GIVEN WITH THE SEED: the statements are not yours to turn. If you find one false, say at which input.
  Laid BY PROGRAM, IN A SANDBOX (cutbox-rows.mjs): the forced cells as the released guide's own fill.sh prints them over the translation 947e76f0d4abd289… (all of the seat's roots in one cut). By AI agents, Wed Nov 11 2026. No macro, syntax, notation, axiom, sorry.
-/
import Derived.Test.YtmkgkchbdhfakaaChecked
import GoSem.Claim
import GoSem.ClaimJoined
import GoSem.ClaimMapViews
import Derived.JoinedTies
import Derived.KernelRfl
namespace Go.Proofs.Ytmkgkchbdhfakaa
/- THE CELL 'sum', in the pinned program and in every row, IS THE sha256 OF THE DUMP (.gsa) THAT YtmkgkchbdhfakaaProg.lean LOADS. Nothing in Lean hashes anything: it is a label: what it is worth is what the hold of that sum in a sandbox is worth. -/
noncomputable def Try.pinned : Pinned := { name := "ytmkgkchbdhfakaa", sum := "947e76f0d4abd289b87101af36ff1f59fd690ebfed74c1324efbe1f0fbd84577", checked := Try.checked }
namespace Rows
def none {H : Type} : Left H := { results := [], args := [] }

/-- 'laws.FnExactProblemText': WHATEVER THE INPUT: true; the input reads as it did. -/
def fnExactProblemTextSpec : ChangeSpec := { name := "fnExactProblemText", fn := fun _ => fun
  | [d] => { results := [.lit (.bool true)], args := [d] }
  | _ => none }
def fnExactProblemTextRow : OpenClaim := { program := "ytmkgkchbdhfakaa", sum := "947e76f0d4abd289b87101af36ff1f59fd690ebfed74c1324efbe1f0fbd84577", func := "loop.example/g01061/laws.FnExactProblemText", spec := "fnExactProblemText", apart := false }
def FnExactProblemTextSaid : Prop := fnExactProblemTextRow.holds Try.pinned (OpenSpec.ofChange fnExactProblemTextSpec)

/-- ITS FALSE NEIGHBOUR: 'it returns false'. Refute it at one input. -/
def fnExactProblemTextWrong : ChangeSpec := { name := "fnExactProblemText", fn := fun _ => fun
  | [d] => { results := [.lit (.bool false)], args := [d] }
  | _ => none }
def FnExactProblemTextWrongFalsely : Prop := fnExactProblemTextRow.holds Try.pinned (OpenSpec.ofChange fnExactProblemTextWrong)

/-- 'laws.FnExactOpenSeconds': WHATEVER THE INPUT: true; the input reads as it did. -/
def fnExactOpenSecondsSpec : ChangeSpec := { name := "fnExactOpenSeconds", fn := fun _ => fun
  | [d1, d2] => { results := [.lit (.bool true)], args := [d1, d2] }
  | _ => none }
def fnExactOpenSecondsRow : OpenClaim := { program := "ytmkgkchbdhfakaa", sum := "947e76f0d4abd289b87101af36ff1f59fd690ebfed74c1324efbe1f0fbd84577", func := "loop.example/g01061/laws.FnExactOpenSeconds", spec := "fnExactOpenSeconds", apart := false }
def FnExactOpenSecondsSaid : Prop := fnExactOpenSecondsRow.holds Try.pinned (OpenSpec.ofChange fnExactOpenSecondsSpec)

/-- ITS FALSE NEIGHBOUR: 'it returns false'. Refute it at one input. -/
def fnExactOpenSecondsWrong : ChangeSpec := { name := "fnExactOpenSeconds", fn := fun _ => fun
  | [d1, d2] => { results := [.lit (.bool false)], args := [d1, d2] }
  | _ => none }
def FnExactOpenSecondsWrongFalsely : Prop := fnExactOpenSecondsRow.holds Try.pinned (OpenSpec.ofChange fnExactOpenSecondsWrong)

/-- 'laws.FnExactWaterFor': WHATEVER THE INPUT: true; the input reads as it did. -/
def fnExactWaterForSpec : ChangeSpec := { name := "fnExactWaterFor", fn := fun _ => fun
  | [d1, d2, d3] => { results := [.lit (.bool true)], args := [d1, d2, d3] }
  | _ => none }
def fnExactWaterForRow : OpenClaim := { program := "ytmkgkchbdhfakaa", sum := "947e76f0d4abd289b87101af36ff1f59fd690ebfed74c1324efbe1f0fbd84577", func := "loop.example/g01061/laws.FnExactWaterFor", spec := "fnExactWaterFor", apart := false }
def FnExactWaterForSaid : Prop := fnExactWaterForRow.holds Try.pinned (OpenSpec.ofChange fnExactWaterForSpec)

/-- ITS FALSE NEIGHBOUR: 'it returns false'. Refute it at one input. -/
def fnExactWaterForWrong : ChangeSpec := { name := "fnExactWaterFor", fn := fun _ => fun
  | [d1, d2, d3] => { results := [.lit (.bool false)], args := [d1, d2, d3] }
  | _ => none }
def FnExactWaterForWrongFalsely : Prop := fnExactWaterForRow.holds Try.pinned (OpenSpec.ofChange fnExactWaterForWrong)

/-- 'laws.FnExactCountProblems': WHATEVER THE INPUT: true; the input reads as it did. -/
def fnExactCountProblemsSpec : ChangeSpec := { name := "fnExactCountProblems", fn := fun _ => fun
  | [d] => { results := [.lit (.bool true)], args := [d] }
  | _ => none }
def fnExactCountProblemsRow : OpenClaim := { program := "ytmkgkchbdhfakaa", sum := "947e76f0d4abd289b87101af36ff1f59fd690ebfed74c1324efbe1f0fbd84577", func := "loop.example/g01061/laws.FnExactCountProblems", spec := "fnExactCountProblems", apart := false }
def FnExactCountProblemsSaid : Prop := fnExactCountProblemsRow.holds Try.pinned (OpenSpec.ofChange fnExactCountProblemsSpec)

/-- ITS FALSE NEIGHBOUR: 'it returns false'. Refute it at one input. -/
def fnExactCountProblemsWrong : ChangeSpec := { name := "fnExactCountProblems", fn := fun _ => fun
  | [d] => { results := [.lit (.bool false)], args := [d] }
  | _ => none }
def FnExactCountProblemsWrongFalsely : Prop := fnExactCountProblemsRow.holds Try.pinned (OpenSpec.ofChange fnExactCountProblemsWrong)

/-- 'laws.FnExactPotFor': WHATEVER THE INPUT: true; the input reads as it did. -/
def fnExactPotForSpec : ChangeSpec := { name := "fnExactPotFor", fn := fun _ => fun
  | [d1, d2, d3, d4, d5] => { results := [.lit (.bool true)], args := [d1, d2, d3, d4, d5] }
  | _ => none }
def fnExactPotForRow : OpenClaim := { program := "ytmkgkchbdhfakaa", sum := "947e76f0d4abd289b87101af36ff1f59fd690ebfed74c1324efbe1f0fbd84577", func := "loop.example/g01061/laws.FnExactPotFor", spec := "fnExactPotFor", apart := false }
def FnExactPotForSaid : Prop := fnExactPotForRow.holds Try.pinned (OpenSpec.ofChange fnExactPotForSpec)

/-- ITS FALSE NEIGHBOUR: 'it returns false'. Refute it at one input. -/
def fnExactPotForWrong : ChangeSpec := { name := "fnExactPotFor", fn := fun _ => fun
  | [d1, d2, d3, d4, d5] => { results := [.lit (.bool false)], args := [d1, d2, d3, d4, d5] }
  | _ => none }
def FnExactPotForWrongFalsely : Prop := fnExactPotForRow.holds Try.pinned (OpenSpec.ofChange fnExactPotForWrong)

/- THE SECOND FORM. 'bulk': how many values and letters a reading holds, each counted each time it is reached (what is shared counts as often as it is met; a slice's spare places count too). A statement '..UptoSaid' is the law's where the arguments, and the package variables that the reading takes, are together of bulk at most 1048576: NARROWER than '..Said'. Prove '..Said' where nothing that the law and all that it calls make is longer than what came in: it says more and counts as full. Else prove '..UptoSaid'. A law counts once. -/
mutual
def uptoBulk {H : Type} : DataW H → Nat
  | .lit (.string bytes) => bytes.length + 1
  | .lit _ => 1
  | .nil => 1
  | .ptr d => uptoBulk d + 1
  | .slice elems spare => uptoBulkAll elems + uptoBulkAll spare + 1
  | .agg parts => uptoBulkAll parts + 1
  | .iface _ d => uptoBulk d + 1
  | .map entries => uptoBulkEntries entries + 1
  | .held _ => 1
def uptoBulkAll {H : Type} : List (DataW H) → Nat
  | [] => 0
  | d :: r => uptoBulk d + uptoBulkAll r
def uptoBulkEntries {H : Type} : List (Lit × DataW H) → Nat
  | [] => 0
  | x :: r => uptoBulkEntry x + uptoBulkEntries r
def uptoBulkEntry {H : Type} : Lit × DataW H → Nat
  | (.string bytes, d) => bytes.length + uptoBulk d + 1
  | (_, d) => uptoBulk d + 1
 end
def uptoSmall : (H : Type) → List (DataW H) → Bool := fun _ ds => decide (uptoBulkAll ds ≤ 1048576)
def OpenSpec.upto (s : _root_.Go.ChangeSpec) : _root_.Go.OpenSpec := { _root_.Go.OpenSpec.ofChange s with cond := some uptoSmall }

/-- 'laws.FnExactProblemText', WHERE WHAT IT READS IS OF BULK AT MOST 1048576: true; the input reads as it did. -/
def fnExactProblemTextUptoRow : OpenClaim := { program := "ytmkgkchbdhfakaa", sum := "947e76f0d4abd289b87101af36ff1f59fd690ebfed74c1324efbe1f0fbd84577", func := "loop.example/g01061/laws.FnExactProblemText", spec := "fnExactProblemText", apart := false, narrowed := true }
def FnExactProblemTextUptoSaid : Prop := fnExactProblemTextUptoRow.holds Try.pinned (OpenSpec.upto fnExactProblemTextSpec)

/-- 'laws.FnExactOpenSeconds', WHERE WHAT IT READS IS OF BULK AT MOST 1048576: true; the input reads as it did. -/
def fnExactOpenSecondsUptoRow : OpenClaim := { program := "ytmkgkchbdhfakaa", sum := "947e76f0d4abd289b87101af36ff1f59fd690ebfed74c1324efbe1f0fbd84577", func := "loop.example/g01061/laws.FnExactOpenSeconds", spec := "fnExactOpenSeconds", apart := false, narrowed := true }
def FnExactOpenSecondsUptoSaid : Prop := fnExactOpenSecondsUptoRow.holds Try.pinned (OpenSpec.upto fnExactOpenSecondsSpec)

/-- 'laws.FnExactWaterFor', WHERE WHAT IT READS IS OF BULK AT MOST 1048576: true; the input reads as it did. -/
def fnExactWaterForUptoRow : OpenClaim := { program := "ytmkgkchbdhfakaa", sum := "947e76f0d4abd289b87101af36ff1f59fd690ebfed74c1324efbe1f0fbd84577", func := "loop.example/g01061/laws.FnExactWaterFor", spec := "fnExactWaterFor", apart := false, narrowed := true }
def FnExactWaterForUptoSaid : Prop := fnExactWaterForUptoRow.holds Try.pinned (OpenSpec.upto fnExactWaterForSpec)

/-- 'laws.FnExactCountProblems', WHERE WHAT IT READS IS OF BULK AT MOST 1048576: true; the input reads as it did. -/
def fnExactCountProblemsUptoRow : OpenClaim := { program := "ytmkgkchbdhfakaa", sum := "947e76f0d4abd289b87101af36ff1f59fd690ebfed74c1324efbe1f0fbd84577", func := "loop.example/g01061/laws.FnExactCountProblems", spec := "fnExactCountProblems", apart := false, narrowed := true }
def FnExactCountProblemsUptoSaid : Prop := fnExactCountProblemsUptoRow.holds Try.pinned (OpenSpec.upto fnExactCountProblemsSpec)

/-- 'laws.FnExactPotFor', WHERE WHAT IT READS IS OF BULK AT MOST 1048576: true; the input reads as it did. -/
def fnExactPotForUptoRow : OpenClaim := { program := "ytmkgkchbdhfakaa", sum := "947e76f0d4abd289b87101af36ff1f59fd690ebfed74c1324efbe1f0fbd84577", func := "loop.example/g01061/laws.FnExactPotFor", spec := "fnExactPotFor", apart := false, narrowed := true }
def FnExactPotForUptoSaid : Prop := fnExactPotForUptoRow.holds Try.pinned (OpenSpec.upto fnExactPotForSpec)

end Rows
end Go.Proofs.Ytmkgkchbdhfakaa
