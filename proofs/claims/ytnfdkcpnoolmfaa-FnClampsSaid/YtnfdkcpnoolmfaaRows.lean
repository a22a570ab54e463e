/-
  No cell of these rows narrows 'for every input' (looked for: loops, veiled, ifaces, maps, wideKeys, modest, calm, conditions, laid).
  DERIVED. THE GIVEN ROWS OF THIS SEAT. 2 by the template 'for every input the law returns true; each argument reads behind the call as it read before'; 0 by the template 'total and deterministic' (their statements: YtnfdkcpnoolmfaaTotals.lean).
  GIVEN WITH THE SEED: the statements are not yours to turn. If you find one false, say at which input.
  Laid BY PROGRAM, IN A SANDBOX (cutbox-rows.mjs): the forced cells as the released guide's own fill.sh prints them over the translation d00b0d6621be2b1f… (all of the seat's roots in one cut). By AI agents, Wed Nov 11 2026. No macro, syntax, notation, axiom, sorry.
-/
import Derived.Test.YtnfdkcpnoolmfaaChecked
import GoSem.Claim
import GoSem.ClaimJoined
import GoSem.ClaimMapViews
import Derived.JoinedTies
import Derived.KernelRfl
namespace Go.Proofs.Ytnfdkcpnoolmfaa
/- THE CELL 'sum', in the pinned program and in every row, IS THE sha256 OF THE DUMP (.gsa) THAT YtnfdkcpnoolmfaaProg.lean LOADS. Nothing in Lean hashes anything: it is a label: what it is worth is what the hold of that sum in a sandbox is worth. -/
noncomputable def Try.pinned : Pinned := { name := "ytnfdkcpnoolmfaa", sum := "d00b0d6621be2b1f73ce74485b0b5c92774e5c1ee5ddb24f2b31f380aa4c1798", checked := Try.checked }
namespace Rows
def none {H : Type} : Left H := { results := [], args := [] }

/-- 'laws.FnClamps': WHATEVER THE INPUT: true; the input reads as it did. -/
def fnClampsSpec : ChangeSpec := { name := "fnClamps", fn := fun _ => fun
  | [d1, d2] => { results := [.lit (.bool true)], args := [d1, d2] }
  | _ => none }
def fnClampsRow : OpenClaim := { program := "ytnfdkcpnoolmfaa", sum := "d00b0d6621be2b1f73ce74485b0b5c92774e5c1ee5ddb24f2b31f380aa4c1798", func := "loop.example/g01061/laws.FnClamps", spec := "fnClamps", apart := false }
def FnClampsSaid : Prop := fnClampsRow.holds Try.pinned (OpenSpec.ofChange fnClampsSpec)

/-- ITS FALSE NEIGHBOUR: 'it returns false'. Refute it at one input. -/
def fnClampsWrong : ChangeSpec := { name := "fnClamps", fn := fun _ => fun
  | [d1, d2] => { results := [.lit (.bool false)], args := [d1, d2] }
  | _ => none }
def FnClampsWrongFalsely : Prop := fnClampsRow.holds Try.pinned (OpenSpec.ofChange fnClampsWrong)

/-- 'laws.FnExactValidShop': WHATEVER THE INPUT: true; the input reads as it did. -/
def fnExactValidShopSpec : ChangeSpec := { name := "fnExactValidShop", fn := fun _ => fun
  | [d] => { results := [.lit (.bool true)], args := [d] }
  | _ => none }
def fnExactValidShopRow : OpenClaim := { program := "ytnfdkcpnoolmfaa", sum := "d00b0d6621be2b1f73ce74485b0b5c92774e5c1ee5ddb24f2b31f380aa4c1798", func := "loop.example/g01061/laws.FnExactValidShop", spec := "fnExactValidShop", apart := false }
def FnExactValidShopSaid : Prop := fnExactValidShopRow.holds Try.pinned (OpenSpec.ofChange fnExactValidShopSpec)

/-- ITS FALSE NEIGHBOUR: 'it returns false'. Refute it at one input. -/
def fnExactValidShopWrong : ChangeSpec := { name := "fnExactValidShop", fn := fun _ => fun
  | [d] => { results := [.lit (.bool false)], args := [d] }
  | _ => none }
def FnExactValidShopWrongFalsely : Prop := fnExactValidShopRow.holds Try.pinned (OpenSpec.ofChange fnExactValidShopWrong)

/- THE SECOND FORM. 'bulk': how many values and letters a reading holds, each counted each time it is reached (what is shared counts as often as it is met; a slice's spare places count too). A statement '..UptoSaid' is the law's where the arguments, and the package variables that the reading takes, are together of bulk at most 1048576: NARROWER than '..Said'. Prove '..Said' where nothing that the law and all that it calls make is longer than what came in: it says more and counts as full. Else prove '..UptoSaid'. A law counts once. -/
mutual
def uptoBulk {H : Type} : DataW H → Nat
  | .lit (.string bytes) => bytes.length + 1
  | .lit _ => 1
  | .nil => 1
  | .ptr d => uptoBulk d + 1
  | .slice elems spare => uptoBulkAll elems + uptoBulkAll spare + 1
  | .agg parts => uptoBulkAll parts + 1
  | .iface _ d => uptoBulk d + 1
  | .map entries => uptoBulkEntries entries + 1
  | .held _ => 1
def uptoBulkAll {H : Type} : List (DataW H) → Nat
  | [] => 0
  | d :: r => uptoBulk d + uptoBulkAll r
def uptoBulkEntries {H : Type} : List (Lit × DataW H) → Nat
  | [] => 0
  | x :: r => uptoBulkEntry x + uptoBulkEntries r
def uptoBulkEntry {H : Type} : Lit × DataW H → Nat
  | (.string bytes, d) => bytes.length + uptoBulk d + 1
  | (_, d) => uptoBulk d + 1
 end
def uptoSmall : (H : Type) → List (DataW H) → Bool := fun _ ds => decide (uptoBulkAll ds ≤ 1048576)
def OpenSpec.upto (s : _root_.Go.ChangeSpec) : _root_.Go.OpenSpec := { _root_.Go.OpenSpec.ofChange s with cond := some uptoSmall }

/-- 'laws.FnClamps', WHERE WHAT IT READS IS OF BULK AT MOST 1048576: true; the input reads as it did. -/
def fnClampsUptoRow : OpenClaim := { program := "ytnfdkcpnoolmfaa", sum := "d00b0d6621be2b1f73ce74485b0b5c92774e5c1ee5ddb24f2b31f380aa4c1798", func := "loop.example/g01061/laws.FnClamps", spec := "fnClamps", apart := false, narrowed := true }
def FnClampsUptoSaid : Prop := fnClampsUptoRow.holds Try.pinned (OpenSpec.upto fnClampsSpec)

/-- 'laws.FnExactValidShop', WHERE WHAT IT READS IS OF BULK AT MOST 1048576: true; the input reads as it did. -/
def fnExactValidShopUptoRow : OpenClaim := { program := "ytnfdkcpnoolmfaa", sum := "d00b0d6621be2b1f73ce74485b0b5c92774e5c1ee5ddb24f2b31f380aa4c1798", func := "loop.example/g01061/laws.FnExactValidShop", spec := "fnExactValidShop", apart := false, narrowed := true }
def FnExactValidShopUptoSaid : Prop := fnExactValidShopUptoRow.holds Try.pinned (OpenSpec.upto fnExactValidShopSpec)

end Rows
end Go.Proofs.Ytnfdkcpnoolmfaa
