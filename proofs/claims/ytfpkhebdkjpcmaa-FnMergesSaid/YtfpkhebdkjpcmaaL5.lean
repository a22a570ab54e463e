/- Library functions: the kit's contracts as callees. Conditions: none. -/
import Derived.Test.YtfpkhebdkjpcmaaL4
import Derived.Shelf.Strconv.Itoa4
import Derived.Shelf.Strings.Prefix
import Derived.Shelf.Small.Wraps
import Derived.Shelf.Small.Strs
import Derived.Shelf.Strings.Shaped
import Derived.Shelf.Strings.SplitShaped
import Derived.Shelf.Strings.Repeat
import Derived.Shelf.Strings.OnBuilder
import Derived.Shelf.Strconv.ParseIntPublic10
import Derived.WalkSmall
import Derived.Lib.SmallJoins
set_option linter.unusedVariables false
set_option linter.unusedSimpArgs false
namespace Go.Ab
open Go.Shelf Go.RowKit Go.Sort Go.Lib Go.Proofs
section
variable {P : Program} {φ : Nat → Nat} {ρ : Ren} {g : Nat}
structure RdWalk (P : Program) (r p f : Nat) : Prop where
 en : Entered P r
 long : ∀ (s : ByteArray) (w : World),18 < (Lib.trimPrefix s.data.toList [45]).length →
  Calls P r #[.string s] w fun e w' => e = .returned (.tuple #[.int .i64 0,.bool false]) ∧ Below w.heap.size w w'
 bad : ∀ (s : ByteArray) (w : World),¬ 18 < (Lib.trimPrefix s.data.toList [45]).length → ∀ (m : Int) (u : TypeId),
  (Calls P p #[.string s,.int .i64 10,.int .i64 64] w fun e w' => ∃ x,e = .returned (.tuple #[.int .i64 m,.iface u x]) ∧ Below w.heap.size w w') →
  Calls P r #[.string s] w fun e w' => e = .returned (.tuple #[.int .i64 0,.bool false]) ∧ Below w.heap.size w w'
 ok : ∀ (s : ByteArray) (w : World),¬ 18 < (Lib.trimPrefix s.data.toList [45]).length → ∀ (v : Int),Lib.itoa v = s.data.toList →
  (Calls P p #[.string s,.int .i64 10,.int .i64 64] w fun e w' => e = .returned (.tuple #[.int .i64 v,.nilIface]) ∧ Below w.heap.size w w') →
  (∀ w',Below w.heap.size w w' → Calls P f #[.int .i64 v,.int .i64 10] w' fun e w'' => e = .returned (.string ⟨(Lib.itoa v).toArray⟩) ∧ Below w'.heap.size w' w'') →
  Calls P r #[.string s] w fun e w' => e = .returned (.tuple #[.int .i64 v,.bool true]) ∧ Below w.heap.size w w'
 no : ∀ (s : ByteArray) (w : World),¬ 18 < (Lib.trimPrefix s.data.toList [45]).length → ∀ (v : Int),Lib.itoa v ≠ s.data.toList →
  (Calls P p #[.string s,.int .i64 10,.int .i64 64] w fun e w' => e = .returned (.tuple #[.int .i64 v,.nilIface]) ∧ Below w.heap.size w w') →
  (∀ w',Below w.heap.size w w' → Calls P f #[.int .i64 v,.int .i64 10] w' fun e w'' => e = .returned (.string ⟨(Lib.itoa v).toArray⟩) ∧ Below w'.heap.size w' w'') →
  Calls P r #[.string s] w fun e w' => e = .returned (.tuple #[.int .i64 0,.bool false]) ∧ Below w.heap.size w w'
end
end Go.Ab
