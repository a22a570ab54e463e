/- Callees given by contracts. Conditions: none. -/
import Derived.Test.YtpokgomeahjacaaL3
import Derived.Below
import Derived.Handed
import Derived.HandedShaped
import Derived.LaidLaws
import Derived.Lib.ItoaNum
import Derived.Lib.Strings
import Derived.Lib.Split
import Derived.Lib.Join
import Derived.Lib.Repeat
import Derived.Lib.IndexMore
import Derived.Lib.ParseIntBTie
import Derived.Stop.LaidErr
import Derived.MakeChecks
import Derived.Stop.Joined
set_option linter.unusedVariables false
set_option linter.unusedSimpArgs false
namespace Go.Ab
open Go.RowKit
section
variable {P : Program} {φ : Nat → Nat}
theorem Room.below {w w' : World} (h : Below w.heap.size w w') {b n : Nat} (hr : Room w b n) : Room w' b n := hr.of_block (h.block b hr.lt)
theorem ArgReps.len {w : World} {K : Nat → Prop} {vs : List Value} {as : List A} {bs : List Nat} (h : ArgReps φ w K vs as bs) : vs.length = as.length := by
 induction h with
 | nil => rfl
 | cons _ _ _ _ _ _ _ _ ih => simp [ih]
theorem ResReps.of_reps {w : World} {K : Nat → Prop} : ∀ {vs : List Value} {as : List A},Reps φ w K vs as → ResReps φ w K vs as []
 | _,_,.nil => .nil
 | _,_,.cons v a vs as h t => .cons _ _ [] _ _ _ (.data _ _ h) (ResReps.of_reps t)
theorem FOk.none {g : Nat} {io : List Bool} {ps rs os : List MT} (he : Entered P (φ g)) : FOk P φ g ⟨io,ps,rs,os,fun _ => Option.none⟩ := by
 refine ⟨he,fun as res outs hc => ?_⟩
 unfold Callee.cf at hc
 split at hc
 ·simp at hc
 ·cases hc
end
end Go.Ab
namespace Go.Ab
end Go.Ab
namespace Go.Ab
section
variable {H : Type} {enc : TypeId × Value → H}
end
end Go.Ab
