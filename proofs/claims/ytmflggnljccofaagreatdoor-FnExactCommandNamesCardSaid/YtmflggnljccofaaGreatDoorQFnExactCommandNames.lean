/- The names of the console's commands are those of the reference. Conditions: none. -/
import Derived.Test.YtmflggnljccofaaGreatDoorBFnExactCommandNames
set_option linter.unusedVariables false
set_option linter.unusedSimpArgs false
namespace Go.Ab.P
open Go.Ab
theorem laws_FnExactCommandNames_true : laws_FnExactCommandNames = some true := by
 have e : spec_CommandNames = some cmdNames := spec_CommandNames_eq
 have hl : cmdNames.length = 25 := rfl
 rw [laws_FnExactCommandNames_eq,impl_CommandNames_eq,e]
 generalize cmdNames = r at hl
 have k1 := markStringS_ok r 1 (by omega) (by omega)
 have k2 := heldStringS_ok 1 r.length (by omega) (by omega)
 have k3 : (tmarks 1 r.length).take r.length = tmarks 1 r.length := List.take_of_length_le (by rw [tmarks_len]; omega)
 have k4 : ¬ (1 + (r.length : Int)) < 0 := by omega
 simp only [Option.bind_some,List.take_length,eqStringS_ok r (by omega),Bool.not_true,Bool.false_eq_true,if_false,decide_true,if_true,k1,k3,k2,k4,decide_false,bne_self_eq_false]
end Go.Ab.P
