/- OpenSeconds of the program and of the reference are equal. Conditions: numbers and lengths are those of their kinds. -/
import Derived.Test.YtmkgkchbdhfakaaBFnExactOpenSeconds
set_option linter.unusedVariables false
set_option linter.unusedSimpArgs false
namespace Go.Ab.P
open Go.Ab

theorem law_core (id : List UInt8) (dry water heat hours room : Int) (hl : id.length ≤ 9223372036854775807) : laws_FnExactOpenSeconds (id, dry, water, heat, hours, ()) room = some true := by
  rw [laws_FnExactOpenSeconds_eq, laws_szPot_eq]
  have e1 : IntKind.i64.wrap (1048576 - (id.length : Int)) = 1048576 - id.length := w64 (by omega) (by omega)
  simp only [e1]
  by_cases c1 : (1048576 - (id.length : Int)) < 0
  · simp [c1]
  simp only [c1, decide_false, Bool.false_eq_true, if_false, Option.bind_some, laws_toPot_eq, spec_OpenSeconds_ok _ _ _ _ _ _ (show id.length < 4611686018427387904 by omega), impl_OpenSeconds_ok _ _ _ _ _ _ (show id.length < 4611686018427387904 by omega)]
  simp
theorem laws_FnExactOpenSeconds_true (a : T_Pot.ty) (r : Int) (h : ET.wf T_Pot a) (h' : CT.wf (.int .i64) r) : laws_FnExactOpenSeconds a r = some true :=
  law_core a.1 a.2.1 a.2.2.1 a.2.2.2.1 a.2.2.2.2.1 r (by rw [← maxLen_eq]; exact h.1)
end Go.Ab.P
