/- ValidDesk of the program and of the reference are equal. Conditions: numbers and lengths are those of their kinds. -/
import Derived.Test.YtlbibfjmbmbgjaaGreatBFnExactValidDesk
set_option linter.unusedVariables false
set_option linter.unusedSimpArgs false
namespace Go.Ab.P
open Go.Ab

theorem laws_FnExactValidDesk_true (x : T_Desk.ty) (h : ET.wf T_Desk x) : laws_FnExactValidDesk x = some true := by
  obtain ⟨n, e1, e2⟩ := szDesk_ok x h
  rw [laws_FnExactValidDesk_eq, e1, Option.bind_some]
  by_cases hn : n < 0
  · simp [hn]
  have hs := e2 (by omega)
  simp only [hn, decide_false, Bool.false_eq_true, if_false, toDesk_ok x hs, spec_ValidDesk_ok x hs, impl_ValidDesk_ok x hs, eqDesk_ok x hs, Option.bind_some, beq_self_eq_true, Bool.not_true]
end Go.Ab.P
