/- ValidShop of the program and of the reference are equal. Conditions: numbers and lengths are those of their kinds. -/
import Derived.Test.YtnfdkcpnoolmfaaBFnExactValidShop
set_option linter.unusedVariables false
set_option linter.unusedSimpArgs false
namespace Go.Ab.P
open Go.Ab

theorem laws_FnExactValidShop_true (x : T_Shop.ty) (h : ET.wf T_Shop x) : laws_FnExactValidShop x = some true := by
  obtain ⟨n, e1, e2⟩ := szShop_ok x h
  rw [laws_FnExactValidShop_eq, e1, Option.bind_some]
  by_cases hn : n < 0
  · simp [hn]
  have hs := e2 (by omega)
  simp only [hn, decide_false, Bool.false_eq_true, if_false, toShop_ok x hs, spec_ValidShop_eq, spec_l31Ok_ok x hs, impl_ValidShop_ok x hs, eqShop_ok x hs, Option.bind_some, beq_self_eq_true, Bool.not_true]
end Go.Ab.P
