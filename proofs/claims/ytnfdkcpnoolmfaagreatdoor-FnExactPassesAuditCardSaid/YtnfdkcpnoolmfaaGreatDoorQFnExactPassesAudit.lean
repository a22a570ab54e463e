/- PassesAudit of the program and of the reference are equal. Conditions: numbers and lengths are those of their kinds. -/
import Derived.Test.YtnfdkcpnoolmfaaGreatDoorBFnExactPassesAudit
set_option linter.unusedVariables false
set_option linter.unusedSimpArgs false
namespace Go.Ab.P
open Go.Ab

theorem laws_FnExactPassesAudit_true (x : T_Shop.ty) (h : ET.wf T_Shop x) : laws_FnExactPassesAudit x = some true := by
  obtain ⟨n, e1, e2⟩ := szShop_ok x h
  rw [laws_FnExactPassesAudit_eq, e1, Option.bind_some]
  by_cases hn : n < 0
  · simp [hn]
  have hs := e2 (by omega)
  have key : spec_PassesAudit x = some (shopOk x && ((auditP x).length : Int) == 0) ∧ impl_PassesAudit x = some (shopOk x && ((auditP x).length : Int) == 0) := by
    rw [spec_PassesAudit_eq, impl_PassesAudit_eq, spec_l31Ok_ok x hs, impl_AuditShop_ok x hs]
    by_cases hk : shopOk x = true
    · simp only [hk, if_true, Option.bind_some, spec_l31All_ok x hs hk, beq_self_eq_true, Bool.true_and, and_self]
    · simp only [Bool.eq_false_iff.2 hk, Bool.false_eq_true, if_false, Option.bind_some, Bool.false_and]
      trivial
  simp only [hn, decide_false, Bool.false_eq_true, if_false, toShop_ok x hs, key.1, key.2, eqShop_ok x hs, Option.bind_some, beq_self_eq_true, Bool.not_true]
end Go.Ab.P
