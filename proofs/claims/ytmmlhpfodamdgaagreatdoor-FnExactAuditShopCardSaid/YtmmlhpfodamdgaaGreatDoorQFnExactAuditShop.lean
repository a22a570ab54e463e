/- AuditShop of the program and of the reference are equal, wherever the sizes pass. Conditions: numbers and lengths are those of their kinds. -/
import Derived.Test.YtmmlhpfodamdgaaGreatDoorBFnExactAuditShop
set_option linter.unusedVariables false
set_option linter.unusedSimpArgs false
namespace Go.Ab.P
open Go.Ab
theorem laws_FnExactAuditShop_true (x : T_Shop.ty) (h : ET.wf T_Shop x) : laws_FnExactAuditShop_F.Cond x := by
 obtain ⟨n,e1,e2⟩ := szShop_ok x h
 refine ⟨n,e1,?_⟩
 by_cases hn : n < 0
 ·exact .inl hn
 have hs := e2 (by omega)
 obtain ⟨ps,c,hl,r1,r2⟩ := auditShop_same x hs
 exact .inr (shopPos spec_AuditShop impl_AuditShop x hs ps c hl r1 r2)
end Go.Ab.P
