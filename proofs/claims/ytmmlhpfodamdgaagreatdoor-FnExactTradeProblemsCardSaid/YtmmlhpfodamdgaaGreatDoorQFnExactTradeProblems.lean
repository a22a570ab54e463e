/- TradeProblems of the program and of the reference are equal, wherever the sizes pass. Conditions: numbers and lengths are those of their kinds. -/
import Derived.Test.YtmmlhpfodamdgaaGreatDoorBFnExactTradeProblems
set_option linter.unusedVariables false
set_option linter.unusedSimpArgs false
namespace Go.Ab.P
open Go.Ab
theorem laws_FnExactTradeProblems_true (x : T_Shop.ty) (h : ET.wf T_Shop x) : laws_FnExactTradeProblems_F.Cond x := by
 obtain ⟨n,e1,e2⟩ := szShop_ok x h
 refine ⟨n,e1,?_⟩
 by_cases hn : n < 0
 ·exact .inl hn
 have hs := e2 (by omega)
 obtain ⟨ps,c,hl,r1,r2⟩ := tradeProblems_same x hs
 exact .inr (shopPos spec_TradeProblems impl_TradeProblems x hs ps c hl r1 r2)
end Go.Ab.P
