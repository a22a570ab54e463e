/- TableLines of the program and of the reference are equal, wherever the sizes pass. Conditions: numbers and lengths are those of their kinds. -/
import Derived.Test.YtihgbmhhcalejaaDoorBFnExactTableLines
set_option linter.unusedVariables false
set_option linter.unusedSimpArgs false
namespace Go.Ab.P
open Go.Ab
theorem laws_FnExactTableLines_true (x : List (List (List UInt8))) (h : ET.wf (.one (.sl (.one (.sl (.one .str))))) x) : laws_FnExactTableLines_F.Cond x := by
 obtain ⟨g1,g2⟩ := h
 have ml : Go.maxLen = 9223372036854775807 := maxLen_eq
 obtain ⟨n,e1,_,e2⟩ := szStringSS_ok x (ml ▸ g1) (fun y hy => ⟨ml ▸ (g2 y hy).1,fun z hz => ml ▸ (g2 y hy).2 z hz⟩) 1048576 (by omega) (by omega)
 refine ⟨n,e1,?_⟩
 by_cases hn : n < 0
 ·exact .inl hn
 obtain ⟨hs,hr⟩ := e2 (by omega)
 obtain ⟨ps,c,hl,r1,r2⟩ := tableLines_same x hs hr
 have hrow : ∀ j,j < x.length → (rowAt x j).length ≤ 1048576 := fun j hj => by
  have : rowAt x j = x[j] := by simp [rowAt,List.getElem?_eq_getElem hj]
  rw [this]; exact (hr _ (List.getElem_mem hj)).1
 refine .inr ⟨hs,hrow,fun j hj => toStringS_ok _ (hrow j hj),fun ns m hns hm => ⟨m + ns.length,tmarks m ns.length,by omega,?_⟩,eqStringSS_ok x hs (fun y hy => (hr y hy).1),ps,c,1 + ps.length,tmarks 1 ps.length,r1,r2,eqStringS_ok ps hl,?_,?_⟩
 ·have := markStringS_ok ns m (by omega) (by omega)
  rw [show (((m + ns.length : Nat) : Int)) = (m : Int) + ns.length by omega]; exact this
 ·have := markStringS_ok ps 1 (by omega) (by omega)
  rw [show (((1 + ps.length : Nat) : Int)) = (1 : Int) + ps.length by omega]; exact this
 ·have := heldStringS_ok 1 ps.length (by omega) (by omega)
  rw [show (((1 + ps.length : Nat) : Int)) = (1 : Int) + ps.length by omega]; exact this
end Go.Ab.P
