/- ProblemText of the program and of the reference are equal. Conditions: numbers and lengths are those of their kinds. -/
import Derived.Test.YtmkgkchbdhfakaaPFnExactProblemText
set_option linter.unusedVariables false
set_option linter.unusedSimpArgs false
namespace Go.Ab.P
open Go.Ab

theorem problemText_same (k : Int) (who what : List UInt8) (h : who.length + what.length ≤ 1048576) :
    ∃ t, spec_ProblemText (k, who, what, ()) = some t ∧ impl_ProblemText (k, who, what, ()) = some t := by
  rw [spec_ProblemText_eq, impl_ProblemText_eq, impl_ProblemName_eq, impl_pick_eq, impl_at_eq, spec_l31Kind_eq, spec_l00In_eq, spec_l31Names_eq]
  by_cases hin : 1 ≤ k ∧ k ≤ 5
  · have : k = 1 ∨ k = 2 ∨ k = 3 ∨ k = 4 ∨ k = 5 := by omega
    rcases this with rfl | rfl | rfl | rfl | rfl <;>
      · simp only [strMax_eq, List.length_append, List.length_cons, List.length_nil]
        simp
        omega
  · by_cases h0 : k = 0
    · subst h0; simp
    · by_cases hk0 : k ≥ 0
      · have : ¬ k < 6 := by omega
        have h7 : ¬ k ≤ 5 := by omega
        simp [hk0, this, h7]
      · have : ¬ k ≥ 1 := by omega
        simp [hk0, this]
theorem problemText_law (k : Int) (who what : List UInt8) (hl1 : who.length ≤ 9223372036854775807) (hl2 : what.length ≤ 9223372036854775807) : laws_FnExactProblemText (k, who, what, ()) = some true := by
  rw [laws_FnExactProblemText_eq, laws_szProblem_eq]
  have e1 : IntKind.i64.wrap (1048576 - (who.length : Int)) = 1048576 - who.length := w64 (by omega) (by omega)
  simp only [e1]
  by_cases c1 : (1048576 - (who.length : Int)) < 0
  · simp [c1]
  have e2 : IntKind.i64.wrap (1048576 - (who.length : Int) - what.length) = 1048576 - who.length - what.length := w64 (by omega) (by omega)
  simp only [e2]
  by_cases c2 : (1048576 - (who.length : Int) - what.length) < 0
  · simp [c1, c2]
  simp only [c1, c2, decide_false, Bool.false_eq_true, if_false, Option.bind_some, laws_toProblem_eq]
  obtain ⟨t, ht1, ht2⟩ := problemText_same k who what (by omega)
  simp [ht1, ht2]
theorem laws_FnExactProblemText_true (a : T_Problem.ty) (h : ET.wf T_Problem a) : laws_FnExactProblemText a = some true :=
  problemText_law a.1 a.2.1 a.2.2.1 (by rw [← maxLen_eq]; exact h.2.1) (by rw [← maxLen_eq]; exact h.2.2.1)
end Go.Ab.P
