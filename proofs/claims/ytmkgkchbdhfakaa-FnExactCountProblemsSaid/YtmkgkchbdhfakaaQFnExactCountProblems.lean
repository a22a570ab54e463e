/- CountProblems of the program and of the reference are equal. Conditions: numbers and lengths are those of their kinds. -/
import Derived.Test.YtmkgkchbdhfakaaBFnExactCountProblems
set_option linter.unusedVariables false
set_option linter.unusedSimpArgs false
namespace Go.Ab.P
open Go.Ab

theorem count_loop (xs : List T_Problem.ty) (hs : xs.length ≤ 1048576) :
    ∀ (k i : Nat) (r : List Int), i + k = xs.length → r.length = 6 → ∃ r' : List Int, r'.length = 6 ∧ spec_CountProblems_p0 xs 6 i r = some r' ∧ impl_CountProblems_p0 6 xs xs.length i r = some r'
  | 0, i, r, hk, hr => by
    have : ¬ (i : Int) < (xs.length : Int) := by omega
    refine ⟨r, hr, ?_, ?_⟩
    · rw [spec_CountProblems_p0_eq]
      simp only [this, decide_false, Bool.false_eq_true, if_false]
      rw [List.take_of_length_le (by omega)]
    · rw [impl_CountProblems_p0_eq]
      simp only [this, decide_false, Bool.false_eq_true, if_false]
      rw [List.take_of_length_le (by omega)]
  | k + 1, i, r, hk, hr => by
    have hi : i < xs.length := by omega
    have hlt : (i : Int) < (xs.length : Int) := by omega
    have hw : IntKind.i64.wrap ((i : Int) + 1) = ((i + 1 : Nat) : Int) := by rw [w64 (by omega) (by omega)]; omega
    rw [spec_CountProblems_p0_eq, impl_CountProblems_p0_eq]
    simp only [hlt, decide_true, if_true, Int.natCast_nonneg, Int.toNat_natCast, List.getElem?_eq_getElem hi, Option.bind_some, hw, spec_l31Kind_eq, spec_l00In_ok, impl_within_ok]
    obtain ⟨q, hq0⟩ : ∃ q : Int, xs[i].1 = q := ⟨xs[i].1, rfl⟩
    simp only [hq0]
    cases hq : inR q 1 5
    · simp only [Bool.false_eq_true, if_false]
      exact count_loop xs hs k (i + 1) r (by omega) hr
    · have hb := inR_iff'.1 hq
      have h6 : q < ((6 : Nat) : Int) := by omega
      have h0 : (0 : Int) ≤ q := by omega
      have h06 : (0 : Int) < ((6 : Nat) : Int) := by omega
      obtain ⟨j, rfl⟩ : ∃ j : Nat, q = j := ⟨q.toNat, by omega⟩
      have hj : j < r.length := by omega
      have hj0 : j ≠ 0 := by omega
      have hz : 0 < r.length := by omega
      simp only [if_true, h6, h0, h06, decide_true, Bool.and_self, Int.toNat_natCast, List.getElem?_eq_getElem hj, List.getElem?_eq_getElem hz, Option.bind_some]
      rw [List.getElem?_set_ne hj0, List.getElem?_set_ne (Ne.symm hj0), List.getElem?_eq_getElem hj, List.getElem?_eq_getElem hz]
      simp only [Option.bind_some]
      rw [List.set_comm _ _ hj0]
      exact count_loop xs hs k (i + 1) _ (by omega) (by simp [hr])
theorem laws_FnExactCountProblems_true (xs : List T_Problem.ty) (h : CT.wf (.sl T_Problem) xs) : laws_FnExactCountProblems xs = some true := by
  obtain ⟨hl, hw⟩ := h
  rw [maxLen_eq] at hl
  obtain ⟨n, e1, e2, e3⟩ := szProblemS_ok xs hl (fun x hx => by rw [← maxLen_eq]; exact ⟨(hw x hx).2.1, (hw x hx).2.2.1⟩) 1048576 (by omega) (by omega)
  rw [laws_FnExactCountProblems_eq, e1, Option.bind_some]
  by_cases hn : n < 0
  · simp [hn]
  obtain ⟨hs, hx⟩ := e3 (by omega)
  obtain ⟨r, r0, r1, r2⟩ := count_loop xs hs xs.length 0 [0, 0, 0, 0, 0, 0] (by omega) rfl
  have s1 : spec_CountProblems xs = some r := by rw [spec_CountProblems_eq]; exact r1
  have s2 : impl_CountProblems xs = some r := by rw [impl_CountProblems_eq]; exact r2
  obtain ⟨m, r', hm, hm0⟩ := markProblemS_ok xs hs
  have hm1 : ¬ m < 0 := by omega
  have k1 := markInt64S_ok r 1 (by omega) (by omega)
  have k2 := heldInt64S_ok 1 r.length (by omega) (by omega)
  have k3 : (runs 1 r.length).take r.length = runs 1 r.length := List.take_of_length_le (by rw [runs_len]; omega)
  have k4 : ¬ (1 + (r.length : Int)) < 0 := by omega
  simp only [hn, decide_false, Bool.false_eq_true, if_false, toProblemS_ok xs hs, Option.bind_some, s1, List.take_length, s2, eqInt64S_ok r (by omega), Bool.not_true, eqProblemS_ok xs hs, decide_true, if_true, hm, hm1, laws_FnExactCountProblems_p0_eq, k1, k2, k3, k4, bne_self_eq_false]
end Go.Ab.P
