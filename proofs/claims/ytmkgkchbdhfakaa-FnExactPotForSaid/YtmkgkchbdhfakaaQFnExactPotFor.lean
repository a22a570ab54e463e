/- PotFor of the program and of the reference are equal. Conditions: numbers and lengths are those of their kinds. -/
import Derived.Test.YtmkgkchbdhfakaaBFnExactPotFor
set_option linter.unusedVariables false
set_option linter.unusedSimpArgs false
namespace Go.Ab.P
open Go.Ab

theorem potFor_loop (xs : List T_Pot.ty) (pull area seconds room : Int) (hs : xs.length ≤ 1048576) (hok : ∀ x, x ∈ xs → potOkT x = true) (h5 : 1 ≤ area ∧ area ≤ 100000) (h4 : 0 ≤ room ∧ room ≤ 40) :
    ∀ (k i : Nat), i + k = xs.length → ∃ r : Int × Int, spec_PotFor_p1 xs pull area seconds room i = some r ∧ impl_PotFor_p1 pull area seconds room xs xs.length i = some r
  | 0, i, hk => by
    refine ⟨(0, 3), ?_, ?_⟩
    · rw [spec_PotFor_p1_eq]
      have : ¬ (i : Int) < (xs.length : Int) := by omega
      simp only [this, decide_false, Bool.false_eq_true, if_false]
    · rw [impl_PotFor_p1_eq]
      have : ¬ (i : Int) < (xs.length : Int) := by omega
      simp only [this, decide_false, Bool.false_eq_true, if_false]
  | k + 1, i, hk => by
    have hi : i < xs.length := by omega
    have hlt : (i : Int) < (xs.length : Int) := by omega
    have hw : IntKind.i64.wrap ((i : Int) + 1) = ((i + 1 : Nat) : Int) := by rw [w64 (by omega) (by omega)]; omega
    have hp := potOk_iff.1 (hok xs[i] (List.getElem_mem hi))
    obtain ⟨r, r1, r2⟩ := potFor_loop xs pull area seconds room hs hok h5 h4 k (i + 1) (by omega)
    have a1 := spec_l14Holds_ok xs[i].1 xs[i].2.1 xs[i].2.2.1 xs[i].2.2.2.1 xs[i].2.2.2.2.1 pull area (by omega) (by omega) (by omega) (by omega) h5
    have a2 := impl_Pot_holdsJoint_ok xs[i].1 xs[i].2.1 xs[i].2.2.1 xs[i].2.2.2.1 xs[i].2.2.2.2.1 pull area (by omega) (by omega) (by omega) (by omega) h5
    have a3 := spec_l14Open_ok xs[i].1 xs[i].2.1 xs[i].2.2.1 xs[i].2.2.2.1 xs[i].2.2.2.2.1 room (by omega) (by omega) (by omega) h4
    have a4 := impl_Pot_open_ok xs[i].1 xs[i].2.1 xs[i].2.2.1 xs[i].2.2.2.1 xs[i].2.2.2.2.1 room (by omega) (by omega) (by omega) h4
    have b1 : spec_l14Holds xs[i] pull area = _ := a1
    have b2 : impl_Pot_holdsJoint xs[i] pull area = _ := a2
    have b3 : spec_l14Open xs[i] room = _ := a3
    have b4 : impl_Pot_open xs[i] room = _ := a4
    rw [spec_PotFor_p1_eq, impl_PotFor_p1_eq]
    simp only [hlt, decide_true, if_true, Int.natCast_nonneg, Int.toNat_natCast, List.getElem?_eq_getElem hi, Option.bind_some, b1, b2, b3, b4, hw, r1, r2]
    cases potHolds xs[i].2.1 xs[i].2.2.1 xs[i].2.2.2.1 xs[i].2.2.2.2.1 pull area
    · exact ⟨r, by simp, by simp⟩
    · by_cases ho : potOpen xs[i].2.1 xs[i].2.2.1 xs[i].2.2.2.1 room ≥ seconds
      · exact ⟨(i, 0), by simp [ho], by simp [ho]⟩
      · exact ⟨r, by simp [ho], by simp [ho]⟩
theorem potFor_same (xs : List T_Pot.ty) (pull area seconds room : Int) (hs : xs.length ≤ 1048576) (hx : ∀ x, x ∈ xs → x.1.length ≤ 1048576) :
    ∃ r : Int × Int, spec_PotFor xs pull area seconds room = some r ∧ impl_PotFor xs pull area seconds room = some r := by
  rw [spec_PotFor_eq, impl_PotFor_eq, spec_l14Ok_ok xs hs hx, impl_ValidPots_ok xs hs hx, spec_l14Joint_eq, impl_isJoint_eq, spec_l14Seconds_eq, spec_l14Room_eq, impl_isSeconds_eq, impl_isRoom_eq]
  simp only [spec_l00In_ok, impl_within_ok]
  cases h : potsOk xs
  · exact ⟨(0, 1), by simp, by simp⟩
  cases h1 : inR pull 0 1000000
  · exact ⟨(0, 2), by simp, by simp⟩
  cases h2 : inR area 1 100000
  · exact ⟨(0, 2), by simp, by simp⟩
  cases h3 : inR seconds 0 1000
  · exact ⟨(0, 2), by simp, by simp⟩
  cases h4 : inR room 0 40
  · exact ⟨(0, 2), by simp, by simp⟩
  obtain ⟨r, r1, r2⟩ := potFor_loop xs pull area seconds room hs (fun x hx => potsOk_all h x hx) (inR_iff.1 h2) (inR_iff.1 h4) xs.length 0 (by omega)
  refine ⟨r, ?_, ?_⟩
  · simpa [spec_PotFor_p0_eq] using r1
  · simpa [impl_PotFor_p0_eq] using r2
theorem laws_FnExactPotFor_true (xs : List T_Pot.ty) (pull area seconds room : Int) (h : CT.wf (.sl T_Pot) xs) (h1 : CT.wf (.int .i64) pull) (h2 : CT.wf (.int .i64) area) (h3 : CT.wf (.int .i64) seconds) (h4 : CT.wf (.int .i64) room) :
    laws_FnExactPotFor xs pull area seconds room = some true := by
  obtain ⟨hl, hw⟩ := h
  rw [maxLen_eq] at hl
  obtain ⟨n, e1, e2, e3⟩ := szPotS_ok xs hl (fun x hx => by rw [← maxLen_eq]; exact (hw x hx).1) 1048576 (by omega) (by omega)
  rw [laws_FnExactPotFor_eq, e1, Option.bind_some]
  by_cases hn : n < 0
  · simp [hn]
  obtain ⟨hs, hx⟩ := e3 (by omega)
  obtain ⟨r, r1, r2⟩ := potFor_same xs pull area seconds room hs hx
  simp only [hn, decide_false, Bool.false_eq_true, if_false, toPotS_ok xs hs, Option.bind_some, r1, List.take_length, r2, bne_self_eq_false, laws_FnExactPotFor_p0_eq, eqPotS_ok xs hs, Bool.not_true]
end Go.Ab.P
