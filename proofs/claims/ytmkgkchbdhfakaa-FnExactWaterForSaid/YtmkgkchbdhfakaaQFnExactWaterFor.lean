/- WaterFor of the program and of the reference are equal. Conditions: numbers and lengths are those of their kinds. -/
import Derived.Test.YtmkgkchbdhfakaaBFnExactWaterFor
set_option linter.unusedVariables false
set_option linter.unusedSimpArgs false
namespace Go.Ab.P
open Go.Ab

theorem water_same (id : List UInt8) (dry water heat hours seconds room : Int) (hs : id.length < 4611686018427387904) :
    ∃ x : Int × Int, spec_WaterFor (id, dry, water, heat, hours, ()) seconds room = some x ∧ impl_WaterFor (id, dry, water, heat, hours, ()) seconds room = some x := by
  rw [spec_WaterFor_eq, impl_WaterFor_eq, spec_l14One_ok _ _ _ _ _ hs, impl_Pot_valid_ok _ _ _ _ _ hs, spec_l14Seconds_eq, spec_l14Room_eq, impl_isSeconds_eq, impl_isRoom_eq, spec_l00In_ok, spec_l00In_ok, impl_within_ok, impl_within_ok]
  cases h : potOk id dry water heat hours
  · exact ⟨(0, 1), by simp, by simp⟩
  cases h2 : inR seconds 0 1000
  · exact ⟨(0, 2), by simp, by simp⟩
  cases h3 : inR room 0 40
  · exact ⟨(0, 2), by simp, by simp⟩
  have hp := potOk_iff.1 h
  have hse := inR_iff.1 h2
  have hro := inR_iff.1 h3
  simp only [Option.bind_some, Bool.not_true, Bool.false_eq_true, if_false, spec_WaterFor_p0_eq, impl_WaterFor_p0_eq]
  rw [w64 (n := 10001 - water) (by omega) (by omega)]
  obtain ⟨v, a1, a2, a3, a4, a5⟩ := spec_WaterFor_p1_ok id dry heat hours room seconds water (by omega) (by omega) (by omega) (by omega) 20000 (-1) (10001 - water) (by omega) (by omega) (by omega) (by omega) (fun u hu hu' => by omega) (.inl rfl)
  rw [a5]
  rcases impl_WaterFor_p1_ok id dry heat hours room seconds water (by omega) (by omega) (by omega) (by omega) (10001 - water).toNat water (by omega) (by omega) with ⟨t, b1, b2, b3, b4, b5⟩ | ⟨b1, b2⟩
  · rw [b5]
    refine ⟨(t - water, 0), ?_, rfl⟩
    have hv : v = t - water := by
      rcases Int.lt_trichotomy v (t - water) with h | h | h
      · rcases a4 with a4 | a4
        · omega
        · have := b4 (water + v) (by omega) (by omega); omega
      · exact h
      · have := a3 (t - water) (by omega) h
        rw [show water + (t - water) = t by omega] at this
        omega
    rw [if_neg (by omega), hv]
  · rw [b2]
    refine ⟨(0, 3), ?_, rfl⟩
    rcases a4 with a4 | a4
    · rw [if_pos a4]
    · by_cases hv : v = 10001 - water
      · rw [if_pos hv]
      · have := b1 (water + v) (by omega) (by omega); omega
theorem law_core (id : List UInt8) (dry water heat hours seconds room : Int) (hl : id.length ≤ 9223372036854775807) : laws_FnExactWaterFor (id, dry, water, heat, hours, ()) seconds room = some true := by
  rw [laws_FnExactWaterFor_eq, laws_szPot_eq]
  have e1 : IntKind.i64.wrap (1048576 - (id.length : Int)) = 1048576 - id.length := w64 (by omega) (by omega)
  simp only [e1]
  by_cases c1 : (1048576 - (id.length : Int)) < 0
  · simp [c1]
  obtain ⟨x, hx1, hx2⟩ := water_same id dry water heat hours seconds room (by omega)
  simp only [c1, decide_false, Bool.false_eq_true, if_false, Option.bind_some, laws_toPot_eq, hx1, hx2]
  simp
theorem laws_FnExactWaterFor_true (a : T_Pot.ty) (s r : Int) (h : ET.wf T_Pot a) (h' : CT.wf (.int .i64) s) (h'' : CT.wf (.int .i64) r) : laws_FnExactWaterFor a s r = some true :=
  law_core a.1 a.2.1 a.2.2.1 a.2.2.2.1 a.2.2.2.2.1 s r (by rw [← maxLen_eq]; exact h.1)
end Go.Ab.P
