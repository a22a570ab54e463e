/- Texts of clocks, of numbers with places, of laps and of lengths are read back, and no more pieces can be cut. Conditions: bytes are bytes. -/
import Derived.Test.YtbijadelckpmjaaDoorBFnUnits
set_option linter.unusedVariables false
set_option linter.unusedSimpArgs false
namespace Go.Ab.P
open Go.Ab

theorem law_p5 (v0 : List Int) (h1 : ∀ x, x ∈ v0 → 0 ≤ x ∧ x ≤ 255) (h2 : v0.length ≤ 1048576) : laws_FnUnits_p5 v0 = some true := by
  obtain ⟨s, e, k⟩ := from_ok v0 h1 h2
  obtain ⟨w, s1, e1, k1, _⟩ := spec_l02DrawMass_ok k (by omega)
  obtain ⟨a, s2, e2, k2, b1, b2⟩ := pick_ok k1 (by omega) 900 (by omega)
  obtain ⟨u, s3, e3, k3⟩ := one_ok k2 (by omega) 9 (by omega)
  have hdraw : ∃ l n t : Int, spec_DrawPiecesFrom v0 = some (l, n, t) := by
    rw [spec_DrawPiecesFrom_eq, e]
    simp only [Option.bind_some, e1, src_eta, e2, e3]
    cases u
    · obtain ⟨t, s5, e5, k5, _⟩ := among_ok k3 (by omega) [0, 0, 1, 5, 30, 1000, 1001, (-1)] (by decide) (by decide)
      simp only [Bool.false_eq_true, if_false, spec_DrawPiecesFrom_p0_eq, src_eta, e5, Option.bind_some]
      exact ⟨_, _, _, rfl⟩
    · obtain ⟨n, s4, e4, k4, _⟩ := among_ok k3 (by omega) [0, 1, 1000000000, 1000000001] (by decide) (by decide)
      obtain ⟨t, s5, e5, k5, _⟩ := among_ok k4 (by omega) [0, 0, 1, 5, 30, 1000, 1001, (-1)] (by decide) (by decide)
      simp only [if_true, e4, Option.bind_some, spec_DrawPiecesFrom_p0_eq, src_eta, e5]
      exact ⟨_, _, _, rfl⟩
  obtain ⟨l, n, t, e6⟩ := hdraw
  rw [laws_FnUnits_p5_eq, e6, Option.bind_some, impl_PiecesFrom_eq]
  simp only [impl_within_ok, Option.bind_some]
  cases hl : inR l 0 1000000000
  · rfl
  cases hn : inR n 1 1000000000
  · rfl
  cases ht : inR t 0 1000
  · rfl
  have k1 := inR_iff'.1 hl
  have k2 := inR_iff'.1 hn
  have k3 := inR_iff'.1 ht
  simp only [Bool.not_true, Bool.false_eq_true, if_false, impl_PiecesFrom_p0_eq]
  have hz : ¬ n + t = 0 := by omega
  rw [w64 (n := n + t) (by omega) (by omega), w64 (n := l + t) (by omega) (by omega), tdiv_nonneg_eq (show 0 ≤ l + t by omega)]
  have hq := Int.emod_add_mul_ediv (l + t) (n + t)
  have hr0 := Int.emod_nonneg (l + t) hz
  have hr1 := Int.emod_lt_of_pos (l + t) (show 0 < n + t by omega)
  have hq0 : 0 ≤ (l + t) / (n + t) := Int.ediv_nonneg (by omega) (by omega)
  have hq1 : (l + t) / (n + t) ≤ l + t := Int.ediv_le_self _ (by omega)
  generalize (l + t) / (n + t) = q at *
  generalize (l + t) % (n + t) = r at *
  have e7 : (n + t) * q = n * q + t * q := Int.add_mul ..
  have hnq : 0 ≤ n * q := Int.mul_nonneg (by omega) hq0
  have htq : 0 ≤ t * q := Int.mul_nonneg (by omega) hq0
  have m1 : (q + 1) * n = n * q + n := by rw [Int.add_mul, Int.mul_comm q n]; omega
  have m2 : q * t = t * q := Int.mul_comm ..
  have m3 : q * n = n * q := Int.mul_comm ..
  have m4 : (q - 1) * t = t * q - t := by rw [Int.sub_mul, Int.mul_comm q t]; omega
  simp only [hz, decide_false, Bool.false_eq_true, if_false, Option.bind_some]
  rw [w64 (n := q) (by omega) (by omega), w64 (n := q + 1) (by omega) (by omega), m1, m2, m3, w64 (n := q - 1) (by omega) (by omega), m4,
    w64 (n := n * q + n) (by omega) (by omega), w64 (n := t * q) (by omega) (by omega), w64 (n := n * q) (by omega) (by omega), w64 (n := t * q - t) (by omega) (by omega),
    w64 (n := n * q + n + t * q) (by omega) (by omega), w64 (n := n * q + (t * q - t)) (by omega) (by omega)]
  have c0 : q ≥ 0 := hq0
  have c1 : n * q + n + t * q > l := by omega
  have c2 : n * q + (t * q - t) ≤ l := by omega
  simp [c0, c1, c2]

theorem law_p4 (v0 : List Int) (n : Int) (hn : -1 ≤ n ∧ n ≤ 1000000001) (h1 : ∀ x, x ∈ v0 → 0 ≤ x ∧ x ≤ 255) (h2 : v0.length ≤ 1048576) : laws_FnUnits_p4 v0 n = some true := by
  have hlast := law_p5 v0 h1 h2
  rw [laws_FnUnits_p4_eq, impl_InchParts_eq, impl_within_ok]
  cases h : inR n 0 1000000000
  · simpa using hlast
  have hk := inR_iff'.1 h
  have hb := rdivP_bd (a := 64 * n) (b := 254) (m := 64000000000) (by omega) (by omega)
  have he := rdivP_err (a := 64 * n) (b := 254) (by omega)
  simp only [Option.bind_some, Bool.not_true, Bool.false_eq_true, if_false]
  rw [w64 (n := 64 * n) (by omega) (by omega), impl_divRound_ok (64 * n) 254 (by omega) (by omega)]
  rw [Int.mul_comm (rdivP (64 * n) 254) 254] at he
  generalize rdivP (64 * n) 254 = q at *
  have ha := absI_bd (n := 254 * q - 64 * n) (b := 40000000000000) (by omega)
  simp only [Option.bind_some, beq_self_eq_true, if_true, w64 (n := 254 * q) (by omega) (by omega), w64 (n := 254 * q - 64 * n) (by omega) (by omega), laws_b10Abs_ok (254 * q - 64 * n) (by omega), w64 (n := 2 * absI (254 * q - 64 * n)) (by omega) (by omega)]
  have c : ¬ 2 * absI (254 * q - 64 * n) > 254 := by omega
  simp [c, hlast]

theorem law_p3 (v0 v1 : List Int) (h1 : ∀ x, x ∈ v0 → 0 ≤ x ∧ x ≤ 255) (h2 : v0.length ≤ 1048576) (m1 : ∀ x, x ∈ v1 → 0 ≤ x ∧ x ≤ 255) (m2 : v1.length ≤ 1048576) : laws_FnUnits_p3 v0 v1 = some true := by
  obtain ⟨s, e, k⟩ := from_ok v1 m1 m2
  obtain ⟨w, s1, e1, k1, hw⟩ := spec_l02DrawMass_ok k (by omega)
  have hlast := law_p4 v0 w hw h1 h2
  rw [laws_FnUnits_p3_eq, spec_DrawLengthText_eq, e]
  simp only [Option.bind_some, e1]
  cases h : inR w 0 1000000000
  · rw [impl_LengthText_out w h]
    simp [impl_ReadLength_nil, hlast]
  · have hk := inR_iff'.1 h
    rw [impl_LengthText_ok w hk]
    simp [impl_ReadLength_ok w hk, hlast]

theorem law_p2 (v0 v1 : List Int) (h1 : ∀ x, x ∈ v0 → 0 ≤ x ∧ x ≤ 255) (h2 : v0.length ≤ 1048576) (m1 : ∀ x, x ∈ v1 → 0 ≤ x ∧ x ≤ 255) (m2 : v1.length ≤ 1048576) : laws_FnUnits_p2 v0 v1 = some true := by
  obtain ⟨s, e, k⟩ := from_ok v0 h1 h2
  obtain ⟨w, s1, e1, k1, hw⟩ := spec_l02DrawMass_ok k (by omega)
  have hlast := law_p3 v0 v1 h1 h2 m1 m2
  rw [laws_FnUnits_p2_eq, spec_DrawLapText_eq, e]
  simp only [Option.bind_some, e1]
  cases h : inR w 0 1000000000
  · rw [impl_LapText_out w h, spec_LapText_out w h]
    simp [impl_ReadLap_nil, hlast]
  · have hk := inR_iff'.1 h
    obtain ⟨t, et, ht⟩ := spec_LapText_ok w hk
    have ht' : (t == []) = false := by simpa using ht
    have hx : (Lib.itoa ((w.toNat / 60 : Nat) : Int) ++ 58 :: padP ((w.toNat % 60 : Nat) : Int) 2 == []) = false := by
      rw [beq_eq_false_iff_ne]; intro h; simp at h
    rw [impl_LapText_ok w hk, et]
    simp only [Option.bind_some, impl_ReadLap_ok w hk, hx, ht', beq_self_eq_true, Bool.not_true, Bool.false_eq_true, if_false, Bool.false_beq, if_true, bne_self_eq_false]
    exact hlast

theorem law_p1 (v0 v1 : List Int) (h1 : ∀ x, x ∈ v0 → 0 ≤ x ∧ x ≤ 255) (h2 : v0.length ≤ 1048576) (m1 : ∀ x, x ∈ v1 → 0 ≤ x ∧ x ≤ 255) (m2 : v1.length ≤ 1048576) : laws_FnUnits_p1 v0 v1 = some true := by
  have hlast := law_p2 v0 v1 h1 h2 m1 m2
  obtain ⟨s, e, k⟩ := from_ok v1 m1 m2
  have hnum : ∃ (n : Int) (s' : T_l00Src.ty), spec_l02DrawNumber s = some (n, s') ∧ SrcOk s' 4 := by
    obtain ⟨u, s1, e1, k1⟩ := one_ok k (by omega) 8 (by omega)
    rw [spec_l02DrawNumber_eq]
    simp only [e1, Option.bind_some, src_eta]
    cases u
    · obtain ⟨v, s2, e2, k2, _⟩ := pick_ok k1 (by omega) 4000 (by omega)
      simp only [Bool.false_eq_true, if_false, e2, Option.bind_some, src_eta]
      exact ⟨_, s2, rfl, k2.up (by omega)⟩
    · obtain ⟨v, s2, e2, k2, _⟩ := among_ok k1 (by omega) [0, 1000000000, 1000000001, (-1000000000), (-1000000001), 7, (-7)] (by decide) (by decide)
      simp only [if_true, e2, Option.bind_some, src_eta]
      exact ⟨_, s2, rfl, k2.up (by omega)⟩
  obtain ⟨n, s1, e1, k1⟩ := hnum
  obtain ⟨p, s2, e2, k2, _⟩ := among_ok k1 (by omega) [1, 2, 3, 6, 0, 7, 2, 3] (by decide) (by decide)
  rw [laws_FnUnits_p1_eq, spec_DrawFixedText_eq, e]
  simp only [Option.bind_some, e1, src_eta, spec_l02DrawPlaces_eq, e2]
  by_cases h : inR n (-1000000000) 1000000000 = true ∧ inR p 1 6 = true
  · have hk := inR_iff'.1 h.1
    have hp := inR_iff'.1 h.2
    obtain ⟨q, rfl⟩ : ∃ q : Nat, p = q := ⟨p.toNat, by omega⟩
    have hx : (fixP n q == []) = false := by simpa using fixP_ne n q
    rw [impl_FixedText_ok n q hk (by omega)]
    simp only [Option.bind_some, impl_ReadFixed_ok n q hk (by omega), hx, Bool.false_beq, Bool.not_true, Bool.false_eq_true, if_false, if_true, bne_self_eq_false]
    exact hlast
  · rw [impl_FixedText_out n p h]
    simp [impl_ReadFixed_nil, hlast]

theorem law_core (v0 v1 : List Int) (h1 : ∀ x, x ∈ v0 → 0 ≤ x ∧ x ≤ 255) (m1 : ∀ x, x ∈ v1 → 0 ≤ x ∧ x ≤ 255) : laws_FnUnits v0 v1 = some true := by
  rw [laws_FnUnits_eq, laws_b10Long_eq, laws_b10Long_eq]
  simp only [Option.bind_some, decide_eq_true_eq]
  by_cases c1 : (v0.length : Int) > 1048576
  · simp [c1]
  by_cases c2 : (v1.length : Int) > 1048576
  · simp [c2]
  simp only [c1, c2, if_false]
  have hlast := law_p1 v0 v1 h1 (by omega) m1 (by omega)
  obtain ⟨s, e, k⟩ := from_ok v0 h1 (by omega)
  have hdraw : ∃ n : Int, spec_DrawClockText v0 = some n := by
    obtain ⟨u, s1, e1, k1⟩ := one_ok k (by omega) 8 (by omega)
    rw [spec_DrawClockText_eq, e]
    simp only [e1, Option.bind_some, src_eta]
    cases u
    · obtain ⟨v, s2, e2, k2, _⟩ := pick_ok k1 (by omega) 240 (by omega)
      obtain ⟨v', s3, e3, k3, _⟩ := pick_ok k2 (by omega) 6 (by omega)
      simp only [Bool.false_eq_true, if_false, e2, e3, Option.bind_some, src_eta]
      exact ⟨_, rfl⟩
    · obtain ⟨v, s2, e2, k2, _⟩ := among_ok k1 (by omega) [(-1), 0, 1439, 1440] (by decide) (by decide)
      simp only [if_true, e2, Option.bind_some, src_eta]
      exact ⟨_, rfl⟩
  obtain ⟨n, en⟩ := hdraw
  rw [laws_FnUnits_p0_eq, en, Option.bind_some]
  cases h : inR n 0 1439
  · rw [impl_ClockText_out n h]
    simp [impl_ReadClock_nil, hlast]
  · have hk := inR_iff'.1 h
    have l1 := pad_two (n.toNat / 60) (by omega)
    have l2 := pad_two (n.toNat % 60) (by omega)
    have hx : (padP ((n.toNat / 60 : Nat) : Int) 2 ++ 58 :: padP ((n.toNat % 60 : Nat) : Int) 2 == []) = false := by
      rw [beq_eq_false_iff_ne]; intro h; simp at h
    have hl : (((padP ((n.toNat / 60 : Nat) : Int) 2 ++ 58 :: padP ((n.toNat % 60 : Nat) : Int) 2).length : Nat) : Int) = 5 := by
      rw [List.length_append, List.length_cons, l1.2.1, l2.2.1]; rfl
    rw [impl_ClockText_ok n hk]
    simp only [Option.bind_some, impl_ReadClock_ok n hk, hx, hl, Bool.false_beq, Bool.not_true, Bool.false_eq_true, if_false, if_true, bne_self_eq_false]
    exact hlast
theorem laws_FnUnits_true (code more : List Int) (h : CT.wf (.sl (.one (.int .u8))) code) (h' : CT.wf (.sl (.one (.int .u8))) more) : laws_FnUnits code more = some true :=
  law_core code more (bytes_ok h) (bytes_ok h')
end Go.Ab.P
