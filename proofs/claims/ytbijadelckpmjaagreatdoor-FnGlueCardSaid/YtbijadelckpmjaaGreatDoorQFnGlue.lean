/- Water and hours are the least and the most that serve, a pot heated keeps its glue, and its text is read back. Conditions: bytes are bytes. -/
import Derived.Test.YtbijadelckpmjaaGreatDoorBFnGlue
set_option linter.unusedVariables false
set_option linter.unusedSimpArgs false
namespace Go.Ab.P
open Go.Ab

theorem draw_pot (v : List Int) (h1 : ∀ x, x ∈ v → 0 ≤ x ∧ x ≤ 255) (h2 : v.length ≤ 1048576) : ∃ s p s1 q s2, spec_l00From v = some s ∧ spec_l14DrawOne s [104, 105, 100, 101] = some (p, s1) ∧ spec_l14Bent s1 p = some (q, s2) ∧ SrcOk s2 20 ∧ (q.1).length = 4 := by
  obtain ⟨s, e, k⟩ := from_ok v h1 h2
  obtain ⟨p, s1, e1, k1, i1⟩ := spec_l14DrawOne_ok k (by omega) [104, 105, 100, 101]
  obtain ⟨q, s2, e2, k2, i2⟩ := spec_l14Bent_ok k1 (by omega) p
  exact ⟨s, p, s1, q, s2, e, e1, e2, k2.up (by omega), by rw [i2, i1]; rfl⟩

theorem potText (id : List UInt8) (dry water heat hours : Int) (h : potOk id dry water heat hours = true) : ∃ t, impl_PotText (id, dry, water, heat, hours, ()) = some t ∧ impl_ReadPot t = some ((id, dry, water, heat, hours, ()), true) := by
  have hk := potOk_iff.1 h
  have hn := isName_mem hk.1
  have hx : ∀ x, x ∈ [dry, water, heat, hours] → -1000000000000 ≤ x ∧ x ≤ 1000000000000 := fun x hx => by
    simp only [List.mem_cons, List.not_mem_nil, or_false] at hx
    rcases hx with rfl | rfl | rfl | rfl <;> omega
  have hv : impl_Pot_valid (id, dry, water, heat, hours, ()) = some true := by rw [impl_Pot_valid_ok _ _ _ _ _ (by omega), h]
  refine ⟨id ++ 32 :: listP [dry, water, heat, hours], ?_, ?_⟩
  · rw [impl_PotText_eq, hv]
    simp only [Option.bind_some, Bool.not_true, Bool.false_eq_true, if_false]
    rw [impl_named_ok _ _ (by omega) (by simp) (by simp) hx, Option.bind_some]
  · rw [impl_ReadPot_eq, impl_readNamed_ok _ _ 4 (isName_no hk.1 (by decide)) (by omega) (by simp) (by simp) hx, Option.bind_some]
    simp [hv]

theorem heat_core (id : List UInt8) (dry water heat0 hours0 heat hours : Int) (hid : id.length = 4) :
    ∃ (y : T_Pot.ty) (e : Int), impl_HeatPot (id, dry, water, heat0, hours0, ()) heat hours = some (y, e) ∧
      ((e ≠ 0 ∧ y = ([], 0, 0, 0, 0, ())) ∨ (e = 0 ∧ ∃ w : Int, y = (id, dry, w, heat, hours0 + hours, ()) ∧ potOk id dry w heat (hours0 + hours) = true ∧ w ≤ water)) := by
  rw [impl_HeatPot_eq, impl_Pot_valid_ok _ _ _ _ _ (by omega)]
  cases h : potOk id dry water heat0 hours0
  · exact ⟨_, 1, rfl, .inl ⟨by decide, rfl⟩⟩
  have hk := potOk_iff.1 h
  simp only [Option.bind_some, Bool.not_true, Bool.false_eq_true, if_false, impl_isHeat_eq, impl_within_ok]
  cases h2 : inR heat 20 95
  · exact ⟨_, 2, rfl, .inl ⟨by decide, rfl⟩⟩
  simp only [Option.bind_some, Bool.not_true, Bool.false_eq_true, if_false]
  cases h3 : inR hours 0 1000
  · exact ⟨_, 2, rfl, .inl ⟨by decide, rfl⟩⟩
  have k2 := inR_iff.1 h2
  have k3 := inR_iff.1 h3
  have m1 := mul_bd (b := water) (d := hours) (B := 10000) (D := 1000) (by omega) (by omega)
  have m1' : 0 ≤ water * hours := Int.mul_nonneg (by omega) (by omega)
  have m2 := mul_bd (b := water * hours) (d := heat - 20) (B := 10000000) (D := 75) (by omega) (by omega)
  have m2' : 0 ≤ water * hours * (heat - 20) := Int.mul_nonneg (by omega) (by omega)
  have r1 := rdivP_nonneg (a := water * hours * (heat - 20)) (b := 100000) (by omega) (by omega)
  have r2 := rdivP_le (a := water * hours * (heat - 20)) (b := 100000) (by omega) (by omega)
  simp only [Option.bind_some, Bool.not_true, Bool.false_eq_true, if_false, impl_HeatPot_p0_eq, w64 (n := water * hours) (by omega) (by omega), w64 (n := heat - 20) (by omega) (by omega), w64 (n := water * hours * (heat - 20)) (by omega) (by omega),
    impl_divRound_ok (water * hours * (heat - 20)) 100000 (by omega) (by omega), w64 (n := water - rdivP (water * hours * (heat - 20)) 100000) (by omega) (by omega), w64 (n := hours0 + hours) (by omega) (by omega)]
  generalize hg : (if water - rdivP (water * hours * (heat - 20)) 100000 > 1 then water - rdivP (water * hours * (heat - 20)) 100000 else 1) = w
  have hw : 1 ≤ w ∧ w ≤ water := by rw [← hg]; constructor <;> split <;> omega
  rw [impl_Pot_valid_ok _ _ _ _ _ (by omega), Option.bind_some]
  cases hv : potOk id dry w heat (hours0 + hours)
  · exact ⟨_, 6, rfl, .inl ⟨by decide, rfl⟩⟩
  · exact ⟨_, 0, rfl, .inr ⟨rfl, w, rfl, hv, hw.2⟩⟩

theorem p3_core (v0 : List Int) (id : List UInt8) (dry water heat hours a b : Int) (hid : id.length = 4) (hdraw : spec_DrawHeatPot v0 = some ((id, dry, water, heat, hours, ()), a, b)) (hb : -100000 ≤ b ∧ b ≤ 100000) : laws_FnGlue_p3 v0 = some true := by
  obtain ⟨y, c, ey, hy⟩ := heat_core id dry water heat hours a b hid
  rw [laws_FnGlue_p3_eq, hdraw, Option.bind_some]
  simp only [ey, Option.bind_some]
  rcases hy with ⟨hc, rfl⟩ | ⟨rfl, w, rfl, hv, hw⟩
  · have : (c != 0) = true := by simpa using hc
    simp only [this, if_true]
    rfl
  · obtain ⟨t, et, er⟩ := potText id dry w a (hours + b) hv
    have hk := potOk_iff.1 hv
    have hw1 : w ≥ 1 := by omega
    simp only [bne_self_eq_false, Bool.false_eq_true, if_false, et, er, Option.bind_some, beq_self_eq_true, if_true, w64 (n := hours + b) (by omega) (by omega), hw, hw1, decide_true, Bool.and_self]
theorem law_p3 (v0 : List Int) (h1 : ∀ x, x ∈ v0 → 0 ≤ x ∧ x ≤ 255) (h2 : v0.length ≤ 1048576) : laws_FnGlue_p3 v0 = some true := by
  obtain ⟨s, p, s1, q, s2, e, e1, e2, k, hid⟩ := draw_pot v0 h1 h2
  obtain ⟨a, t1, f1, g1, _⟩ := among_ok k (by omega) [19, 20, 60, 70, 95, 96] (by decide) (by decide)
  obtain ⟨b, t2, f2, g2, hb⟩ := among_ok g1 (by omega) [0, 1, 8, 40, 300, 1000, 1001, (-1)] (by decide) (by decide)
  have hdraw : spec_DrawHeatPot v0 = some (q, a, b) := by
    rw [spec_DrawHeatPot_eq, e]
    simp only [Option.bind_some, e1, src_eta, pot_eta, e2, f1, f2]
  exact p3_core v0 q.1 q.2.1 q.2.2.1 q.2.2.2.1 q.2.2.2.2.1 a b hid hdraw (by simp at hb; omega)

theorem strong_mono {dry water heat h h' : Int} (hh : h ≤ h') : potStrong dry water heat h' ≤ potStrong dry water heat h := by
  unfold potStrong
  split <;> split <;> omega
theorem strong_le {dry water heat hours : Int} (h1 : 1 ≤ dry) (h2 : 1 ≤ water) (h3 : 0 ≤ hours) : potStrong dry water heat hours ≤ 1000 := by
  have : rdivP (1000 * dry) (dry + water) ≤ 1000 := by
    unfold rdivP
    rw [if_neg (by omega)]
    have : (2 * (1000 * dry) + (dry + water)) / (2 * (dry + water)) < 1001 := Int.ediv_lt_of_lt_mul (by omega) (by omega)
    omega
  have hm : 0 ≤ (if heat - 70 > 0 then heat - 70 else 0) := by split <;> omega
  unfold potStrong
  split <;> omega
theorem hours_loop (least : Int) (id : List UInt8) (dry water heat h0 : Int) (h1 : 1 ≤ dry ∧ dry ≤ 10000) (h2 : 1 ≤ water ∧ water ≤ 100000) (h3 : 20 ≤ heat ∧ heat ≤ 95) (h4 : 0 ≤ h0 ∧ h0 ≤ 1000) : ∀ (k : Nat) (i u : Int), i + 1 = k → i ≤ 1000 → (i = 1000 ∨ potStrong dry water heat (h0 + (i + 1)) < least) →
    ∃ n e : Int, impl_HoursLeft_p0 least h0 i id dry water heat u = some (n, e) ∧ ((e = 0 ∧ 0 ≤ n ∧ n ≤ 1000 ∧ least ≤ potStrong dry water heat (h0 + n) ∧ (n = 1000 ∨ potStrong dry water heat (h0 + (n + 1)) < least)) ∨ (e = 3 ∧ n = 0))
  | 0, i, u, hk, hi, hp => by
    rw [impl_HoursLeft_p0_eq]
    have : ¬ i ≥ 0 := by omega
    simp only [this, decide_false, Bool.false_eq_true, if_false]
    exact ⟨0, 3, rfl, .inr ⟨rfl, rfl⟩⟩
  | k + 1, i, u, hk, hi, hp => by
    rw [impl_HoursLeft_p0_eq]
    have : i ≥ 0 := by omega
    simp only [this, decide_true, if_true, w64 (n := h0 + i) (by omega) (by omega), impl_Pot_strength_ok id dry water heat (h0 + i) h1 h2 h3 (by omega), Option.bind_some]
    by_cases hs : potStrong dry water heat (h0 + i) ≥ least
    · simp only [hs, decide_true, if_true]
      exact ⟨i, 0, rfl, .inl ⟨rfl, this, hi, hs, hp⟩⟩
    · simp only [hs, decide_false, Bool.false_eq_true, if_false, w64 (n := i - 1) (by omega) (by omega)]
      exact hours_loop least id dry water heat h0 h1 h2 h3 h4 k (i - 1) _ (by omega) (by omega) (.inr (by rw [show h0 + (i - 1 + 1) = h0 + i by omega]; omega))

theorem p2_core (v0 v1 : List Int) (id : List UInt8) (dry water heat hours least : Int) (hid' : id.length = 4) (hl : laws_FnGlue_p3 v0 = some true) (hdraw : spec_DrawHoursLeft v1 = some ((id, dry, water, heat, hours, ()), least)) : laws_FnGlue_p2 v0 v1 = some true := by
  rw [laws_FnGlue_p2_eq, hdraw, Option.bind_some]
  simp only [pot_eta]
  rw [impl_HoursLeft_eq, impl_Pot_valid_ok _ _ _ _ _ (by omega)]
  cases h : potOk id dry water heat hours
  · exact hl
  have hk := potOk_iff.1 h
  simp only [Option.bind_some, Bool.not_true, Bool.false_eq_true, if_false, impl_isPart_eq, impl_within_ok]
  cases hp : inR least 0 1000
  · exact hl
  simp only [Option.bind_some, Bool.not_true, Bool.false_eq_true, if_false]
  obtain ⟨n, c, en, ⟨rfl, n0, n1, n2, n3⟩ | ⟨rfl, rfl⟩⟩ := hours_loop least id dry water heat hours (by omega) (by omega) (by omega) (by omega) 1001 1000 hours (by omega) (by omega) (.inl rfl)
  · have st : ∀ m : Int, 0 ≤ m → m ≤ 100000 → ∃ (v c : Int), spec_StrengthOf (id, dry, water, heat, m, ()) = some (v, c) ∧ (c = 0 → v = potStrong dry water heat m) := fun m hm hm' => by
      rw [spec_StrengthOf_eq, spec_l14One_ok _ _ _ _ _ (by omega)]
      cases hv : potOk id dry water heat m
      · exact ⟨0, 1, rfl, fun h => by cases h⟩
      · simp only [Option.bind_some, Bool.not_true, Bool.false_eq_true, if_false, spec_l14Strong_ok id dry water heat m (by omega) (by omega) (by omega) ⟨hm, hm'⟩]
        exact ⟨_, 0, rfl, fun _ => rfl⟩
    have own : impl_StrengthOf (id, dry, water, heat, hours, ()) = some (potStrong dry water heat hours, 0) := by
      rw [impl_StrengthOf_eq, impl_Pot_valid_ok _ _ _ _ _ (by omega), h]
      simp only [Option.bind_some, Bool.not_true, Bool.false_eq_true, if_false, impl_Pot_strength_ok id dry water heat hours (by omega) (by omega) (by omega) (by omega)]
    obtain ⟨a, ca, ea, ha⟩ := st (hours + n) (by omega) (by omega)
    obtain ⟨b, cb, eb, hb⟩ := st (hours + n + 1) (by omega) (by omega)
    have l1 := strong_mono (dry := dry) (water := water) (heat := heat) (show hours ≤ hours + n by omega)
    have l2 := strong_le (dry := dry) (water := water) (heat := heat) (hours := hours) (by omega) (by omega) (by omega)
    have n0' : ¬ n < 0 := by omega
    have n1' : ¬ n > 1000 := by omega
    have o1 : ¬ potStrong dry water heat hours < least := by omega
    have o2 : ¬ potStrong dry water heat hours > 1000 := by omega
    simp only [en, Option.bind_some, beq_self_eq_true, if_true, w64 (n := hours + n) (by omega) (by omega), w64 (n := hours + n + 1) (by omega) (by omega), ea, eb, own, n0', n1', decide_false, Bool.false_eq_true, if_false, bne_self_eq_false, o1, o2]
    rw [hl]
    have a1 : ca = 0 → ¬ a < least := fun h => by rw [ha h]; omega
    have b1 : cb = 0 → n < 1000 → ¬ b ≥ least := fun h hn => by
      rw [hb h]
      have := n3.resolve_left (by omega)
      rw [show hours + n + 1 = hours + (n + 1) by omega]
      omega
    by_cases ca0 : ca = 0
    · have a1' := a1 ca0
      by_cases hn : n < 1000
      · by_cases cb0 : cb = 0
        · have b1' := b1 cb0 hn
          simp [ca0, a1', hn, cb0, b1']
        · simp [ca0, a1', hn, cb0]
      · simp [ca0, a1', hn]
    · by_cases hn : n < 1000
      · by_cases cb0 : cb = 0
        · have b1' := b1 cb0 hn
          simp [ca0, hn, cb0, b1']
        · simp [ca0, hn, cb0]
      · simp [ca0, hn]
  · simp only [en, Option.bind_some]
    exact hl

theorem law_p2 (v0 v1 : List Int) (h1 : ∀ x, x ∈ v0 → 0 ≤ x ∧ x ≤ 255) (h2 : v0.length ≤ 1048576) (m1 : ∀ x, x ∈ v1 → 0 ≤ x ∧ x ≤ 255) (m2 : v1.length ≤ 1048576) : laws_FnGlue_p2 v0 v1 = some true := by
  obtain ⟨s, p, s1, q, s2, e, e1, e2, k, hid⟩ := draw_pot v1 m1 m2
  obtain ⟨least, t1, f1, g1, _⟩ := among_ok k (by omega) [0, 50, 100, 200, 300, 1000, 1001, (-1)] (by decide) (by decide)
  have hdraw : spec_DrawHoursLeft v1 = some (q, least) := by
    rw [spec_DrawHoursLeft_eq, e]
    simp only [Option.bind_some, e1, src_eta, pot_eta, e2, f1]
  exact p2_core v0 v1 q.1 q.2.1 q.2.2.1 q.2.2.2.1 q.2.2.2.2.1 least hid (law_p3 v0 h1 h2) hdraw

theorem open_is (id : List UInt8) (dry water heat hours room : Int) (hid : id.length = 4) (h : potOk id dry water heat hours = true) (hr : inR room 0 40 = true) : impl_OpenSeconds (id, dry, water, heat, hours, ()) room = some (potOpen dry water heat room, 0) := by
  rw [impl_OpenSeconds_ok _ _ _ _ _ _ (by omega)]
  simp [h, hr]
theorem p0_core (v0 v1 : List Int) (id : List UInt8) (dry water heat hours seconds room : Int) (hid' : id.length = 4) (hl : laws_FnGlue_p2 v0 v1 = some true) (hdraw : spec_DrawWaterFor v0 = some ((id, dry, water, heat, hours, ()), seconds, room)) : laws_FnGlue_p0 v0 v1 = some true := by
  rw [laws_FnGlue_p0_eq, hdraw, Option.bind_some]
  simp only [pot_eta]
  rw [impl_WaterFor_eq, impl_Pot_valid_ok _ _ _ _ _ (by omega)]
  cases h : potOk id dry water heat hours
  · exact hl
  have hk := potOk_iff.1 h
  simp only [Option.bind_some, Bool.not_true, Bool.false_eq_true, if_false, impl_isSeconds_eq, impl_isRoom_eq, impl_within_ok]
  cases hs : inR seconds 0 1000
  · exact hl
  simp only [Option.bind_some, Bool.not_true, Bool.false_eq_true, if_false]
  cases hr : inR room 0 40
  · exact hl
  have hro := inR_iff.1 hr
  simp only [Option.bind_some, Bool.not_true, Bool.false_eq_true, if_false, impl_WaterFor_p0_eq]
  rcases impl_WaterFor_p1_ok id dry heat hours room seconds water (by omega) (by omega) (by omega) (by omega) (10001 - water).toNat water (by omega) (by omega) with ⟨t, b1, b2, b3, b4, b5⟩ | ⟨b1, b2⟩
  · have o1 : potOk id dry t heat hours = true := potOk_iff.2 ⟨hk.1, by omega, by omega, by omega, by omega⟩
    have hneg : ¬ t - water < 0 := by omega
    have hge : ¬ potOpen dry t heat room < seconds := by omega
    rw [b5]
    simp only [Option.bind_some, beq_self_eq_true, if_true, show water + (t - water) = t by omega, w64 (n := t) (by omega) (by omega), open_is id dry t heat hours room hid' o1 hr, hneg, decide_false, Bool.false_eq_true, if_false, bne_self_eq_false, hge, laws_FnGlue_p1_eq]
    by_cases hp : t - water > 0
    · have o2 : potOk id dry (t - 1) heat hours = true := potOk_iff.2 ⟨hk.1, by omega, by omega, by omega, by omega⟩
      have hlt : ¬ potOpen dry (t - 1) heat room ≥ seconds := by
        have := b4 (t - 1) (by omega) (by omega); omega
      simp only [hp, decide_true, if_true, w64 (n := t - 1) (by omega) (by omega), open_is id dry (t - 1) heat hours room hid' o2 hr, Option.bind_some, bne_self_eq_false, Bool.false_eq_true, if_false, hlt, decide_false, hl]
    · simp only [hp, decide_false, Bool.false_eq_true, if_false, hl]
  · rw [b2]
    exact hl
theorem law_core (v0 v1 : List Int) (h1 : ∀ x, x ∈ v0 → 0 ≤ x ∧ x ≤ 255) (m1 : ∀ x, x ∈ v1 → 0 ≤ x ∧ x ≤ 255) : laws_FnGlue v0 v1 = some true := by
  rw [laws_FnGlue_eq, laws_b10Long_eq, laws_b10Long_eq]
  simp only [Option.bind_some, decide_eq_true_eq]
  by_cases c1 : (v0.length : Int) > 1048576
  · simp [c1]
  by_cases c2 : (v1.length : Int) > 1048576
  · simp [c2]
  simp only [c1, c2, if_false]
  have hl := law_p2 v0 v1 h1 (by omega) m1 (by omega)
  obtain ⟨s, p, s1, q, s2, e, e1, e2, k, hid⟩ := draw_pot v0 h1 (by omega)
  have hsec : ∃ (x : Int) (s' : T_l00Src.ty), spec_l14DrawSeconds s2 = some (x, s') ∧ SrcOk s' 30 := by
    obtain ⟨b, t1, f1, g1⟩ := one_ok k (by omega) 9 (by omega)
    rw [spec_l14DrawSeconds_eq, f1]
    cases b
    · obtain ⟨x, t2, f2, g2, _⟩ := pick_ok g1 (by omega) 60 (by omega)
      simp only [Option.bind_some, Bool.false_eq_true, if_false, src_eta, f2]
      exact ⟨_, _, rfl, g2.up (by omega)⟩
    · obtain ⟨x, t2, f2, g2, _⟩ := among_ok g1 (by omega) [(-1), 0, 1000, 1001] (by decide) (by decide)
      simp only [Option.bind_some, if_true, src_eta, f2]
      exact ⟨_, _, rfl, g2.up (by omega)⟩
  obtain ⟨seconds, s3, e3, k3⟩ := hsec
  obtain ⟨room, s4, e4, k4, _⟩ := among_ok k3 (by omega) [0, 10, 15, 20, 25, 40, 41, (-1)] (by decide) (by decide)
  have hdraw : spec_DrawWaterFor v0 = some (q, seconds, room) := by
    rw [spec_DrawWaterFor_eq, e]
    simp only [Option.bind_some, e1, src_eta, pot_eta, e2, e3, spec_l14DrawRoom_eq, e4]
  exact p0_core v0 v1 q.1 q.2.1 q.2.2.1 q.2.2.2.1 q.2.2.2.2.1 seconds room hid hl hdraw
theorem laws_FnGlue_true (code more : List Int) (h : CT.wf (.sl (.one (.int .u8))) code) (h' : CT.wf (.sl (.one (.int .u8))) more) : laws_FnGlue code more = some true :=
  law_core code more (bytes_ok h) (bytes_ok h')
end Go.Ab.P
