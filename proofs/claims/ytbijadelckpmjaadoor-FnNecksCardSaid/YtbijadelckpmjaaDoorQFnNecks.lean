/- Angles, shims and bridges are the least that serve, and a neck's text is read back. Conditions: bytes are bytes. -/
import Derived.Test.YtbijadelckpmjaaDoorBFnNecks
set_option linter.unusedVariables false
set_option linter.unusedSimpArgs false
namespace Go.Ab.P
open Go.Ab

def projN (b c d : Int) : Int := c + rdivP (b * d) 1000
theorem proj_bd {b c d : Int} (hb : 100 ≤ b ∧ b ≤ 10000) (hc : 0 ≤ c ∧ c ≤ 500) (hd : -1000000 ≤ d ∧ d ≤ 1000000) :
    (-10000000000 ≤ b * d ∧ b * d ≤ 10000000000) ∧ -10000000001 ≤ rdivP (b * d) 1000 ∧ rdivP (b * d) 1000 ≤ 10000000001 := by
  have h := mul_bd (b := b) (d := d) (B := 10000) (D := 1000000) (by omega) hd
  have h' := rdivP_bd (a := b * d) (b := 1000) (m := 10000000000) (by omega) (by omega)
  exact ⟨by omega, by omega⟩
theorem impl_proj_ok (a b c d : Int) (hb : 100 ≤ b ∧ b ≤ 10000) (hc : 0 ≤ c ∧ c ≤ 500) (hd : -1000000 ≤ d ∧ d ≤ 1000000) : impl_Neck_projection (a, b, c, d, ()) = some (projN b c d) := by
  obtain ⟨h1, h2⟩ := proj_bd hb hc hd
  rw [impl_Neck_projection_eq]
  simp only [w64 (n := b * d) (by omega) (by omega), impl_divRound_ok (b * d) 1000 (by omega) (by omega), Option.bind_some, w64 (n := c + rdivP (b * d) 1000) (by omega) (by omega)]
  rfl
theorem isHeight_ok (n : Int) : impl_isHeight n = some (inR n 0 2000) := by
  rw [impl_isHeight_eq, impl_within_ok, Option.bind_some]

theorem angle_loop (h a b c : Int) (hb : 100 ≤ b ∧ b ≤ 10000) (hc : 0 ≤ c ∧ c ≤ 500) : ∀ (k : Nat) (i : Int), i + k = 301 → 0 ≤ i → (i = 0 ∨ projN b c (i - 1) < h) →
    ∃ n e : Int, impl_AngleFor_p0 h a b c i = some (n, e) ∧ ((e = 0 ∧ 0 ≤ n ∧ n ≤ 300 ∧ h ≤ projN b c n ∧ (n = 0 ∨ projN b c (n - 1) < h)) ∨ (e = 3 ∧ n = 0))
  | 0, i, hk, h0, hi => by
    rw [impl_AngleFor_p0_eq]
    have : ¬ i ≤ 300 := by omega
    simp only [this, decide_false, Bool.false_eq_true, if_false]
    exact ⟨0, 3, rfl, .inr ⟨rfl, rfl⟩⟩
  | k + 1, i, hk, h0, hi => by
    rw [impl_AngleFor_p0_eq]
    have : i ≤ 300 := by omega
    simp only [this, decide_true, if_true, impl_proj_ok a b c i hb hc (by omega), Option.bind_some]
    by_cases hp : projN b c i ≥ h
    · simp only [hp, decide_true, if_true]
      exact ⟨i, 0, rfl, .inl ⟨rfl, h0, this, hp, hi⟩⟩
    · simp only [hp, decide_false, Bool.false_eq_true, if_false, w64 (n := i + 1) (by omega) (by omega)]
      exact angle_loop h a b c hb hc k (i + 1) (by omega) (by omega) (.inr (by rw [show i + 1 - 1 = i by omega]; omega))

def shimN (b c d j s : Int) : Int := projN b c (d + rdivP (1000 * s) j)
theorem shim_bd {d j s : Int} (hd : 0 ≤ d ∧ d ≤ 300) (hj : 1 ≤ j ∧ j ≤ 1000) (hs : -1 ≤ s ∧ s ≤ 201) : -201001 ≤ rdivP (1000 * s) j ∧ rdivP (1000 * s) j ≤ 201001 := by
  have h := rdivP_bd (a := 1000 * s) (b := j) (m := 201000) (by omega) (by omega)
  omega
theorem shim_loop (h j a b c d : Int) (hb : 100 ≤ b ∧ b ≤ 10000) (hc : 0 ≤ c ∧ c ≤ 500) (hd : 0 ≤ d ∧ d ≤ 300) (hj : 1 ≤ j ∧ j ≤ 1000) : ∀ (k : Nat) (i u : Int), i + k = 201 → 0 ≤ i → (i = 0 ∨ shimN b c d j (i - 1) < h) →
    ∃ n e : Int, impl_ShimFor_p1 h j d i a b c u = some (n, e) ∧ ((e = 0 ∧ 0 ≤ n ∧ n ≤ 200 ∧ h ≤ shimN b c d j n ∧ (n = 0 ∨ shimN b c d j (n - 1) < h)) ∨ (e = 3 ∧ n = 0))
  | 0, i, u, hk, h0, hi => by
    rw [impl_ShimFor_p1_eq]
    have : ¬ i ≤ 200 := by omega
    simp only [this, decide_false, Bool.false_eq_true, if_false]
    exact ⟨0, 3, rfl, .inr ⟨rfl, rfl⟩⟩
  | k + 1, i, u, hk, h0, hi => by
    rw [impl_ShimFor_p1_eq]
    have : i ≤ 200 := by omega
    have hs := shim_bd (s := i) hd hj (by omega)
    simp only [this, decide_true, if_true, w64 (n := 1000 * i) (by omega) (by omega), impl_divRound_ok (1000 * i) j (by omega) (by omega), Option.bind_some, w64 (n := d + rdivP (1000 * i) j) (by omega) (by omega), impl_proj_ok a b c (d + rdivP (1000 * i) j) hb hc (by omega)]
    by_cases hp : projN b c (d + rdivP (1000 * i) j) ≥ h
    · simp only [hp, decide_true, if_true]
      exact ⟨i, 0, rfl, .inl ⟨rfl, h0, this, hp, hi⟩⟩
    · simp only [hp, decide_false, Bool.false_eq_true, if_false, w64 (n := i + 1) (by omega) (by omega)]
      exact shim_loop h j a b c d hb hc hd hj k (i + 1) _ (by omega) (by omega) (.inr (by rw [show i + 1 - 1 = i by omega]; unfold shimN; omega))

theorem neckText (a b c d : Int) (h : neckOk (a, b, c, d, ()) = true) : ∃ t, impl_NeckText (a, b, c, d, ()) = some t ∧ impl_ReadNeck t = some ((a, b, c, d, ()), true) := by
  have hk := neckOk_iff.1 h
  have hx : ∀ x, x ∈ [a, b, c, d] → -1000000000000 ≤ x ∧ x ≤ 1000000000000 := fun x hx => by
    simp only [List.mem_cons, List.not_mem_nil, or_false] at hx
    rcases hx with rfl | rfl | rfl | rfl <;> omega
  refine ⟨listP [a, b, c, d], ?_, ?_⟩
  · rw [impl_NeckText_eq, impl_ValidNeck_ok, h]
    simp only [Option.bind_some, Bool.not_true, Bool.false_eq_true, if_false]
    rw [impl_ListText_ok _ (by simp) (by simp) hx, Option.bind_some]
  · rw [impl_ReadNeck_eq, impl_ReadList_ok _ (by simp) (by simp) hx, Option.bind_some, impl_ReadNeck_p0_eq]
    have e : impl_ValidNeck (a, b, c, d, ()) = some true := by rw [impl_ValidNeck_ok, h]
    simp [e]

theorem law_p2 (v0 : List Int) (h1 : ∀ x, x ∈ v0 → 0 ≤ x ∧ x ≤ 255) (h2 : v0.length ≤ 1048576) : laws_FnNecks_p2 v0 = some true := by
  obtain ⟨s, e, k⟩ := from_ok v0 h1 h2
  obtain ⟨x, s1, e1, k1⟩ := spec_l10Draw_ok k (by omega)
  obtain ⟨g, s2, e2, k2, _⟩ := among_ok k1 (by omega) [0, 30, 60, 1000, 1001, (-1)] (by decide) (by decide)
  have hdraw : spec_DrawBridgeFor v0 = some (x, g) := by
    rw [spec_DrawBridgeFor_eq, e]
    simp only [Option.bind_some, e1, src_eta, e2]
  obtain ⟨a, b, c, d, ⟨⟩⟩ := x
  rw [laws_FnNecks_p2_eq, hdraw, Option.bind_some, impl_BridgeFor_eq, impl_ScaleOf_eq, impl_ValidNeck_ok]
  cases hn : neckOk (a, b, c, d, ())
  · rfl
  have hk := neckOk_iff.1 hn
  have hp := proj_bd (b := b) (c := c) (d := d) (by omega) (by omega) (by omega)
  have hpos : 0 ≤ rdivP (b * d) 1000 := rdivP_nonneg (Int.mul_nonneg (by omega) (by omega)) (by omega)
  simp only [Option.bind_some, Bool.not_true, Bool.false_eq_true, if_false, impl_within_ok]
  cases hg : inR g 0 1000
  · rfl
  have hg' := inR_iff'.1 hg
  have hproj := impl_proj_ok a b c d (by omega) (by omega) (by omega)
  simp only [Option.bind_some, Bool.not_true, Bool.false_eq_true, if_false, hproj, w64 (n := a + b) (by omega) (by omega), w64 (n := projN b c d + g) (by unfold projN; omega) (by unfold projN; omega)]
  by_cases hbig : projN b c d + g > 2000
  · simp only [hbig, decide_true, if_true, Option.bind_some]; rfl
  simp only [hbig, decide_false, Bool.false_eq_true, if_false, Option.bind_some]
  have hb0 : 0 ≤ projN b c d := by unfold projN; omega
  obtain ⟨t, et, er⟩ := neckText a b c d hn
  have m1 := rdivP_err (a := 1000 * g) (b := a + b) (by omega)
  have m2 := rdivP_err (a := 1000 * a) (b := b) (by omega)
  have d1 := rdivP_bd (a := 1000 * g) (b := a + b) (m := 1000000) (by omega) (by omega)
  have d2 := rdivP_bd (a := 1000 * a) (b := b) (m := 10000000) (by omega) (by omega)
  have hh : inR (projN b c d + g) 0 2000 = true := inR_iff'.2 (by omega)
  have hs1 : impl_StringAngle (a, b, c, d, ()) (projN b c d + g) = some (rdivP (1000 * g) (a + b), 0) := by
    rw [impl_StringAngle_eq, impl_ValidNeck_ok, hn]
    simp only [Option.bind_some, Bool.not_true, Bool.false_eq_true, if_false, isHeight_ok, hh, hproj, w64 (n := a + b) (by omega) (by omega), show projN b c d + g - projN b c d = g by omega, w64 (n := g) (by omega) (by omega), w64 (n := 1000 * g) (by omega) (by omega),
      impl_divRound_ok (1000 * g) (a + b) (by omega) (by omega)]
  have hs2 : impl_StopRatio (a, b, c, d, ()) = some (rdivP (1000 * a) b, 0) := by
    rw [impl_StopRatio_eq, impl_ValidNeck_ok, hn]
    simp only [Option.bind_some, Bool.not_true, Bool.false_eq_true, if_false, w64 (n := 1000 * a) (by omega) (by omega), impl_divRound_ok (1000 * a) b (by omega) (by omega)]
  have p1 : -20000020000 ≤ rdivP (1000 * g) (a + b) * (a + b) ∧ rdivP (1000 * g) (a + b) * (a + b) ≤ 20000020000 := by
    rw [Int.mul_comm]; have := mul_bd (b := a + b) (d := rdivP (1000 * g) (a + b)) (B := 20000) (D := 1000001) (by omega) (by omega); omega
  have p2 : -100000010000 ≤ rdivP (1000 * a) b * b ∧ rdivP (1000 * a) b * b ≤ 100000010000 := by
    rw [Int.mul_comm]; have := mul_bd (b := b) (d := rdivP (1000 * a) b) (B := 10000) (D := 10000001) (by omega) (by omega); omega
  have q1 := absI_bd (n := rdivP (1000 * g) (a + b) * (a + b) - 1000 * g) (b := 100000000000) (by omega)
  have q2 := absI_bd (n := rdivP (1000 * a) b * b - 1000 * a) (b := 1000000000000) (by omega)
  simp only [hs1, hs2, et, er, Option.bind_some, bne_self_eq_false, Bool.false_eq_true, if_false, beq_self_eq_true, if_true, Bool.and_self,
    w64 (n := rdivP (1000 * g) (a + b) * (a + b)) (by omega) (by omega), w64 (n := 1000 * g) (by omega) (by omega), w64 (n := rdivP (1000 * g) (a + b) * (a + b) - 1000 * g) (by omega) (by omega),
    laws_b10Abs_ok (rdivP (1000 * g) (a + b) * (a + b) - 1000 * g) (by omega), w64 (n := 2 * absI (rdivP (1000 * g) (a + b) * (a + b) - 1000 * g)) (by omega) (by omega), m1, decide_true,
    w64 (n := rdivP (1000 * a) b * b) (by omega) (by omega), w64 (n := 1000 * a) (by omega) (by omega), w64 (n := rdivP (1000 * a) b * b - 1000 * a) (by omega) (by omega),
    laws_b10Abs_ok (rdivP (1000 * a) b * b - 1000 * a) (by omega), w64 (n := 2 * absI (rdivP (1000 * a) b * b - 1000 * a)) (by omega) (by omega), m2]

theorem law_p1 (v0 v1 : List Int) (h1 : ∀ x, x ∈ v0 → 0 ≤ x ∧ x ≤ 255) (h2 : v0.length ≤ 1048576) (m1 : ∀ x, x ∈ v1 → 0 ≤ x ∧ x ≤ 255) (m2 : v1.length ≤ 1048576) : laws_FnNecks_p1 v0 v1 = some true := by
  have hl := law_p2 v0 h1 h2
  obtain ⟨s, e, k⟩ := from_ok v1 m1 m2
  obtain ⟨x, s1, e1, k1⟩ := spec_l10Draw_ok k (by omega)
  obtain ⟨h, s2, e2, k2⟩ := spec_l10DrawHeight_ok k1 (by omega)
  obtain ⟨j, s3, e3, k3, _⟩ := among_ok k2 (by omega) [0, 1, 60, 250, 1000, 1001] (by decide) (by decide)
  have hdraw : spec_DrawShimFor v1 = some (x, h, j) := by
    rw [spec_DrawShimFor_eq, e]
    simp only [Option.bind_some, e1, src_eta, e2, e3]
  obtain ⟨a, b, c, d, ⟨⟩⟩ := x
  rw [laws_FnNecks_p1_eq, hdraw, Option.bind_some, impl_ShimFor_eq, impl_ValidNeck_ok]
  cases hn : neckOk (a, b, c, d, ())
  · exact hl
  have hk := neckOk_iff.1 hn
  simp only [Option.bind_some, Bool.not_true, Bool.false_eq_true, if_false, isHeight_ok, impl_within_ok]
  cases hh : inR h 0 2000
  · exact hl
  simp only [Option.bind_some, Bool.not_true, Bool.false_eq_true, if_false]
  cases hj : inR j 1 1000
  · exact hl
  have hj' := inR_iff'.1 hj
  simp only [Option.bind_some, Bool.not_true, Bool.false_eq_true, if_false, impl_ShimFor_p0_eq]
  obtain ⟨n, er, en, ⟨rfl, n0, n1, n2, n3⟩ | ⟨rfl, rfl⟩⟩ := shim_loop h j a b c d (by omega) (by omega) (by omega) (by omega) 201 0 d (by omega) (by omega) (.inl rfl)
  · have b1 := shim_bd (s := n) (d := d) (j := j) (by omega) hj' (by omega)
    have b2 := shim_bd (s := n - 1) (d := d) (j := j) (by omega) hj' (by omega)
    obtain ⟨p1, p2⟩ := proj_bd (b := b) (c := c) (d := d + rdivP (1000 * n) j) (by omega) (by omega) (by omega)
    obtain ⟨q1, q2⟩ := proj_bd (b := b) (c := c) (d := d + rdivP (1000 * (n - 1)) j) (by omega) (by omega) (by omega)
    have n0' : ¬ n < 0 := by omega
    unfold shimN projN at n2 n3
    have n2' : ¬ (c : Int) + rdivP ((b : Int) * ((d : Int) + rdivP (1000 * n) j)) 1000 < (h : Int) := Int.not_lt.2 n2
    simp only [en, Option.bind_some, beq_self_eq_true, if_true, w64 (n := 1000 * n) (by omega) (by omega), laws_b10Div_ok (1000 * n) j (by omega) (by omega), w64 (n := d + rdivP (1000 * n) j) (by omega) (by omega), w64 (n := b * (d + rdivP (1000 * n) j)) (by omega) (by omega),
      laws_b10Div_ok (b * (d + rdivP (1000 * n) j)) 1000 (by omega) (by omega), w64 (n := n - 1) (by omega) (by omega), w64 (n := 1000 * (n - 1)) (by omega) (by omega), laws_b10Div_ok (1000 * (n - 1)) j (by omega) (by omega), w64 (n := d + rdivP (1000 * (n - 1)) j) (by omega) (by omega),
      w64 (n := b * (d + rdivP (1000 * (n - 1)) j)) (by omega) (by omega), laws_b10Div_ok (b * (d + rdivP (1000 * (n - 1)) j)) 1000 (by omega) (by omega), n0', decide_false, Bool.false_eq_true, if_false,
      w64 (n := c + rdivP (b * (d + rdivP (1000 * n) j)) 1000) (by omega) (by omega), w64 (n := c + rdivP (b * (d + rdivP (1000 * (n - 1)) j)) 1000) (by omega) (by omega), n2']
    by_cases hp : n > 0
    · have n3' : ¬ (c : Int) + rdivP ((b : Int) * ((d : Int) + rdivP (1000 * (n - 1)) j)) 1000 ≥ (h : Int) := by
        have := n3.resolve_left (by omega)
        exact Int.not_le.2 this
      simp only [hp, decide_true, if_true, n3', decide_false, Bool.false_eq_true, if_false, hl]
    · simp only [hp, decide_false, Bool.false_eq_true, if_false, hl]
  · simp only [en, Option.bind_some]
    exact hl

theorem law_core (v0 v1 : List Int) (h1 : ∀ x, x ∈ v0 → 0 ≤ x ∧ x ≤ 255) (m1 : ∀ x, x ∈ v1 → 0 ≤ x ∧ x ≤ 255) : laws_FnNecks v0 v1 = some true := by
  rw [laws_FnNecks_eq, laws_b10Long_eq, laws_b10Long_eq]
  simp only [Option.bind_some, decide_eq_true_eq]
  by_cases c1 : (v0.length : Int) > 1048576
  · simp [c1]
  by_cases c2 : (v1.length : Int) > 1048576
  · simp [c2]
  simp only [c1, c2, if_false]
  have hl := law_p1 v0 v1 h1 (by omega) m1 (by omega)
  obtain ⟨s, e, k⟩ := from_ok v0 h1 (by omega)
  obtain ⟨x, s1, e1, k1⟩ := spec_l10Draw_ok k (by omega)
  obtain ⟨h, s2, e2, k2⟩ := spec_l10DrawHeight_ok k1 (by omega)
  have hdraw : spec_DrawAngleFor v0 = some (x, h) := by
    rw [spec_DrawAngleFor_eq, e]
    simp only [Option.bind_some, e1, src_eta, e2]
  obtain ⟨a, b, c, d, ⟨⟩⟩ := x
  rw [laws_FnNecks_p0_eq, hdraw, Option.bind_some, impl_AngleFor_eq, impl_ValidNeck_ok]
  cases hn : neckOk (a, b, c, d, ())
  · exact hl
  have hk := neckOk_iff.1 hn
  simp only [Option.bind_some, Bool.not_true, Bool.false_eq_true, if_false, isHeight_ok]
  cases hh : inR h 0 2000
  · exact hl
  simp only [Option.bind_some, Bool.not_true, Bool.false_eq_true, if_false]
  obtain ⟨n, er, en, ⟨rfl, n0, n1, n2, n3⟩ | ⟨rfl, rfl⟩⟩ := angle_loop h a b c (by omega) (by omega) 301 0 (by omega) (by omega) (.inl rfl)
  · have v1 : neckOk (a, b, c, n, ()) = true := neckOk_iff.2 ⟨by omega, by omega, by omega, by omega⟩
    have n2' : ¬ projN b c n < h := by omega
    simp only [en, Option.bind_some, beq_self_eq_true, if_true, impl_ProjectionOf_eq, impl_ValidNeck_ok, v1, Bool.not_true, Bool.false_eq_true, if_false, impl_proj_ok a b c n (by omega) (by omega) (by omega), w64 (n := n - 1) (by omega) (by omega), bne_self_eq_false, n2', decide_false]
    by_cases hp : n = 0
    · have v2 : neckOk (a, b, c, n - 1, ()) = false := by
        cases hv : neckOk (a, b, c, n - 1, ())
        · rfl
        · have := neckOk_iff.1 hv; omega
      simp only [v2, Bool.not_false, if_true, Option.bind_some]
      exact hl
    · have v2 : neckOk (a, b, c, n - 1, ()) = true := neckOk_iff.2 ⟨by omega, by omega, by omega, by omega⟩
      have n3' : ¬ projN b c (n - 1) ≥ h := by omega
      simp only [v2, Bool.not_true, Bool.false_eq_true, if_false, Option.bind_some, impl_proj_ok a b c (n - 1) (by omega) (by omega) (by omega), beq_self_eq_true, if_true, n3', decide_false, hl]
  · simp only [en, Option.bind_some]
    exact hl
theorem laws_FnNecks_true (code more : List Int) (h : CT.wf (.sl (.one (.int .u8))) code) (h' : CT.wf (.sl (.one (.int .u8))) more) : laws_FnNecks code more = some true :=
  law_core code more (bytes_ok h) (bytes_ok h')
end Go.Ab.P
