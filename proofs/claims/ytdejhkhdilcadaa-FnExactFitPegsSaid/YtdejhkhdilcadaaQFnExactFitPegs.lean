/- FitPegs of the program and of the reference are equal. Conditions: numbers and lengths are those of their kinds. -/
import Derived.Test.YtdejhkhdilcadaaBFnExactFitPegs
set_option linter.unusedVariables false
set_option linter.unusedSimpArgs false
namespace Go.Ab.P
open Go.Ab

theorem markPegS_loop (n : Nat) (hn : n ≤ 1048576) : ∀ (k i : Nat) (m : Int) (r : List T_Peg.ty), i + k = n → r.length = n → 0 ≤ m → m ≤ 10 + 4 * i → ∃ (m' : Int) (r' : List T_Peg.ty), laws_markPegS_p0 n n m i r = some (m', r') ∧ 0 ≤ m' ∧ m' ≤ 10 + 4 * n
  | 0, i, m, r, hk, hr, h0, h1 => by
    refine ⟨m, r, ?_, h0, by omega⟩
    rw [laws_markPegS_p0_eq]
    have : ¬ (i : Int) < (n : Int) := by omega
    simp only [this, decide_false, Bool.false_eq_true, if_false, hr, decide_true, if_true]
  | k + 1, i, m, r, hk, hr, h0, h1 => by
    have hi : i < r.length := by omega
    have hlt : (i : Int) < (n : Int) := by omega
    have hw : IntKind.i64.wrap ((i : Int) + 1) = ((i + 1 : Nat) : Int) := by rw [w64 (by omega) (by omega)]; omega
    rw [laws_markPegS_p0_eq, w64 (n := m + 1) (by omega) (by omega), w64 (n := m + 1 + 1) (by omega) (by omega), w64 (n := m + 1 + 1 + 1) (by omega) (by omega), w64 (n := m + 1 + 1 + 1 + 1) (by omega) (by omega)]
    obtain ⟨t1, e1⟩ := markText_ok m (by omega)
    simp only [hlt, decide_true, if_true, Int.natCast_nonneg, Int.toNat_natCast, List.getElem?_eq_getElem hi, Option.bind_some, Bool.and_self, hw, e1, List.getElem?_set_self, List.length_set, hi]
    exact markPegS_loop n hn k (i + 1) (m + 1 + 1 + 1 + 1) _ (by omega) (by simp [hr]) (by omega) (by omega)
theorem markPegS_ok (xs : List T_Peg.ty) (hs : xs.length ≤ 1048576) : ∃ (m' : Int) (r' : List T_Peg.ty), laws_markPegS xs 1 = some (m', r') ∧ 0 ≤ m' ∧ m' ≤ 10 + 4 * xs.length := by
  rw [laws_markPegS_eq]
  exact markPegS_loop xs.length hs xs.length 0 1 xs (by omega) rfl (by omega) (by omega)
theorem has_loop (g : List Int) (v : Int) (hg : g.length ≤ 100) : ∀ (k j : Nat), j + k = g.length → spec_l00Has_p0 g v j = some ((g.drop j).any fun x => x == v)
  | 0, j, hk => by
    rw [spec_l00Has_p0_eq, List.drop_eq_nil_of_le (by omega)]
    have : ¬ (j : Int) < (g.length : Int) := by omega
    simp [this]
  | k + 1, j, hk => by
    have hj : j < g.length := by omega
    have hlt : (j : Int) < (g.length : Int) := by omega
    have hw : IntKind.i64.wrap ((j : Int) + 1) = ((j + 1 : Nat) : Int) := by rw [w64 (by omega) (by omega)]; omega
    have ih := has_loop g v hg k (j + 1) (by omega)
    rw [spec_l00Has_p0_eq, List.drop_eq_getElem_cons hj]
    simp only [hlt, decide_true, if_true, Int.natCast_nonneg, Int.toNat_natCast, List.getElem?_eq_getElem hj, Option.bind_some, hw, ih, List.any_cons]
    cases g[j] == v <;> simp
theorem taken_loop (n l3 : Nat) (xs : List T_Peg.ty) (holes : List Int) (way v c v26 v27 : Int) (g : List Int) (c0 : List UInt8) (c1 c2 c3 : Int) (hg : g.length ≤ 100) :
    ∀ (k j : Nat) (b : Bool), j + k = g.length → impl_fit_p1 n l3 xs holes way v b xs v26 v27 g.length j g c0 c1 c2 c3 = impl_fit_p1 n l3 xs holes way v (b || (g.drop j).any fun x => x == v) xs v26 v27 g.length g.length g c0 c1 c2 c3
  | 0, j, b, hk => by
    have : j = g.length := by omega
    subst this
    rw [List.drop_eq_nil_of_le (Nat.le_refl _)]; simp
  | k + 1, j, b, hk => by
    have hj : j < g.length := by omega
    have hlt : (j : Int) < (g.length : Int) := by omega
    have hw : IntKind.i64.wrap ((j : Int) + 1) = ((j + 1 : Nat) : Int) := by rw [w64 (by omega) (by omega)]; omega
    have ih := taken_loop n l3 xs holes way v c v26 v27 g c0 c1 c2 c3 hg k (j + 1)
    rw [impl_fit_p1_eq, List.drop_eq_getElem_cons hj]
    simp only [hlt, decide_true, if_true, Int.natCast_nonneg, Int.toNat_natCast, List.getElem?_eq_getElem hj, Option.bind_some, Bool.and_self, hw, List.any_cons]
    cases b
    · simp only [Bool.false_eq_true, if_false, Bool.false_or]
      rw [ih _ (by omega)]
    · simp only [if_true, Bool.true_or]
      rw [ih _ (by omega), Bool.true_or]
/-- How far the peg goes in. -/
def inP (t l p h : Int) : Int := (if h - t > 0 then h - t else 0) * p
theorem inP_bd {t l p h : Int} (h1 : 20 ≤ t ∧ t ≤ 200) (h3 : 10 ≤ p ∧ p ≤ 100) (h4 : 20 ≤ h ∧ h ≤ 200) : 0 ≤ inP t l p h ∧ inP t l p h ≤ 20000 := by
  rw [inP]
  split
  · constructor
    · exact Int.mul_nonneg (by omega) (by omega)
    · have := Int.mul_le_mul (show h - t ≤ 200 by omega) (show p ≤ 100 by omega) (by omega) (by omega)
      omega
  · simp
theorem impl_wayIn_ok (nm : List UInt8) (t l p h : Int) (h1 : 20 ≤ t ∧ t ≤ 200) (h3 : 10 ≤ p ∧ p ≤ 100) (h4 : 20 ≤ h ∧ h ≤ 200) : impl_Peg_wayIn (nm, t, l, p, ()) h = some (inP t l p h, decide (inP t l p h ≤ l)) := by
  have hb := inP_bd (l := l) h1 h3 h4
  rw [impl_Peg_wayIn_eq]
  simp only
  rw [w64 (n := h - t) (by omega) (by omega)]
  rw [inP] at hb ⊢
  rw [w64 (by omega) (by omega)]
theorem spec_In_ok (nm : List UInt8) (t l p h : Int) (h1 : 20 ≤ t ∧ t ≤ 200) (h3 : 10 ≤ p ∧ p ≤ 100) (h4 : 20 ≤ h ∧ h ≤ 200) : spec_l12In (nm, t, l, p, ()) h = some (if inP t l p h > l then -1 else inP t l p h) := by
  have hb := inP_bd (l := l) h1 h3 h4
  rw [spec_l12In_eq]
  simp only [spec_l00Max_ok, Option.bind_some]
  rw [w64 (n := h - t) (by omega) (by omega)]
  rw [inP] at hb ⊢
  rw [w64 (by omega) (by omega)]
  by_cases hc : (if h - t > 0 then h - t else 0) * p > l
  · simp only [hc, decide_true, if_true]
  · simp only [hc, decide_false, Bool.false_eq_true, if_false]
theorem pegOk_iff {x : T_Peg.ty} (h : pegOk x = true) : (20 ≤ x.2.1 ∧ x.2.1 ≤ 200) ∧ (100 ≤ x.2.2.1 ∧ x.2.2.1 ≤ 1000) ∧ (10 ≤ x.2.2.2.1 ∧ x.2.2.2.1 ≤ 100) := by
  rw [pegOk] at h
  simp only [Bool.and_eq_true, inR_iff'] at h
  exact ⟨h.2.1, h.2.2.1, h.2.2.2⟩
theorem fit_same (xs : List T_Peg.ty) (holes : List Int) (way : Int) (hx : ∀ x, x ∈ xs → pegOk x = true) (hh : ∀ h, h ∈ holes → 20 ≤ h ∧ h ≤ 200) (hl : xs.length ≤ 8) (hl' : holes.length ≤ 8) (m : Nat) :
    ∀ (n : Nat) (g : List Int), g.length + n = holes.length → ∃ (r : List Int) (b : Bool), r.length ≤ 8 ∧ spec_l12Fit (n + m + 1) xs holes way g = some (r, b) ∧ impl_fit (n + m + 1) xs holes way g = some (r, b, ())
  | 0, g, hg => by
    refine ⟨g, true, by omega, ?_, ?_⟩
    · rw [spec_l12Fit_eq]
      simp [show g.length = holes.length by omega]
    · rw [impl_fit_eq, List.take_length]
      simp [show g.length = holes.length by omega]
  | n + 1, g, hg => by
    have ih := fit_same xs holes way hx hh hl hl' m n
    rw [show n + 1 + m + 1 = (n + m + 1) + 1 by omega, spec_l12Fit_eq, impl_fit_eq]
    have hne : ((g.length : Int) == (holes.length : Int)) = false := by
      rw [beq_eq_false_iff_ne]; omega
    simp only [hne, Bool.false_eq_true, if_false]
    have loop : ∀ (k i : Nat), i + k = xs.length → ∃ (r : List Int) (b : Bool), r.length ≤ 8 ∧ spec_l12Fit_p0 (n + m + 1) xs holes way g g.length i = some (r, b) ∧ impl_fit_p0 (n + m + 1) g.length xs holes way xs xs.length i g = some (r, b, ()) := by
      intro k
      induction k with
      | zero =>
        intro i hi
        refine ⟨[], false, by simp, ?_, ?_⟩
        · rw [spec_l12Fit_p0_eq]
          have : ¬ (i : Int) < (xs.length : Int) := by omega
          simp only [this, decide_false, Bool.false_eq_true, if_false]
        · rw [impl_fit_p0_eq]
          have : ¬ (i : Int) < (xs.length : Int) := by omega
          simp only [this, decide_false, Bool.false_eq_true, if_false]
      | succ k ihk =>
        intro i hk
        have hi : i < xs.length := by omega
        have hlt : (i : Int) < (xs.length : Int) := by omega
        have hw : IntKind.i64.wrap ((i : Int) + 1) = ((i + 1 : Nat) : Int) := by rw [w64 (by omega) (by omega)]; omega
        have hgl : g.length < holes.length := by omega
        obtain ⟨r, b, q1, q2, q3⟩ := ihk (i + 1) (by omega)
        have hp := pegOk_iff (hx xs[i] (List.getElem_mem hi))
        have hq := hh holes[g.length] (List.getElem_mem hgl)
        have w1 := impl_wayIn_ok xs[i].1 xs[i].2.1 xs[i].2.2.1 xs[i].2.2.2.1 holes[g.length] hp.1 hp.2.2 hq
        have w2 : spec_l12In xs[i] holes[g.length] = _ := spec_In_ok xs[i].1 xs[i].2.1 xs[i].2.2.1 xs[i].2.2.2.1 holes[g.length] hp.1 hp.2.2 hq
        have w3 := inP_bd (l := xs[i].2.2.1) hp.1 hp.2.2 hq
        have h1 : spec_l00Has g (i : Int) = some (g.any fun x => x == (i : Int)) := by
          rw [spec_l00Has_eq]
          exact has_loop g i (by omega) g.length 0 (by omega)
        have t1 := taken_loop (n + m + 1) g.length xs holes way i 0 xs.length i g xs[i].1 xs[i].2.1 xs[i].2.2.1 xs[i].2.2.2.1 (by omega) g.length 0 false (by omega)
        rw [spec_l12Fit_p0_eq, impl_fit_p0_eq]
        simp only [Int.ofNat_zero, Int.natCast_zero, List.drop_zero, Bool.false_or] at t1
        have hnl : ¬ (g.length : Int) < (g.length : Int) := Int.lt_irrefl _
        simp only [hlt, decide_true, if_true, Int.natCast_nonneg, Int.toNat_natCast, List.getElem?_eq_getElem hi, List.getElem?_eq_getElem hgl, Option.bind_some, w2, h1, t1]
        rw [impl_fit_p1_eq]
        simp only [hnl, decide_false, decide_true, Bool.false_eq_true, if_false, if_true, Int.natCast_nonneg, Int.toNat_natCast, List.getElem?_eq_getElem hgl, Option.bind_some, w1, hw, q2, q3]
        cases hany : g.any fun x => x == (i : Int)
        · simp only [Bool.false_eq_true, if_false]
          generalize inP xs[i].2.1 xs[i].2.2.1 xs[i].2.2.2.1 holes[g.length] = w at *
          generalize (xs[i].2.2.1 : Int) = L at *
          by_cases hc : w > L
          · have c1 : ¬ w ≤ L := by omega
            simp only [hc, c1, if_true, decide_false, Bool.not_false]
            exact ⟨r, b, q1, by simp, by simp⟩
          · have c1 : w ≤ L := by omega
            have c2 : ¬ w < 0 := by omega
            simp only [hc, c1, c2, if_false, decide_false, decide_true, Bool.not_true, Bool.false_eq_true]
            by_cases hd : w > way
            · simp only [hd, decide_true, if_true]
              exact ⟨r, b, q1, rfl, rfl⟩
            · simp only [hd, decide_false, Bool.false_eq_true, if_false]
              obtain ⟨r2, b2, z1, z2, z3⟩ := ih (g ++ [(i : Int)]) (by simp; omega)
              have hlim : 0 + g.length < lim := by rw [lim_eq]; omega
              have hlim2 : g.length + 1 < lim := by rw [lim_eq]; omega
              have hlim3 : g.length < lim := by rw [lim_eq]; omega
              rw [spec_l12Fit_p1_eq, impl_fit_p2_eq, spec_l00Own_eq, List.take_length, impl_clone_int64__eq]
              simp only [hlim, hlim2, hlim3, if_true, decide_true, Int.natCast_nonneg, Int.toNat_natCast, Bool.and_self, Option.bind_some, List.nil_append, List.take_length, z2, z3, hw, q2, q3]
              cases b2
              · simp only [Bool.false_eq_true, if_false]
                exact ⟨r, b, q1, rfl, rfl⟩
              · simp only [if_true]
                exact ⟨r2, true, z1, rfl, rfl⟩
        · simp only [if_true]
          exact ⟨r, b, q1, rfl, rfl⟩
    exact loop xs.length 0 (by omega)
theorem fitPegs_same (xs : List T_Peg.ty) (holes : List Int) (way : Int) (hs : xs.length ≤ 1048576) (hx : ∀ x, x ∈ xs → x.1.length ≤ 1048576) (hh : holes.length ≤ 1048576) :
    ∃ (r : List Int) (c : Int), r.length ≤ 8 ∧ spec_FitPegs xs holes way = some (r, c) ∧ impl_FitPegs xs holes way = some (r, c) := by
  rw [spec_FitPegs_eq, impl_FitPegs_eq, spec_l12Ok_ok xs hs hx, impl_ValidPegs_ok xs hs hx, spec_l12Way_eq, impl_isWay_eq, impl_few_eq]
  simp only [spec_l00In_ok, impl_within_ok, Option.bind_some]
  cases h1 : pegsOk xs
  · exact ⟨[], 1, by simp, by simp, by simp⟩
  cases h2 : inR way 0 1000
  · exact ⟨[], 2, by simp, by simp, by simp⟩
  simp only [Bool.not_true, Bool.false_eq_true, if_false]
  by_cases h3 : (holes.length : Int) > 8
  · have h3' : ¬ (holes.length : Int) ≤ 8 := by omega
    simp only [h3, h3', decide_true, decide_false, if_true, Bool.not_false]
    exact ⟨[], 2, by simp, rfl, rfl⟩
  have h3' : (holes.length : Int) ≤ 8 := by omega
  simp only [h3, h3', decide_true, decide_false, Bool.false_eq_true, if_false, Bool.not_true]
  rw [spec_FitPegs_p0_eq, impl_FitPegs_p0_eq]
  have a1 := allLoop holes spec_l12Hole (fun h => inR h 20 200) (fun i => spec_FitPegs_p1 xs holes way i) ([], 2) _ (fun i => spec_FitPegs_p1_eq xs holes way i) (by omega) (fun x _ => by rw [spec_l12Hole_eq, spec_l00In_ok]; rfl) holes.length 0 (by omega)
  have a2 := allLoop holes impl_isHole (fun h => inR h 20 200) (fun i => impl_FitPegs_p1 xs holes way holes holes.length i) ([], 2) _ (fun i => impl_FitPegs_p1_eq xs holes way holes holes.length i) (by omega) (fun x _ => by rw [impl_isHole_eq, impl_within_ok]; rfl) holes.length 0 (by omega)
  simp only [Int.ofNat_zero, Int.natCast_zero, List.drop_zero] at a1 a2
  rw [a1, a2]
  cases h4 : holes.all fun h => inR h 20 200
  · exact ⟨[], 2, by simp, by simp, by simp⟩
  simp only [if_true]
  by_cases h5 : (holes.length : Int) = (xs.length : Int)
  · have h5' : ((holes.length : Int) != (xs.length : Int)) = false := by rw [h5]; simp
    simp only [h5', Bool.false_eq_true, if_false]
    obtain ⟨r, b, z1, z2, z3⟩ := fit_same xs holes way (fun x hx => pegsOk_all h1 x hx) (fun h hm => inR_iff'.1 (List.all_eq_true.1 h4 h hm)) (by omega) (by omega) (999 - holes.length) holes.length [] (by simp)
    rw [show holes.length + (999 - holes.length) + 1 = 1000 by omega] at z2 z3
    rw [z2, z3]
    cases b
    · exact ⟨[], 3, by simp, rfl, rfl⟩
    · exact ⟨r, 0, z1, rfl, by simp⟩
  · have h5' : ((holes.length : Int) != (xs.length : Int)) = true := by simpa using h5
    simp only [h5', if_true]
    exact ⟨[], 7, by simp, rfl, rfl⟩
theorem laws_FnExactFitPegs_true (xs : List T_Peg.ty) (holes : List Int) (way : Int) (h : CT.wf (.sl T_Peg) xs) (h1 : CT.wf (.sl (.one (.int .i64))) holes) (h2 : CT.wf (.int .i64) way) :
    laws_FnExactFitPegs xs holes way = some true := by
  obtain ⟨hl, hw⟩ := h
  rw [maxLen_eq] at hl
  obtain ⟨n, e1, e2, e3⟩ := szPegS_ok xs hl (fun x hx => by rw [← maxLen_eq]; exact (hw x hx).1) 1048576 (by omega) (by omega)
  rw [laws_FnExactFitPegs_eq]
  by_cases hh : (holes.length : Int) > 1048576
  · simp only [hh, decide_true, if_true]
  simp only [hh, decide_false, Bool.false_eq_true, if_false, e1, Option.bind_some]
  by_cases hn : n < 0
  · simp [hn]
  obtain ⟨hs, hx⟩ := e3 (by omega)
  have hh' : holes.length ≤ 1048576 := by omega
  obtain ⟨r, c, r0, r1, r2⟩ := fitPegs_same xs holes way hs hx hh'
  obtain ⟨m, r', hm, hm0, hm1⟩ := markPegS_ok xs hs
  have k0 := markInt64S_ok holes m hm0 (by omega)
  have k00 : ¬ (m + (holes.length : Int)) < 0 := by omega
  have k1 := markInt64S_ok r 1 (by omega) (by omega)
  have k2 := heldInt64S_ok 1 r.length (by omega) (by omega)
  have k3 : (runs 1 r.length).take r.length = runs 1 r.length := List.take_of_length_le (by rw [runs_len]; omega)
  have k4 : ¬ (1 + (r.length : Int)) < 0 := by omega
  simp only [hn, decide_false, Bool.false_eq_true, if_false, toPegS_ok xs hs, toInt64S_ok holes hh', Option.bind_some, List.take_length, r1, r2, eqInt64S_ok r (by omega), Bool.not_true, bne_self_eq_false, laws_FnExactFitPegs_p0_eq, eqPegS_ok xs hs, eqInt64S_ok holes hh', decide_true, if_true, hm, k0, k00, laws_FnExactFitPegs_p1_eq, k1, k2, k3, k4, laws_FnExactFitPegs_p2_eq]
end Go.Ab.P
