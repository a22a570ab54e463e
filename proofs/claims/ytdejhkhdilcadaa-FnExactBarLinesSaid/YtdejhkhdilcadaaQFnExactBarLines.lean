/- BarLines of the program and of the reference are equal. Conditions: numbers and lengths are those of their kinds. -/
import Derived.Test.YtdejhkhdilcadaaBFnExactBarLines
set_option linter.unusedVariables false
set_option linter.unusedSimpArgs false
namespace Go.Ab.P
open Go.Ab

def mostOf : Int → List Int → Int
  | m, [] => m
  | m, v :: r => mostOf (if v > m then v else m) r
theorem mostOf_ok : ∀ (l : List Int) (m : Int), 0 ≤ m → m ≤ 1000000000000 → (∀ v, v ∈ l → 0 ≤ v ∧ v ≤ 1000000000000) → (m ≤ mostOf m l ∧ mostOf m l ≤ 1000000000000) ∧ ∀ v, v ∈ l → v ≤ mostOf m l
  | [], m, h0, h1, _ => ⟨⟨Int.le_refl _, h1⟩, fun v h => by cases h⟩
  | x :: r, m, h0, h1, hl => by
    have hx := hl x List.mem_cons_self
    have hm : 0 ≤ (if x > m then x else m) ∧ (if x > m then x else m) ≤ 1000000000000 ∧ m ≤ (if x > m then x else m) ∧ x ≤ (if x > m then x else m) := by split <;> omega
    obtain ⟨h2, h3⟩ := mostOf_ok r (if x > m then x else m) hm.1 hm.2.1 (fun v hv => hl v (List.mem_cons_of_mem _ hv))
    refine ⟨⟨?_, h2.2⟩, fun v hv => ?_⟩
    · rw [mostOf]; omega
    · rw [mostOf]
      rcases List.mem_cons.1 hv with rfl | hv
      · omega
      · exact h3 v hv
/-- One bar. -/
def barN (M w v : Int) : Nat := (v * w / (if M > 1 then M else 1)).toNat
def barOf (M w v : Int) : List UInt8 := List.replicate (barN M w v) 35
theorem bar_bd {M w v : Int} (hM : M ≤ 1000000000000) (hw : 1 ≤ w ∧ w ≤ 100) (hv : 0 ≤ v ∧ v ≤ M) : (0 ≤ v * w ∧ v * w ≤ 100000000000000) ∧ (0 ≤ v * w / (if M > 1 then M else 1) ∧ v * w / (if M > 1 then M else 1) ≤ 100) := by
  have h1 : 0 ≤ v * w := Int.mul_nonneg hv.1 (by omega)
  have h2 : v * w ≤ 1000000000000 * 100 := Int.mul_le_mul (by omega) hw.2 (by omega) (by omega)
  refine ⟨⟨h1, h2⟩, Int.ediv_nonneg h1 (by split <;> omega), ?_⟩
  apply Int.ediv_le_of_le_mul (by split <;> omega)
  by_cases h : M > 1
  · rw [if_pos h, Int.mul_comm v w]
    exact Int.mul_le_mul hw.2 hv.2 hv.1 (by omega)
  · rw [if_neg h]
    have := Int.mul_le_mul (show v ≤ 1 by omega) hw.2 (by omega) (by omega)
    omega
theorem repeat35 : ∀ n, Lib.repeatL [35] n = List.replicate n 35
  | 0 => rfl
  | n + 1 => by
    show 35 :: Lib.repeatL [35] n = _
    rw [repeat35 n]; rfl
theorem spec_bar (vs : List Int) (w M : Int) (i : Nat) (r : List (List UInt8)) (hi : i < vs.length) (hs : vs.length ≤ 1048576) (hr : r.length ≤ 1048576) (hM : M ≤ 1000000000000) (hM0 : M > 0) (hw : 1 ≤ w ∧ w ≤ 100) (hv : 0 ≤ vs[i] ∧ vs[i] ≤ M) :
    ∀ (k j : Nat), j + k = barN M w vs[i] → spec_BarLines_p2 vs w M i (List.replicate j 35) j r = spec_BarLines_p1 vs w M ((i + 1 : Nat) : Int) (r ++ [barOf M w vs[i]]) := by
  have hb := bar_bd hM hw hv
  have hif : (if M > 1 then M else 1) = M := by split <;> omega
  rw [hif] at hb
  have e1 : IntKind.i64.wrap (vs[i] * w) = vs[i] * w := w64 (by omega) (by omega)
  have e2 : IntKind.i64.wrap ((vs[i] * w).tdiv M) = vs[i] * w / M := by rw [tdiv_nonneg_eq hb.1.1, w64 (by omega) (by omega)]
  have e3 : (barN M w vs[i] : Int) = vs[i] * w / M := by rw [barN, hif]; omega
  have e4 : ¬ M = 0 := by omega
  have hlim : r.length + 1 < lim := by rw [lim_eq]; omega
  have hw2 : IntKind.i64.wrap ((i : Int) + 1) = ((i + 1 : Nat) : Int) := by rw [w64 (by omega) (by omega)]; omega
  intro k
  induction k with
  | zero =>
    intro j hj
    rw [spec_BarLines_p2_eq]
    have hlt : ¬ (j : Int) < vs[i] * w / M := by omega
    simp only [hM0, e4, decide_true, decide_false, if_true, Bool.false_eq_true, if_false, Int.natCast_nonneg, Int.toNat_natCast, List.getElem?_eq_getElem hi, Option.bind_some, e1, e2, hlt, hlim, hw2, List.take_length]
    rw [barOf, show barN M w vs[i] = j by omega]
  | succ k ih =>
    intro j hj
    rw [spec_BarLines_p2_eq]
    have hlt : (j : Int) < vs[i] * w / M := by omega
    have hst : (List.replicate j (35 : UInt8)).length + [(35 : UInt8)].length ≤ strMax := by rw [strMax_eq, List.length_replicate]; simp only [List.length_cons, List.length_nil]; omega
    have hw3 : IntKind.i64.wrap ((j : Int) + 1) = ((j + 1 : Nat) : Int) := by rw [w64 (by omega) (by omega)]; omega
    simp only [hM0, e4, decide_true, decide_false, if_true, Bool.false_eq_true, if_false, Int.natCast_nonneg, Int.toNat_natCast, List.getElem?_eq_getElem hi, Option.bind_some, e1, e2, hlt, hw3]
    rw [show List.replicate j (35 : UInt8) ++ [35] = List.replicate (j + 1) 35 by rw [List.replicate_succ']]
    exact (if_pos (decide_eq_true hst)).trans (ih (j + 1) (by omega))
theorem spec_bars (vs : List Int) (w M : Int) (hs : vs.length ≤ 1048576) (hM : 0 ≤ M ∧ M ≤ 1000000000000) (hw : 1 ≤ w ∧ w ≤ 100) (hv : ∀ v, v ∈ vs → 0 ≤ v ∧ v ≤ M) :
    ∀ (k i : Nat) (r : List (List UInt8)), i + k = vs.length → r.length = i → spec_BarLines_p1 vs w M i r = spec_l30Done (r ++ (vs.drop i).map (barOf M w))
  | 0, i, r, hk, hr => by
    rw [spec_BarLines_p1_eq, List.drop_eq_nil_of_le (by omega)]
    have : ¬ (i : Int) < (vs.length : Int) := by omega
    simp only [this, decide_false, Bool.false_eq_true, if_false, List.map_nil, List.append_nil, List.take_length]
    cases spec_l30Done r <;> rfl
  | k + 1, i, r, hk, hr => by
    have hi : i < vs.length := by omega
    have hlt : (i : Int) < (vs.length : Int) := by omega
    have hvi := hv vs[i] (List.getElem_mem hi)
    have ih := spec_bars vs w M hs hM hw hv k (i + 1) (r ++ [barOf M w vs[i]]) (by omega) (by simp [hr])
    have step : spec_BarLines_p2 vs w M i [] 0 r = spec_BarLines_p1 vs w M ((i + 1 : Nat) : Int) (r ++ [barOf M w vs[i]]) := by
      by_cases hM0 : M > 0
      · exact spec_bar vs w M i r hi hs (by omega) hM.2 hM0 hw hvi (barN M w vs[i]) 0 (by omega)
      · have hlim : r.length + 1 < lim := by rw [lim_eq]; omega
        have hw2 : IntKind.i64.wrap ((i : Int) + 1) = ((i + 1 : Nat) : Int) := by rw [w64 (by omega) (by omega)]; omega
        have hz : vs[i] = 0 := by omega
        have hb : barOf M w vs[i] = [] := by rw [barOf, barN, hz]; simp
        rw [spec_BarLines_p2_eq, hb]
        simp only [hM0, decide_false, Bool.false_eq_true, if_false, hlim, decide_true, if_true, hw2, List.take_length]
    rw [spec_BarLines_p1_eq, List.drop_eq_getElem_cons hi, List.map_cons]
    simp only [hlt, decide_true, if_true]
    rw [step, ih, List.append_assoc]; rfl
theorem impl_bars (vs : List Int) (w M : Int) (hs : vs.length ≤ 1048576) (hM : 0 ≤ M ∧ M ≤ 1000000000000) (hw : 1 ≤ w ∧ w ≤ 100) (hv : ∀ v, v ∈ vs → 0 ≤ v ∧ v ≤ M) :
    ∀ (k i : Nat) (r : List (List UInt8)), i + k = vs.length → r.length = i → impl_BarLines_p1 w M vs vs.length i r = (impl_report (r ++ (vs.drop i).map (barOf M w))).bind fun x => some (x.1, x.2.1)
  | 0, i, r, hk, hr => by
    rw [impl_BarLines_p1_eq, List.drop_eq_nil_of_le (by omega)]
    have : ¬ (i : Int) < (vs.length : Int) := by omega
    simp only [this, decide_false, decide_true, if_true, Bool.false_eq_true, if_false, List.map_nil, List.append_nil, List.take_length]
  | k + 1, i, r, hk, hr => by
    have hi : i < vs.length := by omega
    have hlt : (i : Int) < (vs.length : Int) := by omega
    have hvi := hv vs[i] (List.getElem_mem hi)
    have hb := bar_bd hM.2 hw hvi
    have ih := impl_bars vs w M hs hM hw hv k (i + 1) (r ++ [barOf M w vs[i]]) (by omega) (by simp [hr])
    have e1 : IntKind.i64.wrap (vs[i] * w) = vs[i] * w := w64 (by omega) (by omega)
    have e2 : IntKind.i64.wrap ((vs[i] * w).tdiv (if M > 1 then M else 1)) = vs[i] * w / (if M > 1 then M else 1) := by rw [tdiv_nonneg_eq hb.1.1, w64 (by omega) (by omega)]
    have e4 : ¬ (if M > 1 then M else 1) = 0 := by split <;> omega
    have hlim : r.length + 1 < lim := by rw [lim_eq]; omega
    have hw2 : IntKind.i64.wrap ((i : Int) + 1) = ((i + 1 : Nat) : Int) := by rw [w64 (by omega) (by omega)]; omega
    have hrep : strings_Repeat [35] (vs[i] * w / (if M > 1 then M else 1)) = some (barOf M w vs[i]) := by
      have h3 : vs[i] * w / (if M > 1 then M else 1) ≤ 9223372036854775807 := by omega
      have h4 : [(35 : UInt8)].length * (vs[i] * w / (if M > 1 then M else 1)).toNat ≤ 140737488355328 := by simp only [List.length_cons, List.length_nil]; omega
      rw [strings_Repeat_eq, decide_eq_true hb.2.1, decide_eq_true h3, decide_eq_true h4, repeat35]
      rfl
    rw [impl_BarLines_p1_eq, List.drop_eq_getElem_cons hi, List.map_cons]
    simp only [hlt, decide_true, decide_false, if_true, Int.natCast_nonneg, Int.toNat_natCast, List.getElem?_eq_getElem hi, Option.bind_some, e1, e2, e4, Bool.false_eq_true, if_false, hrep, hlim, hw2, List.take_length]
    rw [ih, List.append_assoc]; rfl
theorem spec_most (vs : List Int) (w : Int) (hs : vs.length ≤ 1048576) : ∀ (k i : Nat) (m : Int), i + k = vs.length →
    spec_BarLines_p0 vs w m i = if (vs.drop i).all (fun v => inR v 0 1000000000000) then (if inR w 1 100 = true then spec_BarLines_p1 vs w (mostOf m (vs.drop i)) 0 [] else some ([], 2)) else some ([], 2)
  | 0, i, m, hk => by
    rw [spec_BarLines_p0_eq, List.drop_eq_nil_of_le (by omega)]
    have : ¬ (i : Int) < (vs.length : Int) := by omega
    simp only [this, decide_false, Bool.false_eq_true, if_false, spec_l00In_ok, Option.bind_some, List.all_nil, if_true, mostOf]
    by_cases h : inR w 1 100 = true <;> simp [h]
  | k + 1, i, m, hk => by
    have hi : i < vs.length := by omega
    have hlt : (i : Int) < (vs.length : Int) := by omega
    have hw2 : IntKind.i64.wrap ((i : Int) + 1) = ((i + 1 : Nat) : Int) := by rw [w64 (by omega) (by omega)]; omega
    rw [spec_BarLines_p0_eq, List.drop_eq_getElem_cons hi]
    simp only [hlt, decide_true, if_true, Int.natCast_nonneg, Int.toNat_natCast, List.getElem?_eq_getElem hi, Option.bind_some, spec_l00In_ok, spec_l00Max_ok, hw2, List.all_cons, mostOf]
    rw [spec_most vs w hs k (i + 1) _ (by omega)]
    by_cases h : inR vs[i] 0 1000000000000 = true <;> simp [h]
theorem impl_most (vs : List Int) (w : Int) (hs : vs.length ≤ 1048576) : ∀ (k i : Nat) (m : Int), i + k = vs.length →
    impl_BarLines_p0 vs w m vs vs.length i = if (vs.drop i).all (fun v => inR v 0 1000000000000) then impl_BarLines_p1 w (mostOf m (vs.drop i)) vs vs.length 0 [] else some ([], 2)
  | 0, i, m, hk => by
    rw [impl_BarLines_p0_eq, List.drop_eq_nil_of_le (by omega)]
    have : ¬ (i : Int) < (vs.length : Int) := by omega
    simp only [this, decide_false, Bool.false_eq_true, if_false, List.all_nil, if_true, mostOf]
  | k + 1, i, m, hk => by
    have hi : i < vs.length := by omega
    have hlt : (i : Int) < (vs.length : Int) := by omega
    have hw2 : IntKind.i64.wrap ((i : Int) + 1) = ((i + 1 : Nat) : Int) := by rw [w64 (by omega) (by omega)]; omega
    rw [impl_BarLines_p0_eq, List.drop_eq_getElem_cons hi]
    simp only [hlt, decide_true, if_true, Int.natCast_nonneg, Int.toNat_natCast, List.getElem?_eq_getElem hi, Option.bind_some, impl_within_ok, hw2, List.all_cons, mostOf]
    rw [impl_most vs w hs k (i + 1) _ (by omega)]
    by_cases h : inR vs[i] 0 1000000000000 = true <;> simp [h]
theorem bars_same (vs : List Int) (w : Int) (hs : vs.length ≤ 1048576) : ∃ (r : List (List UInt8)) (c : Int), r.length ≤ 200 ∧ spec_BarLines vs w = some (r, c) ∧ impl_BarLines vs w = some (r, c) := by
  have s1 := spec_most vs w hs vs.length 0 0 (by omega)
  have s2 := impl_most vs w hs vs.length 0 0 (by omega)
  simp only [Int.ofNat_zero, Int.natCast_zero, List.drop_zero] at s1 s2
  rw [spec_BarLines_eq, impl_BarLines_eq, impl_within_ok, s1, s2, Option.bind_some]
  cases hw : inR w 1 100
  · cases vs.all fun v => inR v 0 1000000000000
    · exact ⟨[], 2, by simp, rfl, rfl⟩
    · exact ⟨[], 2, by simp, rfl, rfl⟩
  cases hv : vs.all fun v => inR v 0 1000000000000
  · exact ⟨[], 2, by simp, rfl, rfl⟩
  have hw' := inR_iff'.1 hw
  have hv' : ∀ v, v ∈ vs → 0 ≤ v ∧ v ≤ 1000000000000 := fun v h => inR_iff'.1 (List.all_eq_true.1 hv v h)
  obtain ⟨m1, m2⟩ := mostOf_ok vs 0 (by omega) (by omega) hv'
  have hvm : ∀ v, v ∈ vs → 0 ≤ v ∧ v ≤ mostOf 0 vs := fun v h => ⟨(hv' v h).1, m2 v h⟩
  have t1 := spec_bars vs w (mostOf 0 vs) hs m1 hw' hvm vs.length 0 [] (by omega) rfl
  have t2 := impl_bars vs w (mostOf 0 vs) hs m1 hw' hvm vs.length 0 [] (by omega) rfl
  simp only [Int.ofNat_zero, Int.natCast_zero, List.drop_zero, List.nil_append] at t1 t2
  have hb : ∀ x, x ∈ vs.map (barOf (mostOf 0 vs) w) → x.length ≤ 1048576 := by
    intro x hx
    obtain ⟨v, h1, rfl⟩ := List.mem_map.1 hx
    have := bar_bd m1.2 hw' (hvm v h1)
    rw [barOf, List.length_replicate, barN]; omega
  have hl : (vs.map (barOf (mostOf 0 vs) w)).length ≤ 1048576 := by rw [List.length_map]; exact hs
  simp only [Bool.not_true, Bool.false_eq_true, if_false, if_true, t1, t2, spec_l30Done_ok _ hl hb, impl_report_ok _ hl hb]
  cases hr : reportOk (vs.map (barOf (mostOf 0 vs) w))
  · exact ⟨[], 5, by simp, rfl, rfl⟩
  · refine ⟨vs.map (barOf (mostOf 0 vs) w), 0, ?_, rfl, ?_⟩
    · rw [reportOk, Bool.and_eq_true, decide_eq_true_eq] at hr
      omega
    · simp only [if_true, Option.bind_some, List.take_length]
theorem laws_FnExactBarLines_true (vs : List Int) (w : Int) (h : CT.wf (.sl (.one (.int .i64))) vs) (h1 : CT.wf (.int .i64) w) : laws_FnExactBarLines vs w = some true := by
  rw [laws_FnExactBarLines_eq]
  by_cases hh : (vs.length : Int) > 1048576
  · simp only [hh, decide_true, if_true]
  have hs : vs.length ≤ 1048576 := by omega
  obtain ⟨r, c, r0, r1, r2⟩ := bars_same vs w hs
  have k0 := markInt64S_ok vs 1 (by omega) (by omega)
  have k00 : ¬ (1 + (vs.length : Int)) < 0 := by omega
  have k1 := markStringS_ok r 1 (by omega) (by omega)
  have k2 := heldStringS_ok 1 r.length (by omega) (by omega)
  have k3 : (tmarks 1 r.length).take r.length = tmarks 1 r.length := List.take_of_length_le (by rw [tmarks_len]; omega)
  have k4 : ¬ (1 + (r.length : Int)) < 0 := by omega
  simp only [hh, decide_false, Bool.false_eq_true, if_false, toInt64S_ok vs hs, Option.bind_some, List.take_length, r1, r2, eqStringS_ok r (by omega), Bool.not_true, bne_self_eq_false, laws_FnExactBarLines_p0_eq, eqInt64S_ok vs hs, decide_true, if_true, k0, k00, laws_FnExactBarLines_p1_eq, k1, k2, k3, k4, laws_FnExactBarLines_p2_eq]
end Go.Ab.P
