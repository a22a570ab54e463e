/- PotReport of the program and of the reference are equal. Conditions: numbers and lengths are those of their kinds. -/
import Derived.Test.YtdejhkhdilcadaaDoorBFnExactPotReport
set_option linter.unusedVariables false
set_option linter.unusedSimpArgs false
namespace Go.Ab.P
open Go.Ab

theorem markPotS_loop (n : Nat) (hn : n ≤ 1048576) : ∀ (k i : Nat) (m : Int) (r : List T_Pot.ty), i + k = n → r.length = n → 0 ≤ m → m ≤ 10 + 5 * i → ∃ (m' : Int) (r' : List T_Pot.ty), laws_markPotS_p0 n n m i r = some (m', r') ∧ 0 ≤ m'
  | 0, i, m, r, hk, hr, h0, h1 => by
    refine ⟨m, r, ?_, h0⟩
    rw [laws_markPotS_p0_eq]
    have : ¬ (i : Int) < (n : Int) := by omega
    simp only [this, decide_false, Bool.false_eq_true, if_false, hr, decide_true, if_true]
  | k + 1, i, m, r, hk, hr, h0, h1 => by
    have hi : i < r.length := by omega
    have hlt : (i : Int) < (n : Int) := by omega
    have hw : IntKind.i64.wrap ((i : Int) + 1) = ((i + 1 : Nat) : Int) := by rw [w64 (by omega) (by omega)]; omega
    rw [laws_markPotS_p0_eq, w64 (n := m + 1) (by omega) (by omega), w64 (n := m + 1 + 1) (by omega) (by omega), w64 (n := m + 1 + 1 + 1) (by omega) (by omega), w64 (n := m + 1 + 1 + 1 + 1) (by omega) (by omega), w64 (n := m + 1 + 1 + 1 + 1 + 1) (by omega) (by omega)]
    obtain ⟨t1, e1⟩ := markText_ok m (by omega)
    simp only [hlt, decide_true, if_true, Int.natCast_nonneg, Int.toNat_natCast, List.getElem?_eq_getElem hi, Option.bind_some, Bool.and_self, hw, e1, List.getElem?_set_self, List.length_set, hi]
    exact markPotS_loop n hn k (i + 1) (m + 1 + 1 + 1 + 1 + 1) _ (by omega) (by simp [hr]) (by omega) (by omega)
theorem markPotS_ok (xs : List T_Pot.ty) (hs : xs.length ≤ 1048576) : ∃ (m' : Int) (r' : List T_Pot.ty), laws_markPotS xs 1 = some (m', r') ∧ 0 ≤ m' := by
  rw [laws_markPotS_eq]
  exact markPotS_loop xs.length hs xs.length 0 1 xs (by omega) rfl (by omega) (by omega)
theorem name_cell {s : List UInt8} (h : isName s = true) : (s.all fun ch => inR (ch.toNat : Int) 33 126) = true ∧ s.length ≤ 10 := by
  cases s with
  | nil => cases h
  | cons c r =>
    simp only [isName, Bool.and_eq_true, decide_eq_true_eq] at h
    refine ⟨?_, h.2⟩
    rw [List.all_cons, Bool.and_eq_true]
    have one : ∀ x : UInt8, (small x || digit x) = true → inR (x.toNat : Int) 33 126 = true := fun x hx => by
      rw [inR_iff']
      simp only [small, digit, Bool.or_eq_true, Bool.and_eq_true, decide_eq_true_eq] at hx
      omega
    refine ⟨one c (by rw [h.1.1]; rfl), List.all_eq_true.2 fun x hx => one x (List.all_eq_true.1 h.1.2 x hx)⟩
theorem itoa_cell (n : Int) : ((Lib.itoa n).all fun ch => inR (ch.toNat : Int) 33 126) = true := by
  refine List.all_eq_true.2 fun x hx => ?_
  rw [inR_iff']
  rcases itoa_mem n x hx with rfl | h
  · decide
  · omega
theorem fix1 (u : Nat) : fixP (u : Int) 1 = Lib.decDigits (u / 10) ++ 46 :: [UInt8.ofNat (48 + u % 10)] := by
  have hn : ¬ (u : Int) < 0 := by omega
  unfold fixP
  simp only [Int.natAbs_natCast, hn, if_false]
  unfold padP
  rw [itoa_pos]
  by_cases h : u < 10
  · rw [decDigits_one h, show u / 10 = 0 by omega, show u % 10 = u by omega, decDigits_one (show 0 < 10 by omega)]; rfl
  · have hne := dec_ne (u / 10)
    rw [decDigits_more h]
    generalize Lib.decDigits (u / 10) = d at hne
    have h0 : 1 + 1 - (d ++ [UInt8.ofNat (48 + u % 10)]).length = 0 := by
      cases d with
      | nil => exact absurd rfl hne
      | cons a r => simp only [List.length_append, List.length_cons, List.length_nil]; omega
    rw [h0]
    have hr : (Lib.repeatL [48] 0 : List UInt8) = [] := rfl
    rw [hr, List.nil_append, List.length_append, List.length_singleton, Nat.add_sub_cancel, List.take_left, List.drop_left]
theorem spec_ten : spec_l02Ten 1 = some 10 := by
  have w1 : IntKind.i64.wrap (1 * 10) = 10 := by decide
  have w2 : IntKind.i64.wrap (0 + 1) = 1 := by decide
  rw [spec_l02Ten_eq, spec_l02Ten_p0_eq, if_pos (by decide), w1, w2, spec_l02Ten_p0_eq, if_neg (by decide)]
theorem spec_fix1 (u : Nat) (hu : u ≤ 10000001) : spec_l02Fixed (u : Int) 1 = some (fixP (u : Int) 1) := by
  have hn : ¬ decide ((u : Int) < 0) = true := by rw [decide_eq_true_eq]; omega
  have hm : IntKind.i64.wrap (((u : Int).tmod 10) + 10) = ((10 + u % 10 : Nat) : Int) := by rw [tmod_nonneg_eq (by omega), w64 (by omega) (by omega)]; omega
  have hq : IntKind.i64.wrap ((u : Int).tdiv 10) = ((u / 10 : Nat) : Int) := by rw [tdiv_nonneg_eq (by omega), w64 (by omega) (by omega)]; omega
  have l1 := itoa_len ((u / 10 : Nat) : Int) (by omega)
  have e2 : Lib.itoa ((10 + u % 10 : Nat) : Int) = [49, UInt8.ofNat (48 + u % 10)] := by
    rw [itoa_pos, decDigits_more (by omega), show (10 + u % 10) / 10 = 1 by omega, show (10 + u % 10) % 10 = u % 10 by omega, decDigits_one (show 1 < 10 by omega)]; rfl
  have c1 : ([] : List UInt8).length + (Lib.itoa ((u / 10 : Nat) : Int)).length ≤ strMax := by rw [strMax_eq]; simp only [List.length_nil]; omega
  have c2 : (([] : List UInt8) ++ (Lib.itoa ((u / 10 : Nat) : Int))).length + [46].length ≤ strMax := by rw [strMax_eq]; simp only [List.length_append, List.length_cons, List.length_nil]; omega
  have c3 : decide (1 ≤ (([49, UInt8.ofNat (48 + u % 10)] : List UInt8).length : Int)) = true := rfl
  have c4 : ((([] : List UInt8) ++ (Lib.itoa ((u / 10 : Nat) : Int))) ++ [46]).length + (([49, UInt8.ofNat (48 + u % 10)] : List UInt8).drop 1).length ≤ strMax := by rw [strMax_eq]; simp only [List.length_append, List.length_cons, List.length_nil, List.drop_succ_cons, List.drop_zero]; omega
  have z : ¬ decide ((10 : Int) = 0) = true := by decide
  rw [spec_l02Fixed_eq, if_neg hn, spec_l02Fixed_p0_eq, spec_ten, Option.bind_some, if_neg z, hm, spec_l01Dec_itoa _ (by omega), Option.bind_some, if_neg z, hq, spec_l01Dec_itoa _ (by omega), Option.bind_some, e2]
  refine (if_pos (decide_eq_true c1)).trans ((if_pos (decide_eq_true c2)).trans ((if_pos c3).trans ((if_pos (decide_eq_true c4)).trans ?_)))
  rw [fix1, itoa_pos, List.nil_append, List.append_assoc]; rfl
def rowP (x : T_Pot.ty) : List (List UInt8) := [x.1, Lib.itoa x.2.1, Lib.itoa x.2.2.1, fixP (potStrong x.2.1 x.2.2.1 x.2.2.2.1 x.2.2.2.2.1) 1]
def headP : List (List UInt8) := [[112, 111, 116], [100, 114, 121], [119, 97, 116, 101, 114], [115, 116, 114, 101, 110, 103, 116, 104]]
theorem rowP_core (nm : List UInt8) (a b : Int) (u : Nat) (h1 : isName nm = true) (h3 : 1 ≤ a ∧ a ≤ 10000) (h4 : 1 ≤ b ∧ b ≤ 10000) (hu : u ≤ 10000001) :
    (([nm, Lib.itoa a, Lib.itoa b, fixP (u : Int) 1] : List (List UInt8)).length ≤ 12 ∧ ∀ c, c ∈ ([nm, Lib.itoa a, Lib.itoa b, fixP (u : Int) 1] : List (List UInt8)) → c.length ≤ 1000) ∧ cellsOk [nm, Lib.itoa a, Lib.itoa b, fixP (u : Int) 1] = true := by
  have n1 := name_cell h1
  have l3 := itoa_len a (by omega)
  have l4 := itoa_len b (by omega)
  have l5 := itoa_len ((u / 10 : Nat) : Int) (by omega)
  have ef : fixP (u : Int) 1 = Lib.itoa ((u / 10 : Nat) : Int) ++ [46, UInt8.ofNat (48 + u % 10)] := by rw [fix1, itoa_pos]
  rw [ef]
  refine ⟨⟨by simp, fun c hc => ?_⟩, ?_⟩
  · simp only [List.mem_cons, List.not_mem_nil, or_false] at hc
    rcases hc with rfl | rfl | rfl | rfl
    · omega
    · omega
    · omega
    · simp only [List.length_append, List.length_cons, List.length_nil]; omega
  · have hd : inR ((46 : UInt8).toNat : Int) 33 126 = true := rfl
    have hd2 : inR ((UInt8.ofNat (48 + u % 10)).toNat : Int) 33 126 = true := by
      rw [dig48 (by omega), inR_iff']; omega
    simp only [cellsOk, List.all_cons, List.all_nil, List.all_append, n1.1, itoa_cell, Bool.and_self, hd, hd2]
    rfl
theorem pot_iff {x : T_Pot.ty} (h : potOkT x = true) : isName x.1 = true ∧ (1 ≤ x.2.1 ∧ x.2.1 ≤ 10000) ∧ (1 ≤ x.2.2.1 ∧ x.2.2.1 ≤ 10000) ∧ (20 ≤ x.2.2.2.1 ∧ x.2.2.2.1 ≤ 95) ∧ 0 ≤ x.2.2.2.2.1 ∧ x.2.2.2.2.1 ≤ 1000 := potOk_iff.1 h
theorem strong_nat {dry water heat hours : Int} (h1 : 1 ≤ dry ∧ dry ≤ 10000) (h2 : 1 ≤ water ∧ water ≤ 10000) (h3 : 20 ≤ heat ∧ heat ≤ 95) (h4 : 0 ≤ hours ∧ hours ≤ 1000) : ∃ u : Nat, potStrong dry water heat hours = (u : Int) ∧ u ≤ 10000001 := by
  have := strong_bounds h1 (show 1 ≤ water ∧ water ≤ 100000 by omega) h3 (show 0 ≤ hours ∧ hours ≤ 100000 by omega)
  exact ⟨(potStrong dry water heat hours).toNat, by omega, by omega⟩
theorem rowP_ok {x : T_Pot.ty} (h : potOkT x = true) : ((rowP x).length ≤ 12 ∧ ∀ c, c ∈ rowP x → c.length ≤ 1000) ∧ cellsOk (rowP x) = true := by
  obtain ⟨h1, h2, h3, h4, h5⟩ := pot_iff h
  obtain ⟨u, e, hu⟩ := strong_nat h2 h3 h4 h5
  rw [rowP, e]
  exact rowP_core _ _ _ u h1 h2 h3 hu
theorem pot_steps (id : List UInt8) (dry water heat hours : Int) (h1 : 1 ≤ dry ∧ dry ≤ 10000) (h2 : 1 ≤ water ∧ water ≤ 10000) (h3 : 20 ≤ heat ∧ heat ≤ 95) (h4 : 0 ≤ hours ∧ hours ≤ 1000) :
    (spec_l01Dec dry = some (Lib.itoa dry) ∧ spec_l01Dec water = some (Lib.itoa water) ∧ spec_l14Strong (id, dry, water, heat, hours, ()) = some (potStrong dry water heat hours) ∧ spec_l02Fixed (potStrong dry water heat hours) 1 = some (fixP (potStrong dry water heat hours) 1)) ∧
    impl_Decimal dry = some (Lib.itoa dry) ∧ impl_Decimal water = some (Lib.itoa water) ∧ impl_Pot_strength (id, dry, water, heat, hours, ()) = some (potStrong dry water heat hours) ∧ impl_FixedText (potStrong dry water heat hours) 1 = some (fixP (potStrong dry water heat hours) 1) := by
  have a1 := spec_l14Strong_ok id dry water heat hours h1 (by omega) h3 (by omega)
  have a2 := impl_Pot_strength_ok id dry water heat hours h1 (by omega) h3 (by omega)
  obtain ⟨u, e, hu⟩ := strong_nat h1 h2 h3 h4
  rw [a1, a2, e]
  exact ⟨⟨spec_l01Dec_itoa dry (by omega), spec_l01Dec_itoa water (by omega), rfl, spec_fix1 u hu⟩, impl_Decimal_ok dry (by omega), impl_Decimal_ok water (by omega), rfl, impl_FixedText_ok (u : Int) 1 (by omega) (by omega)⟩
theorem headP_ok : (headP.length ≤ 12 ∧ ∀ c, c ∈ headP → c.length ≤ 1000) ∧ cellsOk headP = true := by
  refine ⟨⟨by decide, fun c hc => ?_⟩, by decide⟩
  simp only [headP, List.mem_cons, List.not_mem_nil, or_false] at hc
  rcases hc with rfl | rfl | rfl | rfl <;> decide
theorem report_rows (xs : List T_Pot.ty) (hs : xs.length ≤ 1048576) (hx : ∀ x, x ∈ xs → potOkT x = true) : ∀ (k i : Nat) (r : List (List (List UInt8))), i + k = xs.length → r.length = i + 1 →
    spec_PotReport_p0 xs i r = ((spec_l30Table (r ++ (xs.drop i).map rowP)).bind fun x5 => (spec_l30Done x5).bind fun x6 => some (x6.1, x6.2)) ∧
    impl_PotReport_p0 xs xs.length i r = ((impl_TableLines (r ++ (xs.drop i).map rowP)).bind fun x5 => some ((x5.1.take x5.1.length), x5.2))
  | 0, i, r, hk, hr => by
    have : ¬ (i : Int) < (xs.length : Int) := by omega
    rw [spec_PotReport_p0_eq, impl_PotReport_p0_eq, List.drop_eq_nil_of_le (by omega)]
    simp only [this, decide_false, Bool.false_eq_true, if_false, List.map_nil, List.append_nil, List.take_length]
    refine ⟨?_, ?_⟩ <;> first | rfl | trivial
  | k + 1, i, r, hk, hr => by
    have hi : i < xs.length := by omega
    have hlt : (i : Int) < (xs.length : Int) := by omega
    have hw : IntKind.i64.wrap ((i : Int) + 1) = ((i + 1 : Nat) : Int) := by rw [w64 (by omega) (by omega)]; omega
    have hp := pot_iff (hx xs[i] (List.getElem_mem hi))
    have ih := report_rows xs hs hx k (i + 1) (r ++ [rowP xs[i]]) (by omega) (by simp [hr])
    have hlim : r.length + 1 < lim := by rw [lim_eq]; omega
    obtain ⟨⟨k1, k2, k3, k4⟩, k5, k6, k7, k8⟩ := pot_steps xs[i].1 _ _ _ _ hp.2.1 hp.2.2.1 hp.2.2.2.1 hp.2.2.2.2
    have k3 : spec_l14Strong xs[i] = _ := k3
    have k7 : impl_Pot_strength xs[i] = _ := k7
    rw [spec_PotReport_p0_eq, impl_PotReport_p0_eq, List.drop_eq_getElem_cons hi, List.map_cons]
    simp only [hlt, decide_true, if_true, Int.natCast_nonneg, Int.toNat_natCast, List.getElem?_eq_getElem hi, Option.bind_some, hw]
    rw [k1, k5, Option.bind_some, Option.bind_some, k2, k6, Option.bind_some, Option.bind_some, k3, k7, Option.bind_some, Option.bind_some, k4, k8, Option.bind_some, Option.bind_some, if_pos (decide_eq_true hlim), if_pos (decide_eq_true hlim), List.take_length]
    rw [List.append_assoc] at ih
    exact ih
theorem report_same (xs : List T_Pot.ty) (hs : xs.length ≤ 1048576) (hx : ∀ x, x ∈ xs → x.1.length ≤ 1048576) : ∃ (r : List (List UInt8)) (c : Int), r.length ≤ 200 ∧ spec_PotReport xs = some (r, c) ∧ impl_PotReport xs = some (r, c) := by
  rw [spec_PotReport_eq, impl_PotReport_eq, spec_l14Ok_ok xs hs hx, impl_ValidPots_ok xs hs hx, Option.bind_some, Option.bind_some]
  cases h : potsOk xs
  · exact ⟨[], 1, by simp, by simp, by simp⟩
  have hall := fun x hx => potsOk_all h x hx
  obtain ⟨s1, s2⟩ := report_rows xs hs hall xs.length 0 [headP] (by omega) rfl
  have s1 : spec_PotReport_p0 xs 0 [headP] = _ := s1
  have s2 : impl_PotReport_p0 xs xs.length 0 [headP] = _ := s2
  rw [List.drop_zero] at s1 s2
  have h12 : (xs.length : Int) ≤ 8 := by simp only [potsOk, Bool.and_eq_true, decide_eq_true_eq] at h; exact h.2
  have hm : ∀ row, row ∈ [headP] ++ xs.map rowP → (row.length ≤ 12 ∧ ∀ c, c ∈ row → c.length ≤ 1000) ∧ cellsOk row = true := fun row hm => by
    rcases List.mem_append.1 hm with hm | hm
    · rw [List.mem_singleton] at hm; subst hm; exact headP_ok
    · obtain ⟨x, h1, rfl⟩ := List.mem_map.1 hm; exact rowP_ok (hall x h1)
  have hlen : ([headP] ++ xs.map rowP).length ≤ 1048576 := by simp only [List.length_append, List.length_map, List.length_cons, List.length_nil]; omega
  have hT : TabOk ([headP] ++ xs.map rowP) := fun row h => (hm row h).1
  obtain ⟨t1, t2, t3⟩ := tabW_ok _ hT
  have hb : ∀ x, x ∈ ([headP] ++ xs.map rowP).map (lineP (tabW ([headP] ++ xs.map rowP))) → x.length ≤ 1048576 := fun x hx => by
    obtain ⟨row, h1, rfl⟩ := List.mem_map.1 hx
    exact Nat.le_trans (lineP_len t2 row (t3 row h1) (hT row h1).1) (by decide)
  rw [spec_l30Table_ok _ hlen hT, Option.bind_some, spec_l30Done_ok _ (by rw [List.length_map]; exact hlen) hb, Option.bind_some] at s1
  rw [impl_TableLines_ok _ hlen hT (fun row h => (hm row h).2), Option.bind_some] at s2
  show ∃ (r : List (List UInt8)) (c : Int), r.length ≤ 200 ∧ spec_PotReport_p0 xs 0 [headP] = some (r, c) ∧ impl_PotReport_p0 xs xs.length 0 [headP] = some (r, c)
  rw [s1, s2]
  generalize ([headP] ++ xs.map rowP).map (lineP (tabW ([headP] ++ xs.map rowP))) = ls
  cases hr : reportOk ls
  · exact ⟨[], 5, by simp, rfl, rfl⟩
  · refine ⟨ls, 0, ?_, rfl, ?_⟩
    · rw [reportOk, Bool.and_eq_true, decide_eq_true_eq] at hr
      omega
    · simp only [if_true, List.take_length]
theorem laws_FnExactPotReport_true (xs : List T_Pot.ty) (h : CT.wf (.sl T_Pot) xs) : laws_FnExactPotReport xs = some true := by
  obtain ⟨hl, hw⟩ := h
  rw [maxLen_eq] at hl
  obtain ⟨n, e1, e2, e3⟩ := szPotS_ok xs hl (fun x hx => by rw [← maxLen_eq]; exact (hw x hx).1) 1048576 (by omega) (by omega)
  rw [laws_FnExactPotReport_eq, e1, Option.bind_some]
  by_cases hn : n < 0
  · simp [hn]
  obtain ⟨hs, hx⟩ := e3 (by omega)
  obtain ⟨r, c, r0, r1, r2⟩ := report_same xs hs hx
  obtain ⟨m, r', hm, hm0⟩ := markPotS_ok xs hs
  have hm1 : ¬ m < 0 := by omega
  have k1 := markStringS_ok r 1 (by omega) (by omega)
  have k2 := heldStringS_ok 1 r.length (by omega) (by omega)
  have k3 : (tmarks 1 r.length).take r.length = tmarks 1 r.length := List.take_of_length_le (by rw [tmarks_len]; omega)
  have k4 : ¬ (1 + (r.length : Int)) < 0 := by omega
  simp only [hn, decide_false, Bool.false_eq_true, if_false, toPotS_ok xs hs, Option.bind_some, List.take_length, r1, r2, eqStringS_ok r (by omega), Bool.not_true, bne_self_eq_false, laws_FnExactPotReport_p0_eq, eqPotS_ok xs hs, decide_true, if_true, hm, hm1, laws_FnExactPotReport_p1_eq, k1, k2, k3, k4, laws_FnExactPotReport_p2_eq]
end Go.Ab.P
