/- PaperReport of the program and of the reference are equal. Conditions: numbers and lengths are those of their kinds. -/
import Derived.Test.YtdejhkhdilcadaaDoorBFnExactPaperReport
set_option linter.unusedVariables false
set_option linter.unusedSimpArgs false
namespace Go.Ab.P
open Go.Ab

theorem markPaperS_loop (n : Nat) (hn : n ≤ 1048576) : ∀ (k i : Nat) (m : Int) (r : List T_Paper.ty), i + k = n → r.length = n → 0 ≤ m → m ≤ 10 + 5 * i → ∃ (m' : Int) (r' : List T_Paper.ty), laws_markPaperS_p0 n n m i r = some (m', r') ∧ 0 ≤ m'
  | 0, i, m, r, hk, hr, h0, h1 => by
    refine ⟨m, r, ?_, h0⟩
    rw [laws_markPaperS_p0_eq]
    have : ¬ (i : Int) < (n : Int) := by omega
    simp only [this, decide_false, Bool.false_eq_true, if_false, hr, decide_true, if_true]
  | k + 1, i, m, r, hk, hr, h0, h1 => by
    have hi : i < r.length := by omega
    have hlt : (i : Int) < (n : Int) := by omega
    have hw : IntKind.i64.wrap ((i : Int) + 1) = ((i + 1 : Nat) : Int) := by rw [w64 (by omega) (by omega)]; omega
    rw [laws_markPaperS_p0_eq, w64 (n := m + 1) (by omega) (by omega), w64 (n := m + 1 + 1) (by omega) (by omega), w64 (n := m + 1 + 1 + 1) (by omega) (by omega), w64 (n := m + 1 + 1 + 1 + 1) (by omega) (by omega), w64 (n := m + 1 + 1 + 1 + 1 + 1) (by omega) (by omega)]
    obtain ⟨t1, e1⟩ := markText_ok m (by omega)
    obtain ⟨t2, e2⟩ := markText_ok (m + 1) (by omega)
    simp only [hlt, decide_true, if_true, Int.natCast_nonneg, Int.toNat_natCast, List.getElem?_eq_getElem hi, Option.bind_some, Bool.and_self, hw, e1, e2, List.getElem?_set_self, List.length_set, hi]
    exact markPaperS_loop n hn k (i + 1) (m + 1 + 1 + 1 + 1 + 1) _ (by omega) (by simp [hr]) (by omega) (by omega)
theorem markPaperS_ok (xs : List T_Paper.ty) (hs : xs.length ≤ 1048576) : ∃ (m' : Int) (r' : List T_Paper.ty), laws_markPaperS xs 1 = some (m', r') ∧ 0 ≤ m' := by
  rw [laws_markPaperS_eq]
  exact markPaperS_loop xs.length hs xs.length 0 1 xs (by omega) rfl (by omega) (by omega)
theorem name_cell {s : List UInt8} (h : isName s = true) : (s.all fun ch => inR (ch.toNat : Int) 33 126) = true ∧ s.length ≤ 10 := by
  cases s with
  | nil => cases h
  | cons c r =>
    simp only [isName, Bool.and_eq_true, decide_eq_true_eq] at h
    refine ⟨?_, h.2⟩
    rw [List.all_cons, Bool.and_eq_true]
    have one : ∀ x : UInt8, (small x || digit x) = true → inR (x.toNat : Int) 33 126 = true := fun x hx => by
      rw [inR_iff']
      simp only [small, digit, Bool.or_eq_true, Bool.and_eq_true, decide_eq_true_eq] at hx
      omega
    refine ⟨one c (by rw [h.1.1]; rfl), List.all_eq_true.2 fun x hx => one x (List.all_eq_true.1 h.1.2 x hx)⟩
theorem itoa_cell (n : Int) : ((Lib.itoa n).all fun ch => inR (ch.toNat : Int) 33 126) = true := by
  refine List.all_eq_true.2 fun x hx => ?_
  rw [inR_iff']
  rcases itoa_mem n x hx with rfl | h
  · decide
  · omega
def rowP (x : T_Paper.ty) : List (List UInt8) := [x.1, x.2.1, (Lib.itoa x.2.2.1 ++ [45]) ++ Lib.itoa x.2.2.2.1, Lib.itoa x.2.2.2.2.1]
def headP : List (List UInt8) := [[112, 97, 112, 101, 114], [109, 97, 107, 101, 114], [121, 101, 97, 114, 115], [116, 114, 117, 115, 116]]
theorem paper_iff {x : T_Paper.ty} (h : paperOk x = true) : isName x.1 = true ∧ isName x.2.1 = true ∧ (1500 ≤ x.2.2.1 ∧ x.2.2.1 ≤ 2100) ∧ (1500 ≤ x.2.2.2.1 ∧ x.2.2.2.1 ≤ 2100) ∧ (1 ≤ x.2.2.2.2.1 ∧ x.2.2.2.2.1 ≤ 1000) := by
  simp only [paperOk, Bool.and_eq_true, decide_eq_true_eq, inR_iff'] at h
  obtain ⟨h1, h2, h3, h4, h5, h6⟩ := h
  exact ⟨h1, h2, ⟨h3, Int.le_trans h4 h5⟩, ⟨Int.le_trans h3 h4, h5⟩, h6⟩
theorem rowP_core (nm mk : List UInt8) (a b t : Int) (h1 : isName nm = true) (h2 : isName mk = true) (h3 : 1500 ≤ a ∧ a ≤ 2100) (h4 : 1500 ≤ b ∧ b ≤ 2100) (h5 : 1 ≤ t ∧ t ≤ 1000) :
    (([nm, mk, (Lib.itoa a ++ [45]) ++ Lib.itoa b, Lib.itoa t] : List (List UInt8)).length ≤ 12 ∧ ∀ c, c ∈ ([nm, mk, (Lib.itoa a ++ [45]) ++ Lib.itoa b, Lib.itoa t] : List (List UInt8)) → c.length ≤ 1000) ∧ cellsOk [nm, mk, (Lib.itoa a ++ [45]) ++ Lib.itoa b, Lib.itoa t] = true := by
  have n1 := name_cell h1
  have n2 := name_cell h2
  have l3 := itoa_len a (by omega)
  have l4 := itoa_len b (by omega)
  have l5 := itoa_len t (by omega)
  refine ⟨⟨by simp, fun c hc => ?_⟩, ?_⟩
  · simp only [List.mem_cons, List.not_mem_nil, or_false] at hc
    rcases hc with rfl | rfl | rfl | rfl
    · omega
    · omega
    · simp only [List.length_append, List.length_cons, List.length_nil]; omega
    · omega
  · have hd : inR ((45 : UInt8).toNat : Int) 33 126 = true := rfl
    simp only [cellsOk, List.all_cons, List.all_nil, List.all_append, n1.1, n2.1, itoa_cell, Bool.and_self, hd]
    rfl
theorem rowP_ok {x : T_Paper.ty} (h : paperOk x = true) : ((rowP x).length ≤ 12 ∧ ∀ c, c ∈ rowP x → c.length ≤ 1000) ∧ cellsOk (rowP x) = true := by
  obtain ⟨h1, h2, h3, h4, h5⟩ := paper_iff h
  exact rowP_core _ _ _ _ _ h1 h2 h3 h4 h5
theorem headP_ok : (headP.length ≤ 12 ∧ ∀ c, c ∈ headP → c.length ≤ 1000) ∧ cellsOk headP = true := by
  refine ⟨⟨by decide, fun c hc => ?_⟩, by decide⟩
  simp only [headP, List.mem_cons, List.not_mem_nil, or_false] at hc
  rcases hc with rfl | rfl | rfl | rfl <;> decide
theorem report_rows (xs : List T_Paper.ty) (hs : xs.length ≤ 1048576) (hx : ∀ x, x ∈ xs → paperOk x = true) : ∀ (k i : Nat) (r : List (List (List UInt8))), i + k = xs.length → r.length = i + 1 →
    spec_PaperReport_p0 xs i r = ((spec_l30Table (r ++ (xs.drop i).map rowP)).bind fun x5 => (spec_l30Done x5).bind fun x6 => some (x6.1, x6.2)) ∧
    impl_PaperReport_p0 xs xs.length i r = ((impl_TableLines (r ++ (xs.drop i).map rowP)).bind fun x5 => some ((x5.1.take x5.1.length), x5.2))
  | 0, i, r, hk, hr => by
    have : ¬ (i : Int) < (xs.length : Int) := by omega
    rw [spec_PaperReport_p0_eq, impl_PaperReport_p0_eq, List.drop_eq_nil_of_le (by omega)]
    simp only [this, decide_false, Bool.false_eq_true, if_false, List.map_nil, List.append_nil, List.take_length]
    refine ⟨?_, ?_⟩ <;> first | rfl | trivial
  | k + 1, i, r, hk, hr => by
    have hi : i < xs.length := by omega
    have hlt : (i : Int) < (xs.length : Int) := by omega
    have hw : IntKind.i64.wrap ((i : Int) + 1) = ((i + 1 : Nat) : Int) := by rw [w64 (by omega) (by omega)]; omega
    have hp := paper_iff (hx xs[i] (List.getElem_mem hi))
    have ih := report_rows xs hs hx k (i + 1) (r ++ [rowP xs[i]]) (by omega) (by simp [hr])
    have hlim : r.length + 1 < lim := by rw [lim_eq]; omega
    rw [spec_PaperReport_p0_eq, impl_PaperReport_p0_eq, List.drop_eq_getElem_cons hi, List.map_cons]
    simp only [hlt, decide_true, if_true, Int.natCast_nonneg, Int.toNat_natCast, List.getElem?_eq_getElem hi, Option.bind_some, hw]
    have key : ∀ a b t : Int, 1500 ≤ a ∧ a ≤ 2100 → 1500 ≤ b ∧ b ≤ 2100 → 1 ≤ t ∧ t ≤ 1000 → (spec_l01Dec a = some (Lib.itoa a) ∧ spec_l01Dec b = some (Lib.itoa b) ∧ spec_l01Dec t = some (Lib.itoa t)) ∧ (impl_Decimal a = some (Lib.itoa a) ∧ impl_Decimal b = some (Lib.itoa b) ∧ impl_Decimal t = some (Lib.itoa t)) ∧ (Lib.itoa a).length + [45].length ≤ strMax ∧ ((Lib.itoa a) ++ [(45 : UInt8)]).length + (Lib.itoa b).length ≤ strMax := fun a b t ha hb ht => by
      have l1 := itoa_len a (by omega)
      have l2 := itoa_len b (by omega)
      refine ⟨⟨spec_l01Dec_itoa a (by omega), spec_l01Dec_itoa b (by omega), spec_l01Dec_itoa t (by omega)⟩, ⟨impl_Decimal_ok a (by omega), impl_Decimal_ok b (by omega), impl_Decimal_ok t (by omega)⟩, ?_, ?_⟩
      · rw [strMax_eq]; simp only [List.length_cons, List.length_nil]; omega
      · rw [strMax_eq]; simp only [List.length_append, List.length_cons, List.length_nil]; omega
    obtain ⟨⟨k1, k2, k3⟩, ⟨k4, k5, k6⟩, k7, k8⟩ := key _ _ _ hp.2.2.1 hp.2.2.2.1 hp.2.2.2.2
    rw [k1, k4, Option.bind_some, Option.bind_some, if_pos (decide_eq_true k7), if_pos (decide_eq_true k7), k2, k5, Option.bind_some, Option.bind_some, if_pos (decide_eq_true k8), if_pos (decide_eq_true k8), k3, k6, Option.bind_some, Option.bind_some, if_pos (decide_eq_true hlim), if_pos (decide_eq_true hlim), List.take_length]
    rw [List.append_assoc] at ih
    exact ih
theorem report_same (xs : List T_Paper.ty) (hs : xs.length ≤ 1048576) (hx : ∀ x, x ∈ xs → x.1.length ≤ 1048576 ∧ x.2.1.length ≤ 1048576) : ∃ (r : List (List UInt8)) (c : Int), r.length ≤ 200 ∧ spec_PaperReport xs = some (r, c) ∧ impl_PaperReport xs = some (r, c) := by
  rw [spec_PaperReport_eq, impl_PaperReport_eq, spec_l20Ok_ok xs hs hx, impl_ValidPapers_ok xs hs hx, Option.bind_some, Option.bind_some]
  cases h : papersOk xs
  · exact ⟨[], 1, by simp, by simp, by simp⟩
  have hall := fun x hx => papersOk_all h x hx
  obtain ⟨s1, s2⟩ := report_rows xs hs hall xs.length 0 [headP] (by omega) rfl
  have s1 : spec_PaperReport_p0 xs 0 [headP] = _ := s1
  have s2 : impl_PaperReport_p0 xs xs.length 0 [headP] = _ := s2
  rw [List.drop_zero] at s1 s2
  have h12 : (xs.length : Int) ≤ 12 := by simp only [papersOk, Bool.and_eq_true, decide_eq_true_eq] at h; exact h.2
  have hm : ∀ row, row ∈ [headP] ++ xs.map rowP → (row.length ≤ 12 ∧ ∀ c, c ∈ row → c.length ≤ 1000) ∧ cellsOk row = true := fun row hm => by
    rcases List.mem_append.1 hm with hm | hm
    · rw [List.mem_singleton] at hm; subst hm; exact headP_ok
    · obtain ⟨x, h1, rfl⟩ := List.mem_map.1 hm; exact rowP_ok (hall x h1)
  have hlen : ([headP] ++ xs.map rowP).length ≤ 1048576 := by simp only [List.length_append, List.length_map, List.length_cons, List.length_nil]; omega
  have hT : TabOk ([headP] ++ xs.map rowP) := fun row h => (hm row h).1
  obtain ⟨t1, t2, t3⟩ := tabW_ok _ hT
  have hb : ∀ x, x ∈ ([headP] ++ xs.map rowP).map (lineP (tabW ([headP] ++ xs.map rowP))) → x.length ≤ 1048576 := fun x hx => by
    obtain ⟨row, h1, rfl⟩ := List.mem_map.1 hx
    exact Nat.le_trans (lineP_len t2 row (t3 row h1) (hT row h1).1) (by decide)
  rw [spec_l30Table_ok _ hlen hT, Option.bind_some, spec_l30Done_ok _ (by rw [List.length_map]; exact hlen) hb, Option.bind_some] at s1
  rw [impl_TableLines_ok _ hlen hT (fun row h => (hm row h).2), Option.bind_some] at s2
  show ∃ (r : List (List UInt8)) (c : Int), r.length ≤ 200 ∧ spec_PaperReport_p0 xs 0 [headP] = some (r, c) ∧ impl_PaperReport_p0 xs xs.length 0 [headP] = some (r, c)
  rw [s1, s2]
  generalize ([headP] ++ xs.map rowP).map (lineP (tabW ([headP] ++ xs.map rowP))) = ls
  cases hr : reportOk ls
  · exact ⟨[], 5, by simp, rfl, rfl⟩
  · refine ⟨ls, 0, ?_, rfl, ?_⟩
    · rw [reportOk, Bool.and_eq_true, decide_eq_true_eq] at hr
      omega
    · simp only [if_true, List.take_length]
theorem laws_FnExactPaperReport_true (xs : List T_Paper.ty) (h : CT.wf (.sl T_Paper) xs) : laws_FnExactPaperReport xs = some true := by
  obtain ⟨hl, hw⟩ := h
  rw [maxLen_eq] at hl
  obtain ⟨n, e1, e2, e3⟩ := szPaperS_ok xs hl (fun x hx => by rw [← maxLen_eq]; exact ⟨(hw x hx).1, (hw x hx).2.1⟩) 1048576 (by omega) (by omega)
  rw [laws_FnExactPaperReport_eq, e1, Option.bind_some]
  by_cases hn : n < 0
  · simp [hn]
  obtain ⟨hs, hx⟩ := e3 (by omega)
  obtain ⟨r, c, r0, r1, r2⟩ := report_same xs hs hx
  obtain ⟨m, r', hm, hm0⟩ := markPaperS_ok xs hs
  have hm1 : ¬ m < 0 := by omega
  have k1 := markStringS_ok r 1 (by omega) (by omega)
  have k2 := heldStringS_ok 1 r.length (by omega) (by omega)
  have k3 : (tmarks 1 r.length).take r.length = tmarks 1 r.length := List.take_of_length_le (by rw [tmarks_len]; omega)
  have k4 : ¬ (1 + (r.length : Int)) < 0 := by omega
  simp only [hn, decide_false, Bool.false_eq_true, if_false, toPaperS_ok xs hs, Option.bind_some, List.take_length, r1, r2, eqStringS_ok r (by omega), Bool.not_true, bne_self_eq_false, laws_FnExactPaperReport_p0_eq, eqPaperS_ok xs hs, decide_true, if_true, hm, hm1, laws_FnExactPaperReport_p1_eq, k1, k2, k3, k4, laws_FnExactPaperReport_p2_eq]
end Go.Ab.P
