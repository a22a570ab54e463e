/- Days and dates lead to each other, weekdays follow one another, and working days of parts add up. Conditions: bytes are bytes. -/
import Derived.Test.YtbijadelckpmjaaDoorBFnDates
set_option linter.unusedVariables false
set_option linter.unusedSimpArgs false
namespace Go.Ab.P
open Go.Ab

theorem readDate_ok {d : Int} {y m : Nat} {r : Nat} (hd : IsDate d y m r) (hdt : impl_DateText d = some (Lib.itoa ((2000 + y : Nat) : Int) ++ 45 :: (padP ((m + 1 : Nat) : Int) 2 ++ 45 :: padP ((r + 1 : Nat) : Int) 2))) :
    impl_ReadDate (Lib.itoa ((2000 + y : Nat) : Int) ++ 45 :: (padP ((m + 1 : Nat) : Int) 2 ++ 45 :: padP ((r + 1 : Nat) : Int) 2)) = some (d, true) := by
  have hd' := hd
  obtain ⟨hy, hm, hr0, hr1, hde⟩ := hd
  have hb := mdays_bd (y := 2000 + y) (m := m) hm
  have l1 := itoa_year y hy
  have l2 := pad_two (m + 1) (by omega)
  have l3 := pad_two (r + 1) (by omega)
  have dn := impl_DayNumber_ok hd'
  rw [show (m : Int) + 1 = ((m + 1 : Nat) : Int) by omega, show (r : Int) + 1 = ((r + 1 : Nat) : Int) by omega] at dn
  generalize hA : Lib.itoa ((2000 + y : Nat) : Int) = a at *
  generalize hB : padP ((m + 1 : Nat) : Int) 2 = b at *
  generalize hC : padP ((r + 1 : Nat) : Int) 2 = c at *
  have hsp : Lib.splitK [45] 0 (Lib.count (a ++ 45 :: (b ++ 45 :: c)) [45]) (a ++ 45 :: (b ++ 45 :: c)) = [a, b, c] := by
    rw [split1_cons _ l1.2.1, split1_cons _ l2.2.2.1, split1_last l3.2.2.1]
  have hlen : (a ++ 45 :: (b ++ 45 :: c)).length < 4294967281 := by
    simp only [List.length_append, List.length_cons, l1.1, l2.2.1, l3.2.1]; decide
  have w1 : IntKind.i64.wrap (0 + 1) = 1 := by decide
  have w2 : IntKind.i64.wrap (1 + 1) = 2 := by decide
  have w3 : IntKind.i64.wrap (2 + 1) = 3 := by decide
  generalize hs : a ++ 45 :: (b ++ 45 :: c) = s at *
  have e3 : impl_ReadDate_p0 s 3 3 [a, b, c] ((2000 + y : Nat) : Int) ((m + 1 : Nat) : Int) ((r + 1 : Nat) : Int) = some (d, true) := by
    rw [impl_ReadDate_p0_eq]
    have c : ¬ (3 : Int) < 3 := by decide
    simp only [c, decide_false, Bool.false_eq_true, if_false, dn, Option.bind_some, bne_self_eq_false, hdt, beq_self_eq_true, Bool.not_true]
  have e2 : ∀ z : Int, impl_ReadDate_p0 s 3 2 [a, b, c] ((2000 + y : Nat) : Int) ((m + 1 : Nat) : Int) z = some (d, true) := fun z => by
    rw [impl_ReadDate_p0_eq]
    have g : ([a, b, c] : List (List UInt8))[(2 : Int).toNat]? = some c := rfl
    have c1 : (decide ((0 : Int) ≤ 2) && decide ((2 : Int) < (([a, b, c] : List (List UInt8)).length : Int))) = true := by simp
    have c2 : (2 : Int) < 3 := by decide
    have c3 : ¬ (2 : Int) = 0 := by decide
    have c4 : ¬ (2 : Int) = 1 := by decide
    simp only [c2, decide_true, if_true, c1, g, Option.bind_some, impl_digitsOf_ok, l3.2.2.2.2, c3, c4, decide_false, Bool.false_eq_true, if_false, w3]
    exact e3
  have e1 : ∀ z u : Int, impl_ReadDate_p0 s 3 1 [a, b, c] ((2000 + y : Nat) : Int) u z = some (d, true) := fun z u => by
    rw [impl_ReadDate_p0_eq]
    have g : ([a, b, c] : List (List UInt8))[(1 : Int).toNat]? = some b := rfl
    have c1 : (decide ((0 : Int) ≤ 1) && decide ((1 : Int) < (([a, b, c] : List (List UInt8)).length : Int))) = true := by simp
    have c2 : (1 : Int) < 3 := by decide
    have c3 : ¬ (1 : Int) = 0 := by decide
    simp only [c2, decide_true, if_true, c1, g, Option.bind_some, impl_digitsOf_ok, l2.2.2.2.2, c3, decide_false, Bool.false_eq_true, if_false, w2]
    exact e2 z
  have e0 : impl_ReadDate_p0 s 3 0 [a, b, c] 0 0 0 = some (d, true) := by
    rw [impl_ReadDate_p0_eq]
    have g : ([a, b, c] : List (List UInt8))[(0 : Int).toNat]? = some a := rfl
    have c1 : (decide ((0 : Int) ≤ 0) && decide ((0 : Int) < (([a, b, c] : List (List UInt8)).length : Int))) = true := by simp
    have c2 : (0 : Int) < 3 := by decide
    simp only [c2, decide_true, if_true, c1, g, Option.bind_some, impl_digitsOf_ok, l1.2.2, w1]
    exact e1 0 0
  have h1 : (1 : Nat) ≤ ([45] : List UInt8).length := by decide
  rw [impl_ReadDate_eq, strings_Split_eq]
  simp only [hlen, decide_true, h1, Bool.and_self, if_true, hsp, Option.bind_some]
  exact e0

theorem b10At_bd (l : List Int) (hl : ∀ x, x ∈ l → 0 ≤ x ∧ x ≤ 255) (n : Int) (h1 : 1 ≤ n ∧ n ≤ 100000) : ∃ x : Int, laws_b10At l 0 n = some x ∧ 0 ≤ x ∧ x < n := by
  rw [laws_b10At_eq]
  by_cases h : n ≤ 1
  · exact ⟨0, by simp [h], by omega, by omega⟩
  have hn0 : ¬ n = 0 := by omega
  simp only [h, decide_false, Bool.false_eq_true, if_false, hn0]
  by_cases h2 : (0 : Int) < (l.length : Int)
  · have hi : 0 < l.length := by omega
    have hm := hl l[0] (List.getElem_mem hi)
    have g : l[(0 : Int).toNat]? = some l[0] := List.getElem?_eq_getElem hi
    have c : (0 : Int) ≤ 0 := by omega
    simp only [h2, decide_true, if_true, c, g, Option.bind_some, w64 (n := l[0]) (by omega) (by omega)]
    rw [tmod_nonneg_eq (by omega)]
    exact ⟨_, rfl, Int.emod_nonneg _ hn0, Int.emod_lt_of_pos _ (by omega)⟩
  · simp only [h2, decide_false, Bool.false_eq_true, if_false]
    have : IntKind.i64.wrap (IntKind.i64.wrap (0 * 37) + 11) = 11 := by decide
    rw [this, tmod_nonneg_eq (by omega)]
    exact ⟨_, rfl, Int.emod_nonneg _ hn0, Int.emod_lt_of_pos _ (by omega)⟩

theorem law_p1 (v0 v1 : List Int) (m1 : ∀ x, x ∈ v0 → 0 ≤ x ∧ x ≤ 255) (h1 : ∀ x, x ∈ v1 → 0 ≤ x ∧ x ≤ 255) (h2 : v1.length ≤ 1048576) : laws_FnDates_p1 v0 v1 = some true := by
  obtain ⟨f, u, e, b1, b2, b3, b4⟩ := spec_DrawWorkDays_ok v1 h1 h2
  rw [laws_FnDates_p1_eq, e]
  simp only [Option.bind_some]
  by_cases hv : 0 ≤ f ∧ f ≤ 36524 ∧ f ≤ u ∧ u ≤ 36525
  · obtain ⟨k1, k2, k3, k4⟩ := hv
    rw [impl_WorkDays_ok f u k1 k2 k3 k4]
    simp only [Option.bind_some, bne_self_eq_false, Bool.false_eq_true, if_false, w64 (n := u - f) (by omega) (by omega), w64 (n := u - f + 1) (by omega) (by omega)]
    obtain ⟨x, ex, x1, x2⟩ := b10At_bd v0 m1 (u - f + 1) (by omega)
    rw [ex]
    simp only [Option.bind_some, w64 (n := f + x) (by omega) (by omega), impl_WorkDays_ok f (f + x) k1 k2 (by omega) (by omega)]
    have hl := wcnt_least f (u - f).toNat
    have hb := wcnt_bd f (u - f).toNat
    have hsum : ∀ v : Int, v = wcnt (f + x) (u - (f + x)).toNat → laws_FnDates_p2 f u (wcnt f (u - f).toNat) (wcnt f (f + x - f).toNat) 0 v 0 = some true := fun v hv => by
      have ha := wcnt_add f (f + x - f).toNat (u - (f + x)).toNat
      rw [show (f + x - f).toNat + (u - (f + x)).toNat = (u - f).toNat by omega, show f + (((f + x - f).toNat : Nat) : Int) = f + x by omega, ← hv] at ha
      have hb2 := wcnt_bd f (f + x - f).toNat
      have hb3 := wcnt_bd (f + x) (u - (f + x)).toNat
      rw [← hv] at hb3
      generalize wcnt f (u - f).toNat = A at *
      generalize wcnt f (f + x - f).toNat = B at *
      subst ha
      rw [laws_FnDates_p2_eq, w64 (n := B + v) (by omega) (by omega), w64 (n := u - f) (by omega) (by omega), w64 (n := 7 * (B + v)) (by omega) (by omega), w64 (n := 5 * (u - f)) (by omega) (by omega), w64 (n := 5 * (u - f) - 12) (by omega) (by omega)]
      have c1 : B + v ≥ 0 := by omega
      have c2 : B + v ≤ u - f := by omega
      have c3 : 7 * (B + v) ≥ 5 * (u - f) - 12 := by omega
      simp only [beq_self_eq_true, if_true, c1, c2, c3, decide_true]
    by_cases hx : f + x ≤ 36524
    · simp only [hx, decide_true, if_true, impl_WorkDays_ok (f + x) u (by omega) hx (by omega) k4, Option.bind_some]
      exact hsum _ rfl
    · simp only [hx, decide_false, Bool.false_eq_true, if_false]
      refine hsum 0 ?_
      rw [show (u - (f + x)).toNat = 0 by omega]; rfl
  · rw [impl_WorkDays_out f u hv]
    rfl

theorem law_core (v0 v1 : List Int) (h1 : ∀ x, x ∈ v0 → 0 ≤ x ∧ x ≤ 255) (m1 : ∀ x, x ∈ v1 → 0 ≤ x ∧ x ≤ 255) : laws_FnDates v0 v1 = some true := by
  rw [laws_FnDates_eq, laws_b10Long_eq, laws_b10Long_eq]
  simp only [Option.bind_some, decide_eq_true_eq]
  by_cases c1 : (v0.length : Int) > 1048576
  · simp [c1]
  by_cases c2 : (v1.length : Int) > 1048576
  · simp [c2]
  simp only [c1, c2, if_false]
  have hlast := law_p1 v0 v1 h1 m1 (by omega)
  obtain ⟨x, e, b1, b2⟩ := spec_DrawDateOf_ok v0 h1 (by omega)
  rw [laws_FnDates_p0_eq, e, Option.bind_some]
  cases hx : inR x 0 36524
  · rw [impl_DateOf_out x hx]
    exact hlast
  obtain ⟨k1, k2⟩ := inR_iff'.1 hx
  obtain ⟨y, m, r, hd, e1⟩ := impl_DateOf_ok x k1 k2
  have hd' := hd
  obtain ⟨hy, hm, hr0, hr1, hde⟩ := hd'
  have hb := mdays_bd (y := 2000 + y) (m := m) hm
  obtain ⟨rn, rfl⟩ : ∃ rn : Nat, r = rn := ⟨r.toNat, by omega⟩
  have hdt := impl_DateText_ok e1 hy hm (show rn < 31 by omega)
  have hwd : ∀ z : Int, impl_WeekdayOf z = if inR z 0 36524 = true then some ((z + 5) % 7, 0) else some (0, 2) := fun z => by
    rw [impl_WeekdayOf_eq, impl_isDay_eq, impl_within_ok]
    cases hz : inR z 0 36524
    · rfl
    · have := inR_iff'.1 hz
      simp [impl_weekday_ok z (by omega)]
  rw [e1]
  simp only [Option.bind_some, beq_self_eq_true, if_true, impl_DayNumber_ok hd, hdt, readDate_ok hd hdt, hwd, hx, bne_self_eq_false, Bool.false_eq_true, if_false, Bool.not_true, w64 (n := x + 1) (by omega) (by omega)]
  have n1 : ¬ (x + 5) % 7 < 0 := by omega
  have n2 : ¬ (x + 5) % 7 > 6 := by omega
  simp only [n1, n2, decide_false, Bool.false_eq_true, if_false, w64 (n := (x + 5) % 7 + 1) (by omega) (by omega)]
  cases hz : inR (x + 1) 0 36524
  · simpa using hlast
  · rw [tmod_nonneg_eq (by omega)]
    have n3 : (x + 1 + 5) % 7 = ((x + 5) % 7 + 1) % 7 := by omega
    simp [n3, hlast]
theorem laws_FnDates_true (code more : List Int) (h : CT.wf (.sl (.one (.int .u8))) code) (h' : CT.wf (.sl (.one (.int .u8))) more) : laws_FnDates code more = some true :=
  law_core code more (bytes_ok h) (bytes_ok h')
end Go.Ab.P
