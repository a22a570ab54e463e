/- Moistures go towards the even one, drying takes just as long as told, and stages follow one another. Conditions: bytes are bytes. -/
import Derived.Test.YtmleedejgoeggaaBFnDrying
set_option linter.unusedVariables false
set_option linter.unusedSimpArgs false
namespace Go.Ab.P
open Go.Ab

theorem impl_EvenMoisture_ok (h : Int) : impl_EvenMoisture h = some (if inR h 0 1000 = true then (evenP h, 0) else (0, 2)) := by
  rw [impl_EvenMoisture_eq]
  simp only [impl_isPart_eq, impl_within_ok, Option.bind_some]
  cases hh : inR h 0 1000
  · simp
  · rw [inR_iff] at hh
    simp [impl_even_ok h hh]

theorem impl_StagesFor_ok (id : List UInt8) (m t s h d : Int) (h0 : id.length < 4611686018427387904) (hv : stackOk (id, m, t, s, ()) = true) (hh : inR h 0 1000 = true) (hd : inR d 0 4000 = true) :
    impl_StagesFor (id, m, t, s, ()) [h, h] d = some ([aft (evenP h) t d.toNat m, aft (evenP h) t d.toNat (aft (evenP h) t d.toNat m)], 0) := by
  have k1 := stackOk_iff.1 hv
  have k2 := inR_iff.1 hh
  have k3 := inR_iff.1 hd
  have he := evenP_bd k2
  have hb := aft_bd (e := evenP h) k1.2.2.1.1 d.toNat (by omega) k1.2.1
  have w1 : IntKind.i64.wrap (0 + 1) = 1 := by decide
  have w2 : IntKind.i64.wrap (1 + 1) = 2 := by decide
  have f : impl_few 2 12 = some true := by rw [impl_few_eq]; rfl
  have l1 : ((([h, h] : List Int).length : Nat) : Int) = 2 := rfl
  have g1 : impl_StagesFor_p1 d [h, h] 2 2 id (aft (evenP h) t d.toNat (aft (evenP h) t d.toNat m)) t s [aft (evenP h) t d.toNat m, aft (evenP h) t d.toNat (aft (evenP h) t d.toNat m)] = some ([aft (evenP h) t d.toNat m, aft (evenP h) t d.toNat (aft (evenP h) t d.toNat m)], 0) := by
    rw [impl_StagesFor_p1_eq]; simp
  have g2 : impl_StagesFor_p1 d [h, h] 2 1 id (aft (evenP h) t d.toNat m) t s [aft (evenP h) t d.toNat m] = some ([aft (evenP h) t d.toNat m, aft (evenP h) t d.toNat (aft (evenP h) t d.toNat m)], 0) := by
    rw [impl_StagesFor_p1_eq]
    have e1 : ([h, h] : List Int)[(1 : Int).toNat]? = some h := rfl
    have hl : [aft (evenP h) t d.toNat m].length + 1 < lim := by rw [lim_eq]; simp
    simp only [show (1 : Int) < 2 from by decide, show (0 : Int) ≤ 1 from by decide, decide_true, if_true, e1, Option.bind_some, impl_isPart_eq, impl_within_ok, hh, Bool.not_true, Bool.false_eq_true, if_false, impl_after_ok id _ t s h d hb k1.2.2.1 k2 k3, hl, w2, List.take_length]
    exact g1
  have g3 : impl_StagesFor_p1 d [h, h] 2 0 id m t s [] = some ([aft (evenP h) t d.toNat m, aft (evenP h) t d.toNat (aft (evenP h) t d.toNat m)], 0) := by
    rw [impl_StagesFor_p1_eq]
    have e1 : ([h, h] : List Int)[(0 : Int).toNat]? = some h := rfl
    have hl : ([] : List Int).length + 1 < lim := by rw [lim_eq]; simp
    simp only [show (0 : Int) < 2 from by decide, show (0 : Int) ≤ 0 from by decide, decide_true, if_true, e1, Option.bind_some, impl_isPart_eq, impl_within_ok, hh, Bool.not_true, Bool.false_eq_true, if_false, impl_after_ok id m t s h d k1.2.1 k1.2.2.1 k2 k3, hl, w1, List.take_length]
    exact g2
  rw [impl_StagesFor_eq, impl_Stack_valid_ok _ h0, hv, l1, f]
  simp only [Option.bind_some, Bool.not_true, Bool.false_eq_true, if_false, impl_isDry_eq, impl_within_ok, hd, impl_StagesFor_p0_eq, l1]
  exact g3

theorem dry_loop (h goal t : Int) (id : List UInt8) (m s : Int) (hm : 0 ≤ m ∧ m ≤ 1000) (ht : 10 ≤ t ∧ t ≤ 1000) (hh : 0 ≤ h ∧ h ≤ 1000) :
    ∀ (k i : Nat), i + k = 4001 → (∀ j, j < i → aft (evenP h) t j m > goal) →
      (impl_DaysToDry_p1 h goal i id (aft (evenP h) t i m) t s = some (0, 3)) ∨ ∃ n : Nat, n ≤ 4000 ∧ aft (evenP h) t n m ≤ goal ∧ (∀ j, j < n → aft (evenP h) t j m > goal) ∧ impl_DaysToDry_p1 h goal i id (aft (evenP h) t i m) t s = some ((n : Int), 0)
  | 0, i, hk, hj => by
    refine .inl ?_
    rw [impl_DaysToDry_p1_eq]
    have : ¬ (i : Int) ≤ 4000 := by omega
    simp [this]
  | k + 1, i, hk, hj => by
    have he := evenP_bd hh
    have hb := aft_bd (e := evenP h) ht.1 i (by omega) hm
    have hlt : (i : Int) ≤ 4000 := by omega
    have hw : IntKind.i64.wrap ((i : Int) + 1) = ((i + 1 : Nat) : Int) := by rw [w64 (by omega) (by omega)]; omega
    have e1 := impl_after_ok id (aft (evenP h) t i m) t s h 1 hb ht hh (by omega)
    have e2 : aft (evenP h) t (1 : Int).toNat (aft (evenP h) t i m) = aft (evenP h) t (i + 1) m := (aft_succ _ _ i m).symm
    rw [e2] at e1
    rw [impl_DaysToDry_p1_eq]
    simp only [hlt, decide_true, if_true, e1, Option.bind_some, hw, decide_eq_true_eq]
    by_cases hc : aft (evenP h) t i m ≤ goal
    · simp only [hc, if_true]
      exact .inr ⟨i, by omega, hc, hj, rfl⟩
    · simp only [hc, if_false]
      exact dry_loop h goal t id m s hm ht hh k (i + 1) (by omega) (fun j hj' => by
        by_cases h' : j = i
        · subst h'; omega
        · exact hj j (by omega))

theorem crack_loop (h most d t : Int) (id : List UInt8) (s : Int) (ht : 10 ≤ t ∧ t ≤ 1000) (hh : 0 ≤ h ∧ h ≤ 1000) (hd : 0 ≤ d ∧ d ≤ 4000) :
    ∀ (k : Nat) (i c m : Int), 0 ≤ i → i + k = d → 0 ≤ c ∧ c ≤ i → 0 ≤ m ∧ m ≤ 1000 →
      ∃ r : Int, impl_CrackDays_p1 h most c d i id m t s = some (c + r, 0) ∧ 0 ≤ r ∧ r ≤ k ∧ (absI (chg (evenP h) t m) ≤ most → r = 0) ∧ (k ≠ 0 → most < absI (chg (evenP h) t m) → 0 < r)
  | 0, i, c, m, hi, hk, hc, hm => by
    refine ⟨0, ?_, by omega, by omega, fun _ => rfl, fun h => absurd rfl h⟩
    rw [impl_CrackDays_p1_eq]
    have : ¬ i < d := by omega
    simp [this]
  | k + 1, i, c, m, hi, hk, hc, hm => by
    have he := evenP_bd hh
    have hb := aft_bd (e := evenP h) ht.1 1 (by omega) hm
    have e1 := impl_after_ok id m t s h 1 hm ht hh (by omega)
    have e2 : aft (evenP h) t (1 : Int).toNat m = stp (evenP h) t m := rfl
    have hb : 0 ≤ stp (evenP h) t m ∧ stp (evenP h) t m ≤ 1000 := hb
    rw [e2] at e1
    have hlt : i < d := by omega
    have e3 := impl_distance_ok (stp (evenP h) t m) m (by omega) (by omega)
    have e4 : stp (evenP h) t m - m = chg (evenP h) t m := by unfold stp; omega
    rw [e4] at e3
    have hl := chg_less (e := evenP h) (m := m) ht.1
    rw [impl_CrackDays_p1_eq]
    simp only [hlt, decide_true, if_true, e1, e3, Option.bind_some, w64 (n := i + 1) (by omega) (by omega), w64 (n := c + 1) (by omega) (by omega), decide_eq_true_eq]
    by_cases hx : absI (chg (evenP h) t m) > most
    · obtain ⟨r, q1, q2, q3, q4, q5⟩ := crack_loop h most d t id s ht hh hd k (i + 1) (c + 1) (stp (evenP h) t m) (by omega) (by omega) (by omega) hb
      simp only [hx, if_true]
      exact ⟨r + 1, by rw [q1]; congr 2; omega, by omega, by omega, fun h => by omega, fun _ _ => by omega⟩
    · obtain ⟨r, q1, q2, q3, q4, q5⟩ := crack_loop h most d t id s ht hh hd k (i + 1) c (stp (evenP h) t m) (by omega) (by omega) (by omega) hb
      simp only [hx, if_false]
      exact ⟨r, q1, q2, by omega, fun h => q4 (by omega), fun _ h => by first | exact h.elim | exact absurd h hx⟩

theorem law_p2 (v0 : List Int) (h1 : ∀ x, x ∈ v0 → 0 ≤ x ∧ x ≤ 255) (h2 : v0.length ≤ 1048576) : laws_FnDrying_p2 v0 = some true := by
  obtain ⟨m, t, n, h, b, d, e⟩ := spec_DrawCrackDays_ok v0 h1 h2
  rw [laws_FnDrying_p2_eq, e, Option.bind_some, impl_CrackDays_eq]
  rw [impl_Stack_valid_ok _ (show ([115, 97] : List UInt8).length < 4611686018427387904 by decide)]
  simp only [Option.bind_some, impl_isPart_eq, impl_isDry_eq, impl_within_ok]
  cases hv : stackOk ([115, 97], m, t, n, ())
  · rfl
  cases hh : inR h 0 1000
  · rfl
  cases hb : inR b 0 1000
  · rfl
  cases hd : inR d 0 4000
  · rfl
  have k1 := stackOk_iff.1 hv
  have k2 := inR_iff.1 hh
  have k3 := inR_iff.1 hb
  have k4 := inR_iff.1 hd
  have he := evenP_bd k2
  obtain ⟨r, q1, q2, q3, q4, q5⟩ := crack_loop h b d t [115, 97] n k1.2.2.1 k2 k4 d.toNat 0 0 m (by omega) (by omega) (by omega) k1.2.1
  rw [Int.zero_add] at q1
  have e1 := spec_MoistureAfter_ok [115, 97] m t n h 1 (by decide)
  have e2 : moistP [115, 97] m t n h 1 = (stp (evenP h) t m, 0) := by
    unfold moistP
    rw [if_pos hv, if_pos ⟨hh, by decide⟩]; rfl
  rw [e2] at e1
  have hb := aft_bd (e := evenP h) k1.2.2.1.1 1 (by omega) k1.2.1
  have hb : 0 ≤ stp (evenP h) t m ∧ stp (evenP h) t m ≤ 1000 := hb
  have e4 : stp (evenP h) t m - m = chg (evenP h) t m := by unfold stp; omega
  have e5 : laws_b10Abs (IntKind.i64.wrap (stp (evenP h) t m - m)) = some (absI (chg (evenP h) t m)) := by
    rw [w64 (by omega) (by omega), laws_b10Abs_ok _ (by omega), e4]
  have n1 : r ≥ 0 := q2
  have n2 : r ≤ d := by omega
  simp only [Bool.not_true, Bool.false_eq_true, if_false, impl_CrackDays_p0_eq, q1, Option.bind_some, bne_self_eq_false, e1, n1, n2, decide_true, if_true, beq_self_eq_true, e5]
  by_cases hz : d = 0
  · subst hz; rfl
  · have hz' : (d == 0) = false := by simpa using hz
    simp only [hz', Bool.false_eq_true, if_false]
    by_cases hx : absI (chg (evenP h) t m) > b
    · have := q5 (by omega) hx
      simp [hx, this]
    · have := q4 (by omega)
      subst this
      simp [hx]

theorem law_p1 (v0 v1 : List Int) (h1 : ∀ x, x ∈ v1 → 0 ≤ x ∧ x ≤ 255) (h2 : v1.length ≤ 1048576) : laws_FnDrying_p1 v0 v1 = laws_FnDrying_p2 v0 := by
  obtain ⟨m, t, n, h, g, e⟩ := spec_DrawDaysToDry_ok v1 h1 h2
  rw [laws_FnDrying_p1_eq, e, Option.bind_some, impl_DaysToDry_eq]
  rw [impl_Stack_valid_ok _ (show ([115, 97] : List UInt8).length < 4611686018427387904 by decide)]
  simp only [Option.bind_some, impl_isPart_eq, impl_within_ok]
  cases hv : stackOk ([115, 97], m, t, n, ())
  · rfl
  cases hh : inR h 0 1000
  · rfl
  cases hg : inR g 0 1000
  · rfl
  have k1 := stackOk_iff.1 hv
  have k2 := inR_iff.1 hh
  simp only [Bool.not_true, Bool.false_eq_true, if_false, impl_DaysToDry_p0_eq]
  rcases dry_loop h g t [115, 97] m n k1.2.1 k1.2.2.1 k2 4001 0 (by omega) (fun j hj => by omega) with q | ⟨c, c1, c2, c3, q⟩
  · have q : impl_DaysToDry_p1 h g 0 [115, 97] m t n = some (0, 3) := q
    rw [q]; rfl
  · have q : impl_DaysToDry_p1 h g 0 [115, 97] m t n = some ((c : Int), 0) := q
    have e1 : moistP [115, 97] m t n h (c : Int) = (aft (evenP h) t c m, 0) := by
      unfold moistP
      rw [if_pos hv, if_pos ⟨hh, inR_iff.2 (by omega)⟩, Int.toNat_natCast]
    have n1 : ¬ aft (evenP h) t c m > g := by omega
    rw [q]
    simp only [Option.bind_some, beq_self_eq_true, if_true]
    rw [impl_MoistureAfter_ok _ _ _ _ _ _ (show ([115, 97] : List UInt8).length < 4611686018427387904 by decide), impl_MoistureAfter_ok _ _ _ _ _ _ (show ([115, 97] : List UInt8).length < 4611686018427387904 by decide), w64 (n := (c : Int) - 1) (by omega) (by omega), e1]
    simp only [Option.bind_some, bne_self_eq_false, Bool.false_eq_true, if_false, n1, decide_false]
    by_cases hz : c = 0
    · subst hz; rfl
    · have e2 : moistP [115, 97] m t n h ((c : Int) - 1) = (aft (evenP h) t (c - 1) m, 0) := by
        unfold moistP
        rw [if_pos hv, if_pos ⟨hh, inR_iff.2 (by omega)⟩, show ((c : Int) - 1).toNat = c - 1 by omega]
      have n2 : ¬ aft (evenP h) t (c - 1) m ≤ g := by have := c3 (c - 1) (by omega); omega
      have n3 : (c : Int) > 0 := by omega
      rw [e2]
      simp [n2, n3]

theorem law_p0 (v0 v1 : List Int) (h1 : ∀ x, x ∈ v0 → 0 ≤ x ∧ x ≤ 255) (h2 : v0.length ≤ 1048576) : laws_FnDrying_p0 v0 v1 = laws_FnDrying_p1 v0 v1 := by
  obtain ⟨m, t, n, h, d, e⟩ := spec_DrawMoistureAfter_ok v0 h1 h2
  rw [laws_FnDrying_p0_eq, e, Option.bind_some]
  rw [impl_MoistureAfter_ok _ _ _ _ _ _ (show ([115, 97] : List UInt8).length < 4611686018427387904 by decide), impl_EvenMoisture_ok]
  simp only [Option.bind_some]
  cases hv : stackOk ([115, 97], m, t, n, ())
  · have e1 : moistP [115, 97] m t n h d = (0, 1) := by unfold moistP; rw [hv]; rfl
    rw [e1]; rfl
  cases hh : inR h 0 1000
  · have e1 : moistP [115, 97] m t n h d = (0, 2) := by unfold moistP; rw [hv, hh]; rfl
    rw [e1]; rfl
  cases hd : inR d 0 4000
  · have e1 : moistP [115, 97] m t n h d = (0, 2) := by unfold moistP; rw [hv, hh, hd]; rfl
    rw [e1]; rfl
  have e1 : moistP [115, 97] m t n h d = (aft (evenP h) t d.toNat m, 0) := by unfold moistP; rw [hv, hh, hd]; rfl
  have k1 := stackOk_iff.1 hv
  have k2 := inR_iff.1 hh
  have he := evenP_bd k2
  have e2 := impl_StagesFor_ok [115, 97] m t n h d (by decide) hv hh hd
  rw [e1, e2]
  have hb := aft_bd (e := evenP h) k1.2.2.1.1 d.toNat (by omega) k1.2.1
  have hb2 := aft_bd (e := evenP h) k1.2.2.1.1 d.toNat (by omega) hb
  have hn := aft_near (e := evenP h) k1.2.2.1.1 d.toNat (aft (evenP h) t d.toNat m)
  have hu : m ≤ evenP h → m ≤ aft (evenP h) t d.toNat m ∧ aft (evenP h) t d.toNat m ≤ evenP h := fun hx => aft_up k1.2.2.1.1 d.toNat hx
  have hl : evenP h ≤ m → evenP h ≤ aft (evenP h) t d.toNat m ∧ aft (evenP h) t d.toNat m ≤ m := fun hx => aft_dn k1.2.2.1.1 d.toNat hx
  generalize aft (evenP h) t d.toNat (aft (evenP h) t d.toNat m) = a2 at hb2 hn ⊢
  generalize aft (evenP h) t d.toNat m = a1 at hb hn hu hl hb2 ⊢
  generalize evenP h = q at *
  have n1 : ¬ q < 0 := by omega
  have n2 : ¬ q > 280 := by omega
  have n3 : ¬ a1 < (if q < m then q else m) := by split <;> omega
  have n4 : ¬ a1 > (if q > m then q else m) := by split <;> omega
  have b1 := laws_b10Abs_ok (a2 - q) (by omega)
  have b2 := laws_b10Abs_ok (a1 - q) (by omega)
  have n5 : ¬ absI (a2 - q) > absI (a1 - q) := by omega
  simp [n1, n2, n3, n4, w64 (n := a2 - q) (by omega) (by omega), w64 (n := a1 - q) (by omega) (by omega), b1, b2, n5]
  try omega

theorem law_core (v0 v1 : List Int) (h1 : ∀ x, x ∈ v0 → 0 ≤ x ∧ x ≤ 255) (m1 : ∀ x, x ∈ v1 → 0 ≤ x ∧ x ≤ 255) : laws_FnDrying v0 v1 = some true := by
  rw [laws_FnDrying_eq, laws_b10Long_eq, laws_b10Long_eq]
  simp only [Option.bind_some, decide_eq_true_eq]
  by_cases c1 : (v0.length : Int) > 1048576
  · simp [c1]
  by_cases c2 : (v1.length : Int) > 1048576
  · simp [c2]
  simp only [c1, c2, if_false]
  rw [law_p0 v0 v1 h1 (by omega), law_p1 v0 v1 m1 (by omega), law_p2 v0 h1 (by omega)]
theorem laws_FnDrying_true (code more : List Int) (h : CT.wf (.sl (.one (.int .u8))) code) (h' : CT.wf (.sl (.one (.int .u8))) more) : laws_FnDrying code more = some true :=
  law_core code more (bytes_ok h) (bytes_ok h')
end Go.Ab.P
