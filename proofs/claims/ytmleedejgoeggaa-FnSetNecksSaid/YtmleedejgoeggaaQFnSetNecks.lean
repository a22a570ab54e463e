/- The nearest neck is no farther than others, necks that are set well are near enough, and strings rise evenly. Conditions: bytes are bytes. -/
import Derived.Test.YtmleedejgoeggaaBFnSetNecks
set_option linter.unusedVariables false
set_option linter.unusedSimpArgs false
namespace Go.Ab.P
open Go.Ab

/-- How far two necks are apart. -/
def awayN (x w : T_Neck.ty) : Int := absI ((x.1 : Int) - w.1) + absI ((x.2.1 : Int) - w.2.1) + absI ((x.2.2.1 : Int) - w.2.2.1) + absI ((x.2.2.2.1 : Int) - w.2.2.2.1)
theorem away_core (a b c d a' b' c' d' : Int) (h : neckOk (a, b, c, d, ()) = true) (h' : neckOk (a', b', c', d', ()) = true) :
    (0 ≤ absI (a - a') ∧ absI (a - a') ≤ 10000) ∧ (0 ≤ absI (b - b') ∧ absI (b - b') ≤ 10000) ∧ (0 ≤ absI (c - c') ∧ absI (c - c') ≤ 10000) ∧ (0 ≤ absI (d - d') ∧ absI (d - d') ≤ 10000) := by
  have h1 := neckOk_iff.1 h
  have h2 := neckOk_iff.1 h'
  exact ⟨absI_bd (by omega), absI_bd (by omega), absI_bd (by omega), absI_bd (by omega)⟩
theorem impl_away_core (a b c d a' b' c' d' : Int) (h : neckOk (a, b, c, d, ()) = true) (h' : neckOk (a', b', c', d', ()) = true) :
    impl_Neck_away (a, b, c, d, ()) (a', b', c', d', ()) = some (awayN (a, b, c, d, ()) (a', b', c', d', ())) := by
  have h1 := neckOk_iff.1 h
  have h2 := neckOk_iff.1 h'
  have h3 := away_core a b c d a' b' c' d' h h'
  rw [impl_Neck_away_eq]
  dsimp only
  rw [impl_distance_ok a a' (by omega) (by omega), Option.bind_some, impl_distance_ok b b' (by omega) (by omega), Option.bind_some, impl_distance_ok c c' (by omega) (by omega), Option.bind_some, impl_distance_ok d d' (by omega) (by omega), Option.bind_some]
  rw [w64 (n := absI (a - a') + absI (b - b')) (by omega) (by omega), w64 (n := absI (a - a') + absI (b - b') + absI (c - c')) (by omega) (by omega), w64 (n := absI (a - a') + absI (b - b') + absI (c - c') + absI (d - d')) (by omega) (by omega)]
  rfl
theorem impl_away_ok (x w : T_Neck.ty) (h : neckOk x = true) (h' : neckOk w = true) : impl_Neck_away x w = some (awayN x w) := impl_away_core _ _ _ _ _ _ _ _ h h'
/-- What the law sums up for one neck. -/
theorem law_away (a b c d a' b' c' d' : Int) (h : neckOk (a, b, c, d, ()) = true) (h' : neckOk (a', b', c', d', ()) = true) :
    laws_b10Abs (IntKind.i64.wrap (a - a')) = some (absI (a - a')) ∧ laws_b10Abs (IntKind.i64.wrap (b - b')) = some (absI (b - b')) ∧ laws_b10Abs (IntKind.i64.wrap (c - c')) = some (absI (c - c')) ∧ laws_b10Abs (IntKind.i64.wrap (d - d')) = some (absI (d - d')) ∧
    IntKind.i64.wrap ((IntKind.i64.wrap ((IntKind.i64.wrap (absI (a - a') + absI (b - b'))) + absI (c - c'))) + absI (d - d')) = absI (a - a') + absI (b - b') + absI (c - c') + absI (d - d') := by
  have h1 := neckOk_iff.1 h
  have h2 := neckOk_iff.1 h'
  have h3 := away_core a b c d a' b' c' d' h h'
  rw [w64 (n := a - a') (by omega) (by omega), w64 (n := b - b') (by omega) (by omega), w64 (n := c - c') (by omega) (by omega), w64 (n := d - d') (by omega) (by omega)]
  rw [w64 (n := absI (a - a') + absI (b - b')) (by omega) (by omega), w64 (n := absI (a - a') + absI (b - b') + absI (c - c')) (by omega) (by omega), w64 (n := absI (a - a') + absI (b - b') + absI (c - c') + absI (d - d')) (by omega) (by omega)]
  exact ⟨laws_b10Abs_ok _ (by omega), laws_b10Abs_ok _ (by omega), laws_b10Abs_ok _ (by omega), laws_b10Abs_ok _ (by omega), rfl⟩

theorem nearest_loop (xs : List T_Neck.ty) (w : T_Neck.ty) (hs : xs.length ≤ 1048576) (hok : ∀ x, x ∈ xs → neckOk x = true) (hw : neckOk w = true) (dd : Nat → Int) (hd : ∀ (j : Nat) (h : j < xs.length), dd j = awayN xs[j] w) :
    ∀ (k i b : Nat), i + k = xs.length → b < xs.length → (∀ j, j < i → dd b ≤ dd j) → (∀ j, j < b → dd b < dd j) →
      ∃ b' : Nat, b' < xs.length ∧ (∀ j, j < xs.length → dd b' ≤ dd j) ∧ (∀ j, j < b' → dd b' < dd j) ∧ impl_NearestNeck_p0 xs b xs xs.length i w.1 w.2.1 w.2.2.1 w.2.2.2.1 = some ((b' : Int), dd b', 0)
  | 0, i, b, hk, hb, h1, h2 => by
    refine ⟨b, hb, fun j hj => h1 j (by omega), h2, ?_⟩
    rw [impl_NearestNeck_p0_eq]
    have : ¬ (i : Int) < (xs.length : Int) := by omega
    have e := impl_away_ok xs[b] w (hok _ (List.getElem_mem hb)) hw
    simp only [this, decide_false, Bool.false_eq_true, if_false, Int.natCast_nonneg, decide_true, if_true, Int.toNat_natCast, List.getElem?_eq_getElem hb, Option.bind_some]
    rw [show ((w.1, w.2.1, w.2.2.1, w.2.2.2.1, ()) : T_Neck.ty) = w from rfl, e, Option.bind_some, hd b hb]
  | k + 1, i, b, hk, hb, h1, h2 => by
    have hi : i < xs.length := by omega
    have hlt : (i : Int) < (xs.length : Int) := by omega
    have hw1 : IntKind.i64.wrap ((i : Int) + 1) = ((i + 1 : Nat) : Int) := by rw [w64 (by omega) (by omega)]; omega
    have e := impl_away_ok xs[b] w (hok _ (List.getElem_mem hb)) hw
    have e' := impl_away_ok xs[i] w (hok _ (List.getElem_mem hi)) hw
    rw [← hd b hb] at e
    rw [← hd i hi] at e'
    rw [impl_NearestNeck_p0_eq]
    rw [show ((w.1, w.2.1, w.2.2.1, w.2.2.2.1, ()) : T_Neck.ty) = w from rfl]
    simp only [hlt, Int.natCast_nonneg, decide_true, if_true, Int.toNat_natCast, List.getElem?_eq_getElem hb, List.getElem?_eq_getElem hi, Option.bind_some, e, e', hw1]
    by_cases hc : dd i < dd b
    · simp only [hc, decide_true, if_true]
      exact nearest_loop xs w hs hok hw dd hd k (i + 1) i (by omega) hi (fun j hj => by
        by_cases hj' : j = i
        · subst hj'; omega
        · have := h1 j (by omega); omega) (fun j hj => by have := h1 j hj; omega)
    · simp only [hc, decide_false, Bool.false_eq_true, if_false]
      exact nearest_loop xs w hs hok hw dd hd k (i + 1) b (by omega) hb (fun j hj => by
        by_cases hj' : j = i
        · subst hj'; omega
        · exact h1 j (by omega)) h2

theorem law_p3 (v0 v1 : List Int) (xs : List T_Neck.ty) (w : T_Neck.ty) (hs : xs.length ≤ 1048576) (hok : ∀ x, x ∈ xs → neckOk x = true) (hw : neckOk w = true) (dd : Nat → Int) (hd : ∀ (j : Nat) (h : j < xs.length), dd j = awayN xs[j] w)
    (b : Nat) (hb : b < xs.length) (h1 : ∀ j, j < xs.length → dd b ≤ dd j) (h2 : ∀ j, j < b → dd b < dd j) :
    ∀ (k i : Nat), i + k = xs.length → laws_FnSetNecks_p3 v0 v1 b (dd b) i xs w.1 w.2.1 w.2.2.1 w.2.2.2.1 = laws_FnSetNecks_p2 v0 v1
  | 0, i, hk => by
    rw [laws_FnSetNecks_p3_eq]
    have : ¬ (i : Int) < (xs.length : Int) := by omega
    simp only [this, decide_false, Bool.false_eq_true, if_false]
  | k + 1, i, hk => by
    have hi : i < xs.length := by omega
    have hlt : (i : Int) < (xs.length : Int) := by omega
    have hw1 : IntKind.i64.wrap ((i : Int) + 1) = ((i + 1 : Nat) : Int) := by rw [w64 (by omega) (by omega)]; omega
    have ih := law_p3 v0 v1 xs w hs hok hw dd hd b hb h1 h2 k (i + 1) (by omega)
    obtain ⟨q1, q2, q3, q4, q5⟩ := law_away xs[i].1 xs[i].2.1 xs[i].2.2.1 xs[i].2.2.2.1 w.1 w.2.1 w.2.2.1 w.2.2.2.1 (hok _ (List.getElem_mem hi)) hw
    have hdi := hd i hi
    unfold awayN at hdi
    have hge := h1 i hi
    have n1 : ¬ dd i < dd b := by omega
    rw [laws_FnSetNecks_p3_eq]
    simp only [hlt, Int.natCast_nonneg, decide_true, Bool.and_self, if_true, Int.toNat_natCast, List.getElem?_eq_getElem hi, Option.bind_some, q1, q2, q3, q4]
    rw [q5, ← hdi, hw1, ih]
    simp only [n1, decide_false, Bool.false_eq_true, if_false]
    by_cases hib : i = b
    · subst hib
      have n2 : ¬ (i : Int) < (i : Int) := by omega
      simp [n2]
    · have n2 : ((i : Int) == (b : Int)) = false := by simp; omega
      simp only [n2, Bool.false_eq_true, if_false]
      by_cases hlt2 : (i : Int) < (b : Int)
      · have := h2 i (by omega)
        have n3 : (dd i == dd b) = false := by simp; omega
        simp only [hlt2, decide_true, if_true, n3, Bool.false_eq_true, if_false]
      · simp only [hlt2, decide_false, Bool.false_eq_true, if_false]

/-- The projection of a neck. -/
def projN (x : T_Neck.ty) : Int := (x.2.2.1 : Int) + rdivP ((x.2.1 : Int) * x.2.2.2.1) 1000
theorem proj_core (a b c d : Int) (h : neckOk (a, b, c, d, ()) = true) : (0 ≤ b * d ∧ b * d ≤ 3000000) ∧ 0 ≤ rdivP (b * d) 1000 ∧ rdivP (b * d) 1000 ≤ 3000001 := by
  have h1 := neckOk_iff.1 h
  have e1 : 0 ≤ b * d := Int.mul_nonneg (by omega) (by omega)
  have e2 : b * d ≤ 10000 * 300 := Int.mul_le_mul (by omega) (by omega) (by omega) (by omega)
  have := rdivP_nonneg e1 (show (0 : Int) < 1000 by omega)
  have := rdivP_le e1 (show (0 : Int) < 1000 by omega)
  omega
theorem impl_proj_core (a b c d : Int) (h : neckOk (a, b, c, d, ()) = true) : impl_Neck_projection (a, b, c, d, ()) = some (c + rdivP (b * d) 1000) := by
  have h1 := neckOk_iff.1 h
  have h2 := proj_core a b c d h
  rw [impl_Neck_projection_eq]
  dsimp only
  rw [w64 (n := b * d) (by omega) (by omega), impl_divRound_ok _ _ (by omega) (by omega), Option.bind_some, w64 (by omega) (by omega)]
theorem spec_proj_core (a b c d : Int) (h : neckOk (a, b, c, d, ()) = true) : spec_ProjectionOf (a, b, c, d, ()) = some (c + rdivP (b * d) 1000, 0) := by
  have h1 := neckOk_iff.1 h
  have h2 := proj_core a b c d h
  rw [spec_ProjectionOf_eq, spec_l10Ok_ok, h, Option.bind_some, spec_l10High_eq]
  dsimp only
  rw [w64 (n := b * d) (by omega) (by omega), spec_l01Div_ok _ _ (by omega) (by omega), Option.bind_some, w64 (by omega) (by omega)]
  rfl
theorem projN_bd (x : T_Neck.ty) (h : neckOk x = true) : 0 ≤ projN x ∧ projN x ≤ 4000000 := by
  have h1 := (neckOk_iff (a := x.1) (b := x.2.1) (c := x.2.2.1) (d := x.2.2.2.1)).1 h
  have h2 := proj_core x.1 x.2.1 x.2.2.1 x.2.2.2.1 h
  unfold projN
  omega
theorem impl_proj_ok (x : T_Neck.ty) (h : neckOk x = true) : impl_Neck_projection x = some (projN x) := impl_proj_core x.1 x.2.1 x.2.2.1 x.2.2.2.1 h
theorem spec_proj_ok (x : T_Neck.ty) (h : neckOk x = true) : spec_ProjectionOf x = some (projN x, 0) := spec_proj_core x.1 x.2.1 x.2.2.1 x.2.2.2.1 h

theorem set_loop (xs : List T_Neck.ty) (hs : xs.length ≤ 1048576) (hok : ∀ x, x ∈ xs → neckOk x = true) (height off : Int) (hh : 0 ≤ height ∧ height ≤ 2000) (P : Nat → Bool) (hP : ∀ (j : Nat) (h : j < xs.length), P j = decide (absI (projN xs[j] - height) ≤ off)) :
    ∀ (k i : Nat), i + k = xs.length → impl_SetNecks_p1 height off xs xs.length i (idx P i) = some (idx P xs.length, 0)
  | 0, i, hk => by
    rw [impl_SetNecks_p1_eq]
    have : ¬ (i : Int) < (xs.length : Int) := by omega
    have hi : i = xs.length := by omega
    simp only [this, decide_false, Bool.false_eq_true, if_false, List.take_length]
    rw [hi]
  | k + 1, i, hk => by
    have hi : i < xs.length := by omega
    have hlt : (i : Int) < (xs.length : Int) := by omega
    have hw1 : IntKind.i64.wrap ((i : Int) + 1) = ((i + 1 : Nat) : Int) := by rw [w64 (by omega) (by omega)]; omega
    have ih := set_loop xs hs hok height off hh P hP k (i + 1) (by omega)
    have hx := hok _ (List.getElem_mem hi)
    have hb := projN_bd _ hx
    have hl : (idx P i).length + 1 < lim := by have := idx_len P i; rw [lim_eq]; omega
    rw [impl_SetNecks_p1_eq]
    simp only [hlt, Int.natCast_nonneg, decide_true, if_true, Int.toNat_natCast, List.getElem?_eq_getElem hi, Option.bind_some, impl_proj_ok _ hx, impl_distance_ok (projN xs[i]) height (by omega) (by omega), hl, List.take_length, hw1]
    rw [idx_succ, hP i hi] at ih
    by_cases hc : absI (projN xs[i] - height) ≤ off
    · simp only [hc, decide_true, if_true] at ih ⊢
      exact ih
    · simp only [hc, decide_false, Bool.false_eq_true, if_false, List.append_nil] at ih ⊢
      exact ih

theorem law_p4 (v0 : List Int) (xs : List T_Neck.ty) (hs : xs.length ≤ 1048576) (hok : ∀ x, x ∈ xs → neckOk x = true) (height off : Int) (hh : 0 ≤ height ∧ height ≤ 2000) (P : Nat → Bool) (hP : ∀ (j : Nat) (h : j < xs.length), P j = decide (absI (projN xs[j] - height) ≤ off)) :
    ∀ (k i : Nat), i + k = xs.length → laws_FnSetNecks_p4 v0 height off i xs (idx P xs.length) = laws_FnSetNecks_p5 v0
  | 0, i, hk => by
    rw [laws_FnSetNecks_p4_eq]
    have : ¬ (i : Int) < (xs.length : Int) := by omega
    simp only [this, decide_false, Bool.false_eq_true, if_false]
  | k + 1, i, hk => by
    have hi : i < xs.length := by omega
    have hlt : (i : Int) < (xs.length : Int) := by omega
    have hw1 : IntKind.i64.wrap ((i : Int) + 1) = ((i + 1 : Nat) : Int) := by rw [w64 (by omega) (by omega)]; omega
    have ih := law_p4 v0 xs hs hok height off hh P hP k (i + 1) (by omega)
    have hx := hok _ (List.getElem_mem hi)
    have hb := projN_bd _ hx
    have hbs : -4611686018427387904 ≤ projN xs[i] - height ∧ projN xs[i] - height ≤ 4611686018427387904 := by omega
    have hlen := idx_len P xs.length
    have hmem : decide ((i : Int) ∈ idx P xs.length) = decide (absI (projN xs[i] - height) ≤ off) := by
      rw [← hP i hi]
      cases hpi : P i
      · simp [idx_mem, hpi]
      · simp [idx_mem, hpi, hi]
    rw [laws_FnSetNecks_p4_eq]
    simp only [hlt, Int.natCast_nonneg, decide_true, Bool.and_self, if_true, Int.toNat_natCast, List.getElem?_eq_getElem hi, Option.bind_some, spec_proj_ok _ hx, bne_self_eq_false, Bool.false_eq_true, if_false, List.take_length, laws_b10Has_ok _ _ (show (idx P xs.length).length ≤ 1099511627776 by omega)]
    rw [w64 (n := projN xs[i] - height) (by omega) (by omega), laws_b10Abs_ok _ hbs, Option.bind_some, hmem, hw1, ih]
    simp

/-- The height of a string at a part. -/
def highN (nut bridge parts : Int) (j : Nat) : Int := if (j : Int) ≤ 0 then nut else if (j : Int) ≥ parts then bridge else nut + rdivP ((bridge - nut) * j) parts
theorem mul_bd {x y a b : Int} (ha : 0 ≤ a) (hx : -a ≤ x ∧ x ≤ a) (hy : 0 ≤ y ∧ y ≤ b) : -(a * b) ≤ x * y ∧ x * y ≤ a * b := by
  have h1 : x * y ≤ a * b := by
    rcases Int.le_total 0 x with h | h
    · exact Int.mul_le_mul hx.2 hy.2 hy.1 ha
    · have := Int.mul_nonneg ha (show 0 ≤ b by omega)
      have := Int.mul_nonneg (show 0 ≤ -x by omega) hy.1
      rw [Int.neg_mul] at this
      omega
  have h2 : -x * y ≤ a * b := by
    rcases Int.le_total 0 (-x) with h | h
    · exact Int.mul_le_mul (by omega) hy.2 hy.1 ha
    · have := Int.mul_nonneg ha (show 0 ≤ b by omega)
      have := Int.mul_nonneg (show 0 ≤ x by omega) hy.1
      rw [Int.neg_mul]
      omega
  rw [Int.neg_mul] at h2
  omega
theorem blend_ok (nut bridge parts : Int) (j : Nat) (hn : 0 ≤ nut ∧ nut ≤ 2000) (hb : 0 ≤ bridge ∧ bridge ≤ 2000) (hp : 1 ≤ parts ∧ parts ≤ 24) (hj : j ≤ 100) : impl_blend 0 nut parts bridge j = some (highN nut bridge parts j) := by
  rw [impl_blend_eq, highN]
  by_cases h0 : (j : Int) ≤ 0
  · simp only [h0, decide_true, if_true]
  · have h1 : ¬ parts ≤ 0 := by omega
    simp only [h0, h1, decide_false, Bool.false_eq_true, if_false]
    by_cases h2 : (j : Int) ≥ parts
    · simp only [h2, decide_true, if_true]
    · simp only [h2, decide_false, Bool.false_eq_true, if_false, impl_blend_p0_eq]
      have hm := mul_bd (x := bridge - nut) (y := j) (a := 2000) (b := 100) (by omega) (by omega) (by omega)
      have hr := rdivP_bd (a := (bridge - nut) * j) (b := parts) (m := 200000) (by omega) (by omega)
      rw [w64 (n := bridge - nut) (by omega) (by omega), w64 (n := (j : Int) - 0) (by omega) (by omega), Int.sub_zero, w64 (n := (bridge - nut) * j) (by omega) (by omega), w64 (n := parts - 0) (by omega) (by omega), Int.sub_zero, impl_divRound_ok _ _ (by omega) (by omega), Option.bind_some, w64 (by omega) (by omega)]
theorem heights_loop (nut bridge parts : Int) (hn : 0 ≤ nut ∧ nut ≤ 2000) (hb : 0 ≤ bridge ∧ bridge ≤ 2000) (hp : 1 ≤ parts ∧ parts ≤ 24) :
    ∀ (k i : Nat), (i : Int) + k = parts + 1 → impl_HeightsAlong_p1 nut bridge parts (parts + 1) i ((List.range i).map (highN nut bridge parts)) = some ((List.range (parts + 1).toNat).map (highN nut bridge parts), 0)
  | 0, i, hk => by
    rw [impl_HeightsAlong_p1_eq]
    have : ¬ (i : Int) < parts + 1 := by omega
    have hi : i = (parts + 1).toNat := by omega
    simp only [this, decide_false, Bool.false_eq_true, if_false, List.take_length]
    rw [hi]
  | k + 1, i, hk => by
    have hlt : (i : Int) < parts + 1 := by omega
    have hw1 : IntKind.i64.wrap ((i : Int) + 1) = ((i + 1 : Nat) : Int) := by rw [w64 (by omega) (by omega)]; omega
    have hl : ((List.range i).map (highN nut bridge parts)).length + 1 < lim := by simp [lim_eq]; omega
    have ih := heights_loop nut bridge parts hn hb hp k (i + 1) (by omega)
    rw [List.range_succ, List.map_append] at ih
    rw [impl_HeightsAlong_p1_eq]
    simp only [hlt, decide_true, if_true, blend_ok nut bridge parts i hn hb hp (by omega), Option.bind_some, hl, List.take_length, hw1]
    exact ih
theorem high_err (nut bridge parts : Int) (j : Nat) (hn : 0 ≤ nut ∧ nut ≤ 2000) (hb : 0 ≤ bridge ∧ bridge ≤ 2000) (hp : 1 ≤ parts ∧ parts ≤ 24) (hj : (j : Int) ≤ parts) :
    absI (highN nut bridge parts j * parts - nut * parts - (bridge - nut) * j) ≤ parts ∧ 0 - 300000 ≤ highN nut bridge parts j ∧ highN nut bridge parts j ≤ 300000 := by
  unfold highN
  by_cases h0 : (j : Int) ≤ 0
  · have : (j : Int) = 0 := by omega
    rw [if_pos h0, this, Int.mul_zero, absI_le]; omega
  · rw [if_neg h0]
    by_cases h2 : (j : Int) ≥ parts
    · have e : (j : Int) = parts := by omega
      rw [if_pos h2, e, Int.sub_mul, absI_le]; omega
    · rw [if_neg h2]
      have hm := mul_bd (x := bridge - nut) (y := j) (a := 2000) (b := 100) (by omega) (by omega) (by omega)
      have hr := rdivP_bd (a := (bridge - nut) * j) (b := parts) (m := 200000) (by omega) (by omega)
      have he := rdivP_err (a := (bridge - nut) * j) (b := parts) (by omega)
      have e2 : (nut + rdivP ((bridge - nut) * j) parts) * parts - nut * parts - (bridge - nut) * j = rdivP ((bridge - nut) * j) parts * parts - (bridge - nut) * j := by rw [Int.add_mul]; omega
      rw [e2]
      omega
theorem law_p7 (nut bridge parts : Int) (hn : 0 ≤ nut ∧ nut ≤ 2000) (hb : 0 ≤ bridge ∧ bridge ≤ 2000) (hp : 1 ≤ parts ∧ parts ≤ 24) :
    ∀ (k i : Nat), (i : Int) + k = parts + 1 → laws_FnSetNecks_p7 nut bridge parts i ((List.range (parts + 1).toNat).map (highN nut bridge parts)) = some true
  | 0, i, hk => by
    rw [laws_FnSetNecks_p7_eq]
    have : ¬ (i : Int) ≤ parts := by omega
    simp only [this, decide_false, Bool.false_eq_true, if_false]
  | k + 1, i, hk => by
    have hle : (i : Int) ≤ parts := by omega
    have hw1 : IntKind.i64.wrap ((i : Int) + 1) = ((i + 1 : Nat) : Int) := by rw [w64 (by omega) (by omega)]; omega
    have ih := law_p7 nut bridge parts hn hb hp k (i + 1) (by omega)
    have hlen : ((List.range (parts + 1).toNat).map (highN nut bridge parts)).length = (parts + 1).toNat := by simp
    have hlt : (i : Int) < (((List.range (parts + 1).toNat).map (highN nut bridge parts)).length : Int) := by rw [hlen]; omega
    have hget : ((List.range (parts + 1).toNat).map (highN nut bridge parts))[i]? = some (highN nut bridge parts i) := by
      rw [List.getElem?_map, List.getElem?_range (by omega)]; rfl
    obtain ⟨he, hh⟩ := high_err nut bridge parts i hn hb hp hle
    have m1 := mul_bd (x := highN nut bridge parts i) (y := parts) (a := 300000) (b := 24) (by omega) (by omega) (by omega)
    have m2 := mul_bd (x := nut) (y := parts) (a := 2000) (b := 24) (by omega) (by omega) (by omega)
    have m3 := mul_bd (x := bridge - nut) (y := i) (a := 2000) (b := 24) (by omega) (by omega) (by omega)
    have n1 : ¬ absI (highN nut bridge parts i * parts - nut * parts - (bridge - nut) * i) > parts := by omega
    rw [laws_FnSetNecks_p7_eq]
    simp only [hle, hlt, Int.natCast_nonneg, decide_true, Bool.and_self, if_true, Int.toNat_natCast, hget, Option.bind_some, hw1, ih]
    rw [w64 (n := highN nut bridge parts i * parts) (by omega) (by omega), w64 (n := nut * parts) (by omega) (by omega), w64 (n := highN nut bridge parts i * parts - nut * parts) (by omega) (by omega), w64 (n := bridge - nut) (by omega) (by omega), w64 (n := (bridge - nut) * i) (by omega) (by omega), w64 (n := highN nut bridge parts i * parts - nut * parts - (bridge - nut) * i) (by omega) (by omega), laws_b10Abs_ok _ (by omega), Option.bind_some]
    simp only [n1, decide_false, Bool.false_eq_true, if_false]

theorem law_p5 (code : List Int) (h1 : ∀ x, x ∈ code → 0 ≤ x ∧ x ≤ 255) (h2 : code.length ≤ 1048576) : laws_FnSetNecks_p5 code = some true := by
  obtain ⟨nut, bridge, parts, e⟩ := spec_DrawHeightsAlong_ok code h1 h2
  rw [laws_FnSetNecks_p5_eq, e, Option.bind_some, impl_HeightsAlong_eq]
  simp only [impl_isHeight_eq, impl_within_ok, Option.bind_some]
  cases hn : inR nut 0 2000
  · simp
  cases hb : inR bridge 0 2000
  · simp
  cases hp : inR parts 1 24
  · simp
  have hn := inR_iff'.1 hn
  have hb := inR_iff'.1 hb
  have hp := inR_iff'.1 hp
  have hl := heights_loop nut bridge parts hn hb hp (parts + 1).toNat 0 (by omega)
  have hlen : ((List.range (parts + 1).toNat).map (highN nut bridge parts)).length = (parts + 1).toNat := by simp
  have hc : (((List.range (parts + 1).toNat).map (highN nut bridge parts)).length : Int) = parts + 1 := by rw [hlen]; omega
  have g0 : ((List.range (parts + 1).toNat).map (highN nut bridge parts))[0]? = some nut := by
    rw [List.getElem?_map, List.getElem?_range (by omega)]; rfl
  have g1 : ((List.range (parts + 1).toNat).map (highN nut bridge parts))[parts.toNat]? = some bridge := by
    rw [List.getElem?_map, List.getElem?_range (by omega)]
    simp only [Option.map_some, highN]
    rw [if_neg (by omega), if_pos (by omega)]
  have n1 : ¬ parts < 1 := by omega
  have p1 : (0 : Int) < parts + 1 := by omega
  have p2 : (0 : Int) ≤ parts := by omega
  have p3 : parts < parts + 1 := by omega
  have hl0 : impl_HeightsAlong_p1 nut bridge parts (parts + 1) 0 [] = some ((List.range (parts + 1).toNat).map (highN nut bridge parts), 0) := hl
  simp only [Bool.not_true, Bool.false_eq_true, if_false, impl_HeightsAlong_p0_eq]
  rw [w64 (n := parts + 1) (by omega) (by omega), hl0, Option.bind_some]
  simp only [hc, n1, p1, p2, p3, g0, g1, bne_self_eq_false, Bool.false_eq_true, if_false, decide_false, decide_true, Bool.and_self, if_true, Option.bind_some, laws_FnSetNecks_p6_eq]
  exact law_p7 nut bridge parts hn hb hp (parts + 1).toNat 0 (by omega)

theorem law_p2 (code more : List Int) (h1 : ∀ x, x ∈ code → 0 ≤ x ∧ x ≤ 255) (h2 : code.length ≤ 1048576) (m1 : ∀ x, x ∈ more → 0 ≤ x ∧ x ≤ 255) (m2 : more.length ≤ 1048576) : laws_FnSetNecks_p2 code more = some true := by
  obtain ⟨xs, height, off, e, hl⟩ := spec_DrawSetNecks_ok more m1 m2
  have h5 := law_p5 code h1 h2
  rw [laws_FnSetNecks_p2_eq, e, Option.bind_some]
  simp only [List.take_length]
  rw [impl_SetNecks_eq, impl_necksCode_ok xs (by omega)]
  simp only [Option.bind_some]
  cases hall : xs.all neckOk
  · simp [h5]
  by_cases h64 : ¬ (xs.length : Int) ≤ 64
  · simp [h64, h5]
  have h64 : (xs.length : Int) ≤ 64 := by omega
  simp only [h64, if_true, bne_self_eq_false, Bool.false_eq_true, if_false, impl_isHeight_eq, impl_within_ok, Option.bind_some]
  cases hh : inR height 0 2000
  · simp [h5]
  cases ho : inR off 0 1000
  · simp [h5]
  have hh := inR_iff'.1 hh
  have hok : ∀ x, x ∈ xs → neckOk x = true := List.all_eq_true.1 hall
  let P : Nat → Bool := fun j => if h : j < xs.length then decide (absI (projN xs[j] - height) ≤ off) else false
  have hP : ∀ (j : Nat) (h : j < xs.length), P j = decide (absI (projN xs[j] - height) ≤ off) := fun j h => dif_pos h
  have hloop : impl_SetNecks_p1 height off xs xs.length 0 [] = some (idx P xs.length, 0) := set_loop xs (by omega) hok height off hh P hP xs.length 0 (by omega)
  have hrise := laws_b10Rises_ok (idx P xs.length) xs.length (by have := idx_len P xs.length; omega) (idx_bd P xs.length) (idx_rise P xs.length)
  have h4 := law_p4 code xs (by omega) hok height off hh P hP xs.length 0 (by omega)
  simp only [Bool.not_true, Bool.false_eq_true, if_false, impl_SetNecks_p0_eq, hloop, Option.bind_some, beq_self_eq_true, if_true, List.take_length, hrise]
  exact h4.trans h5

theorem law_core (code more : List Int) (h1 : ∀ x, x ∈ code → 0 ≤ x ∧ x ≤ 255) (m1 : ∀ x, x ∈ more → 0 ≤ x ∧ x ≤ 255) : laws_FnSetNecks code more = some true := by
  rw [laws_FnSetNecks_eq, laws_b10Long_eq, laws_b10Long_eq]
  simp only [Option.bind_some, decide_eq_true_eq]
  by_cases c1 : (code.length : Int) > 1048576
  · simp [c1]
  by_cases c2 : (more.length : Int) > 1048576
  · simp [c2]
  simp only [c1, c2, if_false]
  have h2 : code.length ≤ 1048576 := by omega
  have m2 : more.length ≤ 1048576 := by omega
  have hp2 := law_p2 code more h1 h2 m1 m2
  obtain ⟨xs, w, e, hl⟩ := spec_DrawNearestNeck_ok code h1 h2
  rw [laws_FnSetNecks_p0_eq, e, Option.bind_some]
  simp only [List.take_length]
  rw [show ((w.1, w.2.1, w.2.2.1, w.2.2.2.1, ()) : T_Neck.ty) = w from rfl, impl_NearestNeck_eq, impl_ValidNeck_ok, impl_necksCode_ok xs (by omega)]
  simp only [Option.bind_some]
  cases hw : neckOk w
  · simp [hp2]
  cases hall : xs.all neckOk
  · simp [hp2]
  by_cases h64 : ¬ (xs.length : Int) ≤ 64
  · simp [h64, hp2]
  have h64 : (xs.length : Int) ≤ 64 := by omega
  simp only [h64, if_true, bne_self_eq_false, Bool.false_eq_true, if_false, Bool.not_true]
  by_cases hz : xs.length = 0
  · simp [hz, hp2]
  have hz' : ((xs.length : Int) == 0) = false := by
    rw [beq_eq_false_iff_ne]; omega
  have hok : ∀ x, x ∈ xs → neckOk x = true := List.all_eq_true.1 hall
  let dd : Nat → Int := fun j => if h : j < xs.length then awayN xs[j] w else 0
  have hd : ∀ (j : Nat) (h : j < xs.length), dd j = awayN xs[j] w := fun j h => dif_pos h
  obtain ⟨b, hb, h3, h4, h5⟩ := nearest_loop xs w (by omega) hok hw dd hd xs.length 0 0 (by omega) (by omega) (fun j hj => by omega) (fun j hj => by omega)
  have h5' : impl_NearestNeck_p0 xs 0 xs xs.length 0 w.1 w.2.1 w.2.2.1 w.2.2.2.1 = some ((b : Int), dd b, 0) := h5
  have n1 : ¬ (b : Int) < 0 := by omega
  have n2 : ¬ (b : Int) ≥ (xs.length : Int) := by omega
  have h6 := law_p3 code more xs w (by omega) hok hw dd hd b hb h3 h4 xs.length 0 (by omega)
  simp only [hz', Bool.false_eq_true, if_false, h5', Option.bind_some, beq_self_eq_true, if_true, n1, n2, decide_false, laws_FnSetNecks_p1_eq]
  exact h6.trans hp2
theorem laws_FnSetNecks_true (code more : List Int) (h : CT.wf (.sl (.one (.int .u8))) code) (h' : CT.wf (.sl (.one (.int .u8))) more) : laws_FnSetNecks code more = some true :=
  law_core code more (bytes_ok h) (bytes_ok h')
end Go.Ab.P
