/- Lemmas on functions of the program. Conditions: told in each. -/
import Derived.Test.YtdejhkhdilcadaaPFnExactBarLines
set_option linter.unusedVariables false
set_option linter.unusedSimpArgs false
namespace Go.Ab.P
open Go.Ab
/-- A list made element by element is the list. -/
theorem toLoop {α : Type} (xs : List α) (to1 : α → Option α) (p0 : List α → Nat → Int → List α → Option (List α))
    (heq : ∀ (n : Nat) (i : Int) (r : List α), p0 xs n i r = if decide (i < (xs.length : Int)) then (if decide (0 ≤ i) then (xs[i.toNat]?).bind fun x1 => (to1 x1).bind fun x2 => if decide (0 ≤ i) && decide (i < (n : Int)) then (r[i.toNat]?).bind fun x3 => p0 xs n (IntKind.i64.wrap (i + 1)) (r.set i.toNat x2) else none else none) else some (r.take n))
    (hs : xs.length ≤ 1099511627776) (h1 : ∀ x, x ∈ xs → to1 x = some x) :
    ∀ (k i : Nat) (r : List α), i + k = xs.length → r.length = xs.length → r.take i = xs.take i → p0 xs xs.length i r = some xs
  | 0, i, r, hk, hr, ht => by
    rw [heq]
    have : ¬ (i : Int) < (xs.length : Int) := by omega
    simp only [this, decide_false, Bool.false_eq_true, if_false]
    have hi : i = xs.length := by omega
    rw [hi] at ht
    rw [ht, List.take_length]
  | k + 1, i, r, hk, hr, ht => by
    have hi : i < xs.length := by omega
    have hlt : (i : Int) < (xs.length : Int) := by omega
    have hw : IntKind.i64.wrap ((i : Int) + 1) = ((i + 1 : Nat) : Int) := by rw [w64 (by omega) (by omega)]; omega
    rw [heq]
    simp only [hlt, decide_true, if_true, Int.natCast_nonneg, Int.toNat_natCast, List.getElem?_eq_getElem hi, Option.bind_some, h1 xs[i] (List.getElem_mem hi), Bool.and_self, List.getElem?_eq_getElem (show i < r.length by omega), hw]
    refine toLoop xs to1 p0 heq hs h1 k (i + 1) (r.set i xs[i]) (by omega) (by simp [hr]) ?_
    rw [List.take_add_one, List.take_add_one, List.getElem?_set_self (by omega), List.getElem?_eq_getElem hi, List.take_set_of_le (by omega), ht]
theorem toList_ok {α : Type} (xs : List α) (z : α) (to1 : α → Option α) (p0 : List α → Nat → Int → List α → Option (List α)) (toS : List α → Option (List α))
    (heq : ∀ (n : Nat) (i : Int) (r : List α), p0 xs n i r = if decide (i < (xs.length : Int)) then (if decide (0 ≤ i) then (xs[i.toNat]?).bind fun x1 => (to1 x1).bind fun x2 => if decide (0 ≤ i) && decide (i < (n : Int)) then (r[i.toNat]?).bind fun x3 => p0 xs n (IntKind.i64.wrap (i + 1)) (r.set i.toNat x2) else none else none) else some (r.take n))
    (hS : toS xs = if decide (0 ≤ (xs.length : Int)) && decide ((xs.length : Int) ≤ (xs.length : Int)) && decide ((xs.length : Int).toNat < lim) then p0 xs ((List.replicate ((xs.length : Int).toNat) z).length) 0 (List.replicate ((xs.length : Int).toNat) z) else none)
    (hs : xs.length ≤ 1048576) (h1 : ∀ x, x ∈ xs → to1 x = some x) : toS xs = some xs := by
  rw [hS, lim_eq]
  have h2 : (xs.length : Int).toNat < 1099511627776 := by omega
  have h3 : (xs.length : Int) ≤ (xs.length : Int) := Int.le_refl _
  rw [decide_eq_true h2]
  simp only [h3, Int.natCast_nonneg, decide_true, Bool.and_self, if_true, Int.toNat_natCast, List.length_replicate]
  exact toLoop xs to1 p0 heq (by omega) h1 xs.length 0 _ (by omega) (by simp) (by simp)
/-- A list is equal to itself. -/
theorem eqLoop {α : Type} (xs : List α) (eq1 : α → α → Option Bool) (p0 : List α → List α → Int → Option Bool)
    (heq : ∀ (i : Int), p0 xs xs i = if decide (i < (xs.length : Int)) then (if decide (0 ≤ i) then (xs[i.toNat]?).bind fun x1 => if decide (0 ≤ i) then (xs[i.toNat]?).bind fun x2 => (eq1 x1 x2).bind fun x3 => if (!x3) then some false else p0 xs xs (IntKind.i64.wrap (i + 1)) else none else none) else some true)
    (hs : xs.length ≤ 1048576) (h1 : ∀ x, x ∈ xs → eq1 x x = some true) : ∀ (k i : Nat), i + k = xs.length → p0 xs xs i = some true
  | 0, i, hk => by
    rw [heq]
    have : ¬ (i : Int) < (xs.length : Int) := by omega
    simp only [this, decide_false, Bool.false_eq_true, if_false]
  | k + 1, i, hk => by
    have hi : i < xs.length := by omega
    have hlt : (i : Int) < (xs.length : Int) := by omega
    have hw : IntKind.i64.wrap ((i : Int) + 1) = ((i + 1 : Nat) : Int) := by rw [w64 (by omega) (by omega)]; omega
    rw [heq]
    simp only [hlt, decide_true, if_true, Int.natCast_nonneg, Int.toNat_natCast, List.getElem?_eq_getElem hi, Option.bind_some, h1 xs[i] (List.getElem_mem hi), Bool.not_true, Bool.false_eq_true, if_false, hw]
    exact eqLoop xs eq1 p0 heq hs h1 k (i + 1) (by omega)
theorem eqList_ok {α : Type} (xs : List α) (eq1 : α → α → Option Bool) (p0 : List α → List α → Int → Option Bool) (eqS : List α → List α → Option Bool)
    (heq : ∀ (i : Int), p0 xs xs i = if decide (i < (xs.length : Int)) then (if decide (0 ≤ i) then (xs[i.toNat]?).bind fun x1 => if decide (0 ≤ i) then (xs[i.toNat]?).bind fun x2 => (eq1 x1 x2).bind fun x3 => if (!x3) then some false else p0 xs xs (IntKind.i64.wrap (i + 1)) else none else none) else some true)
    (hS : eqS xs xs = if ((xs.length : Int) != (xs.length : Int)) then some false else p0 xs xs 0)
    (hs : xs.length ≤ 1048576) (h1 : ∀ x, x ∈ xs → eq1 x x = some true) : eqS xs xs = some true := by
  rw [hS]
  simp only [bne_self_eq_false, Bool.false_eq_true, if_false]
  exact eqLoop xs eq1 p0 heq hs h1 xs.length 0 (by omega)
/-- A loop that leaves at the first element that is not as wished. -/
theorem allLoop {α β : Type} (xs : List α) (one : α → Option Bool) (ok : α → Bool) (p0 : Int → Option β) (bad : β) (last : Option β)
    (heq : ∀ i : Int, p0 i = if decide (i < (xs.length : Int)) then (if decide (0 ≤ i) then (xs[i.toNat]?).bind fun x1 => (one x1).bind fun x2 => if (!x2) then some bad else p0 (IntKind.i64.wrap (i + 1)) else none) else last)
    (hs : xs.length ≤ 1099511627776) (h1 : ∀ x, x ∈ xs → one x = some (ok x)) :
    ∀ (k i : Nat), i + k = xs.length → p0 i = if (xs.drop i).all ok then last else some bad
  | 0, i, hk => by
    rw [heq, List.drop_eq_nil_of_le (by omega)]
    have : ¬ (i : Int) < (xs.length : Int) := by omega
    simp [this]
  | k + 1, i, hk => by
    have hi : i < xs.length := by omega
    have hlt : (i : Int) < (xs.length : Int) := by omega
    have hw : IntKind.i64.wrap ((i : Int) + 1) = ((i + 1 : Nat) : Int) := by rw [w64 (by omega) (by omega)]; omega
    have ih := allLoop xs one ok p0 bad last heq hs h1 k (i + 1) (by omega)
    rw [heq, List.drop_eq_getElem_cons hi]
    simp only [hlt, decide_true, if_true, Int.natCast_nonneg, Int.toNat_natCast, List.getElem?_eq_getElem hi, Option.bind_some, h1 xs[i] (List.getElem_mem hi), hw, ih, List.all_cons]
    by_cases hok : ok xs[i] = true
    · simp [hok]
    · simp [hok]
theorem tdiv_nonneg_eq {a b : Int} (ha : 0 ≤ a) : a.tdiv b = a / b := Int.tdiv_eq_ediv_of_nonneg ha
def inR (n lo hi : Int) : Bool := decide (lo ≤ n) && decide (n ≤ hi)
theorem inR_iff' {n lo hi : Int} : inR n lo hi = true ↔ lo ≤ n ∧ n ≤ hi := by simp [inR]

theorem impl_within_ok (n lo hi : Int) : impl_within n lo hi = some (inR n lo hi) := by
  rw [impl_within_eq, inR]; by_cases h : lo ≤ n <;> simp [h]

theorem spec_l00In_ok (n lo hi : Int) : spec_l00In n lo hi = some (inR n lo hi) := by
  rw [spec_l00In_eq, inR]; by_cases h : lo ≤ n <;> simp [h]

theorem spec_l00Max_ok (a b : Int) : spec_l00Max a b = some (if b > a then b else a) := by
  rw [spec_l00Max_eq]; simp only [decide_eq_true_eq]; repeat' split
  all_goals first | rfl | (congr 1; omega)

theorem eqInt64S_loop (xs : List Int) (hs : xs.length ≤ 1048576) : ∀ (k i : Nat), i + k = xs.length → laws_eqInt64S_p0 xs xs i = some true
  | 0, i, hk => by
    rw [laws_eqInt64S_p0_eq]
    have : ¬ (i : Int) < (xs.length : Int) := by omega
    simp only [this, decide_false, Bool.false_eq_true, if_false]
  | k + 1, i, hk => by
    have hi : i < xs.length := by omega
    have hlt : (i : Int) < (xs.length : Int) := by omega
    have hw : IntKind.i64.wrap ((i : Int) + 1) = ((i + 1 : Nat) : Int) := by rw [w64 (by omega) (by omega)]; omega
    rw [laws_eqInt64S_p0_eq]
    simp only [hlt, decide_true, if_true, Int.natCast_nonneg, Int.toNat_natCast, List.getElem?_eq_getElem hi, Option.bind_some, bne_self_eq_false, Bool.false_eq_true, if_false, hw]
    exact eqInt64S_loop xs hs k (i + 1) (by omega)
theorem eqInt64S_ok (xs : List Int) (hs : xs.length ≤ 1048576) : laws_eqInt64S xs xs = some true := by
  rw [laws_eqInt64S_eq]
  simp only [bne_self_eq_false, Bool.false_eq_true, if_false]
  exact eqInt64S_loop xs hs xs.length 0 (by omega)

/-- Numbers one behind the other. -/
def runs (m : Int) : Nat → List Int
  | 0 => []
  | n + 1 => m :: runs (m + 1) n
theorem runs_len (m : Int) (n : Nat) : (runs m n).length = n := by
  induction n generalizing m with
  | zero => rfl
  | succ n ih => simp [runs, ih]
theorem runs_get (m : Int) (n i : Nat) (h : i < n) : (runs m n)[i]? = some (m + i) := by
  induction n generalizing m i with
  | zero => omega
  | succ n ih =>
    cases i with
    | zero => simp [runs]
    | succ i =>
      simp only [runs, List.getElem?_cons_succ]
      rw [ih (m + 1) i (by omega)]
      congr 1; omega

theorem markInt64S_loop (m0 : Int) (n : Nat) (h0 : 0 ≤ m0) (hb : m0 + n ≤ 4611686018427387904) : ∀ (k i : Nat) (r : List Int), i + k = n → r.length = n → r.take i = (runs m0 n).take i →
    laws_markInt64S_p0 n n (m0 + i) i r = some (m0 + n, runs m0 n)
  | 0, i, r, hk, hr, ht => by
    rw [laws_markInt64S_p0_eq]
    have : ¬ (i : Int) < (n : Int) := by omega
    simp only [this, decide_false, Bool.false_eq_true, if_false, hr, decide_true, if_true]
    have hi : i = n := by omega
    have e : r = runs m0 n := by
      have h1 : r.take i = r := List.take_of_length_le (by omega)
      have h2 : (runs m0 n).take i = runs m0 n := List.take_of_length_le (by rw [runs_len]; omega)
      rw [h1, h2] at ht; exact ht
    rw [e, hi]
  | k + 1, i, r, hk, hr, ht => by
    have hi : i < r.length := by omega
    have hlt : (i : Int) < (n : Int) := by omega
    have hw : IntKind.i64.wrap ((i : Int) + 1) = ((i + 1 : Nat) : Int) := by rw [w64 (by omega) (by omega)]; omega
    have hw2 : IntKind.i64.wrap (m0 + i + 1) = m0 + ((i + 1 : Nat) : Int) := by rw [w64 (by omega) (by omega)]; omega
    rw [laws_markInt64S_p0_eq]
    simp only [hlt, decide_true, if_true, Int.natCast_nonneg, Int.toNat_natCast, List.getElem?_eq_getElem hi, Option.bind_some, Bool.and_self, hw, hw2]
    refine markInt64S_loop m0 n h0 hb k (i + 1) (r.set i (m0 + i)) (by omega) (by simp [hr]) ?_
    rw [List.take_add_one, List.take_add_one, List.getElem?_set_self hi, runs_get m0 n i (by omega), List.take_set_of_le (by omega), ht]
theorem markInt64S_ok (xs : List Int) (m : Int) (h0 : 0 ≤ m) (hb : m + xs.length ≤ 4611686018427387904) : laws_markInt64S xs m = some (m + xs.length, runs m xs.length) := by
  rw [laws_markInt64S_eq]
  have := markInt64S_loop m xs.length h0 hb xs.length 0 xs (by omega) rfl rfl
  simpa using this

theorem markText_p0_ok : ∀ (k : Nat) (n : Int) (s : List UInt8), n.toNat < k → 0 ≤ n → n < 4611686018427387904 → s.length + k ≤ 9223372036854775000 → ∃ t, laws_markText_p0 n s = some t
  | 0, n, s, hk, h0, h1, hs => by omega
  | k + 1, n, s, hk, h0, h1, hs => by
    rw [laws_markText_p0_eq]
    by_cases hp : n > 0
    · simp only [hp, decide_true, if_true]
      have e : n.tdiv 10 = n / 10 := tdiv_nonneg_eq h0
      rw [e, w64 (n := n / 10) (by omega) (by omega)]
      have hl : ([IntKind.u8.wrap (IntKind.i64.wrap (48 + (n.tmod 10)))].map vu8).length + s.length ≤ strMax := by rw [strMax_eq]; simp; omega
      simp only [hl, decide_true, if_true]
      exact markText_p0_ok k (n / 10) _ (by omega) (by omega) (by omega) (by simp; omega)
    · have hl : [(109 : UInt8)].length + s.length ≤ strMax := by rw [strMax_eq]; simp; omega
      refine ⟨[(109 : UInt8)] ++ s, ?_⟩
      simp only [hp, decide_false, Bool.false_eq_true, if_false]
      exact if_pos (decide_eq_true hl)
theorem markText_ok (n : Int) (h : n < 4611686018427387904) : ∃ t, laws_markText n = some t := by
  rw [laws_markText_eq]
  by_cases h0 : n ≤ 0
  · simp only [h0, decide_true, if_true]; exact ⟨_, rfl⟩
  · simp only [h0, decide_false, Bool.false_eq_true, if_false]
    exact markText_p0_ok (n.toNat + 1) n [] (by omega) (by omega) h (by simp; omega)

/-- The marks of a list of texts. -/
noncomputable def markT (n : Int) : List UInt8 := (laws_markText n).getD []
noncomputable def tmarks (m : Int) : Nat → List (List UInt8)
  | 0 => []
  | n + 1 => markT m :: tmarks (m + 1) n
theorem markT_ok (n : Int) (h : n < 4611686018427387904) : laws_markText n = some (markT n) := by
  obtain ⟨t, e⟩ := markText_ok n h
  rw [markT, e]; rfl
theorem tmarks_len (m : Int) (n : Nat) : (tmarks m n).length = n := by
  induction n generalizing m with
  | zero => rfl
  | succ n ih => simp [tmarks, ih]
theorem tmarks_get (m : Int) (n i : Nat) (h : i < n) : (tmarks m n)[i]? = some (markT (m + i)) := by
  induction n generalizing m i with
  | zero => omega
  | succ n ih =>
    cases i with
    | zero => simp [tmarks]
    | succ i =>
      simp only [tmarks, List.getElem?_cons_succ]
      rw [ih (m + 1) i (by omega)]
      congr 2; omega

theorem markStringS_loop (m0 : Int) (n : Nat) (h0 : 0 ≤ m0) (hb : m0 + n ≤ 4611686018427387) : ∀ (k i : Nat) (r : List (List UInt8)), i + k = n → r.length = n → r.take i = (tmarks m0 n).take i →
    laws_markStringS_p0 n n (m0 + i) i r = some (m0 + n, tmarks m0 n)
  | 0, i, r, hk, hr, ht => by
    rw [laws_markStringS_p0_eq]
    have : ¬ (i : Int) < (n : Int) := by omega
    simp only [this, decide_false, Bool.false_eq_true, if_false, hr, decide_true, if_true]
    have hi : i = n := by omega
    have e : r = tmarks m0 n := by
      have h1 : r.take i = r := List.take_of_length_le (by omega)
      have h2 : (tmarks m0 n).take i = tmarks m0 n := List.take_of_length_le (by rw [tmarks_len]; omega)
      rw [h1, h2] at ht; exact ht
    rw [e, hi]
  | k + 1, i, r, hk, hr, ht => by
    have hi : i < r.length := by omega
    have hlt : (i : Int) < (n : Int) := by omega
    have hw : IntKind.i64.wrap ((i : Int) + 1) = ((i + 1 : Nat) : Int) := by rw [w64 (by omega) (by omega)]; omega
    have hw2 : IntKind.i64.wrap (m0 + i + 1) = m0 + ((i + 1 : Nat) : Int) := by rw [w64 (by omega) (by omega)]; omega
    rw [laws_markStringS_p0_eq]
    simp only [hlt, decide_true, if_true, Int.natCast_nonneg, Int.toNat_natCast, List.getElem?_eq_getElem hi, Option.bind_some, Bool.and_self, hw, hw2, markT_ok (m0 + i) (by omega)]
    refine markStringS_loop m0 n h0 hb k (i + 1) (r.set i (markT (m0 + i))) (by omega) (by simp [hr]) ?_
    rw [List.take_add_one, List.take_add_one, List.getElem?_set_self hi, tmarks_get m0 n i (by omega), List.take_set_of_le (by omega), ht]
theorem markStringS_ok (xs : List (List UInt8)) (m : Int) (h0 : 0 ≤ m) (hb : m + xs.length ≤ 4611686018427387) : laws_markStringS xs m = some (m + xs.length, tmarks m xs.length) := by
  rw [laws_markStringS_eq]
  have := markStringS_loop m xs.length h0 hb xs.length 0 xs (by omega) rfl rfl
  simpa using this

theorem heldStringS_loop (m0 : Int) (n : Nat) (h0 : 0 ≤ m0) (hb : m0 + n ≤ 4611686018427387) : ∀ (k i : Nat), i + k = n → laws_heldStringS_p0 (tmarks m0 n) (m0 + i) i = some (m0 + n)
  | 0, i, hk => by
    rw [laws_heldStringS_p0_eq, tmarks_len]
    have : ¬ (i : Int) < (n : Int) := by omega
    simp only [this, decide_false, Bool.false_eq_true, if_false]
    congr 1; omega
  | k + 1, i, hk => by
    have hlt : (i : Int) < (n : Int) := by omega
    have hw : IntKind.i64.wrap ((i : Int) + 1) = ((i + 1 : Nat) : Int) := by rw [w64 (by omega) (by omega)]; omega
    have hw2 : IntKind.i64.wrap (m0 + i + 1) = m0 + ((i + 1 : Nat) : Int) := by rw [w64 (by omega) (by omega)]; omega
    rw [laws_heldStringS_p0_eq, tmarks_len]
    simp only [hlt, decide_true, if_true, Int.natCast_nonneg, Int.toNat_natCast, tmarks_get m0 n i (by omega), Option.bind_some, hw, hw2, markT_ok (m0 + i) (by omega), beq_self_eq_true, Bool.not_true, Bool.false_eq_true, if_false]
    exact heldStringS_loop m0 n h0 hb k (i + 1) (by omega)
theorem heldStringS_ok (m : Int) (n : Nat) (h0 : 0 ≤ m) (hb : m + n ≤ 4611686018427387) : laws_heldStringS (tmarks m n) m = some (m + n) := by
  rw [laws_heldStringS_eq]
  have := heldStringS_loop m n h0 hb n 0 (by omega)
  simpa using this

theorem eqStringS_ok (xs : List (List UInt8)) (hs : xs.length ≤ 1048576) : laws_eqStringS xs xs = some true :=
  eqList_ok xs (fun x y => some (x == y)) laws_eqStringS_p0 laws_eqStringS (fun i => laws_eqStringS_p0_eq xs xs i) (laws_eqStringS_eq xs xs) hs (fun x _ => by rw [beq_self_eq_true])

/-- A line that a report may hold, and a report. -/
def lineOk (s : List UInt8) : Bool := (s.all fun c => inR (c.toNat : Int) 32 126) && decide ((s.length : Int) ≤ 100)
def reportOk (ls : List (List UInt8)) : Bool := ls.all lineOk && decide ((ls.length : Int) ≤ 200)
theorem ifSome {a b : Bool} : (if a = true then some b else some false) = some (a && b) := by cases a <;> rfl

theorem spec_l30Line_ok (s : List UInt8) (hs : s.length ≤ 1048576) : spec_l30Line s = some (lineOk s) := by
  rw [spec_l30Line_eq]
  have := allLoop s (fun c => some (inR (c.toNat : Int) 32 126)) (fun c => inR (c.toNat : Int) 32 126) (fun i => spec_l30Line_p0 s i) false (some (decide ((s.length : Int) ≤ 100))) (fun i => by
    show spec_l30Line_p0 s i = _
    rw [spec_l30Line_p0_eq]
    by_cases h : i < (s.length : Int)
    · by_cases h0 : 0 ≤ i
      · simp only [h, h0, decide_true, if_true]
        cases e : s[i.toNat]?
        · rfl
        · rename_i c
          simp only [Option.bind_some, inR]
          by_cases h1 : (c.toNat : Int) < 32
          · have h1' : ¬ 32 ≤ (c.toNat : Int) := by omega
            simp [h1, h1']
          · have h1' : 32 ≤ (c.toNat : Int) := by omega
            by_cases h2 : (c.toNat : Int) > 126
            · have h2' : ¬ (c.toNat : Int) ≤ 126 := by omega
              simp [h1, h1', h2, h2']
            · have h2' : (c.toNat : Int) ≤ 126 := by omega
              simp [h1, h1', h2, h2']
      · simp only [h, h0, decide_true, decide_false, Bool.false_eq_true, if_true, if_false]
    · simp only [h, decide_false, Bool.false_eq_true, if_false]) (by omega) (fun _ _ => rfl) s.length 0 (by omega)
  simp only [Int.ofNat_zero, Int.natCast_zero, List.drop_zero] at this
  rw [this, lineOk, ifSome]

theorem impl_isLine_ok (s : List UInt8) (hs : s.length ≤ 1048576) : impl_isLine s = some (lineOk s) := by
  rw [impl_isLine_eq]
  have := allLoop s (fun c => impl_within (IntKind.i64.wrap (c.toNat : Int)) 32 126) (fun c => inR (c.toNat : Int) 32 126) (fun i => impl_isLine_p0 s i) false (some (decide ((s.length : Int) ≤ 100))) (fun i => by
    show impl_isLine_p0 s i = _
    rw [impl_isLine_p0_eq, impl_few_eq]; rfl) (by omega) (fun c _ => by
      have hc := c.toNat_lt
      rw [impl_within_ok, w64 (by omega) (by omega)]) s.length 0 (by omega)
  simp only [Int.ofNat_zero, Int.natCast_zero, List.drop_zero] at this
  rw [this, lineOk, ifSome]

theorem spec_l30Ok_ok (ls : List (List UInt8)) (hs : ls.length ≤ 1048576) (hx : ∀ x, x ∈ ls → x.length ≤ 1048576) : spec_l30Ok ls = some (reportOk ls) := by
  rw [spec_l30Ok_eq]
  have := allLoop ls spec_l30Line lineOk (fun i => spec_l30Ok_p0 ls i) false _ (fun i => spec_l30Ok_p0_eq ls i) (by omega) (fun x h => spec_l30Line_ok x (hx x h)) ls.length 0 (by omega)
  simp only [Int.ofNat_zero, Int.natCast_zero, List.drop_zero] at this
  rw [this, reportOk, ifSome]

theorem indexReport (ls : List (List UInt8)) (hs : ls.length ≤ 1048576) (hx : ∀ x, x ∈ ls → x.length ≤ 1048576) : ∀ (k i : Nat), i + k = ls.length → ∃ r : Int, slices_IndexFunc___string_string__impl_ValidReport_1_p0 ls ls.length i = some r ∧ decide (r ≥ 0) = !((ls.drop i).all lineOk)
  | 0, i, hk => by
    refine ⟨-1, ?_, ?_⟩
    · rw [slices_IndexFunc___string_string__impl_ValidReport_1_p0_eq]
      have : ¬ (i : Int) < (ls.length : Int) := by omega
      simp only [this, decide_false, Bool.false_eq_true, if_false]
    · rw [List.drop_eq_nil_of_le (by omega)]; rfl
  | k + 1, i, hk => by
    have hi : i < ls.length := by omega
    have hlt : (i : Int) < (ls.length : Int) := by omega
    have hw : IntKind.i64.wrap ((i : Int) + 1) = ((i + 1 : Nat) : Int) := by rw [w64 (by omega) (by omega)]; omega
    rw [slices_IndexFunc___string_string__impl_ValidReport_1_p0_eq, List.drop_eq_getElem_cons hi]
    simp only [hlt, decide_true, if_true, Int.natCast_nonneg, Int.toNat_natCast, List.getElem?_eq_getElem hi, Option.bind_some, impl_ValidReport_1_eq, impl_isLine_ok ls[i] (hx _ (List.getElem_mem hi)), hw, List.all_cons]
    cases lineOk ls[i]
    · exact ⟨i, by simp, by simp⟩
    · simp only [Bool.not_true, Bool.false_eq_true, if_false, Bool.true_and]
      exact indexReport ls hs hx k (i + 1) (by omega)
theorem impl_ValidReport_ok (ls : List (List UInt8)) (hs : ls.length ≤ 1048576) (hx : ∀ x, x ∈ ls → x.length ≤ 1048576) : impl_ValidReport ls = some (reportOk ls) := by
  obtain ⟨r, r1, r2⟩ := indexReport ls hs hx ls.length 0 (by omega)
  have r1' : slices_IndexFunc___string_string__impl_ValidReport_1_p0 ls (ls.length : Int) 0 = some r := r1
  rw [List.drop_zero] at r2
  rw [impl_ValidReport_eq, impl_few_eq, slices_ContainsFunc___string_string__impl_ValidReport_1_eq, slices_IndexFunc___string_string__impl_ValidReport_1_eq, r1', reportOk]
  simp only [Option.bind_some, r2]
  cases ls.all lineOk <;> by_cases h : (ls.length : Int) ≤ 200 <;> simp [h]

theorem spec_l30Done_ok (ls : List (List UInt8)) (hs : ls.length ≤ 1048576) (hx : ∀ x, x ∈ ls → x.length ≤ 1048576) : spec_l30Done ls = some (if reportOk ls = true then (ls, 0) else ([], 5)) := by
  rw [spec_l30Done_eq, spec_l30Ok_ok ls hs hx]
  cases reportOk ls <;> simp

theorem impl_report_ok (ls : List (List UInt8)) (hs : ls.length ≤ 1048576) (hx : ∀ x, x ∈ ls → x.length ≤ 1048576) : impl_report ls = some (if reportOk ls = true then (ls, 0, ()) else ([], 5, ())) := by
  rw [impl_report_eq, List.take_length, impl_ValidReport_ok ls hs hx]
  cases reportOk ls <;> simp

theorem toInt64S_ok (xs : List Int) (hs : xs.length ≤ 1048576) : laws_toInt64S xs = some xs :=
  toList_ok xs (0 : Int) some laws_toInt64S_p0 laws_toInt64S (fun n i r => laws_toInt64S_p0_eq xs n i r) (laws_toInt64S_eq xs) hs (fun x _ => rfl)

end Go.Ab.P
