/- Lemmas on functions of the program. Conditions: told in each. -/
import Derived.Test.YtmkgkchbdhfakaaPFnExactWaterFor
set_option linter.unusedVariables false
set_option linter.unusedSimpArgs false
namespace Go.Ab.P
open Go.Ab
/-- The sizes of a list's elements: what is left. -/
theorem szLoop {α : Type} {P : α → Prop} (xs : List α) (sz1 : α → Int → Option Int) (p0 : List α → Int → Int → Option Int)
    (heq : ∀ (l i : Int), p0 xs l i = if decide (i < (xs.length : Int)) then (if decide (0 ≤ i) then (xs[i.toNat]?).bind fun x1 => (sz1 x1 l).bind fun x2 => if decide (x2 < 0) then some (-1) else p0 xs x2 (IntKind.i64.wrap (i + 1)) else none) else some l)
    (hs : xs.length ≤ 1048576) (h1 : ∀ x, x ∈ xs → ∀ l : Int, 0 ≤ l → l ≤ 1048576 → ∃ n, sz1 x l = some n ∧ n ≤ l ∧ (0 ≤ n → P x)) :
    ∀ (k i : Nat) (l : Int), i + k = xs.length → 0 ≤ l → l ≤ 1048576 → ∃ n, p0 xs l i = some n ∧ n ≤ l ∧ (0 ≤ n → ∀ x, x ∈ xs.drop i → P x)
  | 0, i, l, hk, hl, hl' => by
    refine ⟨l, ?_, Int.le_refl _, fun _ x hx => ?_⟩
    · rw [heq]
      have : ¬ (i : Int) < (xs.length : Int) := by omega
      simp only [this, decide_false, Bool.false_eq_true, if_false]
    · rw [List.drop_eq_nil_of_le (by omega)] at hx; cases hx
  | k + 1, i, l, hk, hl, hl' => by
    have hi : i < xs.length := by omega
    have hlt : (i : Int) < (xs.length : Int) := by omega
    obtain ⟨n, e1, e2, e3⟩ := h1 xs[i] (List.getElem_mem hi) l hl hl'
    rw [heq]
    simp only [hlt, decide_true, if_true, Int.natCast_nonneg, Int.toNat_natCast, List.getElem?_eq_getElem hi, Option.bind_some, e1]
    by_cases hn : n < 0
    · simp only [hn, decide_true, if_true]
      exact ⟨-1, rfl, by omega, fun h => by omega⟩
    · simp only [hn, decide_false, Bool.false_eq_true, if_false]
      have hw : IntKind.i64.wrap ((i : Int) + 1) = ((i + 1 : Nat) : Int) := by rw [w64 (by omega) (by omega)]; omega
      rw [hw]
      obtain ⟨q, f1, f2, f3⟩ := szLoop xs sz1 p0 heq hs h1 k (i + 1) n (by omega) (by omega) (by omega)
      refine ⟨q, f1, by omega, fun hq x hx => ?_⟩
      rw [List.drop_eq_getElem_cons hi] at hx
      rcases List.mem_cons.1 hx with rfl | hx
      · exact e3 (by omega)
      · exact f3 hq x hx
theorem szList {α : Type} {P : α → Prop} (xs : List α) (sz1 : α → Int → Option Int) (p0 : List α → Int → Int → Option Int) (szS : List α → Int → Option Int)
    (heq : ∀ (l i : Int), p0 xs l i = if decide (i < (xs.length : Int)) then (if decide (0 ≤ i) then (xs[i.toNat]?).bind fun x1 => (sz1 x1 l).bind fun x2 => if decide (x2 < 0) then some (-1) else p0 xs x2 (IntKind.i64.wrap (i + 1)) else none) else some l)
    (hS : ∀ l : Int, szS xs l = if decide (IntKind.i64.wrap (l - (xs.length : Int)) < 0) then some (-1) else p0 xs (IntKind.i64.wrap (l - (xs.length : Int))) 0)
    (hl : xs.length ≤ 9223372036854775807) (h1 : ∀ x, x ∈ xs → ∀ l : Int, 0 ≤ l → l ≤ 1048576 → ∃ n, sz1 x l = some n ∧ n ≤ l ∧ (0 ≤ n → P x)) (l : Int) (h0 : 0 ≤ l) (h0' : l ≤ 1048576) :
    ∃ n, szS xs l = some n ∧ n ≤ l ∧ (0 ≤ n → xs.length ≤ 1048576 ∧ ∀ x, x ∈ xs → P x) := by
  rw [hS, w64 (n := l - xs.length) (by omega) (by omega)]
  by_cases hn : l - (xs.length : Int) < 0
  · simp only [hn, decide_true, if_true]
    exact ⟨-1, rfl, by omega, fun h => by omega⟩
  · simp only [hn, decide_false, Bool.false_eq_true, if_false]
    obtain ⟨q, f1, f2, f3⟩ := szLoop xs sz1 p0 heq (by omega) h1 xs.length 0 (l - xs.length) (by omega) (by omega) (by omega)
    exact ⟨q, f1, by omega, fun hq => ⟨by omega, fun x hx => f3 hq x hx⟩⟩
/-- A list made element by element is the list. -/
theorem toLoop {α : Type} (xs : List α) (to1 : α → Option α) (p0 : List α → Nat → Int → List α → Option (List α))
    (heq : ∀ (n : Nat) (i : Int) (r : List α), p0 xs n i r = if decide (i < (xs.length : Int)) then (if decide (0 ≤ i) then (xs[i.toNat]?).bind fun x1 => (to1 x1).bind fun x2 => if decide (0 ≤ i) && decide (i < (n : Int)) then (r[i.toNat]?).bind fun x3 => p0 xs n (IntKind.i64.wrap (i + 1)) (r.set i.toNat x2) else none else none) else some (r.take n))
    (hs : xs.length ≤ 1099511627776) (h1 : ∀ x, x ∈ xs → to1 x = some x) :
    ∀ (k i : Nat) (r : List α), i + k = xs.length → r.length = xs.length → r.take i = xs.take i → p0 xs xs.length i r = some xs
  | 0, i, r, hk, hr, ht => by
    rw [heq]
    have : ¬ (i : Int) < (xs.length : Int) := by omega
    simp only [this, decide_false, Bool.false_eq_true, if_false]
    have hi : i = xs.length := by omega
    rw [hi] at ht
    rw [ht, List.take_length]
  | k + 1, i, r, hk, hr, ht => by
    have hi : i < xs.length := by omega
    have hlt : (i : Int) < (xs.length : Int) := by omega
    have hw : IntKind.i64.wrap ((i : Int) + 1) = ((i + 1 : Nat) : Int) := by rw [w64 (by omega) (by omega)]; omega
    rw [heq]
    simp only [hlt, decide_true, if_true, Int.natCast_nonneg, Int.toNat_natCast, List.getElem?_eq_getElem hi, Option.bind_some, h1 xs[i] (List.getElem_mem hi), Bool.and_self, List.getElem?_eq_getElem (show i < r.length by omega), hw]
    refine toLoop xs to1 p0 heq hs h1 k (i + 1) (r.set i xs[i]) (by omega) (by simp [hr]) ?_
    rw [List.take_add_one, List.take_add_one, List.getElem?_set_self (by omega), List.getElem?_eq_getElem hi, List.take_set_of_le (by omega), ht]
theorem toList_ok {α : Type} (xs : List α) (z : α) (to1 : α → Option α) (p0 : List α → Nat → Int → List α → Option (List α)) (toS : List α → Option (List α))
    (heq : ∀ (n : Nat) (i : Int) (r : List α), p0 xs n i r = if decide (i < (xs.length : Int)) then (if decide (0 ≤ i) then (xs[i.toNat]?).bind fun x1 => (to1 x1).bind fun x2 => if decide (0 ≤ i) && decide (i < (n : Int)) then (r[i.toNat]?).bind fun x3 => p0 xs n (IntKind.i64.wrap (i + 1)) (r.set i.toNat x2) else none else none) else some (r.take n))
    (hS : toS xs = if decide (0 ≤ (xs.length : Int)) && decide ((xs.length : Int) ≤ (xs.length : Int)) && decide ((xs.length : Int) < (lim : Int)) then p0 xs ((List.replicate ((xs.length : Int).toNat) z).length) 0 (List.replicate ((xs.length : Int).toNat) z) else none)
    (hs : xs.length ≤ 1048576) (h1 : ∀ x, x ∈ xs → to1 x = some x) : toS xs = some xs := by
  rw [hS, lim_eq]
  have h2 : (xs.length : Int) < ((1099511627776 : Nat) : Int) := by omega
  have h3 : (xs.length : Int) ≤ (xs.length : Int) := Int.le_refl _
  simp only [h2, h3, Int.natCast_nonneg, decide_true, Bool.and_self, if_true, Int.toNat_natCast, List.length_replicate]
  exact toLoop xs to1 p0 heq (by omega) h1 xs.length 0 _ (by omega) (by simp) (by simp)
/-- A list is equal to itself. -/
theorem eqLoop {α : Type} (xs : List α) (eq1 : α → α → Option Bool) (p0 : List α → List α → Int → Option Bool)
    (heq : ∀ (i : Int), p0 xs xs i = if decide (i < (xs.length : Int)) then (if decide (0 ≤ i) then (xs[i.toNat]?).bind fun x1 => if decide (0 ≤ i) then (xs[i.toNat]?).bind fun x2 => (eq1 x1 x2).bind fun x3 => if (!x3) then some false else p0 xs xs (IntKind.i64.wrap (i + 1)) else none else none) else some true)
    (hs : xs.length ≤ 1048576) (h1 : ∀ x, x ∈ xs → eq1 x x = some true) : ∀ (k i : Nat), i + k = xs.length → p0 xs xs i = some true
  | 0, i, hk => by
    rw [heq]
    have : ¬ (i : Int) < (xs.length : Int) := by omega
    simp only [this, decide_false, Bool.false_eq_true, if_false]
  | k + 1, i, hk => by
    have hi : i < xs.length := by omega
    have hlt : (i : Int) < (xs.length : Int) := by omega
    have hw : IntKind.i64.wrap ((i : Int) + 1) = ((i + 1 : Nat) : Int) := by rw [w64 (by omega) (by omega)]; omega
    rw [heq]
    simp only [hlt, decide_true, if_true, Int.natCast_nonneg, Int.toNat_natCast, List.getElem?_eq_getElem hi, Option.bind_some, h1 xs[i] (List.getElem_mem hi), Bool.not_true, Bool.false_eq_true, if_false, hw]
    exact eqLoop xs eq1 p0 heq hs h1 k (i + 1) (by omega)
theorem eqList_ok {α : Type} (xs : List α) (eq1 : α → α → Option Bool) (p0 : List α → List α → Int → Option Bool) (eqS : List α → List α → Option Bool)
    (heq : ∀ (i : Int), p0 xs xs i = if decide (i < (xs.length : Int)) then (if decide (0 ≤ i) then (xs[i.toNat]?).bind fun x1 => if decide (0 ≤ i) then (xs[i.toNat]?).bind fun x2 => (eq1 x1 x2).bind fun x3 => if (!x3) then some false else p0 xs xs (IntKind.i64.wrap (i + 1)) else none else none) else some true)
    (hS : eqS xs xs = if ((xs.length : Int) != (xs.length : Int)) then some false else p0 xs xs 0)
    (hs : xs.length ≤ 1048576) (h1 : ∀ x, x ∈ xs → eq1 x x = some true) : eqS xs xs = some true := by
  rw [hS]
  simp only [bne_self_eq_false, Bool.false_eq_true, if_false]
  exact eqLoop xs eq1 p0 heq hs h1 xs.length 0 (by omega)
/-- A list whose elements are all as wished, their names rising. -/
def sortedChk {α : Type} (ok : α → Bool) (id : α → List UInt8) : Option α → List α → Bool
  | _, [] => true
  | p, x :: r => ok x && ((match p with | none => true | some y => Op.bytesLess (id y) (id x)) && sortedChk ok id (some x) r)
theorem sortedChk_all {α : Type} {ok : α → Bool} {id : α → List UInt8} : ∀ {l : List α} {p : Option α}, sortedChk ok id p l = true → ∀ x, x ∈ l → ok x = true
  | [], _, _, x, hx => by cases hx
  | y :: r, p, h, x, hx => by
    simp only [sortedChk, Bool.and_eq_true] at h
    rcases List.mem_cons.1 hx with rfl | hx
    · exact h.1
    · exact sortedChk_all h.2.2 x hx
theorem sortedLoopI {α : Type} (xs : List α) (one : α → Option Bool) (ok : α → Bool) (id : α → List UInt8) (p0 : Int → Option Bool) (last : Option Bool) (lb : Bool) (hlast : last = some lb)
    (heq : ∀ i : Int, p0 i = if decide (i < (xs.length : Int)) then (if decide (0 ≤ i) then (xs[i.toNat]?).bind fun x1 => (one x1).bind fun x2 => if (!x2) then some false else if decide (i > 0) then (if decide (0 ≤ IntKind.i64.wrap (i - 1)) then (xs[(IntKind.i64.wrap (i - 1)).toNat]?).bind fun x3 => if (!Op.bytesLess (id x3) (id x1)) then some false else p0 (IntKind.i64.wrap (i + 1)) else none) else p0 (IntKind.i64.wrap (i + 1)) else none) else last)
    (hs : xs.length ≤ 1048576) (h1 : ∀ x, x ∈ xs → one x = some (ok x)) :
    ∀ (k i : Nat), i + k = xs.length → p0 i = some (sortedChk ok id (if i = 0 then none else xs[i - 1]?) (xs.drop i) && lb)
  | 0, i, hk => by
    rw [heq, List.drop_eq_nil_of_le (by omega)]
    have : ¬ (i : Int) < (xs.length : Int) := by omega
    simp only [this, decide_false, Bool.false_eq_true, if_false, hlast, sortedChk, Bool.true_and]
  | k + 1, i, hk => by
    have hi : i < xs.length := by omega
    have hlt : (i : Int) < (xs.length : Int) := by omega
    have hw : IntKind.i64.wrap ((i : Int) + 1) = ((i + 1 : Nat) : Int) := by rw [w64 (by omega) (by omega)]; omega
    have ih := sortedLoopI xs one ok id p0 last lb hlast heq hs h1 k (i + 1) (by omega)
    rw [if_neg (by omega), Nat.add_sub_cancel, List.getElem?_eq_getElem hi] at ih
    rw [heq, List.drop_eq_getElem_cons hi]
    simp only [hlt, decide_true, if_true, Int.natCast_nonneg, Int.toNat_natCast, List.getElem?_eq_getElem hi, Option.bind_some, h1 xs[i] (List.getElem_mem hi), hw, ih, sortedChk]
    cases hok : ok xs[i]
    · simp
    · by_cases h0 : i = 0
      · subst h0; simp
      · have hp : (i : Int) > 0 := by omega
        have hw2 : IntKind.i64.wrap ((i : Int) - 1) = ((i - 1 : Nat) : Int) := by rw [w64 (by omega) (by omega)]; omega
        simp only [hp, decide_true, if_true, hw2, Int.natCast_nonneg, Int.toNat_natCast, List.getElem?_eq_getElem (show i - 1 < xs.length by omega), Option.bind_some, h0, if_false, Bool.not_true, Bool.false_eq_true]
        cases Op.bytesLess (id xs[i - 1]) (id xs[i]) <;> simp
theorem sortedLoopS {α : Type} (xs : List α) (one : α → Option Bool) (ok : α → Bool) (id : α → List UInt8) (p0 : Int → Option Bool) (last : Option Bool) (lb : Bool) (hlast : last = some lb)
    (heq : ∀ i : Int, p0 i = if decide (i < (xs.length : Int)) then (if decide (0 ≤ i) then (xs[i.toNat]?).bind fun x1 => (one x1).bind fun x2 => if (!x2) then some false else if decide (i > 0) then (if decide (0 ≤ IntKind.i64.wrap (i - 1)) then (xs[(IntKind.i64.wrap (i - 1)).toNat]?).bind fun x3 => if decide (0 ≤ i) then (xs[i.toNat]?).bind fun x4 => if (!Op.bytesLess (id x3) (id x4)) then some false else p0 (IntKind.i64.wrap (i + 1)) else none else none) else p0 (IntKind.i64.wrap (i + 1)) else none) else last)
    (hs : xs.length ≤ 1048576) (h1 : ∀ x, x ∈ xs → one x = some (ok x)) :
    ∀ (k i : Nat), i + k = xs.length → p0 i = some (sortedChk ok id (if i = 0 then none else xs[i - 1]?) (xs.drop i) && lb) := by
  refine sortedLoopI xs one ok id p0 last lb hlast (fun i => ?_) hs h1
  rw [heq]
  by_cases h : i < (xs.length : Int)
  · by_cases h0 : 0 ≤ i
    · simp only [h, h0, decide_true, if_true]
      cases xs[i.toNat]? <;> rfl
    · simp only [h, h0, decide_true, decide_false, Bool.false_eq_true, if_true, if_false]
  · simp only [h, decide_false, Bool.false_eq_true, if_false]
theorem wsucc {i : Nat} (h : i < 4611686018427387904) : IntKind.i64.wrap ((i : Int) + 1) = ((i + 1 : Nat) : Int) := by
  rw [w64 (by omega) (by omega)]; omega
theorem ite_both {α : Type} {c : Prop} [Decidable c] (a b : α) (h : c → a = b) : (if c then a else b) = b := by
  split
  · exact h ‹_›
  · rfl
theorem getElem?_lt {α : Type} {l : List α} {i : Nat} (h : i < l.length) : l[i]? = some l[i] := List.getElem?_eq_getElem h
theorem drop_cons {α : Type} {l : List α} {i : Nat} (h : i < l.length) : l.drop i = l[i] :: l.drop (i + 1) := List.drop_eq_getElem_cons h
/-- The nearest quotient, halves away from 0. -/
def rdivP (a b : Int) : Int := if a < 0 then -((b - 2 * a) / (2 * b)) else (2 * a + b) / (2 * b)
def rdiv (a b : Int) : Int := if b < 0 then rdivP (-a) (-b) else rdivP a b
theorem rdivP_eq {a b : Int} (ha : 0 ≤ a) (hb : 0 < b) : rdivP a b = a / b + if b - a % b ≤ a % b then 1 else 0 := by
  have h1 := Int.mul_ediv_add_emod a b
  have h2 := Int.emod_nonneg a (show b ≠ 0 by omega)
  have h3 := Int.emod_lt_of_pos a hb
  unfold rdivP
  rw [if_neg (by omega)]
  generalize a / b = q at h1 ⊢
  generalize a % b = r at h1 h2 h3 ⊢
  have key : ∀ t s : Int, 0 ≤ s → s < 2 * b → 2 * a + b = s + 2 * b * t → (2 * a + b) / (2 * b) = t := fun t s hs0 hs1 he => by
    rw [he, Int.add_mul_ediv_left s t (show 2 * b ≠ 0 by omega), Int.ediv_eq_zero_of_lt hs0 hs1]; omega
  have e : 2 * b * q = 2 * (b * q) := Int.mul_assoc 2 b q
  split
  · refine key (q + 1) (2 * r - b) (by omega) (by omega) ?_
    rw [Int.mul_add, e]; omega
  · rw [Int.add_zero]
    refine key q (2 * r + b) (by omega) (by omega) ?_
    rw [e]; omega
theorem rdivP_neg {a b : Int} (ha : 0 < a) (hb : 0 < b) : rdivP (-a) b = -rdivP a b := by
  unfold rdivP
  rw [if_pos (by omega), if_neg (by omega)]
  congr 2; omega
theorem rdivP_nonneg {a b : Int} (ha : 0 ≤ a) (hb : 0 < b) : 0 ≤ rdivP a b := by
  unfold rdivP
  rw [if_neg (by omega)]
  exact Int.ediv_nonneg (by omega) (by omega)
theorem rdivP_le {a b : Int} (ha : 0 ≤ a) (hb : 0 < b) : rdivP a b ≤ a + 1 := by
  rw [rdivP_eq ha hb]
  have := Int.ediv_le_self b ha
  split <;> omega
theorem rdivP_mono {a a' b : Int} (ha : 0 ≤ a) (h : a ≤ a') (hb : 0 < b) : rdivP a b ≤ rdivP a' b := by
  unfold rdivP
  rw [if_neg (by omega), if_neg (by omega)]
  exact Int.ediv_le_ediv (by omega) (by omega)
theorem tdiv_nonneg_eq {a b : Int} (ha : 0 ≤ a) : a.tdiv b = a / b := Int.tdiv_eq_ediv_of_nonneg ha
theorem tmod_nonneg_eq {a b : Int} (ha : 0 ≤ a) : a.tmod b = a % b := Int.tmod_eq_emod_of_nonneg ha
def small (c : UInt8) : Bool := decide (97 ≤ (c.toNat : Int)) && decide ((c.toNat : Int) ≤ 122)
def digit (c : UInt8) : Bool := decide (48 ≤ (c.toNat : Int)) && decide ((c.toNat : Int) ≤ 57)
def isName (s : List UInt8) : Bool := match s with | [] => false | c :: r => small c && r.all (fun c => small c || digit c) && decide (s.length ≤ 10)
def inR (n lo hi : Int) : Bool := decide (lo ≤ n) && decide (n ≤ hi)
theorem impl_within_ok (n lo hi : Int) : impl_within n lo hi = some (inR n lo hi) := by
  rw [impl_within_eq, inR]; by_cases h : lo ≤ n <;> simp [h]
theorem spec_l00In_ok (n lo hi : Int) : spec_l00In n lo hi = some (inR n lo hi) := by
  rw [spec_l00In_eq, inR]; by_cases h : lo ≤ n <;> simp [h]
theorem spec_l00Max_ok (a b : Int) : spec_l00Max a b = some (if b > a then b else a) := by
  rw [spec_l00Max_eq]; simp only [decide_eq_true_eq]; repeat' split
  all_goals first | rfl | (congr 1; omega)
theorem spec_l01Small_ok (c : UInt8) : spec_l01Small (c.toNat : Int) = some (small c) := by
  rw [spec_l01Small_eq, small]; by_cases h : 97 ≤ (c.toNat : Int) <;> simp [h]
theorem spec_l01Digit_ok (c : UInt8) : spec_l01Digit (c.toNat : Int) = some (digit c) := by
  rw [spec_l01Digit_eq, digit]; by_cases h : 48 ≤ (c.toNat : Int) <;> simp [h]
theorem impl_isDigit_ok (c : UInt8) : impl_isDigit (c.toNat : Int) = some (digit c) := by
  rw [impl_isDigit_eq, digit]; by_cases h : 48 ≤ (c.toNat : Int) <;> simp [h]
theorem spec_l01Name_p1_ok (s : List UInt8) (hs : s.length < 4611686018427387904) : ∀ (k i : Nat), i + k = s.length → spec_l01Name_p1 s i = some ((s.drop i).all fun c => small c || digit c)
  | 0, i, h => by
    rw [spec_l01Name_p1_eq, List.drop_eq_nil_of_le (by omega)]
    simp; omega
  | k + 1, i, h => by
    have hi : i < s.length := by omega
    rw [spec_l01Name_p1_eq, drop_cons hi]
    have h1 : (i : Int) < (s.length : Int) := by omega
    simp only [h1, decide_true, if_true, Int.natCast_nonneg, Int.toNat_natCast, getElem?_lt hi, Option.bind_some, spec_l01Small_ok, spec_l01Digit_ok, wsucc (show i < 4611686018427387904 by omega), spec_l01Name_p1_ok s hs k (i + 1) (by omega), List.all_cons]
    cases small s[i] <;> cases digit s[i] <;> simp
theorem spec_l01Name_ok (s : List UInt8) (hs : s.length < 4611686018427387904) : spec_l01Name s = some (isName s) := by
  rw [spec_l01Name_eq]
  cases s with
  | nil => rfl
  | cons c r =>
    have := spec_l01Name_p1_ok (c :: r) hs (r.length + 1) 0 (by simp)
    simp only [spec_l01Name_p0_eq, List.getElem?_cons_zero, Option.bind_some, spec_l01Small_ok]
    rw [show ((0 : Nat) : Int) = 0 from rfl] at this
    rw [this, isName]
    have e0 : ((c :: r) == ([] : List UInt8)) = false := by simp
    by_cases hl : ((c :: r).length : Int) > 10
    · have : ¬ (c :: r).length ≤ 10 := by omega
      simp only [e0, hl, this, decide_true, decide_false, if_true, Bool.false_eq_true, if_false, Bool.and_false]
    · have : (c :: r).length ≤ 10 := by omega
      simp only [e0, hl, this, decide_true, decide_false, if_true, Bool.false_eq_true, if_false, Bool.and_true]
      cases hc : small c <;> simp [hc]
def okFrom : Nat → List UInt8 → Bool
  | _, [] => true
  | i, c :: r => (small c || (i != 0 && digit c)) && okFrom (i + 1) r
theorem okFrom_all (r : List UInt8) : ∀ i, okFrom (i + 1) r = r.all fun c => small c || digit c := by
  induction r with
  | nil => intro i; rfl
  | cons c r ih => intro i; simp [okFrom, ih]
theorem impl_IsName_p0_ok (s : List UInt8) (hs : s.length < 4611686018427387904) : ∀ (k i : Nat), i + k = s.length → impl_IsName_p0 s i = some (okFrom i (s.drop i) && (!(s == []) && decide (s.length ≤ 10)))
  | 0, i, h => by
    rw [impl_IsName_p0_eq, List.drop_eq_nil_of_le (by omega), impl_few_eq]
    have h1 : ¬ (i : Int) < (s.length : Int) := by omega
    simp only [h1, decide_false, Bool.false_eq_true, if_false, okFrom, Option.bind_some, Bool.true_and]
    cases s with
    | nil => rfl
    | cons c r =>
      have : ((c :: r == []) = false) := by simp
      simp only [this, Bool.not_false, if_true, Bool.true_and]
      congr 1
      simp only [decide_eq_decide]; omega
  | k + 1, i, h => by
    have hi : i < s.length := by omega
    have h1 : (i : Int) < (s.length : Int) := by omega
    have ih := impl_IsName_p0_ok s hs k (i + 1) (by omega)
    have e1 : ∀ b : Bool, impl_IsName_p1 s i b = some (((b || (i != 0 && digit s[i])) && okFrom (i + 1) (s.drop (i + 1))) && (!(s == []) && decide (s.length ≤ 10))) := by
      intro b
      rw [impl_IsName_p1_eq]
      simp only [Int.natCast_nonneg, decide_true, if_true, Int.toNat_natCast, getElem?_lt hi, Option.bind_some, impl_isDigit_ok, wsucc (show i < 4611686018427387904 by omega), ih]
      cases b
      · by_cases h0 : i = 0
        · subst h0; simp
        · have : ((i : Int) == 0) = false := by simp [h0]
          have : (i != 0) = true := by simp [h0]
          simp only [*]
          cases digit s[i] <;> simp
      · simp
    rw [impl_IsName_p0_eq, drop_cons hi, okFrom]
    simp only [h1, decide_true, if_true, Int.natCast_nonneg, Int.toNat_natCast, getElem?_lt hi, Option.bind_some, e1, small]
    by_cases h97 : (s[i].toNat : Int) ≥ 97 <;> simp [h97]
theorem impl_IsName_ok (s : List UInt8) (hs : s.length < 4611686018427387904) : impl_IsName s = some (isName s) := by
  rw [impl_IsName_eq]
  have := impl_IsName_p0_ok s hs s.length 0 (by simp)
  rw [show ((0 : Nat) : Int) = 0 from rfl] at this
  rw [this]
  cases s with
  | nil => rfl
  | cons c r => simp [okFrom, okFrom_all, isName]
theorem impl_divRound_ok (a b : Int) (ha : -2000000000000000000 ≤ a ∧ a ≤ 2000000000000000000) (hb : 0 < b ∧ b ≤ 2000000000000000000) : impl_divRound a b = some (rdivP a b) := by
  rw [impl_divRound_eq]
  have e1 : IntKind.i64.wrap (0 - b) = -b := by rw [w64 (by omega) (by omega)]; omega
  have e2 : IntKind.i64.wrap (0 - a) = -a := by rw [w64 (by omega) (by omega)]; omega
  have e3 : (if -b > b then -b else b) = b := by rw [if_neg (by omega)]
  have hb0 : ¬ b = 0 := by omega
  have hbn : ¬ b < 0 := by omega
  simp only [e1, e2, e3, hb0, hbn, decide_false, Bool.false_eq_true, if_false]
  have main : ∀ x : Int, 0 ≤ x → x ≤ 2000000000000000000 → x.tmod b = x % b ∧ x.tdiv b = x / b ∧ 0 ≤ x % b ∧ x % b < b ∧ 0 ≤ x / b ∧ x / b ≤ x := fun x h0 h1 =>
    ⟨tmod_nonneg_eq h0, tdiv_nonneg_eq h0, Int.emod_nonneg _ (by omega), Int.emod_lt_of_pos _ hb.1, Int.ediv_nonneg h0 (by omega), Int.ediv_le_self b h0⟩
  by_cases hneg : a < 0
  · have e4 : (if -a > a then -a else a) = -a := by rw [if_pos (by omega)]
    obtain ⟨m1, m2, m3, m4, m5, m6⟩ := main (-a) (by omega) (by omega)
    have e5 : rdivP a b = -rdivP (-a) b := by rw [← rdivP_neg (show 0 < -a by omega) hb.1]; congr 1; omega
    rw [e5, rdivP_eq (show 0 ≤ -a by omega) hb.1]
    simp only [e4, hneg, m1, m2, decide_true, Bool.true_beq, Bool.not_false, if_true]
    rw [w64 (n := b - -a % b) (by omega) (by omega), w64 (n := -a / b) (by omega) (by omega), w64 (n := -a / b + 1) (by omega) (by omega), w64 (n := 0 - (-a / b + 1)) (by omega) (by omega), w64 (n := 0 - -a / b) (by omega) (by omega)]
    simp only [decide_eq_true_eq, ge_iff_le]
    split
    · congr 1; omega
    · congr 1; omega
  · have e4 : (if -a > a then -a else a) = a := by rw [if_neg (by omega)]
    obtain ⟨m1, m2, m3, m4, m5, m6⟩ := main a (by omega) (by omega)
    rw [rdivP_eq (show 0 ≤ a by omega) hb.1]
    simp only [e4, hneg, m1, m2, decide_false, beq_self_eq_true, Bool.not_true, Bool.false_eq_true, if_false]
    rw [w64 (n := b - a % b) (by omega) (by omega), w64 (n := a / b) (by omega) (by omega), w64 (n := a / b + 1) (by omega) (by omega)]
    simp only [decide_eq_true_eq, ge_iff_le]
    split
    · rfl
    · congr 1; omega
theorem spec_l01Div_ok (a b : Int) (ha : -2000000000000000000 ≤ a ∧ a ≤ 2000000000000000000) (hb : 0 < b ∧ b ≤ 2000000000000000000) : spec_l01Div a b = some (rdivP a b) := by
  have hbn : ¬ b < 0 := by omega
  rw [spec_l01Div_eq, rdivP]
  simp only [hbn, decide_false, Bool.false_eq_true, if_false]
  rw [spec_l01Div_p0_eq, w64 (n := 2 * b) (by omega) (by omega), w64 (n := 2 * a) (by omega) (by omega)]
  have hb0 : ¬ 2 * b = 0 := by omega
  simp only [hb0, decide_false, Bool.false_eq_true, if_false]
  by_cases hneg : a < 0
  · simp only [hneg, decide_true, if_true]
    rw [w64 (n := b - 2 * a) (by omega) (by omega), tdiv_nonneg_eq (by omega)]
    have h1 : 0 ≤ (b - 2 * a) / (2 * b) := Int.ediv_nonneg (by omega) (by omega)
    have h2 : (b - 2 * a) / (2 * b) ≤ b - 2 * a := Int.ediv_le_self _ (by omega)
    rw [w64 (n := (b - 2 * a) / (2 * b)) (by omega) (by omega), w64 (by omega) (by omega)]
    congr 1; omega
  · simp only [hneg, decide_false, Bool.false_eq_true, if_false]
    rw [w64 (n := 2 * a + b) (by omega) (by omega), tdiv_nonneg_eq (by omega)]
    have h1 : 0 ≤ (2 * a + b) / (2 * b) := Int.ediv_nonneg (by omega) (by omega)
    have h2 : (2 * a + b) / (2 * b) ≤ 2 * a + b := Int.ediv_le_self _ (by omega)
    rw [w64 (n := (2 * a + b) / (2 * b)) (by omega) (by omega)]
def potOk (id : List UInt8) (dry water heat hours : Int) : Bool :=
  isName id && (inR dry 1 10000 && (inR water 1 10000 && (inR heat 20 95 && inR hours 0 1000)))
def potOpen (dry water heat room : Int) : Int := if rdivP (60 * water) dry + 2 * (room - 15) + heat - 60 > 0 then rdivP (60 * water) dry + 2 * (room - 15) + heat - 60 else 0
theorem inR_iff {n lo hi : Int} : inR n lo hi = true ↔ lo ≤ n ∧ n ≤ hi := by simp [inR]
theorem potOk_iff {id : List UInt8} {dry water heat hours : Int} : potOk id dry water heat hours = true ↔ isName id = true ∧ (1 ≤ dry ∧ dry ≤ 10000) ∧ (1 ≤ water ∧ water ≤ 10000) ∧ (20 ≤ heat ∧ heat ≤ 95) ∧ 0 ≤ hours ∧ hours ≤ 1000 := by
  simp [potOk, inR_iff]
theorem open_bounds {dry water : Int} (h1 : 1 ≤ dry) (h2 : 0 ≤ water ∧ water ≤ 100000) : 0 ≤ rdivP (60 * water) dry ∧ rdivP (60 * water) dry ≤ 6000001 := by
  have := rdivP_nonneg (a := 60 * water) (b := dry) (by omega) (by omega)
  have := rdivP_le (a := 60 * water) (b := dry) (by omega) (by omega)
  omega
theorem potOpen_bounds {dry water heat room : Int} (h1 : 1 ≤ dry) (h2 : 0 ≤ water ∧ water ≤ 100000) (h3 : 20 ≤ heat ∧ heat ≤ 95) (h4 : 0 ≤ room ∧ room ≤ 40) : 0 ≤ potOpen dry water heat room ∧ potOpen dry water heat room ≤ 7000000 := by
  have := open_bounds h1 h2
  unfold potOpen
  split <;> omega
theorem spec_l14One_ok (id : List UInt8) (dry water heat hours : Int) (hs : id.length < 4611686018427387904) : spec_l14One (id, dry, water, heat, hours, ()) = some (potOk id dry water heat hours) := by
  rw [spec_l14One_eq, potOk]
  simp only [spec_l01Name_ok id hs, spec_l14Grams_eq, spec_l14Heat_eq, spec_l00In_ok, Option.bind_some]
  cases isName id <;> cases inR dry 1 10000 <;> cases inR water 1 10000 <;> cases inR heat 20 95 <;> simp
theorem impl_Pot_valid_ok (id : List UInt8) (dry water heat hours : Int) (hs : id.length < 4611686018427387904) : impl_Pot_valid (id, dry, water, heat, hours, ()) = some (potOk id dry water heat hours) := by
  rw [impl_Pot_valid_eq, potOk]
  simp only [impl_IsName_ok id hs, impl_isGrams_eq, impl_isHeat_eq, impl_within_ok, Option.bind_some]
  cases isName id <;> cases inR dry 1 10000 <;> cases inR water 1 10000 <;> cases inR heat 20 95 <;> simp
theorem spec_l14Open_ok (id : List UInt8) (dry water heat hours room : Int) (h1 : 1 ≤ dry ∧ dry ≤ 10000) (h2 : 0 ≤ water ∧ water ≤ 100000) (h3 : 20 ≤ heat ∧ heat ≤ 95) (h4 : 0 ≤ room ∧ room ≤ 40) :
    spec_l14Open (id, dry, water, heat, hours, ()) room = some (potOpen dry water heat room) := by
  have hb := open_bounds h1.1 h2
  rw [spec_l14Open_eq]
  simp only
  rw [w64 (n := 60 * water) (by omega) (by omega), spec_l01Div_ok _ _ (by omega) (by omega), Option.bind_some, spec_l00Max_ok, Option.bind_some]
  rw [w64 (n := room - 15) (by omega) (by omega), w64 (n := 2 * (room - 15)) (by omega) (by omega), w64 (n := rdivP (60 * water) dry + 2 * (room - 15)) (by omega) (by omega),
    w64 (n := rdivP (60 * water) dry + 2 * (room - 15) + heat) (by omega) (by omega), w64 (n := rdivP (60 * water) dry + 2 * (room - 15) + heat - 60) (by omega) (by omega)]
  rfl
theorem impl_Pot_open_ok (id : List UInt8) (dry water heat hours room : Int) (h1 : 1 ≤ dry ∧ dry ≤ 10000) (h2 : 0 ≤ water ∧ water ≤ 100000) (h3 : 20 ≤ heat ∧ heat ≤ 95) (h4 : 0 ≤ room ∧ room ≤ 40) :
    impl_Pot_open (id, dry, water, heat, hours, ()) room = some (potOpen dry water heat room) := by
  have hb := open_bounds h1.1 h2
  rw [impl_Pot_open_eq]
  simp only
  rw [w64 (n := 60 * water) (by omega) (by omega), impl_divRound_ok _ _ (by omega) (by omega), Option.bind_some]
  rw [w64 (n := room - 15) (by omega) (by omega), w64 (n := 2 * (room - 15)) (by omega) (by omega), w64 (n := rdivP (60 * water) dry + 2 * (room - 15)) (by omega) (by omega),
    w64 (n := rdivP (60 * water) dry + 2 * (room - 15) + heat) (by omega) (by omega), w64 (n := rdivP (60 * water) dry + 2 * (room - 15) + heat - 60) (by omega) (by omega)]
  rfl
theorem szPot_ok (x : T_Pot.ty) (hx : x.1.length ≤ 9223372036854775807) (l : Int) (h0 : 0 ≤ l) (h1 : l ≤ 1048576) : ∃ n, laws_szPot x l = some n ∧ n ≤ l ∧ (0 ≤ n → x.1.length ≤ 1048576) := by
  rw [laws_szPot_eq, w64 (n := l - x.1.length) (by omega) (by omega)]
  by_cases hn : l - (x.1.length : Int) < 0
  · simp only [hn, decide_true, if_true]; exact ⟨-1, rfl, by omega, fun h => by omega⟩
  · simp only [hn, decide_false, Bool.false_eq_true, if_false]; exact ⟨_, rfl, by omega, fun h => by omega⟩
def potOkT (x : T_Pot.ty) : Bool := potOk x.1 x.2.1 x.2.2.1 x.2.2.2.1 x.2.2.2.2.1
def potsOk (xs : List T_Pot.ty) : Bool := sortedChk potOkT (fun x => x.1) none xs && decide ((xs.length : Int) ≤ 8)
theorem potsOk_all {xs : List T_Pot.ty} (h : potsOk xs = true) (x : T_Pot.ty) (hx : x ∈ xs) : potOkT x = true := by
  simp only [potsOk, Bool.and_eq_true] at h
  exact sortedChk_all h.1 x hx
def potStrong (dry water heat hours : Int) : Int :=
  if rdivP (1000 * dry) (dry + water) - 2 * hours - 10 * (if heat - 70 > 0 then heat - 70 else 0) > 0 then rdivP (1000 * dry) (dry + water) - 2 * hours - 10 * (if heat - 70 > 0 then heat - 70 else 0) else 0
theorem strong_bounds {dry water heat hours : Int} (h1 : 1 ≤ dry ∧ dry ≤ 10000) (h2 : 1 ≤ water ∧ water ≤ 100000) (h3 : 20 ≤ heat ∧ heat ≤ 95) (h4 : 0 ≤ hours ∧ hours ≤ 100000) :
    0 ≤ rdivP (1000 * dry) (dry + water) ∧ rdivP (1000 * dry) (dry + water) ≤ 10000001 ∧ 0 ≤ potStrong dry water heat hours ∧ potStrong dry water heat hours ≤ 10000001 := by
  have := rdivP_nonneg (a := 1000 * dry) (b := dry + water) (by omega) (by omega)
  have := rdivP_le (a := 1000 * dry) (b := dry + water) (by omega) (by omega)
  refine ⟨by omega, by omega, ?_⟩
  unfold potStrong
  constructor <;> repeat' split
  all_goals omega
def potHolds (dry water heat hours pull area : Int) : Bool := decide (pull ≤ potStrong dry water heat hours * area / 100)
theorem holds_bounds {s area : Int} (h1 : 0 ≤ s ∧ s ≤ 10000001) (h2 : 1 ≤ area ∧ area ≤ 100000) : 0 ≤ s * area ∧ s * area ≤ 1000000100000 ∧ IntKind.i64.wrap ((IntKind.i64.wrap (s * area)).tdiv 100) = s * area / 100 := by
  have e1 : 0 ≤ s * area := Int.mul_nonneg h1.1 (by omega)
  have e2 : s * area ≤ 10000001 * 100000 := Int.mul_le_mul h1.2 h2.2 (by omega) (by omega)
  refine ⟨e1, by omega, ?_⟩
  rw [w64 (n := s * area) (by omega) (by omega), tdiv_nonneg_eq e1, w64 (by omega) (by omega)]
theorem potOpen_mono {dry water water' heat room : Int} (h1 : 1 ≤ dry) (h2 : 0 ≤ water) (h : water ≤ water') : potOpen dry water heat room ≤ potOpen dry water' heat room := by
  have := rdivP_mono (a := 60 * water) (a' := 60 * water') (b := dry) (by omega) (by omega) (by omega)
  unfold potOpen
  split <;> split <;> omega
/-- The program's search, water by water. -/
theorem impl_WaterFor_p1_ok (id : List UInt8) (dry heat hours room seconds w0 : Int) (h1 : 1 ≤ dry ∧ dry ≤ 10000) (h3 : 20 ≤ heat ∧ heat ≤ 95) (h4 : 0 ≤ room ∧ room ≤ 40) (hw0 : 1 ≤ w0 ∧ w0 ≤ 10000) :
    ∀ (k : Nat) (w : Int), w + k = 10001 → w0 ≤ w →
      (∃ v, w ≤ v ∧ v ≤ 10000 ∧ seconds ≤ potOpen dry v heat room ∧ (∀ u, w ≤ u → u < v → potOpen dry u heat room < seconds) ∧ impl_WaterFor_p1 seconds room w0 id dry w heat hours = some (v - w0, 0)) ∨
      ((∀ u, w ≤ u → u ≤ 10000 → potOpen dry u heat room < seconds) ∧ impl_WaterFor_p1 seconds room w0 id dry w heat hours = some (0, 3))
  | 0, w, hk, hw => by
    right
    refine ⟨fun u hu hu' => by omega, ?_⟩
    rw [impl_WaterFor_p1_eq]
    have : ¬ w ≤ 10000 := by omega
    simp only [this, decide_false, Bool.false_eq_true, if_false]
  | k + 1, w, hk, hw => by
    have hle : w ≤ 10000 := by omega
    have e : impl_WaterFor_p1 seconds room w0 id dry w heat hours = if decide (potOpen dry w heat room ≥ seconds) then some (IntKind.i64.wrap (w - w0), 0) else impl_WaterFor_p1 seconds room w0 id dry (IntKind.i64.wrap (w + 1)) heat hours := by
      rw [impl_WaterFor_p1_eq]
      simp only [hle, decide_true, if_true, impl_Pot_open_ok _ _ _ _ _ _ h1 (show 0 ≤ w ∧ w ≤ 100000 by omega) h3 h4, Option.bind_some]
    by_cases ho : potOpen dry w heat room ≥ seconds
    · left
      refine ⟨w, by omega, hle, ho, fun u hu hu' => by omega, ?_⟩
      rw [e]
      simp only [ho, decide_true, if_true]
      rw [w64 (by omega) (by omega)]
    · have e2 : impl_WaterFor_p1 seconds room w0 id dry w heat hours = impl_WaterFor_p1 seconds room w0 id dry (w + 1) heat hours := by
        rw [e]
        simp only [ho, decide_false, Bool.false_eq_true, if_false]
        rw [w64 (by omega) (by omega)]
      rcases impl_WaterFor_p1_ok id dry heat hours room seconds w0 h1 h3 h4 hw0 k (w + 1) (by omega) (by omega) with ⟨v, a1, a2, a3, a4, a5⟩ | ⟨a1, a2⟩
      · left
        refine ⟨v, by omega, a2, a3, fun u hu hu' => ?_, by rw [e2, a5]⟩
        by_cases hue : u = w
        · subst hue; omega
        · exact a4 u (by omega) hu'
      · right
        refine ⟨fun u hu hu' => ?_, by rw [e2, a2]⟩
        by_cases hue : u = w
        · subst hue; omega
        · exact a1 u (by omega) hu'
/-- The reference's search by halves. -/
theorem spec_WaterFor_p1_ok (id : List UInt8) (dry heat hours room seconds w0 : Int) (h1 : 1 ≤ dry ∧ dry ≤ 10000) (h3 : 20 ≤ heat ∧ heat ≤ 95) (h4 : 0 ≤ room ∧ room ≤ 40) (hw0 : 1 ≤ w0 ∧ w0 ≤ 10000) :
    ∀ (k : Nat) (low high : Int), high - low ≤ k → -1 ≤ low → low < high → high ≤ 10001 - w0 →
      (∀ u, 0 ≤ u → u ≤ low → potOpen dry (w0 + u) heat room < seconds) → (high = 10001 - w0 ∨ seconds ≤ potOpen dry (w0 + high) heat room) →
      ∃ v, 0 ≤ v ∧ v ≤ 10001 - w0 ∧ (∀ u, 0 ≤ u → u < v → potOpen dry (w0 + u) heat room < seconds) ∧ (v = 10001 - w0 ∨ seconds ≤ potOpen dry (w0 + v) heat room) ∧
        spec_WaterFor_p1 seconds room low high (10001 - w0) id dry w0 heat hours = some (if v = 10001 - w0 then (0, 3) else (v, 0))
  | 0, low, high, hk, hl, hlh, hh, _, _ => by omega
  | k + 1, low, high, hk, hl, hlh, hh, hlo, hhi => by
    rw [spec_WaterFor_p1_eq]
    rw [w64 (n := high - low) (by omega) (by omega)]
    by_cases hgt : high - low > 1
    · simp only [hgt, decide_true, if_true]
      rw [w64 (n := low + high) (by omega) (by omega)]
      have hm : (low + high).tdiv 2 = (low + high) / 2 := tdiv_nonneg_eq (by omega)
      rw [hm, w64 (n := (low + high) / 2) (by omega) (by omega), w64 (n := w0 + (low + high) / 2) (by omega) (by omega)]
      rw [spec_l14Open_ok _ _ _ _ _ _ h1 (show 0 ≤ w0 + (low + high) / 2 ∧ w0 + (low + high) / 2 ≤ 100000 by omega) h3 h4, Option.bind_some]
      by_cases ho : potOpen dry (w0 + (low + high) / 2) heat room ≥ seconds
      · simp only [ho, decide_true, if_true]
        exact spec_WaterFor_p1_ok id dry heat hours room seconds w0 h1 h3 h4 hw0 k low ((low + high) / 2) (by omega) hl (by omega) (by omega) hlo (.inr ho)
      · simp only [ho, decide_false, Bool.false_eq_true, if_false]
        refine spec_WaterFor_p1_ok id dry heat hours room seconds w0 h1 h3 h4 hw0 k ((low + high) / 2) high (by omega) (by omega) (by omega) hh (fun u hu hu' => ?_) hhi
        have := potOpen_mono (dry := dry) (water := w0 + u) (water' := w0 + (low + high) / 2) (heat := heat) (room := room) h1.1 (by omega) (by omega)
        omega
    · have : high = low + 1 := by omega
      simp only [hgt, decide_false, Bool.false_eq_true, if_false, beq_iff_eq]
      refine ⟨high, by omega, hh, fun u hu hu' => hlo u hu (by omega), hhi, ?_⟩
      split <;> simp [*]
end Go.Ab.P
