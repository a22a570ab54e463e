/- Lemmas on functions of the program. Conditions: told in each. -/
import Derived.Test.YtlbibfjmbmbgjaaGreatPFnExactValidDesk2
set_option linter.unusedVariables false
set_option linter.unusedSimpArgs false
namespace Go.Ab.P
open Go.Ab
/-- The sizes of a list's elements: what is left. -/
theorem szLoop {α : Type} {P : α → Prop} (xs : List α) (sz1 : α → Int → Option Int) (p0 : List α → Int → Int → Option Int)
    (heq : ∀ (l i : Int), p0 xs l i = if decide (i < (xs.length : Int)) then (if decide (0 ≤ i) then (xs[i.toNat]?).bind fun x1 => (sz1 x1 l).bind fun x2 => if decide (x2 < 0) then some (-1) else p0 xs x2 (IntKind.i64.wrap (i + 1)) else none) else some l)
    (hs : xs.length ≤ 1048576) (h1 : ∀ x, x ∈ xs → ∀ l : Int, 0 ≤ l → l ≤ 1048576 → ∃ n, sz1 x l = some n ∧ n ≤ l ∧ (0 ≤ n → P x)) :
    ∀ (k i : Nat) (l : Int), i + k = xs.length → 0 ≤ l → l ≤ 1048576 → ∃ n, p0 xs l i = some n ∧ n ≤ l ∧ (0 ≤ n → ∀ x, x ∈ xs.drop i → P x)
  | 0, i, l, hk, hl, hl' => by
    refine ⟨l, ?_, Int.le_refl _, fun _ x hx => ?_⟩
    · rw [heq]
      have : ¬ (i : Int) < (xs.length : Int) := by omega
      simp only [this, decide_false, Bool.false_eq_true, if_false]
    · rw [List.drop_eq_nil_of_le (by omega)] at hx; cases hx
  | k + 1, i, l, hk, hl, hl' => by
    have hi : i < xs.length := by omega
    have hlt : (i : Int) < (xs.length : Int) := by omega
    obtain ⟨n, e1, e2, e3⟩ := h1 xs[i] (List.getElem_mem hi) l hl hl'
    rw [heq]
    simp only [hlt, decide_true, if_true, Int.natCast_nonneg, Int.toNat_natCast, List.getElem?_eq_getElem hi, Option.bind_some, e1]
    by_cases hn : n < 0
    · simp only [hn, decide_true, if_true]
      exact ⟨-1, rfl, by omega, fun h => by omega⟩
    · simp only [hn, decide_false, Bool.false_eq_true, if_false]
      have hw : IntKind.i64.wrap ((i : Int) + 1) = ((i + 1 : Nat) : Int) := by rw [w64 (by omega) (by omega)]; omega
      rw [hw]
      obtain ⟨q, f1, f2, f3⟩ := szLoop xs sz1 p0 heq hs h1 k (i + 1) n (by omega) (by omega) (by omega)
      refine ⟨q, f1, by omega, fun hq x hx => ?_⟩
      rw [List.drop_eq_getElem_cons hi] at hx
      rcases List.mem_cons.1 hx with rfl | hx
      · exact e3 (by omega)
      · exact f3 hq x hx
theorem szList {α : Type} {P : α → Prop} (xs : List α) (sz1 : α → Int → Option Int) (p0 : List α → Int → Int → Option Int) (szS : List α → Int → Option Int)
    (heq : ∀ (l i : Int), p0 xs l i = if decide (i < (xs.length : Int)) then (if decide (0 ≤ i) then (xs[i.toNat]?).bind fun x1 => (sz1 x1 l).bind fun x2 => if decide (x2 < 0) then some (-1) else p0 xs x2 (IntKind.i64.wrap (i + 1)) else none) else some l)
    (hS : ∀ l : Int, szS xs l = if decide (IntKind.i64.wrap (l - (xs.length : Int)) < 0) then some (-1) else p0 xs (IntKind.i64.wrap (l - (xs.length : Int))) 0)
    (hl : xs.length ≤ 9223372036854775807) (h1 : ∀ x, x ∈ xs → ∀ l : Int, 0 ≤ l → l ≤ 1048576 → ∃ n, sz1 x l = some n ∧ n ≤ l ∧ (0 ≤ n → P x)) (l : Int) (h0 : 0 ≤ l) (h0' : l ≤ 1048576) :
    ∃ n, szS xs l = some n ∧ n ≤ l ∧ (0 ≤ n → xs.length ≤ 1048576 ∧ ∀ x, x ∈ xs → P x) := by
  rw [hS, w64 (n := l - xs.length) (by omega) (by omega)]
  by_cases hn : l - (xs.length : Int) < 0
  · simp only [hn, decide_true, if_true]
    exact ⟨-1, rfl, by omega, fun h => by omega⟩
  · simp only [hn, decide_false, Bool.false_eq_true, if_false]
    obtain ⟨q, f1, f2, f3⟩ := szLoop xs sz1 p0 heq (by omega) h1 xs.length 0 (l - xs.length) (by omega) (by omega) (by omega)
    exact ⟨q, f1, by omega, fun hq => ⟨by omega, fun x hx => f3 hq x hx⟩⟩
/-- A list made element by element is the list. -/
theorem toLoop {α : Type} (xs : List α) (to1 : α → Option α) (p0 : List α → Nat → Int → List α → Option (List α))
    (heq : ∀ (n : Nat) (i : Int) (r : List α), p0 xs n i r = if decide (i < (xs.length : Int)) then (if decide (0 ≤ i) then (xs[i.toNat]?).bind fun x1 => (to1 x1).bind fun x2 => if decide (0 ≤ i) && decide (i < (n : Int)) then (r[i.toNat]?).bind fun x3 => p0 xs n (IntKind.i64.wrap (i + 1)) (r.set i.toNat x2) else none else none) else some (r.take n))
    (hs : xs.length ≤ 1099511627776) (h1 : ∀ x, x ∈ xs → to1 x = some x) :
    ∀ (k i : Nat) (r : List α), i + k = xs.length → r.length = xs.length → r.take i = xs.take i → p0 xs xs.length i r = some xs
  | 0, i, r, hk, hr, ht => by
    rw [heq]
    have : ¬ (i : Int) < (xs.length : Int) := by omega
    simp only [this, decide_false, Bool.false_eq_true, if_false]
    have hi : i = xs.length := by omega
    rw [hi] at ht
    rw [ht, List.take_length]
  | k + 1, i, r, hk, hr, ht => by
    have hi : i < xs.length := by omega
    have hlt : (i : Int) < (xs.length : Int) := by omega
    have hw : IntKind.i64.wrap ((i : Int) + 1) = ((i + 1 : Nat) : Int) := by rw [w64 (by omega) (by omega)]; omega
    rw [heq]
    simp only [hlt, decide_true, if_true, Int.natCast_nonneg, Int.toNat_natCast, List.getElem?_eq_getElem hi, Option.bind_some, h1 xs[i] (List.getElem_mem hi), Bool.and_self, List.getElem?_eq_getElem (show i < r.length by omega), hw]
    refine toLoop xs to1 p0 heq hs h1 k (i + 1) (r.set i xs[i]) (by omega) (by simp [hr]) ?_
    rw [List.take_add_one, List.take_add_one, List.getElem?_set_self (by omega), List.getElem?_eq_getElem hi, List.take_set_of_le (by omega), ht]
theorem toList_ok {α : Type} (xs : List α) (z : α) (to1 : α → Option α) (p0 : List α → Nat → Int → List α → Option (List α)) (toS : List α → Option (List α))
    (heq : ∀ (n : Nat) (i : Int) (r : List α), p0 xs n i r = if decide (i < (xs.length : Int)) then (if decide (0 ≤ i) then (xs[i.toNat]?).bind fun x1 => (to1 x1).bind fun x2 => if decide (0 ≤ i) && decide (i < (n : Int)) then (r[i.toNat]?).bind fun x3 => p0 xs n (IntKind.i64.wrap (i + 1)) (r.set i.toNat x2) else none else none) else some (r.take n))
    (hS : toS xs = if decide (0 ≤ (xs.length : Int)) && decide ((xs.length : Int) ≤ (xs.length : Int)) && decide ((xs.length : Int) < (lim : Int)) then p0 xs ((List.replicate ((xs.length : Int).toNat) z).length) 0 (List.replicate ((xs.length : Int).toNat) z) else none)
    (hs : xs.length ≤ 1048576) (h1 : ∀ x, x ∈ xs → to1 x = some x) : toS xs = some xs := by
  rw [hS, lim_eq]
  have h2 : (xs.length : Int) < ((1099511627776 : Nat) : Int) := by omega
  have h3 : (xs.length : Int) ≤ (xs.length : Int) := Int.le_refl _
  simp only [h2, h3, Int.natCast_nonneg, decide_true, Bool.and_self, if_true, Int.toNat_natCast, List.length_replicate]
  exact toLoop xs to1 p0 heq (by omega) h1 xs.length 0 _ (by omega) (by simp) (by simp)
/-- A list is equal to itself. -/
theorem eqLoop {α : Type} (xs : List α) (eq1 : α → α → Option Bool) (p0 : List α → List α → Int → Option Bool)
    (heq : ∀ (i : Int), p0 xs xs i = if decide (i < (xs.length : Int)) then (if decide (0 ≤ i) then (xs[i.toNat]?).bind fun x1 => if decide (0 ≤ i) then (xs[i.toNat]?).bind fun x2 => (eq1 x1 x2).bind fun x3 => if (!x3) then some false else p0 xs xs (IntKind.i64.wrap (i + 1)) else none else none) else some true)
    (hs : xs.length ≤ 1048576) (h1 : ∀ x, x ∈ xs → eq1 x x = some true) : ∀ (k i : Nat), i + k = xs.length → p0 xs xs i = some true
  | 0, i, hk => by
    rw [heq]
    have : ¬ (i : Int) < (xs.length : Int) := by omega
    simp only [this, decide_false, Bool.false_eq_true, if_false]
  | k + 1, i, hk => by
    have hi : i < xs.length := by omega
    have hlt : (i : Int) < (xs.length : Int) := by omega
    have hw : IntKind.i64.wrap ((i : Int) + 1) = ((i + 1 : Nat) : Int) := by rw [w64 (by omega) (by omega)]; omega
    rw [heq]
    simp only [hlt, decide_true, if_true, Int.natCast_nonneg, Int.toNat_natCast, List.getElem?_eq_getElem hi, Option.bind_some, h1 xs[i] (List.getElem_mem hi), Bool.not_true, Bool.false_eq_true, if_false, hw]
    exact eqLoop xs eq1 p0 heq hs h1 k (i + 1) (by omega)
theorem eqList_ok {α : Type} (xs : List α) (eq1 : α → α → Option Bool) (p0 : List α → List α → Int → Option Bool) (eqS : List α → List α → Option Bool)
    (heq : ∀ (i : Int), p0 xs xs i = if decide (i < (xs.length : Int)) then (if decide (0 ≤ i) then (xs[i.toNat]?).bind fun x1 => if decide (0 ≤ i) then (xs[i.toNat]?).bind fun x2 => (eq1 x1 x2).bind fun x3 => if (!x3) then some false else p0 xs xs (IntKind.i64.wrap (i + 1)) else none else none) else some true)
    (hS : eqS xs xs = if ((xs.length : Int) != (xs.length : Int)) then some false else p0 xs xs 0)
    (hs : xs.length ≤ 1048576) (h1 : ∀ x, x ∈ xs → eq1 x x = some true) : eqS xs xs = some true := by
  rw [hS]
  simp only [bne_self_eq_false, Bool.false_eq_true, if_false]
  exact eqLoop xs eq1 p0 heq hs h1 xs.length 0 (by omega)
/-- A list whose elements are all as wished, their names rising. -/
def sortedChk {α : Type} (ok : α → Bool) (id : α → List UInt8) : Option α → List α → Bool
  | _, [] => true
  | p, x :: r => ok x && ((match p with | none => true | some y => Op.bytesLess (id y) (id x)) && sortedChk ok id (some x) r)
theorem sortedChk_all {α : Type} {ok : α → Bool} {id : α → List UInt8} : ∀ {l : List α} {p : Option α}, sortedChk ok id p l = true → ∀ x, x ∈ l → ok x = true
  | [], _, _, x, hx => by cases hx
  | y :: r, p, h, x, hx => by
    simp only [sortedChk, Bool.and_eq_true] at h
    rcases List.mem_cons.1 hx with rfl | hx
    · exact h.1
    · exact sortedChk_all h.2.2 x hx
theorem sortedLoopI {α : Type} (xs : List α) (one : α → Option Bool) (ok : α → Bool) (id : α → List UInt8) (p0 : Int → Option Bool) (last : Option Bool) (lb : Bool) (hlast : last = some lb)
    (heq : ∀ i : Int, p0 i = if decide (i < (xs.length : Int)) then (if decide (0 ≤ i) then (xs[i.toNat]?).bind fun x1 => (one x1).bind fun x2 => if (!x2) then some false else if decide (i > 0) then (if decide (0 ≤ IntKind.i64.wrap (i - 1)) then (xs[(IntKind.i64.wrap (i - 1)).toNat]?).bind fun x3 => if (!Op.bytesLess (id x3) (id x1)) then some false else p0 (IntKind.i64.wrap (i + 1)) else none) else p0 (IntKind.i64.wrap (i + 1)) else none) else last)
    (hs : xs.length ≤ 1048576) (h1 : ∀ x, x ∈ xs → one x = some (ok x)) :
    ∀ (k i : Nat), i + k = xs.length → p0 i = some (sortedChk ok id (if i = 0 then none else xs[i - 1]?) (xs.drop i) && lb)
  | 0, i, hk => by
    rw [heq, List.drop_eq_nil_of_le (by omega)]
    have : ¬ (i : Int) < (xs.length : Int) := by omega
    simp only [this, decide_false, Bool.false_eq_true, if_false, hlast, sortedChk, Bool.true_and]
  | k + 1, i, hk => by
    have hi : i < xs.length := by omega
    have hlt : (i : Int) < (xs.length : Int) := by omega
    have hw : IntKind.i64.wrap ((i : Int) + 1) = ((i + 1 : Nat) : Int) := by rw [w64 (by omega) (by omega)]; omega
    have ih := sortedLoopI xs one ok id p0 last lb hlast heq hs h1 k (i + 1) (by omega)
    rw [if_neg (by omega), Nat.add_sub_cancel, List.getElem?_eq_getElem hi] at ih
    rw [heq, List.drop_eq_getElem_cons hi]
    simp only [hlt, decide_true, if_true, Int.natCast_nonneg, Int.toNat_natCast, List.getElem?_eq_getElem hi, Option.bind_some, h1 xs[i] (List.getElem_mem hi), hw, ih, sortedChk]
    cases hok : ok xs[i]
    · simp
    · by_cases h0 : i = 0
      · subst h0; simp
      · have hp : (i : Int) > 0 := by omega
        have hw2 : IntKind.i64.wrap ((i : Int) - 1) = ((i - 1 : Nat) : Int) := by rw [w64 (by omega) (by omega)]; omega
        simp only [hp, decide_true, if_true, hw2, Int.natCast_nonneg, Int.toNat_natCast, List.getElem?_eq_getElem (show i - 1 < xs.length by omega), Option.bind_some, h0, if_false, Bool.not_true, Bool.false_eq_true]
        cases Op.bytesLess (id xs[i - 1]) (id xs[i]) <;> simp
theorem sortedLoopS {α : Type} (xs : List α) (one : α → Option Bool) (ok : α → Bool) (id : α → List UInt8) (p0 : Int → Option Bool) (last : Option Bool) (lb : Bool) (hlast : last = some lb)
    (heq : ∀ i : Int, p0 i = if decide (i < (xs.length : Int)) then (if decide (0 ≤ i) then (xs[i.toNat]?).bind fun x1 => (one x1).bind fun x2 => if (!x2) then some false else if decide (i > 0) then (if decide (0 ≤ IntKind.i64.wrap (i - 1)) then (xs[(IntKind.i64.wrap (i - 1)).toNat]?).bind fun x3 => if decide (0 ≤ i) then (xs[i.toNat]?).bind fun x4 => if (!Op.bytesLess (id x3) (id x4)) then some false else p0 (IntKind.i64.wrap (i + 1)) else none else none) else p0 (IntKind.i64.wrap (i + 1)) else none) else last)
    (hs : xs.length ≤ 1048576) (h1 : ∀ x, x ∈ xs → one x = some (ok x)) :
    ∀ (k i : Nat), i + k = xs.length → p0 i = some (sortedChk ok id (if i = 0 then none else xs[i - 1]?) (xs.drop i) && lb) := by
  refine sortedLoopI xs one ok id p0 last lb hlast (fun i => ?_) hs h1
  rw [heq]
  by_cases h : i < (xs.length : Int)
  · by_cases h0 : 0 ≤ i
    · simp only [h, h0, decide_true, if_true]
      cases xs[i.toNat]? <;> rfl
    · simp only [h, h0, decide_true, decide_false, Bool.false_eq_true, if_true, if_false]
  · simp only [h, decide_false, Bool.false_eq_true, if_false]
/-- A loop that leaves at the first element that is not as wished. -/
theorem allLoop {α β : Type} (xs : List α) (one : α → Option Bool) (ok : α → Bool) (p0 : Int → Option β) (bad : β) (last : Option β)
    (heq : ∀ i : Int, p0 i = if decide (i < (xs.length : Int)) then (if decide (0 ≤ i) then (xs[i.toNat]?).bind fun x1 => (one x1).bind fun x2 => if (!x2) then some bad else p0 (IntKind.i64.wrap (i + 1)) else none) else last)
    (hs : xs.length ≤ 1099511627776) (h1 : ∀ x, x ∈ xs → one x = some (ok x)) :
    ∀ (k i : Nat), i + k = xs.length → p0 i = if (xs.drop i).all ok then last else some bad
  | 0, i, hk => by
    rw [heq, List.drop_eq_nil_of_le (by omega)]
    have : ¬ (i : Int) < (xs.length : Int) := by omega
    simp [this]
  | k + 1, i, hk => by
    have hi : i < xs.length := by omega
    have hlt : (i : Int) < (xs.length : Int) := by omega
    have hw : IntKind.i64.wrap ((i : Int) + 1) = ((i + 1 : Nat) : Int) := by rw [w64 (by omega) (by omega)]; omega
    have ih := allLoop xs one ok p0 bad last heq hs h1 k (i + 1) (by omega)
    rw [heq, List.drop_eq_getElem_cons hi]
    simp only [hlt, decide_true, if_true, Int.natCast_nonneg, Int.toNat_natCast, List.getElem?_eq_getElem hi, Option.bind_some, h1 xs[i] (List.getElem_mem hi), hw, ih, List.all_cons]
    by_cases hok : ok xs[i] = true
    · simp [hok]
    · simp [hok]
theorem wsucc {i : Nat} (h : i < 4611686018427387904) : IntKind.i64.wrap ((i : Int) + 1) = ((i + 1 : Nat) : Int) := by
  rw [w64 (by omega) (by omega)]; omega
theorem ite_both {α : Type} {c : Prop} [Decidable c] (a b : α) (h : c → a = b) : (if c then a else b) = b := by
  split
  · exact h ‹_›
  · rfl
theorem getElem?_lt {α : Type} {l : List α} {i : Nat} (h : i < l.length) : l[i]? = some l[i] := List.getElem?_eq_getElem h
theorem drop_cons {α : Type} {l : List α} {i : Nat} (h : i < l.length) : l.drop i = l[i] :: l.drop (i + 1) := List.drop_eq_getElem_cons h
/-- The nearest quotient, halves away from 0. -/
def rdivP (a b : Int) : Int := if a < 0 then -((b - 2 * a) / (2 * b)) else (2 * a + b) / (2 * b)
def rdiv (a b : Int) : Int := if b < 0 then rdivP (-a) (-b) else rdivP a b
theorem rdivP_eq {a b : Int} (ha : 0 ≤ a) (hb : 0 < b) : rdivP a b = a / b + if b - a % b ≤ a % b then 1 else 0 := by
  have h1 := Int.mul_ediv_add_emod a b
  have h2 := Int.emod_nonneg a (show b ≠ 0 by omega)
  have h3 := Int.emod_lt_of_pos a hb
  unfold rdivP
  rw [if_neg (by omega)]
  generalize a / b = q at h1 ⊢
  generalize a % b = r at h1 h2 h3 ⊢
  have key : ∀ t s : Int, 0 ≤ s → s < 2 * b → 2 * a + b = s + 2 * b * t → (2 * a + b) / (2 * b) = t := fun t s hs0 hs1 he => by
    rw [he, Int.add_mul_ediv_left s t (show 2 * b ≠ 0 by omega), Int.ediv_eq_zero_of_lt hs0 hs1]; omega
  have e : 2 * b * q = 2 * (b * q) := Int.mul_assoc 2 b q
  split
  · refine key (q + 1) (2 * r - b) (by omega) (by omega) ?_
    rw [Int.mul_add, e]; omega
  · rw [Int.add_zero]
    refine key q (2 * r + b) (by omega) (by omega) ?_
    rw [e]; omega
theorem rdivP_neg {a b : Int} (ha : 0 < a) (hb : 0 < b) : rdivP (-a) b = -rdivP a b := by
  unfold rdivP
  rw [if_pos (by omega), if_neg (by omega)]
  congr 2; omega
theorem rdivP_nonneg {a b : Int} (ha : 0 ≤ a) (hb : 0 < b) : 0 ≤ rdivP a b := by
  unfold rdivP
  rw [if_neg (by omega)]
  exact Int.ediv_nonneg (by omega) (by omega)
theorem rdivP_le {a b : Int} (ha : 0 ≤ a) (hb : 0 < b) : rdivP a b ≤ a + 1 := by
  rw [rdivP_eq ha hb]
  have := Int.ediv_le_self b ha
  split <;> omega
theorem rdivP_mono {a a' b : Int} (ha : 0 ≤ a) (h : a ≤ a') (hb : 0 < b) : rdivP a b ≤ rdivP a' b := by
  unfold rdivP
  rw [if_neg (by omega), if_neg (by omega)]
  exact Int.ediv_le_ediv (by omega) (by omega)
theorem tdiv_nonneg_eq {a b : Int} (ha : 0 ≤ a) : a.tdiv b = a / b := Int.tdiv_eq_ediv_of_nonneg ha
theorem tmod_nonneg_eq {a b : Int} (ha : 0 ≤ a) : a.tmod b = a % b := Int.tmod_eq_emod_of_nonneg ha
def small (c : UInt8) : Bool := decide (97 ≤ (c.toNat : Int)) && decide ((c.toNat : Int) ≤ 122)
def digit (c : UInt8) : Bool := decide (48 ≤ (c.toNat : Int)) && decide ((c.toNat : Int) ≤ 57)
def isName (s : List UInt8) : Bool := match s with | [] => false | c :: r => small c && r.all (fun c => small c || digit c) && decide (s.length ≤ 10)
def inR (n lo hi : Int) : Bool := decide (lo ≤ n) && decide (n ≤ hi)
theorem inR_iff' {n lo hi : Int} : inR n lo hi = true ↔ lo ≤ n ∧ n ≤ hi := by simp [inR]
theorem impl_within_ok (n lo hi : Int) : impl_within n lo hi = some (inR n lo hi) := by
  rw [impl_within_eq, inR]; by_cases h : lo ≤ n <;> simp [h]
theorem spec_l00In_ok (n lo hi : Int) : spec_l00In n lo hi = some (inR n lo hi) := by
  rw [spec_l00In_eq, inR]; by_cases h : lo ≤ n <;> simp [h]
theorem spec_l01Small_ok (c : UInt8) : spec_l01Small (c.toNat : Int) = some (small c) := by
  rw [spec_l01Small_eq, small]; by_cases h : 97 ≤ (c.toNat : Int) <;> simp [h]
theorem spec_l01Digit_ok (c : UInt8) : spec_l01Digit (c.toNat : Int) = some (digit c) := by
  rw [spec_l01Digit_eq, digit]; by_cases h : 48 ≤ (c.toNat : Int) <;> simp [h]
theorem impl_isDigit_ok (c : UInt8) : impl_isDigit (c.toNat : Int) = some (digit c) := by
  rw [impl_isDigit_eq, digit]; by_cases h : 48 ≤ (c.toNat : Int) <;> simp [h]
theorem spec_l01Name_p1_ok (s : List UInt8) (hs : s.length < 4611686018427387904) : ∀ (k i : Nat), i + k = s.length → spec_l01Name_p1 s i = some ((s.drop i).all fun c => small c || digit c)
  | 0, i, h => by
    rw [spec_l01Name_p1_eq, List.drop_eq_nil_of_le (by omega)]
    simp; omega
  | k + 1, i, h => by
    have hi : i < s.length := by omega
    rw [spec_l01Name_p1_eq, drop_cons hi]
    have h1 : (i : Int) < (s.length : Int) := by omega
    simp only [h1, decide_true, if_true, Int.natCast_nonneg, Int.toNat_natCast, getElem?_lt hi, Option.bind_some, spec_l01Small_ok, spec_l01Digit_ok, wsucc (show i < 4611686018427387904 by omega), spec_l01Name_p1_ok s hs k (i + 1) (by omega), List.all_cons]
    cases small s[i] <;> cases digit s[i] <;> simp
theorem spec_l01Name_ok (s : List UInt8) (hs : s.length < 4611686018427387904) : spec_l01Name s = some (isName s) := by
  rw [spec_l01Name_eq]
  cases s with
  | nil => rfl
  | cons c r =>
    have := spec_l01Name_p1_ok (c :: r) hs (r.length + 1) 0 (by simp)
    simp only [spec_l01Name_p0_eq, List.getElem?_cons_zero, Option.bind_some, spec_l01Small_ok]
    rw [show ((0 : Nat) : Int) = 0 from rfl] at this
    rw [this, isName]
    have e0 : ((c :: r) == ([] : List UInt8)) = false := by simp
    by_cases hl : ((c :: r).length : Int) > 10
    · have : ¬ (c :: r).length ≤ 10 := by omega
      simp only [e0, hl, this, decide_true, decide_false, if_true, Bool.false_eq_true, if_false, Bool.and_false]
    · have : (c :: r).length ≤ 10 := by omega
      simp only [e0, hl, this, decide_true, decide_false, if_true, Bool.false_eq_true, if_false, Bool.and_true]
      cases hc : small c <;> simp [hc]
def okFrom : Nat → List UInt8 → Bool
  | _, [] => true
  | i, c :: r => (small c || (i != 0 && digit c)) && okFrom (i + 1) r
theorem okFrom_all (r : List UInt8) : ∀ i, okFrom (i + 1) r = r.all fun c => small c || digit c := by
  induction r with
  | nil => intro i; rfl
  | cons c r ih => intro i; simp [okFrom, ih]
theorem impl_IsName_p0_ok (s : List UInt8) (hs : s.length < 4611686018427387904) : ∀ (k i : Nat), i + k = s.length → impl_IsName_p0 s i = some (okFrom i (s.drop i) && (!(s == []) && decide (s.length ≤ 10)))
  | 0, i, h => by
    rw [impl_IsName_p0_eq, List.drop_eq_nil_of_le (by omega), impl_few_eq]
    have h1 : ¬ (i : Int) < (s.length : Int) := by omega
    simp only [h1, decide_false, Bool.false_eq_true, if_false, okFrom, Option.bind_some, Bool.true_and]
    cases s with
    | nil => rfl
    | cons c r =>
      have : ((c :: r == []) = false) := by simp
      simp only [this, Bool.not_false, if_true, Bool.true_and]
      congr 1
      simp only [decide_eq_decide]; omega
  | k + 1, i, h => by
    have hi : i < s.length := by omega
    have h1 : (i : Int) < (s.length : Int) := by omega
    have ih := impl_IsName_p0_ok s hs k (i + 1) (by omega)
    have e1 : ∀ b : Bool, impl_IsName_p1 s i b = some (((b || (i != 0 && digit s[i])) && okFrom (i + 1) (s.drop (i + 1))) && (!(s == []) && decide (s.length ≤ 10))) := by
      intro b
      rw [impl_IsName_p1_eq]
      simp only [Int.natCast_nonneg, decide_true, if_true, Int.toNat_natCast, getElem?_lt hi, Option.bind_some, impl_isDigit_ok, wsucc (show i < 4611686018427387904 by omega), ih]
      cases b
      · by_cases h0 : i = 0
        · subst h0; simp
        · have : ((i : Int) == 0) = false := by simp [h0]
          have : (i != 0) = true := by simp [h0]
          simp only [*]
          cases digit s[i] <;> simp
      · simp
    rw [impl_IsName_p0_eq, drop_cons hi, okFrom]
    simp only [h1, decide_true, if_true, Int.natCast_nonneg, Int.toNat_natCast, getElem?_lt hi, Option.bind_some, e1, small]
    by_cases h97 : (s[i].toNat : Int) ≥ 97 <;> simp [h97]
theorem impl_IsName_ok (s : List UInt8) (hs : s.length < 4611686018427387904) : impl_IsName s = some (isName s) := by
  rw [impl_IsName_eq]
  have := impl_IsName_p0_ok s hs s.length 0 (by simp)
  rw [show ((0 : Nat) : Int) = 0 from rfl] at this
  rw [this]
  cases s with
  | nil => rfl
  | cons c r => simp [okFrom, okFrom_all, isName]
theorem eqInt64S_loop (xs : List Int) (hs : xs.length ≤ 1048576) : ∀ (k i : Nat), i + k = xs.length → laws_eqInt64S_p0 xs xs i = some true
  | 0, i, hk => by
    rw [laws_eqInt64S_p0_eq]
    have : ¬ (i : Int) < (xs.length : Int) := by omega
    simp only [this, decide_false, Bool.false_eq_true, if_false]
  | k + 1, i, hk => by
    have hi : i < xs.length := by omega
    have hlt : (i : Int) < (xs.length : Int) := by omega
    have hw : IntKind.i64.wrap ((i : Int) + 1) = ((i + 1 : Nat) : Int) := by rw [w64 (by omega) (by omega)]; omega
    rw [laws_eqInt64S_p0_eq]
    simp only [hlt, decide_true, if_true, Int.natCast_nonneg, Int.toNat_natCast, List.getElem?_eq_getElem hi, Option.bind_some, bne_self_eq_false, Bool.false_eq_true, if_false, hw]
    exact eqInt64S_loop xs hs k (i + 1) (by omega)
theorem eqInt64S_ok (xs : List Int) (hs : xs.length ≤ 1048576) : laws_eqInt64S xs xs = some true := by
  rw [laws_eqInt64S_eq]
  simp only [bne_self_eq_false, Bool.false_eq_true, if_false]
  exact eqInt64S_loop xs hs xs.length 0 (by omega)
/-- Numbers one behind the other. -/
def runs (m : Int) : Nat → List Int
  | 0 => []
  | n + 1 => m :: runs (m + 1) n
theorem runs_len (m : Int) (n : Nat) : (runs m n).length = n := by
  induction n generalizing m with
  | zero => rfl
  | succ n ih => simp [runs, ih]
theorem runs_get (m : Int) (n i : Nat) (h : i < n) : (runs m n)[i]? = some (m + i) := by
  induction n generalizing m i with
  | zero => omega
  | succ n ih =>
    cases i with
    | zero => simp [runs]
    | succ i =>
      simp only [runs, List.getElem?_cons_succ]
      rw [ih (m + 1) i (by omega)]
      congr 1; omega
theorem wu64 {n : Int} (h1 : 0 ≤ n) (h2 : n < 18446744073709551616) : IntKind.u64.wrap n = n := by
  have e : IntKind.u64.wrap n = if decide false = true then n % 18446744073709551616 - 18446744073709551616 else n % 18446744073709551616 := by
    simp [IntKind.wrap, IntKind.signed, IntKind.bits]
  rw [e]
  simp; omega
theorem and255 (x : Int) : ((BitVec.ofInt IntKind.u64.bits x &&& BitVec.ofInt IntKind.u64.bits 255).toNat : Int) ≤ 255 := by
  have : (BitVec.ofInt IntKind.u64.bits x &&& BitVec.ofInt IntKind.u64.bits 255).toNat ≤ 255 := by
    rw [BitVec.toNat_and]
    refine Nat.le_trans Nat.and_le_right ?_
    decide
  omega
/-- A source of numbers that an input lays: its bytes are bytes, and it has not gone far. -/
def SrcOk (s : T_l00Src.ty) (c : Int) : Prop := (∀ x : Int, x ∈ s.1 → 0 ≤ x ∧ x ≤ 255) ∧ s.1.length ≤ 1048576 ∧ (0 : Int) ≤ s.2.1 ∧ (s.2.1 : Int) ≤ c
theorem src_eta (s : T_l00Src.ty) : (s.1, s.2.1, s.2.2.1, ()) = s := rfl
theorem SrcOk.up {s : T_l00Src.ty} {c d : Int} (h : SrcOk s c) (hd : c ≤ d) : SrcOk s d := ⟨h.1, h.2.1, h.2.2.1, Int.le_trans h.2.2.2 hd⟩
def absI (n : Int) : Int := if n < 0 then -n else n
theorem absI_bd {n b : Int} (h : -b ≤ n ∧ n ≤ b) : 0 ≤ absI n ∧ absI n ≤ b := by unfold absI; split <;> omega
theorem absI_le {n b : Int} : absI n ≤ b ↔ -b ≤ n ∧ n ≤ b := by unfold absI; split <;> omega
theorem rdivP_err {a b : Int} (hb : 0 < b) : 2 * absI (rdivP a b * b - a) ≤ b := by
  have pos : ∀ a : Int, 0 ≤ a → 2 * absI (rdivP a b * b - a) ≤ b ∧ 0 ≤ a := fun a ha => by
    refine ⟨?_, ha⟩
    unfold rdivP
    rw [if_neg (by omega)]
    have h1 := Int.mul_ediv_add_emod (2 * a + b) (2 * b)
    have h2 := Int.emod_nonneg (2 * a + b) (show 2 * b ≠ 0 by omega)
    have h3 := Int.emod_lt_of_pos (2 * a + b) (show 0 < 2 * b by omega)
    have e : 2 * b * ((2 * a + b) / (2 * b)) = 2 * ((2 * a + b) / (2 * b) * b) := by rw [Int.mul_assoc, Int.mul_comm b]
    rw [e] at h1
    unfold absI
    split <;> omega
  by_cases ha : 0 ≤ a
  · exact (pos a ha).1
  · have h := (pos (-a) (by omega)).1
    have e : rdivP a b = -rdivP (-a) b := by rw [← rdivP_neg (show 0 < -a by omega) hb]; congr 1; omega
    rw [e, Int.neg_mul]
    unfold absI at h ⊢
    split at h <;> split <;> omega
theorem rdivP_bd {a b m : Int} (hb : 0 < b) (h : -m ≤ a ∧ a ≤ m) : -(m + 1) ≤ rdivP a b ∧ rdivP a b ≤ m + 1 := by
  by_cases ha : 0 ≤ a
  · have := rdivP_nonneg ha hb
    have := rdivP_le ha hb
    omega
  · have e : rdivP a b = -rdivP (-a) b := by rw [← rdivP_neg (show 0 < -a by omega) hb]; congr 1; omega
    have := rdivP_nonneg (a := -a) (by omega) hb
    have := rdivP_le (a := -a) (by omega) hb
    omega
/-- The places of a list's elements that are as wished. -/
def idx (P : Nat → Bool) (n : Nat) : List Int := ((List.range n).filter P).map fun (j : Nat) => (j : Int)
theorem idx_succ (P : Nat → Bool) (n : Nat) : idx P (n + 1) = idx P n ++ if P n then [(n : Int)] else [] := by
  unfold idx
  rw [List.range_succ, List.filter_append, List.map_append]
  cases h : P n <;> simp [h]
theorem idx_len (P : Nat → Bool) (n : Nat) : (idx P n).length ≤ n := by
  unfold idx
  rw [List.length_map]
  exact Nat.le_trans (List.length_filter_le _ _) (by simp)
theorem idx_mem (P : Nat → Bool) (n i : Nat) : (i : Int) ∈ idx P n ↔ i < n ∧ P i = true := by
  unfold idx
  simp only [List.mem_map, List.mem_filter, List.mem_range]
  constructor
  · rintro ⟨j, h, e⟩
    have : j = i := by omega
    subst this; exact h
  · intro h; exact ⟨i, h, rfl⟩
theorem idx_bd (P : Nat → Bool) (n : Nat) : ∀ x, x ∈ idx P n → 0 ≤ x ∧ x < n := by
  intro x hx
  unfold idx at hx
  obtain ⟨j, hj, rfl⟩ := List.mem_map.1 hx
  have := List.mem_range.1 (List.mem_filter.1 hj).1
  omega
theorem idx_rise (P : Nat → Bool) (n : Nat) : (idx P n).Pairwise (· < ·) := by
  unfold idx
  rw [List.pairwise_map]
  refine List.Pairwise.imp ?_ (List.Pairwise.filter P (List.pairwise_lt_range (n := n)))
  intro a b h; omega
def neckOk (x : T_Neck.ty) : Bool := inR x.1 100 10000 && (inR x.2.1 100 10000 && (inR x.2.2.1 0 500 && inR x.2.2.2.1 0 300))
theorem neckOk_iff {a b c d : Int} : neckOk (a, b, c, d, ()) = true ↔ (100 ≤ a ∧ a ≤ 10000) ∧ (100 ≤ b ∧ b ≤ 10000) ∧ (0 ≤ c ∧ c ≤ 500) ∧ (0 ≤ d ∧ d ≤ 300) := by
  simp [neckOk, inR]
theorem impl_ValidNeck_ok (x : T_Neck.ty) : impl_ValidNeck x = some (neckOk x) := by
  rw [impl_ValidNeck_eq, neckOk]
  simp only [impl_within_ok, Option.bind_some]
  cases inR x.1 100 10000 <;> cases inR x.2.1 100 10000 <;> cases inR x.2.2.1 0 500 <;> simp
theorem spec_l10Ok_ok (x : T_Neck.ty) : spec_l10Ok x = some (neckOk x) := by
  rw [spec_l10Ok_eq, neckOk]
  simp only [spec_l10Size_eq, spec_l00In_ok, Option.bind_some]
  cases inR x.1 100 10000 <;> cases inR x.2.1 100 10000 <;> cases inR x.2.2.1 0 500 <;> simp
def potOk (id : List UInt8) (dry water heat hours : Int) : Bool :=
  isName id && (inR dry 1 10000 && (inR water 1 10000 && (inR heat 20 95 && inR hours 0 1000)))
def potOpen (dry water heat room : Int) : Int := if rdivP (60 * water) dry + 2 * (room - 15) + heat - 60 > 0 then rdivP (60 * water) dry + 2 * (room - 15) + heat - 60 else 0
theorem inR_iff {n lo hi : Int} : inR n lo hi = true ↔ lo ≤ n ∧ n ≤ hi := by simp [inR]
theorem potOk_iff {id : List UInt8} {dry water heat hours : Int} : potOk id dry water heat hours = true ↔ isName id = true ∧ (1 ≤ dry ∧ dry ≤ 10000) ∧ (1 ≤ water ∧ water ≤ 10000) ∧ (20 ≤ heat ∧ heat ≤ 95) ∧ 0 ≤ hours ∧ hours ≤ 1000 := by
  simp [potOk, inR_iff]
theorem open_bounds {dry water : Int} (h1 : 1 ≤ dry) (h2 : 0 ≤ water ∧ water ≤ 100000) : 0 ≤ rdivP (60 * water) dry ∧ rdivP (60 * water) dry ≤ 6000001 := by
  have := rdivP_nonneg (a := 60 * water) (b := dry) (by omega) (by omega)
  have := rdivP_le (a := 60 * water) (b := dry) (by omega) (by omega)
  omega
theorem potOpen_bounds {dry water heat room : Int} (h1 : 1 ≤ dry) (h2 : 0 ≤ water ∧ water ≤ 100000) (h3 : 20 ≤ heat ∧ heat ≤ 95) (h4 : 0 ≤ room ∧ room ≤ 40) : 0 ≤ potOpen dry water heat room ∧ potOpen dry water heat room ≤ 7000000 := by
  have := open_bounds h1 h2
  unfold potOpen
  split <;> omega
theorem spec_l14One_ok (id : List UInt8) (dry water heat hours : Int) (hs : id.length < 4611686018427387904) : spec_l14One (id, dry, water, heat, hours, ()) = some (potOk id dry water heat hours) := by
  rw [spec_l14One_eq, potOk]
  simp only [spec_l01Name_ok id hs, spec_l14Grams_eq, spec_l14Heat_eq, spec_l00In_ok, Option.bind_some]
  cases isName id <;> cases inR dry 1 10000 <;> cases inR water 1 10000 <;> cases inR heat 20 95 <;> simp
theorem impl_Pot_valid_ok (id : List UInt8) (dry water heat hours : Int) (hs : id.length < 4611686018427387904) : impl_Pot_valid (id, dry, water, heat, hours, ()) = some (potOk id dry water heat hours) := by
  rw [impl_Pot_valid_eq, potOk]
  simp only [impl_IsName_ok id hs, impl_isGrams_eq, impl_isHeat_eq, impl_within_ok, Option.bind_some]
  cases isName id <;> cases inR dry 1 10000 <;> cases inR water 1 10000 <;> cases inR heat 20 95 <;> simp
theorem szPot_ok (x : T_Pot.ty) (hx : x.1.length ≤ 9223372036854775807) (l : Int) (h0 : 0 ≤ l) (h1 : l ≤ 1048576) : ∃ n, laws_szPot x l = some n ∧ n ≤ l ∧ (0 ≤ n → x.1.length ≤ 1048576) := by
  rw [laws_szPot_eq, w64 (n := l - x.1.length) (by omega) (by omega)]
  by_cases hn : l - (x.1.length : Int) < 0
  · simp only [hn, decide_true, if_true]; exact ⟨-1, rfl, by omega, fun h => by omega⟩
  · simp only [hn, decide_false, Bool.false_eq_true, if_false]; exact ⟨_, rfl, by omega, fun h => by omega⟩
theorem eqPot_self (x : T_Pot.ty) : laws_eqPot x x = some true := by
  rw [laws_eqPot_eq]; simp
theorem szPotS_ok (xs : List T_Pot.ty) (hl : xs.length ≤ 9223372036854775807) (hx : ∀ x, x ∈ xs → x.1.length ≤ 9223372036854775807) (l : Int) (h0 : 0 ≤ l) (h1 : l ≤ 1048576) :
    ∃ n, laws_szPotS xs l = some n ∧ n ≤ l ∧ (0 ≤ n → xs.length ≤ 1048576 ∧ ∀ x, x ∈ xs → x.1.length ≤ 1048576) :=
  szList (P := fun x : T_Pot.ty => x.1.length ≤ 1048576) xs laws_szPot laws_szPotS_p0 laws_szPotS (fun l i => laws_szPotS_p0_eq xs l i) (fun l => laws_szPotS_eq xs l) hl (fun x hm l h0 h1 => szPot_ok x (hx x hm) l h0 h1) l h0 h1
theorem toPotS_ok (xs : List T_Pot.ty) (hs : xs.length ≤ 1048576) : laws_toPotS xs = some xs :=
  toList_ok xs _ laws_toPot laws_toPotS_p0 laws_toPotS (fun n i r => laws_toPotS_p0_eq xs n i r) (laws_toPotS_eq xs) hs (fun x _ => laws_toPot_eq x)
theorem eqPotS_ok (xs : List T_Pot.ty) (hs : xs.length ≤ 1048576) : laws_eqPotS xs xs = some true :=
  eqList_ok xs laws_eqPot laws_eqPotS_p0 laws_eqPotS (fun i => laws_eqPotS_p0_eq xs xs i) (laws_eqPotS_eq xs xs) hs (fun x _ => eqPot_self x)
def potOkT (x : T_Pot.ty) : Bool := potOk x.1 x.2.1 x.2.2.1 x.2.2.2.1 x.2.2.2.2.1
def potsOk (xs : List T_Pot.ty) : Bool := sortedChk potOkT (fun x => x.1) none xs && decide ((xs.length : Int) ≤ 8)
theorem potsOk_all {xs : List T_Pot.ty} (h : potsOk xs = true) (x : T_Pot.ty) (hx : x ∈ xs) : potOkT x = true := by
  simp only [potsOk, Bool.and_eq_true] at h
  exact sortedChk_all h.1 x hx
def potStrong (dry water heat hours : Int) : Int :=
  if rdivP (1000 * dry) (dry + water) - 2 * hours - 10 * (if heat - 70 > 0 then heat - 70 else 0) > 0 then rdivP (1000 * dry) (dry + water) - 2 * hours - 10 * (if heat - 70 > 0 then heat - 70 else 0) else 0
theorem strong_bounds {dry water heat hours : Int} (h1 : 1 ≤ dry ∧ dry ≤ 10000) (h2 : 1 ≤ water ∧ water ≤ 100000) (h3 : 20 ≤ heat ∧ heat ≤ 95) (h4 : 0 ≤ hours ∧ hours ≤ 100000) :
    0 ≤ rdivP (1000 * dry) (dry + water) ∧ rdivP (1000 * dry) (dry + water) ≤ 10000001 ∧ 0 ≤ potStrong dry water heat hours ∧ potStrong dry water heat hours ≤ 10000001 := by
  have := rdivP_nonneg (a := 1000 * dry) (b := dry + water) (by omega) (by omega)
  have := rdivP_le (a := 1000 * dry) (b := dry + water) (by omega) (by omega)
  refine ⟨by omega, by omega, ?_⟩
  unfold potStrong
  constructor <;> repeat' split
  all_goals omega
def potHolds (dry water heat hours pull area : Int) : Bool := decide (pull ≤ potStrong dry water heat hours * area / 100)
theorem holds_bounds {s area : Int} (h1 : 0 ≤ s ∧ s ≤ 10000001) (h2 : 1 ≤ area ∧ area ≤ 100000) : 0 ≤ s * area ∧ s * area ≤ 1000000100000 ∧ IntKind.i64.wrap ((IntKind.i64.wrap (s * area)).tdiv 100) = s * area / 100 := by
  have e1 : 0 ≤ s * area := Int.mul_nonneg h1.1 (by omega)
  have e2 : s * area ≤ 10000001 * 100000 := Int.mul_le_mul h1.2 h2.2 (by omega) (by omega)
  refine ⟨e1, by omega, ?_⟩
  rw [w64 (n := s * area) (by omega) (by omega), tdiv_nonneg_eq e1, w64 (by omega) (by omega)]
theorem spec_l14Ok_ok (xs : List T_Pot.ty) (hs : xs.length ≤ 1048576) (hx : ∀ x, x ∈ xs → x.1.length ≤ 1048576) : spec_l14Ok xs = some (potsOk xs) := by
  rw [spec_l14Ok_eq]
  have := sortedLoopS xs spec_l14One potOkT (fun x => x.1) (fun i => spec_l14Ok_p0 xs i) _ _ rfl (fun i => spec_l14Ok_p0_eq xs i) hs (fun x hm => spec_l14One_ok x.1 x.2.1 x.2.2.1 x.2.2.2.1 x.2.2.2.2.1 (by have := hx x hm; omega)) xs.length 0 (by omega)
  exact this
theorem impl_ValidPots_ok (xs : List T_Pot.ty) (hs : xs.length ≤ 1048576) (hx : ∀ x, x ∈ xs → x.1.length ≤ 1048576) : impl_ValidPots xs = some (potsOk xs) := by
  rw [impl_ValidPots_eq]
  have := sortedLoopI xs impl_Pot_valid potOkT (fun x => x.1) (fun i => impl_ValidPots_p0 xs xs xs.length i) _ _ (show ((impl_few (xs.length : Int) 8).bind fun x4 => some x4) = some (decide ((xs.length : Int) ≤ 8)) by rw [impl_few_eq]; rfl) (fun i => impl_ValidPots_p0_eq xs xs xs.length i) hs (fun x hm => impl_Pot_valid_ok x.1 x.2.1 x.2.2.1 x.2.2.2.1 x.2.2.2.2.1 (by have := hx x hm; omega)) xs.length 0 (by omega)
  exact this
theorem potOpen_mono {dry water water' heat room : Int} (h1 : 1 ≤ dry) (h2 : 0 ≤ water) (h : water ≤ water') : potOpen dry water heat room ≤ potOpen dry water' heat room := by
  have := rdivP_mono (a := 60 * water) (a' := 60 * water') (b := dry) (by omega) (by omega) (by omega)
  unfold potOpen
  split <;> split <;> omega
theorem szOne {α : Type} (n : Nat) (f : α → Int → Option Int) (x : α) (hx : n ≤ 9223372036854775807) (l : Int) (h : f x l = if decide (IntKind.i64.wrap (l - (n : Int)) < 0) then some (-1) else some (IntKind.i64.wrap (l - (n : Int)))) (h0 : 0 ≤ l) (h1 : l ≤ 1048576) :
    ∃ r, f x l = some r ∧ r ≤ l ∧ (0 ≤ r → n ≤ 1048576) := by
  rw [h, w64 (n := l - n) (by omega) (by omega)]
  by_cases hn : l - (n : Int) < 0
  · simp only [hn, decide_true, if_true]; exact ⟨-1, rfl, by omega, fun h => by omega⟩
  · simp only [hn, decide_false, Bool.false_eq_true, if_false]; exact ⟨_, rfl, by omega, fun h => by omega⟩
theorem szTwo {α : Type} (n m : Nat) (f : α → Int → Option Int) (x : α) (hx : n ≤ 9223372036854775807) (hm : m ≤ 9223372036854775807) (l : Int) (h : f x l = if decide (IntKind.i64.wrap (l - (n : Int)) < 0) then some (-1) else if decide (IntKind.i64.wrap ((IntKind.i64.wrap (l - (n : Int))) - (m : Int)) < 0) then some (-1) else some (IntKind.i64.wrap ((IntKind.i64.wrap (l - (n : Int))) - (m : Int)))) (h0 : 0 ≤ l) (h1 : l ≤ 1048576) :
    ∃ r, f x l = some r ∧ r ≤ l ∧ (0 ≤ r → n ≤ 1048576 ∧ m ≤ 1048576) := by
  rw [h, w64 (n := l - n) (by omega) (by omega)]
  by_cases hn : l - (n : Int) < 0
  · simp only [hn, decide_true, if_true]; exact ⟨-1, rfl, by omega, fun h => by omega⟩
  simp only [hn, decide_false, Bool.false_eq_true, if_false]
  rw [w64 (n := l - n - m) (by omega) (by omega)]
  by_cases hn2 : l - (n : Int) - m < 0
  · simp only [hn2, decide_true, if_true]; exact ⟨-1, rfl, by omega, fun h => by omega⟩
  · simp only [hn2, decide_false, Bool.false_eq_true, if_false]; exact ⟨_, rfl, by omega, fun h => ⟨by omega, by omega⟩⟩
theorem szStack_ok (x : T_Peg.ty) (hx : x.1.length ≤ 9223372036854775807) (l : Int) (h0 : 0 ≤ l) (h1 : l ≤ 1048576) : ∃ n, laws_szStack x l = some n ∧ n ≤ l ∧ (0 ≤ n → x.1.length ≤ 1048576) :=
  szOne (List.length (α := UInt8) x.1) laws_szStack x hx l (laws_szStack_eq x l) h0 h1
theorem szStackS_ok (xs : List T_Peg.ty) (hl : xs.length ≤ 9223372036854775807) (hx : ∀ x, x ∈ xs → x.1.length ≤ 9223372036854775807) (l : Int) (h0 : 0 ≤ l) (h1 : l ≤ 1048576) :
    ∃ n, laws_szStackS xs l = some n ∧ n ≤ l ∧ (0 ≤ n → xs.length ≤ 1048576 ∧ ∀ x, x ∈ xs → x.1.length ≤ 1048576) :=
  szList (P := fun x : T_Peg.ty => x.1.length ≤ 1048576) xs laws_szStack laws_szStackS_p0 laws_szStackS (fun l i => laws_szStackS_p0_eq xs l i) (fun l => laws_szStackS_eq xs l) hl (fun x hm l h0 h1 => szStack_ok x (hx x hm) l h0 h1) l h0 h1
theorem szRib_ok (x : T_Mode.ty) (hx : x.1.length ≤ 9223372036854775807) (l : Int) (h0 : 0 ≤ l) (h1 : l ≤ 1048576) : ∃ n, laws_szRib x l = some n ∧ n ≤ l ∧ (0 ≤ n → x.1.length ≤ 1048576) :=
  szOne (List.length (α := UInt8) x.1) laws_szRib x hx l (laws_szRib_eq x l) h0 h1
theorem szRibS_ok (xs : List T_Mode.ty) (hl : xs.length ≤ 9223372036854775807) (hx : ∀ x, x ∈ xs → x.1.length ≤ 9223372036854775807) (l : Int) (h0 : 0 ≤ l) (h1 : l ≤ 1048576) :
    ∃ n, laws_szRibS xs l = some n ∧ n ≤ l ∧ (0 ≤ n → xs.length ≤ 1048576 ∧ ∀ x, x ∈ xs → x.1.length ≤ 1048576) :=
  szList (P := fun x : T_Mode.ty => x.1.length ≤ 1048576) xs laws_szRib laws_szRibS_p0 laws_szRibS (fun l i => laws_szRibS_p0_eq xs l i) (fun l => laws_szRibS_eq xs l) hl (fun x hm l h0 h1 => szRib_ok x (hx x hm) l h0 h1) l h0 h1
theorem szPeg_ok (x : T_Peg.ty) (hx : x.1.length ≤ 9223372036854775807) (l : Int) (h0 : 0 ≤ l) (h1 : l ≤ 1048576) : ∃ n, laws_szPeg x l = some n ∧ n ≤ l ∧ (0 ≤ n → x.1.length ≤ 1048576) :=
  szOne (List.length (α := UInt8) x.1) laws_szPeg x hx l (laws_szPeg_eq x l) h0 h1
theorem szPegS_ok (xs : List T_Peg.ty) (hl : xs.length ≤ 9223372036854775807) (hx : ∀ x, x ∈ xs → x.1.length ≤ 9223372036854775807) (l : Int) (h0 : 0 ≤ l) (h1 : l ≤ 1048576) :
    ∃ n, laws_szPegS xs l = some n ∧ n ≤ l ∧ (0 ≤ n → xs.length ≤ 1048576 ∧ ∀ x, x ∈ xs → x.1.length ≤ 1048576) :=
  szList (P := fun x : T_Peg.ty => x.1.length ≤ 1048576) xs laws_szPeg laws_szPegS_p0 laws_szPegS (fun l i => laws_szPegS_p0_eq xs l i) (fun l => laws_szPegS_eq xs l) hl (fun x hm l h0 h1 => szPeg_ok x (hx x hm) l h0 h1) l h0 h1
theorem szMode_ok (x : T_Mode.ty) (hx : x.1.length ≤ 9223372036854775807) (l : Int) (h0 : 0 ≤ l) (h1 : l ≤ 1048576) : ∃ n, laws_szMode x l = some n ∧ n ≤ l ∧ (0 ≤ n → x.1.length ≤ 1048576) :=
  szOne (List.length (α := UInt8) x.1) laws_szMode x hx l (laws_szMode_eq x l) h0 h1
theorem szModeS_ok (xs : List T_Mode.ty) (hl : xs.length ≤ 9223372036854775807) (hx : ∀ x, x ∈ xs → x.1.length ≤ 9223372036854775807) (l : Int) (h0 : 0 ≤ l) (h1 : l ≤ 1048576) :
    ∃ n, laws_szModeS xs l = some n ∧ n ≤ l ∧ (0 ≤ n → xs.length ≤ 1048576 ∧ ∀ x, x ∈ xs → x.1.length ≤ 1048576) :=
  szList (P := fun x : T_Mode.ty => x.1.length ≤ 1048576) xs laws_szMode laws_szModeS_p0 laws_szModeS (fun l i => laws_szModeS_p0_eq xs l i) (fun l => laws_szModeS_eq xs l) hl (fun x hm l h0 h1 => szMode_ok x (hx x hm) l h0 h1) l h0 h1
theorem szWork_ok (x : T_Peg.ty) (hx : x.1.length ≤ 9223372036854775807) (l : Int) (h0 : 0 ≤ l) (h1 : l ≤ 1048576) : ∃ n, laws_szWork x l = some n ∧ n ≤ l ∧ (0 ≤ n → x.1.length ≤ 1048576) :=
  szOne (List.length (α := UInt8) x.1) laws_szWork x hx l (laws_szWork_eq x l) h0 h1
theorem szWorkS_ok (xs : List T_Peg.ty) (hl : xs.length ≤ 9223372036854775807) (hx : ∀ x, x ∈ xs → x.1.length ≤ 9223372036854775807) (l : Int) (h0 : 0 ≤ l) (h1 : l ≤ 1048576) :
    ∃ n, laws_szWorkS xs l = some n ∧ n ≤ l ∧ (0 ≤ n → xs.length ≤ 1048576 ∧ ∀ x, x ∈ xs → x.1.length ≤ 1048576) :=
  szList (P := fun x : T_Peg.ty => x.1.length ≤ 1048576) xs laws_szWork laws_szWorkS_p0 laws_szWorkS (fun l i => laws_szWorkS_p0_eq xs l i) (fun l => laws_szWorkS_eq xs l) hl (fun x hm l h0 h1 => szWork_ok x (hx x hm) l h0 h1) l h0 h1
theorem szPaper_ok (x : T_Paper.ty) (hx : x.1.length ≤ 9223372036854775807 ∧ x.2.1.length ≤ 9223372036854775807) (l : Int) (h0 : 0 ≤ l) (h1 : l ≤ 1048576) : ∃ n, laws_szPaper x l = some n ∧ n ≤ l ∧ (0 ≤ n → x.1.length ≤ 1048576 ∧ x.2.1.length ≤ 1048576) :=
  szTwo (List.length (α := UInt8) x.1) (List.length (α := UInt8) x.2.1) laws_szPaper x hx.1 hx.2 l (laws_szPaper_eq x l) h0 h1
theorem szPaperS_ok (xs : List T_Paper.ty) (hl : xs.length ≤ 9223372036854775807) (hx : ∀ x, x ∈ xs → x.1.length ≤ 9223372036854775807 ∧ x.2.1.length ≤ 9223372036854775807) (l : Int) (h0 : 0 ≤ l) (h1 : l ≤ 1048576) :
    ∃ n, laws_szPaperS xs l = some n ∧ n ≤ l ∧ (0 ≤ n → xs.length ≤ 1048576 ∧ ∀ x, x ∈ xs → x.1.length ≤ 1048576 ∧ x.2.1.length ≤ 1048576) :=
  szList (P := fun x : T_Paper.ty => x.1.length ≤ 1048576 ∧ x.2.1.length ≤ 1048576) xs laws_szPaper laws_szPaperS_p0 laws_szPaperS (fun l i => laws_szPaperS_p0_eq xs l i) (fun l => laws_szPaperS_eq xs l) hl (fun x hm l h0 h1 => szPaper_ok x (hx x hm) l h0 h1) l h0 h1
theorem toStackS_ok (xs : List T_Peg.ty) (hs : xs.length ≤ 1048576) : laws_toStackS xs = some xs :=
  toList_ok xs _ laws_toStack laws_toStackS_p0 laws_toStackS (fun n i r => laws_toStackS_p0_eq xs n i r) (laws_toStackS_eq xs) hs (fun x _ => laws_toStack_eq x)
theorem eqStack_self (x : T_Peg.ty) : laws_eqStack x x = some true := by
  rw [laws_eqStack_eq]; simp
theorem eqStackS_ok (xs : List T_Peg.ty) (hs : xs.length ≤ 1048576) : laws_eqStackS xs xs = some true :=
  eqList_ok xs laws_eqStack laws_eqStackS_p0 laws_eqStackS (fun i => laws_eqStackS_p0_eq xs xs i) (laws_eqStackS_eq xs xs) hs (fun x _ => eqStack_self x)
theorem toRibS_ok (xs : List T_Mode.ty) (hs : xs.length ≤ 1048576) : laws_toRibS xs = some xs :=
  toList_ok xs _ laws_toRib laws_toRibS_p0 laws_toRibS (fun n i r => laws_toRibS_p0_eq xs n i r) (laws_toRibS_eq xs) hs (fun x _ => laws_toRib_eq x)
theorem eqRib_self (x : T_Mode.ty) : laws_eqRib x x = some true := by
  rw [laws_eqRib_eq]; simp
theorem eqRibS_ok (xs : List T_Mode.ty) (hs : xs.length ≤ 1048576) : laws_eqRibS xs xs = some true :=
  eqList_ok xs laws_eqRib laws_eqRibS_p0 laws_eqRibS (fun i => laws_eqRibS_p0_eq xs xs i) (laws_eqRibS_eq xs xs) hs (fun x _ => eqRib_self x)
theorem toPegS_ok (xs : List T_Peg.ty) (hs : xs.length ≤ 1048576) : laws_toPegS xs = some xs :=
  toList_ok xs _ laws_toPeg laws_toPegS_p0 laws_toPegS (fun n i r => laws_toPegS_p0_eq xs n i r) (laws_toPegS_eq xs) hs (fun x _ => laws_toPeg_eq x)
theorem eqPeg_self (x : T_Peg.ty) : laws_eqPeg x x = some true := by
  rw [laws_eqPeg_eq]; simp
theorem eqPegS_ok (xs : List T_Peg.ty) (hs : xs.length ≤ 1048576) : laws_eqPegS xs xs = some true :=
  eqList_ok xs laws_eqPeg laws_eqPegS_p0 laws_eqPegS (fun i => laws_eqPegS_p0_eq xs xs i) (laws_eqPegS_eq xs xs) hs (fun x _ => eqPeg_self x)
theorem toModeS_ok (xs : List T_Mode.ty) (hs : xs.length ≤ 1048576) : laws_toModeS xs = some xs :=
  toList_ok xs _ laws_toMode laws_toModeS_p0 laws_toModeS (fun n i r => laws_toModeS_p0_eq xs n i r) (laws_toModeS_eq xs) hs (fun x _ => laws_toMode_eq x)
theorem eqMode_self (x : T_Mode.ty) : laws_eqMode x x = some true := by
  rw [laws_eqMode_eq]; simp
theorem eqModeS_ok (xs : List T_Mode.ty) (hs : xs.length ≤ 1048576) : laws_eqModeS xs xs = some true :=
  eqList_ok xs laws_eqMode laws_eqModeS_p0 laws_eqModeS (fun i => laws_eqModeS_p0_eq xs xs i) (laws_eqModeS_eq xs xs) hs (fun x _ => eqMode_self x)
theorem toWorkS_ok (xs : List T_Peg.ty) (hs : xs.length ≤ 1048576) : laws_toWorkS xs = some xs :=
  toList_ok xs _ laws_toWork laws_toWorkS_p0 laws_toWorkS (fun n i r => laws_toWorkS_p0_eq xs n i r) (laws_toWorkS_eq xs) hs (fun x _ => laws_toWork_eq x)
theorem eqWork_self (x : T_Peg.ty) : laws_eqWork x x = some true := by
  rw [laws_eqWork_eq]; simp
theorem eqWorkS_ok (xs : List T_Peg.ty) (hs : xs.length ≤ 1048576) : laws_eqWorkS xs xs = some true :=
  eqList_ok xs laws_eqWork laws_eqWorkS_p0 laws_eqWorkS (fun i => laws_eqWorkS_p0_eq xs xs i) (laws_eqWorkS_eq xs xs) hs (fun x _ => eqWork_self x)
theorem toPaperS_ok (xs : List T_Paper.ty) (hs : xs.length ≤ 1048576) : laws_toPaperS xs = some xs :=
  toList_ok xs _ laws_toPaper laws_toPaperS_p0 laws_toPaperS (fun n i r => laws_toPaperS_p0_eq xs n i r) (laws_toPaperS_eq xs) hs (fun x _ => laws_toPaper_eq x)
theorem eqPaper_self (x : T_Paper.ty) : laws_eqPaper x x = some true := by
  rw [laws_eqPaper_eq]; simp
theorem eqPaperS_ok (xs : List T_Paper.ty) (hs : xs.length ≤ 1048576) : laws_eqPaperS xs xs = some true :=
  eqList_ok xs laws_eqPaper laws_eqPaperS_p0 laws_eqPaperS (fun i => laws_eqPaperS_p0_eq xs xs i) (laws_eqPaperS_eq xs xs) hs (fun x _ => eqPaper_self x)
theorem eqNeck_self (x : T_Neck.ty) : laws_eqNeck x x = some true := by
  rw [laws_eqNeck_eq]; simp
theorem szInt64S_ok (x : List Int) (hx : x.length ≤ 9223372036854775807) (l : Int) (h0 : 0 ≤ l) (h1 : l ≤ 1048576) : ∃ n, laws_szInt64S x l = some n ∧ n ≤ l ∧ (0 ≤ n → x.length ≤ 1048576) :=
  szOne x.length laws_szInt64S x hx l (laws_szInt64S_eq x l) h0 h1
theorem szInt64SS_ok (xs : List (List Int)) (hl : xs.length ≤ 9223372036854775807) (hx : ∀ x, x ∈ xs → x.length ≤ 9223372036854775807) (l : Int) (h0 : 0 ≤ l) (h1 : l ≤ 1048576) :
    ∃ n, laws_szInt64SS xs l = some n ∧ n ≤ l ∧ (0 ≤ n → xs.length ≤ 1048576 ∧ ∀ x, x ∈ xs → x.length ≤ 1048576) :=
  szList (P := fun x : List Int => x.length ≤ 1048576) xs laws_szInt64S laws_szInt64SS_p0 laws_szInt64SS (fun l i => laws_szInt64SS_p0_eq xs l i) (fun l => laws_szInt64SS_eq xs l) hl (fun x hm l h0 h1 => szInt64S_ok x (hx x hm) l h0 h1) l h0 h1
theorem toInt64S_ok (xs : List Int) (hs : xs.length ≤ 1048576) : laws_toInt64S xs = some xs :=
  toList_ok xs (0 : Int) some laws_toInt64S_p0 laws_toInt64S (fun n i r => laws_toInt64S_p0_eq xs n i r) (laws_toInt64S_eq xs) hs (fun x _ => rfl)
theorem toInt64SS_ok (xs : List (List Int)) (hs : xs.length ≤ 1048576) (hx : ∀ x, x ∈ xs → x.length ≤ 1048576) : laws_toInt64SS xs = some xs :=
  toList_ok xs ([] : List Int) laws_toInt64S laws_toInt64SS_p0 laws_toInt64SS (fun n i r => laws_toInt64SS_p0_eq xs n i r) (laws_toInt64SS_eq xs) hs (fun x hm => toInt64S_ok x (hx x hm))
theorem eqInt64SS_ok (xs : List (List Int)) (hs : xs.length ≤ 1048576) (hx : ∀ x, x ∈ xs → x.length ≤ 1048576) : laws_eqInt64SS xs xs = some true :=
  eqList_ok xs laws_eqInt64S laws_eqInt64SS_p0 laws_eqInt64SS (fun i => laws_eqInt64SS_p0_eq xs xs i) (laws_eqInt64SS_eq xs xs) hs (fun x hm => eqInt64S_ok x (hx x hm))
def stackOk (x : T_Peg.ty) : Bool := isName x.1 && (inR x.2.1 0 1000 && (inR x.2.2.1 10 1000 && (inR x.2.2.2.1 0 36524)))
def stacksOk (xs : List T_Peg.ty) : Bool := sortedChk stackOk (fun x => x.1) none xs && decide ((xs.length : Int) ≤ 12)
theorem stacksOk_all {xs : List T_Peg.ty} (h : stacksOk xs = true) (x : T_Peg.ty) (hx : x ∈ xs) : stackOk x = true := by
  simp only [stacksOk, Bool.and_eq_true] at h
  exact sortedChk_all h.1 x hx
theorem spec_l04One_ok (x : T_Peg.ty) (h0 : x.1.length < 4611686018427387904) : spec_l04One x = some (stackOk x) := by
  rw [spec_l04One_eq, stackOk]
  simp only [spec_l01Name_ok x.1 h0, spec_l04Share_eq, spec_l04Thick_eq, spec_l02Day_eq, spec_l00In_ok, Option.bind_some]
  cases isName x.1 <;> cases inR x.2.1 0 1000 <;> cases inR x.2.2.1 10 1000 <;> simp
theorem impl_Stack_valid_ok (x : T_Peg.ty) (h0 : x.1.length < 4611686018427387904) : impl_Stack_valid x = some (stackOk x) := by
  rw [impl_Stack_valid_eq, stackOk]
  simp only [impl_IsName_ok x.1 h0, impl_isPart_eq, impl_isDay_eq, impl_within_ok, Option.bind_some]
  cases isName x.1 <;> cases inR x.2.1 0 1000 <;> cases inR x.2.2.1 10 1000 <;> simp
theorem spec_l04Ok_ok (xs : List T_Peg.ty) (hs : xs.length ≤ 1048576) (hx : ∀ x, x ∈ xs → x.1.length ≤ 1048576) : spec_l04Ok xs = some (stacksOk xs) := by
  rw [spec_l04Ok_eq]
  exact sortedLoopS xs spec_l04One stackOk (fun x => x.1) (fun i => spec_l04Ok_p0 xs i) _ _ rfl (fun i => spec_l04Ok_p0_eq xs i) hs (fun x hm => spec_l04One_ok x (Nat.lt_of_le_of_lt (hx x hm) (by decide))) xs.length 0 (by omega)
theorem impl_ValidStacks_ok (xs : List T_Peg.ty) (hs : xs.length ≤ 1048576) (hx : ∀ x, x ∈ xs → x.1.length ≤ 1048576) : impl_ValidStacks xs = some (stacksOk xs) := by
  rw [impl_ValidStacks_eq]
  exact sortedLoopI xs impl_Stack_valid stackOk (fun x => x.1) (fun i => impl_ValidStacks_p0 xs xs xs.length i) _ _ (show ((impl_few (xs.length : Int) 12).bind fun x4 => some x4) = some (decide ((xs.length : Int) ≤ 12)) by rw [impl_few_eq]; rfl) (fun i => impl_ValidStacks_p0_eq xs xs xs.length i) hs (fun x hm => impl_Stack_valid_ok x (Nat.lt_of_le_of_lt (hx x hm) (by decide))) xs.length 0 (by omega)
def ribOk (x : T_Mode.ty) : Bool := isName x.1 && (inR x.2.1 1 10000 && (inR x.2.2.1 1 10000))
def ribsOk (xs : List T_Mode.ty) : Bool := sortedChk ribOk (fun x => x.1) none xs && decide ((xs.length : Int) ≤ 8)
theorem ribsOk_all {xs : List T_Mode.ty} (h : ribsOk xs = true) (x : T_Mode.ty) (hx : x ∈ xs) : ribOk x = true := by
  simp only [ribsOk, Bool.and_eq_true] at h
  exact sortedChk_all h.1 x hx
theorem spec_l06One_ok (x : T_Mode.ty) (h0 : x.1.length < 4611686018427387904) : spec_l06One x = some (ribOk x) := by
  rw [spec_l06One_eq, ribOk]
  simp only [spec_l01Name_ok x.1 h0, spec_l06Size_eq, spec_l00In_ok, Option.bind_some]
  cases isName x.1 <;> cases inR x.2.1 1 10000 <;> simp
theorem impl_Rib_valid_ok (x : T_Mode.ty) (h0 : x.1.length < 4611686018427387904) : impl_Rib_valid x = some (ribOk x) := by
  rw [impl_Rib_valid_eq, ribOk]
  simp only [impl_IsName_ok x.1 h0, impl_within_ok, Option.bind_some]
  cases isName x.1 <;> cases inR x.2.1 1 10000 <;> simp
theorem spec_l06Ok_ok (xs : List T_Mode.ty) (hs : xs.length ≤ 1048576) (hx : ∀ x, x ∈ xs → x.1.length ≤ 1048576) : spec_l06Ok xs = some (ribsOk xs) := by
  rw [spec_l06Ok_eq]
  exact sortedLoopS xs spec_l06One ribOk (fun x => x.1) (fun i => spec_l06Ok_p0 xs i) _ _ rfl (fun i => spec_l06Ok_p0_eq xs i) hs (fun x hm => spec_l06One_ok x (Nat.lt_of_le_of_lt (hx x hm) (by decide))) xs.length 0 (by omega)
theorem impl_ValidRibs_ok (xs : List T_Mode.ty) (hs : xs.length ≤ 1048576) (hx : ∀ x, x ∈ xs → x.1.length ≤ 1048576) : impl_ValidRibs xs = some (ribsOk xs) := by
  rw [impl_ValidRibs_eq]
  exact sortedLoopI xs impl_Rib_valid ribOk (fun x => x.1) (fun i => impl_ValidRibs_p0 xs xs xs.length i) _ _ (show ((impl_few (xs.length : Int) 8).bind fun x4 => some x4) = some (decide ((xs.length : Int) ≤ 8)) by rw [impl_few_eq]; rfl) (fun i => impl_ValidRibs_p0_eq xs xs xs.length i) hs (fun x hm => impl_Rib_valid_ok x (Nat.lt_of_le_of_lt (hx x hm) (by decide))) xs.length 0 (by omega)
def pegOk (x : T_Peg.ty) : Bool := isName x.1 && (inR x.2.1 20 200 && (inR x.2.2.1 100 1000 && (inR x.2.2.2.1 10 100)))
def pegsOk (xs : List T_Peg.ty) : Bool := sortedChk pegOk (fun x => x.1) none xs && decide ((xs.length : Int) ≤ 8)
theorem pegsOk_all {xs : List T_Peg.ty} (h : pegsOk xs = true) (x : T_Peg.ty) (hx : x ∈ xs) : pegOk x = true := by
  simp only [pegsOk, Bool.and_eq_true] at h
  exact sortedChk_all h.1 x hx
theorem spec_l12One_ok (x : T_Peg.ty) (h0 : x.1.length < 4611686018427387904) : spec_l12One x = some (pegOk x) := by
  rw [spec_l12One_eq, pegOk]
  simp only [spec_l01Name_ok x.1 h0, spec_l12Hole_eq, spec_l00In_ok, Option.bind_some]
  cases isName x.1 <;> cases inR x.2.1 20 200 <;> cases inR x.2.2.1 100 1000 <;> simp
theorem impl_Peg_valid_ok (x : T_Peg.ty) (h0 : x.1.length < 4611686018427387904) : impl_Peg_valid x = some (pegOk x) := by
  rw [impl_Peg_valid_eq, pegOk]
  simp only [impl_IsName_ok x.1 h0, impl_isHole_eq, impl_within_ok, Option.bind_some]
  cases isName x.1 <;> cases inR x.2.1 20 200 <;> cases inR x.2.2.1 100 1000 <;> simp
theorem spec_l12Ok_ok (xs : List T_Peg.ty) (hs : xs.length ≤ 1048576) (hx : ∀ x, x ∈ xs → x.1.length ≤ 1048576) : spec_l12Ok xs = some (pegsOk xs) := by
  rw [spec_l12Ok_eq]
  exact sortedLoopS xs spec_l12One pegOk (fun x => x.1) (fun i => spec_l12Ok_p0 xs i) _ _ rfl (fun i => spec_l12Ok_p0_eq xs i) hs (fun x hm => spec_l12One_ok x (Nat.lt_of_le_of_lt (hx x hm) (by decide))) xs.length 0 (by omega)
theorem impl_ValidPegs_ok (xs : List T_Peg.ty) (hs : xs.length ≤ 1048576) (hx : ∀ x, x ∈ xs → x.1.length ≤ 1048576) : impl_ValidPegs xs = some (pegsOk xs) := by
  rw [impl_ValidPegs_eq]
  exact sortedLoopI xs impl_Peg_valid pegOk (fun x => x.1) (fun i => impl_ValidPegs_p0 xs xs xs.length i) _ _ (show ((impl_few (xs.length : Int) 8).bind fun x4 => some x4) = some (decide ((xs.length : Int) ≤ 8)) by rw [impl_few_eq]; rfl) (fun i => impl_ValidPegs_p0_eq xs xs xs.length i) hs (fun x hm => impl_Peg_valid_ok x (Nat.lt_of_le_of_lt (hx x hm) (by decide))) xs.length 0 (by omega)
def modeOk (x : T_Mode.ty) : Bool := isName x.1 && (inR x.2.1 1000 100000 && (inR x.2.2.1 1 500))
def modesOk (xs : List T_Mode.ty) : Bool := sortedChk modeOk (fun x => x.1) none xs && decide ((xs.length : Int) ≤ 10)
theorem modesOk_all {xs : List T_Mode.ty} (h : modesOk xs = true) (x : T_Mode.ty) (hx : x ∈ xs) : modeOk x = true := by
  simp only [modesOk, Bool.and_eq_true] at h
  exact sortedChk_all h.1 x hx
theorem spec_l16One_ok (x : T_Mode.ty) (h0 : x.1.length < 4611686018427387904) : spec_l16One x = some (modeOk x) := by
  rw [spec_l16One_eq, modeOk]
  simp only [spec_l01Name_ok x.1 h0, spec_l16Tone_eq, spec_l00In_ok, Option.bind_some]
  cases isName x.1 <;> cases inR x.2.1 1000 100000 <;> simp
theorem impl_Mode_valid_ok (x : T_Mode.ty) (h0 : x.1.length < 4611686018427387904) : impl_Mode_valid x = some (modeOk x) := by
  rw [impl_Mode_valid_eq, modeOk]
  simp only [impl_IsName_ok x.1 h0, impl_isTone_eq, impl_within_ok, Option.bind_some]
  cases isName x.1 <;> cases inR x.2.1 1000 100000 <;> simp
theorem spec_l16Ok_ok (xs : List T_Mode.ty) (hs : xs.length ≤ 1048576) (hx : ∀ x, x ∈ xs → x.1.length ≤ 1048576) : spec_l16Ok xs = some (modesOk xs) := by
  rw [spec_l16Ok_eq]
  exact sortedLoopS xs spec_l16One modeOk (fun x => x.1) (fun i => spec_l16Ok_p0 xs i) _ _ rfl (fun i => spec_l16Ok_p0_eq xs i) hs (fun x hm => spec_l16One_ok x (Nat.lt_of_le_of_lt (hx x hm) (by decide))) xs.length 0 (by omega)
theorem impl_ValidModes_ok (xs : List T_Mode.ty) (hs : xs.length ≤ 1048576) (hx : ∀ x, x ∈ xs → x.1.length ≤ 1048576) : impl_ValidModes xs = some (modesOk xs) := by
  rw [impl_ValidModes_eq]
  exact sortedLoopI xs impl_Mode_valid modeOk (fun x => x.1) (fun i => impl_ValidModes_p0 xs xs xs.length i) _ _ (show ((impl_few (xs.length : Int) 10).bind fun x4 => some x4) = some (decide ((xs.length : Int) ≤ 10)) by rw [impl_few_eq]; rfl) (fun i => impl_ValidModes_p0_eq xs xs xs.length i) hs (fun x hm => impl_Mode_valid_ok x (Nat.lt_of_le_of_lt (hx x hm) (by decide))) xs.length 0 (by omega)
def workOk (x : T_Peg.ty) : Bool := isName x.1 && (inR x.2.1 1 40 && (inR x.2.2.1 0 39 && (inR x.2.2.2.1 0 39 && (decide (IntKind.i64.wrap ((IntKind.i64.wrap (x.2.2.1 + x.2.1)) - 1) ≤ x.2.2.2.1)))))
def worksOk (xs : List T_Peg.ty) : Bool := sortedChk workOk (fun x => x.1) none xs && decide ((xs.length : Int) ≤ 8)
theorem worksOk_all {xs : List T_Peg.ty} (h : worksOk xs = true) (x : T_Peg.ty) (hx : x ∈ xs) : workOk x = true := by
  simp only [worksOk, Bool.and_eq_true] at h
  exact sortedChk_all h.1 x hx
theorem spec_l18One_ok (x : T_Peg.ty) (h0 : x.1.length < 4611686018427387904) : spec_l18One x = some (workOk x) := by
  rw [spec_l18One_eq, workOk]
  simp only [spec_l01Name_ok x.1 h0, spec_l18Days_eq, spec_l18Day_eq, spec_l00In_ok, Option.bind_some]
  cases isName x.1 <;> cases inR x.2.1 1 40 <;> cases inR x.2.2.1 0 39 <;> cases inR x.2.2.2.1 0 39 <;> simp
theorem impl_Work_valid_ok (x : T_Peg.ty) (h0 : x.1.length < 4611686018427387904) : impl_Work_valid x = some (workOk x) := by
  rw [impl_Work_valid_eq, workOk]
  simp only [impl_IsName_ok x.1 h0, impl_isSpan_eq, impl_isDate_eq, impl_within_ok, Option.bind_some]
  cases isName x.1 <;> cases inR x.2.1 1 40 <;> cases inR x.2.2.1 0 39 <;> cases inR x.2.2.2.1 0 39 <;> simp
theorem spec_l18Ok_ok (xs : List T_Peg.ty) (hs : xs.length ≤ 1048576) (hx : ∀ x, x ∈ xs → x.1.length ≤ 1048576) : spec_l18Ok xs = some (worksOk xs) := by
  rw [spec_l18Ok_eq]
  exact sortedLoopS xs spec_l18One workOk (fun x => x.1) (fun i => spec_l18Ok_p0 xs i) _ _ rfl (fun i => spec_l18Ok_p0_eq xs i) hs (fun x hm => spec_l18One_ok x (Nat.lt_of_le_of_lt (hx x hm) (by decide))) xs.length 0 (by omega)
theorem impl_ValidWorks_ok (xs : List T_Peg.ty) (hs : xs.length ≤ 1048576) (hx : ∀ x, x ∈ xs → x.1.length ≤ 1048576) : impl_ValidWorks xs = some (worksOk xs) := by
  rw [impl_ValidWorks_eq]
  exact sortedLoopI xs impl_Work_valid workOk (fun x => x.1) (fun i => impl_ValidWorks_p0 xs xs xs.length i) _ _ (show ((impl_few (xs.length : Int) 8).bind fun x4 => some x4) = some (decide ((xs.length : Int) ≤ 8)) by rw [impl_few_eq]; rfl) (fun i => impl_ValidWorks_p0_eq xs xs xs.length i) hs (fun x hm => impl_Work_valid_ok x (Nat.lt_of_le_of_lt (hx x hm) (by decide))) xs.length 0 (by omega)
def paperOk (x : T_Paper.ty) : Bool := isName x.1 && (isName x.2.1 && (decide (1500 ≤ x.2.2.1) && (decide (x.2.2.1 ≤ x.2.2.2.1) && (decide (x.2.2.2.1 ≤ 2100) && inR x.2.2.2.2.1 1 1000))))
def papersOk (xs : List T_Paper.ty) : Bool := sortedChk paperOk (fun x => x.1) none xs && decide ((xs.length : Int) ≤ 12)
theorem papersOk_all {xs : List T_Paper.ty} (h : papersOk xs = true) (x : T_Paper.ty) (hx : x ∈ xs) : paperOk x = true := by
  simp only [papersOk, Bool.and_eq_true] at h
  exact sortedChk_all h.1 x hx
theorem impl_Paper_valid_core (a b : List UInt8) (c d e : Int) (h0 : a.length < 4611686018427387904) (h1 : b.length < 4611686018427387904) : impl_Paper_valid (a, b, c, d, e, ()) = some (paperOk (a, b, c, d, e, ())) := by
  rw [impl_Paper_valid_eq, paperOk]
  simp only [impl_IsName_ok a h0, impl_IsName_ok b h1, impl_within_ok, Option.bind_some]
  cases isName a <;> cases isName b <;> by_cases g1 : 1500 ≤ c <;> by_cases g2 : c ≤ d <;> by_cases g3 : d ≤ 2100 <;> simp [g1, g2, g3]
theorem impl_Paper_valid_ok (x : T_Paper.ty) (h0 : x.1.length < 4611686018427387904) (h1 : x.2.1.length < 4611686018427387904) : impl_Paper_valid x = some (paperOk x) := impl_Paper_valid_core x.1 x.2.1 x.2.2.1 x.2.2.2.1 x.2.2.2.2.1 h0 h1
theorem spec_l20One_core (a b : List UInt8) (c d e : Int) (h0 : a.length < 4611686018427387904) (h1 : b.length < 4611686018427387904) : spec_l20One (a, b, c, d, e, ()) = some (paperOk (a, b, c, d, e, ())) := by
  rw [spec_l20One_eq, paperOk]
  simp only [spec_l01Name_ok a h0, spec_l01Name_ok b h1, spec_l20Year_eq, spec_l00In_ok, Option.bind_some, inR]
  cases isName a <;> cases isName b <;> by_cases g1 : 1500 ≤ c <;> by_cases g2 : c ≤ d <;> by_cases g3 : d ≤ 2100 <;> simp [g1, g2, g3]
  all_goals first
    | (have g4 : c ≤ 2100 := by omega
       have g5 : 1500 ≤ d := by omega
       simp [g4, g5])
    | skip
  all_goals first
    | omega
    | (by_cases g6 : c ≤ 2100 <;> by_cases g7 : 1500 ≤ d <;> simp [g6, g7] <;> omega)
theorem spec_l20One_ok (x : T_Paper.ty) (h0 : x.1.length < 4611686018427387904) (h1 : x.2.1.length < 4611686018427387904) : spec_l20One x = some (paperOk x) := spec_l20One_core x.1 x.2.1 x.2.2.1 x.2.2.2.1 x.2.2.2.2.1 h0 h1
theorem spec_l20Ok_ok (xs : List T_Paper.ty) (hs : xs.length ≤ 1048576) (hx : ∀ x, x ∈ xs → x.1.length ≤ 1048576 ∧ x.2.1.length ≤ 1048576) : spec_l20Ok xs = some (papersOk xs) := by
  rw [spec_l20Ok_eq]
  exact sortedLoopS xs spec_l20One paperOk (fun x => x.1) (fun i => spec_l20Ok_p0 xs i) _ _ rfl (fun i => spec_l20Ok_p0_eq xs i) hs (fun x hm => spec_l20One_ok x (Nat.lt_of_le_of_lt (hx x hm).1 (by decide)) (Nat.lt_of_le_of_lt (hx x hm).2 (by decide))) xs.length 0 (by omega)
theorem impl_ValidPapers_ok (xs : List T_Paper.ty) (hs : xs.length ≤ 1048576) (hx : ∀ x, x ∈ xs → x.1.length ≤ 1048576 ∧ x.2.1.length ≤ 1048576) : impl_ValidPapers xs = some (papersOk xs) := by
  rw [impl_ValidPapers_eq]
  exact sortedLoopI xs impl_Paper_valid paperOk (fun x => x.1) (fun i => impl_ValidPapers_p0 xs xs xs.length i) _ _ (show ((impl_few (xs.length : Int) 12).bind fun x4 => some x4) = some (decide ((xs.length : Int) ≤ 12)) by rw [impl_few_eq]; rfl) (fun i => impl_ValidPapers_p0_eq xs xs xs.length i) hs (fun x hm => impl_Paper_valid_ok x (Nat.lt_of_le_of_lt (hx x hm).1 (by decide)) (Nat.lt_of_le_of_lt (hx x hm).2 (by decide))) xs.length 0 (by omega)
def thickRow (r : List Int) : Bool := r.all fun x => inR x 1 200
def plateOk (xs : List (List Int)) : Bool :=
  match xs with
  | [] => false
  | r0 :: _ => decide (xs.length ≤ 10) && (decide (1 ≤ r0.length ∧ r0.length ≤ 10) && xs.all fun r => decide (r.length = r0.length) && thickRow r)
theorem impl_isGrid_p2_ok (xs : List (List Int)) (row : List Int) (hr : row.length ≤ 1048576) (i : Nat) (hi : i ≤ 1048576) : ∀ (k j : Nat), j + k = row.length →
    impl_isGrid_p2 xs 1 200 xs xs.length i row row.length j = if thickRow (row.drop j) then impl_isGrid_p1 xs 1 200 xs xs.length ((i + 1 : Nat) : Int) else some false
  | 0, j, hk => by
    rw [impl_isGrid_p2_eq, List.drop_eq_nil_of_le (by omega)]
    have : ¬ (j : Int) < (row.length : Int) := by omega
    have hw : IntKind.i64.wrap ((i : Int) + 1) = ((i + 1 : Nat) : Int) := by rw [w64 (by omega) (by omega)]; omega
    simp only [this, decide_false, Bool.false_eq_true, if_false, hw, thickRow, List.all_nil, if_true]
  | k + 1, j, hk => by
    have hj : j < row.length := by omega
    have hlt : (j : Int) < (row.length : Int) := by omega
    have hw : IntKind.i64.wrap ((j : Int) + 1) = ((j + 1 : Nat) : Int) := by rw [w64 (by omega) (by omega)]; omega
    have ih := impl_isGrid_p2_ok xs row hr i hi k (j + 1) (by omega)
    rw [impl_isGrid_p2_eq, List.drop_eq_getElem_cons hj]
    simp only [hlt, decide_true, if_true, Int.natCast_nonneg, Int.toNat_natCast, List.getElem?_eq_getElem hj, Option.bind_some, impl_within_ok, hw, ih, thickRow, List.all_cons]
    by_cases c : inR row[j] 1 200 = true <;> simp [c]
theorem impl_isGrid_p1_ok (xs : List (List Int)) (r0 : List Int) (h0 : xs[0]? = some r0) (hs : xs.length ≤ 1048576) (hx : ∀ x, x ∈ xs → x.length ≤ 1048576) : ∀ (k i : Nat), i + k = xs.length →
    impl_isGrid_p1 xs 1 200 xs xs.length i = some ((xs.drop i).all fun r => decide (r.length = r0.length) && thickRow r)
  | 0, i, hk => by
    rw [impl_isGrid_p1_eq, List.drop_eq_nil_of_le (by omega)]
    have : ¬ (i : Int) < (xs.length : Int) := by omega
    simp [this]
  | k + 1, i, hk => by
    have hi : i < xs.length := by omega
    have hlt : (i : Int) < (xs.length : Int) := by omega
    have ih := impl_isGrid_p1_ok xs r0 h0 hs hx k (i + 1) (by omega)
    have h2 := impl_isGrid_p2_ok xs xs[i] (hx _ (List.getElem_mem hi)) i (by omega) xs[i].length 0 (by omega)
    have h2' : impl_isGrid_p2 xs 1 200 xs xs.length i xs[i] xs[i].length 0 = if thickRow xs[i] then impl_isGrid_p1 xs 1 200 xs xs.length ((i + 1 : Nat) : Int) else some false := h2
    rw [impl_isGrid_p1_eq, List.drop_eq_getElem_cons hi]
    simp only [hlt, decide_true, if_true, Int.natCast_nonneg, Int.toNat_natCast, List.getElem?_eq_getElem hi, Option.bind_some, h0, h2', ih, List.all_cons]
    by_cases hl : xs[i].length = r0.length
    · by_cases ht : thickRow xs[i] = true
      · simp [hl, ht]
      · simp [hl, ht]
    · have : ((xs[i].length : Int) != (r0.length : Int)) = true := by rw [bne_iff_ne]; omega
      simp only [this, if_true, hl, decide_false, Bool.false_and]
theorem impl_ValidPlate_ok (xs : List (List Int)) (hs : xs.length ≤ 1048576) (hx : ∀ x, x ∈ xs → x.length ≤ 1048576) : impl_ValidPlate xs = some (plateOk xs) := by
  rw [impl_ValidPlate_eq, impl_isGrid_eq, impl_within_ok, Option.bind_some]
  cases xs with
  | nil => simp [plateOk, inR]
  | cons r0 l =>
    have h1 := impl_isGrid_p1_ok (r0 :: l) r0 rfl hs hx (r0 :: l).length 0 (by omega)
    have h1' : impl_isGrid_p1 (r0 :: l) 1 200 (r0 :: l) (r0 :: l).length 0 = _ := h1
    rw [List.drop_zero] at h1'
    simp only [List.getElem?_cons_zero, Option.bind_some, impl_within_ok, impl_isGrid_p0_eq, h1', plateOk]
    by_cases c1 : (r0 :: l).length ≤ 10
    · have e1 : inR ((r0 :: l).length : Int) 1 10 = true := by rw [inR_iff']; simp at c1 ⊢; omega
      simp only [e1, c1, Bool.not_true, Bool.false_eq_true, if_false, decide_true, Bool.true_and]
      by_cases c2 : 1 ≤ r0.length ∧ r0.length ≤ 10
      · have e2 : inR (r0.length : Int) 1 10 = true := by rw [inR_iff']; omega
        simp only [e2, c2, and_self, Bool.not_true, Bool.false_eq_true, if_false, decide_true, Bool.true_and, Option.bind_some]
      · have e2 : inR (r0.length : Int) 1 10 = false := by rw [Bool.eq_false_iff, ne_eq, inR_iff']; omega
        simp only [e2, c2, Bool.not_false, if_true, decide_false, Bool.false_and, Option.bind_some]
    · have e1 : inR ((r0 :: l).length : Int) 1 10 = false := by rw [Bool.eq_false_iff, ne_eq, inR_iff']; omega
      simp only [e1, c1, Bool.not_false, if_true, decide_false, Bool.false_and, Option.bind_some]
theorem spec_l08Ok_p2_ok (xs : List (List Int)) (hs : xs.length ≤ 1048576) (i : Nat) (hi : i < xs.length) (hr : xs[i].length ≤ 1048576) : ∀ (k j : Nat), j + k = xs[i].length →
    spec_l08Ok_p2 xs i j = if thickRow (xs[i].drop j) then spec_l08Ok_p0 xs ((i + 1 : Nat) : Int) else some false
  | 0, j, hk => by
    rw [spec_l08Ok_p2_eq, List.drop_eq_nil_of_le (by omega)]
    have : ¬ (j : Int) < (xs[i].length : Int) := by omega
    have hw : IntKind.i64.wrap ((i : Int) + 1) = ((i + 1 : Nat) : Int) := by rw [w64 (by omega) (by omega)]; omega
    simp only [Int.natCast_nonneg, decide_true, if_true, Int.toNat_natCast, List.getElem?_eq_getElem hi, Option.bind_some, this, decide_false, Bool.false_eq_true, if_false, hw, thickRow, List.all_nil]
  | k + 1, j, hk => by
    have hj : j < xs[i].length := by omega
    have hlt : (j : Int) < (xs[i].length : Int) := by omega
    have hw : IntKind.i64.wrap ((j : Int) + 1) = ((j + 1 : Nat) : Int) := by rw [w64 (by omega) (by omega)]; omega
    have ih := spec_l08Ok_p2_ok xs hs i hi hr k (j + 1) (by omega)
    rw [spec_l08Ok_p2_eq, List.drop_eq_getElem_cons hj]
    simp only [Int.natCast_nonneg, hlt, decide_true, if_true, Int.toNat_natCast, List.getElem?_eq_getElem hi, List.getElem?_eq_getElem hj, Option.bind_some, spec_l08Thick_eq, spec_l00In_ok, hw, ih, thickRow, List.all_cons]
    by_cases c : inR xs[i][j] 1 200 = true <;> simp [c]
theorem spec_l08Ok_p0_ok (xs : List (List Int)) (r0 : List Int) (h0 : xs[0]? = some r0) (hs : xs.length ≤ 1048576) (hx : ∀ x, x ∈ xs → x.length ≤ 1048576) : ∀ (k i : Nat), i + k = xs.length →
    spec_l08Ok_p0 xs i = some (((xs.drop i).all fun r => decide (1 ≤ r.length ∧ r.length ≤ 10) && (decide (r.length = r0.length) && thickRow r)) && decide (xs.length ≤ 10))
  | 0, i, hk => by
    rw [spec_l08Ok_p0_eq, List.drop_eq_nil_of_le (by omega)]
    have : ¬ (i : Int) < (xs.length : Int) := by omega
    have h1 : (xs.length : Int) ≥ 1 := by
      cases xs with
      | nil => simp at h0
      | cons a l => simp; omega
    simp only [this, decide_false, Bool.false_eq_true, if_false, h1, decide_true, if_true, List.all_nil, Bool.true_and]
    congr 1
    simp only [decide_eq_decide]; omega
  | k + 1, i, hk => by
    have hi : i < xs.length := by omega
    have hlt : (i : Int) < (xs.length : Int) := by omega
    have ih := spec_l08Ok_p0_ok xs r0 h0 hs hx k (i + 1) (by omega)
    have h2 := spec_l08Ok_p2_ok xs hs i hi (hx _ (List.getElem_mem hi)) xs[i].length 0 (by omega)
    have h2' : spec_l08Ok_p2 xs i 0 = if thickRow xs[i] then spec_l08Ok_p0 xs ((i + 1 : Nat) : Int) else some false := h2
    rw [spec_l08Ok_p0_eq, List.drop_eq_getElem_cons hi]
    simp only [hlt, decide_true, if_true, Int.natCast_nonneg, Int.toNat_natCast, List.getElem?_eq_getElem hi, Option.bind_some, h0, spec_l08Ok_p1_eq, h2', ih, List.all_cons]
    by_cases g1 : (xs[i].length : Int) < 1
    · have : ¬ (1 ≤ xs[i].length ∧ xs[i].length ≤ 10) := by omega
      simp only [g1, this, decide_true, decide_false, if_true, Bool.false_and]
    by_cases g2 : (xs[i].length : Int) > 10
    · have : ¬ (1 ≤ xs[i].length ∧ xs[i].length ≤ 10) := by omega
      simp only [g1, g2, this, decide_true, decide_false, if_true, Bool.false_eq_true, if_false, Bool.false_and]
    have g3 : 1 ≤ xs[i].length ∧ xs[i].length ≤ 10 := by omega
    by_cases hl : xs[i].length = r0.length
    · have hl' : ((xs[i].length : Int) != (r0.length : Int)) = false := by rw [hl]; simp
      have hl2 : decide (xs[i].length = r0.length) = true := by simpa using hl
      by_cases ht : thickRow xs[i] = true
      · simp only [g1, g2, g3, and_self, hl', hl2, ht, decide_true, decide_false, if_true, Bool.false_eq_true, if_false, Bool.true_and]
      · simp only [g1, g2, g3, and_self, hl', hl2, ht, decide_true, decide_false, if_true, Bool.false_eq_true, if_false, Bool.true_and, Bool.false_and]
    · have hl' : ((xs[i].length : Int) != (r0.length : Int)) = true := by rw [bne_iff_ne]; omega
      simp only [g1, g2, g3, and_self, hl', hl, decide_true, decide_false, if_true, Bool.false_eq_true, if_false, Bool.true_and, Bool.false_and]
theorem spec_l08Ok_ok (xs : List (List Int)) (hs : xs.length ≤ 1048576) (hx : ∀ x, x ∈ xs → x.length ≤ 1048576) : spec_l08Ok xs = some (plateOk xs) := by
  rw [spec_l08Ok_eq]
  cases xs with
  | nil => rw [spec_l08Ok_p0_eq]; simp [plateOk]
  | cons r0 l =>
    have h1 := spec_l08Ok_p0_ok (r0 :: l) r0 rfl hs hx (r0 :: l).length 0 (by omega)
    have h1' : spec_l08Ok_p0 (r0 :: l) 0 = _ := h1
    rw [List.drop_zero] at h1'
    rw [h1', plateOk]
    congr 1
    rw [Bool.eq_iff_iff]
    simp only [Bool.and_eq_true, decide_eq_true_eq, List.all_eq_true]
    constructor
    · rintro ⟨h, hl⟩
      have h2 := (h r0 (by simp)).1
      exact ⟨hl, h2, fun r hr => (h r hr).2⟩
    · rintro ⟨hl, h2, h⟩
      refine ⟨fun r hr => ⟨?_, h r hr⟩, hl⟩
      have := (h r hr).1
      omega
/-- What the laws ask of a desk's sizes. -/
def deskSmall (x : T_Desk.ty) : Prop :=
  (List.length (α := T_Peg.ty) x.1 ≤ 1048576 ∧ ∀ y : T_Peg.ty, y ∈ x.1 → y.1.length ≤ 1048576) ∧
  (List.length (α := T_Mode.ty) x.2.1 ≤ 1048576 ∧ ∀ y : T_Mode.ty, y ∈ x.2.1 → y.1.length ≤ 1048576) ∧
  (List.length (α := List Int) x.2.2.1 ≤ 1048576 ∧ ∀ y : List Int, y ∈ x.2.2.1 → y.length ≤ 1048576) ∧
  (List.length (α := T_Peg.ty) x.2.2.2.2.2.2.2.1 ≤ 1048576 ∧ ∀ y : T_Peg.ty, y ∈ x.2.2.2.2.2.2.2.1 → y.1.length ≤ 1048576) ∧
  (List.length (α := T_Pot.ty) x.2.2.2.2.2.2.2.2.1 ≤ 1048576 ∧ ∀ y : T_Pot.ty, y ∈ x.2.2.2.2.2.2.2.2.1 → y.1.length ≤ 1048576) ∧
  (List.length (α := T_Mode.ty) x.2.2.2.2.2.2.2.2.2.1 ≤ 1048576 ∧ ∀ y : T_Mode.ty, y ∈ x.2.2.2.2.2.2.2.2.2.1 → y.1.length ≤ 1048576) ∧
  (List.length (α := T_Peg.ty) x.2.2.2.2.2.2.2.2.2.2.1 ≤ 1048576 ∧ ∀ y : T_Peg.ty, y ∈ x.2.2.2.2.2.2.2.2.2.2.1 → y.1.length ≤ 1048576) ∧
  (List.length (α := T_Paper.ty) x.2.2.2.2.2.2.2.2.2.2.2.1 ≤ 1048576 ∧ ∀ y : T_Paper.ty, y ∈ x.2.2.2.2.2.2.2.2.2.2.2.1 → y.1.length ≤ 1048576 ∧ y.2.1.length ≤ 1048576)
def deskOk (x : T_Desk.ty) : Bool :=
  stacksOk x.1 && (ribsOk x.2.1 && (plateOk x.2.2.1 && (neckOk (x.2.2.2.1, x.2.2.2.2.1, x.2.2.2.2.2.1, x.2.2.2.2.2.2.1, ()) && (pegsOk x.2.2.2.2.2.2.2.1 && (potsOk x.2.2.2.2.2.2.2.2.1 && (modesOk x.2.2.2.2.2.2.2.2.2.1 && (worksOk x.2.2.2.2.2.2.2.2.2.2.1 && papersOk x.2.2.2.2.2.2.2.2.2.2.2.1)))))))
theorem wf_str {α : Type} {t : ET} {f : t.ty → List UInt8} {xs : List t.ty} (h : CT.wf (.sl t) xs) (hf : ∀ x, t.wf x → (f x).length ≤ Go.maxLen) : xs.length ≤ 9223372036854775807 ∧ ∀ x, x ∈ xs → (f x).length ≤ 9223372036854775807 := by
  rw [← maxLen_eq]
  exact ⟨h.1, fun x hx => hf x (h.2 x hx)⟩
theorem szDesk_ok (x : T_Desk.ty) (h : ET.wf T_Desk x) : ∃ n, laws_szDesk x 1048576 = some n ∧ (0 ≤ n → deskSmall x) := by
  obtain ⟨a, b, c, d1, d2, d3, d4, e, f, g, i, j, ⟨⟩⟩ := x
  obtain ⟨w1, w2, w3, _, _, _, _, w5, w6, w7, w8, w9, _⟩ := h
  have ml : Go.maxLen = 9223372036854775807 := maxLen_eq
  obtain ⟨n1, s1, l1, k1⟩ := szStackS_ok a (ml ▸ w1.1) (fun x hx => ml ▸ (w1.2 x hx).1) 1048576 (by omega) (by omega)
  rw [laws_szDesk_eq]
  simp only [s1, Option.bind_some]
  by_cases c1 : n1 < 0
  · exact ⟨-1, by simp [c1], fun h => by omega⟩
  obtain ⟨n2, s2, l2, k2⟩ := szRibS_ok b (ml ▸ w2.1) (fun x hx => ml ▸ (w2.2 x hx).1) n1 (by omega) (by omega)
  simp only [c1, decide_false, Bool.false_eq_true, if_false, s2, Option.bind_some]
  by_cases c2 : n2 < 0
  · exact ⟨-1, by simp [c2], fun h => by omega⟩
  obtain ⟨n3, s3, l3, k3⟩ := szInt64SS_ok c (ml ▸ w3.1) (fun x hx => ml ▸ (w3.2 x hx).1) n2 (by omega) (by omega)
  simp only [c2, decide_false, Bool.false_eq_true, if_false, s3, Option.bind_some]
  by_cases c3 : n3 < 0
  · exact ⟨-1, by simp [c3], fun h => by omega⟩
  obtain ⟨n4, s4, l4, k4⟩ := szPegS_ok e (ml ▸ w5.1) (fun x hx => ml ▸ (w5.2 x hx).1) n3 (by omega) (by omega)
  simp only [c3, decide_false, Bool.false_eq_true, if_false, s4, Option.bind_some]
  by_cases c4 : n4 < 0
  · exact ⟨-1, by simp [c4], fun h => by omega⟩
  obtain ⟨n5, s5, l5, k5⟩ := szPotS_ok f (ml ▸ w6.1) (fun x hx => ml ▸ (w6.2 x hx).1) n4 (by omega) (by omega)
  simp only [c4, decide_false, Bool.false_eq_true, if_false, s5, Option.bind_some]
  by_cases c5 : n5 < 0
  · exact ⟨-1, by simp [c5], fun h => by omega⟩
  obtain ⟨n6, s6, l6, k6⟩ := szModeS_ok g (ml ▸ w7.1) (fun x hx => ml ▸ (w7.2 x hx).1) n5 (by omega) (by omega)
  simp only [c5, decide_false, Bool.false_eq_true, if_false, s6, Option.bind_some]
  by_cases c6 : n6 < 0
  · exact ⟨-1, by simp [c6], fun h => by omega⟩
  obtain ⟨n7, s7, l7, k7⟩ := szWorkS_ok i (ml ▸ w8.1) (fun x hx => ml ▸ (w8.2 x hx).1) n6 (by omega) (by omega)
  simp only [c6, decide_false, Bool.false_eq_true, if_false, s7, Option.bind_some]
  by_cases c7 : n7 < 0
  · exact ⟨-1, by simp [c7], fun h => by omega⟩
  obtain ⟨n8, s8, l8, k8⟩ := szPaperS_ok j (ml ▸ w9.1) (fun x hx => ml ▸ ⟨(w9.2 x hx).1, (w9.2 x hx).2.1⟩) n7 (by omega) (by omega)
  simp only [c7, decide_false, Bool.false_eq_true, if_false, s8, Option.bind_some]
  by_cases c8 : n8 < 0
  · exact ⟨-1, by simp [c8], fun h => by omega⟩
  · refine ⟨n8, by simp [c8], fun _ => ⟨k1 (by omega), k2 (by omega), k3 (by omega), k4 (by omega), k5 (by omega), k6 (by omega), k7 (by omega), k8 (by omega)⟩⟩
theorem toDesk_ok (x : T_Desk.ty) (h : deskSmall x) : laws_toDesk x = some x := by
  obtain ⟨h1, h2, h3, h4, h5, h6, h7, h8⟩ := h
  rw [laws_toDesk_eq]
  simp only [toStackS_ok _ h1.1, toRibS_ok _ h2.1, toInt64SS_ok _ h3.1 h3.2, laws_toNeck_eq, toPegS_ok _ h4.1, toPotS_ok _ h5.1, toModeS_ok _ h6.1, toWorkS_ok _ h7.1, toPaperS_ok _ h8.1, Option.bind_some, List.take_length]
theorem eqDesk_ok (x : T_Desk.ty) (h : deskSmall x) : laws_eqDesk x x = some true := by
  obtain ⟨h1, h2, h3, h4, h5, h6, h7, h8⟩ := h
  rw [laws_eqDesk_eq]
  simp only [eqStackS_ok _ h1.1, eqRibS_ok _ h2.1, eqInt64SS_ok _ h3.1 h3.2, eqNeck_self, eqPegS_ok _ h4.1, eqPotS_ok _ h5.1, eqModeS_ok _ h6.1, eqWorkS_ok _ h7.1, eqPaperS_ok _ h8.1, Option.bind_some, Bool.not_true, Bool.false_eq_true, if_false]
theorem impl_ValidDesk_ok (x : T_Desk.ty) (h : deskSmall x) : impl_ValidDesk x = some (deskOk x) := by
  obtain ⟨h1, h2, h3, h4, h5, h6, h7, h8⟩ := h
  rw [impl_ValidDesk_eq, deskOk]
  simp only [impl_ValidStacks_ok _ h1.1 h1.2, impl_ValidRibs_ok _ h2.1 h2.2, impl_ValidPlate_ok _ h3.1 h3.2, impl_ValidNeck_ok, impl_ValidPegs_ok _ h4.1 h4.2, impl_ValidPots_ok _ h5.1 h5.2, impl_ValidModes_ok _ h6.1 h6.2, impl_ValidWorks_ok _ h7.1 h7.2, impl_ValidPapers_ok _ h8.1 h8.2, Option.bind_some]
  cases stacksOk x.1 <;> cases ribsOk x.2.1 <;> cases plateOk x.2.2.1 <;> cases neckOk (x.2.2.2.1, x.2.2.2.2.1, x.2.2.2.2.2.1, x.2.2.2.2.2.2.1, ()) <;> first | rfl | skip
  all_goals (cases pegsOk x.2.2.2.2.2.2.2.1 <;> cases potsOk x.2.2.2.2.2.2.2.2.1 <;> cases modesOk x.2.2.2.2.2.2.2.2.2.1 <;> cases worksOk x.2.2.2.2.2.2.2.2.2.2.1 <;> rfl)
theorem spec_ValidDesk_ok (x : T_Desk.ty) (h : deskSmall x) : spec_ValidDesk x = some (deskOk x) := by
  obtain ⟨h1, h2, h3, h4, h5, h6, h7, h8⟩ := h
  rw [spec_ValidDesk_eq, spec_l32Ok_eq, deskOk]
  simp only [spec_l04Ok_ok _ h1.1 h1.2, spec_l06Ok_ok _ h2.1 h2.2, spec_l08Ok_ok _ h3.1 h3.2, spec_l10Ok_ok, spec_l12Ok_ok _ h4.1 h4.2, spec_l14Ok_ok _ h5.1 h5.2, spec_l16Ok_ok _ h6.1 h6.2, spec_l18Ok_ok _ h7.1 h7.2, spec_l20Ok_ok _ h8.1 h8.2, Option.bind_some]
  cases stacksOk x.1 <;> cases ribsOk x.2.1 <;> cases plateOk x.2.2.1 <;> cases neckOk (x.2.2.2.1, x.2.2.2.2.1, x.2.2.2.2.2.1, x.2.2.2.2.2.2.1, ()) <;> first | rfl | skip
  all_goals (cases pegsOk x.2.2.2.2.2.2.2.1 <;> cases potsOk x.2.2.2.2.2.2.2.2.1 <;> cases modesOk x.2.2.2.2.2.2.2.2.2.1 <;> cases worksOk x.2.2.2.2.2.2.2.2.2.2.1 <;> rfl)
end Go.Ab.P
