/- Lemmas on functions of the program. Conditions: told in each. -/
import Derived.Test.YtbijadelckpmjaaDoorPFnUnits
set_option linter.unusedVariables false
set_option linter.unusedSimpArgs false
namespace Go.Ab.P
open Go.Ab
/-- The sizes of a list's elements: what is left. -/
theorem szLoop {α : Type} {P : α → Prop} (xs : List α) (sz1 : α → Int → Option Int) (p0 : List α → Int → Int → Option Int)
    (heq : ∀ (l i : Int), p0 xs l i = if decide (i < (xs.length : Int)) then (if decide (0 ≤ i) then (xs[i.toNat]?).bind fun x1 => (sz1 x1 l).bind fun x2 => if decide (x2 < 0) then some (-1) else p0 xs x2 (IntKind.i64.wrap (i + 1)) else none) else some l)
    (hs : xs.length ≤ 1048576) (h1 : ∀ x, x ∈ xs → ∀ l : Int, 0 ≤ l → l ≤ 1048576 → ∃ n, sz1 x l = some n ∧ n ≤ l ∧ (0 ≤ n → P x)) :
    ∀ (k i : Nat) (l : Int), i + k = xs.length → 0 ≤ l → l ≤ 1048576 → ∃ n, p0 xs l i = some n ∧ n ≤ l ∧ (0 ≤ n → ∀ x, x ∈ xs.drop i → P x)
  | 0, i, l, hk, hl, hl' => by
    refine ⟨l, ?_, Int.le_refl _, fun _ x hx => ?_⟩
    · rw [heq]
      have : ¬ (i : Int) < (xs.length : Int) := by omega
      simp only [this, decide_false, Bool.false_eq_true, if_false]
    · rw [List.drop_eq_nil_of_le (by omega)] at hx; cases hx
  | k + 1, i, l, hk, hl, hl' => by
    have hi : i < xs.length := by omega
    have hlt : (i : Int) < (xs.length : Int) := by omega
    obtain ⟨n, e1, e2, e3⟩ := h1 xs[i] (List.getElem_mem hi) l hl hl'
    rw [heq]
    simp only [hlt, decide_true, if_true, Int.natCast_nonneg, Int.toNat_natCast, List.getElem?_eq_getElem hi, Option.bind_some, e1]
    by_cases hn : n < 0
    · simp only [hn, decide_true, if_true]
      exact ⟨-1, rfl, by omega, fun h => by omega⟩
    · simp only [hn, decide_false, Bool.false_eq_true, if_false]
      have hw : IntKind.i64.wrap ((i : Int) + 1) = ((i + 1 : Nat) : Int) := by rw [w64 (by omega) (by omega)]; omega
      rw [hw]
      obtain ⟨q, f1, f2, f3⟩ := szLoop xs sz1 p0 heq hs h1 k (i + 1) n (by omega) (by omega) (by omega)
      refine ⟨q, f1, by omega, fun hq x hx => ?_⟩
      rw [List.drop_eq_getElem_cons hi] at hx
      rcases List.mem_cons.1 hx with rfl | hx
      · exact e3 (by omega)
      · exact f3 hq x hx
theorem szList {α : Type} {P : α → Prop} (xs : List α) (sz1 : α → Int → Option Int) (p0 : List α → Int → Int → Option Int) (szS : List α → Int → Option Int)
    (heq : ∀ (l i : Int), p0 xs l i = if decide (i < (xs.length : Int)) then (if decide (0 ≤ i) then (xs[i.toNat]?).bind fun x1 => (sz1 x1 l).bind fun x2 => if decide (x2 < 0) then some (-1) else p0 xs x2 (IntKind.i64.wrap (i + 1)) else none) else some l)
    (hS : ∀ l : Int, szS xs l = if decide (IntKind.i64.wrap (l - (xs.length : Int)) < 0) then some (-1) else p0 xs (IntKind.i64.wrap (l - (xs.length : Int))) 0)
    (hl : xs.length ≤ 9223372036854775807) (h1 : ∀ x, x ∈ xs → ∀ l : Int, 0 ≤ l → l ≤ 1048576 → ∃ n, sz1 x l = some n ∧ n ≤ l ∧ (0 ≤ n → P x)) (l : Int) (h0 : 0 ≤ l) (h0' : l ≤ 1048576) :
    ∃ n, szS xs l = some n ∧ n ≤ l ∧ (0 ≤ n → xs.length ≤ 1048576 ∧ ∀ x, x ∈ xs → P x) := by
  rw [hS, w64 (n := l - xs.length) (by omega) (by omega)]
  by_cases hn : l - (xs.length : Int) < 0
  · simp only [hn, decide_true, if_true]
    exact ⟨-1, rfl, by omega, fun h => by omega⟩
  · simp only [hn, decide_false, Bool.false_eq_true, if_false]
    obtain ⟨q, f1, f2, f3⟩ := szLoop xs sz1 p0 heq (by omega) h1 xs.length 0 (l - xs.length) (by omega) (by omega) (by omega)
    exact ⟨q, f1, by omega, fun hq => ⟨by omega, fun x hx => f3 hq x hx⟩⟩
/-- A list made element by element is the list. -/
theorem toLoop {α : Type} (xs : List α) (to1 : α → Option α) (p0 : List α → Nat → Int → List α → Option (List α))
    (heq : ∀ (n : Nat) (i : Int) (r : List α), p0 xs n i r = if decide (i < (xs.length : Int)) then (if decide (0 ≤ i) then (xs[i.toNat]?).bind fun x1 => (to1 x1).bind fun x2 => if decide (0 ≤ i) && decide (i < (n : Int)) then (r[i.toNat]?).bind fun x3 => p0 xs n (IntKind.i64.wrap (i + 1)) (r.set i.toNat x2) else none else none) else some (r.take n))
    (hs : xs.length ≤ 1099511627776) (h1 : ∀ x, x ∈ xs → to1 x = some x) :
    ∀ (k i : Nat) (r : List α), i + k = xs.length → r.length = xs.length → r.take i = xs.take i → p0 xs xs.length i r = some xs
  | 0, i, r, hk, hr, ht => by
    rw [heq]
    have : ¬ (i : Int) < (xs.length : Int) := by omega
    simp only [this, decide_false, Bool.false_eq_true, if_false]
    have hi : i = xs.length := by omega
    rw [hi] at ht
    rw [ht, List.take_length]
  | k + 1, i, r, hk, hr, ht => by
    have hi : i < xs.length := by omega
    have hlt : (i : Int) < (xs.length : Int) := by omega
    have hw : IntKind.i64.wrap ((i : Int) + 1) = ((i + 1 : Nat) : Int) := by rw [w64 (by omega) (by omega)]; omega
    rw [heq]
    simp only [hlt, decide_true, if_true, Int.natCast_nonneg, Int.toNat_natCast, List.getElem?_eq_getElem hi, Option.bind_some, h1 xs[i] (List.getElem_mem hi), Bool.and_self, List.getElem?_eq_getElem (show i < r.length by omega), hw]
    refine toLoop xs to1 p0 heq hs h1 k (i + 1) (r.set i xs[i]) (by omega) (by simp [hr]) ?_
    rw [List.take_add_one, List.take_add_one, List.getElem?_set_self (by omega), List.getElem?_eq_getElem hi, List.take_set_of_le (by omega), ht]
theorem toList_ok {α : Type} (xs : List α) (z : α) (to1 : α → Option α) (p0 : List α → Nat → Int → List α → Option (List α)) (toS : List α → Option (List α))
    (heq : ∀ (n : Nat) (i : Int) (r : List α), p0 xs n i r = if decide (i < (xs.length : Int)) then (if decide (0 ≤ i) then (xs[i.toNat]?).bind fun x1 => (to1 x1).bind fun x2 => if decide (0 ≤ i) && decide (i < (n : Int)) then (r[i.toNat]?).bind fun x3 => p0 xs n (IntKind.i64.wrap (i + 1)) (r.set i.toNat x2) else none else none) else some (r.take n))
    (hS : toS xs = if decide (0 ≤ (xs.length : Int)) && decide ((xs.length : Int) ≤ (xs.length : Int)) && decide ((xs.length : Int) < (lim : Int)) then p0 xs ((List.replicate ((xs.length : Int).toNat) z).length) 0 (List.replicate ((xs.length : Int).toNat) z) else none)
    (hs : xs.length ≤ 1048576) (h1 : ∀ x, x ∈ xs → to1 x = some x) : toS xs = some xs := by
  rw [hS, lim_eq]
  have h2 : (xs.length : Int) < ((1099511627776 : Nat) : Int) := by omega
  have h3 : (xs.length : Int) ≤ (xs.length : Int) := Int.le_refl _
  simp only [h2, h3, Int.natCast_nonneg, decide_true, Bool.and_self, if_true, Int.toNat_natCast, List.length_replicate]
  exact toLoop xs to1 p0 heq (by omega) h1 xs.length 0 _ (by omega) (by simp) (by simp)
/-- A list is equal to itself. -/
theorem eqLoop {α : Type} (xs : List α) (eq1 : α → α → Option Bool) (p0 : List α → List α → Int → Option Bool)
    (heq : ∀ (i : Int), p0 xs xs i = if decide (i < (xs.length : Int)) then (if decide (0 ≤ i) then (xs[i.toNat]?).bind fun x1 => if decide (0 ≤ i) then (xs[i.toNat]?).bind fun x2 => (eq1 x1 x2).bind fun x3 => if (!x3) then some false else p0 xs xs (IntKind.i64.wrap (i + 1)) else none else none) else some true)
    (hs : xs.length ≤ 1048576) (h1 : ∀ x, x ∈ xs → eq1 x x = some true) : ∀ (k i : Nat), i + k = xs.length → p0 xs xs i = some true
  | 0, i, hk => by
    rw [heq]
    have : ¬ (i : Int) < (xs.length : Int) := by omega
    simp only [this, decide_false, Bool.false_eq_true, if_false]
  | k + 1, i, hk => by
    have hi : i < xs.length := by omega
    have hlt : (i : Int) < (xs.length : Int) := by omega
    have hw : IntKind.i64.wrap ((i : Int) + 1) = ((i + 1 : Nat) : Int) := by rw [w64 (by omega) (by omega)]; omega
    rw [heq]
    simp only [hlt, decide_true, if_true, Int.natCast_nonneg, Int.toNat_natCast, List.getElem?_eq_getElem hi, Option.bind_some, h1 xs[i] (List.getElem_mem hi), Bool.not_true, Bool.false_eq_true, if_false, hw]
    exact eqLoop xs eq1 p0 heq hs h1 k (i + 1) (by omega)
theorem eqList_ok {α : Type} (xs : List α) (eq1 : α → α → Option Bool) (p0 : List α → List α → Int → Option Bool) (eqS : List α → List α → Option Bool)
    (heq : ∀ (i : Int), p0 xs xs i = if decide (i < (xs.length : Int)) then (if decide (0 ≤ i) then (xs[i.toNat]?).bind fun x1 => if decide (0 ≤ i) then (xs[i.toNat]?).bind fun x2 => (eq1 x1 x2).bind fun x3 => if (!x3) then some false else p0 xs xs (IntKind.i64.wrap (i + 1)) else none else none) else some true)
    (hS : eqS xs xs = if ((xs.length : Int) != (xs.length : Int)) then some false else p0 xs xs 0)
    (hs : xs.length ≤ 1048576) (h1 : ∀ x, x ∈ xs → eq1 x x = some true) : eqS xs xs = some true := by
  rw [hS]
  simp only [bne_self_eq_false, Bool.false_eq_true, if_false]
  exact eqLoop xs eq1 p0 heq hs h1 xs.length 0 (by omega)
/-- A list whose elements are all as wished, their names rising. -/
def sortedChk {α : Type} (ok : α → Bool) (id : α → List UInt8) : Option α → List α → Bool
  | _, [] => true
  | p, x :: r => ok x && ((match p with | none => true | some y => Op.bytesLess (id y) (id x)) && sortedChk ok id (some x) r)
theorem sortedChk_all {α : Type} {ok : α → Bool} {id : α → List UInt8} : ∀ {l : List α} {p : Option α}, sortedChk ok id p l = true → ∀ x, x ∈ l → ok x = true
  | [], _, _, x, hx => by cases hx
  | y :: r, p, h, x, hx => by
    simp only [sortedChk, Bool.and_eq_true] at h
    rcases List.mem_cons.1 hx with rfl | hx
    · exact h.1
    · exact sortedChk_all h.2.2 x hx
theorem sortedLoopI {α : Type} (xs : List α) (one : α → Option Bool) (ok : α → Bool) (id : α → List UInt8) (p0 : Int → Option Bool) (last : Option Bool) (lb : Bool) (hlast : last = some lb)
    (heq : ∀ i : Int, p0 i = if decide (i < (xs.length : Int)) then (if decide (0 ≤ i) then (xs[i.toNat]?).bind fun x1 => (one x1).bind fun x2 => if (!x2) then some false else if decide (i > 0) then (if decide (0 ≤ IntKind.i64.wrap (i - 1)) then (xs[(IntKind.i64.wrap (i - 1)).toNat]?).bind fun x3 => if (!Op.bytesLess (id x3) (id x1)) then some false else p0 (IntKind.i64.wrap (i + 1)) else none) else p0 (IntKind.i64.wrap (i + 1)) else none) else last)
    (hs : xs.length ≤ 1048576) (h1 : ∀ x, x ∈ xs → one x = some (ok x)) :
    ∀ (k i : Nat), i + k = xs.length → p0 i = some (sortedChk ok id (if i = 0 then none else xs[i - 1]?) (xs.drop i) && lb)
  | 0, i, hk => by
    rw [heq, List.drop_eq_nil_of_le (by omega)]
    have : ¬ (i : Int) < (xs.length : Int) := by omega
    simp only [this, decide_false, Bool.false_eq_true, if_false, hlast, sortedChk, Bool.true_and]
  | k + 1, i, hk => by
    have hi : i < xs.length := by omega
    have hlt : (i : Int) < (xs.length : Int) := by omega
    have hw : IntKind.i64.wrap ((i : Int) + 1) = ((i + 1 : Nat) : Int) := by rw [w64 (by omega) (by omega)]; omega
    have ih := sortedLoopI xs one ok id p0 last lb hlast heq hs h1 k (i + 1) (by omega)
    rw [if_neg (by omega), Nat.add_sub_cancel, List.getElem?_eq_getElem hi] at ih
    rw [heq, List.drop_eq_getElem_cons hi]
    simp only [hlt, decide_true, if_true, Int.natCast_nonneg, Int.toNat_natCast, List.getElem?_eq_getElem hi, Option.bind_some, h1 xs[i] (List.getElem_mem hi), hw, ih, sortedChk]
    cases hok : ok xs[i]
    · simp
    · by_cases h0 : i = 0
      · subst h0; simp
      · have hp : (i : Int) > 0 := by omega
        have hw2 : IntKind.i64.wrap ((i : Int) - 1) = ((i - 1 : Nat) : Int) := by rw [w64 (by omega) (by omega)]; omega
        simp only [hp, decide_true, if_true, hw2, Int.natCast_nonneg, Int.toNat_natCast, List.getElem?_eq_getElem (show i - 1 < xs.length by omega), Option.bind_some, h0, if_false, Bool.not_true, Bool.false_eq_true]
        cases Op.bytesLess (id xs[i - 1]) (id xs[i]) <;> simp
theorem sortedLoopS {α : Type} (xs : List α) (one : α → Option Bool) (ok : α → Bool) (id : α → List UInt8) (p0 : Int → Option Bool) (last : Option Bool) (lb : Bool) (hlast : last = some lb)
    (heq : ∀ i : Int, p0 i = if decide (i < (xs.length : Int)) then (if decide (0 ≤ i) then (xs[i.toNat]?).bind fun x1 => (one x1).bind fun x2 => if (!x2) then some false else if decide (i > 0) then (if decide (0 ≤ IntKind.i64.wrap (i - 1)) then (xs[(IntKind.i64.wrap (i - 1)).toNat]?).bind fun x3 => if decide (0 ≤ i) then (xs[i.toNat]?).bind fun x4 => if (!Op.bytesLess (id x3) (id x4)) then some false else p0 (IntKind.i64.wrap (i + 1)) else none else none) else p0 (IntKind.i64.wrap (i + 1)) else none) else last)
    (hs : xs.length ≤ 1048576) (h1 : ∀ x, x ∈ xs → one x = some (ok x)) :
    ∀ (k i : Nat), i + k = xs.length → p0 i = some (sortedChk ok id (if i = 0 then none else xs[i - 1]?) (xs.drop i) && lb) := by
  refine sortedLoopI xs one ok id p0 last lb hlast (fun i => ?_) hs h1
  rw [heq]
  by_cases h : i < (xs.length : Int)
  · by_cases h0 : 0 ≤ i
    · simp only [h, h0, decide_true, if_true]
      cases xs[i.toNat]? <;> rfl
    · simp only [h, h0, decide_true, decide_false, Bool.false_eq_true, if_true, if_false]
  · simp only [h, decide_false, Bool.false_eq_true, if_false]
/-- A loop that leaves at the first element that is not as wished. -/
theorem allLoop {α β : Type} (xs : List α) (one : α → Option Bool) (ok : α → Bool) (p0 : Int → Option β) (bad : β) (last : Option β)
    (heq : ∀ i : Int, p0 i = if decide (i < (xs.length : Int)) then (if decide (0 ≤ i) then (xs[i.toNat]?).bind fun x1 => (one x1).bind fun x2 => if (!x2) then some bad else p0 (IntKind.i64.wrap (i + 1)) else none) else last)
    (hs : xs.length ≤ 1099511627776) (h1 : ∀ x, x ∈ xs → one x = some (ok x)) :
    ∀ (k i : Nat), i + k = xs.length → p0 i = if (xs.drop i).all ok then last else some bad
  | 0, i, hk => by
    rw [heq, List.drop_eq_nil_of_le (by omega)]
    have : ¬ (i : Int) < (xs.length : Int) := by omega
    simp [this]
  | k + 1, i, hk => by
    have hi : i < xs.length := by omega
    have hlt : (i : Int) < (xs.length : Int) := by omega
    have hw : IntKind.i64.wrap ((i : Int) + 1) = ((i + 1 : Nat) : Int) := by rw [w64 (by omega) (by omega)]; omega
    have ih := allLoop xs one ok p0 bad last heq hs h1 k (i + 1) (by omega)
    rw [heq, List.drop_eq_getElem_cons hi]
    simp only [hlt, decide_true, if_true, Int.natCast_nonneg, Int.toNat_natCast, List.getElem?_eq_getElem hi, Option.bind_some, h1 xs[i] (List.getElem_mem hi), hw, ih, List.all_cons]
    by_cases hok : ok xs[i] = true
    · simp [hok]
    · simp [hok]
theorem wsucc {i : Nat} (h : i < 4611686018427387904) : IntKind.i64.wrap ((i : Int) + 1) = ((i + 1 : Nat) : Int) := by
  rw [w64 (by omega) (by omega)]; omega
theorem ite_both {α : Type} {c : Prop} [Decidable c] (a b : α) (h : c → a = b) : (if c then a else b) = b := by
  split
  · exact h ‹_›
  · rfl
theorem getElem?_lt {α : Type} {l : List α} {i : Nat} (h : i < l.length) : l[i]? = some l[i] := List.getElem?_eq_getElem h
theorem drop_cons {α : Type} {l : List α} {i : Nat} (h : i < l.length) : l.drop i = l[i] :: l.drop (i + 1) := List.drop_eq_getElem_cons h
/-- The nearest quotient, halves away from 0. -/
def rdivP (a b : Int) : Int := if a < 0 then -((b - 2 * a) / (2 * b)) else (2 * a + b) / (2 * b)
def rdiv (a b : Int) : Int := if b < 0 then rdivP (-a) (-b) else rdivP a b
theorem rdivP_eq {a b : Int} (ha : 0 ≤ a) (hb : 0 < b) : rdivP a b = a / b + if b - a % b ≤ a % b then 1 else 0 := by
  have h1 := Int.mul_ediv_add_emod a b
  have h2 := Int.emod_nonneg a (show b ≠ 0 by omega)
  have h3 := Int.emod_lt_of_pos a hb
  unfold rdivP
  rw [if_neg (by omega)]
  generalize a / b = q at h1 ⊢
  generalize a % b = r at h1 h2 h3 ⊢
  have key : ∀ t s : Int, 0 ≤ s → s < 2 * b → 2 * a + b = s + 2 * b * t → (2 * a + b) / (2 * b) = t := fun t s hs0 hs1 he => by
    rw [he, Int.add_mul_ediv_left s t (show 2 * b ≠ 0 by omega), Int.ediv_eq_zero_of_lt hs0 hs1]; omega
  have e : 2 * b * q = 2 * (b * q) := Int.mul_assoc 2 b q
  split
  · refine key (q + 1) (2 * r - b) (by omega) (by omega) ?_
    rw [Int.mul_add, e]; omega
  · rw [Int.add_zero]
    refine key q (2 * r + b) (by omega) (by omega) ?_
    rw [e]; omega
theorem rdivP_neg {a b : Int} (ha : 0 < a) (hb : 0 < b) : rdivP (-a) b = -rdivP a b := by
  unfold rdivP
  rw [if_pos (by omega), if_neg (by omega)]
  congr 2; omega
theorem rdivP_nonneg {a b : Int} (ha : 0 ≤ a) (hb : 0 < b) : 0 ≤ rdivP a b := by
  unfold rdivP
  rw [if_neg (by omega)]
  exact Int.ediv_nonneg (by omega) (by omega)
theorem rdivP_le {a b : Int} (ha : 0 ≤ a) (hb : 0 < b) : rdivP a b ≤ a + 1 := by
  rw [rdivP_eq ha hb]
  have := Int.ediv_le_self b ha
  split <;> omega
theorem rdivP_mono {a a' b : Int} (ha : 0 ≤ a) (h : a ≤ a') (hb : 0 < b) : rdivP a b ≤ rdivP a' b := by
  unfold rdivP
  rw [if_neg (by omega), if_neg (by omega)]
  exact Int.ediv_le_ediv (by omega) (by omega)
theorem tdiv_nonneg_eq {a b : Int} (ha : 0 ≤ a) : a.tdiv b = a / b := Int.tdiv_eq_ediv_of_nonneg ha
theorem tmod_nonneg_eq {a b : Int} (ha : 0 ≤ a) : a.tmod b = a % b := Int.tmod_eq_emod_of_nonneg ha
def small (c : UInt8) : Bool := decide (97 ≤ (c.toNat : Int)) && decide ((c.toNat : Int) ≤ 122)
def digit (c : UInt8) : Bool := decide (48 ≤ (c.toNat : Int)) && decide ((c.toNat : Int) ≤ 57)
def isName (s : List UInt8) : Bool := match s with | [] => false | c :: r => small c && r.all (fun c => small c || digit c) && decide (s.length ≤ 10)
def inR (n lo hi : Int) : Bool := decide (lo ≤ n) && decide (n ≤ hi)
theorem inR_iff' {n lo hi : Int} : inR n lo hi = true ↔ lo ≤ n ∧ n ≤ hi := by simp [inR]
theorem impl_within_ok (n lo hi : Int) : impl_within n lo hi = some (inR n lo hi) := by
  rw [impl_within_eq, inR]; by_cases h : lo ≤ n <;> simp [h]
theorem spec_l00In_ok (n lo hi : Int) : spec_l00In n lo hi = some (inR n lo hi) := by
  rw [spec_l00In_eq, inR]; by_cases h : lo ≤ n <;> simp [h]
theorem impl_isDigit_ok (c : UInt8) : impl_isDigit (c.toNat : Int) = some (digit c) := by
  rw [impl_isDigit_eq, digit]; by_cases h : 48 ≤ (c.toNat : Int) <;> simp [h]
theorem impl_divRound_ok (a b : Int) (ha : -2000000000000000000 ≤ a ∧ a ≤ 2000000000000000000) (hb : 0 < b ∧ b ≤ 2000000000000000000) : impl_divRound a b = some (rdivP a b) := by
  rw [impl_divRound_eq]
  have e1 : IntKind.i64.wrap (0 - b) = -b := by rw [w64 (by omega) (by omega)]; omega
  have e2 : IntKind.i64.wrap (0 - a) = -a := by rw [w64 (by omega) (by omega)]; omega
  have e3 : (if -b > b then -b else b) = b := by rw [if_neg (by omega)]
  have hb0 : ¬ b = 0 := by omega
  have hbn : ¬ b < 0 := by omega
  simp only [e1, e2, e3, hb0, hbn, decide_false, Bool.false_eq_true, if_false]
  have main : ∀ x : Int, 0 ≤ x → x ≤ 2000000000000000000 → x.tmod b = x % b ∧ x.tdiv b = x / b ∧ 0 ≤ x % b ∧ x % b < b ∧ 0 ≤ x / b ∧ x / b ≤ x := fun x h0 h1 =>
    ⟨tmod_nonneg_eq h0, tdiv_nonneg_eq h0, Int.emod_nonneg _ (by omega), Int.emod_lt_of_pos _ hb.1, Int.ediv_nonneg h0 (by omega), Int.ediv_le_self b h0⟩
  by_cases hneg : a < 0
  · have e4 : (if -a > a then -a else a) = -a := by rw [if_pos (by omega)]
    obtain ⟨m1, m2, m3, m4, m5, m6⟩ := main (-a) (by omega) (by omega)
    have e5 : rdivP a b = -rdivP (-a) b := by rw [← rdivP_neg (show 0 < -a by omega) hb.1]; congr 1; omega
    rw [e5, rdivP_eq (show 0 ≤ -a by omega) hb.1]
    simp only [e4, hneg, m1, m2, decide_true, Bool.true_beq, Bool.not_false, if_true]
    rw [w64 (n := b - -a % b) (by omega) (by omega), w64 (n := -a / b) (by omega) (by omega), w64 (n := -a / b + 1) (by omega) (by omega), w64 (n := 0 - (-a / b + 1)) (by omega) (by omega), w64 (n := 0 - -a / b) (by omega) (by omega)]
    simp only [decide_eq_true_eq, ge_iff_le]
    split
    · congr 1; omega
    · congr 1; omega
  · have e4 : (if -a > a then -a else a) = a := by rw [if_neg (by omega)]
    obtain ⟨m1, m2, m3, m4, m5, m6⟩ := main a (by omega) (by omega)
    rw [rdivP_eq (show 0 ≤ a by omega) hb.1]
    simp only [e4, hneg, m1, m2, decide_false, beq_self_eq_true, Bool.not_true, Bool.false_eq_true, if_false]
    rw [w64 (n := b - a % b) (by omega) (by omega), w64 (n := a / b) (by omega) (by omega), w64 (n := a / b + 1) (by omega) (by omega)]
    simp only [decide_eq_true_eq, ge_iff_le]
    split
    · rfl
    · congr 1; omega
theorem index1_none {c : UInt8} : ∀ {a : List UInt8}, c ∉ a → Lib.index a [c] = -1
  | [], _ => rfl
  | b :: l, h => by
    have h1 : (c == b) = false := by simp at h; simpa using h.1
    have h2 := index1_none (a := l) (fun e => h (List.mem_cons_of_mem _ e))
    unfold Lib.index
    simp [List.isPrefixOf, h1, h2]
theorem index1_at {c : UInt8} : ∀ {a : List UInt8} (r : List UInt8), c ∉ a → Lib.index (a ++ c :: r) [c] = a.length
  | [], r, _ => by simp [Lib.index, List.isPrefixOf]
  | b :: l, r, h => by
    have h1 : (c == b) = false := by simp at h; simpa using h.1
    have h2 := index1_at (a := l) r (fun e => h (List.mem_cons_of_mem _ e))
    rw [List.cons_append]
    unfold Lib.index
    have h3 : ((l.length : Int) == -1) = false := by rw [beq_eq_false_iff_ne]; omega
    simp [List.isPrefixOf, h1, h2, h3]
theorem split1_last {c : UInt8} {a : List UInt8} (h : c ∉ a) : Lib.splitK [c] 0 (Lib.count a [c]) a = [a] := by
  rw [Lib.count_miss (index1_none h)]; rfl
theorem split1_cons {c : UInt8} {a : List UInt8} (r : List UInt8) (h : c ∉ a) : Lib.splitK [c] 0 (Lib.count (a ++ c :: r) [c]) (a ++ c :: r) = a :: Lib.splitK [c] 0 (Lib.count r [c]) r := by
  have hi := index1_at r h
  have hm : ¬ ((a.length : Int) == -1) = true := by rw [beq_iff_eq]; omega
  have hd : (a ++ c :: r).drop (a.length + [c].length) = r := by simp [List.drop_append]
  rw [Lib.count_hit (by simp) hi, hd, Nat.add_comm 1, Lib.splitK, hi, if_neg hm, Int.toNat_natCast, hd]
  simp
theorem cut1_none {c : UInt8} {a : List UInt8} (h : c ∉ a) : Lib.cut a [c] = (a, [], false) := by
  unfold Lib.cut
  rw [index1_none h]; rfl
theorem cut1_at {c : UInt8} {a : List UInt8} (r : List UInt8) (h : c ∉ a) : Lib.cut (a ++ c :: r) [c] = (a, r, true) := by
  unfold Lib.cut
  rw [index1_at r h, if_pos (by omega), Int.toNat_natCast]
  simp [List.drop_append]
theorem wu8 {n : Int} (h1 : 0 ≤ n) (h2 : n < 256) : IntKind.u8.wrap n = n := by
  have e : IntKind.u8.wrap n = n % 256 := by simp [IntKind.wrap, IntKind.signed, IntKind.bits]
  rw [e]; omega
/-- The number of some digits. -/
def digsGo : List UInt8 → Int → Int × Bool
  | [], n => (n, true)
  | c :: r, n => if digit c = true then digsGo r (10 * n + ((c.toNat : Int) - 48)) else (0, false)
def digs (s : List UInt8) : Int × Bool := if s = [] then (0, false) else if s.length > 18 then (0, false) else digsGo s 0
theorem impl_digitsOf_p1_ok (s : List UInt8) (hs : s.length ≤ 18) : ∀ (k i : Nat) (n : Int), i + k = s.length → 0 ≤ n → n < 10 ^ i → impl_digitsOf_p1 s n i = some (digsGo (s.drop i) n)
  | 0, i, n, hk, h0, hn => by
    rw [impl_digitsOf_p1_eq]
    have : ¬ (i : Int) < (s.length : Int) := by omega
    rw [List.drop_eq_nil_of_le (by omega)]
    simp [this, digsGo]
  | k + 1, i, n, hk, h0, hn => by
    have hi : i < s.length := by omega
    have hlt : (i : Int) < (s.length : Int) := by omega
    have hp : (10 : Int) ^ i ≤ 10 ^ 17 := by
      have h := Nat.pow_le_pow_right (show 0 < 10 by decide) (show i ≤ 17 by omega)
      exact_mod_cast h
    have hq : (10 : Int) ^ (i + 1) = 10 ^ i * 10 := Int.pow_succ ..
    have h17 : (10 : Int) ^ 17 = 100000000000000000 := by decide
    rw [impl_digitsOf_p1_eq, drop_cons hi, digsGo]
    have hi0 : (0 : Int) ≤ (i : Int) := by omega
    simp only [hlt, decide_true, if_true, hi0, Int.toNat_natCast, getElem?_lt hi, Option.bind_some, impl_isDigit_ok]
    cases hd : digit s[i]
    · rfl
    have hd' := hd
    simp only [digit, Bool.and_eq_true, decide_eq_true_eq] at hd'
    have hw : IntKind.u8.wrap ((s[i].toNat : Int) - 48) = (s[i].toNat : Int) - 48 := wu8 (by omega) (by omega)
    simp only [Bool.not_true, Bool.false_eq_true, if_false, if_true, hw, w64 (n := 10 * n) (by omega) (by omega), w64 (n := (s[i].toNat : Int) - 48) (by omega) (by omega), w64 (n := 10 * n + ((s[i].toNat : Int) - 48)) (by omega) (by omega), wsucc (show i < 4611686018427387904 by omega)]
    exact impl_digitsOf_p1_ok s hs k (i + 1) _ (by omega) (by omega) (by rw [hq]; omega)
theorem impl_digitsOf_ok (s : List UInt8) : impl_digitsOf s = some (digs s) := by
  rw [impl_digitsOf_eq]
  unfold digs
  by_cases h1 : s = []
  · simp [h1]
  have h1' : (s == []) = false := by simpa using h1
  simp only [h1', Bool.false_eq_true, if_false, h1, decide_eq_true_eq]
  by_cases h2 : s.length > 18
  · have : (s.length : Int) > 18 := by omega
    simp [this, h2]
  · have : ¬ (s.length : Int) > 18 := by omega
    simp only [this, if_false, h2, impl_digitsOf_p0_eq]
    exact impl_digitsOf_p1_ok s (by omega) s.length 0 0 (by omega) (by omega) (by simp)
theorem impl_Decimal_ok (n : Int) (h : -9223372036854775808 ≤ n ∧ n ≤ 9223372036854775807) : impl_Decimal n = some (Lib.itoa n) := by
  rw [impl_Decimal_eq, strconv_FormatInt_eq]
  simp [h.1, h.2]
/-- A number with at least so many digits. -/
def padP (n : Int) (d : Nat) : List UInt8 := Lib.repeatL [48] (d - (Lib.itoa n).length) ++ Lib.itoa n
theorem impl_padded_ok (n : Int) (d : Nat) (h : -9223372036854775808 ≤ n ∧ n ≤ 9223372036854775807) (hd : d ≤ 1000) (hl : (Lib.itoa n).length ≤ 1000) : impl_padded n d = some (padP n d) := by
  have hm : (if (d : Int) - ((Lib.itoa n).length : Int) > 0 then (d : Int) - ((Lib.itoa n).length : Int) else 0) = ((d - (Lib.itoa n).length : Nat) : Int) := by split <;> omega
  rw [impl_padded_eq, impl_Decimal_ok n h]
  simp only [Option.bind_some]
  rw [w64 (n := (d : Int) - ((Lib.itoa n).length : Int)) (by omega) (by omega), hm, strings_Repeat_eq]
  have h1 : ((d - (Lib.itoa n).length : Nat) : Int) ≥ 0 := by omega
  have h2 : ((d - (Lib.itoa n).length : Nat) : Int) ≤ 9223372036854775807 := by omega
  have h3 : ([48] : List UInt8).length * (d - (Lib.itoa n).length) ≤ 140737488355328 := by simp; omega
  have h4 : (Lib.repeatL [48] (d - (Lib.itoa n).length)).length + (Lib.itoa n).length ≤ strMax := by
    rw [Lib.repeatL_length, strMax_eq]; simp; omega
  simp only [h1, h2, Int.toNat_natCast, h3, decide_true, Bool.and_self, if_true, Option.bind_some, h4]
  rfl
/-- Numbers one behind the other. -/
def runs (m : Int) : Nat → List Int
  | 0 => []
  | n + 1 => m :: runs (m + 1) n
theorem runs_len (m : Int) (n : Nat) : (runs m n).length = n := by
  induction n generalizing m with
  | zero => rfl
  | succ n ih => simp [runs, ih]
theorem runs_get (m : Int) (n i : Nat) (h : i < n) : (runs m n)[i]? = some (m + i) := by
  induction n generalizing m i with
  | zero => omega
  | succ n ih =>
    cases i with
    | zero => simp [runs]
    | succ i =>
      simp only [runs, List.getElem?_cons_succ]
      rw [ih (m + 1) i (by omega)]
      congr 1; omega
theorem wu64 {n : Int} (h1 : 0 ≤ n) (h2 : n < 18446744073709551616) : IntKind.u64.wrap n = n := by
  have e : IntKind.u64.wrap n = if decide false = true then n % 18446744073709551616 - 18446744073709551616 else n % 18446744073709551616 := by
    simp [IntKind.wrap, IntKind.signed, IntKind.bits]
  rw [e]
  simp; omega
theorem and255 (x : Int) : ((BitVec.ofInt IntKind.u64.bits x &&& BitVec.ofInt IntKind.u64.bits 255).toNat : Int) ≤ 255 := by
  have : (BitVec.ofInt IntKind.u64.bits x &&& BitVec.ofInt IntKind.u64.bits 255).toNat ≤ 255 := by
    rw [BitVec.toNat_and]
    refine Nat.le_trans Nat.and_le_right ?_
    decide
  omega
/-- A source of numbers that an input lays: its bytes are bytes, and it has not gone far. -/
def SrcOk (s : T_l00Src.ty) (c : Int) : Prop := (∀ x : Int, x ∈ s.1 → 0 ≤ x ∧ x ≤ 255) ∧ s.1.length ≤ 1048576 ∧ (0 : Int) ≤ s.2.1 ∧ (s.2.1 : Int) ≤ c
theorem src_eta (s : T_l00Src.ty) : (s.1, s.2.1, s.2.2.1, ()) = s := rfl
theorem SrcOk.up {s : T_l00Src.ty} {c d : Int} (h : SrcOk s c) (hd : c ≤ d) : SrcOk s d := ⟨h.1, h.2.1, h.2.2.1, Int.le_trans h.2.2.2 hd⟩
theorem next_p0_ok (v : Int) (l : List Int) (a h : Int) (c : Int) (hs : SrcOk (l, a, h, ()) c) (hc : c ≤ 1152921504606846976) (hv : 0 ≤ v ∧ v ≤ 255) :
    ∃ (u : Int) (s' : T_l00Src.ty), spec_l00Src_next_p0 v l a h = some (u, s') ∧ SrcOk s' (c + 1) ∧ 0 ≤ u ∧ u ≤ 255 := by
  obtain ⟨h1, h2, h3, h4⟩ := hs
  have h3 : 0 ≤ a := h3
  have h4 : a ≤ c := h4
  rw [spec_l00Src_next_p0_eq, w64 (n := a + 1) (by omega) (by omega)]
  split
  · exact ⟨_, _, rfl, ⟨h1, h2, by show (0 : Int) ≤ a + 1; omega, by show (a + 1 : Int) ≤ c + 1; omega⟩, hv⟩
  · refine ⟨_, _, rfl, ⟨h1, h2, by show (0 : Int) ≤ a + 1; omega, by show (a + 1 : Int) ≤ c + 1; omega⟩, ?_⟩
    generalize hx : ((BitVec.ofInt IntKind.u64.bits _ &&& BitVec.ofInt IntKind.u64.bits 255).toNat : Int) = x
    have := and255 (Int.fdiv (IntKind.u64.wrap ((IntKind.u64.wrap ((IntKind.u64.wrap (h * 6364136223846793005)) + (IntKind.u64.wrap v))) + 1442695040888963407)) (2 ^ (min (40 : Int).toNat IntKind.u64.bits)))
    rw [hx] at this
    have h0 : 0 ≤ x := by rw [← hx]; exact Int.natCast_nonneg _
    rw [wu64 h0 (by omega), w64 (by omega) (by omega)]
    exact ⟨h0, this⟩
theorem next_core (l : List Int) (a h c : Int) (hs : SrcOk (l, a, h, ()) c) (hc : c ≤ 1152921504606846976) : ∃ (u : Int) (s' : T_l00Src.ty), spec_l00Src_next (l, a, h, ()) = some (u, s') ∧ SrcOk s' (c + 1) ∧ 0 ≤ u ∧ u ≤ 255 := by
  have h3 : (0 : Int) ≤ a := hs.2.2.1
  rw [spec_l00Src_next_eq]
  dsimp only
  split
  · rename_i hlt
    simp only [decide_eq_true_eq] at hlt
    have hlt' : a < (List.length (α := Int) l : Int) := hlt
    have hi : a.toNat < l.length := by omega
    obtain ⟨x, hx⟩ : ∃ x, l[a.toNat]? = some x := ⟨_, List.getElem?_eq_getElem hi⟩
    have hm : 0 ≤ x ∧ x ≤ 255 := hs.1 x (List.mem_of_getElem? hx)
    rw [if_pos (by simpa using h3), hx, Option.bind_some, w64 (n := x) (by omega) (by omega)]
    exact next_p0_ok x l a h c hs hc hm
  · exact next_p0_ok 0 l a h c hs hc ⟨by omega, by omega⟩
theorem next_ok {s : T_l00Src.ty} {c : Int} (hs : SrcOk s c) (hc : c ≤ 1152921504606846976) : ∃ (u : Int) (s' : T_l00Src.ty), spec_l00Src_next s = some (u, s') ∧ SrcOk s' (c + 1) ∧ 0 ≤ u ∧ u ≤ 255 :=
  next_core s.1 s.2.1 s.2.2.1 c hs hc
theorem pick_ok {s : T_l00Src.ty} {c : Int} (hs : SrcOk s c) (hc : c ≤ 1000000000000000000) (n : Int) (hn : n ≤ 65536) :
    ∃ (u : Int) (s' : T_l00Src.ty), spec_l00Src_pick s n = some (u, s') ∧ SrcOk s' (c + 2) ∧ 0 ≤ u ∧ (u = 0 ∨ u < n) := by
  rw [spec_l00Src_pick_eq]
  by_cases h1 : n ≤ 1
  · simp only [h1, decide_true, if_true]
    exact ⟨0, s, rfl, hs.up (by omega), by omega, .inl rfl⟩
  · obtain ⟨u, s1, e1, k1, b1, b2⟩ := next_ok hs (by omega)
    have hn0 : ¬ n = 0 := by omega
    simp only [h1, decide_false, Bool.false_eq_true, if_false, e1, Option.bind_some, src_eta, hn0]
    by_cases h2 : n > 200
    · obtain ⟨v, s2, e2, k2, b3, b4⟩ := next_ok k1 (by omega)
      simp only [h2, decide_true, if_true, e2, Option.bind_some, src_eta]
      rw [w64 (n := u * 256) (by omega) (by omega), w64 (n := u * 256 + v) (by omega) (by omega), tmod_nonneg_eq (by omega)]
      exact ⟨_, s2, rfl, k2.up (by omega), Int.emod_nonneg _ hn0, .inr (Int.emod_lt_of_pos _ (by omega))⟩
    · simp only [h2, decide_false, Bool.false_eq_true, if_false]
      rw [tmod_nonneg_eq b1]
      exact ⟨_, s1, rfl, k1.up (by omega), Int.emod_nonneg _ hn0, .inr (Int.emod_lt_of_pos _ (by omega))⟩
theorem one_ok {s : T_l00Src.ty} {c : Int} (hs : SrcOk s c) (hc : c ≤ 1000000000000000000) (n : Int) (hn : n ≤ 65536) :
    ∃ (u : Bool) (s' : T_l00Src.ty), spec_l00Src_one s n = some (u, s') ∧ SrcOk s' (c + 2) := by
  obtain ⟨u, s1, e1, k1, _⟩ := pick_ok hs hc n hn
  rw [spec_l00Src_one_eq]
  simp only [e1, Option.bind_some, src_eta]
  exact ⟨_, s1, rfl, k1⟩
theorem among_ok {s : T_l00Src.ty} {c : Int} (hs : SrcOk s c) (hc : c ≤ 1000000000000000000) (l : List Int) (h0 : 0 < l.length) (hn : l.length ≤ 65536) :
    ∃ (u : Int) (s' : T_l00Src.ty), spec_l00Src_among s l = some (u, s') ∧ SrcOk s' (c + 2) ∧ u ∈ l := by
  obtain ⟨u, s1, e1, k1, b1, b2⟩ := pick_ok hs hc (l.length : Int) (by omega)
  have hi : u.toNat < l.length := by omega
  rw [spec_l00Src_among_eq]
  simp only [e1, Option.bind_some, src_eta, b1, decide_true, if_true, List.getElem?_eq_getElem hi]
  exact ⟨_, s1, rfl, k1, List.getElem_mem hi⟩
theorem from_ok (code : List Int) (h1 : ∀ x, x ∈ code → 0 ≤ x ∧ x ≤ 255) (h2 : code.length ≤ 1048576) : ∃ s, spec_l00From code = some s ∧ SrcOk s 0 := by
  rw [spec_l00From_eq]
  exact ⟨_, rfl, h1, h2, Int.le_refl _, Int.le_refl _⟩
theorem bytes_ok {l : List Int} (h : CT.wf (.sl (.one (.int .u8))) l) : ∀ x, x ∈ l → 0 ≤ x ∧ x ≤ 255 := fun x hx => by
  have : (Lit.int .u8 x).wf = true := h.2 x hx
  simp [Lit.wf, IntKind.min, IntKind.max, IntKind.signed, IntKind.bits] at this
  omega
def absI (n : Int) : Int := if n < 0 then -n else n
theorem absI_bd {n b : Int} (h : -b ≤ n ∧ n ≤ b) : 0 ≤ absI n ∧ absI n ≤ b := by unfold absI; split <;> omega
theorem absI_le {n b : Int} : absI n ≤ b ↔ -b ≤ n ∧ n ≤ b := by unfold absI; split <;> omega
theorem rdivP_err {a b : Int} (hb : 0 < b) : 2 * absI (rdivP a b * b - a) ≤ b := by
  have pos : ∀ a : Int, 0 ≤ a → 2 * absI (rdivP a b * b - a) ≤ b ∧ 0 ≤ a := fun a ha => by
    refine ⟨?_, ha⟩
    unfold rdivP
    rw [if_neg (by omega)]
    have h1 := Int.mul_ediv_add_emod (2 * a + b) (2 * b)
    have h2 := Int.emod_nonneg (2 * a + b) (show 2 * b ≠ 0 by omega)
    have h3 := Int.emod_lt_of_pos (2 * a + b) (show 0 < 2 * b by omega)
    have e : 2 * b * ((2 * a + b) / (2 * b)) = 2 * ((2 * a + b) / (2 * b) * b) := by rw [Int.mul_assoc, Int.mul_comm b]
    rw [e] at h1
    unfold absI
    split <;> omega
  by_cases ha : 0 ≤ a
  · exact (pos a ha).1
  · have h := (pos (-a) (by omega)).1
    have e : rdivP a b = -rdivP (-a) b := by rw [← rdivP_neg (show 0 < -a by omega) hb]; congr 1; omega
    rw [e, Int.neg_mul]
    unfold absI at h ⊢
    split at h <;> split <;> omega
theorem rdivP_bd {a b m : Int} (hb : 0 < b) (h : -m ≤ a ∧ a ≤ m) : -(m + 1) ≤ rdivP a b ∧ rdivP a b ≤ m + 1 := by
  by_cases ha : 0 ≤ a
  · have := rdivP_nonneg ha hb
    have := rdivP_le ha hb
    omega
  · have e : rdivP a b = -rdivP (-a) b := by rw [← rdivP_neg (show 0 < -a by omega) hb]; congr 1; omega
    have := rdivP_nonneg (a := -a) (by omega) hb
    have := rdivP_le (a := -a) (by omega) hb
    omega
/-- The places of a list's elements that are as wished. -/
def idx (P : Nat → Bool) (n : Nat) : List Int := ((List.range n).filter P).map fun (j : Nat) => (j : Int)
theorem idx_succ (P : Nat → Bool) (n : Nat) : idx P (n + 1) = idx P n ++ if P n then [(n : Int)] else [] := by
  unfold idx
  rw [List.range_succ, List.filter_append, List.map_append]
  cases h : P n <;> simp [h]
theorem idx_len (P : Nat → Bool) (n : Nat) : (idx P n).length ≤ n := by
  unfold idx
  rw [List.length_map]
  exact Nat.le_trans (List.length_filter_le _ _) (by simp)
theorem idx_mem (P : Nat → Bool) (n i : Nat) : (i : Int) ∈ idx P n ↔ i < n ∧ P i = true := by
  unfold idx
  simp only [List.mem_map, List.mem_filter, List.mem_range]
  constructor
  · rintro ⟨j, h, e⟩
    have : j = i := by omega
    subst this; exact h
  · intro h; exact ⟨i, h, rfl⟩
theorem idx_bd (P : Nat → Bool) (n : Nat) : ∀ x, x ∈ idx P n → 0 ≤ x ∧ x < n := by
  intro x hx
  unfold idx at hx
  obtain ⟨j, hj, rfl⟩ := List.mem_map.1 hx
  have := List.mem_range.1 (List.mem_filter.1 hj).1
  omega
theorem idx_rise (P : Nat → Bool) (n : Nat) : (idx P n).Pairwise (· < ·) := by
  unfold idx
  rw [List.pairwise_map]
  refine List.Pairwise.imp ?_ (List.Pairwise.filter P (List.pairwise_lt_range (n := n)))
  intro a b h; omega
theorem laws_b10Abs_ok (n : Int) (h : -4611686018427387904 ≤ n ∧ n ≤ 4611686018427387904) : laws_b10Abs n = some (absI n) := by
  rw [laws_b10Abs_eq, w64 (n := 0 - n) (by omega) (by omega), absI]
  by_cases hn : n < 0
  · simp [hn]
  · simp [hn]
/-- How many days a month of a year has (m from 0). -/
def mdays (y m : Nat) : Int := if m = 1 then (if y % 4 = 0 then 29 else 28) else ([31, 28, 31, 30, 31, 30, 31, 31, 30, 31, 30, 31] : List Int)[m]?.getD 0
def ydays (y : Nat) : Int := 337 + mdays y 1
/-- The days ahead of year 2000 + n. -/
def ySum : Nat → Int
  | 0 => 0
  | n + 1 => ySum n + ydays (2000 + n)
def mSum (y : Nat) : Nat → Int
  | 0 => 0
  | m + 1 => mSum y m + mdays y m
theorem mdays_bd {y m : Nat} (h : m < 12) : 28 ≤ mdays y m ∧ mdays y m ≤ 31 := by
  unfold mdays
  split
  · split <;> omega
  · have : ∀ m, m < 12 → 28 ≤ (([31, 28, 31, 30, 31, 30, 31, 31, 30, 31, 30, 31] : List Int)[m]?.getD 0) ∧ (([31, 28, 31, 30, 31, 30, 31, 31, 30, 31, 30, 31] : List Int)[m]?.getD 0) ≤ 31 := by decide +kernel
    exact this m h
theorem feb_bd (y : Nat) : 28 ≤ mdays y 1 ∧ mdays y 1 ≤ 29 := by
  unfold mdays
  rw [if_pos rfl]
  split <;> omega
theorem ySum_bd : ∀ n, 0 ≤ ySum n ∧ ySum n ≤ 366 * n
  | 0 => by simp [ySum]
  | n + 1 => by
    have := ySum_bd n
    have := feb_bd (2000 + n)
    show 0 ≤ ySum n + (337 + mdays (2000 + n) 1) ∧ ySum n + (337 + mdays (2000 + n) 1) ≤ _
    omega
theorem ySum_100 : ySum 100 = 36525 := by decide +kernel
theorem mSum_12 (y : Nat) : mSum y 12 = ydays y := by
  show 0 + mdays y 0 + mdays y 1 + mdays y 2 + mdays y 3 + mdays y 4 + mdays y 5 + mdays y 6 + mdays y 7 + mdays y 8 + mdays y 9 + mdays y 10 + mdays y 11 = ydays y
  unfold ydays
  have h : ∀ m, m ≠ 1 → mdays y m = ([31, 28, 31, 30, 31, 30, 31, 31, 30, 31, 30, 31] : List Int)[m]?.getD 0 := fun m hm => by unfold mdays; rw [if_neg hm]
  rw [h 0 (by decide), h 2 (by decide), h 3 (by decide), h 4 (by decide), h 5 (by decide), h 6 (by decide), h 7 (by decide), h 8 (by decide), h 9 (by decide), h 10 (by decide), h 11 (by decide)]
  simp
  omega
theorem mSum_bd (y : Nat) : ∀ m, m ≤ 12 → 0 ≤ mSum y m ∧ mSum y m ≤ 31 * m
  | 0, _ => by simp [mSum]
  | m + 1, h => by
    have := mSum_bd y m (by omega)
    have := mdays_bd (y := y) (m := m) (by omega)
    show 0 ≤ mSum y m + mdays y m ∧ mSum y m + mdays y m ≤ _
    omega
theorem itoa_year : ∀ y, y < 100 → (Lib.itoa ((2000 + y : Nat) : Int)).length = 4 ∧ (45 : UInt8) ∉ Lib.itoa ((2000 + y : Nat) : Int) ∧ digs (Lib.itoa ((2000 + y : Nat) : Int)) = (((2000 + y : Nat) : Int), true) := by decide +kernel
theorem pad_two : ∀ n, n < 100 → (Lib.itoa ((n : Nat) : Int)).length ≤ 2 ∧ (padP ((n : Nat) : Int) 2).length = 2 ∧ (45 : UInt8) ∉ padP ((n : Nat) : Int) 2 ∧ (58 : UInt8) ∉ padP ((n : Nat) : Int) 2 ∧ digs (padP ((n : Nat) : Int) 2) = ((n : Int), true) := by decide +kernel
/-- Is a day no weekend? -/
def wday (d : Int) : Int := if (d + 5) % 7 < 5 then 1 else 0
/-- How many days of work there are among n days. -/
def wcnt (f : Int) : Nat → Int
  | 0 => 0
  | n + 1 => wcnt f n + wday (f + n)
theorem wcnt_add (f : Int) (a : Nat) : ∀ b, wcnt f (a + b) = wcnt f a + wcnt (f + a) b
  | 0 => by simp [wcnt]
  | b + 1 => by
    have ih := wcnt_add f a b
    show wcnt f (a + b) + wday (f + ((a + b : Nat) : Int)) = wcnt f a + (wcnt (f + a) b + wday (f + a + b))
    rw [ih, show f + ((a + b : Nat) : Int) = f + a + b by omega]
    omega
theorem wday_bd (d : Int) : 0 ≤ wday d ∧ wday d ≤ 1 := by unfold wday; split <;> omega
theorem wcnt_bd (f : Int) : ∀ n : Nat, 0 ≤ wcnt f n ∧ wcnt f n ≤ n
  | 0 => by simp [wcnt]
  | n + 1 => by
    have := wcnt_bd f n
    have := wday_bd (f + n)
    show 0 ≤ wcnt f n + wday (f + n) ∧ wcnt f n + wday (f + n) ≤ _
    omega
theorem wcnt_7 (f : Int) : wcnt f 7 = 5 := by
  show 0 + wday (f + ((0 : Nat) : Int)) + wday (f + ((1 : Nat) : Int)) + wday (f + ((2 : Nat) : Int)) + wday (f + ((3 : Nat) : Int)) + wday (f + ((4 : Nat) : Int)) + wday (f + ((5 : Nat) : Int)) + wday (f + ((6 : Nat) : Int)) = 5
  obtain ⟨q, r, hr, hf⟩ : ∃ q r : Int, (0 ≤ r ∧ r < 7) ∧ f = 7 * q + r := ⟨f / 7, f % 7, by omega, by omega⟩
  have key : ∀ j : Int, wday (f + j) = wday (r + j) := fun j => by
    unfold wday
    rw [show (f + j + 5) % 7 = (r + j + 5) % 7 by omega]
  simp only [key]
  have : r = 0 ∨ r = 1 ∨ r = 2 ∨ r = 3 ∨ r = 4 ∨ r = 5 ∨ r = 6 := by omega
  rcases this with rfl | rfl | rfl | rfl | rfl | rfl | rfl <;> decide
theorem wcnt_weeks (f : Int) : ∀ k : Nat, wcnt f (7 * k) = 5 * k
  | 0 => rfl
  | k + 1 => by
    rw [show 7 * (k + 1) = 7 * k + 7 by omega, wcnt_add, wcnt_weeks f k, wcnt_7]; omega
theorem wcnt_rest (f : Int) (r : Nat) (h : r ≤ 7) : (r : Int) - 2 ≤ wcnt f r := by
  have h1 := wcnt_add f r (7 - r)
  rw [show r + (7 - r) = 7 by omega, wcnt_7] at h1
  have := wcnt_bd (f + r) (7 - r)
  omega
theorem wcnt_least (f : Int) (n : Nat) : 7 * wcnt f n ≥ 5 * n - 12 := by
  have h1 := wcnt_add f (7 * (n / 7)) (n % 7)
  rw [show 7 * (n / 7) + n % 7 = n by omega, wcnt_weeks] at h1
  have h2 := wcnt_rest (f + ((7 * (n / 7) : Nat) : Int)) (n % 7) (by omega)
  have h3 := wcnt_bd (f + ((7 * (n / 7) : Nat) : Int)) (n % 7)
  omega
theorem dig_toNat {d : Nat} (h : d < 10) : (UInt8.ofNat (48 + d)).toNat = 48 + d := by
  rw [UInt8.toNat_ofNat']; omega
theorem decDigits_dig (u : Nat) : ∀ c, c ∈ Lib.decDigits u → 48 ≤ c.toNat ∧ c.toNat ≤ 57 := by
  induction u using Nat.strongRecOn with
  | _ u ih =>
    intro c hc
    rw [Lib.decDigits] at hc
    split at hc
    · rename_i h
      simp only [List.mem_singleton] at hc
      rw [hc, dig_toNat h]; omega
    · rename_i h
      rcases List.mem_append.1 hc with h1 | h1
      · exact ih (u / 10) (by omega) c h1
      · simp only [List.mem_singleton] at h1
        rw [h1, dig_toNat (by omega)]; omega
theorem decDigits_len : ∀ (k u : Nat), u < 10 ^ (k + 1) → (Lib.decDigits u).length ≤ k + 1 ∧ 1 ≤ (Lib.decDigits u).length
  | 0, u, h => by
    rw [Lib.decDigits, dif_pos (by simpa using h)]; simp
  | k + 1, u, h => by
    rw [Lib.decDigits]
    split
    · simp
    · have hq : u / 10 < 10 ^ (k + 1) := by
        have : 10 ^ (k + 1 + 1) = 10 ^ (k + 1) * 10 := Nat.pow_succ ..
        omega
      have := decDigits_len k (u / 10) hq
      simp only [List.length_append, List.length_singleton]
      omega
theorem itoa_pos (u : Nat) : Lib.itoa (u : Int) = Lib.decDigits u := by unfold Lib.itoa; rw [if_neg (by omega)]; simp
theorem digit_of {c : UInt8} (h : 48 ≤ c.toNat ∧ c.toNat ≤ 57) : digit c = true := by
  simp only [digit, Bool.and_eq_true, decide_eq_true_eq]; omega
theorem digsGo_app : ∀ (a b : List UInt8) (n m : Int), digsGo a n = (m, true) → digsGo (a ++ b) n = digsGo b m
  | [], b, n, m, h => by simp [digsGo] at h; subst h; rfl
  | c :: a, b, n, m, h => by
    rw [List.cons_append, digsGo]
    rw [digsGo] at h
    by_cases hd : digit c = true
    · rw [if_pos hd] at h ⊢
      exact digsGo_app a b _ m h
    · rw [if_neg hd] at h; simp at h
theorem digsGo_dec (u : Nat) : digsGo (Lib.decDigits u) 0 = ((u : Int), true) := by
  induction u using Nat.strongRecOn with
  | _ u ih =>
    rw [Lib.decDigits]
    split
    · rename_i h
      have ht := dig_toNat h
      simp only [digsGo, digit_of (show 48 ≤ (UInt8.ofNat (48 + u)).toNat ∧ (UInt8.ofNat (48 + u)).toNat ≤ 57 by omega), if_true, ht]
      congr 1; omega
    · rename_i h
      have ht := dig_toNat (d := u % 10) (by omega)
      rw [digsGo_app _ _ 0 _ (ih (u / 10) (by omega))]
      simp only [digsGo, digit_of (show 48 ≤ (UInt8.ofNat (48 + u % 10)).toNat ∧ (UInt8.ofNat (48 + u % 10)).toNat ≤ 57 by omega), if_true, ht]
      congr 1; omega
theorem digsGo_zeros (r : List UInt8) : ∀ k, digsGo (Lib.repeatL [48] k ++ r) 0 = digsGo r 0
  | 0 => rfl
  | k + 1 => by
    have ih := digsGo_zeros r k
    show digsGo (48 :: (Lib.repeatL [48] k ++ r)) 0 = _
    have hd : digit 48 = true := by decide
    rw [digsGo, if_pos hd]
    exact ih
theorem repeat48 : ∀ k, ∀ c, c ∈ Lib.repeatL [48] k → c = 48
  | 0, c, h => by simp [Lib.repeatL] at h
  | k + 1, c, h => by
    have h : c ∈ 48 :: Lib.repeatL [48] k := h
    rcases List.mem_cons.1 h with h | h
    · exact h
    · exact repeat48 k c h
theorem padP_dig (u d : Nat) : ∀ c, c ∈ padP (u : Int) d → 48 ≤ c.toNat ∧ c.toNat ≤ 57 := by
  intro c hc
  unfold padP at hc
  rcases List.mem_append.1 hc with h | h
  · rw [repeat48 _ c h]; decide
  · rw [itoa_pos] at h; exact decDigits_dig u c h
theorem padP_len (u d : Nat) : (padP (u : Int) d).length = max d (Lib.itoa (u : Int)).length := by
  unfold padP
  rw [List.length_append, Lib.repeatL_length]
  simp only [List.length_singleton]
  omega
theorem digs_pad (u d : Nat) (hu : u < 10 ^ 11) (hd : d ≤ 18) : digs (padP (u : Int) d) = ((u : Int), true) := by
  have hl := padP_len u d
  have hi := decDigits_len 10 u hu
  rw [← itoa_pos] at hi
  have h1 : padP (u : Int) d ≠ [] := fun e => by rw [e] at hl; simp at hl; omega
  have h2 : ¬ (padP (u : Int) d).length > 18 := by omega
  unfold digs
  rw [if_neg h1, if_neg h2]
  unfold padP
  rw [digsGo_zeros, itoa_pos, digsGo_dec]
theorem digs_itoa (u : Nat) (hu : u < 10 ^ 11) : digs (Lib.itoa (u : Int)) = ((u : Int), true) := by
  have hi := decDigits_len 10 u hu
  rw [← itoa_pos] at hi
  have h1 : Lib.itoa (u : Int) ≠ [] := fun e => by rw [e] at hi; simp at hi
  have h2 : ¬ (Lib.itoa (u : Int)).length > 18 := by omega
  unfold digs
  rw [if_neg h1, if_neg h2, itoa_pos, digsGo_dec]
theorem not_mem_dig {a : List UInt8} (h : ∀ c, c ∈ a → 48 ≤ c.toNat ∧ c.toNat ≤ 57) {c : UInt8} (hc : c.toNat < 48 ∨ 57 < c.toNat) : c ∉ a := fun e => by
  have := h c e; omega
theorem impl_pairOf_ok (a b : List UInt8) (x y : Int) (ha : (58 : UInt8) ∉ a) (h1 : digs a = (x, true)) (h2 : digs b = (y, true)) (hx : x ≤ 1000000000) (hy : y ≤ 1000000000) (hl : a.length + b.length < 1000000) :
    impl_pairOf (a ++ 58 :: b) = some (x, y, true) := by
  have hl2 : (a ++ 58 :: b).length < 4294967281 := by simp; omega
  rw [impl_pairOf_eq, strings_Cut_eq]
  simp only [hl2, decide_true, if_true, cut1_at b ha, Option.bind_some, impl_digitsOf_ok, h1, h2, hx, hy]
theorem impl_pairOf_nil : impl_pairOf [] = some (0, 0, false) := by
  have hc : Lib.cut [] [58] = ([], [], false) := by decide
  have hd : digs [] = (0, false) := rfl
  rw [impl_pairOf_eq, strings_Cut_eq]
  simp [hc, impl_digitsOf_ok, hd]
theorem impl_ClockText_ok (n : Int) (h : 0 ≤ n ∧ n ≤ 1439) : impl_ClockText n = some (padP ((n.toNat / 60 : Nat) : Int) 2 ++ 58 :: padP ((n.toNat % 60 : Nat) : Int) 2) := by
  obtain ⟨m, rfl⟩ : ∃ m : Nat, n = m := ⟨n.toNat, by omega⟩
  have e1 : (m : Int).tdiv 60 = ((m / 60 : Nat) : Int) := by rw [tdiv_nonneg_eq (by omega)]; omega
  have e2 : (m : Int).tmod 60 = ((m % 60 : Nat) : Int) := by rw [tmod_nonneg_eq (by omega)]; omega
  have l1 := pad_two (m / 60) (by omega)
  have l2 := pad_two (m % 60) (by omega)
  have p1 := impl_padded_ok ((m / 60 : Nat) : Int) 2 (by omega) (by omega) (by omega)
  have p2 := impl_padded_ok ((m % 60 : Nat) : Int) 2 (by omega) (by omega) (by omega)
  rw [show ((2 : Nat) : Int) = 2 by rfl] at p1 p2
  rw [impl_ClockText_eq, impl_within_ok, show inR (m : Int) 0 1439 = true from inR_iff'.2 h, e1, e2, w64 (n := ((m / 60 : Nat) : Int)) (by omega) (by omega), p1, p2, Int.toNat_natCast]
  simp only [Option.bind_some, Bool.not_true, Bool.false_eq_true, if_false, List.length_append, List.length_cons, List.length_nil, l1.2.1, l2.2.1, strMax_eq]
  simp
theorem impl_ClockText_out (n : Int) (h : inR n 0 1439 = false) : impl_ClockText n = some [] := by
  rw [impl_ClockText_eq, impl_within_ok, h]; rfl
theorem impl_ReadClock_ok (n : Int) (h : 0 ≤ n ∧ n ≤ 1439) : impl_ReadClock (padP ((n.toNat / 60 : Nat) : Int) 2 ++ 58 :: padP ((n.toNat % 60 : Nat) : Int) 2) = some (n, true) := by
  have l1 := pad_two (n.toNat / 60) (by omega)
  have l2 := pad_two (n.toNat % 60) (by omega)
  have hp := impl_pairOf_ok _ _ _ _ l1.2.2.2.1 l1.2.2.2.2 l2.2.2.2.2 (by omega) (by omega) (by omega)
  have ht := impl_ClockText_ok n h
  rw [impl_ReadClock_eq, hp]
  simp only [Option.bind_some, if_true]
  rw [w64 (n := 60 * ((n.toNat / 60 : Nat) : Int)) (by omega) (by omega), w64 (by omega) (by omega), show 60 * ((n.toNat / 60 : Nat) : Int) + ((n.toNat % 60 : Nat) : Int) = n by omega, ht]
  simp
theorem impl_ReadClock_nil : impl_ReadClock [] = some (0, false) := by
  rw [impl_ReadClock_eq, impl_pairOf_nil]; rfl
theorem impl_LapText_ok (n : Int) (h : 0 ≤ n ∧ n ≤ 1000000000) : impl_LapText n = some (Lib.itoa ((n.toNat / 60 : Nat) : Int) ++ 58 :: padP ((n.toNat % 60 : Nat) : Int) 2) := by
  obtain ⟨m, rfl⟩ : ∃ m : Nat, n = m := ⟨n.toNat, by omega⟩
  have e1 : (m : Int).tdiv 60 = ((m / 60 : Nat) : Int) := by rw [tdiv_nonneg_eq (by omega)]; omega
  have e2 : (m : Int).tmod 60 = ((m % 60 : Nat) : Int) := by rw [tmod_nonneg_eq (by omega)]; omega
  have l1 := decDigits_len 10 (m / 60) (by omega)
  rw [← itoa_pos] at l1
  have l2 := pad_two (m % 60) (by omega)
  have p2 := impl_padded_ok ((m % 60 : Nat) : Int) 2 (by omega) (by omega) (by omega)
  rw [show ((2 : Nat) : Int) = 2 by rfl] at p2
  have ed := impl_Decimal_ok ((m / 60 : Nat) : Int) (by omega)
  rw [impl_LapText_eq, impl_within_ok, show inR (m : Int) 0 1000000000 = true from inR_iff'.2 h, e1, e2, w64 (n := ((m / 60 : Nat) : Int)) (by omega) (by omega), ed, p2, Int.toNat_natCast]
  have l2' := l2.2.1
  clear ed p2 l2
  generalize Lib.itoa ((m / 60 : Nat) : Int) = a at l1 ⊢
  generalize padP ((m % 60 : Nat) : Int) 2 = b at l2' ⊢
  have c1 : a.length + ([58] : List Nat).length ≤ strMax := by rw [strMax_eq, List.length_singleton]; omega
  have c2 : (a ++ [58]).length + b.length ≤ strMax := by rw [strMax_eq, List.length_append, List.length_singleton]; omega
  simp only [Option.bind_some, Bool.not_true, Bool.false_eq_true, if_false, c1, c2, decide_true, if_true]
  simp
theorem impl_LapText_out (n : Int) (h : inR n 0 1000000000 = false) : impl_LapText n = some [] := by
  rw [impl_LapText_eq, impl_within_ok, h]; rfl
theorem impl_ReadLap_ok (n : Int) (h : 0 ≤ n ∧ n ≤ 1000000000) : impl_ReadLap (Lib.itoa ((n.toNat / 60 : Nat) : Int) ++ 58 :: padP ((n.toNat % 60 : Nat) : Int) 2) = some (n, true) := by
  have l1 := decDigits_len 10 (n.toNat / 60) (by omega)
  have d1 := decDigits_dig (n.toNat / 60)
  rw [← itoa_pos] at l1 d1
  have l2 := pad_two (n.toNat % 60) (by omega)
  have hp := impl_pairOf_ok _ _ _ _ (not_mem_dig d1 (.inr (by decide))) (digs_itoa (n.toNat / 60) (by omega)) l2.2.2.2.2 (by omega) (by omega) (by omega)
  have ht := impl_LapText_ok n h
  rw [impl_ReadLap_eq, hp]
  simp only [Option.bind_some, if_true]
  rw [w64 (n := 60 * ((n.toNat / 60 : Nat) : Int)) (by omega) (by omega), w64 (by omega) (by omega), show 60 * ((n.toNat / 60 : Nat) : Int) + ((n.toNat % 60 : Nat) : Int) = n by omega, ht]
  simp
theorem impl_ReadLap_nil : impl_ReadLap [] = some (0, false) := by
  rw [impl_ReadLap_eq, impl_pairOf_nil]; rfl
/-- A number with places. -/
def fixP (n : Int) (p : Nat) : List UInt8 :=
  let d := padP ((n.natAbs : Nat) : Int) (p + 1)
  let t := d.take (d.length - p) ++ 46 :: d.drop (d.length - p)
  if n < 0 then 45 :: t else t
theorem impl_FixedText_ok (n : Int) (p : Nat) (hn : -1000000000 ≤ n ∧ n ≤ 1000000000) (hp : 1 ≤ p ∧ p ≤ 6) : impl_FixedText n p = some (fixP n p) := by
  have hm : (if IntKind.i64.wrap (0 - n) > n then IntKind.i64.wrap (0 - n) else n) = ((n.natAbs : Nat) : Int) := by rw [w64 (by omega) (by omega)]; split <;> omega
  have l1 := decDigits_len 10 n.natAbs (by omega)
  rw [← itoa_pos] at l1
  have hl := padP_len n.natAbs (p + 1)
  have hpd := impl_padded_ok ((n.natAbs : Nat) : Int) (p + 1) (by omega) (by omega) (by omega)
  rw [show (((p + 1 : Nat)) : Int) = (p : Int) + 1 by omega] at hpd
  rw [impl_FixedText_eq, impl_within_ok, show inR n (-1000000000) 1000000000 = true from inR_iff'.2 hn, impl_within_ok, show inR (p : Int) 1 6 = true from inR_iff'.2 (by omega)]
  simp only [Option.bind_some, Bool.not_true, Bool.false_eq_true, if_false, impl_FixedText_p0_eq, hm, w64 (n := (p : Int) + 1) (by omega) (by omega), hpd]
  unfold fixP
  generalize padP ((n.natAbs : Nat) : Int) (p + 1) = d at hl ⊢
  have hw : IntKind.i64.wrap ((d.length : Int) - (p : Int)) = ((d.length - p : Nat) : Int) := by rw [w64 (by omega) (by omega)]; omega
  have c1 : (0 : Int) ≤ ((d.length - p : Nat) : Int) := by omega
  have c2 : ((d.length - p : Nat) : Int) ≤ (d.length : Int) := by omega
  have c3 : (d.take (d.length - p)).length + ([46] : List Nat).length ≤ strMax := by rw [strMax_eq, List.length_take]; simp; omega
  have c4 : ((d.take (d.length - p)) ++ [46]).length + (d.drop (d.length - p)).length ≤ strMax := by rw [strMax_eq, List.length_append, List.length_take, List.length_drop]; simp; omega
  have c5 : ([45] : List Nat).length + (((d.take (d.length - p)) ++ [46]) ++ (d.drop (d.length - p))).length ≤ strMax := by rw [strMax_eq, List.length_append, List.length_append, List.length_take, List.length_drop]; simp; omega
  rw [hw, Int.toNat_natCast]
  simp only
  generalize d.take (d.length - p) = A at c3 c4 c5 ⊢
  generalize d.drop (d.length - p) = B at c4 c5 ⊢
  simp only [c1, c2, decide_true, Bool.and_self, if_true, c3, c4, c5, decide_eq_true_eq]
  by_cases h : n < 0
  · simp only [h, if_true]; simp
  · simp only [h, if_false]; simp
theorem impl_FixedText_out (n p : Int) (h : ¬ (inR n (-1000000000) 1000000000 = true ∧ inR p 1 6 = true)) : impl_FixedText n p = some [] := by
  rw [impl_FixedText_eq, impl_within_ok, impl_within_ok]
  cases h1 : inR n (-1000000000) 1000000000
  · rfl
  cases h2 : inR p 1 6
  · rfl
  exact absurd ⟨h1, h2⟩ h
theorem fixP_ne (n : Int) (p : Nat) : fixP n p ≠ [] := by
  unfold fixP
  intro e
  by_cases h : n < 0
  · simp [h] at e
  · simp [h] at e
theorem impl_ReadFixed_ok (n : Int) (p : Nat) (hn : -1000000000 ≤ n ∧ n ≤ 1000000000) (hp : 1 ≤ p ∧ p ≤ 6) : impl_ReadFixed (fixP n p) p = some (n, true) := by
  have ht := impl_FixedText_ok n p hn hp
  have l1 := decDigits_len 10 n.natAbs (by omega)
  rw [← itoa_pos] at l1
  have hl := padP_len n.natAbs (p + 1)
  have hd := padP_dig n.natAbs (p + 1)
  have hg := digs_pad n.natAbs (p + 1) (by omega) (by omega)
  generalize hs : fixP n p = s at ht ⊢
  unfold fixP at hs
  generalize padP ((n.natAbs : Nat) : Int) (p + 1) = d at hl hd hg hs
  have hda : ∀ c, c ∈ d.take (d.length - p) → 48 ≤ c.toNat ∧ c.toNat ≤ 57 := fun c hc => hd c (List.mem_of_mem_take hc)
  have h46 : (46 : UInt8) ∉ d.take (d.length - p) := not_mem_dig hda (.inl (by decide))
  have hjoin : d.take (d.length - p) ++ d.drop (d.length - p) = d := List.take_append_drop _ _
  have hlen : (d.take (d.length - p) ++ 46 :: d.drop (d.length - p)).length < 4294967281 := by
    rw [List.length_append, List.length_cons, List.length_take, List.length_drop]; omega
  have hstr : (d.take (d.length - p)).length + (d.drop (d.length - p)).length ≤ strMax := by
    rw [strMax_eq, List.length_take, List.length_drop]; omega
  have htp : Lib.trimPrefix s [45] = d.take (d.length - p) ++ 46 :: d.drop (d.length - p) ∧ Lib.hasPrefix s [45] = decide (n < 0) := by
    rw [← hs]
    by_cases h : n < 0
    · simp [h, Lib.trimPrefix, Lib.hasPrefix, List.isPrefixOf]
    · simp only [h, if_false, decide_false]
      have hpre : Lib.hasPrefix (d.take (d.length - p) ++ 46 :: d.drop (d.length - p)) [45] = false := by
        cases he : d.take (d.length - p) with
        | nil => rfl
        | cons c r =>
          have := hda c (by rw [he]; simp)
          have hc : ((45 : UInt8) == c) = false := by
            rw [beq_eq_false_iff_ne]; intro e; rw [← e] at this; revert this; decide
          simp [Lib.hasPrefix, List.isPrefixOf, hc]
      exact ⟨by unfold Lib.trimPrefix; rw [hpre]; rfl, hpre⟩
  rw [impl_ReadFixed_eq, strings_TrimPrefix_eq, htp.1]
  simp only [Option.bind_some, strings_Cut_eq, hlen, decide_true, if_true, cut1_at _ h46, hstr, hjoin, impl_digitsOf_ok, hg, strings_HasPrefix_eq, htp.2, decide_eq_true_eq]
  by_cases h : n < 0
  · have e : IntKind.i64.wrap (0 - ((n.natAbs : Nat) : Int)) = n := by rw [w64 (by omega) (by omega)]; omega
    simp only [h, if_true, e, impl_ReadFixed_p0_eq, ht]
    simp
  · have e : ((n.natAbs : Nat) : Int) = n := by omega
    simp only [h, if_false, e, impl_ReadFixed_p0_eq, ht]
    simp
theorem impl_ReadFixed_nil (p : Int) : impl_ReadFixed [] p = some (0, false) := by
  have h1 : Lib.trimPrefix [] [45] = [] := by decide
  have h2 : Lib.cut [] [46] = ([], [], false) := by decide
  have h3 : Lib.hasPrefix [] [45] = false := by decide
  have h4 : digs [] = (0, false) := rfl
  rw [impl_ReadFixed_eq, strings_TrimPrefix_eq, h1]
  simp [strings_Cut_eq, h2, impl_digitsOf_ok, h4, strings_HasPrefix_eq, h3, impl_ReadFixed_p0_eq]
theorem impl_LengthText_ok (n : Int) (hn : 0 ≤ n ∧ n ≤ 1000000000) : impl_LengthText n = some (fixP n 1 ++ [32, 109, 109]) := by
  have h := impl_FixedText_ok n 1 (by omega) (by omega)
  rw [show ((1 : Nat) : Int) = 1 by rfl] at h
  have l1 := decDigits_len 10 n.natAbs (by omega)
  rw [← itoa_pos] at l1
  have hl := padP_len n.natAbs (1 + 1)
  have c : (fixP n 1).length + ([32, 109, 109] : List Nat).length ≤ strMax := by
    unfold fixP
    rw [if_neg (by omega)]
    simp only [List.length_append, List.length_cons, List.length_take, List.length_drop, List.length_nil, hl, strMax_eq]
    omega
  rw [impl_LengthText_eq, impl_within_ok, show inR n 0 1000000000 = true from inR_iff'.2 hn, h]
  have c' : (fixP n 1).length + 3 ≤ strMax := c
  simp [c']
theorem impl_LengthText_out (n : Int) (h : inR n 0 1000000000 = false) : impl_LengthText n = some [] := by
  rw [impl_LengthText_eq, impl_within_ok, h]; rfl
theorem suffix_app (a b : List UInt8) : Lib.hasSuffix (a ++ b) b = true ∧ Lib.trimSuffix (a ++ b) b = a := by
  have h : Lib.hasSuffix (a ++ b) b = true := by unfold Lib.hasSuffix; exact List.isSuffixOf_iff_suffix.2 ⟨a, rfl⟩
  refine ⟨h, ?_⟩
  unfold Lib.trimSuffix
  rw [if_pos h]
  simp
theorem impl_ReadLength_ok (n : Int) (hn : 0 ≤ n ∧ n ≤ 1000000000) : impl_ReadLength (fixP n 1 ++ [32, 109, 109]) = some (n, true) := by
  have h := impl_ReadFixed_ok n 1 (by omega) (by omega)
  rw [show ((1 : Nat) : Int) = 1 by rfl] at h
  have l1 := decDigits_len 10 n.natAbs (by omega)
  rw [← itoa_pos] at l1
  have hl := padP_len n.natAbs (1 + 1)
  have c : (fixP n 1 ++ [32, 109, 109]).length ≤ 9223372036854775807 := by
    unfold fixP
    rw [if_neg (by omega)]
    simp only [List.length_append, List.length_cons, List.length_take, List.length_drop, List.length_nil, hl]
    omega
  have hs := suffix_app (fixP n 1) [32, 109, 109]
  have h0 : ¬ n < 0 := by omega
  rw [impl_ReadLength_eq, strings_CutSuffix_eq]
  simp only [c, decide_true, if_true, hs.1, hs.2, Option.bind_some, h, Bool.not_true, Bool.false_eq_true, if_false, h0, decide_false]
theorem impl_ReadLength_nil : impl_ReadLength [] = some (0, false) := by
  have h1 : Lib.hasSuffix [] [32, 109, 109] = false := by decide
  have h2 : Lib.trimSuffix [] [32, 109, 109] = [] := by decide
  rw [impl_ReadLength_eq, strings_CutSuffix_eq]
  simp [h1, h2, impl_ReadFixed_nil]
theorem spec_l02DrawMass_ok {s : T_l00Src.ty} {c : Int} (hs : SrcOk s c) (hc : c ≤ 100000000000000000) : ∃ (x : Int) (s' : T_l00Src.ty), spec_l02DrawMass s = some (x, s') ∧ SrcOk s' (c + 4) ∧ -1 ≤ x ∧ x ≤ 1000000001 := by
  obtain ⟨u, s1, e1, k1⟩ := one_ok hs (by omega) 9 (by omega)
  rw [spec_l02DrawMass_eq]
  simp only [e1, Option.bind_some, src_eta]
  cases u
  · obtain ⟨v, s2, e2, k2, b1, b2⟩ := pick_ok k1 (by omega) 9000 (by omega)
    simp only [Bool.false_eq_true, if_false, e2, Option.bind_some, src_eta]
    exact ⟨_, s2, rfl, k2.up (by omega), by omega, by omega⟩
  · obtain ⟨v, s2, e2, k2, b1⟩ := among_ok k1 (by omega) [(-1), 0, 1, 1000000000, 1000000001] (by decide) (by decide)
    simp only [if_true, e2, Option.bind_some, src_eta]
    refine ⟨_, s2, rfl, k2.up (by omega), ?_⟩
    simp only [List.mem_cons, List.not_mem_nil, or_false] at b1
    omega
theorem spec_l01Dec_p3_ok (l : List Int) (hl : l.length ≤ 1000) : ∀ (k : Nat) (r : List Int), k ≤ l.length → r.length + k ≤ 1000 → ∃ t, spec_l01Dec_p3 ((k : Int) - 1) l r = some t ∧ t.length = r.length + k
  | 0, r, hk, hr => by
    rw [spec_l01Dec_p3_eq]
    have : ¬ ((0 : Nat) : Int) - 1 ≥ 0 := by omega
    simp only [this, decide_false, Bool.false_eq_true, if_false, List.take_length]
    exact ⟨_, rfl, by simp⟩
  | k + 1, r, hk, hr => by
    rw [spec_l01Dec_p3_eq, show ((k + 1 : Nat) : Int) - 1 = (k : Int) by omega]
    have h1 : (k : Int) ≥ 0 := by omega
    have h2 : (0 : Int) ≤ (k : Int) := by omega
    have h3 : (k : Int) < (l.length : Int) := by omega
    have h4 : r.length + 1 < lim := by rw [lim_eq]; omega
    obtain ⟨t, e, ht⟩ := spec_l01Dec_p3_ok l hl k (r ++ [l[k]]) (by omega) (by simp; omega)
    simp only [h1, h2, h3, decide_true, Bool.and_self, if_true, Int.toNat_natCast, getElem?_lt (show k < l.length by omega), Option.bind_some, h4, List.take_length, w64 (n := (k : Int) - 1) (by omega) (by omega)]
    exact ⟨t, e, by rw [ht]; simp; omega⟩
theorem spec_l01Dec_p0_ok (n : Int) : ∀ (k : Nat) (v : Int) (r : List Int), 0 ≤ v → v ≤ 4611686018427387904 → v < 10 ^ k → 0 ≤ n → r.length + k ≤ 900 → ∃ t, spec_l01Dec_p0 n v r = some t ∧ t.length ≤ r.length + k
  | k, v, r, h0, hbig, hv, hn, hr => by
    by_cases hz : v = 0
    · rw [spec_l01Dec_p0_eq, hz]
      have hn0 : ¬ n < 0 := by omega
      obtain ⟨t, e, ht⟩ := spec_l01Dec_p3_ok r (by omega) r.length [] (by omega) (by simp; omega)
      simp only [bne_self_eq_false, Bool.false_eq_true, if_false, hn0, decide_false, spec_l01Dec_p2_eq, w64 (n := (r.length : Int) - 1) (by omega) (by omega)]
      exact ⟨t, e, by rw [ht]; simp⟩
    · match k, hv, hr with
      | 0, hv, hr => simp at hv; omega
      | k + 1, hv, hr =>
        have hz' : (v != 0) = true := by simpa using hz
        have hm : ¬ v.tmod 10 < 0 := by rw [tmod_nonneg_eq h0]; omega
        have h4 : r.length + 1 < lim := by rw [lim_eq]; omega
        have hp : (10 : Int) ^ (k + 1) = 10 ^ k * 10 := Int.pow_succ ..
        have hq : v.tdiv 10 = v / 10 := tdiv_nonneg_eq h0
        have hq2 : v / 10 < 10 ^ k := by omega
        obtain ⟨t, e, ht⟩ := spec_l01Dec_p0_ok n k (v / 10) (r ++ [IntKind.u8.wrap (IntKind.i64.wrap (48 + v.tmod 10))]) (by omega) (by omega) hq2 hn (by simp; omega)
        rw [spec_l01Dec_p0_eq]
        simp only [hz', if_true, hm, decide_false, Bool.false_eq_true, if_false, spec_l01Dec_p1_eq, h4, decide_true, List.take_length, hq, w64 (n := v / 10) (by omega) (by omega)]
        exact ⟨t, e, by rw [List.length_append, List.length_singleton] at ht; omega⟩
theorem spec_l01Dec_tot (n : Int) (h : 0 ≤ n ∧ n ≤ 1000000000) : ∃ t, spec_l01Dec n = some t ∧ t.length ≤ 20 := by
  rw [spec_l01Dec_eq]
  by_cases hz : n = 0
  · subst hz; exact ⟨[48], rfl, by decide⟩
  · have hz' : (n == 0) = false := by simpa using hz
    have h20 : (10 : Int) ^ 20 = 100000000000000000000 := by decide
    obtain ⟨t, e, ht⟩ := spec_l01Dec_p0_ok n 20 n [] h.1 (by omega) (by omega) h.1 (by simp)
    simp only [hz', Bool.false_eq_true, if_false]
    exact ⟨t, e, by simpa using ht⟩
theorem spec_LapText_ok (n : Int) (h : 0 ≤ n ∧ n ≤ 1000000000) : ∃ t, spec_LapText n = some t ∧ t ≠ [] := by
  have e1 : n.tmod 60 = n % 60 := tmod_nonneg_eq h.1
  have e2 : n.tdiv 60 = n / 60 := tdiv_nonneg_eq h.1
  obtain ⟨a, ea, la⟩ := spec_l01Dec_tot (n % 60) (by omega)
  obtain ⟨b, eb, lb⟩ := spec_l01Dec_tot (n / 60) (by omega)
  have hp : ∀ v : List UInt8, v.length ≤ 30 → ∃ t, spec_l02Lap_p0 n v = some t ∧ t ≠ [] := fun v hv => by
    have c1 : b.length + 1 ≤ strMax := by rw [strMax_eq]; omega
    have c2 : b.length + 1 + v.length ≤ strMax := by rw [strMax_eq]; omega
    rw [spec_l02Lap_p0_eq, e2, w64 (n := n / 60) (by omega) (by omega), eb]
    refine ⟨b ++ [58] ++ v, ?_, by simp⟩
    simp [c1, c2]
  have c3 : 1 + a.length ≤ strMax := by rw [strMax_eq]; omega
  rw [spec_LapText_eq, spec_l02Mass_eq, spec_l00In_ok, show inR n 0 1000000000 = true from inR_iff'.2 h]
  simp only [Option.bind_some, Bool.not_true, Bool.false_eq_true, if_false]
  rw [spec_l02Lap_eq, e1, ea]
  simp only [Option.bind_some, decide_eq_true_eq]
  by_cases hs : (a.length : Int) < 2
  · obtain ⟨t, et, ht⟩ := hp ([48] ++ a) (by simp; omega)
    have c3' : ([48] : List Nat).length + a.length ≤ strMax := c3
    simp only [hs, if_true, c3', et, Option.bind_some]
    exact ⟨t, rfl, ht⟩
  · obtain ⟨t, et, ht⟩ := hp a (by omega)
    simp only [hs, if_false, et, Option.bind_some]
    exact ⟨t, rfl, ht⟩
theorem spec_LapText_out (n : Int) (h : inR n 0 1000000000 = false) : spec_LapText n = some [] := by
  rw [spec_LapText_eq, spec_l02Mass_eq, spec_l00In_ok, h]; rfl
def neckOk (x : T_Neck.ty) : Bool := inR x.1 100 10000 && (inR x.2.1 100 10000 && (inR x.2.2.1 0 500 && inR x.2.2.2.1 0 300))
theorem neckOk_iff {a b c d : Int} : neckOk (a, b, c, d, ()) = true ↔ (100 ≤ a ∧ a ≤ 10000) ∧ (100 ≤ b ∧ b ≤ 10000) ∧ (0 ≤ c ∧ c ≤ 500) ∧ (0 ≤ d ∧ d ≤ 300) := by
  simp [neckOk, inR]
def potOk (id : List UInt8) (dry water heat hours : Int) : Bool :=
  isName id && (inR dry 1 10000 && (inR water 1 10000 && (inR heat 20 95 && inR hours 0 1000)))
def potOpen (dry water heat room : Int) : Int := if rdivP (60 * water) dry + 2 * (room - 15) + heat - 60 > 0 then rdivP (60 * water) dry + 2 * (room - 15) + heat - 60 else 0
theorem inR_iff {n lo hi : Int} : inR n lo hi = true ↔ lo ≤ n ∧ n ≤ hi := by simp [inR]
theorem potOk_iff {id : List UInt8} {dry water heat hours : Int} : potOk id dry water heat hours = true ↔ isName id = true ∧ (1 ≤ dry ∧ dry ≤ 10000) ∧ (1 ≤ water ∧ water ≤ 10000) ∧ (20 ≤ heat ∧ heat ≤ 95) ∧ 0 ≤ hours ∧ hours ≤ 1000 := by
  simp [potOk, inR_iff]
theorem open_bounds {dry water : Int} (h1 : 1 ≤ dry) (h2 : 0 ≤ water ∧ water ≤ 100000) : 0 ≤ rdivP (60 * water) dry ∧ rdivP (60 * water) dry ≤ 6000001 := by
  have := rdivP_nonneg (a := 60 * water) (b := dry) (by omega) (by omega)
  have := rdivP_le (a := 60 * water) (b := dry) (by omega) (by omega)
  omega
theorem potOpen_bounds {dry water heat room : Int} (h1 : 1 ≤ dry) (h2 : 0 ≤ water ∧ water ≤ 100000) (h3 : 20 ≤ heat ∧ heat ≤ 95) (h4 : 0 ≤ room ∧ room ≤ 40) : 0 ≤ potOpen dry water heat room ∧ potOpen dry water heat room ≤ 7000000 := by
  have := open_bounds h1 h2
  unfold potOpen
  split <;> omega
def potOkT (x : T_Pot.ty) : Bool := potOk x.1 x.2.1 x.2.2.1 x.2.2.2.1 x.2.2.2.2.1
def potsOk (xs : List T_Pot.ty) : Bool := sortedChk potOkT (fun x => x.1) none xs && decide ((xs.length : Int) ≤ 8)
theorem potsOk_all {xs : List T_Pot.ty} (h : potsOk xs = true) (x : T_Pot.ty) (hx : x ∈ xs) : potOkT x = true := by
  simp only [potsOk, Bool.and_eq_true] at h
  exact sortedChk_all h.1 x hx
def potStrong (dry water heat hours : Int) : Int :=
  if rdivP (1000 * dry) (dry + water) - 2 * hours - 10 * (if heat - 70 > 0 then heat - 70 else 0) > 0 then rdivP (1000 * dry) (dry + water) - 2 * hours - 10 * (if heat - 70 > 0 then heat - 70 else 0) else 0
theorem strong_bounds {dry water heat hours : Int} (h1 : 1 ≤ dry ∧ dry ≤ 10000) (h2 : 1 ≤ water ∧ water ≤ 100000) (h3 : 20 ≤ heat ∧ heat ≤ 95) (h4 : 0 ≤ hours ∧ hours ≤ 100000) :
    0 ≤ rdivP (1000 * dry) (dry + water) ∧ rdivP (1000 * dry) (dry + water) ≤ 10000001 ∧ 0 ≤ potStrong dry water heat hours ∧ potStrong dry water heat hours ≤ 10000001 := by
  have := rdivP_nonneg (a := 1000 * dry) (b := dry + water) (by omega) (by omega)
  have := rdivP_le (a := 1000 * dry) (b := dry + water) (by omega) (by omega)
  refine ⟨by omega, by omega, ?_⟩
  unfold potStrong
  constructor <;> repeat' split
  all_goals omega
def potHolds (dry water heat hours pull area : Int) : Bool := decide (pull ≤ potStrong dry water heat hours * area / 100)
theorem holds_bounds {s area : Int} (h1 : 0 ≤ s ∧ s ≤ 10000001) (h2 : 1 ≤ area ∧ area ≤ 100000) : 0 ≤ s * area ∧ s * area ≤ 1000000100000 ∧ IntKind.i64.wrap ((IntKind.i64.wrap (s * area)).tdiv 100) = s * area / 100 := by
  have e1 : 0 ≤ s * area := Int.mul_nonneg h1.1 (by omega)
  have e2 : s * area ≤ 10000001 * 100000 := Int.mul_le_mul h1.2 h2.2 (by omega) (by omega)
  refine ⟨e1, by omega, ?_⟩
  rw [w64 (n := s * area) (by omega) (by omega), tdiv_nonneg_eq e1, w64 (by omega) (by omega)]
theorem potOpen_mono {dry water water' heat room : Int} (h1 : 1 ≤ dry) (h2 : 0 ≤ water) (h : water ≤ water') : potOpen dry water heat room ≤ potOpen dry water' heat room := by
  have := rdivP_mono (a := 60 * water) (a' := 60 * water') (b := dry) (by omega) (by omega) (by omega)
  unfold potOpen
  split <;> split <;> omega
/-- The tone of a note. -/
def nt (k : Nat) : Int := (([1308, 1386, 1468, 1556, 1648, 1746, 1850, 1960, 2077, 2200, 2331, 2469] : List Int)[k % 12]?.getD 0) * 2 ^ (k / 12)
theorem nt_bd : ∀ k, k ≤ 60 → 1000 ≤ nt k ∧ nt k ≤ 50000 := by decide +kernel
theorem nt_mono : ∀ k, k ≤ 60 → ∀ j, j < k → nt j < nt k := by decide +kernel
theorem nt_oct : ∀ k, k ≤ 48 → nt (k + 12) = 2 * nt k := by decide +kernel
theorem nt_inj {j k : Nat} (hj : j ≤ 60) (hk : k ≤ 60) (h : nt j = nt k) : j = k := by
  rcases Nat.lt_trichotomy j k with h1 | h1 | h1
  · have := nt_mono k hk j h1; omega
  · exact h1
  · have := nt_mono j hj k h1; omega
/-- What is left of a strength behind a cycle. -/
def fallP (loss s : Int) : Int := s - rdivP (s * loss) 1000
theorem fallP_bd {loss s : Int} (hl : 1 ≤ loss ∧ loss ≤ 500) (hs : 0 ≤ s ∧ s ≤ 1000000) : 0 ≤ fallP loss s ∧ fallP loss s ≤ s := by
  have h1 : 0 ≤ s * loss := Int.mul_nonneg (by omega) (by omega)
  have h2 : s * loss ≤ s * 500 := Int.mul_le_mul_of_nonneg_left hl.2 hs.1
  unfold fallP
  have h3 := rdivP_nonneg (a := s * loss) (b := 1000) h1 (by omega)
  have h4 := rdivP_err (a := s * loss) (b := 1000) (by omega)
  unfold absI at h4
  split at h4 <;> omega
theorem fall_mul {loss s : Int} (hl : 1 ≤ loss ∧ loss ≤ 500) (hs : 0 ≤ s ∧ s ≤ 1000000) : 0 ≤ s * loss ∧ s * loss ≤ 500000000 := by
  have h1 : 0 ≤ s * loss := Int.mul_nonneg (by omega) (by omega)
  have h2 : s * loss ≤ s * 500 := Int.mul_le_mul_of_nonneg_left hl.2 hs.1
  omega
def ring (loss : Int) : Nat → Int → Int
  | 0, s => s
  | n + 1, s => ring loss n (fallP loss s)
theorem ring_succ (loss : Int) : ∀ (n : Nat) (s : Int), ring loss (n + 1) s = fallP loss (ring loss n s)
  | 0, _ => rfl
  | n + 1, s => by show ring loss (n + 1) (fallP loss s) = _; rw [ring_succ loss n]; rfl
theorem ring_bd {loss : Int} (hl : 1 ≤ loss ∧ loss ≤ 500) : ∀ (n : Nat) {s : Int}, 0 ≤ s ∧ s ≤ 1000000 → 0 ≤ ring loss n s ∧ ring loss n s ≤ s
  | 0, s, h => ⟨h.1, Int.le_refl _⟩
  | n + 1, s, h => by
    have h1 := fallP_bd hl h
    have h2 := ring_bd hl n (s := fallP loss s) (by omega)
    show 0 ≤ ring loss n (fallP loss s) ∧ ring loss n (fallP loss s) ≤ s
    omega
theorem szOne {α : Type} (n : Nat) (f : α → Int → Option Int) (x : α) (hx : n ≤ 9223372036854775807) (l : Int) (h : f x l = if decide (IntKind.i64.wrap (l - (n : Int)) < 0) then some (-1) else some (IntKind.i64.wrap (l - (n : Int)))) (h0 : 0 ≤ l) (h1 : l ≤ 1048576) :
    ∃ r, f x l = some r ∧ r ≤ l ∧ (0 ≤ r → n ≤ 1048576) := by
  rw [h, w64 (n := l - n) (by omega) (by omega)]
  by_cases hn : l - (n : Int) < 0
  · simp only [hn, decide_true, if_true]; exact ⟨-1, rfl, by omega, fun h => by omega⟩
  · simp only [hn, decide_false, Bool.false_eq_true, if_false]; exact ⟨_, rfl, by omega, fun h => by omega⟩
theorem szTwo {α : Type} (n m : Nat) (f : α → Int → Option Int) (x : α) (hx : n ≤ 9223372036854775807) (hm : m ≤ 9223372036854775807) (l : Int) (h : f x l = if decide (IntKind.i64.wrap (l - (n : Int)) < 0) then some (-1) else if decide (IntKind.i64.wrap ((IntKind.i64.wrap (l - (n : Int))) - (m : Int)) < 0) then some (-1) else some (IntKind.i64.wrap ((IntKind.i64.wrap (l - (n : Int))) - (m : Int)))) (h0 : 0 ≤ l) (h1 : l ≤ 1048576) :
    ∃ r, f x l = some r ∧ r ≤ l ∧ (0 ≤ r → n ≤ 1048576 ∧ m ≤ 1048576) := by
  rw [h, w64 (n := l - n) (by omega) (by omega)]
  by_cases hn : l - (n : Int) < 0
  · simp only [hn, decide_true, if_true]; exact ⟨-1, rfl, by omega, fun h => by omega⟩
  simp only [hn, decide_false, Bool.false_eq_true, if_false]
  rw [w64 (n := l - n - m) (by omega) (by omega)]
  by_cases hn2 : l - (n : Int) - m < 0
  · simp only [hn2, decide_true, if_true]; exact ⟨-1, rfl, by omega, fun h => by omega⟩
  · simp only [hn2, decide_false, Bool.false_eq_true, if_false]; exact ⟨_, rfl, by omega, fun h => ⟨by omega, by omega⟩⟩
def stackOk (x : T_Peg.ty) : Bool := isName x.1 && (inR x.2.1 0 1000 && (inR x.2.2.1 10 1000 && (inR x.2.2.2.1 0 36524)))
def stacksOk (xs : List T_Peg.ty) : Bool := sortedChk stackOk (fun x => x.1) none xs && decide ((xs.length : Int) ≤ 12)
theorem stacksOk_all {xs : List T_Peg.ty} (h : stacksOk xs = true) (x : T_Peg.ty) (hx : x ∈ xs) : stackOk x = true := by
  simp only [stacksOk, Bool.and_eq_true] at h
  exact sortedChk_all h.1 x hx
def ribOk (x : T_Mode.ty) : Bool := isName x.1 && (inR x.2.1 1 10000 && (inR x.2.2.1 1 10000))
def ribsOk (xs : List T_Mode.ty) : Bool := sortedChk ribOk (fun x => x.1) none xs && decide ((xs.length : Int) ≤ 8)
theorem ribsOk_all {xs : List T_Mode.ty} (h : ribsOk xs = true) (x : T_Mode.ty) (hx : x ∈ xs) : ribOk x = true := by
  simp only [ribsOk, Bool.and_eq_true] at h
  exact sortedChk_all h.1 x hx
def pegOk (x : T_Peg.ty) : Bool := isName x.1 && (inR x.2.1 20 200 && (inR x.2.2.1 100 1000 && (inR x.2.2.2.1 10 100)))
def pegsOk (xs : List T_Peg.ty) : Bool := sortedChk pegOk (fun x => x.1) none xs && decide ((xs.length : Int) ≤ 8)
theorem pegsOk_all {xs : List T_Peg.ty} (h : pegsOk xs = true) (x : T_Peg.ty) (hx : x ∈ xs) : pegOk x = true := by
  simp only [pegsOk, Bool.and_eq_true] at h
  exact sortedChk_all h.1 x hx
def modeOk (x : T_Mode.ty) : Bool := isName x.1 && (inR x.2.1 1000 100000 && (inR x.2.2.1 1 500))
def modesOk (xs : List T_Mode.ty) : Bool := sortedChk modeOk (fun x => x.1) none xs && decide ((xs.length : Int) ≤ 10)
theorem modesOk_all {xs : List T_Mode.ty} (h : modesOk xs = true) (x : T_Mode.ty) (hx : x ∈ xs) : modeOk x = true := by
  simp only [modesOk, Bool.and_eq_true] at h
  exact sortedChk_all h.1 x hx
def workOk (x : T_Peg.ty) : Bool := isName x.1 && (inR x.2.1 1 40 && (inR x.2.2.1 0 39 && (inR x.2.2.2.1 0 39 && (decide (IntKind.i64.wrap ((IntKind.i64.wrap (x.2.2.1 + x.2.1)) - 1) ≤ x.2.2.2.1)))))
def worksOk (xs : List T_Peg.ty) : Bool := sortedChk workOk (fun x => x.1) none xs && decide ((xs.length : Int) ≤ 8)
theorem worksOk_all {xs : List T_Peg.ty} (h : worksOk xs = true) (x : T_Peg.ty) (hx : x ∈ xs) : workOk x = true := by
  simp only [worksOk, Bool.and_eq_true] at h
  exact sortedChk_all h.1 x hx
def paperOk (x : T_Paper.ty) : Bool := isName x.1 && (isName x.2.1 && (decide (1500 ≤ x.2.2.1) && (decide (x.2.2.1 ≤ x.2.2.2.1) && (decide (x.2.2.2.1 ≤ 2100) && inR x.2.2.2.2.1 1 1000))))
def papersOk (xs : List T_Paper.ty) : Bool := sortedChk paperOk (fun x => x.1) none xs && decide ((xs.length : Int) ≤ 12)
theorem papersOk_all {xs : List T_Paper.ty} (h : papersOk xs = true) (x : T_Paper.ty) (hx : x ∈ xs) : paperOk x = true := by
  simp only [papersOk, Bool.and_eq_true] at h
  exact sortedChk_all h.1 x hx
def thickRow (r : List Int) : Bool := r.all fun x => inR x 1 200
def plateOk (xs : List (List Int)) : Bool :=
  match xs with
  | [] => false
  | r0 :: _ => decide (xs.length ≤ 10) && (decide (1 ≤ r0.length ∧ r0.length ≤ 10) && xs.all fun r => decide (r.length = r0.length) && thickRow r)
/-- What the laws ask of a desk's sizes. -/
def deskSmall (x : T_Desk.ty) : Prop :=
  (List.length (α := T_Peg.ty) x.1 ≤ 1048576 ∧ ∀ y : T_Peg.ty, y ∈ x.1 → y.1.length ≤ 1048576) ∧
  (List.length (α := T_Mode.ty) x.2.1 ≤ 1048576 ∧ ∀ y : T_Mode.ty, y ∈ x.2.1 → y.1.length ≤ 1048576) ∧
  (List.length (α := List Int) x.2.2.1 ≤ 1048576 ∧ ∀ y : List Int, y ∈ x.2.2.1 → y.length ≤ 1048576) ∧
  (List.length (α := T_Peg.ty) x.2.2.2.2.2.2.2.1 ≤ 1048576 ∧ ∀ y : T_Peg.ty, y ∈ x.2.2.2.2.2.2.2.1 → y.1.length ≤ 1048576) ∧
  (List.length (α := T_Pot.ty) x.2.2.2.2.2.2.2.2.1 ≤ 1048576 ∧ ∀ y : T_Pot.ty, y ∈ x.2.2.2.2.2.2.2.2.1 → y.1.length ≤ 1048576) ∧
  (List.length (α := T_Mode.ty) x.2.2.2.2.2.2.2.2.2.1 ≤ 1048576 ∧ ∀ y : T_Mode.ty, y ∈ x.2.2.2.2.2.2.2.2.2.1 → y.1.length ≤ 1048576) ∧
  (List.length (α := T_Peg.ty) x.2.2.2.2.2.2.2.2.2.2.1 ≤ 1048576 ∧ ∀ y : T_Peg.ty, y ∈ x.2.2.2.2.2.2.2.2.2.2.1 → y.1.length ≤ 1048576) ∧
  (List.length (α := T_Paper.ty) x.2.2.2.2.2.2.2.2.2.2.2.1 ≤ 1048576 ∧ ∀ y : T_Paper.ty, y ∈ x.2.2.2.2.2.2.2.2.2.2.2.1 → y.1.length ≤ 1048576 ∧ y.2.1.length ≤ 1048576)
def deskOk (x : T_Desk.ty) : Bool :=
  stacksOk x.1 && (ribsOk x.2.1 && (plateOk x.2.2.1 && (neckOk (x.2.2.2.1, x.2.2.2.2.1, x.2.2.2.2.2.1, x.2.2.2.2.2.2.1, ()) && (pegsOk x.2.2.2.2.2.2.2.1 && (potsOk x.2.2.2.2.2.2.2.2.1 && (modesOk x.2.2.2.2.2.2.2.2.2.1 && (worksOk x.2.2.2.2.2.2.2.2.2.2.1 && papersOk x.2.2.2.2.2.2.2.2.2.2.2.1)))))))
theorem wf_str {α : Type} {t : ET} {f : t.ty → List UInt8} {xs : List t.ty} (h : CT.wf (.sl t) xs) (hf : ∀ x, t.wf x → (f x).length ≤ Go.maxLen) : xs.length ≤ 9223372036854775807 ∧ ∀ x, x ∈ xs → (f x).length ≤ 9223372036854775807 := by
  rw [← maxLen_eq]
  exact ⟨h.1, fun x hx => hf x (h.2 x hx)⟩
def lineP (x0 y0 x1 y1 h : Int) : Int := if h ≤ x0 then y0 else if x1 ≤ x0 then y0 else if h ≥ x1 then y1 else y0 + rdivP ((y1 - y0) * (h - x0)) (x1 - x0)
/-- The even moisture for a humidity. -/
def evenP (h : Int) : Int := if h ≤ 300 then lineP 0 0 300 60 h else if h ≤ 600 then lineP 300 60 600 110 h else if h ≤ 800 then lineP 600 110 800 160 h else lineP 800 160 1000 280 h
theorem evenP_bd {h : Int} (hh : 0 ≤ h ∧ h ≤ 1000) : 0 ≤ evenP h ∧ evenP h ≤ 280 := by
  unfold evenP lineP rdivP
  repeat' split
  all_goals omega
/-- By how much a moisture changes on a day. -/
def chg (e t m : Int) : Int := rdivP (20 * (e - m)) (t + 20)
def stp (e t m : Int) : Int := m + chg e t m
/-- A moisture after some days. -/
def aft (e t : Int) : Nat → Int → Int
  | 0, m => m
  | n + 1, m => aft e t n (stp e t m)
theorem aft_succ (e t : Int) : ∀ (n : Nat) (m : Int), aft e t (n + 1) m = stp e t (aft e t n m)
  | 0, _ => rfl
  | n + 1, m => by show aft e t (n + 1) (stp e t m) = _; rw [aft_succ e t n]; rfl
theorem rdiv20 {T d : Int} (hT : 30 ≤ T) (hd : 0 ≤ d) : 0 ≤ rdivP (20 * d) T ∧ rdivP (20 * d) T ≤ d := by
  refine ⟨rdivP_nonneg (by omega) (by omega), ?_⟩
  have hm : 30 * d ≤ T * d := Int.mul_le_mul_of_nonneg_right hT hd
  have h1 := rdivP_err (a := 20 * d) (b := T) (by omega)
  generalize hq : rdivP (20 * d) T = q at h1 ⊢
  by_cases hc : q ≤ d
  · exact hc
  · have h2 : (d + 1) * T ≤ q * T := Int.mul_le_mul_of_nonneg_right (by omega) (by omega)
    rw [Int.add_mul, Int.mul_comm d T] at h2
    unfold absI at h1
    split at h1 <;> omega
theorem rdiv20n {T d : Int} (hT : 30 ≤ T) (hd : d ≤ 0) : d ≤ rdivP (20 * d) T ∧ rdivP (20 * d) T ≤ 0 := by
  by_cases h0 : d = 0
  · subst h0
    have := rdiv20 (d := 0) hT (by omega)
    omega
  · have h1 := rdiv20 (d := -d) hT (by omega)
    have h2 := rdivP_neg (a := 20 * -d) (b := T) (by omega) (by omega)
    rw [show -(20 * -d) = 20 * d by omega] at h2
    omega
theorem chg_up {e t m : Int} (ht : 10 ≤ t) (h : m ≤ e) : 0 ≤ chg e t m ∧ chg e t m ≤ e - m := rdiv20 (by omega) (by omega)
theorem chg_dn {e t m : Int} (ht : 10 ≤ t) (h : e ≤ m) : e - m ≤ chg e t m ∧ chg e t m ≤ 0 := rdiv20n (by omega) (by omega)
theorem aft_up {e t : Int} (ht : 10 ≤ t) : ∀ (n : Nat) {m : Int}, m ≤ e → m ≤ aft e t n m ∧ aft e t n m ≤ e
  | 0, m, h => ⟨Int.le_refl _, h⟩
  | n + 1, m, h => by
    have h1 := chg_up ht h
    have h2 := aft_up (e := e) ht n (m := stp e t m) (by unfold stp; omega)
    show m ≤ aft e t n (stp e t m) ∧ _
    unfold stp at h2 ⊢
    exact ⟨by omega, h2.2⟩
theorem aft_dn {e t : Int} (ht : 10 ≤ t) : ∀ (n : Nat) {m : Int}, e ≤ m → e ≤ aft e t n m ∧ aft e t n m ≤ m
  | 0, m, h => ⟨h, Int.le_refl _⟩
  | n + 1, m, h => by
    have h1 := chg_dn ht h
    have h2 := aft_dn (e := e) ht n (m := stp e t m) (by unfold stp; omega)
    show e ≤ aft e t n (stp e t m) ∧ aft e t n (stp e t m) ≤ m
    unfold stp at h2 ⊢
    exact ⟨h2.1, by omega⟩
theorem aft_rest {e t : Int} (n : Nat) {m : Int} (h : chg e t m = 0) : aft e t n m = m := by
  induction n with
  | zero => rfl
  | succ n ih => show aft e t n (stp e t m) = m; rw [show stp e t m = m by unfold stp; omega]; exact ih
theorem aft_bd {e t : Int} (ht : 10 ≤ t) (n : Nat) {m : Int} (he : 0 ≤ e ∧ e ≤ 1000) (hm : 0 ≤ m ∧ m ≤ 1000) : 0 ≤ aft e t n m ∧ aft e t n m ≤ 1000 := by
  by_cases h : m ≤ e
  · have := aft_up ht n h; omega
  · have := aft_dn ht n (show e ≤ m by omega); omega
theorem aft_near {e t : Int} (ht : 10 ≤ t) (n : Nat) (m : Int) : absI (aft e t n m - e) ≤ absI (m - e) := by
  unfold absI
  by_cases h : m ≤ e
  · have := aft_up ht n h; split <;> split <;> omega
  · have := aft_dn ht n (show e ≤ m by omega); split <;> split <;> omega
theorem rdivP_zero {b : Int} (hb : 0 < b) : rdivP 0 b = 0 := by
  rw [rdivP_eq (by omega) hb]
  simp; omega
theorem chg_less {e t m : Int} (ht : 10 ≤ t) : absI (chg e t (stp e t m)) ≤ absI (chg e t m) := by
  by_cases h : m ≤ e
  · have h1 := chg_up ht h
    have h2 : stp e t m ≤ e := by unfold stp; omega
    have h3 := chg_up ht h2
    have h4 : chg e t (stp e t m) ≤ chg e t m := by
      unfold chg
      refine rdivP_mono (by omega) ?_ (by omega)
      unfold stp; omega
    unfold absI; split <;> split <;> omega
  · have h1 := chg_dn ht (show e ≤ m by omega)
    have h2 : e ≤ stp e t m := by unfold stp; omega
    have h3 := chg_dn ht h2
    have h4 : chg e t m ≤ chg e t (stp e t m) := by
      have key : ∀ x : Int, e < x → chg e t x = - rdivP (20 * (x - e)) (t + 20) := fun x hx => by
        unfold chg
        rw [← rdivP_neg (by omega) (by omega)]; congr 1; omega
      rw [key m (by omega)]
      by_cases h5 : e = stp e t m
      · unfold chg at h3 ⊢
        have h6 := rdivP_nonneg (a := 20 * (m - e)) (b := t + 20) (by omega) (by omega)
        rw [show 20 * (e - stp e t m) = 0 by omega, rdivP_zero (by omega)]; omega
      · rw [key (stp e t m) (by omega)]
        have h6 := rdivP_mono (a := 20 * (stp e t m - e)) (a' := 20 * (m - e)) (b := t + 20) (by omega) (by unfold stp; omega) (by omega)
        omega
    unfold absI; split <;> split <;> omega
theorem stackOk_iff {id : List UInt8} {m t s : Int} : stackOk (id, m, t, s, ()) = true ↔ isName id = true ∧ (0 ≤ m ∧ m ≤ 1000) ∧ (10 ≤ t ∧ t ≤ 1000) ∧ (0 ≤ s ∧ s ≤ 36524) := by
  simp [stackOk, inR_iff]
def moistP (id : List UInt8) (m t s h d : Int) : Int × Int :=
  if stackOk (id, m, t, s, ()) = true then if inR h 0 1000 = true ∧ inR d 0 4000 = true then (aft (evenP h) t d.toNat m, 0) else (0, 2) else (0, 1)
end Go.Ab.P
