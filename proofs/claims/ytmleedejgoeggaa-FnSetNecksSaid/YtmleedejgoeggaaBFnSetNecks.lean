/- Lemmas on functions of the program. Conditions: told in each. -/
import Derived.Test.YtmleedejgoeggaaPFnSetNecks
set_option linter.unusedVariables false
set_option linter.unusedSimpArgs false
namespace Go.Ab.P
open Go.Ab
/-- The sizes of a list's elements: what is left. -/
theorem szLoop {α : Type} {P : α → Prop} (xs : List α) (sz1 : α → Int → Option Int) (p0 : List α → Int → Int → Option Int)
    (heq : ∀ (l i : Int), p0 xs l i = if decide (i < (xs.length : Int)) then (if decide (0 ≤ i) then (xs[i.toNat]?).bind fun x1 => (sz1 x1 l).bind fun x2 => if decide (x2 < 0) then some (-1) else p0 xs x2 (IntKind.i64.wrap (i + 1)) else none) else some l)
    (hs : xs.length ≤ 1048576) (h1 : ∀ x, x ∈ xs → ∀ l : Int, 0 ≤ l → l ≤ 1048576 → ∃ n, sz1 x l = some n ∧ n ≤ l ∧ (0 ≤ n → P x)) :
    ∀ (k i : Nat) (l : Int), i + k = xs.length → 0 ≤ l → l ≤ 1048576 → ∃ n, p0 xs l i = some n ∧ n ≤ l ∧ (0 ≤ n → ∀ x, x ∈ xs.drop i → P x)
  | 0, i, l, hk, hl, hl' => by
    refine ⟨l, ?_, Int.le_refl _, fun _ x hx => ?_⟩
    · rw [heq]
      have : ¬ (i : Int) < (xs.length : Int) := by omega
      simp only [this, decide_false, Bool.false_eq_true, if_false]
    · rw [List.drop_eq_nil_of_le (by omega)] at hx; cases hx
  | k + 1, i, l, hk, hl, hl' => by
    have hi : i < xs.length := by omega
    have hlt : (i : Int) < (xs.length : Int) := by omega
    obtain ⟨n, e1, e2, e3⟩ := h1 xs[i] (List.getElem_mem hi) l hl hl'
    rw [heq]
    simp only [hlt, decide_true, if_true, Int.natCast_nonneg, Int.toNat_natCast, List.getElem?_eq_getElem hi, Option.bind_some, e1]
    by_cases hn : n < 0
    · simp only [hn, decide_true, if_true]
      exact ⟨-1, rfl, by omega, fun h => by omega⟩
    · simp only [hn, decide_false, Bool.false_eq_true, if_false]
      have hw : IntKind.i64.wrap ((i : Int) + 1) = ((i + 1 : Nat) : Int) := by rw [w64 (by omega) (by omega)]; omega
      rw [hw]
      obtain ⟨q, f1, f2, f3⟩ := szLoop xs sz1 p0 heq hs h1 k (i + 1) n (by omega) (by omega) (by omega)
      refine ⟨q, f1, by omega, fun hq x hx => ?_⟩
      rw [List.drop_eq_getElem_cons hi] at hx
      rcases List.mem_cons.1 hx with rfl | hx
      · exact e3 (by omega)
      · exact f3 hq x hx
theorem szList {α : Type} {P : α → Prop} (xs : List α) (sz1 : α → Int → Option Int) (p0 : List α → Int → Int → Option Int) (szS : List α → Int → Option Int)
    (heq : ∀ (l i : Int), p0 xs l i = if decide (i < (xs.length : Int)) then (if decide (0 ≤ i) then (xs[i.toNat]?).bind fun x1 => (sz1 x1 l).bind fun x2 => if decide (x2 < 0) then some (-1) else p0 xs x2 (IntKind.i64.wrap (i + 1)) else none) else some l)
    (hS : ∀ l : Int, szS xs l = if decide (IntKind.i64.wrap (l - (xs.length : Int)) < 0) then some (-1) else p0 xs (IntKind.i64.wrap (l - (xs.length : Int))) 0)
    (hl : xs.length ≤ 9223372036854775807) (h1 : ∀ x, x ∈ xs → ∀ l : Int, 0 ≤ l → l ≤ 1048576 → ∃ n, sz1 x l = some n ∧ n ≤ l ∧ (0 ≤ n → P x)) (l : Int) (h0 : 0 ≤ l) (h0' : l ≤ 1048576) :
    ∃ n, szS xs l = some n ∧ n ≤ l ∧ (0 ≤ n → xs.length ≤ 1048576 ∧ ∀ x, x ∈ xs → P x) := by
  rw [hS, w64 (n := l - xs.length) (by omega) (by omega)]
  by_cases hn : l - (xs.length : Int) < 0
  · simp only [hn, decide_true, if_true]
    exact ⟨-1, rfl, by omega, fun h => by omega⟩
  · simp only [hn, decide_false, Bool.false_eq_true, if_false]
    obtain ⟨q, f1, f2, f3⟩ := szLoop xs sz1 p0 heq (by omega) h1 xs.length 0 (l - xs.length) (by omega) (by omega) (by omega)
    exact ⟨q, f1, by omega, fun hq => ⟨by omega, fun x hx => f3 hq x hx⟩⟩
/-- A list made element by element is the list. -/
theorem toLoop {α : Type} (xs : List α) (to1 : α → Option α) (p0 : List α → Nat → Int → List α → Option (List α))
    (heq : ∀ (n : Nat) (i : Int) (r : List α), p0 xs n i r = if decide (i < (xs.length : Int)) then (if decide (0 ≤ i) then (xs[i.toNat]?).bind fun x1 => (to1 x1).bind fun x2 => if decide (0 ≤ i) && decide (i < (n : Int)) then (r[i.toNat]?).bind fun x3 => p0 xs n (IntKind.i64.wrap (i + 1)) (r.set i.toNat x2) else none else none) else some (r.take n))
    (hs : xs.length ≤ 1099511627776) (h1 : ∀ x, x ∈ xs → to1 x = some x) :
    ∀ (k i : Nat) (r : List α), i + k = xs.length → r.length = xs.length → r.take i = xs.take i → p0 xs xs.length i r = some xs
  | 0, i, r, hk, hr, ht => by
    rw [heq]
    have : ¬ (i : Int) < (xs.length : Int) := by omega
    simp only [this, decide_false, Bool.false_eq_true, if_false]
    have hi : i = xs.length := by omega
    rw [hi] at ht
    rw [ht, List.take_length]
  | k + 1, i, r, hk, hr, ht => by
    have hi : i < xs.length := by omega
    have hlt : (i : Int) < (xs.length : Int) := by omega
    have hw : IntKind.i64.wrap ((i : Int) + 1) = ((i + 1 : Nat) : Int) := by rw [w64 (by omega) (by omega)]; omega
    rw [heq]
    simp only [hlt, decide_true, if_true, Int.natCast_nonneg, Int.toNat_natCast, List.getElem?_eq_getElem hi, Option.bind_some, h1 xs[i] (List.getElem_mem hi), Bool.and_self, List.getElem?_eq_getElem (show i < r.length by omega), hw]
    refine toLoop xs to1 p0 heq hs h1 k (i + 1) (r.set i xs[i]) (by omega) (by simp [hr]) ?_
    rw [List.take_add_one, List.take_add_one, List.getElem?_set_self (by omega), List.getElem?_eq_getElem hi, List.take_set_of_le (by omega), ht]
theorem toList_ok {α : Type} (xs : List α) (z : α) (to1 : α → Option α) (p0 : List α → Nat → Int → List α → Option (List α)) (toS : List α → Option (List α))
    (heq : ∀ (n : Nat) (i : Int) (r : List α), p0 xs n i r = if decide (i < (xs.length : Int)) then (if decide (0 ≤ i) then (xs[i.toNat]?).bind fun x1 => (to1 x1).bind fun x2 => if decide (0 ≤ i) && decide (i < (n : Int)) then (r[i.toNat]?).bind fun x3 => p0 xs n (IntKind.i64.wrap (i + 1)) (r.set i.toNat x2) else none else none) else some (r.take n))
    (hS : toS xs = if decide (0 ≤ (xs.length : Int)) && decide ((xs.length : Int) ≤ (xs.length : Int)) && decide ((xs.length : Int) < (lim : Int)) then p0 xs ((List.replicate ((xs.length : Int).toNat) z).length) 0 (List.replicate ((xs.length : Int).toNat) z) else none)
    (hs : xs.length ≤ 1048576) (h1 : ∀ x, x ∈ xs → to1 x = some x) : toS xs = some xs := by
  rw [hS, lim_eq]
  have h2 : (xs.length : Int) < ((1099511627776 : Nat) : Int) := by omega
  have h3 : (xs.length : Int) ≤ (xs.length : Int) := Int.le_refl _
  simp only [h2, h3, Int.natCast_nonneg, decide_true, Bool.and_self, if_true, Int.toNat_natCast, List.length_replicate]
  exact toLoop xs to1 p0 heq (by omega) h1 xs.length 0 _ (by omega) (by simp) (by simp)
/-- A list is equal to itself. -/
theorem eqLoop {α : Type} (xs : List α) (eq1 : α → α → Option Bool) (p0 : List α → List α → Int → Option Bool)
    (heq : ∀ (i : Int), p0 xs xs i = if decide (i < (xs.length : Int)) then (if decide (0 ≤ i) then (xs[i.toNat]?).bind fun x1 => if decide (0 ≤ i) then (xs[i.toNat]?).bind fun x2 => (eq1 x1 x2).bind fun x3 => if (!x3) then some false else p0 xs xs (IntKind.i64.wrap (i + 1)) else none else none) else some true)
    (hs : xs.length ≤ 1048576) (h1 : ∀ x, x ∈ xs → eq1 x x = some true) : ∀ (k i : Nat), i + k = xs.length → p0 xs xs i = some true
  | 0, i, hk => by
    rw [heq]
    have : ¬ (i : Int) < (xs.length : Int) := by omega
    simp only [this, decide_false, Bool.false_eq_true, if_false]
  | k + 1, i, hk => by
    have hi : i < xs.length := by omega
    have hlt : (i : Int) < (xs.length : Int) := by omega
    have hw : IntKind.i64.wrap ((i : Int) + 1) = ((i + 1 : Nat) : Int) := by rw [w64 (by omega) (by omega)]; omega
    rw [heq]
    simp only [hlt, decide_true, if_true, Int.natCast_nonneg, Int.toNat_natCast, List.getElem?_eq_getElem hi, Option.bind_some, h1 xs[i] (List.getElem_mem hi), Bool.not_true, Bool.false_eq_true, if_false, hw]
    exact eqLoop xs eq1 p0 heq hs h1 k (i + 1) (by omega)
theorem eqList_ok {α : Type} (xs : List α) (eq1 : α → α → Option Bool) (p0 : List α → List α → Int → Option Bool) (eqS : List α → List α → Option Bool)
    (heq : ∀ (i : Int), p0 xs xs i = if decide (i < (xs.length : Int)) then (if decide (0 ≤ i) then (xs[i.toNat]?).bind fun x1 => if decide (0 ≤ i) then (xs[i.toNat]?).bind fun x2 => (eq1 x1 x2).bind fun x3 => if (!x3) then some false else p0 xs xs (IntKind.i64.wrap (i + 1)) else none else none) else some true)
    (hS : eqS xs xs = if ((xs.length : Int) != (xs.length : Int)) then some false else p0 xs xs 0)
    (hs : xs.length ≤ 1048576) (h1 : ∀ x, x ∈ xs → eq1 x x = some true) : eqS xs xs = some true := by
  rw [hS]
  simp only [bne_self_eq_false, Bool.false_eq_true, if_false]
  exact eqLoop xs eq1 p0 heq hs h1 xs.length 0 (by omega)
/-- A list whose elements are all as wished, their names rising. -/
def sortedChk {α : Type} (ok : α → Bool) (id : α → List UInt8) : Option α → List α → Bool
  | _, [] => true
  | p, x :: r => ok x && ((match p with | none => true | some y => Op.bytesLess (id y) (id x)) && sortedChk ok id (some x) r)
theorem sortedChk_all {α : Type} {ok : α → Bool} {id : α → List UInt8} : ∀ {l : List α} {p : Option α}, sortedChk ok id p l = true → ∀ x, x ∈ l → ok x = true
  | [], _, _, x, hx => by cases hx
  | y :: r, p, h, x, hx => by
    simp only [sortedChk, Bool.and_eq_true] at h
    rcases List.mem_cons.1 hx with rfl | hx
    · exact h.1
    · exact sortedChk_all h.2.2 x hx
theorem sortedLoopI {α : Type} (xs : List α) (one : α → Option Bool) (ok : α → Bool) (id : α → List UInt8) (p0 : Int → Option Bool) (last : Option Bool) (lb : Bool) (hlast : last = some lb)
    (heq : ∀ i : Int, p0 i = if decide (i < (xs.length : Int)) then (if decide (0 ≤ i) then (xs[i.toNat]?).bind fun x1 => (one x1).bind fun x2 => if (!x2) then some false else if decide (i > 0) then (if decide (0 ≤ IntKind.i64.wrap (i - 1)) then (xs[(IntKind.i64.wrap (i - 1)).toNat]?).bind fun x3 => if (!Op.bytesLess (id x3) (id x1)) then some false else p0 (IntKind.i64.wrap (i + 1)) else none) else p0 (IntKind.i64.wrap (i + 1)) else none) else last)
    (hs : xs.length ≤ 1048576) (h1 : ∀ x, x ∈ xs → one x = some (ok x)) :
    ∀ (k i : Nat), i + k = xs.length → p0 i = some (sortedChk ok id (if i = 0 then none else xs[i - 1]?) (xs.drop i) && lb)
  | 0, i, hk => by
    rw [heq, List.drop_eq_nil_of_le (by omega)]
    have : ¬ (i : Int) < (xs.length : Int) := by omega
    simp only [this, decide_false, Bool.false_eq_true, if_false, hlast, sortedChk, Bool.true_and]
  | k + 1, i, hk => by
    have hi : i < xs.length := by omega
    have hlt : (i : Int) < (xs.length : Int) := by omega
    have hw : IntKind.i64.wrap ((i : Int) + 1) = ((i + 1 : Nat) : Int) := by rw [w64 (by omega) (by omega)]; omega
    have ih := sortedLoopI xs one ok id p0 last lb hlast heq hs h1 k (i + 1) (by omega)
    rw [if_neg (by omega), Nat.add_sub_cancel, List.getElem?_eq_getElem hi] at ih
    rw [heq, List.drop_eq_getElem_cons hi]
    simp only [hlt, decide_true, if_true, Int.natCast_nonneg, Int.toNat_natCast, List.getElem?_eq_getElem hi, Option.bind_some, h1 xs[i] (List.getElem_mem hi), hw, ih, sortedChk]
    cases hok : ok xs[i]
    · simp
    · by_cases h0 : i = 0
      · subst h0; simp
      · have hp : (i : Int) > 0 := by omega
        have hw2 : IntKind.i64.wrap ((i : Int) - 1) = ((i - 1 : Nat) : Int) := by rw [w64 (by omega) (by omega)]; omega
        simp only [hp, decide_true, if_true, hw2, Int.natCast_nonneg, Int.toNat_natCast, List.getElem?_eq_getElem (show i - 1 < xs.length by omega), Option.bind_some, h0, if_false, Bool.not_true, Bool.false_eq_true]
        cases Op.bytesLess (id xs[i - 1]) (id xs[i]) <;> simp
theorem sortedLoopS {α : Type} (xs : List α) (one : α → Option Bool) (ok : α → Bool) (id : α → List UInt8) (p0 : Int → Option Bool) (last : Option Bool) (lb : Bool) (hlast : last = some lb)
    (heq : ∀ i : Int, p0 i = if decide (i < (xs.length : Int)) then (if decide (0 ≤ i) then (xs[i.toNat]?).bind fun x1 => (one x1).bind fun x2 => if (!x2) then some false else if decide (i > 0) then (if decide (0 ≤ IntKind.i64.wrap (i - 1)) then (xs[(IntKind.i64.wrap (i - 1)).toNat]?).bind fun x3 => if decide (0 ≤ i) then (xs[i.toNat]?).bind fun x4 => if (!Op.bytesLess (id x3) (id x4)) then some false else p0 (IntKind.i64.wrap (i + 1)) else none else none) else p0 (IntKind.i64.wrap (i + 1)) else none) else last)
    (hs : xs.length ≤ 1048576) (h1 : ∀ x, x ∈ xs → one x = some (ok x)) :
    ∀ (k i : Nat), i + k = xs.length → p0 i = some (sortedChk ok id (if i = 0 then none else xs[i - 1]?) (xs.drop i) && lb) := by
  refine sortedLoopI xs one ok id p0 last lb hlast (fun i => ?_) hs h1
  rw [heq]
  by_cases h : i < (xs.length : Int)
  · by_cases h0 : 0 ≤ i
    · simp only [h, h0, decide_true, if_true]
      cases xs[i.toNat]? <;> rfl
    · simp only [h, h0, decide_true, decide_false, Bool.false_eq_true, if_true, if_false]
  · simp only [h, decide_false, Bool.false_eq_true, if_false]
/-- A loop that leaves at the first element that is not as wished. -/
theorem allLoop {α β : Type} (xs : List α) (one : α → Option Bool) (ok : α → Bool) (p0 : Int → Option β) (bad : β) (last : Option β)
    (heq : ∀ i : Int, p0 i = if decide (i < (xs.length : Int)) then (if decide (0 ≤ i) then (xs[i.toNat]?).bind fun x1 => (one x1).bind fun x2 => if (!x2) then some bad else p0 (IntKind.i64.wrap (i + 1)) else none) else last)
    (hs : xs.length ≤ 1099511627776) (h1 : ∀ x, x ∈ xs → one x = some (ok x)) :
    ∀ (k i : Nat), i + k = xs.length → p0 i = if (xs.drop i).all ok then last else some bad
  | 0, i, hk => by
    rw [heq, List.drop_eq_nil_of_le (by omega)]
    have : ¬ (i : Int) < (xs.length : Int) := by omega
    simp [this]
  | k + 1, i, hk => by
    have hi : i < xs.length := by omega
    have hlt : (i : Int) < (xs.length : Int) := by omega
    have hw : IntKind.i64.wrap ((i : Int) + 1) = ((i + 1 : Nat) : Int) := by rw [w64 (by omega) (by omega)]; omega
    have ih := allLoop xs one ok p0 bad last heq hs h1 k (i + 1) (by omega)
    rw [heq, List.drop_eq_getElem_cons hi]
    simp only [hlt, decide_true, if_true, Int.natCast_nonneg, Int.toNat_natCast, List.getElem?_eq_getElem hi, Option.bind_some, h1 xs[i] (List.getElem_mem hi), hw, ih, List.all_cons]
    by_cases hok : ok xs[i] = true
    · simp [hok]
    · simp [hok]
theorem wsucc {i : Nat} (h : i < 4611686018427387904) : IntKind.i64.wrap ((i : Int) + 1) = ((i + 1 : Nat) : Int) := by
  rw [w64 (by omega) (by omega)]; omega
theorem ite_both {α : Type} {c : Prop} [Decidable c] (a b : α) (h : c → a = b) : (if c then a else b) = b := by
  split
  · exact h ‹_›
  · rfl
theorem getElem?_lt {α : Type} {l : List α} {i : Nat} (h : i < l.length) : l[i]? = some l[i] := List.getElem?_eq_getElem h
theorem drop_cons {α : Type} {l : List α} {i : Nat} (h : i < l.length) : l.drop i = l[i] :: l.drop (i + 1) := List.drop_eq_getElem_cons h
/-- The nearest quotient, halves away from 0. -/
def rdivP (a b : Int) : Int := if a < 0 then -((b - 2 * a) / (2 * b)) else (2 * a + b) / (2 * b)
def rdiv (a b : Int) : Int := if b < 0 then rdivP (-a) (-b) else rdivP a b
theorem rdivP_eq {a b : Int} (ha : 0 ≤ a) (hb : 0 < b) : rdivP a b = a / b + if b - a % b ≤ a % b then 1 else 0 := by
  have h1 := Int.mul_ediv_add_emod a b
  have h2 := Int.emod_nonneg a (show b ≠ 0 by omega)
  have h3 := Int.emod_lt_of_pos a hb
  unfold rdivP
  rw [if_neg (by omega)]
  generalize a / b = q at h1 ⊢
  generalize a % b = r at h1 h2 h3 ⊢
  have key : ∀ t s : Int, 0 ≤ s → s < 2 * b → 2 * a + b = s + 2 * b * t → (2 * a + b) / (2 * b) = t := fun t s hs0 hs1 he => by
    rw [he, Int.add_mul_ediv_left s t (show 2 * b ≠ 0 by omega), Int.ediv_eq_zero_of_lt hs0 hs1]; omega
  have e : 2 * b * q = 2 * (b * q) := Int.mul_assoc 2 b q
  split
  · refine key (q + 1) (2 * r - b) (by omega) (by omega) ?_
    rw [Int.mul_add, e]; omega
  · rw [Int.add_zero]
    refine key q (2 * r + b) (by omega) (by omega) ?_
    rw [e]; omega
theorem rdivP_neg {a b : Int} (ha : 0 < a) (hb : 0 < b) : rdivP (-a) b = -rdivP a b := by
  unfold rdivP
  rw [if_pos (by omega), if_neg (by omega)]
  congr 2; omega
theorem rdivP_nonneg {a b : Int} (ha : 0 ≤ a) (hb : 0 < b) : 0 ≤ rdivP a b := by
  unfold rdivP
  rw [if_neg (by omega)]
  exact Int.ediv_nonneg (by omega) (by omega)
theorem rdivP_le {a b : Int} (ha : 0 ≤ a) (hb : 0 < b) : rdivP a b ≤ a + 1 := by
  rw [rdivP_eq ha hb]
  have := Int.ediv_le_self b ha
  split <;> omega
theorem rdivP_mono {a a' b : Int} (ha : 0 ≤ a) (h : a ≤ a') (hb : 0 < b) : rdivP a b ≤ rdivP a' b := by
  unfold rdivP
  rw [if_neg (by omega), if_neg (by omega)]
  exact Int.ediv_le_ediv (by omega) (by omega)
theorem tdiv_nonneg_eq {a b : Int} (ha : 0 ≤ a) : a.tdiv b = a / b := Int.tdiv_eq_ediv_of_nonneg ha
theorem tmod_nonneg_eq {a b : Int} (ha : 0 ≤ a) : a.tmod b = a % b := Int.tmod_eq_emod_of_nonneg ha
def small (c : UInt8) : Bool := decide (97 ≤ (c.toNat : Int)) && decide ((c.toNat : Int) ≤ 122)
def digit (c : UInt8) : Bool := decide (48 ≤ (c.toNat : Int)) && decide ((c.toNat : Int) ≤ 57)
def isName (s : List UInt8) : Bool := match s with | [] => false | c :: r => small c && r.all (fun c => small c || digit c) && decide (s.length ≤ 10)
def inR (n lo hi : Int) : Bool := decide (lo ≤ n) && decide (n ≤ hi)
theorem inR_iff' {n lo hi : Int} : inR n lo hi = true ↔ lo ≤ n ∧ n ≤ hi := by simp [inR]
theorem impl_within_ok (n lo hi : Int) : impl_within n lo hi = some (inR n lo hi) := by
  rw [impl_within_eq, inR]; by_cases h : lo ≤ n <;> simp [h]
theorem spec_l00In_ok (n lo hi : Int) : spec_l00In n lo hi = some (inR n lo hi) := by
  rw [spec_l00In_eq, inR]; by_cases h : lo ≤ n <;> simp [h]
theorem impl_divRound_ok (a b : Int) (ha : -2000000000000000000 ≤ a ∧ a ≤ 2000000000000000000) (hb : 0 < b ∧ b ≤ 2000000000000000000) : impl_divRound a b = some (rdivP a b) := by
  rw [impl_divRound_eq]
  have e1 : IntKind.i64.wrap (0 - b) = -b := by rw [w64 (by omega) (by omega)]; omega
  have e2 : IntKind.i64.wrap (0 - a) = -a := by rw [w64 (by omega) (by omega)]; omega
  have e3 : (if -b > b then -b else b) = b := by rw [if_neg (by omega)]
  have hb0 : ¬ b = 0 := by omega
  have hbn : ¬ b < 0 := by omega
  simp only [e1, e2, e3, hb0, hbn, decide_false, Bool.false_eq_true, if_false]
  have main : ∀ x : Int, 0 ≤ x → x ≤ 2000000000000000000 → x.tmod b = x % b ∧ x.tdiv b = x / b ∧ 0 ≤ x % b ∧ x % b < b ∧ 0 ≤ x / b ∧ x / b ≤ x := fun x h0 h1 =>
    ⟨tmod_nonneg_eq h0, tdiv_nonneg_eq h0, Int.emod_nonneg _ (by omega), Int.emod_lt_of_pos _ hb.1, Int.ediv_nonneg h0 (by omega), Int.ediv_le_self b h0⟩
  by_cases hneg : a < 0
  · have e4 : (if -a > a then -a else a) = -a := by rw [if_pos (by omega)]
    obtain ⟨m1, m2, m3, m4, m5, m6⟩ := main (-a) (by omega) (by omega)
    have e5 : rdivP a b = -rdivP (-a) b := by rw [← rdivP_neg (show 0 < -a by omega) hb.1]; congr 1; omega
    rw [e5, rdivP_eq (show 0 ≤ -a by omega) hb.1]
    simp only [e4, hneg, m1, m2, decide_true, Bool.true_beq, Bool.not_false, if_true]
    rw [w64 (n := b - -a % b) (by omega) (by omega), w64 (n := -a / b) (by omega) (by omega), w64 (n := -a / b + 1) (by omega) (by omega), w64 (n := 0 - (-a / b + 1)) (by omega) (by omega), w64 (n := 0 - -a / b) (by omega) (by omega)]
    simp only [decide_eq_true_eq, ge_iff_le]
    split
    · congr 1; omega
    · congr 1; omega
  · have e4 : (if -a > a then -a else a) = a := by rw [if_neg (by omega)]
    obtain ⟨m1, m2, m3, m4, m5, m6⟩ := main a (by omega) (by omega)
    rw [rdivP_eq (show 0 ≤ a by omega) hb.1]
    simp only [e4, hneg, m1, m2, decide_false, beq_self_eq_true, Bool.not_true, Bool.false_eq_true, if_false]
    rw [w64 (n := b - a % b) (by omega) (by omega), w64 (n := a / b) (by omega) (by omega), w64 (n := a / b + 1) (by omega) (by omega)]
    simp only [decide_eq_true_eq, ge_iff_le]
    split
    · rfl
    · congr 1; omega
theorem spec_l01Div_ok (a b : Int) (ha : -2000000000000000000 ≤ a ∧ a ≤ 2000000000000000000) (hb : 0 < b ∧ b ≤ 2000000000000000000) : spec_l01Div a b = some (rdivP a b) := by
  have hbn : ¬ b < 0 := by omega
  rw [spec_l01Div_eq, rdivP]
  simp only [hbn, decide_false, Bool.false_eq_true, if_false]
  rw [spec_l01Div_p0_eq, w64 (n := 2 * b) (by omega) (by omega), w64 (n := 2 * a) (by omega) (by omega)]
  have hb0 : ¬ 2 * b = 0 := by omega
  simp only [hb0, decide_false, Bool.false_eq_true, if_false]
  by_cases hneg : a < 0
  · simp only [hneg, decide_true, if_true]
    rw [w64 (n := b - 2 * a) (by omega) (by omega), tdiv_nonneg_eq (by omega)]
    have h1 : 0 ≤ (b - 2 * a) / (2 * b) := Int.ediv_nonneg (by omega) (by omega)
    have h2 : (b - 2 * a) / (2 * b) ≤ b - 2 * a := Int.ediv_le_self _ (by omega)
    rw [w64 (n := (b - 2 * a) / (2 * b)) (by omega) (by omega), w64 (by omega) (by omega)]
    congr 1; omega
  · simp only [hneg, decide_false, Bool.false_eq_true, if_false]
    rw [w64 (n := 2 * a + b) (by omega) (by omega), tdiv_nonneg_eq (by omega)]
    have h1 : 0 ≤ (2 * a + b) / (2 * b) := Int.ediv_nonneg (by omega) (by omega)
    have h2 : (2 * a + b) / (2 * b) ≤ 2 * a + b := Int.ediv_le_self _ (by omega)
    rw [w64 (n := (2 * a + b) / (2 * b)) (by omega) (by omega)]
/-- Numbers one behind the other. -/
def runs (m : Int) : Nat → List Int
  | 0 => []
  | n + 1 => m :: runs (m + 1) n
theorem runs_len (m : Int) (n : Nat) : (runs m n).length = n := by
  induction n generalizing m with
  | zero => rfl
  | succ n ih => simp [runs, ih]
theorem runs_get (m : Int) (n i : Nat) (h : i < n) : (runs m n)[i]? = some (m + i) := by
  induction n generalizing m i with
  | zero => omega
  | succ n ih =>
    cases i with
    | zero => simp [runs]
    | succ i =>
      simp only [runs, List.getElem?_cons_succ]
      rw [ih (m + 1) i (by omega)]
      congr 1; omega
theorem wu64 {n : Int} (h1 : 0 ≤ n) (h2 : n < 18446744073709551616) : IntKind.u64.wrap n = n := by
  have e : IntKind.u64.wrap n = if decide false = true then n % 18446744073709551616 - 18446744073709551616 else n % 18446744073709551616 := by
    simp [IntKind.wrap, IntKind.signed, IntKind.bits]
  rw [e]
  simp; omega
theorem and255 (x : Int) : ((BitVec.ofInt IntKind.u64.bits x &&& BitVec.ofInt IntKind.u64.bits 255).toNat : Int) ≤ 255 := by
  have : (BitVec.ofInt IntKind.u64.bits x &&& BitVec.ofInt IntKind.u64.bits 255).toNat ≤ 255 := by
    rw [BitVec.toNat_and]
    refine Nat.le_trans Nat.and_le_right ?_
    decide
  omega
/-- A source of numbers that an input lays: its bytes are bytes, and it has not gone far. -/
def SrcOk (s : T_l00Src.ty) (c : Int) : Prop := (∀ x : Int, x ∈ s.1 → 0 ≤ x ∧ x ≤ 255) ∧ s.1.length ≤ 1048576 ∧ (0 : Int) ≤ s.2.1 ∧ (s.2.1 : Int) ≤ c
theorem src_eta (s : T_l00Src.ty) : (s.1, s.2.1, s.2.2.1, ()) = s := rfl
theorem SrcOk.up {s : T_l00Src.ty} {c d : Int} (h : SrcOk s c) (hd : c ≤ d) : SrcOk s d := ⟨h.1, h.2.1, h.2.2.1, Int.le_trans h.2.2.2 hd⟩
theorem next_p0_ok (v : Int) (l : List Int) (a h : Int) (c : Int) (hs : SrcOk (l, a, h, ()) c) (hc : c ≤ 1152921504606846976) (hv : 0 ≤ v ∧ v ≤ 255) :
    ∃ (u : Int) (s' : T_l00Src.ty), spec_l00Src_next_p0 v l a h = some (u, s') ∧ SrcOk s' (c + 1) ∧ 0 ≤ u ∧ u ≤ 255 := by
  obtain ⟨h1, h2, h3, h4⟩ := hs
  have h3 : 0 ≤ a := h3
  have h4 : a ≤ c := h4
  rw [spec_l00Src_next_p0_eq, w64 (n := a + 1) (by omega) (by omega)]
  split
  · exact ⟨_, _, rfl, ⟨h1, h2, by show (0 : Int) ≤ a + 1; omega, by show (a + 1 : Int) ≤ c + 1; omega⟩, hv⟩
  · refine ⟨_, _, rfl, ⟨h1, h2, by show (0 : Int) ≤ a + 1; omega, by show (a + 1 : Int) ≤ c + 1; omega⟩, ?_⟩
    generalize hx : ((BitVec.ofInt IntKind.u64.bits _ &&& BitVec.ofInt IntKind.u64.bits 255).toNat : Int) = x
    have := and255 (Int.fdiv (IntKind.u64.wrap ((IntKind.u64.wrap ((IntKind.u64.wrap (h * 6364136223846793005)) + (IntKind.u64.wrap v))) + 1442695040888963407)) (2 ^ (min (40 : Int).toNat IntKind.u64.bits)))
    rw [hx] at this
    have h0 : 0 ≤ x := by rw [← hx]; exact Int.natCast_nonneg _
    rw [wu64 h0 (by omega), w64 (by omega) (by omega)]
    exact ⟨h0, this⟩
theorem next_core (l : List Int) (a h c : Int) (hs : SrcOk (l, a, h, ()) c) (hc : c ≤ 1152921504606846976) : ∃ (u : Int) (s' : T_l00Src.ty), spec_l00Src_next (l, a, h, ()) = some (u, s') ∧ SrcOk s' (c + 1) ∧ 0 ≤ u ∧ u ≤ 255 := by
  have h3 : (0 : Int) ≤ a := hs.2.2.1
  rw [spec_l00Src_next_eq]
  dsimp only
  split
  · rename_i hlt
    simp only [decide_eq_true_eq] at hlt
    have hlt' : a < (List.length (α := Int) l : Int) := hlt
    have hi : a.toNat < l.length := by omega
    obtain ⟨x, hx⟩ : ∃ x, l[a.toNat]? = some x := ⟨_, List.getElem?_eq_getElem hi⟩
    have hm : 0 ≤ x ∧ x ≤ 255 := hs.1 x (List.mem_of_getElem? hx)
    rw [if_pos (by simpa using h3), hx, Option.bind_some, w64 (n := x) (by omega) (by omega)]
    exact next_p0_ok x l a h c hs hc hm
  · exact next_p0_ok 0 l a h c hs hc ⟨by omega, by omega⟩
theorem next_ok {s : T_l00Src.ty} {c : Int} (hs : SrcOk s c) (hc : c ≤ 1152921504606846976) : ∃ (u : Int) (s' : T_l00Src.ty), spec_l00Src_next s = some (u, s') ∧ SrcOk s' (c + 1) ∧ 0 ≤ u ∧ u ≤ 255 :=
  next_core s.1 s.2.1 s.2.2.1 c hs hc
theorem pick_ok {s : T_l00Src.ty} {c : Int} (hs : SrcOk s c) (hc : c ≤ 1000000000000000000) (n : Int) (hn : n ≤ 65536) :
    ∃ (u : Int) (s' : T_l00Src.ty), spec_l00Src_pick s n = some (u, s') ∧ SrcOk s' (c + 2) ∧ 0 ≤ u ∧ (u = 0 ∨ u < n) := by
  rw [spec_l00Src_pick_eq]
  by_cases h1 : n ≤ 1
  · simp only [h1, decide_true, if_true]
    exact ⟨0, s, rfl, hs.up (by omega), by omega, .inl rfl⟩
  · obtain ⟨u, s1, e1, k1, b1, b2⟩ := next_ok hs (by omega)
    have hn0 : ¬ n = 0 := by omega
    simp only [h1, decide_false, Bool.false_eq_true, if_false, e1, Option.bind_some, src_eta, hn0]
    by_cases h2 : n > 200
    · obtain ⟨v, s2, e2, k2, b3, b4⟩ := next_ok k1 (by omega)
      simp only [h2, decide_true, if_true, e2, Option.bind_some, src_eta]
      rw [w64 (n := u * 256) (by omega) (by omega), w64 (n := u * 256 + v) (by omega) (by omega), tmod_nonneg_eq (by omega)]
      exact ⟨_, s2, rfl, k2.up (by omega), Int.emod_nonneg _ hn0, .inr (Int.emod_lt_of_pos _ (by omega))⟩
    · simp only [h2, decide_false, Bool.false_eq_true, if_false]
      rw [tmod_nonneg_eq b1]
      exact ⟨_, s1, rfl, k1.up (by omega), Int.emod_nonneg _ hn0, .inr (Int.emod_lt_of_pos _ (by omega))⟩
theorem one_ok {s : T_l00Src.ty} {c : Int} (hs : SrcOk s c) (hc : c ≤ 1000000000000000000) (n : Int) (hn : n ≤ 65536) :
    ∃ (u : Bool) (s' : T_l00Src.ty), spec_l00Src_one s n = some (u, s') ∧ SrcOk s' (c + 2) := by
  obtain ⟨u, s1, e1, k1, _⟩ := pick_ok hs hc n hn
  rw [spec_l00Src_one_eq]
  simp only [e1, Option.bind_some, src_eta]
  exact ⟨_, s1, rfl, k1⟩
theorem among_ok {s : T_l00Src.ty} {c : Int} (hs : SrcOk s c) (hc : c ≤ 1000000000000000000) (l : List Int) (h0 : 0 < l.length) (hn : l.length ≤ 65536) :
    ∃ (u : Int) (s' : T_l00Src.ty), spec_l00Src_among s l = some (u, s') ∧ SrcOk s' (c + 2) ∧ u ∈ l := by
  obtain ⟨u, s1, e1, k1, b1, b2⟩ := pick_ok hs hc (l.length : Int) (by omega)
  have hi : u.toNat < l.length := by omega
  rw [spec_l00Src_among_eq]
  simp only [e1, Option.bind_some, src_eta, b1, decide_true, if_true, List.getElem?_eq_getElem hi]
  exact ⟨_, s1, rfl, k1, List.getElem_mem hi⟩
theorem from_ok (code : List Int) (h1 : ∀ x, x ∈ code → 0 ≤ x ∧ x ≤ 255) (h2 : code.length ≤ 1048576) : ∃ s, spec_l00From code = some s ∧ SrcOk s 0 := by
  rw [spec_l00From_eq]
  exact ⟨_, rfl, h1, h2, Int.le_refl _, Int.le_refl _⟩
theorem bytes_ok {l : List Int} (h : CT.wf (.sl (.one (.int .u8))) l) : ∀ x, x ∈ l → 0 ≤ x ∧ x ≤ 255 := fun x hx => by
  have : (Lit.int .u8 x).wf = true := h.2 x hx
  simp [Lit.wf, IntKind.min, IntKind.max, IntKind.signed, IntKind.bits] at this
  omega
def absI (n : Int) : Int := if n < 0 then -n else n
theorem absI_bd {n b : Int} (h : -b ≤ n ∧ n ≤ b) : 0 ≤ absI n ∧ absI n ≤ b := by unfold absI; split <;> omega
theorem absI_le {n b : Int} : absI n ≤ b ↔ -b ≤ n ∧ n ≤ b := by unfold absI; split <;> omega
theorem rdivP_err {a b : Int} (hb : 0 < b) : 2 * absI (rdivP a b * b - a) ≤ b := by
  have pos : ∀ a : Int, 0 ≤ a → 2 * absI (rdivP a b * b - a) ≤ b ∧ 0 ≤ a := fun a ha => by
    refine ⟨?_, ha⟩
    unfold rdivP
    rw [if_neg (by omega)]
    have h1 := Int.mul_ediv_add_emod (2 * a + b) (2 * b)
    have h2 := Int.emod_nonneg (2 * a + b) (show 2 * b ≠ 0 by omega)
    have h3 := Int.emod_lt_of_pos (2 * a + b) (show 0 < 2 * b by omega)
    have e : 2 * b * ((2 * a + b) / (2 * b)) = 2 * ((2 * a + b) / (2 * b) * b) := by rw [Int.mul_assoc, Int.mul_comm b]
    rw [e] at h1
    unfold absI
    split <;> omega
  by_cases ha : 0 ≤ a
  · exact (pos a ha).1
  · have h := (pos (-a) (by omega)).1
    have e : rdivP a b = -rdivP (-a) b := by rw [← rdivP_neg (show 0 < -a by omega) hb]; congr 1; omega
    rw [e, Int.neg_mul]
    unfold absI at h ⊢
    split at h <;> split <;> omega
theorem rdivP_bd {a b m : Int} (hb : 0 < b) (h : -m ≤ a ∧ a ≤ m) : -(m + 1) ≤ rdivP a b ∧ rdivP a b ≤ m + 1 := by
  by_cases ha : 0 ≤ a
  · have := rdivP_nonneg ha hb
    have := rdivP_le ha hb
    omega
  · have e : rdivP a b = -rdivP (-a) b := by rw [← rdivP_neg (show 0 < -a by omega) hb]; congr 1; omega
    have := rdivP_nonneg (a := -a) (by omega) hb
    have := rdivP_le (a := -a) (by omega) hb
    omega
/-- The places of a list's elements that are as wished. -/
def idx (P : Nat → Bool) (n : Nat) : List Int := ((List.range n).filter P).map fun (j : Nat) => (j : Int)
theorem idx_succ (P : Nat → Bool) (n : Nat) : idx P (n + 1) = idx P n ++ if P n then [(n : Int)] else [] := by
  unfold idx
  rw [List.range_succ, List.filter_append, List.map_append]
  cases h : P n <;> simp [h]
theorem idx_len (P : Nat → Bool) (n : Nat) : (idx P n).length ≤ n := by
  unfold idx
  rw [List.length_map]
  exact Nat.le_trans (List.length_filter_le _ _) (by simp)
theorem idx_mem (P : Nat → Bool) (n i : Nat) : (i : Int) ∈ idx P n ↔ i < n ∧ P i = true := by
  unfold idx
  simp only [List.mem_map, List.mem_filter, List.mem_range]
  constructor
  · rintro ⟨j, h, e⟩
    have : j = i := by omega
    subst this; exact h
  · intro h; exact ⟨i, h, rfl⟩
theorem idx_bd (P : Nat → Bool) (n : Nat) : ∀ x, x ∈ idx P n → 0 ≤ x ∧ x < n := by
  intro x hx
  unfold idx at hx
  obtain ⟨j, hj, rfl⟩ := List.mem_map.1 hx
  have := List.mem_range.1 (List.mem_filter.1 hj).1
  omega
theorem idx_rise (P : Nat → Bool) (n : Nat) : (idx P n).Pairwise (· < ·) := by
  unfold idx
  rw [List.pairwise_map]
  refine List.Pairwise.imp ?_ (List.Pairwise.filter P (List.pairwise_lt_range (n := n)))
  intro a b h; omega
theorem laws_b10Abs_ok (n : Int) (h : -4611686018427387904 ≤ n ∧ n ≤ 4611686018427387904) : laws_b10Abs n = some (absI n) := by
  rw [laws_b10Abs_eq, w64 (n := 0 - n) (by omega) (by omega), absI]
  by_cases hn : n < 0
  · simp [hn]
  · simp [hn]
theorem laws_b10Has_p0_ok (l : List Int) (v : Int) (hs : l.length ≤ 1099511627776) : ∀ (k i : Nat), i + k = l.length → laws_b10Has_p0 l v i = some (decide (v ∈ l.drop i))
  | 0, i, hk => by
    rw [laws_b10Has_p0_eq, List.drop_eq_nil_of_le (by omega)]
    have : ¬ (i : Int) < (l.length : Int) := by omega
    simp [this]
  | k + 1, i, hk => by
    have hi : i < l.length := by omega
    have hlt : (i : Int) < (l.length : Int) := by omega
    have hw : IntKind.i64.wrap ((i : Int) + 1) = ((i + 1 : Nat) : Int) := by rw [w64 (by omega) (by omega)]; omega
    have ih := laws_b10Has_p0_ok l v hs k (i + 1) (by omega)
    rw [laws_b10Has_p0_eq, List.drop_eq_getElem_cons hi]
    simp only [hlt, decide_true, if_true, Int.natCast_nonneg, Int.toNat_natCast, List.getElem?_eq_getElem hi, Option.bind_some, hw, ih, List.mem_cons, beq_iff_eq]
    by_cases he : l[i] = v
    · simp [he]
    · have : ¬ v = l[i] := fun h => he h.symm
      simp [he, this]
theorem laws_b10Has_ok (l : List Int) (v : Int) (hs : l.length ≤ 1099511627776) : laws_b10Has l v = some (decide (v ∈ l)) := by
  rw [laws_b10Has_eq]
  have := laws_b10Has_p0_ok l v hs l.length 0 (by omega)
  simpa using this
theorem laws_b10Rises_p0_ok (l : List Int) (n : Int) (hs : l.length ≤ 1099511627776) (hb : ∀ x, x ∈ l → 0 ≤ x ∧ x < n) (hr : l.Pairwise (· < ·)) : ∀ (k i : Nat), i + k = l.length → laws_b10Rises_p0 l n i = some true
  | 0, i, hk => by
    rw [laws_b10Rises_p0_eq]
    have : ¬ (i : Int) < (l.length : Int) := by omega
    simp [this]
  | k + 1, i, hk => by
    have hi : i < l.length := by omega
    have hlt : (i : Int) < (l.length : Int) := by omega
    have hw : IntKind.i64.wrap ((i : Int) + 1) = ((i + 1 : Nat) : Int) := by rw [w64 (by omega) (by omega)]; omega
    have ih := laws_b10Rises_p0_ok l n hs hb hr k (i + 1) (by omega)
    obtain ⟨b1, b2⟩ := hb l[i] (List.getElem_mem hi)
    have n1 : ¬ l[i] < 0 := by omega
    have n2 : ¬ l[i] ≥ n := by omega
    rw [laws_b10Rises_p0_eq]
    simp only [hlt, decide_true, if_true, Int.natCast_nonneg, Int.toNat_natCast, List.getElem?_eq_getElem hi, Option.bind_some, hw, ih, n1, n2, decide_false, Bool.false_eq_true, if_false]
    by_cases h0 : i = 0
    · subst h0; simp
    · have hp : (i : Int) > 0 := by omega
      have hw2 : IntKind.i64.wrap ((i : Int) - 1) = ((i - 1 : Nat) : Int) := by rw [w64 (by omega) (by omega)]; omega
      have h3 := List.pairwise_iff_getElem.1 hr (i - 1) i (by omega) hi (by omega)
      have n3 : ¬ l[i - 1] ≥ l[i] := by omega
      simp only [hp, decide_true, if_true, hw2, Int.natCast_nonneg, Int.toNat_natCast, List.getElem?_eq_getElem (show i - 1 < l.length by omega), Option.bind_some, n3, decide_false, Bool.false_eq_true, if_false]
theorem laws_b10Rises_ok (l : List Int) (n : Int) (hs : l.length ≤ 1099511627776) (hb : ∀ x, x ∈ l → 0 ≤ x ∧ x < n) (hr : l.Pairwise (· < ·)) : laws_b10Rises l n = some true := by
  rw [laws_b10Rises_eq]
  exact laws_b10Rises_p0_ok l n hs hb hr l.length 0 (by omega)
theorem impl_distance_ok (a b : Int) (h : -2000000000000000000 ≤ a ∧ a ≤ 2000000000000000000) (h' : -2000000000000000000 ≤ b ∧ b ≤ 2000000000000000000) : impl_distance a b = some (absI (a - b)) := by
  rw [impl_distance_eq, w64 (n := a - b) (by omega) (by omega), w64 (n := b - a) (by omega) (by omega), absI]
  congr 1
  split <;> split <;> omega
def neckOk (x : T_Neck.ty) : Bool := inR x.1 100 10000 && (inR x.2.1 100 10000 && (inR x.2.2.1 0 500 && inR x.2.2.2.1 0 300))
theorem neckOk_iff {a b c d : Int} : neckOk (a, b, c, d, ()) = true ↔ (100 ≤ a ∧ a ≤ 10000) ∧ (100 ≤ b ∧ b ≤ 10000) ∧ (0 ≤ c ∧ c ≤ 500) ∧ (0 ≤ d ∧ d ≤ 300) := by
  simp [neckOk, inR]
theorem impl_ValidNeck_ok (x : T_Neck.ty) : impl_ValidNeck x = some (neckOk x) := by
  rw [impl_ValidNeck_eq, neckOk]
  simp only [impl_within_ok, Option.bind_some]
  cases inR x.1 100 10000 <;> cases inR x.2.1 100 10000 <;> cases inR x.2.2.1 0 500 <;> simp
theorem spec_l10Ok_ok (x : T_Neck.ty) : spec_l10Ok x = some (neckOk x) := by
  rw [spec_l10Ok_eq, neckOk]
  simp only [spec_l10Size_eq, spec_l00In_ok, Option.bind_some]
  cases inR x.1 100 10000 <;> cases inR x.2.1 100 10000 <;> cases inR x.2.2.1 0 500 <;> simp
theorem impl_necksCode_ok (xs : List T_Neck.ty) (hs : xs.length ≤ 1048576) : impl_necksCode xs = some (if xs.all neckOk then (if (xs.length : Int) ≤ 64 then 0 else 2) else 1) := by
  rw [impl_necksCode_eq]
  have h := allLoop xs impl_ValidNeck neckOk (fun i => impl_necksCode_p0 xs xs xs.length i) 1 _ (fun i => impl_necksCode_p0_eq xs xs xs.length i) (by omega) (fun x _ => impl_ValidNeck_ok x) xs.length 0 (by omega)
  have h' : impl_necksCode_p0 xs xs xs.length 0 = _ := h
  rw [h', List.drop_zero, impl_few_eq]
  simp only [Option.bind_some]
  split
  · by_cases hl : (xs.length : Int) ≤ 64 <;> simp [hl]
  · rfl
theorem spec_l10DrawOk_ok {s : T_l00Src.ty} {c : Int} (hs : SrcOk s c) (hc : c ≤ 100000000000000000) : ∃ (x : T_Neck.ty) (s' : T_l00Src.ty), spec_l10DrawOk s = some (x, s') ∧ SrcOk s' (c + 8) := by
  obtain ⟨v1, s1, e1, k1, _⟩ := pick_ok hs (by omega) 40 (by omega)
  obtain ⟨v2, s2, e2, k2, _⟩ := pick_ok k1 (by omega) 40 (by omega)
  obtain ⟨v3, s3, e3, k3, _⟩ := pick_ok k2 (by omega) 50 (by omega)
  obtain ⟨v4, s4, e4, k4, _⟩ := pick_ok k3 (by omega) 90 (by omega)
  rw [spec_l10DrawOk_eq]
  simp only [e1, e2, e3, e4, Option.bind_some, src_eta]
  exact ⟨_, s4, rfl, k4.up (by omega)⟩
theorem spec_l10Draw_ok {s : T_l00Src.ty} {c : Int} (hs : SrcOk s c) (hc : c ≤ 10000000000000000) : ∃ (x : T_Neck.ty) (s' : T_l00Src.ty), spec_l10Draw s = some (x, s') ∧ SrcOk s' (c + 12) := by
  obtain ⟨x, s1, e1, k1⟩ := spec_l10DrawOk_ok hs (by omega)
  obtain ⟨v, s2, e2, k2, _⟩ := pick_ok k1 (by omega) 20 (by omega)
  obtain ⟨a1, t1, f1, g1, _⟩ := among_ok k2 (by omega) [99, 100, 10000, 10001] (by decide) (by decide)
  obtain ⟨a2, t2, f2, g2, _⟩ := among_ok k2 (by omega) [(-1), 0, 500, 501] (by decide) (by decide)
  obtain ⟨a3, t3, f3, g3, _⟩ := among_ok k2 (by omega) [(-1), 0, 300, 301] (by decide) (by decide)
  rw [spec_l10Draw_eq]
  simp only [e1, e2, f1, f2, f3, Option.bind_some, src_eta]
  repeat' split
  all_goals exact ⟨_, _, rfl, SrcOk.up (by first | exact g1 | exact g2 | exact g3 | exact k2) (by omega)⟩
theorem spec_l10DrawList_p1_ok (s : T_l00Src.ty) (n : Int) (hn : n ≤ 65) (a b c d : Int) : ∀ (k : Nat) (r : List T_Neck.ty), n - r.length ≤ k → r.length ≤ 100 →
    ∃ r' : List T_Neck.ty, spec_l10DrawList_p1 n s.1 s.2.1 s.2.2.1 r a b c d = some (r', s) ∧ r'.length ≤ 100
  | k, r, hk, hr => by
    rw [spec_l10DrawList_p1_eq]
    by_cases hlt : (r.length : Int) < n
    · have hl : r.length + 1 < lim := by rw [lim_eq]; omega
      cases k with
      | zero => omega
      | succ k =>
        simp only [hlt, hl, decide_true, if_true, List.take_length]
        exact spec_l10DrawList_p1_ok s n hn a b c d k (r ++ [(a, b, c, d, ())]) (by simp; omega) (by simp; omega)
    · simp only [hlt, decide_false, Bool.false_eq_true, if_false, List.take_length]
      exact ⟨r, rfl, hr⟩
theorem spec_l10DrawList_p0_ok : ∀ (k : Nat) (n : Int) (s : T_l00Src.ty) (c : Int) (r : List T_Neck.ty), n ≤ k → SrcOk s c → c + 12 * k ≤ 1000000000000000 → r.length + k ≤ 50 →
    ∃ (r' : List T_Neck.ty) (s' : T_l00Src.ty), spec_l10DrawList_p0 n s.1 s.2.1 s.2.2.1 r = some (r', s') ∧ SrcOk s' (c + 12 * k + 20) ∧ r'.length ≤ 100
  | k, n, s, c, r, hk, hs, hc, hr => by
    rw [spec_l10DrawList_p0_eq]
    by_cases hp : n > 0
    · cases k with
      | zero => omega
      | succ k =>
        obtain ⟨x, s1, e1, k1⟩ := spec_l10Draw_ok hs (by omega)
        have hl : r.length + 1 < lim := by rw [lim_eq]; omega
        simp only [hp, hl, decide_true, if_true, src_eta, e1, Option.bind_some, List.take_length]
        rw [w64 (n := n - 1) (by omega) (by omega)]
        obtain ⟨r', s', f1, f2, f3⟩ := spec_l10DrawList_p0_ok k (n - 1) s1 (c + 12) (r ++ [(x.1, x.2.1, x.2.2.1, x.2.2.2.1, ())]) (by omega) k1 (by omega) (by simp; omega)
        exact ⟨r', s', f1, f2.up (by omega), f3⟩
    · obtain ⟨b, s2, e2, k2⟩ := one_ok hs (by omega) 16 (by omega)
      obtain ⟨v, s3, e3, k3, hv⟩ := among_ok k2 (by omega) [64, 65] (by decide) (by decide)
      obtain ⟨x, s4, e4, k4⟩ := spec_l10DrawOk_ok k3 (by omega)
      have hv' : v ≤ 65 := by simp at hv; omega
      obtain ⟨r', g1, g2⟩ := spec_l10DrawList_p1_ok s4 v hv' x.1 x.2.1 x.2.2.1 x.2.2.2.1 65 [] (by simp; omega) (by simp)
      simp only [hp, decide_false, Bool.false_eq_true, if_false, src_eta, e2, e3, e4, Option.bind_some, List.take_length, g1]
      cases b
      · exact ⟨r, s2, rfl, k2.up (by omega), by omega⟩
      · exact ⟨r', s4, rfl, k4.up (by omega), g2⟩
theorem spec_l10DrawList_ok {s : T_l00Src.ty} {c : Int} (hs : SrcOk s c) (hc : c ≤ 100000000000000) : ∃ (r : List T_Neck.ty) (s' : T_l00Src.ty), spec_l10DrawList s = some (r, s') ∧ SrcOk s' (c + 200) ∧ r.length ≤ 100 := by
  obtain ⟨v, s1, e1, k1, b1, b2⟩ := pick_ok hs (by omega) 6 (by omega)
  obtain ⟨r, s2, f1, f2, f3⟩ := spec_l10DrawList_p0_ok 6 v s1 (c + 2) [] (by omega) k1 (by omega) (by simp)
  rw [spec_l10DrawList_eq]
  simp only [e1, Option.bind_some, f1]
  exact ⟨r, s2, rfl, f2.up (by omega), f3⟩
theorem spec_DrawNearestNeck_ok (code : List Int) (h1 : ∀ x, x ∈ code → 0 ≤ x ∧ x ≤ 255) (h2 : code.length ≤ 1048576) : ∃ (r : List T_Neck.ty) (x : T_Neck.ty), spec_DrawNearestNeck code = some (r, x) ∧ r.length ≤ 100 := by
  obtain ⟨s, e0, k0⟩ := from_ok code h1 h2
  obtain ⟨r, s1, e1, k1, hr⟩ := spec_l10DrawList_ok k0 (by omega)
  obtain ⟨x, s2, e2, k2⟩ := spec_l10Draw_ok k1 (by omega)
  rw [spec_DrawNearestNeck_eq]
  simp only [e0, e1, e2, Option.bind_some, src_eta, List.take_length]
  exact ⟨r, x, rfl, hr⟩
theorem spec_l10DrawHeight_ok {s : T_l00Src.ty} {c : Int} (hs : SrcOk s c) (hc : c ≤ 100000000000000) : ∃ (x : Int) (s' : T_l00Src.ty), spec_l10DrawHeight s = some (x, s') ∧ SrcOk s' (c + 4) := by
  obtain ⟨b, s1, e1, k1⟩ := one_ok hs (by omega) 8 (by omega)
  obtain ⟨v, s2, e2, k2, _⟩ := among_ok k1 (by omega) [(-1), 0, 2000, 2001] (by decide) (by decide)
  obtain ⟨u, s3, e3, k3, _⟩ := pick_ok k1 (by omega) 200 (by omega)
  rw [spec_l10DrawHeight_eq]
  simp only [e1, e2, e3, Option.bind_some, src_eta]
  cases b
  · exact ⟨_, s3, rfl, k3.up (by omega)⟩
  · exact ⟨_, s2, rfl, k2.up (by omega)⟩
theorem spec_DrawSetNecks_ok (code : List Int) (h1 : ∀ x, x ∈ code → 0 ≤ x ∧ x ≤ 255) (h2 : code.length ≤ 1048576) : ∃ (r : List T_Neck.ty) (h o : Int), spec_DrawSetNecks code = some (r, h, o) ∧ r.length ≤ 100 := by
  obtain ⟨s, e0, k0⟩ := from_ok code h1 h2
  obtain ⟨r, s1, e1, k1, hr⟩ := spec_l10DrawList_ok k0 (by omega)
  obtain ⟨x, s2, e2, k2⟩ := spec_l10DrawHeight_ok k1 (by omega)
  obtain ⟨v, s3, e3, k3, _⟩ := among_ok k2 (by omega) [0, 5, 20, 60, 1000, 1001, (-1)] (by decide) (by decide)
  rw [spec_DrawSetNecks_eq]
  simp only [e0, e1, e2, e3, Option.bind_some, src_eta, List.take_length]
  exact ⟨r, x, v, rfl, hr⟩
theorem spec_DrawHeightsAlong_ok (code : List Int) (h1 : ∀ x, x ∈ code → 0 ≤ x ∧ x ≤ 255) (h2 : code.length ≤ 1048576) : ∃ a b c : Int, spec_DrawHeightsAlong code = some (a, b, c) := by
  obtain ⟨s, e0, k0⟩ := from_ok code h1 h2
  obtain ⟨x, s1, e1, k1⟩ := spec_l10DrawHeight_ok k0 (by omega)
  obtain ⟨y, s2, e2, k2⟩ := spec_l10DrawHeight_ok k1 (by omega)
  obtain ⟨v, s3, e3, k3, _⟩ := among_ok k2 (by omega) [0, 1, 2, 5, 12, 24, 25] (by decide) (by decide)
  rw [spec_DrawHeightsAlong_eq]
  simp only [e0, e1, e2, e3, Option.bind_some, src_eta]
  exact ⟨x, y, v, rfl⟩
def potOk (id : List UInt8) (dry water heat hours : Int) : Bool :=
  isName id && (inR dry 1 10000 && (inR water 1 10000 && (inR heat 20 95 && inR hours 0 1000)))
def potOpen (dry water heat room : Int) : Int := if rdivP (60 * water) dry + 2 * (room - 15) + heat - 60 > 0 then rdivP (60 * water) dry + 2 * (room - 15) + heat - 60 else 0
theorem inR_iff {n lo hi : Int} : inR n lo hi = true ↔ lo ≤ n ∧ n ≤ hi := by simp [inR]
theorem potOk_iff {id : List UInt8} {dry water heat hours : Int} : potOk id dry water heat hours = true ↔ isName id = true ∧ (1 ≤ dry ∧ dry ≤ 10000) ∧ (1 ≤ water ∧ water ≤ 10000) ∧ (20 ≤ heat ∧ heat ≤ 95) ∧ 0 ≤ hours ∧ hours ≤ 1000 := by
  simp [potOk, inR_iff]
theorem open_bounds {dry water : Int} (h1 : 1 ≤ dry) (h2 : 0 ≤ water ∧ water ≤ 100000) : 0 ≤ rdivP (60 * water) dry ∧ rdivP (60 * water) dry ≤ 6000001 := by
  have := rdivP_nonneg (a := 60 * water) (b := dry) (by omega) (by omega)
  have := rdivP_le (a := 60 * water) (b := dry) (by omega) (by omega)
  omega
theorem potOpen_bounds {dry water heat room : Int} (h1 : 1 ≤ dry) (h2 : 0 ≤ water ∧ water ≤ 100000) (h3 : 20 ≤ heat ∧ heat ≤ 95) (h4 : 0 ≤ room ∧ room ≤ 40) : 0 ≤ potOpen dry water heat room ∧ potOpen dry water heat room ≤ 7000000 := by
  have := open_bounds h1 h2
  unfold potOpen
  split <;> omega
def potOkT (x : T_Pot.ty) : Bool := potOk x.1 x.2.1 x.2.2.1 x.2.2.2.1 x.2.2.2.2.1
def potsOk (xs : List T_Pot.ty) : Bool := sortedChk potOkT (fun x => x.1) none xs && decide ((xs.length : Int) ≤ 8)
theorem potsOk_all {xs : List T_Pot.ty} (h : potsOk xs = true) (x : T_Pot.ty) (hx : x ∈ xs) : potOkT x = true := by
  simp only [potsOk, Bool.and_eq_true] at h
  exact sortedChk_all h.1 x hx
def potStrong (dry water heat hours : Int) : Int :=
  if rdivP (1000 * dry) (dry + water) - 2 * hours - 10 * (if heat - 70 > 0 then heat - 70 else 0) > 0 then rdivP (1000 * dry) (dry + water) - 2 * hours - 10 * (if heat - 70 > 0 then heat - 70 else 0) else 0
theorem strong_bounds {dry water heat hours : Int} (h1 : 1 ≤ dry ∧ dry ≤ 10000) (h2 : 1 ≤ water ∧ water ≤ 100000) (h3 : 20 ≤ heat ∧ heat ≤ 95) (h4 : 0 ≤ hours ∧ hours ≤ 100000) :
    0 ≤ rdivP (1000 * dry) (dry + water) ∧ rdivP (1000 * dry) (dry + water) ≤ 10000001 ∧ 0 ≤ potStrong dry water heat hours ∧ potStrong dry water heat hours ≤ 10000001 := by
  have := rdivP_nonneg (a := 1000 * dry) (b := dry + water) (by omega) (by omega)
  have := rdivP_le (a := 1000 * dry) (b := dry + water) (by omega) (by omega)
  refine ⟨by omega, by omega, ?_⟩
  unfold potStrong
  constructor <;> repeat' split
  all_goals omega
def potHolds (dry water heat hours pull area : Int) : Bool := decide (pull ≤ potStrong dry water heat hours * area / 100)
theorem holds_bounds {s area : Int} (h1 : 0 ≤ s ∧ s ≤ 10000001) (h2 : 1 ≤ area ∧ area ≤ 100000) : 0 ≤ s * area ∧ s * area ≤ 1000000100000 ∧ IntKind.i64.wrap ((IntKind.i64.wrap (s * area)).tdiv 100) = s * area / 100 := by
  have e1 : 0 ≤ s * area := Int.mul_nonneg h1.1 (by omega)
  have e2 : s * area ≤ 10000001 * 100000 := Int.mul_le_mul h1.2 h2.2 (by omega) (by omega)
  refine ⟨e1, by omega, ?_⟩
  rw [w64 (n := s * area) (by omega) (by omega), tdiv_nonneg_eq e1, w64 (by omega) (by omega)]
theorem potOpen_mono {dry water water' heat room : Int} (h1 : 1 ≤ dry) (h2 : 0 ≤ water) (h : water ≤ water') : potOpen dry water heat room ≤ potOpen dry water' heat room := by
  have := rdivP_mono (a := 60 * water) (a' := 60 * water') (b := dry) (by omega) (by omega) (by omega)
  unfold potOpen
  split <;> split <;> omega
theorem szOne {α : Type} (n : Nat) (f : α → Int → Option Int) (x : α) (hx : n ≤ 9223372036854775807) (l : Int) (h : f x l = if decide (IntKind.i64.wrap (l - (n : Int)) < 0) then some (-1) else some (IntKind.i64.wrap (l - (n : Int)))) (h0 : 0 ≤ l) (h1 : l ≤ 1048576) :
    ∃ r, f x l = some r ∧ r ≤ l ∧ (0 ≤ r → n ≤ 1048576) := by
  rw [h, w64 (n := l - n) (by omega) (by omega)]
  by_cases hn : l - (n : Int) < 0
  · simp only [hn, decide_true, if_true]; exact ⟨-1, rfl, by omega, fun h => by omega⟩
  · simp only [hn, decide_false, Bool.false_eq_true, if_false]; exact ⟨_, rfl, by omega, fun h => by omega⟩
theorem szTwo {α : Type} (n m : Nat) (f : α → Int → Option Int) (x : α) (hx : n ≤ 9223372036854775807) (hm : m ≤ 9223372036854775807) (l : Int) (h : f x l = if decide (IntKind.i64.wrap (l - (n : Int)) < 0) then some (-1) else if decide (IntKind.i64.wrap ((IntKind.i64.wrap (l - (n : Int))) - (m : Int)) < 0) then some (-1) else some (IntKind.i64.wrap ((IntKind.i64.wrap (l - (n : Int))) - (m : Int)))) (h0 : 0 ≤ l) (h1 : l ≤ 1048576) :
    ∃ r, f x l = some r ∧ r ≤ l ∧ (0 ≤ r → n ≤ 1048576 ∧ m ≤ 1048576) := by
  rw [h, w64 (n := l - n) (by omega) (by omega)]
  by_cases hn : l - (n : Int) < 0
  · simp only [hn, decide_true, if_true]; exact ⟨-1, rfl, by omega, fun h => by omega⟩
  simp only [hn, decide_false, Bool.false_eq_true, if_false]
  rw [w64 (n := l - n - m) (by omega) (by omega)]
  by_cases hn2 : l - (n : Int) - m < 0
  · simp only [hn2, decide_true, if_true]; exact ⟨-1, rfl, by omega, fun h => by omega⟩
  · simp only [hn2, decide_false, Bool.false_eq_true, if_false]; exact ⟨_, rfl, by omega, fun h => ⟨by omega, by omega⟩⟩
def stackOk (x : T_Peg.ty) : Bool := isName x.1 && (inR x.2.1 0 1000 && (inR x.2.2.1 10 1000 && (inR x.2.2.2.1 0 36524)))
def stacksOk (xs : List T_Peg.ty) : Bool := sortedChk stackOk (fun x => x.1) none xs && decide ((xs.length : Int) ≤ 12)
theorem stacksOk_all {xs : List T_Peg.ty} (h : stacksOk xs = true) (x : T_Peg.ty) (hx : x ∈ xs) : stackOk x = true := by
  simp only [stacksOk, Bool.and_eq_true] at h
  exact sortedChk_all h.1 x hx
def ribOk (x : T_Mode.ty) : Bool := isName x.1 && (inR x.2.1 1 10000 && (inR x.2.2.1 1 10000))
def ribsOk (xs : List T_Mode.ty) : Bool := sortedChk ribOk (fun x => x.1) none xs && decide ((xs.length : Int) ≤ 8)
theorem ribsOk_all {xs : List T_Mode.ty} (h : ribsOk xs = true) (x : T_Mode.ty) (hx : x ∈ xs) : ribOk x = true := by
  simp only [ribsOk, Bool.and_eq_true] at h
  exact sortedChk_all h.1 x hx
def pegOk (x : T_Peg.ty) : Bool := isName x.1 && (inR x.2.1 20 200 && (inR x.2.2.1 100 1000 && (inR x.2.2.2.1 10 100)))
def pegsOk (xs : List T_Peg.ty) : Bool := sortedChk pegOk (fun x => x.1) none xs && decide ((xs.length : Int) ≤ 8)
theorem pegsOk_all {xs : List T_Peg.ty} (h : pegsOk xs = true) (x : T_Peg.ty) (hx : x ∈ xs) : pegOk x = true := by
  simp only [pegsOk, Bool.and_eq_true] at h
  exact sortedChk_all h.1 x hx
def modeOk (x : T_Mode.ty) : Bool := isName x.1 && (inR x.2.1 1000 100000 && (inR x.2.2.1 1 500))
def modesOk (xs : List T_Mode.ty) : Bool := sortedChk modeOk (fun x => x.1) none xs && decide ((xs.length : Int) ≤ 10)
theorem modesOk_all {xs : List T_Mode.ty} (h : modesOk xs = true) (x : T_Mode.ty) (hx : x ∈ xs) : modeOk x = true := by
  simp only [modesOk, Bool.and_eq_true] at h
  exact sortedChk_all h.1 x hx
def workOk (x : T_Peg.ty) : Bool := isName x.1 && (inR x.2.1 1 40 && (inR x.2.2.1 0 39 && (inR x.2.2.2.1 0 39 && (decide (IntKind.i64.wrap ((IntKind.i64.wrap (x.2.2.1 + x.2.1)) - 1) ≤ x.2.2.2.1)))))
def worksOk (xs : List T_Peg.ty) : Bool := sortedChk workOk (fun x => x.1) none xs && decide ((xs.length : Int) ≤ 8)
theorem worksOk_all {xs : List T_Peg.ty} (h : worksOk xs = true) (x : T_Peg.ty) (hx : x ∈ xs) : workOk x = true := by
  simp only [worksOk, Bool.and_eq_true] at h
  exact sortedChk_all h.1 x hx
def paperOk (x : T_Paper.ty) : Bool := isName x.1 && (isName x.2.1 && (decide (1500 ≤ x.2.2.1) && (decide (x.2.2.1 ≤ x.2.2.2.1) && (decide (x.2.2.2.1 ≤ 2100) && inR x.2.2.2.2.1 1 1000))))
def papersOk (xs : List T_Paper.ty) : Bool := sortedChk paperOk (fun x => x.1) none xs && decide ((xs.length : Int) ≤ 12)
theorem papersOk_all {xs : List T_Paper.ty} (h : papersOk xs = true) (x : T_Paper.ty) (hx : x ∈ xs) : paperOk x = true := by
  simp only [papersOk, Bool.and_eq_true] at h
  exact sortedChk_all h.1 x hx
end Go.Ab.P
