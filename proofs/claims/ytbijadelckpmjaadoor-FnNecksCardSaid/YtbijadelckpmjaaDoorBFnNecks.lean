/- Lemmas on functions of the program. Conditions: told in each. -/
import Derived.Test.YtbijadelckpmjaaDoorPFnNecks
set_option linter.unusedVariables false
set_option linter.unusedSimpArgs false
namespace Go.Ab.P
open Go.Ab
/-- The sizes of a list's elements: what is left. -/
theorem szLoop {α : Type} {P : α → Prop} (xs : List α) (sz1 : α → Int → Option Int) (p0 : List α → Int → Int → Option Int)
    (heq : ∀ (l i : Int), p0 xs l i = if decide (i < (xs.length : Int)) then (if decide (0 ≤ i) then (xs[i.toNat]?).bind fun x1 => (sz1 x1 l).bind fun x2 => if decide (x2 < 0) then some (-1) else p0 xs x2 (IntKind.i64.wrap (i + 1)) else none) else some l)
    (hs : xs.length ≤ 1048576) (h1 : ∀ x, x ∈ xs → ∀ l : Int, 0 ≤ l → l ≤ 1048576 → ∃ n, sz1 x l = some n ∧ n ≤ l ∧ (0 ≤ n → P x)) :
    ∀ (k i : Nat) (l : Int), i + k = xs.length → 0 ≤ l → l ≤ 1048576 → ∃ n, p0 xs l i = some n ∧ n ≤ l ∧ (0 ≤ n → ∀ x, x ∈ xs.drop i → P x)
  | 0, i, l, hk, hl, hl' => by
    refine ⟨l, ?_, Int.le_refl _, fun _ x hx => ?_⟩
    · rw [heq]
      have : ¬ (i : Int) < (xs.length : Int) := by omega
      simp only [this, decide_false, Bool.false_eq_true, if_false]
    · rw [List.drop_eq_nil_of_le (by omega)] at hx; cases hx
  | k + 1, i, l, hk, hl, hl' => by
    have hi : i < xs.length := by omega
    have hlt : (i : Int) < (xs.length : Int) := by omega
    obtain ⟨n, e1, e2, e3⟩ := h1 xs[i] (List.getElem_mem hi) l hl hl'
    rw [heq]
    simp only [hlt, decide_true, if_true, Int.natCast_nonneg, Int.toNat_natCast, List.getElem?_eq_getElem hi, Option.bind_some, e1]
    by_cases hn : n < 0
    · simp only [hn, decide_true, if_true]
      exact ⟨-1, rfl, by omega, fun h => by omega⟩
    · simp only [hn, decide_false, Bool.false_eq_true, if_false]
      have hw : IntKind.i64.wrap ((i : Int) + 1) = ((i + 1 : Nat) : Int) := by rw [w64 (by omega) (by omega)]; omega
      rw [hw]
      obtain ⟨q, f1, f2, f3⟩ := szLoop xs sz1 p0 heq hs h1 k (i + 1) n (by omega) (by omega) (by omega)
      refine ⟨q, f1, by omega, fun hq x hx => ?_⟩
      rw [List.drop_eq_getElem_cons hi] at hx
      rcases List.mem_cons.1 hx with rfl | hx
      · exact e3 (by omega)
      · exact f3 hq x hx
theorem szList {α : Type} {P : α → Prop} (xs : List α) (sz1 : α → Int → Option Int) (p0 : List α → Int → Int → Option Int) (szS : List α → Int → Option Int)
    (heq : ∀ (l i : Int), p0 xs l i = if decide (i < (xs.length : Int)) then (if decide (0 ≤ i) then (xs[i.toNat]?).bind fun x1 => (sz1 x1 l).bind fun x2 => if decide (x2 < 0) then some (-1) else p0 xs x2 (IntKind.i64.wrap (i + 1)) else none) else some l)
    (hS : ∀ l : Int, szS xs l = if decide (IntKind.i64.wrap (l - (xs.length : Int)) < 0) then some (-1) else p0 xs (IntKind.i64.wrap (l - (xs.length : Int))) 0)
    (hl : xs.length ≤ 9223372036854775807) (h1 : ∀ x, x ∈ xs → ∀ l : Int, 0 ≤ l → l ≤ 1048576 → ∃ n, sz1 x l = some n ∧ n ≤ l ∧ (0 ≤ n → P x)) (l : Int) (h0 : 0 ≤ l) (h0' : l ≤ 1048576) :
    ∃ n, szS xs l = some n ∧ n ≤ l ∧ (0 ≤ n → xs.length ≤ 1048576 ∧ ∀ x, x ∈ xs → P x) := by
  rw [hS, w64 (n := l - xs.length) (by omega) (by omega)]
  by_cases hn : l - (xs.length : Int) < 0
  · simp only [hn, decide_true, if_true]
    exact ⟨-1, rfl, by omega, fun h => by omega⟩
  · simp only [hn, decide_false, Bool.false_eq_true, if_false]
    obtain ⟨q, f1, f2, f3⟩ := szLoop xs sz1 p0 heq (by omega) h1 xs.length 0 (l - xs.length) (by omega) (by omega) (by omega)
    exact ⟨q, f1, by omega, fun hq => ⟨by omega, fun x hx => f3 hq x hx⟩⟩
/-- A list made element by element is the list. -/
theorem toLoop {α : Type} (xs : List α) (to1 : α → Option α) (p0 : List α → Nat → Int → List α → Option (List α))
    (heq : ∀ (n : Nat) (i : Int) (r : List α), p0 xs n i r = if decide (i < (xs.length : Int)) then (if decide (0 ≤ i) then (xs[i.toNat]?).bind fun x1 => (to1 x1).bind fun x2 => if decide (0 ≤ i) && decide (i < (n : Int)) then (r[i.toNat]?).bind fun x3 => p0 xs n (IntKind.i64.wrap (i + 1)) (r.set i.toNat x2) else none else none) else some (r.take n))
    (hs : xs.length ≤ 1099511627776) (h1 : ∀ x, x ∈ xs → to1 x = some x) :
    ∀ (k i : Nat) (r : List α), i + k = xs.length → r.length = xs.length → r.take i = xs.take i → p0 xs xs.length i r = some xs
  | 0, i, r, hk, hr, ht => by
    rw [heq]
    have : ¬ (i : Int) < (xs.length : Int) := by omega
    simp only [this, decide_false, Bool.false_eq_true, if_false]
    have hi : i = xs.length := by omega
    rw [hi] at ht
    rw [ht, List.take_length]
  | k + 1, i, r, hk, hr, ht => by
    have hi : i < xs.length := by omega
    have hlt : (i : Int) < (xs.length : Int) := by omega
    have hw : IntKind.i64.wrap ((i : Int) + 1) = ((i + 1 : Nat) : Int) := by rw [w64 (by omega) (by omega)]; omega
    rw [heq]
    simp only [hlt, decide_true, if_true, Int.natCast_nonneg, Int.toNat_natCast, List.getElem?_eq_getElem hi, Option.bind_some, h1 xs[i] (List.getElem_mem hi), Bool.and_self, List.getElem?_eq_getElem (show i < r.length by omega), hw]
    refine toLoop xs to1 p0 heq hs h1 k (i + 1) (r.set i xs[i]) (by omega) (by simp [hr]) ?_
    rw [List.take_add_one, List.take_add_one, List.getElem?_set_self (by omega), List.getElem?_eq_getElem hi, List.take_set_of_le (by omega), ht]
theorem toList_ok {α : Type} (xs : List α) (z : α) (to1 : α → Option α) (p0 : List α → Nat → Int → List α → Option (List α)) (toS : List α → Option (List α))
    (heq : ∀ (n : Nat) (i : Int) (r : List α), p0 xs n i r = if decide (i < (xs.length : Int)) then (if decide (0 ≤ i) then (xs[i.toNat]?).bind fun x1 => (to1 x1).bind fun x2 => if decide (0 ≤ i) && decide (i < (n : Int)) then (r[i.toNat]?).bind fun x3 => p0 xs n (IntKind.i64.wrap (i + 1)) (r.set i.toNat x2) else none else none) else some (r.take n))
    (hS : toS xs = if decide (0 ≤ (xs.length : Int)) && decide ((xs.length : Int) ≤ (xs.length : Int)) && decide ((xs.length : Int) < (lim : Int)) then p0 xs ((List.replicate ((xs.length : Int).toNat) z).length) 0 (List.replicate ((xs.length : Int).toNat) z) else none)
    (hs : xs.length ≤ 1048576) (h1 : ∀ x, x ∈ xs → to1 x = some x) : toS xs = some xs := by
  rw [hS, lim_eq]
  have h2 : (xs.length : Int) < ((1099511627776 : Nat) : Int) := by omega
  have h3 : (xs.length : Int) ≤ (xs.length : Int) := Int.le_refl _
  simp only [h2, h3, Int.natCast_nonneg, decide_true, Bool.and_self, if_true, Int.toNat_natCast, List.length_replicate]
  exact toLoop xs to1 p0 heq (by omega) h1 xs.length 0 _ (by omega) (by simp) (by simp)
/-- A list is equal to itself. -/
theorem eqLoop {α : Type} (xs : List α) (eq1 : α → α → Option Bool) (p0 : List α → List α → Int → Option Bool)
    (heq : ∀ (i : Int), p0 xs xs i = if decide (i < (xs.length : Int)) then (if decide (0 ≤ i) then (xs[i.toNat]?).bind fun x1 => if decide (0 ≤ i) then (xs[i.toNat]?).bind fun x2 => (eq1 x1 x2).bind fun x3 => if (!x3) then some false else p0 xs xs (IntKind.i64.wrap (i + 1)) else none else none) else some true)
    (hs : xs.length ≤ 1048576) (h1 : ∀ x, x ∈ xs → eq1 x x = some true) : ∀ (k i : Nat), i + k = xs.length → p0 xs xs i = some true
  | 0, i, hk => by
    rw [heq]
    have : ¬ (i : Int) < (xs.length : Int) := by omega
    simp only [this, decide_false, Bool.false_eq_true, if_false]
  | k + 1, i, hk => by
    have hi : i < xs.length := by omega
    have hlt : (i : Int) < (xs.length : Int) := by omega
    have hw : IntKind.i64.wrap ((i : Int) + 1) = ((i + 1 : Nat) : Int) := by rw [w64 (by omega) (by omega)]; omega
    rw [heq]
    simp only [hlt, decide_true, if_true, Int.natCast_nonneg, Int.toNat_natCast, List.getElem?_eq_getElem hi, Option.bind_some, h1 xs[i] (List.getElem_mem hi), Bool.not_true, Bool.false_eq_true, if_false, hw]
    exact eqLoop xs eq1 p0 heq hs h1 k (i + 1) (by omega)
theorem eqList_ok {α : Type} (xs : List α) (eq1 : α → α → Option Bool) (p0 : List α → List α → Int → Option Bool) (eqS : List α → List α → Option Bool)
    (heq : ∀ (i : Int), p0 xs xs i = if decide (i < (xs.length : Int)) then (if decide (0 ≤ i) then (xs[i.toNat]?).bind fun x1 => if decide (0 ≤ i) then (xs[i.toNat]?).bind fun x2 => (eq1 x1 x2).bind fun x3 => if (!x3) then some false else p0 xs xs (IntKind.i64.wrap (i + 1)) else none else none) else some true)
    (hS : eqS xs xs = if ((xs.length : Int) != (xs.length : Int)) then some false else p0 xs xs 0)
    (hs : xs.length ≤ 1048576) (h1 : ∀ x, x ∈ xs → eq1 x x = some true) : eqS xs xs = some true := by
  rw [hS]
  simp only [bne_self_eq_false, Bool.false_eq_true, if_false]
  exact eqLoop xs eq1 p0 heq hs h1 xs.length 0 (by omega)
/-- A list whose elements are all as wished, their names rising. -/
def sortedChk {α : Type} (ok : α → Bool) (id : α → List UInt8) : Option α → List α → Bool
  | _, [] => true
  | p, x :: r => ok x && ((match p with | none => true | some y => Op.bytesLess (id y) (id x)) && sortedChk ok id (some x) r)
theorem sortedChk_all {α : Type} {ok : α → Bool} {id : α → List UInt8} : ∀ {l : List α} {p : Option α}, sortedChk ok id p l = true → ∀ x, x ∈ l → ok x = true
  | [], _, _, x, hx => by cases hx
  | y :: r, p, h, x, hx => by
    simp only [sortedChk, Bool.and_eq_true] at h
    rcases List.mem_cons.1 hx with rfl | hx
    · exact h.1
    · exact sortedChk_all h.2.2 x hx
theorem sortedLoopI {α : Type} (xs : List α) (one : α → Option Bool) (ok : α → Bool) (id : α → List UInt8) (p0 : Int → Option Bool) (last : Option Bool) (lb : Bool) (hlast : last = some lb)
    (heq : ∀ i : Int, p0 i = if decide (i < (xs.length : Int)) then (if decide (0 ≤ i) then (xs[i.toNat]?).bind fun x1 => (one x1).bind fun x2 => if (!x2) then some false else if decide (i > 0) then (if decide (0 ≤ IntKind.i64.wrap (i - 1)) then (xs[(IntKind.i64.wrap (i - 1)).toNat]?).bind fun x3 => if (!Op.bytesLess (id x3) (id x1)) then some false else p0 (IntKind.i64.wrap (i + 1)) else none) else p0 (IntKind.i64.wrap (i + 1)) else none) else last)
    (hs : xs.length ≤ 1048576) (h1 : ∀ x, x ∈ xs → one x = some (ok x)) :
    ∀ (k i : Nat), i + k = xs.length → p0 i = some (sortedChk ok id (if i = 0 then none else xs[i - 1]?) (xs.drop i) && lb)
  | 0, i, hk => by
    rw [heq, List.drop_eq_nil_of_le (by omega)]
    have : ¬ (i : Int) < (xs.length : Int) := by omega
    simp only [this, decide_false, Bool.false_eq_true, if_false, hlast, sortedChk, Bool.true_and]
  | k + 1, i, hk => by
    have hi : i < xs.length := by omega
    have hlt : (i : Int) < (xs.length : Int) := by omega
    have hw : IntKind.i64.wrap ((i : Int) + 1) = ((i + 1 : Nat) : Int) := by rw [w64 (by omega) (by omega)]; omega
    have ih := sortedLoopI xs one ok id p0 last lb hlast heq hs h1 k (i + 1) (by omega)
    rw [if_neg (by omega), Nat.add_sub_cancel, List.getElem?_eq_getElem hi] at ih
    rw [heq, List.drop_eq_getElem_cons hi]
    simp only [hlt, decide_true, if_true, Int.natCast_nonneg, Int.toNat_natCast, List.getElem?_eq_getElem hi, Option.bind_some, h1 xs[i] (List.getElem_mem hi), hw, ih, sortedChk]
    cases hok : ok xs[i]
    · simp
    · by_cases h0 : i = 0
      · subst h0; simp
      · have hp : (i : Int) > 0 := by omega
        have hw2 : IntKind.i64.wrap ((i : Int) - 1) = ((i - 1 : Nat) : Int) := by rw [w64 (by omega) (by omega)]; omega
        simp only [hp, decide_true, if_true, hw2, Int.natCast_nonneg, Int.toNat_natCast, List.getElem?_eq_getElem (show i - 1 < xs.length by omega), Option.bind_some, h0, if_false, Bool.not_true, Bool.false_eq_true]
        cases Op.bytesLess (id xs[i - 1]) (id xs[i]) <;> simp
theorem sortedLoopS {α : Type} (xs : List α) (one : α → Option Bool) (ok : α → Bool) (id : α → List UInt8) (p0 : Int → Option Bool) (last : Option Bool) (lb : Bool) (hlast : last = some lb)
    (heq : ∀ i : Int, p0 i = if decide (i < (xs.length : Int)) then (if decide (0 ≤ i) then (xs[i.toNat]?).bind fun x1 => (one x1).bind fun x2 => if (!x2) then some false else if decide (i > 0) then (if decide (0 ≤ IntKind.i64.wrap (i - 1)) then (xs[(IntKind.i64.wrap (i - 1)).toNat]?).bind fun x3 => if decide (0 ≤ i) then (xs[i.toNat]?).bind fun x4 => if (!Op.bytesLess (id x3) (id x4)) then some false else p0 (IntKind.i64.wrap (i + 1)) else none else none) else p0 (IntKind.i64.wrap (i + 1)) else none) else last)
    (hs : xs.length ≤ 1048576) (h1 : ∀ x, x ∈ xs → one x = some (ok x)) :
    ∀ (k i : Nat), i + k = xs.length → p0 i = some (sortedChk ok id (if i = 0 then none else xs[i - 1]?) (xs.drop i) && lb) := by
  refine sortedLoopI xs one ok id p0 last lb hlast (fun i => ?_) hs h1
  rw [heq]
  by_cases h : i < (xs.length : Int)
  · by_cases h0 : 0 ≤ i
    · simp only [h, h0, decide_true, if_true]
      cases xs[i.toNat]? <;> rfl
    · simp only [h, h0, decide_true, decide_false, Bool.false_eq_true, if_true, if_false]
  · simp only [h, decide_false, Bool.false_eq_true, if_false]
/-- A loop that leaves at the first element that is not as wished. -/
theorem allLoop {α β : Type} (xs : List α) (one : α → Option Bool) (ok : α → Bool) (p0 : Int → Option β) (bad : β) (last : Option β)
    (heq : ∀ i : Int, p0 i = if decide (i < (xs.length : Int)) then (if decide (0 ≤ i) then (xs[i.toNat]?).bind fun x1 => (one x1).bind fun x2 => if (!x2) then some bad else p0 (IntKind.i64.wrap (i + 1)) else none) else last)
    (hs : xs.length ≤ 1099511627776) (h1 : ∀ x, x ∈ xs → one x = some (ok x)) :
    ∀ (k i : Nat), i + k = xs.length → p0 i = if (xs.drop i).all ok then last else some bad
  | 0, i, hk => by
    rw [heq, List.drop_eq_nil_of_le (by omega)]
    have : ¬ (i : Int) < (xs.length : Int) := by omega
    simp [this]
  | k + 1, i, hk => by
    have hi : i < xs.length := by omega
    have hlt : (i : Int) < (xs.length : Int) := by omega
    have hw : IntKind.i64.wrap ((i : Int) + 1) = ((i + 1 : Nat) : Int) := by rw [w64 (by omega) (by omega)]; omega
    have ih := allLoop xs one ok p0 bad last heq hs h1 k (i + 1) (by omega)
    rw [heq, List.drop_eq_getElem_cons hi]
    simp only [hlt, decide_true, if_true, Int.natCast_nonneg, Int.toNat_natCast, List.getElem?_eq_getElem hi, Option.bind_some, h1 xs[i] (List.getElem_mem hi), hw, ih, List.all_cons]
    by_cases hok : ok xs[i] = true
    · simp [hok]
    · simp [hok]
theorem wsucc {i : Nat} (h : i < 4611686018427387904) : IntKind.i64.wrap ((i : Int) + 1) = ((i + 1 : Nat) : Int) := by
  rw [w64 (by omega) (by omega)]; omega
theorem ite_both {α : Type} {c : Prop} [Decidable c] (a b : α) (h : c → a = b) : (if c then a else b) = b := by
  split
  · exact h ‹_›
  · rfl
theorem getElem?_lt {α : Type} {l : List α} {i : Nat} (h : i < l.length) : l[i]? = some l[i] := List.getElem?_eq_getElem h
theorem drop_cons {α : Type} {l : List α} {i : Nat} (h : i < l.length) : l.drop i = l[i] :: l.drop (i + 1) := List.drop_eq_getElem_cons h
/-- The nearest quotient, halves away from 0. -/
def rdivP (a b : Int) : Int := if a < 0 then -((b - 2 * a) / (2 * b)) else (2 * a + b) / (2 * b)
def rdiv (a b : Int) : Int := if b < 0 then rdivP (-a) (-b) else rdivP a b
theorem rdivP_eq {a b : Int} (ha : 0 ≤ a) (hb : 0 < b) : rdivP a b = a / b + if b - a % b ≤ a % b then 1 else 0 := by
  have h1 := Int.mul_ediv_add_emod a b
  have h2 := Int.emod_nonneg a (show b ≠ 0 by omega)
  have h3 := Int.emod_lt_of_pos a hb
  unfold rdivP
  rw [if_neg (by omega)]
  generalize a / b = q at h1 ⊢
  generalize a % b = r at h1 h2 h3 ⊢
  have key : ∀ t s : Int, 0 ≤ s → s < 2 * b → 2 * a + b = s + 2 * b * t → (2 * a + b) / (2 * b) = t := fun t s hs0 hs1 he => by
    rw [he, Int.add_mul_ediv_left s t (show 2 * b ≠ 0 by omega), Int.ediv_eq_zero_of_lt hs0 hs1]; omega
  have e : 2 * b * q = 2 * (b * q) := Int.mul_assoc 2 b q
  split
  · refine key (q + 1) (2 * r - b) (by omega) (by omega) ?_
    rw [Int.mul_add, e]; omega
  · rw [Int.add_zero]
    refine key q (2 * r + b) (by omega) (by omega) ?_
    rw [e]; omega
theorem rdivP_neg {a b : Int} (ha : 0 < a) (hb : 0 < b) : rdivP (-a) b = -rdivP a b := by
  unfold rdivP
  rw [if_pos (by omega), if_neg (by omega)]
  congr 2; omega
theorem rdivP_nonneg {a b : Int} (ha : 0 ≤ a) (hb : 0 < b) : 0 ≤ rdivP a b := by
  unfold rdivP
  rw [if_neg (by omega)]
  exact Int.ediv_nonneg (by omega) (by omega)
theorem rdivP_le {a b : Int} (ha : 0 ≤ a) (hb : 0 < b) : rdivP a b ≤ a + 1 := by
  rw [rdivP_eq ha hb]
  have := Int.ediv_le_self b ha
  split <;> omega
theorem rdivP_mono {a a' b : Int} (ha : 0 ≤ a) (h : a ≤ a') (hb : 0 < b) : rdivP a b ≤ rdivP a' b := by
  unfold rdivP
  rw [if_neg (by omega), if_neg (by omega)]
  exact Int.ediv_le_ediv (by omega) (by omega)
theorem tdiv_nonneg_eq {a b : Int} (ha : 0 ≤ a) : a.tdiv b = a / b := Int.tdiv_eq_ediv_of_nonneg ha
theorem tmod_nonneg_eq {a b : Int} (ha : 0 ≤ a) : a.tmod b = a % b := Int.tmod_eq_emod_of_nonneg ha
def small (c : UInt8) : Bool := decide (97 ≤ (c.toNat : Int)) && decide ((c.toNat : Int) ≤ 122)
def digit (c : UInt8) : Bool := decide (48 ≤ (c.toNat : Int)) && decide ((c.toNat : Int) ≤ 57)
def isName (s : List UInt8) : Bool := match s with | [] => false | c :: r => small c && r.all (fun c => small c || digit c) && decide (s.length ≤ 10)
def inR (n lo hi : Int) : Bool := decide (lo ≤ n) && decide (n ≤ hi)
theorem inR_iff' {n lo hi : Int} : inR n lo hi = true ↔ lo ≤ n ∧ n ≤ hi := by simp [inR]
theorem impl_within_ok (n lo hi : Int) : impl_within n lo hi = some (inR n lo hi) := by
  rw [impl_within_eq, inR]; by_cases h : lo ≤ n <;> simp [h]
theorem impl_divRound_ok (a b : Int) (ha : -2000000000000000000 ≤ a ∧ a ≤ 2000000000000000000) (hb : 0 < b ∧ b ≤ 2000000000000000000) : impl_divRound a b = some (rdivP a b) := by
  rw [impl_divRound_eq]
  have e1 : IntKind.i64.wrap (0 - b) = -b := by rw [w64 (by omega) (by omega)]; omega
  have e2 : IntKind.i64.wrap (0 - a) = -a := by rw [w64 (by omega) (by omega)]; omega
  have e3 : (if -b > b then -b else b) = b := by rw [if_neg (by omega)]
  have hb0 : ¬ b = 0 := by omega
  have hbn : ¬ b < 0 := by omega
  simp only [e1, e2, e3, hb0, hbn, decide_false, Bool.false_eq_true, if_false]
  have main : ∀ x : Int, 0 ≤ x → x ≤ 2000000000000000000 → x.tmod b = x % b ∧ x.tdiv b = x / b ∧ 0 ≤ x % b ∧ x % b < b ∧ 0 ≤ x / b ∧ x / b ≤ x := fun x h0 h1 =>
    ⟨tmod_nonneg_eq h0, tdiv_nonneg_eq h0, Int.emod_nonneg _ (by omega), Int.emod_lt_of_pos _ hb.1, Int.ediv_nonneg h0 (by omega), Int.ediv_le_self b h0⟩
  by_cases hneg : a < 0
  · have e4 : (if -a > a then -a else a) = -a := by rw [if_pos (by omega)]
    obtain ⟨m1, m2, m3, m4, m5, m6⟩ := main (-a) (by omega) (by omega)
    have e5 : rdivP a b = -rdivP (-a) b := by rw [← rdivP_neg (show 0 < -a by omega) hb.1]; congr 1; omega
    rw [e5, rdivP_eq (show 0 ≤ -a by omega) hb.1]
    simp only [e4, hneg, m1, m2, decide_true, Bool.true_beq, Bool.not_false, if_true]
    rw [w64 (n := b - -a % b) (by omega) (by omega), w64 (n := -a / b) (by omega) (by omega), w64 (n := -a / b + 1) (by omega) (by omega), w64 (n := 0 - (-a / b + 1)) (by omega) (by omega), w64 (n := 0 - -a / b) (by omega) (by omega)]
    simp only [decide_eq_true_eq, ge_iff_le]
    split
    · congr 1; omega
    · congr 1; omega
  · have e4 : (if -a > a then -a else a) = a := by rw [if_neg (by omega)]
    obtain ⟨m1, m2, m3, m4, m5, m6⟩ := main a (by omega) (by omega)
    rw [rdivP_eq (show 0 ≤ a by omega) hb.1]
    simp only [e4, hneg, m1, m2, decide_false, beq_self_eq_true, Bool.not_true, Bool.false_eq_true, if_false]
    rw [w64 (n := b - a % b) (by omega) (by omega), w64 (n := a / b) (by omega) (by omega), w64 (n := a / b + 1) (by omega) (by omega)]
    simp only [decide_eq_true_eq, ge_iff_le]
    split
    · rfl
    · congr 1; omega
theorem index1_none {c : UInt8} : ∀ {a : List UInt8}, c ∉ a → Lib.index a [c] = -1
  | [], _ => rfl
  | b :: l, h => by
    have h1 : (c == b) = false := by simp at h; simpa using h.1
    have h2 := index1_none (a := l) (fun e => h (List.mem_cons_of_mem _ e))
    unfold Lib.index
    simp [List.isPrefixOf, h1, h2]
theorem index1_at {c : UInt8} : ∀ {a : List UInt8} (r : List UInt8), c ∉ a → Lib.index (a ++ c :: r) [c] = a.length
  | [], r, _ => by simp [Lib.index, List.isPrefixOf]
  | b :: l, r, h => by
    have h1 : (c == b) = false := by simp at h; simpa using h.1
    have h2 := index1_at (a := l) r (fun e => h (List.mem_cons_of_mem _ e))
    rw [List.cons_append]
    unfold Lib.index
    have h3 : ((l.length : Int) == -1) = false := by rw [beq_eq_false_iff_ne]; omega
    simp [List.isPrefixOf, h1, h2, h3]
theorem split1_last {c : UInt8} {a : List UInt8} (h : c ∉ a) : Lib.splitK [c] 0 (Lib.count a [c]) a = [a] := by
  rw [Lib.count_miss (index1_none h)]; rfl
theorem split1_cons {c : UInt8} {a : List UInt8} (r : List UInt8) (h : c ∉ a) : Lib.splitK [c] 0 (Lib.count (a ++ c :: r) [c]) (a ++ c :: r) = a :: Lib.splitK [c] 0 (Lib.count r [c]) r := by
  have hi := index1_at r h
  have hm : ¬ ((a.length : Int) == -1) = true := by rw [beq_iff_eq]; omega
  have hd : (a ++ c :: r).drop (a.length + [c].length) = r := by simp [List.drop_append]
  rw [Lib.count_hit (by simp) hi, hd, Nat.add_comm 1, Lib.splitK, hi, if_neg hm, Int.toNat_natCast, hd]
  simp
theorem cut1_none {c : UInt8} {a : List UInt8} (h : c ∉ a) : Lib.cut a [c] = (a, [], false) := by
  unfold Lib.cut
  rw [index1_none h]; rfl
theorem cut1_at {c : UInt8} {a : List UInt8} (r : List UInt8) (h : c ∉ a) : Lib.cut (a ++ c :: r) [c] = (a, r, true) := by
  unfold Lib.cut
  rw [index1_at r h, if_pos (by omega), Int.toNat_natCast]
  simp [List.drop_append]
theorem wu8 {n : Int} (h1 : 0 ≤ n) (h2 : n < 256) : IntKind.u8.wrap n = n := by
  have e : IntKind.u8.wrap n = n % 256 := by simp [IntKind.wrap, IntKind.signed, IntKind.bits]
  rw [e]; omega
/-- The number of some digits. -/
def digsGo : List UInt8 → Int → Int × Bool
  | [], n => (n, true)
  | c :: r, n => if digit c = true then digsGo r (10 * n + ((c.toNat : Int) - 48)) else (0, false)
def digs (s : List UInt8) : Int × Bool := if s = [] then (0, false) else if s.length > 18 then (0, false) else digsGo s 0
theorem impl_Decimal_ok (n : Int) (h : -9223372036854775808 ≤ n ∧ n ≤ 9223372036854775807) : impl_Decimal n = some (Lib.itoa n) := by
  rw [impl_Decimal_eq, strconv_FormatInt_eq]
  simp [h.1, h.2]
/-- A number with at least so many digits. -/
def padP (n : Int) (d : Nat) : List UInt8 := Lib.repeatL [48] (d - (Lib.itoa n).length) ++ Lib.itoa n
/-- Numbers one behind the other. -/
def runs (m : Int) : Nat → List Int
  | 0 => []
  | n + 1 => m :: runs (m + 1) n
theorem runs_len (m : Int) (n : Nat) : (runs m n).length = n := by
  induction n generalizing m with
  | zero => rfl
  | succ n ih => simp [runs, ih]
theorem runs_get (m : Int) (n i : Nat) (h : i < n) : (runs m n)[i]? = some (m + i) := by
  induction n generalizing m i with
  | zero => omega
  | succ n ih =>
    cases i with
    | zero => simp [runs]
    | succ i =>
      simp only [runs, List.getElem?_cons_succ]
      rw [ih (m + 1) i (by omega)]
      congr 1; omega
theorem wu64 {n : Int} (h1 : 0 ≤ n) (h2 : n < 18446744073709551616) : IntKind.u64.wrap n = n := by
  have e : IntKind.u64.wrap n = if decide false = true then n % 18446744073709551616 - 18446744073709551616 else n % 18446744073709551616 := by
    simp [IntKind.wrap, IntKind.signed, IntKind.bits]
  rw [e]
  simp; omega
theorem and255 (x : Int) : ((BitVec.ofInt IntKind.u64.bits x &&& BitVec.ofInt IntKind.u64.bits 255).toNat : Int) ≤ 255 := by
  have : (BitVec.ofInt IntKind.u64.bits x &&& BitVec.ofInt IntKind.u64.bits 255).toNat ≤ 255 := by
    rw [BitVec.toNat_and]
    refine Nat.le_trans Nat.and_le_right ?_
    decide
  omega
/-- A source of numbers that an input lays: its bytes are bytes, and it has not gone far. -/
def SrcOk (s : T_l00Src.ty) (c : Int) : Prop := (∀ x : Int, x ∈ s.1 → 0 ≤ x ∧ x ≤ 255) ∧ s.1.length ≤ 1048576 ∧ (0 : Int) ≤ s.2.1 ∧ (s.2.1 : Int) ≤ c
theorem src_eta (s : T_l00Src.ty) : (s.1, s.2.1, s.2.2.1, ()) = s := rfl
theorem SrcOk.up {s : T_l00Src.ty} {c d : Int} (h : SrcOk s c) (hd : c ≤ d) : SrcOk s d := ⟨h.1, h.2.1, h.2.2.1, Int.le_trans h.2.2.2 hd⟩
theorem next_p0_ok (v : Int) (l : List Int) (a h : Int) (c : Int) (hs : SrcOk (l, a, h, ()) c) (hc : c ≤ 1152921504606846976) (hv : 0 ≤ v ∧ v ≤ 255) :
    ∃ (u : Int) (s' : T_l00Src.ty), spec_l00Src_next_p0 v l a h = some (u, s') ∧ SrcOk s' (c + 1) ∧ 0 ≤ u ∧ u ≤ 255 := by
  obtain ⟨h1, h2, h3, h4⟩ := hs
  have h3 : 0 ≤ a := h3
  have h4 : a ≤ c := h4
  rw [spec_l00Src_next_p0_eq, w64 (n := a + 1) (by omega) (by omega)]
  split
  · exact ⟨_, _, rfl, ⟨h1, h2, by show (0 : Int) ≤ a + 1; omega, by show (a + 1 : Int) ≤ c + 1; omega⟩, hv⟩
  · refine ⟨_, _, rfl, ⟨h1, h2, by show (0 : Int) ≤ a + 1; omega, by show (a + 1 : Int) ≤ c + 1; omega⟩, ?_⟩
    generalize hx : ((BitVec.ofInt IntKind.u64.bits _ &&& BitVec.ofInt IntKind.u64.bits 255).toNat : Int) = x
    have := and255 (Int.fdiv (IntKind.u64.wrap ((IntKind.u64.wrap ((IntKind.u64.wrap (h * 6364136223846793005)) + (IntKind.u64.wrap v))) + 1442695040888963407)) (2 ^ (min (40 : Int).toNat IntKind.u64.bits)))
    rw [hx] at this
    have h0 : 0 ≤ x := by rw [← hx]; exact Int.natCast_nonneg _
    rw [wu64 h0 (by omega), w64 (by omega) (by omega)]
    exact ⟨h0, this⟩
theorem next_core (l : List Int) (a h c : Int) (hs : SrcOk (l, a, h, ()) c) (hc : c ≤ 1152921504606846976) : ∃ (u : Int) (s' : T_l00Src.ty), spec_l00Src_next (l, a, h, ()) = some (u, s') ∧ SrcOk s' (c + 1) ∧ 0 ≤ u ∧ u ≤ 255 := by
  have h3 : (0 : Int) ≤ a := hs.2.2.1
  rw [spec_l00Src_next_eq]
  dsimp only
  split
  · rename_i hlt
    simp only [decide_eq_true_eq] at hlt
    have hlt' : a < (List.length (α := Int) l : Int) := hlt
    have hi : a.toNat < l.length := by omega
    obtain ⟨x, hx⟩ : ∃ x, l[a.toNat]? = some x := ⟨_, List.getElem?_eq_getElem hi⟩
    have hm : 0 ≤ x ∧ x ≤ 255 := hs.1 x (List.mem_of_getElem? hx)
    rw [if_pos (by simpa using h3), hx, Option.bind_some, w64 (n := x) (by omega) (by omega)]
    exact next_p0_ok x l a h c hs hc hm
  · exact next_p0_ok 0 l a h c hs hc ⟨by omega, by omega⟩
theorem next_ok {s : T_l00Src.ty} {c : Int} (hs : SrcOk s c) (hc : c ≤ 1152921504606846976) : ∃ (u : Int) (s' : T_l00Src.ty), spec_l00Src_next s = some (u, s') ∧ SrcOk s' (c + 1) ∧ 0 ≤ u ∧ u ≤ 255 :=
  next_core s.1 s.2.1 s.2.2.1 c hs hc
theorem pick_ok {s : T_l00Src.ty} {c : Int} (hs : SrcOk s c) (hc : c ≤ 1000000000000000000) (n : Int) (hn : n ≤ 65536) :
    ∃ (u : Int) (s' : T_l00Src.ty), spec_l00Src_pick s n = some (u, s') ∧ SrcOk s' (c + 2) ∧ 0 ≤ u ∧ (u = 0 ∨ u < n) := by
  rw [spec_l00Src_pick_eq]
  by_cases h1 : n ≤ 1
  · simp only [h1, decide_true, if_true]
    exact ⟨0, s, rfl, hs.up (by omega), by omega, .inl rfl⟩
  · obtain ⟨u, s1, e1, k1, b1, b2⟩ := next_ok hs (by omega)
    have hn0 : ¬ n = 0 := by omega
    simp only [h1, decide_false, Bool.false_eq_true, if_false, e1, Option.bind_some, src_eta, hn0]
    by_cases h2 : n > 200
    · obtain ⟨v, s2, e2, k2, b3, b4⟩ := next_ok k1 (by omega)
      simp only [h2, decide_true, if_true, e2, Option.bind_some, src_eta]
      rw [w64 (n := u * 256) (by omega) (by omega), w64 (n := u * 256 + v) (by omega) (by omega), tmod_nonneg_eq (by omega)]
      exact ⟨_, s2, rfl, k2.up (by omega), Int.emod_nonneg _ hn0, .inr (Int.emod_lt_of_pos _ (by omega))⟩
    · simp only [h2, decide_false, Bool.false_eq_true, if_false]
      rw [tmod_nonneg_eq b1]
      exact ⟨_, s1, rfl, k1.up (by omega), Int.emod_nonneg _ hn0, .inr (Int.emod_lt_of_pos _ (by omega))⟩
theorem one_ok {s : T_l00Src.ty} {c : Int} (hs : SrcOk s c) (hc : c ≤ 1000000000000000000) (n : Int) (hn : n ≤ 65536) :
    ∃ (u : Bool) (s' : T_l00Src.ty), spec_l00Src_one s n = some (u, s') ∧ SrcOk s' (c + 2) := by
  obtain ⟨u, s1, e1, k1, _⟩ := pick_ok hs hc n hn
  rw [spec_l00Src_one_eq]
  simp only [e1, Option.bind_some, src_eta]
  exact ⟨_, s1, rfl, k1⟩
theorem among_ok {s : T_l00Src.ty} {c : Int} (hs : SrcOk s c) (hc : c ≤ 1000000000000000000) (l : List Int) (h0 : 0 < l.length) (hn : l.length ≤ 65536) :
    ∃ (u : Int) (s' : T_l00Src.ty), spec_l00Src_among s l = some (u, s') ∧ SrcOk s' (c + 2) ∧ u ∈ l := by
  obtain ⟨u, s1, e1, k1, b1, b2⟩ := pick_ok hs hc (l.length : Int) (by omega)
  have hi : u.toNat < l.length := by omega
  rw [spec_l00Src_among_eq]
  simp only [e1, Option.bind_some, src_eta, b1, decide_true, if_true, List.getElem?_eq_getElem hi]
  exact ⟨_, s1, rfl, k1, List.getElem_mem hi⟩
theorem from_ok (code : List Int) (h1 : ∀ x, x ∈ code → 0 ≤ x ∧ x ≤ 255) (h2 : code.length ≤ 1048576) : ∃ s, spec_l00From code = some s ∧ SrcOk s 0 := by
  rw [spec_l00From_eq]
  exact ⟨_, rfl, h1, h2, Int.le_refl _, Int.le_refl _⟩
theorem bytes_ok {l : List Int} (h : CT.wf (.sl (.one (.int .u8))) l) : ∀ x, x ∈ l → 0 ≤ x ∧ x ≤ 255 := fun x hx => by
  have : (Lit.int .u8 x).wf = true := h.2 x hx
  simp [Lit.wf, IntKind.min, IntKind.max, IntKind.signed, IntKind.bits] at this
  omega
def absI (n : Int) : Int := if n < 0 then -n else n
theorem absI_bd {n b : Int} (h : -b ≤ n ∧ n ≤ b) : 0 ≤ absI n ∧ absI n ≤ b := by unfold absI; split <;> omega
theorem absI_le {n b : Int} : absI n ≤ b ↔ -b ≤ n ∧ n ≤ b := by unfold absI; split <;> omega
theorem rdivP_err {a b : Int} (hb : 0 < b) : 2 * absI (rdivP a b * b - a) ≤ b := by
  have pos : ∀ a : Int, 0 ≤ a → 2 * absI (rdivP a b * b - a) ≤ b ∧ 0 ≤ a := fun a ha => by
    refine ⟨?_, ha⟩
    unfold rdivP
    rw [if_neg (by omega)]
    have h1 := Int.mul_ediv_add_emod (2 * a + b) (2 * b)
    have h2 := Int.emod_nonneg (2 * a + b) (show 2 * b ≠ 0 by omega)
    have h3 := Int.emod_lt_of_pos (2 * a + b) (show 0 < 2 * b by omega)
    have e : 2 * b * ((2 * a + b) / (2 * b)) = 2 * ((2 * a + b) / (2 * b) * b) := by rw [Int.mul_assoc, Int.mul_comm b]
    rw [e] at h1
    unfold absI
    split <;> omega
  by_cases ha : 0 ≤ a
  · exact (pos a ha).1
  · have h := (pos (-a) (by omega)).1
    have e : rdivP a b = -rdivP (-a) b := by rw [← rdivP_neg (show 0 < -a by omega) hb]; congr 1; omega
    rw [e, Int.neg_mul]
    unfold absI at h ⊢
    split at h <;> split <;> omega
theorem rdivP_bd {a b m : Int} (hb : 0 < b) (h : -m ≤ a ∧ a ≤ m) : -(m + 1) ≤ rdivP a b ∧ rdivP a b ≤ m + 1 := by
  by_cases ha : 0 ≤ a
  · have := rdivP_nonneg ha hb
    have := rdivP_le ha hb
    omega
  · have e : rdivP a b = -rdivP (-a) b := by rw [← rdivP_neg (show 0 < -a by omega) hb]; congr 1; omega
    have := rdivP_nonneg (a := -a) (by omega) hb
    have := rdivP_le (a := -a) (by omega) hb
    omega
/-- The places of a list's elements that are as wished. -/
def idx (P : Nat → Bool) (n : Nat) : List Int := ((List.range n).filter P).map fun (j : Nat) => (j : Int)
theorem idx_succ (P : Nat → Bool) (n : Nat) : idx P (n + 1) = idx P n ++ if P n then [(n : Int)] else [] := by
  unfold idx
  rw [List.range_succ, List.filter_append, List.map_append]
  cases h : P n <;> simp [h]
theorem idx_len (P : Nat → Bool) (n : Nat) : (idx P n).length ≤ n := by
  unfold idx
  rw [List.length_map]
  exact Nat.le_trans (List.length_filter_le _ _) (by simp)
theorem idx_mem (P : Nat → Bool) (n i : Nat) : (i : Int) ∈ idx P n ↔ i < n ∧ P i = true := by
  unfold idx
  simp only [List.mem_map, List.mem_filter, List.mem_range]
  constructor
  · rintro ⟨j, h, e⟩
    have : j = i := by omega
    subst this; exact h
  · intro h; exact ⟨i, h, rfl⟩
theorem idx_bd (P : Nat → Bool) (n : Nat) : ∀ x, x ∈ idx P n → 0 ≤ x ∧ x < n := by
  intro x hx
  unfold idx at hx
  obtain ⟨j, hj, rfl⟩ := List.mem_map.1 hx
  have := List.mem_range.1 (List.mem_filter.1 hj).1
  omega
theorem idx_rise (P : Nat → Bool) (n : Nat) : (idx P n).Pairwise (· < ·) := by
  unfold idx
  rw [List.pairwise_map]
  refine List.Pairwise.imp ?_ (List.Pairwise.filter P (List.pairwise_lt_range (n := n)))
  intro a b h; omega
theorem laws_b10Abs_ok (n : Int) (h : -4611686018427387904 ≤ n ∧ n ≤ 4611686018427387904) : laws_b10Abs n = some (absI n) := by
  rw [laws_b10Abs_eq, w64 (n := 0 - n) (by omega) (by omega), absI]
  by_cases hn : n < 0
  · simp [hn]
  · simp [hn]
theorem laws_b10Div_nn (n : Nat) (a b : Int) (ha : 0 ≤ a ∧ a ≤ 2000000000000000000) (hb : 0 < b ∧ b ≤ 2000000000000000000) : laws_b10Div (n + 1) a b = some (rdivP a b) := by
  rw [laws_b10Div_eq]
  have h0 : ¬ a < 0 := by omega
  have h1 : ¬ 2 * b = 0 := by omega
  simp only [h0, decide_false, Bool.false_eq_true, if_false, w64 (n := 2 * b) (by omega) (by omega), h1, w64 (n := 2 * a) (by omega) (by omega), w64 (n := 2 * a + b) (by omega) (by omega)]
  have hd : (2 * a + b) / (2 * b) ≤ 2 * a + b := Int.ediv_le_self _ (by omega)
  have hd0 : 0 ≤ (2 * a + b) / (2 * b) := Int.ediv_nonneg (by omega) (by omega)
  rw [tdiv_nonneg_eq (by omega), w64 (by omega) (by omega), rdivP, if_neg h0]
theorem laws_b10Div_ok (a b : Int) (ha : -2000000000000000000 ≤ a ∧ a ≤ 2000000000000000000) (hb : 0 < b ∧ b ≤ 2000000000000000000) : laws_b10Div 1000 a b = some (rdivP a b) := by
  by_cases h0 : a < 0
  · have hr := rdivP_bd (a := -a) (m := 2000000000000000000) hb.1 (by omega)
    rw [show (1000 : Nat) = 998 + 1 + 1 from rfl, laws_b10Div_eq]
    simp only [h0, decide_true, if_true, w64 (n := 0 - a) (by omega) (by omega)]
    rw [show (0 : Int) - a = -a by omega, laws_b10Div_nn 998 (-a) b (by omega) hb, Option.bind_some, w64 (by omega) (by omega)]
    have e : rdivP a b = -rdivP (-a) b := by rw [← rdivP_neg (show 0 < -a by omega) hb.1]; congr 1; omega
    rw [e]
    congr 1; omega
  · exact laws_b10Div_nn 999 a b (by omega) hb
theorem mul_bd {b d B D : Int} (hb : 0 ≤ b ∧ b ≤ B) (hd : -D ≤ d ∧ d ≤ D) : -(B * D) ≤ b * d ∧ b * d ≤ B * D := by
  have up : ∀ d : Int, -D ≤ d ∧ d ≤ D → b * d ≤ B * D := fun d hd => by
    by_cases h : 0 ≤ d
    · exact Int.le_trans (Int.mul_le_mul_of_nonneg_right hb.2 h) (Int.mul_le_mul_of_nonneg_left hd.2 (by omega))
    · have h1 : b * d ≤ 0 := Int.mul_nonpos_of_nonneg_of_nonpos hb.1 (by omega)
      have h2 : 0 ≤ B * D := Int.mul_nonneg (by omega) (by omega)
      omega
  have h1 := up d hd
  have h2 := up (-d) (by omega)
  rw [Int.mul_neg] at h2
  omega
/-- How many days a month of a year has (m from 0). -/
def mdays (y m : Nat) : Int := if m = 1 then (if y % 4 = 0 then 29 else 28) else ([31, 28, 31, 30, 31, 30, 31, 31, 30, 31, 30, 31] : List Int)[m]?.getD 0
def ydays (y : Nat) : Int := 337 + mdays y 1
/-- The days ahead of year 2000 + n. -/
def ySum : Nat → Int
  | 0 => 0
  | n + 1 => ySum n + ydays (2000 + n)
def mSum (y : Nat) : Nat → Int
  | 0 => 0
  | m + 1 => mSum y m + mdays y m
theorem mdays_bd {y m : Nat} (h : m < 12) : 28 ≤ mdays y m ∧ mdays y m ≤ 31 := by
  unfold mdays
  split
  · split <;> omega
  · have : ∀ m, m < 12 → 28 ≤ (([31, 28, 31, 30, 31, 30, 31, 31, 30, 31, 30, 31] : List Int)[m]?.getD 0) ∧ (([31, 28, 31, 30, 31, 30, 31, 31, 30, 31, 30, 31] : List Int)[m]?.getD 0) ≤ 31 := by decide +kernel
    exact this m h
theorem feb_bd (y : Nat) : 28 ≤ mdays y 1 ∧ mdays y 1 ≤ 29 := by
  unfold mdays
  rw [if_pos rfl]
  split <;> omega
theorem ySum_bd : ∀ n, 0 ≤ ySum n ∧ ySum n ≤ 366 * n
  | 0 => by simp [ySum]
  | n + 1 => by
    have := ySum_bd n
    have := feb_bd (2000 + n)
    show 0 ≤ ySum n + (337 + mdays (2000 + n) 1) ∧ ySum n + (337 + mdays (2000 + n) 1) ≤ _
    omega
theorem ySum_100 : ySum 100 = 36525 := by decide +kernel
theorem mSum_12 (y : Nat) : mSum y 12 = ydays y := by
  show 0 + mdays y 0 + mdays y 1 + mdays y 2 + mdays y 3 + mdays y 4 + mdays y 5 + mdays y 6 + mdays y 7 + mdays y 8 + mdays y 9 + mdays y 10 + mdays y 11 = ydays y
  unfold ydays
  have h : ∀ m, m ≠ 1 → mdays y m = ([31, 28, 31, 30, 31, 30, 31, 31, 30, 31, 30, 31] : List Int)[m]?.getD 0 := fun m hm => by unfold mdays; rw [if_neg hm]
  rw [h 0 (by decide), h 2 (by decide), h 3 (by decide), h 4 (by decide), h 5 (by decide), h 6 (by decide), h 7 (by decide), h 8 (by decide), h 9 (by decide), h 10 (by decide), h 11 (by decide)]
  simp
  omega
theorem mSum_bd (y : Nat) : ∀ m, m ≤ 12 → 0 ≤ mSum y m ∧ mSum y m ≤ 31 * m
  | 0, _ => by simp [mSum]
  | m + 1, h => by
    have := mSum_bd y m (by omega)
    have := mdays_bd (y := y) (m := m) (by omega)
    show 0 ≤ mSum y m + mdays y m ∧ mSum y m + mdays y m ≤ _
    omega
theorem itoa_year : ∀ y, y < 100 → (Lib.itoa ((2000 + y : Nat) : Int)).length = 4 ∧ (45 : UInt8) ∉ Lib.itoa ((2000 + y : Nat) : Int) ∧ digs (Lib.itoa ((2000 + y : Nat) : Int)) = (((2000 + y : Nat) : Int), true) := by decide +kernel
theorem pad_two : ∀ n, n < 100 → (Lib.itoa ((n : Nat) : Int)).length ≤ 2 ∧ (padP ((n : Nat) : Int) 2).length = 2 ∧ (45 : UInt8) ∉ padP ((n : Nat) : Int) 2 ∧ (58 : UInt8) ∉ padP ((n : Nat) : Int) 2 ∧ digs (padP ((n : Nat) : Int) 2) = ((n : Int), true) := by decide +kernel
/-- Is a day no weekend? -/
def wday (d : Int) : Int := if (d + 5) % 7 < 5 then 1 else 0
/-- How many days of work there are among n days. -/
def wcnt (f : Int) : Nat → Int
  | 0 => 0
  | n + 1 => wcnt f n + wday (f + n)
theorem wcnt_add (f : Int) (a : Nat) : ∀ b, wcnt f (a + b) = wcnt f a + wcnt (f + a) b
  | 0 => by simp [wcnt]
  | b + 1 => by
    have ih := wcnt_add f a b
    show wcnt f (a + b) + wday (f + ((a + b : Nat) : Int)) = wcnt f a + (wcnt (f + a) b + wday (f + a + b))
    rw [ih, show f + ((a + b : Nat) : Int) = f + a + b by omega]
    omega
theorem wday_bd (d : Int) : 0 ≤ wday d ∧ wday d ≤ 1 := by unfold wday; split <;> omega
theorem wcnt_bd (f : Int) : ∀ n : Nat, 0 ≤ wcnt f n ∧ wcnt f n ≤ n
  | 0 => by simp [wcnt]
  | n + 1 => by
    have := wcnt_bd f n
    have := wday_bd (f + n)
    show 0 ≤ wcnt f n + wday (f + n) ∧ wcnt f n + wday (f + n) ≤ _
    omega
theorem wcnt_7 (f : Int) : wcnt f 7 = 5 := by
  show 0 + wday (f + ((0 : Nat) : Int)) + wday (f + ((1 : Nat) : Int)) + wday (f + ((2 : Nat) : Int)) + wday (f + ((3 : Nat) : Int)) + wday (f + ((4 : Nat) : Int)) + wday (f + ((5 : Nat) : Int)) + wday (f + ((6 : Nat) : Int)) = 5
  obtain ⟨q, r, hr, hf⟩ : ∃ q r : Int, (0 ≤ r ∧ r < 7) ∧ f = 7 * q + r := ⟨f / 7, f % 7, by omega, by omega⟩
  have key : ∀ j : Int, wday (f + j) = wday (r + j) := fun j => by
    unfold wday
    rw [show (f + j + 5) % 7 = (r + j + 5) % 7 by omega]
  simp only [key]
  have : r = 0 ∨ r = 1 ∨ r = 2 ∨ r = 3 ∨ r = 4 ∨ r = 5 ∨ r = 6 := by omega
  rcases this with rfl | rfl | rfl | rfl | rfl | rfl | rfl <;> decide
theorem wcnt_weeks (f : Int) : ∀ k : Nat, wcnt f (7 * k) = 5 * k
  | 0 => rfl
  | k + 1 => by
    rw [show 7 * (k + 1) = 7 * k + 7 by omega, wcnt_add, wcnt_weeks f k, wcnt_7]; omega
theorem wcnt_rest (f : Int) (r : Nat) (h : r ≤ 7) : (r : Int) - 2 ≤ wcnt f r := by
  have h1 := wcnt_add f r (7 - r)
  rw [show r + (7 - r) = 7 by omega, wcnt_7] at h1
  have := wcnt_bd (f + r) (7 - r)
  omega
theorem wcnt_least (f : Int) (n : Nat) : 7 * wcnt f n ≥ 5 * n - 12 := by
  have h1 := wcnt_add f (7 * (n / 7)) (n % 7)
  rw [show 7 * (n / 7) + n % 7 = n by omega, wcnt_weeks] at h1
  have h2 := wcnt_rest (f + ((7 * (n / 7) : Nat) : Int)) (n % 7) (by omega)
  have h3 := wcnt_bd (f + ((7 * (n / 7) : Nat) : Int)) (n % 7)
  omega
theorem dig_toNat {d : Nat} (h : d < 10) : (UInt8.ofNat (48 + d)).toNat = 48 + d := by
  rw [UInt8.toNat_ofNat']; omega
theorem decDigits_dig (u : Nat) : ∀ c, c ∈ Lib.decDigits u → 48 ≤ c.toNat ∧ c.toNat ≤ 57 := by
  induction u using Nat.strongRecOn with
  | _ u ih =>
    intro c hc
    rw [Lib.decDigits] at hc
    split at hc
    · rename_i h
      simp only [List.mem_singleton] at hc
      rw [hc, dig_toNat h]; omega
    · rename_i h
      rcases List.mem_append.1 hc with h1 | h1
      · exact ih (u / 10) (by omega) c h1
      · simp only [List.mem_singleton] at h1
        rw [h1, dig_toNat (by omega)]; omega
theorem decDigits_len : ∀ (k u : Nat), u < 10 ^ (k + 1) → (Lib.decDigits u).length ≤ k + 1 ∧ 1 ≤ (Lib.decDigits u).length
  | 0, u, h => by
    rw [Lib.decDigits, dif_pos (by simpa using h)]; simp
  | k + 1, u, h => by
    rw [Lib.decDigits]
    split
    · simp
    · have hq : u / 10 < 10 ^ (k + 1) := by
        have : 10 ^ (k + 1 + 1) = 10 ^ (k + 1) * 10 := Nat.pow_succ ..
        omega
      have := decDigits_len k (u / 10) hq
      simp only [List.length_append, List.length_singleton]
      omega
theorem itoa_pos (u : Nat) : Lib.itoa (u : Int) = Lib.decDigits u := by unfold Lib.itoa; rw [if_neg (by omega)]; simp
theorem digit_of {c : UInt8} (h : 48 ≤ c.toNat ∧ c.toNat ≤ 57) : digit c = true := by
  simp only [digit, Bool.and_eq_true, decide_eq_true_eq]; omega
theorem digsGo_app : ∀ (a b : List UInt8) (n m : Int), digsGo a n = (m, true) → digsGo (a ++ b) n = digsGo b m
  | [], b, n, m, h => by simp [digsGo] at h; subst h; rfl
  | c :: a, b, n, m, h => by
    rw [List.cons_append, digsGo]
    rw [digsGo] at h
    by_cases hd : digit c = true
    · rw [if_pos hd] at h ⊢
      exact digsGo_app a b _ m h
    · rw [if_neg hd] at h; simp at h
theorem digsGo_dec (u : Nat) : digsGo (Lib.decDigits u) 0 = ((u : Int), true) := by
  induction u using Nat.strongRecOn with
  | _ u ih =>
    rw [Lib.decDigits]
    split
    · rename_i h
      have ht := dig_toNat h
      simp only [digsGo, digit_of (show 48 ≤ (UInt8.ofNat (48 + u)).toNat ∧ (UInt8.ofNat (48 + u)).toNat ≤ 57 by omega), if_true, ht]
      congr 1; omega
    · rename_i h
      have ht := dig_toNat (d := u % 10) (by omega)
      rw [digsGo_app _ _ 0 _ (ih (u / 10) (by omega))]
      simp only [digsGo, digit_of (show 48 ≤ (UInt8.ofNat (48 + u % 10)).toNat ∧ (UInt8.ofNat (48 + u % 10)).toNat ≤ 57 by omega), if_true, ht]
      congr 1; omega
theorem digsGo_zeros (r : List UInt8) : ∀ k, digsGo (Lib.repeatL [48] k ++ r) 0 = digsGo r 0
  | 0 => rfl
  | k + 1 => by
    have ih := digsGo_zeros r k
    show digsGo (48 :: (Lib.repeatL [48] k ++ r)) 0 = _
    have hd : digit 48 = true := by decide
    rw [digsGo, if_pos hd]
    exact ih
theorem repeat48 : ∀ k, ∀ c, c ∈ Lib.repeatL [48] k → c = 48
  | 0, c, h => by simp [Lib.repeatL] at h
  | k + 1, c, h => by
    have h : c ∈ 48 :: Lib.repeatL [48] k := h
    rcases List.mem_cons.1 h with h | h
    · exact h
    · exact repeat48 k c h
theorem padP_dig (u d : Nat) : ∀ c, c ∈ padP (u : Int) d → 48 ≤ c.toNat ∧ c.toNat ≤ 57 := by
  intro c hc
  unfold padP at hc
  rcases List.mem_append.1 hc with h | h
  · rw [repeat48 _ c h]; decide
  · rw [itoa_pos] at h; exact decDigits_dig u c h
theorem padP_len (u d : Nat) : (padP (u : Int) d).length = max d (Lib.itoa (u : Int)).length := by
  unfold padP
  rw [List.length_append, Lib.repeatL_length]
  simp only [List.length_singleton]
  omega
theorem digs_pad (u d : Nat) (hu : u < 10 ^ 11) (hd : d ≤ 18) : digs (padP (u : Int) d) = ((u : Int), true) := by
  have hl := padP_len u d
  have hi := decDigits_len 10 u hu
  rw [← itoa_pos] at hi
  have h1 : padP (u : Int) d ≠ [] := fun e => by rw [e] at hl; simp at hl; omega
  have h2 : ¬ (padP (u : Int) d).length > 18 := by omega
  unfold digs
  rw [if_neg h1, if_neg h2]
  unfold padP
  rw [digsGo_zeros, itoa_pos, digsGo_dec]
theorem digs_itoa (u : Nat) (hu : u < 10 ^ 11) : digs (Lib.itoa (u : Int)) = ((u : Int), true) := by
  have hi := decDigits_len 10 u hu
  rw [← itoa_pos] at hi
  have h1 : Lib.itoa (u : Int) ≠ [] := fun e => by rw [e] at hi; simp at hi
  have h2 : ¬ (Lib.itoa (u : Int)).length > 18 := by omega
  unfold digs
  rw [if_neg h1, if_neg h2, itoa_pos, digsGo_dec]
theorem not_mem_dig {a : List UInt8} (h : ∀ c, c ∈ a → 48 ≤ c.toNat ∧ c.toNat ≤ 57) {c : UInt8} (hc : c.toNat < 48 ∨ 57 < c.toNat) : c ∉ a := fun e => by
  have := h c e; omega
/-- A number with places. -/
def fixP (n : Int) (p : Nat) : List UInt8 :=
  let d := padP ((n.natAbs : Nat) : Int) (p + 1)
  let t := d.take (d.length - p) ++ 46 :: d.drop (d.length - p)
  if n < 0 then 45 :: t else t
theorem up_app : ∀ (a b : List UInt8) (n m : Nat), Lib.parseUint10 n a = .ok m → Lib.parseUint10 n (a ++ b) = Lib.parseUint10 m b
  | [], b, n, m, h => by
    simp only [Lib.parseUint10, Lib.NumEnd.ok.injEq] at h
    rw [h]; rfl
  | c :: r, b, n, m, h => by
    simp only [Lib.parseUint10] at h
    rw [List.cons_append, Lib.parseUint10]
    split at h
    · rename_i h1
      split at h
      · cases h
      · rename_i h2
        split at h
        · cases h
        · rename_i h3
          rw [if_pos h1, if_neg h2, if_neg h3]
          exact up_app r b _ m h
    · cases h
theorem up_dec (u : Nat) (hu : u < 10 ^ 18) : Lib.parseUint10 0 (Lib.decDigits u) = .ok u := by
  have e18 : (10 : Nat) ^ 18 = 1000000000000000000 := by decide
  induction u using Nat.strongRecOn with
  | _ u ih =>
    rw [Lib.decDigits]
    split
    · rename_i h
      simp only [Lib.parseUint10]
      rw [dig_toNat h, if_pos (by omega), if_neg (by omega), if_neg (by omega)]
      congr 1; omega
    · rename_i h
      rw [up_app _ _ 0 (u / 10) (ih (u / 10) (by omega) (by omega))]
      simp only [Lib.parseUint10]
      rw [dig_toNat (by omega), if_pos (by omega), if_neg (by omega), if_neg (by omega)]
      congr 1; omega
theorem dec_ne (u : Nat) : Lib.decDigits u ≠ [] := by
  rw [Lib.decDigits]; split <;> simp
theorem itoa_neg (u : Nat) (h : 0 < u) : Lib.itoa (-(u : Int)) = 45 :: Lib.decDigits u := by
  unfold Lib.itoa; rw [if_pos (by omega)]; simp
/-- What Decimal writes ReadDecimal reads. -/
theorem readDecP_itoa (n : Int) (h : -1000000000000 ≤ n ∧ n ≤ 1000000000000) : readDecP (Lib.itoa n) = (n, true) := by
  have e18 : (10 : Nat) ^ 18 = 1000000000000000000 := by decide
  have e13 : (10 : Nat) ^ (13 + 1) = 100000000000000 := by decide
  by_cases hn : n < 0
  · obtain ⟨u, rfl, hu0, hu⟩ : ∃ u : Nat, n = -(u : Int) ∧ 0 < u ∧ u ≤ 1000000000000 := ⟨n.natAbs, by omega, by omega, by omega⟩
    have hl := decDigits_len 13 u (by omega)
    unfold readDecP
    rw [itoa_neg u hu0]
    have ht : Lib.trimPrefix (45 :: Lib.decDigits u) [45] = Lib.decDigits u := by simp [Lib.trimPrefix, Lib.hasPrefix, List.isPrefixOf]
    have hp : Lib.parseIntB 64 (45 :: Lib.decDigits u) = .ok (-(u : Int)) := by
      have hm : Lib.parseMag (Lib.decDigits u) = .ok u := by rw [Lib.parseMag, if_neg (dec_ne u), up_dec u (by omega)]
      rw [Lib.parseIntB_64, Lib.atoiAll]
      simp only [show (45 : UInt8).toNat = 45 from rfl, or_true, if_true, hm]
      rw [if_neg (by simp), if_neg (by simp; omega)]
    rw [ht, if_neg (by omega), hp]
    simp only [itoa_neg u hu0, if_true]
  · obtain ⟨u, rfl, hu⟩ : ∃ u : Nat, n = (u : Int) ∧ u ≤ 1000000000000 := ⟨n.toNat, by omega, by omega⟩
    have hl := decDigits_len 13 u (by omega)
    unfold readDecP
    rw [itoa_pos u]
    cases hd : Lib.decDigits u with
    | nil => exact absurd hd (dec_ne u)
    | cons c r =>
      have hc := decDigits_dig u c (by rw [hd]; simp)
      have h45 : c ≠ 45 := fun e => by subst e; simp at hc
      have ht : Lib.trimPrefix (c :: r) [45] = c :: r := by simp [Lib.trimPrefix, Lib.hasPrefix, List.isPrefixOf, Ne.symm h45]
      have hp : Lib.parseIntB 64 (c :: r) = .ok (u : Int) := by
        have hm : Lib.parseMag (c :: r) = .ok u := by rw [← hd, Lib.parseMag, if_neg (dec_ne u), up_dec u (by omega)]
        rw [Lib.parseIntB_64, Lib.atoiAll]
        have h1 : ¬ c.toNat = 43 := by omega
        have h2 : ¬ c.toNat = 45 := by omega
        simp only [h1, h2, or_self, if_false, hm, not_false_eq_true, true_and, false_and]
        rw [if_neg (by omega)]
      rw [ht, ← hd, if_neg (by omega), hd, hp]
      simp only [itoa_pos u, hd, if_true]
theorem itoa_len (n : Int) (h : -1000000000000 ≤ n ∧ n ≤ 1000000000000) : 1 ≤ (Lib.itoa n).length ∧ (Lib.itoa n).length ≤ 15 := by
  have e13 : (10 : Nat) ^ (13 + 1) = 100000000000000 := by decide
  unfold Lib.itoa
  split
  · have := decDigits_len 13 n.natAbs (by omega)
    simp; omega
  · have := decDigits_len 13 n.toNat (by omega)
    omega
theorem itoa_ne (n : Int) : Lib.itoa n ≠ [45] := by
  unfold Lib.itoa
  split
  · have := dec_ne n.natAbs
    intro e; simp at e; exact this e
  · intro e
    have := decDigits_dig n.toNat 45 (by rw [e]; simp)
    simp at this
theorem itoa_mem (n : Int) (c : UInt8) (hc : c ∈ Lib.itoa n) : c = 45 ∨ 48 ≤ c.toNat ∧ c.toNat ≤ 57 := by
  unfold Lib.itoa at hc
  split at hc
  · rcases List.mem_cons.1 hc with h | h
    · exact .inl h
    · exact .inr (decDigits_dig _ c h)
  · exact .inr (decDigits_dig _ c hc)
theorem itoa_no (n : Int) {c : UInt8} (h : c ≠ 45) (h' : c.toNat < 48 ∨ 57 < c.toNat) : c ∉ Lib.itoa n := fun e => by
  rcases itoa_mem n c e with h1 | h1
  · exact h h1
  · omega
theorem join_cons2 (x y : List UInt8) (r : List (List UInt8)) (c : UInt8) : Lib.join (x :: y :: r) [c] = x ++ c :: Lib.join (y :: r) [c] := by
  rw [Lib.join_cons, Lib.join_cons]
  simp [Lib.joinTail]
theorem split_join {c : UInt8} : ∀ (x : List UInt8) (r : List (List UInt8)), (∀ y, y ∈ x :: r → c ∉ y) →
    Lib.splitK [c] 0 (Lib.count (Lib.join (x :: r) [c]) [c]) (Lib.join (x :: r) [c]) = x :: r
  | x, [], h => by rw [Lib.join_one]; exact split1_last (h x (by simp))
  | x, y :: r, h => by
    rw [join_cons2, split1_cons _ (h x (by simp)), split_join y r fun z hz => h z (List.mem_cons_of_mem _ hz)]
theorem lens_bd {m : Nat} : ∀ (l : List (List UInt8)), (∀ x, x ∈ l → x.length ≤ m) → Lib.lens l ≤ m * l.length
  | [], _ => by simp [Lib.lens]
  | x :: r, h => by
    have h1 := lens_bd r fun y hy => h y (List.mem_cons_of_mem _ hy)
    have h2 := h x (by simp)
    have e : Lib.lens (x :: r) = x.length + Lib.lens r := by simp [Lib.lens]
    rw [e, List.length_cons, Nat.mul_succ]; omega
theorem join_len {m : Nat} {c : UInt8} (l : List (List UInt8)) (h : ∀ x, x ∈ l → x.length ≤ m) : (Lib.join l [c]).length ≤ (m + 1) * l.length := by
  cases l with
  | nil => simp [Lib.join_nil]
  | cons x r =>
    have h1 := lens_bd (x :: r) h
    rw [Lib.join_length, Nat.add_mul, List.length_singleton, List.length_cons] at *
    omega
/-- The text of a list of numbers. -/
def listP (l : List Int) : List UInt8 := Lib.join (l.map Lib.itoa) [44]
theorem listP_len (l : List Int) (hl : l.length ≤ 64) (hx : ∀ x, x ∈ l → -1000000000000 ≤ x ∧ x ≤ 1000000000000) : (listP l).length ≤ 1024 := by
  have h := join_len (m := 15) (c := 44) (l.map Lib.itoa) fun x hx' => by
    obtain ⟨n, hn, rfl⟩ := List.mem_map.1 hx'
    exact (itoa_len n (hx n hn)).2
  rw [List.length_map] at h
  have : (listP l).length ≤ 16 * l.length := h
  omega
theorem impl_ReadDecimal_ok (n : Int) (h : -1000000000000 ≤ n ∧ n ≤ 1000000000000) : impl_ReadDecimal (Lib.itoa n) = some (n, true) := by
  rw [impl_ReadDecimal_eq, readDecP_itoa n h]
theorem impl_ListText_p0_ok (l : List Int) (hl : l.length ≤ 64) (hx : ∀ x, x ∈ l → -1000000000000 ≤ x ∧ x ≤ 1000000000000) : ∀ (k i : Nat), i + k = l.length → impl_ListText_p0 l l.length i ((l.take i).map Lib.itoa) = some (listP l)
  | 0, i, hk => by
    rw [impl_ListText_p0_eq]
    have : ¬ (i : Int) < (l.length : Int) := by omega
    have hb := listP_len l hl hx
    have e : (Lib.join (l.map Lib.itoa) [44]).length ≤ 140737488355328 := by
      have : (Lib.join (l.map Lib.itoa) [44]).length ≤ 1024 := hb
      omega
    rw [List.take_length, List.take_of_length_le (by omega : l.length ≤ i)]
    simp only [this, decide_false, Bool.false_eq_true, if_false, strings_Join_eq]
    have e2 : (l.map Lib.itoa).length ≤ 140737488355328 := by rw [List.length_map]; omega
    simp only [e2, e, decide_true, Bool.and_self, if_true, Option.bind_some]
    rfl
  | k + 1, i, hk => by
    have hi : i < l.length := by omega
    have hlt : (i : Int) < (l.length : Int) := by omega
    have hi0 : (0 : Int) ≤ (i : Int) := by omega
    have hb := hx l[i] (List.getElem_mem hi)
    have hr : inR l[i] (-1000000000000) 1000000000000 = true := inR_iff'.2 hb
    have hlim : ((l.take i).map Lib.itoa).length + 1 < lim := by rw [lim_eq, List.length_map, List.length_take]; omega
    rw [impl_ListText_p0_eq]
    simp only [hlt, decide_true, if_true, hi0, Int.toNat_natCast, getElem?_lt hi, Option.bind_some, impl_within_ok, hr, Bool.not_true, Bool.false_eq_true, if_false, impl_Decimal_ok l[i] (by omega), hlim, wsucc (show i < 4611686018427387904 by omega)]
    have := impl_ListText_p0_ok l hl hx k (i + 1) (by omega)
    rw [List.take_length]
    rw [show (l.take (i + 1)).map Lib.itoa = (l.take i).map Lib.itoa ++ [Lib.itoa l[i]] by rw [List.take_add_one, getElem?_lt hi, List.map_append]; rfl] at this
    exact this
theorem impl_ListText_ok (l : List Int) (h0 : l ≠ []) (hl : l.length ≤ 64) (hx : ∀ x, x ∈ l → -1000000000000 ≤ x ∧ x ≤ 1000000000000) : impl_ListText l = some (listP l) := by
  rw [impl_ListText_eq, impl_few_eq]
  have h1 : (l.length : Int) ≤ 64 := by omega
  have h2 : ((l.length : Int) == 0) = false := by
    rw [beq_eq_false_iff_ne]
    intro e
    exact h0 (List.length_eq_zero_iff.1 (by omega))
  simp only [h1, decide_true, Option.bind_some, Bool.not_true, Bool.false_eq_true, if_false, h2]
  exact impl_ListText_p0_ok l hl hx l.length 0 (by omega)
theorem impl_ReadList_p0_ok (l : List Int) (hl : l.length ≤ 64) (hx : ∀ x, x ∈ l → -1000000000000 ≤ x ∧ x ≤ 1000000000000) : ∀ (k i : Nat), i + k = l.length → impl_ReadList_p0 (l.map Lib.itoa) l.length i (l.take i) = some (l, true)
  | 0, i, hk => by
    rw [impl_ReadList_p0_eq]
    have : ¬ (i : Int) < (l.length : Int) := by omega
    simp only [this, decide_false, Bool.false_eq_true, if_false, List.take_length, List.take_of_length_le (by omega : l.length ≤ i)]
  | k + 1, i, hk => by
    have hi : i < l.length := by omega
    have hlt : (i : Int) < (l.length : Int) := by omega
    have hi0 : (0 : Int) ≤ (i : Int) := by omega
    have hb := hx l[i] (List.getElem_mem hi)
    have hr : inR l[i] (-1000000000000) 1000000000000 = true := inR_iff'.2 hb
    have hlim : (l.take i).length + 1 < lim := by rw [lim_eq, List.length_take]; omega
    have hg : (l.map Lib.itoa)[i]? = some (Lib.itoa l[i]) := by rw [List.getElem?_map, getElem?_lt hi]; rfl
    have h64 : (((l.take i).length : Int) == 64) = false := by rw [beq_eq_false_iff_ne, List.length_take]; omega
    rw [impl_ReadList_p0_eq]
    simp only [hlt, decide_true, if_true, hi0, Int.toNat_natCast, hg, Option.bind_some, impl_ReadDecimal_ok l[i] hb, impl_within_ok, hr, Bool.not_true, Bool.false_eq_true, if_false, h64, hlim, wsucc (show i < 4611686018427387904 by omega)]
    have := impl_ReadList_p0_ok l hl hx k (i + 1) (by omega)
    rw [List.take_length]
    rw [List.take_add_one, getElem?_lt hi] at this
    simpa using this
theorem impl_ReadList_ok (l : List Int) (h0 : l ≠ []) (hl : l.length ≤ 64) (hx : ∀ x, x ∈ l → -1000000000000 ≤ x ∧ x ≤ 1000000000000) : impl_ReadList (listP l) = some (l, true) := by
  have hb := listP_len l hl hx
  have hs : Lib.splitK [44] 0 (Lib.count (listP l) [44]) (listP l) = l.map Lib.itoa := by
    cases l with
    | nil => exact absurd rfl h0
    | cons a r =>
      unfold listP
      rw [List.map_cons]
      exact split_join _ _ fun y hy => by
        have hy' : y ∈ (a :: r).map Lib.itoa := hy
        obtain ⟨n, hn, rfl⟩ := List.mem_map.1 hy'
        exact itoa_no n (by decide) (by decide)
  have hne : (listP l == [45]) = false := by
    rw [beq_eq_false_iff_ne]
    intro e
    cases l with
    | nil => exact absurd rfl h0
    | cons a r =>
      unfold listP at e
      rw [List.map_cons, Lib.join_cons] at e
      have h1 := (itoa_len a (hx a (by simp))).1
      cases hi : Lib.itoa a with
      | nil => rw [hi] at h1; simp at h1
      | cons c t =>
        rw [hi, List.cons_append] at e
        injection e with e1 e2
        have e3 := (List.append_eq_nil_iff.1 e2).1
        exact itoa_ne a (by rw [hi, e1, e3])
  rw [impl_ReadList_eq]
  simp only [hne, Bool.false_eq_true, if_false, strings_Split_eq]
  have h1 : (listP l).length < 4294967281 := by omega
  simp only [h1, List.length_singleton, Nat.le_refl, decide_true, Bool.and_self, if_true, Option.bind_some, hs, List.length_map]
  exact impl_ReadList_p0_ok l hl hx l.length 0 (by omega)
theorem isName_mem {s : List UInt8} (h : isName s = true) : (∀ c, c ∈ s → small c = true ∨ digit c = true) ∧ s.length ≤ 10 := by
  cases s with
  | nil => simp [isName] at h
  | cons c r =>
    simp only [isName, Bool.and_eq_true, List.all_eq_true, Bool.or_eq_true, decide_eq_true_eq] at h
    exact ⟨fun x hx => by
      rcases List.mem_cons.1 hx with rfl | hx
      · exact .inl h.1.1
      · exact h.1.2 x hx, h.2⟩
theorem isName_no {s : List UInt8} (h : isName s = true) {c : UInt8} (hc : c.toNat < 48) : c ∉ s := fun e => by
  rcases (isName_mem h).1 c e with h1 | h1
  · simp [small] at h1; omega
  · simp [digit] at h1; omega
def neckOk (x : T_Neck.ty) : Bool := inR x.1 100 10000 && (inR x.2.1 100 10000 && (inR x.2.2.1 0 500 && inR x.2.2.2.1 0 300))
theorem neckOk_iff {a b c d : Int} : neckOk (a, b, c, d, ()) = true ↔ (100 ≤ a ∧ a ≤ 10000) ∧ (100 ≤ b ∧ b ≤ 10000) ∧ (0 ≤ c ∧ c ≤ 500) ∧ (0 ≤ d ∧ d ≤ 300) := by
  simp [neckOk, inR]
theorem impl_ValidNeck_ok (x : T_Neck.ty) : impl_ValidNeck x = some (neckOk x) := by
  rw [impl_ValidNeck_eq, neckOk]
  simp only [impl_within_ok, Option.bind_some]
  cases inR x.1 100 10000 <;> cases inR x.2.1 100 10000 <;> cases inR x.2.2.1 0 500 <;> simp
theorem spec_l10DrawOk_ok {s : T_l00Src.ty} {c : Int} (hs : SrcOk s c) (hc : c ≤ 100000000000000000) : ∃ (x : T_Neck.ty) (s' : T_l00Src.ty), spec_l10DrawOk s = some (x, s') ∧ SrcOk s' (c + 8) := by
  obtain ⟨v1, s1, e1, k1, _⟩ := pick_ok hs (by omega) 40 (by omega)
  obtain ⟨v2, s2, e2, k2, _⟩ := pick_ok k1 (by omega) 40 (by omega)
  obtain ⟨v3, s3, e3, k3, _⟩ := pick_ok k2 (by omega) 50 (by omega)
  obtain ⟨v4, s4, e4, k4, _⟩ := pick_ok k3 (by omega) 90 (by omega)
  rw [spec_l10DrawOk_eq]
  simp only [e1, e2, e3, e4, Option.bind_some, src_eta]
  exact ⟨_, s4, rfl, k4.up (by omega)⟩
theorem spec_l10Draw_ok {s : T_l00Src.ty} {c : Int} (hs : SrcOk s c) (hc : c ≤ 10000000000000000) : ∃ (x : T_Neck.ty) (s' : T_l00Src.ty), spec_l10Draw s = some (x, s') ∧ SrcOk s' (c + 12) := by
  obtain ⟨x, s1, e1, k1⟩ := spec_l10DrawOk_ok hs (by omega)
  obtain ⟨v, s2, e2, k2, _⟩ := pick_ok k1 (by omega) 20 (by omega)
  obtain ⟨a1, t1, f1, g1, _⟩ := among_ok k2 (by omega) [99, 100, 10000, 10001] (by decide) (by decide)
  obtain ⟨a2, t2, f2, g2, _⟩ := among_ok k2 (by omega) [(-1), 0, 500, 501] (by decide) (by decide)
  obtain ⟨a3, t3, f3, g3, _⟩ := among_ok k2 (by omega) [(-1), 0, 300, 301] (by decide) (by decide)
  rw [spec_l10Draw_eq]
  simp only [e1, e2, f1, f2, f3, Option.bind_some, src_eta]
  repeat' split
  all_goals exact ⟨_, _, rfl, SrcOk.up (by first | exact g1 | exact g2 | exact g3 | exact k2) (by omega)⟩
theorem spec_l10DrawHeight_ok {s : T_l00Src.ty} {c : Int} (hs : SrcOk s c) (hc : c ≤ 100000000000000) : ∃ (x : Int) (s' : T_l00Src.ty), spec_l10DrawHeight s = some (x, s') ∧ SrcOk s' (c + 4) := by
  obtain ⟨b, s1, e1, k1⟩ := one_ok hs (by omega) 8 (by omega)
  obtain ⟨v, s2, e2, k2, _⟩ := among_ok k1 (by omega) [(-1), 0, 2000, 2001] (by decide) (by decide)
  obtain ⟨u, s3, e3, k3, _⟩ := pick_ok k1 (by omega) 200 (by omega)
  rw [spec_l10DrawHeight_eq]
  simp only [e1, e2, e3, Option.bind_some, src_eta]
  cases b
  · exact ⟨_, s3, rfl, k3.up (by omega)⟩
  · exact ⟨_, s2, rfl, k2.up (by omega)⟩
theorem pot_eta (x : T_Pot.ty) : (x.1, x.2.1, x.2.2.1, x.2.2.2.1, x.2.2.2.2.1, ()) = x := rfl
def potOk (id : List UInt8) (dry water heat hours : Int) : Bool :=
  isName id && (inR dry 1 10000 && (inR water 1 10000 && (inR heat 20 95 && inR hours 0 1000)))
def potOpen (dry water heat room : Int) : Int := if rdivP (60 * water) dry + 2 * (room - 15) + heat - 60 > 0 then rdivP (60 * water) dry + 2 * (room - 15) + heat - 60 else 0
theorem inR_iff {n lo hi : Int} : inR n lo hi = true ↔ lo ≤ n ∧ n ≤ hi := by simp [inR]
theorem potOk_iff {id : List UInt8} {dry water heat hours : Int} : potOk id dry water heat hours = true ↔ isName id = true ∧ (1 ≤ dry ∧ dry ≤ 10000) ∧ (1 ≤ water ∧ water ≤ 10000) ∧ (20 ≤ heat ∧ heat ≤ 95) ∧ 0 ≤ hours ∧ hours ≤ 1000 := by
  simp [potOk, inR_iff]
theorem open_bounds {dry water : Int} (h1 : 1 ≤ dry) (h2 : 0 ≤ water ∧ water ≤ 100000) : 0 ≤ rdivP (60 * water) dry ∧ rdivP (60 * water) dry ≤ 6000001 := by
  have := rdivP_nonneg (a := 60 * water) (b := dry) (by omega) (by omega)
  have := rdivP_le (a := 60 * water) (b := dry) (by omega) (by omega)
  omega
theorem potOpen_bounds {dry water heat room : Int} (h1 : 1 ≤ dry) (h2 : 0 ≤ water ∧ water ≤ 100000) (h3 : 20 ≤ heat ∧ heat ≤ 95) (h4 : 0 ≤ room ∧ room ≤ 40) : 0 ≤ potOpen dry water heat room ∧ potOpen dry water heat room ≤ 7000000 := by
  have := open_bounds h1 h2
  unfold potOpen
  split <;> omega
def potOkT (x : T_Pot.ty) : Bool := potOk x.1 x.2.1 x.2.2.1 x.2.2.2.1 x.2.2.2.2.1
def potsOk (xs : List T_Pot.ty) : Bool := sortedChk potOkT (fun x => x.1) none xs && decide ((xs.length : Int) ≤ 8)
theorem potsOk_all {xs : List T_Pot.ty} (h : potsOk xs = true) (x : T_Pot.ty) (hx : x ∈ xs) : potOkT x = true := by
  simp only [potsOk, Bool.and_eq_true] at h
  exact sortedChk_all h.1 x hx
def potStrong (dry water heat hours : Int) : Int :=
  if rdivP (1000 * dry) (dry + water) - 2 * hours - 10 * (if heat - 70 > 0 then heat - 70 else 0) > 0 then rdivP (1000 * dry) (dry + water) - 2 * hours - 10 * (if heat - 70 > 0 then heat - 70 else 0) else 0
theorem strong_bounds {dry water heat hours : Int} (h1 : 1 ≤ dry ∧ dry ≤ 10000) (h2 : 1 ≤ water ∧ water ≤ 100000) (h3 : 20 ≤ heat ∧ heat ≤ 95) (h4 : 0 ≤ hours ∧ hours ≤ 100000) :
    0 ≤ rdivP (1000 * dry) (dry + water) ∧ rdivP (1000 * dry) (dry + water) ≤ 10000001 ∧ 0 ≤ potStrong dry water heat hours ∧ potStrong dry water heat hours ≤ 10000001 := by
  have := rdivP_nonneg (a := 1000 * dry) (b := dry + water) (by omega) (by omega)
  have := rdivP_le (a := 1000 * dry) (b := dry + water) (by omega) (by omega)
  refine ⟨by omega, by omega, ?_⟩
  unfold potStrong
  constructor <;> repeat' split
  all_goals omega
def potHolds (dry water heat hours pull area : Int) : Bool := decide (pull ≤ potStrong dry water heat hours * area / 100)
theorem holds_bounds {s area : Int} (h1 : 0 ≤ s ∧ s ≤ 10000001) (h2 : 1 ≤ area ∧ area ≤ 100000) : 0 ≤ s * area ∧ s * area ≤ 1000000100000 ∧ IntKind.i64.wrap ((IntKind.i64.wrap (s * area)).tdiv 100) = s * area / 100 := by
  have e1 : 0 ≤ s * area := Int.mul_nonneg h1.1 (by omega)
  have e2 : s * area ≤ 10000001 * 100000 := Int.mul_le_mul h1.2 h2.2 (by omega) (by omega)
  refine ⟨e1, by omega, ?_⟩
  rw [w64 (n := s * area) (by omega) (by omega), tdiv_nonneg_eq e1, w64 (by omega) (by omega)]
theorem potOpen_mono {dry water water' heat room : Int} (h1 : 1 ≤ dry) (h2 : 0 ≤ water) (h : water ≤ water') : potOpen dry water heat room ≤ potOpen dry water' heat room := by
  have := rdivP_mono (a := 60 * water) (a' := 60 * water') (b := dry) (by omega) (by omega) (by omega)
  unfold potOpen
  split <;> split <;> omega
/-- The tone of a note. -/
def nt (k : Nat) : Int := (([1308, 1386, 1468, 1556, 1648, 1746, 1850, 1960, 2077, 2200, 2331, 2469] : List Int)[k % 12]?.getD 0) * 2 ^ (k / 12)
theorem nt_bd : ∀ k, k ≤ 60 → 1000 ≤ nt k ∧ nt k ≤ 50000 := by decide +kernel
theorem nt_mono : ∀ k, k ≤ 60 → ∀ j, j < k → nt j < nt k := by decide +kernel
theorem nt_oct : ∀ k, k ≤ 48 → nt (k + 12) = 2 * nt k := by decide +kernel
theorem nt_inj {j k : Nat} (hj : j ≤ 60) (hk : k ≤ 60) (h : nt j = nt k) : j = k := by
  rcases Nat.lt_trichotomy j k with h1 | h1 | h1
  · have := nt_mono k hk j h1; omega
  · exact h1
  · have := nt_mono j hj k h1; omega
/-- What is left of a strength behind a cycle. -/
def fallP (loss s : Int) : Int := s - rdivP (s * loss) 1000
theorem fallP_bd {loss s : Int} (hl : 1 ≤ loss ∧ loss ≤ 500) (hs : 0 ≤ s ∧ s ≤ 1000000) : 0 ≤ fallP loss s ∧ fallP loss s ≤ s := by
  have h1 : 0 ≤ s * loss := Int.mul_nonneg (by omega) (by omega)
  have h2 : s * loss ≤ s * 500 := Int.mul_le_mul_of_nonneg_left hl.2 hs.1
  unfold fallP
  have h3 := rdivP_nonneg (a := s * loss) (b := 1000) h1 (by omega)
  have h4 := rdivP_err (a := s * loss) (b := 1000) (by omega)
  unfold absI at h4
  split at h4 <;> omega
theorem fall_mul {loss s : Int} (hl : 1 ≤ loss ∧ loss ≤ 500) (hs : 0 ≤ s ∧ s ≤ 1000000) : 0 ≤ s * loss ∧ s * loss ≤ 500000000 := by
  have h1 : 0 ≤ s * loss := Int.mul_nonneg (by omega) (by omega)
  have h2 : s * loss ≤ s * 500 := Int.mul_le_mul_of_nonneg_left hl.2 hs.1
  omega
def ring (loss : Int) : Nat → Int → Int
  | 0, s => s
  | n + 1, s => ring loss n (fallP loss s)
theorem ring_succ (loss : Int) : ∀ (n : Nat) (s : Int), ring loss (n + 1) s = fallP loss (ring loss n s)
  | 0, _ => rfl
  | n + 1, s => by show ring loss (n + 1) (fallP loss s) = _; rw [ring_succ loss n]; rfl
theorem ring_bd {loss : Int} (hl : 1 ≤ loss ∧ loss ≤ 500) : ∀ (n : Nat) {s : Int}, 0 ≤ s ∧ s ≤ 1000000 → 0 ≤ ring loss n s ∧ ring loss n s ≤ s
  | 0, s, h => ⟨h.1, Int.le_refl _⟩
  | n + 1, s, h => by
    have h1 := fallP_bd hl h
    have h2 := ring_bd hl n (s := fallP loss s) (by omega)
    show 0 ≤ ring loss n (fallP loss s) ∧ ring loss n (fallP loss s) ≤ s
    omega
theorem szOne {α : Type} (n : Nat) (f : α → Int → Option Int) (x : α) (hx : n ≤ 9223372036854775807) (l : Int) (h : f x l = if decide (IntKind.i64.wrap (l - (n : Int)) < 0) then some (-1) else some (IntKind.i64.wrap (l - (n : Int)))) (h0 : 0 ≤ l) (h1 : l ≤ 1048576) :
    ∃ r, f x l = some r ∧ r ≤ l ∧ (0 ≤ r → n ≤ 1048576) := by
  rw [h, w64 (n := l - n) (by omega) (by omega)]
  by_cases hn : l - (n : Int) < 0
  · simp only [hn, decide_true, if_true]; exact ⟨-1, rfl, by omega, fun h => by omega⟩
  · simp only [hn, decide_false, Bool.false_eq_true, if_false]; exact ⟨_, rfl, by omega, fun h => by omega⟩
theorem szTwo {α : Type} (n m : Nat) (f : α → Int → Option Int) (x : α) (hx : n ≤ 9223372036854775807) (hm : m ≤ 9223372036854775807) (l : Int) (h : f x l = if decide (IntKind.i64.wrap (l - (n : Int)) < 0) then some (-1) else if decide (IntKind.i64.wrap ((IntKind.i64.wrap (l - (n : Int))) - (m : Int)) < 0) then some (-1) else some (IntKind.i64.wrap ((IntKind.i64.wrap (l - (n : Int))) - (m : Int)))) (h0 : 0 ≤ l) (h1 : l ≤ 1048576) :
    ∃ r, f x l = some r ∧ r ≤ l ∧ (0 ≤ r → n ≤ 1048576 ∧ m ≤ 1048576) := by
  rw [h, w64 (n := l - n) (by omega) (by omega)]
  by_cases hn : l - (n : Int) < 0
  · simp only [hn, decide_true, if_true]; exact ⟨-1, rfl, by omega, fun h => by omega⟩
  simp only [hn, decide_false, Bool.false_eq_true, if_false]
  rw [w64 (n := l - n - m) (by omega) (by omega)]
  by_cases hn2 : l - (n : Int) - m < 0
  · simp only [hn2, decide_true, if_true]; exact ⟨-1, rfl, by omega, fun h => by omega⟩
  · simp only [hn2, decide_false, Bool.false_eq_true, if_false]; exact ⟨_, rfl, by omega, fun h => ⟨by omega, by omega⟩⟩
def stackOk (x : T_Peg.ty) : Bool := isName x.1 && (inR x.2.1 0 1000 && (inR x.2.2.1 10 1000 && (inR x.2.2.2.1 0 36524)))
def stacksOk (xs : List T_Peg.ty) : Bool := sortedChk stackOk (fun x => x.1) none xs && decide ((xs.length : Int) ≤ 12)
theorem stacksOk_all {xs : List T_Peg.ty} (h : stacksOk xs = true) (x : T_Peg.ty) (hx : x ∈ xs) : stackOk x = true := by
  simp only [stacksOk, Bool.and_eq_true] at h
  exact sortedChk_all h.1 x hx
def ribOk (x : T_Mode.ty) : Bool := isName x.1 && (inR x.2.1 1 10000 && (inR x.2.2.1 1 10000))
def ribsOk (xs : List T_Mode.ty) : Bool := sortedChk ribOk (fun x => x.1) none xs && decide ((xs.length : Int) ≤ 8)
theorem ribsOk_all {xs : List T_Mode.ty} (h : ribsOk xs = true) (x : T_Mode.ty) (hx : x ∈ xs) : ribOk x = true := by
  simp only [ribsOk, Bool.and_eq_true] at h
  exact sortedChk_all h.1 x hx
def pegOk (x : T_Peg.ty) : Bool := isName x.1 && (inR x.2.1 20 200 && (inR x.2.2.1 100 1000 && (inR x.2.2.2.1 10 100)))
def pegsOk (xs : List T_Peg.ty) : Bool := sortedChk pegOk (fun x => x.1) none xs && decide ((xs.length : Int) ≤ 8)
theorem pegsOk_all {xs : List T_Peg.ty} (h : pegsOk xs = true) (x : T_Peg.ty) (hx : x ∈ xs) : pegOk x = true := by
  simp only [pegsOk, Bool.and_eq_true] at h
  exact sortedChk_all h.1 x hx
def modeOk (x : T_Mode.ty) : Bool := isName x.1 && (inR x.2.1 1000 100000 && (inR x.2.2.1 1 500))
def modesOk (xs : List T_Mode.ty) : Bool := sortedChk modeOk (fun x => x.1) none xs && decide ((xs.length : Int) ≤ 10)
theorem modesOk_all {xs : List T_Mode.ty} (h : modesOk xs = true) (x : T_Mode.ty) (hx : x ∈ xs) : modeOk x = true := by
  simp only [modesOk, Bool.and_eq_true] at h
  exact sortedChk_all h.1 x hx
def workOk (x : T_Peg.ty) : Bool := isName x.1 && (inR x.2.1 1 40 && (inR x.2.2.1 0 39 && (inR x.2.2.2.1 0 39 && (decide (IntKind.i64.wrap ((IntKind.i64.wrap (x.2.2.1 + x.2.1)) - 1) ≤ x.2.2.2.1)))))
def worksOk (xs : List T_Peg.ty) : Bool := sortedChk workOk (fun x => x.1) none xs && decide ((xs.length : Int) ≤ 8)
theorem worksOk_all {xs : List T_Peg.ty} (h : worksOk xs = true) (x : T_Peg.ty) (hx : x ∈ xs) : workOk x = true := by
  simp only [worksOk, Bool.and_eq_true] at h
  exact sortedChk_all h.1 x hx
def paperOk (x : T_Paper.ty) : Bool := isName x.1 && (isName x.2.1 && (decide (1500 ≤ x.2.2.1) && (decide (x.2.2.1 ≤ x.2.2.2.1) && (decide (x.2.2.2.1 ≤ 2100) && inR x.2.2.2.2.1 1 1000))))
def papersOk (xs : List T_Paper.ty) : Bool := sortedChk paperOk (fun x => x.1) none xs && decide ((xs.length : Int) ≤ 12)
theorem papersOk_all {xs : List T_Paper.ty} (h : papersOk xs = true) (x : T_Paper.ty) (hx : x ∈ xs) : paperOk x = true := by
  simp only [papersOk, Bool.and_eq_true] at h
  exact sortedChk_all h.1 x hx
def thickRow (r : List Int) : Bool := r.all fun x => inR x 1 200
def plateOk (xs : List (List Int)) : Bool :=
  match xs with
  | [] => false
  | r0 :: _ => decide (xs.length ≤ 10) && (decide (1 ≤ r0.length ∧ r0.length ≤ 10) && xs.all fun r => decide (r.length = r0.length) && thickRow r)
/-- What the laws ask of a desk's sizes. -/
def deskSmall (x : T_Desk.ty) : Prop :=
  (List.length (α := T_Peg.ty) x.1 ≤ 1048576 ∧ ∀ y : T_Peg.ty, y ∈ x.1 → y.1.length ≤ 1048576) ∧
  (List.length (α := T_Mode.ty) x.2.1 ≤ 1048576 ∧ ∀ y : T_Mode.ty, y ∈ x.2.1 → y.1.length ≤ 1048576) ∧
  (List.length (α := List Int) x.2.2.1 ≤ 1048576 ∧ ∀ y : List Int, y ∈ x.2.2.1 → y.length ≤ 1048576) ∧
  (List.length (α := T_Peg.ty) x.2.2.2.2.2.2.2.1 ≤ 1048576 ∧ ∀ y : T_Peg.ty, y ∈ x.2.2.2.2.2.2.2.1 → y.1.length ≤ 1048576) ∧
  (List.length (α := T_Pot.ty) x.2.2.2.2.2.2.2.2.1 ≤ 1048576 ∧ ∀ y : T_Pot.ty, y ∈ x.2.2.2.2.2.2.2.2.1 → y.1.length ≤ 1048576) ∧
  (List.length (α := T_Mode.ty) x.2.2.2.2.2.2.2.2.2.1 ≤ 1048576 ∧ ∀ y : T_Mode.ty, y ∈ x.2.2.2.2.2.2.2.2.2.1 → y.1.length ≤ 1048576) ∧
  (List.length (α := T_Peg.ty) x.2.2.2.2.2.2.2.2.2.2.1 ≤ 1048576 ∧ ∀ y : T_Peg.ty, y ∈ x.2.2.2.2.2.2.2.2.2.2.1 → y.1.length ≤ 1048576) ∧
  (List.length (α := T_Paper.ty) x.2.2.2.2.2.2.2.2.2.2.2.1 ≤ 1048576 ∧ ∀ y : T_Paper.ty, y ∈ x.2.2.2.2.2.2.2.2.2.2.2.1 → y.1.length ≤ 1048576 ∧ y.2.1.length ≤ 1048576)
def deskOk (x : T_Desk.ty) : Bool :=
  stacksOk x.1 && (ribsOk x.2.1 && (plateOk x.2.2.1 && (neckOk (x.2.2.2.1, x.2.2.2.2.1, x.2.2.2.2.2.1, x.2.2.2.2.2.2.1, ()) && (pegsOk x.2.2.2.2.2.2.2.1 && (potsOk x.2.2.2.2.2.2.2.2.1 && (modesOk x.2.2.2.2.2.2.2.2.2.1 && (worksOk x.2.2.2.2.2.2.2.2.2.2.1 && papersOk x.2.2.2.2.2.2.2.2.2.2.2.1)))))))
theorem wf_str {α : Type} {t : ET} {f : t.ty → List UInt8} {xs : List t.ty} (h : CT.wf (.sl t) xs) (hf : ∀ x, t.wf x → (f x).length ≤ Go.maxLen) : xs.length ≤ 9223372036854775807 ∧ ∀ x, x ∈ xs → (f x).length ≤ 9223372036854775807 := by
  rw [← maxLen_eq]
  exact ⟨h.1, fun x hx => hf x (h.2 x hx)⟩
def lineP (x0 y0 x1 y1 h : Int) : Int := if h ≤ x0 then y0 else if x1 ≤ x0 then y0 else if h ≥ x1 then y1 else y0 + rdivP ((y1 - y0) * (h - x0)) (x1 - x0)
/-- The even moisture for a humidity. -/
def evenP (h : Int) : Int := if h ≤ 300 then lineP 0 0 300 60 h else if h ≤ 600 then lineP 300 60 600 110 h else if h ≤ 800 then lineP 600 110 800 160 h else lineP 800 160 1000 280 h
theorem evenP_bd {h : Int} (hh : 0 ≤ h ∧ h ≤ 1000) : 0 ≤ evenP h ∧ evenP h ≤ 280 := by
  unfold evenP lineP rdivP
  repeat' split
  all_goals omega
/-- By how much a moisture changes on a day. -/
def chg (e t m : Int) : Int := rdivP (20 * (e - m)) (t + 20)
def stp (e t m : Int) : Int := m + chg e t m
/-- A moisture after some days. -/
def aft (e t : Int) : Nat → Int → Int
  | 0, m => m
  | n + 1, m => aft e t n (stp e t m)
theorem aft_succ (e t : Int) : ∀ (n : Nat) (m : Int), aft e t (n + 1) m = stp e t (aft e t n m)
  | 0, _ => rfl
  | n + 1, m => by show aft e t (n + 1) (stp e t m) = _; rw [aft_succ e t n]; rfl
theorem rdiv20 {T d : Int} (hT : 30 ≤ T) (hd : 0 ≤ d) : 0 ≤ rdivP (20 * d) T ∧ rdivP (20 * d) T ≤ d := by
  refine ⟨rdivP_nonneg (by omega) (by omega), ?_⟩
  have hm : 30 * d ≤ T * d := Int.mul_le_mul_of_nonneg_right hT hd
  have h1 := rdivP_err (a := 20 * d) (b := T) (by omega)
  generalize hq : rdivP (20 * d) T = q at h1 ⊢
  by_cases hc : q ≤ d
  · exact hc
  · have h2 : (d + 1) * T ≤ q * T := Int.mul_le_mul_of_nonneg_right (by omega) (by omega)
    rw [Int.add_mul, Int.mul_comm d T] at h2
    unfold absI at h1
    split at h1 <;> omega
theorem rdiv20n {T d : Int} (hT : 30 ≤ T) (hd : d ≤ 0) : d ≤ rdivP (20 * d) T ∧ rdivP (20 * d) T ≤ 0 := by
  by_cases h0 : d = 0
  · subst h0
    have := rdiv20 (d := 0) hT (by omega)
    omega
  · have h1 := rdiv20 (d := -d) hT (by omega)
    have h2 := rdivP_neg (a := 20 * -d) (b := T) (by omega) (by omega)
    rw [show -(20 * -d) = 20 * d by omega] at h2
    omega
theorem chg_up {e t m : Int} (ht : 10 ≤ t) (h : m ≤ e) : 0 ≤ chg e t m ∧ chg e t m ≤ e - m := rdiv20 (by omega) (by omega)
theorem chg_dn {e t m : Int} (ht : 10 ≤ t) (h : e ≤ m) : e - m ≤ chg e t m ∧ chg e t m ≤ 0 := rdiv20n (by omega) (by omega)
theorem aft_up {e t : Int} (ht : 10 ≤ t) : ∀ (n : Nat) {m : Int}, m ≤ e → m ≤ aft e t n m ∧ aft e t n m ≤ e
  | 0, m, h => ⟨Int.le_refl _, h⟩
  | n + 1, m, h => by
    have h1 := chg_up ht h
    have h2 := aft_up (e := e) ht n (m := stp e t m) (by unfold stp; omega)
    show m ≤ aft e t n (stp e t m) ∧ _
    unfold stp at h2 ⊢
    exact ⟨by omega, h2.2⟩
theorem aft_dn {e t : Int} (ht : 10 ≤ t) : ∀ (n : Nat) {m : Int}, e ≤ m → e ≤ aft e t n m ∧ aft e t n m ≤ m
  | 0, m, h => ⟨h, Int.le_refl _⟩
  | n + 1, m, h => by
    have h1 := chg_dn ht h
    have h2 := aft_dn (e := e) ht n (m := stp e t m) (by unfold stp; omega)
    show e ≤ aft e t n (stp e t m) ∧ aft e t n (stp e t m) ≤ m
    unfold stp at h2 ⊢
    exact ⟨h2.1, by omega⟩
theorem aft_rest {e t : Int} (n : Nat) {m : Int} (h : chg e t m = 0) : aft e t n m = m := by
  induction n with
  | zero => rfl
  | succ n ih => show aft e t n (stp e t m) = m; rw [show stp e t m = m by unfold stp; omega]; exact ih
theorem aft_bd {e t : Int} (ht : 10 ≤ t) (n : Nat) {m : Int} (he : 0 ≤ e ∧ e ≤ 1000) (hm : 0 ≤ m ∧ m ≤ 1000) : 0 ≤ aft e t n m ∧ aft e t n m ≤ 1000 := by
  by_cases h : m ≤ e
  · have := aft_up ht n h; omega
  · have := aft_dn ht n (show e ≤ m by omega); omega
theorem aft_near {e t : Int} (ht : 10 ≤ t) (n : Nat) (m : Int) : absI (aft e t n m - e) ≤ absI (m - e) := by
  unfold absI
  by_cases h : m ≤ e
  · have := aft_up ht n h; split <;> split <;> omega
  · have := aft_dn ht n (show e ≤ m by omega); split <;> split <;> omega
theorem rdivP_zero {b : Int} (hb : 0 < b) : rdivP 0 b = 0 := by
  rw [rdivP_eq (by omega) hb]
  simp; omega
theorem chg_less {e t m : Int} (ht : 10 ≤ t) : absI (chg e t (stp e t m)) ≤ absI (chg e t m) := by
  by_cases h : m ≤ e
  · have h1 := chg_up ht h
    have h2 : stp e t m ≤ e := by unfold stp; omega
    have h3 := chg_up ht h2
    have h4 : chg e t (stp e t m) ≤ chg e t m := by
      unfold chg
      refine rdivP_mono (by omega) ?_ (by omega)
      unfold stp; omega
    unfold absI; split <;> split <;> omega
  · have h1 := chg_dn ht (show e ≤ m by omega)
    have h2 : e ≤ stp e t m := by unfold stp; omega
    have h3 := chg_dn ht h2
    have h4 : chg e t m ≤ chg e t (stp e t m) := by
      have key : ∀ x : Int, e < x → chg e t x = - rdivP (20 * (x - e)) (t + 20) := fun x hx => by
        unfold chg
        rw [← rdivP_neg (by omega) (by omega)]; congr 1; omega
      rw [key m (by omega)]
      by_cases h5 : e = stp e t m
      · unfold chg at h3 ⊢
        have h6 := rdivP_nonneg (a := 20 * (m - e)) (b := t + 20) (by omega) (by omega)
        rw [show 20 * (e - stp e t m) = 0 by omega, rdivP_zero (by omega)]; omega
      · rw [key (stp e t m) (by omega)]
        have h6 := rdivP_mono (a := 20 * (stp e t m - e)) (a' := 20 * (m - e)) (b := t + 20) (by omega) (by unfold stp; omega) (by omega)
        omega
    unfold absI; split <;> split <;> omega
theorem stackOk_iff {id : List UInt8} {m t s : Int} : stackOk (id, m, t, s, ()) = true ↔ isName id = true ∧ (0 ≤ m ∧ m ≤ 1000) ∧ (10 ≤ t ∧ t ≤ 1000) ∧ (0 ≤ s ∧ s ≤ 36524) := by
  simp [stackOk, inR_iff]
def moistP (id : List UInt8) (m t s h d : Int) : Int × Int :=
  if stackOk (id, m, t, s, ()) = true then if inR h 0 1000 = true ∧ inR d 0 4000 = true then (aft (evenP h) t d.toNat m, 0) else (0, 2) else (0, 1)
end Go.Ab.P
