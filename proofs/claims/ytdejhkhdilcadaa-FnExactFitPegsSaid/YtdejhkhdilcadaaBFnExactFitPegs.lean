/- Lemmas on functions of the program. Conditions: told in each. -/
import Derived.Test.YtdejhkhdilcadaaPFnExactFitPegs
set_option linter.unusedVariables false
set_option linter.unusedSimpArgs false
namespace Go.Ab.P
open Go.Ab
/-- The sizes of a list's elements: what is left. -/
theorem szLoop {α : Type} {P : α → Prop} (xs : List α) (sz1 : α → Int → Option Int) (p0 : List α → Int → Int → Option Int)
    (heq : ∀ (l i : Int), p0 xs l i = if decide (i < (xs.length : Int)) then (if decide (0 ≤ i) then (xs[i.toNat]?).bind fun x1 => (sz1 x1 l).bind fun x2 => if decide (x2 < 0) then some (-1) else p0 xs x2 (IntKind.i64.wrap (i + 1)) else none) else some l)
    (hs : xs.length ≤ 1048576) (h1 : ∀ x, x ∈ xs → ∀ l : Int, 0 ≤ l → l ≤ 1048576 → ∃ n, sz1 x l = some n ∧ n ≤ l ∧ (0 ≤ n → P x)) :
    ∀ (k i : Nat) (l : Int), i + k = xs.length → 0 ≤ l → l ≤ 1048576 → ∃ n, p0 xs l i = some n ∧ n ≤ l ∧ (0 ≤ n → ∀ x, x ∈ xs.drop i → P x)
  | 0, i, l, hk, hl, hl' => by
    refine ⟨l, ?_, Int.le_refl _, fun _ x hx => ?_⟩
    · rw [heq]
      have : ¬ (i : Int) < (xs.length : Int) := by omega
      simp only [this, decide_false, Bool.false_eq_true, if_false]
    · rw [List.drop_eq_nil_of_le (by omega)] at hx; cases hx
  | k + 1, i, l, hk, hl, hl' => by
    have hi : i < xs.length := by omega
    have hlt : (i : Int) < (xs.length : Int) := by omega
    obtain ⟨n, e1, e2, e3⟩ := h1 xs[i] (List.getElem_mem hi) l hl hl'
    rw [heq]
    simp only [hlt, decide_true, if_true, Int.natCast_nonneg, Int.toNat_natCast, List.getElem?_eq_getElem hi, Option.bind_some, e1]
    by_cases hn : n < 0
    · simp only [hn, decide_true, if_true]
      exact ⟨-1, rfl, by omega, fun h => by omega⟩
    · simp only [hn, decide_false, Bool.false_eq_true, if_false]
      have hw : IntKind.i64.wrap ((i : Int) + 1) = ((i + 1 : Nat) : Int) := by rw [w64 (by omega) (by omega)]; omega
      rw [hw]
      obtain ⟨q, f1, f2, f3⟩ := szLoop xs sz1 p0 heq hs h1 k (i + 1) n (by omega) (by omega) (by omega)
      refine ⟨q, f1, by omega, fun hq x hx => ?_⟩
      rw [List.drop_eq_getElem_cons hi] at hx
      rcases List.mem_cons.1 hx with rfl | hx
      · exact e3 (by omega)
      · exact f3 hq x hx
theorem szList {α : Type} {P : α → Prop} (xs : List α) (sz1 : α → Int → Option Int) (p0 : List α → Int → Int → Option Int) (szS : List α → Int → Option Int)
    (heq : ∀ (l i : Int), p0 xs l i = if decide (i < (xs.length : Int)) then (if decide (0 ≤ i) then (xs[i.toNat]?).bind fun x1 => (sz1 x1 l).bind fun x2 => if decide (x2 < 0) then some (-1) else p0 xs x2 (IntKind.i64.wrap (i + 1)) else none) else some l)
    (hS : ∀ l : Int, szS xs l = if decide (IntKind.i64.wrap (l - (xs.length : Int)) < 0) then some (-1) else p0 xs (IntKind.i64.wrap (l - (xs.length : Int))) 0)
    (hl : xs.length ≤ 9223372036854775807) (h1 : ∀ x, x ∈ xs → ∀ l : Int, 0 ≤ l → l ≤ 1048576 → ∃ n, sz1 x l = some n ∧ n ≤ l ∧ (0 ≤ n → P x)) (l : Int) (h0 : 0 ≤ l) (h0' : l ≤ 1048576) :
    ∃ n, szS xs l = some n ∧ n ≤ l ∧ (0 ≤ n → xs.length ≤ 1048576 ∧ ∀ x, x ∈ xs → P x) := by
  rw [hS, w64 (n := l - xs.length) (by omega) (by omega)]
  by_cases hn : l - (xs.length : Int) < 0
  · simp only [hn, decide_true, if_true]
    exact ⟨-1, rfl, by omega, fun h => by omega⟩
  · simp only [hn, decide_false, Bool.false_eq_true, if_false]
    obtain ⟨q, f1, f2, f3⟩ := szLoop xs sz1 p0 heq (by omega) h1 xs.length 0 (l - xs.length) (by omega) (by omega) (by omega)
    exact ⟨q, f1, by omega, fun hq => ⟨by omega, fun x hx => f3 hq x hx⟩⟩
/-- A list made element by element is the list. -/
theorem toLoop {α : Type} (xs : List α) (to1 : α → Option α) (p0 : List α → Nat → Int → List α → Option (List α))
    (heq : ∀ (n : Nat) (i : Int) (r : List α), p0 xs n i r = if decide (i < (xs.length : Int)) then (if decide (0 ≤ i) then (xs[i.toNat]?).bind fun x1 => (to1 x1).bind fun x2 => if decide (0 ≤ i) && decide (i < (n : Int)) then (r[i.toNat]?).bind fun x3 => p0 xs n (IntKind.i64.wrap (i + 1)) (r.set i.toNat x2) else none else none) else some (r.take n))
    (hs : xs.length ≤ 1099511627776) (h1 : ∀ x, x ∈ xs → to1 x = some x) :
    ∀ (k i : Nat) (r : List α), i + k = xs.length → r.length = xs.length → r.take i = xs.take i → p0 xs xs.length i r = some xs
  | 0, i, r, hk, hr, ht => by
    rw [heq]
    have : ¬ (i : Int) < (xs.length : Int) := by omega
    simp only [this, decide_false, Bool.false_eq_true, if_false]
    have hi : i = xs.length := by omega
    rw [hi] at ht
    rw [ht, List.take_length]
  | k + 1, i, r, hk, hr, ht => by
    have hi : i < xs.length := by omega
    have hlt : (i : Int) < (xs.length : Int) := by omega
    have hw : IntKind.i64.wrap ((i : Int) + 1) = ((i + 1 : Nat) : Int) := by rw [w64 (by omega) (by omega)]; omega
    rw [heq]
    simp only [hlt, decide_true, if_true, Int.natCast_nonneg, Int.toNat_natCast, List.getElem?_eq_getElem hi, Option.bind_some, h1 xs[i] (List.getElem_mem hi), Bool.and_self, List.getElem?_eq_getElem (show i < r.length by omega), hw]
    refine toLoop xs to1 p0 heq hs h1 k (i + 1) (r.set i xs[i]) (by omega) (by simp [hr]) ?_
    rw [List.take_add_one, List.take_add_one, List.getElem?_set_self (by omega), List.getElem?_eq_getElem hi, List.take_set_of_le (by omega), ht]
theorem toList_ok {α : Type} (xs : List α) (z : α) (to1 : α → Option α) (p0 : List α → Nat → Int → List α → Option (List α)) (toS : List α → Option (List α))
    (heq : ∀ (n : Nat) (i : Int) (r : List α), p0 xs n i r = if decide (i < (xs.length : Int)) then (if decide (0 ≤ i) then (xs[i.toNat]?).bind fun x1 => (to1 x1).bind fun x2 => if decide (0 ≤ i) && decide (i < (n : Int)) then (r[i.toNat]?).bind fun x3 => p0 xs n (IntKind.i64.wrap (i + 1)) (r.set i.toNat x2) else none else none) else some (r.take n))
    (hS : toS xs = if decide (0 ≤ (xs.length : Int)) && decide ((xs.length : Int) ≤ (xs.length : Int)) && decide ((xs.length : Int).toNat < lim) then p0 xs ((List.replicate ((xs.length : Int).toNat) z).length) 0 (List.replicate ((xs.length : Int).toNat) z) else none)
    (hs : xs.length ≤ 1048576) (h1 : ∀ x, x ∈ xs → to1 x = some x) : toS xs = some xs := by
  rw [hS, lim_eq]
  have h2 : (xs.length : Int).toNat < 1099511627776 := by omega
  have h3 : (xs.length : Int) ≤ (xs.length : Int) := Int.le_refl _
  rw [decide_eq_true h2]
  simp only [h3, Int.natCast_nonneg, decide_true, Bool.and_self, if_true, Int.toNat_natCast, List.length_replicate]
  exact toLoop xs to1 p0 heq (by omega) h1 xs.length 0 _ (by omega) (by simp) (by simp)
/-- A list is equal to itself. -/
theorem eqLoop {α : Type} (xs : List α) (eq1 : α → α → Option Bool) (p0 : List α → List α → Int → Option Bool)
    (heq : ∀ (i : Int), p0 xs xs i = if decide (i < (xs.length : Int)) then (if decide (0 ≤ i) then (xs[i.toNat]?).bind fun x1 => if decide (0 ≤ i) then (xs[i.toNat]?).bind fun x2 => (eq1 x1 x2).bind fun x3 => if (!x3) then some false else p0 xs xs (IntKind.i64.wrap (i + 1)) else none else none) else some true)
    (hs : xs.length ≤ 1048576) (h1 : ∀ x, x ∈ xs → eq1 x x = some true) : ∀ (k i : Nat), i + k = xs.length → p0 xs xs i = some true
  | 0, i, hk => by
    rw [heq]
    have : ¬ (i : Int) < (xs.length : Int) := by omega
    simp only [this, decide_false, Bool.false_eq_true, if_false]
  | k + 1, i, hk => by
    have hi : i < xs.length := by omega
    have hlt : (i : Int) < (xs.length : Int) := by omega
    have hw : IntKind.i64.wrap ((i : Int) + 1) = ((i + 1 : Nat) : Int) := by rw [w64 (by omega) (by omega)]; omega
    rw [heq]
    simp only [hlt, decide_true, if_true, Int.natCast_nonneg, Int.toNat_natCast, List.getElem?_eq_getElem hi, Option.bind_some, h1 xs[i] (List.getElem_mem hi), Bool.not_true, Bool.false_eq_true, if_false, hw]
    exact eqLoop xs eq1 p0 heq hs h1 k (i + 1) (by omega)
theorem eqList_ok {α : Type} (xs : List α) (eq1 : α → α → Option Bool) (p0 : List α → List α → Int → Option Bool) (eqS : List α → List α → Option Bool)
    (heq : ∀ (i : Int), p0 xs xs i = if decide (i < (xs.length : Int)) then (if decide (0 ≤ i) then (xs[i.toNat]?).bind fun x1 => if decide (0 ≤ i) then (xs[i.toNat]?).bind fun x2 => (eq1 x1 x2).bind fun x3 => if (!x3) then some false else p0 xs xs (IntKind.i64.wrap (i + 1)) else none else none) else some true)
    (hS : eqS xs xs = if ((xs.length : Int) != (xs.length : Int)) then some false else p0 xs xs 0)
    (hs : xs.length ≤ 1048576) (h1 : ∀ x, x ∈ xs → eq1 x x = some true) : eqS xs xs = some true := by
  rw [hS]
  simp only [bne_self_eq_false, Bool.false_eq_true, if_false]
  exact eqLoop xs eq1 p0 heq hs h1 xs.length 0 (by omega)
/-- A list whose elements are all as wished, their names rising. -/
def sortedChk {α : Type} (ok : α → Bool) (id : α → List UInt8) : Option α → List α → Bool
  | _, [] => true
  | p, x :: r => ok x && ((match p with | none => true | some y => Op.bytesLess (id y) (id x)) && sortedChk ok id (some x) r)
theorem sortedChk_all {α : Type} {ok : α → Bool} {id : α → List UInt8} : ∀ {l : List α} {p : Option α}, sortedChk ok id p l = true → ∀ x, x ∈ l → ok x = true
  | [], _, _, x, hx => by cases hx
  | y :: r, p, h, x, hx => by
    simp only [sortedChk, Bool.and_eq_true] at h
    rcases List.mem_cons.1 hx with rfl | hx
    · exact h.1
    · exact sortedChk_all h.2.2 x hx
theorem sortedLoopI {α : Type} (xs : List α) (one : α → Option Bool) (ok : α → Bool) (id : α → List UInt8) (p0 : Int → Option Bool) (last : Option Bool) (lb : Bool) (hlast : last = some lb)
    (heq : ∀ i : Int, p0 i = if decide (i < (xs.length : Int)) then (if decide (0 ≤ i) then (xs[i.toNat]?).bind fun x1 => (one x1).bind fun x2 => if (!x2) then some false else if decide (i > 0) then (if decide (0 ≤ IntKind.i64.wrap (i - 1)) then (xs[(IntKind.i64.wrap (i - 1)).toNat]?).bind fun x3 => if (!Op.bytesLess (id x3) (id x1)) then some false else p0 (IntKind.i64.wrap (i + 1)) else none) else p0 (IntKind.i64.wrap (i + 1)) else none) else last)
    (hs : xs.length ≤ 1048576) (h1 : ∀ x, x ∈ xs → one x = some (ok x)) :
    ∀ (k i : Nat), i + k = xs.length → p0 i = some (sortedChk ok id (if i = 0 then none else xs[i - 1]?) (xs.drop i) && lb)
  | 0, i, hk => by
    rw [heq, List.drop_eq_nil_of_le (by omega)]
    have : ¬ (i : Int) < (xs.length : Int) := by omega
    simp only [this, decide_false, Bool.false_eq_true, if_false, hlast, sortedChk, Bool.true_and]
  | k + 1, i, hk => by
    have hi : i < xs.length := by omega
    have hlt : (i : Int) < (xs.length : Int) := by omega
    have hw : IntKind.i64.wrap ((i : Int) + 1) = ((i + 1 : Nat) : Int) := by rw [w64 (by omega) (by omega)]; omega
    have ih := sortedLoopI xs one ok id p0 last lb hlast heq hs h1 k (i + 1) (by omega)
    rw [if_neg (by omega), Nat.add_sub_cancel, List.getElem?_eq_getElem hi] at ih
    rw [heq, List.drop_eq_getElem_cons hi]
    simp only [hlt, decide_true, if_true, Int.natCast_nonneg, Int.toNat_natCast, List.getElem?_eq_getElem hi, Option.bind_some, h1 xs[i] (List.getElem_mem hi), hw, ih, sortedChk]
    cases hok : ok xs[i]
    · simp
    · by_cases h0 : i = 0
      · subst h0; simp
      · have hp : (i : Int) > 0 := by omega
        have hw2 : IntKind.i64.wrap ((i : Int) - 1) = ((i - 1 : Nat) : Int) := by rw [w64 (by omega) (by omega)]; omega
        simp only [hp, decide_true, if_true, hw2, Int.natCast_nonneg, Int.toNat_natCast, List.getElem?_eq_getElem (show i - 1 < xs.length by omega), Option.bind_some, h0, if_false, Bool.not_true, Bool.false_eq_true]
        cases Op.bytesLess (id xs[i - 1]) (id xs[i]) <;> simp
theorem sortedLoopS {α : Type} (xs : List α) (one : α → Option Bool) (ok : α → Bool) (id : α → List UInt8) (p0 : Int → Option Bool) (last : Option Bool) (lb : Bool) (hlast : last = some lb)
    (heq : ∀ i : Int, p0 i = if decide (i < (xs.length : Int)) then (if decide (0 ≤ i) then (xs[i.toNat]?).bind fun x1 => (one x1).bind fun x2 => if (!x2) then some false else if decide (i > 0) then (if decide (0 ≤ IntKind.i64.wrap (i - 1)) then (xs[(IntKind.i64.wrap (i - 1)).toNat]?).bind fun x3 => if decide (0 ≤ i) then (xs[i.toNat]?).bind fun x4 => if (!Op.bytesLess (id x3) (id x4)) then some false else p0 (IntKind.i64.wrap (i + 1)) else none else none) else p0 (IntKind.i64.wrap (i + 1)) else none) else last)
    (hs : xs.length ≤ 1048576) (h1 : ∀ x, x ∈ xs → one x = some (ok x)) :
    ∀ (k i : Nat), i + k = xs.length → p0 i = some (sortedChk ok id (if i = 0 then none else xs[i - 1]?) (xs.drop i) && lb) := by
  refine sortedLoopI xs one ok id p0 last lb hlast (fun i => ?_) hs h1
  rw [heq]
  by_cases h : i < (xs.length : Int)
  · by_cases h0 : 0 ≤ i
    · simp only [h, h0, decide_true, if_true]
      cases xs[i.toNat]? <;> rfl
    · simp only [h, h0, decide_true, decide_false, Bool.false_eq_true, if_true, if_false]
  · simp only [h, decide_false, Bool.false_eq_true, if_false]
/-- A loop that leaves at the first element that is not as wished. -/
theorem allLoop {α β : Type} (xs : List α) (one : α → Option Bool) (ok : α → Bool) (p0 : Int → Option β) (bad : β) (last : Option β)
    (heq : ∀ i : Int, p0 i = if decide (i < (xs.length : Int)) then (if decide (0 ≤ i) then (xs[i.toNat]?).bind fun x1 => (one x1).bind fun x2 => if (!x2) then some bad else p0 (IntKind.i64.wrap (i + 1)) else none) else last)
    (hs : xs.length ≤ 1099511627776) (h1 : ∀ x, x ∈ xs → one x = some (ok x)) :
    ∀ (k i : Nat), i + k = xs.length → p0 i = if (xs.drop i).all ok then last else some bad
  | 0, i, hk => by
    rw [heq, List.drop_eq_nil_of_le (by omega)]
    have : ¬ (i : Int) < (xs.length : Int) := by omega
    simp [this]
  | k + 1, i, hk => by
    have hi : i < xs.length := by omega
    have hlt : (i : Int) < (xs.length : Int) := by omega
    have hw : IntKind.i64.wrap ((i : Int) + 1) = ((i + 1 : Nat) : Int) := by rw [w64 (by omega) (by omega)]; omega
    have ih := allLoop xs one ok p0 bad last heq hs h1 k (i + 1) (by omega)
    rw [heq, List.drop_eq_getElem_cons hi]
    simp only [hlt, decide_true, if_true, Int.natCast_nonneg, Int.toNat_natCast, List.getElem?_eq_getElem hi, Option.bind_some, h1 xs[i] (List.getElem_mem hi), hw, ih, List.all_cons]
    by_cases hok : ok xs[i] = true
    · simp [hok]
    · simp [hok]
theorem wsucc {i : Nat} (h : i < 4611686018427387904) : IntKind.i64.wrap ((i : Int) + 1) = ((i + 1 : Nat) : Int) := by
  rw [w64 (by omega) (by omega)]; omega
theorem getElem?_lt {α : Type} {l : List α} {i : Nat} (h : i < l.length) : l[i]? = some l[i] := List.getElem?_eq_getElem h
theorem drop_cons {α : Type} {l : List α} {i : Nat} (h : i < l.length) : l.drop i = l[i] :: l.drop (i + 1) := List.drop_eq_getElem_cons h
theorem tdiv_nonneg_eq {a b : Int} (ha : 0 ≤ a) : a.tdiv b = a / b := Int.tdiv_eq_ediv_of_nonneg ha
def small (c : UInt8) : Bool := decide (97 ≤ (c.toNat : Int)) && decide ((c.toNat : Int) ≤ 122)
def digit (c : UInt8) : Bool := decide (48 ≤ (c.toNat : Int)) && decide ((c.toNat : Int) ≤ 57)
def isName (s : List UInt8) : Bool := match s with | [] => false | c :: r => small c && r.all (fun c => small c || digit c) && decide (s.length ≤ 10)
def inR (n lo hi : Int) : Bool := decide (lo ≤ n) && decide (n ≤ hi)
theorem inR_iff' {n lo hi : Int} : inR n lo hi = true ↔ lo ≤ n ∧ n ≤ hi := by simp [inR]

theorem impl_within_ok (n lo hi : Int) : impl_within n lo hi = some (inR n lo hi) := by
  rw [impl_within_eq, inR]; by_cases h : lo ≤ n <;> simp [h]

theorem spec_l00In_ok (n lo hi : Int) : spec_l00In n lo hi = some (inR n lo hi) := by
  rw [spec_l00In_eq, inR]; by_cases h : lo ≤ n <;> simp [h]

theorem spec_l00Max_ok (a b : Int) : spec_l00Max a b = some (if b > a then b else a) := by
  rw [spec_l00Max_eq]; simp only [decide_eq_true_eq]; repeat' split
  all_goals first | rfl | (congr 1; omega)

theorem spec_l01Small_ok (c : UInt8) : spec_l01Small (c.toNat : Int) = some (small c) := by
  rw [spec_l01Small_eq, small]; by_cases h : 97 ≤ (c.toNat : Int) <;> simp [h]

theorem spec_l01Digit_ok (c : UInt8) : spec_l01Digit (c.toNat : Int) = some (digit c) := by
  rw [spec_l01Digit_eq, digit]; by_cases h : 48 ≤ (c.toNat : Int) <;> simp [h]

theorem impl_isDigit_ok (c : UInt8) : impl_isDigit (c.toNat : Int) = some (digit c) := by
  rw [impl_isDigit_eq, digit]; by_cases h : 48 ≤ (c.toNat : Int) <;> simp [h]

theorem spec_l01Name_p1_ok (s : List UInt8) (hs : s.length < 4611686018427387904) : ∀ (k i : Nat), i + k = s.length → spec_l01Name_p1 s i = some ((s.drop i).all fun c => small c || digit c)
  | 0, i, h => by
    rw [spec_l01Name_p1_eq, List.drop_eq_nil_of_le (by omega)]
    simp; omega
  | k + 1, i, h => by
    have hi : i < s.length := by omega
    rw [spec_l01Name_p1_eq, drop_cons hi]
    have h1 : (i : Int) < (s.length : Int) := by omega
    simp only [h1, decide_true, if_true, Int.natCast_nonneg, Int.toNat_natCast, getElem?_lt hi, Option.bind_some, spec_l01Small_ok, spec_l01Digit_ok, wsucc (show i < 4611686018427387904 by omega), spec_l01Name_p1_ok s hs k (i + 1) (by omega), List.all_cons]
    cases small s[i] <;> cases digit s[i] <;> simp
theorem spec_l01Name_ok (s : List UInt8) (hs : s.length < 4611686018427387904) : spec_l01Name s = some (isName s) := by
  rw [spec_l01Name_eq]
  cases s with
  | nil => rfl
  | cons c r =>
    have := spec_l01Name_p1_ok (c :: r) hs (r.length + 1) 0 (by simp)
    simp only [spec_l01Name_p0_eq, List.getElem?_cons_zero, Option.bind_some, spec_l01Small_ok]
    rw [show ((0 : Nat) : Int) = 0 from rfl] at this
    rw [this, isName]
    have e0 : ((c :: r) == ([] : List UInt8)) = false := by simp
    by_cases hl : ((c :: r).length : Int) > 10
    · have : ¬ (c :: r).length ≤ 10 := by omega
      simp only [e0, hl, this, decide_true, decide_false, if_true, Bool.false_eq_true, if_false, Bool.and_false]
    · have : (c :: r).length ≤ 10 := by omega
      simp only [e0, hl, this, decide_true, decide_false, if_true, Bool.false_eq_true, if_false, Bool.and_true]
      cases hc : small c <;> simp [hc]

def okFrom : Nat → List UInt8 → Bool
  | _, [] => true
  | i, c :: r => (small c || (i != 0 && digit c)) && okFrom (i + 1) r
theorem okFrom_all (r : List UInt8) : ∀ i, okFrom (i + 1) r = r.all fun c => small c || digit c := by
  induction r with
  | nil => intro i; rfl
  | cons c r ih => intro i; simp [okFrom, ih]
theorem impl_IsName_p0_ok (s : List UInt8) (hs : s.length < 4611686018427387904) : ∀ (k i : Nat), i + k = s.length → impl_IsName_p0 s i = some (okFrom i (s.drop i) && (!(s == []) && decide (s.length ≤ 10)))
  | 0, i, h => by
    rw [impl_IsName_p0_eq, List.drop_eq_nil_of_le (by omega), impl_few_eq]
    have h1 : ¬ (i : Int) < (s.length : Int) := by omega
    simp only [h1, decide_false, Bool.false_eq_true, if_false, okFrom, Option.bind_some, Bool.true_and]
    cases s with
    | nil => rfl
    | cons c r =>
      have : ((c :: r == []) = false) := by simp
      simp only [this, Bool.not_false, if_true, Bool.true_and]
      congr 1
      simp only [decide_eq_decide]; omega
  | k + 1, i, h => by
    have hi : i < s.length := by omega
    have h1 : (i : Int) < (s.length : Int) := by omega
    have ih := impl_IsName_p0_ok s hs k (i + 1) (by omega)
    have e1 : ∀ b : Bool, impl_IsName_p1 s i b = some (((b || (i != 0 && digit s[i])) && okFrom (i + 1) (s.drop (i + 1))) && (!(s == []) && decide (s.length ≤ 10))) := by
      intro b
      rw [impl_IsName_p1_eq]
      simp only [Int.natCast_nonneg, decide_true, if_true, Int.toNat_natCast, getElem?_lt hi, Option.bind_some, impl_isDigit_ok, wsucc (show i < 4611686018427387904 by omega), ih]
      cases b
      · by_cases h0 : i = 0
        · subst h0; simp
        · have : ((i : Int) == 0) = false := by simp [h0]
          have : (i != 0) = true := by simp [h0]
          simp only [*]
          cases digit s[i] <;> simp
      · simp
    rw [impl_IsName_p0_eq, drop_cons hi, okFrom]
    simp only [h1, decide_true, if_true, Int.natCast_nonneg, Int.toNat_natCast, getElem?_lt hi, Option.bind_some, e1, small]
    by_cases h97 : (s[i].toNat : Int) ≥ 97 <;> simp [h97]
theorem impl_IsName_ok (s : List UInt8) (hs : s.length < 4611686018427387904) : impl_IsName s = some (isName s) := by
  rw [impl_IsName_eq]
  have := impl_IsName_p0_ok s hs s.length 0 (by simp)
  rw [show ((0 : Nat) : Int) = 0 from rfl] at this
  rw [this]
  cases s with
  | nil => rfl
  | cons c r => simp [okFrom, okFrom_all, isName]

theorem eqInt64S_loop (xs : List Int) (hs : xs.length ≤ 1048576) : ∀ (k i : Nat), i + k = xs.length → laws_eqInt64S_p0 xs xs i = some true
  | 0, i, hk => by
    rw [laws_eqInt64S_p0_eq]
    have : ¬ (i : Int) < (xs.length : Int) := by omega
    simp only [this, decide_false, Bool.false_eq_true, if_false]
  | k + 1, i, hk => by
    have hi : i < xs.length := by omega
    have hlt : (i : Int) < (xs.length : Int) := by omega
    have hw : IntKind.i64.wrap ((i : Int) + 1) = ((i + 1 : Nat) : Int) := by rw [w64 (by omega) (by omega)]; omega
    rw [laws_eqInt64S_p0_eq]
    simp only [hlt, decide_true, if_true, Int.natCast_nonneg, Int.toNat_natCast, List.getElem?_eq_getElem hi, Option.bind_some, bne_self_eq_false, Bool.false_eq_true, if_false, hw]
    exact eqInt64S_loop xs hs k (i + 1) (by omega)
theorem eqInt64S_ok (xs : List Int) (hs : xs.length ≤ 1048576) : laws_eqInt64S xs xs = some true := by
  rw [laws_eqInt64S_eq]
  simp only [bne_self_eq_false, Bool.false_eq_true, if_false]
  exact eqInt64S_loop xs hs xs.length 0 (by omega)

/-- Numbers one behind the other. -/
def runs (m : Int) : Nat → List Int
  | 0 => []
  | n + 1 => m :: runs (m + 1) n
theorem runs_len (m : Int) (n : Nat) : (runs m n).length = n := by
  induction n generalizing m with
  | zero => rfl
  | succ n ih => simp [runs, ih]
theorem runs_get (m : Int) (n i : Nat) (h : i < n) : (runs m n)[i]? = some (m + i) := by
  induction n generalizing m i with
  | zero => omega
  | succ n ih =>
    cases i with
    | zero => simp [runs]
    | succ i =>
      simp only [runs, List.getElem?_cons_succ]
      rw [ih (m + 1) i (by omega)]
      congr 1; omega

theorem markInt64S_loop (m0 : Int) (n : Nat) (h0 : 0 ≤ m0) (hb : m0 + n ≤ 4611686018427387904) : ∀ (k i : Nat) (r : List Int), i + k = n → r.length = n → r.take i = (runs m0 n).take i →
    laws_markInt64S_p0 n n (m0 + i) i r = some (m0 + n, runs m0 n)
  | 0, i, r, hk, hr, ht => by
    rw [laws_markInt64S_p0_eq]
    have : ¬ (i : Int) < (n : Int) := by omega
    simp only [this, decide_false, Bool.false_eq_true, if_false, hr, decide_true, if_true]
    have hi : i = n := by omega
    have e : r = runs m0 n := by
      have h1 : r.take i = r := List.take_of_length_le (by omega)
      have h2 : (runs m0 n).take i = runs m0 n := List.take_of_length_le (by rw [runs_len]; omega)
      rw [h1, h2] at ht; exact ht
    rw [e, hi]
  | k + 1, i, r, hk, hr, ht => by
    have hi : i < r.length := by omega
    have hlt : (i : Int) < (n : Int) := by omega
    have hw : IntKind.i64.wrap ((i : Int) + 1) = ((i + 1 : Nat) : Int) := by rw [w64 (by omega) (by omega)]; omega
    have hw2 : IntKind.i64.wrap (m0 + i + 1) = m0 + ((i + 1 : Nat) : Int) := by rw [w64 (by omega) (by omega)]; omega
    rw [laws_markInt64S_p0_eq]
    simp only [hlt, decide_true, if_true, Int.natCast_nonneg, Int.toNat_natCast, List.getElem?_eq_getElem hi, Option.bind_some, Bool.and_self, hw, hw2]
    refine markInt64S_loop m0 n h0 hb k (i + 1) (r.set i (m0 + i)) (by omega) (by simp [hr]) ?_
    rw [List.take_add_one, List.take_add_one, List.getElem?_set_self hi, runs_get m0 n i (by omega), List.take_set_of_le (by omega), ht]
theorem markInt64S_ok (xs : List Int) (m : Int) (h0 : 0 ≤ m) (hb : m + xs.length ≤ 4611686018427387904) : laws_markInt64S xs m = some (m + xs.length, runs m xs.length) := by
  rw [laws_markInt64S_eq]
  have := markInt64S_loop m xs.length h0 hb xs.length 0 xs (by omega) rfl rfl
  simpa using this

theorem heldInt64S_loop (m0 : Int) (n : Nat) (h0 : 0 ≤ m0) (hb : m0 + n ≤ 4611686018427387904) : ∀ (k i : Nat), i + k = n → laws_heldInt64S_p0 (runs m0 n) (m0 + i) i = some (m0 + n)
  | 0, i, hk => by
    rw [laws_heldInt64S_p0_eq, runs_len]
    have : ¬ (i : Int) < (n : Int) := by omega
    simp only [this, decide_false, Bool.false_eq_true, if_false]
    congr 1; omega
  | k + 1, i, hk => by
    have hlt : (i : Int) < (n : Int) := by omega
    have hw : IntKind.i64.wrap ((i : Int) + 1) = ((i + 1 : Nat) : Int) := by rw [w64 (by omega) (by omega)]; omega
    have hw2 : IntKind.i64.wrap (m0 + i + 1) = m0 + ((i + 1 : Nat) : Int) := by rw [w64 (by omega) (by omega)]; omega
    rw [laws_heldInt64S_p0_eq, runs_len]
    simp only [hlt, decide_true, if_true, Int.natCast_nonneg, Int.toNat_natCast, runs_get m0 n i (by omega), Option.bind_some, bne_self_eq_false, Bool.false_eq_true, if_false, hw, hw2]
    exact heldInt64S_loop m0 n h0 hb k (i + 1) (by omega)
theorem heldInt64S_ok (m : Int) (n : Nat) (h0 : 0 ≤ m) (hb : m + n ≤ 4611686018427387904) : laws_heldInt64S (runs m n) m = some (m + n) := by
  rw [laws_heldInt64S_eq]
  have := heldInt64S_loop m n h0 hb n 0 (by omega)
  simpa using this

theorem markText_p0_ok : ∀ (k : Nat) (n : Int) (s : List UInt8), n.toNat < k → 0 ≤ n → n < 4611686018427387904 → s.length + k ≤ 9223372036854775000 → ∃ t, laws_markText_p0 n s = some t
  | 0, n, s, hk, h0, h1, hs => by omega
  | k + 1, n, s, hk, h0, h1, hs => by
    rw [laws_markText_p0_eq]
    by_cases hp : n > 0
    · simp only [hp, decide_true, if_true]
      have e : n.tdiv 10 = n / 10 := tdiv_nonneg_eq h0
      rw [e, w64 (n := n / 10) (by omega) (by omega)]
      have hl : ([IntKind.u8.wrap (IntKind.i64.wrap (48 + (n.tmod 10)))].map vu8).length + s.length ≤ strMax := by rw [strMax_eq]; simp; omega
      simp only [hl, decide_true, if_true]
      exact markText_p0_ok k (n / 10) _ (by omega) (by omega) (by omega) (by simp; omega)
    · have hl : [(109 : UInt8)].length + s.length ≤ strMax := by rw [strMax_eq]; simp; omega
      refine ⟨[(109 : UInt8)] ++ s, ?_⟩
      simp only [hp, decide_false, Bool.false_eq_true, if_false]
      exact if_pos (decide_eq_true hl)
theorem markText_ok (n : Int) (h : n < 4611686018427387904) : ∃ t, laws_markText n = some t := by
  rw [laws_markText_eq]
  by_cases h0 : n ≤ 0
  · simp only [h0, decide_true, if_true]; exact ⟨_, rfl⟩
  · simp only [h0, decide_false, Bool.false_eq_true, if_false]
    exact markText_p0_ok (n.toNat + 1) n [] (by omega) (by omega) h (by simp; omega)

theorem szOne {α : Type} (n : Nat) (f : α → Int → Option Int) (x : α) (hx : n ≤ 9223372036854775807) (l : Int) (h : f x l = if decide (IntKind.i64.wrap (l - (n : Int)) < 0) then some (-1) else some (IntKind.i64.wrap (l - (n : Int)))) (h0 : 0 ≤ l) (h1 : l ≤ 1048576) :
    ∃ r, f x l = some r ∧ r ≤ l ∧ (0 ≤ r → n ≤ 1048576) := by
  rw [h, w64 (n := l - n) (by omega) (by omega)]
  by_cases hn : l - (n : Int) < 0
  · simp only [hn, decide_true, if_true]; exact ⟨-1, rfl, by omega, fun h => by omega⟩
  · simp only [hn, decide_false, Bool.false_eq_true, if_false]; exact ⟨_, rfl, by omega, fun h => by omega⟩
theorem szPeg_ok (x : T_Peg.ty) (hx : x.1.length ≤ 9223372036854775807) (l : Int) (h0 : 0 ≤ l) (h1 : l ≤ 1048576) : ∃ n, laws_szPeg x l = some n ∧ n ≤ l ∧ (0 ≤ n → x.1.length ≤ 1048576) :=
  szOne (List.length (α := UInt8) x.1) laws_szPeg x hx l (laws_szPeg_eq x l) h0 h1

theorem szPegS_ok (xs : List T_Peg.ty) (hl : xs.length ≤ 9223372036854775807) (hx : ∀ x, x ∈ xs → x.1.length ≤ 9223372036854775807) (l : Int) (h0 : 0 ≤ l) (h1 : l ≤ 1048576) :
    ∃ n, laws_szPegS xs l = some n ∧ n ≤ l ∧ (0 ≤ n → xs.length ≤ 1048576 ∧ ∀ x, x ∈ xs → x.1.length ≤ 1048576) :=
  szList (P := fun x : T_Peg.ty => x.1.length ≤ 1048576) xs laws_szPeg laws_szPegS_p0 laws_szPegS (fun l i => laws_szPegS_p0_eq xs l i) (fun l => laws_szPegS_eq xs l) hl (fun x hm l h0 h1 => szPeg_ok x (hx x hm) l h0 h1) l h0 h1

theorem toPegS_ok (xs : List T_Peg.ty) (hs : xs.length ≤ 1048576) : laws_toPegS xs = some xs :=
  toList_ok xs _ laws_toPeg laws_toPegS_p0 laws_toPegS (fun n i r => laws_toPegS_p0_eq xs n i r) (laws_toPegS_eq xs) hs (fun x _ => laws_toPeg_eq x)

theorem eqPeg_self (x : T_Peg.ty) : laws_eqPeg x x = some true := by
  rw [laws_eqPeg_eq]; simp

theorem eqPegS_ok (xs : List T_Peg.ty) (hs : xs.length ≤ 1048576) : laws_eqPegS xs xs = some true :=
  eqList_ok xs laws_eqPeg laws_eqPegS_p0 laws_eqPegS (fun i => laws_eqPegS_p0_eq xs xs i) (laws_eqPegS_eq xs xs) hs (fun x _ => eqPeg_self x)

theorem toInt64S_ok (xs : List Int) (hs : xs.length ≤ 1048576) : laws_toInt64S xs = some xs :=
  toList_ok xs (0 : Int) some laws_toInt64S_p0 laws_toInt64S (fun n i r => laws_toInt64S_p0_eq xs n i r) (laws_toInt64S_eq xs) hs (fun x _ => rfl)

def pegOk (x : T_Peg.ty) : Bool := isName x.1 && (inR x.2.1 20 200 && (inR x.2.2.1 100 1000 && (inR x.2.2.2.1 10 100)))
def pegsOk (xs : List T_Peg.ty) : Bool := sortedChk pegOk (fun x => x.1) none xs && decide ((xs.length : Int) ≤ 8)
theorem pegsOk_all {xs : List T_Peg.ty} (h : pegsOk xs = true) (x : T_Peg.ty) (hx : x ∈ xs) : pegOk x = true := by
  simp only [pegsOk, Bool.and_eq_true] at h
  exact sortedChk_all h.1 x hx

theorem spec_l12One_ok (x : T_Peg.ty) (h0 : x.1.length < 4611686018427387904) : spec_l12One x = some (pegOk x) := by
  rw [spec_l12One_eq, pegOk]
  simp only [spec_l01Name_ok x.1 h0, spec_l12Hole_eq, spec_l00In_ok, Option.bind_some]
  cases isName x.1 <;> cases inR x.2.1 20 200 <;> cases inR x.2.2.1 100 1000 <;> simp

theorem impl_Peg_valid_ok (x : T_Peg.ty) (h0 : x.1.length < 4611686018427387904) : impl_Peg_valid x = some (pegOk x) := by
  rw [impl_Peg_valid_eq, pegOk]
  simp only [impl_IsName_ok x.1 h0, impl_isHole_eq, impl_within_ok, Option.bind_some]
  cases isName x.1 <;> cases inR x.2.1 20 200 <;> cases inR x.2.2.1 100 1000 <;> simp

theorem spec_l12Ok_ok (xs : List T_Peg.ty) (hs : xs.length ≤ 1048576) (hx : ∀ x, x ∈ xs → x.1.length ≤ 1048576) : spec_l12Ok xs = some (pegsOk xs) := by
  rw [spec_l12Ok_eq]
  exact sortedLoopS xs spec_l12One pegOk (fun x => x.1) (fun i => spec_l12Ok_p0 xs i) _ _ rfl (fun i => spec_l12Ok_p0_eq xs i) hs (fun x hm => spec_l12One_ok x (Nat.lt_of_le_of_lt (hx x hm) (by decide))) xs.length 0 (by omega)

theorem impl_ValidPegs_ok (xs : List T_Peg.ty) (hs : xs.length ≤ 1048576) (hx : ∀ x, x ∈ xs → x.1.length ≤ 1048576) : impl_ValidPegs xs = some (pegsOk xs) := by
  rw [impl_ValidPegs_eq]
  exact sortedLoopI xs impl_Peg_valid pegOk (fun x => x.1) (fun i => impl_ValidPegs_p0 xs xs xs.length i) _ _ (show ((impl_few (xs.length : Int) 8).bind fun x4 => some x4) = some (decide ((xs.length : Int) ≤ 8)) by rw [impl_few_eq]; rfl) (fun i => impl_ValidPegs_p0_eq xs xs xs.length i) hs (fun x hm => impl_Peg_valid_ok x (Nat.lt_of_le_of_lt (hx x hm) (by decide))) xs.length 0 (by omega)

end Go.Ab.P
