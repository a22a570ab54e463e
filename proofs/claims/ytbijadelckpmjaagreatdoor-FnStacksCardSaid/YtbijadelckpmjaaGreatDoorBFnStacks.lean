/- Lemmas on functions of the program. Conditions: told in each. -/
import Derived.Test.YtbijadelckpmjaaGreatDoorPFnStacks2
set_option linter.unusedVariables false
set_option linter.unusedSimpArgs false
namespace Go.Ab.P
open Go.Ab
/-- A list whose elements are all as wished, their names rising. -/
def sortedChk {α : Type} (ok : α → Bool) (id : α → List UInt8) : Option α → List α → Bool
  | _, [] => true
  | p, x :: r => ok x && ((match p with | none => true | some y => Op.bytesLess (id y) (id x)) && sortedChk ok id (some x) r)
theorem sortedChk_all {α : Type} {ok : α → Bool} {id : α → List UInt8} : ∀ {l : List α} {p : Option α}, sortedChk ok id p l = true → ∀ x, x ∈ l → ok x = true
  | [], _, _, x, hx => by cases hx
  | y :: r, p, h, x, hx => by
    simp only [sortedChk, Bool.and_eq_true] at h
    rcases List.mem_cons.1 hx with rfl | hx
    · exact h.1
    · exact sortedChk_all h.2.2 x hx
theorem sortedLoopI {α : Type} (xs : List α) (one : α → Option Bool) (ok : α → Bool) (id : α → List UInt8) (p0 : Int → Option Bool) (last : Option Bool) (lb : Bool) (hlast : last = some lb)
    (heq : ∀ i : Int, p0 i = if decide (i < (xs.length : Int)) then (if decide (0 ≤ i) then (xs[i.toNat]?).bind fun x1 => (one x1).bind fun x2 => if (!x2) then some false else if decide (i > 0) then (if decide (0 ≤ IntKind.i64.wrap (i - 1)) then (xs[(IntKind.i64.wrap (i - 1)).toNat]?).bind fun x3 => if (!Op.bytesLess (id x3) (id x1)) then some false else p0 (IntKind.i64.wrap (i + 1)) else none) else p0 (IntKind.i64.wrap (i + 1)) else none) else last)
    (hs : xs.length ≤ 1048576) (h1 : ∀ x, x ∈ xs → one x = some (ok x)) :
    ∀ (k i : Nat), i + k = xs.length → p0 i = some (sortedChk ok id (if i = 0 then none else xs[i - 1]?) (xs.drop i) && lb)
  | 0, i, hk => by
    rw [heq, List.drop_eq_nil_of_le (by omega)]
    have : ¬ (i : Int) < (xs.length : Int) := by omega
    simp only [this, decide_false, Bool.false_eq_true, if_false, hlast, sortedChk, Bool.true_and]
  | k + 1, i, hk => by
    have hi : i < xs.length := by omega
    have hlt : (i : Int) < (xs.length : Int) := by omega
    have hw : IntKind.i64.wrap ((i : Int) + 1) = ((i + 1 : Nat) : Int) := by rw [w64 (by omega) (by omega)]; omega
    have ih := sortedLoopI xs one ok id p0 last lb hlast heq hs h1 k (i + 1) (by omega)
    rw [if_neg (by omega), Nat.add_sub_cancel, List.getElem?_eq_getElem hi] at ih
    rw [heq, List.drop_eq_getElem_cons hi]
    simp only [hlt, decide_true, if_true, Int.natCast_nonneg, Int.toNat_natCast, List.getElem?_eq_getElem hi, Option.bind_some, h1 xs[i] (List.getElem_mem hi), hw, ih, sortedChk]
    cases hok : ok xs[i]
    · simp
    · by_cases h0 : i = 0
      · subst h0; simp
      · have hp : (i : Int) > 0 := by omega
        have hw2 : IntKind.i64.wrap ((i : Int) - 1) = ((i - 1 : Nat) : Int) := by rw [w64 (by omega) (by omega)]; omega
        simp only [hp, decide_true, if_true, hw2, Int.natCast_nonneg, Int.toNat_natCast, List.getElem?_eq_getElem (show i - 1 < xs.length by omega), Option.bind_some, h0, if_false, Bool.not_true, Bool.false_eq_true]
        cases Op.bytesLess (id xs[i - 1]) (id xs[i]) <;> simp
theorem wsucc {i : Nat} (h : i < 4611686018427387904) : IntKind.i64.wrap ((i : Int) + 1) = ((i + 1 : Nat) : Int) := by
  rw [w64 (by omega) (by omega)]; omega
theorem getElem?_lt {α : Type} {l : List α} {i : Nat} (h : i < l.length) : l[i]? = some l[i] := List.getElem?_eq_getElem h
theorem drop_cons {α : Type} {l : List α} {i : Nat} (h : i < l.length) : l.drop i = l[i] :: l.drop (i + 1) := List.drop_eq_getElem_cons h
/-- The nearest quotient, halves away from 0. -/
def rdivP (a b : Int) : Int := if a < 0 then -((b - 2 * a) / (2 * b)) else (2 * a + b) / (2 * b)
theorem rdivP_eq {a b : Int} (ha : 0 ≤ a) (hb : 0 < b) : rdivP a b = a / b + if b - a % b ≤ a % b then 1 else 0 := by
  have h1 := Int.mul_ediv_add_emod a b
  have h2 := Int.emod_nonneg a (show b ≠ 0 by omega)
  have h3 := Int.emod_lt_of_pos a hb
  unfold rdivP
  rw [if_neg (by omega)]
  generalize a / b = q at h1 ⊢
  generalize a % b = r at h1 h2 h3 ⊢
  have key : ∀ t s : Int, 0 ≤ s → s < 2 * b → 2 * a + b = s + 2 * b * t → (2 * a + b) / (2 * b) = t := fun t s hs0 hs1 he => by
    rw [he, Int.add_mul_ediv_left s t (show 2 * b ≠ 0 by omega), Int.ediv_eq_zero_of_lt hs0 hs1]; omega
  have e : 2 * b * q = 2 * (b * q) := Int.mul_assoc 2 b q
  split
  · refine key (q + 1) (2 * r - b) (by omega) (by omega) ?_
    rw [Int.mul_add, e]; omega
  · rw [Int.add_zero]
    refine key q (2 * r + b) (by omega) (by omega) ?_
    rw [e]; omega
theorem rdivP_neg {a b : Int} (ha : 0 < a) (hb : 0 < b) : rdivP (-a) b = -rdivP a b := by
  unfold rdivP
  rw [if_pos (by omega), if_neg (by omega)]
  congr 2; omega
theorem rdivP_nonneg {a b : Int} (ha : 0 ≤ a) (hb : 0 < b) : 0 ≤ rdivP a b := by
  unfold rdivP
  rw [if_neg (by omega)]
  exact Int.ediv_nonneg (by omega) (by omega)
theorem rdivP_le {a b : Int} (ha : 0 ≤ a) (hb : 0 < b) : rdivP a b ≤ a + 1 := by
  rw [rdivP_eq ha hb]
  have := Int.ediv_le_self b ha
  split <;> omega
theorem tdiv_nonneg_eq {a b : Int} (ha : 0 ≤ a) : a.tdiv b = a / b := Int.tdiv_eq_ediv_of_nonneg ha
theorem tmod_nonneg_eq {a b : Int} (ha : 0 ≤ a) : a.tmod b = a % b := Int.tmod_eq_emod_of_nonneg ha
def small (c : UInt8) : Bool := decide (97 ≤ (c.toNat : Int)) && decide ((c.toNat : Int) ≤ 122)
def digit (c : UInt8) : Bool := decide (48 ≤ (c.toNat : Int)) && decide ((c.toNat : Int) ≤ 57)
def isName (s : List UInt8) : Bool := match s with | [] => false | c :: r => small c && r.all (fun c => small c || digit c) && decide (s.length ≤ 10)
def inR (n lo hi : Int) : Bool := decide (lo ≤ n) && decide (n ≤ hi)
theorem inR_iff' {n lo hi : Int} : inR n lo hi = true ↔ lo ≤ n ∧ n ≤ hi := by simp [inR]

theorem impl_within_ok (n lo hi : Int) : impl_within n lo hi = some (inR n lo hi) := by
  rw [impl_within_eq, inR]; by_cases h : lo ≤ n <;> simp [h]

theorem spec_l00In_ok (n lo hi : Int) : spec_l00In n lo hi = some (inR n lo hi) := by
  rw [spec_l00In_eq, inR]; by_cases h : lo ≤ n <;> simp [h]

theorem spec_l01Small_ok (c : UInt8) : spec_l01Small (c.toNat : Int) = some (small c) := by
  rw [spec_l01Small_eq, small]; by_cases h : 97 ≤ (c.toNat : Int) <;> simp [h]

theorem spec_l01Digit_ok (c : UInt8) : spec_l01Digit (c.toNat : Int) = some (digit c) := by
  rw [spec_l01Digit_eq, digit]; by_cases h : 48 ≤ (c.toNat : Int) <;> simp [h]

theorem impl_isDigit_ok (c : UInt8) : impl_isDigit (c.toNat : Int) = some (digit c) := by
  rw [impl_isDigit_eq, digit]; by_cases h : 48 ≤ (c.toNat : Int) <;> simp [h]

theorem spec_l01Name_p1_ok (s : List UInt8) (hs : s.length < 4611686018427387904) : ∀ (k i : Nat), i + k = s.length → spec_l01Name_p1 s i = some ((s.drop i).all fun c => small c || digit c)
  | 0, i, h => by
    rw [spec_l01Name_p1_eq, List.drop_eq_nil_of_le (by omega)]
    simp; omega
  | k + 1, i, h => by
    have hi : i < s.length := by omega
    rw [spec_l01Name_p1_eq, drop_cons hi]
    have h1 : (i : Int) < (s.length : Int) := by omega
    simp only [h1, decide_true, if_true, Int.natCast_nonneg, Int.toNat_natCast, getElem?_lt hi, Option.bind_some, spec_l01Small_ok, spec_l01Digit_ok, wsucc (show i < 4611686018427387904 by omega), spec_l01Name_p1_ok s hs k (i + 1) (by omega), List.all_cons]
    cases small s[i] <;> cases digit s[i] <;> simp
theorem spec_l01Name_ok (s : List UInt8) (hs : s.length < 4611686018427387904) : spec_l01Name s = some (isName s) := by
  rw [spec_l01Name_eq]
  cases s with
  | nil => rfl
  | cons c r =>
    have := spec_l01Name_p1_ok (c :: r) hs (r.length + 1) 0 (by simp)
    simp only [spec_l01Name_p0_eq, List.getElem?_cons_zero, Option.bind_some, spec_l01Small_ok]
    rw [show ((0 : Nat) : Int) = 0 from rfl] at this
    rw [this, isName]
    have e0 : ((c :: r) == ([] : List UInt8)) = false := by simp
    by_cases hl : ((c :: r).length : Int) > 10
    · have : ¬ (c :: r).length ≤ 10 := by omega
      simp only [e0, hl, this, decide_true, decide_false, if_true, Bool.false_eq_true, if_false, Bool.and_false]
    · have : (c :: r).length ≤ 10 := by omega
      simp only [e0, hl, this, decide_true, decide_false, if_true, Bool.false_eq_true, if_false, Bool.and_true]
      cases hc : small c <;> simp [hc]

def okFrom : Nat → List UInt8 → Bool
  | _, [] => true
  | i, c :: r => (small c || (i != 0 && digit c)) && okFrom (i + 1) r
theorem okFrom_all (r : List UInt8) : ∀ i, okFrom (i + 1) r = r.all fun c => small c || digit c := by
  induction r with
  | nil => intro i; rfl
  | cons c r ih => intro i; simp [okFrom, ih]
theorem impl_IsName_p0_ok (s : List UInt8) (hs : s.length < 4611686018427387904) : ∀ (k i : Nat), i + k = s.length → impl_IsName_p0 s i = some (okFrom i (s.drop i) && (!(s == []) && decide (s.length ≤ 10)))
  | 0, i, h => by
    rw [impl_IsName_p0_eq, List.drop_eq_nil_of_le (by omega), impl_few_eq]
    have h1 : ¬ (i : Int) < (s.length : Int) := by omega
    simp only [h1, decide_false, Bool.false_eq_true, if_false, okFrom, Option.bind_some, Bool.true_and]
    cases s with
    | nil => rfl
    | cons c r =>
      have : ((c :: r == []) = false) := by simp
      simp only [this, Bool.not_false, if_true, Bool.true_and]
      congr 1
      simp only [decide_eq_decide]; omega
  | k + 1, i, h => by
    have hi : i < s.length := by omega
    have h1 : (i : Int) < (s.length : Int) := by omega
    have ih := impl_IsName_p0_ok s hs k (i + 1) (by omega)
    have e1 : ∀ b : Bool, impl_IsName_p1 s i b = some (((b || (i != 0 && digit s[i])) && okFrom (i + 1) (s.drop (i + 1))) && (!(s == []) && decide (s.length ≤ 10))) := by
      intro b
      rw [impl_IsName_p1_eq]
      simp only [Int.natCast_nonneg, decide_true, if_true, Int.toNat_natCast, getElem?_lt hi, Option.bind_some, impl_isDigit_ok, wsucc (show i < 4611686018427387904 by omega), ih]
      cases b
      · by_cases h0 : i = 0
        · subst h0; simp
        · have : ((i : Int) == 0) = false := by simp [h0]
          have : (i != 0) = true := by simp [h0]
          simp only [*]
          cases digit s[i] <;> simp
      · simp
    rw [impl_IsName_p0_eq, drop_cons hi, okFrom]
    simp only [h1, decide_true, if_true, Int.natCast_nonneg, Int.toNat_natCast, getElem?_lt hi, Option.bind_some, e1, small]
    by_cases h97 : (s[i].toNat : Int) ≥ 97 <;> simp [h97]
theorem impl_IsName_ok (s : List UInt8) (hs : s.length < 4611686018427387904) : impl_IsName s = some (isName s) := by
  rw [impl_IsName_eq]
  have := impl_IsName_p0_ok s hs s.length 0 (by simp)
  rw [show ((0 : Nat) : Int) = 0 from rfl] at this
  rw [this]
  cases s with
  | nil => rfl
  | cons c r => simp [okFrom, okFrom_all, isName]

theorem impl_divRound_ok (a b : Int) (ha : -2000000000000000000 ≤ a ∧ a ≤ 2000000000000000000) (hb : 0 < b ∧ b ≤ 2000000000000000000) : impl_divRound a b = some (rdivP a b) := by
  rw [impl_divRound_eq]
  have e1 : IntKind.i64.wrap (0 - b) = -b := by rw [w64 (by omega) (by omega)]; omega
  have e2 : IntKind.i64.wrap (0 - a) = -a := by rw [w64 (by omega) (by omega)]; omega
  have e3 : (if -b > b then -b else b) = b := by rw [if_neg (by omega)]
  have hb0 : ¬ b = 0 := by omega
  have hbn : ¬ b < 0 := by omega
  simp only [e1, e2, e3, hb0, hbn, decide_false, Bool.false_eq_true, if_false]
  have main : ∀ x : Int, 0 ≤ x → x ≤ 2000000000000000000 → x.tmod b = x % b ∧ x.tdiv b = x / b ∧ 0 ≤ x % b ∧ x % b < b ∧ 0 ≤ x / b ∧ x / b ≤ x := fun x h0 h1 =>
    ⟨tmod_nonneg_eq h0, tdiv_nonneg_eq h0, Int.emod_nonneg _ (by omega), Int.emod_lt_of_pos _ hb.1, Int.ediv_nonneg h0 (by omega), Int.ediv_le_self b h0⟩
  by_cases hneg : a < 0
  · have e4 : (if -a > a then -a else a) = -a := by rw [if_pos (by omega)]
    obtain ⟨m1, m2, m3, m4, m5, m6⟩ := main (-a) (by omega) (by omega)
    have e5 : rdivP a b = -rdivP (-a) b := by rw [← rdivP_neg (show 0 < -a by omega) hb.1]; congr 1; omega
    rw [e5, rdivP_eq (show 0 ≤ -a by omega) hb.1]
    simp only [e4, hneg, m1, m2, decide_true, Bool.true_beq, Bool.not_false, if_true]
    rw [w64 (n := b - -a % b) (by omega) (by omega), w64 (n := -a / b) (by omega) (by omega), w64 (n := -a / b + 1) (by omega) (by omega), w64 (n := 0 - (-a / b + 1)) (by omega) (by omega), w64 (n := 0 - -a / b) (by omega) (by omega)]
    simp only [decide_eq_true_eq, ge_iff_le]
    split
    · congr 1; omega
    · congr 1; omega
  · have e4 : (if -a > a then -a else a) = a := by rw [if_neg (by omega)]
    obtain ⟨m1, m2, m3, m4, m5, m6⟩ := main a (by omega) (by omega)
    rw [rdivP_eq (show 0 ≤ a by omega) hb.1]
    simp only [e4, hneg, m1, m2, decide_false, beq_self_eq_true, Bool.not_true, Bool.false_eq_true, if_false]
    rw [w64 (n := b - a % b) (by omega) (by omega), w64 (n := a / b) (by omega) (by omega), w64 (n := a / b + 1) (by omega) (by omega)]
    simp only [decide_eq_true_eq, ge_iff_le]
    split
    · rfl
    · congr 1; omega

theorem spec_l01Div_ok (a b : Int) (ha : -2000000000000000000 ≤ a ∧ a ≤ 2000000000000000000) (hb : 0 < b ∧ b ≤ 2000000000000000000) : spec_l01Div a b = some (rdivP a b) := by
  have hbn : ¬ b < 0 := by omega
  rw [spec_l01Div_eq, rdivP]
  simp only [hbn, decide_false, Bool.false_eq_true, if_false]
  rw [spec_l01Div_p0_eq, w64 (n := 2 * b) (by omega) (by omega), w64 (n := 2 * a) (by omega) (by omega)]
  have hb0 : ¬ 2 * b = 0 := by omega
  simp only [hb0, decide_false, Bool.false_eq_true, if_false]
  by_cases hneg : a < 0
  · simp only [hneg, decide_true, if_true]
    rw [w64 (n := b - 2 * a) (by omega) (by omega), tdiv_nonneg_eq (by omega)]
    have h1 : 0 ≤ (b - 2 * a) / (2 * b) := Int.ediv_nonneg (by omega) (by omega)
    have h2 : (b - 2 * a) / (2 * b) ≤ b - 2 * a := Int.ediv_le_self _ (by omega)
    rw [w64 (n := (b - 2 * a) / (2 * b)) (by omega) (by omega), w64 (by omega) (by omega)]
    congr 1; omega
  · simp only [hneg, decide_false, Bool.false_eq_true, if_false]
    rw [w64 (n := 2 * a + b) (by omega) (by omega), tdiv_nonneg_eq (by omega)]
    have h1 : 0 ≤ (2 * a + b) / (2 * b) := Int.ediv_nonneg (by omega) (by omega)
    have h2 : (2 * a + b) / (2 * b) ≤ 2 * a + b := Int.ediv_le_self _ (by omega)
    rw [w64 (n := (2 * a + b) / (2 * b)) (by omega) (by omega)]

theorem index1_none {c : UInt8} : ∀ {a : List UInt8}, c ∉ a → Lib.index a [c] = -1
  | [], _ => rfl
  | b :: l, h => by
    have h1 : (c == b) = false := by simp at h; simpa using h.1
    have h2 := index1_none (a := l) (fun e => h (List.mem_cons_of_mem _ e))
    unfold Lib.index
    simp [List.isPrefixOf, h1, h2]
theorem index1_at {c : UInt8} : ∀ {a : List UInt8} (r : List UInt8), c ∉ a → Lib.index (a ++ c :: r) [c] = a.length
  | [], r, _ => by simp [Lib.index, List.isPrefixOf]
  | b :: l, r, h => by
    have h1 : (c == b) = false := by simp at h; simpa using h.1
    have h2 := index1_at (a := l) r (fun e => h (List.mem_cons_of_mem _ e))
    rw [List.cons_append]
    unfold Lib.index
    have h3 : ((l.length : Int) == -1) = false := by rw [beq_eq_false_iff_ne]; omega
    simp [List.isPrefixOf, h1, h2, h3]
theorem split1_last {c : UInt8} {a : List UInt8} (h : c ∉ a) : Lib.splitK [c] 0 (Lib.count a [c]) a = [a] := by
  rw [Lib.count_miss (index1_none h)]; rfl
theorem split1_cons {c : UInt8} {a : List UInt8} (r : List UInt8) (h : c ∉ a) : Lib.splitK [c] 0 (Lib.count (a ++ c :: r) [c]) (a ++ c :: r) = a :: Lib.splitK [c] 0 (Lib.count r [c]) r := by
  have hi := index1_at r h
  have hm : ¬ ((a.length : Int) == -1) = true := by rw [beq_iff_eq]; omega
  have hd : (a ++ c :: r).drop (a.length + [c].length) = r := by simp [List.drop_append]
  rw [Lib.count_hit (by simp) hi, hd, Nat.add_comm 1, Lib.splitK, hi, if_neg hm, Int.toNat_natCast, hd]
  simp
theorem wu8 {n : Int} (h1 : 0 ≤ n) (h2 : n < 256) : IntKind.u8.wrap n = n := by
  have e : IntKind.u8.wrap n = n % 256 := by simp [IntKind.wrap, IntKind.signed, IntKind.bits]
  rw [e]; omega

/-- The number of some digits. -/
def digsGo : List UInt8 → Int → Int × Bool
  | [], n => (n, true)
  | c :: r, n => if digit c = true then digsGo r (10 * n + ((c.toNat : Int) - 48)) else (0, false)
def digs (s : List UInt8) : Int × Bool := if s = [] then (0, false) else if s.length > 18 then (0, false) else digsGo s 0

theorem impl_digitsOf_p1_ok (s : List UInt8) (hs : s.length ≤ 18) : ∀ (k i : Nat) (n : Int), i + k = s.length → 0 ≤ n → n < 10 ^ i → impl_digitsOf_p1 s n i = some (digsGo (s.drop i) n)
  | 0, i, n, hk, h0, hn => by
    rw [impl_digitsOf_p1_eq]
    have : ¬ (i : Int) < (s.length : Int) := by omega
    rw [List.drop_eq_nil_of_le (by omega)]
    simp [this, digsGo]
  | k + 1, i, n, hk, h0, hn => by
    have hi : i < s.length := by omega
    have hlt : (i : Int) < (s.length : Int) := by omega
    have hp : (10 : Int) ^ i ≤ 10 ^ 17 := by
      have h := Nat.pow_le_pow_right (show 0 < 10 by decide) (show i ≤ 17 by omega)
      exact_mod_cast h
    have hq : (10 : Int) ^ (i + 1) = 10 ^ i * 10 := Int.pow_succ ..
    have h17 : (10 : Int) ^ 17 = 100000000000000000 := by decide
    rw [impl_digitsOf_p1_eq, drop_cons hi, digsGo]
    have hi0 : (0 : Int) ≤ (i : Int) := by omega
    simp only [hlt, decide_true, if_true, hi0, Int.toNat_natCast, getElem?_lt hi, Option.bind_some, impl_isDigit_ok]
    cases hd : digit s[i]
    · rfl
    have hd' := hd
    simp only [digit, Bool.and_eq_true, decide_eq_true_eq] at hd'
    have hw : IntKind.u8.wrap ((s[i].toNat : Int) - 48) = (s[i].toNat : Int) - 48 := wu8 (by omega) (by omega)
    simp only [Bool.not_true, Bool.false_eq_true, if_false, if_true, hw, w64 (n := 10 * n) (by omega) (by omega), w64 (n := (s[i].toNat : Int) - 48) (by omega) (by omega), w64 (n := 10 * n + ((s[i].toNat : Int) - 48)) (by omega) (by omega), wsucc (show i < 4611686018427387904 by omega)]
    exact impl_digitsOf_p1_ok s hs k (i + 1) _ (by omega) (by omega) (by rw [hq]; omega)
theorem impl_digitsOf_ok (s : List UInt8) : impl_digitsOf s = some (digs s) := by
  rw [impl_digitsOf_eq]
  unfold digs
  by_cases h1 : s = []
  · simp [h1]
  have h1' : (s == []) = false := by simpa using h1
  simp only [h1', Bool.false_eq_true, if_false, h1, decide_eq_true_eq]
  by_cases h2 : s.length > 18
  · have : (s.length : Int) > 18 := by omega
    simp [this, h2]
  · have : ¬ (s.length : Int) > 18 := by omega
    simp only [this, if_false, h2, impl_digitsOf_p0_eq]
    exact impl_digitsOf_p1_ok s (by omega) s.length 0 0 (by omega) (by omega) (by simp)

theorem impl_Decimal_ok (n : Int) (h : -9223372036854775808 ≤ n ∧ n ≤ 9223372036854775807) : impl_Decimal n = some (Lib.itoa n) := by
  rw [impl_Decimal_eq, strconv_FormatInt_eq]
  simp [h.1, h.2]

/-- A number with at least so many digits. -/
def padP (n : Int) (d : Nat) : List UInt8 := Lib.repeatL [48] (d - (Lib.itoa n).length) ++ Lib.itoa n

theorem impl_padded_ok (n : Int) (d : Nat) (h : -9223372036854775808 ≤ n ∧ n ≤ 9223372036854775807) (hd : d ≤ 1000) (hl : (Lib.itoa n).length ≤ 1000) : impl_padded n d = some (padP n d) := by
  have hm : (if (d : Int) - ((Lib.itoa n).length : Int) > 0 then (d : Int) - ((Lib.itoa n).length : Int) else 0) = ((d - (Lib.itoa n).length : Nat) : Int) := by split <;> omega
  rw [impl_padded_eq, impl_Decimal_ok n h]
  simp only [Option.bind_some]
  rw [w64 (n := (d : Int) - ((Lib.itoa n).length : Int)) (by omega) (by omega), hm, strings_Repeat_eq]
  have h1 : ((d - (Lib.itoa n).length : Nat) : Int) ≥ 0 := by omega
  have h2 : ((d - (Lib.itoa n).length : Nat) : Int) ≤ 9223372036854775807 := by omega
  have h3 : ([48] : List UInt8).length * (d - (Lib.itoa n).length) ≤ 140737488355328 := by simp; omega
  have h4 : (Lib.repeatL [48] (d - (Lib.itoa n).length)).length + (Lib.itoa n).length ≤ strMax := by
    rw [Lib.repeatL_length, strMax_eq]; simp; omega
  simp only [h1, h2, Int.toNat_natCast, h3, decide_true, Bool.and_self, if_true, Option.bind_some, h4]
  rfl

theorem wu64 {n : Int} (h1 : 0 ≤ n) (h2 : n < 18446744073709551616) : IntKind.u64.wrap n = n := by
  have e : IntKind.u64.wrap n = if decide false = true then n % 18446744073709551616 - 18446744073709551616 else n % 18446744073709551616 := by
    simp [IntKind.wrap, IntKind.signed, IntKind.bits]
  rw [e]
  simp; omega
theorem and255 (x : Int) : ((BitVec.ofInt IntKind.u64.bits x &&& BitVec.ofInt IntKind.u64.bits 255).toNat : Int) ≤ 255 := by
  have : (BitVec.ofInt IntKind.u64.bits x &&& BitVec.ofInt IntKind.u64.bits 255).toNat ≤ 255 := by
    rw [BitVec.toNat_and]
    refine Nat.le_trans Nat.and_le_right ?_
    decide
  omega
/-- A source of numbers that an input lays: its bytes are bytes, and it has not gone far. -/
def SrcOk (s : T_l00Src.ty) (c : Int) : Prop := (∀ x : Int, x ∈ s.1 → 0 ≤ x ∧ x ≤ 255) ∧ s.1.length ≤ 1048576 ∧ (0 : Int) ≤ s.2.1 ∧ (s.2.1 : Int) ≤ c
theorem src_eta (s : T_l00Src.ty) : (s.1, s.2.1, s.2.2.1, ()) = s := rfl
theorem SrcOk.up {s : T_l00Src.ty} {c d : Int} (h : SrcOk s c) (hd : c ≤ d) : SrcOk s d := ⟨h.1, h.2.1, h.2.2.1, Int.le_trans h.2.2.2 hd⟩

theorem next_p0_ok (v : Int) (l : List Int) (a h : Int) (c : Int) (hs : SrcOk (l, a, h, ()) c) (hc : c ≤ 1152921504606846976) (hv : 0 ≤ v ∧ v ≤ 255) :
    ∃ (u : Int) (s' : T_l00Src.ty), spec_l00Src_next_p0 v l a h = some (u, s') ∧ SrcOk s' (c + 1) ∧ 0 ≤ u ∧ u ≤ 255 := by
  obtain ⟨h1, h2, h3, h4⟩ := hs
  have h3 : 0 ≤ a := h3
  have h4 : a ≤ c := h4
  rw [spec_l00Src_next_p0_eq, w64 (n := a + 1) (by omega) (by omega)]
  split
  · exact ⟨_, _, rfl, ⟨h1, h2, by show (0 : Int) ≤ a + 1; omega, by show (a + 1 : Int) ≤ c + 1; omega⟩, hv⟩
  · refine ⟨_, _, rfl, ⟨h1, h2, by show (0 : Int) ≤ a + 1; omega, by show (a + 1 : Int) ≤ c + 1; omega⟩, ?_⟩
    generalize hx : ((BitVec.ofInt IntKind.u64.bits _ &&& BitVec.ofInt IntKind.u64.bits 255).toNat : Int) = x
    have := and255 (Int.fdiv (IntKind.u64.wrap ((IntKind.u64.wrap ((IntKind.u64.wrap (h * 6364136223846793005)) + (IntKind.u64.wrap v))) + 1442695040888963407)) (2 ^ (min (40 : Int).toNat IntKind.u64.bits)))
    rw [hx] at this
    have h0 : 0 ≤ x := by rw [← hx]; exact Int.natCast_nonneg _
    rw [wu64 h0 (by omega), w64 (by omega) (by omega)]
    exact ⟨h0, this⟩
theorem next_core (l : List Int) (a h c : Int) (hs : SrcOk (l, a, h, ()) c) (hc : c ≤ 1152921504606846976) : ∃ (u : Int) (s' : T_l00Src.ty), spec_l00Src_next (l, a, h, ()) = some (u, s') ∧ SrcOk s' (c + 1) ∧ 0 ≤ u ∧ u ≤ 255 := by
  have h3 : (0 : Int) ≤ a := hs.2.2.1
  rw [spec_l00Src_next_eq]
  dsimp only
  split
  · rename_i hlt
    simp only [decide_eq_true_eq] at hlt
    have hlt' : a < (List.length (α := Int) l : Int) := hlt
    have hi : a.toNat < l.length := by omega
    obtain ⟨x, hx⟩ : ∃ x, l[a.toNat]? = some x := ⟨_, List.getElem?_eq_getElem hi⟩
    have hm : 0 ≤ x ∧ x ≤ 255 := hs.1 x (List.mem_of_getElem? hx)
    rw [if_pos (by simpa using h3), hx, Option.bind_some, w64 (n := x) (by omega) (by omega)]
    exact next_p0_ok x l a h c hs hc hm
  · exact next_p0_ok 0 l a h c hs hc ⟨by omega, by omega⟩
theorem next_ok {s : T_l00Src.ty} {c : Int} (hs : SrcOk s c) (hc : c ≤ 1152921504606846976) : ∃ (u : Int) (s' : T_l00Src.ty), spec_l00Src_next s = some (u, s') ∧ SrcOk s' (c + 1) ∧ 0 ≤ u ∧ u ≤ 255 :=
  next_core s.1 s.2.1 s.2.2.1 c hs hc

theorem pick_ok {s : T_l00Src.ty} {c : Int} (hs : SrcOk s c) (hc : c ≤ 1000000000000000000) (n : Int) (hn : n ≤ 65536) :
    ∃ (u : Int) (s' : T_l00Src.ty), spec_l00Src_pick s n = some (u, s') ∧ SrcOk s' (c + 2) ∧ 0 ≤ u ∧ (u = 0 ∨ u < n) := by
  rw [spec_l00Src_pick_eq]
  by_cases h1 : n ≤ 1
  · simp only [h1, decide_true, if_true]
    exact ⟨0, s, rfl, hs.up (by omega), by omega, .inl rfl⟩
  · obtain ⟨u, s1, e1, k1, b1, b2⟩ := next_ok hs (by omega)
    have hn0 : ¬ n = 0 := by omega
    simp only [h1, decide_false, Bool.false_eq_true, if_false, e1, Option.bind_some, src_eta, hn0]
    by_cases h2 : n > 200
    · obtain ⟨v, s2, e2, k2, b3, b4⟩ := next_ok k1 (by omega)
      simp only [h2, decide_true, if_true, e2, Option.bind_some, src_eta]
      rw [w64 (n := u * 256) (by omega) (by omega), w64 (n := u * 256 + v) (by omega) (by omega), tmod_nonneg_eq (by omega)]
      exact ⟨_, s2, rfl, k2.up (by omega), Int.emod_nonneg _ hn0, .inr (Int.emod_lt_of_pos _ (by omega))⟩
    · simp only [h2, decide_false, Bool.false_eq_true, if_false]
      rw [tmod_nonneg_eq b1]
      exact ⟨_, s1, rfl, k1.up (by omega), Int.emod_nonneg _ hn0, .inr (Int.emod_lt_of_pos _ (by omega))⟩

theorem one_ok {s : T_l00Src.ty} {c : Int} (hs : SrcOk s c) (hc : c ≤ 1000000000000000000) (n : Int) (hn : n ≤ 65536) :
    ∃ (u : Bool) (s' : T_l00Src.ty), spec_l00Src_one s n = some (u, s') ∧ SrcOk s' (c + 2) := by
  obtain ⟨u, s1, e1, k1, _⟩ := pick_ok hs hc n hn
  rw [spec_l00Src_one_eq]
  simp only [e1, Option.bind_some, src_eta]
  exact ⟨_, s1, rfl, k1⟩

theorem among_ok {s : T_l00Src.ty} {c : Int} (hs : SrcOk s c) (hc : c ≤ 1000000000000000000) (l : List Int) (h0 : 0 < l.length) (hn : l.length ≤ 65536) :
    ∃ (u : Int) (s' : T_l00Src.ty), spec_l00Src_among s l = some (u, s') ∧ SrcOk s' (c + 2) ∧ u ∈ l := by
  obtain ⟨u, s1, e1, k1, b1, b2⟩ := pick_ok hs hc (l.length : Int) (by omega)
  have hi : u.toNat < l.length := by omega
  rw [spec_l00Src_among_eq]
  simp only [e1, Option.bind_some, src_eta, b1, decide_true, if_true, List.getElem?_eq_getElem hi]
  exact ⟨_, s1, rfl, k1, List.getElem_mem hi⟩

theorem from_ok (code : List Int) (h1 : ∀ x, x ∈ code → 0 ≤ x ∧ x ≤ 255) (h2 : code.length ≤ 1048576) : ∃ s, spec_l00From code = some s ∧ SrcOk s 0 := by
  rw [spec_l00From_eq]
  exact ⟨_, rfl, h1, h2, Int.le_refl _, Int.le_refl _⟩
theorem bytes_ok {l : List Int} (h : CT.wf (.sl (.one (.int .u8))) l) : ∀ x, x ∈ l → 0 ≤ x ∧ x ≤ 255 := fun x hx => by
  have : (Lit.int .u8 x).wf = true := h.2 x hx
  simp [Lit.wf, IntKind.min, IntKind.max, IntKind.signed, IntKind.bits] at this
  omega

def absI (n : Int) : Int := if n < 0 then -n else n
theorem rdivP_err {a b : Int} (hb : 0 < b) : 2 * absI (rdivP a b * b - a) ≤ b := by
  have pos : ∀ a : Int, 0 ≤ a → 2 * absI (rdivP a b * b - a) ≤ b ∧ 0 ≤ a := fun a ha => by
    refine ⟨?_, ha⟩
    unfold rdivP
    rw [if_neg (by omega)]
    have h1 := Int.mul_ediv_add_emod (2 * a + b) (2 * b)
    have h2 := Int.emod_nonneg (2 * a + b) (show 2 * b ≠ 0 by omega)
    have h3 := Int.emod_lt_of_pos (2 * a + b) (show 0 < 2 * b by omega)
    have e : 2 * b * ((2 * a + b) / (2 * b)) = 2 * ((2 * a + b) / (2 * b) * b) := by rw [Int.mul_assoc, Int.mul_comm b]
    rw [e] at h1
    unfold absI
    split <;> omega
  by_cases ha : 0 ≤ a
  · exact (pos a ha).1
  · have h := (pos (-a) (by omega)).1
    have e : rdivP a b = -rdivP (-a) b := by rw [← rdivP_neg (show 0 < -a by omega) hb]; congr 1; omega
    rw [e, Int.neg_mul]
    unfold absI at h ⊢
    split at h <;> split <;> omega
theorem rdivP_bd {a b m : Int} (hb : 0 < b) (h : -m ≤ a ∧ a ≤ m) : -(m + 1) ≤ rdivP a b ∧ rdivP a b ≤ m + 1 := by
  by_cases ha : 0 ≤ a
  · have := rdivP_nonneg ha hb
    have := rdivP_le ha hb
    omega
  · have e : rdivP a b = -rdivP (-a) b := by rw [← rdivP_neg (show 0 < -a by omega) hb]; congr 1; omega
    have := rdivP_nonneg (a := -a) (by omega) hb
    have := rdivP_le (a := -a) (by omega) hb
    omega
/-- The places of a list's elements that are as wished. -/
def idx (P : Nat → Bool) (n : Nat) : List Int := ((List.range n).filter P).map fun (j : Nat) => (j : Int)
theorem idx_succ (P : Nat → Bool) (n : Nat) : idx P (n + 1) = idx P n ++ if P n then [(n : Int)] else [] := by
  unfold idx
  rw [List.range_succ, List.filter_append, List.map_append]
  cases h : P n <;> simp [h]
theorem idx_len (P : Nat → Bool) (n : Nat) : (idx P n).length ≤ n := by
  unfold idx
  rw [List.length_map]
  exact Nat.le_trans (List.length_filter_le _ _) (by simp)
theorem idx_mem (P : Nat → Bool) (n i : Nat) : (i : Int) ∈ idx P n ↔ i < n ∧ P i = true := by
  unfold idx
  simp only [List.mem_map, List.mem_filter, List.mem_range]
  constructor
  · rintro ⟨j, h, e⟩
    have : j = i := by omega
    subst this; exact h
  · intro h; exact ⟨i, h, rfl⟩
theorem idx_bd (P : Nat → Bool) (n : Nat) : ∀ x, x ∈ idx P n → 0 ≤ x ∧ x < n := by
  intro x hx
  unfold idx at hx
  obtain ⟨j, hj, rfl⟩ := List.mem_map.1 hx
  have := List.mem_range.1 (List.mem_filter.1 hj).1
  omega
theorem idx_rise (P : Nat → Bool) (n : Nat) : (idx P n).Pairwise (· < ·) := by
  unfold idx
  rw [List.pairwise_map]
  refine List.Pairwise.imp ?_ (List.Pairwise.filter P (List.pairwise_lt_range (n := n)))
  intro a b h; omega

theorem laws_b10Has_p0_ok (l : List Int) (v : Int) (hs : l.length ≤ 1099511627776) : ∀ (k i : Nat), i + k = l.length → laws_b10Has_p0 l v i = some (decide (v ∈ l.drop i))
  | 0, i, hk => by
    rw [laws_b10Has_p0_eq, List.drop_eq_nil_of_le (by omega)]
    have : ¬ (i : Int) < (l.length : Int) := by omega
    simp [this]
  | k + 1, i, hk => by
    have hi : i < l.length := by omega
    have hlt : (i : Int) < (l.length : Int) := by omega
    have hw : IntKind.i64.wrap ((i : Int) + 1) = ((i + 1 : Nat) : Int) := by rw [w64 (by omega) (by omega)]; omega
    have ih := laws_b10Has_p0_ok l v hs k (i + 1) (by omega)
    rw [laws_b10Has_p0_eq, List.drop_eq_getElem_cons hi]
    simp only [hlt, decide_true, if_true, Int.natCast_nonneg, Int.toNat_natCast, List.getElem?_eq_getElem hi, Option.bind_some, hw, ih, List.mem_cons, beq_iff_eq]
    by_cases he : l[i] = v
    · simp [he]
    · have : ¬ v = l[i] := fun h => he h.symm
      simp [he, this]
theorem laws_b10Has_ok (l : List Int) (v : Int) (hs : l.length ≤ 1099511627776) : laws_b10Has l v = some (decide (v ∈ l)) := by
  rw [laws_b10Has_eq]
  have := laws_b10Has_p0_ok l v hs l.length 0 (by omega)
  simpa using this

theorem laws_b10Rises_p0_ok (l : List Int) (n : Int) (hs : l.length ≤ 1099511627776) (hb : ∀ x, x ∈ l → 0 ≤ x ∧ x < n) (hr : l.Pairwise (· < ·)) : ∀ (k i : Nat), i + k = l.length → laws_b10Rises_p0 l n i = some true
  | 0, i, hk => by
    rw [laws_b10Rises_p0_eq]
    have : ¬ (i : Int) < (l.length : Int) := by omega
    simp [this]
  | k + 1, i, hk => by
    have hi : i < l.length := by omega
    have hlt : (i : Int) < (l.length : Int) := by omega
    have hw : IntKind.i64.wrap ((i : Int) + 1) = ((i + 1 : Nat) : Int) := by rw [w64 (by omega) (by omega)]; omega
    have ih := laws_b10Rises_p0_ok l n hs hb hr k (i + 1) (by omega)
    obtain ⟨b1, b2⟩ := hb l[i] (List.getElem_mem hi)
    have n1 : ¬ l[i] < 0 := by omega
    have n2 : ¬ l[i] ≥ n := by omega
    rw [laws_b10Rises_p0_eq]
    simp only [hlt, decide_true, if_true, Int.natCast_nonneg, Int.toNat_natCast, List.getElem?_eq_getElem hi, Option.bind_some, hw, ih, n1, n2, decide_false, Bool.false_eq_true, if_false]
    by_cases h0 : i = 0
    · subst h0; simp
    · have hp : (i : Int) > 0 := by omega
      have hw2 : IntKind.i64.wrap ((i : Int) - 1) = ((i - 1 : Nat) : Int) := by rw [w64 (by omega) (by omega)]; omega
      have h3 := List.pairwise_iff_getElem.1 hr (i - 1) i (by omega) hi (by omega)
      have n3 : ¬ l[i - 1] ≥ l[i] := by omega
      simp only [hp, decide_true, if_true, hw2, Int.natCast_nonneg, Int.toNat_natCast, List.getElem?_eq_getElem (show i - 1 < l.length by omega), Option.bind_some, n3, decide_false, Bool.false_eq_true, if_false]
theorem laws_b10Rises_ok (l : List Int) (n : Int) (hs : l.length ≤ 1099511627776) (hb : ∀ x, x ∈ l → 0 ≤ x ∧ x < n) (hr : l.Pairwise (· < ·)) : laws_b10Rises l n = some true := by
  rw [laws_b10Rises_eq]
  exact laws_b10Rises_p0_ok l n hs hb hr l.length 0 (by omega)

theorem laws_b10Div_nn (n : Nat) (a b : Int) (ha : 0 ≤ a ∧ a ≤ 2000000000000000000) (hb : 0 < b ∧ b ≤ 2000000000000000000) : laws_b10Div (n + 1) a b = some (rdivP a b) := by
  rw [laws_b10Div_eq]
  have h0 : ¬ a < 0 := by omega
  have h1 : ¬ 2 * b = 0 := by omega
  simp only [h0, decide_false, Bool.false_eq_true, if_false, w64 (n := 2 * b) (by omega) (by omega), h1, w64 (n := 2 * a) (by omega) (by omega), w64 (n := 2 * a + b) (by omega) (by omega)]
  have hd : (2 * a + b) / (2 * b) ≤ 2 * a + b := Int.ediv_le_self _ (by omega)
  have hd0 : 0 ≤ (2 * a + b) / (2 * b) := Int.ediv_nonneg (by omega) (by omega)
  rw [tdiv_nonneg_eq (by omega), w64 (by omega) (by omega), rdivP, if_neg h0]
theorem laws_b10Div_ok (a b : Int) (ha : -2000000000000000000 ≤ a ∧ a ≤ 2000000000000000000) (hb : 0 < b ∧ b ≤ 2000000000000000000) : laws_b10Div 1000 a b = some (rdivP a b) := by
  by_cases h0 : a < 0
  · have hr := rdivP_bd (a := -a) (m := 2000000000000000000) hb.1 (by omega)
    rw [show (1000 : Nat) = 998 + 1 + 1 from rfl, laws_b10Div_eq]
    simp only [h0, decide_true, if_true, w64 (n := 0 - a) (by omega) (by omega)]
    rw [show (0 : Int) - a = -a by omega, laws_b10Div_nn 998 (-a) b (by omega) hb, Option.bind_some, w64 (by omega) (by omega)]
    have e : rdivP a b = -rdivP (-a) b := by rw [← rdivP_neg (show 0 < -a by omega) hb.1]; congr 1; omega
    rw [e]
    congr 1; omega
  · exact laws_b10Div_nn 999 a b (by omega) hb

theorem mul_bd {b d B D : Int} (hb : 0 ≤ b ∧ b ≤ B) (hd : -D ≤ d ∧ d ≤ D) : -(B * D) ≤ b * d ∧ b * d ≤ B * D := by
  have up : ∀ d : Int, -D ≤ d ∧ d ≤ D → b * d ≤ B * D := fun d hd => by
    by_cases h : 0 ≤ d
    · exact Int.le_trans (Int.mul_le_mul_of_nonneg_right hb.2 h) (Int.mul_le_mul_of_nonneg_left hd.2 (by omega))
    · have h1 : b * d ≤ 0 := Int.mul_nonpos_of_nonneg_of_nonpos hb.1 (by omega)
      have h2 : 0 ≤ B * D := Int.mul_nonneg (by omega) (by omega)
      omega
  have h1 := up d hd
  have h2 := up (-d) (by omega)
  rw [Int.mul_neg] at h2
  omega

/-- How many days a month of a year has (m from 0). -/
def mdays (y m : Nat) : Int := if m = 1 then (if y % 4 = 0 then 29 else 28) else ([31, 28, 31, 30, 31, 30, 31, 31, 30, 31, 30, 31] : List Int)[m]?.getD 0
def ydays (y : Nat) : Int := 337 + mdays y 1
/-- The days ahead of year 2000 + n. -/
def ySum : Nat → Int
  | 0 => 0
  | n + 1 => ySum n + ydays (2000 + n)
def mSum (y : Nat) : Nat → Int
  | 0 => 0
  | m + 1 => mSum y m + mdays y m
theorem mdays_bd {y m : Nat} (h : m < 12) : 28 ≤ mdays y m ∧ mdays y m ≤ 31 := by
  unfold mdays
  split
  · split <;> omega
  · have : ∀ m, m < 12 → 28 ≤ (([31, 28, 31, 30, 31, 30, 31, 31, 30, 31, 30, 31] : List Int)[m]?.getD 0) ∧ (([31, 28, 31, 30, 31, 30, 31, 31, 30, 31, 30, 31] : List Int)[m]?.getD 0) ≤ 31 := by decide +kernel
    exact this m h
theorem feb_bd (y : Nat) : 28 ≤ mdays y 1 ∧ mdays y 1 ≤ 29 := by
  unfold mdays
  rw [if_pos rfl]
  split <;> omega
theorem ySum_bd : ∀ n, 0 ≤ ySum n ∧ ySum n ≤ 366 * n
  | 0 => by simp [ySum]
  | n + 1 => by
    have := ySum_bd n
    have := feb_bd (2000 + n)
    show 0 ≤ ySum n + (337 + mdays (2000 + n) 1) ∧ ySum n + (337 + mdays (2000 + n) 1) ≤ _
    omega
theorem ySum_100 : ySum 100 = 36525 := by decide +kernel
theorem mSum_12 (y : Nat) : mSum y 12 = ydays y := by
  show 0 + mdays y 0 + mdays y 1 + mdays y 2 + mdays y 3 + mdays y 4 + mdays y 5 + mdays y 6 + mdays y 7 + mdays y 8 + mdays y 9 + mdays y 10 + mdays y 11 = ydays y
  unfold ydays
  have h : ∀ m, m ≠ 1 → mdays y m = ([31, 28, 31, 30, 31, 30, 31, 31, 30, 31, 30, 31] : List Int)[m]?.getD 0 := fun m hm => by unfold mdays; rw [if_neg hm]
  rw [h 0 (by decide), h 2 (by decide), h 3 (by decide), h 4 (by decide), h 5 (by decide), h 6 (by decide), h 7 (by decide), h 8 (by decide), h 9 (by decide), h 10 (by decide), h 11 (by decide)]
  simp
  omega
theorem mSum_bd (y : Nat) : ∀ m, m ≤ 12 → 0 ≤ mSum y m ∧ mSum y m ≤ 31 * m
  | 0, _ => by simp [mSum]
  | m + 1, h => by
    have := mSum_bd y m (by omega)
    have := mdays_bd (y := y) (m := m) (by omega)
    show 0 ≤ mSum y m + mdays y m ∧ mSum y m + mdays y m ≤ _
    omega

theorem impl_monthDays_ok (y m : Nat) (hy : y < 1000000) (hm : m < 12) : impl_monthDays (y : Int) ((m : Int) + 1) = some (mdays y m) := by
  have h4 : (y : Int).tmod 4 = ((y % 4 : Nat) : Int) := by rw [tmod_nonneg_eq (by omega)]; omega
  rw [impl_monthDays_eq, h4, w64 (n := (m : Int) + 1 - 1) (by omega) (by omega), show (m : Int) + 1 - 1 = m by omega]
  unfold mdays
  by_cases h1 : m = 1
  · subst h1
    by_cases h2 : y % 4 = 0
    · simp [h2]
    · have : ((y % 4 : Nat) : Int) ≠ 0 := by omega
      simp only [this, h2, beq_iff_eq, if_false]
      rfl
  · have : ¬ ((m : Int) + 1 = 2) := by omega
    simp only [beq_iff_eq, this, if_false, h1]
    revert h1 this
    revert m
    decide +kernel
theorem impl_yearDays_ok (y : Nat) (hy : y < 1000000) : impl_yearDays (y : Int) = some (ydays y) := by
  have := mdays_bd (y := y) (m := 1) (by omega)
  have h := impl_monthDays_ok y 1 hy (by omega)
  rw [impl_yearDays_eq]
  rw [show ((1 : Nat) : Int) + 1 = 2 by rfl] at h
  rw [h, Option.bind_some, w64 (by omega) (by omega)]; rfl

theorem impl_DateOf_p1_ok (d : Int) (y : Nat) (hy : y < 1000000) (h0 : 0 ≤ d) (hd : d < ydays y) : ∀ (k i : Nat), i + k = 12 → mSum y i ≤ d →
    ∃ (m : Nat) (r : Int), m < 12 ∧ 0 ≤ r ∧ r < mdays y m ∧ d = mSum y m + r ∧ impl_DateOf_p1 (d - mSum y i) y ((i : Int) + 1) = some ((y : Int), (m : Int) + 1, r + 1, 0)
  | 0, i, hk, hi => by
    have : i = 12 := by omega
    subst this
    rw [mSum_12] at hi; omega
  | k + 1, i, hk, hi => by
    have hb := mSum_bd y i (by omega)
    have hm := mdays_bd (y := y) (m := i) (by omega)
    have hyb := mdays_bd (y := y) (m := 1) (by omega)
    unfold ydays at hd
    rw [impl_DateOf_p1_eq, impl_monthDays_ok y i hy (by omega)]
    simp only [Option.bind_some, decide_eq_true_eq]
    by_cases hc : d - mSum y i ≥ mdays y i
    · simp only [hc, if_true]
      rw [w64 (n := d - mSum y i - mdays y i) (by omega) (by omega), w64 (n := (i : Int) + 1 + 1) (by omega) (by omega)]
      have ih := impl_DateOf_p1_ok d y hy h0 hd k (i + 1) (by omega) (by show mSum y i + mdays y i ≤ d; omega)
      rw [show d - mSum y i - mdays y i = d - mSum y (i + 1) by show _ = d - (mSum y i + mdays y i); omega, show (i : Int) + 1 + 1 = ((i + 1 : Nat) : Int) + 1 by omega]
      exact ih
    · simp only [hc, if_false]
      rw [w64 (n := d - mSum y i + 1) (by omega) (by omega)]
      exact ⟨i, d - mSum y i, by omega, by omega, by omega, by omega, rfl⟩
theorem impl_DateOf_p0_ok (d : Int) (h0 : 0 ≤ d) (hd : d ≤ 36524) : ∀ (k n : Nat), n + k = 100 → ySum n ≤ d →
    ∃ (y : Nat) (e : Int), y < 100 ∧ 0 ≤ e ∧ e < ydays (2000 + y) ∧ d = ySum y + e ∧ impl_DateOf_p0 (d - ySum n) ((2000 + n : Nat) : Int) = impl_DateOf_p1 e ((2000 + y : Nat) : Int) 1
  | 0, n, hk, hn => by
    have : n = 100 := by omega
    subst this
    rw [ySum_100] at hn; omega
  | k + 1, n, hk, hn => by
    have hb := ySum_bd n
    have hm := mdays_bd (y := 2000 + n) (m := 1) (by omega)
    rw [impl_DateOf_p0_eq, impl_yearDays_ok (2000 + n) (by omega)]
    simp only [Option.bind_some, decide_eq_true_eq]
    by_cases hc : d - ySum n ≥ ydays (2000 + n)
    · simp only [hc, if_true]
      rw [w64 (n := d - ySum n - ydays (2000 + n)) (by unfold ydays at *; omega) (by unfold ydays at *; omega), w64 (n := ((2000 + n : Nat) : Int) + 1) (by omega) (by omega)]
      have ih := impl_DateOf_p0_ok d h0 hd k (n + 1) (by omega) (by show ySum n + ydays (2000 + n) ≤ d; omega)
      rw [show d - ySum n - ydays (2000 + n) = d - ySum (n + 1) by show _ = d - (ySum n + ydays (2000 + n)); omega, show ((2000 + n : Nat) : Int) + 1 = ((2000 + (n + 1) : Nat) : Int) by omega]
      exact ih
    · simp only [hc, if_false]
      exact ⟨n, d - ySum n, by omega, by omega, by omega, by omega, rfl⟩
/-- A day and its date (months and dates from 0). -/
def IsDate (d : Int) (y m : Nat) (r : Int) : Prop := y < 100 ∧ m < 12 ∧ 0 ≤ r ∧ r < mdays (2000 + y) m ∧ d = ySum y + mSum (2000 + y) m + r
theorem impl_DateOf_ok (d : Int) (h0 : 0 ≤ d) (hd : d ≤ 36524) : ∃ (y m : Nat) (r : Int), IsDate d y m r ∧ impl_DateOf d = some (((2000 + y : Nat) : Int), (m : Int) + 1, r + 1, 0) := by
  rw [impl_DateOf_eq, impl_isDay_eq, impl_within_ok, show inR d 0 36524 = true from inR_iff'.2 ⟨h0, hd⟩]
  obtain ⟨y, e, hy, he0, he1, hde, e1⟩ := impl_DateOf_p0_ok d h0 hd 100 0 (by omega) (by show (0 : Int) ≤ d; exact h0)
  obtain ⟨m, r, hm, hr0, hr1, her, e2⟩ := impl_DateOf_p1_ok e (2000 + y) (by omega) he0 he1 12 0 (by omega) (by show (0 : Int) ≤ e; exact he0)
  refine ⟨y, m, r, ⟨hy, hm, hr0, hr1, by omega⟩, ?_⟩
  simp only [Option.bind_some, Bool.not_true, Bool.false_eq_true, if_false]
  rw [show d - ySum 0 = d by show d - 0 = d; omega, show ((2000 + 0 : Nat) : Int) = 2000 by rfl] at e1
  rw [show e - mSum (2000 + y) 0 = e by show e - 0 = e; omega, show ((0 : Nat) : Int) + 1 = 1 by rfl] at e2
  rw [e1, e2]
theorem impl_DayNumber_p2_ok (y : Nat) (hy : y < 1000000) (m : Nat) (hm : m < 12) : ∀ (k i : Nat) (v : Int), i + k = m → -100000 ≤ v → v ≤ 100000 + 31 * i →
    impl_DayNumber_p2 y ((m : Int) + 1) v ((i : Int) + 1) = some (v + (mSum y m - mSum y i), 0)
  | 0, i, v, hk, h0, h1 => by
    have : i = m := by omega
    subst this
    rw [impl_DayNumber_p2_eq]
    simp
  | k + 1, i, v, hk, h0, h1 => by
    have hb := mdays_bd (y := y) (m := i) (by omega)
    rw [impl_DayNumber_p2_eq]
    have : (i : Int) + 1 < (m : Int) + 1 := by omega
    simp only [this, decide_true, if_true, impl_monthDays_ok y i hy (by omega), Option.bind_some]
    rw [w64 (n := v + mdays y i) (by omega) (by omega), w64 (n := (i : Int) + 1 + 1) (by omega) (by omega), show (i : Int) + 1 + 1 = ((i + 1 : Nat) : Int) + 1 by omega]
    rw [impl_DayNumber_p2_ok y hy m hm k (i + 1) _ (by omega) (by omega) (by omega)]
    congr 2
    show v + mdays y i + (mSum y m - (mSum y i + mdays y i)) = _
    omega
theorem impl_DayNumber_p1_ok (y : Nat) (hy : y < 100) (m : Nat) (hm : m < 12) : ∀ (k i : Nat) (v : Int), i + k = y → -10000 ≤ v → v ≤ 10000 + 366 * i →
    impl_DayNumber_p1 ((2000 + y : Nat) : Int) ((m : Int) + 1) v ((2000 + i : Nat) : Int) = some (v + (ySum y - ySum i) + mSum (2000 + y) m, 0)
  | 0, i, v, hk, h0, h1 => by
    have : i = y := by omega
    subst this
    rw [impl_DayNumber_p1_eq]
    have h2 := impl_DayNumber_p2_ok (2000 + i) (by omega) m hm m 0 v (by omega) (by omega) (by omega)
    rw [show ((0 : Nat) : Int) + 1 = 1 by rfl] at h2
    have : ¬ ((2000 + i : Nat) : Int) < ((2000 + i : Nat) : Int) := by omega
    simp only [this, decide_false, Bool.false_eq_true, if_false, h2]
    congr 2
    show v + (mSum (2000 + i) m - 0) = _
    omega
  | k + 1, i, v, hk, h0, h1 => by
    have hb := feb_bd (2000 + i)
    rw [impl_DayNumber_p1_eq]
    have : ((2000 + i : Nat) : Int) < ((2000 + y : Nat) : Int) := by omega
    simp only [this, decide_true, if_true, impl_yearDays_ok (2000 + i) (by omega), Option.bind_some]
    rw [w64 (n := v + ydays (2000 + i)) (by unfold ydays; omega) (by unfold ydays; omega), w64 (n := ((2000 + i : Nat) : Int) + 1) (by omega) (by omega), show ((2000 + i : Nat) : Int) + 1 = ((2000 + (i + 1) : Nat) : Int) by omega]
    rw [impl_DayNumber_p1_ok y hy m hm k (i + 1) _ (by omega) (by unfold ydays; omega) (by unfold ydays; omega)]
    congr 2
    show v + ydays (2000 + i) + (ySum y - (ySum i + ydays (2000 + i))) + _ = _
    omega
theorem impl_DayNumber_ok {d : Int} {y m : Nat} {r : Int} (h : IsDate d y m r) : impl_DayNumber ((2000 + y : Nat) : Int) ((m : Int) + 1) (r + 1) = some (d, 0) := by
  obtain ⟨hy, hm, hr0, hr1, hd⟩ := h
  have hb := mdays_bd (y := 2000 + y) (m := m) hm
  have e := impl_DayNumber_p1_ok y hy m hm y 0 r (by omega) (by omega) (by omega)
  rw [show ((2000 + 0 : Nat) : Int) = 2000 by rfl] at e
  rw [impl_DayNumber_eq, impl_within_ok, show inR ((2000 + y : Nat) : Int) 2000 2099 = true from inR_iff'.2 (by omega), impl_within_ok, show inR ((m : Int) + 1) 1 12 = true from inR_iff'.2 (by omega), impl_monthDays_ok (2000 + y) m (by omega) hm]
  simp only [Option.bind_some, Bool.not_true, Bool.false_eq_true, if_false]
  rw [impl_within_ok, show inR (r + 1) 1 (mdays (2000 + y) m) = true from inR_iff'.2 (by omega)]
  simp only [Option.bind_some, Bool.not_true, Bool.false_eq_true, if_false, impl_DayNumber_p0_eq]
  rw [w64 (n := r + 1 - 1) (by omega) (by omega), show r + 1 - 1 = r by omega, e]
  congr 2
  show r + (ySum y - 0) + _ = _
  omega

theorem itoa_year : ∀ y, y < 100 → (Lib.itoa ((2000 + y : Nat) : Int)).length = 4 ∧ (45 : UInt8) ∉ Lib.itoa ((2000 + y : Nat) : Int) ∧ digs (Lib.itoa ((2000 + y : Nat) : Int)) = (((2000 + y : Nat) : Int), true) := by decide +kernel
theorem pad_two : ∀ n, n < 100 → (Lib.itoa ((n : Nat) : Int)).length ≤ 2 ∧ (padP ((n : Nat) : Int) 2).length = 2 ∧ (45 : UInt8) ∉ padP ((n : Nat) : Int) 2 ∧ (58 : UInt8) ∉ padP ((n : Nat) : Int) 2 ∧ digs (padP ((n : Nat) : Int) 2) = ((n : Int), true) := by decide +kernel

theorem impl_DateText_ok {d : Int} {y m : Nat} {r : Nat} (h : impl_DateOf d = some (((2000 + y : Nat) : Int), (m : Int) + 1, (r : Int) + 1, 0)) (hy : y < 100) (hm : m < 12) (hr : r < 31) :
    impl_DateText d = some (Lib.itoa ((2000 + y : Nat) : Int) ++ 45 :: (padP ((m + 1 : Nat) : Int) 2 ++ 45 :: padP ((r + 1 : Nat) : Int) 2)) := by
  have l1 := itoa_year y hy
  have l2 := pad_two (m + 1) (by omega)
  have l3 := pad_two (r + 1) (by omega)
  have p2 := impl_padded_ok ((m + 1 : Nat) : Int) 2 (by omega) (by omega) (by omega)
  have p3 := impl_padded_ok ((r + 1 : Nat) : Int) 2 (by omega) (by omega) (by omega)
  rw [show ((2 : Nat) : Int) = 2 by rfl] at p2 p3
  rw [impl_DateText_eq, h]
  simp only [Option.bind_some, bne_self_eq_false, Bool.false_eq_true, if_false, impl_Decimal_ok _ (show -9223372036854775808 ≤ ((2000 + y : Nat) : Int) ∧ ((2000 + y : Nat) : Int) ≤ 9223372036854775807 by omega)]
  rw [show (m : Int) + 1 = ((m + 1 : Nat) : Int) by omega, show (r : Int) + 1 = ((r + 1 : Nat) : Int) by omega, p2, p3]
  simp only [Option.bind_some, List.length_append, List.length_cons, List.length_nil, l1.1, l2.2.1, l3.2.1, strMax_eq]
  simp

theorem dig_toNat {d : Nat} (h : d < 10) : (UInt8.ofNat (48 + d)).toNat = 48 + d := by
  rw [UInt8.toNat_ofNat']; omega
theorem decDigits_dig (u : Nat) : ∀ c, c ∈ Lib.decDigits u → 48 ≤ c.toNat ∧ c.toNat ≤ 57 := by
  induction u using Nat.strongRecOn with
  | _ u ih =>
    intro c hc
    rw [Lib.decDigits] at hc
    split at hc
    · rename_i h
      simp only [List.mem_singleton] at hc
      rw [hc, dig_toNat h]; omega
    · rename_i h
      rcases List.mem_append.1 hc with h1 | h1
      · exact ih (u / 10) (by omega) c h1
      · simp only [List.mem_singleton] at h1
        rw [h1, dig_toNat (by omega)]; omega
theorem decDigits_len : ∀ (k u : Nat), u < 10 ^ (k + 1) → (Lib.decDigits u).length ≤ k + 1 ∧ 1 ≤ (Lib.decDigits u).length
  | 0, u, h => by
    rw [Lib.decDigits, dif_pos (by simpa using h)]; simp
  | k + 1, u, h => by
    rw [Lib.decDigits]
    split
    · simp
    · have hq : u / 10 < 10 ^ (k + 1) := by
        have : 10 ^ (k + 1 + 1) = 10 ^ (k + 1) * 10 := Nat.pow_succ ..
        omega
      have := decDigits_len k (u / 10) hq
      simp only [List.length_append, List.length_singleton]
      omega
theorem itoa_pos (u : Nat) : Lib.itoa (u : Int) = Lib.decDigits u := by unfold Lib.itoa; rw [if_neg (by omega)]; simp
theorem repeat48 : ∀ k, ∀ c, c ∈ Lib.repeatL [48] k → c = 48
  | 0, c, h => by simp [Lib.repeatL] at h
  | k + 1, c, h => by
    have h : c ∈ 48 :: Lib.repeatL [48] k := h
    rcases List.mem_cons.1 h with h | h
    · exact h
    · exact repeat48 k c h
theorem padP_dig (u d : Nat) : ∀ c, c ∈ padP (u : Int) d → 48 ≤ c.toNat ∧ c.toNat ≤ 57 := by
  intro c hc
  unfold padP at hc
  rcases List.mem_append.1 hc with h | h
  · rw [repeat48 _ c h]; decide
  · rw [itoa_pos] at h; exact decDigits_dig u c h
theorem not_mem_dig {a : List UInt8} (h : ∀ c, c ∈ a → 48 ≤ c.toNat ∧ c.toNat ≤ 57) {c : UInt8} (hc : c.toNat < 48 ∨ 57 < c.toNat) : c ∉ a := fun e => by
  have := h c e; omega

theorem up_app : ∀ (a b : List UInt8) (n m : Nat), Lib.parseUint10 n a = .ok m → Lib.parseUint10 n (a ++ b) = Lib.parseUint10 m b
  | [], b, n, m, h => by
    simp only [Lib.parseUint10, Lib.NumEnd.ok.injEq] at h
    rw [h]; rfl
  | c :: r, b, n, m, h => by
    simp only [Lib.parseUint10] at h
    rw [List.cons_append, Lib.parseUint10]
    split at h
    · rename_i h1
      split at h
      · cases h
      · rename_i h2
        split at h
        · cases h
        · rename_i h3
          rw [if_pos h1, if_neg h2, if_neg h3]
          exact up_app r b _ m h
    · cases h
theorem up_dec (u : Nat) (hu : u < 10 ^ 18) : Lib.parseUint10 0 (Lib.decDigits u) = .ok u := by
  have e18 : (10 : Nat) ^ 18 = 1000000000000000000 := by decide
  induction u using Nat.strongRecOn with
  | _ u ih =>
    rw [Lib.decDigits]
    split
    · rename_i h
      simp only [Lib.parseUint10]
      rw [dig_toNat h, if_pos (by omega), if_neg (by omega), if_neg (by omega)]
      congr 1; omega
    · rename_i h
      rw [up_app _ _ 0 (u / 10) (ih (u / 10) (by omega) (by omega))]
      simp only [Lib.parseUint10]
      rw [dig_toNat (by omega), if_pos (by omega), if_neg (by omega), if_neg (by omega)]
      congr 1; omega
theorem dec_ne (u : Nat) : Lib.decDigits u ≠ [] := by
  rw [Lib.decDigits]; split <;> simp
theorem itoa_neg (u : Nat) (h : 0 < u) : Lib.itoa (-(u : Int)) = 45 :: Lib.decDigits u := by
  unfold Lib.itoa; rw [if_pos (by omega)]; simp
/-- What Decimal writes ReadDecimal reads. -/
theorem readDecP_itoa (n : Int) (h : -1000000000000 ≤ n ∧ n ≤ 1000000000000) : readDecP (Lib.itoa n) = (n, true) := by
  have e18 : (10 : Nat) ^ 18 = 1000000000000000000 := by decide
  have e13 : (10 : Nat) ^ (13 + 1) = 100000000000000 := by decide
  by_cases hn : n < 0
  · obtain ⟨u, rfl, hu0, hu⟩ : ∃ u : Nat, n = -(u : Int) ∧ 0 < u ∧ u ≤ 1000000000000 := ⟨n.natAbs, by omega, by omega, by omega⟩
    have hl := decDigits_len 13 u (by omega)
    unfold readDecP
    rw [itoa_neg u hu0]
    have ht : Lib.trimPrefix (45 :: Lib.decDigits u) [45] = Lib.decDigits u := by simp [Lib.trimPrefix, Lib.hasPrefix, List.isPrefixOf]
    have hp : Lib.parseIntB 64 (45 :: Lib.decDigits u) = .ok (-(u : Int)) := by
      have hm : Lib.parseMag (Lib.decDigits u) = .ok u := by rw [Lib.parseMag, if_neg (dec_ne u), up_dec u (by omega)]
      rw [Lib.parseIntB_64, Lib.atoiAll]
      simp only [show (45 : UInt8).toNat = 45 from rfl, or_true, if_true, hm]
      rw [if_neg (by simp), if_neg (by simp; omega)]
    rw [ht, if_neg (by omega), hp]
    simp only [itoa_neg u hu0, if_true]
  · obtain ⟨u, rfl, hu⟩ : ∃ u : Nat, n = (u : Int) ∧ u ≤ 1000000000000 := ⟨n.toNat, by omega, by omega⟩
    have hl := decDigits_len 13 u (by omega)
    unfold readDecP
    rw [itoa_pos u]
    cases hd : Lib.decDigits u with
    | nil => exact absurd hd (dec_ne u)
    | cons c r =>
      have hc := decDigits_dig u c (by rw [hd]; simp)
      have h45 : c ≠ 45 := fun e => by subst e; simp at hc
      have ht : Lib.trimPrefix (c :: r) [45] = c :: r := by simp [Lib.trimPrefix, Lib.hasPrefix, List.isPrefixOf, Ne.symm h45]
      have hp : Lib.parseIntB 64 (c :: r) = .ok (u : Int) := by
        have hm : Lib.parseMag (c :: r) = .ok u := by rw [← hd, Lib.parseMag, if_neg (dec_ne u), up_dec u (by omega)]
        rw [Lib.parseIntB_64, Lib.atoiAll]
        have h1 : ¬ c.toNat = 43 := by omega
        have h2 : ¬ c.toNat = 45 := by omega
        simp only [h1, h2, or_self, if_false, hm, not_false_eq_true, true_and, false_and]
        rw [if_neg (by omega)]
      rw [ht, ← hd, if_neg (by omega), hd, hp]
      simp only [itoa_pos u, hd, if_true]
theorem itoa_len (n : Int) (h : -1000000000000 ≤ n ∧ n ≤ 1000000000000) : 1 ≤ (Lib.itoa n).length ∧ (Lib.itoa n).length ≤ 15 := by
  have e13 : (10 : Nat) ^ (13 + 1) = 100000000000000 := by decide
  unfold Lib.itoa
  split
  · have := decDigits_len 13 n.natAbs (by omega)
    simp; omega
  · have := decDigits_len 13 n.toNat (by omega)
    omega
theorem itoa_ne (n : Int) : Lib.itoa n ≠ [45] := by
  unfold Lib.itoa
  split
  · have := dec_ne n.natAbs
    intro e; simp at e; exact this e
  · intro e
    have := decDigits_dig n.toNat 45 (by rw [e]; simp)
    simp at this
theorem itoa_mem (n : Int) (c : UInt8) (hc : c ∈ Lib.itoa n) : c = 45 ∨ 48 ≤ c.toNat ∧ c.toNat ≤ 57 := by
  unfold Lib.itoa at hc
  split at hc
  · rcases List.mem_cons.1 hc with h | h
    · exact .inl h
    · exact .inr (decDigits_dig _ c h)
  · exact .inr (decDigits_dig _ c hc)
theorem itoa_no (n : Int) {c : UInt8} (h : c ≠ 45) (h' : c.toNat < 48 ∨ 57 < c.toNat) : c ∉ Lib.itoa n := fun e => by
  rcases itoa_mem n c e with h1 | h1
  · exact h h1
  · omega
theorem join_cons2 (x y : List UInt8) (r : List (List UInt8)) (c : UInt8) : Lib.join (x :: y :: r) [c] = x ++ c :: Lib.join (y :: r) [c] := by
  rw [Lib.join_cons, Lib.join_cons]
  simp [Lib.joinTail]
theorem split_join {c : UInt8} : ∀ (x : List UInt8) (r : List (List UInt8)), (∀ y, y ∈ x :: r → c ∉ y) →
    Lib.splitK [c] 0 (Lib.count (Lib.join (x :: r) [c]) [c]) (Lib.join (x :: r) [c]) = x :: r
  | x, [], h => by rw [Lib.join_one]; exact split1_last (h x (by simp))
  | x, y :: r, h => by
    rw [join_cons2, split1_cons _ (h x (by simp)), split_join y r fun z hz => h z (List.mem_cons_of_mem _ hz)]
theorem lens_bd {m : Nat} : ∀ (l : List (List UInt8)), (∀ x, x ∈ l → x.length ≤ m) → Lib.lens l ≤ m * l.length
  | [], _ => by simp [Lib.lens]
  | x :: r, h => by
    have h1 := lens_bd r fun y hy => h y (List.mem_cons_of_mem _ hy)
    have h2 := h x (by simp)
    have e : Lib.lens (x :: r) = x.length + Lib.lens r := by simp [Lib.lens]
    rw [e, List.length_cons, Nat.mul_succ]; omega
theorem join_len {m : Nat} {c : UInt8} (l : List (List UInt8)) (h : ∀ x, x ∈ l → x.length ≤ m) : (Lib.join l [c]).length ≤ (m + 1) * l.length := by
  cases l with
  | nil => simp [Lib.join_nil]
  | cons x r =>
    have h1 := lens_bd (x :: r) h
    rw [Lib.join_length, Nat.add_mul, List.length_singleton, List.length_cons] at *
    omega
/-- The text of a list of numbers. -/
def listP (l : List Int) : List UInt8 := Lib.join (l.map Lib.itoa) [44]
theorem listP_len (l : List Int) (hl : l.length ≤ 64) (hx : ∀ x, x ∈ l → -1000000000000 ≤ x ∧ x ≤ 1000000000000) : (listP l).length ≤ 1024 := by
  have h := join_len (m := 15) (c := 44) (l.map Lib.itoa) fun x hx' => by
    obtain ⟨n, hn, rfl⟩ := List.mem_map.1 hx'
    exact (itoa_len n (hx n hn)).2
  rw [List.length_map] at h
  have : (listP l).length ≤ 16 * l.length := h
  omega

theorem impl_ReadDecimal_ok (n : Int) (h : -1000000000000 ≤ n ∧ n ≤ 1000000000000) : impl_ReadDecimal (Lib.itoa n) = some (n, true) := by
  rw [impl_ReadDecimal_eq, readDecP_itoa n h]

theorem impl_ListText_p0_ok (l : List Int) (hl : l.length ≤ 64) (hx : ∀ x, x ∈ l → -1000000000000 ≤ x ∧ x ≤ 1000000000000) : ∀ (k i : Nat), i + k = l.length → impl_ListText_p0 l l.length i ((l.take i).map Lib.itoa) = some (listP l)
  | 0, i, hk => by
    rw [impl_ListText_p0_eq]
    have : ¬ (i : Int) < (l.length : Int) := by omega
    have hb := listP_len l hl hx
    have e : (Lib.join (l.map Lib.itoa) [44]).length ≤ 140737488355328 := by
      have : (Lib.join (l.map Lib.itoa) [44]).length ≤ 1024 := hb
      omega
    rw [List.take_length, List.take_of_length_le (by omega : l.length ≤ i)]
    simp only [this, decide_false, Bool.false_eq_true, if_false, strings_Join_eq]
    have e2 : (l.map Lib.itoa).length ≤ 140737488355328 := by rw [List.length_map]; omega
    simp only [e2, e, decide_true, Bool.and_self, if_true, Option.bind_some]
    rfl
  | k + 1, i, hk => by
    have hi : i < l.length := by omega
    have hlt : (i : Int) < (l.length : Int) := by omega
    have hi0 : (0 : Int) ≤ (i : Int) := by omega
    have hb := hx l[i] (List.getElem_mem hi)
    have hr : inR l[i] (-1000000000000) 1000000000000 = true := inR_iff'.2 hb
    have hlim : ((l.take i).map Lib.itoa).length + 1 < lim := by rw [lim_eq, List.length_map, List.length_take]; omega
    rw [impl_ListText_p0_eq]
    simp only [hlt, decide_true, if_true, hi0, Int.toNat_natCast, getElem?_lt hi, Option.bind_some, impl_within_ok, hr, Bool.not_true, Bool.false_eq_true, if_false, impl_Decimal_ok l[i] (by omega), hlim, wsucc (show i < 4611686018427387904 by omega)]
    have := impl_ListText_p0_ok l hl hx k (i + 1) (by omega)
    rw [List.take_length]
    rw [show (l.take (i + 1)).map Lib.itoa = (l.take i).map Lib.itoa ++ [Lib.itoa l[i]] by rw [List.take_add_one, getElem?_lt hi, List.map_append]; rfl] at this
    exact this
theorem impl_ListText_ok (l : List Int) (h0 : l ≠ []) (hl : l.length ≤ 64) (hx : ∀ x, x ∈ l → -1000000000000 ≤ x ∧ x ≤ 1000000000000) : impl_ListText l = some (listP l) := by
  rw [impl_ListText_eq, impl_few_eq]
  have h1 : (l.length : Int) ≤ 64 := by omega
  have h2 : ((l.length : Int) == 0) = false := by
    rw [beq_eq_false_iff_ne]
    intro e
    exact h0 (List.length_eq_zero_iff.1 (by omega))
  simp only [h1, decide_true, Option.bind_some, Bool.not_true, Bool.false_eq_true, if_false, h2]
  exact impl_ListText_p0_ok l hl hx l.length 0 (by omega)

theorem impl_ReadList_p0_ok (l : List Int) (hl : l.length ≤ 64) (hx : ∀ x, x ∈ l → -1000000000000 ≤ x ∧ x ≤ 1000000000000) : ∀ (k i : Nat), i + k = l.length → impl_ReadList_p0 (l.map Lib.itoa) l.length i (l.take i) = some (l, true)
  | 0, i, hk => by
    rw [impl_ReadList_p0_eq]
    have : ¬ (i : Int) < (l.length : Int) := by omega
    simp only [this, decide_false, Bool.false_eq_true, if_false, List.take_length, List.take_of_length_le (by omega : l.length ≤ i)]
  | k + 1, i, hk => by
    have hi : i < l.length := by omega
    have hlt : (i : Int) < (l.length : Int) := by omega
    have hi0 : (0 : Int) ≤ (i : Int) := by omega
    have hb := hx l[i] (List.getElem_mem hi)
    have hr : inR l[i] (-1000000000000) 1000000000000 = true := inR_iff'.2 hb
    have hlim : (l.take i).length + 1 < lim := by rw [lim_eq, List.length_take]; omega
    have hg : (l.map Lib.itoa)[i]? = some (Lib.itoa l[i]) := by rw [List.getElem?_map, getElem?_lt hi]; rfl
    have h64 : (((l.take i).length : Int) == 64) = false := by rw [beq_eq_false_iff_ne, List.length_take]; omega
    rw [impl_ReadList_p0_eq]
    simp only [hlt, decide_true, if_true, hi0, Int.toNat_natCast, hg, Option.bind_some, impl_ReadDecimal_ok l[i] hb, impl_within_ok, hr, Bool.not_true, Bool.false_eq_true, if_false, h64, hlim, wsucc (show i < 4611686018427387904 by omega)]
    have := impl_ReadList_p0_ok l hl hx k (i + 1) (by omega)
    rw [List.take_length]
    rw [List.take_add_one, getElem?_lt hi] at this
    simpa using this
theorem impl_ReadList_ok (l : List Int) (h0 : l ≠ []) (hl : l.length ≤ 64) (hx : ∀ x, x ∈ l → -1000000000000 ≤ x ∧ x ≤ 1000000000000) : impl_ReadList (listP l) = some (l, true) := by
  have hb := listP_len l hl hx
  have hs : Lib.splitK [44] 0 (Lib.count (listP l) [44]) (listP l) = l.map Lib.itoa := by
    cases l with
    | nil => exact absurd rfl h0
    | cons a r =>
      unfold listP
      rw [List.map_cons]
      exact split_join _ _ fun y hy => by
        have hy' : y ∈ (a :: r).map Lib.itoa := hy
        obtain ⟨n, hn, rfl⟩ := List.mem_map.1 hy'
        exact itoa_no n (by decide) (by decide)
  have hne : (listP l == [45]) = false := by
    rw [beq_eq_false_iff_ne]
    intro e
    cases l with
    | nil => exact absurd rfl h0
    | cons a r =>
      unfold listP at e
      rw [List.map_cons, Lib.join_cons] at e
      have h1 := (itoa_len a (hx a (by simp))).1
      cases hi : Lib.itoa a with
      | nil => rw [hi] at h1; simp at h1
      | cons c t =>
        rw [hi, List.cons_append] at e
        injection e with e1 e2
        have e3 := (List.append_eq_nil_iff.1 e2).1
        exact itoa_ne a (by rw [hi, e1, e3])
  rw [impl_ReadList_eq]
  simp only [hne, Bool.false_eq_true, if_false, strings_Split_eq]
  have h1 : (listP l).length < 4294967281 := by omega
  simp only [h1, List.length_singleton, Nat.le_refl, decide_true, Bool.and_self, if_true, Option.bind_some, hs, List.length_map]
  exact impl_ReadList_p0_ok l hl hx l.length 0 (by omega)

theorem join_no {c d : UInt8} (hcd : c ≠ d) : ∀ (x : List UInt8) (r : List (List UInt8)), (∀ y, y ∈ x :: r → c ∉ y) → c ∉ Lib.join (x :: r) [d]
  | x, [], h => by rw [Lib.join_one]; exact h x (by simp)
  | x, y :: r, h => by
    rw [join_cons2]
    intro e
    rcases List.mem_append.1 e with e | e
    · exact h x (by simp) e
    · rcases List.mem_cons.1 e with e | e
      · exact hcd e
      · exact join_no hcd y r (fun z hz => h z (List.mem_cons_of_mem _ hz)) e
theorem listP_no {l : List Int} {c : UInt8} (h0 : l ≠ []) (h1 : c ≠ 44) (h2 : c ≠ 45) (h3 : c.toNat < 48 ∨ 57 < c.toNat) : c ∉ listP l := by
  cases l with
  | nil => exact absurd rfl h0
  | cons a r =>
    unfold listP
    rw [List.map_cons]
    exact join_no h1 _ _ fun y hy => by
      have hy' : y ∈ (a :: r).map Lib.itoa := hy
      obtain ⟨n, hn, rfl⟩ := List.mem_map.1 hy'
      exact itoa_no n h2 h3
theorem listP_ne {l : List Int} (h0 : l ≠ []) : listP l ≠ [] := by
  cases l with
  | nil => exact absurd rfl h0
  | cons a r =>
    unfold listP
    rw [List.map_cons, Lib.join_cons]
    intro e
    have := (List.append_eq_nil_iff.1 e).1
    unfold Lib.itoa at this
    split at this
    · cases this
    · exact dec_ne _ this

theorem impl_SplitWords_3 (a b c : List UInt8) (ha : a ≠ []) (hb : b ≠ []) (hc : c ≠ []) (ha' : (32 : UInt8) ∉ a) (hb' : (32 : UInt8) ∉ b) (hc' : (32 : UInt8) ∉ c) (hl : a.length + b.length + c.length < 1000000) :
    impl_SplitWords (a ++ 32 :: (b ++ 32 :: c)) = some [a, b, c] := by
  have hs : Lib.splitK [32] 0 (Lib.count (a ++ 32 :: (b ++ 32 :: c)) [32]) (a ++ 32 :: (b ++ 32 :: c)) = [a, b, c] := by
    rw [split1_cons _ ha', split1_cons _ hb', split1_last hc']
  have hlen : (a ++ 32 :: (b ++ 32 :: c)).length < 4294967281 := by
    simp only [List.length_append, List.length_cons]; omega
  have h1 : (1 : Nat) ≤ ([32] : List UInt8).length := by decide
  have w1 : IntKind.i64.wrap (0 + 1) = 1 := by decide
  have w2 : IntKind.i64.wrap (1 + 1) = 2 := by decide
  have w3 : IntKind.i64.wrap (2 + 1) = 3 := by decide
  have na : (a == []) = false := by simpa using ha
  have nb : (b == []) = false := by simpa using hb
  have nc : (c == []) = false := by simpa using hc
  have l0 : 0 + 1 < lim := by rw [lim_eq]; omega
  have l1 : 1 + 1 < lim := by rw [lim_eq]; omega
  have l2 : 2 + 1 < lim := by rw [lim_eq]; omega
  have e3 : impl_SplitWords_p0 [a, b, c] 3 3 [a, b, c] = some [a, b, c] := by
    rw [impl_SplitWords_p0_eq]
    rfl
  have e2 : impl_SplitWords_p0 [a, b, c] 3 2 [a, b] = some [a, b, c] := by
    rw [impl_SplitWords_p0_eq]
    have g : ([a, b, c] : List (List UInt8))[(2 : Int).toNat]? = some c := rfl
    have c1 : (0 : Int) ≤ 2 := by decide
    have c2 : (2 : Int) < 3 := by decide
    have c3 : ([a, b] : List (List UInt8)).length + 1 < lim := l2
    simp only [c2, c1, decide_true, if_true, g, Option.bind_some, nc, Bool.not_false, c3, w3]
    exact e3
  have e1 : impl_SplitWords_p0 [a, b, c] 3 1 [a] = some [a, b, c] := by
    rw [impl_SplitWords_p0_eq]
    have g : ([a, b, c] : List (List UInt8))[(1 : Int).toNat]? = some b := rfl
    have c1 : (0 : Int) ≤ 1 := by decide
    have c2 : (1 : Int) < 3 := by decide
    have c3 : ([a] : List (List UInt8)).length + 1 < lim := l1
    simp only [c2, c1, decide_true, if_true, g, Option.bind_some, nb, Bool.not_false, c3, w2]
    exact e2
  have e0 : impl_SplitWords_p0 [a, b, c] 3 0 [] = some [a, b, c] := by
    rw [impl_SplitWords_p0_eq]
    have g : ([a, b, c] : List (List UInt8))[(0 : Int).toNat]? = some a := rfl
    have c1 : (0 : Int) ≤ 0 := by decide
    have c2 : (0 : Int) < 3 := by decide
    have c3 : ([] : List (List UInt8)).length + 1 < lim := l0
    simp only [c2, c1, decide_true, if_true, g, Option.bind_some, na, Bool.not_false, c3, w1]
    exact e1
  rw [impl_SplitWords_eq, strings_Split_eq]
  simp only [hlen, decide_true, h1, Bool.and_self, if_true, hs, Option.bind_some]
  exact e0

theorem readDate_ok {d : Int} {y m : Nat} {r : Nat} (hd : IsDate d y m r) (hdt : impl_DateText d = some (Lib.itoa ((2000 + y : Nat) : Int) ++ 45 :: (padP ((m + 1 : Nat) : Int) 2 ++ 45 :: padP ((r + 1 : Nat) : Int) 2))) :
    impl_ReadDate (Lib.itoa ((2000 + y : Nat) : Int) ++ 45 :: (padP ((m + 1 : Nat) : Int) 2 ++ 45 :: padP ((r + 1 : Nat) : Int) 2)) = some (d, true) := by
  have hd' := hd
  obtain ⟨hy, hm, hr0, hr1, hde⟩ := hd
  have hb := mdays_bd (y := 2000 + y) (m := m) hm
  have l1 := itoa_year y hy
  have l2 := pad_two (m + 1) (by omega)
  have l3 := pad_two (r + 1) (by omega)
  have dn := impl_DayNumber_ok hd'
  rw [show (m : Int) + 1 = ((m + 1 : Nat) : Int) by omega, show (r : Int) + 1 = ((r + 1 : Nat) : Int) by omega] at dn
  generalize hA : Lib.itoa ((2000 + y : Nat) : Int) = a at *
  generalize hB : padP ((m + 1 : Nat) : Int) 2 = b at *
  generalize hC : padP ((r + 1 : Nat) : Int) 2 = c at *
  have hsp : Lib.splitK [45] 0 (Lib.count (a ++ 45 :: (b ++ 45 :: c)) [45]) (a ++ 45 :: (b ++ 45 :: c)) = [a, b, c] := by
    rw [split1_cons _ l1.2.1, split1_cons _ l2.2.2.1, split1_last l3.2.2.1]
  have hlen : (a ++ 45 :: (b ++ 45 :: c)).length < 4294967281 := by
    simp only [List.length_append, List.length_cons, l1.1, l2.2.1, l3.2.1]; decide
  have w1 : IntKind.i64.wrap (0 + 1) = 1 := by decide
  have w2 : IntKind.i64.wrap (1 + 1) = 2 := by decide
  have w3 : IntKind.i64.wrap (2 + 1) = 3 := by decide
  generalize hs : a ++ 45 :: (b ++ 45 :: c) = s at *
  have e3 : impl_ReadDate_p0 s 3 3 [a, b, c] ((2000 + y : Nat) : Int) ((m + 1 : Nat) : Int) ((r + 1 : Nat) : Int) = some (d, true) := by
    rw [impl_ReadDate_p0_eq]
    have c : ¬ (3 : Int) < 3 := by decide
    simp only [c, decide_false, Bool.false_eq_true, if_false, dn, Option.bind_some, bne_self_eq_false, hdt, beq_self_eq_true, Bool.not_true]
  have e2 : ∀ z : Int, impl_ReadDate_p0 s 3 2 [a, b, c] ((2000 + y : Nat) : Int) ((m + 1 : Nat) : Int) z = some (d, true) := fun z => by
    rw [impl_ReadDate_p0_eq]
    have g : ([a, b, c] : List (List UInt8))[(2 : Int).toNat]? = some c := rfl
    have c1 : (decide ((0 : Int) ≤ 2) && decide ((2 : Int) < (([a, b, c] : List (List UInt8)).length : Int))) = true := by simp
    have c2 : (2 : Int) < 3 := by decide
    have c3 : ¬ (2 : Int) = 0 := by decide
    have c4 : ¬ (2 : Int) = 1 := by decide
    simp only [c2, decide_true, if_true, c1, g, Option.bind_some, impl_digitsOf_ok, l3.2.2.2.2, c3, c4, decide_false, Bool.false_eq_true, if_false, w3]
    exact e3
  have e1 : ∀ z u : Int, impl_ReadDate_p0 s 3 1 [a, b, c] ((2000 + y : Nat) : Int) u z = some (d, true) := fun z u => by
    rw [impl_ReadDate_p0_eq]
    have g : ([a, b, c] : List (List UInt8))[(1 : Int).toNat]? = some b := rfl
    have c1 : (decide ((0 : Int) ≤ 1) && decide ((1 : Int) < (([a, b, c] : List (List UInt8)).length : Int))) = true := by simp
    have c2 : (1 : Int) < 3 := by decide
    have c3 : ¬ (1 : Int) = 0 := by decide
    simp only [c2, decide_true, if_true, c1, g, Option.bind_some, impl_digitsOf_ok, l2.2.2.2.2, c3, decide_false, Bool.false_eq_true, if_false, w2]
    exact e2 z
  have e0 : impl_ReadDate_p0 s 3 0 [a, b, c] 0 0 0 = some (d, true) := by
    rw [impl_ReadDate_p0_eq]
    have g : ([a, b, c] : List (List UInt8))[(0 : Int).toNat]? = some a := rfl
    have c1 : (decide ((0 : Int) ≤ 0) && decide ((0 : Int) < (([a, b, c] : List (List UInt8)).length : Int))) = true := by simp
    have c2 : (0 : Int) < 3 := by decide
    simp only [c2, decide_true, if_true, c1, g, Option.bind_some, impl_digitsOf_ok, l1.2.2, w1]
    exact e1 0 0
  have h1 : (1 : Nat) ≤ ([45] : List UInt8).length := by decide
  rw [impl_ReadDate_eq, strings_Split_eq]
  simp only [hlen, decide_true, h1, Bool.and_self, if_true, hsp, Option.bind_some]
  exact e0

theorem isName_mem {s : List UInt8} (h : isName s = true) : (∀ c, c ∈ s → small c = true ∨ digit c = true) ∧ s.length ≤ 10 := by
  cases s with
  | nil => simp [isName] at h
  | cons c r =>
    simp only [isName, Bool.and_eq_true, List.all_eq_true, Bool.or_eq_true, decide_eq_true_eq] at h
    exact ⟨fun x hx => by
      rcases List.mem_cons.1 hx with rfl | hx
      · exact .inl h.1.1
      · exact h.1.2 x hx, h.2⟩
theorem isName_no {s : List UInt8} (h : isName s = true) {c : UInt8} (hc : c.toNat < 48) : c ∉ s := fun e => by
  rcases (isName_mem h).1 c e with h1 | h1
  · simp [small] at h1; omega
  · simp [digit] at h1; omega

theorem impl_named_ok (id : List UInt8) (l : List Int) (hid : id.length ≤ 1000000) (h0 : l ≠ []) (hl : l.length ≤ 64) (hx : ∀ x, x ∈ l → -1000000000000 ≤ x ∧ x ≤ 1000000000000) :
    impl_named id l = some (id ++ 32 :: listP l) := by
  have hb := listP_len l hl hx
  rw [impl_named_eq, impl_ListText_ok l h0 hl hx]
  have e1 : id.length + 1 ≤ strMax := by rw [strMax_eq]; omega
  have e2 : id.length + 1 + (listP l).length ≤ strMax := by rw [strMax_eq]; omega
  simp only [List.length_append, List.length_singleton, e1, decide_true, if_true, Option.bind_some, e2, List.append_assoc]
  rfl

theorem inR_iff {n lo hi : Int} : inR n lo hi = true ↔ lo ≤ n ∧ n ≤ hi := by simp [inR]
def stackOk (x : T_Peg.ty) : Bool := isName x.1 && (inR x.2.1 0 1000 && (inR x.2.2.1 10 1000 && (inR x.2.2.2.1 0 36524)))
def stacksOk (xs : List T_Peg.ty) : Bool := sortedChk stackOk (fun x => x.1) none xs && decide ((xs.length : Int) ≤ 12)
theorem stacksOk_all {xs : List T_Peg.ty} (h : stacksOk xs = true) (x : T_Peg.ty) (hx : x ∈ xs) : stackOk x = true := by
  simp only [stacksOk, Bool.and_eq_true] at h
  exact sortedChk_all h.1 x hx

theorem spec_l04One_ok (x : T_Peg.ty) (h0 : x.1.length < 4611686018427387904) : spec_l04One x = some (stackOk x) := by
  rw [spec_l04One_eq, stackOk]
  simp only [spec_l01Name_ok x.1 h0, spec_l04Share_eq, spec_l04Thick_eq, spec_l02Day_eq, spec_l00In_ok, Option.bind_some]
  cases isName x.1 <;> cases inR x.2.1 0 1000 <;> cases inR x.2.2.1 10 1000 <;> simp

theorem impl_Stack_valid_ok (x : T_Peg.ty) (h0 : x.1.length < 4611686018427387904) : impl_Stack_valid x = some (stackOk x) := by
  rw [impl_Stack_valid_eq, stackOk]
  simp only [impl_IsName_ok x.1 h0, impl_isPart_eq, impl_isDay_eq, impl_within_ok, Option.bind_some]
  cases isName x.1 <;> cases inR x.2.1 0 1000 <;> cases inR x.2.2.1 10 1000 <;> simp

theorem impl_ValidStacks_ok (xs : List T_Peg.ty) (hs : xs.length ≤ 1048576) (hx : ∀ x, x ∈ xs → x.1.length ≤ 1048576) : impl_ValidStacks xs = some (stacksOk xs) := by
  rw [impl_ValidStacks_eq]
  exact sortedLoopI xs impl_Stack_valid stackOk (fun x => x.1) (fun i => impl_ValidStacks_p0 xs xs xs.length i) _ _ (show ((impl_few (xs.length : Int) 12).bind fun x4 => some x4) = some (decide ((xs.length : Int) ≤ 12)) by rw [impl_few_eq]; rfl) (fun i => impl_ValidStacks_p0_eq xs xs xs.length i) hs (fun x hm => impl_Stack_valid_ok x (Nat.lt_of_le_of_lt (hx x hm) (by decide))) xs.length 0 (by omega)

def lineP (x0 y0 x1 y1 h : Int) : Int := if h ≤ x0 then y0 else if x1 ≤ x0 then y0 else if h ≥ x1 then y1 else y0 + rdivP ((y1 - y0) * (h - x0)) (x1 - x0)
/-- The even moisture for a humidity. -/
def evenP (h : Int) : Int := if h ≤ 300 then lineP 0 0 300 60 h else if h ≤ 600 then lineP 300 60 600 110 h else if h ≤ 800 then lineP 600 110 800 160 h else lineP 800 160 1000 280 h
theorem evenP_bd {h : Int} (hh : 0 ≤ h ∧ h ≤ 1000) : 0 ≤ evenP h ∧ evenP h ≤ 280 := by
  unfold evenP lineP rdivP
  repeat' split
  all_goals omega
/-- By how much a moisture changes on a day. -/
def chg (e t m : Int) : Int := rdivP (20 * (e - m)) (t + 20)
def stp (e t m : Int) : Int := m + chg e t m
/-- A moisture after some days. -/
def aft (e t : Int) : Nat → Int → Int
  | 0, m => m
  | n + 1, m => aft e t n (stp e t m)
theorem rdiv20 {T d : Int} (hT : 30 ≤ T) (hd : 0 ≤ d) : 0 ≤ rdivP (20 * d) T ∧ rdivP (20 * d) T ≤ d := by
  refine ⟨rdivP_nonneg (by omega) (by omega), ?_⟩
  have hm : 30 * d ≤ T * d := Int.mul_le_mul_of_nonneg_right hT hd
  have h1 := rdivP_err (a := 20 * d) (b := T) (by omega)
  generalize hq : rdivP (20 * d) T = q at h1 ⊢
  by_cases hc : q ≤ d
  · exact hc
  · have h2 : (d + 1) * T ≤ q * T := Int.mul_le_mul_of_nonneg_right (by omega) (by omega)
    rw [Int.add_mul, Int.mul_comm d T] at h2
    unfold absI at h1
    split at h1 <;> omega
theorem rdiv20n {T d : Int} (hT : 30 ≤ T) (hd : d ≤ 0) : d ≤ rdivP (20 * d) T ∧ rdivP (20 * d) T ≤ 0 := by
  by_cases h0 : d = 0
  · subst h0
    have := rdiv20 (d := 0) hT (by omega)
    omega
  · have h1 := rdiv20 (d := -d) hT (by omega)
    have h2 := rdivP_neg (a := 20 * -d) (b := T) (by omega) (by omega)
    rw [show -(20 * -d) = 20 * d by omega] at h2
    omega
theorem chg_up {e t m : Int} (ht : 10 ≤ t) (h : m ≤ e) : 0 ≤ chg e t m ∧ chg e t m ≤ e - m := rdiv20 (by omega) (by omega)
theorem chg_dn {e t m : Int} (ht : 10 ≤ t) (h : e ≤ m) : e - m ≤ chg e t m ∧ chg e t m ≤ 0 := rdiv20n (by omega) (by omega)
theorem aft_up {e t : Int} (ht : 10 ≤ t) : ∀ (n : Nat) {m : Int}, m ≤ e → m ≤ aft e t n m ∧ aft e t n m ≤ e
  | 0, m, h => ⟨Int.le_refl _, h⟩
  | n + 1, m, h => by
    have h1 := chg_up ht h
    have h2 := aft_up (e := e) ht n (m := stp e t m) (by unfold stp; omega)
    show m ≤ aft e t n (stp e t m) ∧ _
    unfold stp at h2 ⊢
    exact ⟨by omega, h2.2⟩
theorem aft_dn {e t : Int} (ht : 10 ≤ t) : ∀ (n : Nat) {m : Int}, e ≤ m → e ≤ aft e t n m ∧ aft e t n m ≤ m
  | 0, m, h => ⟨h, Int.le_refl _⟩
  | n + 1, m, h => by
    have h1 := chg_dn ht h
    have h2 := aft_dn (e := e) ht n (m := stp e t m) (by unfold stp; omega)
    show e ≤ aft e t n (stp e t m) ∧ aft e t n (stp e t m) ≤ m
    unfold stp at h2 ⊢
    exact ⟨h2.1, by omega⟩
theorem aft_rest {e t : Int} (n : Nat) {m : Int} (h : chg e t m = 0) : aft e t n m = m := by
  induction n with
  | zero => rfl
  | succ n ih => show aft e t n (stp e t m) = m; rw [show stp e t m = m by unfold stp; omega]; exact ih
theorem aft_bd {e t : Int} (ht : 10 ≤ t) (n : Nat) {m : Int} (he : 0 ≤ e ∧ e ≤ 1000) (hm : 0 ≤ m ∧ m ≤ 1000) : 0 ≤ aft e t n m ∧ aft e t n m ≤ 1000 := by
  by_cases h : m ≤ e
  · have := aft_up ht n h; omega
  · have := aft_dn ht n (show e ≤ m by omega); omega
theorem stackOk_iff {id : List UInt8} {m t s : Int} : stackOk (id, m, t, s, ()) = true ↔ isName id = true ∧ (0 ≤ m ∧ m ≤ 1000) ∧ (10 ≤ t ∧ t ≤ 1000) ∧ (0 ≤ s ∧ s ≤ 36524) := by
  simp [stackOk, inR_iff]
def moistP (id : List UInt8) (m t s h d : Int) : Int × Int :=
  if stackOk (id, m, t, s, ()) = true then if inR h 0 1000 = true ∧ inR d 0 4000 = true then (aft (evenP h) t d.toNat m, 0) else (0, 2) else (0, 1)

theorem impl_blend_ok (x0 y0 x1 y1 h : Int) (b1 : 0 ≤ x0 ∧ x0 ≤ 100000) (b2 : 0 ≤ y0 ∧ y0 ≤ 100000) (b3 : 0 ≤ x1 ∧ x1 ≤ 100000) (b4 : 0 ≤ y1 ∧ y1 ≤ 100000) (b5 : -100000 ≤ h ∧ h ≤ 100000) : impl_blend x0 y0 x1 y1 h = some (lineP x0 y0 x1 y1 h) := by
  rw [impl_blend_eq, lineP]
  simp only [decide_eq_true_eq]
  repeat' split
  all_goals first | rfl | skip
  have hm : -(100000 * 200000) ≤ (y1 - y0) * (h - x0) ∧ (y1 - y0) * (h - x0) ≤ 100000 * 200000 := by
    have p1 : 0 ≤ h - x0 ∧ h - x0 ≤ 200000 := by omega
    have q1 : (y1 - y0) * (h - x0) ≤ 100000 * (h - x0) := Int.mul_le_mul_of_nonneg_right (by omega) p1.1
    have q2 : (-100000) * (h - x0) ≤ (y1 - y0) * (h - x0) := Int.mul_le_mul_of_nonneg_right (by omega) p1.1
    omega
  rw [impl_blend_p0_eq, w64 (n := y1 - y0) (by omega) (by omega), w64 (n := h - x0) (by omega) (by omega), w64 (n := x1 - x0) (by omega) (by omega), w64 (n := (y1 - y0) * (h - x0)) (by omega) (by omega), impl_divRound_ok _ _ (by omega) (by omega), Option.bind_some]
  have := rdivP_bd (a := (y1 - y0) * (h - x0)) (b := x1 - x0) (m := 20000000000) (by omega) (by omega)
  rw [w64 (by omega) (by omega)]

theorem spec_l01Line_ok (x0 y0 x1 y1 h : Int) (b1 : 0 ≤ x0 ∧ x0 ≤ 100000) (b2 : 0 ≤ y0 ∧ y0 ≤ 100000) (b3 : 0 ≤ x1 ∧ x1 ≤ 100000) (b4 : 0 ≤ y1 ∧ y1 ≤ 100000) (b5 : -100000 ≤ h ∧ h ≤ 100000) : spec_l01Line x0 y0 x1 y1 h = some (lineP x0 y0 x1 y1 h) := by
  rw [spec_l01Line_eq, lineP]
  simp only [decide_eq_true_eq, spec_l01Line_p0_eq]
  repeat' split
  all_goals first | rfl | skip
  have hm : -(100000 * 200000) ≤ (y1 - y0) * (h - x0) ∧ (y1 - y0) * (h - x0) ≤ 100000 * 200000 := by
    have p1 : 0 ≤ h - x0 ∧ h - x0 ≤ 200000 := by omega
    have q1 : (y1 - y0) * (h - x0) ≤ 100000 * (h - x0) := Int.mul_le_mul_of_nonneg_right (by omega) p1.1
    have q2 : (-100000) * (h - x0) ≤ (y1 - y0) * (h - x0) := Int.mul_le_mul_of_nonneg_right (by omega) p1.1
    omega
  rw [w64 (n := y1 - y0) (by omega) (by omega), w64 (n := h - x0) (by omega) (by omega), w64 (n := x1 - x0) (by omega) (by omega), w64 (n := (y1 - y0) * (h - x0)) (by omega) (by omega), spec_l01Div_ok _ _ (by omega) (by omega), Option.bind_some]
  have := rdivP_bd (a := (y1 - y0) * (h - x0)) (b := x1 - x0) (m := 20000000000) (by omega) (by omega)
  rw [w64 (by omega) (by omega)]

theorem impl_even_p1_at (h : Int) (hh : 0 ≤ h ∧ h ≤ 1000) : impl_even_p1 h 1 0 0 300 60 600 110 800 160 1000 280 = some (lineP 0 0 300 60 h) ∧ impl_even_p1 h 2 0 0 300 60 600 110 800 160 1000 280 = some (lineP 300 60 600 110 h) ∧ impl_even_p1 h 3 0 0 300 60 600 110 800 160 1000 280 = some (lineP 600 110 800 160 h) ∧ impl_even_p1 h 4 0 0 300 60 600 110 800 160 1000 280 = some (lineP 800 160 1000 280 h) := by
  have e0 : IntKind.i64.wrap (1 - 1) = 0 := by decide
  have e1 : IntKind.i64.wrap (2 - 1) = 1 := by decide
  have e2 : IntKind.i64.wrap (3 - 1) = 2 := by decide
  have e3 : IntKind.i64.wrap (4 - 1) = 3 := by decide
  have i1 : ¬ (1 : Int) = 0 := by decide
  have i2 : ¬ (2 : Int) = 0 := by decide
  have i3 : ¬ (2 : Int) = 1 := by decide
  have i4 : ¬ (3 : Int) = 0 := by decide
  have i5 : ¬ (3 : Int) = 1 := by decide
  have i6 : ¬ (3 : Int) = 2 := by decide
  have i7 : ¬ (4 : Int) = 0 := by decide
  have i8 : ¬ (4 : Int) = 1 := by decide
  have i9 : ¬ (4 : Int) = 2 := by decide
  have i10 : ¬ (4 : Int) = 3 := by decide
  have i11 : ¬ (1 : Int) = 2 := by decide
  refine ⟨?_, ?_, ?_, ?_⟩
  · rw [impl_even_p1_eq]
    simp only [e0, i1, decide_true, decide_false, Bool.false_eq_true, if_true, if_false]
    rw [impl_blend_ok _ _ _ _ _ (by omega) (by omega) (by omega) (by omega) (by omega)]; rfl
  · rw [impl_even_p1_eq]
    simp only [e1, i1, i2, i3, decide_true, decide_false, Bool.false_eq_true, if_true, if_false]
    rw [impl_blend_ok _ _ _ _ _ (by omega) (by omega) (by omega) (by omega) (by omega)]; rfl
  · rw [impl_even_p1_eq]
    simp only [e2, i2, i3, i4, i5, i6, decide_true, decide_false, Bool.false_eq_true, if_true, if_false]
    rw [impl_blend_ok _ _ _ _ _ (by omega) (by omega) (by omega) (by omega) (by omega)]; rfl
  · rw [impl_even_p1_eq]
    simp only [e3, i4, i5, i6, i7, i8, i9, i10, decide_true, decide_false, Bool.false_eq_true, if_true, if_false]
    rw [impl_blend_ok _ _ _ _ _ (by omega) (by omega) (by omega) (by omega) (by omega)]; rfl
theorem impl_even_ok (h : Int) (hh : 0 ≤ h ∧ h ≤ 1000) : impl_even h = some (evenP h) := by
  obtain ⟨p1, p2, p3, p4⟩ := impl_even_p1_at h hh
  have e1 : IntKind.i64.wrap (1 + 1) = 2 := by decide
  have e2 : IntKind.i64.wrap (2 + 1) = 3 := by decide
  have e3 : IntKind.i64.wrap (3 + 1) = 4 := by decide
  have j1 : (1 : Int) < 4 := by decide
  have j2 : (2 : Int) < 4 := by decide
  have j3 : (3 : Int) < 4 := by decide
  have j4 : ¬ (4 : Int) < 4 := by decide
  have i1 : ¬ (1 : Int) = 0 := by decide
  have i2 : ¬ (2 : Int) = 0 := by decide
  have i3 : ¬ (2 : Int) = 1 := by decide
  have i4 : ¬ (3 : Int) = 0 := by decide
  have i5 : ¬ (3 : Int) = 1 := by decide
  have i6 : ¬ (3 : Int) = 2 := by decide
  rw [impl_even_eq, impl_even_p0_eq, evenP]
  simp only [e1, j1, i1, p1, decide_true, decide_false, Bool.false_eq_true, if_true, if_false, decide_eq_true_eq]
  by_cases c1 : h ≤ 300
  · rw [if_neg (by omega), if_pos c1]
  rw [if_pos (by omega), if_neg c1, impl_even_p0_eq]
  simp only [e2, j2, i2, i3, p2, decide_true, decide_false, Bool.false_eq_true, if_true, if_false, decide_eq_true_eq]
  by_cases c2 : h ≤ 600
  · rw [if_neg (by omega), if_pos c2]
  rw [if_pos (by omega), if_neg c2, impl_even_p0_eq]
  simp only [e3, j3, i4, i5, i6, p3, decide_true, decide_false, Bool.false_eq_true, if_true, if_false, decide_eq_true_eq]
  by_cases c3 : h ≤ 800
  · rw [if_neg (by omega), if_pos c3]
  rw [if_pos (by omega), if_neg c3, impl_even_p0_eq]
  simp only [j4, p4, decide_false, Bool.false_eq_true, if_false]

theorem spec_l04Even_ok (h : Int) (hh : 0 ≤ h ∧ h ≤ 1000) : spec_l04Even h = some (evenP h) := by
  have e0 : IntKind.i64.wrap 0 = 0 := by decide
  have e1 : IntKind.i64.wrap 1 = 1 := by decide
  have e2 : IntKind.i64.wrap 2 = 2 := by decide
  have e3 : IntKind.i64.wrap 3 = 3 := by decide
  have e4 : IntKind.i64.wrap 4 = 4 := by decide
  have go : ∀ x0 y0 x1 y1 : Int, 0 ≤ x0 ∧ x0 ≤ 100000 → 0 ≤ y0 ∧ y0 ≤ 100000 → 0 ≤ x1 ∧ x1 ≤ 100000 → 0 ≤ y1 ∧ y1 ≤ 100000 → spec_l01Line x0 y0 x1 y1 h = some (lineP x0 y0 x1 y1 h) := fun x0 y0 x1 y1 b1 b2 b3 b4 => spec_l01Line_ok x0 y0 x1 y1 h b1 b2 b3 b4 (by omega)
  rw [spec_l04Even_eq, spec_l04Even_p0_eq, evenP]
  by_cases c1 : h ≤ 300
  · rw [if_pos c1, ← Option.some.injEq, ← go 0 0 300 60 (by omega) (by omega) (by omega) (by omega)]
    simp [e0, e1, c1]
  rw [if_neg c1]
  simp [c1, e2]
  rw [spec_l04Even_p0_eq]
  by_cases c2 : h ≤ 600
  · rw [if_pos c2, ← go 300 60 600 110 (by omega) (by omega) (by omega) (by omega)]
    simp [e1, e2, c2]
  rw [if_neg c2]
  simp [c2, e1, e2, e3]
  rw [spec_l04Even_p0_eq]
  by_cases c3 : h ≤ 800
  · rw [if_pos c3, ← go 600 110 800 160 (by omega) (by omega) (by omega) (by omega)]
    simp [e2, e3, c3]
  rw [if_neg c3]
  simp [c3, e2, e3, e4]
  rw [spec_l04Even_p0_eq, ← go 800 160 1000 280 (by omega) (by omega) (by omega) (by omega)]
  simp [e3, e4, hh.2]

theorem impl_change_ok (m e t : Int) (hm : 0 ≤ m ∧ m ≤ 1000) (he : 0 ≤ e ∧ e ≤ 1000) (ht : 10 ≤ t ∧ t ≤ 1000) : impl_change m e t = some (chg e t m) := by
  rw [impl_change_eq, w64 (n := e - m) (by omega) (by omega), w64 (n := 20 * (e - m)) (by omega) (by omega), w64 (n := t + 20) (by omega) (by omega), impl_divRound_ok _ _ (by omega) (by omega)]
  rfl

theorem spec_l04Change_ok (m e t : Int) (hm : 0 ≤ m ∧ m ≤ 1000) (he : 0 ≤ e ∧ e ≤ 1000) (ht : 10 ≤ t ∧ t ≤ 1000) : spec_l04Change m e t = some (chg e t m) := by
  rw [spec_l04Change_eq, w64 (n := e - m) (by omega) (by omega), w64 (n := 20 * (e - m)) (by omega) (by omega), w64 (n := t + 20) (by omega) (by omega), spec_l01Div_ok _ _ (by omega) (by omega)]
  rfl

theorem impl_after_p0_ok (e t d : Int) (id : List UInt8) (m0 s : Int) (he : 0 ≤ e ∧ e ≤ 1000) (ht : 10 ≤ t ∧ t ≤ 1000) (hd : 0 ≤ d ∧ d ≤ 4000) : ∀ (k : Nat) (i m : Int), 0 ≤ i → i + k = d → 0 ≤ m ∧ m ≤ 1000 → impl_Stack_after_p0 e m d i id m0 t s = some (aft e t k m)
  | 0, i, m, hi, hk, hm => by
    rw [impl_Stack_after_p0_eq]
    have : ¬ i < d := by omega
    simp [this, aft]
  | k + 1, i, m, hi, hk, hm => by
    rw [impl_Stack_after_p0_eq]
    have h1 : i < d := by omega
    have h2 := aft_bd ht.1 1 he hm
    have h2 : 0 ≤ m + chg e t m ∧ m + chg e t m ≤ 1000 := h2
    simp only [h1, decide_true, if_true, impl_change_ok m e t hm he ht, Option.bind_some]
    by_cases h0 : chg e t m = 0
    · have h3 := aft_rest (k + 1) h0
      simp [h0, h3]
    · simp only [beq_iff_eq, h0, if_false]
      rw [w64 (n := m + chg e t m) (by omega) (by omega), w64 (n := i + 1) (by omega) (by omega)]
      exact impl_after_p0_ok e t d id m0 s he ht hd k (i + 1) _ (by omega) (by omega) h2
theorem impl_after_ok (id : List UInt8) (m t s h d : Int) (hm : 0 ≤ m ∧ m ≤ 1000) (ht : 10 ≤ t ∧ t ≤ 1000) (hh : 0 ≤ h ∧ h ≤ 1000) (hd : 0 ≤ d ∧ d ≤ 4000) : impl_Stack_after (id, m, t, s, ()) h d = some (aft (evenP h) t d.toNat m) := by
  have he := evenP_bd hh
  rw [impl_Stack_after_eq, impl_even_ok h hh, Option.bind_some]
  exact impl_after_p0_ok (evenP h) t d id m s (by omega) ht hd d.toNat 0 m (by omega) (by omega) hm

theorem spec_l04After_p0_ok (e t d : Int) (he : 0 ≤ e ∧ e ≤ 1000) (ht : 10 ≤ t ∧ t ≤ 1000) (hd : 0 ≤ d ∧ d ≤ 4000) : ∀ (k : Nat) (i m : Int), 0 ≤ i → i + k = d → 0 ≤ m ∧ m ≤ 1000 → spec_l04After_p0 m e t d i = some (aft e t k m)
  | 0, i, m, hi, hk, hm => by
    rw [spec_l04After_p0_eq]
    have : ¬ i < d := by omega
    simp [this, aft]
  | k + 1, i, m, hi, hk, hm => by
    rw [spec_l04After_p0_eq]
    have h1 : i < d := by omega
    have h2 := aft_bd ht.1 1 he hm
    have h2 : 0 ≤ m + chg e t m ∧ m + chg e t m ≤ 1000 := h2
    simp only [h1, decide_true, if_true, spec_l04Change_ok m e t hm he ht, Option.bind_some]
    by_cases h0 : chg e t m = 0
    · have h3 := aft_rest (k + 1) h0
      simp [h0, h3]
    · simp only [beq_iff_eq, h0, if_false]
      rw [w64 (n := m + chg e t m) (by omega) (by omega), w64 (n := i + 1) (by omega) (by omega)]
      exact spec_l04After_p0_ok e t d he ht hd k (i + 1) _ (by omega) (by omega) h2
theorem spec_l04After_ok (m e t d : Int) (hm : 0 ≤ m ∧ m ≤ 1000) (ht : 10 ≤ t ∧ t ≤ 1000) (he : 0 ≤ e ∧ e ≤ 1000) (hd : 0 ≤ d ∧ d ≤ 4000) : spec_l04After m e t d = some (aft e t d.toNat m) := by
  rw [spec_l04After_eq]
  exact spec_l04After_p0_ok e t d he ht hd d.toNat 0 m (by omega) (by omega) hm

theorem spec_MoistureAfter_ok (id : List UInt8) (m t s h d : Int) (h0 : id.length < 4611686018427387904) : spec_MoistureAfter (id, m, t, s, ()) h d = some (moistP id m t s h d) := by
  rw [spec_MoistureAfter_eq, spec_l04One_ok _ h0, moistP]
  simp only [Option.bind_some, spec_l04Share_eq, spec_l04Days_eq, spec_l00In_ok, spec_MoistureAfter_p0_eq]
  cases hv : stackOk (id, m, t, s, ())
  · simp
  cases hh : inR h 0 1000
  · simp
  cases hd : inR d 0 4000
  · simp
  have k1 := stackOk_iff.1 hv
  rw [inR_iff] at hh hd
  have he := evenP_bd hh
  simp [spec_l04Even_ok h hh, spec_l04After_ok m (evenP h) t d k1.2.1 k1.2.2.1 (by omega) hd]

theorem spec_l04DrawOne_ok {s : T_l00Src.ty} {c : Int} (hs : SrcOk s c) (hc : c ≤ 100000) (id : List UInt8) : ∃ (m t n : Int) (s' : T_l00Src.ty), spec_l04DrawOne s id = some ((id, m, t, n, ()), s') ∧ SrcOk s' (c + 6) := by
  obtain ⟨u1, s1, e1, k1, _⟩ := pick_ok hs (by omega) 120 (by omega)
  obtain ⟨u2, s2, e2, k2, _⟩ := pick_ok k1 (by omega) 50 (by omega)
  obtain ⟨u3, s3, e3, k3, _⟩ := pick_ok k2 (by omega) 900 (by omega)
  rw [spec_l04DrawOne_eq]
  simp only [e1, e2, e3, Option.bind_some, src_eta]
  exact ⟨_, _, _, s3, rfl, k3.up (by omega)⟩

theorem spec_l04Bent_ok {s : T_l00Src.ty} {c : Int} (hs : SrcOk s c) (hc : c ≤ 100000) (id : List UInt8) (m t n : Int) : ∃ (m' t' n' : Int) (s' : T_l00Src.ty), spec_l04Bent s (id, m, t, n, ()) = some ((id, m', t', n', ()), s') ∧ SrcOk s' (c + 4) := by
  obtain ⟨u1, s1, e1, k1, _⟩ := pick_ok hs (by omega) 20 (by omega)
  rw [spec_l04Bent_eq]
  simp only [e1, Option.bind_some, src_eta]
  split
  · obtain ⟨v, s2, e2, k2, _⟩ := among_ok k1 (by omega) [(-1), 0, 1000, 1001] (by decide) (by decide)
    simp only [e2, Option.bind_some, src_eta]
    exact ⟨_, _, _, s2, rfl, k2.up (by omega)⟩
  split
  · obtain ⟨v, s2, e2, k2, _⟩ := among_ok k1 (by omega) [9, 10, 1000, 1001] (by decide) (by decide)
    simp only [e2, Option.bind_some, src_eta]
    exact ⟨_, _, _, s2, rfl, k2.up (by omega)⟩
  split
  · obtain ⟨v, s2, e2, k2, _⟩ := among_ok k1 (by omega) [(-1), 0, 36524, 36525] (by decide) (by decide)
    simp only [e2, Option.bind_some, src_eta]
    exact ⟨_, _, _, s2, rfl, k2.up (by omega)⟩
  · exact ⟨_, _, _, s1, rfl, k1.up (by omega)⟩

theorem spec_l04DrawShare_ok {s : T_l00Src.ty} {c : Int} (hs : SrcOk s c) (hc : c ≤ 100000) : ∃ (u : Int) (s' : T_l00Src.ty), spec_l04DrawShare s = some (u, s') ∧ SrcOk s' (c + 4) := by
  obtain ⟨b, s1, e1, k1⟩ := one_ok hs (by omega) 9 (by omega)
  rw [spec_l04DrawShare_eq]
  simp only [e1, Option.bind_some, src_eta]
  split
  · obtain ⟨v, s2, e2, k2, _⟩ := among_ok k1 (by omega) [(-1), 0, 1000, 1001] (by decide) (by decide)
    simp only [e2, Option.bind_some, src_eta]
    exact ⟨_, s2, rfl, k2.up (by omega)⟩
  · obtain ⟨v, s2, e2, k2, _⟩ := pick_ok k1 (by omega) 100 (by omega)
    simp only [e2, Option.bind_some, src_eta]
    exact ⟨_, s2, rfl, k2.up (by omega)⟩

theorem spec_l04DrawGoal_ok {s : T_l00Src.ty} {c : Int} (hs : SrcOk s c) (hc : c ≤ 100000) : ∃ (u : Int) (s' : T_l00Src.ty), spec_l04DrawGoal s = some (u, s') ∧ SrcOk s' (c + 4) := by
  obtain ⟨b, s1, e1, k1⟩ := one_ok hs (by omega) 9 (by omega)
  rw [spec_l04DrawGoal_eq]
  simp only [e1, Option.bind_some, src_eta]
  split
  · obtain ⟨v, s2, e2, k2, _⟩ := among_ok k1 (by omega) [(-1), 0, 1000, 1001] (by decide) (by decide)
    simp only [e2, Option.bind_some, src_eta]
    exact ⟨_, s2, rfl, k2.up (by omega)⟩
  · obtain ⟨v, s2, e2, k2, _⟩ := pick_ok k1 (by omega) 50 (by omega)
    simp only [e2, Option.bind_some, src_eta]
    exact ⟨_, s2, rfl, k2.up (by omega)⟩

end Go.Ab.P
