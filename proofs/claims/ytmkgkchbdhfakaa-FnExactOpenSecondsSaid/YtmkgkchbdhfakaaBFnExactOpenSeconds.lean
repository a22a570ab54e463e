/- Lemmas on functions of the program. Conditions: told in each. -/
import Derived.Test.YtmkgkchbdhfakaaPFnExactOpenSeconds
set_option linter.unusedVariables false
set_option linter.unusedSimpArgs false
namespace Go.Ab.P
open Go.Ab
theorem wsucc {i : Nat} (h : i < 4611686018427387904) : IntKind.i64.wrap ((i : Int) + 1) = ((i + 1 : Nat) : Int) := by
  rw [w64 (by omega) (by omega)]; omega
theorem ite_both {α : Type} {c : Prop} [Decidable c] (a b : α) (h : c → a = b) : (if c then a else b) = b := by
  split
  · exact h ‹_›
  · rfl
theorem getElem?_lt {α : Type} {l : List α} {i : Nat} (h : i < l.length) : l[i]? = some l[i] := List.getElem?_eq_getElem h
theorem drop_cons {α : Type} {l : List α} {i : Nat} (h : i < l.length) : l.drop i = l[i] :: l.drop (i + 1) := List.drop_eq_getElem_cons h
/-- The nearest quotient, halves away from 0. -/
def rdivP (a b : Int) : Int := if a < 0 then -((b - 2 * a) / (2 * b)) else (2 * a + b) / (2 * b)
def rdiv (a b : Int) : Int := if b < 0 then rdivP (-a) (-b) else rdivP a b
theorem rdivP_eq {a b : Int} (ha : 0 ≤ a) (hb : 0 < b) : rdivP a b = a / b + if b - a % b ≤ a % b then 1 else 0 := by
  have h1 := Int.mul_ediv_add_emod a b
  have h2 := Int.emod_nonneg a (show b ≠ 0 by omega)
  have h3 := Int.emod_lt_of_pos a hb
  unfold rdivP
  rw [if_neg (by omega)]
  generalize a / b = q at h1 ⊢
  generalize a % b = r at h1 h2 h3 ⊢
  have key : ∀ t s : Int, 0 ≤ s → s < 2 * b → 2 * a + b = s + 2 * b * t → (2 * a + b) / (2 * b) = t := fun t s hs0 hs1 he => by
    rw [he, Int.add_mul_ediv_left s t (show 2 * b ≠ 0 by omega), Int.ediv_eq_zero_of_lt hs0 hs1]; omega
  have e : 2 * b * q = 2 * (b * q) := Int.mul_assoc 2 b q
  split
  · refine key (q + 1) (2 * r - b) (by omega) (by omega) ?_
    rw [Int.mul_add, e]; omega
  · rw [Int.add_zero]
    refine key q (2 * r + b) (by omega) (by omega) ?_
    rw [e]; omega
theorem rdivP_neg {a b : Int} (ha : 0 < a) (hb : 0 < b) : rdivP (-a) b = -rdivP a b := by
  unfold rdivP
  rw [if_pos (by omega), if_neg (by omega)]
  congr 2; omega
theorem rdivP_nonneg {a b : Int} (ha : 0 ≤ a) (hb : 0 < b) : 0 ≤ rdivP a b := by
  unfold rdivP
  rw [if_neg (by omega)]
  exact Int.ediv_nonneg (by omega) (by omega)
theorem rdivP_le {a b : Int} (ha : 0 ≤ a) (hb : 0 < b) : rdivP a b ≤ a + 1 := by
  rw [rdivP_eq ha hb]
  have := Int.ediv_le_self b ha
  split <;> omega
theorem rdivP_mono {a a' b : Int} (ha : 0 ≤ a) (h : a ≤ a') (hb : 0 < b) : rdivP a b ≤ rdivP a' b := by
  unfold rdivP
  rw [if_neg (by omega), if_neg (by omega)]
  exact Int.ediv_le_ediv (by omega) (by omega)
theorem tdiv_nonneg_eq {a b : Int} (ha : 0 ≤ a) : a.tdiv b = a / b := Int.tdiv_eq_ediv_of_nonneg ha
theorem tmod_nonneg_eq {a b : Int} (ha : 0 ≤ a) : a.tmod b = a % b := Int.tmod_eq_emod_of_nonneg ha
def small (c : UInt8) : Bool := decide (97 ≤ (c.toNat : Int)) && decide ((c.toNat : Int) ≤ 122)
def digit (c : UInt8) : Bool := decide (48 ≤ (c.toNat : Int)) && decide ((c.toNat : Int) ≤ 57)
def isName (s : List UInt8) : Bool := match s with | [] => false | c :: r => small c && r.all (fun c => small c || digit c) && decide (s.length ≤ 10)
def inR (n lo hi : Int) : Bool := decide (lo ≤ n) && decide (n ≤ hi)
theorem impl_within_ok (n lo hi : Int) : impl_within n lo hi = some (inR n lo hi) := by
  rw [impl_within_eq, inR]; by_cases h : lo ≤ n <;> simp [h]
theorem spec_l00In_ok (n lo hi : Int) : spec_l00In n lo hi = some (inR n lo hi) := by
  rw [spec_l00In_eq, inR]; by_cases h : lo ≤ n <;> simp [h]
theorem spec_l00Max_ok (a b : Int) : spec_l00Max a b = some (if b > a then b else a) := by
  rw [spec_l00Max_eq]; simp only [decide_eq_true_eq]; repeat' split
  all_goals first | rfl | (congr 1; omega)
theorem spec_l01Small_ok (c : UInt8) : spec_l01Small (c.toNat : Int) = some (small c) := by
  rw [spec_l01Small_eq, small]; by_cases h : 97 ≤ (c.toNat : Int) <;> simp [h]
theorem spec_l01Digit_ok (c : UInt8) : spec_l01Digit (c.toNat : Int) = some (digit c) := by
  rw [spec_l01Digit_eq, digit]; by_cases h : 48 ≤ (c.toNat : Int) <;> simp [h]
theorem impl_isDigit_ok (c : UInt8) : impl_isDigit (c.toNat : Int) = some (digit c) := by
  rw [impl_isDigit_eq, digit]; by_cases h : 48 ≤ (c.toNat : Int) <;> simp [h]
theorem spec_l01Name_p1_ok (s : List UInt8) (hs : s.length < 4611686018427387904) : ∀ (k i : Nat), i + k = s.length → spec_l01Name_p1 s i = some ((s.drop i).all fun c => small c || digit c)
  | 0, i, h => by
    rw [spec_l01Name_p1_eq, List.drop_eq_nil_of_le (by omega)]
    simp; omega
  | k + 1, i, h => by
    have hi : i < s.length := by omega
    rw [spec_l01Name_p1_eq, drop_cons hi]
    have h1 : (i : Int) < (s.length : Int) := by omega
    simp only [h1, decide_true, if_true, Int.natCast_nonneg, Int.toNat_natCast, getElem?_lt hi, Option.bind_some, spec_l01Small_ok, spec_l01Digit_ok, wsucc (show i < 4611686018427387904 by omega), spec_l01Name_p1_ok s hs k (i + 1) (by omega), List.all_cons]
    cases small s[i] <;> cases digit s[i] <;> simp
theorem spec_l01Name_ok (s : List UInt8) (hs : s.length < 4611686018427387904) : spec_l01Name s = some (isName s) := by
  rw [spec_l01Name_eq]
  cases s with
  | nil => rfl
  | cons c r =>
    have := spec_l01Name_p1_ok (c :: r) hs (r.length + 1) 0 (by simp)
    simp only [spec_l01Name_p0_eq, List.getElem?_cons_zero, Option.bind_some, spec_l01Small_ok]
    rw [show ((0 : Nat) : Int) = 0 from rfl] at this
    rw [this, isName]
    have e0 : ((c :: r) == ([] : List UInt8)) = false := by simp
    by_cases hl : ((c :: r).length : Int) > 10
    · have : ¬ (c :: r).length ≤ 10 := by omega
      simp only [e0, hl, this, decide_true, decide_false, if_true, Bool.false_eq_true, if_false, Bool.and_false]
    · have : (c :: r).length ≤ 10 := by omega
      simp only [e0, hl, this, decide_true, decide_false, if_true, Bool.false_eq_true, if_false, Bool.and_true]
      cases hc : small c <;> simp [hc]
def okFrom : Nat → List UInt8 → Bool
  | _, [] => true
  | i, c :: r => (small c || (i != 0 && digit c)) && okFrom (i + 1) r
theorem okFrom_all (r : List UInt8) : ∀ i, okFrom (i + 1) r = r.all fun c => small c || digit c := by
  induction r with
  | nil => intro i; rfl
  | cons c r ih => intro i; simp [okFrom, ih]
theorem impl_IsName_p0_ok (s : List UInt8) (hs : s.length < 4611686018427387904) : ∀ (k i : Nat), i + k = s.length → impl_IsName_p0 s i = some (okFrom i (s.drop i) && (!(s == []) && decide (s.length ≤ 10)))
  | 0, i, h => by
    rw [impl_IsName_p0_eq, List.drop_eq_nil_of_le (by omega), impl_few_eq]
    have h1 : ¬ (i : Int) < (s.length : Int) := by omega
    simp only [h1, decide_false, Bool.false_eq_true, if_false, okFrom, Option.bind_some, Bool.true_and]
    cases s with
    | nil => rfl
    | cons c r =>
      have : ((c :: r == []) = false) := by simp
      simp only [this, Bool.not_false, if_true, Bool.true_and]
      congr 1
      simp only [decide_eq_decide]; omega
  | k + 1, i, h => by
    have hi : i < s.length := by omega
    have h1 : (i : Int) < (s.length : Int) := by omega
    have ih := impl_IsName_p0_ok s hs k (i + 1) (by omega)
    have e1 : ∀ b : Bool, impl_IsName_p1 s i b = some (((b || (i != 0 && digit s[i])) && okFrom (i + 1) (s.drop (i + 1))) && (!(s == []) && decide (s.length ≤ 10))) := by
      intro b
      rw [impl_IsName_p1_eq]
      simp only [Int.natCast_nonneg, decide_true, if_true, Int.toNat_natCast, getElem?_lt hi, Option.bind_some, impl_isDigit_ok, wsucc (show i < 4611686018427387904 by omega), ih]
      cases b
      · by_cases h0 : i = 0
        · subst h0; simp
        · have : ((i : Int) == 0) = false := by simp [h0]
          have : (i != 0) = true := by simp [h0]
          simp only [*]
          cases digit s[i] <;> simp
      · simp
    rw [impl_IsName_p0_eq, drop_cons hi, okFrom]
    simp only [h1, decide_true, if_true, Int.natCast_nonneg, Int.toNat_natCast, getElem?_lt hi, Option.bind_some, e1, small]
    by_cases h97 : (s[i].toNat : Int) ≥ 97 <;> simp [h97]
theorem impl_IsName_ok (s : List UInt8) (hs : s.length < 4611686018427387904) : impl_IsName s = some (isName s) := by
  rw [impl_IsName_eq]
  have := impl_IsName_p0_ok s hs s.length 0 (by simp)
  rw [show ((0 : Nat) : Int) = 0 from rfl] at this
  rw [this]
  cases s with
  | nil => rfl
  | cons c r => simp [okFrom, okFrom_all, isName]
theorem impl_divRound_ok (a b : Int) (ha : -2000000000000000000 ≤ a ∧ a ≤ 2000000000000000000) (hb : 0 < b ∧ b ≤ 2000000000000000000) : impl_divRound a b = some (rdivP a b) := by
  rw [impl_divRound_eq]
  have e1 : IntKind.i64.wrap (0 - b) = -b := by rw [w64 (by omega) (by omega)]; omega
  have e2 : IntKind.i64.wrap (0 - a) = -a := by rw [w64 (by omega) (by omega)]; omega
  have e3 : (if -b > b then -b else b) = b := by rw [if_neg (by omega)]
  have hb0 : ¬ b = 0 := by omega
  have hbn : ¬ b < 0 := by omega
  simp only [e1, e2, e3, hb0, hbn, decide_false, Bool.false_eq_true, if_false]
  have main : ∀ x : Int, 0 ≤ x → x ≤ 2000000000000000000 → x.tmod b = x % b ∧ x.tdiv b = x / b ∧ 0 ≤ x % b ∧ x % b < b ∧ 0 ≤ x / b ∧ x / b ≤ x := fun x h0 h1 =>
    ⟨tmod_nonneg_eq h0, tdiv_nonneg_eq h0, Int.emod_nonneg _ (by omega), Int.emod_lt_of_pos _ hb.1, Int.ediv_nonneg h0 (by omega), Int.ediv_le_self b h0⟩
  by_cases hneg : a < 0
  · have e4 : (if -a > a then -a else a) = -a := by rw [if_pos (by omega)]
    obtain ⟨m1, m2, m3, m4, m5, m6⟩ := main (-a) (by omega) (by omega)
    have e5 : rdivP a b = -rdivP (-a) b := by rw [← rdivP_neg (show 0 < -a by omega) hb.1]; congr 1; omega
    rw [e5, rdivP_eq (show 0 ≤ -a by omega) hb.1]
    simp only [e4, hneg, m1, m2, decide_true, Bool.true_beq, Bool.not_false, if_true]
    rw [w64 (n := b - -a % b) (by omega) (by omega), w64 (n := -a / b) (by omega) (by omega), w64 (n := -a / b + 1) (by omega) (by omega), w64 (n := 0 - (-a / b + 1)) (by omega) (by omega), w64 (n := 0 - -a / b) (by omega) (by omega)]
    simp only [decide_eq_true_eq, ge_iff_le]
    split
    · congr 1; omega
    · congr 1; omega
  · have e4 : (if -a > a then -a else a) = a := by rw [if_neg (by omega)]
    obtain ⟨m1, m2, m3, m4, m5, m6⟩ := main a (by omega) (by omega)
    rw [rdivP_eq (show 0 ≤ a by omega) hb.1]
    simp only [e4, hneg, m1, m2, decide_false, beq_self_eq_true, Bool.not_true, Bool.false_eq_true, if_false]
    rw [w64 (n := b - a % b) (by omega) (by omega), w64 (n := a / b) (by omega) (by omega), w64 (n := a / b + 1) (by omega) (by omega)]
    simp only [decide_eq_true_eq, ge_iff_le]
    split
    · rfl
    · congr 1; omega
theorem spec_l01Div_ok (a b : Int) (ha : -2000000000000000000 ≤ a ∧ a ≤ 2000000000000000000) (hb : 0 < b ∧ b ≤ 2000000000000000000) : spec_l01Div a b = some (rdivP a b) := by
  have hbn : ¬ b < 0 := by omega
  rw [spec_l01Div_eq, rdivP]
  simp only [hbn, decide_false, Bool.false_eq_true, if_false]
  rw [spec_l01Div_p0_eq, w64 (n := 2 * b) (by omega) (by omega), w64 (n := 2 * a) (by omega) (by omega)]
  have hb0 : ¬ 2 * b = 0 := by omega
  simp only [hb0, decide_false, Bool.false_eq_true, if_false]
  by_cases hneg : a < 0
  · simp only [hneg, decide_true, if_true]
    rw [w64 (n := b - 2 * a) (by omega) (by omega), tdiv_nonneg_eq (by omega)]
    have h1 : 0 ≤ (b - 2 * a) / (2 * b) := Int.ediv_nonneg (by omega) (by omega)
    have h2 : (b - 2 * a) / (2 * b) ≤ b - 2 * a := Int.ediv_le_self _ (by omega)
    rw [w64 (n := (b - 2 * a) / (2 * b)) (by omega) (by omega), w64 (by omega) (by omega)]
    congr 1; omega
  · simp only [hneg, decide_false, Bool.false_eq_true, if_false]
    rw [w64 (n := 2 * a + b) (by omega) (by omega), tdiv_nonneg_eq (by omega)]
    have h1 : 0 ≤ (2 * a + b) / (2 * b) := Int.ediv_nonneg (by omega) (by omega)
    have h2 : (2 * a + b) / (2 * b) ≤ 2 * a + b := Int.ediv_le_self _ (by omega)
    rw [w64 (n := (2 * a + b) / (2 * b)) (by omega) (by omega)]
def potOk (id : List UInt8) (dry water heat hours : Int) : Bool :=
  isName id && (inR dry 1 10000 && (inR water 1 10000 && (inR heat 20 95 && inR hours 0 1000)))
def potOpen (dry water heat room : Int) : Int := if rdivP (60 * water) dry + 2 * (room - 15) + heat - 60 > 0 then rdivP (60 * water) dry + 2 * (room - 15) + heat - 60 else 0
theorem inR_iff {n lo hi : Int} : inR n lo hi = true ↔ lo ≤ n ∧ n ≤ hi := by simp [inR]
theorem potOk_iff {id : List UInt8} {dry water heat hours : Int} : potOk id dry water heat hours = true ↔ isName id = true ∧ (1 ≤ dry ∧ dry ≤ 10000) ∧ (1 ≤ water ∧ water ≤ 10000) ∧ (20 ≤ heat ∧ heat ≤ 95) ∧ 0 ≤ hours ∧ hours ≤ 1000 := by
  simp [potOk, inR_iff]
theorem open_bounds {dry water : Int} (h1 : 1 ≤ dry) (h2 : 0 ≤ water ∧ water ≤ 100000) : 0 ≤ rdivP (60 * water) dry ∧ rdivP (60 * water) dry ≤ 6000001 := by
  have := rdivP_nonneg (a := 60 * water) (b := dry) (by omega) (by omega)
  have := rdivP_le (a := 60 * water) (b := dry) (by omega) (by omega)
  omega
theorem potOpen_bounds {dry water heat room : Int} (h1 : 1 ≤ dry) (h2 : 0 ≤ water ∧ water ≤ 100000) (h3 : 20 ≤ heat ∧ heat ≤ 95) (h4 : 0 ≤ room ∧ room ≤ 40) : 0 ≤ potOpen dry water heat room ∧ potOpen dry water heat room ≤ 7000000 := by
  have := open_bounds h1 h2
  unfold potOpen
  split <;> omega
theorem spec_l14One_ok (id : List UInt8) (dry water heat hours : Int) (hs : id.length < 4611686018427387904) : spec_l14One (id, dry, water, heat, hours, ()) = some (potOk id dry water heat hours) := by
  rw [spec_l14One_eq, potOk]
  simp only [spec_l01Name_ok id hs, spec_l14Grams_eq, spec_l14Heat_eq, spec_l00In_ok, Option.bind_some]
  cases isName id <;> cases inR dry 1 10000 <;> cases inR water 1 10000 <;> cases inR heat 20 95 <;> simp
theorem impl_Pot_valid_ok (id : List UInt8) (dry water heat hours : Int) (hs : id.length < 4611686018427387904) : impl_Pot_valid (id, dry, water, heat, hours, ()) = some (potOk id dry water heat hours) := by
  rw [impl_Pot_valid_eq, potOk]
  simp only [impl_IsName_ok id hs, impl_isGrams_eq, impl_isHeat_eq, impl_within_ok, Option.bind_some]
  cases isName id <;> cases inR dry 1 10000 <;> cases inR water 1 10000 <;> cases inR heat 20 95 <;> simp
theorem spec_l14Open_ok (id : List UInt8) (dry water heat hours room : Int) (h1 : 1 ≤ dry ∧ dry ≤ 10000) (h2 : 0 ≤ water ∧ water ≤ 100000) (h3 : 20 ≤ heat ∧ heat ≤ 95) (h4 : 0 ≤ room ∧ room ≤ 40) :
    spec_l14Open (id, dry, water, heat, hours, ()) room = some (potOpen dry water heat room) := by
  have hb := open_bounds h1.1 h2
  rw [spec_l14Open_eq]
  simp only
  rw [w64 (n := 60 * water) (by omega) (by omega), spec_l01Div_ok _ _ (by omega) (by omega), Option.bind_some, spec_l00Max_ok, Option.bind_some]
  rw [w64 (n := room - 15) (by omega) (by omega), w64 (n := 2 * (room - 15)) (by omega) (by omega), w64 (n := rdivP (60 * water) dry + 2 * (room - 15)) (by omega) (by omega),
    w64 (n := rdivP (60 * water) dry + 2 * (room - 15) + heat) (by omega) (by omega), w64 (n := rdivP (60 * water) dry + 2 * (room - 15) + heat - 60) (by omega) (by omega)]
  rfl
theorem impl_Pot_open_ok (id : List UInt8) (dry water heat hours room : Int) (h1 : 1 ≤ dry ∧ dry ≤ 10000) (h2 : 0 ≤ water ∧ water ≤ 100000) (h3 : 20 ≤ heat ∧ heat ≤ 95) (h4 : 0 ≤ room ∧ room ≤ 40) :
    impl_Pot_open (id, dry, water, heat, hours, ()) room = some (potOpen dry water heat room) := by
  have hb := open_bounds h1.1 h2
  rw [impl_Pot_open_eq]
  simp only
  rw [w64 (n := 60 * water) (by omega) (by omega), impl_divRound_ok _ _ (by omega) (by omega), Option.bind_some]
  rw [w64 (n := room - 15) (by omega) (by omega), w64 (n := 2 * (room - 15)) (by omega) (by omega), w64 (n := rdivP (60 * water) dry + 2 * (room - 15)) (by omega) (by omega),
    w64 (n := rdivP (60 * water) dry + 2 * (room - 15) + heat) (by omega) (by omega), w64 (n := rdivP (60 * water) dry + 2 * (room - 15) + heat - 60) (by omega) (by omega)]
  rfl
theorem spec_OpenSeconds_ok (id : List UInt8) (dry water heat hours room : Int) (hs : id.length < 4611686018427387904) :
    spec_OpenSeconds (id, dry, water, heat, hours, ()) room = some (if potOk id dry water heat hours then (if inR room 0 40 then (potOpen dry water heat room, 0) else (0, 2)) else (0, 1)) := by
  rw [spec_OpenSeconds_eq, spec_l14One_ok _ _ _ _ _ hs, Option.bind_some, spec_l14Room_eq, spec_l00In_ok]
  cases h : potOk id dry water heat hours
  · simp
  · have hp := potOk_iff.1 h
    cases hr : inR room 0 40
    · simp
    · have hq := inR_iff.1 hr
      rw [spec_l14Open_ok _ _ _ _ _ _ (by omega) (by omega) (by omega) (by omega)]; simp
theorem impl_OpenSeconds_ok (id : List UInt8) (dry water heat hours room : Int) (hs : id.length < 4611686018427387904) :
    impl_OpenSeconds (id, dry, water, heat, hours, ()) room = some (if potOk id dry water heat hours then (if inR room 0 40 then (potOpen dry water heat room, 0) else (0, 2)) else (0, 1)) := by
  rw [impl_OpenSeconds_eq, impl_Pot_valid_ok _ _ _ _ _ hs, Option.bind_some, impl_isRoom_eq, impl_within_ok]
  cases h : potOk id dry water heat hours
  · simp
  · have hp := potOk_iff.1 h
    cases hr : inR room 0 40
    · simp
    · have hq := inR_iff.1 hr
      rw [impl_Pot_open_ok _ _ _ _ _ _ (by omega) (by omega) (by omega) (by omega)]; simp
theorem potOpen_mono {dry water water' heat room : Int} (h1 : 1 ≤ dry) (h2 : 0 ≤ water) (h : water ≤ water') : potOpen dry water heat room ≤ potOpen dry water' heat room := by
  have := rdivP_mono (a := 60 * water) (a' := 60 * water') (b := dry) (by omega) (by omega) (by omega)
  unfold potOpen
  split <;> split <;> omega
end Go.Ab.P
