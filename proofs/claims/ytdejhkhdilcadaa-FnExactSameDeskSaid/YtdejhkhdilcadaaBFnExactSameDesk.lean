/- Lemmas on functions of the program. Conditions: told in each. -/
import Derived.Test.YtdejhkhdilcadaaPFnExactSameDesk
set_option linter.unusedVariables false
set_option linter.unusedSimpArgs false
namespace Go.Ab.P
open Go.Ab
/-- The sizes of a list's elements: what is left. -/
theorem szLoop {α : Type} {P : α → Prop} (xs : List α) (sz1 : α → Int → Option Int) (p0 : List α → Int → Int → Option Int)
    (heq : ∀ (l i : Int), p0 xs l i = if decide (i < (xs.length : Int)) then (if decide (0 ≤ i) then (xs[i.toNat]?).bind fun x1 => (sz1 x1 l).bind fun x2 => if decide (x2 < 0) then some (-1) else p0 xs x2 (IntKind.i64.wrap (i + 1)) else none) else some l)
    (hs : xs.length ≤ 1048576) (h1 : ∀ x, x ∈ xs → ∀ l : Int, 0 ≤ l → l ≤ 1048576 → ∃ n, sz1 x l = some n ∧ n ≤ l ∧ (0 ≤ n → P x)) :
    ∀ (k i : Nat) (l : Int), i + k = xs.length → 0 ≤ l → l ≤ 1048576 → ∃ n, p0 xs l i = some n ∧ n ≤ l ∧ (0 ≤ n → ∀ x, x ∈ xs.drop i → P x)
  | 0, i, l, hk, hl, hl' => by
    refine ⟨l, ?_, Int.le_refl _, fun _ x hx => ?_⟩
    · rw [heq]
      have : ¬ (i : Int) < (xs.length : Int) := by omega
      simp only [this, decide_false, Bool.false_eq_true, if_false]
    · rw [List.drop_eq_nil_of_le (by omega)] at hx; cases hx
  | k + 1, i, l, hk, hl, hl' => by
    have hi : i < xs.length := by omega
    have hlt : (i : Int) < (xs.length : Int) := by omega
    obtain ⟨n, e1, e2, e3⟩ := h1 xs[i] (List.getElem_mem hi) l hl hl'
    rw [heq]
    simp only [hlt, decide_true, if_true, Int.natCast_nonneg, Int.toNat_natCast, List.getElem?_eq_getElem hi, Option.bind_some, e1]
    by_cases hn : n < 0
    · simp only [hn, decide_true, if_true]
      exact ⟨-1, rfl, by omega, fun h => by omega⟩
    · simp only [hn, decide_false, Bool.false_eq_true, if_false]
      have hw : IntKind.i64.wrap ((i : Int) + 1) = ((i + 1 : Nat) : Int) := by rw [w64 (by omega) (by omega)]; omega
      rw [hw]
      obtain ⟨q, f1, f2, f3⟩ := szLoop xs sz1 p0 heq hs h1 k (i + 1) n (by omega) (by omega) (by omega)
      refine ⟨q, f1, by omega, fun hq x hx => ?_⟩
      rw [List.drop_eq_getElem_cons hi] at hx
      rcases List.mem_cons.1 hx with rfl | hx
      · exact e3 (by omega)
      · exact f3 hq x hx
theorem szList {α : Type} {P : α → Prop} (xs : List α) (sz1 : α → Int → Option Int) (p0 : List α → Int → Int → Option Int) (szS : List α → Int → Option Int)
    (heq : ∀ (l i : Int), p0 xs l i = if decide (i < (xs.length : Int)) then (if decide (0 ≤ i) then (xs[i.toNat]?).bind fun x1 => (sz1 x1 l).bind fun x2 => if decide (x2 < 0) then some (-1) else p0 xs x2 (IntKind.i64.wrap (i + 1)) else none) else some l)
    (hS : ∀ l : Int, szS xs l = if decide (IntKind.i64.wrap (l - (xs.length : Int)) < 0) then some (-1) else p0 xs (IntKind.i64.wrap (l - (xs.length : Int))) 0)
    (hl : xs.length ≤ 9223372036854775807) (h1 : ∀ x, x ∈ xs → ∀ l : Int, 0 ≤ l → l ≤ 1048576 → ∃ n, sz1 x l = some n ∧ n ≤ l ∧ (0 ≤ n → P x)) (l : Int) (h0 : 0 ≤ l) (h0' : l ≤ 1048576) :
    ∃ n, szS xs l = some n ∧ n ≤ l ∧ (0 ≤ n → xs.length ≤ 1048576 ∧ ∀ x, x ∈ xs → P x) := by
  rw [hS, w64 (n := l - xs.length) (by omega) (by omega)]
  by_cases hn : l - (xs.length : Int) < 0
  · simp only [hn, decide_true, if_true]
    exact ⟨-1, rfl, by omega, fun h => by omega⟩
  · simp only [hn, decide_false, Bool.false_eq_true, if_false]
    obtain ⟨q, f1, f2, f3⟩ := szLoop xs sz1 p0 heq (by omega) h1 xs.length 0 (l - xs.length) (by omega) (by omega) (by omega)
    exact ⟨q, f1, by omega, fun hq => ⟨by omega, fun x hx => f3 hq x hx⟩⟩
/-- A list made element by element is the list. -/
theorem toLoop {α : Type} (xs : List α) (to1 : α → Option α) (p0 : List α → Nat → Int → List α → Option (List α))
    (heq : ∀ (n : Nat) (i : Int) (r : List α), p0 xs n i r = if decide (i < (xs.length : Int)) then (if decide (0 ≤ i) then (xs[i.toNat]?).bind fun x1 => (to1 x1).bind fun x2 => if decide (0 ≤ i) && decide (i < (n : Int)) then (r[i.toNat]?).bind fun x3 => p0 xs n (IntKind.i64.wrap (i + 1)) (r.set i.toNat x2) else none else none) else some (r.take n))
    (hs : xs.length ≤ 1099511627776) (h1 : ∀ x, x ∈ xs → to1 x = some x) :
    ∀ (k i : Nat) (r : List α), i + k = xs.length → r.length = xs.length → r.take i = xs.take i → p0 xs xs.length i r = some xs
  | 0, i, r, hk, hr, ht => by
    rw [heq]
    have : ¬ (i : Int) < (xs.length : Int) := by omega
    simp only [this, decide_false, Bool.false_eq_true, if_false]
    have hi : i = xs.length := by omega
    rw [hi] at ht
    rw [ht, List.take_length]
  | k + 1, i, r, hk, hr, ht => by
    have hi : i < xs.length := by omega
    have hlt : (i : Int) < (xs.length : Int) := by omega
    have hw : IntKind.i64.wrap ((i : Int) + 1) = ((i + 1 : Nat) : Int) := by rw [w64 (by omega) (by omega)]; omega
    rw [heq]
    simp only [hlt, decide_true, if_true, Int.natCast_nonneg, Int.toNat_natCast, List.getElem?_eq_getElem hi, Option.bind_some, h1 xs[i] (List.getElem_mem hi), Bool.and_self, List.getElem?_eq_getElem (show i < r.length by omega), hw]
    refine toLoop xs to1 p0 heq hs h1 k (i + 1) (r.set i xs[i]) (by omega) (by simp [hr]) ?_
    rw [List.take_add_one, List.take_add_one, List.getElem?_set_self (by omega), List.getElem?_eq_getElem hi, List.take_set_of_le (by omega), ht]
theorem toList_ok {α : Type} (xs : List α) (z : α) (to1 : α → Option α) (p0 : List α → Nat → Int → List α → Option (List α)) (toS : List α → Option (List α))
    (heq : ∀ (n : Nat) (i : Int) (r : List α), p0 xs n i r = if decide (i < (xs.length : Int)) then (if decide (0 ≤ i) then (xs[i.toNat]?).bind fun x1 => (to1 x1).bind fun x2 => if decide (0 ≤ i) && decide (i < (n : Int)) then (r[i.toNat]?).bind fun x3 => p0 xs n (IntKind.i64.wrap (i + 1)) (r.set i.toNat x2) else none else none) else some (r.take n))
    (hS : toS xs = if decide (0 ≤ (xs.length : Int)) && decide ((xs.length : Int) ≤ (xs.length : Int)) && decide ((xs.length : Int).toNat < lim) then p0 xs ((List.replicate ((xs.length : Int).toNat) z).length) 0 (List.replicate ((xs.length : Int).toNat) z) else none)
    (hs : xs.length ≤ 1048576) (h1 : ∀ x, x ∈ xs → to1 x = some x) : toS xs = some xs := by
  rw [hS, lim_eq]
  have h2 : (xs.length : Int).toNat < 1099511627776 := by omega
  have h3 : (xs.length : Int) ≤ (xs.length : Int) := Int.le_refl _
  rw [decide_eq_true h2]
  simp only [h3, Int.natCast_nonneg, decide_true, Bool.and_self, if_true, Int.toNat_natCast, List.length_replicate]
  exact toLoop xs to1 p0 heq (by omega) h1 xs.length 0 _ (by omega) (by simp) (by simp)
/-- A list is equal to itself. -/
theorem eqLoop {α : Type} (xs : List α) (eq1 : α → α → Option Bool) (p0 : List α → List α → Int → Option Bool)
    (heq : ∀ (i : Int), p0 xs xs i = if decide (i < (xs.length : Int)) then (if decide (0 ≤ i) then (xs[i.toNat]?).bind fun x1 => if decide (0 ≤ i) then (xs[i.toNat]?).bind fun x2 => (eq1 x1 x2).bind fun x3 => if (!x3) then some false else p0 xs xs (IntKind.i64.wrap (i + 1)) else none else none) else some true)
    (hs : xs.length ≤ 1048576) (h1 : ∀ x, x ∈ xs → eq1 x x = some true) : ∀ (k i : Nat), i + k = xs.length → p0 xs xs i = some true
  | 0, i, hk => by
    rw [heq]
    have : ¬ (i : Int) < (xs.length : Int) := by omega
    simp only [this, decide_false, Bool.false_eq_true, if_false]
  | k + 1, i, hk => by
    have hi : i < xs.length := by omega
    have hlt : (i : Int) < (xs.length : Int) := by omega
    have hw : IntKind.i64.wrap ((i : Int) + 1) = ((i + 1 : Nat) : Int) := by rw [w64 (by omega) (by omega)]; omega
    rw [heq]
    simp only [hlt, decide_true, if_true, Int.natCast_nonneg, Int.toNat_natCast, List.getElem?_eq_getElem hi, Option.bind_some, h1 xs[i] (List.getElem_mem hi), Bool.not_true, Bool.false_eq_true, if_false, hw]
    exact eqLoop xs eq1 p0 heq hs h1 k (i + 1) (by omega)
theorem eqList_ok {α : Type} (xs : List α) (eq1 : α → α → Option Bool) (p0 : List α → List α → Int → Option Bool) (eqS : List α → List α → Option Bool)
    (heq : ∀ (i : Int), p0 xs xs i = if decide (i < (xs.length : Int)) then (if decide (0 ≤ i) then (xs[i.toNat]?).bind fun x1 => if decide (0 ≤ i) then (xs[i.toNat]?).bind fun x2 => (eq1 x1 x2).bind fun x3 => if (!x3) then some false else p0 xs xs (IntKind.i64.wrap (i + 1)) else none else none) else some true)
    (hS : eqS xs xs = if ((xs.length : Int) != (xs.length : Int)) then some false else p0 xs xs 0)
    (hs : xs.length ≤ 1048576) (h1 : ∀ x, x ∈ xs → eq1 x x = some true) : eqS xs xs = some true := by
  rw [hS]
  simp only [bne_self_eq_false, Bool.false_eq_true, if_false]
  exact eqLoop xs eq1 p0 heq hs h1 xs.length 0 (by omega)
theorem eqInt64S_loop (xs : List Int) (hs : xs.length ≤ 1048576) : ∀ (k i : Nat), i + k = xs.length → laws_eqInt64S_p0 xs xs i = some true
  | 0, i, hk => by
    rw [laws_eqInt64S_p0_eq]
    have : ¬ (i : Int) < (xs.length : Int) := by omega
    simp only [this, decide_false, Bool.false_eq_true, if_false]
  | k + 1, i, hk => by
    have hi : i < xs.length := by omega
    have hlt : (i : Int) < (xs.length : Int) := by omega
    have hw : IntKind.i64.wrap ((i : Int) + 1) = ((i + 1 : Nat) : Int) := by rw [w64 (by omega) (by omega)]; omega
    rw [laws_eqInt64S_p0_eq]
    simp only [hlt, decide_true, if_true, Int.natCast_nonneg, Int.toNat_natCast, List.getElem?_eq_getElem hi, Option.bind_some, bne_self_eq_false, Bool.false_eq_true, if_false, hw]
    exact eqInt64S_loop xs hs k (i + 1) (by omega)
theorem eqInt64S_ok (xs : List Int) (hs : xs.length ≤ 1048576) : laws_eqInt64S xs xs = some true := by
  rw [laws_eqInt64S_eq]
  simp only [bne_self_eq_false, Bool.false_eq_true, if_false]
  exact eqInt64S_loop xs hs xs.length 0 (by omega)

theorem szPot_ok (x : T_Pot.ty) (hx : x.1.length ≤ 9223372036854775807) (l : Int) (h0 : 0 ≤ l) (h1 : l ≤ 1048576) : ∃ n, laws_szPot x l = some n ∧ n ≤ l ∧ (0 ≤ n → x.1.length ≤ 1048576) := by
  rw [laws_szPot_eq, w64 (n := l - x.1.length) (by omega) (by omega)]
  by_cases hn : l - (x.1.length : Int) < 0
  · simp only [hn, decide_true, if_true]; exact ⟨-1, rfl, by omega, fun h => by omega⟩
  · simp only [hn, decide_false, Bool.false_eq_true, if_false]; exact ⟨_, rfl, by omega, fun h => by omega⟩

theorem eqPot_self (x : T_Pot.ty) : laws_eqPot x x = some true := by
  rw [laws_eqPot_eq]; simp

theorem szPotS_ok (xs : List T_Pot.ty) (hl : xs.length ≤ 9223372036854775807) (hx : ∀ x, x ∈ xs → x.1.length ≤ 9223372036854775807) (l : Int) (h0 : 0 ≤ l) (h1 : l ≤ 1048576) :
    ∃ n, laws_szPotS xs l = some n ∧ n ≤ l ∧ (0 ≤ n → xs.length ≤ 1048576 ∧ ∀ x, x ∈ xs → x.1.length ≤ 1048576) :=
  szList (P := fun x : T_Pot.ty => x.1.length ≤ 1048576) xs laws_szPot laws_szPotS_p0 laws_szPotS (fun l i => laws_szPotS_p0_eq xs l i) (fun l => laws_szPotS_eq xs l) hl (fun x hm l h0 h1 => szPot_ok x (hx x hm) l h0 h1) l h0 h1

theorem toPotS_ok (xs : List T_Pot.ty) (hs : xs.length ≤ 1048576) : laws_toPotS xs = some xs :=
  toList_ok xs _ laws_toPot laws_toPotS_p0 laws_toPotS (fun n i r => laws_toPotS_p0_eq xs n i r) (laws_toPotS_eq xs) hs (fun x _ => laws_toPot_eq x)

theorem eqPotS_ok (xs : List T_Pot.ty) (hs : xs.length ≤ 1048576) : laws_eqPotS xs xs = some true :=
  eqList_ok xs laws_eqPot laws_eqPotS_p0 laws_eqPotS (fun i => laws_eqPotS_p0_eq xs xs i) (laws_eqPotS_eq xs xs) hs (fun x _ => eqPot_self x)

theorem szOne {α : Type} (n : Nat) (f : α → Int → Option Int) (x : α) (hx : n ≤ 9223372036854775807) (l : Int) (h : f x l = if decide (IntKind.i64.wrap (l - (n : Int)) < 0) then some (-1) else some (IntKind.i64.wrap (l - (n : Int)))) (h0 : 0 ≤ l) (h1 : l ≤ 1048576) :
    ∃ r, f x l = some r ∧ r ≤ l ∧ (0 ≤ r → n ≤ 1048576) := by
  rw [h, w64 (n := l - n) (by omega) (by omega)]
  by_cases hn : l - (n : Int) < 0
  · simp only [hn, decide_true, if_true]; exact ⟨-1, rfl, by omega, fun h => by omega⟩
  · simp only [hn, decide_false, Bool.false_eq_true, if_false]; exact ⟨_, rfl, by omega, fun h => by omega⟩
theorem szTwo {α : Type} (n m : Nat) (f : α → Int → Option Int) (x : α) (hx : n ≤ 9223372036854775807) (hm : m ≤ 9223372036854775807) (l : Int) (h : f x l = if decide (IntKind.i64.wrap (l - (n : Int)) < 0) then some (-1) else if decide (IntKind.i64.wrap ((IntKind.i64.wrap (l - (n : Int))) - (m : Int)) < 0) then some (-1) else some (IntKind.i64.wrap ((IntKind.i64.wrap (l - (n : Int))) - (m : Int)))) (h0 : 0 ≤ l) (h1 : l ≤ 1048576) :
    ∃ r, f x l = some r ∧ r ≤ l ∧ (0 ≤ r → n ≤ 1048576 ∧ m ≤ 1048576) := by
  rw [h, w64 (n := l - n) (by omega) (by omega)]
  by_cases hn : l - (n : Int) < 0
  · simp only [hn, decide_true, if_true]; exact ⟨-1, rfl, by omega, fun h => by omega⟩
  simp only [hn, decide_false, Bool.false_eq_true, if_false]
  rw [w64 (n := l - n - m) (by omega) (by omega)]
  by_cases hn2 : l - (n : Int) - m < 0
  · simp only [hn2, decide_true, if_true]; exact ⟨-1, rfl, by omega, fun h => by omega⟩
  · simp only [hn2, decide_false, Bool.false_eq_true, if_false]; exact ⟨_, rfl, by omega, fun h => ⟨by omega, by omega⟩⟩

theorem szStack_ok (x : T_Peg.ty) (hx : x.1.length ≤ 9223372036854775807) (l : Int) (h0 : 0 ≤ l) (h1 : l ≤ 1048576) : ∃ n, laws_szStack x l = some n ∧ n ≤ l ∧ (0 ≤ n → x.1.length ≤ 1048576) :=
  szOne (List.length (α := UInt8) x.1) laws_szStack x hx l (laws_szStack_eq x l) h0 h1

theorem szStackS_ok (xs : List T_Peg.ty) (hl : xs.length ≤ 9223372036854775807) (hx : ∀ x, x ∈ xs → x.1.length ≤ 9223372036854775807) (l : Int) (h0 : 0 ≤ l) (h1 : l ≤ 1048576) :
    ∃ n, laws_szStackS xs l = some n ∧ n ≤ l ∧ (0 ≤ n → xs.length ≤ 1048576 ∧ ∀ x, x ∈ xs → x.1.length ≤ 1048576) :=
  szList (P := fun x : T_Peg.ty => x.1.length ≤ 1048576) xs laws_szStack laws_szStackS_p0 laws_szStackS (fun l i => laws_szStackS_p0_eq xs l i) (fun l => laws_szStackS_eq xs l) hl (fun x hm l h0 h1 => szStack_ok x (hx x hm) l h0 h1) l h0 h1

theorem szRib_ok (x : T_Mode.ty) (hx : x.1.length ≤ 9223372036854775807) (l : Int) (h0 : 0 ≤ l) (h1 : l ≤ 1048576) : ∃ n, laws_szRib x l = some n ∧ n ≤ l ∧ (0 ≤ n → x.1.length ≤ 1048576) :=
  szOne (List.length (α := UInt8) x.1) laws_szRib x hx l (laws_szRib_eq x l) h0 h1

theorem szRibS_ok (xs : List T_Mode.ty) (hl : xs.length ≤ 9223372036854775807) (hx : ∀ x, x ∈ xs → x.1.length ≤ 9223372036854775807) (l : Int) (h0 : 0 ≤ l) (h1 : l ≤ 1048576) :
    ∃ n, laws_szRibS xs l = some n ∧ n ≤ l ∧ (0 ≤ n → xs.length ≤ 1048576 ∧ ∀ x, x ∈ xs → x.1.length ≤ 1048576) :=
  szList (P := fun x : T_Mode.ty => x.1.length ≤ 1048576) xs laws_szRib laws_szRibS_p0 laws_szRibS (fun l i => laws_szRibS_p0_eq xs l i) (fun l => laws_szRibS_eq xs l) hl (fun x hm l h0 h1 => szRib_ok x (hx x hm) l h0 h1) l h0 h1

theorem szPeg_ok (x : T_Peg.ty) (hx : x.1.length ≤ 9223372036854775807) (l : Int) (h0 : 0 ≤ l) (h1 : l ≤ 1048576) : ∃ n, laws_szPeg x l = some n ∧ n ≤ l ∧ (0 ≤ n → x.1.length ≤ 1048576) :=
  szOne (List.length (α := UInt8) x.1) laws_szPeg x hx l (laws_szPeg_eq x l) h0 h1

theorem szPegS_ok (xs : List T_Peg.ty) (hl : xs.length ≤ 9223372036854775807) (hx : ∀ x, x ∈ xs → x.1.length ≤ 9223372036854775807) (l : Int) (h0 : 0 ≤ l) (h1 : l ≤ 1048576) :
    ∃ n, laws_szPegS xs l = some n ∧ n ≤ l ∧ (0 ≤ n → xs.length ≤ 1048576 ∧ ∀ x, x ∈ xs → x.1.length ≤ 1048576) :=
  szList (P := fun x : T_Peg.ty => x.1.length ≤ 1048576) xs laws_szPeg laws_szPegS_p0 laws_szPegS (fun l i => laws_szPegS_p0_eq xs l i) (fun l => laws_szPegS_eq xs l) hl (fun x hm l h0 h1 => szPeg_ok x (hx x hm) l h0 h1) l h0 h1

theorem szMode_ok (x : T_Mode.ty) (hx : x.1.length ≤ 9223372036854775807) (l : Int) (h0 : 0 ≤ l) (h1 : l ≤ 1048576) : ∃ n, laws_szMode x l = some n ∧ n ≤ l ∧ (0 ≤ n → x.1.length ≤ 1048576) :=
  szOne (List.length (α := UInt8) x.1) laws_szMode x hx l (laws_szMode_eq x l) h0 h1

theorem szModeS_ok (xs : List T_Mode.ty) (hl : xs.length ≤ 9223372036854775807) (hx : ∀ x, x ∈ xs → x.1.length ≤ 9223372036854775807) (l : Int) (h0 : 0 ≤ l) (h1 : l ≤ 1048576) :
    ∃ n, laws_szModeS xs l = some n ∧ n ≤ l ∧ (0 ≤ n → xs.length ≤ 1048576 ∧ ∀ x, x ∈ xs → x.1.length ≤ 1048576) :=
  szList (P := fun x : T_Mode.ty => x.1.length ≤ 1048576) xs laws_szMode laws_szModeS_p0 laws_szModeS (fun l i => laws_szModeS_p0_eq xs l i) (fun l => laws_szModeS_eq xs l) hl (fun x hm l h0 h1 => szMode_ok x (hx x hm) l h0 h1) l h0 h1

theorem szWork_ok (x : T_Peg.ty) (hx : x.1.length ≤ 9223372036854775807) (l : Int) (h0 : 0 ≤ l) (h1 : l ≤ 1048576) : ∃ n, laws_szWork x l = some n ∧ n ≤ l ∧ (0 ≤ n → x.1.length ≤ 1048576) :=
  szOne (List.length (α := UInt8) x.1) laws_szWork x hx l (laws_szWork_eq x l) h0 h1

theorem szWorkS_ok (xs : List T_Peg.ty) (hl : xs.length ≤ 9223372036854775807) (hx : ∀ x, x ∈ xs → x.1.length ≤ 9223372036854775807) (l : Int) (h0 : 0 ≤ l) (h1 : l ≤ 1048576) :
    ∃ n, laws_szWorkS xs l = some n ∧ n ≤ l ∧ (0 ≤ n → xs.length ≤ 1048576 ∧ ∀ x, x ∈ xs → x.1.length ≤ 1048576) :=
  szList (P := fun x : T_Peg.ty => x.1.length ≤ 1048576) xs laws_szWork laws_szWorkS_p0 laws_szWorkS (fun l i => laws_szWorkS_p0_eq xs l i) (fun l => laws_szWorkS_eq xs l) hl (fun x hm l h0 h1 => szWork_ok x (hx x hm) l h0 h1) l h0 h1

theorem szPaper_ok (x : T_Paper.ty) (hx : x.1.length ≤ 9223372036854775807 ∧ x.2.1.length ≤ 9223372036854775807) (l : Int) (h0 : 0 ≤ l) (h1 : l ≤ 1048576) : ∃ n, laws_szPaper x l = some n ∧ n ≤ l ∧ (0 ≤ n → x.1.length ≤ 1048576 ∧ x.2.1.length ≤ 1048576) :=
  szTwo (List.length (α := UInt8) x.1) (List.length (α := UInt8) x.2.1) laws_szPaper x hx.1 hx.2 l (laws_szPaper_eq x l) h0 h1

theorem szPaperS_ok (xs : List T_Paper.ty) (hl : xs.length ≤ 9223372036854775807) (hx : ∀ x, x ∈ xs → x.1.length ≤ 9223372036854775807 ∧ x.2.1.length ≤ 9223372036854775807) (l : Int) (h0 : 0 ≤ l) (h1 : l ≤ 1048576) :
    ∃ n, laws_szPaperS xs l = some n ∧ n ≤ l ∧ (0 ≤ n → xs.length ≤ 1048576 ∧ ∀ x, x ∈ xs → x.1.length ≤ 1048576 ∧ x.2.1.length ≤ 1048576) :=
  szList (P := fun x : T_Paper.ty => x.1.length ≤ 1048576 ∧ x.2.1.length ≤ 1048576) xs laws_szPaper laws_szPaperS_p0 laws_szPaperS (fun l i => laws_szPaperS_p0_eq xs l i) (fun l => laws_szPaperS_eq xs l) hl (fun x hm l h0 h1 => szPaper_ok x (hx x hm) l h0 h1) l h0 h1

theorem toStackS_ok (xs : List T_Peg.ty) (hs : xs.length ≤ 1048576) : laws_toStackS xs = some xs :=
  toList_ok xs _ laws_toStack laws_toStackS_p0 laws_toStackS (fun n i r => laws_toStackS_p0_eq xs n i r) (laws_toStackS_eq xs) hs (fun x _ => laws_toStack_eq x)

theorem eqStack_self (x : T_Peg.ty) : laws_eqStack x x = some true := by
  rw [laws_eqStack_eq]; simp

theorem eqStackS_ok (xs : List T_Peg.ty) (hs : xs.length ≤ 1048576) : laws_eqStackS xs xs = some true :=
  eqList_ok xs laws_eqStack laws_eqStackS_p0 laws_eqStackS (fun i => laws_eqStackS_p0_eq xs xs i) (laws_eqStackS_eq xs xs) hs (fun x _ => eqStack_self x)

theorem toRibS_ok (xs : List T_Mode.ty) (hs : xs.length ≤ 1048576) : laws_toRibS xs = some xs :=
  toList_ok xs _ laws_toRib laws_toRibS_p0 laws_toRibS (fun n i r => laws_toRibS_p0_eq xs n i r) (laws_toRibS_eq xs) hs (fun x _ => laws_toRib_eq x)

theorem eqRib_self (x : T_Mode.ty) : laws_eqRib x x = some true := by
  rw [laws_eqRib_eq]; simp

theorem eqRibS_ok (xs : List T_Mode.ty) (hs : xs.length ≤ 1048576) : laws_eqRibS xs xs = some true :=
  eqList_ok xs laws_eqRib laws_eqRibS_p0 laws_eqRibS (fun i => laws_eqRibS_p0_eq xs xs i) (laws_eqRibS_eq xs xs) hs (fun x _ => eqRib_self x)

theorem toPegS_ok (xs : List T_Peg.ty) (hs : xs.length ≤ 1048576) : laws_toPegS xs = some xs :=
  toList_ok xs _ laws_toPeg laws_toPegS_p0 laws_toPegS (fun n i r => laws_toPegS_p0_eq xs n i r) (laws_toPegS_eq xs) hs (fun x _ => laws_toPeg_eq x)

theorem eqPeg_self (x : T_Peg.ty) : laws_eqPeg x x = some true := by
  rw [laws_eqPeg_eq]; simp

theorem eqPegS_ok (xs : List T_Peg.ty) (hs : xs.length ≤ 1048576) : laws_eqPegS xs xs = some true :=
  eqList_ok xs laws_eqPeg laws_eqPegS_p0 laws_eqPegS (fun i => laws_eqPegS_p0_eq xs xs i) (laws_eqPegS_eq xs xs) hs (fun x _ => eqPeg_self x)

theorem toModeS_ok (xs : List T_Mode.ty) (hs : xs.length ≤ 1048576) : laws_toModeS xs = some xs :=
  toList_ok xs _ laws_toMode laws_toModeS_p0 laws_toModeS (fun n i r => laws_toModeS_p0_eq xs n i r) (laws_toModeS_eq xs) hs (fun x _ => laws_toMode_eq x)

theorem eqMode_self (x : T_Mode.ty) : laws_eqMode x x = some true := by
  rw [laws_eqMode_eq]; simp

theorem eqModeS_ok (xs : List T_Mode.ty) (hs : xs.length ≤ 1048576) : laws_eqModeS xs xs = some true :=
  eqList_ok xs laws_eqMode laws_eqModeS_p0 laws_eqModeS (fun i => laws_eqModeS_p0_eq xs xs i) (laws_eqModeS_eq xs xs) hs (fun x _ => eqMode_self x)

theorem toWorkS_ok (xs : List T_Peg.ty) (hs : xs.length ≤ 1048576) : laws_toWorkS xs = some xs :=
  toList_ok xs _ laws_toWork laws_toWorkS_p0 laws_toWorkS (fun n i r => laws_toWorkS_p0_eq xs n i r) (laws_toWorkS_eq xs) hs (fun x _ => laws_toWork_eq x)

theorem eqWork_self (x : T_Peg.ty) : laws_eqWork x x = some true := by
  rw [laws_eqWork_eq]; simp

theorem eqWorkS_ok (xs : List T_Peg.ty) (hs : xs.length ≤ 1048576) : laws_eqWorkS xs xs = some true :=
  eqList_ok xs laws_eqWork laws_eqWorkS_p0 laws_eqWorkS (fun i => laws_eqWorkS_p0_eq xs xs i) (laws_eqWorkS_eq xs xs) hs (fun x _ => eqWork_self x)

theorem toPaperS_ok (xs : List T_Paper.ty) (hs : xs.length ≤ 1048576) : laws_toPaperS xs = some xs :=
  toList_ok xs _ laws_toPaper laws_toPaperS_p0 laws_toPaperS (fun n i r => laws_toPaperS_p0_eq xs n i r) (laws_toPaperS_eq xs) hs (fun x _ => laws_toPaper_eq x)

theorem eqPaper_self (x : T_Paper.ty) : laws_eqPaper x x = some true := by
  rw [laws_eqPaper_eq]; simp

theorem eqPaperS_ok (xs : List T_Paper.ty) (hs : xs.length ≤ 1048576) : laws_eqPaperS xs xs = some true :=
  eqList_ok xs laws_eqPaper laws_eqPaperS_p0 laws_eqPaperS (fun i => laws_eqPaperS_p0_eq xs xs i) (laws_eqPaperS_eq xs xs) hs (fun x _ => eqPaper_self x)

theorem toInt64S_ok (xs : List Int) (hs : xs.length ≤ 1048576) : laws_toInt64S xs = some xs :=
  toList_ok xs (0 : Int) some laws_toInt64S_p0 laws_toInt64S (fun n i r => laws_toInt64S_p0_eq xs n i r) (laws_toInt64S_eq xs) hs (fun x _ => rfl)

theorem eqNeck_self (x : T_Neck.ty) : laws_eqNeck x x = some true := by
  rw [laws_eqNeck_eq]; simp

theorem szInt64S_ok (x : List Int) (hx : x.length ≤ 9223372036854775807) (l : Int) (h0 : 0 ≤ l) (h1 : l ≤ 1048576) : ∃ n, laws_szInt64S x l = some n ∧ n ≤ l ∧ (0 ≤ n → x.length ≤ 1048576) :=
  szOne x.length laws_szInt64S x hx l (laws_szInt64S_eq x l) h0 h1

theorem szInt64SS_ok (xs : List (List Int)) (hl : xs.length ≤ 9223372036854775807) (hx : ∀ x, x ∈ xs → x.length ≤ 9223372036854775807) (l : Int) (h0 : 0 ≤ l) (h1 : l ≤ 1048576) :
    ∃ n, laws_szInt64SS xs l = some n ∧ n ≤ l ∧ (0 ≤ n → xs.length ≤ 1048576 ∧ ∀ x, x ∈ xs → x.length ≤ 1048576) :=
  szList (P := fun x : List Int => x.length ≤ 1048576) xs laws_szInt64S laws_szInt64SS_p0 laws_szInt64SS (fun l i => laws_szInt64SS_p0_eq xs l i) (fun l => laws_szInt64SS_eq xs l) hl (fun x hm l h0 h1 => szInt64S_ok x (hx x hm) l h0 h1) l h0 h1

theorem toInt64SS_ok (xs : List (List Int)) (hs : xs.length ≤ 1048576) (hx : ∀ x, x ∈ xs → x.length ≤ 1048576) : laws_toInt64SS xs = some xs :=
  toList_ok xs ([] : List Int) laws_toInt64S laws_toInt64SS_p0 laws_toInt64SS (fun n i r => laws_toInt64SS_p0_eq xs n i r) (laws_toInt64SS_eq xs) hs (fun x hm => toInt64S_ok x (hx x hm))

theorem eqInt64SS_ok (xs : List (List Int)) (hs : xs.length ≤ 1048576) (hx : ∀ x, x ∈ xs → x.length ≤ 1048576) : laws_eqInt64SS xs xs = some true :=
  eqList_ok xs laws_eqInt64S laws_eqInt64SS_p0 laws_eqInt64SS (fun i => laws_eqInt64SS_p0_eq xs xs i) (laws_eqInt64SS_eq xs xs) hs (fun x hm => eqInt64S_ok x (hx x hm))

/-- What the laws ask of a desk's sizes. -/
def deskSmall (x : T_Desk.ty) : Prop :=
  (List.length (α := T_Peg.ty) x.1 ≤ 1048576 ∧ ∀ y : T_Peg.ty, y ∈ x.1 → y.1.length ≤ 1048576) ∧
  (List.length (α := T_Mode.ty) x.2.1 ≤ 1048576 ∧ ∀ y : T_Mode.ty, y ∈ x.2.1 → y.1.length ≤ 1048576) ∧
  (List.length (α := List Int) x.2.2.1 ≤ 1048576 ∧ ∀ y : List Int, y ∈ x.2.2.1 → y.length ≤ 1048576) ∧
  (List.length (α := T_Peg.ty) x.2.2.2.2.2.2.2.1 ≤ 1048576 ∧ ∀ y : T_Peg.ty, y ∈ x.2.2.2.2.2.2.2.1 → y.1.length ≤ 1048576) ∧
  (List.length (α := T_Pot.ty) x.2.2.2.2.2.2.2.2.1 ≤ 1048576 ∧ ∀ y : T_Pot.ty, y ∈ x.2.2.2.2.2.2.2.2.1 → y.1.length ≤ 1048576) ∧
  (List.length (α := T_Mode.ty) x.2.2.2.2.2.2.2.2.2.1 ≤ 1048576 ∧ ∀ y : T_Mode.ty, y ∈ x.2.2.2.2.2.2.2.2.2.1 → y.1.length ≤ 1048576) ∧
  (List.length (α := T_Peg.ty) x.2.2.2.2.2.2.2.2.2.2.1 ≤ 1048576 ∧ ∀ y : T_Peg.ty, y ∈ x.2.2.2.2.2.2.2.2.2.2.1 → y.1.length ≤ 1048576) ∧
  (List.length (α := T_Paper.ty) x.2.2.2.2.2.2.2.2.2.2.2.1 ≤ 1048576 ∧ ∀ y : T_Paper.ty, y ∈ x.2.2.2.2.2.2.2.2.2.2.2.1 → y.1.length ≤ 1048576 ∧ y.2.1.length ≤ 1048576)
theorem szDesk_okL (x : T_Desk.ty) (h : ET.wf T_Desk x) (l : Int) (h0 : 0 ≤ l) (h1 : l ≤ 1048576) : ∃ n, laws_szDesk x l = some n ∧ n ≤ l ∧ (0 ≤ n → deskSmall x) := by
  obtain ⟨a, b, c, d1, d2, d3, d4, e, f, g, i, j, ⟨⟩⟩ := x
  obtain ⟨w1, w2, w3, _, _, _, _, w5, w6, w7, w8, w9, _⟩ := h
  have ml : Go.maxLen = 9223372036854775807 := maxLen_eq
  obtain ⟨n1, s1, l1, k1⟩ := szStackS_ok a (ml ▸ w1.1) (fun x hx => ml ▸ (w1.2 x hx).1) l (by omega) (by omega)
  rw [laws_szDesk_eq]
  simp only [s1, Option.bind_some]
  by_cases c1 : n1 < 0
  · exact ⟨-1, by simp [c1], by omega, fun h => by omega⟩
  obtain ⟨n2, s2, l2, k2⟩ := szRibS_ok b (ml ▸ w2.1) (fun x hx => ml ▸ (w2.2 x hx).1) n1 (by omega) (by omega)
  simp only [c1, decide_false, Bool.false_eq_true, if_false, s2, Option.bind_some]
  by_cases c2 : n2 < 0
  · exact ⟨-1, by simp [c2], by omega, fun h => by omega⟩
  obtain ⟨n3, s3, l3, k3⟩ := szInt64SS_ok c (ml ▸ w3.1) (fun x hx => ml ▸ (w3.2 x hx).1) n2 (by omega) (by omega)
  simp only [c2, decide_false, Bool.false_eq_true, if_false, s3, Option.bind_some]
  by_cases c3 : n3 < 0
  · exact ⟨-1, by simp [c3], by omega, fun h => by omega⟩
  obtain ⟨n4, s4, l4, k4⟩ := szPegS_ok e (ml ▸ w5.1) (fun x hx => ml ▸ (w5.2 x hx).1) n3 (by omega) (by omega)
  simp only [c3, decide_false, Bool.false_eq_true, if_false, s4, Option.bind_some]
  by_cases c4 : n4 < 0
  · exact ⟨-1, by simp [c4], by omega, fun h => by omega⟩
  obtain ⟨n5, s5, l5, k5⟩ := szPotS_ok f (ml ▸ w6.1) (fun x hx => ml ▸ (w6.2 x hx).1) n4 (by omega) (by omega)
  simp only [c4, decide_false, Bool.false_eq_true, if_false, s5, Option.bind_some]
  by_cases c5 : n5 < 0
  · exact ⟨-1, by simp [c5], by omega, fun h => by omega⟩
  obtain ⟨n6, s6, l6, k6⟩ := szModeS_ok g (ml ▸ w7.1) (fun x hx => ml ▸ (w7.2 x hx).1) n5 (by omega) (by omega)
  simp only [c5, decide_false, Bool.false_eq_true, if_false, s6, Option.bind_some]
  by_cases c6 : n6 < 0
  · exact ⟨-1, by simp [c6], by omega, fun h => by omega⟩
  obtain ⟨n7, s7, l7, k7⟩ := szWorkS_ok i (ml ▸ w8.1) (fun x hx => ml ▸ (w8.2 x hx).1) n6 (by omega) (by omega)
  simp only [c6, decide_false, Bool.false_eq_true, if_false, s7, Option.bind_some]
  by_cases c7 : n7 < 0
  · exact ⟨-1, by simp [c7], by omega, fun h => by omega⟩
  obtain ⟨n8, s8, l8, k8⟩ := szPaperS_ok j (ml ▸ w9.1) (fun x hx => ml ▸ ⟨(w9.2 x hx).1, (w9.2 x hx).2.1⟩) n7 (by omega) (by omega)
  simp only [c7, decide_false, Bool.false_eq_true, if_false, s8, Option.bind_some]
  by_cases c8 : n8 < 0
  · exact ⟨-1, by simp [c8], by omega, fun h => by omega⟩
  · refine ⟨n8, by simp [c8], by omega, fun _ => ⟨k1 (by omega), k2 (by omega), k3 (by omega), k4 (by omega), k5 (by omega), k6 (by omega), k7 (by omega), k8 (by omega)⟩⟩

theorem toDesk_ok (x : T_Desk.ty) (h : deskSmall x) : laws_toDesk x = some x := by
  obtain ⟨h1, h2, h3, h4, h5, h6, h7, h8⟩ := h
  rw [laws_toDesk_eq]
  simp only [toStackS_ok _ h1.1, toRibS_ok _ h2.1, toInt64SS_ok _ h3.1 h3.2, laws_toNeck_eq, toPegS_ok _ h4.1, toPotS_ok _ h5.1, toModeS_ok _ h6.1, toWorkS_ok _ h7.1, toPaperS_ok _ h8.1, Option.bind_some, List.take_length]

theorem eqDesk_ok (x : T_Desk.ty) (h : deskSmall x) : laws_eqDesk x x = some true := by
  obtain ⟨h1, h2, h3, h4, h5, h6, h7, h8⟩ := h
  rw [laws_eqDesk_eq]
  simp only [eqStackS_ok _ h1.1, eqRibS_ok _ h2.1, eqInt64SS_ok _ h3.1 h3.2, eqNeck_self, eqPegS_ok _ h4.1, eqPotS_ok _ h5.1, eqModeS_ok _ h6.1, eqWorkS_ok _ h7.1, eqPaperS_ok _ h8.1, Option.bind_some, Bool.not_true, Bool.false_eq_true, if_false]

end Go.Ab.P
