/- Lemmas on functions of the program. Conditions: told in each. -/
import Derived.Test.YtmflggnljccofaaGreatDoorPFnExactCommandNames
set_option linter.unusedVariables false
set_option linter.unusedSimpArgs false
namespace Go.Ab.P
open Go.Ab
theorem eqLoop {α : Type} (xs : List α) (eq1 : α → α → Option Bool) (p0 : List α → List α → Int → Option Bool)
 (heq : ∀ (i : Int),p0 xs xs i = if decide (i < (xs.length : Int)) then (if decide (0 ≤ i) then (xs[i.toNat]?).bind fun x1 => if decide (0 ≤ i) then (xs[i.toNat]?).bind fun x2 => (eq1 x1 x2).bind fun x3 => if (!x3) then some false else p0 xs xs (IntKind.i64.wrap (i + 1)) else none else none) else some true)
 (hs : xs.length ≤ 1048576) (h1 : ∀ x,x ∈ xs → eq1 x x = some true) : ∀ (k i : Nat),i + k = xs.length → p0 xs xs i = some true
 | 0,i,hk => by
   rw [heq]
   have : ¬ (i : Int) < (xs.length : Int) := by omega
   simp only [this,decide_false,Bool.false_eq_true,if_false]
 | k + 1,i,hk => by
   have hi : i < xs.length := by omega
   have hlt : (i : Int) < (xs.length : Int) := by omega
   have hw : IntKind.i64.wrap ((i : Int) + 1) = ((i + 1 : Nat) : Int) := by rw [w64 (by omega) (by omega)]; omega
   rw [heq]
   simp only [hlt,decide_true,if_true,Int.natCast_nonneg,Int.toNat_natCast,List.getElem?_eq_getElem hi,Option.bind_some,h1 xs[i] (List.getElem_mem hi),Bool.not_true,Bool.false_eq_true,if_false,hw]
   exact eqLoop xs eq1 p0 heq hs h1 k (i + 1) (by omega)
theorem eqList_ok {α : Type} (xs : List α) (eq1 : α → α → Option Bool) (p0 : List α → List α → Int → Option Bool) (eqS : List α → List α → Option Bool)
 (heq : ∀ (i : Int),p0 xs xs i = if decide (i < (xs.length : Int)) then (if decide (0 ≤ i) then (xs[i.toNat]?).bind fun x1 => if decide (0 ≤ i) then (xs[i.toNat]?).bind fun x2 => (eq1 x1 x2).bind fun x3 => if (!x3) then some false else p0 xs xs (IntKind.i64.wrap (i + 1)) else none else none) else some true)
 (hS : eqS xs xs = if ((xs.length : Int) != (xs.length : Int)) then some false else p0 xs xs 0)
 (hs : xs.length ≤ 1048576) (h1 : ∀ x,x ∈ xs → eq1 x x = some true) : eqS xs xs = some true := by
 rw [hS]
 simp only [bne_self_eq_false,Bool.false_eq_true,if_false]
 exact eqLoop xs eq1 p0 heq hs h1 xs.length 0 (by omega)
theorem tdiv_nonneg_eq {a b : Int} (ha : 0 ≤ a) : a.tdiv b = a / b := Int.tdiv_eq_ediv_of_nonneg ha
theorem markText_p0_ok : ∀ (k : Nat) (n : Int) (s : List UInt8),n.toNat < k → 0 ≤ n → n ≤ 4611686018427387904 → s.length + k ≤ 9223372036854775000 → ∃ t,laws_markText_p0 n s = some t
 | 0,n,s,hk,h0,h1,hs => by omega
 | k + 1,n,s,hk,h0,h1,hs => by
   rw [laws_markText_p0_eq]
   by_cases hp : n > 0
   ·simp only [hp,decide_true,if_true]
    have e : n.tdiv 10 = n / 10 := tdiv_nonneg_eq h0
    rw [e,w64 (n := n / 10) (by omega) (by omega)]
    have hl : ([IntKind.u8.wrap (IntKind.i64.wrap (48 + (n.tmod 10)))].map vu8).length + s.length ≤ strMax := by rw [strMax_eq]; simp; omega
    simp only [hl,decide_true,if_true]
    exact markText_p0_ok k (n / 10) _ (by omega) (by omega) (by omega) (by simp; omega)
   ·have hl : [(109 : UInt8)].length + s.length ≤ strMax := by rw [strMax_eq]; simp; omega
    refine ⟨[(109 : UInt8)] ++ s,?_⟩
    simp only [hp,decide_false,Bool.false_eq_true,if_false]
    exact if_pos (decide_eq_true hl)
theorem markText_ok (n : Int) (h : n ≤ 4611686018427387904) : ∃ t,laws_markText n = some t := by
 rw [laws_markText_eq]
 by_cases h0 : n ≤ 0
 ·simp only [h0,decide_true,if_true]; exact ⟨_,rfl⟩
 ·simp only [h0,decide_false,Bool.false_eq_true,if_false]
  exact markText_p0_ok (n.toNat + 1) n [] (by omega) (by omega) h (by simp; omega)
noncomputable def markT (n : Int) : List UInt8 := (laws_markText n).getD []
noncomputable def tmarks (m : Int) : Nat → List (List UInt8)
 | 0 => []
 | n + 1 => markT m :: tmarks (m + 1) n
theorem markT_ok (n : Int) (h : n < 4611686018427387904) : laws_markText n = some (markT n) := by
 obtain ⟨t,e⟩ := markText_ok n (Int.le_of_lt h)
 rw [markT,e]; rfl
theorem tmarks_len (m : Int) (n : Nat) : (tmarks m n).length = n := by
 induction n generalizing m with
 | zero => rfl
 | succ n ih => simp [tmarks,ih]
theorem tmarks_get (m : Int) (n i : Nat) (h : i < n) : (tmarks m n)[i]? = some (markT (m + i)) := by
 induction n generalizing m i with
 | zero => omega
 | succ n ih =>
   cases i with
   | zero => simp [tmarks]
   | succ i =>
     simp only [tmarks,List.getElem?_cons_succ]
     rw [ih (m + 1) i (by omega)]
     congr 2; omega
theorem markStringS_loop (m0 : Int) (n : Nat) (h0 : 0 ≤ m0) (hb : m0 + n ≤ 4611686018427387) : ∀ (k i : Nat) (r : List (List UInt8)),i + k = n → r.length = n → r.take i = (tmarks m0 n).take i →
 laws_markStringS_p0 n n (m0 + i) i r = some (m0 + n,tmarks m0 n)
 | 0,i,r,hk,hr,ht => by
   rw [laws_markStringS_p0_eq]
   have : ¬ (i : Int) < (n : Int) := by omega
   simp only [this,decide_false,Bool.false_eq_true,if_false,hr,decide_true,if_true]
   have hi : i = n := by omega
   have e : r = tmarks m0 n := by
    have h1 : r.take i = r := List.take_of_length_le (by omega)
    have h2 : (tmarks m0 n).take i = tmarks m0 n := List.take_of_length_le (by rw [tmarks_len]; omega)
    rw [h1,h2] at ht; exact ht
   rw [e,hi]
 | k + 1,i,r,hk,hr,ht => by
   have hi : i < r.length := by omega
   have hlt : (i : Int) < (n : Int) := by omega
   have hw : IntKind.i64.wrap ((i : Int) + 1) = ((i + 1 : Nat) : Int) := by rw [w64 (by omega) (by omega)]; omega
   have hw2 : IntKind.i64.wrap (m0 + i + 1) = m0 + ((i + 1 : Nat) : Int) := by rw [w64 (by omega) (by omega)]; omega
   rw [laws_markStringS_p0_eq]
   simp only [hlt,decide_true,if_true,Int.natCast_nonneg,Int.toNat_natCast,List.getElem?_eq_getElem hi,Option.bind_some,Bool.and_self,hw,hw2,markT_ok (m0 + i) (by omega)]
   refine markStringS_loop m0 n h0 hb k (i + 1) (r.set i (markT (m0 + i))) (by omega) (by simp [hr]) ?_
   rw [List.take_add_one,List.take_add_one,List.getElem?_set_self hi,tmarks_get m0 n i (by omega),List.take_set_of_le (by omega),ht]
theorem markStringS_ok (xs : List (List UInt8)) (m : Int) (h0 : 0 ≤ m) (hb : m + xs.length ≤ 4611686018427387) : laws_markStringS xs m = some (m + xs.length,tmarks m xs.length) := by
 rw [laws_markStringS_eq]
 have := markStringS_loop m xs.length h0 hb xs.length 0 xs (by omega) rfl rfl
 simpa using this
theorem heldStringS_loop (m0 : Int) (n : Nat) (h0 : 0 ≤ m0) (hb : m0 + n ≤ 4611686018427387) : ∀ (k i : Nat),i + k = n → laws_heldStringS_p0 (tmarks m0 n) (m0 + i) i = some (m0 + n)
 | 0,i,hk => by
   rw [laws_heldStringS_p0_eq,tmarks_len]
   have : ¬ (i : Int) < (n : Int) := by omega
   simp only [this,decide_false,Bool.false_eq_true,if_false]
   congr 1; omega
 | k + 1,i,hk => by
   have hlt : (i : Int) < (n : Int) := by omega
   have hw : IntKind.i64.wrap ((i : Int) + 1) = ((i + 1 : Nat) : Int) := by rw [w64 (by omega) (by omega)]; omega
   have hw2 : IntKind.i64.wrap (m0 + i + 1) = m0 + ((i + 1 : Nat) : Int) := by rw [w64 (by omega) (by omega)]; omega
   rw [laws_heldStringS_p0_eq,tmarks_len]
   simp only [hlt,decide_true,if_true,Int.natCast_nonneg,Int.toNat_natCast,tmarks_get m0 n i (by omega),Option.bind_some,hw,hw2,markT_ok (m0 + i) (by omega),beq_self_eq_true,Bool.not_true,Bool.false_eq_true,if_false]
   exact heldStringS_loop m0 n h0 hb k (i + 1) (by omega)
theorem heldStringS_ok (m : Int) (n : Nat) (h0 : 0 ≤ m) (hb : m + n ≤ 4611686018427387) : laws_heldStringS (tmarks m n) m = some (m + n) := by
 rw [laws_heldStringS_eq]
 have := heldStringS_loop m n h0 hb n 0 (by omega)
 simpa using this
theorem eqStringS_ok (xs : List (List UInt8)) (hs : xs.length ≤ 1048576) : laws_eqStringS xs xs = some true :=
 eqList_ok xs (fun x y => some (x == y)) laws_eqStringS_p0 laws_eqStringS (fun i => laws_eqStringS_p0_eq xs xs i) (laws_eqStringS_eq xs xs) hs (fun x _ => by rw [beq_self_eq_true])
end Go.Ab.P
