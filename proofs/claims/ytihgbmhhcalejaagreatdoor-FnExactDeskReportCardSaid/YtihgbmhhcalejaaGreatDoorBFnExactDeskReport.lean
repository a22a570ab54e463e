/- Lemmas on functions of the program. Conditions: told in each. -/
import Derived.Test.YtihgbmhhcalejaaGreatDoorPFnExactDeskReport2
set_option linter.unusedVariables false
set_option linter.unusedSimpArgs false
namespace Go.Ab.P
open Go.Ab
theorem szLoop {α : Type} {P : α → Prop} (xs : List α) (sz1 : α → Int → Option Int) (p0 : List α → Int → Int → Option Int)
 (heq : ∀ (l i : Int),p0 xs l i = if decide (i < (xs.length : Int)) then (if decide (0 ≤ i) then (xs[i.toNat]?).bind fun x1 => (sz1 x1 l).bind fun x2 => if decide (x2 < 0) then some (-1) else p0 xs x2 (IntKind.i64.wrap (i + 1)) else none) else some l)
 (hs : xs.length ≤ 1048576) (h1 : ∀ x,x ∈ xs → ∀ l : Int,0 ≤ l → l ≤ 1048576 → ∃ n,sz1 x l = some n ∧ n ≤ l ∧ (0 ≤ n → P x)) :
 ∀ (k i : Nat) (l : Int),i + k = xs.length → 0 ≤ l → l ≤ 1048576 → ∃ n,p0 xs l i = some n ∧ n ≤ l ∧ (0 ≤ n → ∀ x,x ∈ xs.drop i → P x)
 | 0,i,l,hk,hl,hl' => by
   refine ⟨l,?_,Int.le_refl _,fun _ x hx => ?_⟩
   ·rw [heq]
    have : ¬ (i : Int) < (xs.length : Int) := by omega
    simp only [this,decide_false,Bool.false_eq_true,if_false]
   ·rw [List.drop_eq_nil_of_le (by omega)] at hx; cases hx
 | k + 1,i,l,hk,hl,hl' => by
   have hi : i < xs.length := by omega
   have hlt : (i : Int) < (xs.length : Int) := by omega
   obtain ⟨n,e1,e2,e3⟩ := h1 xs[i] (List.getElem_mem hi) l hl hl'
   rw [heq]
   simp only [hlt,decide_true,if_true,Int.natCast_nonneg,Int.toNat_natCast,List.getElem?_eq_getElem hi,Option.bind_some,e1]
   by_cases hn : n < 0
   ·simp only [hn,decide_true,if_true]
    exact ⟨-1,rfl,by omega,fun h => by omega⟩
   ·simp only [hn,decide_false,Bool.false_eq_true,if_false]
    have hw : IntKind.i64.wrap ((i : Int) + 1) = ((i + 1 : Nat) : Int) := by rw [w64 (by omega) (by omega)]; omega
    rw [hw]
    obtain ⟨q,f1,f2,f3⟩ := szLoop xs sz1 p0 heq hs h1 k (i + 1) n (by omega) (by omega) (by omega)
    refine ⟨q,f1,by omega,fun hq x hx => ?_⟩
    rw [List.drop_eq_getElem_cons hi] at hx
    rcases List.mem_cons.1 hx with rfl | hx
    ·exact e3 (by omega)
    ·exact f3 hq x hx
theorem szList {α : Type} {P : α → Prop} (xs : List α) (sz1 : α → Int → Option Int) (p0 : List α → Int → Int → Option Int) (szS : List α → Int → Option Int)
 (heq : ∀ (l i : Int),p0 xs l i = if decide (i < (xs.length : Int)) then (if decide (0 ≤ i) then (xs[i.toNat]?).bind fun x1 => (sz1 x1 l).bind fun x2 => if decide (x2 < 0) then some (-1) else p0 xs x2 (IntKind.i64.wrap (i + 1)) else none) else some l)
 (hS : ∀ l : Int,szS xs l = if decide (IntKind.i64.wrap (l - (xs.length : Int)) < 0) then some (-1) else p0 xs (IntKind.i64.wrap (l - (xs.length : Int))) 0)
 (hl : xs.length ≤ 9223372036854775807) (h1 : ∀ x,x ∈ xs → ∀ l : Int,0 ≤ l → l ≤ 1048576 → ∃ n,sz1 x l = some n ∧ n ≤ l ∧ (0 ≤ n → P x)) (l : Int) (h0 : 0 ≤ l) (h0' : l ≤ 1048576) :
 ∃ n,szS xs l = some n ∧ n ≤ l ∧ (0 ≤ n → xs.length ≤ 1048576 ∧ ∀ x,x ∈ xs → P x) := by
 rw [hS,w64 (n := l - xs.length) (by omega) (by omega)]
 by_cases hn : l - (xs.length : Int) < 0
 ·simp only [hn,decide_true,if_true]
  exact ⟨-1,rfl,by omega,fun h => by omega⟩
 ·simp only [hn,decide_false,Bool.false_eq_true,if_false]
  obtain ⟨q,f1,f2,f3⟩ := szLoop xs sz1 p0 heq (by omega) h1 xs.length 0 (l - xs.length) (by omega) (by omega) (by omega)
  exact ⟨q,f1,by omega,fun hq => ⟨by omega,fun x hx => f3 hq x hx⟩⟩
theorem toLoop {α : Type} (xs : List α) (to1 : α → Option α) (p0 : List α → Nat → Int → List α → Option (List α))
 (heq : ∀ (n : Nat) (i : Int) (r : List α),p0 xs n i r = if decide (i < (xs.length : Int)) then (if decide (0 ≤ i) then (xs[i.toNat]?).bind fun x1 => (to1 x1).bind fun x2 => if decide (0 ≤ i) && decide (i < (n : Int)) then (r[i.toNat]?).bind fun x3 => p0 xs n (IntKind.i64.wrap (i + 1)) (r.set i.toNat x2) else none else none) else some (r.take n))
 (hs : xs.length ≤ 1099511627776) (h1 : ∀ x,x ∈ xs → to1 x = some x) :
 ∀ (k i : Nat) (r : List α),i + k = xs.length → r.length = xs.length → r.take i = xs.take i → p0 xs xs.length i r = some xs
 | 0,i,r,hk,hr,ht => by
   rw [heq]
   have : ¬ (i : Int) < (xs.length : Int) := by omega
   simp only [this,decide_false,Bool.false_eq_true,if_false]
   have hi : i = xs.length := by omega
   rw [hi] at ht
   rw [ht,List.take_length]
 | k + 1,i,r,hk,hr,ht => by
   have hi : i < xs.length := by omega
   have hlt : (i : Int) < (xs.length : Int) := by omega
   have hw : IntKind.i64.wrap ((i : Int) + 1) = ((i + 1 : Nat) : Int) := by rw [w64 (by omega) (by omega)]; omega
   rw [heq]
   simp only [hlt,decide_true,if_true,Int.natCast_nonneg,Int.toNat_natCast,List.getElem?_eq_getElem hi,Option.bind_some,h1 xs[i] (List.getElem_mem hi),Bool.and_self,List.getElem?_eq_getElem (show i < r.length by omega),hw]
   refine toLoop xs to1 p0 heq hs h1 k (i + 1) (r.set i xs[i]) (by omega) (by simp [hr]) ?_
   rw [List.take_add_one,List.take_add_one,List.getElem?_set_self (by omega),List.getElem?_eq_getElem hi,List.take_set_of_le (by omega),ht]
theorem toList_ok {α : Type} (xs : List α) (z : α) (to1 : α → Option α) (p0 : List α → Nat → Int → List α → Option (List α)) (toS : List α → Option (List α))
 (heq : ∀ (n : Nat) (i : Int) (r : List α),p0 xs n i r = if decide (i < (xs.length : Int)) then (if decide (0 ≤ i) then (xs[i.toNat]?).bind fun x1 => (to1 x1).bind fun x2 => if decide (0 ≤ i) && decide (i < (n : Int)) then (r[i.toNat]?).bind fun x3 => p0 xs n (IntKind.i64.wrap (i + 1)) (r.set i.toNat x2) else none else none) else some (r.take n))
 (hS : toS xs = if decide (0 ≤ (xs.length : Int)) && decide ((xs.length : Int) ≤ (xs.length : Int)) && decide ((xs.length : Int).toNat < lim) then p0 xs ((List.replicate ((xs.length : Int).toNat) z).length) 0 (List.replicate ((xs.length : Int).toNat) z) else none)
 (hs : xs.length ≤ 1048576) (h1 : ∀ x,x ∈ xs → to1 x = some x) : toS xs = some xs := by
 rw [hS,lim_eq]
 have h2 : (xs.length : Int).toNat < 1099511627776 := by omega
 have h3 : (xs.length : Int) ≤ (xs.length : Int) := Int.le_refl _
 rw [decide_eq_true h2]
 simp only [h3,Int.natCast_nonneg,decide_true,Bool.and_self,if_true,Int.toNat_natCast,List.length_replicate]
 exact toLoop xs to1 p0 heq (by omega) h1 xs.length 0 _ (by omega) (by simp) (by simp)
theorem eqLoop {α : Type} (xs : List α) (eq1 : α → α → Option Bool) (p0 : List α → List α → Int → Option Bool)
 (heq : ∀ (i : Int),p0 xs xs i = if decide (i < (xs.length : Int)) then (if decide (0 ≤ i) then (xs[i.toNat]?).bind fun x1 => if decide (0 ≤ i) then (xs[i.toNat]?).bind fun x2 => (eq1 x1 x2).bind fun x3 => if (!x3) then some false else p0 xs xs (IntKind.i64.wrap (i + 1)) else none else none) else some true)
 (hs : xs.length ≤ 1048576) (h1 : ∀ x,x ∈ xs → eq1 x x = some true) : ∀ (k i : Nat),i + k = xs.length → p0 xs xs i = some true
 | 0,i,hk => by
   rw [heq]
   have : ¬ (i : Int) < (xs.length : Int) := by omega
   simp only [this,decide_false,Bool.false_eq_true,if_false]
 | k + 1,i,hk => by
   have hi : i < xs.length := by omega
   have hlt : (i : Int) < (xs.length : Int) := by omega
   have hw : IntKind.i64.wrap ((i : Int) + 1) = ((i + 1 : Nat) : Int) := by rw [w64 (by omega) (by omega)]; omega
   rw [heq]
   simp only [hlt,decide_true,if_true,Int.natCast_nonneg,Int.toNat_natCast,List.getElem?_eq_getElem hi,Option.bind_some,h1 xs[i] (List.getElem_mem hi),Bool.not_true,Bool.false_eq_true,if_false,hw]
   exact eqLoop xs eq1 p0 heq hs h1 k (i + 1) (by omega)
theorem eqList_ok {α : Type} (xs : List α) (eq1 : α → α → Option Bool) (p0 : List α → List α → Int → Option Bool) (eqS : List α → List α → Option Bool)
 (heq : ∀ (i : Int),p0 xs xs i = if decide (i < (xs.length : Int)) then (if decide (0 ≤ i) then (xs[i.toNat]?).bind fun x1 => if decide (0 ≤ i) then (xs[i.toNat]?).bind fun x2 => (eq1 x1 x2).bind fun x3 => if (!x3) then some false else p0 xs xs (IntKind.i64.wrap (i + 1)) else none else none) else some true)
 (hS : eqS xs xs = if ((xs.length : Int) != (xs.length : Int)) then some false else p0 xs xs 0)
 (hs : xs.length ≤ 1048576) (h1 : ∀ x,x ∈ xs → eq1 x x = some true) : eqS xs xs = some true := by
 rw [hS]
 simp only [bne_self_eq_false,Bool.false_eq_true,if_false]
 exact eqLoop xs eq1 p0 heq hs h1 xs.length 0 (by omega)
def sortedChk {α : Type} (ok : α → Bool) (id : α → List UInt8) : Option α → List α → Bool
 | _,[] => true
 | p,x :: r => ok x && ((match p with | none => true | some y => Op.bytesLess (id y) (id x)) && sortedChk ok id (some x) r)
theorem sortedLoopI {α : Type} (xs : List α) (one : α → Option Bool) (ok : α → Bool) (id : α → List UInt8) (p0 : Int → Option Bool) (last : Option Bool) (lb : Bool) (hlast : last = some lb)
 (heq : ∀ i : Int,p0 i = if decide (i < (xs.length : Int)) then (if decide (0 ≤ i) then (xs[i.toNat]?).bind fun x1 => (one x1).bind fun x2 => if (!x2) then some false else if decide (i > 0) then (if decide (0 ≤ IntKind.i64.wrap (i - 1)) then (xs[(IntKind.i64.wrap (i - 1)).toNat]?).bind fun x3 => if (!Op.bytesLess (id x3) (id x1)) then some false else p0 (IntKind.i64.wrap (i + 1)) else none) else p0 (IntKind.i64.wrap (i + 1)) else none) else last)
 (hs : xs.length ≤ 1048576) (h1 : ∀ x,x ∈ xs → one x = some (ok x)) :
 ∀ (k i : Nat),i + k = xs.length → p0 i = some (sortedChk ok id (if i = 0 then none else xs[i - 1]?) (xs.drop i) && lb)
 | 0,i,hk => by
   rw [heq,List.drop_eq_nil_of_le (by omega)]
   have : ¬ (i : Int) < (xs.length : Int) := by omega
   simp only [this,decide_false,Bool.false_eq_true,if_false,hlast,sortedChk,Bool.true_and]
 | k + 1,i,hk => by
   have hi : i < xs.length := by omega
   have hlt : (i : Int) < (xs.length : Int) := by omega
   have hw : IntKind.i64.wrap ((i : Int) + 1) = ((i + 1 : Nat) : Int) := by rw [w64 (by omega) (by omega)]; omega
   have ih := sortedLoopI xs one ok id p0 last lb hlast heq hs h1 k (i + 1) (by omega)
   rw [if_neg (by omega),Nat.add_sub_cancel,List.getElem?_eq_getElem hi] at ih
   rw [heq,List.drop_eq_getElem_cons hi]
   simp only [hlt,decide_true,if_true,Int.natCast_nonneg,Int.toNat_natCast,List.getElem?_eq_getElem hi,Option.bind_some,h1 xs[i] (List.getElem_mem hi),hw,ih,sortedChk]
   cases hok : ok xs[i]
   ·simp
   ·by_cases h0 : i = 0
    ·subst h0; simp
    ·have hp : (i : Int) > 0 := by omega
     have hw2 : IntKind.i64.wrap ((i : Int) - 1) = ((i - 1 : Nat) : Int) := by rw [w64 (by omega) (by omega)]; omega
     simp only [hp,decide_true,if_true,hw2,Int.natCast_nonneg,Int.toNat_natCast,List.getElem?_eq_getElem (show i - 1 < xs.length by omega),Option.bind_some,h0,if_false,Bool.not_true,Bool.false_eq_true]
     cases Op.bytesLess (id xs[i - 1]) (id xs[i]) <;> simp
theorem sortedLoopS {α : Type} (xs : List α) (one : α → Option Bool) (ok : α → Bool) (id : α → List UInt8) (p0 : Int → Option Bool) (last : Option Bool) (lb : Bool) (hlast : last = some lb)
 (heq : ∀ i : Int,p0 i = if decide (i < (xs.length : Int)) then (if decide (0 ≤ i) then (xs[i.toNat]?).bind fun x1 => (one x1).bind fun x2 => if (!x2) then some false else if decide (i > 0) then (if decide (0 ≤ IntKind.i64.wrap (i - 1)) then (xs[(IntKind.i64.wrap (i - 1)).toNat]?).bind fun x3 => if decide (0 ≤ i) then (xs[i.toNat]?).bind fun x4 => if (!Op.bytesLess (id x3) (id x4)) then some false else p0 (IntKind.i64.wrap (i + 1)) else none else none) else p0 (IntKind.i64.wrap (i + 1)) else none) else last)
 (hs : xs.length ≤ 1048576) (h1 : ∀ x,x ∈ xs → one x = some (ok x)) :
 ∀ (k i : Nat),i + k = xs.length → p0 i = some (sortedChk ok id (if i = 0 then none else xs[i - 1]?) (xs.drop i) && lb) := by
 refine sortedLoopI xs one ok id p0 last lb hlast (fun i => ?_) hs h1
 rw [heq]
 by_cases h : i < (xs.length : Int)
 ·by_cases h0 : 0 ≤ i
  ·simp only [h,h0,decide_true,if_true]
   cases xs[i.toNat]? <;> rfl
  ·simp only [h,h0,decide_true,decide_false,Bool.false_eq_true,if_true,if_false]
 ·simp only [h,decide_false,Bool.false_eq_true,if_false]
theorem wsucc {i : Nat} (h : i < 4611686018427387904) : IntKind.i64.wrap ((i : Int) + 1) = ((i + 1 : Nat) : Int) := by
 rw [w64 (by omega) (by omega)]; omega
theorem getElem?_lt {α : Type} {l : List α} {i : Nat} (h : i < l.length) : l[i]? = some l[i] := List.getElem?_eq_getElem h
theorem drop_cons {α : Type} {l : List α} {i : Nat} (h : i < l.length) : l.drop i = l[i] :: l.drop (i + 1) := List.drop_eq_getElem_cons h
theorem tdiv_nonneg_eq {a b : Int} (ha : 0 ≤ a) : a.tdiv b = a / b := Int.tdiv_eq_ediv_of_nonneg ha
theorem tmod_nonneg_eq {a b : Int} (ha : 0 ≤ a) : a.tmod b = a % b := Int.tmod_eq_emod_of_nonneg ha
def small (c : UInt8) : Bool := decide (97 ≤ (c.toNat : Int)) && decide ((c.toNat : Int) ≤ 122)
def digit (c : UInt8) : Bool := decide (48 ≤ (c.toNat : Int)) && decide ((c.toNat : Int) ≤ 57)
def isName (s : List UInt8) : Bool := match s with | [] => false | c :: r => small c && r.all (fun c => small c || digit c) && decide (s.length ≤ 10)
def inR (n lo hi : Int) : Bool := decide (lo ≤ n) && decide (n ≤ hi)
theorem inR_iff' {n lo hi : Int} : inR n lo hi = true ↔ lo ≤ n ∧ n ≤ hi := by simp [inR]
theorem impl_within_ok (n lo hi : Int) : impl_within n lo hi = some (inR n lo hi) := by
 rw [impl_within_eq,inR]; by_cases h : lo ≤ n <;> simp [h]
theorem spec_l00In_ok (n lo hi : Int) : spec_l00In n lo hi = some (inR n lo hi) := by
 rw [spec_l00In_eq,inR]; by_cases h : lo ≤ n <;> simp [h]
theorem spec_l01Small_ok (c : UInt8) : spec_l01Small (c.toNat : Int) = some (small c) := by
 rw [spec_l01Small_eq,small]; by_cases h : 97 ≤ (c.toNat : Int) <;> simp [h]
theorem spec_l01Digit_ok (c : UInt8) : spec_l01Digit (c.toNat : Int) = some (digit c) := by
 rw [spec_l01Digit_eq,digit]; by_cases h : 48 ≤ (c.toNat : Int) <;> simp [h]
theorem impl_isDigit_ok (c : UInt8) : impl_isDigit (c.toNat : Int) = some (digit c) := by
 rw [impl_isDigit_eq,digit]; by_cases h : 48 ≤ (c.toNat : Int) <;> simp [h]
theorem spec_l01Name_p1_ok (s : List UInt8) (hs : s.length < 4611686018427387904) : ∀ (k i : Nat),i + k = s.length → spec_l01Name_p1 s i = some ((s.drop i).all fun c => small c || digit c)
 | 0,i,h => by
   rw [spec_l01Name_p1_eq,List.drop_eq_nil_of_le (by omega)]
   simp; omega
 | k + 1,i,h => by
   have hi : i < s.length := by omega
   rw [spec_l01Name_p1_eq,drop_cons hi]
   have h1 : (i : Int) < (s.length : Int) := by omega
   simp only [h1,decide_true,if_true,Int.natCast_nonneg,Int.toNat_natCast,getElem?_lt hi,Option.bind_some,spec_l01Small_ok,spec_l01Digit_ok,wsucc (show i < 4611686018427387904 by omega),spec_l01Name_p1_ok s hs k (i + 1) (by omega),List.all_cons]
   cases small s[i] <;> cases digit s[i] <;> simp
theorem spec_l01Name_ok (s : List UInt8) (hs : s.length < 4611686018427387904) : spec_l01Name s = some (isName s) := by
 rw [spec_l01Name_eq]
 cases s with
 | nil => rfl
 | cons c r =>
   have := spec_l01Name_p1_ok (c :: r) hs (r.length + 1) 0 (by simp)
   simp only [spec_l01Name_p0_eq,List.getElem?_cons_zero,Option.bind_some,spec_l01Small_ok]
   rw [show ((0 : Nat) : Int) = 0 from rfl] at this
   rw [this,isName]
   have e0 : ((c :: r) == ([] : List UInt8)) = false := by simp
   by_cases hl : ((c :: r).length : Int) > 10
   ·have : ¬ (c :: r).length ≤ 10 := by omega
    simp only [e0,hl,this,decide_true,decide_false,if_true,Bool.false_eq_true,if_false,Bool.and_false]
   ·have : (c :: r).length ≤ 10 := by omega
    simp only [e0,hl,this,decide_true,decide_false,if_true,Bool.false_eq_true,if_false,Bool.and_true]
    cases hc : small c <;> simp [hc]
def okFrom : Nat → List UInt8 → Bool
 | _,[] => true
 | i,c :: r => (small c || (i != 0 && digit c)) && okFrom (i + 1) r
theorem okFrom_all (r : List UInt8) : ∀ i,okFrom (i + 1) r = r.all fun c => small c || digit c := by
 induction r with
 | nil => intro i; rfl
 | cons c r ih => intro i; simp [okFrom,ih]
theorem impl_IsName_p0_ok (s : List UInt8) (hs : s.length < 4611686018427387904) : ∀ (k i : Nat),i + k = s.length → impl_IsName_p0 s i = some (okFrom i (s.drop i) && (!(s == []) && decide (s.length ≤ 10)))
 | 0,i,h => by
   rw [impl_IsName_p0_eq,List.drop_eq_nil_of_le (by omega),impl_few_eq]
   have h1 : ¬ (i : Int) < (s.length : Int) := by omega
   simp only [h1,decide_false,Bool.false_eq_true,if_false,okFrom,Option.bind_some,Bool.true_and]
   cases s with
   | nil => rfl
   | cons c r =>
     have : ((c :: r == []) = false) := by simp
     simp only [this,Bool.not_false,if_true,Bool.true_and]
     congr 1
     simp only [decide_eq_decide]; omega
 | k + 1,i,h => by
   have hi : i < s.length := by omega
   have h1 : (i : Int) < (s.length : Int) := by omega
   have ih := impl_IsName_p0_ok s hs k (i + 1) (by omega)
   have e1 : ∀ b : Bool,impl_IsName_p1 s i b = some (((b || (i != 0 && digit s[i])) && okFrom (i + 1) (s.drop (i + 1))) && (!(s == []) && decide (s.length ≤ 10))) := by
    intro b
    rw [impl_IsName_p1_eq]
    simp only [Int.natCast_nonneg,decide_true,if_true,Int.toNat_natCast,getElem?_lt hi,Option.bind_some,impl_isDigit_ok,wsucc (show i < 4611686018427387904 by omega),ih]
    cases b
    ·by_cases h0 : i = 0
     ·subst h0; simp
     ·have : ((i : Int) == 0) = false := by simp [h0]
      have : (i != 0) = true := by simp [h0]
      simp only [*]
      cases digit s[i] <;> simp
    ·simp
   rw [impl_IsName_p0_eq,drop_cons hi,okFrom]
   simp only [h1,decide_true,if_true,Int.natCast_nonneg,Int.toNat_natCast,getElem?_lt hi,Option.bind_some,e1,small]
   by_cases h97 : (s[i].toNat : Int) ≥ 97 <;> simp [h97]
theorem impl_IsName_ok (s : List UInt8) (hs : s.length < 4611686018427387904) : impl_IsName s = some (isName s) := by
 rw [impl_IsName_eq]
 have := impl_IsName_p0_ok s hs s.length 0 (by simp)
 rw [show ((0 : Nat) : Int) = 0 from rfl] at this
 rw [this]
 cases s with
 | nil => rfl
 | cons c r => simp [okFrom,okFrom_all,isName]
theorem spec_l01Dec_p3_all (l : List Int) (hl : l.length ≤ 1000) : ∀ (k : Nat) (r : List Int),k ≤ l.length → r.length + k ≤ 1000 → spec_l01Dec_p3 ((k : Int) - 1) l r = some ((r ++ (l.take k).reverse).map vu8)
 | 0,r,hk,hr => by
   rw [spec_l01Dec_p3_eq]
   have : ¬ ((0 : Nat) : Int) - 1 ≥ 0 := by omega
   simp only [this,decide_false,Bool.false_eq_true,if_false,List.take_length,List.take_zero,List.reverse_nil,List.append_nil]
 | k + 1,r,hk,hr => by
   rw [spec_l01Dec_p3_eq,show ((k + 1 : Nat) : Int) - 1 = (k : Int) by omega]
   have h1 : (k : Int) ≥ 0 := by omega
   have h2 : (0 : Int) ≤ (k : Int) := by omega
   have h3 : (k : Int) < (l.length : Int) := by omega
   have h4 : r.length + 1 < lim := by rw [lim_eq]; omega
   have ih := spec_l01Dec_p3_all l hl k (r ++ [l[k]]) (by omega) (by simp; omega)
   simp only [h1,h2,h3,decide_true,Bool.and_self,if_true,Int.toNat_natCast,getElem?_lt (show k < l.length by omega),Option.bind_some,h4,List.take_length,w64 (n := (k : Int) - 1) (by omega) (by omega),ih]
   rw [List.take_succ_eq_append_getElem (by omega),List.reverse_append,List.append_assoc]; rfl
theorem spec_l01Dec_p2_all (l : List Int) (hl : l.length ≤ 900) : spec_l01Dec_p2 l = some (l.reverse.map vu8) := by
 rw [spec_l01Dec_p2_eq,w64 (n := (l.length : Int) - 1) (by omega) (by omega),spec_l01Dec_p3_all l (by omega) l.length [] (by omega) (by simp; omega),List.nil_append,List.take_length]
def revDigs (u : Nat) : List Int := (Lib.decDigits u).reverse.map fun c => (c.toNat : Int)
theorem decDigits_one {u : Nat} (h : u < 10) : Lib.decDigits u = [UInt8.ofNat (48 + u)] := by rw [Lib.decDigits,dif_pos h]
theorem decDigits_more {u : Nat} (h : ¬ u < 10) : Lib.decDigits u = Lib.decDigits (u / 10) ++ [UInt8.ofNat (48 + u % 10)] := by rw [Lib.decDigits,dif_neg h]
theorem dig48 {d : Nat} (h : d < 10) : ((UInt8.ofNat (48 + d)).toNat : Int) = 48 + (d : Int) := by
 have : (UInt8.ofNat (48 + d)).toNat = 48 + d := by simp; omega
 rw [this]; omega
theorem wrapU8 {n : Int} (h1 : 0 ≤ n) (h2 : n < 256) : IntKind.u8.wrap n = n := by
 simp only [IntKind.wrap,IntKind.bits,IntKind.signed]
 first
  | omega
  | (simp; omega)
theorem spec_l01Dec_p0_all (n : Int) : ∀ (k u : Nat) (v : Int) (r : List Int),(0 ≤ v ∧ v = (u : Int) ∨ v < 0 ∧ v = -(u : Int)) → u ≤ 2000000000000000000 → u < 10 ^ k → u ≠ 0 → (0 ≤ n ↔ 0 ≤ v) → r.length + k ≤ 800 →
 spec_l01Dec_p0 n v r = spec_l01Dec_p2 (r ++ revDigs u ++ if n < 0 then [45] else [])
 | 0,u,v,r,hv,hb,hu,hz,hn,hr => by simp at hu; omega
 | k + 1,u,v,r,hv,hb,hu,hz,hn,hr => by
   have hp : 10 ^ (k + 1) = 10 ^ k * 10 := Nat.pow_succ ..
   have hvz : (v != 0) = true := by
    have : v ≠ 0 := by omega
    simpa using this
   have h4 : r.length + 1 < lim := by rw [lim_eq]; omega
   have key : spec_l01Dec_p0 n v r = spec_l01Dec_p0 n (if v < 0 then -((u / 10 : Nat) : Int) else ((u / 10 : Nat) : Int)) (r ++ [48 + ((u % 10 : Nat) : Int)]) := by
    rw [spec_l01Dec_p0_eq]
    simp only [hvz,if_true]
    have wrapd : IntKind.u8.wrap (IntKind.i64.wrap (48 + ((u % 10 : Nat) : Int))) = 48 + ((u % 10 : Nat) : Int) := by
     rw [w64 (by omega) (by omega)]
     exact wrapU8 (by omega) (by omega)
    rcases hv with ⟨h0,e⟩ | ⟨h0,e⟩
    ·have hm : v.tmod 10 = ((u % 10 : Nat) : Int) := by rw [e,tmod_nonneg_eq (by omega)]; omega
     have hd : v.tdiv 10 = ((u / 10 : Nat) : Int) := by rw [e,tdiv_nonneg_eq (by omega)]; omega
     have hnn : ¬ ((u % 10 : Nat) : Int) < 0 := by omega
     have hnv : ¬ v < 0 := by omega
     simp only [hm,hnn,decide_false,Bool.false_eq_true,if_false,hnv,spec_l01Dec_p1_eq,h4,decide_true,if_true,List.take_length,hd,w64 (n := ((u / 10 : Nat) : Int)) (by omega) (by omega),wrapd]
    ·have hm : v.tmod 10 = -((u % 10 : Nat) : Int) := by
      rw [e,Int.neg_tmod,tmod_nonneg_eq (by omega)]; omega
     have hd : v.tdiv 10 = -((u / 10 : Nat) : Int) := by
      rw [e,Int.neg_tdiv,tdiv_nonneg_eq (by omega)]; omega
     have e0 : IntKind.i64.wrap (0 - -((u % 10 : Nat) : Int)) = ((u % 10 : Nat) : Int) := by rw [w64 (by omega) (by omega)]; omega
     by_cases hc : -((u % 10 : Nat) : Int) < 0
     ·simp only [hm,hc,decide_true,if_true,h0,spec_l01Dec_p1_eq,h4,List.take_length,hd,w64 (n := -((u / 10 : Nat) : Int)) (by omega) (by omega),e0,wrapd]
     ·have e1 : -((u % 10 : Nat) : Int) = ((u % 10 : Nat) : Int) := by omega
      have hc' : ¬ ((u % 10 : Nat) : Int) < 0 := by omega
      rw [e1] at hm
      simp only [hm,hc',decide_false,Bool.false_eq_true,if_false,h0,if_true,spec_l01Dec_p1_eq,h4,decide_true,List.take_length,hd,w64 (n := -((u / 10 : Nat) : Int)) (by omega) (by omega),wrapd]
   rw [key]
   by_cases hs : u < 10
   ·have hq : u / 10 = 0 := by omega
    have hz0 : (if v < 0 then -((u / 10 : Nat) : Int) else ((u / 10 : Nat) : Int)) = 0 := by rw [hq]; split <;> rfl
    have e2 : revDigs u = [48 + ((u % 10 : Nat) : Int)] := by
     rw [revDigs,decDigits_one hs,List.reverse_singleton,List.map_singleton,dig48 hs,Nat.mod_eq_of_lt hs]
    rw [hz0,spec_l01Dec_p0_eq,e2]
    have h5 : (r ++ [48 + ((u % 10 : Nat) : Int)]).length + 1 < lim := by rw [lim_eq]; simp; omega
    by_cases hn0 : n < 0
    ·simp only [bne_self_eq_false,Bool.false_eq_true,if_false,hn0,decide_true,if_true,h5,List.take_length]
    ·simp only [bne_self_eq_false,Bool.false_eq_true,if_false,hn0,decide_false,List.append_nil]
   ·have e2 : revDigs u = (48 + ((u % 10 : Nat) : Int)) :: revDigs (u / 10) := by
     rw [revDigs,decDigits_more hs,List.reverse_append,List.reverse_singleton,List.singleton_append,List.map_cons,dig48 (Nat.mod_lt u (by omega)),revDigs]
    rw [spec_l01Dec_p0_all n k (u / 10) _ (r ++ [48 + ((u % 10 : Nat) : Int)]) (by split <;> omega) (by omega) (by omega) (by omega) (by split <;> omega) (by simp; omega),e2]
    simp only [List.append_assoc,List.singleton_append,List.cons_append,List.nil_append]
theorem revDigs_back (u : Nat) : (revDigs u).reverse.map vu8 = Lib.decDigits u := by
 rw [revDigs,← List.map_reverse,List.reverse_reverse,List.map_map]
 conv => rhs; rw [← List.map_id (Lib.decDigits u)]
 exact List.map_congr_left fun c _ => by simp [vu8]
theorem decLen : ∀ (k u : Nat),u < 10 ^ (k + 1) → (Lib.decDigits u).length ≤ k + 1
 | 0,u,h => by rw [decDigits_one (by simpa using h)]; simp
 | k + 1,u,h => by
   by_cases hs : u < 10
   ·rw [decDigits_one hs]; simp
   ·have hp : 10 ^ (k + 1 + 1) = 10 ^ (k + 1) * 10 := Nat.pow_succ ..
    have := decLen k (u / 10) (by omega)
    rw [decDigits_more hs,List.length_append,List.length_singleton]; omega
theorem revDigs_len (u : Nat) (h : u ≤ 2000000000000000000) : (revDigs u).length ≤ 20 := by
 rw [revDigs,List.length_map,List.length_reverse]
 have h10 : (10 : Nat) ^ (19 + 1) = 100000000000000000000 := by decide
 exact decLen 19 u (by omega)
theorem spec_l01Dec_itoa (n : Int) (h : -2000000000000000000 ≤ n ∧ n ≤ 2000000000000000000) : spec_l01Dec n = some (Lib.itoa n) := by
 rw [spec_l01Dec_eq]
 by_cases hz : n = 0
 ·subst hz; simp only [beq_self_eq_true,if_true]; rw [Lib.itoa,if_neg (by decide),show (0 : Int).toNat = 0 from rfl,decDigits_one (by decide)]; rfl
 have hz' : (n == 0) = false := by simpa using hz
 simp only [hz',Bool.false_eq_true,if_false]
 have hu : n.natAbs < 10 ^ 20 := by
  have : (10 : Nat) ^ 20 = 100000000000000000000 := by decide
  omega
 rw [spec_l01Dec_p0_all n 20 n.natAbs n [] (by omega) (by omega) hu (by omega) Iff.rfl (by simp),spec_l01Dec_p2_all _ (by
  have := revDigs_len n.natAbs (by omega)
  rw [List.nil_append,List.length_append]
  split <;> simp <;> omega)]
 rw [List.nil_append,List.reverse_append,List.map_append,revDigs_back]
 unfold Lib.itoa
 by_cases hn : n < 0
 ·rw [if_pos hn,if_pos hn]; rfl
 ·rw [if_neg hn,if_neg hn,show n.toNat = n.natAbs by omega]; rfl
theorem impl_Decimal_ok (n : Int) (h : -9223372036854775808 ≤ n ∧ n ≤ 9223372036854775807) : impl_Decimal n = some (Lib.itoa n) := by
 rw [impl_Decimal_eq,strconv_FormatInt_eq]
 simp [h.1,h.2]
theorem eqInt64S_loop (xs : List Int) (hs : xs.length ≤ 1048576) : ∀ (k i : Nat),i + k = xs.length → laws_eqInt64S_p0 xs xs i = some true
 | 0,i,hk => by
   rw [laws_eqInt64S_p0_eq]
   have : ¬ (i : Int) < (xs.length : Int) := by omega
   simp only [this,decide_false,Bool.false_eq_true,if_false]
 | k + 1,i,hk => by
   have hi : i < xs.length := by omega
   have hlt : (i : Int) < (xs.length : Int) := by omega
   have hw : IntKind.i64.wrap ((i : Int) + 1) = ((i + 1 : Nat) : Int) := by rw [w64 (by omega) (by omega)]; omega
   rw [laws_eqInt64S_p0_eq]
   simp only [hlt,decide_true,if_true,Int.natCast_nonneg,Int.toNat_natCast,List.getElem?_eq_getElem hi,Option.bind_some,bne_self_eq_false,Bool.false_eq_true,if_false,hw]
   exact eqInt64S_loop xs hs k (i + 1) (by omega)
theorem eqInt64S_ok (xs : List Int) (hs : xs.length ≤ 1048576) : laws_eqInt64S xs xs = some true := by
 rw [laws_eqInt64S_eq]
 simp only [bne_self_eq_false,Bool.false_eq_true,if_false]
 exact eqInt64S_loop xs hs xs.length 0 (by omega)
def runs (m : Int) : Nat → List Int
 | 0 => []
 | n + 1 => m :: runs (m + 1) n
theorem runs_len (m : Int) (n : Nat) : (runs m n).length = n := by
 induction n generalizing m with
 | zero => rfl
 | succ n ih => simp [runs,ih]
theorem runs_get (m : Int) (n i : Nat) (h : i < n) : (runs m n)[i]? = some (m + i) := by
 induction n generalizing m i with
 | zero => omega
 | succ n ih =>
   cases i with
   | zero => simp [runs]
   | succ i =>
     simp only [runs,List.getElem?_cons_succ]
     rw [ih (m + 1) i (by omega)]
     congr 1; omega
theorem markInt64S_loop (m0 : Int) (n : Nat) (h0 : 0 ≤ m0) (hb : m0 + n ≤ 4611686018429000000) : ∀ (k i : Nat) (r : List Int),i + k = n → r.length = n → r.take i = (runs m0 n).take i →
 laws_markInt64S_p0 n n (m0 + i) i r = some (m0 + n,runs m0 n)
 | 0,i,r,hk,hr,ht => by
   rw [laws_markInt64S_p0_eq]
   have : ¬ (i : Int) < (n : Int) := by omega
   simp only [this,decide_false,Bool.false_eq_true,if_false,hr,decide_true,if_true]
   have hi : i = n := by omega
   have e : r = runs m0 n := by
    have h1 : r.take i = r := List.take_of_length_le (by omega)
    have h2 : (runs m0 n).take i = runs m0 n := List.take_of_length_le (by rw [runs_len]; omega)
    rw [h1,h2] at ht; exact ht
   rw [e,hi]
 | k + 1,i,r,hk,hr,ht => by
   have hi : i < r.length := by omega
   have hlt : (i : Int) < (n : Int) := by omega
   have hw : IntKind.i64.wrap ((i : Int) + 1) = ((i + 1 : Nat) : Int) := by rw [w64 (by omega) (by omega)]; omega
   have hw2 : IntKind.i64.wrap (m0 + i + 1) = m0 + ((i + 1 : Nat) : Int) := by rw [w64 (by omega) (by omega)]; omega
   rw [laws_markInt64S_p0_eq]
   simp only [hlt,decide_true,if_true,Int.natCast_nonneg,Int.toNat_natCast,List.getElem?_eq_getElem hi,Option.bind_some,Bool.and_self,hw,hw2]
   refine markInt64S_loop m0 n h0 hb k (i + 1) (r.set i (m0 + i)) (by omega) (by simp [hr]) ?_
   rw [List.take_add_one,List.take_add_one,List.getElem?_set_self hi,runs_get m0 n i (by omega),List.take_set_of_le (by omega),ht]
theorem markInt64S_ok (xs : List Int) (m : Int) (h0 : 0 ≤ m) (hb : m + xs.length ≤ 4611686018429000000) : laws_markInt64S xs m = some (m + xs.length,runs m xs.length) := by
 rw [laws_markInt64S_eq]
 have := markInt64S_loop m xs.length h0 hb xs.length 0 xs (by omega) rfl rfl
 simpa using this
theorem markText_p0_ok : ∀ (k : Nat) (n : Int) (s : List UInt8),n.toNat < k → 0 ≤ n → n ≤ 4611686018427387904 → s.length + k ≤ 9223372036854775000 → ∃ t,laws_markText_p0 n s = some t
 | 0,n,s,hk,h0,h1,hs => by omega
 | k + 1,n,s,hk,h0,h1,hs => by
   rw [laws_markText_p0_eq]
   by_cases hp : n > 0
   ·simp only [hp,decide_true,if_true]
    have e : n.tdiv 10 = n / 10 := tdiv_nonneg_eq h0
    rw [e,w64 (n := n / 10) (by omega) (by omega)]
    have hl : ([IntKind.u8.wrap (IntKind.i64.wrap (48 + (n.tmod 10)))].map vu8).length + s.length ≤ strMax := by rw [strMax_eq]; simp; omega
    simp only [hl,decide_true,if_true]
    exact markText_p0_ok k (n / 10) _ (by omega) (by omega) (by omega) (by simp; omega)
   ·have hl : [(109 : UInt8)].length + s.length ≤ strMax := by rw [strMax_eq]; simp; omega
    refine ⟨[(109 : UInt8)] ++ s,?_⟩
    simp only [hp,decide_false,Bool.false_eq_true,if_false]
    exact if_pos (decide_eq_true hl)
theorem markText_ok (n : Int) (h : n ≤ 4611686018427387904) : ∃ t,laws_markText n = some t := by
 rw [laws_markText_eq]
 by_cases h0 : n ≤ 0
 ·simp only [h0,decide_true,if_true]; exact ⟨_,rfl⟩
 ·simp only [h0,decide_false,Bool.false_eq_true,if_false]
  exact markText_p0_ok (n.toNat + 1) n [] (by omega) (by omega) h (by simp; omega)
theorem decDigits_len : ∀ (k u : Nat),u < 10 ^ (k + 1) → (Lib.decDigits u).length ≤ k + 1 ∧ 1 ≤ (Lib.decDigits u).length
 | 0,u,h => by
   rw [Lib.decDigits,dif_pos (by simpa using h)]; simp
 | k + 1,u,h => by
   rw [Lib.decDigits]
   split
   ·simp
   ·have hq : u / 10 < 10 ^ (k + 1) := by
     have : 10 ^ (k + 1 + 1) = 10 ^ (k + 1) * 10 := Nat.pow_succ ..
     omega
    have := decDigits_len k (u / 10) hq
    simp only [List.length_append,List.length_singleton]
    omega
theorem itoa_len (n : Int) (h : -1000000000000 ≤ n ∧ n ≤ 1000000000000) : 1 ≤ (Lib.itoa n).length ∧ (Lib.itoa n).length ≤ 15 := by
 have e13 : (10 : Nat) ^ (13 + 1) = 100000000000000 := by decide
 unfold Lib.itoa
 split
 ·have := decDigits_len 13 n.natAbs (by omega)
  simp; omega
 ·have := decDigits_len 13 n.toNat (by omega)
  omega
def neckOk (x : T_Neck.ty) : Bool := inR x.1 100 10000 && (inR x.2.1 100 10000 && (inR x.2.2.1 0 500 && inR x.2.2.2.1 0 300))
theorem impl_ValidNeck_ok (x : T_Neck.ty) : impl_ValidNeck x = some (neckOk x) := by
 rw [impl_ValidNeck_eq,neckOk]
 simp only [impl_within_ok,Option.bind_some]
 cases inR x.1 100 10000 <;> cases inR x.2.1 100 10000 <;> cases inR x.2.2.1 0 500 <;> simp
theorem spec_l10Ok_ok (x : T_Neck.ty) : spec_l10Ok x = some (neckOk x) := by
 rw [spec_l10Ok_eq,neckOk]
 simp only [spec_l10Size_eq,spec_l00In_ok,Option.bind_some]
 cases inR x.1 100 10000 <;> cases inR x.2.1 100 10000 <;> cases inR x.2.2.1 0 500 <;> simp
def potOk (id : List UInt8) (dry water heat hours : Int) : Bool :=
 isName id && (inR dry 1 10000 && (inR water 1 10000 && (inR heat 20 95 && inR hours 0 1000)))
theorem spec_l14One_ok (id : List UInt8) (dry water heat hours : Int) (hs : id.length < 4611686018427387904) : spec_l14One (id,dry,water,heat,hours,()) = some (potOk id dry water heat hours) := by
 rw [spec_l14One_eq,potOk]
 simp only [spec_l01Name_ok id hs,spec_l14Grams_eq,spec_l14Heat_eq,spec_l00In_ok,Option.bind_some]
 cases isName id <;> cases inR dry 1 10000 <;> cases inR water 1 10000 <;> cases inR heat 20 95 <;> simp
theorem impl_Pot_valid_ok (id : List UInt8) (dry water heat hours : Int) (hs : id.length < 4611686018427387904) : impl_Pot_valid (id,dry,water,heat,hours,()) = some (potOk id dry water heat hours) := by
 rw [impl_Pot_valid_eq,potOk]
 simp only [impl_IsName_ok id hs,impl_isGrams_eq,impl_isHeat_eq,impl_within_ok,Option.bind_some]
 cases isName id <;> cases inR dry 1 10000 <;> cases inR water 1 10000 <;> cases inR heat 20 95 <;> simp
theorem szPot_ok (x : T_Pot.ty) (hx : x.1.length ≤ 9223372036854775807) (l : Int) (h0 : 0 ≤ l) (h1 : l ≤ 1048576) : ∃ n,laws_szPot x l = some n ∧ n ≤ l ∧ (0 ≤ n → x.1.length ≤ 1048576) := by
 rw [laws_szPot_eq,w64 (n := l - x.1.length) (by omega) (by omega)]
 by_cases hn : l - (x.1.length : Int) < 0
 ·simp only [hn,decide_true,if_true]; exact ⟨-1,rfl,by omega,fun h => by omega⟩
 ·simp only [hn,decide_false,Bool.false_eq_true,if_false]; exact ⟨_,rfl,by omega,fun h => by omega⟩
theorem eqPot_self (x : T_Pot.ty) : laws_eqPot x x = some true := by
 rw [laws_eqPot_eq]; simp
theorem szPotS_ok (xs : List T_Pot.ty) (hl : xs.length ≤ 9223372036854775807) (hx : ∀ x,x ∈ xs → x.1.length ≤ 9223372036854775807) (l : Int) (h0 : 0 ≤ l) (h1 : l ≤ 1048576) :
 ∃ n,laws_szPotS xs l = some n ∧ n ≤ l ∧ (0 ≤ n → xs.length ≤ 1048576 ∧ ∀ x,x ∈ xs → x.1.length ≤ 1048576) :=
 szList (P := fun x : T_Pot.ty => x.1.length ≤ 1048576) xs laws_szPot laws_szPotS_p0 laws_szPotS (fun l i => laws_szPotS_p0_eq xs l i) (fun l => laws_szPotS_eq xs l) hl (fun x hm l h0 h1 => szPot_ok x (hx x hm) l h0 h1) l h0 h1
theorem toPotS_ok (xs : List T_Pot.ty) (hs : xs.length ≤ 1048576) : laws_toPotS xs = some xs :=
 toList_ok xs _ laws_toPot laws_toPotS_p0 laws_toPotS (fun n i r => laws_toPotS_p0_eq xs n i r) (laws_toPotS_eq xs) hs (fun x _ => laws_toPot_eq x)
theorem eqPotS_ok (xs : List T_Pot.ty) (hs : xs.length ≤ 1048576) : laws_eqPotS xs xs = some true :=
 eqList_ok xs laws_eqPot laws_eqPotS_p0 laws_eqPotS (fun i => laws_eqPotS_p0_eq xs xs i) (laws_eqPotS_eq xs xs) hs (fun x _ => eqPot_self x)
def potOkT (x : T_Pot.ty) : Bool := potOk x.1 x.2.1 x.2.2.1 x.2.2.2.1 x.2.2.2.2.1
def potsOk (xs : List T_Pot.ty) : Bool := sortedChk potOkT (fun x => x.1) none xs && decide ((xs.length : Int) ≤ 8)
theorem spec_l14Ok_ok (xs : List T_Pot.ty) (hs : xs.length ≤ 1048576) (hx : ∀ x,x ∈ xs → x.1.length ≤ 1048576) : spec_l14Ok xs = some (potsOk xs) := by
 rw [spec_l14Ok_eq]
 have := sortedLoopS xs spec_l14One potOkT (fun x => x.1) (fun i => spec_l14Ok_p0 xs i) _ _ rfl (fun i => spec_l14Ok_p0_eq xs i) hs (fun x hm => spec_l14One_ok x.1 x.2.1 x.2.2.1 x.2.2.2.1 x.2.2.2.2.1 (by have := hx x hm; omega)) xs.length 0 (by omega)
 exact this
theorem impl_ValidPots_ok (xs : List T_Pot.ty) (hs : xs.length ≤ 1048576) (hx : ∀ x,x ∈ xs → x.1.length ≤ 1048576) : impl_ValidPots xs = some (potsOk xs) := by
 rw [impl_ValidPots_eq]
 have := sortedLoopI xs impl_Pot_valid potOkT (fun x => x.1) (fun i => impl_ValidPots_p0 xs xs xs.length i) _ _ (show ((impl_few (xs.length : Int) 8).bind fun x4 => some x4) = some (decide ((xs.length : Int) ≤ 8)) by rw [impl_few_eq]; rfl) (fun i => impl_ValidPots_p0_eq xs xs xs.length i) hs (fun x hm => impl_Pot_valid_ok x.1 x.2.1 x.2.2.1 x.2.2.2.1 x.2.2.2.2.1 (by have := hx x hm; omega)) xs.length 0 (by omega)
 exact this
noncomputable def markT (n : Int) : List UInt8 := (laws_markText n).getD []
noncomputable def tmarks (m : Int) : Nat → List (List UInt8)
 | 0 => []
 | n + 1 => markT m :: tmarks (m + 1) n
theorem markT_ok (n : Int) (h : n < 4611686018427387904) : laws_markText n = some (markT n) := by
 obtain ⟨t,e⟩ := markText_ok n (Int.le_of_lt h)
 rw [markT,e]; rfl
theorem tmarks_len (m : Int) (n : Nat) : (tmarks m n).length = n := by
 induction n generalizing m with
 | zero => rfl
 | succ n ih => simp [tmarks,ih]
theorem tmarks_get (m : Int) (n i : Nat) (h : i < n) : (tmarks m n)[i]? = some (markT (m + i)) := by
 induction n generalizing m i with
 | zero => omega
 | succ n ih =>
   cases i with
   | zero => simp [tmarks]
   | succ i =>
     simp only [tmarks,List.getElem?_cons_succ]
     rw [ih (m + 1) i (by omega)]
     congr 2; omega
theorem markStringS_loop (m0 : Int) (n : Nat) (h0 : 0 ≤ m0) (hb : m0 + n ≤ 4611686018427387) : ∀ (k i : Nat) (r : List (List UInt8)),i + k = n → r.length = n → r.take i = (tmarks m0 n).take i →
 laws_markStringS_p0 n n (m0 + i) i r = some (m0 + n,tmarks m0 n)
 | 0,i,r,hk,hr,ht => by
   rw [laws_markStringS_p0_eq]
   have : ¬ (i : Int) < (n : Int) := by omega
   simp only [this,decide_false,Bool.false_eq_true,if_false,hr,decide_true,if_true]
   have hi : i = n := by omega
   have e : r = tmarks m0 n := by
    have h1 : r.take i = r := List.take_of_length_le (by omega)
    have h2 : (tmarks m0 n).take i = tmarks m0 n := List.take_of_length_le (by rw [tmarks_len]; omega)
    rw [h1,h2] at ht; exact ht
   rw [e,hi]
 | k + 1,i,r,hk,hr,ht => by
   have hi : i < r.length := by omega
   have hlt : (i : Int) < (n : Int) := by omega
   have hw : IntKind.i64.wrap ((i : Int) + 1) = ((i + 1 : Nat) : Int) := by rw [w64 (by omega) (by omega)]; omega
   have hw2 : IntKind.i64.wrap (m0 + i + 1) = m0 + ((i + 1 : Nat) : Int) := by rw [w64 (by omega) (by omega)]; omega
   rw [laws_markStringS_p0_eq]
   simp only [hlt,decide_true,if_true,Int.natCast_nonneg,Int.toNat_natCast,List.getElem?_eq_getElem hi,Option.bind_some,Bool.and_self,hw,hw2,markT_ok (m0 + i) (by omega)]
   refine markStringS_loop m0 n h0 hb k (i + 1) (r.set i (markT (m0 + i))) (by omega) (by simp [hr]) ?_
   rw [List.take_add_one,List.take_add_one,List.getElem?_set_self hi,tmarks_get m0 n i (by omega),List.take_set_of_le (by omega),ht]
theorem markStringS_ok (xs : List (List UInt8)) (m : Int) (h0 : 0 ≤ m) (hb : m + xs.length ≤ 4611686018427387) : laws_markStringS xs m = some (m + xs.length,tmarks m xs.length) := by
 rw [laws_markStringS_eq]
 have := markStringS_loop m xs.length h0 hb xs.length 0 xs (by omega) rfl rfl
 simpa using this
theorem heldStringS_loop (m0 : Int) (n : Nat) (h0 : 0 ≤ m0) (hb : m0 + n ≤ 4611686018427387) : ∀ (k i : Nat),i + k = n → laws_heldStringS_p0 (tmarks m0 n) (m0 + i) i = some (m0 + n)
 | 0,i,hk => by
   rw [laws_heldStringS_p0_eq,tmarks_len]
   have : ¬ (i : Int) < (n : Int) := by omega
   simp only [this,decide_false,Bool.false_eq_true,if_false]
   congr 1; omega
 | k + 1,i,hk => by
   have hlt : (i : Int) < (n : Int) := by omega
   have hw : IntKind.i64.wrap ((i : Int) + 1) = ((i + 1 : Nat) : Int) := by rw [w64 (by omega) (by omega)]; omega
   have hw2 : IntKind.i64.wrap (m0 + i + 1) = m0 + ((i + 1 : Nat) : Int) := by rw [w64 (by omega) (by omega)]; omega
   rw [laws_heldStringS_p0_eq,tmarks_len]
   simp only [hlt,decide_true,if_true,Int.natCast_nonneg,Int.toNat_natCast,tmarks_get m0 n i (by omega),Option.bind_some,hw,hw2,markT_ok (m0 + i) (by omega),beq_self_eq_true,Bool.not_true,Bool.false_eq_true,if_false]
   exact heldStringS_loop m0 n h0 hb k (i + 1) (by omega)
theorem heldStringS_ok (m : Int) (n : Nat) (h0 : 0 ≤ m) (hb : m + n ≤ 4611686018427387) : laws_heldStringS (tmarks m n) m = some (m + n) := by
 rw [laws_heldStringS_eq]
 have := heldStringS_loop m n h0 hb n 0 (by omega)
 simpa using this
theorem eqStringS_ok (xs : List (List UInt8)) (hs : xs.length ≤ 1048576) : laws_eqStringS xs xs = some true :=
 eqList_ok xs (fun x y => some (x == y)) laws_eqStringS_p0 laws_eqStringS (fun i => laws_eqStringS_p0_eq xs xs i) (laws_eqStringS_eq xs xs) hs (fun x _ => by rw [beq_self_eq_true])
theorem szOne {α : Type} (n : Nat) (f : α → Int → Option Int) (x : α) (hx : n ≤ 9223372036854775807) (l : Int) (h : f x l = if decide (IntKind.i64.wrap (l - (n : Int)) < 0) then some (-1) else some (IntKind.i64.wrap (l - (n : Int)))) (h0 : 0 ≤ l) (h1 : l ≤ 1048576) :
 ∃ r,f x l = some r ∧ r ≤ l ∧ (0 ≤ r → n ≤ 1048576) := by
 rw [h,w64 (n := l - n) (by omega) (by omega)]
 by_cases hn : l - (n : Int) < 0
 ·simp only [hn,decide_true,if_true]; exact ⟨-1,rfl,by omega,fun h => by omega⟩
 ·simp only [hn,decide_false,Bool.false_eq_true,if_false]; exact ⟨_,rfl,by omega,fun h => by omega⟩
theorem szTwo {α : Type} (n m : Nat) (f : α → Int → Option Int) (x : α) (hx : n ≤ 9223372036854775807) (hm : m ≤ 9223372036854775807) (l : Int) (h : f x l = if decide (IntKind.i64.wrap (l - (n : Int)) < 0) then some (-1) else if decide (IntKind.i64.wrap ((IntKind.i64.wrap (l - (n : Int))) - (m : Int)) < 0) then some (-1) else some (IntKind.i64.wrap ((IntKind.i64.wrap (l - (n : Int))) - (m : Int)))) (h0 : 0 ≤ l) (h1 : l ≤ 1048576) :
 ∃ r,f x l = some r ∧ r ≤ l ∧ (0 ≤ r → n ≤ 1048576 ∧ m ≤ 1048576) := by
 rw [h,w64 (n := l - n) (by omega) (by omega)]
 by_cases hn : l - (n : Int) < 0
 ·simp only [hn,decide_true,if_true]; exact ⟨-1,rfl,by omega,fun h => by omega⟩
 simp only [hn,decide_false,Bool.false_eq_true,if_false]
 rw [w64 (n := l - n - m) (by omega) (by omega)]
 by_cases hn2 : l - (n : Int) - m < 0
 ·simp only [hn2,decide_true,if_true]; exact ⟨-1,rfl,by omega,fun h => by omega⟩
 ·simp only [hn2,decide_false,Bool.false_eq_true,if_false]; exact ⟨_,rfl,by omega,fun h => ⟨by omega,by omega⟩⟩
theorem szStack_ok (x : T_Peg.ty) (hx : x.1.length ≤ 9223372036854775807) (l : Int) (h0 : 0 ≤ l) (h1 : l ≤ 1048576) : ∃ n,laws_szStack x l = some n ∧ n ≤ l ∧ (0 ≤ n → x.1.length ≤ 1048576) :=
 szOne (List.length (α := UInt8) x.1) laws_szStack x hx l (laws_szStack_eq x l) h0 h1
theorem szStackS_ok (xs : List T_Peg.ty) (hl : xs.length ≤ 9223372036854775807) (hx : ∀ x,x ∈ xs → x.1.length ≤ 9223372036854775807) (l : Int) (h0 : 0 ≤ l) (h1 : l ≤ 1048576) :
 ∃ n,laws_szStackS xs l = some n ∧ n ≤ l ∧ (0 ≤ n → xs.length ≤ 1048576 ∧ ∀ x,x ∈ xs → x.1.length ≤ 1048576) :=
 szList (P := fun x : T_Peg.ty => x.1.length ≤ 1048576) xs laws_szStack laws_szStackS_p0 laws_szStackS (fun l i => laws_szStackS_p0_eq xs l i) (fun l => laws_szStackS_eq xs l) hl (fun x hm l h0 h1 => szStack_ok x (hx x hm) l h0 h1) l h0 h1
theorem szRib_ok (x : T_Mode.ty) (hx : x.1.length ≤ 9223372036854775807) (l : Int) (h0 : 0 ≤ l) (h1 : l ≤ 1048576) : ∃ n,laws_szRib x l = some n ∧ n ≤ l ∧ (0 ≤ n → x.1.length ≤ 1048576) :=
 szOne (List.length (α := UInt8) x.1) laws_szRib x hx l (laws_szRib_eq x l) h0 h1
theorem szRibS_ok (xs : List T_Mode.ty) (hl : xs.length ≤ 9223372036854775807) (hx : ∀ x,x ∈ xs → x.1.length ≤ 9223372036854775807) (l : Int) (h0 : 0 ≤ l) (h1 : l ≤ 1048576) :
 ∃ n,laws_szRibS xs l = some n ∧ n ≤ l ∧ (0 ≤ n → xs.length ≤ 1048576 ∧ ∀ x,x ∈ xs → x.1.length ≤ 1048576) :=
 szList (P := fun x : T_Mode.ty => x.1.length ≤ 1048576) xs laws_szRib laws_szRibS_p0 laws_szRibS (fun l i => laws_szRibS_p0_eq xs l i) (fun l => laws_szRibS_eq xs l) hl (fun x hm l h0 h1 => szRib_ok x (hx x hm) l h0 h1) l h0 h1
theorem szPeg_ok (x : T_Peg.ty) (hx : x.1.length ≤ 9223372036854775807) (l : Int) (h0 : 0 ≤ l) (h1 : l ≤ 1048576) : ∃ n,laws_szPeg x l = some n ∧ n ≤ l ∧ (0 ≤ n → x.1.length ≤ 1048576) :=
 szOne (List.length (α := UInt8) x.1) laws_szPeg x hx l (laws_szPeg_eq x l) h0 h1
theorem szPegS_ok (xs : List T_Peg.ty) (hl : xs.length ≤ 9223372036854775807) (hx : ∀ x,x ∈ xs → x.1.length ≤ 9223372036854775807) (l : Int) (h0 : 0 ≤ l) (h1 : l ≤ 1048576) :
 ∃ n,laws_szPegS xs l = some n ∧ n ≤ l ∧ (0 ≤ n → xs.length ≤ 1048576 ∧ ∀ x,x ∈ xs → x.1.length ≤ 1048576) :=
 szList (P := fun x : T_Peg.ty => x.1.length ≤ 1048576) xs laws_szPeg laws_szPegS_p0 laws_szPegS (fun l i => laws_szPegS_p0_eq xs l i) (fun l => laws_szPegS_eq xs l) hl (fun x hm l h0 h1 => szPeg_ok x (hx x hm) l h0 h1) l h0 h1
theorem szMode_ok (x : T_Mode.ty) (hx : x.1.length ≤ 9223372036854775807) (l : Int) (h0 : 0 ≤ l) (h1 : l ≤ 1048576) : ∃ n,laws_szMode x l = some n ∧ n ≤ l ∧ (0 ≤ n → x.1.length ≤ 1048576) :=
 szOne (List.length (α := UInt8) x.1) laws_szMode x hx l (laws_szMode_eq x l) h0 h1
theorem szModeS_ok (xs : List T_Mode.ty) (hl : xs.length ≤ 9223372036854775807) (hx : ∀ x,x ∈ xs → x.1.length ≤ 9223372036854775807) (l : Int) (h0 : 0 ≤ l) (h1 : l ≤ 1048576) :
 ∃ n,laws_szModeS xs l = some n ∧ n ≤ l ∧ (0 ≤ n → xs.length ≤ 1048576 ∧ ∀ x,x ∈ xs → x.1.length ≤ 1048576) :=
 szList (P := fun x : T_Mode.ty => x.1.length ≤ 1048576) xs laws_szMode laws_szModeS_p0 laws_szModeS (fun l i => laws_szModeS_p0_eq xs l i) (fun l => laws_szModeS_eq xs l) hl (fun x hm l h0 h1 => szMode_ok x (hx x hm) l h0 h1) l h0 h1
theorem szWork_ok (x : T_Peg.ty) (hx : x.1.length ≤ 9223372036854775807) (l : Int) (h0 : 0 ≤ l) (h1 : l ≤ 1048576) : ∃ n,laws_szWork x l = some n ∧ n ≤ l ∧ (0 ≤ n → x.1.length ≤ 1048576) :=
 szOne (List.length (α := UInt8) x.1) laws_szWork x hx l (laws_szWork_eq x l) h0 h1
theorem szWorkS_ok (xs : List T_Peg.ty) (hl : xs.length ≤ 9223372036854775807) (hx : ∀ x,x ∈ xs → x.1.length ≤ 9223372036854775807) (l : Int) (h0 : 0 ≤ l) (h1 : l ≤ 1048576) :
 ∃ n,laws_szWorkS xs l = some n ∧ n ≤ l ∧ (0 ≤ n → xs.length ≤ 1048576 ∧ ∀ x,x ∈ xs → x.1.length ≤ 1048576) :=
 szList (P := fun x : T_Peg.ty => x.1.length ≤ 1048576) xs laws_szWork laws_szWorkS_p0 laws_szWorkS (fun l i => laws_szWorkS_p0_eq xs l i) (fun l => laws_szWorkS_eq xs l) hl (fun x hm l h0 h1 => szWork_ok x (hx x hm) l h0 h1) l h0 h1
theorem szPaper_ok (x : T_Paper.ty) (hx : x.1.length ≤ 9223372036854775807 ∧ x.2.1.length ≤ 9223372036854775807) (l : Int) (h0 : 0 ≤ l) (h1 : l ≤ 1048576) : ∃ n,laws_szPaper x l = some n ∧ n ≤ l ∧ (0 ≤ n → x.1.length ≤ 1048576 ∧ x.2.1.length ≤ 1048576) :=
 szTwo (List.length (α := UInt8) x.1) (List.length (α := UInt8) x.2.1) laws_szPaper x hx.1 hx.2 l (laws_szPaper_eq x l) h0 h1
theorem szPaperS_ok (xs : List T_Paper.ty) (hl : xs.length ≤ 9223372036854775807) (hx : ∀ x,x ∈ xs → x.1.length ≤ 9223372036854775807 ∧ x.2.1.length ≤ 9223372036854775807) (l : Int) (h0 : 0 ≤ l) (h1 : l ≤ 1048576) :
 ∃ n,laws_szPaperS xs l = some n ∧ n ≤ l ∧ (0 ≤ n → xs.length ≤ 1048576 ∧ ∀ x,x ∈ xs → x.1.length ≤ 1048576 ∧ x.2.1.length ≤ 1048576) :=
 szList (P := fun x : T_Paper.ty => x.1.length ≤ 1048576 ∧ x.2.1.length ≤ 1048576) xs laws_szPaper laws_szPaperS_p0 laws_szPaperS (fun l i => laws_szPaperS_p0_eq xs l i) (fun l => laws_szPaperS_eq xs l) hl (fun x hm l h0 h1 => szPaper_ok x (hx x hm) l h0 h1) l h0 h1
theorem toStackS_ok (xs : List T_Peg.ty) (hs : xs.length ≤ 1048576) : laws_toStackS xs = some xs :=
 toList_ok xs _ laws_toStack laws_toStackS_p0 laws_toStackS (fun n i r => laws_toStackS_p0_eq xs n i r) (laws_toStackS_eq xs) hs (fun x _ => laws_toStack_eq x)
theorem eqStack_self (x : T_Peg.ty) : laws_eqStack x x = some true := by
 rw [laws_eqStack_eq]; simp
theorem eqStackS_ok (xs : List T_Peg.ty) (hs : xs.length ≤ 1048576) : laws_eqStackS xs xs = some true :=
 eqList_ok xs laws_eqStack laws_eqStackS_p0 laws_eqStackS (fun i => laws_eqStackS_p0_eq xs xs i) (laws_eqStackS_eq xs xs) hs (fun x _ => eqStack_self x)
theorem toRibS_ok (xs : List T_Mode.ty) (hs : xs.length ≤ 1048576) : laws_toRibS xs = some xs :=
 toList_ok xs _ laws_toRib laws_toRibS_p0 laws_toRibS (fun n i r => laws_toRibS_p0_eq xs n i r) (laws_toRibS_eq xs) hs (fun x _ => laws_toRib_eq x)
theorem eqRib_self (x : T_Mode.ty) : laws_eqRib x x = some true := by
 rw [laws_eqRib_eq]; simp
theorem eqRibS_ok (xs : List T_Mode.ty) (hs : xs.length ≤ 1048576) : laws_eqRibS xs xs = some true :=
 eqList_ok xs laws_eqRib laws_eqRibS_p0 laws_eqRibS (fun i => laws_eqRibS_p0_eq xs xs i) (laws_eqRibS_eq xs xs) hs (fun x _ => eqRib_self x)
theorem toPegS_ok (xs : List T_Peg.ty) (hs : xs.length ≤ 1048576) : laws_toPegS xs = some xs :=
 toList_ok xs _ laws_toPeg laws_toPegS_p0 laws_toPegS (fun n i r => laws_toPegS_p0_eq xs n i r) (laws_toPegS_eq xs) hs (fun x _ => laws_toPeg_eq x)
theorem eqPeg_self (x : T_Peg.ty) : laws_eqPeg x x = some true := by
 rw [laws_eqPeg_eq]; simp
theorem eqPegS_ok (xs : List T_Peg.ty) (hs : xs.length ≤ 1048576) : laws_eqPegS xs xs = some true :=
 eqList_ok xs laws_eqPeg laws_eqPegS_p0 laws_eqPegS (fun i => laws_eqPegS_p0_eq xs xs i) (laws_eqPegS_eq xs xs) hs (fun x _ => eqPeg_self x)
theorem toModeS_ok (xs : List T_Mode.ty) (hs : xs.length ≤ 1048576) : laws_toModeS xs = some xs :=
 toList_ok xs _ laws_toMode laws_toModeS_p0 laws_toModeS (fun n i r => laws_toModeS_p0_eq xs n i r) (laws_toModeS_eq xs) hs (fun x _ => laws_toMode_eq x)
theorem eqMode_self (x : T_Mode.ty) : laws_eqMode x x = some true := by
 rw [laws_eqMode_eq]; simp
theorem eqModeS_ok (xs : List T_Mode.ty) (hs : xs.length ≤ 1048576) : laws_eqModeS xs xs = some true :=
 eqList_ok xs laws_eqMode laws_eqModeS_p0 laws_eqModeS (fun i => laws_eqModeS_p0_eq xs xs i) (laws_eqModeS_eq xs xs) hs (fun x _ => eqMode_self x)
theorem toWorkS_ok (xs : List T_Peg.ty) (hs : xs.length ≤ 1048576) : laws_toWorkS xs = some xs :=
 toList_ok xs _ laws_toWork laws_toWorkS_p0 laws_toWorkS (fun n i r => laws_toWorkS_p0_eq xs n i r) (laws_toWorkS_eq xs) hs (fun x _ => laws_toWork_eq x)
theorem eqWork_self (x : T_Peg.ty) : laws_eqWork x x = some true := by
 rw [laws_eqWork_eq]; simp
theorem eqWorkS_ok (xs : List T_Peg.ty) (hs : xs.length ≤ 1048576) : laws_eqWorkS xs xs = some true :=
 eqList_ok xs laws_eqWork laws_eqWorkS_p0 laws_eqWorkS (fun i => laws_eqWorkS_p0_eq xs xs i) (laws_eqWorkS_eq xs xs) hs (fun x _ => eqWork_self x)
theorem toPaperS_ok (xs : List T_Paper.ty) (hs : xs.length ≤ 1048576) : laws_toPaperS xs = some xs :=
 toList_ok xs _ laws_toPaper laws_toPaperS_p0 laws_toPaperS (fun n i r => laws_toPaperS_p0_eq xs n i r) (laws_toPaperS_eq xs) hs (fun x _ => laws_toPaper_eq x)
theorem eqPaper_self (x : T_Paper.ty) : laws_eqPaper x x = some true := by
 rw [laws_eqPaper_eq]; simp
theorem eqPaperS_ok (xs : List T_Paper.ty) (hs : xs.length ≤ 1048576) : laws_eqPaperS xs xs = some true :=
 eqList_ok xs laws_eqPaper laws_eqPaperS_p0 laws_eqPaperS (fun i => laws_eqPaperS_p0_eq xs xs i) (laws_eqPaperS_eq xs xs) hs (fun x _ => eqPaper_self x)
theorem toInt64S_ok (xs : List Int) (hs : xs.length ≤ 1048576) : laws_toInt64S xs = some xs :=
 toList_ok xs (0 : Int) some laws_toInt64S_p0 laws_toInt64S (fun n i r => laws_toInt64S_p0_eq xs n i r) (laws_toInt64S_eq xs) hs (fun x _ => rfl)
theorem eqNeck_self (x : T_Neck.ty) : laws_eqNeck x x = some true := by
 rw [laws_eqNeck_eq]; simp
theorem szInt64S_ok (x : List Int) (hx : x.length ≤ 9223372036854775807) (l : Int) (h0 : 0 ≤ l) (h1 : l ≤ 1048576) : ∃ n,laws_szInt64S x l = some n ∧ n ≤ l ∧ (0 ≤ n → x.length ≤ 1048576) :=
 szOne x.length laws_szInt64S x hx l (laws_szInt64S_eq x l) h0 h1
theorem szInt64SS_ok (xs : List (List Int)) (hl : xs.length ≤ 9223372036854775807) (hx : ∀ x,x ∈ xs → x.length ≤ 9223372036854775807) (l : Int) (h0 : 0 ≤ l) (h1 : l ≤ 1048576) :
 ∃ n,laws_szInt64SS xs l = some n ∧ n ≤ l ∧ (0 ≤ n → xs.length ≤ 1048576 ∧ ∀ x,x ∈ xs → x.length ≤ 1048576) :=
 szList (P := fun x : List Int => x.length ≤ 1048576) xs laws_szInt64S laws_szInt64SS_p0 laws_szInt64SS (fun l i => laws_szInt64SS_p0_eq xs l i) (fun l => laws_szInt64SS_eq xs l) hl (fun x hm l h0 h1 => szInt64S_ok x (hx x hm) l h0 h1) l h0 h1
theorem eqInt64SS_ok (xs : List (List Int)) (hs : xs.length ≤ 1048576) (hx : ∀ x,x ∈ xs → x.length ≤ 1048576) : laws_eqInt64SS xs xs = some true :=
 eqList_ok xs laws_eqInt64S laws_eqInt64SS_p0 laws_eqInt64SS (fun i => laws_eqInt64SS_p0_eq xs xs i) (laws_eqInt64SS_eq xs xs) hs (fun x hm => eqInt64S_ok x (hx x hm))
def stackOk (x : T_Peg.ty) : Bool := isName x.1 && (inR x.2.1 0 1000 && (inR x.2.2.1 10 1000 && (inR x.2.2.2.1 0 36524)))
def stacksOk (xs : List T_Peg.ty) : Bool := sortedChk stackOk (fun x => x.1) none xs && decide ((xs.length : Int) ≤ 12)
theorem spec_l04One_ok (x : T_Peg.ty) (h0 : x.1.length < 4611686018427387904) : spec_l04One x = some (stackOk x) := by
 rw [spec_l04One_eq,stackOk]
 simp only [spec_l01Name_ok x.1 h0,spec_l04Share_eq,spec_l04Thick_eq,spec_l02Day_eq,spec_l00In_ok,Option.bind_some]
 cases isName x.1 <;> cases inR x.2.1 0 1000 <;> cases inR x.2.2.1 10 1000 <;> simp
theorem impl_Stack_valid_ok (x : T_Peg.ty) (h0 : x.1.length < 4611686018427387904) : impl_Stack_valid x = some (stackOk x) := by
 rw [impl_Stack_valid_eq,stackOk]
 simp only [impl_IsName_ok x.1 h0,impl_isPart_eq,impl_isDay_eq,impl_within_ok,Option.bind_some]
 cases isName x.1 <;> cases inR x.2.1 0 1000 <;> cases inR x.2.2.1 10 1000 <;> simp
theorem spec_l04Ok_ok (xs : List T_Peg.ty) (hs : xs.length ≤ 1048576) (hx : ∀ x,x ∈ xs → x.1.length ≤ 1048576) : spec_l04Ok xs = some (stacksOk xs) := by
 rw [spec_l04Ok_eq]
 exact sortedLoopS xs spec_l04One stackOk (fun x => x.1) (fun i => spec_l04Ok_p0 xs i) _ _ rfl (fun i => spec_l04Ok_p0_eq xs i) hs (fun x hm => spec_l04One_ok x (Nat.lt_of_le_of_lt (hx x hm) (by decide))) xs.length 0 (by omega)
theorem impl_ValidStacks_ok (xs : List T_Peg.ty) (hs : xs.length ≤ 1048576) (hx : ∀ x,x ∈ xs → x.1.length ≤ 1048576) : impl_ValidStacks xs = some (stacksOk xs) := by
 rw [impl_ValidStacks_eq]
 exact sortedLoopI xs impl_Stack_valid stackOk (fun x => x.1) (fun i => impl_ValidStacks_p0 xs xs xs.length i) _ _ (show ((impl_few (xs.length : Int) 12).bind fun x4 => some x4) = some (decide ((xs.length : Int) ≤ 12)) by rw [impl_few_eq]; rfl) (fun i => impl_ValidStacks_p0_eq xs xs xs.length i) hs (fun x hm => impl_Stack_valid_ok x (Nat.lt_of_le_of_lt (hx x hm) (by decide))) xs.length 0 (by omega)
def ribOk (x : T_Mode.ty) : Bool := isName x.1 && (inR x.2.1 1 10000 && (inR x.2.2.1 1 10000))
def ribsOk (xs : List T_Mode.ty) : Bool := sortedChk ribOk (fun x => x.1) none xs && decide ((xs.length : Int) ≤ 8)
theorem spec_l06One_ok (x : T_Mode.ty) (h0 : x.1.length < 4611686018427387904) : spec_l06One x = some (ribOk x) := by
 rw [spec_l06One_eq,ribOk]
 simp only [spec_l01Name_ok x.1 h0,spec_l06Size_eq,spec_l00In_ok,Option.bind_some]
 cases isName x.1 <;> cases inR x.2.1 1 10000 <;> simp
theorem impl_Rib_valid_ok (x : T_Mode.ty) (h0 : x.1.length < 4611686018427387904) : impl_Rib_valid x = some (ribOk x) := by
 rw [impl_Rib_valid_eq,ribOk]
 simp only [impl_IsName_ok x.1 h0,impl_within_ok,Option.bind_some]
 cases isName x.1 <;> cases inR x.2.1 1 10000 <;> simp
theorem spec_l06Ok_ok (xs : List T_Mode.ty) (hs : xs.length ≤ 1048576) (hx : ∀ x,x ∈ xs → x.1.length ≤ 1048576) : spec_l06Ok xs = some (ribsOk xs) := by
 rw [spec_l06Ok_eq]
 exact sortedLoopS xs spec_l06One ribOk (fun x => x.1) (fun i => spec_l06Ok_p0 xs i) _ _ rfl (fun i => spec_l06Ok_p0_eq xs i) hs (fun x hm => spec_l06One_ok x (Nat.lt_of_le_of_lt (hx x hm) (by decide))) xs.length 0 (by omega)
theorem impl_ValidRibs_ok (xs : List T_Mode.ty) (hs : xs.length ≤ 1048576) (hx : ∀ x,x ∈ xs → x.1.length ≤ 1048576) : impl_ValidRibs xs = some (ribsOk xs) := by
 rw [impl_ValidRibs_eq]
 exact sortedLoopI xs impl_Rib_valid ribOk (fun x => x.1) (fun i => impl_ValidRibs_p0 xs xs xs.length i) _ _ (show ((impl_few (xs.length : Int) 8).bind fun x4 => some x4) = some (decide ((xs.length : Int) ≤ 8)) by rw [impl_few_eq]; rfl) (fun i => impl_ValidRibs_p0_eq xs xs xs.length i) hs (fun x hm => impl_Rib_valid_ok x (Nat.lt_of_le_of_lt (hx x hm) (by decide))) xs.length 0 (by omega)
def pegOk (x : T_Peg.ty) : Bool := isName x.1 && (inR x.2.1 20 200 && (inR x.2.2.1 100 1000 && (inR x.2.2.2.1 10 100)))
def pegsOk (xs : List T_Peg.ty) : Bool := sortedChk pegOk (fun x => x.1) none xs && decide ((xs.length : Int) ≤ 8)
theorem spec_l12One_ok (x : T_Peg.ty) (h0 : x.1.length < 4611686018427387904) : spec_l12One x = some (pegOk x) := by
 rw [spec_l12One_eq,pegOk]
 simp only [spec_l01Name_ok x.1 h0,spec_l12Hole_eq,spec_l00In_ok,Option.bind_some]
 cases isName x.1 <;> cases inR x.2.1 20 200 <;> cases inR x.2.2.1 100 1000 <;> simp
theorem impl_Peg_valid_ok (x : T_Peg.ty) (h0 : x.1.length < 4611686018427387904) : impl_Peg_valid x = some (pegOk x) := by
 rw [impl_Peg_valid_eq,pegOk]
 simp only [impl_IsName_ok x.1 h0,impl_isHole_eq,impl_within_ok,Option.bind_some]
 cases isName x.1 <;> cases inR x.2.1 20 200 <;> cases inR x.2.2.1 100 1000 <;> simp
theorem spec_l12Ok_ok (xs : List T_Peg.ty) (hs : xs.length ≤ 1048576) (hx : ∀ x,x ∈ xs → x.1.length ≤ 1048576) : spec_l12Ok xs = some (pegsOk xs) := by
 rw [spec_l12Ok_eq]
 exact sortedLoopS xs spec_l12One pegOk (fun x => x.1) (fun i => spec_l12Ok_p0 xs i) _ _ rfl (fun i => spec_l12Ok_p0_eq xs i) hs (fun x hm => spec_l12One_ok x (Nat.lt_of_le_of_lt (hx x hm) (by decide))) xs.length 0 (by omega)
theorem impl_ValidPegs_ok (xs : List T_Peg.ty) (hs : xs.length ≤ 1048576) (hx : ∀ x,x ∈ xs → x.1.length ≤ 1048576) : impl_ValidPegs xs = some (pegsOk xs) := by
 rw [impl_ValidPegs_eq]
 exact sortedLoopI xs impl_Peg_valid pegOk (fun x => x.1) (fun i => impl_ValidPegs_p0 xs xs xs.length i) _ _ (show ((impl_few (xs.length : Int) 8).bind fun x4 => some x4) = some (decide ((xs.length : Int) ≤ 8)) by rw [impl_few_eq]; rfl) (fun i => impl_ValidPegs_p0_eq xs xs xs.length i) hs (fun x hm => impl_Peg_valid_ok x (Nat.lt_of_le_of_lt (hx x hm) (by decide))) xs.length 0 (by omega)
def modeOk (x : T_Mode.ty) : Bool := isName x.1 && (inR x.2.1 1000 100000 && (inR x.2.2.1 1 500))
def modesOk (xs : List T_Mode.ty) : Bool := sortedChk modeOk (fun x => x.1) none xs && decide ((xs.length : Int) ≤ 10)
theorem spec_l16One_ok (x : T_Mode.ty) (h0 : x.1.length < 4611686018427387904) : spec_l16One x = some (modeOk x) := by
 rw [spec_l16One_eq,modeOk]
 simp only [spec_l01Name_ok x.1 h0,spec_l16Tone_eq,spec_l00In_ok,Option.bind_some]
 cases isName x.1 <;> cases inR x.2.1 1000 100000 <;> simp
theorem impl_Mode_valid_ok (x : T_Mode.ty) (h0 : x.1.length < 4611686018427387904) : impl_Mode_valid x = some (modeOk x) := by
 rw [impl_Mode_valid_eq,modeOk]
 simp only [impl_IsName_ok x.1 h0,impl_isTone_eq,impl_within_ok,Option.bind_some]
 cases isName x.1 <;> cases inR x.2.1 1000 100000 <;> simp
theorem spec_l16Ok_ok (xs : List T_Mode.ty) (hs : xs.length ≤ 1048576) (hx : ∀ x,x ∈ xs → x.1.length ≤ 1048576) : spec_l16Ok xs = some (modesOk xs) := by
 rw [spec_l16Ok_eq]
 exact sortedLoopS xs spec_l16One modeOk (fun x => x.1) (fun i => spec_l16Ok_p0 xs i) _ _ rfl (fun i => spec_l16Ok_p0_eq xs i) hs (fun x hm => spec_l16One_ok x (Nat.lt_of_le_of_lt (hx x hm) (by decide))) xs.length 0 (by omega)
theorem impl_ValidModes_ok (xs : List T_Mode.ty) (hs : xs.length ≤ 1048576) (hx : ∀ x,x ∈ xs → x.1.length ≤ 1048576) : impl_ValidModes xs = some (modesOk xs) := by
 rw [impl_ValidModes_eq]
 exact sortedLoopI xs impl_Mode_valid modeOk (fun x => x.1) (fun i => impl_ValidModes_p0 xs xs xs.length i) _ _ (show ((impl_few (xs.length : Int) 10).bind fun x4 => some x4) = some (decide ((xs.length : Int) ≤ 10)) by rw [impl_few_eq]; rfl) (fun i => impl_ValidModes_p0_eq xs xs xs.length i) hs (fun x hm => impl_Mode_valid_ok x (Nat.lt_of_le_of_lt (hx x hm) (by decide))) xs.length 0 (by omega)
def workOk (x : T_Peg.ty) : Bool := isName x.1 && (inR x.2.1 1 40 && (inR x.2.2.1 0 39 && (inR x.2.2.2.1 0 39 && (decide (IntKind.i64.wrap ((IntKind.i64.wrap (x.2.2.1 + x.2.1)) - 1) ≤ x.2.2.2.1)))))
def worksOk (xs : List T_Peg.ty) : Bool := sortedChk workOk (fun x => x.1) none xs && decide ((xs.length : Int) ≤ 8)
theorem spec_l18One_ok (x : T_Peg.ty) (h0 : x.1.length < 4611686018427387904) : spec_l18One x = some (workOk x) := by
 rw [spec_l18One_eq,workOk]
 simp only [spec_l01Name_ok x.1 h0,spec_l18Days_eq,spec_l18Day_eq,spec_l00In_ok,Option.bind_some]
 cases isName x.1 <;> cases inR x.2.1 1 40 <;> cases inR x.2.2.1 0 39 <;> cases inR x.2.2.2.1 0 39 <;> simp
theorem impl_Work_valid_ok (x : T_Peg.ty) (h0 : x.1.length < 4611686018427387904) : impl_Work_valid x = some (workOk x) := by
 rw [impl_Work_valid_eq,workOk]
 simp only [impl_IsName_ok x.1 h0,impl_isSpan_eq,impl_isDate_eq,impl_within_ok,Option.bind_some]
 cases isName x.1 <;> cases inR x.2.1 1 40 <;> cases inR x.2.2.1 0 39 <;> cases inR x.2.2.2.1 0 39 <;> simp
theorem spec_l18Ok_ok (xs : List T_Peg.ty) (hs : xs.length ≤ 1048576) (hx : ∀ x,x ∈ xs → x.1.length ≤ 1048576) : spec_l18Ok xs = some (worksOk xs) := by
 rw [spec_l18Ok_eq]
 exact sortedLoopS xs spec_l18One workOk (fun x => x.1) (fun i => spec_l18Ok_p0 xs i) _ _ rfl (fun i => spec_l18Ok_p0_eq xs i) hs (fun x hm => spec_l18One_ok x (Nat.lt_of_le_of_lt (hx x hm) (by decide))) xs.length 0 (by omega)
theorem impl_ValidWorks_ok (xs : List T_Peg.ty) (hs : xs.length ≤ 1048576) (hx : ∀ x,x ∈ xs → x.1.length ≤ 1048576) : impl_ValidWorks xs = some (worksOk xs) := by
 rw [impl_ValidWorks_eq]
 exact sortedLoopI xs impl_Work_valid workOk (fun x => x.1) (fun i => impl_ValidWorks_p0 xs xs xs.length i) _ _ (show ((impl_few (xs.length : Int) 8).bind fun x4 => some x4) = some (decide ((xs.length : Int) ≤ 8)) by rw [impl_few_eq]; rfl) (fun i => impl_ValidWorks_p0_eq xs xs xs.length i) hs (fun x hm => impl_Work_valid_ok x (Nat.lt_of_le_of_lt (hx x hm) (by decide))) xs.length 0 (by omega)
def paperOk (x : T_Paper.ty) : Bool := isName x.1 && (isName x.2.1 && (decide (1500 ≤ x.2.2.1) && (decide (x.2.2.1 ≤ x.2.2.2.1) && (decide (x.2.2.2.1 ≤ 2100) && inR x.2.2.2.2.1 1 1000))))
def papersOk (xs : List T_Paper.ty) : Bool := sortedChk paperOk (fun x => x.1) none xs && decide ((xs.length : Int) ≤ 12)
theorem impl_Paper_valid_core (a b : List UInt8) (c d e : Int) (h0 : a.length < 4611686018427387904) (h1 : b.length < 4611686018427387904) : impl_Paper_valid (a,b,c,d,e,()) = some (paperOk (a,b,c,d,e,())) := by
 rw [impl_Paper_valid_eq,paperOk]
 simp only [impl_IsName_ok a h0,impl_IsName_ok b h1,impl_within_ok,Option.bind_some]
 cases isName a <;> cases isName b <;> by_cases g1 : 1500 ≤ c <;> by_cases g2 : c ≤ d <;> by_cases g3 : d ≤ 2100 <;> simp [g1,g2,g3]
theorem impl_Paper_valid_ok (x : T_Paper.ty) (h0 : x.1.length < 4611686018427387904) (h1 : x.2.1.length < 4611686018427387904) : impl_Paper_valid x = some (paperOk x) := impl_Paper_valid_core x.1 x.2.1 x.2.2.1 x.2.2.2.1 x.2.2.2.2.1 h0 h1
theorem spec_l20One_core (a b : List UInt8) (c d e : Int) (h0 : a.length < 4611686018427387904) (h1 : b.length < 4611686018427387904) : spec_l20One (a,b,c,d,e,()) = some (paperOk (a,b,c,d,e,())) := by
 rw [spec_l20One_eq,paperOk]
 simp only [spec_l01Name_ok a h0,spec_l01Name_ok b h1,spec_l20Year_eq,spec_l00In_ok,Option.bind_some,inR]
 cases isName a <;> cases isName b <;> by_cases g1 : 1500 ≤ c <;> by_cases g2 : c ≤ d <;> by_cases g3 : d ≤ 2100 <;> simp [g1,g2,g3]
 all_goals first
  | (have g4 : c ≤ 2100 := by omega
     have g5 : 1500 ≤ d := by omega
     simp [g4,g5])
  | skip
 all_goals first
  | omega
  | (by_cases g6 : c ≤ 2100 <;> by_cases g7 : 1500 ≤ d <;> simp [g6,g7] <;> omega)
theorem spec_l20One_ok (x : T_Paper.ty) (h0 : x.1.length < 4611686018427387904) (h1 : x.2.1.length < 4611686018427387904) : spec_l20One x = some (paperOk x) := spec_l20One_core x.1 x.2.1 x.2.2.1 x.2.2.2.1 x.2.2.2.2.1 h0 h1
theorem spec_l20Ok_ok (xs : List T_Paper.ty) (hs : xs.length ≤ 1048576) (hx : ∀ x,x ∈ xs → x.1.length ≤ 1048576 ∧ x.2.1.length ≤ 1048576) : spec_l20Ok xs = some (papersOk xs) := by
 rw [spec_l20Ok_eq]
 exact sortedLoopS xs spec_l20One paperOk (fun x => x.1) (fun i => spec_l20Ok_p0 xs i) _ _ rfl (fun i => spec_l20Ok_p0_eq xs i) hs (fun x hm => spec_l20One_ok x (Nat.lt_of_le_of_lt (hx x hm).1 (by decide)) (Nat.lt_of_le_of_lt (hx x hm).2 (by decide))) xs.length 0 (by omega)
theorem impl_ValidPapers_ok (xs : List T_Paper.ty) (hs : xs.length ≤ 1048576) (hx : ∀ x,x ∈ xs → x.1.length ≤ 1048576 ∧ x.2.1.length ≤ 1048576) : impl_ValidPapers xs = some (papersOk xs) := by
 rw [impl_ValidPapers_eq]
 exact sortedLoopI xs impl_Paper_valid paperOk (fun x => x.1) (fun i => impl_ValidPapers_p0 xs xs xs.length i) _ _ (show ((impl_few (xs.length : Int) 12).bind fun x4 => some x4) = some (decide ((xs.length : Int) ≤ 12)) by rw [impl_few_eq]; rfl) (fun i => impl_ValidPapers_p0_eq xs xs xs.length i) hs (fun x hm => impl_Paper_valid_ok x (Nat.lt_of_le_of_lt (hx x hm).1 (by decide)) (Nat.lt_of_le_of_lt (hx x hm).2 (by decide))) xs.length 0 (by omega)
def thickRow (r : List Int) : Bool := r.all fun x => inR x 1 200
def plateOk (xs : List (List Int)) : Bool :=
 match xs with
 | [] => false
 | r0 :: _ => decide (xs.length ≤ 10) && (decide (1 ≤ r0.length ∧ r0.length ≤ 10) && xs.all fun r => decide (r.length = r0.length) && thickRow r)
theorem impl_isGrid_p2_ok (xs : List (List Int)) (row : List Int) (hr : row.length ≤ 1048576) (i : Nat) (hi : i ≤ 1048576) : ∀ (k j : Nat),j + k = row.length →
 impl_isGrid_p2 xs 1 200 xs xs.length i row row.length j = if thickRow (row.drop j) then impl_isGrid_p1 xs 1 200 xs xs.length ((i + 1 : Nat) : Int) else some false
 | 0,j,hk => by
   rw [impl_isGrid_p2_eq,List.drop_eq_nil_of_le (by omega)]
   have : ¬ (j : Int) < (row.length : Int) := by omega
   have hw : IntKind.i64.wrap ((i : Int) + 1) = ((i + 1 : Nat) : Int) := by rw [w64 (by omega) (by omega)]; omega
   simp only [this,decide_false,Bool.false_eq_true,if_false,hw,thickRow,List.all_nil,if_true]
 | k + 1,j,hk => by
   have hj : j < row.length := by omega
   have hlt : (j : Int) < (row.length : Int) := by omega
   have hw : IntKind.i64.wrap ((j : Int) + 1) = ((j + 1 : Nat) : Int) := by rw [w64 (by omega) (by omega)]; omega
   have ih := impl_isGrid_p2_ok xs row hr i hi k (j + 1) (by omega)
   rw [impl_isGrid_p2_eq,List.drop_eq_getElem_cons hj]
   simp only [hlt,decide_true,if_true,Int.natCast_nonneg,Int.toNat_natCast,List.getElem?_eq_getElem hj,Option.bind_some,impl_within_ok,hw,ih,thickRow,List.all_cons]
   by_cases c : inR row[j] 1 200 = true <;> simp [c]
theorem impl_isGrid_p1_ok (xs : List (List Int)) (r0 : List Int) (h0 : xs[0]? = some r0) (hs : xs.length ≤ 1048576) (hx : ∀ x,x ∈ xs → x.length ≤ 1048576) : ∀ (k i : Nat),i + k = xs.length →
 impl_isGrid_p1 xs 1 200 xs xs.length i = some ((xs.drop i).all fun r => decide (r.length = r0.length) && thickRow r)
 | 0,i,hk => by
   rw [impl_isGrid_p1_eq,List.drop_eq_nil_of_le (by omega)]
   have : ¬ (i : Int) < (xs.length : Int) := by omega
   simp [this]
 | k + 1,i,hk => by
   have hi : i < xs.length := by omega
   have hlt : (i : Int) < (xs.length : Int) := by omega
   have ih := impl_isGrid_p1_ok xs r0 h0 hs hx k (i + 1) (by omega)
   have h2 := impl_isGrid_p2_ok xs xs[i] (hx _ (List.getElem_mem hi)) i (by omega) xs[i].length 0 (by omega)
   have h2' : impl_isGrid_p2 xs 1 200 xs xs.length i xs[i] xs[i].length 0 = if thickRow xs[i] then impl_isGrid_p1 xs 1 200 xs xs.length ((i + 1 : Nat) : Int) else some false := h2
   rw [impl_isGrid_p1_eq,List.drop_eq_getElem_cons hi]
   simp only [hlt,decide_true,if_true,Int.natCast_nonneg,Int.toNat_natCast,List.getElem?_eq_getElem hi,Option.bind_some,h0,h2',ih,List.all_cons]
   by_cases hl : xs[i].length = r0.length
   ·by_cases ht : thickRow xs[i] = true
    ·simp [hl,ht]
    ·simp [hl,ht]
   ·have : ((xs[i].length : Int) != (r0.length : Int)) = true := by rw [bne_iff_ne]; omega
    simp only [this,if_true,hl,decide_false,Bool.false_and]
theorem impl_ValidPlate_ok (xs : List (List Int)) (hs : xs.length ≤ 1048576) (hx : ∀ x,x ∈ xs → x.length ≤ 1048576) : impl_ValidPlate xs = some (plateOk xs) := by
 rw [impl_ValidPlate_eq,impl_isGrid_eq,impl_within_ok,Option.bind_some]
 cases xs with
 | nil => simp [plateOk,inR]
 | cons r0 l =>
   have h1 := impl_isGrid_p1_ok (r0 :: l) r0 rfl hs hx (r0 :: l).length 0 (by omega)
   have h1' : impl_isGrid_p1 (r0 :: l) 1 200 (r0 :: l) (r0 :: l).length 0 = _ := h1
   rw [List.drop_zero] at h1'
   simp only [List.getElem?_cons_zero,Option.bind_some,impl_within_ok,impl_isGrid_p0_eq,h1',plateOk]
   by_cases c1 : (r0 :: l).length ≤ 10
   ·have e1 : inR ((r0 :: l).length : Int) 1 10 = true := by rw [inR_iff']; simp at c1 ⊢; omega
    simp only [e1,c1,Bool.not_true,Bool.false_eq_true,if_false,decide_true,Bool.true_and]
    by_cases c2 : 1 ≤ r0.length ∧ r0.length ≤ 10
    ·have e2 : inR (r0.length : Int) 1 10 = true := by rw [inR_iff']; omega
     simp only [e2,c2,and_self,Bool.not_true,Bool.false_eq_true,if_false,decide_true,Bool.true_and,Option.bind_some]
    ·have e2 : inR (r0.length : Int) 1 10 = false := by rw [Bool.eq_false_iff,ne_eq,inR_iff']; omega
     simp only [e2,c2,Bool.not_false,if_true,decide_false,Bool.false_and,Option.bind_some]
   ·have e1 : inR ((r0 :: l).length : Int) 1 10 = false := by rw [Bool.eq_false_iff,ne_eq,inR_iff']; omega
    simp only [e1,c1,Bool.not_false,if_true,decide_false,Bool.false_and,Option.bind_some]
theorem spec_l08Ok_p2_ok (xs : List (List Int)) (hs : xs.length ≤ 1048576) (i : Nat) (hi : i < xs.length) (hr : xs[i].length ≤ 1048576) : ∀ (k j : Nat),j + k = xs[i].length →
 spec_l08Ok_p2 xs i j = if thickRow (xs[i].drop j) then spec_l08Ok_p0 xs ((i + 1 : Nat) : Int) else some false
 | 0,j,hk => by
   rw [spec_l08Ok_p2_eq,List.drop_eq_nil_of_le (by omega)]
   have : ¬ (j : Int) < (xs[i].length : Int) := by omega
   have hw : IntKind.i64.wrap ((i : Int) + 1) = ((i + 1 : Nat) : Int) := by rw [w64 (by omega) (by omega)]; omega
   simp only [Int.natCast_nonneg,decide_true,if_true,Int.toNat_natCast,List.getElem?_eq_getElem hi,Option.bind_some,this,decide_false,Bool.false_eq_true,if_false,hw,thickRow,List.all_nil]
 | k + 1,j,hk => by
   have hj : j < xs[i].length := by omega
   have hlt : (j : Int) < (xs[i].length : Int) := by omega
   have hw : IntKind.i64.wrap ((j : Int) + 1) = ((j + 1 : Nat) : Int) := by rw [w64 (by omega) (by omega)]; omega
   have ih := spec_l08Ok_p2_ok xs hs i hi hr k (j + 1) (by omega)
   rw [spec_l08Ok_p2_eq,List.drop_eq_getElem_cons hj]
   simp only [Int.natCast_nonneg,hlt,decide_true,if_true,Int.toNat_natCast,List.getElem?_eq_getElem hi,List.getElem?_eq_getElem hj,Option.bind_some,spec_l08Thick_eq,spec_l00In_ok,hw,ih,thickRow,List.all_cons]
   by_cases c : inR xs[i][j] 1 200 = true <;> simp [c]
theorem spec_l08Ok_p0_ok (xs : List (List Int)) (r0 : List Int) (h0 : xs[0]? = some r0) (hs : xs.length ≤ 1048576) (hx : ∀ x,x ∈ xs → x.length ≤ 1048576) : ∀ (k i : Nat),i + k = xs.length →
 spec_l08Ok_p0 xs i = some (((xs.drop i).all fun r => decide (1 ≤ r.length ∧ r.length ≤ 10) && (decide (r.length = r0.length) && thickRow r)) && decide (xs.length ≤ 10))
 | 0,i,hk => by
   rw [spec_l08Ok_p0_eq,List.drop_eq_nil_of_le (by omega)]
   have : ¬ (i : Int) < (xs.length : Int) := by omega
   have h1 : (xs.length : Int) ≥ 1 := by
    cases xs with
    | nil => simp at h0
    | cons a l => simp; omega
   simp only [this,decide_false,Bool.false_eq_true,if_false,h1,decide_true,if_true,List.all_nil,Bool.true_and]
   congr 1
   simp only [decide_eq_decide]; omega
 | k + 1,i,hk => by
   have hi : i < xs.length := by omega
   have hlt : (i : Int) < (xs.length : Int) := by omega
   have ih := spec_l08Ok_p0_ok xs r0 h0 hs hx k (i + 1) (by omega)
   have h2 := spec_l08Ok_p2_ok xs hs i hi (hx _ (List.getElem_mem hi)) xs[i].length 0 (by omega)
   have h2' : spec_l08Ok_p2 xs i 0 = if thickRow xs[i] then spec_l08Ok_p0 xs ((i + 1 : Nat) : Int) else some false := h2
   rw [spec_l08Ok_p0_eq,List.drop_eq_getElem_cons hi]
   simp only [hlt,decide_true,if_true,Int.natCast_nonneg,Int.toNat_natCast,List.getElem?_eq_getElem hi,Option.bind_some,h0,spec_l08Ok_p1_eq,h2',ih,List.all_cons]
   by_cases g1 : (xs[i].length : Int) < 1
   ·have : ¬ (1 ≤ xs[i].length ∧ xs[i].length ≤ 10) := by omega
    simp only [g1,this,decide_true,decide_false,if_true,Bool.false_and]
   by_cases g2 : (xs[i].length : Int) > 10
   ·have : ¬ (1 ≤ xs[i].length ∧ xs[i].length ≤ 10) := by omega
    simp only [g1,g2,this,decide_true,decide_false,if_true,Bool.false_eq_true,if_false,Bool.false_and]
   have g3 : 1 ≤ xs[i].length ∧ xs[i].length ≤ 10 := by omega
   by_cases hl : xs[i].length = r0.length
   ·have hl' : ((xs[i].length : Int) != (r0.length : Int)) = false := by rw [hl]; simp
    have hl2 : decide (xs[i].length = r0.length) = true := by simpa using hl
    by_cases ht : thickRow xs[i] = true
    ·simp only [g1,g2,g3,and_self,hl',hl2,ht,decide_true,decide_false,if_true,Bool.false_eq_true,if_false,Bool.true_and]
    ·simp only [g1,g2,g3,and_self,hl',hl2,ht,decide_true,decide_false,if_true,Bool.false_eq_true,if_false,Bool.true_and,Bool.false_and]
   ·have hl' : ((xs[i].length : Int) != (r0.length : Int)) = true := by rw [bne_iff_ne]; omega
    simp only [g1,g2,g3,and_self,hl',hl,decide_true,decide_false,if_true,Bool.false_eq_true,if_false,Bool.true_and,Bool.false_and]
theorem spec_l08Ok_ok (xs : List (List Int)) (hs : xs.length ≤ 1048576) (hx : ∀ x,x ∈ xs → x.length ≤ 1048576) : spec_l08Ok xs = some (plateOk xs) := by
 rw [spec_l08Ok_eq]
 cases xs with
 | nil => rw [spec_l08Ok_p0_eq]; simp [plateOk]
 | cons r0 l =>
   have h1 := spec_l08Ok_p0_ok (r0 :: l) r0 rfl hs hx (r0 :: l).length 0 (by omega)
   have h1' : spec_l08Ok_p0 (r0 :: l) 0 = _ := h1
   rw [List.drop_zero] at h1'
   rw [h1',plateOk]
   congr 1
   rw [Bool.eq_iff_iff]
   simp only [Bool.and_eq_true,decide_eq_true_eq,List.all_eq_true]
   constructor
   ·rintro ⟨h,hl⟩
    have h2 := (h r0 (by simp)).1
    exact ⟨hl,h2,fun r hr => (h r hr).2⟩
   ·rintro ⟨hl,h2,h⟩
    refine ⟨fun r hr => ⟨?_,h r hr⟩,hl⟩
    have := (h r hr).1
    omega
def deskSmall (x : T_Desk.ty) : Prop :=
 (List.length (α := T_Peg.ty) x.1 ≤ 1048576 ∧ ∀ y : T_Peg.ty,y ∈ x.1 → y.1.length ≤ 1048576) ∧
 (List.length (α := T_Mode.ty) x.2.1 ≤ 1048576 ∧ ∀ y : T_Mode.ty,y ∈ x.2.1 → y.1.length ≤ 1048576) ∧
 (List.length (α := List Int) x.2.2.1 ≤ 1048576 ∧ ∀ y : List Int,y ∈ x.2.2.1 → y.length ≤ 1048576) ∧
 (List.length (α := T_Peg.ty) x.2.2.2.2.2.2.2.1 ≤ 1048576 ∧ ∀ y : T_Peg.ty,y ∈ x.2.2.2.2.2.2.2.1 → y.1.length ≤ 1048576) ∧
 (List.length (α := T_Pot.ty) x.2.2.2.2.2.2.2.2.1 ≤ 1048576 ∧ ∀ y : T_Pot.ty,y ∈ x.2.2.2.2.2.2.2.2.1 → y.1.length ≤ 1048576) ∧
 (List.length (α := T_Mode.ty) x.2.2.2.2.2.2.2.2.2.1 ≤ 1048576 ∧ ∀ y : T_Mode.ty,y ∈ x.2.2.2.2.2.2.2.2.2.1 → y.1.length ≤ 1048576) ∧
 (List.length (α := T_Peg.ty) x.2.2.2.2.2.2.2.2.2.2.1 ≤ 1048576 ∧ ∀ y : T_Peg.ty,y ∈ x.2.2.2.2.2.2.2.2.2.2.1 → y.1.length ≤ 1048576) ∧
 (List.length (α := T_Paper.ty) x.2.2.2.2.2.2.2.2.2.2.2.1 ≤ 1048576 ∧ ∀ y : T_Paper.ty,y ∈ x.2.2.2.2.2.2.2.2.2.2.2.1 → y.1.length ≤ 1048576 ∧ y.2.1.length ≤ 1048576)
def deskOk (x : T_Desk.ty) : Bool :=
 stacksOk x.1 && (ribsOk x.2.1 && (plateOk x.2.2.1 && (neckOk (x.2.2.2.1,x.2.2.2.2.1,x.2.2.2.2.2.1,x.2.2.2.2.2.2.1,()) && (pegsOk x.2.2.2.2.2.2.2.1 && (potsOk x.2.2.2.2.2.2.2.2.1 && (modesOk x.2.2.2.2.2.2.2.2.2.1 && (worksOk x.2.2.2.2.2.2.2.2.2.2.1 && papersOk x.2.2.2.2.2.2.2.2.2.2.2.1)))))))
theorem szDesk_okL (x : T_Desk.ty) (h : ET.wf T_Desk x) (l : Int) (h0 : 0 ≤ l) (h1 : l ≤ 1048576) : ∃ n,laws_szDesk x l = some n ∧ n ≤ l ∧ (0 ≤ n → deskSmall x) := by
 obtain ⟨a,b,c,d1,d2,d3,d4,e,f,g,i,j,⟨⟩⟩ := x
 obtain ⟨w1,w2,w3,_,_,_,_,w5,w6,w7,w8,w9,_⟩ := h
 have ml : Go.maxLen = 9223372036854775807 := maxLen_eq
 obtain ⟨n1,s1,l1,k1⟩ := szStackS_ok a (ml ▸ w1.1) (fun x hx => ml ▸ (w1.2 x hx).1) l (by omega) (by omega)
 rw [laws_szDesk_eq]
 simp only [s1,Option.bind_some]
 by_cases c1 : n1 < 0
 ·exact ⟨-1,by simp [c1],by omega,fun h => by omega⟩
 obtain ⟨n2,s2,l2,k2⟩ := szRibS_ok b (ml ▸ w2.1) (fun x hx => ml ▸ (w2.2 x hx).1) n1 (by omega) (by omega)
 simp only [c1,decide_false,Bool.false_eq_true,if_false,s2,Option.bind_some]
 by_cases c2 : n2 < 0
 ·exact ⟨-1,by simp [c2],by omega,fun h => by omega⟩
 obtain ⟨n3,s3,l3,k3⟩ := szInt64SS_ok c (ml ▸ w3.1) (fun x hx => ml ▸ (w3.2 x hx).1) n2 (by omega) (by omega)
 simp only [c2,decide_false,Bool.false_eq_true,if_false,s3,Option.bind_some]
 by_cases c3 : n3 < 0
 ·exact ⟨-1,by simp [c3],by omega,fun h => by omega⟩
 obtain ⟨n4,s4,l4,k4⟩ := szPegS_ok e (ml ▸ w5.1) (fun x hx => ml ▸ (w5.2 x hx).1) n3 (by omega) (by omega)
 simp only [c3,decide_false,Bool.false_eq_true,if_false,s4,Option.bind_some]
 by_cases c4 : n4 < 0
 ·exact ⟨-1,by simp [c4],by omega,fun h => by omega⟩
 obtain ⟨n5,s5,l5,k5⟩ := szPotS_ok f (ml ▸ w6.1) (fun x hx => ml ▸ (w6.2 x hx).1) n4 (by omega) (by omega)
 simp only [c4,decide_false,Bool.false_eq_true,if_false,s5,Option.bind_some]
 by_cases c5 : n5 < 0
 ·exact ⟨-1,by simp [c5],by omega,fun h => by omega⟩
 obtain ⟨n6,s6,l6,k6⟩ := szModeS_ok g (ml ▸ w7.1) (fun x hx => ml ▸ (w7.2 x hx).1) n5 (by omega) (by omega)
 simp only [c5,decide_false,Bool.false_eq_true,if_false,s6,Option.bind_some]
 by_cases c6 : n6 < 0
 ·exact ⟨-1,by simp [c6],by omega,fun h => by omega⟩
 obtain ⟨n7,s7,l7,k7⟩ := szWorkS_ok i (ml ▸ w8.1) (fun x hx => ml ▸ (w8.2 x hx).1) n6 (by omega) (by omega)
 simp only [c6,decide_false,Bool.false_eq_true,if_false,s7,Option.bind_some]
 by_cases c7 : n7 < 0
 ·exact ⟨-1,by simp [c7],by omega,fun h => by omega⟩
 obtain ⟨n8,s8,l8,k8⟩ := szPaperS_ok j (ml ▸ w9.1) (fun x hx => ml ▸ ⟨(w9.2 x hx).1,(w9.2 x hx).2.1⟩) n7 (by omega) (by omega)
 simp only [c7,decide_false,Bool.false_eq_true,if_false,s8,Option.bind_some]
 by_cases c8 : n8 < 0
 ·exact ⟨-1,by simp [c8],by omega,fun h => by omega⟩
 ·refine ⟨n8,by simp [c8],by omega,fun _ => ⟨k1 (by omega),k2 (by omega),k3 (by omega),k4 (by omega),k5 (by omega),k6 (by omega),k7 (by omega),k8 (by omega)⟩⟩
theorem szDesk_ok (x : T_Desk.ty) (h : ET.wf T_Desk x) : ∃ n,laws_szDesk x 1048576 = some n ∧ (0 ≤ n → deskSmall x) := by
 obtain ⟨n,e1,_,e2⟩ := szDesk_okL x h 1048576 (by omega) (by omega)
 exact ⟨n,e1,e2⟩
theorem eqDesk_ok (x : T_Desk.ty) (h : deskSmall x) : laws_eqDesk x x = some true := by
 obtain ⟨h1,h2,h3,h4,h5,h6,h7,h8⟩ := h
 rw [laws_eqDesk_eq]
 simp only [eqStackS_ok _ h1.1,eqRibS_ok _ h2.1,eqInt64SS_ok _ h3.1 h3.2,eqNeck_self,eqPegS_ok _ h4.1,eqPotS_ok _ h5.1,eqModeS_ok _ h6.1,eqWorkS_ok _ h7.1,eqPaperS_ok _ h8.1,Option.bind_some,Bool.not_true,Bool.false_eq_true,if_false]
theorem impl_ValidDesk_ok (x : T_Desk.ty) (h : deskSmall x) : impl_ValidDesk x = some (deskOk x) := by
 obtain ⟨h1,h2,h3,h4,h5,h6,h7,h8⟩ := h
 rw [impl_ValidDesk_eq,deskOk]
 simp only [impl_ValidStacks_ok _ h1.1 h1.2,impl_ValidRibs_ok _ h2.1 h2.2,impl_ValidPlate_ok _ h3.1 h3.2,impl_ValidNeck_ok,impl_ValidPegs_ok _ h4.1 h4.2,impl_ValidPots_ok _ h5.1 h5.2,impl_ValidModes_ok _ h6.1 h6.2,impl_ValidWorks_ok _ h7.1 h7.2,impl_ValidPapers_ok _ h8.1 h8.2,Option.bind_some]
 cases stacksOk x.1 <;> cases ribsOk x.2.1 <;> cases plateOk x.2.2.1 <;> cases neckOk (x.2.2.2.1,x.2.2.2.2.1,x.2.2.2.2.2.1,x.2.2.2.2.2.2.1,()) <;> first | rfl | skip
 all_goals (cases pegsOk x.2.2.2.2.2.2.2.1 <;> cases potsOk x.2.2.2.2.2.2.2.2.1 <;> cases modesOk x.2.2.2.2.2.2.2.2.2.1 <;> cases worksOk x.2.2.2.2.2.2.2.2.2.2.1 <;> rfl)
theorem markStackS_loopD (n : Nat) (hn : n ≤ 1048576) (M : Int) (hM : M ≤ 1152921504606846976) : ∀ (k i : Nat) (m : Int) (r : List T_Peg.ty),i + k = n → r.length = n → 0 ≤ m → M = m + 4 * k → ∃ r' : List T_Peg.ty,laws_markStackS_p0 n n m i r = some (M,r')
 | 0,i,m,r,hk,hr,h0,h1 => by
   refine ⟨r,?_⟩
   rw [laws_markStackS_p0_eq]
   have : ¬ (i : Int) < (n : Int) := by omega
   simp only [this,decide_false,Bool.false_eq_true,if_false,hr,decide_true,if_true]
   congr 2; omega
 | k + 1,i,m,r,hk,hr,h0,h1 => by
   have hi : i < r.length := by omega
   have hlt : (i : Int) < (n : Int) := by omega
   have hw : IntKind.i64.wrap ((i : Int) + 1) = ((i + 1 : Nat) : Int) := by rw [w64 (by omega) (by omega)]; omega
   have t0 := markT_ok (m) (by omega)
   rw [laws_markStackS_p0_eq,w64 (n := m + 1) (by omega) (by omega),w64 (n := m + 1 + 1) (by omega) (by omega),w64 (n := m + 1 + 1 + 1) (by omega) (by omega),w64 (n := m + 1 + 1 + 1 + 1) (by omega) (by omega)]
   simp only [hlt,decide_true,if_true,Int.natCast_nonneg,Int.toNat_natCast,List.getElem?_eq_getElem hi,Option.bind_some,Bool.and_self,hw,t0,List.getElem?_set_self,List.length_set,hi]
   exact markStackS_loopD n hn M hM k (i + 1) (m + 1 + 1 + 1 + 1) _ (by omega) (by simp [hr]) (by omega) (by omega)
theorem markStackS_okD (xs : List T_Peg.ty) (hs : xs.length ≤ 1048576) (m : Nat) (hm : m ≤ 1125899906842624) : ∃ (m' : Nat) (ys : List T_Peg.ty),m' ≤ m + 4398046511104 ∧ laws_markStackS xs m = some ((m' : Int),ys) := by
 obtain ⟨r',q⟩ := markStackS_loopD xs.length hs ((m + 4 * xs.length : Nat) : Int) (by omega) xs.length 0 m xs (by omega) rfl (by omega) (by omega)
 exact ⟨m + 4 * xs.length,r',by omega,by rw [laws_markStackS_eq]; exact q⟩
theorem markRibS_loopD (n : Nat) (hn : n ≤ 1048576) (M : Int) (hM : M ≤ 1152921504606846976) : ∀ (k i : Nat) (m : Int) (r : List T_Mode.ty),i + k = n → r.length = n → 0 ≤ m → M = m + 3 * k → ∃ r' : List T_Mode.ty,laws_markRibS_p0 n n m i r = some (M,r')
 | 0,i,m,r,hk,hr,h0,h1 => by
   refine ⟨r,?_⟩
   rw [laws_markRibS_p0_eq]
   have : ¬ (i : Int) < (n : Int) := by omega
   simp only [this,decide_false,Bool.false_eq_true,if_false,hr,decide_true,if_true]
   congr 2; omega
 | k + 1,i,m,r,hk,hr,h0,h1 => by
   have hi : i < r.length := by omega
   have hlt : (i : Int) < (n : Int) := by omega
   have hw : IntKind.i64.wrap ((i : Int) + 1) = ((i + 1 : Nat) : Int) := by rw [w64 (by omega) (by omega)]; omega
   have t0 := markT_ok (m) (by omega)
   rw [laws_markRibS_p0_eq,w64 (n := m + 1) (by omega) (by omega),w64 (n := m + 1 + 1) (by omega) (by omega),w64 (n := m + 1 + 1 + 1) (by omega) (by omega)]
   simp only [hlt,decide_true,if_true,Int.natCast_nonneg,Int.toNat_natCast,List.getElem?_eq_getElem hi,Option.bind_some,Bool.and_self,hw,t0,List.getElem?_set_self,List.length_set,hi]
   exact markRibS_loopD n hn M hM k (i + 1) (m + 1 + 1 + 1) _ (by omega) (by simp [hr]) (by omega) (by omega)
theorem markRibS_okD (xs : List T_Mode.ty) (hs : xs.length ≤ 1048576) (m : Nat) (hm : m ≤ 1125899906842624) : ∃ (m' : Nat) (ys : List T_Mode.ty),m' ≤ m + 4398046511104 ∧ laws_markRibS xs m = some ((m' : Int),ys) := by
 obtain ⟨r',q⟩ := markRibS_loopD xs.length hs ((m + 3 * xs.length : Nat) : Int) (by omega) xs.length 0 m xs (by omega) rfl (by omega) (by omega)
 exact ⟨m + 3 * xs.length,r',by omega,by rw [laws_markRibS_eq]; exact q⟩
theorem markPegS_loopD (n : Nat) (hn : n ≤ 1048576) (M : Int) (hM : M ≤ 1152921504606846976) : ∀ (k i : Nat) (m : Int) (r : List T_Peg.ty),i + k = n → r.length = n → 0 ≤ m → M = m + 4 * k → ∃ r' : List T_Peg.ty,laws_markPegS_p0 n n m i r = some (M,r')
 | 0,i,m,r,hk,hr,h0,h1 => by
   refine ⟨r,?_⟩
   rw [laws_markPegS_p0_eq]
   have : ¬ (i : Int) < (n : Int) := by omega
   simp only [this,decide_false,Bool.false_eq_true,if_false,hr,decide_true,if_true]
   congr 2; omega
 | k + 1,i,m,r,hk,hr,h0,h1 => by
   have hi : i < r.length := by omega
   have hlt : (i : Int) < (n : Int) := by omega
   have hw : IntKind.i64.wrap ((i : Int) + 1) = ((i + 1 : Nat) : Int) := by rw [w64 (by omega) (by omega)]; omega
   have t0 := markT_ok (m) (by omega)
   rw [laws_markPegS_p0_eq,w64 (n := m + 1) (by omega) (by omega),w64 (n := m + 1 + 1) (by omega) (by omega),w64 (n := m + 1 + 1 + 1) (by omega) (by omega),w64 (n := m + 1 + 1 + 1 + 1) (by omega) (by omega)]
   simp only [hlt,decide_true,if_true,Int.natCast_nonneg,Int.toNat_natCast,List.getElem?_eq_getElem hi,Option.bind_some,Bool.and_self,hw,t0,List.getElem?_set_self,List.length_set,hi]
   exact markPegS_loopD n hn M hM k (i + 1) (m + 1 + 1 + 1 + 1) _ (by omega) (by simp [hr]) (by omega) (by omega)
theorem markPegS_okD (xs : List T_Peg.ty) (hs : xs.length ≤ 1048576) (m : Nat) (hm : m ≤ 1125899906842624) : ∃ (m' : Nat) (ys : List T_Peg.ty),m' ≤ m + 4398046511104 ∧ laws_markPegS xs m = some ((m' : Int),ys) := by
 obtain ⟨r',q⟩ := markPegS_loopD xs.length hs ((m + 4 * xs.length : Nat) : Int) (by omega) xs.length 0 m xs (by omega) rfl (by omega) (by omega)
 exact ⟨m + 4 * xs.length,r',by omega,by rw [laws_markPegS_eq]; exact q⟩
theorem markPotS_loopD (n : Nat) (hn : n ≤ 1048576) (M : Int) (hM : M ≤ 1152921504606846976) : ∀ (k i : Nat) (m : Int) (r : List T_Pot.ty),i + k = n → r.length = n → 0 ≤ m → M = m + 5 * k → ∃ r' : List T_Pot.ty,laws_markPotS_p0 n n m i r = some (M,r')
 | 0,i,m,r,hk,hr,h0,h1 => by
   refine ⟨r,?_⟩
   rw [laws_markPotS_p0_eq]
   have : ¬ (i : Int) < (n : Int) := by omega
   simp only [this,decide_false,Bool.false_eq_true,if_false,hr,decide_true,if_true]
   congr 2; omega
 | k + 1,i,m,r,hk,hr,h0,h1 => by
   have hi : i < r.length := by omega
   have hlt : (i : Int) < (n : Int) := by omega
   have hw : IntKind.i64.wrap ((i : Int) + 1) = ((i + 1 : Nat) : Int) := by rw [w64 (by omega) (by omega)]; omega
   have t0 := markT_ok (m) (by omega)
   rw [laws_markPotS_p0_eq,w64 (n := m + 1) (by omega) (by omega),w64 (n := m + 1 + 1) (by omega) (by omega),w64 (n := m + 1 + 1 + 1) (by omega) (by omega),w64 (n := m + 1 + 1 + 1 + 1) (by omega) (by omega),w64 (n := m + 1 + 1 + 1 + 1 + 1) (by omega) (by omega)]
   simp only [hlt,decide_true,if_true,Int.natCast_nonneg,Int.toNat_natCast,List.getElem?_eq_getElem hi,Option.bind_some,Bool.and_self,hw,t0,List.getElem?_set_self,List.length_set,hi]
   exact markPotS_loopD n hn M hM k (i + 1) (m + 1 + 1 + 1 + 1 + 1) _ (by omega) (by simp [hr]) (by omega) (by omega)
theorem markPotS_okD (xs : List T_Pot.ty) (hs : xs.length ≤ 1048576) (m : Nat) (hm : m ≤ 1125899906842624) : ∃ (m' : Nat) (ys : List T_Pot.ty),m' ≤ m + 4398046511104 ∧ laws_markPotS xs m = some ((m' : Int),ys) := by
 obtain ⟨r',q⟩ := markPotS_loopD xs.length hs ((m + 5 * xs.length : Nat) : Int) (by omega) xs.length 0 m xs (by omega) rfl (by omega) (by omega)
 exact ⟨m + 5 * xs.length,r',by omega,by rw [laws_markPotS_eq]; exact q⟩
theorem markModeS_loopD (n : Nat) (hn : n ≤ 1048576) (M : Int) (hM : M ≤ 1152921504606846976) : ∀ (k i : Nat) (m : Int) (r : List T_Mode.ty),i + k = n → r.length = n → 0 ≤ m → M = m + 3 * k → ∃ r' : List T_Mode.ty,laws_markModeS_p0 n n m i r = some (M,r')
 | 0,i,m,r,hk,hr,h0,h1 => by
   refine ⟨r,?_⟩
   rw [laws_markModeS_p0_eq]
   have : ¬ (i : Int) < (n : Int) := by omega
   simp only [this,decide_false,Bool.false_eq_true,if_false,hr,decide_true,if_true]
   congr 2; omega
 | k + 1,i,m,r,hk,hr,h0,h1 => by
   have hi : i < r.length := by omega
   have hlt : (i : Int) < (n : Int) := by omega
   have hw : IntKind.i64.wrap ((i : Int) + 1) = ((i + 1 : Nat) : Int) := by rw [w64 (by omega) (by omega)]; omega
   have t0 := markT_ok (m) (by omega)
   rw [laws_markModeS_p0_eq,w64 (n := m + 1) (by omega) (by omega),w64 (n := m + 1 + 1) (by omega) (by omega),w64 (n := m + 1 + 1 + 1) (by omega) (by omega)]
   simp only [hlt,decide_true,if_true,Int.natCast_nonneg,Int.toNat_natCast,List.getElem?_eq_getElem hi,Option.bind_some,Bool.and_self,hw,t0,List.getElem?_set_self,List.length_set,hi]
   exact markModeS_loopD n hn M hM k (i + 1) (m + 1 + 1 + 1) _ (by omega) (by simp [hr]) (by omega) (by omega)
theorem markModeS_okD (xs : List T_Mode.ty) (hs : xs.length ≤ 1048576) (m : Nat) (hm : m ≤ 1125899906842624) : ∃ (m' : Nat) (ys : List T_Mode.ty),m' ≤ m + 4398046511104 ∧ laws_markModeS xs m = some ((m' : Int),ys) := by
 obtain ⟨r',q⟩ := markModeS_loopD xs.length hs ((m + 3 * xs.length : Nat) : Int) (by omega) xs.length 0 m xs (by omega) rfl (by omega) (by omega)
 exact ⟨m + 3 * xs.length,r',by omega,by rw [laws_markModeS_eq]; exact q⟩
theorem markWorkS_loopD (n : Nat) (hn : n ≤ 1048576) (M : Int) (hM : M ≤ 1152921504606846976) : ∀ (k i : Nat) (m : Int) (r : List T_Peg.ty),i + k = n → r.length = n → 0 ≤ m → M = m + 4 * k → ∃ r' : List T_Peg.ty,laws_markWorkS_p0 n n m i r = some (M,r')
 | 0,i,m,r,hk,hr,h0,h1 => by
   refine ⟨r,?_⟩
   rw [laws_markWorkS_p0_eq]
   have : ¬ (i : Int) < (n : Int) := by omega
   simp only [this,decide_false,Bool.false_eq_true,if_false,hr,decide_true,if_true]
   congr 2; omega
 | k + 1,i,m,r,hk,hr,h0,h1 => by
   have hi : i < r.length := by omega
   have hlt : (i : Int) < (n : Int) := by omega
   have hw : IntKind.i64.wrap ((i : Int) + 1) = ((i + 1 : Nat) : Int) := by rw [w64 (by omega) (by omega)]; omega
   have t0 := markT_ok (m) (by omega)
   rw [laws_markWorkS_p0_eq,w64 (n := m + 1) (by omega) (by omega),w64 (n := m + 1 + 1) (by omega) (by omega),w64 (n := m + 1 + 1 + 1) (by omega) (by omega),w64 (n := m + 1 + 1 + 1 + 1) (by omega) (by omega)]
   simp only [hlt,decide_true,if_true,Int.natCast_nonneg,Int.toNat_natCast,List.getElem?_eq_getElem hi,Option.bind_some,Bool.and_self,hw,t0,List.getElem?_set_self,List.length_set,hi]
   exact markWorkS_loopD n hn M hM k (i + 1) (m + 1 + 1 + 1 + 1) _ (by omega) (by simp [hr]) (by omega) (by omega)
theorem markWorkS_okD (xs : List T_Peg.ty) (hs : xs.length ≤ 1048576) (m : Nat) (hm : m ≤ 1125899906842624) : ∃ (m' : Nat) (ys : List T_Peg.ty),m' ≤ m + 4398046511104 ∧ laws_markWorkS xs m = some ((m' : Int),ys) := by
 obtain ⟨r',q⟩ := markWorkS_loopD xs.length hs ((m + 4 * xs.length : Nat) : Int) (by omega) xs.length 0 m xs (by omega) rfl (by omega) (by omega)
 exact ⟨m + 4 * xs.length,r',by omega,by rw [laws_markWorkS_eq]; exact q⟩
theorem markPaperS_loopD (n : Nat) (hn : n ≤ 1048576) (M : Int) (hM : M ≤ 1152921504606846976) : ∀ (k i : Nat) (m : Int) (r : List T_Paper.ty),i + k = n → r.length = n → 0 ≤ m → M = m + 5 * k → ∃ r' : List T_Paper.ty,laws_markPaperS_p0 n n m i r = some (M,r')
 | 0,i,m,r,hk,hr,h0,h1 => by
   refine ⟨r,?_⟩
   rw [laws_markPaperS_p0_eq]
   have : ¬ (i : Int) < (n : Int) := by omega
   simp only [this,decide_false,Bool.false_eq_true,if_false,hr,decide_true,if_true]
   congr 2; omega
 | k + 1,i,m,r,hk,hr,h0,h1 => by
   have hi : i < r.length := by omega
   have hlt : (i : Int) < (n : Int) := by omega
   have hw : IntKind.i64.wrap ((i : Int) + 1) = ((i + 1 : Nat) : Int) := by rw [w64 (by omega) (by omega)]; omega
   have t0 := markT_ok (m) (by omega)
   have t1 := markT_ok (m + 1) (by omega)
   rw [laws_markPaperS_p0_eq,w64 (n := m + 1) (by omega) (by omega),w64 (n := m + 1 + 1) (by omega) (by omega),w64 (n := m + 1 + 1 + 1) (by omega) (by omega),w64 (n := m + 1 + 1 + 1 + 1) (by omega) (by omega),w64 (n := m + 1 + 1 + 1 + 1 + 1) (by omega) (by omega)]
   simp only [hlt,decide_true,if_true,Int.natCast_nonneg,Int.toNat_natCast,List.getElem?_eq_getElem hi,Option.bind_some,Bool.and_self,hw,t0,t1,List.getElem?_set_self,List.length_set,hi]
   exact markPaperS_loopD n hn M hM k (i + 1) (m + 1 + 1 + 1 + 1 + 1) _ (by omega) (by simp [hr]) (by omega) (by omega)
theorem markPaperS_okD (xs : List T_Paper.ty) (hs : xs.length ≤ 1048576) (m : Nat) (hm : m ≤ 1125899906842624) : ∃ (m' : Nat) (ys : List T_Paper.ty),m' ≤ m + 4398046511104 ∧ laws_markPaperS xs m = some ((m' : Int),ys) := by
 obtain ⟨r',q⟩ := markPaperS_loopD xs.length hs ((m + 5 * xs.length : Nat) : Int) (by omega) xs.length 0 m xs (by omega) rfl (by omega) (by omega)
 exact ⟨m + 5 * xs.length,r',by omega,by rw [laws_markPaperS_eq]; exact q⟩
theorem spec_l32Ok_okD (x : T_Desk.ty) (h : deskSmall x) : spec_l32Ok x = some (deskOk x) := by
 obtain ⟨h1,h2,h3,h4,h5,h6,h7,h8⟩ := h
 rw [spec_l32Ok_eq,deskOk]
 simp only [spec_l04Ok_ok _ h1.1 h1.2,spec_l06Ok_ok _ h2.1 h2.2,spec_l08Ok_ok _ h3.1 h3.2,spec_l10Ok_ok,spec_l12Ok_ok _ h4.1 h4.2,spec_l14Ok_ok _ h5.1 h5.2,spec_l16Ok_ok _ h6.1 h6.2,spec_l18Ok_ok _ h7.1 h7.2,spec_l20Ok_ok _ h8.1 h8.2,Option.bind_some]
 cases stacksOk x.1 <;> cases ribsOk x.2.1 <;> cases plateOk x.2.2.1 <;> cases neckOk (x.2.2.2.1,x.2.2.2.2.1,x.2.2.2.2.2.1,x.2.2.2.2.2.2.1,()) <;> first | rfl | skip
 all_goals (cases pegsOk x.2.2.2.2.2.2.2.1 <;> cases potsOk x.2.2.2.2.2.2.2.2.1 <;> cases modesOk x.2.2.2.2.2.2.2.2.2.1 <;> cases worksOk x.2.2.2.2.2.2.2.2.2.2.1 <;> rfl)
def deskLine (s : List UInt8) (n : Int) : List UInt8 := s ++ [32] ++ Lib.itoa n
theorem deskLine_1 (s : List UInt8) (n : Int) (hs : s.length ≤ 100) (h : -1000000000000 ≤ n ∧ n ≤ 1000000000000) : impl_DeskReport_1 s n = some (deskLine s n) := by
 have h2 := itoa_len n h
 have e1 : decide (s.length + [(32 : Nat)].length ≤ strMax) = true := by rw [strMax_eq]; simp only [List.length_cons,List.length_nil,decide_eq_true_eq]; omega
 have e2 : decide ((s ++ [(32 : UInt8)]).length + (Lib.itoa n).length ≤ strMax) = true := by rw [strMax_eq]; simp only [List.length_append,List.length_cons,List.length_nil,decide_eq_true_eq]; omega
 rw [impl_DeskReport_1_eq]
 simp only [e1,impl_Decimal_ok n (by omega),Option.bind_some,e2,if_true]
 rfl
theorem deskReport_loop (ws : List (List UInt8)) (ns : List Int) (hw : ∀ s,s ∈ ws → s.length ≤ 100) (hn : ∀ n,n ∈ ns → -1000000000000 ≤ n ∧ n ≤ 1000000000000) (hl : ws.length = ns.length) (hs : ws.length ≤ 100) :
 ∀ (k i : Nat) (r : List (List UInt8)),i + k = ws.length → r.length = i → spec_DeskReport_p0 i ws ns r = some (r ++ ((ws.zip ns).drop i).map (fun p => deskLine p.1 p.2),0)
 | 0,i,r,hk,hr => by
   rw [spec_DeskReport_p0_eq,List.drop_eq_nil_of_le (by rw [List.length_zip]; omega)]
   have : ¬ (i : Int) < (ws.length : Int) := by omega
   simp only [this,decide_false,Bool.false_eq_true,if_false,List.map_nil,List.append_nil,List.take_length]
 | k + 1,i,r,hk,hr => by
   have hi : i < ws.length := by omega
   have hi2 : i < ns.length := by omega
   have hlt : (i : Int) < (ws.length : Int) := by omega
   have hlt2 : (i : Int) < (ns.length : Int) := by omega
   have hwr : IntKind.i64.wrap ((i : Int) + 1) = ((i + 1 : Nat) : Int) := by rw [w64 (by omega) (by omega)]; omega
   have b1 := hw _ (List.getElem_mem hi)
   have b2 := hn _ (List.getElem_mem hi2)
   have b3 := itoa_len ns[i] b2
   have e1 : decide (ws[i].length + [(32 : Nat)].length ≤ strMax) = true := by rw [strMax_eq]; simp only [List.length_cons,List.length_nil,decide_eq_true_eq]; omega
   have e2 : decide ((ws[i] ++ [(32 : UInt8)]).length + (Lib.itoa ns[i]).length ≤ strMax) = true := by rw [strMax_eq]; simp only [List.length_append,List.length_cons,List.length_nil,decide_eq_true_eq]; omega
   have e3 : decide (r.length + 1 < lim) = true := by rw [lim_eq]; simp only [decide_eq_true_eq]; omega
   have hz : i < (ws.zip ns).length := by rw [List.length_zip]; omega
   rw [spec_DeskReport_p0_eq,List.drop_eq_getElem_cons hz]
   simp only [hlt,hlt2,decide_true,if_true,Int.natCast_nonneg,Bool.and_self,Int.toNat_natCast,List.getElem?_eq_getElem hi,List.getElem?_eq_getElem hi2,Option.bind_some,spec_l01Dec_itoa _ (show -2000000000000000000 ≤ ns[i] ∧ ns[i] ≤ 2000000000000000000 by omega),hwr,e1,e2,e3,List.take_length,List.getElem_zip,List.map_cons]
   rw [deskReport_loop ws ns hw hn hl hs k (i + 1) _ (by omega) (by simp [hr]),List.append_assoc]
   rfl
end Go.Ab.P
