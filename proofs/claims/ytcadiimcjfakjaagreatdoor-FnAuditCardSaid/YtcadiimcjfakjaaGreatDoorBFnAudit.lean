/- Lemmas on functions of the program. Conditions: told in each. -/
import Derived.Test.YtcadiimcjfakjaaGreatDoorPFnAudit2
set_option linter.unusedVariables false
set_option linter.unusedSimpArgs false
namespace Go.Ab.P
open Go.Ab
def sortedChk {α : Type} (ok : α → Bool) (id : α → List UInt8) : Option α → List α → Bool
 | _,[] => true
 | p,x :: r => ok x && ((match p with | none => true | some y => Op.bytesLess (id y) (id x)) && sortedChk ok id (some x) r)
theorem sortedChk_all {α : Type} {ok : α → Bool} {id : α → List UInt8} : ∀ {l : List α} {p : Option α},sortedChk ok id p l = true → ∀ x,x ∈ l → ok x = true
 | [],_,_,x,hx => by cases hx
 | y :: r,p,h,x,hx => by
   simp only [sortedChk,Bool.and_eq_true] at h
   rcases List.mem_cons.1 hx with rfl | hx
   ·exact h.1
   ·exact sortedChk_all h.2.2 x hx
theorem sortedLoopI {α : Type} (xs : List α) (one : α → Option Bool) (ok : α → Bool) (id : α → List UInt8) (p0 : Int → Option Bool) (last : Option Bool) (lb : Bool) (hlast : last = some lb)
 (heq : ∀ i : Int,p0 i = if decide (i < (xs.length : Int)) then (if decide (0 ≤ i) then (xs[i.toNat]?).bind fun x1 => (one x1).bind fun x2 => if (!x2) then some false else if decide (i > 0) then (if decide (0 ≤ IntKind.i64.wrap (i - 1)) then (xs[(IntKind.i64.wrap (i - 1)).toNat]?).bind fun x3 => if (!Op.bytesLess (id x3) (id x1)) then some false else p0 (IntKind.i64.wrap (i + 1)) else none) else p0 (IntKind.i64.wrap (i + 1)) else none) else last)
 (hs : xs.length ≤ 1048576) (h1 : ∀ x,x ∈ xs → one x = some (ok x)) :
 ∀ (k i : Nat),i + k = xs.length → p0 i = some (sortedChk ok id (if i = 0 then none else xs[i - 1]?) (xs.drop i) && lb)
 | 0,i,hk => by
   rw [heq,List.drop_eq_nil_of_le (by omega)]
   have : ¬ (i : Int) < (xs.length : Int) := by omega
   simp only [this,decide_false,Bool.false_eq_true,if_false,hlast,sortedChk,Bool.true_and]
 | k + 1,i,hk => by
   have hi : i < xs.length := by omega
   have hlt : (i : Int) < (xs.length : Int) := by omega
   have hw : IntKind.i64.wrap ((i : Int) + 1) = ((i + 1 : Nat) : Int) := by rw [w64 (by omega) (by omega)]; omega
   have ih := sortedLoopI xs one ok id p0 last lb hlast heq hs h1 k (i + 1) (by omega)
   rw [if_neg (by omega),Nat.add_sub_cancel,List.getElem?_eq_getElem hi] at ih
   rw [heq,List.drop_eq_getElem_cons hi]
   simp only [hlt,decide_true,if_true,Int.natCast_nonneg,Int.toNat_natCast,List.getElem?_eq_getElem hi,Option.bind_some,h1 xs[i] (List.getElem_mem hi),hw,ih,sortedChk]
   cases hok : ok xs[i]
   ·simp
   ·by_cases h0 : i = 0
    ·subst h0; simp
    ·have hp : (i : Int) > 0 := by omega
     have hw2 : IntKind.i64.wrap ((i : Int) - 1) = ((i - 1 : Nat) : Int) := by rw [w64 (by omega) (by omega)]; omega
     simp only [hp,decide_true,if_true,hw2,Int.natCast_nonneg,Int.toNat_natCast,List.getElem?_eq_getElem (show i - 1 < xs.length by omega),Option.bind_some,h0,if_false,Bool.not_true,Bool.false_eq_true]
     cases Op.bytesLess (id xs[i - 1]) (id xs[i]) <;> simp
theorem sortedLoopS {α : Type} (xs : List α) (one : α → Option Bool) (ok : α → Bool) (id : α → List UInt8) (p0 : Int → Option Bool) (last : Option Bool) (lb : Bool) (hlast : last = some lb)
 (heq : ∀ i : Int,p0 i = if decide (i < (xs.length : Int)) then (if decide (0 ≤ i) then (xs[i.toNat]?).bind fun x1 => (one x1).bind fun x2 => if (!x2) then some false else if decide (i > 0) then (if decide (0 ≤ IntKind.i64.wrap (i - 1)) then (xs[(IntKind.i64.wrap (i - 1)).toNat]?).bind fun x3 => if decide (0 ≤ i) then (xs[i.toNat]?).bind fun x4 => if (!Op.bytesLess (id x3) (id x4)) then some false else p0 (IntKind.i64.wrap (i + 1)) else none else none) else p0 (IntKind.i64.wrap (i + 1)) else none) else last)
 (hs : xs.length ≤ 1048576) (h1 : ∀ x,x ∈ xs → one x = some (ok x)) :
 ∀ (k i : Nat),i + k = xs.length → p0 i = some (sortedChk ok id (if i = 0 then none else xs[i - 1]?) (xs.drop i) && lb) := by
 refine sortedLoopI xs one ok id p0 last lb hlast (fun i => ?_) hs h1
 rw [heq]
 by_cases h : i < (xs.length : Int)
 ·by_cases h0 : 0 ≤ i
  ·simp only [h,h0,decide_true,if_true]
   cases xs[i.toNat]? <;> rfl
  ·simp only [h,h0,decide_true,decide_false,Bool.false_eq_true,if_true,if_false]
 ·simp only [h,decide_false,Bool.false_eq_true,if_false]
theorem allLoop {α β : Type} (xs : List α) (one : α → Option Bool) (ok : α → Bool) (p0 : Int → Option β) (bad : β) (last : Option β)
 (heq : ∀ i : Int,p0 i = if decide (i < (xs.length : Int)) then (if decide (0 ≤ i) then (xs[i.toNat]?).bind fun x1 => (one x1).bind fun x2 => if (!x2) then some bad else p0 (IntKind.i64.wrap (i + 1)) else none) else last)
 (hs : xs.length ≤ 1099511627776) (h1 : ∀ x,x ∈ xs → one x = some (ok x)) :
 ∀ (k i : Nat),i + k = xs.length → p0 i = if (xs.drop i).all ok then last else some bad
 | 0,i,hk => by
   rw [heq,List.drop_eq_nil_of_le (by omega)]
   have : ¬ (i : Int) < (xs.length : Int) := by omega
   simp [this]
 | k + 1,i,hk => by
   have hi : i < xs.length := by omega
   have hlt : (i : Int) < (xs.length : Int) := by omega
   have hw : IntKind.i64.wrap ((i : Int) + 1) = ((i + 1 : Nat) : Int) := by rw [w64 (by omega) (by omega)]; omega
   have ih := allLoop xs one ok p0 bad last heq hs h1 k (i + 1) (by omega)
   rw [heq,List.drop_eq_getElem_cons hi]
   simp only [hlt,decide_true,if_true,Int.natCast_nonneg,Int.toNat_natCast,List.getElem?_eq_getElem hi,Option.bind_some,h1 xs[i] (List.getElem_mem hi),hw,ih,List.all_cons]
   by_cases hok : ok xs[i] = true
   ·simp [hok]
   ·simp [hok]
theorem idxLoop {β : Type} (n : Nat) (c : Nat → Bool) (p0 : Int → Option β) (bad last : Option β) (heq : ∀ i : Nat,i < n → p0 (i : Int) = if c i then p0 ((i + 1 : Nat) : Int) else bad) (hlast : p0 (n : Int) = last) :
 ∀ (k i : Nat),i + k = n → p0 (i : Int) = if (List.range' i k).all c then last else bad
 | 0,i,hk => by
   have : i = n := by omega
   subst this
   simp [hlast]
 | k + 1,i,hk => by
   rw [heq i (by omega),idxLoop n c p0 bad last heq hlast k (i + 1) (by omega),List.range'_succ,List.all_cons]
   cases c i
   ·simp
   ·simp only [Bool.true_and,if_true]
def gather {β : Type} (f : Nat → List β) : Nat → Nat → List β
 | _,0 => []
 | i,k + 1 => f i ++ gather f (i + 1) k
theorem gather_mem {β : Type} {f : Nat → List β} {x : β} : ∀ (k i : Nat),x ∈ gather f i k → ∃ j,i ≤ j ∧ j < i + k ∧ x ∈ f j
 | 0,i,h => by cases h
 | k + 1,i,h => by
   rcases List.mem_append.1 h with h | h
   ·exact ⟨i,Nat.le_refl _,by omega,h⟩
   ·obtain ⟨j,h1,h2,h3⟩ := gather_mem k (i + 1) h
    exact ⟨j,by omega,by omega,h3⟩
theorem gather_len {β : Type} {f : Nat → List β} {m : Nat} (hf : ∀ i,(f i).length ≤ m) : ∀ (k i : Nat),(gather f i k).length ≤ m * k
 | 0,i => by simp [gather]
 | k + 1,i => by
   have := gather_len hf k (i + 1)
   have := hf i
   rw [gather,List.length_append,Nat.mul_succ]; omega
theorem accLoop {β γ : Type} (n m c : Nat) (f : Nat → List β) (hf : ∀ i,(f i).length ≤ m) (p0 : Int → List β → Option γ) (last : List β → Option γ)
 (heq : ∀ (i : Nat) (r : List β),i < n → r.length ≤ m * i + c → p0 (i : Int) r = p0 ((i + 1 : Nat) : Int) (r ++ f i)) (hlast : ∀ r : List β,r.length ≤ m * n + c → p0 (n : Int) r = last r) :
 ∀ (k i : Nat) (r : List β),i + k = n → r.length ≤ m * i + c → p0 (i : Int) r = last (r ++ gather f i k)
 | 0,i,r,hk,hr => by
   have : i = n := by omega
   subst this
   rw [hlast r hr,gather,List.append_nil]
 | k + 1,i,r,hk,hr => by
   have h1 := hf i
   rw [heq i r (by omega) hr,accLoop n m c f hf p0 last heq hlast k (i + 1) (r ++ f i) (by omega) (by rw [List.length_append,Nat.mul_succ]; omega),gather,List.append_assoc]
def sumG (f : Nat → Int) : Nat → Nat → Int
 | _,0 => 0
 | i,k + 1 => f i + sumG f (i + 1) k
theorem sumG_bd {f : Nat → Int} {lo hi : Int} (hlo : lo ≤ 0) (hhi : 0 ≤ hi) (hf : ∀ i,lo ≤ f i ∧ f i ≤ hi) : ∀ (k i : Nat),lo * k ≤ sumG f i k ∧ sumG f i k ≤ hi * k
 | 0,i => by simp [sumG]
 | k + 1,i => by
   have h1 := sumG_bd hlo hhi hf k (i + 1)
   have h2 := hf i
   have e1 : lo * ((k + 1 : Nat) : Int) = lo * k + lo := by rw [Int.natCast_succ,Int.mul_add,Int.mul_one]
   have e2 : hi * ((k + 1 : Nat) : Int) = hi * k + hi := by rw [Int.natCast_succ,Int.mul_add,Int.mul_one]
   rw [sumG,e1,e2]; omega
theorem sumLoop {γ : Type} (n : Nat) (hn : n ≤ 1048576) (f : Nat → Int) (hf : ∀ i,-100000000 ≤ f i ∧ f i ≤ 100000000) (p0 : Int → Int → Option γ) (last : Int → Option γ)
 (heq : ∀ (i : Nat) (a : Int),i < n → -1000000000000000 ≤ a ∧ a ≤ 1000000000000000 → p0 a (i : Int) = p0 (a + f i) ((i + 1 : Nat) : Int)) (hlast : ∀ a : Int,p0 a (n : Int) = last a) :
 ∀ (k i : Nat) (a : Int),i + k = n → -100000000 * (i : Int) ≤ a ∧ a ≤ 100000000 * (i : Int) → p0 a (i : Int) = last (a + sumG f i k)
 | 0,i,a,hk,ha => by
   have : i = n := by omega
   subst this
   rw [hlast,sumG,Int.add_zero]
 | k + 1,i,a,hk,ha => by
   have h1 := hf i
   rw [heq i a (by omega) (by omega),sumLoop n hn f hf p0 last heq hlast k (i + 1) (a + f i) (by omega) (by omega),sumG,Int.add_assoc]
theorem wsucc {i : Nat} (h : i < 4611686018427387904) : IntKind.i64.wrap ((i : Int) + 1) = ((i + 1 : Nat) : Int) := by
 rw [w64 (by omega) (by omega)]; omega
theorem getElem?_lt {α : Type} {l : List α} {i : Nat} (h : i < l.length) : l[i]? = some l[i] := List.getElem?_eq_getElem h
theorem drop_cons {α : Type} {l : List α} {i : Nat} (h : i < l.length) : l.drop i = l[i] :: l.drop (i + 1) := List.drop_eq_getElem_cons h
def rdivP (a b : Int) : Int := if a < 0 then -((b - 2 * a) / (2 * b)) else (2 * a + b) / (2 * b)
theorem rdivP_eq {a b : Int} (ha : 0 ≤ a) (hb : 0 < b) : rdivP a b = a / b + if b - a % b ≤ a % b then 1 else 0 := by
 have h1 := Int.mul_ediv_add_emod a b
 have h2 := Int.emod_nonneg a (show b ≠ 0 by omega)
 have h3 := Int.emod_lt_of_pos a hb
 unfold rdivP
 rw [if_neg (by omega)]
 generalize a / b = q at h1 ⊢
 generalize a % b = r at h1 h2 h3 ⊢
 have key : ∀ t s : Int,0 ≤ s → s < 2 * b → 2 * a + b = s + 2 * b * t → (2 * a + b) / (2 * b) = t := fun t s hs0 hs1 he => by
  rw [he,Int.add_mul_ediv_left s t (show 2 * b ≠ 0 by omega),Int.ediv_eq_zero_of_lt hs0 hs1]; omega
 have e : 2 * b * q = 2 * (b * q) := Int.mul_assoc 2 b q
 split
 ·refine key (q + 1) (2 * r - b) (by omega) (by omega) ?_
  rw [Int.mul_add,e]; omega
 ·rw [Int.add_zero]
  refine key q (2 * r + b) (by omega) (by omega) ?_
  rw [e]; omega
theorem rdivP_neg {a b : Int} (ha : 0 < a) (hb : 0 < b) : rdivP (-a) b = -rdivP a b := by
 unfold rdivP
 rw [if_pos (by omega),if_neg (by omega)]
 congr 2; omega
theorem rdivP_nonneg {a b : Int} (ha : 0 ≤ a) (hb : 0 < b) : 0 ≤ rdivP a b := by
 unfold rdivP
 rw [if_neg (by omega)]
 exact Int.ediv_nonneg (by omega) (by omega)
theorem rdivP_le {a b : Int} (ha : 0 ≤ a) (hb : 0 < b) : rdivP a b ≤ a + 1 := by
 rw [rdivP_eq ha hb]
 have := Int.ediv_le_self b ha
 split <;> omega
theorem rdivP_mono {a a' b : Int} (ha : 0 ≤ a) (h : a ≤ a') (hb : 0 < b) : rdivP a b ≤ rdivP a' b := by
 unfold rdivP
 rw [if_neg (by omega),if_neg (by omega)]
 exact Int.ediv_le_ediv (by omega) (by omega)
theorem tdiv_nonneg_eq {a b : Int} (ha : 0 ≤ a) : a.tdiv b = a / b := Int.tdiv_eq_ediv_of_nonneg ha
theorem tmod_nonneg_eq {a b : Int} (ha : 0 ≤ a) : a.tmod b = a % b := Int.tmod_eq_emod_of_nonneg ha
def small (c : UInt8) : Bool := decide (97 ≤ (c.toNat : Int)) && decide ((c.toNat : Int) ≤ 122)
def digit (c : UInt8) : Bool := decide (48 ≤ (c.toNat : Int)) && decide ((c.toNat : Int) ≤ 57)
def isName (s : List UInt8) : Bool := match s with | [] => false | c :: r => small c && r.all (fun c => small c || digit c) && decide (s.length ≤ 10)
def inR (n lo hi : Int) : Bool := decide (lo ≤ n) && decide (n ≤ hi)
theorem inR_iff' {n lo hi : Int} : inR n lo hi = true ↔ lo ≤ n ∧ n ≤ hi := by simp [inR]
theorem impl_within_ok (n lo hi : Int) : impl_within n lo hi = some (inR n lo hi) := by
 rw [impl_within_eq,inR]; by_cases h : lo ≤ n <;> simp [h]
theorem spec_l00In_ok (n lo hi : Int) : spec_l00In n lo hi = some (inR n lo hi) := by
 rw [spec_l00In_eq,inR]; by_cases h : lo ≤ n <;> simp [h]
theorem spec_l00Max_ok (a b : Int) : spec_l00Max a b = some (if b > a then b else a) := by
 rw [spec_l00Max_eq]; simp only [decide_eq_true_eq]; repeat' split
 all_goals first | rfl | (congr 1; omega)
theorem spec_l01Small_ok (c : UInt8) : spec_l01Small (c.toNat : Int) = some (small c) := by
 rw [spec_l01Small_eq,small]; by_cases h : 97 ≤ (c.toNat : Int) <;> simp [h]
theorem spec_l01Digit_ok (c : UInt8) : spec_l01Digit (c.toNat : Int) = some (digit c) := by
 rw [spec_l01Digit_eq,digit]; by_cases h : 48 ≤ (c.toNat : Int) <;> simp [h]
theorem impl_isDigit_ok (c : UInt8) : impl_isDigit (c.toNat : Int) = some (digit c) := by
 rw [impl_isDigit_eq,digit]; by_cases h : 48 ≤ (c.toNat : Int) <;> simp [h]
theorem spec_l01Name_p1_ok (s : List UInt8) (hs : s.length < 4611686018427387904) : ∀ (k i : Nat),i + k = s.length → spec_l01Name_p1 s i = some ((s.drop i).all fun c => small c || digit c)
 | 0,i,h => by
   rw [spec_l01Name_p1_eq,List.drop_eq_nil_of_le (by omega)]
   simp; omega
 | k + 1,i,h => by
   have hi : i < s.length := by omega
   rw [spec_l01Name_p1_eq,drop_cons hi]
   have h1 : (i : Int) < (s.length : Int) := by omega
   simp only [h1,decide_true,if_true,Int.natCast_nonneg,Int.toNat_natCast,getElem?_lt hi,Option.bind_some,spec_l01Small_ok,spec_l01Digit_ok,wsucc (show i < 4611686018427387904 by omega),spec_l01Name_p1_ok s hs k (i + 1) (by omega),List.all_cons]
   cases small s[i] <;> cases digit s[i] <;> simp
theorem spec_l01Name_ok (s : List UInt8) (hs : s.length < 4611686018427387904) : spec_l01Name s = some (isName s) := by
 rw [spec_l01Name_eq]
 cases s with
 | nil => rfl
 | cons c r =>
   have := spec_l01Name_p1_ok (c :: r) hs (r.length + 1) 0 (by simp)
   simp only [spec_l01Name_p0_eq,List.getElem?_cons_zero,Option.bind_some,spec_l01Small_ok]
   rw [show ((0 : Nat) : Int) = 0 from rfl] at this
   rw [this,isName]
   have e0 : ((c :: r) == ([] : List UInt8)) = false := by simp
   by_cases hl : ((c :: r).length : Int) > 10
   ·have : ¬ (c :: r).length ≤ 10 := by omega
    simp only [e0,hl,this,decide_true,decide_false,if_true,Bool.false_eq_true,if_false,Bool.and_false]
   ·have : (c :: r).length ≤ 10 := by omega
    simp only [e0,hl,this,decide_true,decide_false,if_true,Bool.false_eq_true,if_false,Bool.and_true]
    cases hc : small c <;> simp [hc]
def okFrom : Nat → List UInt8 → Bool
 | _,[] => true
 | i,c :: r => (small c || (i != 0 && digit c)) && okFrom (i + 1) r
theorem okFrom_all (r : List UInt8) : ∀ i,okFrom (i + 1) r = r.all fun c => small c || digit c := by
 induction r with
 | nil => intro i; rfl
 | cons c r ih => intro i; simp [okFrom,ih]
theorem impl_IsName_p0_ok (s : List UInt8) (hs : s.length < 4611686018427387904) : ∀ (k i : Nat),i + k = s.length → impl_IsName_p0 s i = some (okFrom i (s.drop i) && (!(s == []) && decide (s.length ≤ 10)))
 | 0,i,h => by
   rw [impl_IsName_p0_eq,List.drop_eq_nil_of_le (by omega),impl_few_eq]
   have h1 : ¬ (i : Int) < (s.length : Int) := by omega
   simp only [h1,decide_false,Bool.false_eq_true,if_false,okFrom,Option.bind_some,Bool.true_and]
   cases s with
   | nil => rfl
   | cons c r =>
     have : ((c :: r == []) = false) := by simp
     simp only [this,Bool.not_false,if_true,Bool.true_and]
     congr 1
     simp only [decide_eq_decide]; omega
 | k + 1,i,h => by
   have hi : i < s.length := by omega
   have h1 : (i : Int) < (s.length : Int) := by omega
   have ih := impl_IsName_p0_ok s hs k (i + 1) (by omega)
   have e1 : ∀ b : Bool,impl_IsName_p1 s i b = some (((b || (i != 0 && digit s[i])) && okFrom (i + 1) (s.drop (i + 1))) && (!(s == []) && decide (s.length ≤ 10))) := by
    intro b
    rw [impl_IsName_p1_eq]
    simp only [Int.natCast_nonneg,decide_true,if_true,Int.toNat_natCast,getElem?_lt hi,Option.bind_some,impl_isDigit_ok,wsucc (show i < 4611686018427387904 by omega),ih]
    cases b
    ·by_cases h0 : i = 0
     ·subst h0; simp
     ·have : ((i : Int) == 0) = false := by simp [h0]
      have : (i != 0) = true := by simp [h0]
      simp only [*]
      cases digit s[i] <;> simp
    ·simp
   rw [impl_IsName_p0_eq,drop_cons hi,okFrom]
   simp only [h1,decide_true,if_true,Int.natCast_nonneg,Int.toNat_natCast,getElem?_lt hi,Option.bind_some,e1,small]
   by_cases h97 : (s[i].toNat : Int) ≥ 97 <;> simp [h97]
theorem impl_IsName_ok (s : List UInt8) (hs : s.length < 4611686018427387904) : impl_IsName s = some (isName s) := by
 rw [impl_IsName_eq]
 have := impl_IsName_p0_ok s hs s.length 0 (by simp)
 rw [show ((0 : Nat) : Int) = 0 from rfl] at this
 rw [this]
 cases s with
 | nil => rfl
 | cons c r => simp [okFrom,okFrom_all,isName]
theorem impl_divRound_ok (a b : Int) (ha : -2000000000000000000 ≤ a ∧ a ≤ 2000000000000000000) (hb : 0 < b ∧ b ≤ 2000000000000000000) : impl_divRound a b = some (rdivP a b) := by
 rw [impl_divRound_eq]
 have e1 : IntKind.i64.wrap (0 - b) = -b := by rw [w64 (by omega) (by omega)]; omega
 have e2 : IntKind.i64.wrap (0 - a) = -a := by rw [w64 (by omega) (by omega)]; omega
 have e3 : (if -b > b then -b else b) = b := by rw [if_neg (by omega)]
 have hb0 : ¬ b = 0 := by omega
 have hbn : ¬ b < 0 := by omega
 simp only [e1,e2,e3,hb0,hbn,decide_false,Bool.false_eq_true,if_false]
 have main : ∀ x : Int,0 ≤ x → x ≤ 2000000000000000000 → x.tmod b = x % b ∧ x.tdiv b = x / b ∧ 0 ≤ x % b ∧ x % b < b ∧ 0 ≤ x / b ∧ x / b ≤ x := fun x h0 h1 =>
  ⟨tmod_nonneg_eq h0,tdiv_nonneg_eq h0,Int.emod_nonneg _ (by omega),Int.emod_lt_of_pos _ hb.1,Int.ediv_nonneg h0 (by omega),Int.ediv_le_self b h0⟩
 by_cases hneg : a < 0
 ·have e4 : (if -a > a then -a else a) = -a := by rw [if_pos (by omega)]
  obtain ⟨m1,m2,m3,m4,m5,m6⟩ := main (-a) (by omega) (by omega)
  have e5 : rdivP a b = -rdivP (-a) b := by rw [← rdivP_neg (show 0 < -a by omega) hb.1]; congr 1; omega
  rw [e5,rdivP_eq (show 0 ≤ -a by omega) hb.1]
  simp only [e4,hneg,m1,m2,decide_true,Bool.true_beq,Bool.not_false,if_true]
  rw [w64 (n := b - -a % b) (by omega) (by omega),w64 (n := -a / b) (by omega) (by omega),w64 (n := -a / b + 1) (by omega) (by omega),w64 (n := 0 - (-a / b + 1)) (by omega) (by omega),w64 (n := 0 - -a / b) (by omega) (by omega)]
  simp only [decide_eq_true_eq,ge_iff_le]
  split
  ·congr 1; omega
  ·congr 1; omega
 ·have e4 : (if -a > a then -a else a) = a := by rw [if_neg (by omega)]
  obtain ⟨m1,m2,m3,m4,m5,m6⟩ := main a (by omega) (by omega)
  rw [rdivP_eq (show 0 ≤ a by omega) hb.1]
  simp only [e4,hneg,m1,m2,decide_false,beq_self_eq_true,Bool.not_true,Bool.false_eq_true,if_false]
  rw [w64 (n := b - a % b) (by omega) (by omega),w64 (n := a / b) (by omega) (by omega),w64 (n := a / b + 1) (by omega) (by omega)]
  simp only [decide_eq_true_eq,ge_iff_le]
  split
  ·rfl
  ·congr 1; omega
theorem impl_Decimal_ok (n : Int) (h : -9223372036854775808 ≤ n ∧ n ≤ 9223372036854775807) : impl_Decimal n = some (Lib.itoa n) := by
 rw [impl_Decimal_eq,strconv_FormatInt_eq]
 simp [h.1,h.2]
theorem wu64 {n : Int} (h1 : 0 ≤ n) (h2 : n < 18446744073709551616) : IntKind.u64.wrap n = n := by
 have e : IntKind.u64.wrap n = if decide false = true then n % 18446744073709551616 - 18446744073709551616 else n % 18446744073709551616 := by
  simp [IntKind.wrap,IntKind.signed,IntKind.bits]
 rw [e]
 simp; omega
theorem and255 (x : Int) : ((BitVec.ofInt IntKind.u64.bits x &&& BitVec.ofInt IntKind.u64.bits 255).toNat : Int) ≤ 255 := by
 have : (BitVec.ofInt IntKind.u64.bits x &&& BitVec.ofInt IntKind.u64.bits 255).toNat ≤ 255 := by
  rw [BitVec.toNat_and]
  refine Nat.le_trans Nat.and_le_right ?_
  decide
 omega
def SrcOk (s : T_l00Src.ty) (c : Int) : Prop := (∀ x : Int,x ∈ s.1 → 0 ≤ x ∧ x ≤ 255) ∧ s.1.length ≤ 1048576 ∧ (0 : Int) ≤ s.2.1 ∧ (s.2.1 : Int) ≤ c
theorem src_eta (s : T_l00Src.ty) : (s.1,s.2.1,s.2.2.1,()) = s := rfl
theorem SrcOk.up {s : T_l00Src.ty} {c d : Int} (h : SrcOk s c) (hd : c ≤ d) : SrcOk s d := ⟨h.1,h.2.1,h.2.2.1,Int.le_trans h.2.2.2 hd⟩
theorem next_p0_ok (v : Int) (l : List Int) (a h : Int) (c : Int) (hs : SrcOk (l,a,h,()) c) (hc : c ≤ 1152921504606846976) (hv : 0 ≤ v ∧ v ≤ 255) :
 ∃ (u : Int) (s' : T_l00Src.ty),spec_l00Src_next_p0 v l a h = some (u,s') ∧ SrcOk s' (c + 1) ∧ 0 ≤ u ∧ u ≤ 255 := by
 obtain ⟨h1,h2,h3,h4⟩ := hs
 have h3 : 0 ≤ a := h3
 have h4 : a ≤ c := h4
 rw [spec_l00Src_next_p0_eq,w64 (n := a + 1) (by omega) (by omega)]
 split
 ·exact ⟨_,_,rfl,⟨h1,h2,by show (0 : Int) ≤ a + 1; omega,by show (a + 1 : Int) ≤ c + 1; omega⟩,hv⟩
 ·refine ⟨_,_,rfl,⟨h1,h2,by show (0 : Int) ≤ a + 1; omega,by show (a + 1 : Int) ≤ c + 1; omega⟩,?_⟩
  generalize hx : ((BitVec.ofInt IntKind.u64.bits _ &&& BitVec.ofInt IntKind.u64.bits 255).toNat : Int) = x
  have := and255 (Int.fdiv (IntKind.u64.wrap ((IntKind.u64.wrap ((IntKind.u64.wrap (h * 6364136223846793005)) + (IntKind.u64.wrap v))) + 1442695040888963407)) (2 ^ (min (40 : Int).toNat IntKind.u64.bits)))
  rw [hx] at this
  have h0 : 0 ≤ x := by rw [← hx]; exact Int.natCast_nonneg _
  rw [wu64 h0 (by omega),w64 (by omega) (by omega)]
  exact ⟨h0,this⟩
theorem next_core (l : List Int) (a h c : Int) (hs : SrcOk (l,a,h,()) c) (hc : c ≤ 1152921504606846976) : ∃ (u : Int) (s' : T_l00Src.ty),spec_l00Src_next (l,a,h,()) = some (u,s') ∧ SrcOk s' (c + 1) ∧ 0 ≤ u ∧ u ≤ 255 := by
 have h3 : (0 : Int) ≤ a := hs.2.2.1
 rw [spec_l00Src_next_eq]
 dsimp only
 split
 ·rename_i hlt
  simp only [decide_eq_true_eq] at hlt
  have hlt' : a < (List.length (α := Int) l : Int) := hlt
  have hi : a.toNat < l.length := by omega
  obtain ⟨x,hx⟩ : ∃ x,l[a.toNat]? = some x := ⟨_,List.getElem?_eq_getElem hi⟩
  have hm : 0 ≤ x ∧ x ≤ 255 := hs.1 x (List.mem_of_getElem? hx)
  rw [if_pos (by simpa using h3),hx,Option.bind_some,w64 (n := x) (by omega) (by omega)]
  exact next_p0_ok x l a h c hs hc hm
 ·exact next_p0_ok 0 l a h c hs hc ⟨by omega,by omega⟩
theorem next_ok {s : T_l00Src.ty} {c : Int} (hs : SrcOk s c) (hc : c ≤ 1152921504606846976) : ∃ (u : Int) (s' : T_l00Src.ty),spec_l00Src_next s = some (u,s') ∧ SrcOk s' (c + 1) ∧ 0 ≤ u ∧ u ≤ 255 :=
 next_core s.1 s.2.1 s.2.2.1 c hs hc
theorem pick_ok {s : T_l00Src.ty} {c : Int} (hs : SrcOk s c) (hc : c ≤ 1000000000000000000) (n : Int) (hn : n ≤ 65536) :
 ∃ (u : Int) (s' : T_l00Src.ty),spec_l00Src_pick s n = some (u,s') ∧ SrcOk s' (c + 2) ∧ 0 ≤ u ∧ (u = 0 ∨ u < n) := by
 rw [spec_l00Src_pick_eq]
 by_cases h1 : n ≤ 1
 ·simp only [h1,decide_true,if_true]
  exact ⟨0,s,rfl,hs.up (by omega),by omega,.inl rfl⟩
 ·obtain ⟨u,s1,e1,k1,b1,b2⟩ := next_ok hs (by omega)
  have hn0 : ¬ n = 0 := by omega
  simp only [h1,decide_false,Bool.false_eq_true,if_false,e1,Option.bind_some,src_eta,hn0]
  by_cases h2 : n > 200
  ·obtain ⟨v,s2,e2,k2,b3,b4⟩ := next_ok k1 (by omega)
   simp only [h2,decide_true,if_true,e2,Option.bind_some,src_eta]
   rw [w64 (n := u * 256) (by omega) (by omega),w64 (n := u * 256 + v) (by omega) (by omega),tmod_nonneg_eq (by omega)]
   exact ⟨_,s2,rfl,k2.up (by omega),Int.emod_nonneg _ hn0,.inr (Int.emod_lt_of_pos _ (by omega))⟩
  ·simp only [h2,decide_false,Bool.false_eq_true,if_false]
   rw [tmod_nonneg_eq b1]
   exact ⟨_,s1,rfl,k1.up (by omega),Int.emod_nonneg _ hn0,.inr (Int.emod_lt_of_pos _ (by omega))⟩
theorem one_ok {s : T_l00Src.ty} {c : Int} (hs : SrcOk s c) (hc : c ≤ 1000000000000000000) (n : Int) (hn : n ≤ 65536) :
 ∃ (u : Bool) (s' : T_l00Src.ty),spec_l00Src_one s n = some (u,s') ∧ SrcOk s' (c + 2) := by
 obtain ⟨u,s1,e1,k1,_⟩ := pick_ok hs hc n hn
 rw [spec_l00Src_one_eq]
 simp only [e1,Option.bind_some,src_eta]
 exact ⟨_,s1,rfl,k1⟩
theorem from_ok (code : List Int) (h1 : ∀ x,x ∈ code → 0 ≤ x ∧ x ≤ 255) (h2 : code.length ≤ 1048576) : ∃ s,spec_l00From code = some s ∧ SrcOk s 0 := by
 rw [spec_l00From_eq]
 exact ⟨_,rfl,h1,h2,Int.le_refl _,Int.le_refl _⟩
theorem bytes_ok {l : List Int} (h : CT.wf (.sl (.one (.int .u8))) l) : ∀ x,x ∈ l → 0 ≤ x ∧ x ≤ 255 := fun x hx => by
 have : (Lit.int .u8 x).wf = true := h.2 x hx
 simp [Lit.wf,IntKind.min,IntKind.max,IntKind.signed,IntKind.bits] at this
 omega
theorem decDigits_len : ∀ (k u : Nat),u < 10 ^ (k + 1) → (Lib.decDigits u).length ≤ k + 1 ∧ 1 ≤ (Lib.decDigits u).length
 | 0,u,h => by
   rw [Lib.decDigits,dif_pos (by simpa using h)]; simp
 | k + 1,u,h => by
   rw [Lib.decDigits]
   split
   ·simp
   ·have hq : u / 10 < 10 ^ (k + 1) := by
     have : 10 ^ (k + 1 + 1) = 10 ^ (k + 1) * 10 := Nat.pow_succ ..
     omega
    have := decDigits_len k (u / 10) hq
    simp only [List.length_append,List.length_singleton]
    omega
theorem itoa_len (n : Int) (h : -1000000000000 ≤ n ∧ n ≤ 1000000000000) : 1 ≤ (Lib.itoa n).length ∧ (Lib.itoa n).length ≤ 15 := by
 have e13 : (10 : Nat) ^ (13 + 1) = 100000000000000 := by decide
 unfold Lib.itoa
 split
 ·have := decDigits_len 13 n.natAbs (by omega)
  simp; omega
 ·have := decDigits_len 13 n.toNat (by omega)
  omega
def risesAt (lo hi : Int) (l : List Int) (i : Nat) : Bool := inR ((l[i]?).getD 0) lo hi && (decide (i = 0) || decide ((l[i - 1]?).getD 0 < (l[i]?).getD 0))
def risesB (lo hi : Int) (l : List Int) : Bool := (List.range' 0 l.length).all (risesAt lo hi l)
theorem spec_l00Rises_ok (l : List Int) (lo hi : Int) (hs : l.length ≤ 1048576) : spec_l00Rises l lo hi = some (risesB lo hi l) := by
 rw [spec_l00Rises_eq,risesB]
 have := idxLoop l.length (risesAt lo hi l) (fun i => spec_l00Rises_p0 l lo hi i) (some false) (some true) (fun i hi' => ?_) ?_ l.length 0 (by omega)
 ·rw [show ((0 : Nat) : Int) = 0 from rfl] at this
  rw [this]; cases (List.range' 0 l.length).all (risesAt lo hi l) <;> rfl
 ·have hlt : (i : Int) < (l.length : Int) := by omega
  have hw : IntKind.i64.wrap ((i : Int) + 1) = ((i + 1 : Nat) : Int) := by rw [w64 (by omega) (by omega)]; omega
  show spec_l00Rises_p0 l lo hi i = _
  rw [spec_l00Rises_p0_eq]
  simp only [hlt,decide_true,if_true,Int.natCast_nonneg,Int.toNat_natCast,List.getElem?_eq_getElem hi',Option.bind_some,spec_l00In_ok,hw,risesAt,Option.getD_some]
  cases inR l[i] lo hi
  ·simp
  ·by_cases h0 : i = 0
   ·subst h0; simp
   ·have hp : (i : Int) > 0 := by omega
    have hw2 : IntKind.i64.wrap ((i : Int) - 1) = ((i - 1 : Nat) : Int) := by rw [w64 (by omega) (by omega)]; omega
    simp only [hp,decide_true,if_true,hw2,Int.natCast_nonneg,Int.toNat_natCast,List.getElem?_eq_getElem (show i - 1 < l.length by omega),Option.bind_some,Option.getD_some,h0,decide_false,Bool.false_or,Bool.not_true,Bool.false_eq_true,if_false,Bool.true_and]
    by_cases hc : l[i - 1] < l[i]
    ·have : ¬ l[i - 1] ≥ l[i] := by omega
     simp [hc,this]
    ·have : l[i - 1] ≥ l[i] := by omega
     simp [hc,this]
 ·show spec_l00Rises_p0 l lo hi (l.length : Int) = _
  rw [spec_l00Rises_p0_eq]; simp
theorem risesB_at {lo hi : Int} {l : List Int} (h : risesB lo hi l = true) {i : Nat} (hi' : i < l.length) : risesAt lo hi l i = true :=
 List.all_eq_true.1 h i (by simp; omega)
theorem risesB_lt {lo hi : Int} {l : List Int} (h : risesB lo hi l = true) : ∀ (d i : Nat),(hi' : i + d < l.length) → l[i]'(by omega) ≤ l[i + d] ∧ (0 < d → l[i]'(by omega) < l[i + d])
 | 0,i,hi' => ⟨Int.le_refl _,fun h => absurd h (Nat.lt_irrefl _)⟩
 | d + 1,i,hi' => by
   have h1 := (risesB_lt h d i (by omega)).1
   have h2 := risesB_at h (i := i + d + 1) (by omega)
   simp only [risesAt,Bool.and_eq_true,Bool.or_eq_true,decide_eq_true_eq,List.getElem?_eq_getElem (show i + d + 1 < l.length by omega),Nat.add_sub_cancel,List.getElem?_eq_getElem (show i + d < l.length by omega),Option.getD_some] at h2
   have h3 : l[i + d] < l[i + d + 1] := by rcases h2.2 with h | h; · omega
                                           ·exact h
   have h4 : l[i + (d + 1)] = l[i + d + 1] := rfl
   exact ⟨by rw [h4]; omega,fun _ => by rw [h4]; omega⟩
theorem risesB_last {l : List Int} (h : risesB 0 11 l = true) (i : Int) (hi' : 0 ≤ i) : risesB 0 (i - 1) l = !(decide (0 < l.length) && decide (i ≤ l.getLastD 0)) := by
 by_cases hl : l = []
 ·subst hl; rfl
 have hpos : 0 < l.length := List.length_pos_iff.2 hl
 have hla : l.getLastD 0 = l[l.length - 1] := by
  rw [List.getLastD_eq_getLast?,List.getLast?_eq_getElem?,List.getElem?_eq_getElem (by omega)]; rfl
 rw [hla]
 by_cases hc : i ≤ l[l.length - 1]
 ·have : risesB 0 (i - 1) l = false := by
   rw [Bool.eq_false_iff]
   intro h2
   have := risesB_at h2 (i := l.length - 1) (by omega)
   simp only [risesAt,Bool.and_eq_true,inR,decide_eq_true_eq,List.getElem?_eq_getElem (show l.length - 1 < l.length by omega),Option.getD_some] at this
   omega
  rw [this]; simp [hpos,hc]
 ·have : risesB 0 (i - 1) l = true := by
   refine List.all_eq_true.2 fun j hj => ?_
   have hjl : j < l.length := by simp at hj; omega
   have h1 := risesB_at h hjl
   simp only [risesAt,Bool.and_eq_true,inR,decide_eq_true_eq,List.getElem?_eq_getElem hjl,Option.getD_some] at h1 ⊢
   have h2 := (risesB_lt h (l.length - 1 - j) j (by omega)).1
   have h3 : l[j + (l.length - 1 - j)]'(by omega) = l[l.length - 1] := by congr 1; omega
   rw [h3] at h2
   exact ⟨⟨h1.1.1,by omega⟩,h1.2⟩
  rw [this]; simp [hpos,hc]
def stepOk (x : T_Step.ty) : Bool := isName x.1 && (inR x.2.1 1 200 && (inR x.2.2.1 0 20 && risesB 0 11 x.2.2.2.1))
def stepC (xs : List T_Step.ty) (i : Nat) : Bool := stepOk (stAt xs i) && (risesB 0 ((i : Int) - 1) (stAt xs i).2.2.2.1 && (List.range' 0 i).all fun j => !decide ((stAt xs j).1 = (stAt xs i).1))
def stepsOk (xs : List T_Step.ty) : Bool := (List.range' 0 xs.length).all (stepC xs) && decide ((xs.length : Int) ≤ 12)
theorem stAt_eq (xs : List T_Step.ty) {i : Nat} (h : i < xs.length) : stAt xs i = xs[i] := by simp [stAt,List.getElem?_eq_getElem h]
theorem spec_l17One_ok (x : T_Step.ty) (h0 : x.1.length ≤ 1048576) (h1 : List.length (α := Int) x.2.2.2.1 ≤ 1048576) : spec_l17One x = some (stepOk x) := by
 rw [spec_l17One_eq,stepOk]
 simp only [spec_l01Name_ok x.1 (Nat.lt_of_le_of_lt h0 (by decide)),spec_l00In_ok,spec_l00Rises_ok _ _ _ h1,Option.bind_some]
 cases isName x.1 <;> cases inR x.2.1 1 200 <;> cases inR x.2.2.1 0 20 <;> simp
theorem spec_l17Ok_ok (xs : List T_Step.ty) (hs : xs.length ≤ 1048576) (hx : ∀ x,x ∈ xs → x.1.length ≤ 1048576 ∧ List.length (α := Int) x.2.2.2.1 ≤ 1048576) : spec_l17Ok xs = some (stepsOk xs) := by
 rw [spec_l17Ok_eq,stepsOk]
 have := idxLoop xs.length (stepC xs) (fun i => spec_l17Ok_p0 xs i) (some false) (some (decide ((xs.length : Int) ≤ 12))) (fun i hi' => ?_) ?_ xs.length 0 (by omega)
 ·rw [show ((0 : Nat) : Int) = 0 from rfl] at this
  rw [this]; cases (List.range' 0 xs.length).all (stepC xs) <;> rfl
 ·have hlt : (i : Int) < (xs.length : Int) := by omega
  have hw : IntKind.i64.wrap ((i : Int) + 1) = ((i + 1 : Nat) : Int) := by rw [w64 (by omega) (by omega)]; omega
  have hw2 : IntKind.i64.wrap ((i : Int) - 1) = (i : Int) - 1 := by rw [w64 (by omega) (by omega)]
  obtain ⟨g1,g2⟩ := hx xs[i] (List.getElem_mem hi')
  show spec_l17Ok_p0 xs i = _
  rw [spec_l17Ok_p0_eq]
  simp only [hlt,decide_true,if_true,Int.natCast_nonneg,Int.toNat_natCast,List.getElem?_eq_getElem hi',Option.bind_some,spec_l17One_ok _ g1 g2,spec_l00Rises_ok _ _ _ g2,hw2,stepC,stAt_eq xs hi']
  cases stepOk xs[i]
  ·simp
  cases risesB 0 ((i : Int) - 1) xs[i].2.2.2.1
  ·simp
  simp only [Bool.not_true,Bool.false_eq_true,if_false,Bool.true_and]
  rw [spec_l17Ok_p1_eq]
  have := idxLoop i (fun j => !decide ((stAt xs j).1 = xs[i].1)) (fun j => spec_l17Ok_p2 xs i xs[i].1 xs[i].2.1 xs[i].2.2.1 xs[i].2.2.2.1 j) (some false) (spec_l17Ok_p0 xs ((i + 1 : Nat) : Int)) (fun j hj => ?_) ?_ i 0 (by omega)
  ·rw [show ((0 : Nat) : Int) = 0 from rfl] at this
   rw [this]
  ·have hlt : (j : Int) < (i : Int) := by omega
   have hw : IntKind.i64.wrap ((j : Int) + 1) = ((j + 1 : Nat) : Int) := by rw [w64 (by omega) (by omega)]; omega
   show spec_l17Ok_p2 xs i _ _ _ _ j = _
   rw [spec_l17Ok_p2_eq]
   simp only [hlt,decide_true,if_true,Int.natCast_nonneg,Int.toNat_natCast,List.getElem?_eq_getElem (show j < xs.length by omega),Option.bind_some,hw,stAt_eq xs (show j < xs.length by omega)]
   by_cases hc : xs[j].1 = xs[i].1
   ·simp [hc]
   ·simp [hc]
  ·show spec_l17Ok_p2 xs i _ _ _ _ (i : Int) = _
   rw [spec_l17Ok_p2_eq]
   simp [hw]
 ·show spec_l17Ok_p0 xs (xs.length : Int) = _
  rw [spec_l17Ok_p0_eq]; simp
theorem impl_Step_valid_core (a : List UInt8) (b c : Int) (l : List Int) (h0 : a.length ≤ 1048576) (h1 : l.length ≤ 1048576) : impl_Step_valid (a,b,c,l,()) = some (stepOk (a,b,c,l,())) := by
 rw [impl_Step_valid_eq]
 show impl_Step_valid_p0 l (l.length : Int) 0 a b c l = _
 have := idxLoop l.length (risesAt 0 11 l) (fun i => impl_Step_valid_p0 l (l.length : Int) i a b c l) (some false) (some (isName a && (inR b 1 200 && inR c 0 20))) (fun i hi' => ?_) ?_ l.length 0 (by omega)
 ·rw [show ((0 : Nat) : Int) = 0 from rfl] at this
  rw [this,stepOk]
  show _ = some (isName a && (inR b 1 200 && (inR c 0 20 && risesB 0 11 l)))
  rw [risesB]
  cases (List.range' 0 l.length).all (risesAt 0 11 l) <;> cases isName a <;> cases inR b 1 200 <;> cases inR c 0 20 <;> rfl
 ·have hlt : (i : Int) < (l.length : Int) := by omega
  have hw : IntKind.i64.wrap ((i : Int) + 1) = ((i + 1 : Nat) : Int) := by rw [w64 (by omega) (by omega)]; omega
  show impl_Step_valid_p0 l (l.length : Int) i a b c l = _
  rw [impl_Step_valid_p0_eq]
  simp only [hlt,decide_true,if_true,Int.natCast_nonneg,Int.toNat_natCast,List.getElem?_eq_getElem hi',Option.bind_some,impl_within_ok,hw,risesAt,Option.getD_some]
  cases inR l[i] 0 11
  ·simp
  ·by_cases h0 : i = 0
   ·subst h0; simp
   ·have hp : (i : Int) > 0 := by omega
    have hw2 : IntKind.i64.wrap ((i : Int) - 1) = ((i - 1 : Nat) : Int) := by rw [w64 (by omega) (by omega)]; omega
    simp only [hp,decide_true,if_true,hw2,Int.natCast_nonneg,Int.toNat_natCast,List.getElem?_eq_getElem (show i - 1 < l.length by omega),Option.bind_some,Option.getD_some,h0,decide_false,Bool.false_or,Bool.not_true,Bool.false_eq_true,if_false,Bool.true_and]
    by_cases hc : l[i - 1] < l[i]
    ·have : ¬ l[i - 1] ≥ l[i] := by omega
     simp [hc,this]
    ·have : l[i - 1] ≥ l[i] := by omega
     simp [hc,this]
 ·show impl_Step_valid_p0 l (l.length : Int) (l.length : Int) a b c l = _
  rw [impl_Step_valid_p0_eq]
  simp only [Int.lt_irrefl,decide_false,Bool.false_eq_true,if_false,impl_IsName_ok a (Nat.lt_of_le_of_lt h0 (by decide)),impl_within_ok,Option.bind_some]
  cases isName a <;> cases inR b 1 200 <;> simp
theorem impl_Step_valid_ok (x : T_Step.ty) (h0 : x.1.length ≤ 1048576) (h1 : List.length (α := Int) x.2.2.2.1 ≤ 1048576) : impl_Step_valid x = some (stepOk x) := impl_Step_valid_core x.1 x.2.1 x.2.2.1 x.2.2.2.1 h0 h1
theorem vsSeen_all (ids : Nat → List UInt8) (k : Nat) : ∀ n,vsSeen ids k n = !((List.range' 0 n).all fun j => !decide (ids j = ids k))
 | 0 => rfl
 | n + 1 => by
   rw [vsSeen,vsSeen_all ids k n,List.range'_1_concat,List.all_append]
   simp only [Nat.zero_add,List.all_cons,List.all_nil,Bool.and_true,Bool.not_and,Bool.not_not]
theorem vsGo_all (xs : List T_Step.ty) (ok : Nat → Bool) (fin : Bool) (hok : ∀ i,i < xs.length → ok i = stepOk (stAt xs i)) : ∀ (k i : Nat),i + k = xs.length →
 vsGo (fun j => (stAt xs j).1) (fun j => List.length (α := Int) (stAt xs j).2.2.2.1) (fun j => List.getLastD (α := Int) (stAt xs j).2.2.2.1 0) ok fin k i = ((List.range' i k).all (stepC xs) && fin)
 | 0,i,hk => by simp [vsGo]
 | k + 1,i,hk => by
   rw [vsGo,hok i (by omega),vsGo_all xs ok fin hok k (i + 1) (by omega),List.range'_succ,List.all_cons,vsSeen_all,stepC]
   cases h : stepOk (stAt xs i)
   ·simp
   ·have hr : risesB 0 11 (stAt xs i).2.2.2.1 = true := by
     simp only [stepOk,Bool.and_eq_true] at h
     exact h.2.2.2
    rw [risesB_last hr i (by omega)]
    cases (List.range' 0 i).all fun j => !decide ((stAt xs j).1 = (stAt xs i).1)
    ·simp
    ·cases (decide (0 < List.length (α := Int) (stAt xs i).2.2.2.1) && decide ((i : Int) ≤ List.getLastD (α := Int) (stAt xs i).2.2.2.1 0)) <;> simp
theorem impl_ValidSteps_ok (xs : List T_Step.ty) (hs : xs.length ≤ 1048576) (hx : ∀ x,x ∈ xs → x.1.length ≤ 1048576 ∧ List.length (α := Int) x.2.2.2.1 ≤ 1048576) : impl_ValidSteps xs = some (stepsOk xs) := by
 rw [impl_ValidSteps_eq,vsF]
 have h1 : (xs.all fun x => (impl_Step_valid x).isSome && (decide (List.length (α := UInt8) x.1 ≤ 9223372036854775807) && decide (List.length (α := Int) x.2.2.2.1 ≤ 9223372036854775807))) = true := by
  refine List.all_eq_true.2 fun x hm => ?_
  obtain ⟨g1,g2⟩ := hx x hm
  rw [impl_Step_valid_ok x g1 g2,decide_eq_true (show List.length (α := UInt8) x.1 ≤ 9223372036854775807 by omega),decide_eq_true (show List.length (α := Int) x.2.2.2.1 ≤ 9223372036854775807 by omega)]
  rfl
 rw [h1,decide_eq_true (show xs.length ≤ 9223372036854775807 by omega)]
 simp only [Bool.and_self,if_true,impl_few_eq,Option.bind_some]
 rw [vsGo_all xs _ _ (fun i hi' => ?_) xs.length 0 (by omega),stepsOk]
 obtain ⟨g1,g2⟩ := hx xs[i] (List.getElem_mem hi')
 rw [stAt_eq xs hi',impl_Step_valid_ok _ g1 g2]
 rfl
theorem text_ok {s : T_l00Src.ty} {c : Int} (hs : SrcOk s c) (hc : c ≤ 1000000000000000000) (l : List (List UInt8)) (h0 : 0 < l.length) (hn : l.length ≤ 65536) :
 ∃ (u : List UInt8) (s' : T_l00Src.ty),spec_l00Src_text s l = some (u,s') ∧ SrcOk s' (c + 2) ∧ u ∈ l := by
 obtain ⟨u,s1,e1,k1,b1,b2⟩ := pick_ok hs hc (l.length : Int) (by omega)
 have hi : u.toNat < l.length := by omega
 rw [spec_l00Src_text_eq]
 simp only [e1,Option.bind_some,src_eta,b1,decide_true,if_true,List.getElem?_eq_getElem hi]
 exact ⟨_,s1,rfl,k1,List.getElem_mem hi⟩
def shopSmall (x : T_Shop.ty) : Prop :=
 List.length (α := T_Arc.ty) x.1 ≤ 1048576 ∧ List.length (α := T_Neck.ty) x.2.1 ≤ 1048576 ∧
 (List.length (α := T_Step.ty) x.2.2.2.1 ≤ 1048576 ∧ ∀ y : T_Step.ty,y ∈ x.2.2.2.1 → y.1.length ≤ 1048576 ∧ List.length (α := Int) y.2.2.2.1 ≤ 1048576) ∧
 List.length (α := Int) x.2.2.2.2.1 ≤ 1048576 ∧
 (List.length (α := T_Paper.ty) x.2.2.2.2.2.2.1 ≤ 1048576 ∧ ∀ y : T_Paper.ty,y ∈ x.2.2.2.2.2.2.1 → y.1.length ≤ 1048576 ∧ y.2.1.length ≤ 1048576) ∧
 (List.length (α := T_Entry.ty) x.2.2.2.2.2.2.2.1 ≤ 1048576 ∧ ∀ y : T_Entry.ty,y ∈ x.2.2.2.2.2.2.2.1 → y.2.1.length ≤ 1048576 ∧ y.2.2.1.length ≤ 1048576)
def arcSq (a b c d : Int) : Int := IntKind.i64.wrap ((IntKind.i64.wrap ((IntKind.i64.wrap (a - c)) * (IntKind.i64.wrap (a - c)))) + (IntKind.i64.wrap ((IntKind.i64.wrap (b - d)) * (IntKind.i64.wrap (b - d)))))
def ptOk (a b : Int) : Bool := inR a (-100000) 100000 && inR b (-100000) 100000
def arcOk (x : T_Arc.ty) : Bool := ptOk x.1 x.2.1 && (ptOk x.2.2.1 x.2.2.2.1 && (ptOk x.2.2.2.2.1 x.2.2.2.2.2.1 && (!((x.2.2.1 == x.2.2.2.2.1) && (x.2.2.2.1 == x.2.2.2.2.2.1)) && (arcSq x.1 x.2.1 x.2.2.1 x.2.2.2.1 == arcSq x.1 x.2.1 x.2.2.2.2.1 x.2.2.2.2.2.1))))
def arcAt (xs : List T_Arc.ty) (i : Nat) : T_Arc.ty := (xs[i]?).getD (0,0,0,0,0,0,())
def outC (xs : List T_Arc.ty) (i : Nat) : Bool := arcOk (arcAt xs i) && ((arcAt xs i).2.2.2.2.1 == (arcAt xs ((i + 1) % xs.length)).2.2.1 && (arcAt xs i).2.2.2.2.2.1 == (arcAt xs ((i + 1) % xs.length)).2.2.2.1)
def outOk (xs : List T_Arc.ty) : Bool := (List.range' 0 xs.length).all (outC xs) && inR (xs.length : Int) 2 16
theorem spec_l05One_ok (x : T_Arc.ty) : spec_l05One x = some (arcOk x) := by
 rw [spec_l05One_eq,arcOk]
 simp only [spec_l05Point_eq,spec_l00In_ok,spec_l05One_p0_eq,spec_l05Square_eq,Option.bind_some,ptOk,arcSq]
 cases inR x.1 (-100000) 100000
 ·rfl
 cases inR x.2.1 (-100000) 100000
 ·rfl
 cases inR x.2.2.1 (-100000) 100000
 ·rfl
 cases inR x.2.2.2.1 (-100000) 100000
 ·rfl
 cases inR x.2.2.2.2.1 (-100000) 100000
 ·rfl
 cases inR x.2.2.2.2.2.1 (-100000) 100000
 ·rfl
 cases ((x.2.2.1 == x.2.2.2.2.1) && (x.2.2.2.1 == x.2.2.2.2.2.1)) <;> simp
theorem impl_ValidArc_ok (x : T_Arc.ty) : impl_ValidArc x = some (arcOk x) := by
 rw [impl_ValidArc_eq,arcOk]
 simp only [impl_Point_valid_eq,impl_isCoord_eq,impl_within_ok,impl_squared_eq,Option.bind_some,ptOk,arcSq]
 cases inR x.1 (-100000) 100000
 ·rfl
 cases inR x.2.1 (-100000) 100000
 ·rfl
 cases inR x.2.2.1 (-100000) 100000
 ·rfl
 cases inR x.2.2.2.1 (-100000) 100000
 ·rfl
 cases inR x.2.2.2.2.1 (-100000) 100000
 ·rfl
 cases inR x.2.2.2.2.2.1 (-100000) 100000
 ·rfl
 cases ((x.2.2.1 == x.2.2.2.2.1) && (x.2.2.2.1 == x.2.2.2.2.2.1)) <;> simp
theorem next_at {n i : Nat} (hn : i < n) : ((((i : Int) + 1).tmod (n : Int)).toNat = (i + 1) % n) ∧ 0 ≤ ((i : Int) + 1).tmod (n : Int) := by
 have : ((i : Int) + 1).tmod (n : Int) = (((i + 1) % n : Nat) : Int) := by
  rw [Int.tmod_eq_emod_of_nonneg (by omega)]; rfl
 rw [this]; exact ⟨Int.toNat_natCast _,by omega⟩
theorem arcAt_get {xs : List T_Arc.ty} {i : Nat} (h : i < xs.length) : xs[i]? = some (arcAt xs i) := by simp [arcAt,List.getElem?_eq_getElem h]
theorem beq_pair (a b c d : Int) : (a == b && c == d) = (b == a && d == c) := by
 rw [show (a == b) = (b == a) from Bool.beq_comm,show (c == d) = (d == c) from Bool.beq_comm]
theorem spec_l05Ok_ok (xs : List T_Arc.ty) (hs : xs.length ≤ 1048576) : spec_l05Ok xs = some (outOk xs) := by
 rw [spec_l05Ok_eq,outOk]
 have := idxLoop xs.length (outC xs) (fun i => spec_l05Ok_p0 xs xs.length i) (some false) (some (inR (xs.length : Int) 2 16)) (fun i hi' => ?_) ?_ xs.length 0 (by omega)
 ·rw [show ((0 : Nat) : Int) = 0 from rfl] at this
  rw [this]; cases (List.range' 0 xs.length).all (outC xs) <;> rfl
 ·have hlt : (i : Int) < (xs.length : Int) := by omega
  have hw : IntKind.i64.wrap ((i : Int) + 1) = (i : Int) + 1 := by rw [w64 (by omega) (by omega)]
  have hc : ((i + 1 : Nat) : Int) = (i : Int) + 1 := by omega
  have hne : ¬ (xs.length : Int) = 0 := by omega
  obtain ⟨n1,n2⟩ := next_at hi'
  show spec_l05Ok_p0 xs xs.length i = _
  rw [spec_l05Ok_p0_eq]
  simp only [hlt,decide_true,if_true,Int.natCast_nonneg,Int.toNat_natCast,arcAt_get hi',Option.bind_some,spec_l05One_ok,hw,hc,hne,decide_false,Bool.false_eq_true,if_false,n1,n2,arcAt_get (Nat.mod_lt (i + 1) (show 0 < xs.length by omega)),outC]
  cases arcOk (arcAt xs i)
  ·simp
  ·simp only [Bool.not_true,Bool.false_eq_true,if_false,Bool.true_and]
   cases ((arcAt xs i).2.2.2.2.1 == (arcAt xs ((i + 1) % xs.length)).2.2.1 && (arcAt xs i).2.2.2.2.2.1 == (arcAt xs ((i + 1) % xs.length)).2.2.2.1) <;> simp
 ·show spec_l05Ok_p0 xs xs.length (xs.length : Int) = _
  rw [spec_l05Ok_p0_eq,inR]
  simp only [Int.lt_irrefl,decide_false,Bool.false_eq_true,if_false]
  by_cases h : 2 ≤ (xs.length : Int)
  ·simp [h]
  ·simp [h]
theorem impl_ValidOutline_ok (xs : List T_Arc.ty) (hs : xs.length ≤ 1048576) : impl_ValidOutline xs = some (outOk xs) := by
 rw [impl_ValidOutline_eq,outOk]
 have := idxLoop xs.length (outC xs) (fun i => impl_ValidOutline_p0 xs xs xs.length i) (some false) (some (inR (xs.length : Int) 2 16)) (fun i hi' => ?_) ?_ xs.length 0 (by omega)
 ·rw [show ((0 : Nat) : Int) = 0 from rfl] at this
  rw [this]; cases (List.range' 0 xs.length).all (outC xs) <;> rfl
 ·have hlt : (i : Int) < (xs.length : Int) := by omega
  have hw : IntKind.i64.wrap ((i : Int) + 1) = (i : Int) + 1 := by rw [w64 (by omega) (by omega)]
  have hc : ((i + 1 : Nat) : Int) = (i : Int) + 1 := by omega
  have hne : ¬ (xs.length : Int) = 0 := by omega
  obtain ⟨n1,n2⟩ := next_at hi'
  show impl_ValidOutline_p0 xs xs xs.length i = _
  rw [impl_ValidOutline_p0_eq]
  simp only [hlt,decide_true,if_true,Int.natCast_nonneg,Int.toNat_natCast,arcAt_get hi',Option.bind_some,impl_ValidArc_ok,impl_next_eq,hw,hc,hne,decide_false,Bool.false_eq_true,if_false,n1,n2,arcAt_get (Nat.mod_lt (i + 1) (show 0 < xs.length by omega)),outC]
  cases arcOk (arcAt xs i)
  ·simp
  ·simp only [Bool.not_true,Bool.false_eq_true,if_false,Bool.true_and]
   rw [beq_pair]
   cases ((arcAt xs i).2.2.2.2.1 == (arcAt xs ((i + 1) % xs.length)).2.2.1 && (arcAt xs i).2.2.2.2.2.1 == (arcAt xs ((i + 1) % xs.length)).2.2.2.1) <;> simp
 ·show impl_ValidOutline_p0 xs xs xs.length (xs.length : Int) = _
  rw [impl_ValidOutline_p0_eq]
  simp only [Int.lt_irrefl,decide_false,Bool.false_eq_true,if_false,impl_within_ok,Option.bind_some]
def cordOk (x : T_Neck.ty) : Bool := inR x.1 1 10000 && (inR x.2.1 1 500 && (inR x.2.2.1 1 10000 && inR x.2.2.2.1 1 500000))
def cordsOk (xs : List T_Neck.ty) : Bool := xs.all cordOk && decide ((xs.length : Int) ≤ 4)
theorem spec_l09One_ok (x : T_Neck.ty) : spec_l09One x = some (cordOk x) := by
 rw [spec_l09One_eq,cordOk]
 simp only [spec_l00In_ok,Option.bind_some]
 cases inR x.1 1 10000 <;> cases inR x.2.1 1 500 <;> cases inR x.2.2.1 1 10000 <;> rfl
theorem spec_l09List_ok (xs : List T_Neck.ty) (hs : xs.length ≤ 1048576) : spec_l09List xs = some (cordsOk xs) := by
 rw [spec_l09List_eq,cordsOk]
 have := allLoop xs spec_l09One cordOk (fun i => spec_l09List_p0 xs i) false (some (decide ((xs.length : Int) ≤ 4))) (fun i => spec_l09List_p0_eq xs i) (by omega) (fun x _ => spec_l09One_ok x) xs.length 0 (by omega)
 rw [show ((0 : Nat) : Int) = 0 from rfl,List.drop_zero] at this
 rw [this]; cases xs.all cordOk <;> rfl
theorem impl_ValidString_ok (x : T_Neck.ty) : impl_ValidString x = some (cordOk x) := by
 rw [impl_ValidString_eq,cordOk]
 simp only [impl_within_ok,Option.bind_some]
 cases inR x.1 1 10000 <;> cases inR x.2.1 1 500 <;> cases inR x.2.2.1 1 10000 <;> rfl
theorem impl_validCords_ok (xs : List T_Neck.ty) (hs : xs.length ≤ 1048576) : impl_validCords xs = some (cordsOk xs) := by
 rw [impl_validCords_eq,cordsOk]
 have := allLoop xs impl_ValidString cordOk (fun i => impl_validCords_p0 xs xs xs.length i) false (some (decide ((xs.length : Int) ≤ 4))) (fun i => by rw [impl_validCords_p0_eq,impl_few_eq]; rfl) (by omega) (fun x _ => impl_ValidString_ok x) xs.length 0 (by omega)
 rw [show ((0 : Nat) : Int) = 0 from rfl,List.drop_zero] at this
 rw [this]; cases xs.all cordOk <;> rfl
def startsOk (xs : List T_Step.ty) (l : List Int) : Bool := (l.all fun x => inR x 0 2400) && decide (l.length = xs.length)
theorem spec_l17Starts_ok (xs : List T_Step.ty) (l : List Int) (hs : l.length ≤ 1048576) : spec_l17Starts xs l = some (startsOk xs l) := by
 rw [spec_l17Starts_eq,startsOk]
 have := allLoop l (fun x => spec_l00In x 0 2400) (fun x => inR x 0 2400) (fun i => spec_l17Starts_p0 xs l i) false (some ((l.length : Int) == (xs.length : Int))) (fun i => spec_l17Starts_p0_eq xs l i) (by omega) (fun x _ => spec_l00In_ok x 0 2400) l.length 0 (by omega)
 rw [show ((0 : Nat) : Int) = 0 from rfl,List.drop_zero] at this
 rw [this]
 have e : ((l.length : Int) == (xs.length : Int)) = decide (l.length = xs.length) := by
  by_cases h : l.length = xs.length <;> simp [h]
  omega
 rw [e]; cases l.all fun x => inR x 0 2400 <;> rfl
theorem impl_areStarts_ok (xs : List T_Step.ty) (l : List Int) (hs : l.length ≤ 1048576) : impl_areStarts xs l = some (startsOk xs l) := by
 rw [impl_areStarts_eq,startsOk]
 have := allLoop l (fun x => impl_within x 0 2400) (fun x => inR x 0 2400) (fun i => impl_areStarts_p0 xs l l l.length i) false (some ((l.length : Int) == (xs.length : Int))) (fun i => impl_areStarts_p0_eq xs l l l.length i) (by omega) (fun x _ => impl_within_ok x 0 2400) l.length 0 (by omega)
 rw [show ((0 : Nat) : Int) = 0 from rfl,List.drop_zero] at this
 rw [this]
 have e : ((l.length : Int) == (xs.length : Int)) = decide (l.length = xs.length) := by
  by_cases h : l.length = xs.length <;> simp [h]
  omega
 rw [e]; cases l.all fun x => inR x 0 2400 <;> rfl
def rentalOk (x : T_Paper.ty) : Bool := isName x.1 && (isName x.2.1 && (inR x.2.2.1 0 100000 && (inR x.2.2.2.1 1 120 && inR x.2.2.2.2.1 0 10000000)))
def rentalsOk (xs : List T_Paper.ty) : Bool := sortedChk rentalOk (fun x => x.1) none xs && decide ((xs.length : Int) ≤ 12)
theorem spec_l21One_ok (x : T_Paper.ty) (h0 : x.1.length < 4611686018427387904) (h1 : x.2.1.length < 4611686018427387904) : spec_l21One x = some (rentalOk x) := by
 rw [spec_l21One_eq,rentalOk]
 simp only [spec_l01Name_ok x.1 h0,spec_l01Name_ok x.2.1 h1,spec_l21Day_eq,spec_l21Money_eq,spec_l00In_ok,Option.bind_some]
 cases isName x.1 <;> cases isName x.2.1 <;> cases inR x.2.2.1 0 100000 <;> cases inR x.2.2.2.1 1 120 <;> rfl
theorem impl_Rental_valid_ok (x : T_Paper.ty) (h0 : x.1.length < 4611686018427387904) (h1 : x.2.1.length < 4611686018427387904) : impl_Rental_valid x = some (rentalOk x) := by
 rw [impl_Rental_valid_eq,rentalOk]
 simp only [impl_IsName_ok x.1 h0,impl_IsName_ok x.2.1 h1,impl_isRentDay_eq,impl_isMonths_eq,impl_isMoney_eq,impl_within_ok,Option.bind_some]
 cases isName x.1 <;> cases isName x.2.1 <;> cases inR x.2.2.1 0 100000 <;> cases inR x.2.2.2.1 1 120 <;> rfl
theorem spec_l21Ok_ok (xs : List T_Paper.ty) (hs : xs.length ≤ 1048576) (hx : ∀ x,x ∈ xs → x.1.length ≤ 1048576 ∧ x.2.1.length ≤ 1048576) : spec_l21Ok xs = some (rentalsOk xs) := by
 rw [spec_l21Ok_eq]
 exact sortedLoopS xs spec_l21One rentalOk (fun x => x.1) (fun i => spec_l21Ok_p0 xs i) _ _ rfl (fun i => spec_l21Ok_p0_eq xs i) hs (fun x hm => spec_l21One_ok x (Nat.lt_of_le_of_lt (hx x hm).1 (by decide)) (Nat.lt_of_le_of_lt (hx x hm).2 (by decide))) xs.length 0 (by omega)
theorem impl_ValidRentals_ok (xs : List T_Paper.ty) (hs : xs.length ≤ 1048576) (hx : ∀ x,x ∈ xs → x.1.length ≤ 1048576 ∧ x.2.1.length ≤ 1048576) : impl_ValidRentals xs = some (rentalsOk xs) := by
 rw [impl_ValidRentals_eq]
 exact sortedLoopI xs impl_Rental_valid rentalOk (fun x => x.1) (fun i => impl_ValidRentals_p0 xs xs xs.length i) _ _ (show ((impl_few (xs.length : Int) 12).bind fun x4 => some x4) = some (decide ((xs.length : Int) ≤ 12)) by rw [impl_few_eq]; rfl) (fun i => impl_ValidRentals_p0_eq xs xs xs.length i) hs (fun x hm => impl_Rental_valid_ok x (Nat.lt_of_le_of_lt (hx x hm).1 (by decide)) (Nat.lt_of_le_of_lt (hx x hm).2 (by decide))) xs.length 0 (by omega)
def entryOk (x : T_Entry.ty) : Bool := inR x.1 0 100000 && (isName x.2.1 && (isName x.2.2.1 && (!(x.2.1 == x.2.2.1) && inR x.2.2.2.1 1 10000000)))
def entryAt (xs : List T_Entry.ty) (i : Nat) : T_Entry.ty := (xs[i]?).getD (0,[],[],0,())
def bookC (xs : List T_Entry.ty) (i : Nat) : Bool := entryOk (entryAt xs i) && (decide (i = 0) || !decide ((entryAt xs (i - 1)).1 > (entryAt xs i).1))
def bookOk (xs : List T_Entry.ty) : Bool := (List.range' 0 xs.length).all (bookC xs) && decide ((xs.length : Int) ≤ 32)
theorem entryAt_get {xs : List T_Entry.ty} {i : Nat} (h : i < xs.length) : xs[i]? = some (entryAt xs i) := by simp [entryAt,List.getElem?_eq_getElem h]
theorem entryAt_mem {xs : List T_Entry.ty} {i : Nat} (h : i < xs.length) : entryAt xs i ∈ xs := List.mem_of_getElem? (entryAt_get h)
theorem spec_l25One_ok (x : T_Entry.ty) (h0 : x.2.1.length < 4611686018427387904) (h1 : x.2.2.1.length < 4611686018427387904) : spec_l25One x = some (entryOk x) := by
 rw [spec_l25One_eq,entryOk]
 simp only [spec_l01Name_ok x.2.1 h0,spec_l01Name_ok x.2.2.1 h1,spec_l21Day_eq,spec_l00In_ok,Option.bind_some]
 cases inR x.1 0 100000 <;> cases isName x.2.1 <;> cases isName x.2.2.1 <;> cases (x.2.1 == x.2.2.1) <;> rfl
theorem impl_Entry_valid_ok (x : T_Entry.ty) (h0 : x.2.1.length < 4611686018427387904) (h1 : x.2.2.1.length < 4611686018427387904) : impl_Entry_valid x = some (entryOk x) := by
 rw [impl_Entry_valid_eq,entryOk]
 simp only [impl_IsName_ok x.2.1 h0,impl_IsName_ok x.2.2.1 h1,impl_isRentDay_eq,impl_within_ok,Option.bind_some]
 cases inR x.1 0 100000 <;> cases isName x.2.1 <;> cases isName x.2.2.1 <;> cases (x.2.1 == x.2.2.1) <;> rfl
theorem spec_l25Ok_ok (xs : List T_Entry.ty) (hs : xs.length ≤ 1048576) (hx : ∀ x,x ∈ xs → x.2.1.length ≤ 1048576 ∧ x.2.2.1.length ≤ 1048576) : spec_l25Ok xs = some (bookOk xs) := by
 rw [spec_l25Ok_eq,bookOk]
 have := idxLoop xs.length (bookC xs) (fun i => spec_l25Ok_p0 xs i) (some false) (some (decide ((xs.length : Int) ≤ 32))) (fun i hi' => ?_) ?_ xs.length 0 (by omega)
 ·rw [show ((0 : Nat) : Int) = 0 from rfl] at this
  rw [this]; cases (List.range' 0 xs.length).all (bookC xs) <;> rfl
 ·have hlt : (i : Int) < (xs.length : Int) := by omega
  have hw : IntKind.i64.wrap ((i : Int) + 1) = ((i + 1 : Nat) : Int) := by rw [w64 (by omega) (by omega)]; omega
  obtain ⟨g1,g2⟩ := hx _ (entryAt_mem hi')
  show spec_l25Ok_p0 xs i = _
  rw [spec_l25Ok_p0_eq]
  simp only [hlt,decide_true,if_true,Int.natCast_nonneg,Int.toNat_natCast,entryAt_get hi',Option.bind_some,spec_l25One_ok _ (Nat.lt_of_le_of_lt g1 (by decide)) (Nat.lt_of_le_of_lt g2 (by decide)),hw,bookC]
  by_cases he : entryOk (entryAt xs i) = true
  case neg => simp [Bool.eq_false_iff.2 he]
  case pos =>
   simp only [he,Bool.true_and,Bool.not_true,Bool.false_eq_true,if_false]
   by_cases h0 : i = 0
   ·subst h0; simp
   ·have hp : (i : Int) > 0 := by omega
    have hw2 : IntKind.i64.wrap ((i : Int) - 1) = ((i - 1 : Nat) : Int) := by rw [w64 (by omega) (by omega)]; omega
    simp only [hp,decide_true,if_true,hw2,Int.natCast_nonneg,Int.toNat_natCast,entryAt_get (show i - 1 < xs.length by omega),Option.bind_some,h0,decide_false,Bool.false_or,Bool.not_true,Bool.false_eq_true,if_false,Bool.true_and]
    by_cases hc : (entryAt xs (i - 1)).1 > (entryAt xs i).1
    ·simp [hc]
    ·simp [hc]
 ·show spec_l25Ok_p0 xs (xs.length : Int) = _
  rw [spec_l25Ok_p0_eq]; simp
theorem impl_ValidBook_ok (xs : List T_Entry.ty) (hs : xs.length ≤ 1048576) (hx : ∀ x,x ∈ xs → x.2.1.length ≤ 1048576 ∧ x.2.2.1.length ≤ 1048576) : impl_ValidBook xs = some (bookOk xs) := by
 rw [impl_ValidBook_eq,bookOk]
 have := idxLoop xs.length (bookC xs) (fun i => impl_ValidBook_p0 xs xs xs.length i) (some false) (some (decide ((xs.length : Int) ≤ 32))) (fun i hi' => ?_) ?_ xs.length 0 (by omega)
 ·rw [show ((0 : Nat) : Int) = 0 from rfl] at this
  rw [this]; cases (List.range' 0 xs.length).all (bookC xs) <;> rfl
 ·have hlt : (i : Int) < (xs.length : Int) := by omega
  have hw : IntKind.i64.wrap ((i : Int) + 1) = ((i + 1 : Nat) : Int) := by rw [w64 (by omega) (by omega)]; omega
  obtain ⟨g1,g2⟩ := hx _ (entryAt_mem hi')
  show impl_ValidBook_p0 xs xs xs.length i = _
  rw [impl_ValidBook_p0_eq]
  simp only [hlt,decide_true,if_true,Int.natCast_nonneg,Int.toNat_natCast,entryAt_get hi',Option.bind_some,impl_Entry_valid_ok _ (Nat.lt_of_le_of_lt g1 (by decide)) (Nat.lt_of_le_of_lt g2 (by decide)),hw,bookC]
  by_cases he : entryOk (entryAt xs i) = true
  case neg => simp [Bool.eq_false_iff.2 he]
  case pos =>
   simp only [he,Bool.true_and,Bool.not_true,Bool.false_eq_true,if_false]
   by_cases h0 : i = 0
   ·subst h0; simp
   ·have hp : (i : Int) > 0 := by omega
    have hw2 : IntKind.i64.wrap ((i : Int) - 1) = ((i - 1 : Nat) : Int) := by rw [w64 (by omega) (by omega)]; omega
    simp only [hp,decide_true,if_true,hw2,Int.natCast_nonneg,Int.toNat_natCast,entryAt_get (show i - 1 < xs.length by omega),Option.bind_some,h0,decide_false,Bool.false_or,Bool.not_true,Bool.false_eq_true,if_false,Bool.true_and]
    by_cases hc : (entryAt xs (i - 1)).1 > (entryAt xs i).1
    ·simp [hc]
    ·simp [hc]
 ·show impl_ValidBook_p0 xs xs xs.length (xs.length : Int) = _
  rw [impl_ValidBook_p0_eq,impl_few_eq]; simp
def shopOk (x : T_Shop.ty) : Bool :=
 outOk x.1 && (cordsOk x.2.1 && (inR x.2.2.1 0 1000 && (stepsOk x.2.2.2.1 && (startsOk x.2.2.2.1 x.2.2.2.2.1 && (inR x.2.2.2.2.2.1 0 240 && (rentalsOk x.2.2.2.2.2.2.1 && bookOk x.2.2.2.2.2.2.2.1))))))
theorem impl_ValidShop_ok (x : T_Shop.ty) (h : shopSmall x) : impl_ValidShop x = some (shopOk x) := by
 obtain ⟨h1,h2,h3,h4,h5,h6⟩ := h
 rw [impl_ValidShop_eq,shopOk]
 simp only [impl_ValidOutline_ok _ h1,impl_validCords_ok _ h2,impl_isShare_eq,impl_isClamps_eq,impl_within_ok,impl_ValidSteps_ok _ h3.1 h3.2,impl_areStarts_ok _ _ h4,impl_ValidRentals_ok _ h5.1 h5.2,impl_ValidBook_ok _ h6.1 h6.2,Option.bind_some]
 cases outOk x.1 <;> cases cordsOk x.2.1 <;> cases inR x.2.2.1 0 1000 <;> cases stepsOk x.2.2.2.1 <;> first | rfl | skip
 all_goals (cases startsOk x.2.2.2.1 x.2.2.2.2.1 <;> cases inR x.2.2.2.2.2.1 0 240 <;> cases rentalsOk x.2.2.2.2.2.2.1 <;> rfl)
theorem spec_l31Ok_ok (x : T_Shop.ty) (h : shopSmall x) : spec_l31Ok x = some (shopOk x) := by
 obtain ⟨h1,h2,h3,h4,h5,h6⟩ := h
 rw [spec_l31Ok_eq,shopOk]
 simp only [spec_l31Ok_p0_eq,spec_l05Ok_ok _ h1,spec_l09List_ok _ h2,spec_l09Share_eq,spec_l00In_ok,spec_l17Ok_ok _ h3.1 h3.2,spec_l17Starts_ok _ _ h4,spec_l21Ok_ok _ h5.1 h5.2,spec_l25Ok_ok _ h6.1 h6.2,Option.bind_some]
 cases outOk x.1 <;> cases cordsOk x.2.1 <;> cases inR x.2.2.1 0 1000 <;> cases stepsOk x.2.2.2.1 <;> first | rfl | skip
 all_goals (cases startsOk x.2.2.2.1 x.2.2.2.2.1 <;> cases inR x.2.2.2.2.2.1 0 240 <;> cases rentalsOk x.2.2.2.2.2.2.1 <;> rfl)
def smoothC (xs : List T_Arc.ty) (i : Nat) : Bool :=
 IntKind.i64.wrap ((IntKind.i64.wrap ((arcAt xs i).1 - (arcAt xs i).2.2.2.2.1)) * (IntKind.i64.wrap ((arcAt xs ((i + 1) % xs.length)).2.1 - (arcAt xs i).2.2.2.2.2.1))) == IntKind.i64.wrap ((IntKind.i64.wrap ((arcAt xs i).2.1 - (arcAt xs i).2.2.2.2.2.1)) * (IntKind.i64.wrap ((arcAt xs ((i + 1) % xs.length)).1 - (arcAt xs i).2.2.2.2.1)))
def cornerF (xs : List T_Arc.ty) (i : Nat) : List Int := if smoothC xs i then [] else [(i : Int)]
def cornersP (xs : List T_Arc.ty) : List Int := gather (cornerF xs) 0 xs.length
theorem cornerF_len (xs : List T_Arc.ty) (i : Nat) : (cornerF xs i).length ≤ 1 := by unfold cornerF; split <;> simp
theorem cornersP_len (xs : List T_Arc.ty) : (cornersP xs).length ≤ xs.length := by have := gather_len (cornerF_len xs) xs.length 0; rw [Nat.one_mul] at this; exact this
theorem cornersP_bd {xs : List T_Arc.ty} {c : Int} (h : c ∈ cornersP xs) : 0 ≤ c ∧ c < (xs.length : Int) := by
 obtain ⟨j,h1,h2,h3⟩ := gather_mem _ _ h
 unfold cornerF at h3
 split at h3
 ·cases h3
 ·simp only [List.mem_singleton] at h3; omega
theorem impl_CornersOf_ok (xs : List T_Arc.ty) (hs : xs.length ≤ 1048576) (ho : outOk xs = true) : impl_CornersOf xs = some (cornersP xs,0) := by
 rw [impl_CornersOf_eq,impl_ValidOutline_ok xs hs,ho]
 simp only [Option.bind_some,Bool.not_true,Bool.false_eq_true,if_false]
 refine accLoop xs.length 1 0 (cornerF xs) (cornerF_len xs) (fun i r => impl_CornersOf_p0 xs xs xs.length i r) (fun r => some (r,0)) (fun i r hi hr => ?_) (fun r hr => ?_) xs.length 0 [] (by omega) (by simp)
 ·have hlt : (i : Int) < (xs.length : Int) := by omega
  have hw : IntKind.i64.wrap ((i : Int) + 1) = (i : Int) + 1 := by rw [w64 (by omega) (by omega)]
  have hc : ((i + 1 : Nat) : Int) = (i : Int) + 1 := by omega
  have hne : ¬ (xs.length : Int) = 0 := by omega
  have h4 : r.length + 1 < lim := by rw [lim_eq]; omega
  obtain ⟨n1,n2⟩ := next_at hi
  show impl_CornersOf_p0 xs xs xs.length i r = _
  rw [impl_CornersOf_p0_eq]
  simp only [hlt,decide_true,if_true,Int.natCast_nonneg,Int.toNat_natCast,arcAt_get hi,Option.bind_some,hw,hc,hne,decide_false,Bool.false_eq_true,if_false,n1,n2,arcAt_get (Nat.mod_lt (i + 1) (show 0 < xs.length by omega)),impl_next_eq,impl_smooth_eq,List.take_length,h4]
  unfold cornerF smoothC
  split <;> rename_i h
  ·simp only [Bool.not_eq_true'] at h; simp [h]
  ·simp only [Bool.not_eq_true',Bool.not_eq_false] at h; simp [h]
 ·show impl_CornersOf_p0 xs xs xs.length (xs.length : Int) r = _
  rw [impl_CornersOf_p0_eq]; simp
def tensP (a b c : Int) : Int := rdivP (4 * a * a * b * b * c) 100000000000
theorem tens_bd {a b c : Int} (ha : 1 ≤ a ∧ a ≤ 10000) (hb : 1 ≤ b ∧ b ≤ 500) (hc : 1 ≤ c ∧ c ≤ 10000) :
 0 ≤ 4 * a ∧ 4 * a ≤ 40000 ∧ 0 ≤ 4 * a * a ∧ 4 * a * a ≤ 400000000 ∧ 0 ≤ 4 * a * a * b ∧ 4 * a * a * b ≤ 200000000000 ∧ 0 ≤ 4 * a * a * b * b ∧ 4 * a * a * b * b ≤ 100000000000000 ∧ 0 ≤ 4 * a * a * b * b * c ∧ 4 * a * a * b * b * c ≤ 1000000000000000000 := by
 have m : ∀ {x y X Y : Int},0 ≤ x → x ≤ X → 1 ≤ y → y ≤ Y → 0 ≤ x * y ∧ x * y ≤ X * Y := fun {x y X Y} h1 h2 h3 h4 =>
  ⟨Int.mul_nonneg h1 (by omega),Int.mul_le_mul h2 h4 (by omega) (by omega)⟩
 have h1 : 0 ≤ 4 * a ∧ 4 * a ≤ 40000 := by omega
 have h2 := m h1.1 h1.2 ha.1 ha.2
 have h3 := m h2.1 h2.2 hb.1 hb.2
 have h4 := m h3.1 h3.2 hb.1 hb.2
 have h5 := m h4.1 h4.2 hc.1 hc.2
 exact ⟨h1.1,h1.2,h2.1,by omega,h3.1,by omega,h4.1,by omega,h5.1,by omega⟩
theorem tensP_bd {a b c : Int} (ha : 1 ≤ a ∧ a ≤ 10000) (hb : 1 ≤ b ∧ b ≤ 500) (hc : 1 ≤ c ∧ c ≤ 10000) : 0 ≤ tensP a b c ∧ tensP a b c ≤ 1000000000000000001 := by
 obtain ⟨_,_,_,_,_,_,_,_,h1,h2⟩ := tens_bd ha hb hc
 have := rdivP_le h1 (show (0 : Int) < 100000000000 by decide)
 exact ⟨rdivP_nonneg h1 (by decide),by unfold tensP; omega⟩
def tensX (x : T_Neck.ty) : Int := tensP x.1 x.2.1 x.2.2.1
def cordAt (xs : List T_Neck.ty) (i : Nat) : T_Neck.ty := (xs[i]?).getD (0,0,0,0,())
theorem cordAt_get {xs : List T_Neck.ty} {i : Nat} (h : i < xs.length) : xs[i]? = some (cordAt xs i) := by simp [cordAt,List.getElem?_eq_getElem h]
theorem cordAt_mem {xs : List T_Neck.ty} {i : Nat} (h : i < xs.length) : cordAt xs i ∈ xs := List.mem_of_getElem? (cordAt_get h)
theorem cordOk_bd {x : T_Neck.ty} (h : cordOk x = true) : ((1 : Int) ≤ x.1 ∧ (x.1 : Int) ≤ 10000) ∧ ((1 : Int) ≤ x.2.1 ∧ (x.2.1 : Int) ≤ 500) ∧ ((1 : Int) ≤ x.2.2.1 ∧ (x.2.2.1 : Int) ≤ 10000) := by
 simp only [cordOk,Bool.and_eq_true,inR_iff'] at h
 exact ⟨h.1,h.2.1,h.2.2.1⟩
theorem cordsOk_at {xs : List T_Neck.ty} (h : cordsOk xs = true) {i : Nat} (hi : i < xs.length) : cordOk (cordAt xs i) = true := by
 simp only [cordsOk,Bool.and_eq_true] at h
 exact List.all_eq_true.1 h.1 _ (cordAt_mem hi)
def holdsC (x : T_Neck.ty) (share : Int) : Bool := decide (IntKind.i64.wrap (1000 * tensX x) ≤ IntKind.i64.wrap (share * x.2.2.2.1))
def breakF (xs : List T_Neck.ty) (share : Int) (i : Nat) : List Int := if holdsC (cordAt xs i) share then [] else [(i : Int)]
def breakP (xs : List T_Neck.ty) (share : Int) : List Int := gather (breakF xs share) 0 xs.length
theorem breakF_len (xs : List T_Neck.ty) (s : Int) (i : Nat) : (breakF xs s i).length ≤ 1 := by unfold breakF; split <;> simp
theorem breakP_len (xs : List T_Neck.ty) (s : Int) : (breakP xs s).length ≤ xs.length := by have := gather_len (breakF_len xs s) xs.length 0; rw [Nat.one_mul] at this; exact this
theorem breakP_bd {xs : List T_Neck.ty} {s c : Int} (h : c ∈ breakP xs s) : 0 ≤ c ∧ c < (xs.length : Int) := by
 obtain ⟨j,h1,h2,h3⟩ := gather_mem _ _ h
 unfold breakF at h3
 split at h3
 ·cases h3
 ·simp only [List.mem_singleton] at h3; omega
theorem impl_Cord_tension_core (a b c d : Int) (ha : 1 ≤ a ∧ a ≤ 10000) (hb : 1 ≤ b ∧ b ≤ 500) (hc : 1 ≤ c ∧ c ≤ 10000) : impl_Cord_tension (a,b,c,d,()) = some (tensP a b c) := by
 obtain ⟨h1,h2,h3,h4,h5,h6,h7,h8,h9,h10⟩ := tens_bd ha hb hc
 rw [impl_Cord_tension_eq]
 simp only []
 rw [w64 (n := 4 * a) (by omega) (by omega),w64 (n := 4 * a * a) (by omega) (by omega),w64 (n := 4 * a * a * b) (by omega) (by omega),w64 (n := 4 * a * a * b * b) (by omega) (by omega),w64 (n := 4 * a * a * b * b * c) (by omega) (by omega),impl_divRound_ok _ _ (by omega) (by omega)]
 rfl
theorem impl_Cord_tension_ok {x : T_Neck.ty} (h : cordOk x = true) : impl_Cord_tension x = some (tensX x) := by
 obtain ⟨h1,h2,h3⟩ := cordOk_bd h
 exact impl_Cord_tension_core x.1 x.2.1 x.2.2.1 x.2.2.2.1 h1 h2 h3
theorem impl_BreakingStrings_ok (xs : List T_Neck.ty) (s : Int) (hs : xs.length ≤ 1048576) (ho : cordsOk xs = true) (h2 : inR s 0 1000 = true) : impl_BreakingStrings xs s = some (breakP xs s,0) := by
 rw [impl_BreakingStrings_eq,impl_validCords_ok xs hs,ho,impl_isShare_eq,impl_within_ok,h2]
 simp only [Option.bind_some,Bool.not_true,Bool.false_eq_true,if_false]
 refine accLoop xs.length 1 0 (breakF xs s) (breakF_len xs s) (fun i r => impl_BreakingStrings_p0 s xs xs.length i r) (fun r => some (r,0)) (fun i r hi hr => ?_) (fun r hr => ?_) xs.length 0 [] (by omega) (by simp)
 ·have hlt : (i : Int) < (xs.length : Int) := by omega
  have hw : IntKind.i64.wrap ((i : Int) + 1) = ((i + 1 : Nat) : Int) := by rw [w64 (by omega) (by omega)]; omega
  have h4 : r.length + 1 < lim := by rw [lim_eq]; omega
  show impl_BreakingStrings_p0 s xs xs.length i r = _
  rw [impl_BreakingStrings_p0_eq]
  simp only [hlt,decide_true,if_true,Int.natCast_nonneg,Int.toNat_natCast,cordAt_get hi,Option.bind_some,hw,impl_Cord_holds_eq,impl_Cord_tension_ok (cordsOk_at ho hi),List.take_length,h4]
  unfold breakF holdsC
  split <;> rename_i h
  ·simp only [Bool.not_eq_true'] at h; simp [h]
  ·simp only [Bool.not_eq_true',Bool.not_eq_false] at h; simp [h]
 ·show impl_BreakingStrings_p0 s xs xs.length (xs.length : Int) r = _
  rw [impl_BreakingStrings_p0_eq]; simp
def bodyF1 (C : List Int) (i : Nat) : List T_Problem.ty := [(1,Lib.itoa ((C[i]?).getD 0),[99,111,114,110,101,114],())]
def bodyF2 (xs : List T_Neck.ty) (B : List Int) (i : Nat) : List T_Problem.ty := [(2,Lib.itoa ((B[i]?).getD 0),Lib.itoa (tensX (cordAt xs ((B[i]?).getD 0).toNat)),())]
def bodyP (a : List T_Arc.ty) (b : List T_Neck.ty) (s : Int) : List T_Problem.ty := gather (bodyF1 (cornersP a)) 0 (cornersP a).length ++ gather (bodyF2 b (breakP b s)) 0 (breakP b s).length
theorem bodyP_len {a : List T_Arc.ty} {b : List T_Neck.ty} {s : Int} (h1 : a.length ≤ 1048576) (h2 : b.length ≤ 1048576) : (bodyP a b s).length ≤ 2097152 := by
 have g1 := gather_len (f := bodyF1 (cornersP a)) (m := 1) (fun i => by simp [bodyF1]) (cornersP a).length 0
 have g2 := gather_len (f := bodyF2 b (breakP b s)) (m := 1) (fun i => by simp [bodyF2]) (breakP b s).length 0
 have g3 := cornersP_len a
 have g4 := breakP_len b s
 rw [bodyP,List.length_append]; omega
theorem shopOk_parts {x : T_Shop.ty} (h : shopOk x = true) : outOk x.1 = true ∧ cordsOk x.2.1 = true ∧ inR x.2.2.1 0 1000 = true ∧ stepsOk x.2.2.2.1 = true ∧ startsOk x.2.2.2.1 x.2.2.2.2.1 = true ∧ inR x.2.2.2.2.2.1 0 240 = true ∧ rentalsOk x.2.2.2.2.2.2.1 = true ∧ bookOk x.2.2.2.2.2.2.2.1 = true := by
 simp only [shopOk,Bool.and_eq_true] at h
 exact h
theorem impl_BodyProblems_ok (x : T_Shop.ty) (hs : shopSmall x) (hk : shopOk x = true) : impl_BodyProblems x = some (bodyP x.1 x.2.1 x.2.2.1,0) := by
 rw [impl_BodyProblems_eq,impl_ValidShop_ok x hs,hk]
 obtain ⟨o1,o2,o3,_⟩ := shopOk_parts hk
 obtain ⟨h1,h2,_⟩ := hs
 obtain ⟨a,b,s,d,e,f,g,hh,⟨⟩⟩ := x
 have h1 : a.length ≤ 1048576 := h1
 have h2 : b.length ≤ 1048576 := h2
 have ho : cordsOk b = true := o2
 have o1 : outOk a = true := o1
 have o3 : inR s 0 1000 = true := o3
 simp only [Option.bind_some,Bool.not_true,Bool.false_eq_true,if_false,impl_CornersOf_ok a h1 o1]
 have c1 := cornersP_len a
 have c2 := breakP_len b s
 have hC : ∀ c,c ∈ cornersP a → 0 ≤ c ∧ c < (a.length : Int) := fun c h => cornersP_bd h
 have hB : ∀ c,c ∈ breakP b s → 0 ≤ c ∧ c < (b.length : Int) := fun c h => breakP_bd h
 show _ = some (gather (bodyF1 (cornersP a)) 0 (cornersP a).length ++ gather (bodyF2 b (breakP b s)) 0 (breakP b s).length,0)
 have step1 := accLoop (cornersP a).length 1 0 (bodyF1 (cornersP a)) (fun i => by simp [bodyF1]) (fun i r => impl_BodyProblems_p0 (cornersP a).length i a b s d e f g hh r (cornersP a)) (fun r => impl_BodyProblems_p1 (breakP b s).length 0 a b s d e f g hh r (breakP b s)) (fun i r hi hr => ?_) (fun r hr => ?_) (cornersP a).length 0 [] (by omega) (by simp)
 ·rw [show ((0 : Nat) : Int) = 0 from rfl,List.nil_append] at step1
  rw [step1]
  refine accLoop (breakP b s).length 1 1048576 (bodyF2 b (breakP b s)) (fun i => by simp [bodyF2]) (fun i r => impl_BodyProblems_p1 (breakP b s).length i a b s d e f g hh r (breakP b s)) (fun r => some (r,0)) (fun i r hi hr => ?_) (fun r hr => ?_) (breakP b s).length 0 _ (by omega) (by
   have := gather_len (f := bodyF1 (cornersP a)) (m := 1) (fun i => by simp [bodyF1]) (cornersP a).length 0
   omega)
  ·have hlt : (i : Int) < ((breakP b s).length : Int) := by omega
   have hw : IntKind.i64.wrap ((i : Int) + 1) = ((i + 1 : Nat) : Int) := by rw [w64 (by omega) (by omega)]; omega
   have h4 : r.length + 1 < lim := by rw [lim_eq]; omega
   obtain ⟨g1,g2⟩ := hB _ (List.getElem_mem hi)
   have g3 : ((breakP b s)[i]).toNat < b.length := by omega
   have g4 := cordsOk_at ho g3
   obtain ⟨k1,k2,k3⟩ := cordOk_bd g4
   have g5 := tensP_bd k1 k2 k3
   show impl_BodyProblems_p1 (breakP b s).length i a b s d e f g hh r (breakP b s) = _
   rw [impl_BodyProblems_p1_eq]
   have g6 : impl_Decimal (tensX (cordAt b ((breakP b s)[i]).toNat)) = some (Lib.itoa (tensX (cordAt b ((breakP b s)[i]).toNat))) := impl_Decimal_ok _ ⟨by have := g5.1; unfold tensX; omega,by have := g5.2; unfold tensX; omega⟩
   simp only [hlt,decide_true,if_true,Int.natCast_nonneg,Int.toNat_natCast,Bool.and_self,List.getElem?_eq_getElem hi,Option.bind_some,g1,cordAt_get g3,impl_Decimal_ok _ (show -9223372036854775808 ≤ (breakP b s)[i] ∧ (breakP b s)[i] ≤ 9223372036854775807 by omega),impl_Cord_tension_ok g4,g6,h4,List.take_length,hw,bodyF2,Option.getD_some]
  ·show impl_BodyProblems_p1 (breakP b s).length ((breakP b s).length : Int) a b s d e f g hh r (breakP b s) = _
   rw [impl_BodyProblems_p1_eq]; simp
 ·have hlt : (i : Int) < ((cornersP a).length : Int) := by omega
  have hw : IntKind.i64.wrap ((i : Int) + 1) = ((i + 1 : Nat) : Int) := by rw [w64 (by omega) (by omega)]; omega
  have h4 : r.length + 1 < lim := by rw [lim_eq]; omega
  obtain ⟨g1,g2⟩ := hC _ (List.getElem_mem hi)
  show impl_BodyProblems_p0 (cornersP a).length i a b s d e f g hh r (cornersP a) = _
  rw [impl_BodyProblems_p0_eq]
  simp only [hlt,decide_true,if_true,Int.natCast_nonneg,Int.toNat_natCast,Bool.and_self,List.getElem?_eq_getElem hi,Option.bind_some,impl_Decimal_ok _ (show -9223372036854775808 ≤ (cornersP a)[i] ∧ (cornersP a)[i] ≤ 9223372036854775807 by omega),h4,List.take_length,hw,bodyF1,Option.getD_some]
 ·show impl_BodyProblems_p0 (cornersP a).length ((cornersP a).length : Int) a b s d e f g hh r (cornersP a) = _
  rw [impl_BodyProblems_p0_eq,impl_BreakingStrings_ok b s h2 ho o3]; simp
def sHrs (xs : List T_Step.ty) (i : Nat) : Int := (stAt xs i).2.1
def sClp (xs : List T_Step.ty) (i : Nat) : Int := (stAt xs i).2.2.1
def sAft (xs : List T_Step.ty) (i : Nat) : List Int := (stAt xs i).2.2.2.1
def sBeg (l : List Int) (i : Nat) : Int := (l[i]?).getD 0
theorem sBeg_get {l : List Int} {i : Nat} (h : i < l.length) : l[i]? = some (sBeg l i) := by simp [sBeg,List.getElem?_eq_getElem h]
theorem st_get {xs : List T_Step.ty} {i : Nat} (h : i < xs.length) : xs[i]? = some (stAt xs i) := by rw [stAt_eq xs h,List.getElem?_eq_getElem h]
structure StepsFit (xs : List T_Step.ty) (l : List Int) : Prop where
 len : l.length = xs.length
 few : xs.length ≤ 12
 hrs : ∀ i,i < xs.length → 1 ≤ sHrs xs i ∧ sHrs xs i ≤ 200
 clp : ∀ i,i < xs.length → 0 ≤ sClp xs i ∧ sClp xs i ≤ 20
 beg : ∀ i,0 ≤ sBeg l i ∧ sBeg l i ≤ 2400
 aft : ∀ i,i < xs.length → ∀ j,j < (sAft xs i).length → 0 ≤ sBeg (sAft xs i) j ∧ sBeg (sAft xs i) j < (i : Int)
 al : ∀ i,i < xs.length → (sAft xs i).length ≤ 1048576
theorem stepsFit {xs : List T_Step.ty} {l : List Int} (h1 : stepsOk xs = true) (h2 : startsOk xs l = true) (hx : ∀ y : T_Step.ty,y ∈ xs → List.length (α := Int) y.2.2.2.1 ≤ 1048576) : StepsFit xs l := by
 simp only [stepsOk,startsOk,Bool.and_eq_true,decide_eq_true_eq] at h1 h2
 have hc : ∀ i,i < xs.length → stepC xs i = true := fun i hi => List.all_eq_true.1 h1.1 i (by simp; omega)
 have ho : ∀ i,i < xs.length → stepOk (stAt xs i) = true ∧ risesB 0 ((i : Int) - 1) (sAft xs i) = true := fun i hi => by
  have := hc i hi
  simp only [stepC,Bool.and_eq_true] at this
  exact ⟨this.1,this.2.1⟩
 refine ⟨h2.2,by omega,fun i hi => ?_,fun i hi => ?_,fun i => ?_,fun i hi j hj => ?_,fun i hi => hx _ (List.mem_of_getElem? (st_get hi))⟩
 ·have := (ho i hi).1
  simp only [stepOk,Bool.and_eq_true,inR_iff'] at this
  exact this.2.1
 ·have := (ho i hi).1
  simp only [stepOk,Bool.and_eq_true,inR_iff'] at this
  exact this.2.2.1
 ·by_cases hi : i < l.length
  ·have := List.all_eq_true.1 h2.1 _ (List.mem_of_getElem? (sBeg_get hi))
   exact inR_iff'.1 this
  ·simp only [sBeg,List.getElem?_eq_none (show l.length ≤ i by omega),Option.getD_none]; omega
 ·have := risesB_at (ho i hi).2 hj
  simp only [risesAt,Bool.and_eq_true,inR_iff'] at this
  have e : sBeg (sAft xs i) j = ((sAft xs i)[j]?).getD 0 := rfl
  omega
def usedG (xs : List T_Step.ty) (l : List Int) (h : Int) (i : Nat) : Int := if decide (sBeg l i ≤ h) && decide (h < sBeg l i + sHrs xs i) then (if i < xs.length then sClp xs i else 0) else 0
def usedP (xs : List T_Step.ty) (l : List Int) (h : Int) : Int := sumG (usedG xs l h) 0 l.length
theorem usedG_bd {xs : List T_Step.ty} {l : List Int} (F : StepsFit xs l) (h : Int) (i : Nat) : 0 ≤ usedG xs l h i ∧ usedG xs l h i ≤ 20 := by
 unfold usedG
 split
 ·split
  ·rename_i hi; exact F.clp i hi
  ·omega
 ·omega
theorem usedP_bd {xs : List T_Step.ty} {l : List Int} (F : StepsFit xs l) (h : Int) : 0 ≤ usedP xs l h ∧ usedP xs l h ≤ 20 * (l.length : Int) := by
 have := sumG_bd (f := usedG xs l h) (lo := 0) (hi := 20) (by omega) (by omega) (usedG_bd F h) l.length 0
 unfold usedP; omega
theorem impl_used_ok {xs : List T_Step.ty} {l : List Int} (F : StepsFit xs l) (h : Int) : impl_used xs l h = some (usedP xs l h) := by
 rw [impl_used_eq]
 have fl := F.len
 have ff := F.few
 have := sumLoop l.length (by omega) (usedG xs l h) (fun i => by have := usedG_bd F h i; omega) (fun a i => impl_used_p0 xs h a l l.length i) some (fun i a hi ha => ?_) (fun a => ?_) l.length 0 0 (by omega) (by omega)
 ·rw [Int.zero_add] at this; exact this
 ·have hlt : (i : Int) < (l.length : Int) := by omega
  have hi2 : i < xs.length := by omega
  have hw : IntKind.i64.wrap ((i : Int) + 1) = ((i + 1 : Nat) : Int) := by rw [w64 (by omega) (by omega)]; omega
  have g1 := F.beg i
  have g2 := F.hrs i hi2
  have g3 := F.clp i hi2
  have hw2 : IntKind.i64.wrap (IntKind.i64.wrap (sBeg l i + sHrs xs i) - 1) = sBeg l i + sHrs xs i - 1 := by rw [w64 (n := sBeg l i + sHrs xs i) (by omega) (by omega),w64 (by omega) (by omega)]
  have hw3 : IntKind.i64.wrap (a + sClp xs i) = a + sClp xs i := by rw [w64 (by omega) (by omega)]
  show impl_used_p0 xs h a l l.length i = impl_used_p0 xs h (a + usedG xs l h i) l l.length ((i + 1 : Nat) : Int)
  rw [impl_used_p0_eq]
  simp only [hlt,decide_true,if_true,Int.natCast_nonneg,Int.toNat_natCast,sBeg_get hi,st_get hi2,Option.bind_some,impl_within_ok]
  have hw2' : IntKind.i64.wrap (IntKind.i64.wrap (sBeg l i + (stAt xs i).2.1) - 1) = sBeg l i + sHrs xs i - 1 := hw2
  have hw3' : IntKind.i64.wrap (a + (stAt xs i).2.2.1) = a + sClp xs i := hw3
  rw [hw,hw2',hw3',inR]
  unfold usedG
  by_cases c1 : sBeg l i ≤ h
  ·by_cases c2 : h < sBeg l i + sHrs xs i
   ·have c3 : h ≤ sBeg l i + sHrs xs i - 1 := by omega
    simp [c1,c2,c3,hi2]
   ·have c3 : ¬ h ≤ sBeg l i + sHrs xs i - 1 := by omega
    simp [c1,c2,c3]
  ·simp [c1]
 ·show impl_used_p0 xs h a l l.length (l.length : Int) = _
  rw [impl_used_p0_eq]; simp
def earlyG (xs : List T_Step.ty) (l : List Int) (i j : Nat) : Bool := decide (sBeg l i < sBeg l (sBeg (sAft xs i) j).toNat + sHrs xs (sBeg (sAft xs i) j).toNat)
def earlyP (xs : List T_Step.ty) (l : List Int) (i : Nat) : Bool := (List.range' 0 (sAft xs i).length).any (earlyG xs l i)
def workF (xs : List T_Step.ty) (l : List Int) (cl : Int) (i : Nat) : List T_Problem.ty :=
 if earlyP xs l i then [(3,(stAt xs i).1,[101,97,114,108,121],())] else if usedP xs l (sBeg l i) > cl then [(3,(stAt xs i).1,Lib.itoa (usedP xs l (sBeg l i)),())] else []
def workP (xs : List T_Step.ty) (l : List Int) (cl : Int) : List T_Problem.ty := gather (workF xs l cl) 0 xs.length
theorem workF_len (xs : List T_Step.ty) (l : List Int) (cl : Int) (i : Nat) : (workF xs l cl i).length ≤ 1 := by unfold workF; repeat' split
                                                                                                                 all_goals simp
theorem workP_len (xs : List T_Step.ty) (l : List Int) (cl : Int) : (workP xs l cl).length ≤ xs.length := by have := gather_len (workF_len xs l cl) xs.length 0; rw [Nat.one_mul] at this; exact this
theorem impl_ready_ok {xs : List T_Step.ty} {l : List Int} (F : StepsFit xs l) {i : Nat} (hi : i < xs.length) : ∃ m : Int,impl_ready xs l i = some m ∧ (sBeg l i < m ↔ earlyP xs l i = true) := by
 have fl := F.len
 have ff := F.few
 have hal := F.al i hi
 rw [impl_ready_eq]
 simp only [Int.natCast_nonneg,decide_true,if_true,Int.toNat_natCast,st_get hi,Option.bind_some]
 show ∃ m,impl_ready_p0 xs l 0 (sAft xs i) ((sAft xs i).length : Int) 0 = some m ∧ _
 have loop : ∀ (k j : Nat) (m : Int),j + k = (sAft xs i).length → 0 ≤ m → m ≤ 10000 → ∃ m',impl_ready_p0 xs l m (sAft xs i) ((sAft xs i).length : Int) j = some m' ∧ (sBeg l i < m' ↔ (sBeg l i < m ∨ (List.range' j k).any (earlyG xs l i) = true)) := by
  intro k
  induction k with
  | zero =>
    intro j m hk h0 h1
    have : j = (sAft xs i).length := by omega
    subst this
    refine ⟨m,?_,by simp⟩
    rw [impl_ready_p0_eq]; simp
  | succ k ih =>
    intro j m hk h0 h1
    have hj : j < (sAft xs i).length := by omega
    have hlj : (j : Int) < ((sAft xs i).length : Int) := by omega
    have hwj : IntKind.i64.wrap ((j : Int) + 1) = ((j + 1 : Nat) : Int) := by rw [w64 (by omega) (by omega)]; omega
    obtain ⟨q1,q2⟩ := F.aft i hi j hj
    have q3 : (sBeg (sAft xs i) j).toNat < xs.length := by omega
    have q4 : (sBeg (sAft xs i) j).toNat < l.length := by omega
    have b1 := F.beg (sBeg (sAft xs i) j).toNat
    have b2 := F.hrs _ q3
    have hw2 : IntKind.i64.wrap (sBeg l (sBeg (sAft xs i) j).toNat + (stAt xs (sBeg (sAft xs i) j).toNat).2.1) = sBeg l (sBeg (sAft xs i) j).toNat + sHrs xs (sBeg (sAft xs i) j).toNat := by
     show IntKind.i64.wrap (sBeg l (sBeg (sAft xs i) j).toNat + sHrs xs (sBeg (sAft xs i) j).toNat) = _
     rw [w64 (by omega) (by omega)]
    rw [impl_ready_p0_eq]
    simp only [Int.natCast_nonneg,decide_true,if_true,Int.toNat_natCast,Option.bind_some,hlj,sBeg_get hj,q1,sBeg_get q4,st_get q3,hw2,hwj]
    obtain ⟨m',e,he⟩ := ih (j + 1) (if sBeg l (sBeg (sAft xs i) j).toNat + sHrs xs (sBeg (sAft xs i) j).toNat > m then sBeg l (sBeg (sAft xs i) j).toNat + sHrs xs (sBeg (sAft xs i) j).toNat else m) (by omega) (by split <;> omega) (by split <;> omega)
    refine ⟨m',e,he.trans ?_⟩
    rw [List.range'_succ,List.any_cons,Bool.or_eq_true,earlyG,decide_eq_true_eq]
    constructor
    ·rintro (h | h)
     ·split at h
      ·exact .inr (.inl h)
      ·exact .inl h
     ·exact .inr (.inr h)
    ·rintro (h | h | h)
     ·left; split <;> omega
     ·left; split <;> omega
     ·exact .inr h
 obtain ⟨m,e,he⟩ := loop (sAft xs i).length 0 0 (by omega) (by omega) (by omega)
 refine ⟨m,e,he.trans ⟨?_,fun h => .inr h⟩⟩
 rintro (h | h)
 ·have := F.beg i; omega
 ·exact h
theorem impl_WorkProblems_ok (x : T_Shop.ty) (hs : shopSmall x) (hk : shopOk x = true) : impl_WorkProblems x = some (workP x.2.2.2.1 x.2.2.2.2.1 x.2.2.2.2.2.1,0) := by
 rw [impl_WorkProblems_eq,impl_ValidShop_ok x hs,hk]
 obtain ⟨_,_,_,o4,o5,_⟩ := shopOk_parts hk
 obtain ⟨_,_,h3,_⟩ := hs
 have F : StepsFit x.2.2.2.1 x.2.2.2.2.1 := stepsFit o4 o5 fun y hy => (h3.2 y hy).2
 obtain ⟨a,b,s,xs,l,cl,g,hh,⟨⟩⟩ := x
 have F : StepsFit xs l := F
 have fl := F.len
 have ff := F.few
 simp only [Option.bind_some,Bool.not_true,Bool.false_eq_true,if_false]
 refine accLoop xs.length 1 0 (workF xs l cl) (workF_len xs l cl) (fun i r => impl_WorkProblems_p0 xs xs.length i a b s xs l cl g hh r) (fun r => some (r,0)) (fun i r hi hr => ?_) (fun r hr => ?_) xs.length 0 [] (by omega) (by simp)
 ·have hlt : (i : Int) < (xs.length : Int) := by omega
  have hw : IntKind.i64.wrap ((i : Int) + 1) = ((i + 1 : Nat) : Int) := by rw [w64 (by omega) (by omega)]; omega
  have h4 : r.length + 1 < lim := by rw [lim_eq]; omega
  have hub := usedP_bd F (sBeg l i)
  obtain ⟨m,em,hm⟩ := impl_ready_ok F hi
  show impl_WorkProblems_p0 xs xs.length i a b s xs l cl g hh r = impl_WorkProblems_p0 xs xs.length ((i + 1 : Nat) : Int) a b s xs l cl g hh (r ++ workF xs l cl i)
  rw [impl_WorkProblems_p0_eq]
  simp only [hlt,decide_true,if_true,Int.natCast_nonneg,Int.toNat_natCast,st_get hi,Option.bind_some,sBeg_get (show i < l.length by omega),impl_used_ok F,em,h4,List.take_length,hw]
  unfold workF
  by_cases c1 : earlyP xs l i = true
  ·have := hm.2 c1
   simp only [this,decide_true,if_true,c1]
  ·have : ¬ sBeg l i < m := fun h => c1 (hm.1 h)
   by_cases c2 : usedP xs l (sBeg l i) > cl
   ·simp only [this,decide_false,Bool.false_eq_true,if_false,c1,c2,decide_true,if_true,impl_Decimal_ok (usedP xs l (sBeg l i)) (by omega),Option.bind_some]
   ·simp only [this,decide_false,Bool.false_eq_true,if_false,c1,c2,List.append_nil]
 ·show impl_WorkProblems_p0 xs xs.length (xs.length : Int) a b s xs l cl g hh r = _
  rw [impl_WorkProblems_p0_eq]; simp
def endP (x : T_Paper.ty) : Int := x.2.2.1 + 30 * x.2.2.2.1
def rentAt (xs : List T_Paper.ty) (i : Nat) : T_Paper.ty := (xs[i]?).getD ([],[],0,0,0,())
theorem rentAt_get {xs : List T_Paper.ty} {i : Nat} (h : i < xs.length) : xs[i]? = some (rentAt xs i) := by simp [rentAt,List.getElem?_eq_getElem h]
structure RentFit (xs : List T_Paper.ty) : Prop where
 few : xs.length ≤ 12
 day : ∀ i,i < xs.length → (0 : Int) ≤ (rentAt xs i).2.2.1 ∧ ((rentAt xs i).2.2.1 : Int) ≤ 100000
 mon : ∀ i,i < xs.length → (1 : Int) ≤ (rentAt xs i).2.2.2.1 ∧ ((rentAt xs i).2.2.2.1 : Int) ≤ 120
theorem rentFit {xs : List T_Paper.ty} (h : rentalsOk xs = true) : RentFit xs := by
 simp only [rentalsOk,Bool.and_eq_true,decide_eq_true_eq] at h
 have ho : ∀ i,i < xs.length → rentalOk (rentAt xs i) = true := fun i hi => sortedChk_all h.1 _ (List.mem_of_getElem? (rentAt_get hi))
 refine ⟨by omega,fun i hi => ?_,fun i hi => ?_⟩
 ·have := ho i hi
  simp only [rentalOk,Bool.and_eq_true,inR_iff'] at this
  exact this.2.2.1
 ·have := ho i hi
  simp only [rentalOk,Bool.and_eq_true,inR_iff'] at this
  exact this.2.2.2.1
theorem rent_end (s m : Int) (h1 : 0 ≤ s ∧ s ≤ 100000) (h2 : 1 ≤ m ∧ m ≤ 120) : IntKind.i64.wrap (s + IntKind.i64.wrap (30 * m)) = s + 30 * m := by
 rw [w64 (n := 30 * m) (by omega) (by omega),w64 (by omega) (by omega)]
def clashB (x y : T_Paper.ty) : Bool := x.2.1 == y.2.1 && (decide (x.2.2.1 < endP y) && decide (y.2.2.1 < endP x))
def clashF (xs : List T_Paper.ty) (i j : Nat) : List (List Int) := if clashB (rentAt xs i) (rentAt xs j) then [[(i : Int),(j : Int)]] else []
def clashG (xs : List T_Paper.ty) (i : Nat) : List (List Int) := if i < xs.length then gather (clashF xs i) (i + 1) (xs.length - (i + 1)) else []
def clashesP (xs : List T_Paper.ty) : List (List Int) := gather (clashG xs) 0 xs.length
theorem clashF_len (xs : List T_Paper.ty) (i j : Nat) : (clashF xs i j).length ≤ 1 := by unfold clashF; split <;> simp
theorem clashG_len {xs : List T_Paper.ty} (h : xs.length ≤ 12) (i : Nat) : (clashG xs i).length ≤ 12 := by
 unfold clashG
 split
 ·have := gather_len (clashF_len xs i) (xs.length - (i + 1)) (i + 1); omega
 ·simp
theorem clashesP_len {xs : List T_Paper.ty} (h : xs.length ≤ 12) : (clashesP xs).length ≤ 144 := by
 have := gather_len (clashG_len h) xs.length 0
 unfold clashesP; omega
theorem clashesP_mem {xs : List T_Paper.ty} {c : List Int} (h : c ∈ clashesP xs) : ∃ i j : Nat,i < xs.length ∧ j < xs.length ∧ c = [(i : Int),(j : Int)] := by
 obtain ⟨i,h1,h2,h3⟩ := gather_mem _ _ h
 unfold clashG at h3
 split at h3
 ·obtain ⟨j,g1,g2,g3⟩ := gather_mem _ _ h3
  unfold clashF at g3
  split at g3
  ·simp only [List.mem_singleton] at g3
   exact ⟨i,j,by omega,by omega,g3⟩
  ·cases g3
 ·cases h3
theorem minmax_clash (s1 s2 e1 e2 : Int) (h1 : s1 < e1) (h2 : s2 < e2) : decide ((if s2 > s1 then s2 else s1) < (if e2 < e1 then e2 else e1)) = (decide (s1 < e2) && decide (s2 < e1)) := by
 by_cases c1 : s2 > s1 <;> by_cases c2 : e2 < e1 <;> by_cases c3 : s1 < e2 <;> by_cases c4 : s2 < e1 <;> simp only [c1,c2,c3,c4,if_true,if_false,decide_true,decide_false,Bool.and_true,Bool.and_false,decide_eq_true_eq,decide_eq_false_iff_not] <;> omega
theorem impl_Rental_clashes_ok {xs : List T_Paper.ty} (F : RentFit xs) {i j : Nat} (hi : i < xs.length) (hj : j < xs.length) : impl_Rental_clashes (rentAt xs i) (rentAt xs j) = some (clashB (rentAt xs i) (rentAt xs j)) := by
 rw [impl_Rental_clashes_eq,clashB]
 have a1 := F.mon i hi
 have a2 := F.mon j hj
 simp only [impl_Rental_end_eq,Option.bind_some,rent_end _ _ (F.day i hi) (F.mon i hi),rent_end _ _ (F.day j hj) (F.mon j hj),endP]
 rw [minmax_clash _ _ _ _ (by omega) (by omega)]
 cases ((rentAt xs i).2.1 == (rentAt xs j).2.1)
 ·simp
 ·simp; rfl
theorem impl_ClashesOf_ok {xs : List T_Paper.ty} (F : RentFit xs) (hs : xs.length ≤ 1048576) (hx : ∀ x,x ∈ xs → x.1.length ≤ 1048576 ∧ x.2.1.length ≤ 1048576) (ho : rentalsOk xs = true) : impl_ClashesOf xs = some (clashesP xs,0) := by
 have ff := F.few
 rw [impl_ClashesOf_eq,impl_ValidRentals_ok xs hs hx,ho]
 simp only [Option.bind_some,Bool.not_true,Bool.false_eq_true,if_false]
 refine accLoop xs.length 12 0 (clashG xs) (clashG_len ff) (fun i r => impl_ClashesOf_p0 xs xs xs.length i r) (fun r => some (r,0)) (fun i r hi hr => ?_) (fun r hr => ?_) xs.length 0 [] (by omega) (by simp)
 ·have hlt : (i : Int) < (xs.length : Int) := by omega
  have hw : IntKind.i64.wrap ((i : Int) + 1) = ((i + 1 : Nat) : Int) := by rw [w64 (by omega) (by omega)]; omega
  show impl_ClashesOf_p0 xs xs xs.length i r = impl_ClashesOf_p0 xs xs xs.length ((i + 1 : Nat) : Int) (r ++ clashG xs i)
  rw [impl_ClashesOf_p0_eq]
  simp only [hlt,decide_true,if_true,hw,Int.natCast_nonneg,Int.toNat_natCast,rentAt_get hi,Option.bind_some]
  unfold clashG
  rw [if_pos hi]
  refine accLoop xs.length 1 1000 (clashF xs i) (clashF_len xs i) (fun j r => impl_ClashesOf_p1 xs i j xs xs.length i r (rentAt xs i).1 (rentAt xs i).2.1 (rentAt xs i).2.2.1 (rentAt xs i).2.2.2.1 (rentAt xs i).2.2.2.2.1) (fun r => impl_ClashesOf_p0 xs xs xs.length ((i + 1 : Nat) : Int) r) (fun j r hj hr => ?_) (fun r hr => ?_) (xs.length - (i + 1)) (i + 1) r (by omega) (by omega)
  ·have hlt : (j : Int) < (xs.length : Int) := by omega
   have hwj : IntKind.i64.wrap ((j : Int) + 1) = ((j + 1 : Nat) : Int) := by rw [w64 (by omega) (by omega)]; omega
   have h4 : r.length + 1 < lim := by rw [lim_eq]; omega
   show impl_ClashesOf_p1 xs i j xs xs.length i r (rentAt xs i).1 (rentAt xs i).2.1 (rentAt xs i).2.2.1 (rentAt xs i).2.2.2.1 (rentAt xs i).2.2.2.2.1 = _
   rw [impl_ClashesOf_p1_eq]
   have hcl : impl_Rental_clashes ((rentAt xs i).1,(rentAt xs i).2.1,(rentAt xs i).2.2.1,(rentAt xs i).2.2.2.1,(rentAt xs i).2.2.2.2.1,()) (rentAt xs j) = some (clashB (rentAt xs i) (rentAt xs j)) := impl_Rental_clashes_ok F hi hj
   simp only [hlt,decide_true,if_true,Int.natCast_nonneg,Int.toNat_natCast,rentAt_get hj,Option.bind_some,hcl,h4,List.take_length,hwj]
   unfold clashF
   by_cases c : clashB (rentAt xs i) (rentAt xs j) = true
   ·simp only [c,if_true]
   ·simp only [c,Bool.false_eq_true,if_false,List.append_nil]
  ·show impl_ClashesOf_p1 xs i (xs.length : Int) xs xs.length i r (rentAt xs i).1 (rentAt xs i).2.1 (rentAt xs i).2.2.1 (rentAt xs i).2.2.2.1 (rentAt xs i).2.2.2.2.1 = _
   rw [impl_ClashesOf_p1_eq,hw]; simp
 ·show impl_ClashesOf_p0 xs xs xs.length (xs.length : Int) r = _
  rw [impl_ClashesOf_p0_eq]; simp
def cashN : List UInt8 := [99,97,115,104]
def chgP (x : T_Entry.ty) (a : List UInt8) : Int := if x.2.1 == a then x.2.2.2.1 else if x.2.2.1 == a then -x.2.2.2.1 else 0
def chgG (xs : List T_Entry.ty) (a : List UInt8) (i : Nat) : Int := chgP (entryAt xs i) a
def fstNeg (f : Nat → Int) : Nat → Nat → Int → Option (Nat × Int)
 | 0,_,_ => none
 | k + 1,i,s => if s + f i < 0 then some (i,s + f i) else fstNeg f k (i + 1) (s + f i)
theorem fstNeg_some {f : Nat → Int} : ∀ (k i : Nat) (s : Int) {j : Nat} {t : Int},fstNeg f k i s = some (j,t) → i ≤ j ∧ j < i + k ∧ t = s + sumG f i (j + 1 - i) ∧ t < 0
 | 0,i,s,j,t,h => by cases h
 | k + 1,i,s,j,t,h => by
   rw [fstNeg] at h
   split at h
   ·rename_i c
    simp only [Option.some.injEq,Prod.mk.injEq] at h
    obtain ⟨rfl,rfl⟩ := h
    refine ⟨Nat.le_refl _,by omega,?_,c⟩
    rw [show i + 1 - i = 1 by omega]; simp [sumG]
   ·obtain ⟨h1,h2,h3,h4⟩ := fstNeg_some k (i + 1) _ h
    refine ⟨by omega,by omega,?_,h4⟩
    rw [h3,show j + 1 - i = (j + 1 - (i + 1)) + 1 by omega,sumG,Int.add_assoc]
structure BookFit (xs : List T_Entry.ty) : Prop where
 few : xs.length ≤ 32
 amt : ∀ i,(0 : Int) ≤ (entryAt xs i).2.2.2.1 ∧ ((entryAt xs i).2.2.2.1 : Int) ≤ 10000000
theorem bookFit {xs : List T_Entry.ty} (h : bookOk xs = true) : BookFit xs := by
 simp only [bookOk,Bool.and_eq_true,decide_eq_true_eq] at h
 refine ⟨by omega,fun i => ?_⟩
 by_cases hi : i < xs.length
 ·have := List.all_eq_true.1 h.1 i (by simp; omega)
  simp only [bookC,Bool.and_eq_true,entryOk,inR_iff'] at this
  exact ⟨Int.le_trans (by decide) this.1.2.2.2.2.1,this.1.2.2.2.2.2⟩
 ·simp only [entryAt,List.getElem?_eq_none (show xs.length ≤ i by omega),Option.getD_none]; decide
theorem chg_core (p q a : List UInt8) (m : Int) (h : 0 ≤ m ∧ m ≤ 10000000) : -10000000 ≤ (if p == a then m else if q == a then -m else 0) ∧ (if p == a then m else if q == a then -m else 0) ≤ 10000000 := by
 split
 ·omega
 ·split <;> omega
theorem chgG_bd {xs : List T_Entry.ty} (F : BookFit xs) (a : List UInt8) (i : Nat) : -10000000 ≤ chgG xs a i ∧ chgG xs a i ≤ 10000000 := chg_core _ _ a _ (F.amt i)
theorem impl_Entry_change_core (d : Int) (p q a : List UInt8) (m : Int) (h : 0 ≤ m ∧ m ≤ 10000000) : impl_Entry_change (d,p,q,m,()) a = some (chgP (d,p,q,m,()) a) := by
 rw [impl_Entry_change_eq,chgP]
 simp only []
 rw [w64 (n := 0 - m) (by omega) (by omega),show (a == p) = (p == a) from Bool.beq_comm,show (a == q) = (q == a) from Bool.beq_comm]
 cases (p == a) <;> cases (q == a) <;> simp
theorem impl_Entry_change_ok {xs : List T_Entry.ty} (F : BookFit xs) (a : List UInt8) (i : Nat) : impl_Entry_change (entryAt xs i) a = some (chgG xs a i) := impl_Entry_change_core _ _ _ a _ (F.amt i)
theorem impl_FirstBelow_p1_ok {xs : List T_Entry.ty} (F : BookFit xs) (a : List UInt8) : ∀ (k i : Nat) (s : Int),i + k = xs.length → -100000000 * (i : Int) ≤ s ∧ s ≤ 100000000 * (i : Int) →
 impl_FirstBelow_p1 a s xs xs.length i = some (match fstNeg (chgG xs a) k i s with | some (j,_) => ((j : Int),0) | none => (0,3))
 | 0,i,s,hk,hs => by
   have : i = xs.length := by omega
   subst this
   rw [impl_FirstBelow_p1_eq]; simp [fstNeg]
 | k + 1,i,s,hk,hs => by
   have ff := F.few
   have hi : i < xs.length := by omega
   have hlt : (i : Int) < (xs.length : Int) := by omega
   have hw : IntKind.i64.wrap ((i : Int) + 1) = ((i + 1 : Nat) : Int) := by rw [w64 (by omega) (by omega)]; omega
   have hb := chgG_bd F a i
   rw [impl_FirstBelow_p1_eq]
   simp only [hlt,decide_true,if_true,Int.natCast_nonneg,Int.toNat_natCast,entryAt_get hi,Option.bind_some,impl_Entry_change_ok F,w64 (n := s + chgG xs a i) (by omega) (by omega),hw,fstNeg]
   by_cases c : s + chgG xs a i < 0
   ·simp [c]
   ·simp only [c,decide_false,Bool.false_eq_true,if_false]
    exact impl_FirstBelow_p1_ok F a k (i + 1) _ (by omega) (by omega)
def tradeF1 (xs : List T_Paper.ty) (C : List (List Int)) (i : Nat) : List T_Problem.ty := [(4,(rentAt xs (sBeg ((C[i]?).getD []) 0).toNat).1,(rentAt xs (sBeg ((C[i]?).getD []) 1).toNat).1,())]
def cashP (xs : List T_Entry.ty) : List T_Problem.ty := match fstNeg (chgG xs cashN) xs.length 0 0 with | some (j,t) => [(5,Lib.itoa (j : Int),Lib.itoa t,())] | none => []
def tradeP (g : List T_Paper.ty) (h : List T_Entry.ty) : List T_Problem.ty := gather (tradeF1 g (clashesP g)) 0 (clashesP g).length ++ cashP h
theorem tradeP_len {g : List T_Paper.ty} {h : List T_Entry.ty} (hg : g.length ≤ 12) : (tradeP g h).length ≤ 145 := by
 have g1 := gather_len (f := tradeF1 g (clashesP g)) (m := 1) (fun i => by simp [tradeF1]) (clashesP g).length 0
 have g2 := clashesP_len hg
 have g3 : (cashP h).length ≤ 1 := by unfold cashP; split <;> simp
 rw [tradeP,List.length_append]; omega
theorem impl_TradeProblems_p1_ok (j : Nat) {xs : List T_Entry.ty} (F : BookFit xs) (hj : j < xs.length) (r : List T_Problem.ty) (hr : r.length ≤ 1000) (hs : -1000000000 ≤ sumG (chgG xs cashN) 0 (j + 1) ∧ sumG (chgG xs cashN) 0 (j + 1) ≤ 1000000000) :
 impl_TradeProblems_p1 (j : Int) 0 (xs.take (j + 1)) ((xs.take (j + 1)).length : Int) 0 r = some (r ++ [(5,Lib.itoa (j : Int),Lib.itoa (sumG (chgG xs cashN) 0 (j + 1)),())],0) := by
 have ff := F.few
 have hl : (xs.take (j + 1)).length = j + 1 := by rw [List.length_take]; omega
 have h4 : r.length + 1 < lim := by rw [lim_eq]; omega
 have := sumLoop (j + 1) (by omega) (chgG xs cashN) (fun i => by have := chgG_bd F cashN i; omega) (fun m i => impl_TradeProblems_p1 (j : Int) m (xs.take (j + 1)) ((xs.take (j + 1)).length : Int) i r)
  (fun m => (impl_Decimal (j : Int)).bind fun x3 => (impl_Decimal m).bind fun x4 => some (r ++ [(5,x3,x4,())],0)) (fun i m hi hm => ?_) (fun m => ?_) (j + 1) 0 0 (by omega) (by omega)
 ·rw [show ((0 : Nat) : Int) = 0 from rfl,Int.zero_add] at this
  rw [this,impl_Decimal_ok (j : Int) (by omega),impl_Decimal_ok _ (by omega)]
  rfl
 ·have hlt : (i : Int) < ((xs.take (j + 1)).length : Int) := by omega
  have hw : IntKind.i64.wrap ((i : Int) + 1) = ((i + 1 : Nat) : Int) := by rw [w64 (by omega) (by omega)]; omega
  have hg : (xs.take (j + 1))[i]? = some (entryAt xs i) := by rw [List.getElem?_take_of_lt hi,entryAt_get (by omega)]
  have hb := chgG_bd F cashN i
  have hch : impl_Entry_change (entryAt xs i) [99,97,115,104] = some (chgG xs cashN i) := impl_Entry_change_ok F cashN i
  show impl_TradeProblems_p1 (j : Int) m (xs.take (j + 1)) ((xs.take (j + 1)).length : Int) i r = _
  rw [impl_TradeProblems_p1_eq]
  simp only [hlt,decide_true,if_true,Int.natCast_nonneg,Int.toNat_natCast,hg,Option.bind_some,hch,w64 (n := m + chgG xs cashN i) (by omega) (by omega),hw]
 ·show impl_TradeProblems_p1 (j : Int) m (xs.take (j + 1)) ((xs.take (j + 1)).length : Int) ((j + 1 : Nat) : Int) r = _
  rw [impl_TradeProblems_p1_eq,hl]
  simp only [Int.lt_irrefl,decide_false,Bool.false_eq_true,if_false,h4,decide_true,if_true,List.take_length]
theorem impl_TradeProblems_ok (x : T_Shop.ty) (hs : shopSmall x) (hk : shopOk x = true) : impl_TradeProblems x = some (tradeP x.2.2.2.2.2.2.1 x.2.2.2.2.2.2.2.1,0) := by
 rw [impl_TradeProblems_eq,impl_ValidShop_ok x hs,hk]
 obtain ⟨_,_,_,_,_,_,o7,o8⟩ := shopOk_parts hk
 obtain ⟨_,_,_,_,h5,h6⟩ := hs
 have F := bookFit o8
 have G := rentFit o7
 obtain ⟨a,b,s,d,e,f,g,xs,⟨⟩⟩ := x
 have F : BookFit xs := F
 have G : RentFit g := G
 have o8 : bookOk xs = true := o8
 have gf := G.few
 have ff := F.few
 have cl := clashesP_len gf
 simp only [Option.bind_some,Bool.not_true,Bool.false_eq_true,if_false]
 have hcl : impl_ClashesOf g = some (clashesP g,0) := impl_ClashesOf_ok G h5.1 h5.2 o7
 simp only [hcl,Option.bind_some]
 show _ = some (gather (tradeF1 g (clashesP g)) 0 (clashesP g).length ++ cashP xs,0)
 refine accLoop (clashesP g).length 1 0 (tradeF1 g (clashesP g)) (fun i => by simp [tradeF1]) (fun i r => impl_TradeProblems_p0 (clashesP g) (clashesP g).length i a b s d e f g xs r) (fun r => some (r ++ cashP xs,0)) (fun i r hi hr => ?_) (fun r hr => ?_) (clashesP g).length 0 [] (by omega) (by simp)
 ·have hlt : (i : Int) < ((clashesP g).length : Int) := by omega
  have hw : IntKind.i64.wrap ((i : Int) + 1) = ((i + 1 : Nat) : Int) := by rw [w64 (by omega) (by omega)]; omega
  have h4 : r.length + 1 < lim := by rw [lim_eq]; omega
  obtain ⟨p,q,hp,hq,hc⟩ := clashesP_mem (List.getElem_mem hi)
  have hci : (clashesP g)[i]? = some [(p : Int),(q : Int)] := by rw [List.getElem?_eq_getElem hi,hc]
  show impl_TradeProblems_p0 (clashesP g) (clashesP g).length i a b s d e f g xs r = _
  rw [impl_TradeProblems_p0_eq]
  simp only [hlt,decide_true,if_true,Int.natCast_nonneg,Int.toNat_natCast,hci,Option.bind_some,List.getElem?_cons_zero,List.getElem?_cons_succ,rentAt_get hp,rentAt_get hq,h4,List.take_length,hw,tradeF1,Option.getD_some,sBeg]
 ·show impl_TradeProblems_p0 (clashesP g) (clashesP g).length ((clashesP g).length : Int) a b s d e f g xs r = _
  rw [impl_TradeProblems_p0_eq]
  have hfb : impl_FirstBelow xs [99,97,115,104] = some (match fstNeg (chgG xs cashN) xs.length 0 0 with | some (j,_) => ((j : Int),0) | none => (0,3)) := by
   rw [impl_FirstBelow_eq,impl_ValidBook_ok xs h6.1 h6.2,o8,impl_IsName_ok _ (by decide),show isName [99,97,115,104] = true by decide]
   simp only [Option.bind_some,Bool.not_true,Bool.false_eq_true,if_false,impl_FirstBelow_p0_eq]
   exact impl_FirstBelow_p1_ok F cashN xs.length 0 0 (by omega) (by omega)
  simp only [Int.lt_irrefl,decide_false,Bool.false_eq_true,if_false,hfb,Option.bind_some,cashP]
  cases hn : fstNeg (chgG xs cashN) xs.length 0 0 with
  | none => simp
  | some p =>
    obtain ⟨j,t⟩ := p
    obtain ⟨g1,g2,g3,g4⟩ := fstNeg_some _ _ _ hn
    have hb := sumG_bd (f := chgG xs cashN) (lo := -10000000) (hi := 10000000) (by omega) (by omega) (chgG_bd F cashN) (j + 1) 0
    rw [Int.zero_add,Nat.sub_zero] at g3
    have hw : IntKind.i64.wrap ((j : Int) + 1) = ((j + 1 : Nat) : Int) := by rw [w64 (by omega) (by omega)]; omega
    have c1 : (0 : Int) ≤ ((j + 1 : Nat) : Int) := by omega
    have c2 : ((j + 1 : Nat) : Int) ≤ (xs.length : Int) := by omega
    simp only [beq_self_eq_true,if_true,hw,c1,c2,decide_true,Bool.and_self,Int.toNat_natCast]
    rw [impl_TradeProblems_p1_ok j F (by omega) r (by omega) (by omega),← g3]
def auditP (x : T_Shop.ty) : List T_Problem.ty := bodyP x.1 x.2.1 x.2.2.1 ++ workP x.2.2.2.1 x.2.2.2.2.1 x.2.2.2.2.2.1 ++ tradeP x.2.2.2.2.2.2.1 x.2.2.2.2.2.2.2.1
theorem audit_lens {x : T_Shop.ty} (hs : shopSmall x) (hk : shopOk x = true) : (bodyP x.1 x.2.1 x.2.2.1).length ≤ 2097152 ∧ (workP x.2.2.2.1 x.2.2.2.2.1 x.2.2.2.2.2.1).length ≤ 12 ∧ (tradeP x.2.2.2.2.2.2.1 x.2.2.2.2.2.2.2.1).length ≤ 145 := by
 obtain ⟨_,_,_,o4,o5,_,o7,o8⟩ := shopOk_parts hk
 have F := stepsFit o4 o5 fun y hy => (hs.2.2.1.2 y hy).2
 exact ⟨bodyP_len hs.1 hs.2.1,Nat.le_trans (workP_len _ _ _) F.few,tradeP_len (rentFit o7).few⟩
theorem impl_AuditShop_ok (x : T_Shop.ty) (hs : shopSmall x) : impl_AuditShop x = some (if shopOk x then (auditP x,0) else ([],1)) := by
 rw [impl_AuditShop_eq]
 by_cases hk : shopOk x = true
 ·rw [if_pos hk]
  obtain ⟨l1,l2,l3⟩ := audit_lens hs hk
  have e1 := impl_BodyProblems_ok x hs hk
  have e2 := impl_WorkProblems_ok x hs hk
  have e3 := impl_TradeProblems_ok x hs hk
  obtain ⟨a,b,s,d,e,f,g,xs,⟨⟩⟩ := x
  unfold auditP
  simp only [] at e1 e2 e3 l1 l2 l3 ⊢
  generalize bodyP a b s = A at *
  generalize workP d e f = B at *
  generalize tradeP g xs = C at *
  have w0 : IntKind.i64.wrap ((0 : Int) + 1) = 1 := by decide
  have w1 : IntKind.i64.wrap ((1 : Int) + 1) = 2 := by decide
  have w2 : IntKind.i64.wrap ((2 : Int) + 1) = 3 := by decide
  have c1 : 0 + A.length < lim := by rw [lim_eq]; omega
  have c2 : A.length + B.length < lim := by rw [lim_eq]; omega
  have c3 : (A ++ B).length + C.length < lim := by rw [lim_eq,List.length_append]; omega
  rw [impl_AuditShop_p0_eq]
  simp only [e1,show (0 : Int) < 3 by decide,decide_true,if_true,Option.bind_some,bne_self_eq_false,Bool.false_eq_true,if_false,List.take_length,List.length_nil,c1,w0,List.take_nil,List.nil_append]
  rw [impl_AuditShop_p0_eq]
  simp only [e2,show (1 : Int) < 3 by decide,show ¬ (1 : Int) = 0 by decide,decide_true,decide_false,if_true,Option.bind_some,bne_self_eq_false,Bool.false_eq_true,if_false,List.take_length,c2,w1]
  rw [impl_AuditShop_p0_eq]
  simp only [e3,show (2 : Int) < 3 by decide,show ¬ (2 : Int) = 0 by decide,show ¬ (2 : Int) = 1 by decide,decide_true,decide_false,if_true,Option.bind_some,bne_self_eq_false,Bool.false_eq_true,if_false,List.take_length,c3,w2]
  rw [impl_AuditShop_p0_eq]
  simp only [show ¬ (3 : Int) < 3 by decide,decide_false,Bool.false_eq_true,if_false,List.take_length]
 ·rw [if_neg hk]
  have hv := impl_ValidShop_ok x hs
  rw [Bool.eq_false_iff.2 hk] at hv
  obtain ⟨a,b,s,d,e,f,g,xs,⟨⟩⟩ := x
  rw [impl_AuditShop_p0_eq]
  simp only [show (0 : Int) < 3 by decide,decide_true,if_true,impl_BodyProblems_eq,hv,Option.bind_some,Bool.not_false]
  rfl
theorem bodyP_small {x : T_Shop.ty} (hk : shopOk x = true) : (bodyP x.1 x.2.1 x.2.2.1).length ≤ 20 := by
 obtain ⟨o1,o2,_⟩ := shopOk_parts hk
 obtain ⟨a,b,s,d,e,f,g,xs,⟨⟩⟩ := x
 simp only [] at o1 o2 ⊢
 have c1 := cornersP_len a
 have c2 := breakP_len b s
 simp only [outOk,cordsOk,Bool.and_eq_true,inR_iff',decide_eq_true_eq] at o1 o2
 have h1 := gather_len (f := bodyF1 (cornersP a)) (m := 1) (fun i => by simp [bodyF1]) (cornersP a).length 0
 have h2 := gather_len (f := bodyF2 b (breakP b s)) (m := 1) (fun i => by simp [bodyF2]) (breakP b s).length 0
 rw [bodyP,List.length_append]
 omega
theorem audit_small {x : T_Shop.ty} (hs : shopSmall x) (hk : shopOk x = true) : (bodyP x.1 x.2.1 x.2.2.1).length ≤ 20 ∧ (workP x.2.2.2.1 x.2.2.2.2.1 x.2.2.2.2.2.1).length ≤ 12 ∧ (tradeP x.2.2.2.2.2.2.1 x.2.2.2.2.2.2.2.1).length ≤ 145 := by
 obtain ⟨_,o2,_,o4,o5,_,o7,o8⟩ := shopOk_parts hk
 exact ⟨bodyP_small hk,Nat.le_trans (workP_len _ _ _) (stepsFit o4 o5 fun y hy => (hs.2.2.1.2 y hy).2).few,tradeP_len (rentFit o7).few⟩
def mx (a b : Int) : Int := if b > a then b else a
theorem mx_le {a b c : Int} : mx a b ≤ c ↔ a ≤ c ∧ b ≤ c := by unfold mx; split <;> omega
theorem mx_l (a b : Int) : a ≤ mx a b := by unfold mx; split <;> omega
theorem mx_r (a b : Int) : b ≤ mx a b := by unfold mx; split <;> omega
theorem mx_if (a b : Int) : (if b > a then b else a) = mx a b := rfl
def bld (f : List Int → Nat → Int) : Nat → List Int
 | 0 => []
 | k + 1 => bld f k ++ [f (bld f k) k]
theorem bld_len (f : List Int → Nat → Int) : ∀ k,(bld f k).length = k
 | 0 => rfl
 | k + 1 => by rw [bld,List.length_append,bld_len f k]; rfl
theorem beg_app (l : List Int) (s : Int) (j : Nat) : sBeg (l ++ [s]) j = if j < l.length then sBeg l j else if j = l.length then s else 0 := by
 unfold sBeg
 by_cases h : j < l.length
 ·rw [if_pos h,List.getElem?_append_left h]
 ·rw [if_neg h,List.getElem?_append_right (by omega)]
  by_cases h2 : j = l.length
  ·subst h2; simp
  ·rw [if_neg h2,List.getElem?_eq_none (by simp; omega)]; rfl
theorem bld_beg (f : List Int → Nat → Int) : ∀ {j k : Nat},j < k → sBeg (bld f k) j = f (bld f j) j
 | j,k + 1,h => by
   rw [bld,beg_app,bld_len]
   by_cases h2 : j < k
   ·rw [if_pos h2,bld_beg f h2]
   ·have : j = k := by omega
    subst this
    rw [if_neg h2,if_pos rfl]
theorem bld_out (f : List Int → Nat → Int) {j k : Nat} (h : k ≤ j) : sBeg (bld f k) j = 0 := by
 unfold sBeg
 rw [List.getElem?_eq_none (by rw [bld_len]; exact h)]; rfl
theorem bld_same (f : List Int → Nat → Int) {j k m : Nat} (h : j < k) (h' : j < m) : sBeg (bld f k) j = sBeg (bld f m) j := by rw [bld_beg f h,bld_beg f h']
def freeAt (room : Int → Bool) : Nat → Int → Int
 | 0,h => h
 | k + 1,h => if room h then h else freeAt room k (h + 1)
theorem freeAt_ok (room : Int → Bool) (E : Int) (hE : ∀ h,E ≤ h → room h = true) : ∀ (k : Nat) (h : Int),h ≤ E → E - h ≤ k →
 h ≤ freeAt room k h ∧ freeAt room k h ≤ E ∧ room (freeAt room k h) = true
 | 0,h,h1,h2 => ⟨Int.le_refl _,h1,hE h (by omega)⟩
 | k + 1,h,h1,h2 => by
   unfold freeAt
   by_cases hr : room h = true
   ·rw [if_pos hr]; exact ⟨Int.le_refl _,h1,hr⟩
   ·rw [if_neg hr]
    have : h ≠ E := fun e => hr (hE h (by omega))
    obtain ⟨a,b,c⟩ := freeAt_ok room E hE k (h + 1) (by omega) (by omega)
    exact ⟨by omega,b,c⟩
theorem freeLoop {γ : Type} (room : Int → Bool) (E : Int) (hE : ∀ h,E ≤ h → room h = true) (hb : E ≤ 100000) (p K : Int → Option γ) (heq : ∀ h,0 ≤ h → h ≤ 100000 → p h = if room h then K h else p (h + 1)) :
 ∀ (k : Nat) (h : Int),0 ≤ h → h ≤ E → E - h ≤ k → p h = K (freeAt room k h)
 | 0,h,h0,h1,h2 => by
   rw [heq h h0 (by omega),if_pos (hE h (by omega))]; rfl
 | k + 1,h,h0,h1,h2 => by
   rw [heq h h0 (by omega),freeAt]
   by_cases hr : room h = true
   ·rw [if_pos hr,if_pos hr]
   ·rw [if_neg hr,if_neg hr]
    have : h ≠ E := fun e => hr (hE h (by omega))
    exact freeLoop room E hE hb p K heq k (h + 1) (by omega) (by omega) (by omega)
theorem sumG_congr {f g : Nat → Int} : ∀ (k i : Nat),(∀ j,i ≤ j → j < i + k → f j = g j) → sumG f i k = sumG g i k
 | 0,i,h => rfl
 | k + 1,i,h => by rw [sumG,sumG,h i (Nat.le_refl _) (by omega),sumG_congr k (i + 1) fun j h1 h2 => h j (by omega) (by omega)]
theorem sumG_snoc (f : Nat → Int) : ∀ (k i : Nat),sumG f i (k + 1) = sumG f i k + f (i + k)
 | 0,i => by simp [sumG]
 | k + 1,i => by
   rw [sumG,sumG_snoc f k (i + 1),show sumG f i (k + 1) = f i + sumG f (i + 1) k from rfl,show i + 1 + k = i + (k + 1) by omega]
   omega
theorem sumG_zero {f : Nat → Int} : ∀ (k i : Nat),(∀ j,i ≤ j → j < i + k → f j = 0) → sumG f i k = 0
 | 0,i,h => rfl
 | k + 1,i,h => by rw [sumG,h i (Nat.le_refl _) (by omega),sumG_zero k (i + 1) fun j h1 h2 => h j (by omega) (by omega)]; rfl
structure StFit (xs : List T_Step.ty) : Prop where
 few : xs.length ≤ 12
 hrs : ∀ i,i < xs.length → 1 ≤ sHrs xs i ∧ sHrs xs i ≤ 200
 clp : ∀ i,i < xs.length → 0 ≤ sClp xs i ∧ sClp xs i ≤ 20
 aft : ∀ i,i < xs.length → ∀ a,a ∈ sAft xs i → 0 ≤ a ∧ a < (i : Int)
 al : ∀ i,i < xs.length → (sAft xs i).length ≤ 1048576
theorem stFit {xs : List T_Step.ty} (h1 : stepsOk xs = true) (hx : ∀ y : T_Step.ty,y ∈ xs → List.length (α := Int) y.2.2.2.1 ≤ 1048576) : StFit xs := by
 have F := stepsFit (l := List.replicate xs.length 0) h1 (by
  rw [startsOk,Bool.and_eq_true]
  refine ⟨List.all_eq_true.2 fun x hx => ?_,by simp⟩
  rw [List.eq_of_mem_replicate hx]; decide) hx
 refine ⟨F.few,F.hrs,F.clp,fun i hi a ha => ?_,F.al⟩
 obtain ⟨j,hj,e⟩ := List.getElem_of_mem ha
 have := F.aft i hi j hj
 rw [show sBeg (sAft xs i) j = a by rw [sBeg,List.getElem?_eq_getElem hj,e]; rfl] at this
 exact this
structure BgFit (xs : List T_Step.ty) (l : List Int) : Prop where
 len : l.length ≤ xs.length
 beg : ∀ i,0 ≤ sBeg l i ∧ sBeg l i ≤ 2400
def rdyL (xs : List T_Step.ty) (l : List Int) : List Int → Int → Int
 | [],m => m
 | a :: r,m => rdyL xs l r (mx m (sBeg l a.toNat + sHrs xs a.toNat))
theorem rdyL_ge (xs : List T_Step.ty) (l : List Int) : ∀ (A : List Int) (m : Int),m ≤ rdyL xs l A m
 | [],m => Int.le_refl _
 | a :: r,m => Int.le_trans (mx_l _ _) (rdyL_ge xs l r _)
theorem rdyL_mem (xs : List T_Step.ty) (l : List Int) : ∀ (A : List Int) (m a : Int),a ∈ A → sBeg l a.toNat + sHrs xs a.toNat ≤ rdyL xs l A m
 | b :: r,m,a,h => by
   rcases List.mem_cons.1 h with rfl | h
   ·exact Int.le_trans (mx_r _ _) (rdyL_ge xs l r _)
   ·exact rdyL_mem xs l r _ a h
theorem rdyL_le {xs : List T_Step.ty} {l : List Int} {c : Int} : ∀ {A : List Int} {m : Int},m ≤ c → (∀ a,a ∈ A → sBeg l a.toNat + sHrs xs a.toNat ≤ c) → rdyL xs l A m ≤ c
 | [],m,h,_ => h
 | a :: r,m,h,h2 => rdyL_le (A := r) (m := mx m (sBeg l a.toNat + sHrs xs a.toNat)) (mx_le.2 ⟨h,h2 a (by simp)⟩) fun b hb => h2 b (by simp [hb])
def rdyP (xs : List T_Step.ty) (l : List Int) (i : Nat) : Int := rdyL xs l (sAft xs i) 0
theorem rdyP_same {xs : List T_Step.ty} {l l' : List Int} {i : Nat} (h : ∀ a,a ∈ sAft xs i → sBeg l a.toNat = sBeg l' a.toNat) : rdyP xs l i = rdyP xs l' i := by
 have h1 : rdyP xs l i ≤ rdyP xs l' i := rdyL_le (rdyL_ge _ _ _ _) fun a ha => by rw [h a ha]; exact rdyL_mem _ _ _ _ _ ha
 have h2 : rdyP xs l' i ≤ rdyP xs l i := rdyL_le (rdyL_ge _ _ _ _) fun a ha => by rw [← h a ha]; exact rdyL_mem _ _ _ _ _ ha
 omega
theorem usedG_bdS {xs : List T_Step.ty} (S : StFit xs) (l : List Int) (h : Int) (i : Nat) : 0 ≤ usedG xs l h i ∧ usedG xs l h i ≤ 20 := by
 unfold usedG
 split
 ·split
  ·rename_i hi; exact S.clp i hi
  ·omega
 ·omega
theorem usedP_app {xs : List T_Step.ty} {l : List Int} (s h : Int) (hl : l.length < xs.length) : usedP xs (l ++ [s]) h = usedP xs l h + if decide (s ≤ h) && decide (h < s + sHrs xs l.length) then sClp xs l.length else 0 := by
 unfold usedP
 rw [List.length_append,show l.length + [s].length = l.length + 1 from rfl,sumG_snoc]
 congr 1
 ·refine sumG_congr _ _ fun j h1 h2 => ?_
  have e : sBeg (l ++ [s]) j = sBeg l j := by rw [beg_app,if_pos (by omega)]
  unfold usedG
  rw [e]
 ·rw [Nat.zero_add]
  have e : sBeg (l ++ [s]) l.length = s := by rw [beg_app,if_neg (Nat.lt_irrefl _),if_pos rfl]
  unfold usedG
  rw [e,if_pos hl]
def roomB (xs : List T_Step.ty) (l : List Int) (i : Nat) (cl h : Int) : Bool := (List.range' 0 (sHrs xs i).toNat).all fun d => decide (usedP xs l (h + (d : Int)) + sClp xs i ≤ cl)
theorem roomB_at {xs : List T_Step.ty} {l : List Int} {i : Nat} {cl h : Int} (hr : roomB xs l i cl h = true) {m : Int} (h1 : h ≤ m) (h2 : m < h + sHrs xs i) : usedP xs l m + sClp xs i ≤ cl := by
 have := List.all_eq_true.1 hr (m - h).toNat (by simp; omega)
 rw [decide_eq_true_eq,show h + (((m - h).toNat : Nat) : Int) = m by omega] at this
 exact this
def planF (xs : List T_Step.ty) (cl : Int) (l : List Int) (i : Nat) : Int := freeAt (roomB xs l i cl) 5000 (rdyP xs l i)
def clpOk (xs : List T_Step.ty) (cl : Int) (n : Nat) : Prop := ∀ i,i < n → sClp xs i ≤ cl
structure PlanOk (xs : List T_Step.ty) (cl : Int) (k : Nat) : Prop where
 beg : ∀ j,j < k → 0 ≤ sBeg (bld (planF xs cl) k) j ∧ sBeg (bld (planF xs cl) k) j + sHrs xs j ≤ 200 * ((j : Int) + 1)
 rdy : ∀ j,j < k → rdyP xs (bld (planF xs cl) k) j ≤ sBeg (bld (planF xs cl) k) j
 use : ∀ h,usedP xs (bld (planF xs cl) k) h ≤ mx 0 cl
theorem room_late {xs : List T_Step.ty} (S : StFit xs) {cl : Int} {k : Nat} (hk : k < xs.length) (hc : clpOk xs cl (k + 1)) (P : PlanOk xs cl k) : ∀ h,200 * (k : Int) ≤ h → roomB xs (bld (planF xs cl) k) k cl h = true := by
 intro h hh
 refine List.all_eq_true.2 fun d _ => decide_eq_true ?_
 have : usedP xs (bld (planF xs cl) k) (h + (d : Int)) = 0 := by
  refine sumG_zero _ _ fun j h1 h2 => ?_
  rw [bld_len] at h2
  have := P.beg j (by omega)
  unfold usedG
  rw [if_neg]
  simp only [Bool.and_eq_true,decide_eq_true_eq]
  omega
 have := hc k (by omega)
 omega
theorem rdy_bd {xs : List T_Step.ty} (S : StFit xs) {k : Nat} {l : List Int} (hk : k < xs.length) (hb : ∀ j,j < k → sBeg l j + sHrs xs j ≤ 200 * ((j : Int) + 1)) : 0 ≤ rdyP xs l k ∧ rdyP xs l k ≤ 200 * (k : Int) := by
 refine ⟨rdyL_ge _ _ _ _,rdyL_le (by omega) fun a ha => ?_⟩
 have h1 := S.aft k hk a ha
 have h2 := hb a.toNat (by omega)
 omega
theorem planF_ok {xs : List T_Step.ty} (S : StFit xs) {cl : Int} {k : Nat} (hk : k < xs.length) (hc : clpOk xs cl (k + 1)) (P : PlanOk xs cl k) :
 rdyP xs (bld (planF xs cl) k) k ≤ planF xs cl (bld (planF xs cl) k) k ∧ planF xs cl (bld (planF xs cl) k) k ≤ 200 * (k : Int) ∧ roomB xs (bld (planF xs cl) k) k cl (planF xs cl (bld (planF xs cl) k) k) = true := by
 have b := rdy_bd S (l := bld (planF xs cl) k) hk fun j hj => (P.beg j hj).2
 have := S.few
 exact freeAt_ok _ (200 * (k : Int)) (room_late S hk hc P) 5000 _ b.2 (by omega)
theorem planOk {xs : List T_Step.ty} (S : StFit xs) {cl : Int} : ∀ (k : Nat),k ≤ xs.length → clpOk xs cl k → PlanOk xs cl k
 | 0,_,_ => ⟨fun j h => by omega,fun j h => by omega,fun h => by
   show (0 : Int) ≤ mx 0 cl
   exact mx_l _ _⟩
 | k + 1,hk,hc => by
   have P := planOk S k (by omega) fun i hi => hc i (by omega)
   obtain ⟨f1,f2,f3⟩ := planF_ok S (by omega) hc P
   have f0 := rdy_bd S (l := bld (planF xs cl) k) (k := k) (by omega) fun j hj => (P.beg j hj).2
   have hh := S.hrs k (by omega)
   refine ⟨fun j hj => ?_,fun j hj => ?_,fun h => ?_⟩
   ·by_cases h : j < k
    ·rw [bld_same (planF xs cl) (k := k + 1) (m := k) (by omega) h]
     exact P.beg j h
    ·have : j = k := by omega
     subst this
     rw [bld_beg (planF xs cl) (by omega)]
     omega
   ·have e : rdyP xs (bld (planF xs cl) (k + 1)) j = rdyP xs (bld (planF xs cl) j) j := rdyP_same fun a ha => by
     have := S.aft j (by omega) a ha
     exact bld_same _ (by omega) (by omega)
    by_cases h : j < k
    ·have e2 : rdyP xs (bld (planF xs cl) k) j = rdyP xs (bld (planF xs cl) j) j := rdyP_same fun a ha => by
      have := S.aft j (by omega) a ha
      exact bld_same _ (by omega) (by omega)
     rw [e,← e2,bld_same (planF xs cl) (k := k + 1) (m := k) (by omega) h]
     exact P.rdy j h
    ·have : j = k := by omega
     subst this
     rw [e,bld_beg (planF xs cl) (by omega)]
     exact f1
   ·rw [bld,usedP_app _ _ (by rw [bld_len]; omega),bld_len]
    have u := P.use h
    split
    ·rename_i hc2
     simp only [Bool.and_eq_true,decide_eq_true_eq] at hc2
     have := roomB_at f3 hc2.1 hc2.2
     exact Int.le_trans this (mx_r _ _)
    ·omega
theorem plan_fit {xs : List T_Step.ty} (S : StFit xs) {cl : Int} {k : Nat} (hk : k ≤ xs.length) (hc : clpOk xs cl k) : BgFit xs (bld (planF xs cl) k) := by
 have P := planOk S k hk hc
 have := S.few
 refine ⟨by rw [bld_len]; exact hk,fun i => ?_⟩
 by_cases h : i < k
 ·have := P.beg i h
  have := S.hrs i (by omega)
  omega
 ·rw [bld_out _ (by omega)]; omega
theorem aft_at {xs : List T_Step.ty} (S : StFit xs) {l : List Int} (B : BgFit xs l) {i j : Nat} (hi : i < xs.length) (hl : i ≤ l.length) (hj : j < (sAft xs i).length) :
 0 ≤ (sAft xs i)[j] ∧ ((sAft xs i)[j]).toNat < xs.length ∧ ((sAft xs i)[j]).toNat < l.length ∧ (sAft xs i)[j] < (i : Int) ∧
   IntKind.i64.wrap (sBeg l ((sAft xs i)[j]).toNat + sHrs xs ((sAft xs i)[j]).toNat) = sBeg l ((sAft xs i)[j]).toNat + sHrs xs ((sAft xs i)[j]).toNat ∧
   0 ≤ sBeg l ((sAft xs i)[j]).toNat + sHrs xs ((sAft xs i)[j]).toNat ∧ sBeg l ((sAft xs i)[j]).toNat + sHrs xs ((sAft xs i)[j]).toNat ≤ 2600 := by
 have h1 := S.aft i hi _ (List.getElem_mem hj)
 have h2 := B.beg ((sAft xs i)[j]).toNat
 have h3 := S.hrs ((sAft xs i)[j]).toNat (by omega)
 exact ⟨h1.1,by omega,by omega,h1.2,by rw [w64 (by omega) (by omega)],by omega,by omega⟩
theorem spec_l17Used_okN {xs : List T_Step.ty} {l : List Int} (S : StFit xs) (B : BgFit xs l) (h : Int) : spec_l17Used xs l h = some (usedP xs l h) := by
 rw [spec_l17Used_eq]
 have fl := B.len
 have ff := S.few
 have := sumLoop l.length (by omega) (usedG xs l h) (fun i => by have := usedG_bdS S l h i; omega) (fun a i => spec_l17Used_p0 xs l h a i) some (fun i a hi ha => ?_) (fun a => ?_) l.length 0 0 (by omega) (by omega)
 ·rw [Int.zero_add] at this; exact this
 ·have hlt : (i : Int) < (l.length : Int) := by omega
  have hi2 : i < xs.length := by omega
  have hw : IntKind.i64.wrap ((i : Int) + 1) = ((i + 1 : Nat) : Int) := by rw [w64 (by omega) (by omega)]; omega
  have g1 := B.beg i
  have g2 := S.hrs i hi2
  have g3 := S.clp i hi2
  have hw2 : IntKind.i64.wrap (sBeg l i + sHrs xs i) = sBeg l i + sHrs xs i := by rw [w64 (by omega) (by omega)]
  have hw3 : IntKind.i64.wrap (a + sClp xs i) = a + sClp xs i := by rw [w64 (by omega) (by omega)]
  show spec_l17Used_p0 xs l h a i = spec_l17Used_p0 xs l h (a + usedG xs l h i) ((i + 1 : Nat) : Int)
  rw [spec_l17Used_p0_eq]
  simp only [hlt,decide_true,if_true,Int.natCast_nonneg,Int.toNat_natCast,sBeg_get hi,st_get hi2,Option.bind_some,spec_l17Used_p1_eq]
  have hw2' : IntKind.i64.wrap (sBeg l i + (stAt xs i).2.1) = sBeg l i + sHrs xs i := hw2
  have hw3' : IntKind.i64.wrap (a + (stAt xs i).2.2.1) = a + sClp xs i := hw3
  rw [hw,hw2',hw3']
  unfold usedG
  by_cases c1 : sBeg l i ≤ h
  ·by_cases c2 : h < sBeg l i + sHrs xs i
   ·simp [c1,c2,hi2]
   ·simp [c1,c2]
  ·simp [c1]
 ·show spec_l17Used_p0 xs l h a (l.length : Int) = _
  rw [spec_l17Used_p0_eq]; simp
theorem spec_l17Free_okN {xs : List T_Step.ty} {l : List Int} (S : StFit xs) (B : BgFit xs l) {i : Nat} (hi : i < xs.length) {h cl : Int} (h0 : 0 ≤ h) (h1 : h ≤ 100000) (c0 : 0 ≤ cl) (c1 : cl ≤ 240) :
 spec_l17Free xs l h (sHrs xs i) (IntKind.i64.wrap (cl - sClp xs i)) = some (roomB xs l i cl h) := by
 have g2 := S.hrs i hi
 have g3 := S.clp i hi
 rw [spec_l17Free_eq,w64 (n := cl - sClp xs i) (by omega) (by omega)]
 have loop : ∀ (k d : Nat),d + k = (sHrs xs i).toNat → spec_l17Free_p0 xs l h (sHrs xs i) (cl - sClp xs i) (h + (d : Int)) = some ((List.range' d k).all fun d => decide (usedP xs l (h + (d : Int)) + sClp xs i ≤ cl)) := by
  intro k
  induction k with
  | zero =>
    intro d hk
    rw [spec_l17Free_p0_eq,w64 (n := h + sHrs xs i) (by omega) (by omega)]
    have : ¬ h + (d : Int) < h + sHrs xs i := by omega
    simp only [this,decide_false,Bool.false_eq_true,if_false,List.range'_zero,List.all_nil]
  | succ k ih =>
    intro d hk
    have hlt : h + (d : Int) < h + sHrs xs i := by omega
    have hw : IntKind.i64.wrap (h + (d : Int) + 1) = h + ((d + 1 : Nat) : Int) := by rw [w64 (by omega) (by omega)]; omega
    rw [spec_l17Free_p0_eq,w64 (n := h + sHrs xs i) (by omega) (by omega)]
    simp only [hlt,decide_true,if_true,spec_l17Used_okN S B,Option.bind_some,hw,List.range'_succ,List.all_cons]
    by_cases hc : usedP xs l (h + (d : Int)) > cl - sClp xs i
    ·have hc' : ¬ usedP xs l (h + (d : Int)) + sClp xs i ≤ cl := by omega
     simp only [hc,hc',decide_true,decide_false,if_true,Bool.false_and]
    ·have hc' : usedP xs l (h + (d : Int)) + sClp xs i ≤ cl := by omega
     simp only [hc,hc',decide_true,decide_false,Bool.false_eq_true,if_false,Bool.true_and]
     exact ih (d + 1) (by omega)
 have := loop (sHrs xs i).toNat 0 (by omega)
 rw [show h + ((0 : Nat) : Int) = h by omega] at this
 exact this
theorem plan_p1_ok {xs : List T_Step.ty} {l : List Int} (S : StFit xs) (B : BgFit xs l) {cl : Int} {i : Nat} (hi : i < xs.length) (hl : i = l.length) : ∀ (k j : Nat) (m : Int),j + k = (sAft xs i).length → 0 ≤ m → m ≤ 10000 →
 spec_l17Plan_p1 xs cl i m j l = spec_l17Plan_p2 xs cl i (rdyL xs l ((sAft xs i).drop j) m) l
 | 0,j,m,hk,h0,h1 => by
   have e : (stAt xs i).2.2.2.1 = sAft xs i := rfl
   have : ¬ (j : Int) < ((sAft xs i).length : Int) := by omega
   rw [spec_l17Plan_p1_eq,List.drop_eq_nil_of_le (by omega)]
   simp only [Int.natCast_nonneg,decide_true,if_true,Int.toNat_natCast,st_get hi,Option.bind_some,e,this,decide_false,Bool.false_eq_true,if_false,rdyL]
 | k + 1,j,m,hk,h0,h1 => by
   have hal := S.al i hi
   have hj : j < (sAft xs i).length := by omega
   have hlj : (j : Int) < ((sAft xs i).length : Int) := by omega
   have hwj : IntKind.i64.wrap ((j : Int) + 1) = ((j + 1 : Nat) : Int) := by rw [w64 (by omega) (by omega)]; omega
   obtain ⟨q1,q2,q3,q4,q5,q6,q7⟩ := aft_at S B hi (by omega) hj
   have q5' : IntKind.i64.wrap (sBeg l ((sAft xs i)[j]).toNat + (stAt xs ((sAft xs i)[j]).toNat).2.1) = sBeg l ((sAft xs i)[j]).toNat + sHrs xs ((sAft xs i)[j]).toNat := q5
   have q4' : (sAft xs i)[j] < (l.length : Int) := by omega
   have e : (stAt xs i).2.2.2.1 = sAft xs i := rfl
   rw [spec_l17Plan_p1_eq,List.drop_eq_getElem_cons hj]
   simp only [Int.natCast_nonneg,decide_true,if_true,Int.toNat_natCast,st_get hi,Option.bind_some,e,hlj,List.getElem?_eq_getElem hj,q1,q4',Bool.and_self,sBeg_get q3,st_get q2,q5',hwj,spec_l00Max_ok,mx_if,rdyL]
   exact plan_p1_ok S B hi hl k (j + 1) _ (by omega) (Int.le_trans h0 (mx_l _ _)) (mx_le.2 ⟨h1,by omega⟩)
theorem spec_l17Plan_okN {xs : List T_Step.ty} (S : StFit xs) {cl : Int} (c0 : 0 ≤ cl) (c1 : cl ≤ 240) (hc : clpOk xs cl xs.length) : spec_l17Plan xs cl = some (bld (planF xs cl) xs.length) := by
 have hf := S.few
 have loop : ∀ (k i : Nat),i + k = xs.length → spec_l17Plan_p0 xs cl i (bld (planF xs cl) i) = some (bld (planF xs cl) xs.length) := by
  intro k
  induction k with
  | zero =>
    intro i hk
    obtain rfl : i = xs.length := by omega
    rw [spec_l17Plan_p0_eq]
    simp only [Int.lt_irrefl,decide_false,Bool.false_eq_true,if_false,List.take_length]
  | succ k ih =>
    intro i hk
    have hi : i < xs.length := by omega
    have hlt : (i : Int) < (xs.length : Int) := by omega
    have hwi : IntKind.i64.wrap ((i : Int) + 1) = ((i + 1 : Nat) : Int) := by rw [w64 (by omega) (by omega)]; omega
    have hc1 : clpOk xs cl i := fun j hj => hc j (by omega)
    have hc2 : clpOk xs cl (i + 1) := fun j hj => hc j (by omega)
    have B := plan_fit S (cl := cl) (k := i) (by omega) hc1
    have P := planOk S i (by omega) hc1
    have rb := rdy_bd S (l := bld (planF xs cl) i) (k := i) (by omega) fun j hj => (P.beg j hj).2
    have e := plan_p1_ok S B (cl := cl) hi (bld_len _ _).symm (sAft xs i).length 0 0 (by omega) (by omega) (by omega)
    rw [List.drop_zero] at e
    rw [spec_l17Plan_p0_eq]
    simp only [hlt,decide_true,if_true]
    refine e.trans ?_
    have fl := freeLoop (roomB xs (bld (planF xs cl) i) i cl) (200 * (i : Int)) (room_late S hi hc2 P) (by omega) (fun h => spec_l17Plan_p2 xs cl i h (bld (planF xs cl) i)) (fun h => spec_l17Plan_p0 xs cl ((i + 1 : Nat) : Int) (bld (planF xs cl) i ++ [h])) (fun h h0 h1 => ?_) 5000 _ rb.1 rb.2 (by omega)
    ·exact fl.trans (ih (i + 1) (by omega))
    ·show spec_l17Plan_p2 xs cl i h (bld (planF xs cl) i) = _
     have hw : IntKind.i64.wrap (h + 1) = h + 1 := by rw [w64 (by omega) (by omega)]
     have hlim : (bld (planF xs cl) i).length + 1 < lim := by rw [lim_eq,bld_len]; omega
     have fr := spec_l17Free_okN S B hi h0 h1 c0 c1
     have fr' : spec_l17Free xs (bld (planF xs cl) i) h (stAt xs i).2.1 (IntKind.i64.wrap (cl - (stAt xs i).2.2.1)) = _ := fr
     rw [spec_l17Plan_p2_eq]
     simp only [Int.natCast_nonneg,decide_true,if_true,Int.toNat_natCast,st_get hi,Option.bind_some,List.take_length,fr',hw,hlim,hwi]
     cases roomB xs (bld (planF xs cl) i) i cl h <;> simp
 rw [spec_l17Plan_eq]
 exact loop xs.length 0 (by omega)
structure StSmall (xs : List T_Step.ty) : Prop where
 ok : stepsOk xs = true
 s1 : xs.length ≤ 1048576
 s2 : ∀ x,x ∈ xs → x.1.length ≤ 1048576 ∧ List.length (α := Int) x.2.2.2.1 ≤ 1048576
theorem StSmall.fit {xs : List T_Step.ty} (h : StSmall xs) : StFit xs := stFit h.ok fun y hy => (h.s2 y hy).2
theorem risesB_of {lo hi : Int} {l : List Int} (h1 : ∀ a,a ∈ l → lo ≤ a ∧ a ≤ hi) (h2 : l.Pairwise (· < ·)) : risesB lo hi l = true := by
 refine List.all_eq_true.2 fun i hi' => ?_
 have hi2 : i < l.length := by simp at hi'; omega
 rw [risesAt,Bool.and_eq_true,List.getElem?_eq_getElem hi2]
 refine ⟨inR_iff'.2 (h1 _ (List.getElem_mem hi2)),?_⟩
 by_cases h0 : i = 0
 ·simp [h0]
 ·have := List.pairwise_iff_getElem.1 h2 (i - 1) i (by omega) hi2 (by omega)
  rw [List.getElem?_eq_getElem (by omega : i - 1 < l.length)]
  simp [this]
theorem drawAft_loop (id : List UInt8) (h cl : Int) (n : Nat) (hn : n ≤ 100) (c0 : Int) : ∀ (k j : Nat) (s : T_l00Src.ty) (c : Int) (R : List Int) (e1 : List UInt8) (e2 e3 : Int),j + k = n → SrcOk s c → c + 2 * (k : Int) ≤ 100000000000000000 → R.length ≤ j → R.Pairwise (· < ·) → (∀ a,a ∈ R → 0 ≤ a ∧ a < (j : Int)) →
 ∃ (R' : List Int) (s' : T_l00Src.ty),spec_l17DrawOne_p0 n j s.1 s.2.1 s.2.2.1 e1 e2 e3 id h cl R = some ((id,h,cl,R',()),s') ∧ SrcOk s' (c + 2 * (k : Int)) ∧ R'.length ≤ n ∧ R'.Pairwise (· < ·) ∧ ∀ a,a ∈ R' → 0 ≤ a ∧ a < (n : Int)
 | 0,j,s,c,R,e1,e2,e3,hk,hs,hc,h1,h2,h3 => by
   obtain rfl : j = n := by omega
   refine ⟨R,s,?_,by simpa using hs,h1,h2,h3⟩
   rw [spec_l17DrawOne_p0_eq]
   simp only [Int.lt_irrefl,decide_false,Bool.false_eq_true,if_false,List.take_length]
 | k + 1,j,s,c,R,e1,e2,e3,hk,hs,hc,h1,h2,h3 => by
   have hlt : (j : Int) < (n : Int) := by omega
   have hw : IntKind.i64.wrap ((j : Int) + 1) = ((j + 1 : Nat) : Int) := by rw [w64 (by omega) (by omega)]; omega
   obtain ⟨u,s1,q1,k1⟩ := one_ok hs (by omega) 3 (by omega)
   have hlim : R.length + 1 < lim := by rw [lim_eq]; omega
   rw [spec_l17DrawOne_p0_eq]
   simp only [hlt,decide_true,if_true,src_eta,q1,Option.bind_some,hlim,hw,List.take_length]
   cases u
   ·simp only [Bool.false_eq_true,if_false]
    obtain ⟨R',s',z1,z2,z3⟩ := drawAft_loop id h cl n hn c0 k (j + 1) s1 (c + 2) R e1 e2 e3 (by omega) k1 (by omega) (by omega) h2 fun a ha => by have := h3 a ha; omega
    exact ⟨R',s',z1,z2.up (by omega),z3⟩
   ·simp only [if_true]
    obtain ⟨R',s',z1,z2,z3⟩ := drawAft_loop id h cl n hn c0 k (j + 1) s1 (c + 2) (R ++ [(j : Int)]) e1 e2 e3 (by omega) k1 (by omega) (by simp; omega) (by
     rw [List.pairwise_append]
     refine ⟨h2,by simp,fun a ha b hb => ?_⟩
     rw [List.mem_singleton] at hb
     subst hb
     exact (h3 a ha).2) fun a ha => by
      rcases List.mem_append.1 ha with ha | ha
      ·have := h3 a ha; omega
      ·rw [List.mem_singleton] at ha; omega
    exact ⟨R',s',z1,z2.up (by omega),z3⟩
theorem spec_l17DrawOne_ok {s : T_l00Src.ty} {c : Int} (hs : SrcOk s c) (hc : c ≤ 10000000000000000) (id : List UInt8) (n : Nat) (hn : n ≤ 100) :
 ∃ (h cl : Int) (R : List Int) (s' : T_l00Src.ty),spec_l17DrawOne s id n = some ((id,h,cl,R,()),s') ∧ SrcOk s' (c + 1000) ∧ (1 ≤ h ∧ h ≤ 12) ∧ (0 ≤ cl ∧ cl ≤ 6) ∧ R.length ≤ n ∧ R.Pairwise (· < ·) ∧ ∀ a,a ∈ R → 0 ≤ a ∧ a < (n : Int) := by
 obtain ⟨u,s1,q1,k1,b1,b2⟩ := pick_ok hs (by omega) 12 (by omega)
 obtain ⟨v,s2,q2,k2,b3,b4⟩ := pick_ok k1 (by omega) 7 (by omega)
 obtain ⟨R,s',z1,z2,z3,z4,z5⟩ := drawAft_loop id (1 + u) v n hn 0 n 0 s2 (c + 2 + 2) [] [] 0 0 (by omega) k2 (by omega) (by simp) List.Pairwise.nil (by simp)
 refine ⟨1 + u,v,R,s',?_,z2.up (by omega),by omega,by omega,z3,z4,z5⟩
 rw [spec_l17DrawOne_eq]
 simp only [q1,q2,src_eta,Option.bind_some,w64 (n := 1 + u) (by omega) (by omega)]
 exact z1
structure DrawnSt (N : List (List UInt8)) (k : Nat) (r : List T_Step.ty) : Prop where
 len : r.length ≤ k
 ok : ∀ i,i < r.length → stepC r i = true
 hrs : ∀ i,i < r.length → sHrs r i ≤ 12
 clp : ∀ i,i < r.length → sClp r i ≤ 6
 id : ∀ i,i < r.length → (stAt r i).1 ∈ N.take k
 al : ∀ i,i < r.length → List.length (α := Int) (stAt r i).2.2.2.1 ≤ 100
theorem stAt_app (r : List T_Step.ty) (x : T_Step.ty) (i : Nat) : stAt (r ++ [x]) i = if i < r.length then stAt r i else if i = r.length then x else stAt [] 0 := by
 unfold stAt
 by_cases h : i < r.length
 ·rw [if_pos h,List.getElem?_append_left h]
 ·rw [if_neg h,List.getElem?_append_right (by omega)]
  by_cases h2 : i = r.length
  ·subst h2; simp
  ·rw [if_neg h2,List.getElem?_eq_none (by simp; omega)]; rfl
theorem stepC_app {r : List T_Step.ty} {x : T_Step.ty} {i : Nat} (h : i < r.length) : stepC (r ++ [x]) i = stepC r i := by
 have e : ∀ j,j ≤ i → stAt (r ++ [x]) j = stAt r j := fun j hj => by rw [stAt_app,if_pos (by omega)]
 have e2 : ((List.range' 0 i).all fun j => !decide ((stAt (r ++ [x]) j).1 = (stAt r i).1)) = (List.range' 0 i).all fun j => !decide ((stAt r j).1 = (stAt r i).1) := by
  rw [Bool.eq_iff_iff,List.all_eq_true,List.all_eq_true]
  constructor
  ·intro h2 j hj
   have := h2 j hj
   rwa [e j (by simp at hj; omega)] at this
  ·intro h2 j hj
   have := h2 j hj
   rwa [e j (by simp at hj; omega)]
 unfold stepC
 rw [e i (Nat.le_refl _),e2]
theorem drawnSt_add {N : List (List UInt8)} {k : Nat} {r : List T_Step.ty} (D : DrawnSt N k r) (hN : N.Nodup) (hk : k < N.length) (hk2 : k ≤ 11) (hname : ∀ x,x ∈ N → isName x = true) {h cl : Int} {R : List Int} (b1 : 1 ≤ h ∧ h ≤ 12) (b2 : 0 ≤ cl ∧ cl ≤ 6) (b3 : R.length ≤ r.length) (b4 : R.Pairwise (· < ·)) (b5 : ∀ a,a ∈ R → 0 ≤ a ∧ a < (r.length : Int)) :
 DrawnSt N (k + 1) (r ++ [(N[k],h,cl,R,())]) := by
 have dl := D.len
 have sub : ∀ x,x ∈ N.take k → x ∈ N.take (k + 1) := fun x hx => by
  rw [List.take_add_one]; exact List.mem_append_left _ hx
 have last : stAt (r ++ [(N[k],h,cl,R,())]) r.length = (N[k],h,cl,R,()) := by rw [stAt_app,if_neg (Nat.lt_irrefl _),if_pos rfl]
 have old : ∀ i,i < r.length → stAt (r ++ [(N[k],h,cl,R,())]) i = stAt r i := fun i hi => by rw [stAt_app,if_pos hi]
 have split : ∀ i,i < (r ++ [((N[k],h,cl,R,()) : T_Step.ty)]).length → i < r.length ∨ i = r.length := fun i hi => by
  rw [List.length_append] at hi
  have : [((N[k],h,cl,R,()) : T_Step.ty)].length = 1 := rfl
  omega
 refine ⟨by rw [List.length_append]; exact Nat.succ_le_succ dl,fun i hi => ?_,fun i hi => ?_,fun i hi => ?_,fun i hi => ?_,fun i hi => ?_⟩
 ·rcases split i hi with h' | rfl
  ·rw [stepC_app h']; exact D.ok i h'
  ·rw [stepC,last,Bool.and_eq_true,Bool.and_eq_true]
   refine ⟨?_,risesB_of (fun a ha => by have := b5 a ha; omega) b4,?_⟩
   ·simp only [stepOk,Bool.and_eq_true]
    exact ⟨hname _ (List.getElem_mem hk),inR_iff'.2 (by omega),inR_iff'.2 (by omega),risesB_of (fun a ha => by have := b5 a ha; omega) b4⟩
   ·refine List.all_eq_true.2 fun j hj => ?_
    have hj2 : j < r.length := by simp at hj; omega
    rw [old j hj2]
    have hm := D.id j hj2
    have hne : ¬ (stAt r j).1 = N[k] := fun e => by
     rw [e] at hm
     obtain ⟨i,hi1,hi2⟩ := List.mem_take_iff_getElem.1 hm
     have := (List.getElem_inj hN).1 hi2
     omega
    simp [hne]
 ·rcases split i hi with h' | rfl
  ·show (stAt (r ++ _) i).2.1 ≤ 12
   rw [old i h']; exact D.hrs i h'
  ·show (stAt (r ++ _) r.length).2.1 ≤ 12
   rw [last]; exact b1.2
 ·rcases split i hi with h' | rfl
  ·show (stAt (r ++ _) i).2.2.1 ≤ 6
   rw [old i h']; exact D.clp i h'
  ·show (stAt (r ++ _) r.length).2.2.1 ≤ 6
   rw [last]; exact b2.2
 ·rcases split i hi with h' | rfl
  ·rw [old i h']; exact sub _ (D.id i h')
  ·rw [last,List.take_add_one,List.getElem?_eq_getElem hk]
   exact List.mem_append_right _ (List.mem_singleton.2 rfl)
 ·rcases split i hi with h' | rfl
  ·rw [old i h']; exact D.al i h'
  ·rw [last]; show R.length ≤ 100; omega
theorem DrawnSt.more {N : List (List UInt8)} {k : Nat} {r : List T_Step.ty} (D : DrawnSt N k r) : DrawnSt N (k + 1) r :=
 ⟨Nat.le_succ_of_le D.len,D.ok,D.hrs,D.clp,fun i hi => by rw [List.take_add_one]; exact List.mem_append_left _ (D.id i hi),D.al⟩
def drawNames : List (List UInt8) := [[111,112,101,110],[99,108,101,97,110],[103,108,117,101],[112,97,116,99,104],[99,108,111,115,101],[112,111,108,105,115,104]]
theorem drawSteps_loop : ∀ (k i : Nat) (s : T_l00Src.ty) (c : Int) (r : List T_Step.ty),i + k = 6 → SrcOk s c → c ≤ 1000000000000000 + 2000 * (i : Int) → DrawnSt drawNames i r →
 ∃ (r' : List T_Step.ty) (s' : T_l00Src.ty),spec_l17Draw_p0 i s.1 s.2.1 s.2.2.1 drawNames r = some (r',s') ∧ SrcOk s' (c + 2000 * (k : Int)) ∧ DrawnSt drawNames 6 r'
 | 0,i,s,c,r,hk,hs,hc,D => by
   obtain rfl : i = 6 := by omega
   refine ⟨r,s,?_,by simpa using hs,D⟩
   rw [spec_l17Draw_p0_eq]
   have : ¬ ((6 : Nat) : Int) < (drawNames.length : Int) := by decide
   simp only [this,decide_false,Bool.false_eq_true,if_false,List.take_length]
 | k + 1,i,s,c,r,hk,hs,hc,D => by
   have hl : drawNames.length = 6 := rfl
   have hi : i < drawNames.length := by omega
   have hlt : (i : Int) < (drawNames.length : Int) := by omega
   have hw : IntKind.i64.wrap ((i : Int) + 1) = ((i + 1 : Nat) : Int) := by rw [w64 (by omega) (by omega)]; omega
   obtain ⟨u,s1,q1,k1,b1,b2⟩ := pick_ok hs (by omega) 3 (by omega)
   have dl := D.len
   have hlim : r.length + 1 < lim := by rw [lim_eq]; omega
   rw [spec_l17Draw_p0_eq]
   simp only [hlt,decide_true,if_true,src_eta,q1,Option.bind_some,Int.natCast_nonneg,Bool.and_self,Int.toNat_natCast,List.getElem?_eq_getElem hi,hlim,hw,List.take_length]
   by_cases hu : u > 0
   ·obtain ⟨h,cl,R,s2,q2,k2,z1,z2,z3,z4,z5⟩ := spec_l17DrawOne_ok k1 (by omega) drawNames[i] r.length (by omega)
    simp only [hu,decide_true,if_true,q2,Option.bind_some]
    obtain ⟨r',s',y1,y2,y3⟩ := drawSteps_loop k (i + 1) s2 (c + 2 + 1000) _ (by omega) k2 (by omega) (drawnSt_add D (by decide) hi (by omega) (by decide) z1 z2 z3 z4 z5)
    exact ⟨r',s',y1,y2.up (by omega),y3⟩
   ·simp only [hu,decide_false,Bool.false_eq_true,if_false]
    obtain ⟨r',s',y1,y2,y3⟩ := drawSteps_loop k (i + 1) s1 (c + 2) _ (by omega) k1 (by omega) D.more
    exact ⟨r',s',y1,y2.up (by omega),y3⟩
theorem spec_l17Draw_ok2 {s : T_l00Src.ty} {c : Int} (hs : SrcOk s c) (hc : c ≤ 1000000000000000) : ∃ (xs : List T_Step.ty) (s' : T_l00Src.ty),spec_l17Draw s = some (xs,s') ∧ SrcOk s' (c + 12000) ∧ StSmall xs ∧ xs.length ≤ 6 ∧ (∀ i,i < xs.length → sHrs xs i ≤ 12) ∧ ∀ i,i < xs.length → sClp xs i ≤ 6 := by
 obtain ⟨r,s',e,k1,D⟩ := drawSteps_loop 6 0 s c [] (by omega) hs (by omega) ⟨Nat.le_refl _,fun i hi => absurd hi (Nat.not_lt_zero _),fun i hi => absurd hi (Nat.not_lt_zero _),fun i hi => absurd hi (Nat.not_lt_zero _),fun i hi => absurd hi (Nat.not_lt_zero _),fun i hi => absurd hi (Nat.not_lt_zero _)⟩
 have dl := D.len
 refine ⟨r,s',?_,k1.up (by omega),⟨?_,by omega,fun x hx => ?_⟩,dl,D.hrs,D.clp⟩
 ·rw [spec_l17Draw_eq]; exact e
 ·rw [stepsOk,Bool.and_eq_true]
  exact ⟨List.all_eq_true.2 fun i hi => D.ok i (by simp at hi; omega),by simp; omega⟩
 ·obtain ⟨i,hi,e2⟩ := List.getElem_of_mem hx
  have h1 := D.al i hi
  have h2 := D.ok i hi
  rw [stAt_eq r hi,e2] at h1
  rw [stepC,Bool.and_eq_true,stAt_eq r hi,e2,stepOk,Bool.and_eq_true] at h2
  refine ⟨?_,by omega⟩
  have h3 := h2.1.1
  unfold isName at h3
  split at h3
  ·cases h3
  ·rename_i e3
   simp only [Bool.and_eq_true,decide_eq_true_eq] at h3
   omega
def Rch (xs : List T_Step.ty) (k j : Nat) : Prop := ∀ P : Nat → Prop,P k → (∀ i a,P i → a ∈ sAft xs i → P a.toNat) → P j
theorem Rch.step {xs : List T_Step.ty} {k j : Nat} (h : Rch xs k j) {a : Int} (ha : a ∈ sAft xs j) : Rch xs k a.toNat := fun P h0 hs => hs j a (h P h0 hs) ha
theorem Rch.trans {xs : List T_Step.ty} {k j i : Nat} (h : Rch xs k j) (h2 : Rch xs j i) : Rch xs k i := fun P h0 hs => h2 P (h P h0 hs) hs
theorem spec_l05Oval_ok (a b : Int) : ∃ l : List T_Arc.ty,spec_l05Oval a b = some l ∧ l.length = 4 := by
 rw [spec_l05Oval_eq]
 simp only [spec_l05Arc_eq,Option.bind_some]
 exact ⟨_,rfl,rfl⟩
theorem spec_l05Draw_ok {s : T_l00Src.ty} {c : Int} (hs : SrcOk s c) (hc : c ≤ 1000000000000000) :
 ∃ (l : List T_Arc.ty) (s' : T_l00Src.ty),spec_l05Draw s = some (l,s') ∧ SrcOk s' (c + 8) ∧ l.length ≤ 100 := by
 obtain ⟨u,s1,q1,k1,_⟩ := pick_ok hs (by omega) 300 (by omega)
 obtain ⟨v,s2,q2,k2,_⟩ := pick_ok k1 (by omega) 300 (by omega)
 obtain ⟨o,e,ho⟩ := spec_l05Oval_ok u (IntKind.i64.wrap (1 + v))
 obtain ⟨w,s3,q3,k3,_⟩ := pick_ok k2 (by omega) 4 (by omega)
 obtain ⟨z,s4,q4,k4,b1,b2⟩ := pick_ok k3 (by omega) 4 (by omega)
 have l0 : 0 < o.length := by omega
 have l1 : (0 : Int) < (o.length : Int) := by omega
 have l2 : (1 : Int) ≤ (o.length : Int) := by omega
 have hz : z.toNat < o.length := by omega
 have hz2 : z < (o.length : Int) := by omega
 have l3 : 2 + ((o.drop 1).take (o.length - 1)).length < lim := by rw [lim_eq,List.length_take,List.length_drop]; omega
 rw [spec_l05Draw_eq]
 simp only [q1,q2,src_eta,Option.bind_some,e,q3,spec_l05Arc_eq]
 by_cases c0 : (w == 0) = true
 ·simp only [c0,if_true,q4,Option.bind_some,src_eta,b1,hz2,decide_true,Bool.and_self,List.getElem?_eq_getElem hz]
  exact ⟨_,s4,rfl,k4.up (by omega),by simp; omega⟩
 ·by_cases c1 : (w == 1) = true
  ·simp only [c0,c1,if_true,if_false,Bool.false_eq_true,l1,l2,l3,decide_true,List.getElem?_eq_getElem l0,Option.bind_some]
   exact ⟨_,s3,rfl,k3.up (by omega),by simp; omega⟩
  ·by_cases c2 : (w == 2) = true
   ·simp only [c0,c1,c2,if_true,if_false,Bool.false_eq_true]
    exact ⟨_,s3,rfl,k3.up (by omega),by simp⟩
   ·simp only [c0,c1,c2,if_false,Bool.false_eq_true,List.take_length]
    exact ⟨_,s3,rfl,k3.up (by omega),by omega⟩
def rentsSmall (g : List T_Paper.ty) : Prop := ∀ y : T_Paper.ty,y ∈ g → y.1.length ≤ 100 ∧ y.2.1.length ≤ 100
theorem rentsSmall.add {g : List T_Paper.ty} (h : rentsSmall g) {y : T_Paper.ty} (hy : y.1.length ≤ 100 ∧ y.2.1.length ≤ 100) : rentsSmall (g ++ [y]) := fun z hz => by
 rcases List.mem_append.1 hz with h1 | h1
 ·exact h z h1
 ·rw [List.mem_singleton] at h1; rw [h1]; exact hy
theorem rent_eta (x : T_Paper.ty) : (x.1,x.2.1,x.2.2.1,x.2.2.2.1,x.2.2.2.2.1,()) = x := rfl
theorem spec_l21DrawOne_ok {s : T_l00Src.ty} {c : Int} (hs : SrcOk s c) (hc : c ≤ 10000000000000000) (id : List UInt8) (hid : id.length ≤ 100) :
 ∃ (x : T_Paper.ty) (s' : T_l00Src.ty),spec_l21DrawOne s id = some (x,s') ∧ SrcOk s' (c + 8) ∧ x.1.length ≤ 100 ∧ x.2.1.length ≤ 100 := by
 obtain ⟨t,s1,q1,k1,m1⟩ := text_ok hs (by omega) [[118,105,111,108,97],[118,105,111,108,105,110],[118,105,111,108,105,110,50]] (by decide) (by decide)
 obtain ⟨u,s2,q2,k2,_⟩ := pick_ok k1 (by omega) 90 (by omega)
 obtain ⟨v,s3,q3,k3,_⟩ := pick_ok k2 (by omega) 12 (by omega)
 obtain ⟨w,s4,q4,k4,_⟩ := pick_ok k3 (by omega) 50 (by omega)
 have ht : t.length ≤ 100 := by
  simp only [List.mem_cons,List.not_mem_nil,or_false] at m1
  rcases m1 with rfl | rfl | rfl <;> decide
 rw [spec_l21DrawOne_eq]
 simp only [q1,q2,q3,q4,src_eta,Option.bind_some]
 exact ⟨_,s4,rfl,k4.up (by omega),hid,ht⟩
def drawRents : List (List UInt8) := [[114,49],[114,50],[114,51],[114,52],[114,53]]
theorem drawRents_loop : ∀ (k i : Nat) (s : T_l00Src.ty) (c : Int) (r : List T_Paper.ty),i + k = 5 → SrcOk s c → c ≤ 1000000000000000 + 2000 * (i : Int) → r.length ≤ i → rentsSmall r →
 ∃ (r' : List T_Paper.ty) (s' : T_l00Src.ty),spec_l21Draw_p0 i s.1 s.2.1 s.2.2.1 drawRents r = some (r',s') ∧ r'.length ≤ 5 ∧ rentsSmall r'
 | 0,i,s,c,r,hk,hs,hc,hl,hr => by
   obtain rfl : i = 5 := by omega
   refine ⟨r,s,?_,hl,hr⟩
   rw [spec_l21Draw_p0_eq]
   have : ¬ ((5 : Nat) : Int) < (drawRents.length : Int) := by decide
   simp only [this,decide_false,Bool.false_eq_true,if_false,List.take_length]
 | k + 1,i,s,c,r,hk,hs,hc,hl,hr => by
   have hl5 : drawRents.length = 5 := rfl
   have hi : i < drawRents.length := by omega
   have hlt : (i : Int) < (drawRents.length : Int) := by omega
   have hw : IntKind.i64.wrap ((i : Int) + 1) = ((i + 1 : Nat) : Int) := by rw [w64 (by omega) (by omega)]; omega
   obtain ⟨u,s1,q1,k1,b1,b2⟩ := pick_ok hs (by omega) 3 (by omega)
   have hlim : r.length + 1 < lim := by rw [lim_eq]; omega
   have hn : ∀ x : List UInt8,x ∈ drawRents → x.length ≤ 100 := by decide
   rw [spec_l21Draw_p0_eq]
   simp only [hlt,decide_true,if_true,src_eta,q1,Option.bind_some,Int.natCast_nonneg,Bool.and_self,Int.toNat_natCast,List.getElem?_eq_getElem hi,hlim,hw,List.take_length]
   by_cases hu : u > 0
   ·obtain ⟨x,s2,q2,k2,z1,z2⟩ := spec_l21DrawOne_ok k1 (by omega) drawRents[i] (hn _ (List.getElem_mem hi))
    simp only [hu,decide_true,if_true,q2,Option.bind_some,rent_eta]
    exact drawRents_loop k (i + 1) s2 _ _ (by omega) k2 (by omega) (by simp; omega) (hr.add ⟨z1,z2⟩)
   ·simp only [hu,decide_false,Bool.false_eq_true,if_false]
    exact drawRents_loop k (i + 1) s1 _ r (by omega) k1 (by omega) (by omega) hr
theorem spec_l21Draw_ok {s : T_l00Src.ty} {c : Int} (hs : SrcOk s c) (hc : c ≤ 1000000000000000) :
 ∃ (r : List T_Paper.ty) (s' : T_l00Src.ty),spec_l21Draw s = some (r,s') ∧ r.length ≤ 5 ∧ rentsSmall r := by
 rw [spec_l21Draw_eq]
 exact drawRents_loop 5 0 s c [] (by omega) hs (by omega) (by simp) (fun y hy => by cases hy)
def bookSmall (g : List T_Entry.ty) : Prop := ∀ y : T_Entry.ty,y ∈ g → y.2.1.length ≤ 100 ∧ y.2.2.1.length ≤ 100
theorem bookSmall.add {g : List T_Entry.ty} (h : bookSmall g) {y : T_Entry.ty} (hy : y.2.1.length ≤ 100 ∧ y.2.2.1.length ≤ 100) : bookSmall (g ++ [y]) := fun z hz => by
 rcases List.mem_append.1 hz with h1 | h1
 ·exact h z h1
 ·rw [List.mem_singleton] at h1; rw [h1]; exact hy
theorem spec_l25DrawName_ok {s : T_l00Src.ty} {c : Int} (hs : SrcOk s c) (hc : c ≤ 100000000000000000) :
 ∃ (t : List UInt8) (s' : T_l00Src.ty),spec_l25DrawName s = some (t,s') ∧ SrcOk s' (c + 2) ∧ t.length ≤ 100 := by
 obtain ⟨t,s1,q1,k1,m1⟩ := text_ok hs (by omega) [[98,97,110,107],[99,97,115,104],[114,101,110,116],[115,97,108,101,115],[119,111,111,100]] (by decide) (by decide)
 rw [spec_l25DrawName_eq]
 simp only [q1,src_eta,Option.bind_some]
 refine ⟨t,s1,rfl,k1,?_⟩
 simp only [List.mem_cons,List.not_mem_nil,or_false] at m1
 rcases m1 with rfl | rfl | rfl | rfl | rfl <;> decide
theorem spec_l25DrawOne_ok {s : T_l00Src.ty} {c : Int} (hs : SrcOk s c) (hc : c ≤ 10000000000000000) (d : Int) :
 ∃ (x : T_Entry.ty) (s' : T_l00Src.ty),spec_l25DrawOne s d = some (x,s') ∧ SrcOk s' (c + 6) ∧ x.2.1.length ≤ 100 ∧ x.2.2.1.length ≤ 100 := by
 obtain ⟨t,s1,q1,k1,m1⟩ := spec_l25DrawName_ok hs (by omega)
 obtain ⟨t2,s2,q2,k2,m2⟩ := spec_l25DrawName_ok k1 (by omega)
 obtain ⟨u,s3,q3,k3,_⟩ := pick_ok k2 (by omega) 20 (by omega)
 rw [spec_l25DrawOne_eq]
 simp only [q1,q2,q3,src_eta,Option.bind_some]
 by_cases h : (t == t2) = true
 ·simp only [h,if_true]
  exact ⟨_,s3,rfl,k3.up (by omega),m1,show List.length (α := UInt8) [116,111,111,108,115] ≤ 100 by decide⟩
 ·simp only [h,if_false,Bool.false_eq_true]
  exact ⟨_,s3,rfl,k3.up (by omega),m1,m2⟩
theorem drawBook_loop : ∀ (k : Nat) (d : Int) (s : T_l00Src.ty) (c : Int) (r : List T_Entry.ty),SrcOk s c → c + 100 * (k : Int) ≤ 10000000000000000 → r.length + k ≤ 100 → bookSmall r →
 ∃ (r' : List T_Entry.ty) (s' : T_l00Src.ty),spec_l25Draw_p0 d k s.1 s.2.1 s.2.2.1 r = some (r',s') ∧ r'.length ≤ 100 ∧ bookSmall r'
 | 0,d,s,c,r,hs,hc,hl,hr => by
   refine ⟨r,s,?_,by omega,hr⟩
   rw [spec_l25Draw_p0_eq]
   simp only [show ¬ ((0 : Nat) : Int) > 0 by decide,decide_false,Bool.false_eq_true,if_false,List.take_length]
 | k + 1,d,s,c,r,hs,hc,hl,hr => by
   have hk : ((k + 1 : Nat) : Int) > 0 := by omega
   have hlim : r.length + 1 < lim := by rw [lim_eq]; omega
   have hw : IntKind.i64.wrap (((k + 1 : Nat) : Int) - 1) = (k : Int) := by rw [w64 (by omega) (by omega)]; omega
   have tail : ∀ (e : Int) (p q : List UInt8) (m : Int) (s : T_l00Src.ty),SrcOk s (c + 12) → p.length ≤ 100 → q.length ≤ 100 →
    ∃ (r' : List T_Entry.ty) (s' : T_l00Src.ty),spec_l25Draw_p2 d ((k + 1 : Nat) : Int) s.1 s.2.1 s.2.2.1 r e p q m = some (r',s') ∧ r'.length ≤ 100 ∧ bookSmall r' := fun e p q m s hs hp hq => by
    obtain ⟨u,s1,q1,k1,_⟩ := pick_ok hs (by omega) 9 (by omega)
    rw [spec_l25Draw_p2_eq]
    simp only [hlim,decide_true,if_true,src_eta,q1,Option.bind_some,hw,List.take_length]
    exact drawBook_loop k _ s1 _ _ k1 (by omega) (by simp; omega) (hr.add ⟨hp,hq⟩)
   obtain ⟨x,s1,q1,k1,z1,z2⟩ := spec_l25DrawOne_ok hs (by omega) d
   rw [spec_l25Draw_p0_eq]
   simp only [hk,decide_true,if_true,src_eta,q1,Option.bind_some]
   by_cases h0 : (r.length : Int) > 0
   ·obtain ⟨b,s2,q2,k2⟩ := one_ok k1 (by omega) 5 (by omega)
    simp only [h0,decide_true,if_true,q2,Option.bind_some]
    cases b
    ·simp only [Bool.false_eq_true,if_false]
     exact tail _ _ _ _ s2 (k2.up (by omega)) z1 z2
    ·obtain ⟨u,s3,q3,k3,b1,b2⟩ := pick_ok k2 (by omega) (r.length : Int) (by omega)
     have hu : u.toNat < r.length := by omega
     have hu2 : u < (r.length : Int) := by omega
     obtain ⟨y1,y2⟩ := hr _ (List.getElem_mem hu)
     simp only [if_true]
     rw [spec_l25Draw_p1_eq]
     simp only [src_eta,q3,Option.bind_some,b1,hu2,decide_true,Bool.and_self,if_true,List.getElem?_eq_getElem hu]
     exact tail _ _ _ _ s3 (k3.up (by omega)) y2 y1
   ·simp only [h0,decide_false,Bool.false_eq_true,if_false]
    exact tail _ _ _ _ s1 (k1.up (by omega)) z1 z2
theorem spec_l25Draw_ok {s : T_l00Src.ty} {c : Int} (hs : SrcOk s c) (hc : c ≤ 1000000000000000) :
 ∃ (r : List T_Entry.ty) (s' : T_l00Src.ty),spec_l25Draw s = some (r,s') ∧ r.length ≤ 100 ∧ bookSmall r := by
 obtain ⟨u,s1,q1,k1,_⟩ := pick_ok hs (by omega) 30 (by omega)
 obtain ⟨v,s2,q2,k2,b1,b2⟩ := pick_ok k1 (by omega) 9 (by omega)
 obtain ⟨n,rfl⟩ : ∃ n : Nat,v = (n : Int) := ⟨v.toNat,by omega⟩
 rw [spec_l25Draw_eq]
 simp only [q1,q2,src_eta,Option.bind_some]
 exact drawBook_loop n u s2 _ [] k2 (by omega) (by simp; omega) (fun y hy => by cases hy)
theorem shopSmall_mk {a : List T_Arc.ty} {b : List T_Neck.ty} {s : Int} {d : List T_Step.ty} {e : List Int} {f : Int} {g : List T_Paper.ty} {h : List T_Entry.ty}
 (h1 : a.length ≤ 100) (h2 : b.length ≤ 100) (h3 : StSmall d) (h4 : e.length ≤ 100) (h5 : g.length ≤ 100) (h6 : rentsSmall g) (h7 : h.length ≤ 100) (h8 : bookSmall h) : shopSmall (a,b,s,d,e,f,g,h,()) :=
 ⟨Nat.le_trans h1 (by decide),Nat.le_trans h2 (by decide),⟨h3.s1,h3.s2⟩,Nat.le_trans h4 (by decide),⟨Nat.le_trans h5 (by decide),fun y hy => ⟨Nat.le_trans (h6 y hy).1 (by decide),Nat.le_trans (h6 y hy).2 (by decide)⟩⟩,Nat.le_trans h7 (by decide),fun y hy => ⟨Nat.le_trans (h8 y hy).1 (by decide),Nat.le_trans (h8 y hy).2 (by decide)⟩⟩
def cordsBig (b : List T_Neck.ty) : Prop := ∀ y : T_Neck.ty,y ∈ b → (1000 : Int) ≤ y.1 ∧ (300 : Int) ≤ y.2.1 ∧ (300 : Int) ≤ y.2.2.1
theorem cordsBig.add {b : List T_Neck.ty} (h : cordsBig b) {y : T_Neck.ty} (hy : (1000 : Int) ≤ y.1 ∧ (300 : Int) ≤ y.2.1 ∧ (300 : Int) ≤ y.2.2.1) : cordsBig (b ++ [y]) := fun z hz => by
 rcases List.mem_append.1 hz with h1 | h1
 ·exact h z h1
 ·rw [List.mem_singleton] at h1; rw [h1]; exact hy
theorem cordsBig.set {b : List T_Neck.ty} (h : cordsBig b) {y : T_Neck.ty} (hy : (1000 : Int) ≤ y.1 ∧ (300 : Int) ≤ y.2.1 ∧ (300 : Int) ≤ y.2.2.1) (i : Nat) : cordsBig (b.set i y) := fun z hz => by
 rcases List.mem_or_eq_of_mem_set hz with h1 | h1
 ·exact h z h1
 ·rw [h1]; exact hy
def shopRents : List (List UInt8) := [[114,49],[114,50],[114,51]]
theorem spec_l31Draw_p1_ok (w2 w5 sh : Int) {xs : List T_Step.ty} (V : StSmall xs) (cl : Int) {A : List T_Arc.ty} (hA : A.length ≤ 100) {B : List T_Neck.ty} (hB : B.length = 4) (hBB : cordsBig B) {E : List Int} (hE : E.length ≤ 100) :
 ∀ (k i : Nat) (s : T_l00Src.ty) (c : Int) (g : List T_Paper.ty),i + k = 3 → SrcOk s c → c ≤ 100000000000000 + 100 * (i : Int) → g.length ≤ i → rentsSmall g →
 ∃ (x : T_Shop.ty) (s' : T_l00Src.ty),spec_l31Draw_p1 i s.1 s.2.1 s.2.2.1 w2 w5 sh xs cl shopRents A B E g = some (x,s') ∧ shopSmall x ∧ cordsBig x.2.1
 | 0,i,s,c,g,hk,hs,hc,hl,hg => by
   obtain rfl : i = 3 := by omega
   have h3 : ¬ ((3 : Nat) : Int) < (shopRents.length : Int) := by decide
   obtain ⟨u,s1,q1,k1,_⟩ := pick_ok hs (by omega) 9 (by omega)
   obtain ⟨v,s2,q2,k2,_⟩ := pick_ok k1 (by omega) 300 (by omega)
   obtain ⟨w,s3,q3,k3,_⟩ := pick_ok k2 (by omega) 14 (by omega)
   have hb : bookSmall [(1,[99,97,115,104],[98,97,110,107],90000,()),(IntKind.i64.wrap (5 + u),[119,111,111,100],[99,97,115,104],IntKind.i64.wrap (1000 + (IntKind.i64.wrap (100 * v))),())] := fun y hy => by
    simp only [List.mem_cons,List.not_mem_nil,or_false] at hy
    rcases hy with rfl | rfl
    ·exact ⟨show List.length (α := UInt8) [99,97,115,104] ≤ 100 by decide,show List.length (α := UInt8) [98,97,110,107] ≤ 100 by decide⟩
    ·exact ⟨show List.length (α := UInt8) [119,111,111,100] ≤ 100 by decide,show List.length (α := UInt8) [99,97,115,104] ≤ 100 by decide⟩
   have hg3 : g.length ≤ 100 := by omega
   have hB3 : B.length ≤ 100 := by omega
   rw [spec_l31Draw_p1_eq]
   simp only [h3,decide_false,Bool.false_eq_true,if_false,src_eta,q1,q2,q3,Option.bind_some,List.take_length]
   by_cases c0 : (w == 0) = true
   ·obtain ⟨A',s4,q4,_,hA'⟩ := spec_l05Draw_ok k3 (by omega)
    simp only [c0,if_true,q4,Option.bind_some,List.take_length,src_eta]
    exact ⟨_,s4,rfl,shopSmall_mk hA' hB3 V hE hg3 hg (by simp) hb,hBB⟩
   by_cases c1 : (w == 1) = true
   ·obtain ⟨z,s4,q4,k4,b1,b2⟩ := pick_ok k3 (by omega) 4 (by omega)
    obtain ⟨z2,s5,q5,_⟩ := pick_ok k4 (by omega) 40 (by omega)
    have hz : z.toNat < B.length := by omega
    have hz2 : z < (B.length : Int) := by omega
    have hy := hBB _ (List.getElem_mem hz)
    simp only [c0,c1,if_true,if_false,Bool.false_eq_true,q4,q5,Option.bind_some,src_eta,b1,hz2,decide_true,Bool.and_self,List.getElem?_eq_getElem hz]
    exact ⟨_,s5,rfl,shopSmall_mk hA (by simp; omega) V hE hg3 hg (by simp) hb,by rw [List.take_of_length_le (by simp)]; exact hBB.set (y := (B[z.toNat].1,B[z.toNat].2.1,B[z.toNat].2.2.1,IntKind.i64.wrap (60000 + (IntKind.i64.wrap (1000 * z2))),())) ⟨hy.1,hy.2.1,hy.2.2⟩ z.toNat⟩
   by_cases c2 : (w == 2) = true
   ·by_cases hE0 : (E.length : Int) > 0
    ·obtain ⟨z,s4,q4,_⟩ := pick_ok k3 (by omega) 10 (by omega)
     have hw : IntKind.i64.wrap ((E.length : Int) - 1) = ((E.length - 1 : Nat) : Int) := by rw [w64 (by omega) (by omega)]; omega
     have hz : E.length - 1 < E.length := by omega
     have hz2 : ((E.length - 1 : Nat) : Int) < (E.length : Int) := by omega
     simp only [c0,c1,c2,if_true,if_false,Bool.false_eq_true,hE0,q4,Option.bind_some,src_eta,hw,hz2,Int.natCast_nonneg,Int.toNat_natCast,decide_true,Bool.and_self,List.getElem?_eq_getElem hz]
     exact ⟨_,s4,rfl,shopSmall_mk hA hB3 V (by simp; omega) hg3 hg (by simp) hb,hBB⟩
    ·simp only [c0,c1,c2,if_true,if_false,Bool.false_eq_true,hE0,decide_false]
     exact ⟨_,s3,rfl,shopSmall_mk hA hB3 V hE hg3 hg (by simp) hb,hBB⟩
   by_cases c3 : (w == 3) = true
   ·obtain ⟨g',s4,q4,g1,g2⟩ := spec_l21Draw_ok k3 (by omega)
    simp only [c0,c1,c2,c3,if_true,if_false,Bool.false_eq_true,q4,Option.bind_some,List.take_length,src_eta]
    exact ⟨_,s4,rfl,shopSmall_mk hA hB3 V hE (by omega) g2 (by simp) hb,hBB⟩
   by_cases c4 : (w == 4) = true
   ·obtain ⟨g',s4,q4,g1,g2⟩ := spec_l25Draw_ok k3 (by omega)
    simp only [c0,c1,c2,c3,c4,if_true,if_false,Bool.false_eq_true,q4,Option.bind_some,List.take_length,src_eta]
    exact ⟨_,s4,rfl,shopSmall_mk hA hB3 V hE hg3 hg g1 g2,hBB⟩
   by_cases c5 : (w == 5) = true
   ·simp only [c0,c1,c2,c3,c4,c5,if_true,if_false,Bool.false_eq_true]
    exact ⟨_,s3,rfl,shopSmall_mk hA hB3 V hE hg3 hg (by simp) hb,hBB⟩
   simp only [c0,c1,c2,c3,c4,c5,if_false,Bool.false_eq_true]
   exact ⟨_,s3,rfl,shopSmall_mk hA hB3 V hE hg3 hg (by simp) hb,hBB⟩
 | k + 1,i,s,c,g,hk,hs,hc,hl,hg => by
   have hl3 : shopRents.length = 3 := rfl
   have hi : i < shopRents.length := by omega
   have hlt : (i : Int) < (shopRents.length : Int) := by omega
   have hw : IntKind.i64.wrap ((i : Int) + 1) = ((i + 1 : Nat) : Int) := by rw [w64 (by omega) (by omega)]; omega
   obtain ⟨u,s1,q1,k1,_⟩ := pick_ok hs (by omega) 20 (by omega)
   obtain ⟨v,s2,q2,k2,_⟩ := pick_ok k1 (by omega) 2 (by omega)
   have hlim : g.length + 1 < lim := by rw [lim_eq]; omega
   have hn : ∀ x : List UInt8,x ∈ shopRents → x.length ≤ 100 := by decide
   rw [spec_l31Draw_p1_eq]
   simp only [hlt,decide_true,if_true,src_eta,q1,q2,Option.bind_some,Int.natCast_nonneg,Bool.and_self,Int.toNat_natCast,List.getElem?_eq_getElem hi,hlim,hw,List.take_length]
   exact spec_l31Draw_p1_ok w2 w5 sh V cl hA hB hBB hE k (i + 1) s2 _ _ (by omega) k2 (by omega) (by simp; omega) (hg.add ⟨hn _ (List.getElem_mem hi),by simp⟩)
def cordLens : List Int := [1960,2937,4400,6593]
def cordTunes : List Int := [2700,1300,650,380]
theorem spec_l31Draw_p0_ok (w2 w5 sh : Int) {cl : Int} (hc1 : 6 ≤ cl ∧ cl ≤ 100) {A : List T_Arc.ty} (hA : A.length ≤ 100) :
 ∀ (k i : Nat) (s : T_l00Src.ty) (c : Int) (B : List T_Neck.ty),i + k = 4 → SrcOk s c → c ≤ 10000000000000 + 100 * (i : Int) → B.length = i → cordsBig B →
 ∃ (x : T_Shop.ty) (s' : T_l00Src.ty),spec_l31Draw_p0 i s.1 s.2.1 s.2.2.1 w2 w5 sh cl cordLens cordTunes A B [] = some (x,s') ∧ shopSmall x ∧ cordsBig x.2.1
 | 0,i,s,c,B,hk,hs,hc,hB,hBB => by
   obtain rfl : i = 4 := by omega
   have h3 : ¬ ((4 : Nat) : Int) < (cordLens.length : Int) := by decide
   obtain ⟨xs,s1,q1,k1,V,hx,_,hcl⟩ := spec_l17Draw_ok2 hs (by omega)
   have q2 := spec_l17Plan_okN V.fit (cl := cl) (by omega) (by omega) fun i hi => Int.le_trans (hcl i hi) hc1.1
   have hE : (bld (planF xs cl) xs.length).length ≤ 100 := by rw [bld_len]; omega
   rw [spec_l31Draw_p0_eq]
   simp only [h3,decide_false,Bool.false_eq_true,if_false,src_eta,q1,q2,Option.bind_some]
   exact spec_l31Draw_p1_ok w2 w5 sh V cl hA hB hBB hE 3 0 s1 _ [] (by omega) k1 (by omega) (by simp) (fun y hy => by cases hy)
 | k + 1,i,s,c,B,hk,hs,hc,hB,hBB => by
   have hl4 : cordLens.length = 4 := rfl
   have hl5 : cordTunes.length = 4 := rfl
   have hi : i < cordLens.length := by omega
   have hi2 : i < cordTunes.length := by omega
   have hlt : (i : Int) < (cordLens.length : Int) := by omega
   have hlt2 : (i : Int) < (cordTunes.length : Int) := by omega
   have hw : IntKind.i64.wrap ((i : Int) + 1) = ((i + 1 : Nat) : Int) := by rw [w64 (by omega) (by omega)]; omega
   obtain ⟨u,s1,q1,k1,b1,b2⟩ := pick_ok hs (by omega) 12 (by omega)
   obtain ⟨v,s2,q2,k2,b3,b4⟩ := pick_ok k1 (by omega) 9 (by omega)
   have g1 : ∀ x : Int,x ∈ cordLens → 1000 ≤ x := by decide
   have g2 : ∀ x : Int,x ∈ cordTunes → 380 ≤ x ∧ x ≤ 2700 := by decide
   have g3 := g1 _ (List.getElem_mem hi)
   have g4 := g2 _ (List.getElem_mem hi2)
   have e1 : IntKind.i64.wrap (320 + u) = 320 + u := w64 (by omega) (by omega)
   have e2 : IntKind.i64.wrap (10 * v) = 10 * v := w64 (by omega) (by omega)
   have e3 : IntKind.i64.wrap (cordTunes[i] - 10 * v) = cordTunes[i] - 10 * v := w64 (by omega) (by omega)
   have hlim : B.length + 1 < lim := by rw [lim_eq]; omega
   rw [spec_l31Draw_p0_eq]
   simp only [hlt,hlt2,decide_true,if_true,src_eta,q1,q2,Option.bind_some,Int.natCast_nonneg,Bool.and_self,Int.toNat_natCast,List.getElem?_eq_getElem hi,List.getElem?_eq_getElem hi2,hlim,hw,List.take_length,e1,e2,e3]
   exact spec_l31Draw_p0_ok w2 w5 sh hc1 hA k (i + 1) s2 _ _ (by omega) k2 (by omega) (by simp; omega) (hBB.add ⟨g3,show (300 : Int) ≤ 320 + u by omega,show (300 : Int) ≤ cordTunes[i] - 10 * v by omega⟩)
theorem shop_eta (x : T_Shop.ty) : (x.1,x.2.1,x.2.2.1,x.2.2.2.1,x.2.2.2.2.1,x.2.2.2.2.2.1,x.2.2.2.2.2.2.1,x.2.2.2.2.2.2.2.1,()) = x := rfl
theorem spec_R8Shop_ok2 (code : List Int) (h1 : ∀ x,x ∈ code → 0 ≤ x ∧ x ≤ 255) (h2 : code.length ≤ 1048576) : ∃ x : T_Shop.ty,spec_R8Shop code = some x ∧ shopSmall x ∧ cordsBig x.2.1 := by
 obtain ⟨s,e,k⟩ := from_ok code h1 h2
 obtain ⟨u,s1,q1,k1,b1,b2⟩ := pick_ok k (by omega) 10 (by omega)
 obtain ⟨v,s2,q2,k2,_⟩ := pick_ok k1 (by omega) 300 (by omega)
 obtain ⟨w,s3,q3,k3,_⟩ := pick_ok k2 (by omega) 300 (by omega)
 obtain ⟨A,q4,hA⟩ := spec_l05Oval_ok v (IntKind.i64.wrap (1 + w))
 have hw : IntKind.i64.wrap (6 + u) = 6 + u := w64 (by omega) (by omega)
 obtain ⟨x,s4,q5,hx⟩ := spec_l31Draw_p0_ok 0 0 600 (cl := 6 + u) (by omega) (A := A) (by omega) 4 0 s3 _ [] (by omega) k3 (by omega) rfl (fun y hy => by cases hy)
 refine ⟨x,?_,hx⟩
 have q6 : spec_l31Draw s = some (x,s4) := by
  rw [spec_l31Draw_eq]
  simp only [q1,q2,q3,src_eta,Option.bind_some,q4,hw]
  exact q5
 rw [spec_R8Shop_eq]
 simp only [e,q6,Option.bind_some,shop_eta]
theorem impl_PassesAudit_ok (x : T_Shop.ty) (hs : shopSmall x) : impl_PassesAudit x = some (shopOk x && ((auditP x).length : Int) == 0) := by
 rw [impl_PassesAudit_eq,impl_AuditShop_ok x hs]
 by_cases hk : shopOk x = true
 ·simp only [hk,if_true,Option.bind_some,beq_self_eq_true,Bool.true_and]
 ·simp only [Bool.eq_false_iff.2 hk,Bool.false_eq_true,if_false,Option.bind_some,Bool.false_and]
  trivial
theorem impl_ProblemName_some (k : Int) (h : 1 ≤ k ∧ k ≤ 5) : ∃ t : List UInt8,impl_ProblemName k = some t ∧ (t == []) = false ∧ t.length ≤ 10 := by
 have : k = 1 ∨ k = 2 ∨ k = 3 ∨ k = 4 ∨ k = 5 := by omega
 rw [impl_ProblemName_eq,impl_pick_eq,impl_at_eq]
 rcases this with rfl | rfl | rfl | rfl | rfl <;> exact ⟨_,rfl,by decide,by decide⟩
theorem impl_ProblemText_some (p : T_Problem.ty) (h : (1 : Int) ≤ p.1 ∧ (p.1 : Int) ≤ 5) (hl : p.2.1.length ≤ 2000000 ∧ p.2.2.1.length ≤ 2000000) : ∃ t : List UInt8,impl_ProblemText p = some t ∧ (t == []) = false := by
 obtain ⟨n,e,e1,e2⟩ := impl_ProblemName_some p.1 h
 obtain ⟨k,who,what,⟨⟩⟩ := p
 obtain ⟨l1,l2⟩ := hl
 simp only at e l1 l2
 have c1 : n.length + [(32 : UInt8)].length ≤ strMax := by rw [strMax_eq]; simp; omega
 have c2 : (n ++ [(32 : UInt8)]).length + who.length ≤ strMax := by rw [strMax_eq]; simp; omega
 have c3 : ((n ++ [(32 : UInt8)]) ++ who).length + [(32 : UInt8)].length ≤ strMax := by rw [strMax_eq]; simp; omega
 have c4 : (((n ++ [(32 : UInt8)]) ++ who) ++ [(32 : UInt8)]).length + what.length ≤ strMax := by rw [strMax_eq]; simp; omega
 rw [impl_ProblemText_eq]
 simp only [e,Option.bind_some,e1,Bool.false_eq_true,if_false]
 refine ⟨_,(if_pos ?_).trans ((if_pos ?_).trans ((if_pos ?_).trans (if_pos ?_))),?_⟩
 ·exact decide_eq_true c1
 ·exact decide_eq_true c2
 ·exact decide_eq_true c3
 ·exact decide_eq_true c4
 ·simp
def kind2 (p : T_Problem.ty) : Bool := decide ((p.1 : Int) = 2)
theorem count_all (xs : List T_Problem.ty) (hs : xs.length ≤ 1048576) (hk : ∀ p : T_Problem.ty,p ∈ xs → (1 : Int) ≤ p.1 ∧ (p.1 : Int) ≤ 5) :
 ∀ (k i : Nat) (r : List Int),i + k = xs.length → r.length = 6 → r[0]? = some (i : Int) → r[2]? = some (((xs.take i).countP kind2 : Nat) : Int) →
 ∃ r' : List Int,impl_CountProblems_p0 6 xs xs.length i r = some r' ∧ r'.length = 6 ∧ r'[0]? = some (xs.length : Int) ∧ r'[2]? = some ((xs.countP kind2 : Nat) : Int)
 | 0,i,r,hi,hr,h0,h2 => by
   obtain rfl : i = xs.length := by omega
   refine ⟨r,?_,hr,h0,by rw [List.take_length] at h2; exact h2⟩
   rw [impl_CountProblems_p0_eq]
   simp only [Int.lt_irrefl,decide_false,Bool.false_eq_true,if_false]
   rw [List.take_of_length_le (by omega)]
 | k + 1,i,r,hi,hr,h0,h2 => by
   have hi2 : i < xs.length := by omega
   have hlt : (i : Int) < (xs.length : Int) := by omega
   have hw : IntKind.i64.wrap ((i : Int) + 1) = ((i + 1 : Nat) : Int) := by rw [w64 (by omega) (by omega)]; omega
   have hq := hk _ (List.getElem_mem hi2)
   have hq2 : inR (xs[i].1 : Int) 1 5 = true := inR_iff'.2 hq
   have hcl : (xs.take i).countP kind2 ≤ i := Nat.le_trans List.countP_le_length (by rw [List.length_take]; omega)
   have htk : (xs.take (i + 1)).countP kind2 = (xs.take i).countP kind2 + if decide ((xs[i].1 : Int) = 2) then 1 else 0 := by
    have hkd : kind2 xs[i] = decide ((xs[i].1 : Int) = 2) := rfl
    rw [List.take_add_one,List.getElem?_eq_getElem hi2,List.countP_append]
    rw [← hkd]
    simp [List.countP_cons]
   rw [impl_CountProblems_p0_eq]
   simp only [hlt,decide_true,if_true,Int.natCast_nonneg,Int.toNat_natCast,List.getElem?_eq_getElem hi2,Option.bind_some,hw,impl_within_ok,hq2,h0,show (0 : Int) < ((6 : Nat) : Int) by decide]
   obtain ⟨q,hq0⟩ : ∃ q : Int,(xs[i].1 : Int) = q := ⟨_,rfl⟩
   have hq : (1 : Int) ≤ q ∧ q ≤ 5 := by rw [← hq0]; exact hq
   simp only [hq0] at htk ⊢
   obtain ⟨j,rfl⟩ : ∃ j : Nat,q = j := ⟨q.toNat,by omega⟩
   have hj6 : (j : Int) < ((6 : Nat) : Int) := by omega
   have hj : j < r.length := by omega
   have hj0 : 0 ≠ j := by omega
   simp only [hj6,decide_true,Bool.and_self,if_true,Int.natCast_nonneg,Int.toNat_natCast]
   rw [List.getElem?_set_ne hj0,List.getElem?_eq_getElem hj]
   simp only [Option.bind_some]
   refine count_all xs hs hk k (i + 1) _ (by omega) (by simp [hr]) ?_ ?_
   ·rw [List.getElem?_set_ne (Ne.symm hj0),List.getElem?_set_self (show 0 < r.length by omega)]
   ·rw [htk]
    by_cases h : j = 2
    ·subst h
     have e : r[2] = ((xs.take i).countP kind2 : Nat) := by rw [List.getElem?_eq_getElem hj] at h2; exact Option.some.inj h2
     rw [List.getElem?_set_self (by rw [List.length_set]; omega),e,w64 (by omega) (by omega)]
     simp
    ·rw [List.getElem?_set_ne h,List.getElem?_set_ne (by omega),h2]
     have : ¬ (j : Int) = 2 := by omega
     simp only [this,decide_false,Bool.false_eq_true,if_false,Nat.add_zero]
theorem impl_CountProblems_some (xs : List T_Problem.ty) (hs : xs.length ≤ 1048576) (hk : ∀ p : T_Problem.ty,p ∈ xs → (1 : Int) ≤ p.1 ∧ (p.1 : Int) ≤ 5) :
 ∃ r : List Int,impl_CountProblems xs = some r ∧ r.length = 6 ∧ r[0]? = some (xs.length : Int) ∧ r[2]? = some ((xs.countP kind2 : Nat) : Int) := by
 rw [impl_CountProblems_eq]
 exact count_all xs hs hk xs.length 0 [0,0,0,0,0,0] (by omega) rfl rfl rfl
theorem itoa_short (n : Int) (h : -1000000000000 ≤ n ∧ n ≤ 1000000000000) : (Lib.itoa n).length ≤ 2000000 := by
 have := (itoa_len n h).2; omega
theorem tensP_less {a b c : Int} (ha : 1 ≤ a ∧ a ≤ 10000) (hb : 1 ≤ b ∧ b ≤ 500) (hc : 1 ≤ c ∧ c ≤ 10000) : 0 ≤ tensP a b c ∧ tensP a b c ≤ 10000000 := by
 refine ⟨(tensP_bd ha hb hc).1,?_⟩
 have h := tens_bd ha hb hc
 exact rdivP_mono (a' := 1000000000000000000) (b := 100000000000) (by omega) (by omega) (by omega)
theorem bodyP_mem {a : List T_Arc.ty} {b : List T_Neck.ty} {s : Int} (h1 : a.length ≤ 1048576) (h2 : b.length ≤ 1048576) (ho : cordsOk b = true) {p : T_Problem.ty} (hp : p ∈ bodyP a b s) : ((1 : Int) ≤ p.1 ∧ (p.1 : Int) ≤ 5) ∧ p.2.1.length ≤ 2000000 ∧ p.2.2.1.length ≤ 2000000 := by
 rcases List.mem_append.1 hp with hp | hp
 ·obtain ⟨j,_,hj,hm⟩ := gather_mem _ _ hp
  have hj : j < (cornersP a).length := by omega
  simp only [bodyF1,List.mem_singleton,List.getElem?_eq_getElem hj,Option.getD_some] at hm
  subst hm
  have := cornersP_bd (List.getElem_mem hj)
  exact ⟨⟨show (1 : Int) ≤ 1 by decide,show (1 : Int) ≤ 5 by decide⟩,itoa_short _ (by omega),show List.length (α := UInt8) [99,111,114,110,101,114] ≤ 2000000 by decide⟩
 ·obtain ⟨j,_,hj,hm⟩ := gather_mem _ _ hp
  have hj : j < (breakP b s).length := by omega
  simp only [bodyF2,List.mem_singleton,List.getElem?_eq_getElem hj,Option.getD_some] at hm
  subst hm
  have hb := breakP_bd (List.getElem_mem hj)
  have g3 : ((breakP b s)[j]).toNat < b.length := by omega
  obtain ⟨k1,k2,k3⟩ := cordOk_bd (cordsOk_at ho g3)
  have g5 := tensP_less k1 k2 k3
  refine ⟨⟨show (1 : Int) ≤ 2 by decide,show (2 : Int) ≤ 5 by decide⟩,itoa_short _ (by omega),itoa_short _ ⟨?_,?_⟩⟩
  ·have := g5.1; unfold tensX; omega
  ·have := g5.2; unfold tensX; omega
theorem rentAt_short {g : List T_Paper.ty} (h : ∀ y : T_Paper.ty,y ∈ g → y.1.length ≤ 1048576 ∧ y.2.1.length ≤ 1048576) (i : Nat) : (rentAt g i).1.length ≤ 2000000 := by
 by_cases hi : i < g.length
 ·have := (h _ (List.mem_of_getElem? (rentAt_get hi))).1; omega
 ·rw [rentAt,List.getElem?_eq_none (by omega)]; exact Nat.zero_le _
theorem stAt_short {g : List T_Step.ty} (h : ∀ y : T_Step.ty,y ∈ g → y.1.length ≤ 1048576 ∧ List.length (α := Int) y.2.2.2.1 ≤ 1048576) {i : Nat} (hi : i < g.length) : (stAt g i).1.length ≤ 2000000 := by
 have := (h _ (List.mem_of_getElem? (st_get hi))).1; omega
theorem auditP_mem {x : T_Shop.ty} (hs : shopSmall x) (hk : shopOk x = true) {p : T_Problem.ty} (hp : p ∈ auditP x) : ((1 : Int) ≤ p.1 ∧ (p.1 : Int) ≤ 5) ∧ p.2.1.length ≤ 2000000 ∧ p.2.2.1.length ≤ 2000000 := by
 obtain ⟨_,o2,_,o4,o5,_,_,o8⟩ := shopOk_parts hk
 obtain ⟨h1,h2,h3,_,h5,_⟩ := hs
 have F := stepsFit o4 o5 fun y hy => (h3.2 y hy).2
 have K := bookFit o8
 have ff := F.few
 have fl := F.len
 have kf := K.few
 unfold auditP tradeP at hp
 simp only [List.mem_append] at hp
 rcases hp with (hp | hp) | hp | hp
 ·exact bodyP_mem h1 h2 o2 hp
 ·obtain ⟨j,_,hj,hm⟩ := gather_mem _ _ hp
  have hj : j < List.length (α := T_Step.ty) x.2.2.2.1 := by omega
  have hu := usedP_bd F (sBeg x.2.2.2.2.1 j)
  unfold workF at hm
  split at hm
  ·rw [List.mem_singleton] at hm
   subst hm
   exact ⟨⟨show (1 : Int) ≤ 3 by decide,show (3 : Int) ≤ 5 by decide⟩,stAt_short h3.2 hj,show List.length (α := UInt8) [101,97,114,108,121] ≤ 2000000 by decide⟩
  ·split at hm
   ·rw [List.mem_singleton] at hm
    subst hm
    exact ⟨⟨show (1 : Int) ≤ 3 by decide,show (3 : Int) ≤ 5 by decide⟩,stAt_short h3.2 hj,itoa_short _ (by omega)⟩
   ·cases hm
 ·obtain ⟨j,_,hj,hm⟩ := gather_mem _ _ hp
  rw [tradeF1,List.mem_singleton] at hm
  subst hm
  exact ⟨⟨show (1 : Int) ≤ 4 by decide,show (4 : Int) ≤ 5 by decide⟩,rentAt_short h5.2 _,rentAt_short h5.2 _⟩
 ·unfold cashP at hp
  split at hp
  ·rename_i j t e
   rw [List.mem_singleton] at hp
   subst hp
   obtain ⟨e1,e2,e3,e4⟩ := fstNeg_some _ _ _ e
   have key : (-10000000 : Int) * ((j + 1 - 0 : Nat) : Int) ≤ t ∧ t ≤ 10000000 * ((j + 1 - 0 : Nat) : Int) := by
    rw [e3,Int.zero_add]
    exact sumG_bd (lo := -10000000) (hi := 10000000) (by omega) (by omega) (chgG_bd K cashN) (j + 1 - 0) 0
   exact ⟨⟨show (1 : Int) ≤ 5 by decide,show (5 : Int) ≤ 5 by decide⟩,itoa_short (j : Int) (by omega),itoa_short t (by omega)⟩
  ·cases hp
theorem gather_count {β : Type} {P : β → Bool} {f : Nat → List β} {c : Nat} (hf : ∀ i,(f i).countP P = c) : ∀ (k i : Nat),(gather f i k).countP P = c * k
 | 0,i => by simp [gather]
 | k + 1,i => by rw [gather,List.countP_append,hf,gather_count hf k (i + 1),Nat.mul_succ,Nat.add_comm]
theorem gather_ones {β : Type} {f : Nat → List β} : ∀ (k i : Nat),(∀ j,i ≤ j → j < i + k → (f j).length = 1) → (gather f i k).length = k
 | 0,i,_ => by simp [gather]
 | k + 1,i,h => by
   rw [gather,List.length_append,h i (Nat.le_refl _) (by omega),gather_ones k (i + 1) fun j h1 h2 => h j (by omega) (by omega)]
   omega
theorem tens_pos {a b c : Int} (ha : 1000 ≤ a ∧ a ≤ 10000) (hb : 300 ≤ b ∧ b ≤ 500) (hc : 300 ≤ c ∧ c ≤ 10000) : 1 ≤ tensP a b c ∧ tensP a b c ≤ 10000000 := by
 have h0 := tensP_less (a := a) (b := b) (c := c) (by omega) (by omega) (by omega)
 refine ⟨?_,by omega⟩
 have m1 : 4 * 1000 * 1000 * 300 * 300 * 300 ≤ 4 * a * a * b * b * c := by
  have e1 : (4 * 1000 : Int) ≤ 4 * a := by omega
  have e2 : (4 * 1000 * 1000 : Int) ≤ 4 * a * a := Int.mul_le_mul e1 ha.1 (by omega) (by omega)
  have e3 : (4 * 1000 * 1000 * 300 : Int) ≤ 4 * a * a * b := Int.mul_le_mul e2 hb.1 (by omega) (Int.le_trans (by omega) e2)
  have e4 : (4 * 1000 * 1000 * 300 * 300 : Int) ≤ 4 * a * a * b * b := Int.mul_le_mul e3 hb.1 (by omega) (Int.le_trans (by omega) e3)
  exact Int.mul_le_mul e4 hc.1 (by omega) (Int.le_trans (by omega) e4)
 have m2 := rdivP_mono (a := 4 * 1000 * 1000 * 300 * 300 * 300) (b := 100000000000) (by omega) m1 (by omega)
 refine Int.le_trans ?_ m2
 decide
theorem break_all {b : List T_Neck.ty} (ho : cordsOk b = true) (hb : cordsBig b) : (breakP b 0).length = b.length := by
 refine gather_ones _ _ fun j _ hj => ?_
 have hj : j < b.length := by omega
 have h1 := hb _ (cordAt_mem hj)
 obtain ⟨k1,k2,k3⟩ := cordOk_bd (cordsOk_at ho hj)
 have h2 := tens_pos ⟨h1.1,k1.2⟩ ⟨h1.2.1,k2.2⟩ ⟨h1.2.2,k3.2⟩
 have h3 : holdsC (cordAt b j) 0 = false := by
  unfold holdsC tensX
  have h4 := (tensP_less k1 k2 k3).2
  rw [w64 (n := 1000 * _) (by omega) (by omega),Int.zero_mul,decide_eq_false_iff_not]
  rw [show IntKind.i64.wrap 0 = 0 by decide]
  omega
 unfold breakF
 rw [h3]
 rfl
theorem body_two {a : List T_Arc.ty} {b : List T_Neck.ty} (ho : cordsOk b = true) (hb : cordsBig b) : (bodyP a b 0).countP kind2 = b.length := by
 rw [bodyP,List.countP_append,gather_count (P := kind2) (c := 0) (fun i => rfl),gather_count (P := kind2) (c := 1) (fun i => rfl),break_all ho hb]
 omega
end Go.Ab.P
