/- Lemmas on functions of the program. Conditions: told in each. -/
import Derived.Test.YtmmlhpfodamdgaaGreatDoorPFnExactTradeProblems2
set_option linter.unusedVariables false
set_option linter.unusedSimpArgs false
namespace Go.Ab.P
open Go.Ab
theorem szLoop {α : Type} {P : α → Prop} (xs : List α) (sz1 : α → Int → Option Int) (p0 : List α → Int → Int → Option Int)
 (heq : ∀ (l i : Int),p0 xs l i = if decide (i < (xs.length : Int)) then (if decide (0 ≤ i) then (xs[i.toNat]?).bind fun x1 => (sz1 x1 l).bind fun x2 => if decide (x2 < 0) then some (-1) else p0 xs x2 (IntKind.i64.wrap (i + 1)) else none) else some l)
 (hs : xs.length ≤ 1048576) (h1 : ∀ x,x ∈ xs → ∀ l : Int,0 ≤ l → l ≤ 1048576 → ∃ n,sz1 x l = some n ∧ n ≤ l ∧ (0 ≤ n → P x)) :
 ∀ (k i : Nat) (l : Int),i + k = xs.length → 0 ≤ l → l ≤ 1048576 → ∃ n,p0 xs l i = some n ∧ n ≤ l ∧ (0 ≤ n → ∀ x,x ∈ xs.drop i → P x)
 | 0,i,l,hk,hl,hl' => by
   refine ⟨l,?_,Int.le_refl _,fun _ x hx => ?_⟩
   ·rw [heq]
    have : ¬ (i : Int) < (xs.length : Int) := by omega
    simp only [this,decide_false,Bool.false_eq_true,if_false]
   ·rw [List.drop_eq_nil_of_le (by omega)] at hx; cases hx
 | k + 1,i,l,hk,hl,hl' => by
   have hi : i < xs.length := by omega
   have hlt : (i : Int) < (xs.length : Int) := by omega
   obtain ⟨n,e1,e2,e3⟩ := h1 xs[i] (List.getElem_mem hi) l hl hl'
   rw [heq]
   simp only [hlt,decide_true,if_true,Int.natCast_nonneg,Int.toNat_natCast,List.getElem?_eq_getElem hi,Option.bind_some,e1]
   by_cases hn : n < 0
   ·simp only [hn,decide_true,if_true]
    exact ⟨-1,rfl,by omega,fun h => by omega⟩
   ·simp only [hn,decide_false,Bool.false_eq_true,if_false]
    have hw : IntKind.i64.wrap ((i : Int) + 1) = ((i + 1 : Nat) : Int) := by rw [w64 (by omega) (by omega)]; omega
    rw [hw]
    obtain ⟨q,f1,f2,f3⟩ := szLoop xs sz1 p0 heq hs h1 k (i + 1) n (by omega) (by omega) (by omega)
    refine ⟨q,f1,by omega,fun hq x hx => ?_⟩
    rw [List.drop_eq_getElem_cons hi] at hx
    rcases List.mem_cons.1 hx with rfl | hx
    ·exact e3 (by omega)
    ·exact f3 hq x hx
theorem szList {α : Type} {P : α → Prop} (xs : List α) (sz1 : α → Int → Option Int) (p0 : List α → Int → Int → Option Int) (szS : List α → Int → Option Int)
 (heq : ∀ (l i : Int),p0 xs l i = if decide (i < (xs.length : Int)) then (if decide (0 ≤ i) then (xs[i.toNat]?).bind fun x1 => (sz1 x1 l).bind fun x2 => if decide (x2 < 0) then some (-1) else p0 xs x2 (IntKind.i64.wrap (i + 1)) else none) else some l)
 (hS : ∀ l : Int,szS xs l = if decide (IntKind.i64.wrap (l - (xs.length : Int)) < 0) then some (-1) else p0 xs (IntKind.i64.wrap (l - (xs.length : Int))) 0)
 (hl : xs.length ≤ 9223372036854775807) (h1 : ∀ x,x ∈ xs → ∀ l : Int,0 ≤ l → l ≤ 1048576 → ∃ n,sz1 x l = some n ∧ n ≤ l ∧ (0 ≤ n → P x)) (l : Int) (h0 : 0 ≤ l) (h0' : l ≤ 1048576) :
 ∃ n,szS xs l = some n ∧ n ≤ l ∧ (0 ≤ n → xs.length ≤ 1048576 ∧ ∀ x,x ∈ xs → P x) := by
 rw [hS,w64 (n := l - xs.length) (by omega) (by omega)]
 by_cases hn : l - (xs.length : Int) < 0
 ·simp only [hn,decide_true,if_true]
  exact ⟨-1,rfl,by omega,fun h => by omega⟩
 ·simp only [hn,decide_false,Bool.false_eq_true,if_false]
  obtain ⟨q,f1,f2,f3⟩ := szLoop xs sz1 p0 heq (by omega) h1 xs.length 0 (l - xs.length) (by omega) (by omega) (by omega)
  exact ⟨q,f1,by omega,fun hq => ⟨by omega,fun x hx => f3 hq x hx⟩⟩
theorem toLoop {α : Type} (xs : List α) (to1 : α → Option α) (p0 : List α → Nat → Int → List α → Option (List α))
 (heq : ∀ (n : Nat) (i : Int) (r : List α),p0 xs n i r = if decide (i < (xs.length : Int)) then (if decide (0 ≤ i) then (xs[i.toNat]?).bind fun x1 => (to1 x1).bind fun x2 => if decide (0 ≤ i) && decide (i < (n : Int)) then (r[i.toNat]?).bind fun x3 => p0 xs n (IntKind.i64.wrap (i + 1)) (r.set i.toNat x2) else none else none) else some (r.take n))
 (hs : xs.length ≤ 1099511627776) (h1 : ∀ x,x ∈ xs → to1 x = some x) :
 ∀ (k i : Nat) (r : List α),i + k = xs.length → r.length = xs.length → r.take i = xs.take i → p0 xs xs.length i r = some xs
 | 0,i,r,hk,hr,ht => by
   rw [heq]
   have : ¬ (i : Int) < (xs.length : Int) := by omega
   simp only [this,decide_false,Bool.false_eq_true,if_false]
   have hi : i = xs.length := by omega
   rw [hi] at ht
   rw [ht,List.take_length]
 | k + 1,i,r,hk,hr,ht => by
   have hi : i < xs.length := by omega
   have hlt : (i : Int) < (xs.length : Int) := by omega
   have hw : IntKind.i64.wrap ((i : Int) + 1) = ((i + 1 : Nat) : Int) := by rw [w64 (by omega) (by omega)]; omega
   rw [heq]
   simp only [hlt,decide_true,if_true,Int.natCast_nonneg,Int.toNat_natCast,List.getElem?_eq_getElem hi,Option.bind_some,h1 xs[i] (List.getElem_mem hi),Bool.and_self,List.getElem?_eq_getElem (show i < r.length by omega),hw]
   refine toLoop xs to1 p0 heq hs h1 k (i + 1) (r.set i xs[i]) (by omega) (by simp [hr]) ?_
   rw [List.take_add_one,List.take_add_one,List.getElem?_set_self (by omega),List.getElem?_eq_getElem hi,List.take_set_of_le (by omega),ht]
theorem toList_ok {α : Type} (xs : List α) (z : α) (to1 : α → Option α) (p0 : List α → Nat → Int → List α → Option (List α)) (toS : List α → Option (List α))
 (heq : ∀ (n : Nat) (i : Int) (r : List α),p0 xs n i r = if decide (i < (xs.length : Int)) then (if decide (0 ≤ i) then (xs[i.toNat]?).bind fun x1 => (to1 x1).bind fun x2 => if decide (0 ≤ i) && decide (i < (n : Int)) then (r[i.toNat]?).bind fun x3 => p0 xs n (IntKind.i64.wrap (i + 1)) (r.set i.toNat x2) else none else none) else some (r.take n))
 (hS : toS xs = if decide (0 ≤ (xs.length : Int)) && decide ((xs.length : Int) ≤ (xs.length : Int)) && decide ((xs.length : Int).toNat < lim) then p0 xs ((List.replicate ((xs.length : Int).toNat) z).length) 0 (List.replicate ((xs.length : Int).toNat) z) else none)
 (hs : xs.length ≤ 1048576) (h1 : ∀ x,x ∈ xs → to1 x = some x) : toS xs = some xs := by
 rw [hS,lim_eq]
 have h2 : (xs.length : Int).toNat < 1099511627776 := by omega
 have h3 : (xs.length : Int) ≤ (xs.length : Int) := Int.le_refl _
 rw [decide_eq_true h2]
 simp only [h3,Int.natCast_nonneg,decide_true,Bool.and_self,if_true,Int.toNat_natCast,List.length_replicate]
 exact toLoop xs to1 p0 heq (by omega) h1 xs.length 0 _ (by omega) (by simp) (by simp)
theorem eqLoop {α : Type} (xs : List α) (eq1 : α → α → Option Bool) (p0 : List α → List α → Int → Option Bool)
 (heq : ∀ (i : Int),p0 xs xs i = if decide (i < (xs.length : Int)) then (if decide (0 ≤ i) then (xs[i.toNat]?).bind fun x1 => if decide (0 ≤ i) then (xs[i.toNat]?).bind fun x2 => (eq1 x1 x2).bind fun x3 => if (!x3) then some false else p0 xs xs (IntKind.i64.wrap (i + 1)) else none else none) else some true)
 (hs : xs.length ≤ 1048576) (h1 : ∀ x,x ∈ xs → eq1 x x = some true) : ∀ (k i : Nat),i + k = xs.length → p0 xs xs i = some true
 | 0,i,hk => by
   rw [heq]
   have : ¬ (i : Int) < (xs.length : Int) := by omega
   simp only [this,decide_false,Bool.false_eq_true,if_false]
 | k + 1,i,hk => by
   have hi : i < xs.length := by omega
   have hlt : (i : Int) < (xs.length : Int) := by omega
   have hw : IntKind.i64.wrap ((i : Int) + 1) = ((i + 1 : Nat) : Int) := by rw [w64 (by omega) (by omega)]; omega
   rw [heq]
   simp only [hlt,decide_true,if_true,Int.natCast_nonneg,Int.toNat_natCast,List.getElem?_eq_getElem hi,Option.bind_some,h1 xs[i] (List.getElem_mem hi),Bool.not_true,Bool.false_eq_true,if_false,hw]
   exact eqLoop xs eq1 p0 heq hs h1 k (i + 1) (by omega)
theorem eqList_ok {α : Type} (xs : List α) (eq1 : α → α → Option Bool) (p0 : List α → List α → Int → Option Bool) (eqS : List α → List α → Option Bool)
 (heq : ∀ (i : Int),p0 xs xs i = if decide (i < (xs.length : Int)) then (if decide (0 ≤ i) then (xs[i.toNat]?).bind fun x1 => if decide (0 ≤ i) then (xs[i.toNat]?).bind fun x2 => (eq1 x1 x2).bind fun x3 => if (!x3) then some false else p0 xs xs (IntKind.i64.wrap (i + 1)) else none else none) else some true)
 (hS : eqS xs xs = if ((xs.length : Int) != (xs.length : Int)) then some false else p0 xs xs 0)
 (hs : xs.length ≤ 1048576) (h1 : ∀ x,x ∈ xs → eq1 x x = some true) : eqS xs xs = some true := by
 rw [hS]
 simp only [bne_self_eq_false,Bool.false_eq_true,if_false]
 exact eqLoop xs eq1 p0 heq hs h1 xs.length 0 (by omega)
def sortedChk {α : Type} (ok : α → Bool) (id : α → List UInt8) : Option α → List α → Bool
 | _,[] => true
 | p,x :: r => ok x && ((match p with | none => true | some y => Op.bytesLess (id y) (id x)) && sortedChk ok id (some x) r)
theorem sortedChk_all {α : Type} {ok : α → Bool} {id : α → List UInt8} : ∀ {l : List α} {p : Option α},sortedChk ok id p l = true → ∀ x,x ∈ l → ok x = true
 | [],_,_,x,hx => by cases hx
 | y :: r,p,h,x,hx => by
   simp only [sortedChk,Bool.and_eq_true] at h
   rcases List.mem_cons.1 hx with rfl | hx
   ·exact h.1
   ·exact sortedChk_all h.2.2 x hx
theorem sortedLoopI {α : Type} (xs : List α) (one : α → Option Bool) (ok : α → Bool) (id : α → List UInt8) (p0 : Int → Option Bool) (last : Option Bool) (lb : Bool) (hlast : last = some lb)
 (heq : ∀ i : Int,p0 i = if decide (i < (xs.length : Int)) then (if decide (0 ≤ i) then (xs[i.toNat]?).bind fun x1 => (one x1).bind fun x2 => if (!x2) then some false else if decide (i > 0) then (if decide (0 ≤ IntKind.i64.wrap (i - 1)) then (xs[(IntKind.i64.wrap (i - 1)).toNat]?).bind fun x3 => if (!Op.bytesLess (id x3) (id x1)) then some false else p0 (IntKind.i64.wrap (i + 1)) else none) else p0 (IntKind.i64.wrap (i + 1)) else none) else last)
 (hs : xs.length ≤ 1048576) (h1 : ∀ x,x ∈ xs → one x = some (ok x)) :
 ∀ (k i : Nat),i + k = xs.length → p0 i = some (sortedChk ok id (if i = 0 then none else xs[i - 1]?) (xs.drop i) && lb)
 | 0,i,hk => by
   rw [heq,List.drop_eq_nil_of_le (by omega)]
   have : ¬ (i : Int) < (xs.length : Int) := by omega
   simp only [this,decide_false,Bool.false_eq_true,if_false,hlast,sortedChk,Bool.true_and]
 | k + 1,i,hk => by
   have hi : i < xs.length := by omega
   have hlt : (i : Int) < (xs.length : Int) := by omega
   have hw : IntKind.i64.wrap ((i : Int) + 1) = ((i + 1 : Nat) : Int) := by rw [w64 (by omega) (by omega)]; omega
   have ih := sortedLoopI xs one ok id p0 last lb hlast heq hs h1 k (i + 1) (by omega)
   rw [if_neg (by omega),Nat.add_sub_cancel,List.getElem?_eq_getElem hi] at ih
   rw [heq,List.drop_eq_getElem_cons hi]
   simp only [hlt,decide_true,if_true,Int.natCast_nonneg,Int.toNat_natCast,List.getElem?_eq_getElem hi,Option.bind_some,h1 xs[i] (List.getElem_mem hi),hw,ih,sortedChk]
   cases hok : ok xs[i]
   ·simp
   ·by_cases h0 : i = 0
    ·subst h0; simp
    ·have hp : (i : Int) > 0 := by omega
     have hw2 : IntKind.i64.wrap ((i : Int) - 1) = ((i - 1 : Nat) : Int) := by rw [w64 (by omega) (by omega)]; omega
     simp only [hp,decide_true,if_true,hw2,Int.natCast_nonneg,Int.toNat_natCast,List.getElem?_eq_getElem (show i - 1 < xs.length by omega),Option.bind_some,h0,if_false,Bool.not_true,Bool.false_eq_true]
     cases Op.bytesLess (id xs[i - 1]) (id xs[i]) <;> simp
theorem sortedLoopS {α : Type} (xs : List α) (one : α → Option Bool) (ok : α → Bool) (id : α → List UInt8) (p0 : Int → Option Bool) (last : Option Bool) (lb : Bool) (hlast : last = some lb)
 (heq : ∀ i : Int,p0 i = if decide (i < (xs.length : Int)) then (if decide (0 ≤ i) then (xs[i.toNat]?).bind fun x1 => (one x1).bind fun x2 => if (!x2) then some false else if decide (i > 0) then (if decide (0 ≤ IntKind.i64.wrap (i - 1)) then (xs[(IntKind.i64.wrap (i - 1)).toNat]?).bind fun x3 => if decide (0 ≤ i) then (xs[i.toNat]?).bind fun x4 => if (!Op.bytesLess (id x3) (id x4)) then some false else p0 (IntKind.i64.wrap (i + 1)) else none else none) else p0 (IntKind.i64.wrap (i + 1)) else none) else last)
 (hs : xs.length ≤ 1048576) (h1 : ∀ x,x ∈ xs → one x = some (ok x)) :
 ∀ (k i : Nat),i + k = xs.length → p0 i = some (sortedChk ok id (if i = 0 then none else xs[i - 1]?) (xs.drop i) && lb) := by
 refine sortedLoopI xs one ok id p0 last lb hlast (fun i => ?_) hs h1
 rw [heq]
 by_cases h : i < (xs.length : Int)
 ·by_cases h0 : 0 ≤ i
  ·simp only [h,h0,decide_true,if_true]
   cases xs[i.toNat]? <;> rfl
  ·simp only [h,h0,decide_true,decide_false,Bool.false_eq_true,if_true,if_false]
 ·simp only [h,decide_false,Bool.false_eq_true,if_false]
theorem allLoop {α β : Type} (xs : List α) (one : α → Option Bool) (ok : α → Bool) (p0 : Int → Option β) (bad : β) (last : Option β)
 (heq : ∀ i : Int,p0 i = if decide (i < (xs.length : Int)) then (if decide (0 ≤ i) then (xs[i.toNat]?).bind fun x1 => (one x1).bind fun x2 => if (!x2) then some bad else p0 (IntKind.i64.wrap (i + 1)) else none) else last)
 (hs : xs.length ≤ 1099511627776) (h1 : ∀ x,x ∈ xs → one x = some (ok x)) :
 ∀ (k i : Nat),i + k = xs.length → p0 i = if (xs.drop i).all ok then last else some bad
 | 0,i,hk => by
   rw [heq,List.drop_eq_nil_of_le (by omega)]
   have : ¬ (i : Int) < (xs.length : Int) := by omega
   simp [this]
 | k + 1,i,hk => by
   have hi : i < xs.length := by omega
   have hlt : (i : Int) < (xs.length : Int) := by omega
   have hw : IntKind.i64.wrap ((i : Int) + 1) = ((i + 1 : Nat) : Int) := by rw [w64 (by omega) (by omega)]; omega
   have ih := allLoop xs one ok p0 bad last heq hs h1 k (i + 1) (by omega)
   rw [heq,List.drop_eq_getElem_cons hi]
   simp only [hlt,decide_true,if_true,Int.natCast_nonneg,Int.toNat_natCast,List.getElem?_eq_getElem hi,Option.bind_some,h1 xs[i] (List.getElem_mem hi),hw,ih,List.all_cons]
   by_cases hok : ok xs[i] = true
   ·simp [hok]
   ·simp [hok]
theorem idxLoop {β : Type} (n : Nat) (c : Nat → Bool) (p0 : Int → Option β) (bad last : Option β) (heq : ∀ i : Nat,i < n → p0 (i : Int) = if c i then p0 ((i + 1 : Nat) : Int) else bad) (hlast : p0 (n : Int) = last) :
 ∀ (k i : Nat),i + k = n → p0 (i : Int) = if (List.range' i k).all c then last else bad
 | 0,i,hk => by
   have : i = n := by omega
   subst this
   simp [hlast]
 | k + 1,i,hk => by
   rw [heq i (by omega),idxLoop n c p0 bad last heq hlast k (i + 1) (by omega),List.range'_succ,List.all_cons]
   cases c i
   ·simp
   ·simp only [Bool.true_and,if_true]
def gather {β : Type} (f : Nat → List β) : Nat → Nat → List β
 | _,0 => []
 | i,k + 1 => f i ++ gather f (i + 1) k
theorem gather_mem {β : Type} {f : Nat → List β} {x : β} : ∀ (k i : Nat),x ∈ gather f i k → ∃ j,i ≤ j ∧ j < i + k ∧ x ∈ f j
 | 0,i,h => by cases h
 | k + 1,i,h => by
   rcases List.mem_append.1 h with h | h
   ·exact ⟨i,Nat.le_refl _,by omega,h⟩
   ·obtain ⟨j,h1,h2,h3⟩ := gather_mem k (i + 1) h
    exact ⟨j,by omega,by omega,h3⟩
theorem gather_len {β : Type} {f : Nat → List β} {m : Nat} (hf : ∀ i,(f i).length ≤ m) : ∀ (k i : Nat),(gather f i k).length ≤ m * k
 | 0,i => by simp [gather]
 | k + 1,i => by
   have := gather_len hf k (i + 1)
   have := hf i
   rw [gather,List.length_append,Nat.mul_succ]; omega
theorem accLoop {β γ : Type} (n m c : Nat) (f : Nat → List β) (hf : ∀ i,(f i).length ≤ m) (p0 : Int → List β → Option γ) (last : List β → Option γ)
 (heq : ∀ (i : Nat) (r : List β),i < n → r.length ≤ m * i + c → p0 (i : Int) r = p0 ((i + 1 : Nat) : Int) (r ++ f i)) (hlast : ∀ r : List β,r.length ≤ m * n + c → p0 (n : Int) r = last r) :
 ∀ (k i : Nat) (r : List β),i + k = n → r.length ≤ m * i + c → p0 (i : Int) r = last (r ++ gather f i k)
 | 0,i,r,hk,hr => by
   have : i = n := by omega
   subst this
   rw [hlast r hr,gather,List.append_nil]
 | k + 1,i,r,hk,hr => by
   have h1 := hf i
   rw [heq i r (by omega) hr,accLoop n m c f hf p0 last heq hlast k (i + 1) (r ++ f i) (by omega) (by rw [List.length_append,Nat.mul_succ]; omega),gather,List.append_assoc]
def sumG (f : Nat → Int) : Nat → Nat → Int
 | _,0 => 0
 | i,k + 1 => f i + sumG f (i + 1) k
theorem sumG_bd {f : Nat → Int} {lo hi : Int} (hlo : lo ≤ 0) (hhi : 0 ≤ hi) (hf : ∀ i,lo ≤ f i ∧ f i ≤ hi) : ∀ (k i : Nat),lo * k ≤ sumG f i k ∧ sumG f i k ≤ hi * k
 | 0,i => by simp [sumG]
 | k + 1,i => by
   have h1 := sumG_bd hlo hhi hf k (i + 1)
   have h2 := hf i
   have e1 : lo * ((k + 1 : Nat) : Int) = lo * k + lo := by rw [Int.natCast_succ,Int.mul_add,Int.mul_one]
   have e2 : hi * ((k + 1 : Nat) : Int) = hi * k + hi := by rw [Int.natCast_succ,Int.mul_add,Int.mul_one]
   rw [sumG,e1,e2]; omega
theorem sumLoop {γ : Type} (n : Nat) (hn : n ≤ 1048576) (f : Nat → Int) (hf : ∀ i,-100000000 ≤ f i ∧ f i ≤ 100000000) (p0 : Int → Int → Option γ) (last : Int → Option γ)
 (heq : ∀ (i : Nat) (a : Int),i < n → -1000000000000000 ≤ a ∧ a ≤ 1000000000000000 → p0 a (i : Int) = p0 (a + f i) ((i + 1 : Nat) : Int)) (hlast : ∀ a : Int,p0 a (n : Int) = last a) :
 ∀ (k i : Nat) (a : Int),i + k = n → -100000000 * (i : Int) ≤ a ∧ a ≤ 100000000 * (i : Int) → p0 a (i : Int) = last (a + sumG f i k)
 | 0,i,a,hk,ha => by
   have : i = n := by omega
   subst this
   rw [hlast,sumG,Int.add_zero]
 | k + 1,i,a,hk,ha => by
   have h1 := hf i
   rw [heq i a (by omega) (by omega),sumLoop n hn f hf p0 last heq hlast k (i + 1) (a + f i) (by omega) (by omega),sumG,Int.add_assoc]
theorem wsucc {i : Nat} (h : i < 4611686018427387904) : IntKind.i64.wrap ((i : Int) + 1) = ((i + 1 : Nat) : Int) := by
 rw [w64 (by omega) (by omega)]; omega
theorem getElem?_lt {α : Type} {l : List α} {i : Nat} (h : i < l.length) : l[i]? = some l[i] := List.getElem?_eq_getElem h
theorem drop_cons {α : Type} {l : List α} {i : Nat} (h : i < l.length) : l.drop i = l[i] :: l.drop (i + 1) := List.drop_eq_getElem_cons h
theorem tdiv_nonneg_eq {a b : Int} (ha : 0 ≤ a) : a.tdiv b = a / b := Int.tdiv_eq_ediv_of_nonneg ha
theorem tmod_nonneg_eq {a b : Int} (ha : 0 ≤ a) : a.tmod b = a % b := Int.tmod_eq_emod_of_nonneg ha
def small (c : UInt8) : Bool := decide (97 ≤ (c.toNat : Int)) && decide ((c.toNat : Int) ≤ 122)
def digit (c : UInt8) : Bool := decide (48 ≤ (c.toNat : Int)) && decide ((c.toNat : Int) ≤ 57)
def isName (s : List UInt8) : Bool := match s with | [] => false | c :: r => small c && r.all (fun c => small c || digit c) && decide (s.length ≤ 10)
def inR (n lo hi : Int) : Bool := decide (lo ≤ n) && decide (n ≤ hi)
theorem inR_iff' {n lo hi : Int} : inR n lo hi = true ↔ lo ≤ n ∧ n ≤ hi := by simp [inR]
theorem impl_within_ok (n lo hi : Int) : impl_within n lo hi = some (inR n lo hi) := by
 rw [impl_within_eq,inR]; by_cases h : lo ≤ n <;> simp [h]
theorem spec_l00In_ok (n lo hi : Int) : spec_l00In n lo hi = some (inR n lo hi) := by
 rw [spec_l00In_eq,inR]; by_cases h : lo ≤ n <;> simp [h]
theorem spec_l01Small_ok (c : UInt8) : spec_l01Small (c.toNat : Int) = some (small c) := by
 rw [spec_l01Small_eq,small]; by_cases h : 97 ≤ (c.toNat : Int) <;> simp [h]
theorem spec_l01Digit_ok (c : UInt8) : spec_l01Digit (c.toNat : Int) = some (digit c) := by
 rw [spec_l01Digit_eq,digit]; by_cases h : 48 ≤ (c.toNat : Int) <;> simp [h]
theorem impl_isDigit_ok (c : UInt8) : impl_isDigit (c.toNat : Int) = some (digit c) := by
 rw [impl_isDigit_eq,digit]; by_cases h : 48 ≤ (c.toNat : Int) <;> simp [h]
theorem spec_l01Name_p1_ok (s : List UInt8) (hs : s.length < 4611686018427387904) : ∀ (k i : Nat),i + k = s.length → spec_l01Name_p1 s i = some ((s.drop i).all fun c => small c || digit c)
 | 0,i,h => by
   rw [spec_l01Name_p1_eq,List.drop_eq_nil_of_le (by omega)]
   simp; omega
 | k + 1,i,h => by
   have hi : i < s.length := by omega
   rw [spec_l01Name_p1_eq,drop_cons hi]
   have h1 : (i : Int) < (s.length : Int) := by omega
   simp only [h1,decide_true,if_true,Int.natCast_nonneg,Int.toNat_natCast,getElem?_lt hi,Option.bind_some,spec_l01Small_ok,spec_l01Digit_ok,wsucc (show i < 4611686018427387904 by omega),spec_l01Name_p1_ok s hs k (i + 1) (by omega),List.all_cons]
   cases small s[i] <;> cases digit s[i] <;> simp
theorem spec_l01Name_ok (s : List UInt8) (hs : s.length < 4611686018427387904) : spec_l01Name s = some (isName s) := by
 rw [spec_l01Name_eq]
 cases s with
 | nil => rfl
 | cons c r =>
   have := spec_l01Name_p1_ok (c :: r) hs (r.length + 1) 0 (by simp)
   simp only [spec_l01Name_p0_eq,List.getElem?_cons_zero,Option.bind_some,spec_l01Small_ok]
   rw [show ((0 : Nat) : Int) = 0 from rfl] at this
   rw [this,isName]
   have e0 : ((c :: r) == ([] : List UInt8)) = false := by simp
   by_cases hl : ((c :: r).length : Int) > 10
   ·have : ¬ (c :: r).length ≤ 10 := by omega
    simp only [e0,hl,this,decide_true,decide_false,if_true,Bool.false_eq_true,if_false,Bool.and_false]
   ·have : (c :: r).length ≤ 10 := by omega
    simp only [e0,hl,this,decide_true,decide_false,if_true,Bool.false_eq_true,if_false,Bool.and_true]
    cases hc : small c <;> simp [hc]
def okFrom : Nat → List UInt8 → Bool
 | _,[] => true
 | i,c :: r => (small c || (i != 0 && digit c)) && okFrom (i + 1) r
theorem okFrom_all (r : List UInt8) : ∀ i,okFrom (i + 1) r = r.all fun c => small c || digit c := by
 induction r with
 | nil => intro i; rfl
 | cons c r ih => intro i; simp [okFrom,ih]
theorem impl_IsName_p0_ok (s : List UInt8) (hs : s.length < 4611686018427387904) : ∀ (k i : Nat),i + k = s.length → impl_IsName_p0 s i = some (okFrom i (s.drop i) && (!(s == []) && decide (s.length ≤ 10)))
 | 0,i,h => by
   rw [impl_IsName_p0_eq,List.drop_eq_nil_of_le (by omega),impl_few_eq]
   have h1 : ¬ (i : Int) < (s.length : Int) := by omega
   simp only [h1,decide_false,Bool.false_eq_true,if_false,okFrom,Option.bind_some,Bool.true_and]
   cases s with
   | nil => rfl
   | cons c r =>
     have : ((c :: r == []) = false) := by simp
     simp only [this,Bool.not_false,if_true,Bool.true_and]
     congr 1
     simp only [decide_eq_decide]; omega
 | k + 1,i,h => by
   have hi : i < s.length := by omega
   have h1 : (i : Int) < (s.length : Int) := by omega
   have ih := impl_IsName_p0_ok s hs k (i + 1) (by omega)
   have e1 : ∀ b : Bool,impl_IsName_p1 s i b = some (((b || (i != 0 && digit s[i])) && okFrom (i + 1) (s.drop (i + 1))) && (!(s == []) && decide (s.length ≤ 10))) := by
    intro b
    rw [impl_IsName_p1_eq]
    simp only [Int.natCast_nonneg,decide_true,if_true,Int.toNat_natCast,getElem?_lt hi,Option.bind_some,impl_isDigit_ok,wsucc (show i < 4611686018427387904 by omega),ih]
    cases b
    ·by_cases h0 : i = 0
     ·subst h0; simp
     ·have : ((i : Int) == 0) = false := by simp [h0]
      have : (i != 0) = true := by simp [h0]
      simp only [*]
      cases digit s[i] <;> simp
    ·simp
   rw [impl_IsName_p0_eq,drop_cons hi,okFrom]
   simp only [h1,decide_true,if_true,Int.natCast_nonneg,Int.toNat_natCast,getElem?_lt hi,Option.bind_some,e1,small]
   by_cases h97 : (s[i].toNat : Int) ≥ 97 <;> simp [h97]
theorem impl_IsName_ok (s : List UInt8) (hs : s.length < 4611686018427387904) : impl_IsName s = some (isName s) := by
 rw [impl_IsName_eq]
 have := impl_IsName_p0_ok s hs s.length 0 (by simp)
 rw [show ((0 : Nat) : Int) = 0 from rfl] at this
 rw [this]
 cases s with
 | nil => rfl
 | cons c r => simp [okFrom,okFrom_all,isName]
theorem spec_l01Dec_p3_all (l : List Int) (hl : l.length ≤ 1000) : ∀ (k : Nat) (r : List Int),k ≤ l.length → r.length + k ≤ 1000 → spec_l01Dec_p3 ((k : Int) - 1) l r = some ((r ++ (l.take k).reverse).map vu8)
 | 0,r,hk,hr => by
   rw [spec_l01Dec_p3_eq]
   have : ¬ ((0 : Nat) : Int) - 1 ≥ 0 := by omega
   simp only [this,decide_false,Bool.false_eq_true,if_false,List.take_length,List.take_zero,List.reverse_nil,List.append_nil]
 | k + 1,r,hk,hr => by
   rw [spec_l01Dec_p3_eq,show ((k + 1 : Nat) : Int) - 1 = (k : Int) by omega]
   have h1 : (k : Int) ≥ 0 := by omega
   have h2 : (0 : Int) ≤ (k : Int) := by omega
   have h3 : (k : Int) < (l.length : Int) := by omega
   have h4 : r.length + 1 < lim := by rw [lim_eq]; omega
   have ih := spec_l01Dec_p3_all l hl k (r ++ [l[k]]) (by omega) (by simp; omega)
   simp only [h1,h2,h3,decide_true,Bool.and_self,if_true,Int.toNat_natCast,getElem?_lt (show k < l.length by omega),Option.bind_some,h4,List.take_length,w64 (n := (k : Int) - 1) (by omega) (by omega),ih]
   rw [List.take_succ_eq_append_getElem (by omega),List.reverse_append,List.append_assoc]; rfl
theorem spec_l01Dec_p2_all (l : List Int) (hl : l.length ≤ 900) : spec_l01Dec_p2 l = some (l.reverse.map vu8) := by
 rw [spec_l01Dec_p2_eq,w64 (n := (l.length : Int) - 1) (by omega) (by omega),spec_l01Dec_p3_all l (by omega) l.length [] (by omega) (by simp; omega),List.nil_append,List.take_length]
def revDigs (u : Nat) : List Int := (Lib.decDigits u).reverse.map fun c => (c.toNat : Int)
theorem decDigits_one {u : Nat} (h : u < 10) : Lib.decDigits u = [UInt8.ofNat (48 + u)] := by rw [Lib.decDigits,dif_pos h]
theorem decDigits_more {u : Nat} (h : ¬ u < 10) : Lib.decDigits u = Lib.decDigits (u / 10) ++ [UInt8.ofNat (48 + u % 10)] := by rw [Lib.decDigits,dif_neg h]
theorem dig48 {d : Nat} (h : d < 10) : ((UInt8.ofNat (48 + d)).toNat : Int) = 48 + (d : Int) := by
 have : (UInt8.ofNat (48 + d)).toNat = 48 + d := by simp; omega
 rw [this]; omega
theorem wrapU8 {n : Int} (h1 : 0 ≤ n) (h2 : n < 256) : IntKind.u8.wrap n = n := by
 simp only [IntKind.wrap,IntKind.bits,IntKind.signed]
 first
  | omega
  | (simp; omega)
theorem spec_l01Dec_p0_all (n : Int) : ∀ (k u : Nat) (v : Int) (r : List Int),(0 ≤ v ∧ v = (u : Int) ∨ v < 0 ∧ v = -(u : Int)) → u ≤ 2000000000000000000 → u < 10 ^ k → u ≠ 0 → (0 ≤ n ↔ 0 ≤ v) → r.length + k ≤ 800 →
 spec_l01Dec_p0 n v r = spec_l01Dec_p2 (r ++ revDigs u ++ if n < 0 then [45] else [])
 | 0,u,v,r,hv,hb,hu,hz,hn,hr => by simp at hu; omega
 | k + 1,u,v,r,hv,hb,hu,hz,hn,hr => by
   have hp : 10 ^ (k + 1) = 10 ^ k * 10 := Nat.pow_succ ..
   have hvz : (v != 0) = true := by
    have : v ≠ 0 := by omega
    simpa using this
   have h4 : r.length + 1 < lim := by rw [lim_eq]; omega
   have key : spec_l01Dec_p0 n v r = spec_l01Dec_p0 n (if v < 0 then -((u / 10 : Nat) : Int) else ((u / 10 : Nat) : Int)) (r ++ [48 + ((u % 10 : Nat) : Int)]) := by
    rw [spec_l01Dec_p0_eq]
    simp only [hvz,if_true]
    have wrapd : IntKind.u8.wrap (IntKind.i64.wrap (48 + ((u % 10 : Nat) : Int))) = 48 + ((u % 10 : Nat) : Int) := by
     rw [w64 (by omega) (by omega)]
     exact wrapU8 (by omega) (by omega)
    rcases hv with ⟨h0,e⟩ | ⟨h0,e⟩
    ·have hm : v.tmod 10 = ((u % 10 : Nat) : Int) := by rw [e,tmod_nonneg_eq (by omega)]; omega
     have hd : v.tdiv 10 = ((u / 10 : Nat) : Int) := by rw [e,tdiv_nonneg_eq (by omega)]; omega
     have hnn : ¬ ((u % 10 : Nat) : Int) < 0 := by omega
     have hnv : ¬ v < 0 := by omega
     simp only [hm,hnn,decide_false,Bool.false_eq_true,if_false,hnv,spec_l01Dec_p1_eq,h4,decide_true,if_true,List.take_length,hd,w64 (n := ((u / 10 : Nat) : Int)) (by omega) (by omega),wrapd]
    ·have hm : v.tmod 10 = -((u % 10 : Nat) : Int) := by
      rw [e,Int.neg_tmod,tmod_nonneg_eq (by omega)]; omega
     have hd : v.tdiv 10 = -((u / 10 : Nat) : Int) := by
      rw [e,Int.neg_tdiv,tdiv_nonneg_eq (by omega)]; omega
     have e0 : IntKind.i64.wrap (0 - -((u % 10 : Nat) : Int)) = ((u % 10 : Nat) : Int) := by rw [w64 (by omega) (by omega)]; omega
     by_cases hc : -((u % 10 : Nat) : Int) < 0
     ·simp only [hm,hc,decide_true,if_true,h0,spec_l01Dec_p1_eq,h4,List.take_length,hd,w64 (n := -((u / 10 : Nat) : Int)) (by omega) (by omega),e0,wrapd]
     ·have e1 : -((u % 10 : Nat) : Int) = ((u % 10 : Nat) : Int) := by omega
      have hc' : ¬ ((u % 10 : Nat) : Int) < 0 := by omega
      rw [e1] at hm
      simp only [hm,hc',decide_false,Bool.false_eq_true,if_false,h0,if_true,spec_l01Dec_p1_eq,h4,decide_true,List.take_length,hd,w64 (n := -((u / 10 : Nat) : Int)) (by omega) (by omega),wrapd]
   rw [key]
   by_cases hs : u < 10
   ·have hq : u / 10 = 0 := by omega
    have hz0 : (if v < 0 then -((u / 10 : Nat) : Int) else ((u / 10 : Nat) : Int)) = 0 := by rw [hq]; split <;> rfl
    have e2 : revDigs u = [48 + ((u % 10 : Nat) : Int)] := by
     rw [revDigs,decDigits_one hs,List.reverse_singleton,List.map_singleton,dig48 hs,Nat.mod_eq_of_lt hs]
    rw [hz0,spec_l01Dec_p0_eq,e2]
    have h5 : (r ++ [48 + ((u % 10 : Nat) : Int)]).length + 1 < lim := by rw [lim_eq]; simp; omega
    by_cases hn0 : n < 0
    ·simp only [bne_self_eq_false,Bool.false_eq_true,if_false,hn0,decide_true,if_true,h5,List.take_length]
    ·simp only [bne_self_eq_false,Bool.false_eq_true,if_false,hn0,decide_false,List.append_nil]
   ·have e2 : revDigs u = (48 + ((u % 10 : Nat) : Int)) :: revDigs (u / 10) := by
     rw [revDigs,decDigits_more hs,List.reverse_append,List.reverse_singleton,List.singleton_append,List.map_cons,dig48 (Nat.mod_lt u (by omega)),revDigs]
    rw [spec_l01Dec_p0_all n k (u / 10) _ (r ++ [48 + ((u % 10 : Nat) : Int)]) (by split <;> omega) (by omega) (by omega) (by omega) (by split <;> omega) (by simp; omega),e2]
    simp only [List.append_assoc,List.singleton_append,List.cons_append,List.nil_append]
theorem revDigs_back (u : Nat) : (revDigs u).reverse.map vu8 = Lib.decDigits u := by
 rw [revDigs,← List.map_reverse,List.reverse_reverse,List.map_map]
 conv => rhs; rw [← List.map_id (Lib.decDigits u)]
 exact List.map_congr_left fun c _ => by simp [vu8]
theorem decLen : ∀ (k u : Nat),u < 10 ^ (k + 1) → (Lib.decDigits u).length ≤ k + 1
 | 0,u,h => by rw [decDigits_one (by simpa using h)]; simp
 | k + 1,u,h => by
   by_cases hs : u < 10
   ·rw [decDigits_one hs]; simp
   ·have hp : 10 ^ (k + 1 + 1) = 10 ^ (k + 1) * 10 := Nat.pow_succ ..
    have := decLen k (u / 10) (by omega)
    rw [decDigits_more hs,List.length_append,List.length_singleton]; omega
theorem revDigs_len (u : Nat) (h : u ≤ 2000000000000000000) : (revDigs u).length ≤ 20 := by
 rw [revDigs,List.length_map,List.length_reverse]
 have h10 : (10 : Nat) ^ (19 + 1) = 100000000000000000000 := by decide
 exact decLen 19 u (by omega)
theorem spec_l01Dec_itoa (n : Int) (h : -2000000000000000000 ≤ n ∧ n ≤ 2000000000000000000) : spec_l01Dec n = some (Lib.itoa n) := by
 rw [spec_l01Dec_eq]
 by_cases hz : n = 0
 ·subst hz; simp only [beq_self_eq_true,if_true]; rw [Lib.itoa,if_neg (by decide),show (0 : Int).toNat = 0 from rfl,decDigits_one (by decide)]; rfl
 have hz' : (n == 0) = false := by simpa using hz
 simp only [hz',Bool.false_eq_true,if_false]
 have hu : n.natAbs < 10 ^ 20 := by
  have : (10 : Nat) ^ 20 = 100000000000000000000 := by decide
  omega
 rw [spec_l01Dec_p0_all n 20 n.natAbs n [] (by omega) (by omega) hu (by omega) Iff.rfl (by simp),spec_l01Dec_p2_all _ (by
  have := revDigs_len n.natAbs (by omega)
  rw [List.nil_append,List.length_append]
  split <;> simp <;> omega)]
 rw [List.nil_append,List.reverse_append,List.map_append,revDigs_back]
 unfold Lib.itoa
 by_cases hn : n < 0
 ·rw [if_pos hn,if_pos hn]; rfl
 ·rw [if_neg hn,if_neg hn,show n.toNat = n.natAbs by omega]; rfl
theorem impl_Decimal_ok (n : Int) (h : -9223372036854775808 ≤ n ∧ n ≤ 9223372036854775807) : impl_Decimal n = some (Lib.itoa n) := by
 rw [impl_Decimal_eq,strconv_FormatInt_eq]
 simp [h.1,h.2]
theorem eqInt64S_loop (xs : List Int) (hs : xs.length ≤ 1048576) : ∀ (k i : Nat),i + k = xs.length → laws_eqInt64S_p0 xs xs i = some true
 | 0,i,hk => by
   rw [laws_eqInt64S_p0_eq]
   have : ¬ (i : Int) < (xs.length : Int) := by omega
   simp only [this,decide_false,Bool.false_eq_true,if_false]
 | k + 1,i,hk => by
   have hi : i < xs.length := by omega
   have hlt : (i : Int) < (xs.length : Int) := by omega
   have hw : IntKind.i64.wrap ((i : Int) + 1) = ((i + 1 : Nat) : Int) := by rw [w64 (by omega) (by omega)]; omega
   rw [laws_eqInt64S_p0_eq]
   simp only [hlt,decide_true,if_true,Int.natCast_nonneg,Int.toNat_natCast,List.getElem?_eq_getElem hi,Option.bind_some,bne_self_eq_false,Bool.false_eq_true,if_false,hw]
   exact eqInt64S_loop xs hs k (i + 1) (by omega)
theorem eqInt64S_ok (xs : List Int) (hs : xs.length ≤ 1048576) : laws_eqInt64S xs xs = some true := by
 rw [laws_eqInt64S_eq]
 simp only [bne_self_eq_false,Bool.false_eq_true,if_false]
 exact eqInt64S_loop xs hs xs.length 0 (by omega)
def runs (m : Int) : Nat → List Int
 | 0 => []
 | n + 1 => m :: runs (m + 1) n
theorem runs_len (m : Int) (n : Nat) : (runs m n).length = n := by
 induction n generalizing m with
 | zero => rfl
 | succ n ih => simp [runs,ih]
theorem runs_get (m : Int) (n i : Nat) (h : i < n) : (runs m n)[i]? = some (m + i) := by
 induction n generalizing m i with
 | zero => omega
 | succ n ih =>
   cases i with
   | zero => simp [runs]
   | succ i =>
     simp only [runs,List.getElem?_cons_succ]
     rw [ih (m + 1) i (by omega)]
     congr 1; omega
theorem markInt64S_loop (m0 : Int) (n : Nat) (h0 : 0 ≤ m0) (hb : m0 + n ≤ 4611686018429000000) : ∀ (k i : Nat) (r : List Int),i + k = n → r.length = n → r.take i = (runs m0 n).take i →
 laws_markInt64S_p0 n n (m0 + i) i r = some (m0 + n,runs m0 n)
 | 0,i,r,hk,hr,ht => by
   rw [laws_markInt64S_p0_eq]
   have : ¬ (i : Int) < (n : Int) := by omega
   simp only [this,decide_false,Bool.false_eq_true,if_false,hr,decide_true,if_true]
   have hi : i = n := by omega
   have e : r = runs m0 n := by
    have h1 : r.take i = r := List.take_of_length_le (by omega)
    have h2 : (runs m0 n).take i = runs m0 n := List.take_of_length_le (by rw [runs_len]; omega)
    rw [h1,h2] at ht; exact ht
   rw [e,hi]
 | k + 1,i,r,hk,hr,ht => by
   have hi : i < r.length := by omega
   have hlt : (i : Int) < (n : Int) := by omega
   have hw : IntKind.i64.wrap ((i : Int) + 1) = ((i + 1 : Nat) : Int) := by rw [w64 (by omega) (by omega)]; omega
   have hw2 : IntKind.i64.wrap (m0 + i + 1) = m0 + ((i + 1 : Nat) : Int) := by rw [w64 (by omega) (by omega)]; omega
   rw [laws_markInt64S_p0_eq]
   simp only [hlt,decide_true,if_true,Int.natCast_nonneg,Int.toNat_natCast,List.getElem?_eq_getElem hi,Option.bind_some,Bool.and_self,hw,hw2]
   refine markInt64S_loop m0 n h0 hb k (i + 1) (r.set i (m0 + i)) (by omega) (by simp [hr]) ?_
   rw [List.take_add_one,List.take_add_one,List.getElem?_set_self hi,runs_get m0 n i (by omega),List.take_set_of_le (by omega),ht]
theorem markInt64S_ok (xs : List Int) (m : Int) (h0 : 0 ≤ m) (hb : m + xs.length ≤ 4611686018429000000) : laws_markInt64S xs m = some (m + xs.length,runs m xs.length) := by
 rw [laws_markInt64S_eq]
 have := markInt64S_loop m xs.length h0 hb xs.length 0 xs (by omega) rfl rfl
 simpa using this
theorem markText_p0_ok : ∀ (k : Nat) (n : Int) (s : List UInt8),n.toNat < k → 0 ≤ n → n ≤ 4611686018427387904 → s.length + k ≤ 9223372036854775000 → ∃ t,laws_markText_p0 n s = some t
 | 0,n,s,hk,h0,h1,hs => by omega
 | k + 1,n,s,hk,h0,h1,hs => by
   rw [laws_markText_p0_eq]
   by_cases hp : n > 0
   ·simp only [hp,decide_true,if_true]
    have e : n.tdiv 10 = n / 10 := tdiv_nonneg_eq h0
    rw [e,w64 (n := n / 10) (by omega) (by omega)]
    have hl : ([IntKind.u8.wrap (IntKind.i64.wrap (48 + (n.tmod 10)))].map vu8).length + s.length ≤ strMax := by rw [strMax_eq]; simp; omega
    simp only [hl,decide_true,if_true]
    exact markText_p0_ok k (n / 10) _ (by omega) (by omega) (by omega) (by simp; omega)
   ·have hl : [(109 : UInt8)].length + s.length ≤ strMax := by rw [strMax_eq]; simp; omega
    refine ⟨[(109 : UInt8)] ++ s,?_⟩
    simp only [hp,decide_false,Bool.false_eq_true,if_false]
    exact if_pos (decide_eq_true hl)
theorem markText_ok (n : Int) (h : n ≤ 4611686018427387904) : ∃ t,laws_markText n = some t := by
 rw [laws_markText_eq]
 by_cases h0 : n ≤ 0
 ·simp only [h0,decide_true,if_true]; exact ⟨_,rfl⟩
 ·simp only [h0,decide_false,Bool.false_eq_true,if_false]
  exact markText_p0_ok (n.toNat + 1) n [] (by omega) (by omega) h (by simp; omega)
def risesAt (lo hi : Int) (l : List Int) (i : Nat) : Bool := inR ((l[i]?).getD 0) lo hi && (decide (i = 0) || decide ((l[i - 1]?).getD 0 < (l[i]?).getD 0))
def risesB (lo hi : Int) (l : List Int) : Bool := (List.range' 0 l.length).all (risesAt lo hi l)
theorem spec_l00Rises_ok (l : List Int) (lo hi : Int) (hs : l.length ≤ 1048576) : spec_l00Rises l lo hi = some (risesB lo hi l) := by
 rw [spec_l00Rises_eq,risesB]
 have := idxLoop l.length (risesAt lo hi l) (fun i => spec_l00Rises_p0 l lo hi i) (some false) (some true) (fun i hi' => ?_) ?_ l.length 0 (by omega)
 ·rw [show ((0 : Nat) : Int) = 0 from rfl] at this
  rw [this]; cases (List.range' 0 l.length).all (risesAt lo hi l) <;> rfl
 ·have hlt : (i : Int) < (l.length : Int) := by omega
  have hw : IntKind.i64.wrap ((i : Int) + 1) = ((i + 1 : Nat) : Int) := by rw [w64 (by omega) (by omega)]; omega
  show spec_l00Rises_p0 l lo hi i = _
  rw [spec_l00Rises_p0_eq]
  simp only [hlt,decide_true,if_true,Int.natCast_nonneg,Int.toNat_natCast,List.getElem?_eq_getElem hi',Option.bind_some,spec_l00In_ok,hw,risesAt,Option.getD_some]
  cases inR l[i] lo hi
  ·simp
  ·by_cases h0 : i = 0
   ·subst h0; simp
   ·have hp : (i : Int) > 0 := by omega
    have hw2 : IntKind.i64.wrap ((i : Int) - 1) = ((i - 1 : Nat) : Int) := by rw [w64 (by omega) (by omega)]; omega
    simp only [hp,decide_true,if_true,hw2,Int.natCast_nonneg,Int.toNat_natCast,List.getElem?_eq_getElem (show i - 1 < l.length by omega),Option.bind_some,Option.getD_some,h0,decide_false,Bool.false_or,Bool.not_true,Bool.false_eq_true,if_false,Bool.true_and]
    by_cases hc : l[i - 1] < l[i]
    ·have : ¬ l[i - 1] ≥ l[i] := by omega
     simp [hc,this]
    ·have : l[i - 1] ≥ l[i] := by omega
     simp [hc,this]
 ·show spec_l00Rises_p0 l lo hi (l.length : Int) = _
  rw [spec_l00Rises_p0_eq]; simp
theorem risesB_at {lo hi : Int} {l : List Int} (h : risesB lo hi l = true) {i : Nat} (hi' : i < l.length) : risesAt lo hi l i = true :=
 List.all_eq_true.1 h i (by simp; omega)
theorem risesB_lt {lo hi : Int} {l : List Int} (h : risesB lo hi l = true) : ∀ (d i : Nat),(hi' : i + d < l.length) → l[i]'(by omega) ≤ l[i + d] ∧ (0 < d → l[i]'(by omega) < l[i + d])
 | 0,i,hi' => ⟨Int.le_refl _,fun h => absurd h (Nat.lt_irrefl _)⟩
 | d + 1,i,hi' => by
   have h1 := (risesB_lt h d i (by omega)).1
   have h2 := risesB_at h (i := i + d + 1) (by omega)
   simp only [risesAt,Bool.and_eq_true,Bool.or_eq_true,decide_eq_true_eq,List.getElem?_eq_getElem (show i + d + 1 < l.length by omega),Nat.add_sub_cancel,List.getElem?_eq_getElem (show i + d < l.length by omega),Option.getD_some] at h2
   have h3 : l[i + d] < l[i + d + 1] := by rcases h2.2 with h | h; · omega
                                           ·exact h
   have h4 : l[i + (d + 1)] = l[i + d + 1] := rfl
   exact ⟨by rw [h4]; omega,fun _ => by rw [h4]; omega⟩
theorem risesB_last {l : List Int} (h : risesB 0 11 l = true) (i : Int) (hi' : 0 ≤ i) : risesB 0 (i - 1) l = !(decide (0 < l.length) && decide (i ≤ l.getLastD 0)) := by
 by_cases hl : l = []
 ·subst hl; rfl
 have hpos : 0 < l.length := List.length_pos_iff.2 hl
 have hla : l.getLastD 0 = l[l.length - 1] := by
  rw [List.getLastD_eq_getLast?,List.getLast?_eq_getElem?,List.getElem?_eq_getElem (by omega)]; rfl
 rw [hla]
 by_cases hc : i ≤ l[l.length - 1]
 ·have : risesB 0 (i - 1) l = false := by
   rw [Bool.eq_false_iff]
   intro h2
   have := risesB_at h2 (i := l.length - 1) (by omega)
   simp only [risesAt,Bool.and_eq_true,inR,decide_eq_true_eq,List.getElem?_eq_getElem (show l.length - 1 < l.length by omega),Option.getD_some] at this
   omega
  rw [this]; simp [hpos,hc]
 ·have : risesB 0 (i - 1) l = true := by
   refine List.all_eq_true.2 fun j hj => ?_
   have hjl : j < l.length := by simp at hj; omega
   have h1 := risesB_at h hjl
   simp only [risesAt,Bool.and_eq_true,inR,decide_eq_true_eq,List.getElem?_eq_getElem hjl,Option.getD_some] at h1 ⊢
   have h2 := (risesB_lt h (l.length - 1 - j) j (by omega)).1
   have h3 : l[j + (l.length - 1 - j)]'(by omega) = l[l.length - 1] := by congr 1; omega
   rw [h3] at h2
   exact ⟨⟨h1.1.1,by omega⟩,h1.2⟩
  rw [this]; simp [hpos,hc]
def stepOk (x : T_Step.ty) : Bool := isName x.1 && (inR x.2.1 1 200 && (inR x.2.2.1 0 20 && risesB 0 11 x.2.2.2.1))
def stepC (xs : List T_Step.ty) (i : Nat) : Bool := stepOk (stAt xs i) && (risesB 0 ((i : Int) - 1) (stAt xs i).2.2.2.1 && (List.range' 0 i).all fun j => !decide ((stAt xs j).1 = (stAt xs i).1))
def stepsOk (xs : List T_Step.ty) : Bool := (List.range' 0 xs.length).all (stepC xs) && decide ((xs.length : Int) ≤ 12)
theorem stAt_eq (xs : List T_Step.ty) {i : Nat} (h : i < xs.length) : stAt xs i = xs[i] := by simp [stAt,List.getElem?_eq_getElem h]
theorem spec_l17One_ok (x : T_Step.ty) (h0 : x.1.length ≤ 1048576) (h1 : List.length (α := Int) x.2.2.2.1 ≤ 1048576) : spec_l17One x = some (stepOk x) := by
 rw [spec_l17One_eq,stepOk]
 simp only [spec_l01Name_ok x.1 (Nat.lt_of_le_of_lt h0 (by decide)),spec_l00In_ok,spec_l00Rises_ok _ _ _ h1,Option.bind_some]
 cases isName x.1 <;> cases inR x.2.1 1 200 <;> cases inR x.2.2.1 0 20 <;> simp
theorem spec_l17Ok_ok (xs : List T_Step.ty) (hs : xs.length ≤ 1048576) (hx : ∀ x,x ∈ xs → x.1.length ≤ 1048576 ∧ List.length (α := Int) x.2.2.2.1 ≤ 1048576) : spec_l17Ok xs = some (stepsOk xs) := by
 rw [spec_l17Ok_eq,stepsOk]
 have := idxLoop xs.length (stepC xs) (fun i => spec_l17Ok_p0 xs i) (some false) (some (decide ((xs.length : Int) ≤ 12))) (fun i hi' => ?_) ?_ xs.length 0 (by omega)
 ·rw [show ((0 : Nat) : Int) = 0 from rfl] at this
  rw [this]; cases (List.range' 0 xs.length).all (stepC xs) <;> rfl
 ·have hlt : (i : Int) < (xs.length : Int) := by omega
  have hw : IntKind.i64.wrap ((i : Int) + 1) = ((i + 1 : Nat) : Int) := by rw [w64 (by omega) (by omega)]; omega
  have hw2 : IntKind.i64.wrap ((i : Int) - 1) = (i : Int) - 1 := by rw [w64 (by omega) (by omega)]
  obtain ⟨g1,g2⟩ := hx xs[i] (List.getElem_mem hi')
  show spec_l17Ok_p0 xs i = _
  rw [spec_l17Ok_p0_eq]
  simp only [hlt,decide_true,if_true,Int.natCast_nonneg,Int.toNat_natCast,List.getElem?_eq_getElem hi',Option.bind_some,spec_l17One_ok _ g1 g2,spec_l00Rises_ok _ _ _ g2,hw2,stepC,stAt_eq xs hi']
  cases stepOk xs[i]
  ·simp
  cases risesB 0 ((i : Int) - 1) xs[i].2.2.2.1
  ·simp
  simp only [Bool.not_true,Bool.false_eq_true,if_false,Bool.true_and]
  rw [spec_l17Ok_p1_eq]
  have := idxLoop i (fun j => !decide ((stAt xs j).1 = xs[i].1)) (fun j => spec_l17Ok_p2 xs i xs[i].1 xs[i].2.1 xs[i].2.2.1 xs[i].2.2.2.1 j) (some false) (spec_l17Ok_p0 xs ((i + 1 : Nat) : Int)) (fun j hj => ?_) ?_ i 0 (by omega)
  ·rw [show ((0 : Nat) : Int) = 0 from rfl] at this
   rw [this]
  ·have hlt : (j : Int) < (i : Int) := by omega
   have hw : IntKind.i64.wrap ((j : Int) + 1) = ((j + 1 : Nat) : Int) := by rw [w64 (by omega) (by omega)]; omega
   show spec_l17Ok_p2 xs i _ _ _ _ j = _
   rw [spec_l17Ok_p2_eq]
   simp only [hlt,decide_true,if_true,Int.natCast_nonneg,Int.toNat_natCast,List.getElem?_eq_getElem (show j < xs.length by omega),Option.bind_some,hw,stAt_eq xs (show j < xs.length by omega)]
   by_cases hc : xs[j].1 = xs[i].1
   ·simp [hc]
   ·simp [hc]
  ·show spec_l17Ok_p2 xs i _ _ _ _ (i : Int) = _
   rw [spec_l17Ok_p2_eq]
   simp [hw]
 ·show spec_l17Ok_p0 xs (xs.length : Int) = _
  rw [spec_l17Ok_p0_eq]; simp
theorem impl_Step_valid_core (a : List UInt8) (b c : Int) (l : List Int) (h0 : a.length ≤ 1048576) (h1 : l.length ≤ 1048576) : impl_Step_valid (a,b,c,l,()) = some (stepOk (a,b,c,l,())) := by
 rw [impl_Step_valid_eq]
 show impl_Step_valid_p0 l (l.length : Int) 0 a b c l = _
 have := idxLoop l.length (risesAt 0 11 l) (fun i => impl_Step_valid_p0 l (l.length : Int) i a b c l) (some false) (some (isName a && (inR b 1 200 && inR c 0 20))) (fun i hi' => ?_) ?_ l.length 0 (by omega)
 ·rw [show ((0 : Nat) : Int) = 0 from rfl] at this
  rw [this,stepOk]
  show _ = some (isName a && (inR b 1 200 && (inR c 0 20 && risesB 0 11 l)))
  rw [risesB]
  cases (List.range' 0 l.length).all (risesAt 0 11 l) <;> cases isName a <;> cases inR b 1 200 <;> cases inR c 0 20 <;> rfl
 ·have hlt : (i : Int) < (l.length : Int) := by omega
  have hw : IntKind.i64.wrap ((i : Int) + 1) = ((i + 1 : Nat) : Int) := by rw [w64 (by omega) (by omega)]; omega
  show impl_Step_valid_p0 l (l.length : Int) i a b c l = _
  rw [impl_Step_valid_p0_eq]
  simp only [hlt,decide_true,if_true,Int.natCast_nonneg,Int.toNat_natCast,List.getElem?_eq_getElem hi',Option.bind_some,impl_within_ok,hw,risesAt,Option.getD_some]
  cases inR l[i] 0 11
  ·simp
  ·by_cases h0 : i = 0
   ·subst h0; simp
   ·have hp : (i : Int) > 0 := by omega
    have hw2 : IntKind.i64.wrap ((i : Int) - 1) = ((i - 1 : Nat) : Int) := by rw [w64 (by omega) (by omega)]; omega
    simp only [hp,decide_true,if_true,hw2,Int.natCast_nonneg,Int.toNat_natCast,List.getElem?_eq_getElem (show i - 1 < l.length by omega),Option.bind_some,Option.getD_some,h0,decide_false,Bool.false_or,Bool.not_true,Bool.false_eq_true,if_false,Bool.true_and]
    by_cases hc : l[i - 1] < l[i]
    ·have : ¬ l[i - 1] ≥ l[i] := by omega
     simp [hc,this]
    ·have : l[i - 1] ≥ l[i] := by omega
     simp [hc,this]
 ·show impl_Step_valid_p0 l (l.length : Int) (l.length : Int) a b c l = _
  rw [impl_Step_valid_p0_eq]
  simp only [Int.lt_irrefl,decide_false,Bool.false_eq_true,if_false,impl_IsName_ok a (Nat.lt_of_le_of_lt h0 (by decide)),impl_within_ok,Option.bind_some]
  cases isName a <;> cases inR b 1 200 <;> simp
theorem impl_Step_valid_ok (x : T_Step.ty) (h0 : x.1.length ≤ 1048576) (h1 : List.length (α := Int) x.2.2.2.1 ≤ 1048576) : impl_Step_valid x = some (stepOk x) := impl_Step_valid_core x.1 x.2.1 x.2.2.1 x.2.2.2.1 h0 h1
theorem vsSeen_all (ids : Nat → List UInt8) (k : Nat) : ∀ n,vsSeen ids k n = !((List.range' 0 n).all fun j => !decide (ids j = ids k))
 | 0 => rfl
 | n + 1 => by
   rw [vsSeen,vsSeen_all ids k n,List.range'_1_concat,List.all_append]
   simp only [Nat.zero_add,List.all_cons,List.all_nil,Bool.and_true,Bool.not_and,Bool.not_not]
theorem vsGo_all (xs : List T_Step.ty) (ok : Nat → Bool) (fin : Bool) (hok : ∀ i,i < xs.length → ok i = stepOk (stAt xs i)) : ∀ (k i : Nat),i + k = xs.length →
 vsGo (fun j => (stAt xs j).1) (fun j => List.length (α := Int) (stAt xs j).2.2.2.1) (fun j => List.getLastD (α := Int) (stAt xs j).2.2.2.1 0) ok fin k i = ((List.range' i k).all (stepC xs) && fin)
 | 0,i,hk => by simp [vsGo]
 | k + 1,i,hk => by
   rw [vsGo,hok i (by omega),vsGo_all xs ok fin hok k (i + 1) (by omega),List.range'_succ,List.all_cons,vsSeen_all,stepC]
   cases h : stepOk (stAt xs i)
   ·simp
   ·have hr : risesB 0 11 (stAt xs i).2.2.2.1 = true := by
     simp only [stepOk,Bool.and_eq_true] at h
     exact h.2.2.2
    rw [risesB_last hr i (by omega)]
    cases (List.range' 0 i).all fun j => !decide ((stAt xs j).1 = (stAt xs i).1)
    ·simp
    ·cases (decide (0 < List.length (α := Int) (stAt xs i).2.2.2.1) && decide ((i : Int) ≤ List.getLastD (α := Int) (stAt xs i).2.2.2.1 0)) <;> simp
theorem impl_ValidSteps_ok (xs : List T_Step.ty) (hs : xs.length ≤ 1048576) (hx : ∀ x,x ∈ xs → x.1.length ≤ 1048576 ∧ List.length (α := Int) x.2.2.2.1 ≤ 1048576) : impl_ValidSteps xs = some (stepsOk xs) := by
 rw [impl_ValidSteps_eq,vsF]
 have h1 : (xs.all fun x => (impl_Step_valid x).isSome && (decide (List.length (α := UInt8) x.1 ≤ 9223372036854775807) && decide (List.length (α := Int) x.2.2.2.1 ≤ 9223372036854775807))) = true := by
  refine List.all_eq_true.2 fun x hm => ?_
  obtain ⟨g1,g2⟩ := hx x hm
  rw [impl_Step_valid_ok x g1 g2,decide_eq_true (show List.length (α := UInt8) x.1 ≤ 9223372036854775807 by omega),decide_eq_true (show List.length (α := Int) x.2.2.2.1 ≤ 9223372036854775807 by omega)]
  rfl
 rw [h1,decide_eq_true (show xs.length ≤ 9223372036854775807 by omega)]
 simp only [Bool.and_self,if_true,impl_few_eq,Option.bind_some]
 rw [vsGo_all xs _ _ (fun i hi' => ?_) xs.length 0 (by omega),stepsOk]
 obtain ⟨g1,g2⟩ := hx xs[i] (List.getElem_mem hi')
 rw [stAt_eq xs hi',impl_Step_valid_ok _ g1 g2]
 rfl
noncomputable def markT (n : Int) : List UInt8 := (laws_markText n).getD []
theorem markT_ok (n : Int) (h : n < 4611686018427387904) : laws_markText n = some (markT n) := by
 obtain ⟨t,e⟩ := markText_ok n (Int.le_of_lt h)
 rw [markT,e]; rfl
theorem eqProblem_self (x : T_Problem.ty) : laws_eqProblem x x = some true := by
 rw [laws_eqProblem_eq]; simp
theorem eqProblemS_ok (xs : List T_Problem.ty) (hs : xs.length ≤ 1048576) : laws_eqProblemS xs xs = some true :=
 eqList_ok xs laws_eqProblem laws_eqProblemS_p0 laws_eqProblemS (fun i => laws_eqProblemS_p0_eq xs xs i) (laws_eqProblemS_eq xs xs) hs (fun x _ => eqProblem_self x)
theorem markArcS_loop (n : Nat) (hn : n ≤ 1048576) (M : Int) (hM : M ≤ 1152921504606846976) : ∀ (k i : Nat) (m : Int) (r : List T_Arc.ty),i + k = n → r.length = n → 0 ≤ m → M = m + 6 * k → ∃ r' : List T_Arc.ty,laws_markArcS_p0 n n m i r = some (M,r')
 | 0,i,m,r,hk,hr,h0,h1 => by
   refine ⟨r,?_⟩
   rw [laws_markArcS_p0_eq]
   have : ¬ (i : Int) < (n : Int) := by omega
   simp only [this,decide_false,Bool.false_eq_true,if_false,hr,decide_true,if_true]
   congr 2; omega
 | k + 1,i,m,r,hk,hr,h0,h1 => by
   have hi : i < r.length := by omega
   have hlt : (i : Int) < (n : Int) := by omega
   have hw : IntKind.i64.wrap ((i : Int) + 1) = ((i + 1 : Nat) : Int) := by rw [w64 (by omega) (by omega)]; omega
   rw [laws_markArcS_p0_eq,w64 (n := m + 1) (by omega) (by omega),w64 (n := m + 1 + 1) (by omega) (by omega),w64 (n := m + 1 + 1 + 1) (by omega) (by omega),w64 (n := m + 1 + 1 + 1 + 1) (by omega) (by omega),w64 (n := m + 1 + 1 + 1 + 1 + 1) (by omega) (by omega),w64 (n := m + 1 + 1 + 1 + 1 + 1 + 1) (by omega) (by omega)]
   simp only [hlt,decide_true,if_true,Int.natCast_nonneg,Int.toNat_natCast,List.getElem?_eq_getElem hi,Option.bind_some,Bool.and_self,hw,List.getElem?_set_self,List.length_set,hi]
   exact markArcS_loop n hn M hM k (i + 1) (m + 1 + 1 + 1 + 1 + 1 + 1) _ (by omega) (by simp [hr]) (by omega) (by omega)
theorem markArcS_ok (xs : List T_Arc.ty) (hs : xs.length ≤ 1048576) (m : Nat) (hm : m ≤ 1125899906842624) : ∃ (m' : Nat) (ys : List T_Arc.ty),m' ≤ m + 4398046511104 ∧ laws_markArcS xs m = some ((m' : Int),ys) := by
 obtain ⟨r',q⟩ := markArcS_loop xs.length hs ((m + 6 * xs.length : Nat) : Int) (by omega) xs.length 0 m xs (by omega) rfl (by omega) (by omega)
 exact ⟨m + 6 * xs.length,r',by omega,by rw [laws_markArcS_eq]; exact q⟩
theorem markCordS_loop (n : Nat) (hn : n ≤ 1048576) (M : Int) (hM : M ≤ 1152921504606846976) : ∀ (k i : Nat) (m : Int) (r : List T_Neck.ty),i + k = n → r.length = n → 0 ≤ m → M = m + 4 * k → ∃ r' : List T_Neck.ty,laws_markCordS_p0 n n m i r = some (M,r')
 | 0,i,m,r,hk,hr,h0,h1 => by
   refine ⟨r,?_⟩
   rw [laws_markCordS_p0_eq]
   have : ¬ (i : Int) < (n : Int) := by omega
   simp only [this,decide_false,Bool.false_eq_true,if_false,hr,decide_true,if_true]
   congr 2; omega
 | k + 1,i,m,r,hk,hr,h0,h1 => by
   have hi : i < r.length := by omega
   have hlt : (i : Int) < (n : Int) := by omega
   have hw : IntKind.i64.wrap ((i : Int) + 1) = ((i + 1 : Nat) : Int) := by rw [w64 (by omega) (by omega)]; omega
   rw [laws_markCordS_p0_eq,w64 (n := m + 1) (by omega) (by omega),w64 (n := m + 1 + 1) (by omega) (by omega),w64 (n := m + 1 + 1 + 1) (by omega) (by omega),w64 (n := m + 1 + 1 + 1 + 1) (by omega) (by omega)]
   simp only [hlt,decide_true,if_true,Int.natCast_nonneg,Int.toNat_natCast,List.getElem?_eq_getElem hi,Option.bind_some,Bool.and_self,hw,List.getElem?_set_self,List.length_set,hi]
   exact markCordS_loop n hn M hM k (i + 1) (m + 1 + 1 + 1 + 1) _ (by omega) (by simp [hr]) (by omega) (by omega)
theorem markCordS_ok (xs : List T_Neck.ty) (hs : xs.length ≤ 1048576) (m : Nat) (hm : m ≤ 1125899906842624) : ∃ (m' : Nat) (ys : List T_Neck.ty),m' ≤ m + 4398046511104 ∧ laws_markCordS xs m = some ((m' : Int),ys) := by
 obtain ⟨r',q⟩ := markCordS_loop xs.length hs ((m + 4 * xs.length : Nat) : Int) (by omega) xs.length 0 m xs (by omega) rfl (by omega) (by omega)
 exact ⟨m + 4 * xs.length,r',by omega,by rw [laws_markCordS_eq]; exact q⟩
theorem markRentalS_loop (n : Nat) (hn : n ≤ 1048576) (M : Int) (hM : M ≤ 1152921504606846976) : ∀ (k i : Nat) (m : Int) (r : List T_Paper.ty),i + k = n → r.length = n → 0 ≤ m → M = m + 5 * k → ∃ r' : List T_Paper.ty,laws_markRentalS_p0 n n m i r = some (M,r')
 | 0,i,m,r,hk,hr,h0,h1 => by
   refine ⟨r,?_⟩
   rw [laws_markRentalS_p0_eq]
   have : ¬ (i : Int) < (n : Int) := by omega
   simp only [this,decide_false,Bool.false_eq_true,if_false,hr,decide_true,if_true]
   congr 2; omega
 | k + 1,i,m,r,hk,hr,h0,h1 => by
   have hi : i < r.length := by omega
   have hlt : (i : Int) < (n : Int) := by omega
   have hw : IntKind.i64.wrap ((i : Int) + 1) = ((i + 1 : Nat) : Int) := by rw [w64 (by omega) (by omega)]; omega
   have t0 := markT_ok (m) (by omega)
   have t1 := markT_ok (m + 1) (by omega)
   rw [laws_markRentalS_p0_eq,w64 (n := m + 1) (by omega) (by omega),w64 (n := m + 1 + 1) (by omega) (by omega),w64 (n := m + 1 + 1 + 1) (by omega) (by omega),w64 (n := m + 1 + 1 + 1 + 1) (by omega) (by omega),w64 (n := m + 1 + 1 + 1 + 1 + 1) (by omega) (by omega)]
   simp only [hlt,decide_true,if_true,Int.natCast_nonneg,Int.toNat_natCast,List.getElem?_eq_getElem hi,Option.bind_some,Bool.and_self,hw,t0,t1,List.getElem?_set_self,List.length_set,hi]
   exact markRentalS_loop n hn M hM k (i + 1) (m + 1 + 1 + 1 + 1 + 1) _ (by omega) (by simp [hr]) (by omega) (by omega)
theorem markRentalS_ok (xs : List T_Paper.ty) (hs : xs.length ≤ 1048576) (m : Nat) (hm : m ≤ 1125899906842624) : ∃ (m' : Nat) (ys : List T_Paper.ty),m' ≤ m + 4398046511104 ∧ laws_markRentalS xs m = some ((m' : Int),ys) := by
 obtain ⟨r',q⟩ := markRentalS_loop xs.length hs ((m + 5 * xs.length : Nat) : Int) (by omega) xs.length 0 m xs (by omega) rfl (by omega) (by omega)
 exact ⟨m + 5 * xs.length,r',by omega,by rw [laws_markRentalS_eq]; exact q⟩
theorem markEntryS_loop (n : Nat) (hn : n ≤ 1048576) (M : Int) (hM : M ≤ 1152921504606846976) : ∀ (k i : Nat) (m : Int) (r : List T_Entry.ty),i + k = n → r.length = n → 0 ≤ m → M = m + 4 * k → ∃ r' : List T_Entry.ty,laws_markEntryS_p0 n n m i r = some (M,r')
 | 0,i,m,r,hk,hr,h0,h1 => by
   refine ⟨r,?_⟩
   rw [laws_markEntryS_p0_eq]
   have : ¬ (i : Int) < (n : Int) := by omega
   simp only [this,decide_false,Bool.false_eq_true,if_false,hr,decide_true,if_true]
   congr 2; omega
 | k + 1,i,m,r,hk,hr,h0,h1 => by
   have hi : i < r.length := by omega
   have hlt : (i : Int) < (n : Int) := by omega
   have hw : IntKind.i64.wrap ((i : Int) + 1) = ((i + 1 : Nat) : Int) := by rw [w64 (by omega) (by omega)]; omega
   have t1 := markT_ok (m + 1) (by omega)
   have t2 := markT_ok (m + 1 + 1) (by omega)
   rw [laws_markEntryS_p0_eq,w64 (n := m + 1) (by omega) (by omega),w64 (n := m + 1 + 1) (by omega) (by omega),w64 (n := m + 1 + 1 + 1) (by omega) (by omega),w64 (n := m + 1 + 1 + 1 + 1) (by omega) (by omega)]
   simp only [hlt,decide_true,if_true,Int.natCast_nonneg,Int.toNat_natCast,List.getElem?_eq_getElem hi,Option.bind_some,Bool.and_self,hw,t1,t2,List.getElem?_set_self,List.length_set,hi]
   exact markEntryS_loop n hn M hM k (i + 1) (m + 1 + 1 + 1 + 1) _ (by omega) (by simp [hr]) (by omega) (by omega)
theorem markEntryS_ok (xs : List T_Entry.ty) (hs : xs.length ≤ 1048576) (m : Nat) (hm : m ≤ 1125899906842624) : ∃ (m' : Nat) (ys : List T_Entry.ty),m' ≤ m + 4398046511104 ∧ laws_markEntryS xs m = some ((m' : Int),ys) := by
 obtain ⟨r',q⟩ := markEntryS_loop xs.length hs ((m + 4 * xs.length : Nat) : Int) (by omega) xs.length 0 m xs (by omega) rfl (by omega) (by omega)
 exact ⟨m + 4 * xs.length,r',by omega,by rw [laws_markEntryS_eq]; exact q⟩
noncomputable def pmarks (m : Int) : Nat → List T_Problem.ty
 | 0 => []
 | n + 1 => (m,markT (m + 1),markT (m + 1 + 1),()) :: pmarks (m + 1 + 1 + 1) n
theorem pmarks_len (m : Int) (n : Nat) : (pmarks m n).length = n := by
 induction n generalizing m with
 | zero => rfl
 | succ n ih => simp [pmarks,ih]
theorem pmarks_get (m : Int) (n i : Nat) (h : i < n) : (pmarks m n)[i]? = some (m + 3 * i,markT (m + 3 * i + 1),markT (m + 3 * i + 1 + 1),()) := by
 induction n generalizing m i with
 | zero => omega
 | succ n ih =>
   cases i with
   | zero => simp [pmarks]
   | succ i =>
     simp only [pmarks,List.getElem?_cons_succ]
     rw [ih (m + 1 + 1 + 1) i (by omega)]
     rw [show m + 1 + 1 + 1 + 3 * (i : Int) = m + 3 * ((i + 1 : Nat) : Int) by omega]
theorem markProblemS_loopP (m0 : Int) (n : Nat) (h0 : 0 ≤ m0) (hb : m0 + 3 * n ≤ 1152921504606846976) : ∀ (k i : Nat) (r : List T_Problem.ty),i + k = n → r.length = n → r.take i = (pmarks m0 n).take i →
 laws_markProblemS_p0 n n (m0 + 3 * i) i r = some (m0 + 3 * n,pmarks m0 n)
 | 0,i,r,hk,hr,ht => by
   rw [laws_markProblemS_p0_eq]
   have : ¬ (i : Int) < (n : Int) := by omega
   simp only [this,decide_false,Bool.false_eq_true,if_false,hr,decide_true,if_true]
   have hi : i = n := by omega
   have e : r = pmarks m0 n := by
    have h1 : r.take i = r := List.take_of_length_le (by omega)
    have h2 : (pmarks m0 n).take i = pmarks m0 n := List.take_of_length_le (by rw [pmarks_len]; omega)
    rw [h1,h2] at ht; exact ht
   rw [e,hi]
 | k + 1,i,r,hk,hr,ht => by
   have hi : i < r.length := by omega
   have hlt : (i : Int) < (n : Int) := by omega
   have hw : IntKind.i64.wrap ((i : Int) + 1) = ((i + 1 : Nat) : Int) := by rw [w64 (by omega) (by omega)]; omega
   have t1 := markT_ok (m0 + 3 * i + 1) (by omega)
   have t2 := markT_ok (m0 + 3 * i + 1 + 1) (by omega)
   rw [laws_markProblemS_p0_eq,w64 (n := m0 + 3 * i + 1) (by omega) (by omega),w64 (n := m0 + 3 * i + 1 + 1) (by omega) (by omega),w64 (n := m0 + 3 * i + 1 + 1 + 1) (by omega) (by omega)]
   simp only [hlt,decide_true,if_true,Int.natCast_nonneg,Int.toNat_natCast,List.getElem?_eq_getElem hi,Option.bind_some,Bool.and_self,hw,t1,t2,List.getElem?_set_self,List.length_set,hi]
   rw [show m0 + 3 * (i : Int) + 1 + 1 + 1 = m0 + 3 * ((i + 1 : Nat) : Int) by omega]
   refine markProblemS_loopP m0 n h0 hb k (i + 1) _ (by omega) (by simp [hr]) ?_
   rw [List.take_add_one,List.take_add_one,List.getElem?_set_self (by simpa using hi),pmarks_get m0 n i (by omega),List.take_set_of_le (Nat.le_refl _),List.take_set_of_le (Nat.le_refl _),List.take_set_of_le (Nat.le_refl _),ht]
theorem markProblemS_okP (xs : List T_Problem.ty) (hs : xs.length ≤ 1048576) : laws_markProblemS xs 1 = some (((1 + 3 * xs.length : Nat) : Int),pmarks 1 xs.length) := by
 rw [laws_markProblemS_eq]
 have := markProblemS_loopP 1 xs.length (by omega) (by omega) xs.length 0 xs (by omega) rfl rfl
 rw [show ((1 + 3 * xs.length : Nat) : Int) = 1 + 3 * (xs.length : Int) by omega]
 simpa using this
theorem heldProblemS_loop (m0 : Int) (n : Nat) (h0 : 0 ≤ m0) (hb : m0 + 3 * n ≤ 1152921504606846976) : ∀ (k i : Nat),i + k = n → laws_heldProblemS_p0 (pmarks m0 n) (m0 + 3 * i) i = some (m0 + 3 * n)
 | 0,i,hk => by
   rw [laws_heldProblemS_p0_eq,pmarks_len]
   have : ¬ (i : Int) < (n : Int) := by omega
   simp only [this,decide_false,Bool.false_eq_true,if_false]
   congr 1; omega
 | k + 1,i,hk => by
   have hlt : (i : Int) < (n : Int) := by omega
   have hw : IntKind.i64.wrap ((i : Int) + 1) = ((i + 1 : Nat) : Int) := by rw [w64 (by omega) (by omega)]; omega
   have t1 := markT_ok (m0 + 3 * i + 1) (by omega)
   have t2 := markT_ok (m0 + 3 * i + 1 + 1) (by omega)
   rw [laws_heldProblemS_p0_eq,pmarks_len,w64 (n := m0 + 3 * i + 1) (by omega) (by omega),w64 (n := m0 + 3 * i + 1 + 1) (by omega) (by omega),w64 (n := m0 + 3 * i + 1 + 1 + 1) (by omega) (by omega)]
   simp only [hlt,decide_true,if_true,Int.natCast_nonneg,Int.toNat_natCast,pmarks_get m0 n i (by omega),Option.bind_some,hw,t1,t2,bne_self_eq_false,beq_self_eq_true,Bool.not_true,Bool.false_eq_true,if_false]
   rw [show m0 + 3 * (i : Int) + 1 + 1 + 1 = m0 + 3 * ((i + 1 : Nat) : Int) by omega]
   exact heldProblemS_loop m0 n h0 hb k (i + 1) (by omega)
theorem heldProblemS_ok (n : Nat) (hs : n ≤ 1048576) : laws_heldProblemS (pmarks 1 n) 1 = some ((1 + 3 * n : Nat) : Int) := by
 rw [laws_heldProblemS_eq,show ((1 + 3 * n : Nat) : Int) = 1 + 3 * (n : Int) by omega]
 have := heldProblemS_loop 1 n (by omega) (by omega) n 0 (by omega)
 simpa using this
theorem szOne {α : Type} (n : Nat) (f : α → Int → Option Int) (x : α) (hx : n ≤ 9223372036854775807) (l : Int) (h : f x l = if decide (IntKind.i64.wrap (l - (n : Int)) < 0) then some (-1) else some (IntKind.i64.wrap (l - (n : Int)))) (h0 : 0 ≤ l) (h1 : l ≤ 1048576) :
 ∃ r,f x l = some r ∧ r ≤ l ∧ (0 ≤ r → n ≤ 1048576) := by
 rw [h,w64 (n := l - n) (by omega) (by omega)]
 by_cases hn : l - (n : Int) < 0
 ·simp only [hn,decide_true,if_true]; exact ⟨-1,rfl,by omega,fun h => by omega⟩
 ·simp only [hn,decide_false,Bool.false_eq_true,if_false]; exact ⟨_,rfl,by omega,fun h => by omega⟩
theorem szTwo {α : Type} (n m : Nat) (f : α → Int → Option Int) (x : α) (hx : n ≤ 9223372036854775807) (hm : m ≤ 9223372036854775807) (l : Int) (h : f x l = if decide (IntKind.i64.wrap (l - (n : Int)) < 0) then some (-1) else if decide (IntKind.i64.wrap ((IntKind.i64.wrap (l - (n : Int))) - (m : Int)) < 0) then some (-1) else some (IntKind.i64.wrap ((IntKind.i64.wrap (l - (n : Int))) - (m : Int)))) (h0 : 0 ≤ l) (h1 : l ≤ 1048576) :
 ∃ r,f x l = some r ∧ r ≤ l ∧ (0 ≤ r → n ≤ 1048576 ∧ m ≤ 1048576) := by
 rw [h,w64 (n := l - n) (by omega) (by omega)]
 by_cases hn : l - (n : Int) < 0
 ·simp only [hn,decide_true,if_true]; exact ⟨-1,rfl,by omega,fun h => by omega⟩
 simp only [hn,decide_false,Bool.false_eq_true,if_false]
 rw [w64 (n := l - n - m) (by omega) (by omega)]
 by_cases hn2 : l - (n : Int) - m < 0
 ·simp only [hn2,decide_true,if_true]; exact ⟨-1,rfl,by omega,fun h => by omega⟩
 ·simp only [hn2,decide_false,Bool.false_eq_true,if_false]; exact ⟨_,rfl,by omega,fun h => ⟨by omega,by omega⟩⟩
theorem szRental_ok (x : T_Paper.ty) (hx : x.1.length ≤ 9223372036854775807 ∧ x.2.1.length ≤ 9223372036854775807) (l : Int) (h0 : 0 ≤ l) (h1 : l ≤ 1048576) : ∃ n,laws_szRental x l = some n ∧ n ≤ l ∧ (0 ≤ n → x.1.length ≤ 1048576 ∧ x.2.1.length ≤ 1048576) :=
 szTwo (List.length (α := UInt8) x.1) (List.length (α := UInt8) x.2.1) laws_szRental x hx.1 hx.2 l (laws_szRental_eq x l) h0 h1
theorem szRentalS_ok (xs : List T_Paper.ty) (hl : xs.length ≤ 9223372036854775807) (hx : ∀ x,x ∈ xs → x.1.length ≤ 9223372036854775807 ∧ x.2.1.length ≤ 9223372036854775807) (l : Int) (h0 : 0 ≤ l) (h1 : l ≤ 1048576) :
 ∃ n,laws_szRentalS xs l = some n ∧ n ≤ l ∧ (0 ≤ n → xs.length ≤ 1048576 ∧ ∀ x,x ∈ xs → x.1.length ≤ 1048576 ∧ x.2.1.length ≤ 1048576) :=
 szList (P := fun x : T_Paper.ty => x.1.length ≤ 1048576 ∧ x.2.1.length ≤ 1048576) xs laws_szRental laws_szRentalS_p0 laws_szRentalS (fun l i => laws_szRentalS_p0_eq xs l i) (fun l => laws_szRentalS_eq xs l) hl (fun x hm l h0 h1 => szRental_ok x (hx x hm) l h0 h1) l h0 h1
theorem szEntry_ok (x : T_Entry.ty) (hx : x.2.1.length ≤ 9223372036854775807 ∧ x.2.2.1.length ≤ 9223372036854775807) (l : Int) (h0 : 0 ≤ l) (h1 : l ≤ 1048576) : ∃ n,laws_szEntry x l = some n ∧ n ≤ l ∧ (0 ≤ n → x.2.1.length ≤ 1048576 ∧ x.2.2.1.length ≤ 1048576) :=
 szTwo (List.length (α := UInt8) x.2.1) (List.length (α := UInt8) x.2.2.1) laws_szEntry x hx.1 hx.2 l (laws_szEntry_eq x l) h0 h1
theorem szEntryS_ok (xs : List T_Entry.ty) (hl : xs.length ≤ 9223372036854775807) (hx : ∀ x,x ∈ xs → x.2.1.length ≤ 9223372036854775807 ∧ x.2.2.1.length ≤ 9223372036854775807) (l : Int) (h0 : 0 ≤ l) (h1 : l ≤ 1048576) :
 ∃ n,laws_szEntryS xs l = some n ∧ n ≤ l ∧ (0 ≤ n → xs.length ≤ 1048576 ∧ ∀ x,x ∈ xs → x.2.1.length ≤ 1048576 ∧ x.2.2.1.length ≤ 1048576) :=
 szList (P := fun x : T_Entry.ty => x.2.1.length ≤ 1048576 ∧ x.2.2.1.length ≤ 1048576) xs laws_szEntry laws_szEntryS_p0 laws_szEntryS (fun l i => laws_szEntryS_p0_eq xs l i) (fun l => laws_szEntryS_eq xs l) hl (fun x hm l h0 h1 => szEntry_ok x (hx x hm) l h0 h1) l h0 h1
theorem toRentalS_ok (xs : List T_Paper.ty) (hs : xs.length ≤ 1048576) : laws_toRentalS xs = some xs :=
 toList_ok xs _ laws_toRental laws_toRentalS_p0 laws_toRentalS (fun n i r => laws_toRentalS_p0_eq xs n i r) (laws_toRentalS_eq xs) hs (fun x _ => laws_toRental_eq x)
theorem eqRental_self (x : T_Paper.ty) : laws_eqRental x x = some true := by
 rw [laws_eqRental_eq]; simp
theorem eqRentalS_ok (xs : List T_Paper.ty) (hs : xs.length ≤ 1048576) : laws_eqRentalS xs xs = some true :=
 eqList_ok xs laws_eqRental laws_eqRentalS_p0 laws_eqRentalS (fun i => laws_eqRentalS_p0_eq xs xs i) (laws_eqRentalS_eq xs xs) hs (fun x _ => eqRental_self x)
theorem toEntryS_ok (xs : List T_Entry.ty) (hs : xs.length ≤ 1048576) : laws_toEntryS xs = some xs :=
 toList_ok xs _ laws_toEntry laws_toEntryS_p0 laws_toEntryS (fun n i r => laws_toEntryS_p0_eq xs n i r) (laws_toEntryS_eq xs) hs (fun x _ => laws_toEntry_eq x)
theorem eqEntry_self (x : T_Entry.ty) : laws_eqEntry x x = some true := by
 rw [laws_eqEntry_eq]; simp
theorem eqEntryS_ok (xs : List T_Entry.ty) (hs : xs.length ≤ 1048576) : laws_eqEntryS xs xs = some true :=
 eqList_ok xs laws_eqEntry laws_eqEntryS_p0 laws_eqEntryS (fun i => laws_eqEntryS_p0_eq xs xs i) (laws_eqEntryS_eq xs xs) hs (fun x _ => eqEntry_self x)
theorem toCordS_ok (xs : List T_Neck.ty) (hs : xs.length ≤ 1048576) : laws_toCordS xs = some xs :=
 toList_ok xs _ laws_toCord laws_toCordS_p0 laws_toCordS (fun n i r => laws_toCordS_p0_eq xs n i r) (laws_toCordS_eq xs) hs (fun x _ => laws_toCord_eq x)
theorem eqCord_self (x : T_Neck.ty) : laws_eqCord x x = some true := by
 rw [laws_eqCord_eq]; simp
theorem eqCordS_ok (xs : List T_Neck.ty) (hs : xs.length ≤ 1048576) : laws_eqCordS xs xs = some true :=
 eqList_ok xs laws_eqCord laws_eqCordS_p0 laws_eqCordS (fun i => laws_eqCordS_p0_eq xs xs i) (laws_eqCordS_eq xs xs) hs (fun x _ => eqCord_self x)
theorem toArc_self (x : T_Arc.ty) : laws_toArc x = some x := by
 rw [laws_toArc_eq]; simp only [laws_toPoint_eq,Option.bind_some]
theorem toArcS_ok (xs : List T_Arc.ty) (hs : xs.length ≤ 1048576) : laws_toArcS xs = some xs :=
 toList_ok xs _ laws_toArc laws_toArcS_p0 laws_toArcS (fun n i r => laws_toArcS_p0_eq xs n i r) (laws_toArcS_eq xs) hs (fun x _ => toArc_self x)
theorem eqPoint_self (x : T_Point.ty) : laws_eqPoint x x = some true := by
 rw [laws_eqPoint_eq]; simp
theorem eqArc_self (x : T_Arc.ty) : laws_eqArc x x = some true := by
 rw [laws_eqArc_eq]; simp only [eqPoint_self,Option.bind_some,Bool.not_true,Bool.false_eq_true,if_false]
theorem eqArcS_ok (xs : List T_Arc.ty) (hs : xs.length ≤ 1048576) : laws_eqArcS xs xs = some true :=
 eqList_ok xs laws_eqArc laws_eqArcS_p0 laws_eqArcS (fun i => laws_eqArcS_p0_eq xs xs i) (laws_eqArcS_eq xs xs) hs (fun x _ => eqArc_self x)
theorem toInt64S_ok (xs : List Int) (hs : xs.length ≤ 1048576) : laws_toInt64S xs = some xs :=
 toList_ok xs (0 : Int) some laws_toInt64S_p0 laws_toInt64S (fun n i r => laws_toInt64S_p0_eq xs n i r) (laws_toInt64S_eq xs) hs (fun x _ => rfl)
theorem eqStep_self (x : T_Step.ty) (h : List.length (α := Int) x.2.2.2.1 ≤ 1048576) : laws_eqStep x x = some true := by
 rw [laws_eqStep_eq,eqInt64S_ok _ h]; simp
theorem eqStepS_ok (xs : List T_Step.ty) (hs : xs.length ≤ 1048576) (hx : ∀ x,x ∈ xs → List.length (α := Int) x.2.2.2.1 ≤ 1048576) : laws_eqStepS xs xs = some true :=
 eqList_ok xs laws_eqStep laws_eqStepS_p0 laws_eqStepS (fun i => laws_eqStepS_p0_eq xs xs i) (laws_eqStepS_eq xs xs) hs (fun x hm => eqStep_self x (hx x hm))
theorem szInt64S_ok (x : List Int) (hx : x.length ≤ 9223372036854775807) (l : Int) (h0 : 0 ≤ l) (h1 : l ≤ 1048576) : ∃ n,laws_szInt64S x l = some n ∧ n ≤ l ∧ (0 ≤ n → x.length ≤ 1048576) :=
 szOne x.length laws_szInt64S x hx l (laws_szInt64S_eq x l) h0 h1
theorem szArcS_ok (x : List T_Arc.ty) (hx : x.length ≤ 9223372036854775807) (l : Int) (h0 : 0 ≤ l) (h1 : l ≤ 1048576) : ∃ n,laws_szArcS x l = some n ∧ n ≤ l ∧ (0 ≤ n → x.length ≤ 1048576) :=
 szOne x.length laws_szArcS x hx l (laws_szArcS_eq x l) h0 h1
theorem szCordS_ok (x : List T_Neck.ty) (hx : x.length ≤ 9223372036854775807) (l : Int) (h0 : 0 ≤ l) (h1 : l ≤ 1048576) : ∃ n,laws_szCordS x l = some n ∧ n ≤ l ∧ (0 ≤ n → x.length ≤ 1048576) :=
 szOne x.length laws_szCordS x hx l (laws_szCordS_eq x l) h0 h1
theorem szStep_ok (x : T_Step.ty) (hx : x.1.length ≤ 9223372036854775807 ∧ List.length (α := Int) x.2.2.2.1 ≤ 9223372036854775807) (l : Int) (h0 : 0 ≤ l) (h1 : l ≤ 1048576) :
 ∃ n,laws_szStep x l = some n ∧ n ≤ l ∧ (0 ≤ n → x.1.length ≤ 1048576 ∧ List.length (α := Int) x.2.2.2.1 ≤ 1048576) := by
 rw [laws_szStep_eq]
 obtain ⟨g1,g2⟩ := hx
 generalize hm : (List.length (α := UInt8) x.1) = m at g1 ⊢
 rw [w64 (n := l - m) (by omega) (by omega)]
 by_cases hn : l - (m : Int) < 0
 ·exact ⟨-1,by simp [hn],by omega,fun h => by omega⟩
 obtain ⟨n,e1,e2,e3⟩ := szInt64S_ok x.2.2.2.1 g2 (l - m) (by omega) (by omega)
 simp only [hn,decide_false,Bool.false_eq_true,if_false,e1,Option.bind_some]
 by_cases hn2 : n < 0
 ·exact ⟨-1,by simp [hn2],by omega,fun h => by omega⟩
 ·exact ⟨n,by simp [hn2],by omega,fun h => ⟨by omega,e3 h⟩⟩
theorem szStepS_ok (xs : List T_Step.ty) (hl : xs.length ≤ 9223372036854775807) (hx : ∀ x,x ∈ xs → x.1.length ≤ 9223372036854775807 ∧ List.length (α := Int) x.2.2.2.1 ≤ 9223372036854775807) (l : Int) (h0 : 0 ≤ l) (h1 : l ≤ 1048576) :
 ∃ n,laws_szStepS xs l = some n ∧ n ≤ l ∧ (0 ≤ n → xs.length ≤ 1048576 ∧ ∀ x,x ∈ xs → x.1.length ≤ 1048576 ∧ List.length (α := Int) x.2.2.2.1 ≤ 1048576) :=
 szList (P := fun x : T_Step.ty => x.1.length ≤ 1048576 ∧ List.length (α := Int) x.2.2.2.1 ≤ 1048576) xs laws_szStep laws_szStepS_p0 laws_szStepS (fun l i => laws_szStepS_p0_eq xs l i) (fun l => laws_szStepS_eq xs l) hl (fun x hm l h0 h1 => szStep_ok x (hx x hm) l h0 h1) l h0 h1
def shopSmall (x : T_Shop.ty) : Prop :=
 List.length (α := T_Arc.ty) x.1 ≤ 1048576 ∧ List.length (α := T_Neck.ty) x.2.1 ≤ 1048576 ∧
 (List.length (α := T_Step.ty) x.2.2.2.1 ≤ 1048576 ∧ ∀ y : T_Step.ty,y ∈ x.2.2.2.1 → y.1.length ≤ 1048576 ∧ List.length (α := Int) y.2.2.2.1 ≤ 1048576) ∧
 List.length (α := Int) x.2.2.2.2.1 ≤ 1048576 ∧
 (List.length (α := T_Paper.ty) x.2.2.2.2.2.2.1 ≤ 1048576 ∧ ∀ y : T_Paper.ty,y ∈ x.2.2.2.2.2.2.1 → y.1.length ≤ 1048576 ∧ y.2.1.length ≤ 1048576) ∧
 (List.length (α := T_Entry.ty) x.2.2.2.2.2.2.2.1 ≤ 1048576 ∧ ∀ y : T_Entry.ty,y ∈ x.2.2.2.2.2.2.2.1 → y.2.1.length ≤ 1048576 ∧ y.2.2.1.length ≤ 1048576)
theorem szShop_ok (x : T_Shop.ty) (h : ET.wf T_Shop x) : ∃ n,laws_szShop x 1048576 = some n ∧ (0 ≤ n → shopSmall x) := by
 obtain ⟨a,b,c,d,e,f,g,i,⟨⟩⟩ := x
 obtain ⟨w1,w2,_,w4,w5,_,w7,w8,_⟩ := h
 have ml : Go.maxLen = 9223372036854775807 := maxLen_eq
 obtain ⟨n1,s1,l1,k1⟩ := szArcS_ok a (ml ▸ w1.1) 1048576 (by omega) (by omega)
 rw [laws_szShop_eq]
 simp only [s1,Option.bind_some]
 by_cases c1 : n1 < 0
 ·exact ⟨-1,by simp [c1],fun h => by omega⟩
 obtain ⟨n2,s2,l2,k2⟩ := szCordS_ok b (ml ▸ w2.1) n1 (by omega) (by omega)
 simp only [c1,decide_false,Bool.false_eq_true,if_false,s2,Option.bind_some]
 by_cases c2 : n2 < 0
 ·exact ⟨-1,by simp [c2],fun h => by omega⟩
 obtain ⟨n3,s3,l3,k3⟩ := szStepS_ok d (ml ▸ w4.1) (fun x hx => ml ▸ ⟨(w4.2 x hx).1,(w4.2 x hx).2.2.2.1.1⟩) n2 (by omega) (by omega)
 simp only [c2,decide_false,Bool.false_eq_true,if_false,s3,Option.bind_some]
 by_cases c3 : n3 < 0
 ·exact ⟨-1,by simp [c3],fun h => by omega⟩
 obtain ⟨n4,s4,l4,k4⟩ := szInt64S_ok e (ml ▸ w5.1) n3 (by omega) (by omega)
 simp only [c3,decide_false,Bool.false_eq_true,if_false,s4,Option.bind_some]
 by_cases c4 : n4 < 0
 ·exact ⟨-1,by simp [c4],fun h => by omega⟩
 obtain ⟨n5,s5,l5,k5⟩ := szRentalS_ok g (ml ▸ w7.1) (fun x hx => ml ▸ ⟨(w7.2 x hx).1,(w7.2 x hx).2.1⟩) n4 (by omega) (by omega)
 simp only [c4,decide_false,Bool.false_eq_true,if_false,s5,Option.bind_some]
 by_cases c5 : n5 < 0
 ·exact ⟨-1,by simp [c5],fun h => by omega⟩
 obtain ⟨n6,s6,l6,k6⟩ := szEntryS_ok i (ml ▸ w8.1) (fun x hx => ml ▸ ⟨(w8.2 x hx).2.1,(w8.2 x hx).2.2.1⟩) n5 (by omega) (by omega)
 simp only [c5,decide_false,Bool.false_eq_true,if_false,s6,Option.bind_some]
 by_cases c6 : n6 < 0
 ·exact ⟨-1,by simp [c6],fun h => by omega⟩
 ·exact ⟨n6,by simp [c6],fun _ => ⟨k1 (by omega),k2 (by omega),k3 (by omega),k4 (by omega),k5 (by omega),k6 (by omega)⟩⟩
theorem eqShop_ok (x : T_Shop.ty) (h : shopSmall x) : laws_eqShop x x = some true := by
 obtain ⟨h1,h2,h3,h4,h5,h6⟩ := h
 rw [laws_eqShop_eq]
 simp only [eqArcS_ok _ h1,eqCordS_ok _ h2,eqStepS_ok _ h3.1 (fun y hy => (h3.2 y hy).2),eqInt64S_ok _ h4,eqRentalS_ok _ h5.1,eqEntryS_ok _ h6.1,Option.bind_some,Bool.not_true,Bool.false_eq_true,if_false,bne_self_eq_false]
def arcSq (a b c d : Int) : Int := IntKind.i64.wrap ((IntKind.i64.wrap ((IntKind.i64.wrap (a - c)) * (IntKind.i64.wrap (a - c)))) + (IntKind.i64.wrap ((IntKind.i64.wrap (b - d)) * (IntKind.i64.wrap (b - d)))))
def ptOk (a b : Int) : Bool := inR a (-100000) 100000 && inR b (-100000) 100000
def arcOk (x : T_Arc.ty) : Bool := ptOk x.1 x.2.1 && (ptOk x.2.2.1 x.2.2.2.1 && (ptOk x.2.2.2.2.1 x.2.2.2.2.2.1 && (!((x.2.2.1 == x.2.2.2.2.1) && (x.2.2.2.1 == x.2.2.2.2.2.1)) && (arcSq x.1 x.2.1 x.2.2.1 x.2.2.2.1 == arcSq x.1 x.2.1 x.2.2.2.2.1 x.2.2.2.2.2.1))))
def arcAt (xs : List T_Arc.ty) (i : Nat) : T_Arc.ty := (xs[i]?).getD (0,0,0,0,0,0,())
def outC (xs : List T_Arc.ty) (i : Nat) : Bool := arcOk (arcAt xs i) && ((arcAt xs i).2.2.2.2.1 == (arcAt xs ((i + 1) % xs.length)).2.2.1 && (arcAt xs i).2.2.2.2.2.1 == (arcAt xs ((i + 1) % xs.length)).2.2.2.1)
def outOk (xs : List T_Arc.ty) : Bool := (List.range' 0 xs.length).all (outC xs) && inR (xs.length : Int) 2 16
theorem spec_l05One_ok (x : T_Arc.ty) : spec_l05One x = some (arcOk x) := by
 rw [spec_l05One_eq,arcOk]
 simp only [spec_l05Point_eq,spec_l00In_ok,spec_l05One_p0_eq,spec_l05Square_eq,Option.bind_some,ptOk,arcSq]
 cases inR x.1 (-100000) 100000
 ·rfl
 cases inR x.2.1 (-100000) 100000
 ·rfl
 cases inR x.2.2.1 (-100000) 100000
 ·rfl
 cases inR x.2.2.2.1 (-100000) 100000
 ·rfl
 cases inR x.2.2.2.2.1 (-100000) 100000
 ·rfl
 cases inR x.2.2.2.2.2.1 (-100000) 100000
 ·rfl
 cases ((x.2.2.1 == x.2.2.2.2.1) && (x.2.2.2.1 == x.2.2.2.2.2.1)) <;> simp
theorem impl_ValidArc_ok (x : T_Arc.ty) : impl_ValidArc x = some (arcOk x) := by
 rw [impl_ValidArc_eq,arcOk]
 simp only [impl_Point_valid_eq,impl_isCoord_eq,impl_within_ok,impl_squared_eq,Option.bind_some,ptOk,arcSq]
 cases inR x.1 (-100000) 100000
 ·rfl
 cases inR x.2.1 (-100000) 100000
 ·rfl
 cases inR x.2.2.1 (-100000) 100000
 ·rfl
 cases inR x.2.2.2.1 (-100000) 100000
 ·rfl
 cases inR x.2.2.2.2.1 (-100000) 100000
 ·rfl
 cases inR x.2.2.2.2.2.1 (-100000) 100000
 ·rfl
 cases ((x.2.2.1 == x.2.2.2.2.1) && (x.2.2.2.1 == x.2.2.2.2.2.1)) <;> simp
theorem next_at {n i : Nat} (hn : i < n) : ((((i : Int) + 1).tmod (n : Int)).toNat = (i + 1) % n) ∧ 0 ≤ ((i : Int) + 1).tmod (n : Int) := by
 have : ((i : Int) + 1).tmod (n : Int) = (((i + 1) % n : Nat) : Int) := by
  rw [Int.tmod_eq_emod_of_nonneg (by omega)]; rfl
 rw [this]; exact ⟨Int.toNat_natCast _,by omega⟩
theorem arcAt_get {xs : List T_Arc.ty} {i : Nat} (h : i < xs.length) : xs[i]? = some (arcAt xs i) := by simp [arcAt,List.getElem?_eq_getElem h]
theorem beq_pair (a b c d : Int) : (a == b && c == d) = (b == a && d == c) := by
 rw [show (a == b) = (b == a) from Bool.beq_comm,show (c == d) = (d == c) from Bool.beq_comm]
theorem spec_l05Ok_ok (xs : List T_Arc.ty) (hs : xs.length ≤ 1048576) : spec_l05Ok xs = some (outOk xs) := by
 rw [spec_l05Ok_eq,outOk]
 have := idxLoop xs.length (outC xs) (fun i => spec_l05Ok_p0 xs xs.length i) (some false) (some (inR (xs.length : Int) 2 16)) (fun i hi' => ?_) ?_ xs.length 0 (by omega)
 ·rw [show ((0 : Nat) : Int) = 0 from rfl] at this
  rw [this]; cases (List.range' 0 xs.length).all (outC xs) <;> rfl
 ·have hlt : (i : Int) < (xs.length : Int) := by omega
  have hw : IntKind.i64.wrap ((i : Int) + 1) = (i : Int) + 1 := by rw [w64 (by omega) (by omega)]
  have hc : ((i + 1 : Nat) : Int) = (i : Int) + 1 := by omega
  have hne : ¬ (xs.length : Int) = 0 := by omega
  obtain ⟨n1,n2⟩ := next_at hi'
  show spec_l05Ok_p0 xs xs.length i = _
  rw [spec_l05Ok_p0_eq]
  simp only [hlt,decide_true,if_true,Int.natCast_nonneg,Int.toNat_natCast,arcAt_get hi',Option.bind_some,spec_l05One_ok,hw,hc,hne,decide_false,Bool.false_eq_true,if_false,n1,n2,arcAt_get (Nat.mod_lt (i + 1) (show 0 < xs.length by omega)),outC]
  cases arcOk (arcAt xs i)
  ·simp
  ·simp only [Bool.not_true,Bool.false_eq_true,if_false,Bool.true_and]
   cases ((arcAt xs i).2.2.2.2.1 == (arcAt xs ((i + 1) % xs.length)).2.2.1 && (arcAt xs i).2.2.2.2.2.1 == (arcAt xs ((i + 1) % xs.length)).2.2.2.1) <;> simp
 ·show spec_l05Ok_p0 xs xs.length (xs.length : Int) = _
  rw [spec_l05Ok_p0_eq,inR]
  simp only [Int.lt_irrefl,decide_false,Bool.false_eq_true,if_false]
  by_cases h : 2 ≤ (xs.length : Int)
  ·simp [h]
  ·simp [h]
theorem impl_ValidOutline_ok (xs : List T_Arc.ty) (hs : xs.length ≤ 1048576) : impl_ValidOutline xs = some (outOk xs) := by
 rw [impl_ValidOutline_eq,outOk]
 have := idxLoop xs.length (outC xs) (fun i => impl_ValidOutline_p0 xs xs xs.length i) (some false) (some (inR (xs.length : Int) 2 16)) (fun i hi' => ?_) ?_ xs.length 0 (by omega)
 ·rw [show ((0 : Nat) : Int) = 0 from rfl] at this
  rw [this]; cases (List.range' 0 xs.length).all (outC xs) <;> rfl
 ·have hlt : (i : Int) < (xs.length : Int) := by omega
  have hw : IntKind.i64.wrap ((i : Int) + 1) = (i : Int) + 1 := by rw [w64 (by omega) (by omega)]
  have hc : ((i + 1 : Nat) : Int) = (i : Int) + 1 := by omega
  have hne : ¬ (xs.length : Int) = 0 := by omega
  obtain ⟨n1,n2⟩ := next_at hi'
  show impl_ValidOutline_p0 xs xs xs.length i = _
  rw [impl_ValidOutline_p0_eq]
  simp only [hlt,decide_true,if_true,Int.natCast_nonneg,Int.toNat_natCast,arcAt_get hi',Option.bind_some,impl_ValidArc_ok,impl_next_eq,hw,hc,hne,decide_false,Bool.false_eq_true,if_false,n1,n2,arcAt_get (Nat.mod_lt (i + 1) (show 0 < xs.length by omega)),outC]
  cases arcOk (arcAt xs i)
  ·simp
  ·simp only [Bool.not_true,Bool.false_eq_true,if_false,Bool.true_and]
   rw [beq_pair]
   cases ((arcAt xs i).2.2.2.2.1 == (arcAt xs ((i + 1) % xs.length)).2.2.1 && (arcAt xs i).2.2.2.2.2.1 == (arcAt xs ((i + 1) % xs.length)).2.2.2.1) <;> simp
 ·show impl_ValidOutline_p0 xs xs xs.length (xs.length : Int) = _
  rw [impl_ValidOutline_p0_eq]
  simp only [Int.lt_irrefl,decide_false,Bool.false_eq_true,if_false,impl_within_ok,Option.bind_some]
def cordOk (x : T_Neck.ty) : Bool := inR x.1 1 10000 && (inR x.2.1 1 500 && (inR x.2.2.1 1 10000 && inR x.2.2.2.1 1 500000))
def cordsOk (xs : List T_Neck.ty) : Bool := xs.all cordOk && decide ((xs.length : Int) ≤ 4)
theorem spec_l09One_ok (x : T_Neck.ty) : spec_l09One x = some (cordOk x) := by
 rw [spec_l09One_eq,cordOk]
 simp only [spec_l00In_ok,Option.bind_some]
 cases inR x.1 1 10000 <;> cases inR x.2.1 1 500 <;> cases inR x.2.2.1 1 10000 <;> rfl
theorem spec_l09List_ok (xs : List T_Neck.ty) (hs : xs.length ≤ 1048576) : spec_l09List xs = some (cordsOk xs) := by
 rw [spec_l09List_eq,cordsOk]
 have := allLoop xs spec_l09One cordOk (fun i => spec_l09List_p0 xs i) false (some (decide ((xs.length : Int) ≤ 4))) (fun i => spec_l09List_p0_eq xs i) (by omega) (fun x _ => spec_l09One_ok x) xs.length 0 (by omega)
 rw [show ((0 : Nat) : Int) = 0 from rfl,List.drop_zero] at this
 rw [this]; cases xs.all cordOk <;> rfl
theorem impl_ValidString_ok (x : T_Neck.ty) : impl_ValidString x = some (cordOk x) := by
 rw [impl_ValidString_eq,cordOk]
 simp only [impl_within_ok,Option.bind_some]
 cases inR x.1 1 10000 <;> cases inR x.2.1 1 500 <;> cases inR x.2.2.1 1 10000 <;> rfl
theorem impl_validCords_ok (xs : List T_Neck.ty) (hs : xs.length ≤ 1048576) : impl_validCords xs = some (cordsOk xs) := by
 rw [impl_validCords_eq,cordsOk]
 have := allLoop xs impl_ValidString cordOk (fun i => impl_validCords_p0 xs xs xs.length i) false (some (decide ((xs.length : Int) ≤ 4))) (fun i => by rw [impl_validCords_p0_eq,impl_few_eq]; rfl) (by omega) (fun x _ => impl_ValidString_ok x) xs.length 0 (by omega)
 rw [show ((0 : Nat) : Int) = 0 from rfl,List.drop_zero] at this
 rw [this]; cases xs.all cordOk <;> rfl
def startsOk (xs : List T_Step.ty) (l : List Int) : Bool := (l.all fun x => inR x 0 2400) && decide (l.length = xs.length)
theorem spec_l17Starts_ok (xs : List T_Step.ty) (l : List Int) (hs : l.length ≤ 1048576) : spec_l17Starts xs l = some (startsOk xs l) := by
 rw [spec_l17Starts_eq,startsOk]
 have := allLoop l (fun x => spec_l00In x 0 2400) (fun x => inR x 0 2400) (fun i => spec_l17Starts_p0 xs l i) false (some ((l.length : Int) == (xs.length : Int))) (fun i => spec_l17Starts_p0_eq xs l i) (by omega) (fun x _ => spec_l00In_ok x 0 2400) l.length 0 (by omega)
 rw [show ((0 : Nat) : Int) = 0 from rfl,List.drop_zero] at this
 rw [this]
 have e : ((l.length : Int) == (xs.length : Int)) = decide (l.length = xs.length) := by
  by_cases h : l.length = xs.length <;> simp [h]
  omega
 rw [e]; cases l.all fun x => inR x 0 2400 <;> rfl
theorem impl_areStarts_ok (xs : List T_Step.ty) (l : List Int) (hs : l.length ≤ 1048576) : impl_areStarts xs l = some (startsOk xs l) := by
 rw [impl_areStarts_eq,startsOk]
 have := allLoop l (fun x => impl_within x 0 2400) (fun x => inR x 0 2400) (fun i => impl_areStarts_p0 xs l l l.length i) false (some ((l.length : Int) == (xs.length : Int))) (fun i => impl_areStarts_p0_eq xs l l l.length i) (by omega) (fun x _ => impl_within_ok x 0 2400) l.length 0 (by omega)
 rw [show ((0 : Nat) : Int) = 0 from rfl,List.drop_zero] at this
 rw [this]
 have e : ((l.length : Int) == (xs.length : Int)) = decide (l.length = xs.length) := by
  by_cases h : l.length = xs.length <;> simp [h]
  omega
 rw [e]; cases l.all fun x => inR x 0 2400 <;> rfl
def rentalOk (x : T_Paper.ty) : Bool := isName x.1 && (isName x.2.1 && (inR x.2.2.1 0 100000 && (inR x.2.2.2.1 1 120 && inR x.2.2.2.2.1 0 10000000)))
def rentalsOk (xs : List T_Paper.ty) : Bool := sortedChk rentalOk (fun x => x.1) none xs && decide ((xs.length : Int) ≤ 12)
theorem spec_l21One_ok (x : T_Paper.ty) (h0 : x.1.length < 4611686018427387904) (h1 : x.2.1.length < 4611686018427387904) : spec_l21One x = some (rentalOk x) := by
 rw [spec_l21One_eq,rentalOk]
 simp only [spec_l01Name_ok x.1 h0,spec_l01Name_ok x.2.1 h1,spec_l21Day_eq,spec_l21Money_eq,spec_l00In_ok,Option.bind_some]
 cases isName x.1 <;> cases isName x.2.1 <;> cases inR x.2.2.1 0 100000 <;> cases inR x.2.2.2.1 1 120 <;> rfl
theorem impl_Rental_valid_ok (x : T_Paper.ty) (h0 : x.1.length < 4611686018427387904) (h1 : x.2.1.length < 4611686018427387904) : impl_Rental_valid x = some (rentalOk x) := by
 rw [impl_Rental_valid_eq,rentalOk]
 simp only [impl_IsName_ok x.1 h0,impl_IsName_ok x.2.1 h1,impl_isRentDay_eq,impl_isMonths_eq,impl_isMoney_eq,impl_within_ok,Option.bind_some]
 cases isName x.1 <;> cases isName x.2.1 <;> cases inR x.2.2.1 0 100000 <;> cases inR x.2.2.2.1 1 120 <;> rfl
theorem spec_l21Ok_ok (xs : List T_Paper.ty) (hs : xs.length ≤ 1048576) (hx : ∀ x,x ∈ xs → x.1.length ≤ 1048576 ∧ x.2.1.length ≤ 1048576) : spec_l21Ok xs = some (rentalsOk xs) := by
 rw [spec_l21Ok_eq]
 exact sortedLoopS xs spec_l21One rentalOk (fun x => x.1) (fun i => spec_l21Ok_p0 xs i) _ _ rfl (fun i => spec_l21Ok_p0_eq xs i) hs (fun x hm => spec_l21One_ok x (Nat.lt_of_le_of_lt (hx x hm).1 (by decide)) (Nat.lt_of_le_of_lt (hx x hm).2 (by decide))) xs.length 0 (by omega)
theorem impl_ValidRentals_ok (xs : List T_Paper.ty) (hs : xs.length ≤ 1048576) (hx : ∀ x,x ∈ xs → x.1.length ≤ 1048576 ∧ x.2.1.length ≤ 1048576) : impl_ValidRentals xs = some (rentalsOk xs) := by
 rw [impl_ValidRentals_eq]
 exact sortedLoopI xs impl_Rental_valid rentalOk (fun x => x.1) (fun i => impl_ValidRentals_p0 xs xs xs.length i) _ _ (show ((impl_few (xs.length : Int) 12).bind fun x4 => some x4) = some (decide ((xs.length : Int) ≤ 12)) by rw [impl_few_eq]; rfl) (fun i => impl_ValidRentals_p0_eq xs xs xs.length i) hs (fun x hm => impl_Rental_valid_ok x (Nat.lt_of_le_of_lt (hx x hm).1 (by decide)) (Nat.lt_of_le_of_lt (hx x hm).2 (by decide))) xs.length 0 (by omega)
def entryOk (x : T_Entry.ty) : Bool := inR x.1 0 100000 && (isName x.2.1 && (isName x.2.2.1 && (!(x.2.1 == x.2.2.1) && inR x.2.2.2.1 1 10000000)))
def entryAt (xs : List T_Entry.ty) (i : Nat) : T_Entry.ty := (xs[i]?).getD (0,[],[],0,())
def bookC (xs : List T_Entry.ty) (i : Nat) : Bool := entryOk (entryAt xs i) && (decide (i = 0) || !decide ((entryAt xs (i - 1)).1 > (entryAt xs i).1))
def bookOk (xs : List T_Entry.ty) : Bool := (List.range' 0 xs.length).all (bookC xs) && decide ((xs.length : Int) ≤ 32)
theorem entryAt_get {xs : List T_Entry.ty} {i : Nat} (h : i < xs.length) : xs[i]? = some (entryAt xs i) := by simp [entryAt,List.getElem?_eq_getElem h]
theorem entryAt_mem {xs : List T_Entry.ty} {i : Nat} (h : i < xs.length) : entryAt xs i ∈ xs := List.mem_of_getElem? (entryAt_get h)
theorem spec_l25One_ok (x : T_Entry.ty) (h0 : x.2.1.length < 4611686018427387904) (h1 : x.2.2.1.length < 4611686018427387904) : spec_l25One x = some (entryOk x) := by
 rw [spec_l25One_eq,entryOk]
 simp only [spec_l01Name_ok x.2.1 h0,spec_l01Name_ok x.2.2.1 h1,spec_l21Day_eq,spec_l00In_ok,Option.bind_some]
 cases inR x.1 0 100000 <;> cases isName x.2.1 <;> cases isName x.2.2.1 <;> cases (x.2.1 == x.2.2.1) <;> rfl
theorem impl_Entry_valid_ok (x : T_Entry.ty) (h0 : x.2.1.length < 4611686018427387904) (h1 : x.2.2.1.length < 4611686018427387904) : impl_Entry_valid x = some (entryOk x) := by
 rw [impl_Entry_valid_eq,entryOk]
 simp only [impl_IsName_ok x.2.1 h0,impl_IsName_ok x.2.2.1 h1,impl_isRentDay_eq,impl_within_ok,Option.bind_some]
 cases inR x.1 0 100000 <;> cases isName x.2.1 <;> cases isName x.2.2.1 <;> cases (x.2.1 == x.2.2.1) <;> rfl
theorem spec_l25Ok_ok (xs : List T_Entry.ty) (hs : xs.length ≤ 1048576) (hx : ∀ x,x ∈ xs → x.2.1.length ≤ 1048576 ∧ x.2.2.1.length ≤ 1048576) : spec_l25Ok xs = some (bookOk xs) := by
 rw [spec_l25Ok_eq,bookOk]
 have := idxLoop xs.length (bookC xs) (fun i => spec_l25Ok_p0 xs i) (some false) (some (decide ((xs.length : Int) ≤ 32))) (fun i hi' => ?_) ?_ xs.length 0 (by omega)
 ·rw [show ((0 : Nat) : Int) = 0 from rfl] at this
  rw [this]; cases (List.range' 0 xs.length).all (bookC xs) <;> rfl
 ·have hlt : (i : Int) < (xs.length : Int) := by omega
  have hw : IntKind.i64.wrap ((i : Int) + 1) = ((i + 1 : Nat) : Int) := by rw [w64 (by omega) (by omega)]; omega
  obtain ⟨g1,g2⟩ := hx _ (entryAt_mem hi')
  show spec_l25Ok_p0 xs i = _
  rw [spec_l25Ok_p0_eq]
  simp only [hlt,decide_true,if_true,Int.natCast_nonneg,Int.toNat_natCast,entryAt_get hi',Option.bind_some,spec_l25One_ok _ (Nat.lt_of_le_of_lt g1 (by decide)) (Nat.lt_of_le_of_lt g2 (by decide)),hw,bookC]
  by_cases he : entryOk (entryAt xs i) = true
  case neg => simp [Bool.eq_false_iff.2 he]
  case pos =>
   simp only [he,Bool.true_and,Bool.not_true,Bool.false_eq_true,if_false]
   by_cases h0 : i = 0
   ·subst h0; simp
   ·have hp : (i : Int) > 0 := by omega
    have hw2 : IntKind.i64.wrap ((i : Int) - 1) = ((i - 1 : Nat) : Int) := by rw [w64 (by omega) (by omega)]; omega
    simp only [hp,decide_true,if_true,hw2,Int.natCast_nonneg,Int.toNat_natCast,entryAt_get (show i - 1 < xs.length by omega),Option.bind_some,h0,decide_false,Bool.false_or,Bool.not_true,Bool.false_eq_true,if_false,Bool.true_and]
    by_cases hc : (entryAt xs (i - 1)).1 > (entryAt xs i).1
    ·simp [hc]
    ·simp [hc]
 ·show spec_l25Ok_p0 xs (xs.length : Int) = _
  rw [spec_l25Ok_p0_eq]; simp
theorem impl_ValidBook_ok (xs : List T_Entry.ty) (hs : xs.length ≤ 1048576) (hx : ∀ x,x ∈ xs → x.2.1.length ≤ 1048576 ∧ x.2.2.1.length ≤ 1048576) : impl_ValidBook xs = some (bookOk xs) := by
 rw [impl_ValidBook_eq,bookOk]
 have := idxLoop xs.length (bookC xs) (fun i => impl_ValidBook_p0 xs xs xs.length i) (some false) (some (decide ((xs.length : Int) ≤ 32))) (fun i hi' => ?_) ?_ xs.length 0 (by omega)
 ·rw [show ((0 : Nat) : Int) = 0 from rfl] at this
  rw [this]; cases (List.range' 0 xs.length).all (bookC xs) <;> rfl
 ·have hlt : (i : Int) < (xs.length : Int) := by omega
  have hw : IntKind.i64.wrap ((i : Int) + 1) = ((i + 1 : Nat) : Int) := by rw [w64 (by omega) (by omega)]; omega
  obtain ⟨g1,g2⟩ := hx _ (entryAt_mem hi')
  show impl_ValidBook_p0 xs xs xs.length i = _
  rw [impl_ValidBook_p0_eq]
  simp only [hlt,decide_true,if_true,Int.natCast_nonneg,Int.toNat_natCast,entryAt_get hi',Option.bind_some,impl_Entry_valid_ok _ (Nat.lt_of_le_of_lt g1 (by decide)) (Nat.lt_of_le_of_lt g2 (by decide)),hw,bookC]
  by_cases he : entryOk (entryAt xs i) = true
  case neg => simp [Bool.eq_false_iff.2 he]
  case pos =>
   simp only [he,Bool.true_and,Bool.not_true,Bool.false_eq_true,if_false]
   by_cases h0 : i = 0
   ·subst h0; simp
   ·have hp : (i : Int) > 0 := by omega
    have hw2 : IntKind.i64.wrap ((i : Int) - 1) = ((i - 1 : Nat) : Int) := by rw [w64 (by omega) (by omega)]; omega
    simp only [hp,decide_true,if_true,hw2,Int.natCast_nonneg,Int.toNat_natCast,entryAt_get (show i - 1 < xs.length by omega),Option.bind_some,h0,decide_false,Bool.false_or,Bool.not_true,Bool.false_eq_true,if_false,Bool.true_and]
    by_cases hc : (entryAt xs (i - 1)).1 > (entryAt xs i).1
    ·simp [hc]
    ·simp [hc]
 ·show impl_ValidBook_p0 xs xs xs.length (xs.length : Int) = _
  rw [impl_ValidBook_p0_eq,impl_few_eq]; simp
def shopOk (x : T_Shop.ty) : Bool :=
 outOk x.1 && (cordsOk x.2.1 && (inR x.2.2.1 0 1000 && (stepsOk x.2.2.2.1 && (startsOk x.2.2.2.1 x.2.2.2.2.1 && (inR x.2.2.2.2.2.1 0 240 && (rentalsOk x.2.2.2.2.2.2.1 && bookOk x.2.2.2.2.2.2.2.1))))))
theorem impl_ValidShop_ok (x : T_Shop.ty) (h : shopSmall x) : impl_ValidShop x = some (shopOk x) := by
 obtain ⟨h1,h2,h3,h4,h5,h6⟩ := h
 rw [impl_ValidShop_eq,shopOk]
 simp only [impl_ValidOutline_ok _ h1,impl_validCords_ok _ h2,impl_isShare_eq,impl_isClamps_eq,impl_within_ok,impl_ValidSteps_ok _ h3.1 h3.2,impl_areStarts_ok _ _ h4,impl_ValidRentals_ok _ h5.1 h5.2,impl_ValidBook_ok _ h6.1 h6.2,Option.bind_some]
 cases outOk x.1 <;> cases cordsOk x.2.1 <;> cases inR x.2.2.1 0 1000 <;> cases stepsOk x.2.2.2.1 <;> first | rfl | skip
 all_goals (cases startsOk x.2.2.2.1 x.2.2.2.2.1 <;> cases inR x.2.2.2.2.2.1 0 240 <;> cases rentalsOk x.2.2.2.2.2.2.1 <;> rfl)
theorem spec_l31Ok_ok (x : T_Shop.ty) (h : shopSmall x) : spec_l31Ok x = some (shopOk x) := by
 obtain ⟨h1,h2,h3,h4,h5,h6⟩ := h
 rw [spec_l31Ok_eq,shopOk]
 simp only [spec_l31Ok_p0_eq,spec_l05Ok_ok _ h1,spec_l09List_ok _ h2,spec_l09Share_eq,spec_l00In_ok,spec_l17Ok_ok _ h3.1 h3.2,spec_l17Starts_ok _ _ h4,spec_l21Ok_ok _ h5.1 h5.2,spec_l25Ok_ok _ h6.1 h6.2,Option.bind_some]
 cases outOk x.1 <;> cases cordsOk x.2.1 <;> cases inR x.2.2.1 0 1000 <;> cases stepsOk x.2.2.2.1 <;> first | rfl | skip
 all_goals (cases startsOk x.2.2.2.1 x.2.2.2.2.1 <;> cases inR x.2.2.2.2.2.1 0 240 <;> cases rentalsOk x.2.2.2.2.2.2.1 <;> rfl)
theorem shopOk_parts {x : T_Shop.ty} (h : shopOk x = true) : outOk x.1 = true ∧ cordsOk x.2.1 = true ∧ inR x.2.2.1 0 1000 = true ∧ stepsOk x.2.2.2.1 = true ∧ startsOk x.2.2.2.1 x.2.2.2.2.1 = true ∧ inR x.2.2.2.2.2.1 0 240 = true ∧ rentalsOk x.2.2.2.2.2.2.1 = true ∧ bookOk x.2.2.2.2.2.2.2.1 = true := by
 simp only [shopOk,Bool.and_eq_true] at h
 exact h
def sHrs (xs : List T_Step.ty) (i : Nat) : Int := (stAt xs i).2.1
def sClp (xs : List T_Step.ty) (i : Nat) : Int := (stAt xs i).2.2.1
def sAft (xs : List T_Step.ty) (i : Nat) : List Int := (stAt xs i).2.2.2.1
def sBeg (l : List Int) (i : Nat) : Int := (l[i]?).getD 0
def usedG (xs : List T_Step.ty) (l : List Int) (h : Int) (i : Nat) : Int := if decide (sBeg l i ≤ h) && decide (h < sBeg l i + sHrs xs i) then (if i < xs.length then sClp xs i else 0) else 0
def usedP (xs : List T_Step.ty) (l : List Int) (h : Int) : Int := sumG (usedG xs l h) 0 l.length
def endP (x : T_Paper.ty) : Int := x.2.2.1 + 30 * x.2.2.2.1
def rentAt (xs : List T_Paper.ty) (i : Nat) : T_Paper.ty := (xs[i]?).getD ([],[],0,0,0,())
theorem rentAt_get {xs : List T_Paper.ty} {i : Nat} (h : i < xs.length) : xs[i]? = some (rentAt xs i) := by simp [rentAt,List.getElem?_eq_getElem h]
structure RentFit (xs : List T_Paper.ty) : Prop where
 few : xs.length ≤ 12
 day : ∀ i,i < xs.length → (0 : Int) ≤ (rentAt xs i).2.2.1 ∧ ((rentAt xs i).2.2.1 : Int) ≤ 100000
 mon : ∀ i,i < xs.length → (1 : Int) ≤ (rentAt xs i).2.2.2.1 ∧ ((rentAt xs i).2.2.2.1 : Int) ≤ 120
theorem rentFit {xs : List T_Paper.ty} (h : rentalsOk xs = true) : RentFit xs := by
 simp only [rentalsOk,Bool.and_eq_true,decide_eq_true_eq] at h
 have ho : ∀ i,i < xs.length → rentalOk (rentAt xs i) = true := fun i hi => sortedChk_all h.1 _ (List.mem_of_getElem? (rentAt_get hi))
 refine ⟨by omega,fun i hi => ?_,fun i hi => ?_⟩
 ·have := ho i hi
  simp only [rentalOk,Bool.and_eq_true,inR_iff'] at this
  exact this.2.2.1
 ·have := ho i hi
  simp only [rentalOk,Bool.and_eq_true,inR_iff'] at this
  exact this.2.2.2.1
theorem rent_end (s m : Int) (h1 : 0 ≤ s ∧ s ≤ 100000) (h2 : 1 ≤ m ∧ m ≤ 120) : IntKind.i64.wrap (s + IntKind.i64.wrap (30 * m)) = s + 30 * m := by
 rw [w64 (n := 30 * m) (by omega) (by omega),w64 (by omega) (by omega)]
def clashB (x y : T_Paper.ty) : Bool := x.2.1 == y.2.1 && (decide (x.2.2.1 < endP y) && decide (y.2.2.1 < endP x))
def clashF (xs : List T_Paper.ty) (i j : Nat) : List (List Int) := if clashB (rentAt xs i) (rentAt xs j) then [[(i : Int),(j : Int)]] else []
def clashG (xs : List T_Paper.ty) (i : Nat) : List (List Int) := if i < xs.length then gather (clashF xs i) (i + 1) (xs.length - (i + 1)) else []
def clashesP (xs : List T_Paper.ty) : List (List Int) := gather (clashG xs) 0 xs.length
theorem clashF_len (xs : List T_Paper.ty) (i j : Nat) : (clashF xs i j).length ≤ 1 := by unfold clashF; split <;> simp
theorem clashG_len {xs : List T_Paper.ty} (h : xs.length ≤ 12) (i : Nat) : (clashG xs i).length ≤ 12 := by
 unfold clashG
 split
 ·have := gather_len (clashF_len xs i) (xs.length - (i + 1)) (i + 1); omega
 ·simp
theorem clashesP_len {xs : List T_Paper.ty} (h : xs.length ≤ 12) : (clashesP xs).length ≤ 144 := by
 have := gather_len (clashG_len h) xs.length 0
 unfold clashesP; omega
theorem clashesP_mem {xs : List T_Paper.ty} {c : List Int} (h : c ∈ clashesP xs) : ∃ i j : Nat,i < xs.length ∧ j < xs.length ∧ c = [(i : Int),(j : Int)] := by
 obtain ⟨i,h1,h2,h3⟩ := gather_mem _ _ h
 unfold clashG at h3
 split at h3
 ·obtain ⟨j,g1,g2,g3⟩ := gather_mem _ _ h3
  unfold clashF at g3
  split at g3
  ·simp only [List.mem_singleton] at g3
   exact ⟨i,j,by omega,by omega,g3⟩
  ·cases g3
 ·cases h3
theorem spec_l21Clash_ok {xs : List T_Paper.ty} (F : RentFit xs) {i j : Nat} (hi : i < xs.length) (hj : j < xs.length) : spec_l21Clash (rentAt xs i) (rentAt xs j) = some (clashB (rentAt xs i) (rentAt xs j)) := by
 rw [spec_l21Clash_eq,clashB]
 simp only [spec_l21End_eq,Option.bind_some,rent_end _ _ (F.day i hi) (F.mon i hi),rent_end _ _ (F.day j hj) (F.mon j hj),endP]
 cases ((rentAt xs i).2.1 == (rentAt xs j).2.1)
 ·simp
 ·by_cases c : (rentAt xs i).2.2.1 < (rentAt xs j).2.2.1 + 30 * (rentAt xs j).2.2.2.1
  ·simp [c]; rfl
  ·simp [c]
theorem minmax_clash (s1 s2 e1 e2 : Int) (h1 : s1 < e1) (h2 : s2 < e2) : decide ((if s2 > s1 then s2 else s1) < (if e2 < e1 then e2 else e1)) = (decide (s1 < e2) && decide (s2 < e1)) := by
 by_cases c1 : s2 > s1 <;> by_cases c2 : e2 < e1 <;> by_cases c3 : s1 < e2 <;> by_cases c4 : s2 < e1 <;> simp only [c1,c2,c3,c4,if_true,if_false,decide_true,decide_false,Bool.and_true,Bool.and_false,decide_eq_true_eq,decide_eq_false_iff_not] <;> omega
theorem impl_Rental_clashes_ok {xs : List T_Paper.ty} (F : RentFit xs) {i j : Nat} (hi : i < xs.length) (hj : j < xs.length) : impl_Rental_clashes (rentAt xs i) (rentAt xs j) = some (clashB (rentAt xs i) (rentAt xs j)) := by
 rw [impl_Rental_clashes_eq,clashB]
 have a1 := F.mon i hi
 have a2 := F.mon j hj
 simp only [impl_Rental_end_eq,Option.bind_some,rent_end _ _ (F.day i hi) (F.mon i hi),rent_end _ _ (F.day j hj) (F.mon j hj),endP]
 rw [minmax_clash _ _ _ _ (by omega) (by omega)]
 cases ((rentAt xs i).2.1 == (rentAt xs j).2.1)
 ·simp
 ·simp; rfl
theorem spec_l21Clashes_ok {xs : List T_Paper.ty} (F : RentFit xs) : spec_l21Clashes xs = some (clashesP xs) := by
 have ff := F.few
 rw [spec_l21Clashes_eq]
 refine accLoop xs.length 12 0 (clashG xs) (clashG_len ff) (fun i r => spec_l21Clashes_p0 xs i r) (fun r => some r) (fun i r hi hr => ?_) (fun r hr => ?_) xs.length 0 [] (by omega) (by simp)
 ·have hlt : (i : Int) < (xs.length : Int) := by omega
  have hw : IntKind.i64.wrap ((i : Int) + 1) = ((i + 1 : Nat) : Int) := by rw [w64 (by omega) (by omega)]; omega
  show spec_l21Clashes_p0 xs i r = spec_l21Clashes_p0 xs ((i + 1 : Nat) : Int) (r ++ clashG xs i)
  rw [spec_l21Clashes_p0_eq]
  simp only [hlt,decide_true,if_true,hw]
  unfold clashG
  rw [if_pos hi]
  refine accLoop xs.length 1 1000 (clashF xs i) (clashF_len xs i) (fun j r => spec_l21Clashes_p1 xs i j r) (fun r => spec_l21Clashes_p0 xs ((i + 1 : Nat) : Int) r) (fun j r hj hr => ?_) (fun r hr => ?_) (xs.length - (i + 1)) (i + 1) r (by omega) (by omega)
  ·have hlt : (j : Int) < (xs.length : Int) := by omega
   have hwj : IntKind.i64.wrap ((j : Int) + 1) = ((j + 1 : Nat) : Int) := by rw [w64 (by omega) (by omega)]; omega
   have h4 : r.length + 1 < lim := by rw [lim_eq]; omega
   show spec_l21Clashes_p1 xs i j r = _
   rw [spec_l21Clashes_p1_eq]
   simp only [hlt,decide_true,if_true,Int.natCast_nonneg,Int.toNat_natCast,rentAt_get hi,rentAt_get hj,Option.bind_some,spec_l21Clash_ok F hi hj,h4,List.take_length,hwj]
   unfold clashF
   by_cases c : clashB (rentAt xs i) (rentAt xs j) = true
   ·simp only [c,if_true]
   ·simp only [c,Bool.false_eq_true,if_false,List.append_nil]
  ·show spec_l21Clashes_p1 xs i (xs.length : Int) r = _
   rw [spec_l21Clashes_p1_eq,hw]; simp
 ·show spec_l21Clashes_p0 xs (xs.length : Int) r = _
  rw [spec_l21Clashes_p0_eq]; simp
theorem impl_ClashesOf_ok {xs : List T_Paper.ty} (F : RentFit xs) (hs : xs.length ≤ 1048576) (hx : ∀ x,x ∈ xs → x.1.length ≤ 1048576 ∧ x.2.1.length ≤ 1048576) (ho : rentalsOk xs = true) : impl_ClashesOf xs = some (clashesP xs,0) := by
 have ff := F.few
 rw [impl_ClashesOf_eq,impl_ValidRentals_ok xs hs hx,ho]
 simp only [Option.bind_some,Bool.not_true,Bool.false_eq_true,if_false]
 refine accLoop xs.length 12 0 (clashG xs) (clashG_len ff) (fun i r => impl_ClashesOf_p0 xs xs xs.length i r) (fun r => some (r,0)) (fun i r hi hr => ?_) (fun r hr => ?_) xs.length 0 [] (by omega) (by simp)
 ·have hlt : (i : Int) < (xs.length : Int) := by omega
  have hw : IntKind.i64.wrap ((i : Int) + 1) = ((i + 1 : Nat) : Int) := by rw [w64 (by omega) (by omega)]; omega
  show impl_ClashesOf_p0 xs xs xs.length i r = impl_ClashesOf_p0 xs xs xs.length ((i + 1 : Nat) : Int) (r ++ clashG xs i)
  rw [impl_ClashesOf_p0_eq]
  simp only [hlt,decide_true,if_true,hw,Int.natCast_nonneg,Int.toNat_natCast,rentAt_get hi,Option.bind_some]
  unfold clashG
  rw [if_pos hi]
  refine accLoop xs.length 1 1000 (clashF xs i) (clashF_len xs i) (fun j r => impl_ClashesOf_p1 xs i j xs xs.length i r (rentAt xs i).1 (rentAt xs i).2.1 (rentAt xs i).2.2.1 (rentAt xs i).2.2.2.1 (rentAt xs i).2.2.2.2.1) (fun r => impl_ClashesOf_p0 xs xs xs.length ((i + 1 : Nat) : Int) r) (fun j r hj hr => ?_) (fun r hr => ?_) (xs.length - (i + 1)) (i + 1) r (by omega) (by omega)
  ·have hlt : (j : Int) < (xs.length : Int) := by omega
   have hwj : IntKind.i64.wrap ((j : Int) + 1) = ((j + 1 : Nat) : Int) := by rw [w64 (by omega) (by omega)]; omega
   have h4 : r.length + 1 < lim := by rw [lim_eq]; omega
   show impl_ClashesOf_p1 xs i j xs xs.length i r (rentAt xs i).1 (rentAt xs i).2.1 (rentAt xs i).2.2.1 (rentAt xs i).2.2.2.1 (rentAt xs i).2.2.2.2.1 = _
   rw [impl_ClashesOf_p1_eq]
   have hcl : impl_Rental_clashes ((rentAt xs i).1,(rentAt xs i).2.1,(rentAt xs i).2.2.1,(rentAt xs i).2.2.2.1,(rentAt xs i).2.2.2.2.1,()) (rentAt xs j) = some (clashB (rentAt xs i) (rentAt xs j)) := impl_Rental_clashes_ok F hi hj
   simp only [hlt,decide_true,if_true,Int.natCast_nonneg,Int.toNat_natCast,rentAt_get hj,Option.bind_some,hcl,h4,List.take_length,hwj]
   unfold clashF
   by_cases c : clashB (rentAt xs i) (rentAt xs j) = true
   ·simp only [c,if_true]
   ·simp only [c,Bool.false_eq_true,if_false,List.append_nil]
  ·show impl_ClashesOf_p1 xs i (xs.length : Int) xs xs.length i r (rentAt xs i).1 (rentAt xs i).2.1 (rentAt xs i).2.2.1 (rentAt xs i).2.2.2.1 (rentAt xs i).2.2.2.2.1 = _
   rw [impl_ClashesOf_p1_eq,hw]; simp
 ·show impl_ClashesOf_p0 xs xs xs.length (xs.length : Int) r = _
  rw [impl_ClashesOf_p0_eq]; simp
def cashN : List UInt8 := [99,97,115,104]
def chgP (x : T_Entry.ty) (a : List UInt8) : Int := if x.2.1 == a then x.2.2.2.1 else if x.2.2.1 == a then -x.2.2.2.1 else 0
def chgG (xs : List T_Entry.ty) (a : List UInt8) (i : Nat) : Int := chgP (entryAt xs i) a
def fstNeg (f : Nat → Int) : Nat → Nat → Int → Option (Nat × Int)
 | 0,_,_ => none
 | k + 1,i,s => if s + f i < 0 then some (i,s + f i) else fstNeg f k (i + 1) (s + f i)
theorem fstNeg_some {f : Nat → Int} : ∀ (k i : Nat) (s : Int) {j : Nat} {t : Int},fstNeg f k i s = some (j,t) → i ≤ j ∧ j < i + k ∧ t = s + sumG f i (j + 1 - i) ∧ t < 0
 | 0,i,s,j,t,h => by cases h
 | k + 1,i,s,j,t,h => by
   rw [fstNeg] at h
   split at h
   ·rename_i c
    simp only [Option.some.injEq,Prod.mk.injEq] at h
    obtain ⟨rfl,rfl⟩ := h
    refine ⟨Nat.le_refl _,by omega,?_,c⟩
    rw [show i + 1 - i = 1 by omega]; simp [sumG]
   ·obtain ⟨h1,h2,h3,h4⟩ := fstNeg_some k (i + 1) _ h
    refine ⟨by omega,by omega,?_,h4⟩
    rw [h3,show j + 1 - i = (j + 1 - (i + 1)) + 1 by omega,sumG,Int.add_assoc]
structure BookFit (xs : List T_Entry.ty) : Prop where
 few : xs.length ≤ 32
 amt : ∀ i,(0 : Int) ≤ (entryAt xs i).2.2.2.1 ∧ ((entryAt xs i).2.2.2.1 : Int) ≤ 10000000
theorem bookFit {xs : List T_Entry.ty} (h : bookOk xs = true) : BookFit xs := by
 simp only [bookOk,Bool.and_eq_true,decide_eq_true_eq] at h
 refine ⟨by omega,fun i => ?_⟩
 by_cases hi : i < xs.length
 ·have := List.all_eq_true.1 h.1 i (by simp; omega)
  simp only [bookC,Bool.and_eq_true,entryOk,inR_iff'] at this
  exact ⟨Int.le_trans (by decide) this.1.2.2.2.2.1,this.1.2.2.2.2.2⟩
 ·simp only [entryAt,List.getElem?_eq_none (show xs.length ≤ i by omega),Option.getD_none]; decide
theorem chg_core (p q a : List UInt8) (m : Int) (h : 0 ≤ m ∧ m ≤ 10000000) : -10000000 ≤ (if p == a then m else if q == a then -m else 0) ∧ (if p == a then m else if q == a then -m else 0) ≤ 10000000 := by
 split
 ·omega
 ·split <;> omega
theorem chgG_bd {xs : List T_Entry.ty} (F : BookFit xs) (a : List UInt8) (i : Nat) : -10000000 ≤ chgG xs a i ∧ chgG xs a i ≤ 10000000 := chg_core _ _ a _ (F.amt i)
theorem spec_l25Change_core (d : Int) (p q a : List UInt8) (m : Int) (h : 0 ≤ m ∧ m ≤ 10000000) : spec_l25Change (d,p,q,m,()) a = some (chgP (d,p,q,m,()) a) := by
 rw [spec_l25Change_eq,chgP]
 simp only []
 rw [w64 (n := 0 - m) (by omega) (by omega)]
 cases (p == a) <;> cases (q == a) <;> simp
theorem spec_l25Change_ok {xs : List T_Entry.ty} (F : BookFit xs) (a : List UInt8) (i : Nat) : spec_l25Change (entryAt xs i) a = some (chgG xs a i) := spec_l25Change_core _ _ _ a _ (F.amt i)
theorem impl_Entry_change_core (d : Int) (p q a : List UInt8) (m : Int) (h : 0 ≤ m ∧ m ≤ 10000000) : impl_Entry_change (d,p,q,m,()) a = some (chgP (d,p,q,m,()) a) := by
 rw [impl_Entry_change_eq,chgP]
 simp only []
 rw [w64 (n := 0 - m) (by omega) (by omega),show (a == p) = (p == a) from Bool.beq_comm,show (a == q) = (q == a) from Bool.beq_comm]
 cases (p == a) <;> cases (q == a) <;> simp
theorem impl_Entry_change_ok {xs : List T_Entry.ty} (F : BookFit xs) (a : List UInt8) (i : Nat) : impl_Entry_change (entryAt xs i) a = some (chgG xs a i) := impl_Entry_change_core _ _ _ a _ (F.amt i)
theorem impl_FirstBelow_p1_ok {xs : List T_Entry.ty} (F : BookFit xs) (a : List UInt8) : ∀ (k i : Nat) (s : Int),i + k = xs.length → -100000000 * (i : Int) ≤ s ∧ s ≤ 100000000 * (i : Int) →
 impl_FirstBelow_p1 a s xs xs.length i = some (match fstNeg (chgG xs a) k i s with | some (j,_) => ((j : Int),0) | none => (0,3))
 | 0,i,s,hk,hs => by
   have : i = xs.length := by omega
   subst this
   rw [impl_FirstBelow_p1_eq]; simp [fstNeg]
 | k + 1,i,s,hk,hs => by
   have ff := F.few
   have hi : i < xs.length := by omega
   have hlt : (i : Int) < (xs.length : Int) := by omega
   have hw : IntKind.i64.wrap ((i : Int) + 1) = ((i + 1 : Nat) : Int) := by rw [w64 (by omega) (by omega)]; omega
   have hb := chgG_bd F a i
   rw [impl_FirstBelow_p1_eq]
   simp only [hlt,decide_true,if_true,Int.natCast_nonneg,Int.toNat_natCast,entryAt_get hi,Option.bind_some,impl_Entry_change_ok F,w64 (n := s + chgG xs a i) (by omega) (by omega),hw,fstNeg]
   by_cases c : s + chgG xs a i < 0
   ·simp [c]
   ·simp only [c,decide_false,Bool.false_eq_true,if_false]
    exact impl_FirstBelow_p1_ok F a k (i + 1) _ (by omega) (by omega)
def tradeF1 (xs : List T_Paper.ty) (C : List (List Int)) (i : Nat) : List T_Problem.ty := [(4,(rentAt xs (sBeg ((C[i]?).getD []) 0).toNat).1,(rentAt xs (sBeg ((C[i]?).getD []) 1).toNat).1,())]
def cashP (xs : List T_Entry.ty) : List T_Problem.ty := match fstNeg (chgG xs cashN) xs.length 0 0 with | some (j,t) => [(5,Lib.itoa (j : Int),Lib.itoa t,())] | none => []
def tradeP (g : List T_Paper.ty) (h : List T_Entry.ty) : List T_Problem.ty := gather (tradeF1 g (clashesP g)) 0 (clashesP g).length ++ cashP h
theorem tradeP_len {g : List T_Paper.ty} {h : List T_Entry.ty} (hg : g.length ≤ 12) : (tradeP g h).length ≤ 145 := by
 have g1 := gather_len (f := tradeF1 g (clashesP g)) (m := 1) (fun i => by simp [tradeF1]) (clashesP g).length 0
 have g2 := clashesP_len hg
 have g3 : (cashP h).length ≤ 1 := by unfold cashP; split <;> simp
 rw [tradeP,List.length_append]; omega
theorem spec_l31Trade_p1_ok (a : List T_Arc.ty) (b : List T_Neck.ty) (s : Int) (d : List T_Step.ty) (e : List Int) (f : Int) (g : List T_Paper.ty) {xs : List T_Entry.ty} (F : BookFit xs) (r : List T_Problem.ty) (hr : r.length ≤ 1000) : ∀ (k i : Nat) (m : Int),i + k = xs.length → -100000000 * (i : Int) ≤ m ∧ m ≤ 100000000 * (i : Int) →
 spec_l31Trade_p1 a b s d e f g xs m i r = some (r ++ match fstNeg (chgG xs cashN) k i m with | some (j,t) => [(5,Lib.itoa (j : Int),Lib.itoa t,())] | none => [])
 | 0,i,m,hk,hm => by
   have : i = xs.length := by omega
   subst this
   rw [spec_l31Trade_p1_eq]; simp [fstNeg]
 | k + 1,i,m,hk,hm => by
   have ff := F.few
   have hi : i < xs.length := by omega
   have hlt : (i : Int) < (xs.length : Int) := by omega
   have hw : IntKind.i64.wrap ((i : Int) + 1) = ((i + 1 : Nat) : Int) := by rw [w64 (by omega) (by omega)]; omega
   have hb := chgG_bd F cashN i
   have h4 : r.length + 1 < lim := by rw [lim_eq]; omega
   rw [spec_l31Trade_p1_eq]
   have hch : spec_l25Change (entryAt xs i) [99,97,115,104] = some (chgG xs cashN i) := spec_l25Change_ok F cashN i
   simp only [hlt,decide_true,if_true,Int.natCast_nonneg,Int.toNat_natCast,entryAt_get hi,Option.bind_some,hch,w64 (n := m + chgG xs cashN i) (by omega) (by omega),hw,fstNeg]
   by_cases c : m + chgG xs cashN i < 0
   ·simp only [c,decide_true,if_true,spec_l01Dec_itoa (i : Int) (by omega),spec_l01Dec_itoa (m + chgG xs cashN i) (by omega),Option.bind_some,h4,List.take_length]
   ·simp only [c,decide_false,Bool.false_eq_true,if_false]
    exact spec_l31Trade_p1_ok a b s d e f g F r hr k (i + 1) _ (by omega) (by omega)
theorem spec_l31Trade_ok (x : T_Shop.ty) (G : RentFit x.2.2.2.2.2.2.1) (F : BookFit x.2.2.2.2.2.2.2.1) : spec_l31Trade x = some (tradeP x.2.2.2.2.2.2.1 x.2.2.2.2.2.2.2.1) := by
 obtain ⟨a,b,s,d,e,f,g,xs,⟨⟩⟩ := x
 have F : BookFit xs := F
 have G : RentFit g := G
 have gf := G.few
 have cl := clashesP_len gf
 rw [spec_l31Trade_eq]
 simp only [spec_l21Clashes_ok G,Option.bind_some]
 show _ = some (gather (tradeF1 g (clashesP g)) 0 (clashesP g).length ++ cashP xs)
 refine accLoop (clashesP g).length 1 0 (tradeF1 g (clashesP g)) (fun i => by simp [tradeF1]) (fun i r => spec_l31Trade_p0 a b s d e f g xs (clashesP g) i r) (fun r => some (r ++ cashP xs)) (fun i r hi hr => ?_) (fun r hr => ?_) (clashesP g).length 0 [] (by omega) (by simp)
 ·have hlt : (i : Int) < ((clashesP g).length : Int) := by omega
  have hw : IntKind.i64.wrap ((i : Int) + 1) = ((i + 1 : Nat) : Int) := by rw [w64 (by omega) (by omega)]; omega
  have h4 : r.length + 1 < lim := by rw [lim_eq]; omega
  obtain ⟨p,q,hp,hq,hc⟩ := clashesP_mem (List.getElem_mem hi)
  have hci : (clashesP g)[i]? = some [(p : Int),(q : Int)] := by rw [List.getElem?_eq_getElem hi,hc]
  show spec_l31Trade_p0 a b s d e f g xs (clashesP g) i r = _
  rw [spec_l31Trade_p0_eq]
  simp only [hlt,decide_true,if_true,Int.natCast_nonneg,Int.toNat_natCast,hci,Option.bind_some,List.getElem?_cons_zero,List.getElem?_cons_succ,rentAt_get hp,rentAt_get hq,h4,List.take_length,hw,tradeF1,Option.getD_some,sBeg]
 ·show spec_l31Trade_p0 a b s d e f g xs (clashesP g) ((clashesP g).length : Int) r = _
  rw [spec_l31Trade_p0_eq]
  simp only [Int.lt_irrefl,decide_false,Bool.false_eq_true,if_false]
  exact spec_l31Trade_p1_ok a b s d e f g F r (by omega) xs.length 0 0 (by omega) (by omega)
theorem impl_TradeProblems_p1_ok (j : Nat) {xs : List T_Entry.ty} (F : BookFit xs) (hj : j < xs.length) (r : List T_Problem.ty) (hr : r.length ≤ 1000) (hs : -1000000000 ≤ sumG (chgG xs cashN) 0 (j + 1) ∧ sumG (chgG xs cashN) 0 (j + 1) ≤ 1000000000) :
 impl_TradeProblems_p1 (j : Int) 0 (xs.take (j + 1)) ((xs.take (j + 1)).length : Int) 0 r = some (r ++ [(5,Lib.itoa (j : Int),Lib.itoa (sumG (chgG xs cashN) 0 (j + 1)),())],0) := by
 have ff := F.few
 have hl : (xs.take (j + 1)).length = j + 1 := by rw [List.length_take]; omega
 have h4 : r.length + 1 < lim := by rw [lim_eq]; omega
 have := sumLoop (j + 1) (by omega) (chgG xs cashN) (fun i => by have := chgG_bd F cashN i; omega) (fun m i => impl_TradeProblems_p1 (j : Int) m (xs.take (j + 1)) ((xs.take (j + 1)).length : Int) i r)
  (fun m => (impl_Decimal (j : Int)).bind fun x3 => (impl_Decimal m).bind fun x4 => some (r ++ [(5,x3,x4,())],0)) (fun i m hi hm => ?_) (fun m => ?_) (j + 1) 0 0 (by omega) (by omega)
 ·rw [show ((0 : Nat) : Int) = 0 from rfl,Int.zero_add] at this
  rw [this,impl_Decimal_ok (j : Int) (by omega),impl_Decimal_ok _ (by omega)]
  rfl
 ·have hlt : (i : Int) < ((xs.take (j + 1)).length : Int) := by omega
  have hw : IntKind.i64.wrap ((i : Int) + 1) = ((i + 1 : Nat) : Int) := by rw [w64 (by omega) (by omega)]; omega
  have hg : (xs.take (j + 1))[i]? = some (entryAt xs i) := by rw [List.getElem?_take_of_lt hi,entryAt_get (by omega)]
  have hb := chgG_bd F cashN i
  have hch : impl_Entry_change (entryAt xs i) [99,97,115,104] = some (chgG xs cashN i) := impl_Entry_change_ok F cashN i
  show impl_TradeProblems_p1 (j : Int) m (xs.take (j + 1)) ((xs.take (j + 1)).length : Int) i r = _
  rw [impl_TradeProblems_p1_eq]
  simp only [hlt,decide_true,if_true,Int.natCast_nonneg,Int.toNat_natCast,hg,Option.bind_some,hch,w64 (n := m + chgG xs cashN i) (by omega) (by omega),hw]
 ·show impl_TradeProblems_p1 (j : Int) m (xs.take (j + 1)) ((xs.take (j + 1)).length : Int) ((j + 1 : Nat) : Int) r = _
  rw [impl_TradeProblems_p1_eq,hl]
  simp only [Int.lt_irrefl,decide_false,Bool.false_eq_true,if_false,h4,decide_true,if_true,List.take_length]
theorem impl_TradeProblems_ok (x : T_Shop.ty) (hs : shopSmall x) (hk : shopOk x = true) : impl_TradeProblems x = some (tradeP x.2.2.2.2.2.2.1 x.2.2.2.2.2.2.2.1,0) := by
 rw [impl_TradeProblems_eq,impl_ValidShop_ok x hs,hk]
 obtain ⟨_,_,_,_,_,_,o7,o8⟩ := shopOk_parts hk
 obtain ⟨_,_,_,_,h5,h6⟩ := hs
 have F := bookFit o8
 have G := rentFit o7
 obtain ⟨a,b,s,d,e,f,g,xs,⟨⟩⟩ := x
 have F : BookFit xs := F
 have G : RentFit g := G
 have o8 : bookOk xs = true := o8
 have gf := G.few
 have ff := F.few
 have cl := clashesP_len gf
 simp only [Option.bind_some,Bool.not_true,Bool.false_eq_true,if_false]
 have hcl : impl_ClashesOf g = some (clashesP g,0) := impl_ClashesOf_ok G h5.1 h5.2 o7
 simp only [hcl,Option.bind_some]
 show _ = some (gather (tradeF1 g (clashesP g)) 0 (clashesP g).length ++ cashP xs,0)
 refine accLoop (clashesP g).length 1 0 (tradeF1 g (clashesP g)) (fun i => by simp [tradeF1]) (fun i r => impl_TradeProblems_p0 (clashesP g) (clashesP g).length i a b s d e f g xs r) (fun r => some (r ++ cashP xs,0)) (fun i r hi hr => ?_) (fun r hr => ?_) (clashesP g).length 0 [] (by omega) (by simp)
 ·have hlt : (i : Int) < ((clashesP g).length : Int) := by omega
  have hw : IntKind.i64.wrap ((i : Int) + 1) = ((i + 1 : Nat) : Int) := by rw [w64 (by omega) (by omega)]; omega
  have h4 : r.length + 1 < lim := by rw [lim_eq]; omega
  obtain ⟨p,q,hp,hq,hc⟩ := clashesP_mem (List.getElem_mem hi)
  have hci : (clashesP g)[i]? = some [(p : Int),(q : Int)] := by rw [List.getElem?_eq_getElem hi,hc]
  show impl_TradeProblems_p0 (clashesP g) (clashesP g).length i a b s d e f g xs r = _
  rw [impl_TradeProblems_p0_eq]
  simp only [hlt,decide_true,if_true,Int.natCast_nonneg,Int.toNat_natCast,hci,Option.bind_some,List.getElem?_cons_zero,List.getElem?_cons_succ,rentAt_get hp,rentAt_get hq,h4,List.take_length,hw,tradeF1,Option.getD_some,sBeg]
 ·show impl_TradeProblems_p0 (clashesP g) (clashesP g).length ((clashesP g).length : Int) a b s d e f g xs r = _
  rw [impl_TradeProblems_p0_eq]
  have hfb : impl_FirstBelow xs [99,97,115,104] = some (match fstNeg (chgG xs cashN) xs.length 0 0 with | some (j,_) => ((j : Int),0) | none => (0,3)) := by
   rw [impl_FirstBelow_eq,impl_ValidBook_ok xs h6.1 h6.2,o8,impl_IsName_ok _ (by decide),show isName [99,97,115,104] = true by decide]
   simp only [Option.bind_some,Bool.not_true,Bool.false_eq_true,if_false,impl_FirstBelow_p0_eq]
   exact impl_FirstBelow_p1_ok F cashN xs.length 0 0 (by omega) (by omega)
  simp only [Int.lt_irrefl,decide_false,Bool.false_eq_true,if_false,hfb,Option.bind_some,cashP]
  cases hn : fstNeg (chgG xs cashN) xs.length 0 0 with
  | none => simp
  | some p =>
    obtain ⟨j,t⟩ := p
    obtain ⟨g1,g2,g3,g4⟩ := fstNeg_some _ _ _ hn
    have hb := sumG_bd (f := chgG xs cashN) (lo := -10000000) (hi := 10000000) (by omega) (by omega) (chgG_bd F cashN) (j + 1) 0
    rw [Int.zero_add,Nat.sub_zero] at g3
    have hw : IntKind.i64.wrap ((j : Int) + 1) = ((j + 1 : Nat) : Int) := by rw [w64 (by omega) (by omega)]; omega
    have c1 : (0 : Int) ≤ ((j + 1 : Nat) : Int) := by omega
    have c2 : ((j + 1 : Nat) : Int) ≤ (xs.length : Int) := by omega
    simp only [beq_self_eq_true,if_true,hw,c1,c2,decide_true,Bool.and_self,Int.toNat_natCast]
    rw [impl_TradeProblems_p1_ok j F (by omega) r (by omega) (by omega),← g3]
theorem shopPos (sp im : shopE.ty → Option (List probE.ty × Int)) (x : T_Shop.ty) (hs : shopSmall x) (ps : List T_Problem.ty) (c : Int) (hl : ps.length ≤ 1048576) (r1 : sp x = some (ps,c)) (r2 : im x = some (ps,c)) :
 ShopF.Pos { sz := laws_szShop,sp := sp,im := im,ep := laws_eqProblemS,es := laws_eqShop,t0 := laws_toArcS,t1 := laws_toCordS,tI := laws_toInt64S,t6 := laws_toRentalS,t7 := laws_toEntryS,k0 := laws_markArcS,k1 := laws_markCordS,kI := laws_markInt64S,k6 := laws_markRentalS,k7 := laws_markEntryS,kT := laws_markText,mp := laws_markProblemS,hp := laws_heldProblemS } x where
 hl := hs.2.2.1.1
 hn j hj := by
  have : stAt x.2.2.2.1 j ∈ (show List T_Step.ty from x.2.2.2.1) := by
   unfold stAt
   rw [List.getElem?_eq_getElem hj]
   exact List.getElem_mem hj
  exact (hs.2.2.1.2 _ this).2
 h4 := hs.2.2.2.1
 c0 := toArcS_ok _ hs.1
 c1 := toCordS_ok _ hs.2.1
 cI ns h := toInt64S_ok ns h
 c6 := toRentalS_ok _ hs.2.2.2.2.1.1
 c7 := toEntryS_ok _ hs.2.2.2.2.2.1
 k0 m hm := markArcS_ok _ hs.1 m hm
 k1 m hm := markCordS_ok _ hs.2.1 m hm
 kI ns m h hm := ⟨_,(markInt64S_ok ns m (by omega) (by omega)).trans (by rw [Int.natCast_add])⟩
 k6 m hm := markRentalS_ok _ hs.2.2.2.2.1.1 m hm
 k7 m hm := markEntryS_ok _ hs.2.2.2.2.2.1 m hm
 kT m hm := markText_ok m (by omega)
 es := eqShop_ok x hs
 res := ⟨ps,c,1 + 3 * ps.length,_,r1,r2,eqProblemS_ok ps hl,markProblemS_okP ps hl,heldProblemS_ok _ hl⟩
theorem tradeProblems_same (x : T_Shop.ty) (hs : shopSmall x) : ∃ (ps : List T_Problem.ty) (c : Int),ps.length ≤ 1048576 ∧ spec_TradeProblems x = some (ps,c) ∧ impl_TradeProblems x = some (ps,c) := by
 rw [spec_TradeProblems_eq,spec_l31Ok_ok x hs]
 by_cases hk : shopOk x = true
 ·obtain ⟨_,o2,_,o4,o5,_,o7,o8⟩ := shopOk_parts hk
  refine ⟨_,0,Nat.le_trans (tradeP_len (rentFit o7).few) (by decide),?_,impl_TradeProblems_ok x hs hk⟩
  simp only [hk,Option.bind_some,Bool.not_true,Bool.false_eq_true,if_false,spec_l31Trade_ok x (rentFit o7) (bookFit o8),List.take_length]
 ·refine ⟨[],1,by simp,?_,?_⟩
  ·simp [hk]
  ·rw [impl_TradeProblems_eq,impl_ValidShop_ok x hs]; simp [hk]
def mx (a b : Int) : Int := if b > a then b else a
def bld (f : List Int → Nat → Int) : Nat → List Int
 | 0 => []
 | k + 1 => bld f k ++ [f (bld f k) k]
def freeAt (room : Int → Bool) : Nat → Int → Int
 | 0,h => h
 | k + 1,h => if room h then h else freeAt room k (h + 1)
structure StFit (xs : List T_Step.ty) : Prop where
 few : xs.length ≤ 12
 hrs : ∀ i,i < xs.length → 1 ≤ sHrs xs i ∧ sHrs xs i ≤ 200
 clp : ∀ i,i < xs.length → 0 ≤ sClp xs i ∧ sClp xs i ≤ 20
 aft : ∀ i,i < xs.length → ∀ a,a ∈ sAft xs i → 0 ≤ a ∧ a < (i : Int)
 al : ∀ i,i < xs.length → (sAft xs i).length ≤ 1048576
structure BgFit (xs : List T_Step.ty) (l : List Int) : Prop where
 len : l.length ≤ xs.length
 beg : ∀ i,0 ≤ sBeg l i ∧ sBeg l i ≤ 2400
def rdyL (xs : List T_Step.ty) (l : List Int) : List Int → Int → Int
 | [],m => m
 | a :: r,m => rdyL xs l r (mx m (sBeg l a.toNat + sHrs xs a.toNat))
def rdyP (xs : List T_Step.ty) (l : List Int) (i : Nat) : Int := rdyL xs l (sAft xs i) 0
def roomB (xs : List T_Step.ty) (l : List Int) (i : Nat) (cl h : Int) : Bool := (List.range' 0 (sHrs xs i).toNat).all fun d => decide (usedP xs l (h + (d : Int)) + sClp xs i ≤ cl)
def planF (xs : List T_Step.ty) (cl : Int) (l : List Int) (i : Nat) : Int := freeAt (roomB xs l i cl) 5000 (rdyP xs l i)
structure PlanOk (xs : List T_Step.ty) (cl : Int) (k : Nat) : Prop where
 beg : ∀ j,j < k → 0 ≤ sBeg (bld (planF xs cl) k) j ∧ sBeg (bld (planF xs cl) k) j + sHrs xs j ≤ 200 * ((j : Int) + 1)
 rdy : ∀ j,j < k → rdyP xs (bld (planF xs cl) k) j ≤ sBeg (bld (planF xs cl) k) j
 use : ∀ h,usedP xs (bld (planF xs cl) k) h ≤ mx 0 cl
structure StSmall (xs : List T_Step.ty) : Prop where
 ok : stepsOk xs = true
 s1 : xs.length ≤ 1048576
 s2 : ∀ x,x ∈ xs → x.1.length ≤ 1048576 ∧ List.length (α := Int) x.2.2.2.1 ≤ 1048576
structure DrawnSt (N : List (List UInt8)) (k : Nat) (r : List T_Step.ty) : Prop where
 len : r.length ≤ k
 ok : ∀ i,i < r.length → stepC r i = true
 hrs : ∀ i,i < r.length → sHrs r i ≤ 12
 id : ∀ i,i < r.length → (stAt r i).1 ∈ N.take k
 al : ∀ i,i < r.length → List.length (α := Int) (stAt r i).2.2.2.1 ≤ 100
end Go.Ab.P
