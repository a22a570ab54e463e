/- Lemmas on functions of the program. Conditions: told in each. -/
import Derived.Test.YthhejkflhpcjaaaGreatDoorPFnReports
set_option linter.unusedVariables false
set_option linter.unusedSimpArgs false
namespace Go.Ab.P
open Go.Ab
def sortedChk {α : Type} (ok : α → Bool) (id : α → List UInt8) : Option α → List α → Bool
 | _,[] => true
 | p,x :: r => ok x && ((match p with | none => true | some y => Op.bytesLess (id y) (id x)) && sortedChk ok id (some x) r)
theorem sortedChk_all {α : Type} {ok : α → Bool} {id : α → List UInt8} : ∀ {l : List α} {p : Option α},sortedChk ok id p l = true → ∀ x,x ∈ l → ok x = true
 | [],_,_,x,hx => by cases hx
 | y :: r,p,h,x,hx => by
   simp only [sortedChk,Bool.and_eq_true] at h
   rcases List.mem_cons.1 hx with rfl | hx
   ·exact h.1
   ·exact sortedChk_all h.2.2 x hx
theorem sortedLoopI {α : Type} (xs : List α) (one : α → Option Bool) (ok : α → Bool) (id : α → List UInt8) (p0 : Int → Option Bool) (last : Option Bool) (lb : Bool) (hlast : last = some lb)
 (heq : ∀ i : Int,p0 i = if decide (i < (xs.length : Int)) then (if decide (0 ≤ i) then (xs[i.toNat]?).bind fun x1 => (one x1).bind fun x2 => if (!x2) then some false else if decide (i > 0) then (if decide (0 ≤ IntKind.i64.wrap (i - 1)) then (xs[(IntKind.i64.wrap (i - 1)).toNat]?).bind fun x3 => if (!Op.bytesLess (id x3) (id x1)) then some false else p0 (IntKind.i64.wrap (i + 1)) else none) else p0 (IntKind.i64.wrap (i + 1)) else none) else last)
 (hs : xs.length ≤ 1048576) (h1 : ∀ x,x ∈ xs → one x = some (ok x)) :
 ∀ (k i : Nat),i + k = xs.length → p0 i = some (sortedChk ok id (if i = 0 then none else xs[i - 1]?) (xs.drop i) && lb)
 | 0,i,hk => by
   rw [heq,List.drop_eq_nil_of_le (by omega)]
   have : ¬ (i : Int) < (xs.length : Int) := by omega
   simp only [this,decide_false,Bool.false_eq_true,if_false,hlast,sortedChk,Bool.true_and]
 | k + 1,i,hk => by
   have hi : i < xs.length := by omega
   have hlt : (i : Int) < (xs.length : Int) := by omega
   have hw : IntKind.i64.wrap ((i : Int) + 1) = ((i + 1 : Nat) : Int) := by rw [w64 (by omega) (by omega)]; omega
   have ih := sortedLoopI xs one ok id p0 last lb hlast heq hs h1 k (i + 1) (by omega)
   rw [if_neg (by omega),Nat.add_sub_cancel,List.getElem?_eq_getElem hi] at ih
   rw [heq,List.drop_eq_getElem_cons hi]
   simp only [hlt,decide_true,if_true,Int.natCast_nonneg,Int.toNat_natCast,List.getElem?_eq_getElem hi,Option.bind_some,h1 xs[i] (List.getElem_mem hi),hw,ih,sortedChk]
   cases hok : ok xs[i]
   ·simp
   ·by_cases h0 : i = 0
    ·subst h0; simp
    ·have hp : (i : Int) > 0 := by omega
     have hw2 : IntKind.i64.wrap ((i : Int) - 1) = ((i - 1 : Nat) : Int) := by rw [w64 (by omega) (by omega)]; omega
     simp only [hp,decide_true,if_true,hw2,Int.natCast_nonneg,Int.toNat_natCast,List.getElem?_eq_getElem (show i - 1 < xs.length by omega),Option.bind_some,h0,if_false,Bool.not_true,Bool.false_eq_true]
     cases Op.bytesLess (id xs[i - 1]) (id xs[i]) <;> simp
theorem allLoop {α β : Type} (xs : List α) (one : α → Option Bool) (ok : α → Bool) (p0 : Int → Option β) (bad : β) (last : Option β)
 (heq : ∀ i : Int,p0 i = if decide (i < (xs.length : Int)) then (if decide (0 ≤ i) then (xs[i.toNat]?).bind fun x1 => (one x1).bind fun x2 => if (!x2) then some bad else p0 (IntKind.i64.wrap (i + 1)) else none) else last)
 (hs : xs.length ≤ 1099511627776) (h1 : ∀ x,x ∈ xs → one x = some (ok x)) :
 ∀ (k i : Nat),i + k = xs.length → p0 i = if (xs.drop i).all ok then last else some bad
 | 0,i,hk => by
   rw [heq,List.drop_eq_nil_of_le (by omega)]
   have : ¬ (i : Int) < (xs.length : Int) := by omega
   simp [this]
 | k + 1,i,hk => by
   have hi : i < xs.length := by omega
   have hlt : (i : Int) < (xs.length : Int) := by omega
   have hw : IntKind.i64.wrap ((i : Int) + 1) = ((i + 1 : Nat) : Int) := by rw [w64 (by omega) (by omega)]; omega
   have ih := allLoop xs one ok p0 bad last heq hs h1 k (i + 1) (by omega)
   rw [heq,List.drop_eq_getElem_cons hi]
   simp only [hlt,decide_true,if_true,Int.natCast_nonneg,Int.toNat_natCast,List.getElem?_eq_getElem hi,Option.bind_some,h1 xs[i] (List.getElem_mem hi),hw,ih,List.all_cons]
   by_cases hok : ok xs[i] = true
   ·simp [hok]
   ·simp [hok]
theorem wsucc {i : Nat} (h : i < 4611686018427387904) : IntKind.i64.wrap ((i : Int) + 1) = ((i + 1 : Nat) : Int) := by
 rw [w64 (by omega) (by omega)]; omega
theorem getElem?_lt {α : Type} {l : List α} {i : Nat} (h : i < l.length) : l[i]? = some l[i] := List.getElem?_eq_getElem h
theorem drop_cons {α : Type} {l : List α} {i : Nat} (h : i < l.length) : l.drop i = l[i] :: l.drop (i + 1) := List.drop_eq_getElem_cons h
def rdivP (a b : Int) : Int := if a < 0 then -((b - 2 * a) / (2 * b)) else (2 * a + b) / (2 * b)
theorem rdivP_eq {a b : Int} (ha : 0 ≤ a) (hb : 0 < b) : rdivP a b = a / b + if b - a % b ≤ a % b then 1 else 0 := by
 have h1 := Int.mul_ediv_add_emod a b
 have h2 := Int.emod_nonneg a (show b ≠ 0 by omega)
 have h3 := Int.emod_lt_of_pos a hb
 unfold rdivP
 rw [if_neg (by omega)]
 generalize a / b = q at h1 ⊢
 generalize a % b = r at h1 h2 h3 ⊢
 have key : ∀ t s : Int,0 ≤ s → s < 2 * b → 2 * a + b = s + 2 * b * t → (2 * a + b) / (2 * b) = t := fun t s hs0 hs1 he => by
  rw [he,Int.add_mul_ediv_left s t (show 2 * b ≠ 0 by omega),Int.ediv_eq_zero_of_lt hs0 hs1]; omega
 have e : 2 * b * q = 2 * (b * q) := Int.mul_assoc 2 b q
 split
 ·refine key (q + 1) (2 * r - b) (by omega) (by omega) ?_
  rw [Int.mul_add,e]; omega
 ·rw [Int.add_zero]
  refine key q (2 * r + b) (by omega) (by omega) ?_
  rw [e]; omega
theorem rdivP_neg {a b : Int} (ha : 0 < a) (hb : 0 < b) : rdivP (-a) b = -rdivP a b := by
 unfold rdivP
 rw [if_pos (by omega),if_neg (by omega)]
 congr 2; omega
theorem rdivP_nonneg {a b : Int} (ha : 0 ≤ a) (hb : 0 < b) : 0 ≤ rdivP a b := by
 unfold rdivP
 rw [if_neg (by omega)]
 exact Int.ediv_nonneg (by omega) (by omega)
theorem rdivP_le {a b : Int} (ha : 0 ≤ a) (hb : 0 < b) : rdivP a b ≤ a + 1 := by
 rw [rdivP_eq ha hb]
 have := Int.ediv_le_self b ha
 split <;> omega
theorem tdiv_nonneg_eq {a b : Int} (ha : 0 ≤ a) : a.tdiv b = a / b := Int.tdiv_eq_ediv_of_nonneg ha
theorem tmod_nonneg_eq {a b : Int} (ha : 0 ≤ a) : a.tmod b = a % b := Int.tmod_eq_emod_of_nonneg ha
def small (c : UInt8) : Bool := decide (97 ≤ (c.toNat : Int)) && decide ((c.toNat : Int) ≤ 122)
def digit (c : UInt8) : Bool := decide (48 ≤ (c.toNat : Int)) && decide ((c.toNat : Int) ≤ 57)
def isName (s : List UInt8) : Bool := match s with | [] => false | c :: r => small c && r.all (fun c => small c || digit c) && decide (s.length ≤ 10)
def inR (n lo hi : Int) : Bool := decide (lo ≤ n) && decide (n ≤ hi)
theorem inR_iff' {n lo hi : Int} : inR n lo hi = true ↔ lo ≤ n ∧ n ≤ hi := by simp [inR]
theorem impl_within_ok (n lo hi : Int) : impl_within n lo hi = some (inR n lo hi) := by
 rw [impl_within_eq,inR]; by_cases h : lo ≤ n <;> simp [h]
theorem impl_isDigit_ok (c : UInt8) : impl_isDigit (c.toNat : Int) = some (digit c) := by
 rw [impl_isDigit_eq,digit]; by_cases h : 48 ≤ (c.toNat : Int) <;> simp [h]
def okFrom : Nat → List UInt8 → Bool
 | _,[] => true
 | i,c :: r => (small c || (i != 0 && digit c)) && okFrom (i + 1) r
theorem okFrom_all (r : List UInt8) : ∀ i,okFrom (i + 1) r = r.all fun c => small c || digit c := by
 induction r with
 | nil => intro i; rfl
 | cons c r ih => intro i; simp [okFrom,ih]
theorem impl_IsName_p0_ok (s : List UInt8) (hs : s.length < 4611686018427387904) : ∀ (k i : Nat),i + k = s.length → impl_IsName_p0 s i = some (okFrom i (s.drop i) && (!(s == []) && decide (s.length ≤ 10)))
 | 0,i,h => by
   rw [impl_IsName_p0_eq,List.drop_eq_nil_of_le (by omega),impl_few_eq]
   have h1 : ¬ (i : Int) < (s.length : Int) := by omega
   simp only [h1,decide_false,Bool.false_eq_true,if_false,okFrom,Option.bind_some,Bool.true_and]
   cases s with
   | nil => rfl
   | cons c r =>
     have : ((c :: r == []) = false) := by simp
     simp only [this,Bool.not_false,if_true,Bool.true_and]
     congr 1
     simp only [decide_eq_decide]; omega
 | k + 1,i,h => by
   have hi : i < s.length := by omega
   have h1 : (i : Int) < (s.length : Int) := by omega
   have ih := impl_IsName_p0_ok s hs k (i + 1) (by omega)
   have e1 : ∀ b : Bool,impl_IsName_p1 s i b = some (((b || (i != 0 && digit s[i])) && okFrom (i + 1) (s.drop (i + 1))) && (!(s == []) && decide (s.length ≤ 10))) := by
    intro b
    rw [impl_IsName_p1_eq]
    simp only [Int.natCast_nonneg,decide_true,if_true,Int.toNat_natCast,getElem?_lt hi,Option.bind_some,impl_isDigit_ok,wsucc (show i < 4611686018427387904 by omega),ih]
    cases b
    ·by_cases h0 : i = 0
     ·subst h0; simp
     ·have : ((i : Int) == 0) = false := by simp [h0]
      have : (i != 0) = true := by simp [h0]
      simp only [*]
      cases digit s[i] <;> simp
    ·simp
   rw [impl_IsName_p0_eq,drop_cons hi,okFrom]
   simp only [h1,decide_true,if_true,Int.natCast_nonneg,Int.toNat_natCast,getElem?_lt hi,Option.bind_some,e1,small]
   by_cases h97 : (s[i].toNat : Int) ≥ 97 <;> simp [h97]
theorem impl_IsName_ok (s : List UInt8) (hs : s.length < 4611686018427387904) : impl_IsName s = some (isName s) := by
 rw [impl_IsName_eq]
 have := impl_IsName_p0_ok s hs s.length 0 (by simp)
 rw [show ((0 : Nat) : Int) = 0 from rfl] at this
 rw [this]
 cases s with
 | nil => rfl
 | cons c r => simp [okFrom,okFrom_all,isName]
theorem impl_divRound_ok (a b : Int) (ha : -2000000000000000000 ≤ a ∧ a ≤ 2000000000000000000) (hb : 0 < b ∧ b ≤ 2000000000000000000) : impl_divRound a b = some (rdivP a b) := by
 rw [impl_divRound_eq]
 have e1 : IntKind.i64.wrap (0 - b) = -b := by rw [w64 (by omega) (by omega)]; omega
 have e2 : IntKind.i64.wrap (0 - a) = -a := by rw [w64 (by omega) (by omega)]; omega
 have e3 : (if -b > b then -b else b) = b := by rw [if_neg (by omega)]
 have hb0 : ¬ b = 0 := by omega
 have hbn : ¬ b < 0 := by omega
 simp only [e1,e2,e3,hb0,hbn,decide_false,Bool.false_eq_true,if_false]
 have main : ∀ x : Int,0 ≤ x → x ≤ 2000000000000000000 → x.tmod b = x % b ∧ x.tdiv b = x / b ∧ 0 ≤ x % b ∧ x % b < b ∧ 0 ≤ x / b ∧ x / b ≤ x := fun x h0 h1 =>
  ⟨tmod_nonneg_eq h0,tdiv_nonneg_eq h0,Int.emod_nonneg _ (by omega),Int.emod_lt_of_pos _ hb.1,Int.ediv_nonneg h0 (by omega),Int.ediv_le_self b h0⟩
 by_cases hneg : a < 0
 ·have e4 : (if -a > a then -a else a) = -a := by rw [if_pos (by omega)]
  obtain ⟨m1,m2,m3,m4,m5,m6⟩ := main (-a) (by omega) (by omega)
  have e5 : rdivP a b = -rdivP (-a) b := by rw [← rdivP_neg (show 0 < -a by omega) hb.1]; congr 1; omega
  rw [e5,rdivP_eq (show 0 ≤ -a by omega) hb.1]
  simp only [e4,hneg,m1,m2,decide_true,Bool.true_beq,Bool.not_false,if_true]
  rw [w64 (n := b - -a % b) (by omega) (by omega),w64 (n := -a / b) (by omega) (by omega),w64 (n := -a / b + 1) (by omega) (by omega),w64 (n := 0 - (-a / b + 1)) (by omega) (by omega),w64 (n := 0 - -a / b) (by omega) (by omega)]
  simp only [decide_eq_true_eq,ge_iff_le]
  split
  ·congr 1; omega
  ·congr 1; omega
 ·have e4 : (if -a > a then -a else a) = a := by rw [if_neg (by omega)]
  obtain ⟨m1,m2,m3,m4,m5,m6⟩ := main a (by omega) (by omega)
  rw [rdivP_eq (show 0 ≤ a by omega) hb.1]
  simp only [e4,hneg,m1,m2,decide_false,beq_self_eq_true,Bool.not_true,Bool.false_eq_true,if_false]
  rw [w64 (n := b - a % b) (by omega) (by omega),w64 (n := a / b) (by omega) (by omega),w64 (n := a / b + 1) (by omega) (by omega)]
  simp only [decide_eq_true_eq,ge_iff_le]
  split
  ·rfl
  ·congr 1; omega
theorem spec_l01Dec_p3_all (l : List Int) (hl : l.length ≤ 1000) : ∀ (k : Nat) (r : List Int),k ≤ l.length → r.length + k ≤ 1000 → spec_l01Dec_p3 ((k : Int) - 1) l r = some ((r ++ (l.take k).reverse).map vu8)
 | 0,r,hk,hr => by
   rw [spec_l01Dec_p3_eq]
   have : ¬ ((0 : Nat) : Int) - 1 ≥ 0 := by omega
   simp only [this,decide_false,Bool.false_eq_true,if_false,List.take_length,List.take_zero,List.reverse_nil,List.append_nil]
 | k + 1,r,hk,hr => by
   rw [spec_l01Dec_p3_eq,show ((k + 1 : Nat) : Int) - 1 = (k : Int) by omega]
   have h1 : (k : Int) ≥ 0 := by omega
   have h2 : (0 : Int) ≤ (k : Int) := by omega
   have h3 : (k : Int) < (l.length : Int) := by omega
   have h4 : r.length + 1 < lim := by rw [lim_eq]; omega
   have ih := spec_l01Dec_p3_all l hl k (r ++ [l[k]]) (by omega) (by simp; omega)
   simp only [h1,h2,h3,decide_true,Bool.and_self,if_true,Int.toNat_natCast,getElem?_lt (show k < l.length by omega),Option.bind_some,h4,List.take_length,w64 (n := (k : Int) - 1) (by omega) (by omega),ih]
   rw [List.take_succ_eq_append_getElem (by omega),List.reverse_append,List.append_assoc]; rfl
theorem spec_l01Dec_p2_all (l : List Int) (hl : l.length ≤ 900) : spec_l01Dec_p2 l = some (l.reverse.map vu8) := by
 rw [spec_l01Dec_p2_eq,w64 (n := (l.length : Int) - 1) (by omega) (by omega),spec_l01Dec_p3_all l (by omega) l.length [] (by omega) (by simp; omega),List.nil_append,List.take_length]
def revDigs (u : Nat) : List Int := (Lib.decDigits u).reverse.map fun c => (c.toNat : Int)
theorem decDigits_one {u : Nat} (h : u < 10) : Lib.decDigits u = [UInt8.ofNat (48 + u)] := by rw [Lib.decDigits,dif_pos h]
theorem decDigits_more {u : Nat} (h : ¬ u < 10) : Lib.decDigits u = Lib.decDigits (u / 10) ++ [UInt8.ofNat (48 + u % 10)] := by rw [Lib.decDigits,dif_neg h]
theorem dig48 {d : Nat} (h : d < 10) : ((UInt8.ofNat (48 + d)).toNat : Int) = 48 + (d : Int) := by
 have : (UInt8.ofNat (48 + d)).toNat = 48 + d := by simp; omega
 rw [this]; omega
theorem wrapU8 {n : Int} (h1 : 0 ≤ n) (h2 : n < 256) : IntKind.u8.wrap n = n := by
 simp only [IntKind.wrap,IntKind.bits,IntKind.signed]
 first
  | omega
  | (simp; omega)
theorem spec_l01Dec_p0_all (n : Int) : ∀ (k u : Nat) (v : Int) (r : List Int),(0 ≤ v ∧ v = (u : Int) ∨ v < 0 ∧ v = -(u : Int)) → u ≤ 2000000000000000000 → u < 10 ^ k → u ≠ 0 → (0 ≤ n ↔ 0 ≤ v) → r.length + k ≤ 800 →
 spec_l01Dec_p0 n v r = spec_l01Dec_p2 (r ++ revDigs u ++ if n < 0 then [45] else [])
 | 0,u,v,r,hv,hb,hu,hz,hn,hr => by simp at hu; omega
 | k + 1,u,v,r,hv,hb,hu,hz,hn,hr => by
   have hp : 10 ^ (k + 1) = 10 ^ k * 10 := Nat.pow_succ ..
   have hvz : (v != 0) = true := by
    have : v ≠ 0 := by omega
    simpa using this
   have h4 : r.length + 1 < lim := by rw [lim_eq]; omega
   have key : spec_l01Dec_p0 n v r = spec_l01Dec_p0 n (if v < 0 then -((u / 10 : Nat) : Int) else ((u / 10 : Nat) : Int)) (r ++ [48 + ((u % 10 : Nat) : Int)]) := by
    rw [spec_l01Dec_p0_eq]
    simp only [hvz,if_true]
    have wrapd : IntKind.u8.wrap (IntKind.i64.wrap (48 + ((u % 10 : Nat) : Int))) = 48 + ((u % 10 : Nat) : Int) := by
     rw [w64 (by omega) (by omega)]
     exact wrapU8 (by omega) (by omega)
    rcases hv with ⟨h0,e⟩ | ⟨h0,e⟩
    ·have hm : v.tmod 10 = ((u % 10 : Nat) : Int) := by rw [e,tmod_nonneg_eq (by omega)]; omega
     have hd : v.tdiv 10 = ((u / 10 : Nat) : Int) := by rw [e,tdiv_nonneg_eq (by omega)]; omega
     have hnn : ¬ ((u % 10 : Nat) : Int) < 0 := by omega
     have hnv : ¬ v < 0 := by omega
     simp only [hm,hnn,decide_false,Bool.false_eq_true,if_false,hnv,spec_l01Dec_p1_eq,h4,decide_true,if_true,List.take_length,hd,w64 (n := ((u / 10 : Nat) : Int)) (by omega) (by omega),wrapd]
    ·have hm : v.tmod 10 = -((u % 10 : Nat) : Int) := by
      rw [e,Int.neg_tmod,tmod_nonneg_eq (by omega)]; omega
     have hd : v.tdiv 10 = -((u / 10 : Nat) : Int) := by
      rw [e,Int.neg_tdiv,tdiv_nonneg_eq (by omega)]; omega
     have e0 : IntKind.i64.wrap (0 - -((u % 10 : Nat) : Int)) = ((u % 10 : Nat) : Int) := by rw [w64 (by omega) (by omega)]; omega
     by_cases hc : -((u % 10 : Nat) : Int) < 0
     ·simp only [hm,hc,decide_true,if_true,h0,spec_l01Dec_p1_eq,h4,List.take_length,hd,w64 (n := -((u / 10 : Nat) : Int)) (by omega) (by omega),e0,wrapd]
     ·have e1 : -((u % 10 : Nat) : Int) = ((u % 10 : Nat) : Int) := by omega
      have hc' : ¬ ((u % 10 : Nat) : Int) < 0 := by omega
      rw [e1] at hm
      simp only [hm,hc',decide_false,Bool.false_eq_true,if_false,h0,if_true,spec_l01Dec_p1_eq,h4,decide_true,List.take_length,hd,w64 (n := -((u / 10 : Nat) : Int)) (by omega) (by omega),wrapd]
   rw [key]
   by_cases hs : u < 10
   ·have hq : u / 10 = 0 := by omega
    have hz0 : (if v < 0 then -((u / 10 : Nat) : Int) else ((u / 10 : Nat) : Int)) = 0 := by rw [hq]; split <;> rfl
    have e2 : revDigs u = [48 + ((u % 10 : Nat) : Int)] := by
     rw [revDigs,decDigits_one hs,List.reverse_singleton,List.map_singleton,dig48 hs,Nat.mod_eq_of_lt hs]
    rw [hz0,spec_l01Dec_p0_eq,e2]
    have h5 : (r ++ [48 + ((u % 10 : Nat) : Int)]).length + 1 < lim := by rw [lim_eq]; simp; omega
    by_cases hn0 : n < 0
    ·simp only [bne_self_eq_false,Bool.false_eq_true,if_false,hn0,decide_true,if_true,h5,List.take_length]
    ·simp only [bne_self_eq_false,Bool.false_eq_true,if_false,hn0,decide_false,List.append_nil]
   ·have e2 : revDigs u = (48 + ((u % 10 : Nat) : Int)) :: revDigs (u / 10) := by
     rw [revDigs,decDigits_more hs,List.reverse_append,List.reverse_singleton,List.singleton_append,List.map_cons,dig48 (Nat.mod_lt u (by omega)),revDigs]
    rw [spec_l01Dec_p0_all n k (u / 10) _ (r ++ [48 + ((u % 10 : Nat) : Int)]) (by split <;> omega) (by omega) (by omega) (by omega) (by split <;> omega) (by simp; omega),e2]
    simp only [List.append_assoc,List.singleton_append,List.cons_append,List.nil_append]
theorem revDigs_back (u : Nat) : (revDigs u).reverse.map vu8 = Lib.decDigits u := by
 rw [revDigs,← List.map_reverse,List.reverse_reverse,List.map_map]
 conv => rhs; rw [← List.map_id (Lib.decDigits u)]
 exact List.map_congr_left fun c _ => by simp [vu8]
theorem decLen : ∀ (k u : Nat),u < 10 ^ (k + 1) → (Lib.decDigits u).length ≤ k + 1
 | 0,u,h => by rw [decDigits_one (by simpa using h)]; simp
 | k + 1,u,h => by
   by_cases hs : u < 10
   ·rw [decDigits_one hs]; simp
   ·have hp : 10 ^ (k + 1 + 1) = 10 ^ (k + 1) * 10 := Nat.pow_succ ..
    have := decLen k (u / 10) (by omega)
    rw [decDigits_more hs,List.length_append,List.length_singleton]; omega
theorem revDigs_len (u : Nat) (h : u ≤ 2000000000000000000) : (revDigs u).length ≤ 20 := by
 rw [revDigs,List.length_map,List.length_reverse]
 have h10 : (10 : Nat) ^ (19 + 1) = 100000000000000000000 := by decide
 exact decLen 19 u (by omega)
theorem spec_l01Dec_itoa (n : Int) (h : -2000000000000000000 ≤ n ∧ n ≤ 2000000000000000000) : spec_l01Dec n = some (Lib.itoa n) := by
 rw [spec_l01Dec_eq]
 by_cases hz : n = 0
 ·subst hz; simp only [beq_self_eq_true,if_true]; rw [Lib.itoa,if_neg (by decide),show (0 : Int).toNat = 0 from rfl,decDigits_one (by decide)]; rfl
 have hz' : (n == 0) = false := by simpa using hz
 simp only [hz',Bool.false_eq_true,if_false]
 have hu : n.natAbs < 10 ^ 20 := by
  have : (10 : Nat) ^ 20 = 100000000000000000000 := by decide
  omega
 rw [spec_l01Dec_p0_all n 20 n.natAbs n [] (by omega) (by omega) hu (by omega) Iff.rfl (by simp),spec_l01Dec_p2_all _ (by
  have := revDigs_len n.natAbs (by omega)
  rw [List.nil_append,List.length_append]
  split <;> simp <;> omega)]
 rw [List.nil_append,List.reverse_append,List.map_append,revDigs_back]
 unfold Lib.itoa
 by_cases hn : n < 0
 ·rw [if_pos hn,if_pos hn]; rfl
 ·rw [if_neg hn,if_neg hn,show n.toNat = n.natAbs by omega]; rfl
theorem index1_none {c : UInt8} : ∀ {a : List UInt8},c ∉ a → Lib.index a [c] = -1
 | [],_ => rfl
 | b :: l,h => by
   have h1 : (c == b) = false := by simp at h; simpa using h.1
   have h2 := index1_none (a := l) (fun e => h (List.mem_cons_of_mem _ e))
   unfold Lib.index
   simp [List.isPrefixOf,h1,h2]
theorem index1_at {c : UInt8} : ∀ {a : List UInt8} (r : List UInt8),c ∉ a → Lib.index (a ++ c :: r) [c] = a.length
 | [],r,_ => by simp [Lib.index,List.isPrefixOf]
 | b :: l,r,h => by
   have h1 : (c == b) = false := by simp at h; simpa using h.1
   have h2 := index1_at (a := l) r (fun e => h (List.mem_cons_of_mem _ e))
   rw [List.cons_append]
   unfold Lib.index
   have h3 : ((l.length : Int) == -1) = false := by rw [beq_eq_false_iff_ne]; omega
   simp [List.isPrefixOf,h1,h2,h3]
theorem split1_last {c : UInt8} {a : List UInt8} (h : c ∉ a) : Lib.splitK [c] 0 (Lib.count a [c]) a = [a] := by
 rw [Lib.count_miss (index1_none h)]; rfl
theorem split1_cons {c : UInt8} {a : List UInt8} (r : List UInt8) (h : c ∉ a) : Lib.splitK [c] 0 (Lib.count (a ++ c :: r) [c]) (a ++ c :: r) = a :: Lib.splitK [c] 0 (Lib.count r [c]) r := by
 have hi := index1_at r h
 have hm : ¬ ((a.length : Int) == -1) = true := by rw [beq_iff_eq]; omega
 have hd : (a ++ c :: r).drop (a.length + [c].length) = r := by simp [List.drop_append]
 rw [Lib.count_hit (by simp) hi,hd,Nat.add_comm 1,Lib.splitK,hi,if_neg hm,Int.toNat_natCast,hd]
 simp
theorem impl_Decimal_ok (n : Int) (h : -9223372036854775808 ≤ n ∧ n ≤ 9223372036854775807) : impl_Decimal n = some (Lib.itoa n) := by
 rw [impl_Decimal_eq,strconv_FormatInt_eq]
 simp [h.1,h.2]
def padP (n : Int) (d : Nat) : List UInt8 := Lib.repeatL [48] (d - (Lib.itoa n).length) ++ Lib.itoa n
theorem impl_padded_ok (n : Int) (d : Nat) (h : -9223372036854775808 ≤ n ∧ n ≤ 9223372036854775807) (hd : d ≤ 1000) (hl : (Lib.itoa n).length ≤ 1000) : impl_padded n d = some (padP n d) := by
 have hm : (if (d : Int) - ((Lib.itoa n).length : Int) > 0 then (d : Int) - ((Lib.itoa n).length : Int) else 0) = ((d - (Lib.itoa n).length : Nat) : Int) := by split <;> omega
 rw [impl_padded_eq,impl_Decimal_ok n h]
 simp only [Option.bind_some]
 rw [w64 (n := (d : Int) - ((Lib.itoa n).length : Int)) (by omega) (by omega),hm,strings_Repeat_eq]
 have h1 : ((d - (Lib.itoa n).length : Nat) : Int) ≥ 0 := by omega
 have h2 : ((d - (Lib.itoa n).length : Nat) : Int) ≤ 9223372036854775807 := by omega
 have h3 : ([48] : List UInt8).length * (d - (Lib.itoa n).length) ≤ 140737488355328 := by simp; omega
 have h4 : (Lib.repeatL [48] (d - (Lib.itoa n).length)).length + (Lib.itoa n).length ≤ strMax := by
  rw [Lib.repeatL_length,strMax_eq]; simp; omega
 simp only [h1,h2,Int.toNat_natCast,h3,decide_true,Bool.and_self,if_true,Option.bind_some,h4]
 rfl
def runs (m : Int) : Nat → List Int
 | 0 => []
 | n + 1 => m :: runs (m + 1) n
theorem wu64 {n : Int} (h1 : 0 ≤ n) (h2 : n < 18446744073709551616) : IntKind.u64.wrap n = n := by
 have e : IntKind.u64.wrap n = if decide false = true then n % 18446744073709551616 - 18446744073709551616 else n % 18446744073709551616 := by
  simp [IntKind.wrap,IntKind.signed,IntKind.bits]
 rw [e]
 simp; omega
theorem and255 (x : Int) : ((BitVec.ofInt IntKind.u64.bits x &&& BitVec.ofInt IntKind.u64.bits 255).toNat : Int) ≤ 255 := by
 have : (BitVec.ofInt IntKind.u64.bits x &&& BitVec.ofInt IntKind.u64.bits 255).toNat ≤ 255 := by
  rw [BitVec.toNat_and]
  refine Nat.le_trans Nat.and_le_right ?_
  decide
 omega
def SrcOk (s : T_l00Src.ty) (c : Int) : Prop := (∀ x : Int,x ∈ s.1 → 0 ≤ x ∧ x ≤ 255) ∧ s.1.length ≤ 1048576 ∧ (0 : Int) ≤ s.2.1 ∧ (s.2.1 : Int) ≤ c
theorem src_eta (s : T_l00Src.ty) : (s.1,s.2.1,s.2.2.1,()) = s := rfl
theorem SrcOk.up {s : T_l00Src.ty} {c d : Int} (h : SrcOk s c) (hd : c ≤ d) : SrcOk s d := ⟨h.1,h.2.1,h.2.2.1,Int.le_trans h.2.2.2 hd⟩
theorem next_p0_ok (v : Int) (l : List Int) (a h : Int) (c : Int) (hs : SrcOk (l,a,h,()) c) (hc : c ≤ 1152921504606846976) (hv : 0 ≤ v ∧ v ≤ 255) :
 ∃ (u : Int) (s' : T_l00Src.ty),spec_l00Src_next_p0 v l a h = some (u,s') ∧ SrcOk s' (c + 1) ∧ 0 ≤ u ∧ u ≤ 255 := by
 obtain ⟨h1,h2,h3,h4⟩ := hs
 have h3 : 0 ≤ a := h3
 have h4 : a ≤ c := h4
 rw [spec_l00Src_next_p0_eq,w64 (n := a + 1) (by omega) (by omega)]
 split
 ·exact ⟨_,_,rfl,⟨h1,h2,by show (0 : Int) ≤ a + 1; omega,by show (a + 1 : Int) ≤ c + 1; omega⟩,hv⟩
 ·refine ⟨_,_,rfl,⟨h1,h2,by show (0 : Int) ≤ a + 1; omega,by show (a + 1 : Int) ≤ c + 1; omega⟩,?_⟩
  generalize hx : ((BitVec.ofInt IntKind.u64.bits _ &&& BitVec.ofInt IntKind.u64.bits 255).toNat : Int) = x
  have := and255 (Int.fdiv (IntKind.u64.wrap ((IntKind.u64.wrap ((IntKind.u64.wrap (h * 6364136223846793005)) + (IntKind.u64.wrap v))) + 1442695040888963407)) (2 ^ (min (40 : Int).toNat IntKind.u64.bits)))
  rw [hx] at this
  have h0 : 0 ≤ x := by rw [← hx]; exact Int.natCast_nonneg _
  rw [wu64 h0 (by omega),w64 (by omega) (by omega)]
  exact ⟨h0,this⟩
theorem next_core (l : List Int) (a h c : Int) (hs : SrcOk (l,a,h,()) c) (hc : c ≤ 1152921504606846976) : ∃ (u : Int) (s' : T_l00Src.ty),spec_l00Src_next (l,a,h,()) = some (u,s') ∧ SrcOk s' (c + 1) ∧ 0 ≤ u ∧ u ≤ 255 := by
 have h3 : (0 : Int) ≤ a := hs.2.2.1
 rw [spec_l00Src_next_eq]
 dsimp only
 split
 ·rename_i hlt
  simp only [decide_eq_true_eq] at hlt
  have hlt' : a < (List.length (α := Int) l : Int) := hlt
  have hi : a.toNat < l.length := by omega
  obtain ⟨x,hx⟩ : ∃ x,l[a.toNat]? = some x := ⟨_,List.getElem?_eq_getElem hi⟩
  have hm : 0 ≤ x ∧ x ≤ 255 := hs.1 x (List.mem_of_getElem? hx)
  rw [if_pos (by simpa using h3),hx,Option.bind_some,w64 (n := x) (by omega) (by omega)]
  exact next_p0_ok x l a h c hs hc hm
 ·exact next_p0_ok 0 l a h c hs hc ⟨by omega,by omega⟩
theorem next_ok {s : T_l00Src.ty} {c : Int} (hs : SrcOk s c) (hc : c ≤ 1152921504606846976) : ∃ (u : Int) (s' : T_l00Src.ty),spec_l00Src_next s = some (u,s') ∧ SrcOk s' (c + 1) ∧ 0 ≤ u ∧ u ≤ 255 :=
 next_core s.1 s.2.1 s.2.2.1 c hs hc
theorem pick_ok {s : T_l00Src.ty} {c : Int} (hs : SrcOk s c) (hc : c ≤ 1000000000000000000) (n : Int) (hn : n ≤ 65536) :
 ∃ (u : Int) (s' : T_l00Src.ty),spec_l00Src_pick s n = some (u,s') ∧ SrcOk s' (c + 2) ∧ 0 ≤ u ∧ (u = 0 ∨ u < n) := by
 rw [spec_l00Src_pick_eq]
 by_cases h1 : n ≤ 1
 ·simp only [h1,decide_true,if_true]
  exact ⟨0,s,rfl,hs.up (by omega),by omega,.inl rfl⟩
 ·obtain ⟨u,s1,e1,k1,b1,b2⟩ := next_ok hs (by omega)
  have hn0 : ¬ n = 0 := by omega
  simp only [h1,decide_false,Bool.false_eq_true,if_false,e1,Option.bind_some,src_eta,hn0]
  by_cases h2 : n > 200
  ·obtain ⟨v,s2,e2,k2,b3,b4⟩ := next_ok k1 (by omega)
   simp only [h2,decide_true,if_true,e2,Option.bind_some,src_eta]
   rw [w64 (n := u * 256) (by omega) (by omega),w64 (n := u * 256 + v) (by omega) (by omega),tmod_nonneg_eq (by omega)]
   exact ⟨_,s2,rfl,k2.up (by omega),Int.emod_nonneg _ hn0,.inr (Int.emod_lt_of_pos _ (by omega))⟩
  ·simp only [h2,decide_false,Bool.false_eq_true,if_false]
   rw [tmod_nonneg_eq b1]
   exact ⟨_,s1,rfl,k1.up (by omega),Int.emod_nonneg _ hn0,.inr (Int.emod_lt_of_pos _ (by omega))⟩
theorem one_ok {s : T_l00Src.ty} {c : Int} (hs : SrcOk s c) (hc : c ≤ 1000000000000000000) (n : Int) (hn : n ≤ 65536) :
 ∃ (u : Bool) (s' : T_l00Src.ty),spec_l00Src_one s n = some (u,s') ∧ SrcOk s' (c + 2) := by
 obtain ⟨u,s1,e1,k1,_⟩ := pick_ok hs hc n hn
 rw [spec_l00Src_one_eq]
 simp only [e1,Option.bind_some,src_eta]
 exact ⟨_,s1,rfl,k1⟩
theorem among_ok {s : T_l00Src.ty} {c : Int} (hs : SrcOk s c) (hc : c ≤ 1000000000000000000) (l : List Int) (h0 : 0 < l.length) (hn : l.length ≤ 65536) :
 ∃ (u : Int) (s' : T_l00Src.ty),spec_l00Src_among s l = some (u,s') ∧ SrcOk s' (c + 2) ∧ u ∈ l := by
 obtain ⟨u,s1,e1,k1,b1,b2⟩ := pick_ok hs hc (l.length : Int) (by omega)
 have hi : u.toNat < l.length := by omega
 rw [spec_l00Src_among_eq]
 simp only [e1,Option.bind_some,src_eta,b1,decide_true,if_true,List.getElem?_eq_getElem hi]
 exact ⟨_,s1,rfl,k1,List.getElem_mem hi⟩
theorem from_ok (code : List Int) (h1 : ∀ x,x ∈ code → 0 ≤ x ∧ x ≤ 255) (h2 : code.length ≤ 1048576) : ∃ s,spec_l00From code = some s ∧ SrcOk s 0 := by
 rw [spec_l00From_eq]
 exact ⟨_,rfl,h1,h2,Int.le_refl _,Int.le_refl _⟩
theorem bytes_ok {l : List Int} (h : CT.wf (.sl (.one (.int .u8))) l) : ∀ x,x ∈ l → 0 ≤ x ∧ x ≤ 255 := fun x hx => by
 have : (Lit.int .u8 x).wf = true := h.2 x hx
 simp [Lit.wf,IntKind.min,IntKind.max,IntKind.signed,IntKind.bits] at this
 omega
theorem dig_toNat {d : Nat} (h : d < 10) : (UInt8.ofNat (48 + d)).toNat = 48 + d := by
 rw [UInt8.toNat_ofNat']; omega
theorem decDigits_dig (u : Nat) : ∀ c,c ∈ Lib.decDigits u → 48 ≤ c.toNat ∧ c.toNat ≤ 57 := by
 induction u using Nat.strongRecOn with
 | _ u ih =>
   intro c hc
   rw [Lib.decDigits] at hc
   split at hc
   ·rename_i h
    simp only [List.mem_singleton] at hc
    rw [hc,dig_toNat h]; omega
   ·rename_i h
    rcases List.mem_append.1 hc with h1 | h1
    ·exact ih (u / 10) (by omega) c h1
    ·simp only [List.mem_singleton] at h1
     rw [h1,dig_toNat (by omega)]; omega
theorem decDigits_len : ∀ (k u : Nat),u < 10 ^ (k + 1) → (Lib.decDigits u).length ≤ k + 1 ∧ 1 ≤ (Lib.decDigits u).length
 | 0,u,h => by
   rw [Lib.decDigits,dif_pos (by simpa using h)]; simp
 | k + 1,u,h => by
   rw [Lib.decDigits]
   split
   ·simp
   ·have hq : u / 10 < 10 ^ (k + 1) := by
     have : 10 ^ (k + 1 + 1) = 10 ^ (k + 1) * 10 := Nat.pow_succ ..
     omega
    have := decDigits_len k (u / 10) hq
    simp only [List.length_append,List.length_singleton]
    omega
theorem itoa_pos (u : Nat) : Lib.itoa (u : Int) = Lib.decDigits u := by unfold Lib.itoa; rw [if_neg (by omega)]; simp
theorem padP_len (u d : Nat) : (padP (u : Int) d).length = max d (Lib.itoa (u : Int)).length := by
 unfold padP
 rw [List.length_append,Lib.repeatL_length]
 simp only [List.length_singleton]
 omega
def fixP (n : Int) (p : Nat) : List UInt8 :=
 let d := padP ((n.natAbs : Nat) : Int) (p + 1)
 let t := d.take (d.length - p) ++ 46 :: d.drop (d.length - p)
 if n < 0 then 45 :: t else t
theorem impl_FixedText_ok (n : Int) (p : Nat) (hn : -1000000000 ≤ n ∧ n ≤ 1000000000) (hp : 1 ≤ p ∧ p ≤ 6) : impl_FixedText n p = some (fixP n p) := by
 have hm : (if IntKind.i64.wrap (0 - n) > n then IntKind.i64.wrap (0 - n) else n) = ((n.natAbs : Nat) : Int) := by rw [w64 (by omega) (by omega)]; split <;> omega
 have l1 := decDigits_len 10 n.natAbs (by omega)
 rw [← itoa_pos] at l1
 have hl := padP_len n.natAbs (p + 1)
 have hpd := impl_padded_ok ((n.natAbs : Nat) : Int) (p + 1) (by omega) (by omega) (by omega)
 rw [show (((p + 1 : Nat)) : Int) = (p : Int) + 1 by omega] at hpd
 rw [impl_FixedText_eq,impl_within_ok,show inR n (-1000000000) 1000000000 = true from inR_iff'.2 hn,impl_within_ok,show inR (p : Int) 1 6 = true from inR_iff'.2 (by omega)]
 simp only [Option.bind_some,Bool.not_true,Bool.false_eq_true,if_false,impl_FixedText_p0_eq,hm,w64 (n := (p : Int) + 1) (by omega) (by omega),hpd]
 unfold fixP
 generalize padP ((n.natAbs : Nat) : Int) (p + 1) = d at hl ⊢
 have hw : IntKind.i64.wrap ((d.length : Int) - (p : Int)) = ((d.length - p : Nat) : Int) := by rw [w64 (by omega) (by omega)]; omega
 have c1 : (0 : Int) ≤ ((d.length - p : Nat) : Int) := by omega
 have c2 : ((d.length - p : Nat) : Int) ≤ (d.length : Int) := by omega
 have c3 : (d.take (d.length - p)).length + ([46] : List Nat).length ≤ strMax := by rw [strMax_eq,List.length_take]; simp; omega
 have c4 : ((d.take (d.length - p)) ++ [46]).length + (d.drop (d.length - p)).length ≤ strMax := by rw [strMax_eq,List.length_append,List.length_take,List.length_drop]; simp; omega
 have c5 : ([45] : List Nat).length + (((d.take (d.length - p)) ++ [46]) ++ (d.drop (d.length - p))).length ≤ strMax := by rw [strMax_eq,List.length_append,List.length_append,List.length_take,List.length_drop]; simp; omega
 rw [hw,Int.toNat_natCast]
 simp only
 generalize d.take (d.length - p) = A at c3 c4 c5 ⊢
 generalize d.drop (d.length - p) = B at c4 c5 ⊢
 simp only [c1,c2,decide_true,Bool.and_self,if_true,c3,c4,c5,decide_eq_true_eq]
 by_cases h : n < 0
 ·simp only [h,if_true]; simp
 ·simp only [h,if_false]; simp
theorem dec_ne (u : Nat) : Lib.decDigits u ≠ [] := by
 rw [Lib.decDigits]; split <;> simp
theorem itoa_len (n : Int) (h : -1000000000000 ≤ n ∧ n ≤ 1000000000000) : 1 ≤ (Lib.itoa n).length ∧ (Lib.itoa n).length ≤ 15 := by
 have e13 : (10 : Nat) ^ (13 + 1) = 100000000000000 := by decide
 unfold Lib.itoa
 split
 ·have := decDigits_len 13 n.natAbs (by omega)
  simp; omega
 ·have := decDigits_len 13 n.toNat (by omega)
  omega
theorem itoa_mem (n : Int) (c : UInt8) (hc : c ∈ Lib.itoa n) : c = 45 ∨ 48 ≤ c.toNat ∧ c.toNat ≤ 57 := by
 unfold Lib.itoa at hc
 split at hc
 ·rcases List.mem_cons.1 hc with h | h
  ·exact .inl h
  ·exact .inr (decDigits_dig _ c h)
 ·exact .inr (decDigits_dig _ c hc)
theorem join_cons2 (x y : List UInt8) (r : List (List UInt8)) (c : UInt8) : Lib.join (x :: y :: r) [c] = x ++ c :: Lib.join (y :: r) [c] := by
 rw [Lib.join_cons,Lib.join_cons]
 simp [Lib.joinTail]
theorem split_join {c : UInt8} : ∀ (x : List UInt8) (r : List (List UInt8)),(∀ y,y ∈ x :: r → c ∉ y) →
 Lib.splitK [c] 0 (Lib.count (Lib.join (x :: r) [c]) [c]) (Lib.join (x :: r) [c]) = x :: r
 | x,[],h => by rw [Lib.join_one]; exact split1_last (h x (by simp))
 | x,y :: r,h => by
   rw [join_cons2,split1_cons _ (h x (by simp)),split_join y r fun z hz => h z (List.mem_cons_of_mem _ hz)]
theorem pot_eta (x : T_Pot.ty) : (x.1,x.2.1,x.2.2.1,x.2.2.2.1,x.2.2.2.2.1,()) = x := rfl
theorem spec_l14DrawOne_ok {s : T_l00Src.ty} {c : Int} (hs : SrcOk s c) (hc : c ≤ 100000000000000000) (id : List UInt8) : ∃ (x : T_Pot.ty) (s' : T_l00Src.ty),spec_l14DrawOne s id = some (x,s') ∧ SrcOk s' (c + 10) ∧ x.1 = id := by
 obtain ⟨v1,s1,e1,k1,_⟩ := pick_ok hs (by omega) 30 (by omega)
 obtain ⟨v2,s2,e2,k2,_⟩ := pick_ok k1 (by omega) 60 (by omega)
 obtain ⟨v3,s3,e3,k3,_⟩ := pick_ok k2 (by omega) 45 (by omega)
 obtain ⟨v4,s4,e4,k4,_⟩ := pick_ok k3 (by omega) 3 (by omega)
 obtain ⟨v5,s5,e5,k5,_⟩ := pick_ok k4 (by omega) 30 (by omega)
 rw [spec_l14DrawOne_eq]
 simp only [e1,e2,e3,e4,e5,Option.bind_some,src_eta]
 exact ⟨_,s5,rfl,k5.up (by omega),rfl⟩
theorem spec_l14Bent_ok {s : T_l00Src.ty} {c : Int} (hs : SrcOk s c) (hc : c ≤ 10000000000000000) (p : T_Pot.ty) : ∃ (x : T_Pot.ty) (s' : T_l00Src.ty),spec_l14Bent s p = some (x,s') ∧ SrcOk s' (c + 4) ∧ x.1 = p.1 := by
 obtain ⟨v,s1,e1,k1,_⟩ := pick_ok hs (by omega) 20 (by omega)
 obtain ⟨a1,t1,f1,g1,_⟩ := among_ok k1 (by omega) [0,1,10000,10001] (by decide) (by decide)
 obtain ⟨a3,t3,f3,g3,_⟩ := among_ok k1 (by omega) [19,20,95,96] (by decide) (by decide)
 obtain ⟨a4,t4,f4,g4,_⟩ := among_ok k1 (by omega) [(-1),0,1000,1001] (by decide) (by decide)
 rw [spec_l14Bent_eq]
 simp only [e1,f1,f3,f4,Option.bind_some,src_eta]
 repeat' split
 all_goals exact ⟨_,_,rfl,SrcOk.up (by first | exact g1 | exact g3 | exact g4 | exact k1) (by omega),rfl⟩
def potOk (id : List UInt8) (dry water heat hours : Int) : Bool :=
 isName id && (inR dry 1 10000 && (inR water 1 10000 && (inR heat 20 95 && inR hours 0 1000)))
theorem inR_iff {n lo hi : Int} : inR n lo hi = true ↔ lo ≤ n ∧ n ≤ hi := by simp [inR]
theorem potOk_iff {id : List UInt8} {dry water heat hours : Int} : potOk id dry water heat hours = true ↔ isName id = true ∧ (1 ≤ dry ∧ dry ≤ 10000) ∧ (1 ≤ water ∧ water ≤ 10000) ∧ (20 ≤ heat ∧ heat ≤ 95) ∧ 0 ≤ hours ∧ hours ≤ 1000 := by
 simp [potOk,inR_iff]
theorem impl_Pot_valid_ok (id : List UInt8) (dry water heat hours : Int) (hs : id.length < 4611686018427387904) : impl_Pot_valid (id,dry,water,heat,hours,()) = some (potOk id dry water heat hours) := by
 rw [impl_Pot_valid_eq,potOk]
 simp only [impl_IsName_ok id hs,impl_isGrams_eq,impl_isHeat_eq,impl_within_ok,Option.bind_some]
 cases isName id <;> cases inR dry 1 10000 <;> cases inR water 1 10000 <;> cases inR heat 20 95 <;> simp
def potOkT (x : T_Pot.ty) : Bool := potOk x.1 x.2.1 x.2.2.1 x.2.2.2.1 x.2.2.2.2.1
def potsOk (xs : List T_Pot.ty) : Bool := sortedChk potOkT (fun x => x.1) none xs && decide ((xs.length : Int) ≤ 8)
theorem potsOk_all {xs : List T_Pot.ty} (h : potsOk xs = true) (x : T_Pot.ty) (hx : x ∈ xs) : potOkT x = true := by
 simp only [potsOk,Bool.and_eq_true] at h
 exact sortedChk_all h.1 x hx
def potStrong (dry water heat hours : Int) : Int :=
 if rdivP (1000 * dry) (dry + water) - 2 * hours - 10 * (if heat - 70 > 0 then heat - 70 else 0) > 0 then rdivP (1000 * dry) (dry + water) - 2 * hours - 10 * (if heat - 70 > 0 then heat - 70 else 0) else 0
theorem strong_bounds {dry water heat hours : Int} (h1 : 1 ≤ dry ∧ dry ≤ 10000) (h2 : 1 ≤ water ∧ water ≤ 100000) (h3 : 20 ≤ heat ∧ heat ≤ 95) (h4 : 0 ≤ hours ∧ hours ≤ 100000) :
 0 ≤ rdivP (1000 * dry) (dry + water) ∧ rdivP (1000 * dry) (dry + water) ≤ 10000001 ∧ 0 ≤ potStrong dry water heat hours ∧ potStrong dry water heat hours ≤ 10000001 := by
 have := rdivP_nonneg (a := 1000 * dry) (b := dry + water) (by omega) (by omega)
 have := rdivP_le (a := 1000 * dry) (b := dry + water) (by omega) (by omega)
 refine ⟨by omega,by omega,?_⟩
 unfold potStrong
 constructor <;> repeat' split
 all_goals omega
theorem impl_Pot_strength_ok (id : List UInt8) (dry water heat hours : Int) (h1 : 1 ≤ dry ∧ dry ≤ 10000) (h2 : 1 ≤ water ∧ water ≤ 100000) (h3 : 20 ≤ heat ∧ heat ≤ 95) (h4 : 0 ≤ hours ∧ hours ≤ 100000) :
 impl_Pot_strength (id,dry,water,heat,hours,()) = some (potStrong dry water heat hours) := by
 have hb := strong_bounds h1 h2 h3 h4
 rw [impl_Pot_strength_eq]
 simp only
 rw [w64 (n := 1000 * dry) (by omega) (by omega),w64 (n := dry + water) (by omega) (by omega),impl_divRound_ok _ _ (by omega) (by omega),Option.bind_some,w64 (n := heat - 70) (by omega) (by omega)]
 have hm : 0 ≤ (if heat - 70 > 0 then heat - 70 else 0) ∧ (if heat - 70 > 0 then heat - 70 else 0) ≤ 30 := by constructor <;> split <;> omega
 unfold potStrong
 generalize (if heat - 70 > 0 then heat - 70 else 0) = m at hm ⊢
 rw [w64 (n := 2 * hours) (by omega) (by omega),w64 (n := rdivP (1000 * dry) (dry + water) - 2 * hours) (by omega) (by omega),w64 (n := 10 * m) (by omega) (by omega),w64 (n := rdivP (1000 * dry) (dry + water) - 2 * hours - 10 * m) (by omega) (by omega)]
theorem impl_ValidPots_ok (xs : List T_Pot.ty) (hs : xs.length ≤ 1048576) (hx : ∀ x,x ∈ xs → x.1.length ≤ 1048576) : impl_ValidPots xs = some (potsOk xs) := by
 rw [impl_ValidPots_eq]
 have := sortedLoopI xs impl_Pot_valid potOkT (fun x => x.1) (fun i => impl_ValidPots_p0 xs xs xs.length i) _ _ (show ((impl_few (xs.length : Int) 8).bind fun x4 => some x4) = some (decide ((xs.length : Int) ≤ 8)) by rw [impl_few_eq]; rfl) (fun i => impl_ValidPots_p0_eq xs xs xs.length i) hs (fun x hm => impl_Pot_valid_ok x.1 x.2.1 x.2.2.1 x.2.2.2.1 x.2.2.2.2.1 (by have := hx x hm; omega)) xs.length 0 (by omega)
 exact this
def lineOk (s : List UInt8) : Bool := (s.all fun c => inR (c.toNat : Int) 32 126) && decide ((s.length : Int) ≤ 100)
def reportOk (ls : List (List UInt8)) : Bool := ls.all lineOk && decide ((ls.length : Int) ≤ 200)
theorem ifSome {a b : Bool} : (if a = true then some b else some false) = some (a && b) := by cases a <;> rfl
theorem spec_l30Line_ok (s : List UInt8) (hs : s.length ≤ 1048576) : spec_l30Line s = some (lineOk s) := by
 rw [spec_l30Line_eq]
 have := allLoop s (fun c => some (inR (c.toNat : Int) 32 126)) (fun c => inR (c.toNat : Int) 32 126) (fun i => spec_l30Line_p0 s i) false (some (decide ((s.length : Int) ≤ 100))) (fun i => by
  show spec_l30Line_p0 s i = _
  rw [spec_l30Line_p0_eq]
  by_cases h : i < (s.length : Int)
  ·by_cases h0 : 0 ≤ i
   ·simp only [h,h0,decide_true,if_true]
    cases e : s[i.toNat]?
    ·rfl
    ·rename_i c
     simp only [Option.bind_some,inR]
     by_cases h1 : (c.toNat : Int) < 32
     ·have h1' : ¬ 32 ≤ (c.toNat : Int) := by omega
      simp [h1,h1']
     ·have h1' : 32 ≤ (c.toNat : Int) := by omega
      by_cases h2 : (c.toNat : Int) > 126
      ·have h2' : ¬ (c.toNat : Int) ≤ 126 := by omega
       simp [h1,h1',h2,h2']
      ·have h2' : (c.toNat : Int) ≤ 126 := by omega
       simp [h1,h1',h2,h2']
   ·simp only [h,h0,decide_true,decide_false,Bool.false_eq_true,if_true,if_false]
  ·simp only [h,decide_false,Bool.false_eq_true,if_false]) (by omega) (fun _ _ => rfl) s.length 0 (by omega)
 simp only [Int.ofNat_zero,Int.natCast_zero,List.drop_zero] at this
 rw [this,lineOk,ifSome]
theorem impl_isLine_ok (s : List UInt8) (hs : s.length ≤ 1048576) : impl_isLine s = some (lineOk s) := by
 rw [impl_isLine_eq]
 have := allLoop s (fun c => impl_within (IntKind.i64.wrap (c.toNat : Int)) 32 126) (fun c => inR (c.toNat : Int) 32 126) (fun i => impl_isLine_p0 s i) false (some (decide ((s.length : Int) ≤ 100))) (fun i => by
  show impl_isLine_p0 s i = _
  rw [impl_isLine_p0_eq,impl_few_eq]; rfl) (by omega) (fun c _ => by
   have hc := c.toNat_lt
   rw [impl_within_ok,w64 (by omega) (by omega)]) s.length 0 (by omega)
 simp only [Int.ofNat_zero,Int.natCast_zero,List.drop_zero] at this
 rw [this,lineOk,ifSome]
theorem spec_l30Ok_ok (ls : List (List UInt8)) (hs : ls.length ≤ 1048576) (hx : ∀ x,x ∈ ls → x.length ≤ 1048576) : spec_l30Ok ls = some (reportOk ls) := by
 rw [spec_l30Ok_eq]
 have := allLoop ls spec_l30Line lineOk (fun i => spec_l30Ok_p0 ls i) false _ (fun i => spec_l30Ok_p0_eq ls i) (by omega) (fun x h => spec_l30Line_ok x (hx x h)) ls.length 0 (by omega)
 simp only [Int.ofNat_zero,Int.natCast_zero,List.drop_zero] at this
 rw [this,reportOk,ifSome]
theorem indexReport (ls : List (List UInt8)) (hs : ls.length ≤ 1048576) (hx : ∀ x,x ∈ ls → x.length ≤ 1048576) : ∀ (k i : Nat),i + k = ls.length → ∃ r : Int,slices_IndexFunc___string_string__impl_ValidReport_1_p0 ls ls.length i = some r ∧ decide (r ≥ 0) = !((ls.drop i).all lineOk)
 | 0,i,hk => by
   refine ⟨-1,?_,?_⟩
   ·rw [slices_IndexFunc___string_string__impl_ValidReport_1_p0_eq]
    have : ¬ (i : Int) < (ls.length : Int) := by omega
    simp only [this,decide_false,Bool.false_eq_true,if_false]
   ·rw [List.drop_eq_nil_of_le (by omega)]; rfl
 | k + 1,i,hk => by
   have hi : i < ls.length := by omega
   have hlt : (i : Int) < (ls.length : Int) := by omega
   have hw : IntKind.i64.wrap ((i : Int) + 1) = ((i + 1 : Nat) : Int) := by rw [w64 (by omega) (by omega)]; omega
   rw [slices_IndexFunc___string_string__impl_ValidReport_1_p0_eq,List.drop_eq_getElem_cons hi]
   simp only [hlt,decide_true,if_true,Int.natCast_nonneg,Int.toNat_natCast,List.getElem?_eq_getElem hi,Option.bind_some,impl_ValidReport_1_eq,impl_isLine_ok ls[i] (hx _ (List.getElem_mem hi)),hw,List.all_cons]
   cases lineOk ls[i]
   ·exact ⟨i,by simp,by simp⟩
   ·simp only [Bool.not_true,Bool.false_eq_true,if_false,Bool.true_and]
    exact indexReport ls hs hx k (i + 1) (by omega)
theorem impl_ValidReport_ok (ls : List (List UInt8)) (hs : ls.length ≤ 1048576) (hx : ∀ x,x ∈ ls → x.length ≤ 1048576) : impl_ValidReport ls = some (reportOk ls) := by
 obtain ⟨r,r1,r2⟩ := indexReport ls hs hx ls.length 0 (by omega)
 have r1' : slices_IndexFunc___string_string__impl_ValidReport_1_p0 ls (ls.length : Int) 0 = some r := r1
 rw [List.drop_zero] at r2
 rw [impl_ValidReport_eq,impl_few_eq,slices_ContainsFunc___string_string__impl_ValidReport_1_eq,slices_IndexFunc___string_string__impl_ValidReport_1_eq,r1',reportOk]
 simp only [Option.bind_some,r2]
 cases ls.all lineOk <;> by_cases h : (ls.length : Int) ≤ 200 <;> simp [h]
theorem impl_report_ok (ls : List (List UInt8)) (hs : ls.length ≤ 1048576) (hx : ∀ x,x ∈ ls → x.length ≤ 1048576) : impl_report ls = some (if reportOk ls = true then (ls,0,()) else ([],5,())) := by
 rw [impl_report_eq,List.take_length,impl_ValidReport_ok ls hs hx]
 cases reportOk ls <;> simp
def wd (W : List Int) (k : Nat) : Int := (W[k]?).getD 0
def upd (W : List Int) (i : Nat) (c : List UInt8) : List Int := W.set i (if (c.length : Int) > wd W i then (c.length : Int) else wd W i)
def rowW : List Int → Nat → List (List UInt8) → List Int
 | W,_,[] => W
 | W,i,c :: r => rowW (upd W i c) (i + 1) r
def allW : List Int → List (List (List UInt8)) → List Int
 | W,[] => W
 | W,row :: r => allW (rowW W 0 row) r
theorem upd_len (W : List Int) (i : Nat) (c : List UInt8) : (upd W i c).length = W.length := by simp [upd]
theorem rowW_len : ∀ (row : List (List UInt8)) (W : List Int) (i : Nat),(rowW W i row).length = W.length
 | [],_,_ => rfl
 | c :: r,W,i => by rw [rowW,rowW_len r,upd_len]
theorem allW_len : ∀ (rows : List (List (List UInt8))) (W : List Int),(allW W rows).length = W.length
 | [],_ => rfl
 | row :: r,W => by rw [allW,allW_len r,rowW_len]
theorem wd_upd {W : List Int} {i : Nat} (hi : i < W.length) (c : List UInt8) (k : Nat) : wd (upd W i c) k = if i = k then (if (c.length : Int) > wd W i then (c.length : Int) else wd W i) else wd W k := by
 by_cases h : i = k
 ·subst h; simp [upd,wd,hi]
 ·simp [upd,wd,List.getElem?_set_ne h,h]
noncomputable def p0L (v0 v15 : List (List (List UInt8))) (v16 v17 : Int) (W : List Int) := impl_TableLines_p0 v0 v15 v16 v17 (wd W 0) (wd W 1) (wd W 2) (wd W 3) (wd W 4) (wd W 5) (wd W 6) (wd W 7) (wd W 8) (wd W 9) (wd W 10) (wd W 11)
noncomputable def p1L (v0 v15 : List (List (List UInt8))) (v16 v17 : Int) (v24 : List (List UInt8)) (v25 v26 : Int) (W : List Int) := impl_TableLines_p1 v0 v15 v16 v17 v24 v25 v26 (wd W 0) (wd W 1) (wd W 2) (wd W 3) (wd W 4) (wd W 5) (wd W 6) (wd W 7) (wd W 8) (wd W 9) (wd W 10) (wd W 11)
noncomputable def p2L (v42 : List (List (List UInt8))) (v43 v44 : Int) (W : List Int) (r9 : List (List UInt8)) := impl_TableLines_p2 v42 v43 v44 (wd W 0) (wd W 1) (wd W 2) (wd W 3) (wd W 4) (wd W 5) (wd W 6) (wd W 7) (wd W 8) (wd W 9) (wd W 10) (wd W 11) r9
noncomputable def p3L (v42 : List (List (List UInt8))) (v43 v44 : Int) (v49 : List (List UInt8)) (v50 v51 : Int) (W : List Int) (r9 r12 : List (List UInt8)) := impl_TableLines_p3 v42 v43 v44 v49 v50 v51 (wd W 0) (wd W 1) (wd W 2) (wd W 3) (wd W 4) (wd W 5) (wd W 6) (wd W 7) (wd W 8) (wd W 9) (wd W 10) (wd W 11) r9 r12
def padC (W : List Int) (i : Nat) (c : List UInt8) : List UInt8 := c ++ List.replicate (wd W i - (c.length : Int)).toNat 32
def cellsP (W : List Int) : Nat → List (List UInt8) → List (List UInt8)
 | _,[] => []
 | i,c :: r => padC W i c :: cellsP W (i + 1) r
def trimP (s : List UInt8) : List UInt8 := (s.reverse.dropWhile fun c => c == 32).reverse
def lineP (W : List Int) (row : List (List UInt8)) : List UInt8 := trimP (Lib.join (cellsP W 0 row) [32,32])
theorem trimP_snoc (t : List UInt8) (c : UInt8) : trimP (t ++ [c]) = if c == 32 then trimP t else t ++ [c] := by
 rw [trimP,List.reverse_append,List.reverse_singleton,List.singleton_append,List.dropWhile_cons]
 split
 ·rfl
 ·simp
theorem snoc_or {α : Type} (s : List α) : s = [] ∨ ∃ t c,s = t ++ [c] := by
 rcases List.eq_nil_or_concat s with h | ⟨t,c,h⟩
 ·exact .inl h
 ·exact .inr ⟨t,c,by rw [h,List.concat_eq_append]⟩
theorem trimP_len (s : List UInt8) : (trimP s).length ≤ s.length := by
 rw [trimP,List.length_reverse]
 exact Nat.le_trans (List.dropWhile_sublist _).length_le (Nat.le_of_eq List.length_reverse)
theorem is32 (c : UInt8) : ((c.toNat : Int) == 32) = (c == 32) := by
 by_cases h : c = 32
 ·subst h; rfl
 ·have h1 : ¬ (c.toNat : Int) = 32 := fun e => by
   have e2 : c.toNat = (32 : UInt8).toNat := by
    show c.toNat = 32
    omega
   exact h (UInt8.toNat_inj.1 e2)
  rw [beq_eq_false_iff_ne.2 h1,beq_eq_false_iff_ne.2 h]
theorem padC_len {W : List Int} {i : Nat} {c : List UInt8} (h : (c.length : Int) ≤ wd W i) (h1 : wd W i ≤ 1000) : (padC W i c).length ≤ 1000 := by
 rw [padC,List.length_append,List.length_replicate]; omega
theorem upd_bd {W : List Int} {i : Nat} (hi : i < W.length) {c : List UInt8} (hc : c.length ≤ 1000) (h : ∀ k,0 ≤ wd W k ∧ wd W k ≤ 1000) (k : Nat) : (0 ≤ wd (upd W i c) k ∧ wd (upd W i c) k ≤ 1000) ∧ wd W k ≤ wd (upd W i c) k := by
 have h1 := h i; have h2 := h k
 rw [wd_upd hi]
 by_cases e : i = k
 ·subst e; rw [if_pos rfl]; split <;> omega
 ·rw [if_neg e]; omega
theorem rowW_bd : ∀ (row : List (List UInt8)) (W : List Int) (i : Nat),i + row.length ≤ W.length → (∀ c,c ∈ row → c.length ≤ 1000) → (∀ k,0 ≤ wd W k ∧ wd W k ≤ 1000) → ∀ k,(0 ≤ wd (rowW W i row) k ∧ wd (rowW W i row) k ≤ 1000) ∧ wd W k ≤ wd (rowW W i row) k
 | [],W,i,_,_,h,k => ⟨h k,Int.le_refl _⟩
 | c :: r,W,i,hl,hc,h,k => by
   rw [List.length_cons] at hl
   have h1 := upd_bd (W := W) (i := i) (by omega) (hc c (by simp)) h
   have h2 := rowW_bd r (upd W i c) (i + 1) (by rw [upd_len]; omega) (fun x hx => hc x (List.mem_cons_of_mem _ hx)) (fun k => (h1 k).1) k
   rw [rowW]
   exact ⟨h2.1,Int.le_trans (h1 k).2 h2.2⟩
theorem rowW_fit : ∀ (row : List (List UInt8)) (W : List Int) (i : Nat),i + row.length ≤ W.length → (∀ c,c ∈ row → c.length ≤ 1000) → (∀ k,0 ≤ wd W k ∧ wd W k ≤ 1000) → ∀ (j : Nat) (hj : j < row.length),(row[j].length : Int) ≤ wd (rowW W i row) (i + j)
 | c :: r,W,i,hl,hc,h,j,hj => by
   rw [List.length_cons] at hl hj
   have h1 := upd_bd (W := W) (i := i) (by omega) (hc c (by simp)) h
   have h2 := rowW_bd r (upd W i c) (i + 1) (by rw [upd_len]; omega) (fun x hx => hc x (List.mem_cons_of_mem _ hx)) (fun k => (h1 k).1)
   rw [rowW]
   cases j with
   | zero =>
     have h3 := (h2 i).2
     rw [wd_upd (by omega),if_pos rfl] at h3
     simp only [List.getElem_cons_zero,Nat.add_zero]
     refine Int.le_trans ?_ h3
     split <;> omega
   | succ j =>
     have := rowW_fit r (upd W i c) (i + 1) (by rw [upd_len]; omega) (fun x hx => hc x (List.mem_cons_of_mem _ hx)) (fun k => (h1 k).1) j (by omega)
     simp only [List.getElem_cons_succ]
     rw [show i + (j + 1) = i + 1 + j by omega]; exact this
def TabOk (rows : List (List (List UInt8))) : Prop := ∀ row,row ∈ rows → row.length ≤ 12 ∧ ∀ c,c ∈ row → c.length ≤ 1000
theorem allW_bd : ∀ (rows : List (List (List UInt8))) (W : List Int),W.length = 12 → TabOk rows → (∀ k,0 ≤ wd W k ∧ wd W k ≤ 1000) → ∀ k,(0 ≤ wd (allW W rows) k ∧ wd (allW W rows) k ≤ 1000) ∧ wd W k ≤ wd (allW W rows) k
 | [],W,_,_,h,k => ⟨h k,Int.le_refl _⟩
 | row :: r,W,hW,hr,h,k => by
   have h0 := hr row (by simp)
   have h1 := rowW_bd row W 0 (by omega) h0.2 h
   have h2 := allW_bd r (rowW W 0 row) (by rw [rowW_len]; exact hW) (fun x hx => hr x (List.mem_cons_of_mem _ hx)) (fun k => (h1 k).1) k
   rw [allW]
   exact ⟨h2.1,Int.le_trans (h1 k).2 h2.2⟩
theorem allW_fit : ∀ (rows : List (List (List UInt8))) (W : List Int),W.length = 12 → TabOk rows → (∀ k,0 ≤ wd W k ∧ wd W k ≤ 1000) → ∀ row,row ∈ rows → ∀ (j : Nat) (hj : j < row.length),(row[j].length : Int) ≤ wd (allW W rows) j
 | row0 :: r,W,hW,hr,h,row,hm,j,hj => by
   have h0 := hr row0 (by simp)
   have h1 := rowW_bd row0 W 0 (by omega) h0.2 h
   have hr' : TabOk r := fun x hx => hr x (List.mem_cons_of_mem _ hx)
   have hl : (rowW W 0 row0).length = 12 := by rw [rowW_len]; exact hW
   rw [allW]
   rcases List.mem_cons.1 hm with rfl | hm
   ·have h2 := (allW_bd r (rowW W 0 row) hl hr' (fun k => (h1 k).1) j).2
    have h3 := rowW_fit row W 0 (by omega) h0.2 h j hj
    rw [Nat.zero_add] at h3
    exact Int.le_trans h3 h2
   ·exact allW_fit r (rowW W 0 row0) hl hr' (fun k => (h1 k).1) row hm j hj
def tabW (rows : List (List (List UInt8))) : List Int := allW [0,0,0,0,0,0,0,0,0,0,0,0] rows
theorem wd0 (k : Nat) : wd [0,0,0,0,0,0,0,0,0,0,0,0] k = 0 := by
 rcases Nat.lt_or_ge k 12 with h | h
 ·have hz : (k = 0 ∨ k = 1 ∨ k = 2 ∨ k = 3 ∨ k = 4 ∨ k = 5) ∨ k = 6 ∨ k = 7 ∨ k = 8 ∨ k = 9 ∨ k = 10 ∨ k = 11 := by omega
  rcases hz with (rfl | rfl | rfl | rfl | rfl | rfl) | rfl | rfl | rfl | rfl | rfl | rfl <;> rfl
 ·rw [wd,List.getElem?_eq_none (by simpa using h)]; rfl
theorem tabW_ok (rows : List (List (List UInt8))) (hr : TabOk rows) : (tabW rows).length = 12 ∧ (∀ k,0 ≤ wd (tabW rows) k ∧ wd (tabW rows) k ≤ 1000) ∧ ∀ row,row ∈ rows → ∀ (j : Nat) (hj : j < row.length),(row[j].length : Int) ≤ wd (tabW rows) j := by
 have h0 : ∀ k,0 ≤ wd [0,0,0,0,0,0,0,0,0,0,0,0] k ∧ wd [0,0,0,0,0,0,0,0,0,0,0,0] k ≤ 1000 := fun k => by rw [wd0]; omega
 exact ⟨allW_len _ _,fun k => (allW_bd rows _ rfl hr h0 k).1,allW_fit rows _ rfl hr h0⟩
theorem cellsP_len {W : List Int} (hW : ∀ k,0 ≤ wd W k ∧ wd W k ≤ 1000) : ∀ (r : List (List UInt8)) (i : Nat),(∀ (j : Nat) (hj : j < r.length),(r[j].length : Int) ≤ wd W (i + j)) → (cellsP W i r).length = r.length ∧ (Lib.joinTail [32,32] (cellsP W i r)).length ≤ 1002 * r.length
 | [],i,_ => ⟨rfl,by simp [cellsP,Lib.joinTail]⟩
 | c :: r,i,h => by
   have h1 := cellsP_len hW r (i + 1) (fun j hj => by have := h (j + 1) (by simpa using hj); rwa [List.getElem_cons_succ,show i + (j + 1) = i + 1 + j by omega] at this)
   have h2 := padC_len (W := W) (i := i) (c := c) (by have := h 0 (by simp); simpa using this) (hW i).2
   have h3 := h1.2
   simp only [Lib.joinTail] at h3 ⊢
   simp only [cellsP,List.length_cons,List.map_cons,List.flatten_cons,List.length_append,h1.1,true_and,List.length_nil]
   omega
theorem join_bd {W : List Int} (hW : ∀ k,0 ≤ wd W k ∧ wd W k ≤ 1000) (row : List (List UInt8)) (h : ∀ (j : Nat) (hj : j < row.length),(row[j].length : Int) ≤ wd W j) (hl : row.length ≤ 12) : (cellsP W 0 row).length ≤ 12 ∧ (Lib.join (cellsP W 0 row) [32,32]).length ≤ 12024 := by
 have h1 := cellsP_len hW row 0 (fun j hj => by rw [Nat.zero_add]; exact h j hj)
 refine ⟨by omega,?_⟩
 have h2 := h1.2
 cases row with
 | nil => rw [cellsP,Lib.join_nil]; simp
 | cons c r =>
   rw [cellsP,Lib.join_cons]
   rw [cellsP] at h2
   simp only [Lib.joinTail,List.map_cons,List.flatten_cons,List.length_append] at h2 ⊢
   simp only [List.length_cons] at h2 hl
   omega
theorem lineP_len {W : List Int} (hW : ∀ k,0 ≤ wd W k ∧ wd W k ≤ 1000) (row : List (List UInt8)) (h : ∀ (j : Nat) (hj : j < row.length),(row[j].length : Int) ≤ wd W j) (hl : row.length ≤ 12) : (lineP W row).length ≤ 12024 :=
 Nat.le_trans (trimP_len _) (join_bd hW row h hl).2
theorem trimRightByte_ok : ∀ (n : Nat) (s : List UInt8),s.length = n → n ≤ 1048576 → strings_trimRightByte_p0 s 32 = some (trimP s)
 | 0,s,h,_ => by
   obtain rfl := List.eq_nil_of_length_eq_zero h
   rw [strings_trimRightByte_p0_eq]; rfl
 | n + 1,s,h,hb => by
   rcases snoc_or s with rfl | ⟨t,c,rfl⟩
   ·cases h
   have ht : t.length = n := by simpa using h
   have h1 : ((t ++ [c]).length : Int) > 0 := by rw [h]; omega
   have hw : IntKind.i64.wrap (((t ++ [c]).length : Int) - 1) = (t.length : Int) := by rw [h,w64 (by omega) (by omega)]; omega
   have hle : (t.length : Int) ≤ ((t ++ [c]).length : Int) := by rw [h]; omega
   rw [strings_trimRightByte_p0_eq,hw]
   simp only [h1,hle,decide_true,if_true,Int.natCast_nonneg,Int.toNat_natCast,List.getElem?_concat_length,Option.bind_some,is32,Bool.and_self,List.take_left',trimP_snoc]
   by_cases hc : (c == 32) = true
   ·simp only [hc,if_true]
    exact trimRightByte_ok n t ht (by omega)
   ·simp only [hc,Bool.false_eq_true,if_false]
theorem strings_TrimRight_ok (s : List UInt8) (hs : s.length ≤ 1048576) : strings_TrimRight s [32] = some (trimP s) := by
 rw [strings_TrimRight_eq]
 by_cases h : s = []
 ·subst h; rfl
 ·have h1 : ¬ (s == ([] : List UInt8)) = true := by simpa using h
  have h2 : ((([(32 : UInt8)].length : Nat) : Int) == 1) = true := rfl
  have h3 : ¬ (([(32 : UInt8)] : List UInt8) == []) = true := fun e => by cases e
  have h4 : ([(32 : UInt8)])[0]? = some 32 := rfl
  have h6 : ((32 : UInt8).toNat : Int) = 32 := rfl
  have h5 : decide (((32 : UInt8).toNat : Int) < 128) = true := by rw [h6]; exact decide_eq_true (by omega)
  rw [if_neg h1,if_neg h3,strings_TrimRight_p0_eq,if_pos h2,h4,Option.bind_some,if_pos h5,strings_TrimRight_p1_eq,h4,Option.bind_some,h6,strings_trimRightByte_eq,trimRightByte_ok s.length s rfl hs]
  rfl
set_option maxHeartbeats 1000000 in
theorem p1L_step (v0 v15 : List (List (List UInt8))) (v16 v17 : Int) (row : List (List UInt8)) (i : Nat) (W : List Int) (hW : W.length = 12) (hi : i < row.length) (h12 : i < 12) :
 p1L v0 v15 v16 v17 row row.length i W = p1L v0 v15 v16 v17 row row.length ((i + 1 : Nat) : Int) (upd W i row[i]) := by
 have hlt : (i : Int) < (row.length : Int) := by omega
 have hw : IntKind.i64.wrap ((i : Int) + 1) = ((i + 1 : Nat) : Int) := by rw [w64 (by omega) (by omega)]; omega
 have hz : (i = 0 ∨ i = 1 ∨ i = 2 ∨ i = 3 ∨ i = 4 ∨ i = 5) ∨ i = 6 ∨ i = 7 ∨ i = 8 ∨ i = 9 ∨ i = 10 ∨ i = 11 := by omega
 simp only [p1L,wd_upd (show i < W.length by omega)]
 rw [impl_TableLines_p1_eq]
 simp only [hlt,decide_true,if_true,Int.natCast_nonneg,Int.toNat_natCast,List.getElem?_eq_getElem hi,Option.bind_some,hw]
 clear hlt hw
 generalize row[i] = c
 rcases hz with (rfl | rfl | rfl | rfl | rfl | rfl) | rfl | rfl | rfl | rfl | rfl | rfl <;> rfl
theorem p1L_loop (rows : List (List (List UInt8))) (v17 : Int) (row : List (List UInt8)) (hl : row.length ≤ 12) : ∀ (k i : Nat) (W : List Int),i + k = row.length → W.length = 12 →
 p1L rows rows rows.length v17 row row.length i W = p0L rows rows rows.length (IntKind.i64.wrap (v17 + 1)) (rowW W i (row.drop i))
 | 0,i,W,hk,hW => by
   rw [List.drop_eq_nil_of_le (by omega),rowW,p1L,p0L,impl_TableLines_p1_eq]
   have : ¬ (i : Int) < (row.length : Int) := by omega
   simp only [this,decide_false,Bool.false_eq_true,if_false]
 | k + 1,i,W,hk,hW => by
   have hi : i < row.length := by omega
   rw [p1L_step rows rows rows.length v17 row i W hW hi (by omega),p1L_loop rows v17 row hl k (i + 1) _ (by omega) (by rw [upd_len]; exact hW),List.drop_eq_getElem_cons hi,rowW]
def cellsOk (row : List (List UInt8)) : Bool := (row.all fun c => c.all fun ch => inR (ch.toNat : Int) 33 126) && decide ((row.length : Int) ≤ 12)
theorem areCells_loop (row : List (List UInt8)) (hl : row.length ≤ 1048576) (hc : ∀ c,c ∈ row → c.length ≤ 1048576) : ∀ (k i : Nat),i + k = row.length → impl_areCells_p0 row row row.length i = some (((row.drop i).all fun c => c.all fun ch => inR (ch.toNat : Int) 33 126) && decide ((row.length : Int) ≤ 12))
 | 0,i,hk => by
   rw [impl_areCells_p0_eq,List.drop_eq_nil_of_le (by omega),impl_few_eq]
   have : ¬ (i : Int) < (row.length : Int) := by omega
   simp only [this,decide_false,Bool.false_eq_true,if_false,Option.bind_some,List.all_nil,Bool.true_and]
 | k + 1,i,hk => by
   have hi : i < row.length := by omega
   have hlt : (i : Int) < (row.length : Int) := by omega
   have hw : IntKind.i64.wrap ((i : Int) + 1) = ((i + 1 : Nat) : Int) := by rw [w64 (by omega) (by omega)]; omega
   have ih := areCells_loop row hl hc k (i + 1) (by omega)
   have h1 := allLoop row[i] (fun c => impl_within (IntKind.i64.wrap (c.toNat : Int)) 33 126) (fun ch => inR (ch.toNat : Int) 33 126) (fun j => impl_areCells_p1 row row[i] j row row.length i) false _ (fun j => impl_areCells_p1_eq row row[i] j row row.length i) (by have := hc row[i] (List.getElem_mem hi); omega) (fun c _ => by
    have hc := c.toNat_lt
    rw [impl_within_ok,w64 (by omega) (by omega)]) row[i].length 0 (by omega)
   simp only [Int.ofNat_zero,Int.natCast_zero,List.drop_zero] at h1
   rw [impl_areCells_p0_eq,List.drop_eq_getElem_cons hi]
   simp only [hlt,decide_true,if_true,Int.natCast_nonneg,Int.toNat_natCast,List.getElem?_eq_getElem hi,Option.bind_some,h1,hw,ih,List.all_cons]
   by_cases h : (row[i].all fun ch => inR (ch.toNat : Int) 33 126) = true
   ·simp [h]
   ·simp [h]
theorem impl_areCells_ok (row : List (List UInt8)) (hl : row.length ≤ 1048576) (hc : ∀ c,c ∈ row → c.length ≤ 1048576) : impl_areCells row = some (cellsOk row) := by
 rw [impl_areCells_eq]; exact areCells_loop row hl hc row.length 0 (by omega)
theorem p0L_loop (rows : List (List (List UInt8))) (hs : rows.length ≤ 1048576) (hr : TabOk rows) (hc : ∀ row,row ∈ rows → cellsOk row = true) : ∀ (k i : Nat) (W : List Int),i + k = rows.length → W.length = 12 →
 p0L rows rows rows.length i W = p2L rows rows.length 0 (allW W (rows.drop i)) []
 | 0,i,W,hk,hW => by
   rw [List.drop_eq_nil_of_le (by omega),allW,p0L,p2L,impl_TableLines_p0_eq]
   have : ¬ (i : Int) < (rows.length : Int) := by omega
   simp only [this,decide_false,Bool.false_eq_true,if_false]
 | k + 1,i,W,hk,hW => by
   have hi : i < rows.length := by omega
   have hlt : (i : Int) < (rows.length : Int) := by omega
   have hw : IntKind.i64.wrap ((i : Int) + 1) = ((i + 1 : Nat) : Int) := by rw [w64 (by omega) (by omega)]; omega
   have h1 := hr rows[i] (List.getElem_mem hi)
   have e1 := impl_areCells_ok rows[i] (by omega) (fun c hm => Nat.le_trans (h1.2 c hm) (by decide))
   rw [hc rows[i] (List.getElem_mem hi)] at e1
   have e2 := p1L_loop rows i rows[i] h1.1 rows[i].length 0 W (by omega) hW
   have e2' : impl_TableLines_p1 rows rows rows.length i rows[i] rows[i].length 0 (wd W 0) (wd W 1) (wd W 2) (wd W 3) (wd W 4) (wd W 5) (wd W 6) (wd W 7) (wd W 8) (wd W 9) (wd W 10) (wd W 11) = _ := e2
   rw [List.drop_zero,hw] at e2'
   rw [p0L,impl_TableLines_p0_eq,List.drop_eq_getElem_cons hi,allW]
   simp only [hlt,decide_true,if_true,Int.natCast_nonneg,Int.toNat_natCast,List.getElem?_eq_getElem hi,Option.bind_some,e1,Bool.not_true,Bool.false_eq_true,if_false]
   rw [e2']
   exact p0L_loop rows hs hr hc k (i + 1) _ (by omega) (by rw [rowW_len]; exact hW)
set_option maxHeartbeats 1000000 in
theorem p3L_raw (rows : List (List (List UInt8))) (v43 v44 : Int) (row : List (List UInt8)) (i : Nat) (W : List Int) (r9 r12 : List (List UInt8)) (hi : i < row.length) (h12 : i < 12) :
 p3L rows v43 v44 row row.length i W r9 r12 = (strings_Repeat [32] (IntKind.i64.wrap (wd W i - (row[i].length : Int)))).bind fun x2 => if decide (row[i].length + x2.length ≤ strMax) then (if decide (r12.length + 1 < lim) then p3L rows v43 v44 row row.length ((i + 1 : Nat) : Int) W r9 ((r12.take r12.length) ++ [row[i] ++ x2]) else none) else none := by
 have hlt : (i : Int) < (row.length : Int) := by omega
 have hw : IntKind.i64.wrap ((i : Int) + 1) = ((i + 1 : Nat) : Int) := by rw [w64 (by omega) (by omega)]; omega
 have hz : (i = 0 ∨ i = 1 ∨ i = 2 ∨ i = 3 ∨ i = 4 ∨ i = 5) ∨ i = 6 ∨ i = 7 ∨ i = 8 ∨ i = 9 ∨ i = 10 ∨ i = 11 := by omega
 simp only [p3L]
 rw [impl_TableLines_p3_eq]
 simp only [hlt,decide_true,if_true,Int.natCast_nonneg,Int.toNat_natCast,List.getElem?_eq_getElem hi,Option.bind_some,hw]
 clear hlt hw
 generalize row[i] = c
 rcases hz with (rfl | rfl | rfl | rfl | rfl | rfl) | rfl | rfl | rfl | rfl | rfl | rfl <;> rfl
theorem repeat32 : ∀ n,Lib.repeatL [32] n = List.replicate n 32
 | 0 => rfl
 | n + 1 => by
   show 32 :: Lib.repeatL [32] n = _
   rw [repeat32 n]; rfl
theorem p3L_loop (rows : List (List (List UInt8))) (v44 : Int) (row : List (List UInt8)) (W : List Int) (r9 : List (List UInt8)) (hl : row.length ≤ 12) (h9 : r9.length ≤ 1048576) (hW : ∀ k,0 ≤ wd W k ∧ wd W k ≤ 1000) (hf : ∀ (j : Nat) (hj : j < row.length),(row[j].length : Int) ≤ wd W j) :
 ∀ (k i : Nat) (r12 : List (List UInt8)),i + k = row.length → r12.length = i → r12 ++ cellsP W i (row.drop i) = cellsP W 0 row →
 p3L rows rows.length v44 row row.length i W r9 r12 = p2L rows rows.length (IntKind.i64.wrap (v44 + 1)) W (r9 ++ [lineP W row])
 | 0,i,r12,hk,hr,he => by
   rw [List.drop_eq_nil_of_le (by omega),cellsP,List.append_nil] at he
   subst he
   have hb := join_bd hW row hf hl
   have h1 : (cellsP W 0 row).length ≤ 140737488355328 := by omega
   have h2 : (Lib.join (cellsP W 0 row) [32,32]).length ≤ 140737488355328 := by omega
   have hj : strings_Join (cellsP W 0 row) [32,32] = some (Lib.join (cellsP W 0 row) [32,32]) := by
    rw [strings_Join_eq,decide_eq_true h1,decide_eq_true h2]; rfl
   have hlim : r9.length + 1 < lim := by rw [lim_eq]; omega
   rw [p3L,p2L,impl_TableLines_p3_eq]
   have : ¬ (i : Int) < (row.length : Int) := by omega
   simp only [this,decide_false,Bool.false_eq_true,if_false,List.take_length,hj,Option.bind_some,strings_TrimRight_ok _ (show (Lib.join (cellsP W 0 row) [32,32]).length ≤ 1048576 by omega),hlim,decide_true,if_true]
   rfl
 | k + 1,i,r12,hk,hr,he => by
   have hi : i < row.length := by omega
   have h1 := hf i hi
   have h2 := hW i
   have hw : IntKind.i64.wrap (wd W i - (row[i].length : Int)) = wd W i - (row[i].length : Int) := w64 (by omega) (by omega)
   have hrep : strings_Repeat [32] (wd W i - (row[i].length : Int)) = some (List.replicate (wd W i - (row[i].length : Int)).toNat 32) := by
    have h3 : 0 ≤ wd W i - (row[i].length : Int) := by omega
    have h4 : wd W i - (row[i].length : Int) ≤ 9223372036854775807 := by omega
    have h5 : [(32 : UInt8)].length * (wd W i - (row[i].length : Int)).toNat ≤ 140737488355328 := by simp only [List.length_cons,List.length_nil]; omega
    rw [strings_Repeat_eq,decide_eq_true h3,decide_eq_true h4,decide_eq_true h5,repeat32]; rfl
   have hst : row[i].length + (List.replicate (wd W i - (row[i].length : Int)).toNat (32 : UInt8)).length ≤ strMax := by rw [strMax_eq,List.length_replicate]; omega
   have hlim : r12.length + 1 < lim := by rw [lim_eq]; omega
   rw [p3L_raw rows rows.length v44 row i W r9 r12 hi (by omega),hw,hrep,Option.bind_some,if_pos (decide_eq_true hst),if_pos (decide_eq_true hlim),List.take_length]
   refine p3L_loop rows v44 row W r9 hl h9 hW hf k (i + 1) _ (by omega) (by simp [hr]) ?_
   rw [← he,List.drop_eq_getElem_cons hi,cellsP,List.append_assoc]; rfl
theorem p2L_loop (rows : List (List (List UInt8))) (W : List Int) (hs : rows.length ≤ 1048576) (hr : TabOk rows) (hW : ∀ k,0 ≤ wd W k ∧ wd W k ≤ 1000) (hf : ∀ row,row ∈ rows → ∀ (j : Nat) (hj : j < row.length),(row[j].length : Int) ≤ wd W j) :
 ∀ (k i : Nat) (r9 : List (List UInt8)),i + k = rows.length → r9.length = i → p2L rows rows.length i W r9 = (impl_report (r9 ++ (rows.drop i).map (lineP W))).bind fun x => some (x.1,x.2.1)
 | 0,i,r9,hk,h9 => by
   rw [p2L,impl_TableLines_p2_eq,List.drop_eq_nil_of_le (by omega)]
   have : ¬ (i : Int) < (rows.length : Int) := by omega
   simp only [this,decide_false,decide_true,if_true,Bool.false_eq_true,if_false,List.map_nil,List.append_nil,List.take_length]
 | k + 1,i,r9,hk,h9 => by
   have hi : i < rows.length := by omega
   have hlt : (i : Int) < (rows.length : Int) := by omega
   have hm := List.getElem_mem hi
   have hw : IntKind.i64.wrap ((i : Int) + 1) = ((i + 1 : Nat) : Int) := by rw [w64 (by omega) (by omega)]; omega
   have e := p3L_loop rows i rows[i] W r9 (hr _ hm).1 (by omega) hW (hf _ hm) rows[i].length 0 [] (by omega) rfl (by rw [List.drop_zero,List.nil_append])
   rw [hw,p2L_loop rows W hs hr hW hf k (i + 1) _ (by omega) (by simp [h9])] at e
   have e' : impl_TableLines_p3 rows rows.length i rows[i] rows[i].length 0 (wd W 0) (wd W 1) (wd W 2) (wd W 3) (wd W 4) (wd W 5) (wd W 6) (wd W 7) (wd W 8) (wd W 9) (wd W 10) (wd W 11) r9 [] = _ := e
   rw [p2L,impl_TableLines_p2_eq,List.drop_eq_getElem_cons hi]
   simp only [hlt,decide_true,if_true,Int.natCast_nonneg,Int.toNat_natCast,List.getElem?_eq_getElem hi,Option.bind_some]
   rw [e',List.map_cons,List.append_assoc]; rfl
theorem impl_TableLines_ok (rows : List (List (List UInt8))) (hs : rows.length ≤ 1048576) (hr : TabOk rows) (hc : ∀ row,row ∈ rows → cellsOk row = true) :
 impl_TableLines rows = some (if reportOk (rows.map (lineP (tabW rows))) = true then (rows.map (lineP (tabW rows)),0) else ([],5)) := by
 obtain ⟨t1,t2,t3⟩ := tabW_ok rows hr
 have e1 := p0L_loop rows hs hr hc rows.length 0 [0,0,0,0,0,0,0,0,0,0,0,0] (by omega) rfl
 rw [List.drop_zero] at e1
 have e2 := p2L_loop rows (tabW rows) hs hr t2 t3 rows.length 0 [] (by omega) rfl
 rw [List.drop_zero,List.nil_append] at e2
 have e3 : impl_TableLines rows = p0L rows rows rows.length ((0 : Nat) : Int) [0,0,0,0,0,0,0,0,0,0,0,0] := impl_TableLines_eq rows
 rw [e3,e1]
 refine Eq.trans e2 ?_
 rw [impl_report_ok _ (by rw [List.length_map]; exact hs) (fun x hx => by
  obtain ⟨row,h1,rfl⟩ := List.mem_map.1 hx
  exact Nat.le_trans (lineP_len t2 row (t3 row h1) (hr row h1).1) (by decide))]
 cases reportOk (rows.map (lineP (tabW rows))) <;> rfl
def paperOk (x : T_Paper.ty) : Bool := isName x.1 && (isName x.2.1 && (decide (1500 ≤ x.2.2.1) && (decide (x.2.2.1 ≤ x.2.2.2.1) && (decide (x.2.2.2.1 ≤ 2100) && inR x.2.2.2.2.1 1 1000))))
def papersOk (xs : List T_Paper.ty) : Bool := sortedChk paperOk (fun x => x.1) none xs && decide ((xs.length : Int) ≤ 12)
theorem papersOk_all {xs : List T_Paper.ty} (h : papersOk xs = true) (x : T_Paper.ty) (hx : x ∈ xs) : paperOk x = true := by
 simp only [papersOk,Bool.and_eq_true] at h
 exact sortedChk_all h.1 x hx
theorem impl_Paper_valid_core (a b : List UInt8) (c d e : Int) (h0 : a.length < 4611686018427387904) (h1 : b.length < 4611686018427387904) : impl_Paper_valid (a,b,c,d,e,()) = some (paperOk (a,b,c,d,e,())) := by
 rw [impl_Paper_valid_eq,paperOk]
 simp only [impl_IsName_ok a h0,impl_IsName_ok b h1,impl_within_ok,Option.bind_some]
 cases isName a <;> cases isName b <;> by_cases g1 : 1500 ≤ c <;> by_cases g2 : c ≤ d <;> by_cases g3 : d ≤ 2100 <;> simp [g1,g2,g3]
theorem impl_Paper_valid_ok (x : T_Paper.ty) (h0 : x.1.length < 4611686018427387904) (h1 : x.2.1.length < 4611686018427387904) : impl_Paper_valid x = some (paperOk x) := impl_Paper_valid_core x.1 x.2.1 x.2.2.1 x.2.2.2.1 x.2.2.2.2.1 h0 h1
theorem impl_ValidPapers_ok (xs : List T_Paper.ty) (hs : xs.length ≤ 1048576) (hx : ∀ x,x ∈ xs → x.1.length ≤ 1048576 ∧ x.2.1.length ≤ 1048576) : impl_ValidPapers xs = some (papersOk xs) := by
 rw [impl_ValidPapers_eq]
 exact sortedLoopI xs impl_Paper_valid paperOk (fun x => x.1) (fun i => impl_ValidPapers_p0 xs xs xs.length i) _ _ (show ((impl_few (xs.length : Int) 12).bind fun x4 => some x4) = some (decide ((xs.length : Int) ≤ 12)) by rw [impl_few_eq]; rfl) (fun i => impl_ValidPapers_p0_eq xs xs xs.length i) hs (fun x hm => impl_Paper_valid_ok x (Nat.lt_of_le_of_lt (hx x hm).1 (by decide)) (Nat.lt_of_le_of_lt (hx x hm).2 (by decide))) xs.length 0 (by omega)
end Go.Ab.P
