/- Lemmas on functions of the program. Conditions: told in each. -/
import Derived.Test.YtpokgomeahjacaaPFnModes
set_option linter.unusedVariables false
set_option linter.unusedSimpArgs false
namespace Go.Ab.P
open Go.Ab
def sortedChk {α : Type} (ok : α → Bool) (id : α → List UInt8) : Option α → List α → Bool
 | _,[] => true
 | p,x :: r => ok x && ((match p with | none => true | some y => Op.bytesLess (id y) (id x)) && sortedChk ok id (some x) r)
theorem sortedChk_all {α : Type} {ok : α → Bool} {id : α → List UInt8} : ∀ {l : List α} {p : Option α},sortedChk ok id p l = true → ∀ x,x ∈ l → ok x = true
 | [],_,_,x,hx => by cases hx
 | y :: r,p,h,x,hx => by
   simp only [sortedChk,Bool.and_eq_true] at h
   rcases List.mem_cons.1 hx with rfl | hx
   ·exact h.1
   ·exact sortedChk_all h.2.2 x hx
theorem sortedLoopI {α : Type} (xs : List α) (one : α → Option Bool) (ok : α → Bool) (id : α → List UInt8) (p0 : Int → Option Bool) (last : Option Bool) (lb : Bool) (hlast : last = some lb)
 (heq : ∀ i : Int,p0 i = if decide (i < (xs.length : Int)) then (if decide (0 ≤ i) then (xs[i.toNat]?).bind fun x1 => (one x1).bind fun x2 => if (!x2) then some false else if decide (i > 0) then (if decide (0 ≤ IntKind.i64.wrap (i - 1)) then (xs[(IntKind.i64.wrap (i - 1)).toNat]?).bind fun x3 => if (!Op.bytesLess (id x3) (id x1)) then some false else p0 (IntKind.i64.wrap (i + 1)) else none) else p0 (IntKind.i64.wrap (i + 1)) else none) else last)
 (hs : xs.length ≤ 1048576) (h1 : ∀ x,x ∈ xs → one x = some (ok x)) :
 ∀ (k i : Nat),i + k = xs.length → p0 i = some (sortedChk ok id (if i = 0 then none else xs[i - 1]?) (xs.drop i) && lb)
 | 0,i,hk => by
   rw [heq,List.drop_eq_nil_of_le (by omega)]
   have : ¬ (i : Int) < (xs.length : Int) := by omega
   simp only [this,decide_false,Bool.false_eq_true,if_false,hlast,sortedChk,Bool.true_and]
 | k + 1,i,hk => by
   have hi : i < xs.length := by omega
   have hlt : (i : Int) < (xs.length : Int) := by omega
   have hw : IntKind.i64.wrap ((i : Int) + 1) = ((i + 1 : Nat) : Int) := by rw [w64 (by omega) (by omega)]; omega
   have ih := sortedLoopI xs one ok id p0 last lb hlast heq hs h1 k (i + 1) (by omega)
   rw [if_neg (by omega),Nat.add_sub_cancel,List.getElem?_eq_getElem hi] at ih
   rw [heq,List.drop_eq_getElem_cons hi]
   simp only [hlt,decide_true,if_true,Int.natCast_nonneg,Int.toNat_natCast,List.getElem?_eq_getElem hi,Option.bind_some,h1 xs[i] (List.getElem_mem hi),hw,ih,sortedChk]
   cases hok : ok xs[i]
   ·simp
   ·by_cases h0 : i = 0
    ·subst h0; simp
    ·have hp : (i : Int) > 0 := by omega
     have hw2 : IntKind.i64.wrap ((i : Int) - 1) = ((i - 1 : Nat) : Int) := by rw [w64 (by omega) (by omega)]; omega
     simp only [hp,decide_true,if_true,hw2,Int.natCast_nonneg,Int.toNat_natCast,List.getElem?_eq_getElem (show i - 1 < xs.length by omega),Option.bind_some,h0,if_false,Bool.not_true,Bool.false_eq_true]
     cases Op.bytesLess (id xs[i - 1]) (id xs[i]) <;> simp
theorem sortedLoopS {α : Type} (xs : List α) (one : α → Option Bool) (ok : α → Bool) (id : α → List UInt8) (p0 : Int → Option Bool) (last : Option Bool) (lb : Bool) (hlast : last = some lb)
 (heq : ∀ i : Int,p0 i = if decide (i < (xs.length : Int)) then (if decide (0 ≤ i) then (xs[i.toNat]?).bind fun x1 => (one x1).bind fun x2 => if (!x2) then some false else if decide (i > 0) then (if decide (0 ≤ IntKind.i64.wrap (i - 1)) then (xs[(IntKind.i64.wrap (i - 1)).toNat]?).bind fun x3 => if decide (0 ≤ i) then (xs[i.toNat]?).bind fun x4 => if (!Op.bytesLess (id x3) (id x4)) then some false else p0 (IntKind.i64.wrap (i + 1)) else none else none) else p0 (IntKind.i64.wrap (i + 1)) else none) else last)
 (hs : xs.length ≤ 1048576) (h1 : ∀ x,x ∈ xs → one x = some (ok x)) :
 ∀ (k i : Nat),i + k = xs.length → p0 i = some (sortedChk ok id (if i = 0 then none else xs[i - 1]?) (xs.drop i) && lb) := by
 refine sortedLoopI xs one ok id p0 last lb hlast (fun i => ?_) hs h1
 rw [heq]
 by_cases h : i < (xs.length : Int)
 ·by_cases h0 : 0 ≤ i
  ·simp only [h,h0,decide_true,if_true]
   cases xs[i.toNat]? <;> rfl
  ·simp only [h,h0,decide_true,decide_false,Bool.false_eq_true,if_true,if_false]
 ·simp only [h,decide_false,Bool.false_eq_true,if_false]
theorem wsucc {i : Nat} (h : i < 4611686018427387904) : IntKind.i64.wrap ((i : Int) + 1) = ((i + 1 : Nat) : Int) := by
 rw [w64 (by omega) (by omega)]; omega
theorem getElem?_lt {α : Type} {l : List α} {i : Nat} (h : i < l.length) : l[i]? = some l[i] := List.getElem?_eq_getElem h
theorem drop_cons {α : Type} {l : List α} {i : Nat} (h : i < l.length) : l.drop i = l[i] :: l.drop (i + 1) := List.drop_eq_getElem_cons h
def rdivP (a b : Int) : Int := if a < 0 then -((b - 2 * a) / (2 * b)) else (2 * a + b) / (2 * b)
theorem rdivP_eq {a b : Int} (ha : 0 ≤ a) (hb : 0 < b) : rdivP a b = a / b + if b - a % b ≤ a % b then 1 else 0 := by
 have h1 := Int.mul_ediv_add_emod a b
 have h2 := Int.emod_nonneg a (show b ≠ 0 by omega)
 have h3 := Int.emod_lt_of_pos a hb
 unfold rdivP
 rw [if_neg (by omega)]
 generalize a / b = q at h1 ⊢
 generalize a % b = r at h1 h2 h3 ⊢
 have key : ∀ t s : Int,0 ≤ s → s < 2 * b → 2 * a + b = s + 2 * b * t → (2 * a + b) / (2 * b) = t := fun t s hs0 hs1 he => by
  rw [he,Int.add_mul_ediv_left s t (show 2 * b ≠ 0 by omega),Int.ediv_eq_zero_of_lt hs0 hs1]; omega
 have e : 2 * b * q = 2 * (b * q) := Int.mul_assoc 2 b q
 split
 ·refine key (q + 1) (2 * r - b) (by omega) (by omega) ?_
  rw [Int.mul_add,e]; omega
 ·rw [Int.add_zero]
  refine key q (2 * r + b) (by omega) (by omega) ?_
  rw [e]; omega
theorem rdivP_neg {a b : Int} (ha : 0 < a) (hb : 0 < b) : rdivP (-a) b = -rdivP a b := by
 unfold rdivP
 rw [if_pos (by omega),if_neg (by omega)]
 congr 2; omega
theorem rdivP_nonneg {a b : Int} (ha : 0 ≤ a) (hb : 0 < b) : 0 ≤ rdivP a b := by
 unfold rdivP
 rw [if_neg (by omega)]
 exact Int.ediv_nonneg (by omega) (by omega)
theorem rdivP_le {a b : Int} (ha : 0 ≤ a) (hb : 0 < b) : rdivP a b ≤ a + 1 := by
 rw [rdivP_eq ha hb]
 have := Int.ediv_le_self b ha
 split <;> omega
theorem tdiv_nonneg_eq {a b : Int} (ha : 0 ≤ a) : a.tdiv b = a / b := Int.tdiv_eq_ediv_of_nonneg ha
theorem tmod_nonneg_eq {a b : Int} (ha : 0 ≤ a) : a.tmod b = a % b := Int.tmod_eq_emod_of_nonneg ha
def small (c : UInt8) : Bool := decide (97 ≤ (c.toNat : Int)) && decide ((c.toNat : Int) ≤ 122)
def digit (c : UInt8) : Bool := decide (48 ≤ (c.toNat : Int)) && decide ((c.toNat : Int) ≤ 57)
def isName (s : List UInt8) : Bool := match s with | [] => false | c :: r => small c && r.all (fun c => small c || digit c) && decide (s.length ≤ 10)
def inR (n lo hi : Int) : Bool := decide (lo ≤ n) && decide (n ≤ hi)
theorem inR_iff' {n lo hi : Int} : inR n lo hi = true ↔ lo ≤ n ∧ n ≤ hi := by simp [inR]
theorem impl_within_ok (n lo hi : Int) : impl_within n lo hi = some (inR n lo hi) := by
 rw [impl_within_eq,inR]; by_cases h : lo ≤ n <;> simp [h]
theorem spec_l00In_ok (n lo hi : Int) : spec_l00In n lo hi = some (inR n lo hi) := by
 rw [spec_l00In_eq,inR]; by_cases h : lo ≤ n <;> simp [h]
theorem spec_l01Small_ok (c : UInt8) : spec_l01Small (c.toNat : Int) = some (small c) := by
 rw [spec_l01Small_eq,small]; by_cases h : 97 ≤ (c.toNat : Int) <;> simp [h]
theorem spec_l01Digit_ok (c : UInt8) : spec_l01Digit (c.toNat : Int) = some (digit c) := by
 rw [spec_l01Digit_eq,digit]; by_cases h : 48 ≤ (c.toNat : Int) <;> simp [h]
theorem impl_isDigit_ok (c : UInt8) : impl_isDigit (c.toNat : Int) = some (digit c) := by
 rw [impl_isDigit_eq,digit]; by_cases h : 48 ≤ (c.toNat : Int) <;> simp [h]
theorem spec_l01Name_p1_ok (s : List UInt8) (hs : s.length < 4611686018427387904) : ∀ (k i : Nat),i + k = s.length → spec_l01Name_p1 s i = some ((s.drop i).all fun c => small c || digit c)
 | 0,i,h => by
   rw [spec_l01Name_p1_eq,List.drop_eq_nil_of_le (by omega)]
   simp; omega
 | k + 1,i,h => by
   have hi : i < s.length := by omega
   rw [spec_l01Name_p1_eq,drop_cons hi]
   have h1 : (i : Int) < (s.length : Int) := by omega
   simp only [h1,decide_true,if_true,Int.natCast_nonneg,Int.toNat_natCast,getElem?_lt hi,Option.bind_some,spec_l01Small_ok,spec_l01Digit_ok,wsucc (show i < 4611686018427387904 by omega),spec_l01Name_p1_ok s hs k (i + 1) (by omega),List.all_cons]
   cases small s[i] <;> cases digit s[i] <;> simp
theorem spec_l01Name_ok (s : List UInt8) (hs : s.length < 4611686018427387904) : spec_l01Name s = some (isName s) := by
 rw [spec_l01Name_eq]
 cases s with
 | nil => rfl
 | cons c r =>
   have := spec_l01Name_p1_ok (c :: r) hs (r.length + 1) 0 (by simp)
   simp only [spec_l01Name_p0_eq,List.getElem?_cons_zero,Option.bind_some,spec_l01Small_ok]
   rw [show ((0 : Nat) : Int) = 0 from rfl] at this
   rw [this,isName]
   have e0 : ((c :: r) == ([] : List UInt8)) = false := by simp
   by_cases hl : ((c :: r).length : Int) > 10
   ·have : ¬ (c :: r).length ≤ 10 := by omega
    simp only [e0,hl,this,decide_true,decide_false,if_true,Bool.false_eq_true,if_false,Bool.and_false]
   ·have : (c :: r).length ≤ 10 := by omega
    simp only [e0,hl,this,decide_true,decide_false,if_true,Bool.false_eq_true,if_false,Bool.and_true]
    cases hc : small c <;> simp [hc]
def okFrom : Nat → List UInt8 → Bool
 | _,[] => true
 | i,c :: r => (small c || (i != 0 && digit c)) && okFrom (i + 1) r
theorem okFrom_all (r : List UInt8) : ∀ i,okFrom (i + 1) r = r.all fun c => small c || digit c := by
 induction r with
 | nil => intro i; rfl
 | cons c r ih => intro i; simp [okFrom,ih]
theorem impl_IsName_p0_ok (s : List UInt8) (hs : s.length < 4611686018427387904) : ∀ (k i : Nat),i + k = s.length → impl_IsName_p0 s i = some (okFrom i (s.drop i) && (!(s == []) && decide (s.length ≤ 10)))
 | 0,i,h => by
   rw [impl_IsName_p0_eq,List.drop_eq_nil_of_le (by omega),impl_few_eq]
   have h1 : ¬ (i : Int) < (s.length : Int) := by omega
   simp only [h1,decide_false,Bool.false_eq_true,if_false,okFrom,Option.bind_some,Bool.true_and]
   cases s with
   | nil => rfl
   | cons c r =>
     have : ((c :: r == []) = false) := by simp
     simp only [this,Bool.not_false,if_true,Bool.true_and]
     congr 1
     simp only [decide_eq_decide]; omega
 | k + 1,i,h => by
   have hi : i < s.length := by omega
   have h1 : (i : Int) < (s.length : Int) := by omega
   have ih := impl_IsName_p0_ok s hs k (i + 1) (by omega)
   have e1 : ∀ b : Bool,impl_IsName_p1 s i b = some (((b || (i != 0 && digit s[i])) && okFrom (i + 1) (s.drop (i + 1))) && (!(s == []) && decide (s.length ≤ 10))) := by
    intro b
    rw [impl_IsName_p1_eq]
    simp only [Int.natCast_nonneg,decide_true,if_true,Int.toNat_natCast,getElem?_lt hi,Option.bind_some,impl_isDigit_ok,wsucc (show i < 4611686018427387904 by omega),ih]
    cases b
    ·by_cases h0 : i = 0
     ·subst h0; simp
     ·have : ((i : Int) == 0) = false := by simp [h0]
      have : (i != 0) = true := by simp [h0]
      simp only [*]
      cases digit s[i] <;> simp
    ·simp
   rw [impl_IsName_p0_eq,drop_cons hi,okFrom]
   simp only [h1,decide_true,if_true,Int.natCast_nonneg,Int.toNat_natCast,getElem?_lt hi,Option.bind_some,e1,small]
   by_cases h97 : (s[i].toNat : Int) ≥ 97 <;> simp [h97]
theorem impl_IsName_ok (s : List UInt8) (hs : s.length < 4611686018427387904) : impl_IsName s = some (isName s) := by
 rw [impl_IsName_eq]
 have := impl_IsName_p0_ok s hs s.length 0 (by simp)
 rw [show ((0 : Nat) : Int) = 0 from rfl] at this
 rw [this]
 cases s with
 | nil => rfl
 | cons c r => simp [okFrom,okFrom_all,isName]
theorem impl_divRound_ok (a b : Int) (ha : -2000000000000000000 ≤ a ∧ a ≤ 2000000000000000000) (hb : 0 < b ∧ b ≤ 2000000000000000000) : impl_divRound a b = some (rdivP a b) := by
 rw [impl_divRound_eq]
 have e1 : IntKind.i64.wrap (0 - b) = -b := by rw [w64 (by omega) (by omega)]; omega
 have e2 : IntKind.i64.wrap (0 - a) = -a := by rw [w64 (by omega) (by omega)]; omega
 have e3 : (if -b > b then -b else b) = b := by rw [if_neg (by omega)]
 have hb0 : ¬ b = 0 := by omega
 have hbn : ¬ b < 0 := by omega
 simp only [e1,e2,e3,hb0,hbn,decide_false,Bool.false_eq_true,if_false]
 have main : ∀ x : Int,0 ≤ x → x ≤ 2000000000000000000 → x.tmod b = x % b ∧ x.tdiv b = x / b ∧ 0 ≤ x % b ∧ x % b < b ∧ 0 ≤ x / b ∧ x / b ≤ x := fun x h0 h1 =>
  ⟨tmod_nonneg_eq h0,tdiv_nonneg_eq h0,Int.emod_nonneg _ (by omega),Int.emod_lt_of_pos _ hb.1,Int.ediv_nonneg h0 (by omega),Int.ediv_le_self b h0⟩
 by_cases hneg : a < 0
 ·have e4 : (if -a > a then -a else a) = -a := by rw [if_pos (by omega)]
  obtain ⟨m1,m2,m3,m4,m5,m6⟩ := main (-a) (by omega) (by omega)
  have e5 : rdivP a b = -rdivP (-a) b := by rw [← rdivP_neg (show 0 < -a by omega) hb.1]; congr 1; omega
  rw [e5,rdivP_eq (show 0 ≤ -a by omega) hb.1]
  simp only [e4,hneg,m1,m2,decide_true,Bool.true_beq,Bool.not_false,if_true]
  rw [w64 (n := b - -a % b) (by omega) (by omega),w64 (n := -a / b) (by omega) (by omega),w64 (n := -a / b + 1) (by omega) (by omega),w64 (n := 0 - (-a / b + 1)) (by omega) (by omega),w64 (n := 0 - -a / b) (by omega) (by omega)]
  simp only [decide_eq_true_eq,ge_iff_le]
  split
  ·congr 1; omega
  ·congr 1; omega
 ·have e4 : (if -a > a then -a else a) = a := by rw [if_neg (by omega)]
  obtain ⟨m1,m2,m3,m4,m5,m6⟩ := main a (by omega) (by omega)
  rw [rdivP_eq (show 0 ≤ a by omega) hb.1]
  simp only [e4,hneg,m1,m2,decide_false,beq_self_eq_true,Bool.not_true,Bool.false_eq_true,if_false]
  rw [w64 (n := b - a % b) (by omega) (by omega),w64 (n := a / b) (by omega) (by omega),w64 (n := a / b + 1) (by omega) (by omega)]
  simp only [decide_eq_true_eq,ge_iff_le]
  split
  ·rfl
  ·congr 1; omega
def runs (m : Int) : Nat → List Int
 | 0 => []
 | n + 1 => m :: runs (m + 1) n
theorem wu64 {n : Int} (h1 : 0 ≤ n) (h2 : n < 18446744073709551616) : IntKind.u64.wrap n = n := by
 have e : IntKind.u64.wrap n = if decide false = true then n % 18446744073709551616 - 18446744073709551616 else n % 18446744073709551616 := by
  simp [IntKind.wrap,IntKind.signed,IntKind.bits]
 rw [e]
 simp; omega
theorem and255 (x : Int) : ((BitVec.ofInt IntKind.u64.bits x &&& BitVec.ofInt IntKind.u64.bits 255).toNat : Int) ≤ 255 := by
 have : (BitVec.ofInt IntKind.u64.bits x &&& BitVec.ofInt IntKind.u64.bits 255).toNat ≤ 255 := by
  rw [BitVec.toNat_and]
  refine Nat.le_trans Nat.and_le_right ?_
  decide
 omega
def SrcOk (s : T_l00Src.ty) (c : Int) : Prop := (∀ x : Int,x ∈ s.1 → 0 ≤ x ∧ x ≤ 255) ∧ s.1.length ≤ 1048576 ∧ (0 : Int) ≤ s.2.1 ∧ (s.2.1 : Int) ≤ c
theorem src_eta (s : T_l00Src.ty) : (s.1,s.2.1,s.2.2.1,()) = s := rfl
theorem SrcOk.up {s : T_l00Src.ty} {c d : Int} (h : SrcOk s c) (hd : c ≤ d) : SrcOk s d := ⟨h.1,h.2.1,h.2.2.1,Int.le_trans h.2.2.2 hd⟩
theorem next_p0_ok (v : Int) (l : List Int) (a h : Int) (c : Int) (hs : SrcOk (l,a,h,()) c) (hc : c ≤ 1152921504606846976) (hv : 0 ≤ v ∧ v ≤ 255) :
 ∃ (u : Int) (s' : T_l00Src.ty),spec_l00Src_next_p0 v l a h = some (u,s') ∧ SrcOk s' (c + 1) ∧ 0 ≤ u ∧ u ≤ 255 := by
 obtain ⟨h1,h2,h3,h4⟩ := hs
 have h3 : 0 ≤ a := h3
 have h4 : a ≤ c := h4
 rw [spec_l00Src_next_p0_eq,w64 (n := a + 1) (by omega) (by omega)]
 split
 ·exact ⟨_,_,rfl,⟨h1,h2,by show (0 : Int) ≤ a + 1; omega,by show (a + 1 : Int) ≤ c + 1; omega⟩,hv⟩
 ·refine ⟨_,_,rfl,⟨h1,h2,by show (0 : Int) ≤ a + 1; omega,by show (a + 1 : Int) ≤ c + 1; omega⟩,?_⟩
  generalize hx : ((BitVec.ofInt IntKind.u64.bits _ &&& BitVec.ofInt IntKind.u64.bits 255).toNat : Int) = x
  have := and255 (Int.fdiv (IntKind.u64.wrap ((IntKind.u64.wrap ((IntKind.u64.wrap (h * 6364136223846793005)) + (IntKind.u64.wrap v))) + 1442695040888963407)) (2 ^ (min (40 : Int).toNat IntKind.u64.bits)))
  rw [hx] at this
  have h0 : 0 ≤ x := by rw [← hx]; exact Int.natCast_nonneg _
  rw [wu64 h0 (by omega),w64 (by omega) (by omega)]
  exact ⟨h0,this⟩
theorem next_core (l : List Int) (a h c : Int) (hs : SrcOk (l,a,h,()) c) (hc : c ≤ 1152921504606846976) : ∃ (u : Int) (s' : T_l00Src.ty),spec_l00Src_next (l,a,h,()) = some (u,s') ∧ SrcOk s' (c + 1) ∧ 0 ≤ u ∧ u ≤ 255 := by
 have h3 : (0 : Int) ≤ a := hs.2.2.1
 rw [spec_l00Src_next_eq]
 dsimp only
 split
 ·rename_i hlt
  simp only [decide_eq_true_eq] at hlt
  have hlt' : a < (List.length (α := Int) l : Int) := hlt
  have hi : a.toNat < l.length := by omega
  obtain ⟨x,hx⟩ : ∃ x,l[a.toNat]? = some x := ⟨_,List.getElem?_eq_getElem hi⟩
  have hm : 0 ≤ x ∧ x ≤ 255 := hs.1 x (List.mem_of_getElem? hx)
  rw [if_pos (by simpa using h3),hx,Option.bind_some,w64 (n := x) (by omega) (by omega)]
  exact next_p0_ok x l a h c hs hc hm
 ·exact next_p0_ok 0 l a h c hs hc ⟨by omega,by omega⟩
theorem next_ok {s : T_l00Src.ty} {c : Int} (hs : SrcOk s c) (hc : c ≤ 1152921504606846976) : ∃ (u : Int) (s' : T_l00Src.ty),spec_l00Src_next s = some (u,s') ∧ SrcOk s' (c + 1) ∧ 0 ≤ u ∧ u ≤ 255 :=
 next_core s.1 s.2.1 s.2.2.1 c hs hc
theorem pick_ok {s : T_l00Src.ty} {c : Int} (hs : SrcOk s c) (hc : c ≤ 1000000000000000000) (n : Int) (hn : n ≤ 65536) :
 ∃ (u : Int) (s' : T_l00Src.ty),spec_l00Src_pick s n = some (u,s') ∧ SrcOk s' (c + 2) ∧ 0 ≤ u ∧ (u = 0 ∨ u < n) := by
 rw [spec_l00Src_pick_eq]
 by_cases h1 : n ≤ 1
 ·simp only [h1,decide_true,if_true]
  exact ⟨0,s,rfl,hs.up (by omega),by omega,.inl rfl⟩
 ·obtain ⟨u,s1,e1,k1,b1,b2⟩ := next_ok hs (by omega)
  have hn0 : ¬ n = 0 := by omega
  simp only [h1,decide_false,Bool.false_eq_true,if_false,e1,Option.bind_some,src_eta,hn0]
  by_cases h2 : n > 200
  ·obtain ⟨v,s2,e2,k2,b3,b4⟩ := next_ok k1 (by omega)
   simp only [h2,decide_true,if_true,e2,Option.bind_some,src_eta]
   rw [w64 (n := u * 256) (by omega) (by omega),w64 (n := u * 256 + v) (by omega) (by omega),tmod_nonneg_eq (by omega)]
   exact ⟨_,s2,rfl,k2.up (by omega),Int.emod_nonneg _ hn0,.inr (Int.emod_lt_of_pos _ (by omega))⟩
  ·simp only [h2,decide_false,Bool.false_eq_true,if_false]
   rw [tmod_nonneg_eq b1]
   exact ⟨_,s1,rfl,k1.up (by omega),Int.emod_nonneg _ hn0,.inr (Int.emod_lt_of_pos _ (by omega))⟩
theorem one_ok {s : T_l00Src.ty} {c : Int} (hs : SrcOk s c) (hc : c ≤ 1000000000000000000) (n : Int) (hn : n ≤ 65536) :
 ∃ (u : Bool) (s' : T_l00Src.ty),spec_l00Src_one s n = some (u,s') ∧ SrcOk s' (c + 2) := by
 obtain ⟨u,s1,e1,k1,_⟩ := pick_ok hs hc n hn
 rw [spec_l00Src_one_eq]
 simp only [e1,Option.bind_some,src_eta]
 exact ⟨_,s1,rfl,k1⟩
theorem among_ok {s : T_l00Src.ty} {c : Int} (hs : SrcOk s c) (hc : c ≤ 1000000000000000000) (l : List Int) (h0 : 0 < l.length) (hn : l.length ≤ 65536) :
 ∃ (u : Int) (s' : T_l00Src.ty),spec_l00Src_among s l = some (u,s') ∧ SrcOk s' (c + 2) ∧ u ∈ l := by
 obtain ⟨u,s1,e1,k1,b1,b2⟩ := pick_ok hs hc (l.length : Int) (by omega)
 have hi : u.toNat < l.length := by omega
 rw [spec_l00Src_among_eq]
 simp only [e1,Option.bind_some,src_eta,b1,decide_true,if_true,List.getElem?_eq_getElem hi]
 exact ⟨_,s1,rfl,k1,List.getElem_mem hi⟩
theorem from_ok (code : List Int) (h1 : ∀ x,x ∈ code → 0 ≤ x ∧ x ≤ 255) (h2 : code.length ≤ 1048576) : ∃ s,spec_l00From code = some s ∧ SrcOk s 0 := by
 rw [spec_l00From_eq]
 exact ⟨_,rfl,h1,h2,Int.le_refl _,Int.le_refl _⟩
theorem bytes_ok {l : List Int} (h : CT.wf (.sl (.one (.int .u8))) l) : ∀ x,x ∈ l → 0 ≤ x ∧ x ≤ 255 := fun x hx => by
 have : (Lit.int .u8 x).wf = true := h.2 x hx
 simp [Lit.wf,IntKind.min,IntKind.max,IntKind.signed,IntKind.bits] at this
 omega
def absI (n : Int) : Int := if n < 0 then -n else n
theorem absI_bd {n b : Int} (h : -b ≤ n ∧ n ≤ b) : 0 ≤ absI n ∧ absI n ≤ b := by unfold absI; split <;> omega
theorem rdivP_err {a b : Int} (hb : 0 < b) : 2 * absI (rdivP a b * b - a) ≤ b := by
 have pos : ∀ a : Int,0 ≤ a → 2 * absI (rdivP a b * b - a) ≤ b ∧ 0 ≤ a := fun a ha => by
  refine ⟨?_,ha⟩
  unfold rdivP
  rw [if_neg (by omega)]
  have h1 := Int.mul_ediv_add_emod (2 * a + b) (2 * b)
  have h2 := Int.emod_nonneg (2 * a + b) (show 2 * b ≠ 0 by omega)
  have h3 := Int.emod_lt_of_pos (2 * a + b) (show 0 < 2 * b by omega)
  have e : 2 * b * ((2 * a + b) / (2 * b)) = 2 * ((2 * a + b) / (2 * b) * b) := by rw [Int.mul_assoc,Int.mul_comm b]
  rw [e] at h1
  unfold absI
  split <;> omega
 by_cases ha : 0 ≤ a
 ·exact (pos a ha).1
 ·have h := (pos (-a) (by omega)).1
  have e : rdivP a b = -rdivP (-a) b := by rw [← rdivP_neg (show 0 < -a by omega) hb]; congr 1; omega
  rw [e,Int.neg_mul]
  unfold absI at h ⊢
  split at h <;> split <;> omega
theorem rdivP_bd {a b m : Int} (hb : 0 < b) (h : -m ≤ a ∧ a ≤ m) : -(m + 1) ≤ rdivP a b ∧ rdivP a b ≤ m + 1 := by
 by_cases ha : 0 ≤ a
 ·have := rdivP_nonneg ha hb
  have := rdivP_le ha hb
  omega
 ·have e : rdivP a b = -rdivP (-a) b := by rw [← rdivP_neg (show 0 < -a by omega) hb]; congr 1; omega
  have := rdivP_nonneg (a := -a) (by omega) hb
  have := rdivP_le (a := -a) (by omega) hb
  omega
def idx (P : Nat → Bool) (n : Nat) : List Int := ((List.range n).filter P).map fun (j : Nat) => (j : Int)
theorem idx_succ (P : Nat → Bool) (n : Nat) : idx P (n + 1) = idx P n ++ if P n then [(n : Int)] else [] := by
 unfold idx
 rw [List.range_succ,List.filter_append,List.map_append]
 cases h : P n <;> simp [h]
theorem idx_len (P : Nat → Bool) (n : Nat) : (idx P n).length ≤ n := by
 unfold idx
 rw [List.length_map]
 exact Nat.le_trans (List.length_filter_le _ _) (by simp)
theorem idx_mem (P : Nat → Bool) (n i : Nat) : (i : Int) ∈ idx P n ↔ i < n ∧ P i = true := by
 unfold idx
 simp only [List.mem_map,List.mem_filter,List.mem_range]
 constructor
 ·rintro ⟨j,h,e⟩
  have : j = i := by omega
  subst this; exact h
 ·intro h; exact ⟨i,h,rfl⟩
theorem laws_b10Abs_ok (n : Int) (h : -4611686018427387904 ≤ n ∧ n ≤ 4611686018427387904) : laws_b10Abs n = some (absI n) := by
 rw [laws_b10Abs_eq,w64 (n := 0 - n) (by omega) (by omega),absI]
 by_cases hn : n < 0
 ·simp [hn]
 ·simp [hn]
theorem laws_b10Has_p0_ok (l : List Int) (v : Int) (hs : l.length ≤ 1099511627776) : ∀ (k i : Nat),i + k = l.length → laws_b10Has_p0 l v i = some (decide (v ∈ l.drop i))
 | 0,i,hk => by
   rw [laws_b10Has_p0_eq,List.drop_eq_nil_of_le (by omega)]
   have : ¬ (i : Int) < (l.length : Int) := by omega
   simp [this]
 | k + 1,i,hk => by
   have hi : i < l.length := by omega
   have hlt : (i : Int) < (l.length : Int) := by omega
   have hw : IntKind.i64.wrap ((i : Int) + 1) = ((i + 1 : Nat) : Int) := by rw [w64 (by omega) (by omega)]; omega
   have ih := laws_b10Has_p0_ok l v hs k (i + 1) (by omega)
   rw [laws_b10Has_p0_eq,List.drop_eq_getElem_cons hi]
   simp only [hlt,decide_true,if_true,Int.natCast_nonneg,Int.toNat_natCast,List.getElem?_eq_getElem hi,Option.bind_some,hw,ih,List.mem_cons,beq_iff_eq]
   by_cases he : l[i] = v
   ·simp [he]
   ·have : ¬ v = l[i] := fun h => he h.symm
    simp [he,this]
theorem laws_b10Has_ok (l : List Int) (v : Int) (hs : l.length ≤ 1099511627776) : laws_b10Has l v = some (decide (v ∈ l)) := by
 rw [laws_b10Has_eq]
 have := laws_b10Has_p0_ok l v hs l.length 0 (by omega)
 simpa using this
theorem impl_distance_ok (a b : Int) (h : -2000000000000000000 ≤ a ∧ a ≤ 2000000000000000000) (h' : -2000000000000000000 ≤ b ∧ b ≤ 2000000000000000000) : impl_distance a b = some (absI (a - b)) := by
 rw [impl_distance_eq,w64 (n := a - b) (by omega) (by omega),w64 (n := b - a) (by omega) (by omega),absI]
 congr 1
 split <;> split <;> omega
def nt (k : Nat) : Int := (([1308,1386,1468,1556,1648,1746,1850,1960,2077,2200,2331,2469] : List Int)[k % 12]?.getD 0) * 2 ^ (k / 12)
theorem nt_bd : ∀ k,k ≤ 60 → 1000 ≤ nt k ∧ nt k ≤ 50000 := by decide +kernel
theorem impl_noteTone_ok (k : Nat) (h : k ≤ 60) : impl_noteTone (k : Int) = some (nt k) := by
 rw [impl_noteTone_eq]
 revert k
 decide +kernel
theorem spec_l16NoteTone_ok (k : Nat) (h : k ≤ 60) : spec_l16NoteTone (k : Int) = some (nt k) := by
 rw [spec_l16NoteTone_eq]
 revert k
 decide +kernel
theorem spec_NoteTone_ok (k : Nat) (h : k ≤ 60) : spec_NoteTone (k : Int) = some (nt k,0) := by
 rw [spec_NoteTone_eq,spec_l16Note_eq,spec_l00In_ok,show inR (k : Int) 0 60 = true from inR_iff'.2 (by omega),spec_l16NoteTone_ok k h]
 rfl
theorem spec_l16DrawOne_ok {s : T_l00Src.ty} {c : Int} (hs : SrcOk s c) (hc : c ≤ 100000000000000000) (id : List UInt8) : ∃ (t l : Int) (s' : T_l00Src.ty),spec_l16DrawOne s id = some ((id,t,l,()),s') ∧ SrcOk s' (c + 4) := by
 obtain ⟨u,s1,e1,k1,b1,b2⟩ := pick_ok hs (by omega) 400 (by omega)
 obtain ⟨v,s2,e2,k2,b3,b4⟩ := pick_ok k1 (by omega) 30 (by omega)
 rw [spec_l16DrawOne_eq]
 simp only [e1,e2,Option.bind_some,src_eta]
 exact ⟨_,_,s2,rfl,k2.up (by omega)⟩
theorem spec_l16Bent_ok {s : T_l00Src.ty} {c : Int} (hs : SrcOk s c) (hc : c ≤ 100000000000000000) (id : List UInt8) (t l : Int) : ∃ (t' l' : Int) (s' : T_l00Src.ty),spec_l16Bent s (id,t,l,()) = some ((id,t',l',()),s') ∧ SrcOk s' (c + 4) := by
 obtain ⟨u,s1,e1,k1,b1,b2⟩ := pick_ok hs (by omega) 16 (by omega)
 rw [spec_l16Bent_eq]
 simp only [e1,Option.bind_some,src_eta]
 by_cases h0 : u = 0
 ·obtain ⟨v,s2,e2,k2,b1⟩ := among_ok k1 (by omega) [999,1000,100000,100001] (by decide) (by decide)
  subst h0
  simp only [beq_self_eq_true,if_true,e2,Option.bind_some,src_eta]
  exact ⟨_,_,s2,rfl,k2.up (by omega)⟩
 have h0' : (u == 0) = false := by simpa using h0
 simp only [h0',Bool.false_eq_true,if_false]
 by_cases h1 : u = 1
 ·obtain ⟨v,s2,e2,k2,b1⟩ := among_ok k1 (by omega) [0,1,500,501] (by decide) (by decide)
  subst h1
  simp only [beq_self_eq_true,if_true,e2,Option.bind_some,src_eta]
  exact ⟨_,_,s2,rfl,k2.up (by omega)⟩
 have h1' : (u == 1) = false := by simpa using h1
 simp only [h1',Bool.false_eq_true,if_false]
 exact ⟨_,_,s1,rfl,k1.up (by omega)⟩
structure RunsOf (S : List (List UInt8)) (m : Nat) (E : List (List UInt8)) : Prop where
 run : S.take m = E.flatMap fun d => List.replicate ((S.take m).count d) d
 up : E.Pairwise (· < ·)
 mem : ∀ d,d ∈ E → d ∈ S.take m
 last : ∀ a,0 < m → S[m - 1]? = some a → ∃ E',E = E' ++ [a]
def modeOk (x : T_Mode.ty) : Bool := isName x.1 && (inR x.2.1 1000 100000 && (inR x.2.2.1 1 500))
def modesOk (xs : List T_Mode.ty) : Bool := sortedChk modeOk (fun x => x.1) none xs && decide ((xs.length : Int) ≤ 10)
theorem modesOk_all {xs : List T_Mode.ty} (h : modesOk xs = true) (x : T_Mode.ty) (hx : x ∈ xs) : modeOk x = true := by
 simp only [modesOk,Bool.and_eq_true] at h
 exact sortedChk_all h.1 x hx
theorem spec_l16One_ok (x : T_Mode.ty) (h0 : x.1.length < 4611686018427387904) : spec_l16One x = some (modeOk x) := by
 rw [spec_l16One_eq,modeOk]
 simp only [spec_l01Name_ok x.1 h0,spec_l16Tone_eq,spec_l00In_ok,Option.bind_some]
 cases isName x.1 <;> cases inR x.2.1 1000 100000 <;> simp
theorem impl_Mode_valid_ok (x : T_Mode.ty) (h0 : x.1.length < 4611686018427387904) : impl_Mode_valid x = some (modeOk x) := by
 rw [impl_Mode_valid_eq,modeOk]
 simp only [impl_IsName_ok x.1 h0,impl_isTone_eq,impl_within_ok,Option.bind_some]
 cases isName x.1 <;> cases inR x.2.1 1000 100000 <;> simp
theorem spec_l16Ok_ok (xs : List T_Mode.ty) (hs : xs.length ≤ 1048576) (hx : ∀ x,x ∈ xs → x.1.length ≤ 1048576) : spec_l16Ok xs = some (modesOk xs) := by
 rw [spec_l16Ok_eq]
 exact sortedLoopS xs spec_l16One modeOk (fun x => x.1) (fun i => spec_l16Ok_p0 xs i) _ _ rfl (fun i => spec_l16Ok_p0_eq xs i) hs (fun x hm => spec_l16One_ok x (Nat.lt_of_le_of_lt (hx x hm) (by decide))) xs.length 0 (by omega)
theorem impl_ValidModes_ok (xs : List T_Mode.ty) (hs : xs.length ≤ 1048576) (hx : ∀ x,x ∈ xs → x.1.length ≤ 1048576) : impl_ValidModes xs = some (modesOk xs) := by
 rw [impl_ValidModes_eq]
 exact sortedLoopI xs impl_Mode_valid modeOk (fun x => x.1) (fun i => impl_ValidModes_p0 xs xs xs.length i) _ _ (show ((impl_few (xs.length : Int) 10).bind fun x4 => some x4) = some (decide ((xs.length : Int) ≤ 10)) by rw [impl_few_eq]; rfl) (fun i => impl_ValidModes_p0_eq xs xs xs.length i) hs (fun x hm => impl_Mode_valid_ok x (Nat.lt_of_le_of_lt (hx x hm) (by decide))) xs.length 0 (by omega)
end Go.Ab.P
