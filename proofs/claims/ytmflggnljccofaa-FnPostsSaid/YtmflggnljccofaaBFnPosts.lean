/- Lemmas on functions of the program. Conditions: told in each. -/
import Derived.Test.YtmflggnljccofaaPFnPosts
set_option linter.unusedVariables false
set_option linter.unusedSimpArgs false
namespace Go.Ab.P
open Go.Ab
def sortedChk {α : Type} (ok : α → Bool) (id : α → List UInt8) : Option α → List α → Bool
 | _,[] => true
 | p,x :: r => ok x && ((match p with | none => true | some y => Op.bytesLess (id y) (id x)) && sortedChk ok id (some x) r)
theorem sortedChk_all {α : Type} {ok : α → Bool} {id : α → List UInt8} : ∀ {l : List α} {p : Option α},sortedChk ok id p l = true → ∀ x,x ∈ l → ok x = true
 | [],_,_,x,hx => by cases hx
 | y :: r,p,h,x,hx => by
   simp only [sortedChk,Bool.and_eq_true] at h
   rcases List.mem_cons.1 hx with rfl | hx
   ·exact h.1
   ·exact sortedChk_all h.2.2 x hx
theorem sortedLoopI {α : Type} (xs : List α) (one : α → Option Bool) (ok : α → Bool) (id : α → List UInt8) (p0 : Int → Option Bool) (last : Option Bool) (lb : Bool) (hlast : last = some lb)
 (heq : ∀ i : Int,p0 i = if decide (i < (xs.length : Int)) then (if decide (0 ≤ i) then (xs[i.toNat]?).bind fun x1 => (one x1).bind fun x2 => if (!x2) then some false else if decide (i > 0) then (if decide (0 ≤ IntKind.i64.wrap (i - 1)) then (xs[(IntKind.i64.wrap (i - 1)).toNat]?).bind fun x3 => if (!Op.bytesLess (id x3) (id x1)) then some false else p0 (IntKind.i64.wrap (i + 1)) else none) else p0 (IntKind.i64.wrap (i + 1)) else none) else last)
 (hs : xs.length ≤ 1048576) (h1 : ∀ x,x ∈ xs → one x = some (ok x)) :
 ∀ (k i : Nat),i + k = xs.length → p0 i = some (sortedChk ok id (if i = 0 then none else xs[i - 1]?) (xs.drop i) && lb)
 | 0,i,hk => by
   rw [heq,List.drop_eq_nil_of_le (by omega)]
   have : ¬ (i : Int) < (xs.length : Int) := by omega
   simp only [this,decide_false,Bool.false_eq_true,if_false,hlast,sortedChk,Bool.true_and]
 | k + 1,i,hk => by
   have hi : i < xs.length := by omega
   have hlt : (i : Int) < (xs.length : Int) := by omega
   have hw : IntKind.i64.wrap ((i : Int) + 1) = ((i + 1 : Nat) : Int) := by rw [w64 (by omega) (by omega)]; omega
   have ih := sortedLoopI xs one ok id p0 last lb hlast heq hs h1 k (i + 1) (by omega)
   rw [if_neg (by omega),Nat.add_sub_cancel,List.getElem?_eq_getElem hi] at ih
   rw [heq,List.drop_eq_getElem_cons hi]
   simp only [hlt,decide_true,if_true,Int.natCast_nonneg,Int.toNat_natCast,List.getElem?_eq_getElem hi,Option.bind_some,h1 xs[i] (List.getElem_mem hi),hw,ih,sortedChk]
   cases hok : ok xs[i]
   ·simp
   ·by_cases h0 : i = 0
    ·subst h0; simp
    ·have hp : (i : Int) > 0 := by omega
     have hw2 : IntKind.i64.wrap ((i : Int) - 1) = ((i - 1 : Nat) : Int) := by rw [w64 (by omega) (by omega)]; omega
     simp only [hp,decide_true,if_true,hw2,Int.natCast_nonneg,Int.toNat_natCast,List.getElem?_eq_getElem (show i - 1 < xs.length by omega),Option.bind_some,h0,if_false,Bool.not_true,Bool.false_eq_true]
     cases Op.bytesLess (id xs[i - 1]) (id xs[i]) <;> simp
theorem wsucc {i : Nat} (h : i < 4611686018427387904) : IntKind.i64.wrap ((i : Int) + 1) = ((i + 1 : Nat) : Int) := by
 rw [w64 (by omega) (by omega)]; omega
theorem getElem?_lt {α : Type} {l : List α} {i : Nat} (h : i < l.length) : l[i]? = some l[i] := List.getElem?_eq_getElem h
theorem drop_cons {α : Type} {l : List α} {i : Nat} (h : i < l.length) : l.drop i = l[i] :: l.drop (i + 1) := List.drop_eq_getElem_cons h
def rdivP (a b : Int) : Int := if a < 0 then -((b - 2 * a) / (2 * b)) else (2 * a + b) / (2 * b)
theorem rdivP_eq {a b : Int} (ha : 0 ≤ a) (hb : 0 < b) : rdivP a b = a / b + if b - a % b ≤ a % b then 1 else 0 := by
 have h1 := Int.mul_ediv_add_emod a b
 have h2 := Int.emod_nonneg a (show b ≠ 0 by omega)
 have h3 := Int.emod_lt_of_pos a hb
 unfold rdivP
 rw [if_neg (by omega)]
 generalize a / b = q at h1 ⊢
 generalize a % b = r at h1 h2 h3 ⊢
 have key : ∀ t s : Int,0 ≤ s → s < 2 * b → 2 * a + b = s + 2 * b * t → (2 * a + b) / (2 * b) = t := fun t s hs0 hs1 he => by
  rw [he,Int.add_mul_ediv_left s t (show 2 * b ≠ 0 by omega),Int.ediv_eq_zero_of_lt hs0 hs1]; omega
 have e : 2 * b * q = 2 * (b * q) := Int.mul_assoc 2 b q
 split
 ·refine key (q + 1) (2 * r - b) (by omega) (by omega) ?_
  rw [Int.mul_add,e]; omega
 ·rw [Int.add_zero]
  refine key q (2 * r + b) (by omega) (by omega) ?_
  rw [e]; omega
theorem rdivP_neg {a b : Int} (ha : 0 < a) (hb : 0 < b) : rdivP (-a) b = -rdivP a b := by
 unfold rdivP
 rw [if_pos (by omega),if_neg (by omega)]
 congr 2; omega
theorem rdivP_nonneg {a b : Int} (ha : 0 ≤ a) (hb : 0 < b) : 0 ≤ rdivP a b := by
 unfold rdivP
 rw [if_neg (by omega)]
 exact Int.ediv_nonneg (by omega) (by omega)
theorem rdivP_le {a b : Int} (ha : 0 ≤ a) (hb : 0 < b) : rdivP a b ≤ a + 1 := by
 rw [rdivP_eq ha hb]
 have := Int.ediv_le_self b ha
 split <;> omega
theorem tdiv_nonneg_eq {a b : Int} (ha : 0 ≤ a) : a.tdiv b = a / b := Int.tdiv_eq_ediv_of_nonneg ha
theorem tmod_nonneg_eq {a b : Int} (ha : 0 ≤ a) : a.tmod b = a % b := Int.tmod_eq_emod_of_nonneg ha
def small (c : UInt8) : Bool := decide (97 ≤ (c.toNat : Int)) && decide ((c.toNat : Int) ≤ 122)
def digit (c : UInt8) : Bool := decide (48 ≤ (c.toNat : Int)) && decide ((c.toNat : Int) ≤ 57)
def isName (s : List UInt8) : Bool := match s with | [] => false | c :: r => small c && r.all (fun c => small c || digit c) && decide (s.length ≤ 10)
def inR (n lo hi : Int) : Bool := decide (lo ≤ n) && decide (n ≤ hi)
theorem inR_iff' {n lo hi : Int} : inR n lo hi = true ↔ lo ≤ n ∧ n ≤ hi := by simp [inR]
theorem impl_within_ok (n lo hi : Int) : impl_within n lo hi = some (inR n lo hi) := by
 rw [impl_within_eq,inR]; by_cases h : lo ≤ n <;> simp [h]
theorem impl_isDigit_ok (c : UInt8) : impl_isDigit (c.toNat : Int) = some (digit c) := by
 rw [impl_isDigit_eq,digit]; by_cases h : 48 ≤ (c.toNat : Int) <;> simp [h]
def okFrom : Nat → List UInt8 → Bool
 | _,[] => true
 | i,c :: r => (small c || (i != 0 && digit c)) && okFrom (i + 1) r
theorem okFrom_all (r : List UInt8) : ∀ i,okFrom (i + 1) r = r.all fun c => small c || digit c := by
 induction r with
 | nil => intro i; rfl
 | cons c r ih => intro i; simp [okFrom,ih]
theorem impl_IsName_p0_ok (s : List UInt8) (hs : s.length < 4611686018427387904) : ∀ (k i : Nat),i + k = s.length → impl_IsName_p0 s i = some (okFrom i (s.drop i) && (!(s == []) && decide (s.length ≤ 10)))
 | 0,i,h => by
   rw [impl_IsName_p0_eq,List.drop_eq_nil_of_le (by omega),impl_few_eq]
   have h1 : ¬ (i : Int) < (s.length : Int) := by omega
   simp only [h1,decide_false,Bool.false_eq_true,if_false,okFrom,Option.bind_some,Bool.true_and]
   cases s with
   | nil => rfl
   | cons c r =>
     have : ((c :: r == []) = false) := by simp
     simp only [this,Bool.not_false,if_true,Bool.true_and]
     congr 1
     simp only [decide_eq_decide]; omega
 | k + 1,i,h => by
   have hi : i < s.length := by omega
   have h1 : (i : Int) < (s.length : Int) := by omega
   have ih := impl_IsName_p0_ok s hs k (i + 1) (by omega)
   have e1 : ∀ b : Bool,impl_IsName_p1 s i b = some (((b || (i != 0 && digit s[i])) && okFrom (i + 1) (s.drop (i + 1))) && (!(s == []) && decide (s.length ≤ 10))) := by
    intro b
    rw [impl_IsName_p1_eq]
    simp only [Int.natCast_nonneg,decide_true,if_true,Int.toNat_natCast,getElem?_lt hi,Option.bind_some,impl_isDigit_ok,wsucc (show i < 4611686018427387904 by omega),ih]
    cases b
    ·by_cases h0 : i = 0
     ·subst h0; simp
     ·have : ((i : Int) == 0) = false := by simp [h0]
      have : (i != 0) = true := by simp [h0]
      simp only [*]
      cases digit s[i] <;> simp
    ·simp
   rw [impl_IsName_p0_eq,drop_cons hi,okFrom]
   simp only [h1,decide_true,if_true,Int.natCast_nonneg,Int.toNat_natCast,getElem?_lt hi,Option.bind_some,e1,small]
   by_cases h97 : (s[i].toNat : Int) ≥ 97 <;> simp [h97]
theorem impl_IsName_ok (s : List UInt8) (hs : s.length < 4611686018427387904) : impl_IsName s = some (isName s) := by
 rw [impl_IsName_eq]
 have := impl_IsName_p0_ok s hs s.length 0 (by simp)
 rw [show ((0 : Nat) : Int) = 0 from rfl] at this
 rw [this]
 cases s with
 | nil => rfl
 | cons c r => simp [okFrom,okFrom_all,isName]
theorem impl_divRound_ok (a b : Int) (ha : -2000000000000000000 ≤ a ∧ a ≤ 2000000000000000000) (hb : 0 < b ∧ b ≤ 2000000000000000000) : impl_divRound a b = some (rdivP a b) := by
 rw [impl_divRound_eq]
 have e1 : IntKind.i64.wrap (0 - b) = -b := by rw [w64 (by omega) (by omega)]; omega
 have e2 : IntKind.i64.wrap (0 - a) = -a := by rw [w64 (by omega) (by omega)]; omega
 have e3 : (if -b > b then -b else b) = b := by rw [if_neg (by omega)]
 have hb0 : ¬ b = 0 := by omega
 have hbn : ¬ b < 0 := by omega
 simp only [e1,e2,e3,hb0,hbn,decide_false,Bool.false_eq_true,if_false]
 have main : ∀ x : Int,0 ≤ x → x ≤ 2000000000000000000 → x.tmod b = x % b ∧ x.tdiv b = x / b ∧ 0 ≤ x % b ∧ x % b < b ∧ 0 ≤ x / b ∧ x / b ≤ x := fun x h0 h1 =>
  ⟨tmod_nonneg_eq h0,tdiv_nonneg_eq h0,Int.emod_nonneg _ (by omega),Int.emod_lt_of_pos _ hb.1,Int.ediv_nonneg h0 (by omega),Int.ediv_le_self b h0⟩
 by_cases hneg : a < 0
 ·have e4 : (if -a > a then -a else a) = -a := by rw [if_pos (by omega)]
  obtain ⟨m1,m2,m3,m4,m5,m6⟩ := main (-a) (by omega) (by omega)
  have e5 : rdivP a b = -rdivP (-a) b := by rw [← rdivP_neg (show 0 < -a by omega) hb.1]; congr 1; omega
  rw [e5,rdivP_eq (show 0 ≤ -a by omega) hb.1]
  simp only [e4,hneg,m1,m2,decide_true,Bool.true_beq,Bool.not_false,if_true]
  rw [w64 (n := b - -a % b) (by omega) (by omega),w64 (n := -a / b) (by omega) (by omega),w64 (n := -a / b + 1) (by omega) (by omega),w64 (n := 0 - (-a / b + 1)) (by omega) (by omega),w64 (n := 0 - -a / b) (by omega) (by omega)]
  simp only [decide_eq_true_eq,ge_iff_le]
  split
  ·congr 1; omega
  ·congr 1; omega
 ·have e4 : (if -a > a then -a else a) = a := by rw [if_neg (by omega)]
  obtain ⟨m1,m2,m3,m4,m5,m6⟩ := main a (by omega) (by omega)
  rw [rdivP_eq (show 0 ≤ a by omega) hb.1]
  simp only [e4,hneg,m1,m2,decide_false,beq_self_eq_true,Bool.not_true,Bool.false_eq_true,if_false]
  rw [w64 (n := b - a % b) (by omega) (by omega),w64 (n := a / b) (by omega) (by omega),w64 (n := a / b + 1) (by omega) (by omega)]
  simp only [decide_eq_true_eq,ge_iff_le]
  split
  ·rfl
  ·congr 1; omega
theorem wu64 {n : Int} (h1 : 0 ≤ n) (h2 : n < 18446744073709551616) : IntKind.u64.wrap n = n := by
 have e : IntKind.u64.wrap n = if decide false = true then n % 18446744073709551616 - 18446744073709551616 else n % 18446744073709551616 := by
  simp [IntKind.wrap,IntKind.signed,IntKind.bits]
 rw [e]
 simp; omega
theorem and255 (x : Int) : ((BitVec.ofInt IntKind.u64.bits x &&& BitVec.ofInt IntKind.u64.bits 255).toNat : Int) ≤ 255 := by
 have : (BitVec.ofInt IntKind.u64.bits x &&& BitVec.ofInt IntKind.u64.bits 255).toNat ≤ 255 := by
  rw [BitVec.toNat_and]
  refine Nat.le_trans Nat.and_le_right ?_
  decide
 omega
def SrcOk (s : T_l00Src.ty) (c : Int) : Prop := (∀ x : Int,x ∈ s.1 → 0 ≤ x ∧ x ≤ 255) ∧ s.1.length ≤ 1048576 ∧ (0 : Int) ≤ s.2.1 ∧ (s.2.1 : Int) ≤ c
theorem src_eta (s : T_l00Src.ty) : (s.1,s.2.1,s.2.2.1,()) = s := rfl
theorem SrcOk.up {s : T_l00Src.ty} {c d : Int} (h : SrcOk s c) (hd : c ≤ d) : SrcOk s d := ⟨h.1,h.2.1,h.2.2.1,Int.le_trans h.2.2.2 hd⟩
theorem next_p0_ok (v : Int) (l : List Int) (a h : Int) (c : Int) (hs : SrcOk (l,a,h,()) c) (hc : c ≤ 1152921504606846976) (hv : 0 ≤ v ∧ v ≤ 255) :
 ∃ (u : Int) (s' : T_l00Src.ty),spec_l00Src_next_p0 v l a h = some (u,s') ∧ SrcOk s' (c + 1) ∧ 0 ≤ u ∧ u ≤ 255 := by
 obtain ⟨h1,h2,h3,h4⟩ := hs
 have h3 : 0 ≤ a := h3
 have h4 : a ≤ c := h4
 rw [spec_l00Src_next_p0_eq,w64 (n := a + 1) (by omega) (by omega)]
 split
 ·exact ⟨_,_,rfl,⟨h1,h2,by show (0 : Int) ≤ a + 1; omega,by show (a + 1 : Int) ≤ c + 1; omega⟩,hv⟩
 ·refine ⟨_,_,rfl,⟨h1,h2,by show (0 : Int) ≤ a + 1; omega,by show (a + 1 : Int) ≤ c + 1; omega⟩,?_⟩
  generalize hx : ((BitVec.ofInt IntKind.u64.bits _ &&& BitVec.ofInt IntKind.u64.bits 255).toNat : Int) = x
  have := and255 (Int.fdiv (IntKind.u64.wrap ((IntKind.u64.wrap ((IntKind.u64.wrap (h * 6364136223846793005)) + (IntKind.u64.wrap v))) + 1442695040888963407)) (2 ^ (min (40 : Int).toNat IntKind.u64.bits)))
  rw [hx] at this
  have h0 : 0 ≤ x := by rw [← hx]; exact Int.natCast_nonneg _
  rw [wu64 h0 (by omega),w64 (by omega) (by omega)]
  exact ⟨h0,this⟩
theorem next_core (l : List Int) (a h c : Int) (hs : SrcOk (l,a,h,()) c) (hc : c ≤ 1152921504606846976) : ∃ (u : Int) (s' : T_l00Src.ty),spec_l00Src_next (l,a,h,()) = some (u,s') ∧ SrcOk s' (c + 1) ∧ 0 ≤ u ∧ u ≤ 255 := by
 have h3 : (0 : Int) ≤ a := hs.2.2.1
 rw [spec_l00Src_next_eq]
 dsimp only
 split
 ·rename_i hlt
  simp only [decide_eq_true_eq] at hlt
  have hlt' : a < (List.length (α := Int) l : Int) := hlt
  have hi : a.toNat < l.length := by omega
  obtain ⟨x,hx⟩ : ∃ x,l[a.toNat]? = some x := ⟨_,List.getElem?_eq_getElem hi⟩
  have hm : 0 ≤ x ∧ x ≤ 255 := hs.1 x (List.mem_of_getElem? hx)
  rw [if_pos (by simpa using h3),hx,Option.bind_some,w64 (n := x) (by omega) (by omega)]
  exact next_p0_ok x l a h c hs hc hm
 ·exact next_p0_ok 0 l a h c hs hc ⟨by omega,by omega⟩
theorem next_ok {s : T_l00Src.ty} {c : Int} (hs : SrcOk s c) (hc : c ≤ 1152921504606846976) : ∃ (u : Int) (s' : T_l00Src.ty),spec_l00Src_next s = some (u,s') ∧ SrcOk s' (c + 1) ∧ 0 ≤ u ∧ u ≤ 255 :=
 next_core s.1 s.2.1 s.2.2.1 c hs hc
theorem pick_ok {s : T_l00Src.ty} {c : Int} (hs : SrcOk s c) (hc : c ≤ 1000000000000000000) (n : Int) (hn : n ≤ 65536) :
 ∃ (u : Int) (s' : T_l00Src.ty),spec_l00Src_pick s n = some (u,s') ∧ SrcOk s' (c + 2) ∧ 0 ≤ u ∧ (u = 0 ∨ u < n) := by
 rw [spec_l00Src_pick_eq]
 by_cases h1 : n ≤ 1
 ·simp only [h1,decide_true,if_true]
  exact ⟨0,s,rfl,hs.up (by omega),by omega,.inl rfl⟩
 ·obtain ⟨u,s1,e1,k1,b1,b2⟩ := next_ok hs (by omega)
  have hn0 : ¬ n = 0 := by omega
  simp only [h1,decide_false,Bool.false_eq_true,if_false,e1,Option.bind_some,src_eta,hn0]
  by_cases h2 : n > 200
  ·obtain ⟨v,s2,e2,k2,b3,b4⟩ := next_ok k1 (by omega)
   simp only [h2,decide_true,if_true,e2,Option.bind_some,src_eta]
   rw [w64 (n := u * 256) (by omega) (by omega),w64 (n := u * 256 + v) (by omega) (by omega),tmod_nonneg_eq (by omega)]
   exact ⟨_,s2,rfl,k2.up (by omega),Int.emod_nonneg _ hn0,.inr (Int.emod_lt_of_pos _ (by omega))⟩
  ·simp only [h2,decide_false,Bool.false_eq_true,if_false]
   rw [tmod_nonneg_eq b1]
   exact ⟨_,s1,rfl,k1.up (by omega),Int.emod_nonneg _ hn0,.inr (Int.emod_lt_of_pos _ (by omega))⟩
theorem one_ok {s : T_l00Src.ty} {c : Int} (hs : SrcOk s c) (hc : c ≤ 1000000000000000000) (n : Int) (hn : n ≤ 65536) :
 ∃ (u : Bool) (s' : T_l00Src.ty),spec_l00Src_one s n = some (u,s') ∧ SrcOk s' (c + 2) := by
 obtain ⟨u,s1,e1,k1,_⟩ := pick_ok hs hc n hn
 rw [spec_l00Src_one_eq]
 simp only [e1,Option.bind_some,src_eta]
 exact ⟨_,s1,rfl,k1⟩
theorem among_ok {s : T_l00Src.ty} {c : Int} (hs : SrcOk s c) (hc : c ≤ 1000000000000000000) (l : List Int) (h0 : 0 < l.length) (hn : l.length ≤ 65536) :
 ∃ (u : Int) (s' : T_l00Src.ty),spec_l00Src_among s l = some (u,s') ∧ SrcOk s' (c + 2) ∧ u ∈ l := by
 obtain ⟨u,s1,e1,k1,b1,b2⟩ := pick_ok hs hc (l.length : Int) (by omega)
 have hi : u.toNat < l.length := by omega
 rw [spec_l00Src_among_eq]
 simp only [e1,Option.bind_some,src_eta,b1,decide_true,if_true,List.getElem?_eq_getElem hi]
 exact ⟨_,s1,rfl,k1,List.getElem_mem hi⟩
theorem from_ok (code : List Int) (h1 : ∀ x,x ∈ code → 0 ≤ x ∧ x ≤ 255) (h2 : code.length ≤ 1048576) : ∃ s,spec_l00From code = some s ∧ SrcOk s 0 := by
 rw [spec_l00From_eq]
 exact ⟨_,rfl,h1,h2,Int.le_refl _,Int.le_refl _⟩
theorem bytes_ok {l : List Int} (h : CT.wf (.sl (.one (.int .u8))) l) : ∀ x,x ∈ l → 0 ≤ x ∧ x ≤ 255 := fun x hx => by
 have : (Lit.int .u8 x).wf = true := h.2 x hx
 simp [Lit.wf,IntKind.min,IntKind.max,IntKind.signed,IntKind.bits] at this
 omega
theorem rdivP_bd {a b m : Int} (hb : 0 < b) (h : -m ≤ a ∧ a ≤ m) : -(m + 1) ≤ rdivP a b ∧ rdivP a b ≤ m + 1 := by
 by_cases ha : 0 ≤ a
 ·have := rdivP_nonneg ha hb
  have := rdivP_le ha hb
  omega
 ·have e : rdivP a b = -rdivP (-a) b := by rw [← rdivP_neg (show 0 < -a by omega) hb]; congr 1; omega
  have := rdivP_nonneg (a := -a) (by omega) hb
  have := rdivP_le (a := -a) (by omega) hb
  omega
theorem laws_b10Div_nn (n : Nat) (a b : Int) (ha : 0 ≤ a ∧ a ≤ 2000000000000000000) (hb : 0 < b ∧ b ≤ 2000000000000000000) : laws_b10Div (n + 1) a b = some (rdivP a b) := by
 rw [laws_b10Div_eq]
 have h0 : ¬ a < 0 := by omega
 have h1 : ¬ 2 * b = 0 := by omega
 simp only [h0,decide_false,Bool.false_eq_true,if_false,w64 (n := 2 * b) (by omega) (by omega),h1,w64 (n := 2 * a) (by omega) (by omega),w64 (n := 2 * a + b) (by omega) (by omega)]
 have hd : (2 * a + b) / (2 * b) ≤ 2 * a + b := Int.ediv_le_self _ (by omega)
 have hd0 : 0 ≤ (2 * a + b) / (2 * b) := Int.ediv_nonneg (by omega) (by omega)
 rw [tdiv_nonneg_eq (by omega),w64 (by omega) (by omega),rdivP,if_neg h0]
theorem laws_b10Div_ok (a b : Int) (ha : -2000000000000000000 ≤ a ∧ a ≤ 2000000000000000000) (hb : 0 < b ∧ b ≤ 2000000000000000000) : laws_b10Div 1000 a b = some (rdivP a b) := by
 by_cases h0 : a < 0
 ·have hr := rdivP_bd (a := -a) (m := 2000000000000000000) hb.1 (by omega)
  rw [show (1000 : Nat) = 998 + 1 + 1 from rfl,laws_b10Div_eq]
  simp only [h0,decide_true,if_true,w64 (n := 0 - a) (by omega) (by omega)]
  rw [show (0 : Int) - a = -a by omega,laws_b10Div_nn 998 (-a) b (by omega) hb,Option.bind_some,w64 (by omega) (by omega)]
  have e : rdivP a b = -rdivP (-a) b := by rw [← rdivP_neg (show 0 < -a by omega) hb.1]; congr 1; omega
  rw [e]
  congr 1; omega
 ·exact laws_b10Div_nn 999 a b (by omega) hb
theorem mul_bd {b d B D : Int} (hb : 0 ≤ b ∧ b ≤ B) (hd : -D ≤ d ∧ d ≤ D) : -(B * D) ≤ b * d ∧ b * d ≤ B * D := by
 have up : ∀ d : Int,-D ≤ d ∧ d ≤ D → b * d ≤ B * D := fun d hd => by
  by_cases h : 0 ≤ d
  ·exact Int.le_trans (Int.mul_le_mul_of_nonneg_right hb.2 h) (Int.mul_le_mul_of_nonneg_left hd.2 (by omega))
  ·have h1 : b * d ≤ 0 := Int.mul_nonpos_of_nonneg_of_nonpos hb.1 (by omega)
   have h2 : 0 ≤ B * D := Int.mul_nonneg (by omega) (by omega)
   omega
 have h1 := up d hd
 have h2 := up (-d) (by omega)
 rw [Int.mul_neg] at h2
 omega
theorem spec_l01Dec_p3_ok (l : List Int) (hl : l.length ≤ 1000) : ∀ (k : Nat) (r : List Int),k ≤ l.length → r.length + k ≤ 1000 → ∃ t,spec_l01Dec_p3 ((k : Int) - 1) l r = some t ∧ t.length = r.length + k
 | 0,r,hk,hr => by
   rw [spec_l01Dec_p3_eq]
   have : ¬ ((0 : Nat) : Int) - 1 ≥ 0 := by omega
   simp only [this,decide_false,Bool.false_eq_true,if_false,List.take_length]
   exact ⟨_,rfl,by simp⟩
 | k + 1,r,hk,hr => by
   rw [spec_l01Dec_p3_eq,show ((k + 1 : Nat) : Int) - 1 = (k : Int) by omega]
   have h1 : (k : Int) ≥ 0 := by omega
   have h2 : (0 : Int) ≤ (k : Int) := by omega
   have h3 : (k : Int) < (l.length : Int) := by omega
   have h4 : r.length + 1 < lim := by rw [lim_eq]; omega
   obtain ⟨t,e,ht⟩ := spec_l01Dec_p3_ok l hl k (r ++ [l[k]]) (by omega) (by simp; omega)
   simp only [h1,h2,h3,decide_true,Bool.and_self,if_true,Int.toNat_natCast,getElem?_lt (show k < l.length by omega),Option.bind_some,h4,List.take_length,w64 (n := (k : Int) - 1) (by omega) (by omega)]
   exact ⟨t,e,by rw [ht]; simp; omega⟩
theorem spec_l01Dec_p0_ok (n : Int) : ∀ (k : Nat) (v : Int) (r : List Int),0 ≤ v → v ≤ 4611686018427387904 → v < 10 ^ k → 0 ≤ n → r.length + k ≤ 900 → ∃ t,spec_l01Dec_p0 n v r = some t ∧ t.length ≤ r.length + k
 | k,v,r,h0,hbig,hv,hn,hr => by
   by_cases hz : v = 0
   ·rw [spec_l01Dec_p0_eq,hz]
    have hn0 : ¬ n < 0 := by omega
    obtain ⟨t,e,ht⟩ := spec_l01Dec_p3_ok r (by omega) r.length [] (by omega) (by simp; omega)
    simp only [bne_self_eq_false,Bool.false_eq_true,if_false,hn0,decide_false,spec_l01Dec_p2_eq,w64 (n := (r.length : Int) - 1) (by omega) (by omega)]
    exact ⟨t,e,by rw [ht]; simp⟩
   ·match k,hv,hr with
    | 0,hv,hr => simp at hv; omega
    | k + 1,hv,hr =>
      have hz' : (v != 0) = true := by simpa using hz
      have hm : ¬ v.tmod 10 < 0 := by rw [tmod_nonneg_eq h0]; omega
      have h4 : r.length + 1 < lim := by rw [lim_eq]; omega
      have hp : (10 : Int) ^ (k + 1) = 10 ^ k * 10 := Int.pow_succ ..
      have hq : v.tdiv 10 = v / 10 := tdiv_nonneg_eq h0
      have hq2 : v / 10 < 10 ^ k := by omega
      obtain ⟨t,e,ht⟩ := spec_l01Dec_p0_ok n k (v / 10) (r ++ [IntKind.u8.wrap (IntKind.i64.wrap (48 + v.tmod 10))]) (by omega) (by omega) hq2 hn (by simp; omega)
      rw [spec_l01Dec_p0_eq]
      simp only [hz',if_true,hm,decide_false,Bool.false_eq_true,if_false,spec_l01Dec_p1_eq,h4,decide_true,List.take_length,hq,w64 (n := v / 10) (by omega) (by omega)]
      exact ⟨t,e,by rw [List.length_append,List.length_singleton] at ht; omega⟩
theorem spec_l01Dec_tot (n : Int) (h : 0 ≤ n ∧ n ≤ 1000000000) : ∃ t,spec_l01Dec n = some t ∧ t.length ≤ 20 := by
 rw [spec_l01Dec_eq]
 by_cases hz : n = 0
 ·subst hz; exact ⟨[48],rfl,by decide⟩
 ·have hz' : (n == 0) = false := by simpa using hz
  have h20 : (10 : Int) ^ 20 = 100000000000000000000 := by decide
  obtain ⟨t,e,ht⟩ := spec_l01Dec_p0_ok n 20 n [] h.1 (by omega) (by omega) h.1 (by simp)
  simp only [hz',Bool.false_eq_true,if_false]
  exact ⟨t,e,by simpa using ht⟩
def pegOk (x : T_Peg.ty) : Bool := isName x.1 && (inR x.2.1 20 200 && (inR x.2.2.1 100 1000 && (inR x.2.2.2.1 10 100)))
def pegsOk (xs : List T_Peg.ty) : Bool := sortedChk pegOk (fun x => x.1) none xs && decide ((xs.length : Int) ≤ 8)
theorem pegsOk_all {xs : List T_Peg.ty} (h : pegsOk xs = true) (x : T_Peg.ty) (hx : x ∈ xs) : pegOk x = true := by
 simp only [pegsOk,Bool.and_eq_true] at h
 exact sortedChk_all h.1 x hx
theorem impl_Peg_valid_ok (x : T_Peg.ty) (h0 : x.1.length < 4611686018427387904) : impl_Peg_valid x = some (pegOk x) := by
 rw [impl_Peg_valid_eq,pegOk]
 simp only [impl_IsName_ok x.1 h0,impl_isHole_eq,impl_within_ok,Option.bind_some]
 cases isName x.1 <;> cases inR x.2.1 20 200 <;> cases inR x.2.2.1 100 1000 <;> simp
theorem impl_ValidPegs_ok (xs : List T_Peg.ty) (hs : xs.length ≤ 1048576) (hx : ∀ x,x ∈ xs → x.1.length ≤ 1048576) : impl_ValidPegs xs = some (pegsOk xs) := by
 rw [impl_ValidPegs_eq]
 exact sortedLoopI xs impl_Peg_valid pegOk (fun x => x.1) (fun i => impl_ValidPegs_p0 xs xs xs.length i) _ _ (show ((impl_few (xs.length : Int) 8).bind fun x4 => some x4) = some (decide ((xs.length : Int) ≤ 8)) by rw [impl_few_eq]; rfl) (fun i => impl_ValidPegs_p0_eq xs xs xs.length i) hs (fun x hm => impl_Peg_valid_ok x (Nat.lt_of_le_of_lt (hx x hm) (by decide))) xs.length 0 (by omega)
end Go.Ab.P
