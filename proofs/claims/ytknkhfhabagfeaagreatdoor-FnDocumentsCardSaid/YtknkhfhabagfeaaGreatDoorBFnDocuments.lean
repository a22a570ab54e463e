/- Lemmas on functions of the program. Conditions: told in each. -/
import Derived.Test.YtknkhfhabagfeaaGreatDoorPFnDocuments
import Derived.Sort.Walk0
set_option linter.unusedVariables false
set_option linter.unusedSimpArgs false
set_option maxRecDepth 4000
namespace Go.Ab.P
open Go.Ab
def sortedChk {α : Type} (ok : α → Bool) (id : α → List UInt8) : Option α → List α → Bool
 | _,[] => true
 | p,x :: r => ok x && ((match p with | none => true | some y => Op.bytesLess (id y) (id x)) && sortedChk ok id (some x) r)
theorem sortedLoopI {α : Type} (xs : List α) (one : α → Option Bool) (ok : α → Bool) (id : α → List UInt8) (p0 : Int → Option Bool) (last : Option Bool) (lb : Bool) (hlast : last = some lb)
 (heq : ∀ i : Int,p0 i = if decide (i < (xs.length : Int)) then (if decide (0 ≤ i) then (xs[i.toNat]?).bind fun x1 => (one x1).bind fun x2 => if (!x2) then some false else if decide (i > 0) then (if decide (0 ≤ IntKind.i64.wrap (i - 1)) then (xs[(IntKind.i64.wrap (i - 1)).toNat]?).bind fun x3 => if (!Op.bytesLess (id x3) (id x1)) then some false else p0 (IntKind.i64.wrap (i + 1)) else none) else p0 (IntKind.i64.wrap (i + 1)) else none) else last)
 (hs : xs.length ≤ 1048576) (h1 : ∀ x,x ∈ xs → one x = some (ok x)) :
 ∀ (k i : Nat),i + k = xs.length → p0 i = some (sortedChk ok id (if i = 0 then none else xs[i - 1]?) (xs.drop i) && lb)
 | 0,i,hk => by
   rw [heq,List.drop_eq_nil_of_le (by omega)]
   have : ¬ (i : Int) < (xs.length : Int) := by omega
   simp only [this,decide_false,Bool.false_eq_true,if_false,hlast,sortedChk,Bool.true_and]
 | k + 1,i,hk => by
   have hi : i < xs.length := by omega
   have hlt : (i : Int) < (xs.length : Int) := by omega
   have hw : IntKind.i64.wrap ((i : Int) + 1) = ((i + 1 : Nat) : Int) := by rw [w64 (by omega) (by omega)]; omega
   have ih := sortedLoopI xs one ok id p0 last lb hlast heq hs h1 k (i + 1) (by omega)
   rw [if_neg (by omega),Nat.add_sub_cancel,List.getElem?_eq_getElem hi] at ih
   rw [heq,List.drop_eq_getElem_cons hi]
   simp only [hlt,decide_true,if_true,Int.natCast_nonneg,Int.toNat_natCast,List.getElem?_eq_getElem hi,Option.bind_some,h1 xs[i] (List.getElem_mem hi),hw,ih,sortedChk]
   cases hok : ok xs[i]
   ·simp
   ·by_cases h0 : i = 0
    ·subst h0; simp
    ·have hp : (i : Int) > 0 := by omega
     have hw2 : IntKind.i64.wrap ((i : Int) - 1) = ((i - 1 : Nat) : Int) := by rw [w64 (by omega) (by omega)]; omega
     simp only [hp,decide_true,if_true,hw2,Int.natCast_nonneg,Int.toNat_natCast,List.getElem?_eq_getElem (show i - 1 < xs.length by omega),Option.bind_some,h0,if_false,Bool.not_true,Bool.false_eq_true]
     cases Op.bytesLess (id xs[i - 1]) (id xs[i]) <;> simp
theorem sortedLoopS {α : Type} (xs : List α) (one : α → Option Bool) (ok : α → Bool) (id : α → List UInt8) (p0 : Int → Option Bool) (last : Option Bool) (lb : Bool) (hlast : last = some lb)
 (heq : ∀ i : Int,p0 i = if decide (i < (xs.length : Int)) then (if decide (0 ≤ i) then (xs[i.toNat]?).bind fun x1 => (one x1).bind fun x2 => if (!x2) then some false else if decide (i > 0) then (if decide (0 ≤ IntKind.i64.wrap (i - 1)) then (xs[(IntKind.i64.wrap (i - 1)).toNat]?).bind fun x3 => if decide (0 ≤ i) then (xs[i.toNat]?).bind fun x4 => if (!Op.bytesLess (id x3) (id x4)) then some false else p0 (IntKind.i64.wrap (i + 1)) else none else none) else p0 (IntKind.i64.wrap (i + 1)) else none) else last)
 (hs : xs.length ≤ 1048576) (h1 : ∀ x,x ∈ xs → one x = some (ok x)) :
 ∀ (k i : Nat),i + k = xs.length → p0 i = some (sortedChk ok id (if i = 0 then none else xs[i - 1]?) (xs.drop i) && lb) := by
 refine sortedLoopI xs one ok id p0 last lb hlast (fun i => ?_) hs h1
 rw [heq]
 by_cases h : i < (xs.length : Int)
 ·by_cases h0 : 0 ≤ i
  ·simp only [h,h0,decide_true,if_true]
   cases xs[i.toNat]? <;> rfl
  ·simp only [h,h0,decide_true,decide_false,Bool.false_eq_true,if_true,if_false]
 ·simp only [h,decide_false,Bool.false_eq_true,if_false]
theorem wsucc {i : Nat} (h : i < 4611686018427387904) : IntKind.i64.wrap ((i : Int) + 1) = ((i + 1 : Nat) : Int) := by
 rw [w64 (by omega) (by omega)]; omega
theorem getElem?_lt {α : Type} {l : List α} {i : Nat} (h : i < l.length) : l[i]? = some l[i] := List.getElem?_eq_getElem h
theorem drop_cons {α : Type} {l : List α} {i : Nat} (h : i < l.length) : l.drop i = l[i] :: l.drop (i + 1) := List.drop_eq_getElem_cons h
theorem tmod_nonneg_eq {a b : Int} (ha : 0 ≤ a) : a.tmod b = a % b := Int.tmod_eq_emod_of_nonneg ha
def small (c : UInt8) : Bool := decide (97 ≤ (c.toNat : Int)) && decide ((c.toNat : Int) ≤ 122)
def digit (c : UInt8) : Bool := decide (48 ≤ (c.toNat : Int)) && decide ((c.toNat : Int) ≤ 57)
def isName (s : List UInt8) : Bool := match s with | [] => false | c :: r => small c && r.all (fun c => small c || digit c) && decide (s.length ≤ 10)
def inR (n lo hi : Int) : Bool := decide (lo ≤ n) && decide (n ≤ hi)
theorem inR_iff' {n lo hi : Int} : inR n lo hi = true ↔ lo ≤ n ∧ n ≤ hi := by simp [inR]
theorem impl_within_ok (n lo hi : Int) : impl_within n lo hi = some (inR n lo hi) := by
 rw [impl_within_eq,inR]; by_cases h : lo ≤ n <;> simp [h]
theorem spec_l00In_ok (n lo hi : Int) : spec_l00In n lo hi = some (inR n lo hi) := by
 rw [spec_l00In_eq,inR]; by_cases h : lo ≤ n <;> simp [h]
theorem spec_l01Small_ok (c : UInt8) : spec_l01Small (c.toNat : Int) = some (small c) := by
 rw [spec_l01Small_eq,small]; by_cases h : 97 ≤ (c.toNat : Int) <;> simp [h]
theorem spec_l01Digit_ok (c : UInt8) : spec_l01Digit (c.toNat : Int) = some (digit c) := by
 rw [spec_l01Digit_eq,digit]; by_cases h : 48 ≤ (c.toNat : Int) <;> simp [h]
theorem impl_isDigit_ok (c : UInt8) : impl_isDigit (c.toNat : Int) = some (digit c) := by
 rw [impl_isDigit_eq,digit]; by_cases h : 48 ≤ (c.toNat : Int) <;> simp [h]
theorem spec_l01Name_p1_ok (s : List UInt8) (hs : s.length < 4611686018427387904) : ∀ (k i : Nat),i + k = s.length → spec_l01Name_p1 s i = some ((s.drop i).all fun c => small c || digit c)
 | 0,i,h => by
   rw [spec_l01Name_p1_eq,List.drop_eq_nil_of_le (by omega)]
   simp; omega
 | k + 1,i,h => by
   have hi : i < s.length := by omega
   rw [spec_l01Name_p1_eq,drop_cons hi]
   have h1 : (i : Int) < (s.length : Int) := by omega
   simp only [h1,decide_true,if_true,Int.natCast_nonneg,Int.toNat_natCast,getElem?_lt hi,Option.bind_some,spec_l01Small_ok,spec_l01Digit_ok,wsucc (show i < 4611686018427387904 by omega),spec_l01Name_p1_ok s hs k (i + 1) (by omega),List.all_cons]
   cases small s[i] <;> cases digit s[i] <;> simp
theorem spec_l01Name_ok (s : List UInt8) (hs : s.length < 4611686018427387904) : spec_l01Name s = some (isName s) := by
 rw [spec_l01Name_eq]
 cases s with
 | nil => rfl
 | cons c r =>
   have := spec_l01Name_p1_ok (c :: r) hs (r.length + 1) 0 (by simp)
   simp only [spec_l01Name_p0_eq,List.getElem?_cons_zero,Option.bind_some,spec_l01Small_ok]
   rw [show ((0 : Nat) : Int) = 0 from rfl] at this
   rw [this,isName]
   have e0 : ((c :: r) == ([] : List UInt8)) = false := by simp
   by_cases hl : ((c :: r).length : Int) > 10
   ·have : ¬ (c :: r).length ≤ 10 := by omega
    simp only [e0,hl,this,decide_true,decide_false,if_true,Bool.false_eq_true,if_false,Bool.and_false]
   ·have : (c :: r).length ≤ 10 := by omega
    simp only [e0,hl,this,decide_true,decide_false,if_true,Bool.false_eq_true,if_false,Bool.and_true]
    cases hc : small c <;> simp [hc]
def okFrom : Nat → List UInt8 → Bool
 | _,[] => true
 | i,c :: r => (small c || (i != 0 && digit c)) && okFrom (i + 1) r
theorem okFrom_all (r : List UInt8) : ∀ i,okFrom (i + 1) r = r.all fun c => small c || digit c := by
 induction r with
 | nil => intro i; rfl
 | cons c r ih => intro i; simp [okFrom,ih]
theorem impl_IsName_p0_ok (s : List UInt8) (hs : s.length < 4611686018427387904) : ∀ (k i : Nat),i + k = s.length → impl_IsName_p0 s i = some (okFrom i (s.drop i) && (!(s == []) && decide (s.length ≤ 10)))
 | 0,i,h => by
   rw [impl_IsName_p0_eq,List.drop_eq_nil_of_le (by omega),impl_few_eq]
   have h1 : ¬ (i : Int) < (s.length : Int) := by omega
   simp only [h1,decide_false,Bool.false_eq_true,if_false,okFrom,Option.bind_some,Bool.true_and]
   cases s with
   | nil => rfl
   | cons c r =>
     have : ((c :: r == []) = false) := by simp
     simp only [this,Bool.not_false,if_true,Bool.true_and]
     congr 1
     simp only [decide_eq_decide]; omega
 | k + 1,i,h => by
   have hi : i < s.length := by omega
   have h1 : (i : Int) < (s.length : Int) := by omega
   have ih := impl_IsName_p0_ok s hs k (i + 1) (by omega)
   have e1 : ∀ b : Bool,impl_IsName_p1 s i b = some (((b || (i != 0 && digit s[i])) && okFrom (i + 1) (s.drop (i + 1))) && (!(s == []) && decide (s.length ≤ 10))) := by
    intro b
    rw [impl_IsName_p1_eq]
    simp only [Int.natCast_nonneg,decide_true,if_true,Int.toNat_natCast,getElem?_lt hi,Option.bind_some,impl_isDigit_ok,wsucc (show i < 4611686018427387904 by omega),ih]
    cases b
    ·by_cases h0 : i = 0
     ·subst h0; simp
     ·have : ((i : Int) == 0) = false := by simp [h0]
      have : (i != 0) = true := by simp [h0]
      simp only [*]
      cases digit s[i] <;> simp
    ·simp
   rw [impl_IsName_p0_eq,drop_cons hi,okFrom]
   simp only [h1,decide_true,if_true,Int.natCast_nonneg,Int.toNat_natCast,getElem?_lt hi,Option.bind_some,e1,small]
   by_cases h97 : (s[i].toNat : Int) ≥ 97 <;> simp [h97]
theorem impl_IsName_ok (s : List UInt8) (hs : s.length < 4611686018427387904) : impl_IsName s = some (isName s) := by
 rw [impl_IsName_eq]
 have := impl_IsName_p0_ok s hs s.length 0 (by simp)
 rw [show ((0 : Nat) : Int) = 0 from rfl] at this
 rw [this]
 cases s with
 | nil => rfl
 | cons c r => simp [okFrom,okFrom_all,isName]
theorem index1_none {c : UInt8} : ∀ {a : List UInt8},c ∉ a → Lib.index a [c] = -1
 | [],_ => rfl
 | b :: l,h => by
   have h1 : (c == b) = false := by simp at h; simpa using h.1
   have h2 := index1_none (a := l) (fun e => h (List.mem_cons_of_mem _ e))
   unfold Lib.index
   simp [List.isPrefixOf,h1,h2]
theorem index1_at {c : UInt8} : ∀ {a : List UInt8} (r : List UInt8),c ∉ a → Lib.index (a ++ c :: r) [c] = a.length
 | [],r,_ => by simp [Lib.index,List.isPrefixOf]
 | b :: l,r,h => by
   have h1 : (c == b) = false := by simp at h; simpa using h.1
   have h2 := index1_at (a := l) r (fun e => h (List.mem_cons_of_mem _ e))
   rw [List.cons_append]
   unfold Lib.index
   have h3 : ((l.length : Int) == -1) = false := by rw [beq_eq_false_iff_ne]; omega
   simp [List.isPrefixOf,h1,h2,h3]
theorem split1_last {c : UInt8} {a : List UInt8} (h : c ∉ a) : Lib.splitK [c] 0 (Lib.count a [c]) a = [a] := by
 rw [Lib.count_miss (index1_none h)]; rfl
theorem split1_cons {c : UInt8} {a : List UInt8} (r : List UInt8) (h : c ∉ a) : Lib.splitK [c] 0 (Lib.count (a ++ c :: r) [c]) (a ++ c :: r) = a :: Lib.splitK [c] 0 (Lib.count r [c]) r := by
 have hi := index1_at r h
 have hm : ¬ ((a.length : Int) == -1) = true := by rw [beq_iff_eq]; omega
 have hd : (a ++ c :: r).drop (a.length + [c].length) = r := by simp [List.drop_append]
 rw [Lib.count_hit (by simp) hi,hd,Nat.add_comm 1,Lib.splitK,hi,if_neg hm,Int.toNat_natCast,hd]
 simp
theorem impl_Decimal_ok (n : Int) (h : -9223372036854775808 ≤ n ∧ n ≤ 9223372036854775807) : impl_Decimal n = some (Lib.itoa n) := by
 rw [impl_Decimal_eq,strconv_FormatInt_eq]
 simp [h.1,h.2]
theorem wu64 {n : Int} (h1 : 0 ≤ n) (h2 : n < 18446744073709551616) : IntKind.u64.wrap n = n := by
 have e : IntKind.u64.wrap n = if decide false = true then n % 18446744073709551616 - 18446744073709551616 else n % 18446744073709551616 := by
  simp [IntKind.wrap,IntKind.signed,IntKind.bits]
 rw [e]
 simp; omega
theorem and255 (x : Int) : ((BitVec.ofInt IntKind.u64.bits x &&& BitVec.ofInt IntKind.u64.bits 255).toNat : Int) ≤ 255 := by
 have : (BitVec.ofInt IntKind.u64.bits x &&& BitVec.ofInt IntKind.u64.bits 255).toNat ≤ 255 := by
  rw [BitVec.toNat_and]
  refine Nat.le_trans Nat.and_le_right ?_
  decide
 omega
def SrcOk (s : T_l00Src.ty) (c : Int) : Prop := (∀ x : Int,x ∈ s.1 → 0 ≤ x ∧ x ≤ 255) ∧ s.1.length ≤ 1048576 ∧ (0 : Int) ≤ s.2.1 ∧ (s.2.1 : Int) ≤ c
theorem src_eta (s : T_l00Src.ty) : (s.1,s.2.1,s.2.2.1,()) = s := rfl
theorem SrcOk.up {s : T_l00Src.ty} {c d : Int} (h : SrcOk s c) (hd : c ≤ d) : SrcOk s d := ⟨h.1,h.2.1,h.2.2.1,Int.le_trans h.2.2.2 hd⟩
theorem next_p0_ok (v : Int) (l : List Int) (a h : Int) (c : Int) (hs : SrcOk (l,a,h,()) c) (hc : c ≤ 1152921504606846976) (hv : 0 ≤ v ∧ v ≤ 255) :
 ∃ (u : Int) (s' : T_l00Src.ty),spec_l00Src_next_p0 v l a h = some (u,s') ∧ SrcOk s' (c + 1) ∧ 0 ≤ u ∧ u ≤ 255 := by
 obtain ⟨h1,h2,h3,h4⟩ := hs
 have h3 : 0 ≤ a := h3
 have h4 : a ≤ c := h4
 rw [spec_l00Src_next_p0_eq,w64 (n := a + 1) (by omega) (by omega)]
 split
 ·exact ⟨_,_,rfl,⟨h1,h2,by show (0 : Int) ≤ a + 1; omega,by show (a + 1 : Int) ≤ c + 1; omega⟩,hv⟩
 ·refine ⟨_,_,rfl,⟨h1,h2,by show (0 : Int) ≤ a + 1; omega,by show (a + 1 : Int) ≤ c + 1; omega⟩,?_⟩
  generalize hx : ((BitVec.ofInt IntKind.u64.bits _ &&& BitVec.ofInt IntKind.u64.bits 255).toNat : Int) = x
  have := and255 (Int.fdiv (IntKind.u64.wrap ((IntKind.u64.wrap ((IntKind.u64.wrap (h * 6364136223846793005)) + (IntKind.u64.wrap v))) + 1442695040888963407)) (2 ^ (min (40 : Int).toNat IntKind.u64.bits)))
  rw [hx] at this
  have h0 : 0 ≤ x := by rw [← hx]; exact Int.natCast_nonneg _
  rw [wu64 h0 (by omega),w64 (by omega) (by omega)]
  exact ⟨h0,this⟩
theorem next_core (l : List Int) (a h c : Int) (hs : SrcOk (l,a,h,()) c) (hc : c ≤ 1152921504606846976) : ∃ (u : Int) (s' : T_l00Src.ty),spec_l00Src_next (l,a,h,()) = some (u,s') ∧ SrcOk s' (c + 1) ∧ 0 ≤ u ∧ u ≤ 255 := by
 have h3 : (0 : Int) ≤ a := hs.2.2.1
 rw [spec_l00Src_next_eq]
 dsimp only
 split
 ·rename_i hlt
  simp only [decide_eq_true_eq] at hlt
  have hlt' : a < (List.length (α := Int) l : Int) := hlt
  have hi : a.toNat < l.length := by omega
  obtain ⟨x,hx⟩ : ∃ x,l[a.toNat]? = some x := ⟨_,List.getElem?_eq_getElem hi⟩
  have hm : 0 ≤ x ∧ x ≤ 255 := hs.1 x (List.mem_of_getElem? hx)
  rw [if_pos (by simpa using h3),hx,Option.bind_some,w64 (n := x) (by omega) (by omega)]
  exact next_p0_ok x l a h c hs hc hm
 ·exact next_p0_ok 0 l a h c hs hc ⟨by omega,by omega⟩
theorem next_ok {s : T_l00Src.ty} {c : Int} (hs : SrcOk s c) (hc : c ≤ 1152921504606846976) : ∃ (u : Int) (s' : T_l00Src.ty),spec_l00Src_next s = some (u,s') ∧ SrcOk s' (c + 1) ∧ 0 ≤ u ∧ u ≤ 255 :=
 next_core s.1 s.2.1 s.2.2.1 c hs hc
theorem pick_ok {s : T_l00Src.ty} {c : Int} (hs : SrcOk s c) (hc : c ≤ 1000000000000000000) (n : Int) (hn : n ≤ 65536) :
 ∃ (u : Int) (s' : T_l00Src.ty),spec_l00Src_pick s n = some (u,s') ∧ SrcOk s' (c + 2) ∧ 0 ≤ u ∧ (u = 0 ∨ u < n) := by
 rw [spec_l00Src_pick_eq]
 by_cases h1 : n ≤ 1
 ·simp only [h1,decide_true,if_true]
  exact ⟨0,s,rfl,hs.up (by omega),by omega,.inl rfl⟩
 ·obtain ⟨u,s1,e1,k1,b1,b2⟩ := next_ok hs (by omega)
  have hn0 : ¬ n = 0 := by omega
  simp only [h1,decide_false,Bool.false_eq_true,if_false,e1,Option.bind_some,src_eta,hn0]
  by_cases h2 : n > 200
  ·obtain ⟨v,s2,e2,k2,b3,b4⟩ := next_ok k1 (by omega)
   simp only [h2,decide_true,if_true,e2,Option.bind_some,src_eta]
   rw [w64 (n := u * 256) (by omega) (by omega),w64 (n := u * 256 + v) (by omega) (by omega),tmod_nonneg_eq (by omega)]
   exact ⟨_,s2,rfl,k2.up (by omega),Int.emod_nonneg _ hn0,.inr (Int.emod_lt_of_pos _ (by omega))⟩
  ·simp only [h2,decide_false,Bool.false_eq_true,if_false]
   rw [tmod_nonneg_eq b1]
   exact ⟨_,s1,rfl,k1.up (by omega),Int.emod_nonneg _ hn0,.inr (Int.emod_lt_of_pos _ (by omega))⟩
theorem one_ok {s : T_l00Src.ty} {c : Int} (hs : SrcOk s c) (hc : c ≤ 1000000000000000000) (n : Int) (hn : n ≤ 65536) :
 ∃ (u : Bool) (s' : T_l00Src.ty),spec_l00Src_one s n = some (u,s') ∧ SrcOk s' (c + 2) := by
 obtain ⟨u,s1,e1,k1,_⟩ := pick_ok hs hc n hn
 rw [spec_l00Src_one_eq]
 simp only [e1,Option.bind_some,src_eta]
 exact ⟨_,s1,rfl,k1⟩
theorem among_ok {s : T_l00Src.ty} {c : Int} (hs : SrcOk s c) (hc : c ≤ 1000000000000000000) (l : List Int) (h0 : 0 < l.length) (hn : l.length ≤ 65536) :
 ∃ (u : Int) (s' : T_l00Src.ty),spec_l00Src_among s l = some (u,s') ∧ SrcOk s' (c + 2) ∧ u ∈ l := by
 obtain ⟨u,s1,e1,k1,b1,b2⟩ := pick_ok hs hc (l.length : Int) (by omega)
 have hi : u.toNat < l.length := by omega
 rw [spec_l00Src_among_eq]
 simp only [e1,Option.bind_some,src_eta,b1,decide_true,if_true,List.getElem?_eq_getElem hi]
 exact ⟨_,s1,rfl,k1,List.getElem_mem hi⟩
theorem from_ok (code : List Int) (h1 : ∀ x,x ∈ code → 0 ≤ x ∧ x ≤ 255) (h2 : code.length ≤ 1048576) : ∃ s,spec_l00From code = some s ∧ SrcOk s 0 := by
 rw [spec_l00From_eq]
 exact ⟨_,rfl,h1,h2,Int.le_refl _,Int.le_refl _⟩
theorem bytes_ok {l : List Int} (h : CT.wf (.sl (.one (.int .u8))) l) : ∀ x,x ∈ l → 0 ≤ x ∧ x ≤ 255 := fun x hx => by
 have : (Lit.int .u8 x).wf = true := h.2 x hx
 simp [Lit.wf,IntKind.min,IntKind.max,IntKind.signed,IntKind.bits] at this
 omega
theorem dig_toNat {d : Nat} (h : d < 10) : (UInt8.ofNat (48 + d)).toNat = 48 + d := by
 rw [UInt8.toNat_ofNat']; omega
theorem decDigits_dig (u : Nat) : ∀ c,c ∈ Lib.decDigits u → 48 ≤ c.toNat ∧ c.toNat ≤ 57 := by
 induction u using Nat.strongRecOn with
 | _ u ih =>
   intro c hc
   rw [Lib.decDigits] at hc
   split at hc
   ·rename_i h
    simp only [List.mem_singleton] at hc
    rw [hc,dig_toNat h]; omega
   ·rename_i h
    rcases List.mem_append.1 hc with h1 | h1
    ·exact ih (u / 10) (by omega) c h1
    ·simp only [List.mem_singleton] at h1
     rw [h1,dig_toNat (by omega)]; omega
theorem decDigits_len : ∀ (k u : Nat),u < 10 ^ (k + 1) → (Lib.decDigits u).length ≤ k + 1 ∧ 1 ≤ (Lib.decDigits u).length
 | 0,u,h => by
   rw [Lib.decDigits,dif_pos (by simpa using h)]; simp
 | k + 1,u,h => by
   rw [Lib.decDigits]
   split
   ·simp
   ·have hq : u / 10 < 10 ^ (k + 1) := by
     have : 10 ^ (k + 1 + 1) = 10 ^ (k + 1) * 10 := Nat.pow_succ ..
     omega
    have := decDigits_len k (u / 10) hq
    simp only [List.length_append,List.length_singleton]
    omega
theorem itoa_pos (u : Nat) : Lib.itoa (u : Int) = Lib.decDigits u := by unfold Lib.itoa; rw [if_neg (by omega)]; simp
theorem up_app : ∀ (a b : List UInt8) (n m : Nat),Lib.parseUint10 n a = .ok m → Lib.parseUint10 n (a ++ b) = Lib.parseUint10 m b
 | [],b,n,m,h => by
   simp only [Lib.parseUint10,Lib.NumEnd.ok.injEq] at h
   rw [h]; rfl
 | c :: r,b,n,m,h => by
   simp only [Lib.parseUint10] at h
   rw [List.cons_append,Lib.parseUint10]
   split at h
   ·rename_i h1
    split at h
    ·cases h
    ·rename_i h2
     split at h
     ·cases h
     ·rename_i h3
      rw [if_pos h1,if_neg h2,if_neg h3]
      exact up_app r b _ m h
   ·cases h
theorem up_dec (u : Nat) (hu : u < 10 ^ 18) : Lib.parseUint10 0 (Lib.decDigits u) = .ok u := by
 have e18 : (10 : Nat) ^ 18 = 1000000000000000000 := by decide
 induction u using Nat.strongRecOn with
 | _ u ih =>
   rw [Lib.decDigits]
   split
   ·rename_i h
    simp only [Lib.parseUint10]
    rw [dig_toNat h,if_pos (by omega),if_neg (by omega),if_neg (by omega)]
    congr 1; omega
   ·rename_i h
    rw [up_app _ _ 0 (u / 10) (ih (u / 10) (by omega) (by omega))]
    simp only [Lib.parseUint10]
    rw [dig_toNat (by omega),if_pos (by omega),if_neg (by omega),if_neg (by omega)]
    congr 1; omega
theorem dec_ne (u : Nat) : Lib.decDigits u ≠ [] := by
 rw [Lib.decDigits]; split <;> simp
theorem itoa_neg (u : Nat) (h : 0 < u) : Lib.itoa (-(u : Int)) = 45 :: Lib.decDigits u := by
 unfold Lib.itoa; rw [if_pos (by omega)]; simp
theorem readDecP_itoa (n : Int) (h : -1000000000000 ≤ n ∧ n ≤ 1000000000000) : readDecP (Lib.itoa n) = (n,true) := by
 have e18 : (10 : Nat) ^ 18 = 1000000000000000000 := by decide
 have e13 : (10 : Nat) ^ (13 + 1) = 100000000000000 := by decide
 by_cases hn : n < 0
 ·obtain ⟨u,rfl,hu0,hu⟩ : ∃ u : Nat,n = -(u : Int) ∧ 0 < u ∧ u ≤ 1000000000000 := ⟨n.natAbs,by omega,by omega,by omega⟩
  have hl := decDigits_len 13 u (by omega)
  unfold readDecP
  rw [itoa_neg u hu0]
  have ht : Lib.trimPrefix (45 :: Lib.decDigits u) [45] = Lib.decDigits u := by simp [Lib.trimPrefix,Lib.hasPrefix,List.isPrefixOf]
  have hp : Lib.parseIntB 64 (45 :: Lib.decDigits u) = .ok (-(u : Int)) := by
   have hm : Lib.parseMag (Lib.decDigits u) = .ok u := by rw [Lib.parseMag,if_neg (dec_ne u),up_dec u (by omega)]
   rw [Lib.parseIntB_64,Lib.atoiAll]
   simp only [show (45 : UInt8).toNat = 45 from rfl,or_true,if_true,hm]
   rw [if_neg (by simp),if_neg (by simp; omega)]
  rw [ht,if_neg (by omega),hp]
  simp only [itoa_neg u hu0,if_true]
 ·obtain ⟨u,rfl,hu⟩ : ∃ u : Nat,n = (u : Int) ∧ u ≤ 1000000000000 := ⟨n.toNat,by omega,by omega⟩
  have hl := decDigits_len 13 u (by omega)
  unfold readDecP
  rw [itoa_pos u]
  cases hd : Lib.decDigits u with
  | nil => exact absurd hd (dec_ne u)
  | cons c r =>
    have hc := decDigits_dig u c (by rw [hd]; simp)
    have h45 : c ≠ 45 := fun e => by subst e; simp at hc
    have ht : Lib.trimPrefix (c :: r) [45] = c :: r := by simp [Lib.trimPrefix,Lib.hasPrefix,List.isPrefixOf,Ne.symm h45]
    have hp : Lib.parseIntB 64 (c :: r) = .ok (u : Int) := by
     have hm : Lib.parseMag (c :: r) = .ok u := by rw [← hd,Lib.parseMag,if_neg (dec_ne u),up_dec u (by omega)]
     rw [Lib.parseIntB_64,Lib.atoiAll]
     have h1 : ¬ c.toNat = 43 := by omega
     have h2 : ¬ c.toNat = 45 := by omega
     simp only [h1,h2,or_self,if_false,hm,not_false_eq_true,true_and,false_and]
     rw [if_neg (by omega)]
    rw [ht,← hd,if_neg (by omega),hd,hp]
    simp only [itoa_pos u,hd,if_true]
theorem itoa_len (n : Int) (h : -1000000000000 ≤ n ∧ n ≤ 1000000000000) : 1 ≤ (Lib.itoa n).length ∧ (Lib.itoa n).length ≤ 15 := by
 have e13 : (10 : Nat) ^ (13 + 1) = 100000000000000 := by decide
 unfold Lib.itoa
 split
 ·have := decDigits_len 13 n.natAbs (by omega)
  simp; omega
 ·have := decDigits_len 13 n.toNat (by omega)
  omega
theorem itoa_ne (n : Int) : Lib.itoa n ≠ [45] := by
 unfold Lib.itoa
 split
 ·have := dec_ne n.natAbs
  intro e; simp at e; exact this e
 ·intro e
  have := decDigits_dig n.toNat 45 (by rw [e]; simp)
  simp at this
theorem itoa_mem (n : Int) (c : UInt8) (hc : c ∈ Lib.itoa n) : c = 45 ∨ 48 ≤ c.toNat ∧ c.toNat ≤ 57 := by
 unfold Lib.itoa at hc
 split at hc
 ·rcases List.mem_cons.1 hc with h | h
  ·exact .inl h
  ·exact .inr (decDigits_dig _ c h)
 ·exact .inr (decDigits_dig _ c hc)
theorem itoa_no (n : Int) {c : UInt8} (h : c ≠ 45) (h' : c.toNat < 48 ∨ 57 < c.toNat) : c ∉ Lib.itoa n := fun e => by
 rcases itoa_mem n c e with h1 | h1
 ·exact h h1
 ·omega
theorem join_cons2 (x y : List UInt8) (r : List (List UInt8)) (c : UInt8) : Lib.join (x :: y :: r) [c] = x ++ c :: Lib.join (y :: r) [c] := by
 rw [Lib.join_cons,Lib.join_cons]
 simp [Lib.joinTail]
theorem split_join {c : UInt8} : ∀ (x : List UInt8) (r : List (List UInt8)),(∀ y,y ∈ x :: r → c ∉ y) →
 Lib.splitK [c] 0 (Lib.count (Lib.join (x :: r) [c]) [c]) (Lib.join (x :: r) [c]) = x :: r
 | x,[],h => by rw [Lib.join_one]; exact split1_last (h x (by simp))
 | x,y :: r,h => by
   rw [join_cons2,split1_cons _ (h x (by simp)),split_join y r fun z hz => h z (List.mem_cons_of_mem _ hz)]
theorem lens_bd {m : Nat} : ∀ (l : List (List UInt8)),(∀ x,x ∈ l → x.length ≤ m) → Lib.lens l ≤ m * l.length
 | [],_ => by simp [Lib.lens]
 | x :: r,h => by
   have h1 := lens_bd r fun y hy => h y (List.mem_cons_of_mem _ hy)
   have h2 := h x (by simp)
   have e : Lib.lens (x :: r) = x.length + Lib.lens r := by simp [Lib.lens]
   rw [e,List.length_cons,Nat.mul_succ]; omega
theorem join_len {m : Nat} {c : UInt8} (l : List (List UInt8)) (h : ∀ x,x ∈ l → x.length ≤ m) : (Lib.join l [c]).length ≤ (m + 1) * l.length := by
 cases l with
 | nil => simp [Lib.join_nil]
 | cons x r =>
   have h1 := lens_bd (x :: r) h
   rw [Lib.join_length,Nat.add_mul,List.length_singleton,List.length_cons] at *
   omega
def listP (l : List Int) : List UInt8 := Lib.join (l.map Lib.itoa) [44]
theorem listP_len (l : List Int) (hl : l.length ≤ 64) (hx : ∀ x,x ∈ l → -1000000000000 ≤ x ∧ x ≤ 1000000000000) : (listP l).length ≤ 1024 := by
 have h := join_len (m := 15) (c := 44) (l.map Lib.itoa) fun x hx' => by
  obtain ⟨n,hn,rfl⟩ := List.mem_map.1 hx'
  exact (itoa_len n (hx n hn)).2
 rw [List.length_map] at h
 have : (listP l).length ≤ 16 * l.length := h
 omega
theorem impl_ReadDecimal_ok (n : Int) (h : -1000000000000 ≤ n ∧ n ≤ 1000000000000) : impl_ReadDecimal (Lib.itoa n) = some (n,true) := by
 rw [impl_ReadDecimal_eq,readDecP_itoa n h]
theorem impl_ListText_p0_ok (l : List Int) (hl : l.length ≤ 64) (hx : ∀ x,x ∈ l → -1000000000000 ≤ x ∧ x ≤ 1000000000000) : ∀ (k i : Nat),i + k = l.length → impl_ListText_p0 l l.length i ((l.take i).map Lib.itoa) = some (listP l)
 | 0,i,hk => by
   rw [impl_ListText_p0_eq]
   have : ¬ (i : Int) < (l.length : Int) := by omega
   have hb := listP_len l hl hx
   have e : (Lib.join (l.map Lib.itoa) [44]).length ≤ 140737488355328 := by
    have : (Lib.join (l.map Lib.itoa) [44]).length ≤ 1024 := hb
    omega
   rw [List.take_length,List.take_of_length_le (by omega : l.length ≤ i)]
   simp only [this,decide_false,Bool.false_eq_true,if_false,strings_Join_eq]
   have e2 : (l.map Lib.itoa).length ≤ 140737488355328 := by rw [List.length_map]; omega
   simp only [e2,e,decide_true,Bool.and_self,if_true,Option.bind_some]
   rfl
 | k + 1,i,hk => by
   have hi : i < l.length := by omega
   have hlt : (i : Int) < (l.length : Int) := by omega
   have hi0 : (0 : Int) ≤ (i : Int) := by omega
   have hb := hx l[i] (List.getElem_mem hi)
   have hr : inR l[i] (-1000000000000) 1000000000000 = true := inR_iff'.2 hb
   have hlim : ((l.take i).map Lib.itoa).length + 1 < lim := by rw [lim_eq,List.length_map,List.length_take]; omega
   rw [impl_ListText_p0_eq]
   simp only [hlt,decide_true,if_true,hi0,Int.toNat_natCast,getElem?_lt hi,Option.bind_some,impl_within_ok,hr,Bool.not_true,Bool.false_eq_true,if_false,impl_Decimal_ok l[i] (by omega),hlim,wsucc (show i < 4611686018427387904 by omega)]
   have := impl_ListText_p0_ok l hl hx k (i + 1) (by omega)
   rw [List.take_length]
   rw [show (l.take (i + 1)).map Lib.itoa = (l.take i).map Lib.itoa ++ [Lib.itoa l[i]] by rw [List.take_add_one,getElem?_lt hi,List.map_append]; rfl] at this
   exact this
theorem impl_ListText_ok (l : List Int) (h0 : l ≠ []) (hl : l.length ≤ 64) (hx : ∀ x,x ∈ l → -1000000000000 ≤ x ∧ x ≤ 1000000000000) : impl_ListText l = some (listP l) := by
 rw [impl_ListText_eq,impl_few_eq]
 have h1 : (l.length : Int) ≤ 64 := by omega
 have h2 : ((l.length : Int) == 0) = false := by
  rw [beq_eq_false_iff_ne]
  intro e
  exact h0 (List.length_eq_zero_iff.1 (by omega))
 simp only [h1,decide_true,Option.bind_some,Bool.not_true,Bool.false_eq_true,if_false,h2]
 exact impl_ListText_p0_ok l hl hx l.length 0 (by omega)
theorem impl_ReadList_p0_ok (l : List Int) (hl : l.length ≤ 64) (hx : ∀ x,x ∈ l → -1000000000000 ≤ x ∧ x ≤ 1000000000000) : ∀ (k i : Nat),i + k = l.length → impl_ReadList_p0 (l.map Lib.itoa) l.length i (l.take i) = some (l,true)
 | 0,i,hk => by
   rw [impl_ReadList_p0_eq]
   have : ¬ (i : Int) < (l.length : Int) := by omega
   simp only [this,decide_false,Bool.false_eq_true,if_false,List.take_length,List.take_of_length_le (by omega : l.length ≤ i)]
 | k + 1,i,hk => by
   have hi : i < l.length := by omega
   have hlt : (i : Int) < (l.length : Int) := by omega
   have hi0 : (0 : Int) ≤ (i : Int) := by omega
   have hb := hx l[i] (List.getElem_mem hi)
   have hr : inR l[i] (-1000000000000) 1000000000000 = true := inR_iff'.2 hb
   have hlim : (l.take i).length + 1 < lim := by rw [lim_eq,List.length_take]; omega
   have hg : (l.map Lib.itoa)[i]? = some (Lib.itoa l[i]) := by rw [List.getElem?_map,getElem?_lt hi]; rfl
   have h64 : (((l.take i).length : Int) == 64) = false := by rw [beq_eq_false_iff_ne,List.length_take]; omega
   rw [impl_ReadList_p0_eq]
   simp only [hlt,decide_true,if_true,hi0,Int.toNat_natCast,hg,Option.bind_some,impl_ReadDecimal_ok l[i] hb,impl_within_ok,hr,Bool.not_true,Bool.false_eq_true,if_false,h64,hlim,wsucc (show i < 4611686018427387904 by omega)]
   have := impl_ReadList_p0_ok l hl hx k (i + 1) (by omega)
   rw [List.take_length]
   rw [List.take_add_one,getElem?_lt hi] at this
   simpa using this
theorem impl_ReadList_ok (l : List Int) (h0 : l ≠ []) (hl : l.length ≤ 64) (hx : ∀ x,x ∈ l → -1000000000000 ≤ x ∧ x ≤ 1000000000000) : impl_ReadList (listP l) = some (l,true) := by
 have hb := listP_len l hl hx
 have hs : Lib.splitK [44] 0 (Lib.count (listP l) [44]) (listP l) = l.map Lib.itoa := by
  cases l with
  | nil => exact absurd rfl h0
  | cons a r =>
    unfold listP
    rw [List.map_cons]
    exact split_join _ _ fun y hy => by
     have hy' : y ∈ (a :: r).map Lib.itoa := hy
     obtain ⟨n,hn,rfl⟩ := List.mem_map.1 hy'
     exact itoa_no n (by decide) (by decide)
 have hne : (listP l == [45]) = false := by
  rw [beq_eq_false_iff_ne]
  intro e
  cases l with
  | nil => exact absurd rfl h0
  | cons a r =>
    unfold listP at e
    rw [List.map_cons,Lib.join_cons] at e
    have h1 := (itoa_len a (hx a (by simp))).1
    cases hi : Lib.itoa a with
    | nil => rw [hi] at h1; simp at h1
    | cons c t =>
      rw [hi,List.cons_append] at e
      injection e with e1 e2
      have e3 := (List.append_eq_nil_iff.1 e2).1
      exact itoa_ne a (by rw [hi,e1,e3])
 rw [impl_ReadList_eq]
 simp only [hne,Bool.false_eq_true,if_false,strings_Split_eq]
 have h1 : (listP l).length < 4294967281 := by omega
 simp only [h1,List.length_singleton,Nat.le_refl,decide_true,Bool.and_self,if_true,Option.bind_some,hs,List.length_map]
 exact impl_ReadList_p0_ok l hl hx l.length 0 (by omega)
theorem join_no {c d : UInt8} (hcd : c ≠ d) : ∀ (x : List UInt8) (r : List (List UInt8)),(∀ y,y ∈ x :: r → c ∉ y) → c ∉ Lib.join (x :: r) [d]
 | x,[],h => by rw [Lib.join_one]; exact h x (by simp)
 | x,y :: r,h => by
   rw [join_cons2]
   intro e
   rcases List.mem_append.1 e with e | e
   ·exact h x (by simp) e
   ·rcases List.mem_cons.1 e with e | e
    ·exact hcd e
    ·exact join_no hcd y r (fun z hz => h z (List.mem_cons_of_mem _ hz)) e
theorem listP_no {l : List Int} {c : UInt8} (h0 : l ≠ []) (h1 : c ≠ 44) (h2 : c ≠ 45) (h3 : c.toNat < 48 ∨ 57 < c.toNat) : c ∉ listP l := by
 cases l with
 | nil => exact absurd rfl h0
 | cons a r =>
   unfold listP
   rw [List.map_cons]
   exact join_no h1 _ _ fun y hy => by
    have hy' : y ∈ (a :: r).map Lib.itoa := hy
    obtain ⟨n,hn,rfl⟩ := List.mem_map.1 hy'
    exact itoa_no n h2 h3
theorem listP_ne {l : List Int} (h0 : l ≠ []) : listP l ≠ [] := by
 cases l with
 | nil => exact absurd rfl h0
 | cons a r =>
   unfold listP
   rw [List.map_cons,Lib.join_cons]
   intro e
   have := (List.append_eq_nil_iff.1 e).1
   unfold Lib.itoa at this
   split at this
   ·cases this
   ·exact dec_ne _ this
theorem impl_SplitWords_3 (a b c : List UInt8) (ha : a ≠ []) (hb : b ≠ []) (hc : c ≠ []) (ha' : (32 : UInt8) ∉ a) (hb' : (32 : UInt8) ∉ b) (hc' : (32 : UInt8) ∉ c) (hl : a.length + b.length + c.length < 1000000) :
 impl_SplitWords (a ++ 32 :: (b ++ 32 :: c)) = some [a,b,c] := by
 have hs : Lib.splitK [32] 0 (Lib.count (a ++ 32 :: (b ++ 32 :: c)) [32]) (a ++ 32 :: (b ++ 32 :: c)) = [a,b,c] := by
  rw [split1_cons _ ha',split1_cons _ hb',split1_last hc']
 have hlen : (a ++ 32 :: (b ++ 32 :: c)).length < 4294967281 := by
  simp only [List.length_append,List.length_cons]; omega
 have h1 : (1 : Nat) ≤ ([32] : List UInt8).length := by decide
 have w1 : IntKind.i64.wrap (0 + 1) = 1 := by decide
 have w2 : IntKind.i64.wrap (1 + 1) = 2 := by decide
 have w3 : IntKind.i64.wrap (2 + 1) = 3 := by decide
 have na : (a == []) = false := by simpa using ha
 have nb : (b == []) = false := by simpa using hb
 have nc : (c == []) = false := by simpa using hc
 have l0 : 0 + 1 < lim := by rw [lim_eq]; omega
 have l1 : 1 + 1 < lim := by rw [lim_eq]; omega
 have l2 : 2 + 1 < lim := by rw [lim_eq]; omega
 have e3 : impl_SplitWords_p0 [a,b,c] 3 3 [a,b,c] = some [a,b,c] := by
  rw [impl_SplitWords_p0_eq]
  rfl
 have e2 : impl_SplitWords_p0 [a,b,c] 3 2 [a,b] = some [a,b,c] := by
  rw [impl_SplitWords_p0_eq]
  have g : ([a,b,c] : List (List UInt8))[(2 : Int).toNat]? = some c := rfl
  have c1 : (0 : Int) ≤ 2 := by decide
  have c2 : (2 : Int) < 3 := by decide
  have c3 : ([a,b] : List (List UInt8)).length + 1 < lim := l2
  simp only [c2,c1,decide_true,if_true,g,Option.bind_some,nc,Bool.not_false,c3,w3]
  exact e3
 have e1 : impl_SplitWords_p0 [a,b,c] 3 1 [a] = some [a,b,c] := by
  rw [impl_SplitWords_p0_eq]
  have g : ([a,b,c] : List (List UInt8))[(1 : Int).toNat]? = some b := rfl
  have c1 : (0 : Int) ≤ 1 := by decide
  have c2 : (1 : Int) < 3 := by decide
  have c3 : ([a] : List (List UInt8)).length + 1 < lim := l1
  simp only [c2,c1,decide_true,if_true,g,Option.bind_some,nb,Bool.not_false,c3,w2]
  exact e2
 have e0 : impl_SplitWords_p0 [a,b,c] 3 0 [] = some [a,b,c] := by
  rw [impl_SplitWords_p0_eq]
  have g : ([a,b,c] : List (List UInt8))[(0 : Int).toNat]? = some a := rfl
  have c1 : (0 : Int) ≤ 0 := by decide
  have c2 : (0 : Int) < 3 := by decide
  have c3 : ([] : List (List UInt8)).length + 1 < lim := l0
  simp only [c2,c1,decide_true,if_true,g,Option.bind_some,na,Bool.not_false,c3,w1]
  exact e1
 rw [impl_SplitWords_eq,strings_Split_eq]
 simp only [hlen,decide_true,h1,Bool.and_self,if_true,hs,Option.bind_some]
 exact e0
theorem isName_mem {s : List UInt8} (h : isName s = true) : (∀ c,c ∈ s → small c = true ∨ digit c = true) ∧ s.length ≤ 10 := by
 cases s with
 | nil => simp [isName] at h
 | cons c r =>
   simp only [isName,Bool.and_eq_true,List.all_eq_true,Bool.or_eq_true,decide_eq_true_eq] at h
   exact ⟨fun x hx => by
    rcases List.mem_cons.1 hx with rfl | hx
    ·exact .inl h.1.1
    ·exact h.1.2 x hx,h.2⟩
theorem isName_no {s : List UInt8} (h : isName s = true) {c : UInt8} (hc : c.toNat < 48) : c ∉ s := fun e => by
 rcases (isName_mem h).1 c e with h1 | h1
 ·simp [small] at h1; omega
 ·simp [digit] at h1; omega
theorem impl_named_ok (id : List UInt8) (l : List Int) (hid : id.length ≤ 1000000) (h0 : l ≠ []) (hl : l.length ≤ 64) (hx : ∀ x,x ∈ l → -1000000000000 ≤ x ∧ x ≤ 1000000000000) :
 impl_named id l = some (id ++ 32 :: listP l) := by
 have hb := listP_len l hl hx
 rw [impl_named_eq,impl_ListText_ok l h0 hl hx]
 have e1 : id.length + 1 ≤ strMax := by rw [strMax_eq]; omega
 have e2 : id.length + 1 + (listP l).length ≤ strMax := by rw [strMax_eq]; omega
 simp only [List.length_append,List.length_singleton,e1,decide_true,if_true,Option.bind_some,e2,List.append_assoc]
 rfl
theorem text_ok {s : T_l00Src.ty} {c : Int} (hs : SrcOk s c) (hc : c ≤ 1000000000000000000) (l : List (List UInt8)) (h0 : 0 < l.length) (hn : l.length ≤ 65536) :
 ∃ (u : List UInt8) (s' : T_l00Src.ty),spec_l00Src_text s l = some (u,s') ∧ SrcOk s' (c + 2) ∧ u ∈ l := by
 obtain ⟨u,s1,e1,k1,b1,b2⟩ := pick_ok hs hc (l.length : Int) (by omega)
 have hi : u.toNat < l.length := by omega
 rw [spec_l00Src_text_eq]
 simp only [e1,Option.bind_some,src_eta,b1,decide_true,if_true,List.getElem?_eq_getElem hi]
 exact ⟨_,s1,rfl,k1,List.getElem_mem hi⟩
def paperOk (x : T_Paper.ty) : Bool := isName x.1 && (isName x.2.1 && (decide (1500 ≤ x.2.2.1) && (decide (x.2.2.1 ≤ x.2.2.2.1) && (decide (x.2.2.2.1 ≤ 2100) && inR x.2.2.2.2.1 1 1000))))
def papersOk (xs : List T_Paper.ty) : Bool := sortedChk paperOk (fun x => x.1) none xs && decide ((xs.length : Int) ≤ 12)
theorem impl_Paper_valid_core (a b : List UInt8) (c d e : Int) (h0 : a.length < 4611686018427387904) (h1 : b.length < 4611686018427387904) : impl_Paper_valid (a,b,c,d,e,()) = some (paperOk (a,b,c,d,e,())) := by
 rw [impl_Paper_valid_eq,paperOk]
 simp only [impl_IsName_ok a h0,impl_IsName_ok b h1,impl_within_ok,Option.bind_some]
 cases isName a <;> cases isName b <;> by_cases g1 : 1500 ≤ c <;> by_cases g2 : c ≤ d <;> by_cases g3 : d ≤ 2100 <;> simp [g1,g2,g3]
theorem impl_Paper_valid_ok (x : T_Paper.ty) (h0 : x.1.length < 4611686018427387904) (h1 : x.2.1.length < 4611686018427387904) : impl_Paper_valid x = some (paperOk x) := impl_Paper_valid_core x.1 x.2.1 x.2.2.1 x.2.2.2.1 x.2.2.2.2.1 h0 h1
theorem spec_l20One_core (a b : List UInt8) (c d e : Int) (h0 : a.length < 4611686018427387904) (h1 : b.length < 4611686018427387904) : spec_l20One (a,b,c,d,e,()) = some (paperOk (a,b,c,d,e,())) := by
 rw [spec_l20One_eq,paperOk]
 simp only [spec_l01Name_ok a h0,spec_l01Name_ok b h1,spec_l20Year_eq,spec_l00In_ok,Option.bind_some,inR]
 cases isName a <;> cases isName b <;> by_cases g1 : 1500 ≤ c <;> by_cases g2 : c ≤ d <;> by_cases g3 : d ≤ 2100 <;> simp [g1,g2,g3]
 all_goals first
  | (have g4 : c ≤ 2100 := by omega
     have g5 : 1500 ≤ d := by omega
     simp [g4,g5])
  | skip
 all_goals first
  | omega
  | (by_cases g6 : c ≤ 2100 <;> by_cases g7 : 1500 ≤ d <;> simp [g6,g7] <;> omega)
theorem spec_l20One_ok (x : T_Paper.ty) (h0 : x.1.length < 4611686018427387904) (h1 : x.2.1.length < 4611686018427387904) : spec_l20One x = some (paperOk x) := spec_l20One_core x.1 x.2.1 x.2.2.1 x.2.2.2.1 x.2.2.2.2.1 h0 h1
theorem spec_l20Ok_ok (xs : List T_Paper.ty) (hs : xs.length ≤ 1048576) (hx : ∀ x,x ∈ xs → x.1.length ≤ 1048576 ∧ x.2.1.length ≤ 1048576) : spec_l20Ok xs = some (papersOk xs) := by
 rw [spec_l20Ok_eq]
 exact sortedLoopS xs spec_l20One paperOk (fun x => x.1) (fun i => spec_l20Ok_p0 xs i) _ _ rfl (fun i => spec_l20Ok_p0_eq xs i) hs (fun x hm => spec_l20One_ok x (Nat.lt_of_le_of_lt (hx x hm).1 (by decide)) (Nat.lt_of_le_of_lt (hx x hm).2 (by decide))) xs.length 0 (by omega)
theorem impl_ValidPapers_ok (xs : List T_Paper.ty) (hs : xs.length ≤ 1048576) (hx : ∀ x,x ∈ xs → x.1.length ≤ 1048576 ∧ x.2.1.length ≤ 1048576) : impl_ValidPapers xs = some (papersOk xs) := by
 rw [impl_ValidPapers_eq]
 exact sortedLoopI xs impl_Paper_valid paperOk (fun x => x.1) (fun i => impl_ValidPapers_p0 xs xs xs.length i) _ _ (show ((impl_few (xs.length : Int) 12).bind fun x4 => some x4) = some (decide ((xs.length : Int) ≤ 12)) by rw [impl_few_eq]; rfl) (fun i => impl_ValidPapers_p0_eq xs xs xs.length i) hs (fun x hm => impl_Paper_valid_ok x (Nat.lt_of_le_of_lt (hx x hm).1 (by decide)) (Nat.lt_of_le_of_lt (hx x hm).2 (by decide))) xs.length 0 (by omega)
def rentsSmall (g : List T_Paper.ty) : Prop := ∀ y : T_Paper.ty,y ∈ g → y.1.length ≤ 100 ∧ y.2.1.length ≤ 100
theorem rentsSmall.add {g : List T_Paper.ty} (h : rentsSmall g) {y : T_Paper.ty} (hy : y.1.length ≤ 100 ∧ y.2.1.length ≤ 100) : rentsSmall (g ++ [y]) := fun z hz => by
 rcases List.mem_append.1 hz with h1 | h1
 ·exact h z h1
 ·rw [List.mem_singleton] at h1; rw [h1]; exact hy
def pI (x : T_Paper.ty) : List UInt8 := x.1
def pK (x : T_Paper.ty) : List UInt8 := x.2.1
def pE (x : T_Paper.ty) : Int := x.2.2.1
def pL (x : T_Paper.ty) : Int := x.2.2.2.1
def pT (x : T_Paper.ty) : Int := x.2.2.2.2.1
def Short (x : T_Paper.ty) : Prop := (pI x).length ≤ 100 ∧ (pK x).length ≤ 100
theorem drawPaper {s : T_l00Src.ty} {c : Int} (hs : SrcOk s c) (hc : c ≤ 100000000000000000) (id : List UInt8) (hid : id.length ≤ 100) : ∃ (x : T_Paper.ty) (s' : T_l00Src.ty),spec_l20DrawOne s id = some (x,s') ∧ SrcOk s' (c + 8) ∧ Short x := by
 obtain ⟨t,s1,q1,k1,m1⟩ := text_ok hs (by omega) [[97,109,97,116,105],[103,117,97,100,97,103,110,105,110,105],[114,111,99,99,97],[97,109,97,116,105]] (by decide) (by decide)
 obtain ⟨u,s2,q2,k2,b0,b1⟩ := pick_ok k1 (by omega) 60 (by omega)
 obtain ⟨v,s3,q3,k3,c0,c1⟩ := pick_ok k2 (by omega) 30 (by omega)
 obtain ⟨z,s4,q4,k4,d0,d1⟩ := pick_ok k3 (by omega) 20 (by omega)
 rw [spec_l20DrawOne_eq]
 simp only [q1,q2,q3,q4,Option.bind_some,src_eta]
 have hm : t.length ≤ 100 := (by decide : ∀ t,t ∈ ([[97,109,97,116,105],[103,117,97,100,97,103,110,105,110,105],[114,111,99,99,97],[97,109,97,116,105]] : List (List UInt8)) → t.length ≤ 100) t m1
 exact ⟨_,s4,rfl,k4.up (by omega),hid,hm⟩
theorem bentPaper {s : T_l00Src.ty} {c : Int} (hs : SrcOk s c) (hc : c ≤ 100000000000000000) {x : T_Paper.ty} (hx : Short x) : ∃ (y : T_Paper.ty) (s' : T_l00Src.ty),spec_l20Bent s x = some (y,s') ∧ SrcOk s' (c + 4) ∧ Short y := by
 obtain ⟨v,s1,e1,k1,_⟩ := pick_ok hs (by omega) 18 (by omega)
 obtain ⟨a,t1,f1,g1,_⟩ := among_ok k1 (by omega) [1499,1500,x.2.2.2.1,IntKind.i64.wrap (x.2.2.2.1 + 1)] (by simp) (by simp)
 obtain ⟨a2,t2,f2,g2,_⟩ := among_ok k1 (by omega) [2100,2101] (by decide) (by decide)
 obtain ⟨a3,t3,f3,g3,_⟩ := among_ok k1 (by omega) [0,1,1000,1001] (by decide) (by decide)
 rw [spec_l20Bent_eq]
 simp only [e1,f1,f2,f3,Option.bind_some,src_eta]
 split
 ·exact ⟨_,_,rfl,g1.up (by omega),hx⟩
 ·split
  ·exact ⟨_,_,rfl,g2.up (by omega),hx⟩
  ·split
   ·exact ⟨_,_,rfl,g3.up (by omega),hx⟩
   ·exact ⟨_,_,rfl,k1.up (by omega),hx⟩
def Shorts (xs : List T_Paper.ty) : Prop := ∀ x,x ∈ xs → Short x
theorem Shorts.add {xs : List T_Paper.ty} (h : Shorts xs) {x : T_Paper.ty} (hx : Short x) : Shorts (xs ++ [x]) := fun y hy => by
 rcases List.mem_append.1 hy with hy | hy
 ·exact h y hy
 ·rw [List.mem_singleton.1 hy]; exact hx
theorem papers_loop1 {n : Int} (hn : n ≤ 13) : ∀ (k i : Nat) (s : T_l00Src.ty) (c : Int) (r : List T_Paper.ty),(i : Int) + k = n → SrcOk s c → c + 100 * (k : Int) ≤ 100000000000000 → r.length = i → Shorts r →
 ∃ (r' : List T_Paper.ty) (s' : T_l00Src.ty),spec_l20Draw_p1 n i s.1 s.2.1 s.2.2.1 r = some (r',s') ∧ SrcOk s' (c + 100 * (k : Int)) ∧ r'.length ≤ 20 ∧ Shorts r'
 | 0,i,s,c,r,hk,hs,hc,hl,hr => by
   rw [spec_l20Draw_p1_eq,if_neg (by simp; omega),List.take_length]
   exact ⟨_,_,rfl,hs.up (by omega),by omega,hr⟩
 | k + 1,i,s,c,r,hk,hs,hc,hl,hr => by
   have hlt : (i : Int) < n := by omega
   have hlim : r.length + 1 < lim := by unfold lim; omega
   obtain ⟨x,s1,q1,k1,hx⟩ := drawPaper hs (by omega) ([110] ++ ([IntKind.u8.wrap (IntKind.i64.wrap (97 + (i : Int)))].map vu8)) (by simp)
   have hst : ([110] : List UInt8).length + ([IntKind.u8.wrap (IntKind.i64.wrap (97 + (i : Int)))].map vu8).length ≤ strMax := by simp [strMax]
   rw [spec_l20Draw_p1_eq]
   simp only [hlt,decide_true,if_true,hst,src_eta,q1,Option.bind_some,hlim,List.take_length,wsucc (show i < 4611686018427387904 by omega)]
   obtain ⟨r',s',e,a,b,d⟩ := papers_loop1 hn k (i + 1) s1 _ (r ++ [(pI x,pK x,pE x,pL x,pT x,())]) (by omega) k1 (by omega) (by simp; omega) (hr.add hx)
   exact ⟨r',s',e,a.up (by omega),b,d⟩
def ids6 : List (List UInt8) := [[112,97],[112,98],[112,99],[112,100],[112,101],[112,102]]
theorem papers_loop0 : ∀ (k i : Nat) (s : T_l00Src.ty) (c : Int) (r : List T_Paper.ty),i + k = 6 → SrcOk s c → c + 100 * (k : Int) ≤ 10000000000000 → r.length ≤ i → Shorts r →
 ∃ (r' : List T_Paper.ty) (s' : T_l00Src.ty) (c' : Int),spec_l20Draw_p0 i s.1 s.2.1 s.2.2.1 ids6 r = some (r',s') ∧ SrcOk s' c' ∧ c' ≤ 100000000000000 ∧ r'.length ≤ 20 ∧ Shorts r'
 | 0,i,s,c,r,hk,hs,hc,hl,hr => by
   obtain ⟨u,s1,q1,k1,b0,b1⟩ := pick_ok hs (by omega) 20 (by omega)
   have hlim : r.length + 1 < lim := by unfold lim; omega
   rw [spec_l20Draw_p0_eq,if_neg (by have : ids6.length = 6 := rfl
                                     simp [this]; omega)]
   simp only [src_eta,q1,Option.bind_some]
   split
   ·obtain ⟨x,s2,q2,k2,hx⟩ := drawPaper k1 (by omega) [122,122] (by simp)
    obtain ⟨y,s3,q3,k3,hy⟩ := bentPaper k2 (by omega) hx
    have q3' : spec_l20Bent s2 (x.1,x.2.1,x.2.2.1,x.2.2.2.1,x.2.2.2.2.1,()) = some (y,s3) := q3
    simp only [q2,Option.bind_some,src_eta,q3',hlim,decide_true,if_true,List.take_length]
    exact ⟨_,_,_,rfl,k3,by omega,by simp; omega,hr.add hy⟩
   ·split
    ·obtain ⟨n,s2,q2,k2,hn⟩ := among_ok k1 (by omega) [12,13] (by decide) (by decide)
     have hn' : 0 ≤ n ∧ n ≤ 13 := by simp at hn; omega
     obtain ⟨r',s',e,a,b,d⟩ := papers_loop1 hn'.2 n.toNat 0 s2 _ [] (by omega) k2 (by omega) rfl (fun x hx => by cases hx)
     simp only [q2,Option.bind_some]
     exact ⟨r',s',_,e,a,by omega,b,d⟩
    ·rw [List.take_length]
     exact ⟨_,_,_,rfl,k1,by omega,by omega,hr⟩
 | k + 1,i,s,c,r,hk,hs,hc,hl,hr => by
   have hi : i < ids6.length := by show i < 6; omega
   have hlt : (i : Int) < (ids6.length : Int) := by omega
   have hlim : r.length + 1 < lim := by unfold lim; omega
   obtain ⟨b,s1,q1,k1⟩ := one_ok hs (by omega) 3 (by omega)
   rw [spec_l20Draw_p0_eq]
   simp only [hlt,decide_true,if_true,src_eta,q1,Option.bind_some,Int.natCast_nonneg,Bool.and_self,Int.toNat_natCast,List.getElem?_eq_getElem hi,wsucc (show i < 4611686018427387904 by omega)]
   cases b
   ·have hid : (ids6[i]).length ≤ 100 := (by decide : ∀ t,t ∈ ids6 → t.length ≤ 100) _ (List.getElem_mem hi)
    obtain ⟨x,s2,q2,k2,hx⟩ := drawPaper k1 (by omega) ids6[i] hid
    simp only [Bool.not_false,if_true,q2,Option.bind_some,hlim,decide_true,List.take_length]
    exact papers_loop0 k (i + 1) s2 _ _ (by omega) k2 (by omega) (by simp; omega) (hr.add hx)
   ·simp only [Bool.not_true,Bool.false_eq_true,if_false]
    exact papers_loop0 k (i + 1) s1 _ r (by omega) k1 (by omega) (by omega) hr
theorem papers_draw {s : T_l00Src.ty} (hs : SrcOk s 0) : ∃ (r' : List T_Paper.ty) (s' : T_l00Src.ty) (c' : Int),spec_l20Draw s = some (r',s') ∧ SrcOk s' c' ∧ c' ≤ 100000000000000 ∧ r'.length ≤ 20 ∧ Shorts r' := by
 rw [spec_l20Draw_eq]
 exact papers_loop0 6 0 s 0 [] (by omega) hs (by omega) (by simp) (fun x hx => by cases hx)
theorem chk_iff {α : Type} {ok : α → Bool} {id : α → List UInt8} : ∀ {l : List α} {p : Option α},sortedChk ok id p l = true ↔ (∀ x,x ∈ l → ok x = true) ∧ l.Pairwise (fun a b => id a < id b) ∧ ∀ y,p = some y → ∀ x,x ∈ l → id y < id x
 | [],p => by simp [sortedChk]
 | z :: r,p => by
   have IH := chk_iff (ok := ok) (id := id) (l := r) (p := some z)
   have e0 : sortedChk ok id p (z :: r) = (ok z && ((match p with | none => true | some y => Op.bytesLess (id y) (id z)) && sortedChk ok id (some z) r)) := by cases p <;> rfl
   rw [e0,Bool.and_eq_true,Bool.and_eq_true,IH]
   constructor
   ·rintro ⟨h1,h2,h3,h4,h5⟩
    refine ⟨fun x hx => ?_,List.pairwise_cons.2 ⟨fun x hx => h5 z rfl x hx,h4⟩,fun y hy x hx => ?_⟩
    ·rcases List.mem_cons.1 hx with rfl | hx
     ·exact h1
     ·exact h3 x hx
    ·subst hy
     have hyz : id y < id z := by simp only [Proofs.bytesLess_eq,decide_eq_true_eq] at h2; exact h2
     rcases List.mem_cons.1 hx with rfl | hx
     ·exact hyz
     ·exact List.lt_trans hyz (h5 z rfl x hx)
   ·rintro ⟨h1,h2,h3⟩
    obtain ⟨h4,h5⟩ := List.pairwise_cons.1 h2
    refine ⟨h1 z List.mem_cons_self,?_,fun x hx => h1 x (List.mem_cons_of_mem _ hx),h5,fun y hy x hx => ?_⟩
    ·cases p with
     | none => rfl
     | some y => simp only [Proofs.bytesLess_eq,decide_eq_true_eq]; exact h3 y rfl z List.mem_cons_self
    ·cases hy; exact h4 x hx
structure Papers (xs : List T_Paper.ty) : Prop where
 ok : ∀ x,x ∈ xs → paperOk x = true
 up : xs.Pairwise fun a b => pI a < pI b
 few : xs.length ≤ 12
theorem papers_iff {xs : List T_Paper.ty} : papersOk xs = true ↔ Papers xs := by
 rw [papersOk,Bool.and_eq_true,chk_iff,decide_eq_true_eq]
 exact ⟨fun h => ⟨h.1.1,h.1.2.1,by have := h.2; omega⟩,fun h => ⟨⟨h.ok,h.up,fun y hy => by cases hy⟩,by have := h.few; omega⟩⟩
structure GoodP (x : T_Paper.ty) : Prop where
 i : isName (pI x) = true
 k : isName (pK x) = true
 e0 : 1500 ≤ pE x
 el : pE x ≤ pL x
 l1 : pL x ≤ 2100
 t0 : 1 ≤ pT x
 t1 : pT x ≤ 1000
theorem goodP {x : T_Paper.ty} (h : paperOk x = true) : GoodP x := by
 simp only [paperOk,Bool.and_eq_true,decide_eq_true_eq,inR_iff'] at h
 exact ⟨h.1,h.2.1,h.2.2.1,h.2.2.2.1,h.2.2.2.2.1,h.2.2.2.2.2.1,h.2.2.2.2.2.2⟩
theorem Papers.good {xs : List T_Paper.ty} (h : Papers xs) {x : T_Paper.ty} (hx : x ∈ xs) : GoodP x := goodP (h.ok x hx)
theorem nameLen {s : List UInt8} (h : isName s = true) : s.length ≤ 10 := by
 cases s with
 | nil => simp
 | cons c r => simp only [isName,Bool.and_eq_true,decide_eq_true_eq] at h; exact h.2
theorem valid_iff {xs : List T_Paper.ty} (hl : xs.length ≤ 20) (hs : Shorts xs) : impl_ValidPapers xs = some (papersOk xs) ∧ spec_l20Ok xs = some (papersOk xs) := by
 have hx : ∀ x,x ∈ xs → x.1.length ≤ 1048576 ∧ x.2.1.length ≤ 1048576 := fun x hx => by
  obtain ⟨h1,h2⟩ := hs x hx
  simp only [pI,pK] at h1 h2
  exact ⟨by omega,by omega⟩
 exact ⟨impl_ValidPapers_ok xs (by omega) hx,spec_l20Ok_ok xs (by omega) hx⟩
theorem Papers.shorts {xs : List T_Paper.ty} (h : Papers xs) : Shorts xs := fun x hx => by
 have g := h.good hx
 exact ⟨by have := nameLen g.i; omega,by have := nameLen g.k; omega⟩
theorem Papers.valid {xs : List T_Paper.ty} (h : Papers xs) : impl_ValidPapers xs = some true ∧ spec_l20Ok xs = some true := by
 have := valid_iff (by have := h.few; omega) h.shorts
 rw [papers_iff.2 h] at this; exact this
def clB (a b : T_Paper.ty) : Bool := !(pK a == pK b) || (decide (pL a < pE b) || decide (pL b < pE a))
theorem clB_symm (a b : T_Paper.ty) : clB a b = clB b a := by
 unfold clB; rw [Bool.beq_comm,Bool.or_comm (decide (pL a < pE b))]
theorem clash_int (e l e' l' : Int) (h1 : e ≤ l) (h2 : e' ≤ l') : decide ((if e' > e then e' else e) > (if l' < l then l' else l)) = (decide (l < e') || decide (l' < e)) := by
 rw [Bool.eq_iff_iff,Bool.or_eq_true,decide_eq_true_eq,decide_eq_true_eq,decide_eq_true_eq]
 split <;> split <;> omega
theorem clash_ok {a b : T_Paper.ty} (ha : GoodP a) (hb : GoodP b) : impl_clash a b = some (clB a b) ∧ spec_l20Clash a b = some (clB a b) := by
 have h1 := ha.el
 have h2 := hb.el
 obtain ⟨i,k,e,l,t,u⟩ := a
 obtain ⟨i',k',e',l',t',u'⟩ := b
 simp only [pE,pL] at h1 h2
 rw [impl_clash_eq,spec_l20Clash_eq,clB]
 simp only [pK,pE,pL]
 by_cases c : (k == k') = true
 ·have hd := clash_int e l e' l' h1 h2
  rw [hd]
  simp only [c,Bool.not_true,Bool.false_eq_true,if_false,Bool.false_or]
  refine ⟨rfl,?_⟩
  by_cases c2 : (l : Int) < e'
  ·simp [c2]
  ·simp [c2]; rfl
 ·simp [c]
def pAt (xs : List T_Paper.ty) (i : Nat) : T_Paper.ty := (xs[i]?).getD ([],[],0,0,0,())
theorem pAt_get {xs : List T_Paper.ty} {i : Nat} (h : i < xs.length) : xs[i]? = some (pAt xs i) := by simp [pAt,List.getElem?_eq_getElem h]
theorem pAt_mem {xs : List T_Paper.ty} {i : Nat} (h : i < xs.length) : pAt xs i ∈ xs := List.mem_of_getElem? (pAt_get h)
theorem clonePapers {xs : List T_Paper.ty} (h : xs.length ≤ 1048576) : impl_clone_impl_Paper_ xs = some xs := by
 rw [impl_clone_impl_Paper__eq]
 have h1 : ((xs.length : Int)).toNat < lim := by unfold lim; omega
 have h2 : 0 + xs.length < lim := by unfold lim; omega
 simp only [Int.natCast_nonneg,h1,h2,decide_true,Bool.and_self,if_true,List.nil_append,List.take_length]
end Go.Ab.P
