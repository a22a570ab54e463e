/- Lemmas on functions of the program. Conditions: told in each. -/
import Derived.Test.YtdejhkhdilcadaaGreatDoorPFnRepairs
set_option linter.unusedVariables false
set_option linter.unusedSimpArgs false
namespace Go.Ab.P
open Go.Ab
theorem idxLoop {β : Type} (n : Nat) (c : Nat → Bool) (p0 : Int → Option β) (bad last : Option β) (heq : ∀ i : Nat,i < n → p0 (i : Int) = if c i then p0 ((i + 1 : Nat) : Int) else bad) (hlast : p0 (n : Int) = last) :
 ∀ (k i : Nat),i + k = n → p0 (i : Int) = if (List.range' i k).all c then last else bad
 | 0,i,hk => by
   have : i = n := by omega
   subst this
   simp [hlast]
 | k + 1,i,hk => by
   rw [heq i (by omega),idxLoop n c p0 bad last heq hlast k (i + 1) (by omega),List.range'_succ,List.all_cons]
   cases c i
   ·simp
   ·simp only [Bool.true_and,if_true]
def sumG (f : Nat → Int) : Nat → Nat → Int
 | _,0 => 0
 | i,k + 1 => f i + sumG f (i + 1) k
theorem sumG_bd {f : Nat → Int} {lo hi : Int} (hlo : lo ≤ 0) (hhi : 0 ≤ hi) (hf : ∀ i,lo ≤ f i ∧ f i ≤ hi) : ∀ (k i : Nat),lo * k ≤ sumG f i k ∧ sumG f i k ≤ hi * k
 | 0,i => by simp [sumG]
 | k + 1,i => by
   have h1 := sumG_bd hlo hhi hf k (i + 1)
   have h2 := hf i
   have e1 : lo * ((k + 1 : Nat) : Int) = lo * k + lo := by rw [Int.natCast_succ,Int.mul_add,Int.mul_one]
   have e2 : hi * ((k + 1 : Nat) : Int) = hi * k + hi := by rw [Int.natCast_succ,Int.mul_add,Int.mul_one]
   rw [sumG,e1,e2]; omega
theorem wsucc {i : Nat} (h : i < 4611686018427387904) : IntKind.i64.wrap ((i : Int) + 1) = ((i + 1 : Nat) : Int) := by
 rw [w64 (by omega) (by omega)]; omega
theorem getElem?_lt {α : Type} {l : List α} {i : Nat} (h : i < l.length) : l[i]? = some l[i] := List.getElem?_eq_getElem h
theorem drop_cons {α : Type} {l : List α} {i : Nat} (h : i < l.length) : l.drop i = l[i] :: l.drop (i + 1) := List.drop_eq_getElem_cons h
theorem tmod_nonneg_eq {a b : Int} (ha : 0 ≤ a) : a.tmod b = a % b := Int.tmod_eq_emod_of_nonneg ha
def small (c : UInt8) : Bool := decide (97 ≤ (c.toNat : Int)) && decide ((c.toNat : Int) ≤ 122)
def digit (c : UInt8) : Bool := decide (48 ≤ (c.toNat : Int)) && decide ((c.toNat : Int) ≤ 57)
def isName (s : List UInt8) : Bool := match s with | [] => false | c :: r => small c && r.all (fun c => small c || digit c) && decide (s.length ≤ 10)
def inR (n lo hi : Int) : Bool := decide (lo ≤ n) && decide (n ≤ hi)
theorem inR_iff' {n lo hi : Int} : inR n lo hi = true ↔ lo ≤ n ∧ n ≤ hi := by simp [inR]
theorem impl_within_ok (n lo hi : Int) : impl_within n lo hi = some (inR n lo hi) := by
 rw [impl_within_eq,inR]; by_cases h : lo ≤ n <;> simp [h]
theorem spec_l00In_ok (n lo hi : Int) : spec_l00In n lo hi = some (inR n lo hi) := by
 rw [spec_l00In_eq,inR]; by_cases h : lo ≤ n <;> simp [h]
theorem spec_l01Small_ok (c : UInt8) : spec_l01Small (c.toNat : Int) = some (small c) := by
 rw [spec_l01Small_eq,small]; by_cases h : 97 ≤ (c.toNat : Int) <;> simp [h]
theorem spec_l01Digit_ok (c : UInt8) : spec_l01Digit (c.toNat : Int) = some (digit c) := by
 rw [spec_l01Digit_eq,digit]; by_cases h : 48 ≤ (c.toNat : Int) <;> simp [h]
theorem impl_isDigit_ok (c : UInt8) : impl_isDigit (c.toNat : Int) = some (digit c) := by
 rw [impl_isDigit_eq,digit]; by_cases h : 48 ≤ (c.toNat : Int) <;> simp [h]
theorem spec_l01Name_p1_ok (s : List UInt8) (hs : s.length < 4611686018427387904) : ∀ (k i : Nat),i + k = s.length → spec_l01Name_p1 s i = some ((s.drop i).all fun c => small c || digit c)
 | 0,i,h => by
   rw [spec_l01Name_p1_eq,List.drop_eq_nil_of_le (by omega)]
   simp; omega
 | k + 1,i,h => by
   have hi : i < s.length := by omega
   rw [spec_l01Name_p1_eq,drop_cons hi]
   have h1 : (i : Int) < (s.length : Int) := by omega
   simp only [h1,decide_true,if_true,Int.natCast_nonneg,Int.toNat_natCast,getElem?_lt hi,Option.bind_some,spec_l01Small_ok,spec_l01Digit_ok,wsucc (show i < 4611686018427387904 by omega),spec_l01Name_p1_ok s hs k (i + 1) (by omega),List.all_cons]
   cases small s[i] <;> cases digit s[i] <;> simp
theorem spec_l01Name_ok (s : List UInt8) (hs : s.length < 4611686018427387904) : spec_l01Name s = some (isName s) := by
 rw [spec_l01Name_eq]
 cases s with
 | nil => rfl
 | cons c r =>
   have := spec_l01Name_p1_ok (c :: r) hs (r.length + 1) 0 (by simp)
   simp only [spec_l01Name_p0_eq,List.getElem?_cons_zero,Option.bind_some,spec_l01Small_ok]
   rw [show ((0 : Nat) : Int) = 0 from rfl] at this
   rw [this,isName]
   have e0 : ((c :: r) == ([] : List UInt8)) = false := by simp
   by_cases hl : ((c :: r).length : Int) > 10
   ·have : ¬ (c :: r).length ≤ 10 := by omega
    simp only [e0,hl,this,decide_true,decide_false,if_true,Bool.false_eq_true,if_false,Bool.and_false]
   ·have : (c :: r).length ≤ 10 := by omega
    simp only [e0,hl,this,decide_true,decide_false,if_true,Bool.false_eq_true,if_false,Bool.and_true]
    cases hc : small c <;> simp [hc]
def okFrom : Nat → List UInt8 → Bool
 | _,[] => true
 | i,c :: r => (small c || (i != 0 && digit c)) && okFrom (i + 1) r
theorem okFrom_all (r : List UInt8) : ∀ i,okFrom (i + 1) r = r.all fun c => small c || digit c := by
 induction r with
 | nil => intro i; rfl
 | cons c r ih => intro i; simp [okFrom,ih]
theorem impl_IsName_p0_ok (s : List UInt8) (hs : s.length < 4611686018427387904) : ∀ (k i : Nat),i + k = s.length → impl_IsName_p0 s i = some (okFrom i (s.drop i) && (!(s == []) && decide (s.length ≤ 10)))
 | 0,i,h => by
   rw [impl_IsName_p0_eq,List.drop_eq_nil_of_le (by omega),impl_few_eq]
   have h1 : ¬ (i : Int) < (s.length : Int) := by omega
   simp only [h1,decide_false,Bool.false_eq_true,if_false,okFrom,Option.bind_some,Bool.true_and]
   cases s with
   | nil => rfl
   | cons c r =>
     have : ((c :: r == []) = false) := by simp
     simp only [this,Bool.not_false,if_true,Bool.true_and]
     congr 1
     simp only [decide_eq_decide]; omega
 | k + 1,i,h => by
   have hi : i < s.length := by omega
   have h1 : (i : Int) < (s.length : Int) := by omega
   have ih := impl_IsName_p0_ok s hs k (i + 1) (by omega)
   have e1 : ∀ b : Bool,impl_IsName_p1 s i b = some (((b || (i != 0 && digit s[i])) && okFrom (i + 1) (s.drop (i + 1))) && (!(s == []) && decide (s.length ≤ 10))) := by
    intro b
    rw [impl_IsName_p1_eq]
    simp only [Int.natCast_nonneg,decide_true,if_true,Int.toNat_natCast,getElem?_lt hi,Option.bind_some,impl_isDigit_ok,wsucc (show i < 4611686018427387904 by omega),ih]
    cases b
    ·by_cases h0 : i = 0
     ·subst h0; simp
     ·have : ((i : Int) == 0) = false := by simp [h0]
      have : (i != 0) = true := by simp [h0]
      simp only [*]
      cases digit s[i] <;> simp
    ·simp
   rw [impl_IsName_p0_eq,drop_cons hi,okFrom]
   simp only [h1,decide_true,if_true,Int.natCast_nonneg,Int.toNat_natCast,getElem?_lt hi,Option.bind_some,e1,small]
   by_cases h97 : (s[i].toNat : Int) ≥ 97 <;> simp [h97]
theorem impl_IsName_ok (s : List UInt8) (hs : s.length < 4611686018427387904) : impl_IsName s = some (isName s) := by
 rw [impl_IsName_eq]
 have := impl_IsName_p0_ok s hs s.length 0 (by simp)
 rw [show ((0 : Nat) : Int) = 0 from rfl] at this
 rw [this]
 cases s with
 | nil => rfl
 | cons c r => simp [okFrom,okFrom_all,isName]
theorem index1_none {c : UInt8} : ∀ {a : List UInt8},c ∉ a → Lib.index a [c] = -1
 | [],_ => rfl
 | b :: l,h => by
   have h1 : (c == b) = false := by simp at h; simpa using h.1
   have h2 := index1_none (a := l) (fun e => h (List.mem_cons_of_mem _ e))
   unfold Lib.index
   simp [List.isPrefixOf,h1,h2]
theorem index1_at {c : UInt8} : ∀ {a : List UInt8} (r : List UInt8),c ∉ a → Lib.index (a ++ c :: r) [c] = a.length
 | [],r,_ => by simp [Lib.index,List.isPrefixOf]
 | b :: l,r,h => by
   have h1 : (c == b) = false := by simp at h; simpa using h.1
   have h2 := index1_at (a := l) r (fun e => h (List.mem_cons_of_mem _ e))
   rw [List.cons_append]
   unfold Lib.index
   have h3 : ((l.length : Int) == -1) = false := by rw [beq_eq_false_iff_ne]; omega
   simp [List.isPrefixOf,h1,h2,h3]
theorem split1_last {c : UInt8} {a : List UInt8} (h : c ∉ a) : Lib.splitK [c] 0 (Lib.count a [c]) a = [a] := by
 rw [Lib.count_miss (index1_none h)]; rfl
theorem split1_cons {c : UInt8} {a : List UInt8} (r : List UInt8) (h : c ∉ a) : Lib.splitK [c] 0 (Lib.count (a ++ c :: r) [c]) (a ++ c :: r) = a :: Lib.splitK [c] 0 (Lib.count r [c]) r := by
 have hi := index1_at r h
 have hm : ¬ ((a.length : Int) == -1) = true := by rw [beq_iff_eq]; omega
 have hd : (a ++ c :: r).drop (a.length + [c].length) = r := by simp [List.drop_append]
 rw [Lib.count_hit (by simp) hi,hd,Nat.add_comm 1,Lib.splitK,hi,if_neg hm,Int.toNat_natCast,hd]
 simp
theorem impl_Decimal_ok (n : Int) (h : -9223372036854775808 ≤ n ∧ n ≤ 9223372036854775807) : impl_Decimal n = some (Lib.itoa n) := by
 rw [impl_Decimal_eq,strconv_FormatInt_eq]
 simp [h.1,h.2]
theorem wu64 {n : Int} (h1 : 0 ≤ n) (h2 : n < 18446744073709551616) : IntKind.u64.wrap n = n := by
 have e : IntKind.u64.wrap n = if decide false = true then n % 18446744073709551616 - 18446744073709551616 else n % 18446744073709551616 := by
  simp [IntKind.wrap,IntKind.signed,IntKind.bits]
 rw [e]
 simp; omega
theorem and255 (x : Int) : ((BitVec.ofInt IntKind.u64.bits x &&& BitVec.ofInt IntKind.u64.bits 255).toNat : Int) ≤ 255 := by
 have : (BitVec.ofInt IntKind.u64.bits x &&& BitVec.ofInt IntKind.u64.bits 255).toNat ≤ 255 := by
  rw [BitVec.toNat_and]
  refine Nat.le_trans Nat.and_le_right ?_
  decide
 omega
def SrcOk (s : T_l00Src.ty) (c : Int) : Prop := (∀ x : Int,x ∈ s.1 → 0 ≤ x ∧ x ≤ 255) ∧ s.1.length ≤ 1048576 ∧ (0 : Int) ≤ s.2.1 ∧ (s.2.1 : Int) ≤ c
theorem src_eta (s : T_l00Src.ty) : (s.1,s.2.1,s.2.2.1,()) = s := rfl
theorem SrcOk.up {s : T_l00Src.ty} {c d : Int} (h : SrcOk s c) (hd : c ≤ d) : SrcOk s d := ⟨h.1,h.2.1,h.2.2.1,Int.le_trans h.2.2.2 hd⟩
theorem next_p0_ok (v : Int) (l : List Int) (a h : Int) (c : Int) (hs : SrcOk (l,a,h,()) c) (hc : c ≤ 1152921504606846976) (hv : 0 ≤ v ∧ v ≤ 255) :
 ∃ (u : Int) (s' : T_l00Src.ty),spec_l00Src_next_p0 v l a h = some (u,s') ∧ SrcOk s' (c + 1) ∧ 0 ≤ u ∧ u ≤ 255 := by
 obtain ⟨h1,h2,h3,h4⟩ := hs
 have h3 : 0 ≤ a := h3
 have h4 : a ≤ c := h4
 rw [spec_l00Src_next_p0_eq,w64 (n := a + 1) (by omega) (by omega)]
 split
 ·exact ⟨_,_,rfl,⟨h1,h2,by show (0 : Int) ≤ a + 1; omega,by show (a + 1 : Int) ≤ c + 1; omega⟩,hv⟩
 ·refine ⟨_,_,rfl,⟨h1,h2,by show (0 : Int) ≤ a + 1; omega,by show (a + 1 : Int) ≤ c + 1; omega⟩,?_⟩
  generalize hx : ((BitVec.ofInt IntKind.u64.bits _ &&& BitVec.ofInt IntKind.u64.bits 255).toNat : Int) = x
  have := and255 (Int.fdiv (IntKind.u64.wrap ((IntKind.u64.wrap ((IntKind.u64.wrap (h * 6364136223846793005)) + (IntKind.u64.wrap v))) + 1442695040888963407)) (2 ^ (min (40 : Int).toNat IntKind.u64.bits)))
  rw [hx] at this
  have h0 : 0 ≤ x := by rw [← hx]; exact Int.natCast_nonneg _
  rw [wu64 h0 (by omega),w64 (by omega) (by omega)]
  exact ⟨h0,this⟩
theorem next_core (l : List Int) (a h c : Int) (hs : SrcOk (l,a,h,()) c) (hc : c ≤ 1152921504606846976) : ∃ (u : Int) (s' : T_l00Src.ty),spec_l00Src_next (l,a,h,()) = some (u,s') ∧ SrcOk s' (c + 1) ∧ 0 ≤ u ∧ u ≤ 255 := by
 have h3 : (0 : Int) ≤ a := hs.2.2.1
 rw [spec_l00Src_next_eq]
 dsimp only
 split
 ·rename_i hlt
  simp only [decide_eq_true_eq] at hlt
  have hlt' : a < (List.length (α := Int) l : Int) := hlt
  have hi : a.toNat < l.length := by omega
  obtain ⟨x,hx⟩ : ∃ x,l[a.toNat]? = some x := ⟨_,List.getElem?_eq_getElem hi⟩
  have hm : 0 ≤ x ∧ x ≤ 255 := hs.1 x (List.mem_of_getElem? hx)
  rw [if_pos (by simpa using h3),hx,Option.bind_some,w64 (n := x) (by omega) (by omega)]
  exact next_p0_ok x l a h c hs hc hm
 ·exact next_p0_ok 0 l a h c hs hc ⟨by omega,by omega⟩
theorem next_ok {s : T_l00Src.ty} {c : Int} (hs : SrcOk s c) (hc : c ≤ 1152921504606846976) : ∃ (u : Int) (s' : T_l00Src.ty),spec_l00Src_next s = some (u,s') ∧ SrcOk s' (c + 1) ∧ 0 ≤ u ∧ u ≤ 255 :=
 next_core s.1 s.2.1 s.2.2.1 c hs hc
theorem pick_ok {s : T_l00Src.ty} {c : Int} (hs : SrcOk s c) (hc : c ≤ 1000000000000000000) (n : Int) (hn : n ≤ 65536) :
 ∃ (u : Int) (s' : T_l00Src.ty),spec_l00Src_pick s n = some (u,s') ∧ SrcOk s' (c + 2) ∧ 0 ≤ u ∧ (u = 0 ∨ u < n) := by
 rw [spec_l00Src_pick_eq]
 by_cases h1 : n ≤ 1
 ·simp only [h1,decide_true,if_true]
  exact ⟨0,s,rfl,hs.up (by omega),by omega,.inl rfl⟩
 ·obtain ⟨u,s1,e1,k1,b1,b2⟩ := next_ok hs (by omega)
  have hn0 : ¬ n = 0 := by omega
  simp only [h1,decide_false,Bool.false_eq_true,if_false,e1,Option.bind_some,src_eta,hn0]
  by_cases h2 : n > 200
  ·obtain ⟨v,s2,e2,k2,b3,b4⟩ := next_ok k1 (by omega)
   simp only [h2,decide_true,if_true,e2,Option.bind_some,src_eta]
   rw [w64 (n := u * 256) (by omega) (by omega),w64 (n := u * 256 + v) (by omega) (by omega),tmod_nonneg_eq (by omega)]
   exact ⟨_,s2,rfl,k2.up (by omega),Int.emod_nonneg _ hn0,.inr (Int.emod_lt_of_pos _ (by omega))⟩
  ·simp only [h2,decide_false,Bool.false_eq_true,if_false]
   rw [tmod_nonneg_eq b1]
   exact ⟨_,s1,rfl,k1.up (by omega),Int.emod_nonneg _ hn0,.inr (Int.emod_lt_of_pos _ (by omega))⟩
theorem one_ok {s : T_l00Src.ty} {c : Int} (hs : SrcOk s c) (hc : c ≤ 1000000000000000000) (n : Int) (hn : n ≤ 65536) :
 ∃ (u : Bool) (s' : T_l00Src.ty),spec_l00Src_one s n = some (u,s') ∧ SrcOk s' (c + 2) := by
 obtain ⟨u,s1,e1,k1,_⟩ := pick_ok hs hc n hn
 rw [spec_l00Src_one_eq]
 simp only [e1,Option.bind_some,src_eta]
 exact ⟨_,s1,rfl,k1⟩
theorem from_ok (code : List Int) (h1 : ∀ x,x ∈ code → 0 ≤ x ∧ x ≤ 255) (h2 : code.length ≤ 1048576) : ∃ s,spec_l00From code = some s ∧ SrcOk s 0 := by
 rw [spec_l00From_eq]
 exact ⟨_,rfl,h1,h2,Int.le_refl _,Int.le_refl _⟩
theorem bytes_ok {l : List Int} (h : CT.wf (.sl (.one (.int .u8))) l) : ∀ x,x ∈ l → 0 ≤ x ∧ x ≤ 255 := fun x hx => by
 have : (Lit.int .u8 x).wf = true := h.2 x hx
 simp [Lit.wf,IntKind.min,IntKind.max,IntKind.signed,IntKind.bits] at this
 omega
def idx (P : Nat → Bool) (n : Nat) : List Int := ((List.range n).filter P).map fun (j : Nat) => (j : Int)
theorem idx_succ (P : Nat → Bool) (n : Nat) : idx P (n + 1) = idx P n ++ if P n then [(n : Int)] else [] := by
 unfold idx
 rw [List.range_succ,List.filter_append,List.map_append]
 cases h : P n <;> simp [h]
theorem idx_len (P : Nat → Bool) (n : Nat) : (idx P n).length ≤ n := by
 unfold idx
 rw [List.length_map]
 exact Nat.le_trans (List.length_filter_le _ _) (by simp)
theorem idx_mem (P : Nat → Bool) (n i : Nat) : (i : Int) ∈ idx P n ↔ i < n ∧ P i = true := by
 unfold idx
 simp only [List.mem_map,List.mem_filter,List.mem_range]
 constructor
 ·rintro ⟨j,h,e⟩
  have : j = i := by omega
  subst this; exact h
 ·intro h; exact ⟨i,h,rfl⟩
theorem idx_bd (P : Nat → Bool) (n : Nat) : ∀ x,x ∈ idx P n → 0 ≤ x ∧ x < n := by
 intro x hx
 unfold idx at hx
 obtain ⟨j,hj,rfl⟩ := List.mem_map.1 hx
 have := List.mem_range.1 (List.mem_filter.1 hj).1
 omega
theorem dig_toNat {d : Nat} (h : d < 10) : (UInt8.ofNat (48 + d)).toNat = 48 + d := by
 rw [UInt8.toNat_ofNat']; omega
theorem decDigits_dig (u : Nat) : ∀ c,c ∈ Lib.decDigits u → 48 ≤ c.toNat ∧ c.toNat ≤ 57 := by
 induction u using Nat.strongRecOn with
 | _ u ih =>
   intro c hc
   rw [Lib.decDigits] at hc
   split at hc
   ·rename_i h
    simp only [List.mem_singleton] at hc
    rw [hc,dig_toNat h]; omega
   ·rename_i h
    rcases List.mem_append.1 hc with h1 | h1
    ·exact ih (u / 10) (by omega) c h1
    ·simp only [List.mem_singleton] at h1
     rw [h1,dig_toNat (by omega)]; omega
theorem decDigits_len : ∀ (k u : Nat),u < 10 ^ (k + 1) → (Lib.decDigits u).length ≤ k + 1 ∧ 1 ≤ (Lib.decDigits u).length
 | 0,u,h => by
   rw [Lib.decDigits,dif_pos (by simpa using h)]; simp
 | k + 1,u,h => by
   rw [Lib.decDigits]
   split
   ·simp
   ·have hq : u / 10 < 10 ^ (k + 1) := by
     have : 10 ^ (k + 1 + 1) = 10 ^ (k + 1) * 10 := Nat.pow_succ ..
     omega
    have := decDigits_len k (u / 10) hq
    simp only [List.length_append,List.length_singleton]
    omega
theorem itoa_pos (u : Nat) : Lib.itoa (u : Int) = Lib.decDigits u := by unfold Lib.itoa; rw [if_neg (by omega)]; simp
theorem up_app : ∀ (a b : List UInt8) (n m : Nat),Lib.parseUint10 n a = .ok m → Lib.parseUint10 n (a ++ b) = Lib.parseUint10 m b
 | [],b,n,m,h => by
   simp only [Lib.parseUint10,Lib.NumEnd.ok.injEq] at h
   rw [h]; rfl
 | c :: r,b,n,m,h => by
   simp only [Lib.parseUint10] at h
   rw [List.cons_append,Lib.parseUint10]
   split at h
   ·rename_i h1
    split at h
    ·cases h
    ·rename_i h2
     split at h
     ·cases h
     ·rename_i h3
      rw [if_pos h1,if_neg h2,if_neg h3]
      exact up_app r b _ m h
   ·cases h
theorem up_dec (u : Nat) (hu : u < 10 ^ 18) : Lib.parseUint10 0 (Lib.decDigits u) = .ok u := by
 have e18 : (10 : Nat) ^ 18 = 1000000000000000000 := by decide
 induction u using Nat.strongRecOn with
 | _ u ih =>
   rw [Lib.decDigits]
   split
   ·rename_i h
    simp only [Lib.parseUint10]
    rw [dig_toNat h,if_pos (by omega),if_neg (by omega),if_neg (by omega)]
    congr 1; omega
   ·rename_i h
    rw [up_app _ _ 0 (u / 10) (ih (u / 10) (by omega) (by omega))]
    simp only [Lib.parseUint10]
    rw [dig_toNat (by omega),if_pos (by omega),if_neg (by omega),if_neg (by omega)]
    congr 1; omega
theorem dec_ne (u : Nat) : Lib.decDigits u ≠ [] := by
 rw [Lib.decDigits]; split <;> simp
theorem itoa_neg (u : Nat) (h : 0 < u) : Lib.itoa (-(u : Int)) = 45 :: Lib.decDigits u := by
 unfold Lib.itoa; rw [if_pos (by omega)]; simp
theorem readDecP_itoa (n : Int) (h : -1000000000000 ≤ n ∧ n ≤ 1000000000000) : readDecP (Lib.itoa n) = (n,true) := by
 have e18 : (10 : Nat) ^ 18 = 1000000000000000000 := by decide
 have e13 : (10 : Nat) ^ (13 + 1) = 100000000000000 := by decide
 by_cases hn : n < 0
 ·obtain ⟨u,rfl,hu0,hu⟩ : ∃ u : Nat,n = -(u : Int) ∧ 0 < u ∧ u ≤ 1000000000000 := ⟨n.natAbs,by omega,by omega,by omega⟩
  have hl := decDigits_len 13 u (by omega)
  unfold readDecP
  rw [itoa_neg u hu0]
  have ht : Lib.trimPrefix (45 :: Lib.decDigits u) [45] = Lib.decDigits u := by simp [Lib.trimPrefix,Lib.hasPrefix,List.isPrefixOf]
  have hp : Lib.parseIntB 64 (45 :: Lib.decDigits u) = .ok (-(u : Int)) := by
   have hm : Lib.parseMag (Lib.decDigits u) = .ok u := by rw [Lib.parseMag,if_neg (dec_ne u),up_dec u (by omega)]
   rw [Lib.parseIntB_64,Lib.atoiAll]
   simp only [show (45 : UInt8).toNat = 45 from rfl,or_true,if_true,hm]
   rw [if_neg (by simp),if_neg (by simp; omega)]
  rw [ht,if_neg (by omega),hp]
  simp only [itoa_neg u hu0,if_true]
 ·obtain ⟨u,rfl,hu⟩ : ∃ u : Nat,n = (u : Int) ∧ u ≤ 1000000000000 := ⟨n.toNat,by omega,by omega⟩
  have hl := decDigits_len 13 u (by omega)
  unfold readDecP
  rw [itoa_pos u]
  cases hd : Lib.decDigits u with
  | nil => exact absurd hd (dec_ne u)
  | cons c r =>
    have hc := decDigits_dig u c (by rw [hd]; simp)
    have h45 : c ≠ 45 := fun e => by subst e; simp at hc
    have ht : Lib.trimPrefix (c :: r) [45] = c :: r := by simp [Lib.trimPrefix,Lib.hasPrefix,List.isPrefixOf,Ne.symm h45]
    have hp : Lib.parseIntB 64 (c :: r) = .ok (u : Int) := by
     have hm : Lib.parseMag (c :: r) = .ok u := by rw [← hd,Lib.parseMag,if_neg (dec_ne u),up_dec u (by omega)]
     rw [Lib.parseIntB_64,Lib.atoiAll]
     have h1 : ¬ c.toNat = 43 := by omega
     have h2 : ¬ c.toNat = 45 := by omega
     simp only [h1,h2,or_self,if_false,hm,not_false_eq_true,true_and,false_and]
     rw [if_neg (by omega)]
    rw [ht,← hd,if_neg (by omega),hd,hp]
    simp only [itoa_pos u,hd,if_true]
theorem itoa_len (n : Int) (h : -1000000000000 ≤ n ∧ n ≤ 1000000000000) : 1 ≤ (Lib.itoa n).length ∧ (Lib.itoa n).length ≤ 15 := by
 have e13 : (10 : Nat) ^ (13 + 1) = 100000000000000 := by decide
 unfold Lib.itoa
 split
 ·have := decDigits_len 13 n.natAbs (by omega)
  simp; omega
 ·have := decDigits_len 13 n.toNat (by omega)
  omega
theorem itoa_ne (n : Int) : Lib.itoa n ≠ [45] := by
 unfold Lib.itoa
 split
 ·have := dec_ne n.natAbs
  intro e; simp at e; exact this e
 ·intro e
  have := decDigits_dig n.toNat 45 (by rw [e]; simp)
  simp at this
theorem itoa_mem (n : Int) (c : UInt8) (hc : c ∈ Lib.itoa n) : c = 45 ∨ 48 ≤ c.toNat ∧ c.toNat ≤ 57 := by
 unfold Lib.itoa at hc
 split at hc
 ·rcases List.mem_cons.1 hc with h | h
  ·exact .inl h
  ·exact .inr (decDigits_dig _ c h)
 ·exact .inr (decDigits_dig _ c hc)
theorem itoa_no (n : Int) {c : UInt8} (h : c ≠ 45) (h' : c.toNat < 48 ∨ 57 < c.toNat) : c ∉ Lib.itoa n := fun e => by
 rcases itoa_mem n c e with h1 | h1
 ·exact h h1
 ·omega
theorem join_cons2 (x y : List UInt8) (r : List (List UInt8)) (c : UInt8) : Lib.join (x :: y :: r) [c] = x ++ c :: Lib.join (y :: r) [c] := by
 rw [Lib.join_cons,Lib.join_cons]
 simp [Lib.joinTail]
theorem split_join {c : UInt8} : ∀ (x : List UInt8) (r : List (List UInt8)),(∀ y,y ∈ x :: r → c ∉ y) →
 Lib.splitK [c] 0 (Lib.count (Lib.join (x :: r) [c]) [c]) (Lib.join (x :: r) [c]) = x :: r
 | x,[],h => by rw [Lib.join_one]; exact split1_last (h x (by simp))
 | x,y :: r,h => by
   rw [join_cons2,split1_cons _ (h x (by simp)),split_join y r fun z hz => h z (List.mem_cons_of_mem _ hz)]
theorem lens_bd {m : Nat} : ∀ (l : List (List UInt8)),(∀ x,x ∈ l → x.length ≤ m) → Lib.lens l ≤ m * l.length
 | [],_ => by simp [Lib.lens]
 | x :: r,h => by
   have h1 := lens_bd r fun y hy => h y (List.mem_cons_of_mem _ hy)
   have h2 := h x (by simp)
   have e : Lib.lens (x :: r) = x.length + Lib.lens r := by simp [Lib.lens]
   rw [e,List.length_cons,Nat.mul_succ]; omega
theorem join_len {m : Nat} {c : UInt8} (l : List (List UInt8)) (h : ∀ x,x ∈ l → x.length ≤ m) : (Lib.join l [c]).length ≤ (m + 1) * l.length := by
 cases l with
 | nil => simp [Lib.join_nil]
 | cons x r =>
   have h1 := lens_bd (x :: r) h
   rw [Lib.join_length,Nat.add_mul,List.length_singleton,List.length_cons] at *
   omega
def listP (l : List Int) : List UInt8 := Lib.join (l.map Lib.itoa) [44]
theorem listP_len (l : List Int) (hl : l.length ≤ 64) (hx : ∀ x,x ∈ l → -1000000000000 ≤ x ∧ x ≤ 1000000000000) : (listP l).length ≤ 1024 := by
 have h := join_len (m := 15) (c := 44) (l.map Lib.itoa) fun x hx' => by
  obtain ⟨n,hn,rfl⟩ := List.mem_map.1 hx'
  exact (itoa_len n (hx n hn)).2
 rw [List.length_map] at h
 have : (listP l).length ≤ 16 * l.length := h
 omega
theorem impl_ReadDecimal_ok (n : Int) (h : -1000000000000 ≤ n ∧ n ≤ 1000000000000) : impl_ReadDecimal (Lib.itoa n) = some (n,true) := by
 rw [impl_ReadDecimal_eq,readDecP_itoa n h]
theorem impl_ListText_p0_ok (l : List Int) (hl : l.length ≤ 64) (hx : ∀ x,x ∈ l → -1000000000000 ≤ x ∧ x ≤ 1000000000000) : ∀ (k i : Nat),i + k = l.length → impl_ListText_p0 l l.length i ((l.take i).map Lib.itoa) = some (listP l)
 | 0,i,hk => by
   rw [impl_ListText_p0_eq]
   have : ¬ (i : Int) < (l.length : Int) := by omega
   have hb := listP_len l hl hx
   have e : (Lib.join (l.map Lib.itoa) [44]).length ≤ 140737488355328 := by
    have : (Lib.join (l.map Lib.itoa) [44]).length ≤ 1024 := hb
    omega
   rw [List.take_length,List.take_of_length_le (by omega : l.length ≤ i)]
   simp only [this,decide_false,Bool.false_eq_true,if_false,strings_Join_eq]
   have e2 : (l.map Lib.itoa).length ≤ 140737488355328 := by rw [List.length_map]; omega
   simp only [e2,e,decide_true,Bool.and_self,if_true,Option.bind_some]
   rfl
 | k + 1,i,hk => by
   have hi : i < l.length := by omega
   have hlt : (i : Int) < (l.length : Int) := by omega
   have hi0 : (0 : Int) ≤ (i : Int) := by omega
   have hb := hx l[i] (List.getElem_mem hi)
   have hr : inR l[i] (-1000000000000) 1000000000000 = true := inR_iff'.2 hb
   have hlim : ((l.take i).map Lib.itoa).length + 1 < lim := by rw [lim_eq,List.length_map,List.length_take]; omega
   rw [impl_ListText_p0_eq]
   simp only [hlt,decide_true,if_true,hi0,Int.toNat_natCast,getElem?_lt hi,Option.bind_some,impl_within_ok,hr,Bool.not_true,Bool.false_eq_true,if_false,impl_Decimal_ok l[i] (by omega),hlim,wsucc (show i < 4611686018427387904 by omega)]
   have := impl_ListText_p0_ok l hl hx k (i + 1) (by omega)
   rw [List.take_length]
   rw [show (l.take (i + 1)).map Lib.itoa = (l.take i).map Lib.itoa ++ [Lib.itoa l[i]] by rw [List.take_add_one,getElem?_lt hi,List.map_append]; rfl] at this
   exact this
theorem impl_ListText_ok (l : List Int) (h0 : l ≠ []) (hl : l.length ≤ 64) (hx : ∀ x,x ∈ l → -1000000000000 ≤ x ∧ x ≤ 1000000000000) : impl_ListText l = some (listP l) := by
 rw [impl_ListText_eq,impl_few_eq]
 have h1 : (l.length : Int) ≤ 64 := by omega
 have h2 : ((l.length : Int) == 0) = false := by
  rw [beq_eq_false_iff_ne]
  intro e
  exact h0 (List.length_eq_zero_iff.1 (by omega))
 simp only [h1,decide_true,Option.bind_some,Bool.not_true,Bool.false_eq_true,if_false,h2]
 exact impl_ListText_p0_ok l hl hx l.length 0 (by omega)
theorem impl_ReadList_p0_ok (l : List Int) (hl : l.length ≤ 64) (hx : ∀ x,x ∈ l → -1000000000000 ≤ x ∧ x ≤ 1000000000000) : ∀ (k i : Nat),i + k = l.length → impl_ReadList_p0 (l.map Lib.itoa) l.length i (l.take i) = some (l,true)
 | 0,i,hk => by
   rw [impl_ReadList_p0_eq]
   have : ¬ (i : Int) < (l.length : Int) := by omega
   simp only [this,decide_false,Bool.false_eq_true,if_false,List.take_length,List.take_of_length_le (by omega : l.length ≤ i)]
 | k + 1,i,hk => by
   have hi : i < l.length := by omega
   have hlt : (i : Int) < (l.length : Int) := by omega
   have hi0 : (0 : Int) ≤ (i : Int) := by omega
   have hb := hx l[i] (List.getElem_mem hi)
   have hr : inR l[i] (-1000000000000) 1000000000000 = true := inR_iff'.2 hb
   have hlim : (l.take i).length + 1 < lim := by rw [lim_eq,List.length_take]; omega
   have hg : (l.map Lib.itoa)[i]? = some (Lib.itoa l[i]) := by rw [List.getElem?_map,getElem?_lt hi]; rfl
   have h64 : (((l.take i).length : Int) == 64) = false := by rw [beq_eq_false_iff_ne,List.length_take]; omega
   rw [impl_ReadList_p0_eq]
   simp only [hlt,decide_true,if_true,hi0,Int.toNat_natCast,hg,Option.bind_some,impl_ReadDecimal_ok l[i] hb,impl_within_ok,hr,Bool.not_true,Bool.false_eq_true,if_false,h64,hlim,wsucc (show i < 4611686018427387904 by omega)]
   have := impl_ReadList_p0_ok l hl hx k (i + 1) (by omega)
   rw [List.take_length]
   rw [List.take_add_one,getElem?_lt hi] at this
   simpa using this
theorem impl_ReadList_ok (l : List Int) (h0 : l ≠ []) (hl : l.length ≤ 64) (hx : ∀ x,x ∈ l → -1000000000000 ≤ x ∧ x ≤ 1000000000000) : impl_ReadList (listP l) = some (l,true) := by
 have hb := listP_len l hl hx
 have hs : Lib.splitK [44] 0 (Lib.count (listP l) [44]) (listP l) = l.map Lib.itoa := by
  cases l with
  | nil => exact absurd rfl h0
  | cons a r =>
    unfold listP
    rw [List.map_cons]
    exact split_join _ _ fun y hy => by
     have hy' : y ∈ (a :: r).map Lib.itoa := hy
     obtain ⟨n,hn,rfl⟩ := List.mem_map.1 hy'
     exact itoa_no n (by decide) (by decide)
 have hne : (listP l == [45]) = false := by
  rw [beq_eq_false_iff_ne]
  intro e
  cases l with
  | nil => exact absurd rfl h0
  | cons a r =>
    unfold listP at e
    rw [List.map_cons,Lib.join_cons] at e
    have h1 := (itoa_len a (hx a (by simp))).1
    cases hi : Lib.itoa a with
    | nil => rw [hi] at h1; simp at h1
    | cons c t =>
      rw [hi,List.cons_append] at e
      injection e with e1 e2
      have e3 := (List.append_eq_nil_iff.1 e2).1
      exact itoa_ne a (by rw [hi,e1,e3])
 rw [impl_ReadList_eq]
 simp only [hne,Bool.false_eq_true,if_false,strings_Split_eq]
 have h1 : (listP l).length < 4294967281 := by omega
 simp only [h1,List.length_singleton,Nat.le_refl,decide_true,Bool.and_self,if_true,Option.bind_some,hs,List.length_map]
 exact impl_ReadList_p0_ok l hl hx l.length 0 (by omega)
theorem join_no {c d : UInt8} (hcd : c ≠ d) : ∀ (x : List UInt8) (r : List (List UInt8)),(∀ y,y ∈ x :: r → c ∉ y) → c ∉ Lib.join (x :: r) [d]
 | x,[],h => by rw [Lib.join_one]; exact h x (by simp)
 | x,y :: r,h => by
   rw [join_cons2]
   intro e
   rcases List.mem_append.1 e with e | e
   ·exact h x (by simp) e
   ·rcases List.mem_cons.1 e with e | e
    ·exact hcd e
    ·exact join_no hcd y r (fun z hz => h z (List.mem_cons_of_mem _ hz)) e
theorem listP_no {l : List Int} {c : UInt8} (h0 : l ≠ []) (h1 : c ≠ 44) (h2 : c ≠ 45) (h3 : c.toNat < 48 ∨ 57 < c.toNat) : c ∉ listP l := by
 cases l with
 | nil => exact absurd rfl h0
 | cons a r =>
   unfold listP
   rw [List.map_cons]
   exact join_no h1 _ _ fun y hy => by
    have hy' : y ∈ (a :: r).map Lib.itoa := hy
    obtain ⟨n,hn,rfl⟩ := List.mem_map.1 hy'
    exact itoa_no n h2 h3
theorem listP_ne {l : List Int} (h0 : l ≠ []) : listP l ≠ [] := by
 cases l with
 | nil => exact absurd rfl h0
 | cons a r =>
   unfold listP
   rw [List.map_cons,Lib.join_cons]
   intro e
   have := (List.append_eq_nil_iff.1 e).1
   unfold Lib.itoa at this
   split at this
   ·cases this
   ·exact dec_ne _ this
theorem impl_SplitWords_3 (a b c : List UInt8) (ha : a ≠ []) (hb : b ≠ []) (hc : c ≠ []) (ha' : (32 : UInt8) ∉ a) (hb' : (32 : UInt8) ∉ b) (hc' : (32 : UInt8) ∉ c) (hl : a.length + b.length + c.length < 1000000) :
 impl_SplitWords (a ++ 32 :: (b ++ 32 :: c)) = some [a,b,c] := by
 have hs : Lib.splitK [32] 0 (Lib.count (a ++ 32 :: (b ++ 32 :: c)) [32]) (a ++ 32 :: (b ++ 32 :: c)) = [a,b,c] := by
  rw [split1_cons _ ha',split1_cons _ hb',split1_last hc']
 have hlen : (a ++ 32 :: (b ++ 32 :: c)).length < 4294967281 := by
  simp only [List.length_append,List.length_cons]; omega
 have h1 : (1 : Nat) ≤ ([32] : List UInt8).length := by decide
 have w1 : IntKind.i64.wrap (0 + 1) = 1 := by decide
 have w2 : IntKind.i64.wrap (1 + 1) = 2 := by decide
 have w3 : IntKind.i64.wrap (2 + 1) = 3 := by decide
 have na : (a == []) = false := by simpa using ha
 have nb : (b == []) = false := by simpa using hb
 have nc : (c == []) = false := by simpa using hc
 have l0 : 0 + 1 < lim := by rw [lim_eq]; omega
 have l1 : 1 + 1 < lim := by rw [lim_eq]; omega
 have l2 : 2 + 1 < lim := by rw [lim_eq]; omega
 have e3 : impl_SplitWords_p0 [a,b,c] 3 3 [a,b,c] = some [a,b,c] := by
  rw [impl_SplitWords_p0_eq]
  rfl
 have e2 : impl_SplitWords_p0 [a,b,c] 3 2 [a,b] = some [a,b,c] := by
  rw [impl_SplitWords_p0_eq]
  have g : ([a,b,c] : List (List UInt8))[(2 : Int).toNat]? = some c := rfl
  have c1 : (0 : Int) ≤ 2 := by decide
  have c2 : (2 : Int) < 3 := by decide
  have c3 : ([a,b] : List (List UInt8)).length + 1 < lim := l2
  simp only [c2,c1,decide_true,if_true,g,Option.bind_some,nc,Bool.not_false,c3,w3]
  exact e3
 have e1 : impl_SplitWords_p0 [a,b,c] 3 1 [a] = some [a,b,c] := by
  rw [impl_SplitWords_p0_eq]
  have g : ([a,b,c] : List (List UInt8))[(1 : Int).toNat]? = some b := rfl
  have c1 : (0 : Int) ≤ 1 := by decide
  have c2 : (1 : Int) < 3 := by decide
  have c3 : ([a] : List (List UInt8)).length + 1 < lim := l1
  simp only [c2,c1,decide_true,if_true,g,Option.bind_some,nb,Bool.not_false,c3,w2]
  exact e2
 have e0 : impl_SplitWords_p0 [a,b,c] 3 0 [] = some [a,b,c] := by
  rw [impl_SplitWords_p0_eq]
  have g : ([a,b,c] : List (List UInt8))[(0 : Int).toNat]? = some a := rfl
  have c1 : (0 : Int) ≤ 0 := by decide
  have c2 : (0 : Int) < 3 := by decide
  have c3 : ([] : List (List UInt8)).length + 1 < lim := l0
  simp only [c2,c1,decide_true,if_true,g,Option.bind_some,na,Bool.not_false,c3,w1]
  exact e1
 rw [impl_SplitWords_eq,strings_Split_eq]
 simp only [hlen,decide_true,h1,Bool.and_self,if_true,hs,Option.bind_some]
 exact e0
theorem isName_mem {s : List UInt8} (h : isName s = true) : (∀ c,c ∈ s → small c = true ∨ digit c = true) ∧ s.length ≤ 10 := by
 cases s with
 | nil => simp [isName] at h
 | cons c r =>
   simp only [isName,Bool.and_eq_true,List.all_eq_true,Bool.or_eq_true,decide_eq_true_eq] at h
   exact ⟨fun x hx => by
    rcases List.mem_cons.1 hx with rfl | hx
    ·exact .inl h.1.1
    ·exact h.1.2 x hx,h.2⟩
theorem isName_no {s : List UInt8} (h : isName s = true) {c : UInt8} (hc : c.toNat < 48) : c ∉ s := fun e => by
 rcases (isName_mem h).1 c e with h1 | h1
 ·simp [small] at h1; omega
 ·simp [digit] at h1; omega
theorem impl_named_ok (id : List UInt8) (l : List Int) (hid : id.length ≤ 1000000) (h0 : l ≠ []) (hl : l.length ≤ 64) (hx : ∀ x,x ∈ l → -1000000000000 ≤ x ∧ x ≤ 1000000000000) :
 impl_named id l = some (id ++ 32 :: listP l) := by
 have hb := listP_len l hl hx
 rw [impl_named_eq,impl_ListText_ok l h0 hl hx]
 have e1 : id.length + 1 ≤ strMax := by rw [strMax_eq]; omega
 have e2 : id.length + 1 + (listP l).length ≤ strMax := by rw [strMax_eq]; omega
 simp only [List.length_append,List.length_singleton,e1,decide_true,if_true,Option.bind_some,e2,List.append_assoc]
 rfl
def risesAt (lo hi : Int) (l : List Int) (i : Nat) : Bool := inR ((l[i]?).getD 0) lo hi && (decide (i = 0) || decide ((l[i - 1]?).getD 0 < (l[i]?).getD 0))
def risesB (lo hi : Int) (l : List Int) : Bool := (List.range' 0 l.length).all (risesAt lo hi l)
theorem spec_l00Rises_ok (l : List Int) (lo hi : Int) (hs : l.length ≤ 1048576) : spec_l00Rises l lo hi = some (risesB lo hi l) := by
 rw [spec_l00Rises_eq,risesB]
 have := idxLoop l.length (risesAt lo hi l) (fun i => spec_l00Rises_p0 l lo hi i) (some false) (some true) (fun i hi' => ?_) ?_ l.length 0 (by omega)
 ·rw [show ((0 : Nat) : Int) = 0 from rfl] at this
  rw [this]; cases (List.range' 0 l.length).all (risesAt lo hi l) <;> rfl
 ·have hlt : (i : Int) < (l.length : Int) := by omega
  have hw : IntKind.i64.wrap ((i : Int) + 1) = ((i + 1 : Nat) : Int) := by rw [w64 (by omega) (by omega)]; omega
  show spec_l00Rises_p0 l lo hi i = _
  rw [spec_l00Rises_p0_eq]
  simp only [hlt,decide_true,if_true,Int.natCast_nonneg,Int.toNat_natCast,List.getElem?_eq_getElem hi',Option.bind_some,spec_l00In_ok,hw,risesAt,Option.getD_some]
  cases inR l[i] lo hi
  ·simp
  ·by_cases h0 : i = 0
   ·subst h0; simp
   ·have hp : (i : Int) > 0 := by omega
    have hw2 : IntKind.i64.wrap ((i : Int) - 1) = ((i - 1 : Nat) : Int) := by rw [w64 (by omega) (by omega)]; omega
    simp only [hp,decide_true,if_true,hw2,Int.natCast_nonneg,Int.toNat_natCast,List.getElem?_eq_getElem (show i - 1 < l.length by omega),Option.bind_some,Option.getD_some,h0,decide_false,Bool.false_or,Bool.not_true,Bool.false_eq_true,if_false,Bool.true_and]
    by_cases hc : l[i - 1] < l[i]
    ·have : ¬ l[i - 1] ≥ l[i] := by omega
     simp [hc,this]
    ·have : l[i - 1] ≥ l[i] := by omega
     simp [hc,this]
 ·show spec_l00Rises_p0 l lo hi (l.length : Int) = _
  rw [spec_l00Rises_p0_eq]; simp
theorem risesB_at {lo hi : Int} {l : List Int} (h : risesB lo hi l = true) {i : Nat} (hi' : i < l.length) : risesAt lo hi l i = true :=
 List.all_eq_true.1 h i (by simp; omega)
theorem risesB_lt {lo hi : Int} {l : List Int} (h : risesB lo hi l = true) : ∀ (d i : Nat),(hi' : i + d < l.length) → l[i]'(by omega) ≤ l[i + d] ∧ (0 < d → l[i]'(by omega) < l[i + d])
 | 0,i,hi' => ⟨Int.le_refl _,fun h => absurd h (Nat.lt_irrefl _)⟩
 | d + 1,i,hi' => by
   have h1 := (risesB_lt h d i (by omega)).1
   have h2 := risesB_at h (i := i + d + 1) (by omega)
   simp only [risesAt,Bool.and_eq_true,Bool.or_eq_true,decide_eq_true_eq,List.getElem?_eq_getElem (show i + d + 1 < l.length by omega),Nat.add_sub_cancel,List.getElem?_eq_getElem (show i + d < l.length by omega),Option.getD_some] at h2
   have h3 : l[i + d] < l[i + d + 1] := by rcases h2.2 with h | h; · omega
                                           ·exact h
   have h4 : l[i + (d + 1)] = l[i + d + 1] := rfl
   exact ⟨by rw [h4]; omega,fun _ => by rw [h4]; omega⟩
theorem risesB_last {l : List Int} (h : risesB 0 11 l = true) (i : Int) (hi' : 0 ≤ i) : risesB 0 (i - 1) l = !(decide (0 < l.length) && decide (i ≤ l.getLastD 0)) := by
 by_cases hl : l = []
 ·subst hl; rfl
 have hpos : 0 < l.length := List.length_pos_iff.2 hl
 have hla : l.getLastD 0 = l[l.length - 1] := by
  rw [List.getLastD_eq_getLast?,List.getLast?_eq_getElem?,List.getElem?_eq_getElem (by omega)]; rfl
 rw [hla]
 by_cases hc : i ≤ l[l.length - 1]
 ·have : risesB 0 (i - 1) l = false := by
   rw [Bool.eq_false_iff]
   intro h2
   have := risesB_at h2 (i := l.length - 1) (by omega)
   simp only [risesAt,Bool.and_eq_true,inR,decide_eq_true_eq,List.getElem?_eq_getElem (show l.length - 1 < l.length by omega),Option.getD_some] at this
   omega
  rw [this]; simp [hpos,hc]
 ·have : risesB 0 (i - 1) l = true := by
   refine List.all_eq_true.2 fun j hj => ?_
   have hjl : j < l.length := by simp at hj; omega
   have h1 := risesB_at h hjl
   simp only [risesAt,Bool.and_eq_true,inR,decide_eq_true_eq,List.getElem?_eq_getElem hjl,Option.getD_some] at h1 ⊢
   have h2 := (risesB_lt h (l.length - 1 - j) j (by omega)).1
   have h3 : l[j + (l.length - 1 - j)]'(by omega) = l[l.length - 1] := by congr 1; omega
   rw [h3] at h2
   exact ⟨⟨h1.1.1,by omega⟩,h1.2⟩
  rw [this]; simp [hpos,hc]
def stepOk (x : T_Step.ty) : Bool := isName x.1 && (inR x.2.1 1 200 && (inR x.2.2.1 0 20 && risesB 0 11 x.2.2.2.1))
def stepC (xs : List T_Step.ty) (i : Nat) : Bool := stepOk (stAt xs i) && (risesB 0 ((i : Int) - 1) (stAt xs i).2.2.2.1 && (List.range' 0 i).all fun j => !decide ((stAt xs j).1 = (stAt xs i).1))
def stepsOk (xs : List T_Step.ty) : Bool := (List.range' 0 xs.length).all (stepC xs) && decide ((xs.length : Int) ≤ 12)
theorem stAt_eq (xs : List T_Step.ty) {i : Nat} (h : i < xs.length) : stAt xs i = xs[i] := by simp [stAt,List.getElem?_eq_getElem h]
theorem spec_l17One_ok (x : T_Step.ty) (h0 : x.1.length ≤ 1048576) (h1 : List.length (α := Int) x.2.2.2.1 ≤ 1048576) : spec_l17One x = some (stepOk x) := by
 rw [spec_l17One_eq,stepOk]
 simp only [spec_l01Name_ok x.1 (Nat.lt_of_le_of_lt h0 (by decide)),spec_l00In_ok,spec_l00Rises_ok _ _ _ h1,Option.bind_some]
 cases isName x.1 <;> cases inR x.2.1 1 200 <;> cases inR x.2.2.1 0 20 <;> simp
theorem spec_l17Ok_ok (xs : List T_Step.ty) (hs : xs.length ≤ 1048576) (hx : ∀ x,x ∈ xs → x.1.length ≤ 1048576 ∧ List.length (α := Int) x.2.2.2.1 ≤ 1048576) : spec_l17Ok xs = some (stepsOk xs) := by
 rw [spec_l17Ok_eq,stepsOk]
 have := idxLoop xs.length (stepC xs) (fun i => spec_l17Ok_p0 xs i) (some false) (some (decide ((xs.length : Int) ≤ 12))) (fun i hi' => ?_) ?_ xs.length 0 (by omega)
 ·rw [show ((0 : Nat) : Int) = 0 from rfl] at this
  rw [this]; cases (List.range' 0 xs.length).all (stepC xs) <;> rfl
 ·have hlt : (i : Int) < (xs.length : Int) := by omega
  have hw : IntKind.i64.wrap ((i : Int) + 1) = ((i + 1 : Nat) : Int) := by rw [w64 (by omega) (by omega)]; omega
  have hw2 : IntKind.i64.wrap ((i : Int) - 1) = (i : Int) - 1 := by rw [w64 (by omega) (by omega)]
  obtain ⟨g1,g2⟩ := hx xs[i] (List.getElem_mem hi')
  show spec_l17Ok_p0 xs i = _
  rw [spec_l17Ok_p0_eq]
  simp only [hlt,decide_true,if_true,Int.natCast_nonneg,Int.toNat_natCast,List.getElem?_eq_getElem hi',Option.bind_some,spec_l17One_ok _ g1 g2,spec_l00Rises_ok _ _ _ g2,hw2,stepC,stAt_eq xs hi']
  cases stepOk xs[i]
  ·simp
  cases risesB 0 ((i : Int) - 1) xs[i].2.2.2.1
  ·simp
  simp only [Bool.not_true,Bool.false_eq_true,if_false,Bool.true_and]
  rw [spec_l17Ok_p1_eq]
  have := idxLoop i (fun j => !decide ((stAt xs j).1 = xs[i].1)) (fun j => spec_l17Ok_p2 xs i xs[i].1 xs[i].2.1 xs[i].2.2.1 xs[i].2.2.2.1 j) (some false) (spec_l17Ok_p0 xs ((i + 1 : Nat) : Int)) (fun j hj => ?_) ?_ i 0 (by omega)
  ·rw [show ((0 : Nat) : Int) = 0 from rfl] at this
   rw [this]
  ·have hlt : (j : Int) < (i : Int) := by omega
   have hw : IntKind.i64.wrap ((j : Int) + 1) = ((j + 1 : Nat) : Int) := by rw [w64 (by omega) (by omega)]; omega
   show spec_l17Ok_p2 xs i _ _ _ _ j = _
   rw [spec_l17Ok_p2_eq]
   simp only [hlt,decide_true,if_true,Int.natCast_nonneg,Int.toNat_natCast,List.getElem?_eq_getElem (show j < xs.length by omega),Option.bind_some,hw,stAt_eq xs (show j < xs.length by omega)]
   by_cases hc : xs[j].1 = xs[i].1
   ·simp [hc]
   ·simp [hc]
  ·show spec_l17Ok_p2 xs i _ _ _ _ (i : Int) = _
   rw [spec_l17Ok_p2_eq]
   simp [hw]
 ·show spec_l17Ok_p0 xs (xs.length : Int) = _
  rw [spec_l17Ok_p0_eq]; simp
theorem impl_Step_valid_core (a : List UInt8) (b c : Int) (l : List Int) (h0 : a.length ≤ 1048576) (h1 : l.length ≤ 1048576) : impl_Step_valid (a,b,c,l,()) = some (stepOk (a,b,c,l,())) := by
 rw [impl_Step_valid_eq]
 show impl_Step_valid_p0 l (l.length : Int) 0 a b c l = _
 have := idxLoop l.length (risesAt 0 11 l) (fun i => impl_Step_valid_p0 l (l.length : Int) i a b c l) (some false) (some (isName a && (inR b 1 200 && inR c 0 20))) (fun i hi' => ?_) ?_ l.length 0 (by omega)
 ·rw [show ((0 : Nat) : Int) = 0 from rfl] at this
  rw [this,stepOk]
  show _ = some (isName a && (inR b 1 200 && (inR c 0 20 && risesB 0 11 l)))
  rw [risesB]
  cases (List.range' 0 l.length).all (risesAt 0 11 l) <;> cases isName a <;> cases inR b 1 200 <;> cases inR c 0 20 <;> rfl
 ·have hlt : (i : Int) < (l.length : Int) := by omega
  have hw : IntKind.i64.wrap ((i : Int) + 1) = ((i + 1 : Nat) : Int) := by rw [w64 (by omega) (by omega)]; omega
  show impl_Step_valid_p0 l (l.length : Int) i a b c l = _
  rw [impl_Step_valid_p0_eq]
  simp only [hlt,decide_true,if_true,Int.natCast_nonneg,Int.toNat_natCast,List.getElem?_eq_getElem hi',Option.bind_some,impl_within_ok,hw,risesAt,Option.getD_some]
  cases inR l[i] 0 11
  ·simp
  ·by_cases h0 : i = 0
   ·subst h0; simp
   ·have hp : (i : Int) > 0 := by omega
    have hw2 : IntKind.i64.wrap ((i : Int) - 1) = ((i - 1 : Nat) : Int) := by rw [w64 (by omega) (by omega)]; omega
    simp only [hp,decide_true,if_true,hw2,Int.natCast_nonneg,Int.toNat_natCast,List.getElem?_eq_getElem (show i - 1 < l.length by omega),Option.bind_some,Option.getD_some,h0,decide_false,Bool.false_or,Bool.not_true,Bool.false_eq_true,if_false,Bool.true_and]
    by_cases hc : l[i - 1] < l[i]
    ·have : ¬ l[i - 1] ≥ l[i] := by omega
     simp [hc,this]
    ·have : l[i - 1] ≥ l[i] := by omega
     simp [hc,this]
 ·show impl_Step_valid_p0 l (l.length : Int) (l.length : Int) a b c l = _
  rw [impl_Step_valid_p0_eq]
  simp only [Int.lt_irrefl,decide_false,Bool.false_eq_true,if_false,impl_IsName_ok a (Nat.lt_of_le_of_lt h0 (by decide)),impl_within_ok,Option.bind_some]
  cases isName a <;> cases inR b 1 200 <;> simp
theorem impl_Step_valid_ok (x : T_Step.ty) (h0 : x.1.length ≤ 1048576) (h1 : List.length (α := Int) x.2.2.2.1 ≤ 1048576) : impl_Step_valid x = some (stepOk x) := impl_Step_valid_core x.1 x.2.1 x.2.2.1 x.2.2.2.1 h0 h1
theorem vsSeen_all (ids : Nat → List UInt8) (k : Nat) : ∀ n,vsSeen ids k n = !((List.range' 0 n).all fun j => !decide (ids j = ids k))
 | 0 => rfl
 | n + 1 => by
   rw [vsSeen,vsSeen_all ids k n,List.range'_1_concat,List.all_append]
   simp only [Nat.zero_add,List.all_cons,List.all_nil,Bool.and_true,Bool.not_and,Bool.not_not]
theorem vsGo_all (xs : List T_Step.ty) (ok : Nat → Bool) (fin : Bool) (hok : ∀ i,i < xs.length → ok i = stepOk (stAt xs i)) : ∀ (k i : Nat),i + k = xs.length →
 vsGo (fun j => (stAt xs j).1) (fun j => List.length (α := Int) (stAt xs j).2.2.2.1) (fun j => List.getLastD (α := Int) (stAt xs j).2.2.2.1 0) ok fin k i = ((List.range' i k).all (stepC xs) && fin)
 | 0,i,hk => by simp [vsGo]
 | k + 1,i,hk => by
   rw [vsGo,hok i (by omega),vsGo_all xs ok fin hok k (i + 1) (by omega),List.range'_succ,List.all_cons,vsSeen_all,stepC]
   cases h : stepOk (stAt xs i)
   ·simp
   ·have hr : risesB 0 11 (stAt xs i).2.2.2.1 = true := by
     simp only [stepOk,Bool.and_eq_true] at h
     exact h.2.2.2
    rw [risesB_last hr i (by omega)]
    cases (List.range' 0 i).all fun j => !decide ((stAt xs j).1 = (stAt xs i).1)
    ·simp
    ·cases (decide (0 < List.length (α := Int) (stAt xs i).2.2.2.1) && decide ((i : Int) ≤ List.getLastD (α := Int) (stAt xs i).2.2.2.1 0)) <;> simp
theorem impl_ValidSteps_ok (xs : List T_Step.ty) (hs : xs.length ≤ 1048576) (hx : ∀ x,x ∈ xs → x.1.length ≤ 1048576 ∧ List.length (α := Int) x.2.2.2.1 ≤ 1048576) : impl_ValidSteps xs = some (stepsOk xs) := by
 rw [impl_ValidSteps_eq,vsF]
 have h1 : (xs.all fun x => (impl_Step_valid x).isSome && (decide (List.length (α := UInt8) x.1 ≤ 9223372036854775807) && decide (List.length (α := Int) x.2.2.2.1 ≤ 9223372036854775807))) = true := by
  refine List.all_eq_true.2 fun x hm => ?_
  obtain ⟨g1,g2⟩ := hx x hm
  rw [impl_Step_valid_ok x g1 g2,decide_eq_true (show List.length (α := UInt8) x.1 ≤ 9223372036854775807 by omega),decide_eq_true (show List.length (α := Int) x.2.2.2.1 ≤ 9223372036854775807 by omega)]
  rfl
 rw [h1,decide_eq_true (show xs.length ≤ 9223372036854775807 by omega)]
 simp only [Bool.and_self,if_true,impl_few_eq,Option.bind_some]
 rw [vsGo_all xs _ _ (fun i hi' => ?_) xs.length 0 (by omega),stepsOk]
 obtain ⟨g1,g2⟩ := hx xs[i] (List.getElem_mem hi')
 rw [stAt_eq xs hi',impl_Step_valid_ok _ g1 g2]
 rfl
def startsOk (xs : List T_Step.ty) (l : List Int) : Bool := (l.all fun x => inR x 0 2400) && decide (l.length = xs.length)
def sHrs (xs : List T_Step.ty) (i : Nat) : Int := (stAt xs i).2.1
def sClp (xs : List T_Step.ty) (i : Nat) : Int := (stAt xs i).2.2.1
def sAft (xs : List T_Step.ty) (i : Nat) : List Int := (stAt xs i).2.2.2.1
def sBeg (l : List Int) (i : Nat) : Int := (l[i]?).getD 0
theorem sBeg_get {l : List Int} {i : Nat} (h : i < l.length) : l[i]? = some (sBeg l i) := by simp [sBeg,List.getElem?_eq_getElem h]
theorem st_get {xs : List T_Step.ty} {i : Nat} (h : i < xs.length) : xs[i]? = some (stAt xs i) := by rw [stAt_eq xs h,List.getElem?_eq_getElem h]
structure StepsFit (xs : List T_Step.ty) (l : List Int) : Prop where
 len : l.length = xs.length
 few : xs.length ≤ 12
 hrs : ∀ i,i < xs.length → 1 ≤ sHrs xs i ∧ sHrs xs i ≤ 200
 clp : ∀ i,i < xs.length → 0 ≤ sClp xs i ∧ sClp xs i ≤ 20
 beg : ∀ i,0 ≤ sBeg l i ∧ sBeg l i ≤ 2400
 aft : ∀ i,i < xs.length → ∀ j,j < (sAft xs i).length → 0 ≤ sBeg (sAft xs i) j ∧ sBeg (sAft xs i) j < (i : Int)
 al : ∀ i,i < xs.length → (sAft xs i).length ≤ 1048576
theorem stepsFit {xs : List T_Step.ty} {l : List Int} (h1 : stepsOk xs = true) (h2 : startsOk xs l = true) (hx : ∀ y : T_Step.ty,y ∈ xs → List.length (α := Int) y.2.2.2.1 ≤ 1048576) : StepsFit xs l := by
 simp only [stepsOk,startsOk,Bool.and_eq_true,decide_eq_true_eq] at h1 h2
 have hc : ∀ i,i < xs.length → stepC xs i = true := fun i hi => List.all_eq_true.1 h1.1 i (by simp; omega)
 have ho : ∀ i,i < xs.length → stepOk (stAt xs i) = true ∧ risesB 0 ((i : Int) - 1) (sAft xs i) = true := fun i hi => by
  have := hc i hi
  simp only [stepC,Bool.and_eq_true] at this
  exact ⟨this.1,this.2.1⟩
 refine ⟨h2.2,by omega,fun i hi => ?_,fun i hi => ?_,fun i => ?_,fun i hi j hj => ?_,fun i hi => hx _ (List.mem_of_getElem? (st_get hi))⟩
 ·have := (ho i hi).1
  simp only [stepOk,Bool.and_eq_true,inR_iff'] at this
  exact this.2.1
 ·have := (ho i hi).1
  simp only [stepOk,Bool.and_eq_true,inR_iff'] at this
  exact this.2.2.1
 ·by_cases hi : i < l.length
  ·have := List.all_eq_true.1 h2.1 _ (List.mem_of_getElem? (sBeg_get hi))
   exact inR_iff'.1 this
  ·simp only [sBeg,List.getElem?_eq_none (show l.length ≤ i by omega),Option.getD_none]; omega
 ·have := risesB_at (ho i hi).2 hj
  simp only [risesAt,Bool.and_eq_true,inR_iff'] at this
  have e : sBeg (sAft xs i) j = ((sAft xs i)[j]?).getD 0 := rfl
  omega
def usedG (xs : List T_Step.ty) (l : List Int) (h : Int) (i : Nat) : Int := if decide (sBeg l i ≤ h) && decide (h < sBeg l i + sHrs xs i) then (if i < xs.length then sClp xs i else 0) else 0
def usedP (xs : List T_Step.ty) (l : List Int) (h : Int) : Int := sumG (usedG xs l h) 0 l.length
def mx (a b : Int) : Int := if b > a then b else a
theorem mx_le {a b c : Int} : mx a b ≤ c ↔ a ≤ c ∧ b ≤ c := by unfold mx; split <;> omega
theorem mx_l (a b : Int) : a ≤ mx a b := by unfold mx; split <;> omega
theorem mx_r (a b : Int) : b ≤ mx a b := by unfold mx; split <;> omega
theorem mx_if (a b : Int) : (if b > a then b else a) = mx a b := rfl
def bld (f : List Int → Nat → Int) : Nat → List Int
 | 0 => []
 | k + 1 => bld f k ++ [f (bld f k) k]
theorem bld_len (f : List Int → Nat → Int) : ∀ k,(bld f k).length = k
 | 0 => rfl
 | k + 1 => by rw [bld,List.length_append,bld_len f k]; rfl
theorem beg_app (l : List Int) (s : Int) (j : Nat) : sBeg (l ++ [s]) j = if j < l.length then sBeg l j else if j = l.length then s else 0 := by
 unfold sBeg
 by_cases h : j < l.length
 ·rw [if_pos h,List.getElem?_append_left h]
 ·rw [if_neg h,List.getElem?_append_right (by omega)]
  by_cases h2 : j = l.length
  ·subst h2; simp
  ·rw [if_neg h2,List.getElem?_eq_none (by simp; omega)]; rfl
theorem bld_beg (f : List Int → Nat → Int) : ∀ {j k : Nat},j < k → sBeg (bld f k) j = f (bld f j) j
 | j,k + 1,h => by
   rw [bld,beg_app,bld_len]
   by_cases h2 : j < k
   ·rw [if_pos h2,bld_beg f h2]
   ·have : j = k := by omega
    subst this
    rw [if_neg h2,if_pos rfl]
theorem bld_out (f : List Int → Nat → Int) {j k : Nat} (h : k ≤ j) : sBeg (bld f k) j = 0 := by
 unfold sBeg
 rw [List.getElem?_eq_none (by rw [bld_len]; exact h)]; rfl
theorem bld_same (f : List Int → Nat → Int) {j k m : Nat} (h : j < k) (h' : j < m) : sBeg (bld f k) j = sBeg (bld f m) j := by rw [bld_beg f h,bld_beg f h']
def freeAt (room : Int → Bool) : Nat → Int → Int
 | 0,h => h
 | k + 1,h => if room h then h else freeAt room k (h + 1)
theorem freeAt_ok (room : Int → Bool) (E : Int) (hE : ∀ h,E ≤ h → room h = true) : ∀ (k : Nat) (h : Int),h ≤ E → E - h ≤ k →
 h ≤ freeAt room k h ∧ freeAt room k h ≤ E ∧ room (freeAt room k h) = true
 | 0,h,h1,h2 => ⟨Int.le_refl _,h1,hE h (by omega)⟩
 | k + 1,h,h1,h2 => by
   unfold freeAt
   by_cases hr : room h = true
   ·rw [if_pos hr]; exact ⟨Int.le_refl _,h1,hr⟩
   ·rw [if_neg hr]
    have : h ≠ E := fun e => hr (hE h (by omega))
    obtain ⟨a,b,c⟩ := freeAt_ok room E hE k (h + 1) (by omega) (by omega)
    exact ⟨by omega,b,c⟩
theorem freeAt_now {room : Int → Bool} {h : Int} (hr : room h = true) (k : Nat) : freeAt room k h = h := by
 cases k with
 | zero => rfl
 | succ k => rw [freeAt,if_pos hr]
theorem sumG_congr {f g : Nat → Int} : ∀ (k i : Nat),(∀ j,i ≤ j → j < i + k → f j = g j) → sumG f i k = sumG g i k
 | 0,i,h => rfl
 | k + 1,i,h => by rw [sumG,sumG,h i (Nat.le_refl _) (by omega),sumG_congr k (i + 1) fun j h1 h2 => h j (by omega) (by omega)]
theorem sumG_snoc (f : Nat → Int) : ∀ (k i : Nat),sumG f i (k + 1) = sumG f i k + f (i + k)
 | 0,i => by simp [sumG]
 | k + 1,i => by
   rw [sumG,sumG_snoc f k (i + 1),show sumG f i (k + 1) = f i + sumG f (i + 1) k from rfl,show i + 1 + k = i + (k + 1) by omega]
   omega
theorem sumG_zero {f : Nat → Int} : ∀ (k i : Nat),(∀ j,i ≤ j → j < i + k → f j = 0) → sumG f i k = 0
 | 0,i,h => rfl
 | k + 1,i,h => by rw [sumG,h i (Nat.le_refl _) (by omega),sumG_zero k (i + 1) fun j h1 h2 => h j (by omega) (by omega)]; rfl
structure StFit (xs : List T_Step.ty) : Prop where
 few : xs.length ≤ 12
 hrs : ∀ i,i < xs.length → 1 ≤ sHrs xs i ∧ sHrs xs i ≤ 200
 clp : ∀ i,i < xs.length → 0 ≤ sClp xs i ∧ sClp xs i ≤ 20
 aft : ∀ i,i < xs.length → ∀ a,a ∈ sAft xs i → 0 ≤ a ∧ a < (i : Int)
 al : ∀ i,i < xs.length → (sAft xs i).length ≤ 1048576
theorem stFit {xs : List T_Step.ty} (h1 : stepsOk xs = true) (hx : ∀ y : T_Step.ty,y ∈ xs → List.length (α := Int) y.2.2.2.1 ≤ 1048576) : StFit xs := by
 have F := stepsFit (l := List.replicate xs.length 0) h1 (by
  rw [startsOk,Bool.and_eq_true]
  refine ⟨List.all_eq_true.2 fun x hx => ?_,by simp⟩
  rw [List.eq_of_mem_replicate hx]; decide) hx
 refine ⟨F.few,F.hrs,F.clp,fun i hi a ha => ?_,F.al⟩
 obtain ⟨j,hj,e⟩ := List.getElem_of_mem ha
 have := F.aft i hi j hj
 rw [show sBeg (sAft xs i) j = a by rw [sBeg,List.getElem?_eq_getElem hj,e]; rfl] at this
 exact this
structure BgFit (xs : List T_Step.ty) (l : List Int) : Prop where
 len : l.length ≤ xs.length
 beg : ∀ i,0 ≤ sBeg l i ∧ sBeg l i ≤ 2400
def rdyL (xs : List T_Step.ty) (l : List Int) : List Int → Int → Int
 | [],m => m
 | a :: r,m => rdyL xs l r (mx m (sBeg l a.toNat + sHrs xs a.toNat))
theorem rdyL_ge (xs : List T_Step.ty) (l : List Int) : ∀ (A : List Int) (m : Int),m ≤ rdyL xs l A m
 | [],m => Int.le_refl _
 | a :: r,m => Int.le_trans (mx_l _ _) (rdyL_ge xs l r _)
theorem rdyL_mem (xs : List T_Step.ty) (l : List Int) : ∀ (A : List Int) (m a : Int),a ∈ A → sBeg l a.toNat + sHrs xs a.toNat ≤ rdyL xs l A m
 | b :: r,m,a,h => by
   rcases List.mem_cons.1 h with rfl | h
   ·exact Int.le_trans (mx_r _ _) (rdyL_ge xs l r _)
   ·exact rdyL_mem xs l r _ a h
theorem rdyL_le {xs : List T_Step.ty} {l : List Int} {c : Int} : ∀ {A : List Int} {m : Int},m ≤ c → (∀ a,a ∈ A → sBeg l a.toNat + sHrs xs a.toNat ≤ c) → rdyL xs l A m ≤ c
 | [],m,h,_ => h
 | a :: r,m,h,h2 => rdyL_le (A := r) (m := mx m (sBeg l a.toNat + sHrs xs a.toNat)) (mx_le.2 ⟨h,h2 a (by simp)⟩) fun b hb => h2 b (by simp [hb])
def rdyP (xs : List T_Step.ty) (l : List Int) (i : Nat) : Int := rdyL xs l (sAft xs i) 0
theorem rdyP_same {xs : List T_Step.ty} {l l' : List Int} {i : Nat} (h : ∀ a,a ∈ sAft xs i → sBeg l a.toNat = sBeg l' a.toNat) : rdyP xs l i = rdyP xs l' i := by
 have h1 : rdyP xs l i ≤ rdyP xs l' i := rdyL_le (rdyL_ge _ _ _ _) fun a ha => by rw [h a ha]; exact rdyL_mem _ _ _ _ _ ha
 have h2 : rdyP xs l' i ≤ rdyP xs l i := rdyL_le (rdyL_ge _ _ _ _) fun a ha => by rw [← h a ha]; exact rdyL_mem _ _ _ _ _ ha
 omega
theorem usedG_bdS {xs : List T_Step.ty} (S : StFit xs) (l : List Int) (h : Int) (i : Nat) : 0 ≤ usedG xs l h i ∧ usedG xs l h i ≤ 20 := by
 unfold usedG
 split
 ·split
  ·rename_i hi; exact S.clp i hi
  ·omega
 ·omega
theorem usedP_bdS {xs : List T_Step.ty} (S : StFit xs) (l : List Int) (h : Int) : 0 ≤ usedP xs l h ∧ usedP xs l h ≤ 20 * (l.length : Int) := by
 have := sumG_bd (f := usedG xs l h) (lo := 0) (hi := 20) (by omega) (by omega) (usedG_bdS S l h) l.length 0
 unfold usedP; omega
theorem usedP_app {xs : List T_Step.ty} {l : List Int} (s h : Int) (hl : l.length < xs.length) : usedP xs (l ++ [s]) h = usedP xs l h + if decide (s ≤ h) && decide (h < s + sHrs xs l.length) then sClp xs l.length else 0 := by
 unfold usedP
 rw [List.length_append,show l.length + [s].length = l.length + 1 from rfl,sumG_snoc]
 congr 1
 ·refine sumG_congr _ _ fun j h1 h2 => ?_
  have e : sBeg (l ++ [s]) j = sBeg l j := by rw [beg_app,if_pos (by omega)]
  unfold usedG
  rw [e]
 ·rw [Nat.zero_add]
  have e : sBeg (l ++ [s]) l.length = s := by rw [beg_app,if_neg (Nat.lt_irrefl _),if_pos rfl]
  unfold usedG
  rw [e,if_pos hl]
def roomB (xs : List T_Step.ty) (l : List Int) (i : Nat) (cl h : Int) : Bool := (List.range' 0 (sHrs xs i).toNat).all fun d => decide (usedP xs l (h + (d : Int)) + sClp xs i ≤ cl)
theorem roomB_at {xs : List T_Step.ty} {l : List Int} {i : Nat} {cl h : Int} (hr : roomB xs l i cl h = true) {m : Int} (h1 : h ≤ m) (h2 : m < h + sHrs xs i) : usedP xs l m + sClp xs i ≤ cl := by
 have := List.all_eq_true.1 hr (m - h).toNat (by simp; omega)
 rw [decide_eq_true_eq,show h + (((m - h).toNat : Nat) : Int) = m by omega] at this
 exact this
def planF (xs : List T_Step.ty) (cl : Int) (l : List Int) (i : Nat) : Int := freeAt (roomB xs l i cl) 5000 (rdyP xs l i)
def clpOk (xs : List T_Step.ty) (cl : Int) (n : Nat) : Prop := ∀ i,i < n → sClp xs i ≤ cl
structure PlanOk (xs : List T_Step.ty) (cl : Int) (k : Nat) : Prop where
 beg : ∀ j,j < k → 0 ≤ sBeg (bld (planF xs cl) k) j ∧ sBeg (bld (planF xs cl) k) j + sHrs xs j ≤ 200 * ((j : Int) + 1)
 rdy : ∀ j,j < k → rdyP xs (bld (planF xs cl) k) j ≤ sBeg (bld (planF xs cl) k) j
 use : ∀ h,usedP xs (bld (planF xs cl) k) h ≤ mx 0 cl
theorem room_late {xs : List T_Step.ty} (S : StFit xs) {cl : Int} {k : Nat} (hk : k < xs.length) (hc : clpOk xs cl (k + 1)) (P : PlanOk xs cl k) : ∀ h,200 * (k : Int) ≤ h → roomB xs (bld (planF xs cl) k) k cl h = true := by
 intro h hh
 refine List.all_eq_true.2 fun d _ => decide_eq_true ?_
 have : usedP xs (bld (planF xs cl) k) (h + (d : Int)) = 0 := by
  refine sumG_zero _ _ fun j h1 h2 => ?_
  rw [bld_len] at h2
  have := P.beg j (by omega)
  unfold usedG
  rw [if_neg]
  simp only [Bool.and_eq_true,decide_eq_true_eq]
  omega
 have := hc k (by omega)
 omega
theorem rdy_bd {xs : List T_Step.ty} (S : StFit xs) {k : Nat} {l : List Int} (hk : k < xs.length) (hb : ∀ j,j < k → sBeg l j + sHrs xs j ≤ 200 * ((j : Int) + 1)) : 0 ≤ rdyP xs l k ∧ rdyP xs l k ≤ 200 * (k : Int) := by
 refine ⟨rdyL_ge _ _ _ _,rdyL_le (by omega) fun a ha => ?_⟩
 have h1 := S.aft k hk a ha
 have h2 := hb a.toNat (by omega)
 omega
theorem planF_ok {xs : List T_Step.ty} (S : StFit xs) {cl : Int} {k : Nat} (hk : k < xs.length) (hc : clpOk xs cl (k + 1)) (P : PlanOk xs cl k) :
 rdyP xs (bld (planF xs cl) k) k ≤ planF xs cl (bld (planF xs cl) k) k ∧ planF xs cl (bld (planF xs cl) k) k ≤ 200 * (k : Int) ∧ roomB xs (bld (planF xs cl) k) k cl (planF xs cl (bld (planF xs cl) k) k) = true := by
 have b := rdy_bd S (l := bld (planF xs cl) k) hk fun j hj => (P.beg j hj).2
 have := S.few
 exact freeAt_ok _ (200 * (k : Int)) (room_late S hk hc P) 5000 _ b.2 (by omega)
theorem planOk {xs : List T_Step.ty} (S : StFit xs) {cl : Int} : ∀ (k : Nat),k ≤ xs.length → clpOk xs cl k → PlanOk xs cl k
 | 0,_,_ => ⟨fun j h => by omega,fun j h => by omega,fun h => by
   show (0 : Int) ≤ mx 0 cl
   exact mx_l _ _⟩
 | k + 1,hk,hc => by
   have P := planOk S k (by omega) fun i hi => hc i (by omega)
   obtain ⟨f1,f2,f3⟩ := planF_ok S (by omega) hc P
   have f0 := rdy_bd S (l := bld (planF xs cl) k) (k := k) (by omega) fun j hj => (P.beg j hj).2
   have hh := S.hrs k (by omega)
   refine ⟨fun j hj => ?_,fun j hj => ?_,fun h => ?_⟩
   ·by_cases h : j < k
    ·rw [bld_same (planF xs cl) (k := k + 1) (m := k) (by omega) h]
     exact P.beg j h
    ·have : j = k := by omega
     subst this
     rw [bld_beg (planF xs cl) (by omega)]
     omega
   ·have e : rdyP xs (bld (planF xs cl) (k + 1)) j = rdyP xs (bld (planF xs cl) j) j := rdyP_same fun a ha => by
     have := S.aft j (by omega) a ha
     exact bld_same _ (by omega) (by omega)
    by_cases h : j < k
    ·have e2 : rdyP xs (bld (planF xs cl) k) j = rdyP xs (bld (planF xs cl) j) j := rdyP_same fun a ha => by
      have := S.aft j (by omega) a ha
      exact bld_same _ (by omega) (by omega)
     rw [e,← e2,bld_same (planF xs cl) (k := k + 1) (m := k) (by omega) h]
     exact P.rdy j h
    ·have : j = k := by omega
     subst this
     rw [e,bld_beg (planF xs cl) (by omega)]
     exact f1
   ·rw [bld,usedP_app _ _ (by rw [bld_len]; omega),bld_len]
    have u := P.use h
    split
    ·rename_i hc2
     simp only [Bool.and_eq_true,decide_eq_true_eq] at hc2
     have := roomB_at f3 hc2.1 hc2.2
     exact Int.le_trans this (mx_r _ _)
    ·omega
def endsP (xs : List T_Step.ty) (l : List Int) : Nat → Int
 | 0 => 0
 | k + 1 => mx (endsP xs l k) (sBeg l k + sHrs xs k)
theorem endsP_le {xs : List T_Step.ty} {l : List Int} {c : Int} (h0 : 0 ≤ c) : ∀ k,(∀ j,j < k → sBeg l j + sHrs xs j ≤ c) → endsP xs l k ≤ c
 | 0,_ => h0
 | k + 1,h => mx_le.2 ⟨endsP_le h0 k fun j hj => h j (by omega),h k (by omega)⟩
theorem endsP_ge {xs : List T_Step.ty} {l : List Int} : ∀ {k j : Nat},j < k → sBeg l j + sHrs xs j ≤ endsP xs l k
 | k + 1,j,h => by
   by_cases h2 : j < k
   ·exact Int.le_trans (endsP_ge h2) (mx_l _ _)
   ·have : j = k := by omega
    subst this; exact mx_r _ _
theorem plan_many {xs : List T_Step.ty} (S : StFit xs) : ∀ k,k ≤ xs.length → bld (planF xs 240) k = bld (rdyP xs) k
 | 0,_ => rfl
 | k + 1,hk => by
   have ih := plan_many S k (by omega)
   rw [bld,bld,ih]
   congr 2
   refine freeAt_now (List.all_eq_true.2 fun d _ => decide_eq_true ?_) _
   have h1 := (usedP_bdS S (bld (rdyP xs) k) (rdyP xs (bld (rdyP xs) k) k + (d : Int))).2
   rw [bld_len] at h1
   have h2 := S.clp k (by omega)
   have := S.few
   omega
theorem early_bd {xs : List T_Step.ty} (S : StFit xs) {n : Nat} (hn : n ≤ xs.length) : ∀ j,j < n → 0 ≤ sBeg (bld (rdyP xs) n) j ∧ sBeg (bld (rdyP xs) n) j + sHrs xs j ≤ 200 * ((j : Int) + 1) := by
 intro j hj
 have hc : clpOk xs 240 n := fun i hi => by have := S.clp i (by omega); omega
 have P := planOk S n hn hc
 rw [← plan_many S n hn]
 exact P.beg j hj
theorem plan_fit {xs : List T_Step.ty} (S : StFit xs) {cl : Int} {k : Nat} (hk : k ≤ xs.length) (hc : clpOk xs cl k) : BgFit xs (bld (planF xs cl) k) := by
 have P := planOk S k hk hc
 have := S.few
 refine ⟨by rw [bld_len]; exact hk,fun i => ?_⟩
 by_cases h : i < k
 ·have := P.beg i h
  have := S.hrs i (by omega)
  omega
 ·rw [bld_out _ (by omega)]; omega
theorem early_fit {xs : List T_Step.ty} (S : StFit xs) {k : Nat} (hk : k ≤ xs.length) : BgFit xs (bld (rdyP xs) k) := by
 rw [← plan_many S k hk]
 exact plan_fit S hk fun i hi => by have := S.clp i (by omega); omega
def totalP (xs : List T_Step.ty) : Int := endsP xs (bld (rdyP xs) xs.length) xs.length
theorem aft_at {xs : List T_Step.ty} (S : StFit xs) {l : List Int} (B : BgFit xs l) {i j : Nat} (hi : i < xs.length) (hl : i ≤ l.length) (hj : j < (sAft xs i).length) :
 0 ≤ (sAft xs i)[j] ∧ ((sAft xs i)[j]).toNat < xs.length ∧ ((sAft xs i)[j]).toNat < l.length ∧ (sAft xs i)[j] < (i : Int) ∧
   IntKind.i64.wrap (sBeg l ((sAft xs i)[j]).toNat + sHrs xs ((sAft xs i)[j]).toNat) = sBeg l ((sAft xs i)[j]).toNat + sHrs xs ((sAft xs i)[j]).toNat ∧
   0 ≤ sBeg l ((sAft xs i)[j]).toNat + sHrs xs ((sAft xs i)[j]).toNat ∧ sBeg l ((sAft xs i)[j]).toNat + sHrs xs ((sAft xs i)[j]).toNat ≤ 2600 := by
 have h1 := S.aft i hi _ (List.getElem_mem hj)
 have h2 := B.beg ((sAft xs i)[j]).toNat
 have h3 := S.hrs ((sAft xs i)[j]).toNat (by omega)
 exact ⟨h1.1,by omega,by omega,h1.2,by rw [w64 (by omega) (by omega)],by omega,by omega⟩
theorem impl_ready_okN {xs : List T_Step.ty} {l : List Int} (S : StFit xs) (B : BgFit xs l) {i : Nat} (hi : i < xs.length) (hl : i ≤ l.length) : impl_ready xs l i = some (rdyP xs l i) := by
 have hal := S.al i hi
 rw [impl_ready_eq]
 simp only [Int.natCast_nonneg,decide_true,if_true,Int.toNat_natCast,st_get hi,Option.bind_some]
 show impl_ready_p0 xs l 0 (sAft xs i) ((sAft xs i).length : Int) 0 = some (rdyL xs l (sAft xs i) 0)
 have loop : ∀ (k j : Nat) (m : Int),j + k = (sAft xs i).length → 0 ≤ m → m ≤ 10000 → impl_ready_p0 xs l m (sAft xs i) ((sAft xs i).length : Int) j = some (rdyL xs l ((sAft xs i).drop j) m) := by
  intro k
  induction k with
  | zero =>
    intro j m hk h0 h1
    rw [impl_ready_p0_eq,List.drop_eq_nil_of_le (by omega)]
    have : ¬ (j : Int) < ((sAft xs i).length : Int) := by omega
    simp only [this,decide_false,Bool.false_eq_true,if_false,rdyL]
  | succ k ih =>
    intro j m hk h0 h1
    have hj : j < (sAft xs i).length := by omega
    have hlj : (j : Int) < ((sAft xs i).length : Int) := by omega
    have hwj : IntKind.i64.wrap ((j : Int) + 1) = ((j + 1 : Nat) : Int) := by rw [w64 (by omega) (by omega)]; omega
    obtain ⟨q1,q2,q3,q4,q5,q6,q7⟩ := aft_at S B hi hl hj
    have q5' : IntKind.i64.wrap (sBeg l ((sAft xs i)[j]).toNat + (stAt xs ((sAft xs i)[j]).toNat).2.1) = sBeg l ((sAft xs i)[j]).toNat + sHrs xs ((sAft xs i)[j]).toNat := q5
    rw [impl_ready_p0_eq,List.drop_eq_getElem_cons hj]
    simp only [Int.natCast_nonneg,decide_true,if_true,Int.toNat_natCast,Option.bind_some,hlj,List.getElem?_eq_getElem hj,q1,sBeg_get q3,st_get q2,q5',hwj,mx_if,rdyL]
    exact ih (j + 1) _ (by omega) (Int.le_trans h0 (mx_l _ _)) (mx_le.2 ⟨h1,by omega⟩)
 have := loop (sAft xs i).length 0 0 (by omega) (by omega) (by omega)
 rwa [List.drop_zero] at this
theorem impl_ended_okN {xs : List T_Step.ty} {l : List Int} (S : StFit xs) (B : BgFit xs l) (hl : l.length = xs.length) : impl_ended xs l = some (endsP xs l xs.length) := by
 have hf := S.few
 have loop : ∀ (k i : Nat),i + k = xs.length → impl_ended_p0 l (endsP xs l i) xs xs.length i = some (endsP xs l xs.length) := by
  intro k
  induction k with
  | zero =>
    intro i hk
    obtain rfl : i = xs.length := by omega
    rw [impl_ended_p0_eq]
    simp only [Int.lt_irrefl,decide_false,Bool.false_eq_true,if_false]
  | succ k ih =>
    intro i hk
    have hi : i < xs.length := by omega
    have hlt : (i : Int) < (xs.length : Int) := by omega
    have hwi : IntKind.i64.wrap ((i : Int) + 1) = ((i + 1 : Nat) : Int) := by rw [w64 (by omega) (by omega)]; omega
    have h2 := B.beg i
    have h3 := S.hrs i hi
    have hw : IntKind.i64.wrap (sBeg l i + (stAt xs i).2.1) = sBeg l i + sHrs xs i := by
     show IntKind.i64.wrap (sBeg l i + sHrs xs i) = _
     rw [w64 (by omega) (by omega)]
    rw [impl_ended_p0_eq]
    simp only [hlt,Int.natCast_nonneg,decide_true,if_true,Int.toNat_natCast,sBeg_get (show i < l.length by omega),st_get hi,Option.bind_some,hw,mx_if,hwi]
    exact ih (i + 1) (by omega)
 rw [impl_ended_eq]
 exact loop xs.length 0 (by omega)
structure StSmall (xs : List T_Step.ty) : Prop where
 ok : stepsOk xs = true
 s1 : xs.length ≤ 1048576
 s2 : ∀ x,x ∈ xs → x.1.length ≤ 1048576 ∧ List.length (α := Int) x.2.2.2.1 ≤ 1048576
theorem StSmall.fit {xs : List T_Step.ty} (h : StSmall xs) : StFit xs := stFit h.ok fun y hy => (h.s2 y hy).2
theorem risesB_of {lo hi : Int} {l : List Int} (h1 : ∀ a,a ∈ l → lo ≤ a ∧ a ≤ hi) (h2 : l.Pairwise (· < ·)) : risesB lo hi l = true := by
 refine List.all_eq_true.2 fun i hi' => ?_
 have hi2 : i < l.length := by simp at hi'; omega
 rw [risesAt,Bool.and_eq_true,List.getElem?_eq_getElem hi2]
 refine ⟨inR_iff'.2 (h1 _ (List.getElem_mem hi2)),?_⟩
 by_cases h0 : i = 0
 ·simp [h0]
 ·have := List.pairwise_iff_getElem.1 h2 (i - 1) i (by omega) hi2 (by omega)
  rw [List.getElem?_eq_getElem (by omega : i - 1 < l.length)]
  simp [this]
theorem drawAft_loop (id : List UInt8) (h cl : Int) (n : Nat) (hn : n ≤ 100) (c0 : Int) : ∀ (k j : Nat) (s : T_l00Src.ty) (c : Int) (R : List Int) (e1 : List UInt8) (e2 e3 : Int),j + k = n → SrcOk s c → c + 2 * (k : Int) ≤ 100000000000000000 → R.length ≤ j → R.Pairwise (· < ·) → (∀ a,a ∈ R → 0 ≤ a ∧ a < (j : Int)) →
 ∃ (R' : List Int) (s' : T_l00Src.ty),spec_l17DrawOne_p0 n j s.1 s.2.1 s.2.2.1 e1 e2 e3 id h cl R = some ((id,h,cl,R',()),s') ∧ SrcOk s' (c + 2 * (k : Int)) ∧ R'.length ≤ n ∧ R'.Pairwise (· < ·) ∧ ∀ a,a ∈ R' → 0 ≤ a ∧ a < (n : Int)
 | 0,j,s,c,R,e1,e2,e3,hk,hs,hc,h1,h2,h3 => by
   obtain rfl : j = n := by omega
   refine ⟨R,s,?_,by simpa using hs,h1,h2,h3⟩
   rw [spec_l17DrawOne_p0_eq]
   simp only [Int.lt_irrefl,decide_false,Bool.false_eq_true,if_false,List.take_length]
 | k + 1,j,s,c,R,e1,e2,e3,hk,hs,hc,h1,h2,h3 => by
   have hlt : (j : Int) < (n : Int) := by omega
   have hw : IntKind.i64.wrap ((j : Int) + 1) = ((j + 1 : Nat) : Int) := by rw [w64 (by omega) (by omega)]; omega
   obtain ⟨u,s1,q1,k1⟩ := one_ok hs (by omega) 3 (by omega)
   have hlim : R.length + 1 < lim := by rw [lim_eq]; omega
   rw [spec_l17DrawOne_p0_eq]
   simp only [hlt,decide_true,if_true,src_eta,q1,Option.bind_some,hlim,hw,List.take_length]
   cases u
   ·simp only [Bool.false_eq_true,if_false]
    obtain ⟨R',s',z1,z2,z3⟩ := drawAft_loop id h cl n hn c0 k (j + 1) s1 (c + 2) R e1 e2 e3 (by omega) k1 (by omega) (by omega) h2 fun a ha => by have := h3 a ha; omega
    exact ⟨R',s',z1,z2.up (by omega),z3⟩
   ·simp only [if_true]
    obtain ⟨R',s',z1,z2,z3⟩ := drawAft_loop id h cl n hn c0 k (j + 1) s1 (c + 2) (R ++ [(j : Int)]) e1 e2 e3 (by omega) k1 (by omega) (by simp; omega) (by
     rw [List.pairwise_append]
     refine ⟨h2,by simp,fun a ha b hb => ?_⟩
     rw [List.mem_singleton] at hb
     subst hb
     exact (h3 a ha).2) fun a ha => by
      rcases List.mem_append.1 ha with ha | ha
      ·have := h3 a ha; omega
      ·rw [List.mem_singleton] at ha; omega
    exact ⟨R',s',z1,z2.up (by omega),z3⟩
theorem spec_l17DrawOne_ok {s : T_l00Src.ty} {c : Int} (hs : SrcOk s c) (hc : c ≤ 10000000000000000) (id : List UInt8) (n : Nat) (hn : n ≤ 100) :
 ∃ (h cl : Int) (R : List Int) (s' : T_l00Src.ty),spec_l17DrawOne s id n = some ((id,h,cl,R,()),s') ∧ SrcOk s' (c + 1000) ∧ (1 ≤ h ∧ h ≤ 12) ∧ (0 ≤ cl ∧ cl ≤ 6) ∧ R.length ≤ n ∧ R.Pairwise (· < ·) ∧ ∀ a,a ∈ R → 0 ≤ a ∧ a < (n : Int) := by
 obtain ⟨u,s1,q1,k1,b1,b2⟩ := pick_ok hs (by omega) 12 (by omega)
 obtain ⟨v,s2,q2,k2,b3,b4⟩ := pick_ok k1 (by omega) 7 (by omega)
 obtain ⟨R,s',z1,z2,z3,z4,z5⟩ := drawAft_loop id (1 + u) v n hn 0 n 0 s2 (c + 2 + 2) [] [] 0 0 (by omega) k2 (by omega) (by simp) List.Pairwise.nil (by simp)
 refine ⟨1 + u,v,R,s',?_,z2.up (by omega),by omega,by omega,z3,z4,z5⟩
 rw [spec_l17DrawOne_eq]
 simp only [q1,q2,src_eta,Option.bind_some,w64 (n := 1 + u) (by omega) (by omega)]
 exact z1
structure DrawnSt (N : List (List UInt8)) (k : Nat) (r : List T_Step.ty) : Prop where
 len : r.length ≤ k
 ok : ∀ i,i < r.length → stepC r i = true
 hrs : ∀ i,i < r.length → sHrs r i ≤ 12
 id : ∀ i,i < r.length → (stAt r i).1 ∈ N.take k
 al : ∀ i,i < r.length → List.length (α := Int) (stAt r i).2.2.2.1 ≤ 100
theorem stAt_app (r : List T_Step.ty) (x : T_Step.ty) (i : Nat) : stAt (r ++ [x]) i = if i < r.length then stAt r i else if i = r.length then x else stAt [] 0 := by
 unfold stAt
 by_cases h : i < r.length
 ·rw [if_pos h,List.getElem?_append_left h]
 ·rw [if_neg h,List.getElem?_append_right (by omega)]
  by_cases h2 : i = r.length
  ·subst h2; simp
  ·rw [if_neg h2,List.getElem?_eq_none (by simp; omega)]; rfl
theorem stepC_app {r : List T_Step.ty} {x : T_Step.ty} {i : Nat} (h : i < r.length) : stepC (r ++ [x]) i = stepC r i := by
 have e : ∀ j,j ≤ i → stAt (r ++ [x]) j = stAt r j := fun j hj => by rw [stAt_app,if_pos (by omega)]
 have e2 : ((List.range' 0 i).all fun j => !decide ((stAt (r ++ [x]) j).1 = (stAt r i).1)) = (List.range' 0 i).all fun j => !decide ((stAt r j).1 = (stAt r i).1) := by
  rw [Bool.eq_iff_iff,List.all_eq_true,List.all_eq_true]
  constructor
  ·intro h2 j hj
   have := h2 j hj
   rwa [e j (by simp at hj; omega)] at this
  ·intro h2 j hj
   have := h2 j hj
   rwa [e j (by simp at hj; omega)]
 unfold stepC
 rw [e i (Nat.le_refl _),e2]
theorem drawnSt_add {N : List (List UInt8)} {k : Nat} {r : List T_Step.ty} (D : DrawnSt N k r) (hN : N.Nodup) (hk : k < N.length) (hk2 : k ≤ 11) (hname : ∀ x,x ∈ N → isName x = true) {h cl : Int} {R : List Int} (b1 : 1 ≤ h ∧ h ≤ 12) (b2 : 0 ≤ cl ∧ cl ≤ 6) (b3 : R.length ≤ r.length) (b4 : R.Pairwise (· < ·)) (b5 : ∀ a,a ∈ R → 0 ≤ a ∧ a < (r.length : Int)) :
 DrawnSt N (k + 1) (r ++ [(N[k],h,cl,R,())]) := by
 have dl := D.len
 have sub : ∀ x,x ∈ N.take k → x ∈ N.take (k + 1) := fun x hx => by
  rw [List.take_add_one]; exact List.mem_append_left _ hx
 have last : stAt (r ++ [(N[k],h,cl,R,())]) r.length = (N[k],h,cl,R,()) := by rw [stAt_app,if_neg (Nat.lt_irrefl _),if_pos rfl]
 have old : ∀ i,i < r.length → stAt (r ++ [(N[k],h,cl,R,())]) i = stAt r i := fun i hi => by rw [stAt_app,if_pos hi]
 have split : ∀ i,i < (r ++ [((N[k],h,cl,R,()) : T_Step.ty)]).length → i < r.length ∨ i = r.length := fun i hi => by
  rw [List.length_append] at hi
  have : [((N[k],h,cl,R,()) : T_Step.ty)].length = 1 := rfl
  omega
 refine ⟨by rw [List.length_append]; exact Nat.succ_le_succ dl,fun i hi => ?_,fun i hi => ?_,fun i hi => ?_,fun i hi => ?_⟩
 ·rcases split i hi with h' | rfl
  ·rw [stepC_app h']; exact D.ok i h'
  ·rw [stepC,last,Bool.and_eq_true,Bool.and_eq_true]
   refine ⟨?_,risesB_of (fun a ha => by have := b5 a ha; omega) b4,?_⟩
   ·simp only [stepOk,Bool.and_eq_true]
    exact ⟨hname _ (List.getElem_mem hk),inR_iff'.2 (by omega),inR_iff'.2 (by omega),risesB_of (fun a ha => by have := b5 a ha; omega) b4⟩
   ·refine List.all_eq_true.2 fun j hj => ?_
    have hj2 : j < r.length := by simp at hj; omega
    rw [old j hj2]
    have hm := D.id j hj2
    have hne : ¬ (stAt r j).1 = N[k] := fun e => by
     rw [e] at hm
     obtain ⟨i,hi1,hi2⟩ := List.mem_take_iff_getElem.1 hm
     have := (List.getElem_inj hN).1 hi2
     omega
    simp [hne]
 ·rcases split i hi with h' | rfl
  ·show (stAt (r ++ _) i).2.1 ≤ 12
   rw [old i h']; exact D.hrs i h'
  ·show (stAt (r ++ _) r.length).2.1 ≤ 12
   rw [last]; exact b1.2
 ·rcases split i hi with h' | rfl
  ·rw [old i h']; exact sub _ (D.id i h')
  ·rw [last,List.take_add_one,List.getElem?_eq_getElem hk]
   exact List.mem_append_right _ (List.mem_singleton.2 rfl)
 ·rcases split i hi with h' | rfl
  ·rw [old i h']; exact D.al i h'
  ·rw [last]; show R.length ≤ 100; omega
theorem DrawnSt.more {N : List (List UInt8)} {k : Nat} {r : List T_Step.ty} (D : DrawnSt N k r) : DrawnSt N (k + 1) r :=
 ⟨Nat.le_succ_of_le D.len,D.ok,D.hrs,fun i hi => by rw [List.take_add_one]; exact List.mem_append_left _ (D.id i hi),D.al⟩
def drawNames : List (List UInt8) := [[111,112,101,110],[99,108,101,97,110],[103,108,117,101],[112,97,116,99,104],[99,108,111,115,101],[112,111,108,105,115,104]]
theorem drawSteps_loop : ∀ (k i : Nat) (s : T_l00Src.ty) (c : Int) (r : List T_Step.ty),i + k = 6 → SrcOk s c → c ≤ 1000000000000000 + 2000 * (i : Int) → DrawnSt drawNames i r →
 ∃ (r' : List T_Step.ty) (s' : T_l00Src.ty),spec_l17Draw_p0 i s.1 s.2.1 s.2.2.1 drawNames r = some (r',s') ∧ SrcOk s' (c + 2000 * (k : Int)) ∧ DrawnSt drawNames 6 r'
 | 0,i,s,c,r,hk,hs,hc,D => by
   obtain rfl : i = 6 := by omega
   refine ⟨r,s,?_,by simpa using hs,D⟩
   rw [spec_l17Draw_p0_eq]
   have : ¬ ((6 : Nat) : Int) < (drawNames.length : Int) := by decide
   simp only [this,decide_false,Bool.false_eq_true,if_false,List.take_length]
 | k + 1,i,s,c,r,hk,hs,hc,D => by
   have hl : drawNames.length = 6 := rfl
   have hi : i < drawNames.length := by omega
   have hlt : (i : Int) < (drawNames.length : Int) := by omega
   have hw : IntKind.i64.wrap ((i : Int) + 1) = ((i + 1 : Nat) : Int) := by rw [w64 (by omega) (by omega)]; omega
   obtain ⟨u,s1,q1,k1,b1,b2⟩ := pick_ok hs (by omega) 3 (by omega)
   have dl := D.len
   have hlim : r.length + 1 < lim := by rw [lim_eq]; omega
   rw [spec_l17Draw_p0_eq]
   simp only [hlt,decide_true,if_true,src_eta,q1,Option.bind_some,Int.natCast_nonneg,Bool.and_self,Int.toNat_natCast,List.getElem?_eq_getElem hi,hlim,hw,List.take_length]
   by_cases hu : u > 0
   ·obtain ⟨h,cl,R,s2,q2,k2,z1,z2,z3,z4,z5⟩ := spec_l17DrawOne_ok k1 (by omega) drawNames[i] r.length (by omega)
    simp only [hu,decide_true,if_true,q2,Option.bind_some]
    obtain ⟨r',s',y1,y2,y3⟩ := drawSteps_loop k (i + 1) s2 (c + 2 + 1000) _ (by omega) k2 (by omega) (drawnSt_add D (by decide) hi (by omega) (by decide) z1 z2 z3 z4 z5)
    exact ⟨r',s',y1,y2.up (by omega),y3⟩
   ·simp only [hu,decide_false,Bool.false_eq_true,if_false]
    obtain ⟨r',s',y1,y2,y3⟩ := drawSteps_loop k (i + 1) s1 (c + 2) _ (by omega) k1 (by omega) D.more
    exact ⟨r',s',y1,y2.up (by omega),y3⟩
theorem spec_l17Draw_ok {s : T_l00Src.ty} {c : Int} (hs : SrcOk s c) (hc : c ≤ 1000000000000000) : ∃ (xs : List T_Step.ty) (s' : T_l00Src.ty),spec_l17Draw s = some (xs,s') ∧ SrcOk s' (c + 12000) ∧ StSmall xs ∧ xs.length ≤ 6 ∧ ∀ i,i < xs.length → sHrs xs i ≤ 12 := by
 obtain ⟨r,s',e,k1,D⟩ := drawSteps_loop 6 0 s c [] (by omega) hs (by omega) ⟨Nat.le_refl _,fun i hi => absurd hi (Nat.not_lt_zero _),fun i hi => absurd hi (Nat.not_lt_zero _),fun i hi => absurd hi (Nat.not_lt_zero _),fun i hi => absurd hi (Nat.not_lt_zero _)⟩
 have dl := D.len
 refine ⟨r,s',?_,k1.up (by omega),⟨?_,by omega,fun x hx => ?_⟩,dl,D.hrs⟩
 ·rw [spec_l17Draw_eq]; exact e
 ·rw [stepsOk,Bool.and_eq_true]
  exact ⟨List.all_eq_true.2 fun i hi => D.ok i (by simp at hi; omega),by simp; omega⟩
 ·obtain ⟨i,hi,e2⟩ := List.getElem_of_mem hx
  have h1 := D.al i hi
  have h2 := D.ok i hi
  rw [stAt_eq r hi,e2] at h1
  rw [stepC,Bool.and_eq_true,stAt_eq r hi,e2,stepOk,Bool.and_eq_true] at h2
  refine ⟨?_,by omega⟩
  have h3 := h2.1.1
  unfold isName at h3
  split at h3
  ·cases h3
  ·rename_i e3
   simp only [Bool.and_eq_true,decide_eq_true_eq] at h3
   omega
theorem spec_R8Steps_ok (code : List Int) (h1 : ∀ x,x ∈ code → 0 ≤ x ∧ x ≤ 255) (h2 : code.length ≤ 1048576) : ∃ xs : List T_Step.ty,spec_R8Steps code = some xs ∧ StSmall xs ∧ xs.length ≤ 6 ∧ ∀ i,i < xs.length → sHrs xs i ≤ 12 := by
 obtain ⟨s,e,k⟩ := from_ok code h1 h2
 obtain ⟨xs,s',e2,_,q⟩ := spec_l17Draw_ok k (by omega)
 rw [spec_R8Steps_eq]
 simp only [e,e2,Option.bind_some]
 exact ⟨xs,rfl,q⟩
theorem beg_set (L : List Int) (k : Nat) (v : Int) (j : Nat) : sBeg (L.set k v) j = if j = k ∧ k < L.length then v else sBeg L j := by
 unfold sBeg
 by_cases h : k = j
 ·subst h
  by_cases h2 : k < L.length
  ·rw [List.getElem?_set_self h2,if_pos ⟨rfl,h2⟩]; rfl
  ·rw [List.set_eq_of_length_le (by omega),if_neg (by omega)]
 ·rw [List.getElem?_set_ne h,if_neg (by omega)]
theorem beg_set_ne {L : List Int} {k j : Nat} (v : Int) (h : j ≠ k) : sBeg (L.set k v) j = sBeg L j := by rw [beg_set,if_neg (by omega)]
theorem beg_set_eq {L : List Int} {k : Nat} (v : Int) (h : k < L.length) : sBeg (L.set k v) k = v := by rw [beg_set,if_pos ⟨rfl,h⟩]
def mn (a b : Int) : Int := if b < a then b else a
theorem mn_le (a b : Int) : mn a b ≤ a ∧ mn a b ≤ b := by unfold mn; split <;> omega
theorem le_mn {a b c : Int} (h1 : c ≤ a) (h2 : c ≤ b) : c ≤ mn a b := by unfold mn; split <;> omega
def lateIn (i : Nat) : List Int → List Int → List Int
 | [],L => L
 | a :: r,L => lateIn i r (L.set a.toNat (mn (sBeg L a.toNat) (sBeg L i)))
def lateGo (xs : List T_Step.ty) : Nat → List Int → List Int
 | 0,L => L
 | i + 1,L => lateGo xs i (lateIn i (sAft xs i) (L.set i (sBeg L i - sHrs xs i)))
def earlyB (xs : List T_Step.ty) (j : Nat) : Int := sBeg (bld (rdyP xs) xs.length) j
theorem earlyB_eq {xs : List T_Step.ty} (S : StFit xs) {i : Nat} (hi : i < xs.length) : earlyB xs i = rdyP xs (bld (rdyP xs) xs.length) i := by
 unfold earlyB
 rw [bld_beg (rdyP xs) hi]
 exact rdyP_same fun a ha => by
  have := S.aft i hi a ha
  exact bld_same _ (by omega) (by omega)
theorem earlyB_aft {xs : List T_Step.ty} (S : StFit xs) {i : Nat} (hi : i < xs.length) {a : Int} (ha : a ∈ sAft xs i) : earlyB xs a.toNat + sHrs xs a.toNat ≤ earlyB xs i := by
 rw [earlyB_eq S hi]
 exact rdyL_mem _ _ _ _ _ ha
theorem earlyB_bd {xs : List T_Step.ty} (S : StFit xs) {i : Nat} (hi : i < xs.length) : 0 ≤ earlyB xs i ∧ earlyB xs i + sHrs xs i ≤ totalP xs ∧ totalP xs ≤ 2400 := by
 refine ⟨(early_bd S (Nat.le_refl _) i hi).1,endsP_ge hi,endsP_le (by omega) _ fun j hj => ?_⟩
 have := early_bd S (Nat.le_refl _) j hj
 have := S.few
 omega
structure LateM (xs : List T_Step.ty) (i : Nat) (D : List Int) (L : List Int) : Prop where
 len : L.length = xs.length
 hi : ∀ j,i ≤ j → j < xs.length → sBeg L j + sHrs xs j ≤ totalP xs ∧ earlyB xs j ≤ sBeg L j
 lo : ∀ j,j < i → j < xs.length → sBeg L j ≤ totalP xs ∧ earlyB xs j + sHrs xs j ≤ sBeg L j
 ord : ∀ j,i < j → j < xs.length → ∀ a,a ∈ sAft xs j → (if i ≤ a.toNat then sBeg L a.toNat + sHrs xs a.toNat else sBeg L a.toNat) ≤ sBeg L j
 now : ∀ a,a ∈ D → sBeg L a.toNat ≤ sBeg L i
theorem lateIn_ok {xs : List T_Step.ty} (S : StFit xs) {i : Nat} (hi : i < xs.length) : ∀ (A D L : List Int),(∀ a,a ∈ A → a ∈ sAft xs i) → LateM xs i D L → LateM xs i (D ++ A) (lateIn i A L)
 | [],D,L,_,M => by rw [List.append_nil]; exact M
 | a :: r,D,L,hA,M => by
   have ha := hA a (by simp)
   have hlt := S.aft i hi a ha
   have hn : a.toNat < L.length := by rw [M.len]; omega
   have ne : i ≠ a.toNat := by omega
   have q := mn_le (sBeg L a.toNat) (sBeg L i)
   have := lateIn_ok S hi r (D ++ [a]) (L.set a.toNat (mn (sBeg L a.toNat) (sBeg L i))) (fun b hb => hA b (by simp [hb])) ?_
   ·rw [List.append_assoc] at this; exact this
   ·have dec : ∀ j,sBeg (L.set a.toNat (mn (sBeg L a.toNat) (sBeg L i))) j ≤ sBeg L j := fun j => by
     by_cases h : j = a.toNat
     ·subst h; rw [beg_set_eq _ hn]; exact q.1
     ·rw [beg_set_ne _ h]; exact Int.le_refl _
    refine ⟨by rw [List.length_set]; exact M.len,fun j h1 h2 => ?_,fun j h1 h2 => ?_,fun j h1 h2 b hb => ?_,fun b hb => ?_⟩
    ·rw [beg_set_ne _ (by omega)]; exact M.hi j h1 h2
    ·have m := M.lo j h1 h2
     by_cases h : j = a.toNat
     ·subst h
      rw [beg_set_eq _ hn]
      refine ⟨Int.le_trans q.1 m.1,le_mn m.2 ?_⟩
      exact Int.le_trans (earlyB_aft S hi ha) (M.hi i (Nat.le_refl _) hi).2
     ·rw [beg_set_ne _ h]; exact m
    ·have m := M.ord j h1 h2 b hb
     rw [beg_set_ne (j := j) _ (by omega)]
     by_cases h : i ≤ b.toNat
     ·rw [if_pos h] at m ⊢
      rw [beg_set_ne _ (by omega)]; exact m
     ·rw [if_neg h] at m ⊢
      exact Int.le_trans (dec _) m
    ·rw [beg_set_ne (j := i) _ ne]
     rcases List.mem_append.1 hb with hb | hb
     ·exact Int.le_trans (dec _) (M.now b hb)
     ·rw [List.mem_singleton] at hb
      subst hb
      rw [beg_set_eq _ hn]; exact q.2
structure LateI (xs : List T_Step.ty) (i : Nat) (L : List Int) : Prop where
 len : L.length = xs.length
 hi : ∀ j,i ≤ j → j < xs.length → sBeg L j + sHrs xs j ≤ totalP xs ∧ earlyB xs j ≤ sBeg L j
 lo : ∀ j,j < i → j < xs.length → sBeg L j ≤ totalP xs ∧ earlyB xs j + sHrs xs j ≤ sBeg L j
 ord : ∀ j,i ≤ j → j < xs.length → ∀ a,a ∈ sAft xs j → (if i ≤ a.toNat then sBeg L a.toNat + sHrs xs a.toNat else sBeg L a.toNat) ≤ sBeg L j
theorem late_mid {xs : List T_Step.ty} (S : StFit xs) {i : Nat} (hi : i < xs.length) {L : List Int} (I : LateI xs (i + 1) L) : LateM xs i [] (L.set i (sBeg L i - sHrs xs i)) := by
 have hn : i < L.length := by rw [I.len]; exact hi
 have m := I.lo i (by omega) hi
 refine ⟨by rw [List.length_set]; exact I.len,fun j h1 h2 => ?_,fun j h1 h2 => ?_,fun j h1 h2 b hb => ?_,fun b hb => by cases hb⟩
 ·by_cases h : j = i
  ·subst h; rw [beg_set_eq _ hn]; omega
  ·rw [beg_set_ne _ h]; exact I.hi j (by omega) h2
 ·rw [beg_set_ne _ (by omega)]; exact I.lo j (by omega) h2
 ·have o := I.ord j (by omega) h2 b hb
  rw [beg_set_ne (j := j) _ (by omega)]
  by_cases h : b.toNat = i
  ·rw [if_neg (by omega)] at o
   rw [if_pos (by omega),h,beg_set_eq _ hn]
   rw [h] at o
   omega
  ·rw [beg_set_ne (j := b.toNat) _ h]
   by_cases h2 : i ≤ b.toNat
   ·rw [if_pos (by omega)] at o; rw [if_pos h2]; exact o
   ·rw [if_neg (by omega)] at o; rw [if_neg h2]; exact o
theorem late_step {xs : List T_Step.ty} (S : StFit xs) {i : Nat} (hi : i < xs.length) {L : List Int} (I : LateI xs (i + 1) L) : LateI xs i (lateIn i (sAft xs i) (L.set i (sBeg L i - sHrs xs i))) := by
 have M := lateIn_ok S hi (sAft xs i) [] _ (fun a ha => ha) (late_mid S hi I)
 refine ⟨M.len,M.hi,M.lo,fun j h1 h2 a ha => ?_⟩
 by_cases h : j = i
 ·subst h
  have := S.aft j h2 a ha
  rw [if_neg (by omega)]
  exact M.now a (by simpa using ha)
 ·exact M.ord j (by omega) h2 a ha
theorem late_all {xs : List T_Step.ty} (S : StFit xs) : ∀ (i : Nat) (L : List Int),i ≤ xs.length → LateI xs i L → LateI xs 0 (lateGo xs i L)
 | 0,L,_,I => I
 | i + 1,L,h,I => late_all S i _ (by omega) (late_step S (by omega) I)
def lateP (xs : List T_Step.ty) : List Int := lateGo xs xs.length (List.replicate xs.length (totalP xs))
theorem late_start {xs : List T_Step.ty} (S : StFit xs) : LateI xs xs.length (List.replicate xs.length (totalP xs)) := by
 refine ⟨by simp,fun j h1 h2 => by omega,fun j h1 h2 => ?_,fun j h1 h2 => by omega⟩
 have : sBeg (List.replicate xs.length (totalP xs)) j = totalP xs := by
  unfold sBeg
  rw [List.getElem?_replicate,if_pos h2]; rfl
 rw [this]
 exact ⟨Int.le_refl _,(earlyB_bd S h2).2.1⟩
theorem late_ok {xs : List T_Step.ty} (S : StFit xs) : LateI xs 0 (lateP xs) := late_all S _ _ (Nat.le_refl _) (late_start S)
theorem ends_some {xs : List T_Step.ty} (l : List Int) : ∀ n,0 < endsP xs l n → ∃ j,j < n ∧ sBeg l j + sHrs xs j = endsP xs l n
 | 0,h => absurd h (by simp [endsP])
 | n + 1,h => by
   rw [endsP] at h ⊢
   unfold mx at h ⊢
   split
   ·exact ⟨n,by omega,rfl⟩
   ·rename_i h2
    rw [if_neg h2] at h
    obtain ⟨j,h3,h4⟩ := ends_some l n h
    exact ⟨j,by omega,h4⟩
theorem rdyL_some {xs : List T_Step.ty} {l : List Int} : ∀ (A : List Int) (m : Int),m < rdyL xs l A m → ∃ a,a ∈ A ∧ sBeg l a.toNat + sHrs xs a.toNat = rdyL xs l A m
 | [],m,h => absurd h (Int.lt_irrefl _)
 | a :: r,m,h => by
   rw [rdyL] at h ⊢
   by_cases h2 : mx m (sBeg l a.toNat + sHrs xs a.toNat) < rdyL xs l r (mx m (sBeg l a.toNat + sHrs xs a.toNat))
   ·obtain ⟨b,h3,h4⟩ := rdyL_some r _ h2
    exact ⟨b,by simp [h3],h4⟩
   ·have e := rdyL_ge xs l r (mx m (sBeg l a.toNat + sHrs xs a.toNat))
    refine ⟨a,by simp,?_⟩
    have hM : mx m (sBeg l a.toNat + sHrs xs a.toNat) = m ∨ mx m (sBeg l a.toNat + sHrs xs a.toNat) = sBeg l a.toNat + sHrs xs a.toNat := by
     unfold mx; split
     ·exact .inr rfl
     ·exact .inl rfl
    rcases hM with hM | hM <;> omega
theorem ends_begins {xs : List T_Step.ty} (S : StFit xs) (h0 : 0 < xs.length) : (∃ j,j < xs.length ∧ earlyB xs j + sHrs xs j = totalP xs) ∧ (∃ j,j < xs.length ∧ sBeg (lateP xs) j = 0) ∧ ∃ j,j < xs.length ∧ earlyB xs j = sBeg (lateP xs) j := by
 have I := late_ok S
 have tp : 0 < totalP xs := by
  have := earlyB_bd S h0
  have := S.hrs 0 h0
  omega
 obtain ⟨e,he,hee⟩ := ends_some (xs := xs) (bld (rdyP xs) xs.length) xs.length tp
 have hee' : earlyB xs e + sHrs xs e = totalP xs := hee
 have ce : earlyB xs e = sBeg (lateP xs) e := by
  have := I.hi e (Nat.zero_le _) he
  omega
 refine ⟨⟨e,he,hee'⟩,?_,e,he,ce⟩
 have down : ∀ j,j < xs.length → earlyB xs j = sBeg (lateP xs) j → ∃ k,k < xs.length ∧ sBeg (lateP xs) k = 0 := by
  intro j
  induction j using Nat.strongRecOn with
  | _ j ih =>
    intro hj hc
    by_cases hz : earlyB xs j = 0
    ·exact ⟨j,hj,by omega⟩
    ·have hb := earlyB_bd S hj
     have e2 := earlyB_eq S hj
     obtain ⟨a,ha,hae⟩ := rdyL_some (xs := xs) (l := bld (rdyP xs) xs.length) (sAft xs j) 0 (by
      have : rdyL xs (bld (rdyP xs) xs.length) (sAft xs j) 0 = earlyB xs j := e2.symm
      omega)
     have hae' : earlyB xs a.toNat + sHrs xs a.toNat = earlyB xs j := hae.trans e2.symm
     have hlt := S.aft j hj a ha
     have o := I.ord j (Nat.zero_le _) hj a ha
     rw [if_pos (Nat.zero_le _)] at o
     have h2 := I.hi a.toNat (Nat.zero_le _) (by omega)
     exact ih a.toNat (by omega) (by omega) (by omega)
 exact down e he ce
theorem impl_earliest_okN {xs : List T_Step.ty} (S : StFit xs) : impl_earliest xs = some (bld (rdyP xs) xs.length) := by
 have hf := S.few
 have loop : ∀ (k i : Nat),i + k = xs.length → impl_earliest_p0 xs xs.length i (bld (rdyP xs) i) = some (bld (rdyP xs) xs.length) := by
  intro k
  induction k with
  | zero =>
    intro i hk
    obtain rfl : i = xs.length := by omega
    rw [impl_earliest_p0_eq]
    simp only [Int.lt_irrefl,decide_false,Bool.false_eq_true,if_false,List.take_length]
  | succ k ih =>
    intro i hk
    have hi : i < xs.length := by omega
    have hlt : (i : Int) < (xs.length : Int) := by omega
    have hwi : IntKind.i64.wrap ((i : Int) + 1) = ((i + 1 : Nat) : Int) := by rw [w64 (by omega) (by omega)]; omega
    have hlim : (bld (rdyP xs) i).length + 1 < lim := by rw [lim_eq,bld_len]; omega
    rw [impl_earliest_p0_eq]
    simp only [hlt,decide_true,if_true,List.take_length,impl_ready_okN S (early_fit S (k := i) (by omega)) hi (by rw [bld_len]; exact Nat.le_refl _),Option.bind_some,hlim,hwi]
    exact ih (i + 1) (by omega)
 rw [impl_earliest_eq]
 exact loop xs.length 0 (by omega)
theorem latest_p2_ok {xs : List T_Step.ty} (S : StFit xs) {i : Nat} (hi : i < xs.length) : ∀ (k j : Nat) (L : List Int),j + k = (sAft xs i).length → L.length = xs.length →
 impl_latest_p2 xs xs.length i (sAft xs i) (sAft xs i).length j L = impl_latest_p1 xs xs.length (IntKind.i64.wrap ((i : Int) - 1)) (lateIn i ((sAft xs i).drop j) L)
 | 0,j,L,hk,hL => by
   obtain rfl : j = (sAft xs i).length := by omega
   rw [impl_latest_p2_eq,List.drop_eq_nil_of_le (Nat.le_refl _)]
   simp only [Int.lt_irrefl,decide_false,Bool.false_eq_true,if_false,lateIn]
 | k + 1,j,L,hk,hL => by
   have hal := S.al i hi
   have hj : j < (sAft xs i).length := by omega
   have hlj : (j : Int) < ((sAft xs i).length : Int) := by omega
   have hwj : IntKind.i64.wrap ((j : Int) + 1) = ((j + 1 : Nat) : Int) := by rw [w64 (by omega) (by omega)]; omega
   have q := S.aft i hi _ (List.getElem_mem hj)
   have q2 : (sAft xs i)[j] < (xs.length : Int) := by omega
   have q3 : ((sAft xs i)[j]).toNat < L.length := by omega
   have q4 : (i : Int) < (xs.length : Int) := by omega
   have q5 : i < L.length := by omega
   rw [impl_latest_p2_eq,List.drop_eq_getElem_cons hj]
   simp only [hlj,Int.natCast_nonneg,decide_true,if_true,Int.toNat_natCast,List.getElem?_eq_getElem hj,Option.bind_some,q.1,q2,Bool.and_self,sBeg_get q3,q4,sBeg_get q5,hwj,lateIn]
   exact latest_p2_ok S hi k (j + 1) _ (by omega) (by rw [List.length_set]; exact hL)
theorem latest_p1_ok {xs : List T_Step.ty} (S : StFit xs) : ∀ (i : Nat) (L : List Int),i ≤ xs.length → LateI xs i L → impl_latest_p1 xs xs.length (IntKind.i64.wrap ((i : Int) - 1)) L = some (lateGo xs i L)
 | 0,L,_,I => by
   have : ¬ ((-1 : Int) ≥ 0) := by decide
   rw [show IntKind.i64.wrap (((0 : Nat) : Int) - 1) = -1 by decide,impl_latest_p1_eq]
   simp only [this,decide_false,Bool.false_eq_true,if_false,lateGo]
   rw [← I.len,List.take_length]
 | i + 1,L,h,I => by
   have hf := S.few
   have hi : i < xs.length := by omega
   have hw : IntKind.i64.wrap (((i + 1 : Nat) : Int) - 1) = (i : Int) := by rw [w64 (by omega) (by omega)]; omega
   have q4 : (i : Int) < (xs.length : Int) := by omega
   have q5 : i < L.length := by rw [I.len]; exact hi
   have b1 := I.lo i (by omega) hi
   have b2 := S.hrs i hi
   have b3 := earlyB_bd S hi
   have hw2 : IntKind.i64.wrap (sBeg L i - (stAt xs i).2.1) = sBeg L i - sHrs xs i := by
    show IntKind.i64.wrap (sBeg L i - sHrs xs i) = _
    rw [w64 (by omega) (by omega)]
   have e : (stAt xs i).2.2.2.1 = sAft xs i := rfl
   have hge : (i : Int) ≥ 0 := by omega
   have n := latest_p2_ok S hi (sAft xs i).length 0 (L.set i (sBeg L i - sHrs xs i)) (by omega) (by rw [List.length_set]; exact I.len)
   rw [List.drop_zero] at n
   rw [hw,impl_latest_p1_eq]
   simp only [hge,Int.natCast_nonneg,decide_true,if_true,q4,Bool.and_self,Int.toNat_natCast,sBeg_get q5,st_get hi,Option.bind_some,hw2,e]
   exact n.trans (latest_p1_ok S i _ (by omega) (late_step S hi I))
theorem latest_p0_ok {xs : List T_Step.ty} (S : StFit xs) (t : Int) : ∀ (k i : Nat) (r : List Int),i + k = xs.length → r.length = xs.length → r.take i = (List.replicate xs.length t).take i →
 impl_latest_p0 xs xs.length t xs.length i r = impl_latest_p1 xs xs.length (IntKind.i64.wrap ((xs.length : Int) - 1)) (List.replicate xs.length t)
 | 0,i,r,hk,hr,ht => by
   obtain rfl : i = xs.length := by omega
   have h1 : r.take xs.length = r := List.take_of_length_le (by omega)
   have h2 : (List.replicate xs.length t).take xs.length = List.replicate xs.length t := List.take_of_length_le (by simp)
   rw [h1,h2] at ht
   rw [impl_latest_p0_eq,ht]
   simp only [Int.lt_irrefl,decide_false,Bool.false_eq_true,if_false]
 | k + 1,i,r,hk,hr,ht => by
   have hf := S.few
   have hi : i < r.length := by omega
   have hlt : (i : Int) < (xs.length : Int) := by omega
   have hwi : IntKind.i64.wrap ((i : Int) + 1) = ((i + 1 : Nat) : Int) := by rw [w64 (by omega) (by omega)]; omega
   rw [impl_latest_p0_eq]
   simp only [hlt,Int.natCast_nonneg,decide_true,Bool.and_self,if_true,Int.toNat_natCast,List.getElem?_eq_getElem hi,Option.bind_some,hwi]
   refine latest_p0_ok S t k (i + 1) _ (by omega) (by rw [List.length_set]; exact hr) ?_
   rw [List.take_add_one,List.take_add_one,List.getElem?_set_self hi,List.take_set_of_le (Nat.le_refl _),ht,List.getElem?_replicate,if_pos (by omega)]
theorem impl_latest_okN {xs : List T_Step.ty} (S : StFit xs) : impl_latest xs = some (lateP xs) := by
 have hf := S.few
 have h1 : (0 : Int) ≤ (xs.length : Int) := by omega
 have h2 : xs.length < lim := by rw [lim_eq]; omega
 have n := latest_p0_ok S (totalP xs) xs.length 0 (List.replicate xs.length 0) (by omega) (by simp) rfl
 have m := latest_p1_ok S xs.length _ (Nat.le_refl _) (late_start S)
 rw [impl_latest_eq]
 simp only [h1,Int.le_refl,h2,decide_true,Bool.and_self,if_true,impl_earliest_okN S,impl_ended_okN S (early_fit S (Nat.le_refl _)) (bld_len _ _),Option.bind_some,List.length_replicate,Int.toNat_natCast]
 exact n.trans m
theorem critical_loop {E L : List Int} {n : Nat} (hn : n ≤ 12) (hE : E.length = n) (hL : L.length = n) : ∀ (k i : Nat),i + k = n →
 impl_CriticalSteps_p0 n i E L (idx (fun j => sBeg E j == sBeg L j) i) = some (idx (fun j => sBeg E j == sBeg L j) n,0)
 | 0,i,hk => by
   obtain rfl : i = n := by omega
   rw [impl_CriticalSteps_p0_eq]
   simp only [Int.lt_irrefl,decide_false,Bool.false_eq_true,if_false,List.take_length]
 | k + 1,i,hk => by
   have hlt : (i : Int) < (n : Int) := by omega
   have l1 : (i : Int) < (E.length : Int) := by omega
   have l2 : (i : Int) < (L.length : Int) := by omega
   have hwi : IntKind.i64.wrap ((i : Int) + 1) = ((i + 1 : Nat) : Int) := by rw [w64 (by omega) (by omega)]; omega
   have hl := idx_len (fun j => sBeg E j == sBeg L j) i
   have hlim : (idx (fun j => sBeg E j == sBeg L j) i).length + 1 < lim := by rw [lim_eq]; omega
   have ih := critical_loop hn hE hL k (i + 1) (by omega)
   rw [idx_succ] at ih
   rw [impl_CriticalSteps_p0_eq]
   simp only [hlt,l1,l2,Int.natCast_nonneg,decide_true,Bool.and_self,if_true,Int.toNat_natCast,sBeg_get (show i < E.length by omega),sBeg_get (show i < L.length by omega),Option.bind_some,hlim,hwi,List.take_length]
   cases hc : sBeg E i == sBeg L i
   ·rw [hc] at ih
    simp only [Bool.false_eq_true,if_false,List.append_nil] at ih ⊢
    exact ih
   ·rw [hc] at ih
    simp only [if_true] at ih ⊢
    exact ih
theorem impl_EarliestStarts_okN {xs : List T_Step.ty} (V : StSmall xs) : impl_EarliestStarts xs = some (bld (rdyP xs) xs.length,0) := by
 rw [impl_EarliestStarts_eq,impl_ValidSteps_ok xs V.s1 V.s2,V.ok]
 simp only [Option.bind_some,Bool.not_true,Bool.false_eq_true,if_false,impl_earliest_okN V.fit,List.take_length]
theorem impl_LatestStarts_okN {xs : List T_Step.ty} (V : StSmall xs) : impl_LatestStarts xs = some (lateP xs,0) := by
 rw [impl_LatestStarts_eq,impl_ValidSteps_ok xs V.s1 V.s2,V.ok]
 simp only [Option.bind_some,Bool.not_true,Bool.false_eq_true,if_false,impl_latest_okN V.fit,List.take_length]
theorem impl_TotalHours_okN {xs : List T_Step.ty} (V : StSmall xs) : impl_TotalHours xs = some (totalP xs,0) := by
 rw [impl_TotalHours_eq,impl_ValidSteps_ok xs V.s1 V.s2,V.ok]
 simp only [Option.bind_some,Bool.not_true,Bool.false_eq_true,if_false,impl_earliest_okN V.fit,impl_ended_okN V.fit (early_fit V.fit (Nat.le_refl _)) (bld_len _ _)]
 rfl
def critB (xs : List T_Step.ty) (j : Nat) : Bool := sBeg (bld (rdyP xs) xs.length) j == sBeg (lateP xs) j
theorem impl_CriticalSteps_okN {xs : List T_Step.ty} (V : StSmall xs) : impl_CriticalSteps xs = some (idx (critB xs) xs.length,0) := by
 rw [impl_CriticalSteps_eq,impl_ValidSteps_ok xs V.s1 V.s2,V.ok]
 simp only [Option.bind_some,Bool.not_true,Bool.false_eq_true,if_false,impl_earliest_okN V.fit,impl_latest_okN V.fit]
 exact critical_loop V.fit.few (bld_len _ _) (late_ok V.fit).len xs.length 0 (by omega)
def lstT (l : List Int) : List UInt8 := if l = [] then [45] else listP l
theorem lstT_ne (l : List Int) : lstT l ≠ [] := by
 unfold lstT; split
 ·simp
 ·rename_i h; exact listP_ne h
theorem lstT_no32 (l : List Int) : (32 : UInt8) ∉ lstT l := by
 unfold lstT; split
 ·decide
 ·rename_i h; exact listP_no h (by decide) (by decide) (by decide)
theorem lstT_len (l : List Int) (hl : l.length ≤ 64) (hx : ∀ x,x ∈ l → -1000000000000 ≤ x ∧ x ≤ 1000000000000) : (lstT l).length ≤ 1024 := by
 unfold lstT; split
 ·decide
 ·exact listP_len l hl hx
theorem impl_ListText_any (l : List Int) (hl : l.length ≤ 64) (hx : ∀ x,x ∈ l → -1000000000000 ≤ x ∧ x ≤ 1000000000000) : impl_ListText l = some (lstT l) := by
 by_cases h : l = []
 ·subst h; rw [impl_ListText_eq,impl_few_eq]; simp [lstT]
 ·rw [impl_ListText_ok l h hl hx,lstT,if_neg h]
theorem impl_ReadList_any (l : List Int) (hl : l.length ≤ 64) (hx : ∀ x,x ∈ l → -1000000000000 ≤ x ∧ x ≤ 1000000000000) : impl_ReadList (lstT l) = some (l,true) := by
 by_cases h : l = []
 ·subst h; rw [impl_ReadList_eq]; simp [lstT]
 ·rw [lstT,if_neg h]; exact impl_ReadList_ok l h hl hx
theorem stepText_okN (id : List UInt8) (h cl : Int) (R : List Int) (hv : stepOk (id,h,cl,R,()) = true) (hR : R.length ≤ 64) :
 ∃ t,impl_StepText (id,h,cl,R,()) = some t ∧ impl_ReadStep t = some ((id,h,cl,R,()),true) := by
 have hk := hv
 simp only [stepOk,Bool.and_eq_true] at hk
 obtain ⟨k1,k2,k3,k4⟩ := hk
 have k2 := inR_iff'.1 k2
 have k3 := inR_iff'.1 k3
 have hn := isName_mem k1
 have hx : ∀ x,x ∈ [h,cl] → -1000000000000 ≤ x ∧ x ≤ 1000000000000 := fun x hx => by
  simp only [List.mem_cons,List.not_mem_nil,or_false] at hx
  rcases hx with rfl | rfl <;> omega
 have hxR : ∀ x,x ∈ R → -1000000000000 ≤ x ∧ x ≤ 1000000000000 := fun x hx => by
  obtain ⟨j,hj,e⟩ := List.getElem_of_mem hx
  have := risesB_at k4 hj
  rw [risesAt,Bool.and_eq_true,List.getElem?_eq_getElem hj,Option.getD_some,e] at this
  have := inR_iff'.1 this.1
  omega
 have l1 := listP_len [h,cl] (by simp) hx
 have l2 := lstT_len R hR hxR
 have hvv : impl_Step_valid (id,h,cl,R,()) = some true := by rw [impl_Step_valid_ok _ (show id.length ≤ _ by omega) (show R.length ≤ _ by omega),hv]
 have ht : impl_StepText (id,h,cl,R,()) = some (id ++ 32 :: (listP [h,cl] ++ 32 :: lstT R)) := by
  rw [impl_StepText_eq,hvv]
  have s1 : (id ++ 32 :: listP [h,cl]).length + 1 ≤ strMax := by rw [strMax_eq]; simp; omega
  have s2 : ((id ++ 32 :: listP [h,cl]) ++ [32]).length + (lstT R).length ≤ strMax := by rw [strMax_eq]; simp; omega
  simp only [Option.bind_some,Bool.not_true,Bool.false_eq_true,if_false,impl_named_ok id [h,cl] (by omega) (by simp) (by simp) hx,List.length_singleton,s1,decide_true,if_true,impl_ListText_any R hR hxR,s2]
  simp
 refine ⟨_,ht,?_⟩
 have sw := impl_SplitWords_3 id (listP [h,cl]) (lstT R) (fun e => by rw [e] at k1; simp [isName] at k1) (listP_ne (by simp)) (lstT_ne R) (isName_no k1 (by decide)) (listP_no (by simp) (by decide) (by decide) (by decide)) (lstT_no32 R) (by omega)
 rw [impl_ReadStep_eq,sw]
 have c1 : ((([id,listP [h,cl],lstT R] : List (List UInt8)).length : Int) != 3) = false := by rfl
 have c2 : (1 : Int) < (([id,listP [h,cl],lstT R] : List (List UInt8)).length : Int) := by simp
 have c3 : (2 : Int) < (([id,listP [h,cl],lstT R] : List (List UInt8)).length : Int) := by simp
 have c4 : ((([h,cl] : List Int).length : Int) != 2) = false := by rfl
 have g1 : ([id,listP [h,cl],lstT R] : List (List UInt8))[1]? = some (listP [h,cl]) := rfl
 have g2 : ([id,listP [h,cl],lstT R] : List (List UInt8))[2]? = some (lstT R) := rfl
 simp only [Option.bind_some,c1,c2,c3,c4,g1,g2,Bool.false_eq_true,if_false,decide_true,if_true,impl_ReadList_ok [h,cl] (by simp) (by simp) hx,impl_ReadList_any R hR hxR,Bool.not_true]
 rw [impl_ReadStep_p0_eq]
 have d1 : (0 : Int) < (([id,listP [h,cl],lstT R] : List (List UInt8)).length : Int) := by simp
 have d2 : (0 : Int) < (([h,cl] : List Int).length : Int) := by simp
 have d3 : (1 : Int) < (([h,cl] : List Int).length : Int) := by simp
 have f1 : ([id,listP [h,cl],lstT R] : List (List UInt8))[0]? = some id := rfl
 have f2 : ([h,cl] : List Int)[0]? = some h := rfl
 have f3 : ([h,cl] : List Int)[1]? = some cl := rfl
 simp only [d1,d2,d3,decide_true,if_true,f1,f2,f3,Option.bind_some,List.take_length,ht,beq_self_eq_true,Bool.not_true,Bool.false_eq_true,if_false]
def Rch (xs : List T_Step.ty) (k j : Nat) : Prop := ∀ P : Nat → Prop,P k → (∀ i a,P i → a ∈ sAft xs i → P a.toNat) → P j
theorem Rch.refl (xs : List T_Step.ty) (k : Nat) : Rch xs k k := fun P h _ => h
theorem Rch.step {xs : List T_Step.ty} {k j : Nat} (h : Rch xs k j) {a : Int} (ha : a ∈ sAft xs j) : Rch xs k a.toNat := fun P h0 hs => hs j a (h P h0 hs) ha
theorem Rch.trans {xs : List T_Step.ty} {k j i : Nat} (h : Rch xs k j) (h2 : Rch xs j i) : Rch xs k i := fun P h0 hs => h2 P (h P h0 hs) hs
theorem Rch.early {xs : List T_Step.ty} (S : StFit xs) {k j : Nat} (hk : k < xs.length) (h : Rch xs k j) : j = k ∨ j < k ∧ earlyB xs j + sHrs xs j ≤ earlyB xs k := by
 refine h (fun j => j = k ∨ j < k ∧ earlyB xs j + sHrs xs j ≤ earlyB xs k) (.inl rfl) fun i a hi ha => .inr ?_
 rcases hi with rfl | ⟨h1,h2⟩
 ·have := S.aft i hk a ha
  exact ⟨by omega,earlyB_aft S hk ha⟩
 ·have h3 := S.aft i (by omega) a ha
  have h4 := earlyB_aft S (show i < xs.length by omega) ha
  have h5 := S.hrs i (by omega)
  exact ⟨by omega,by omega⟩
def bAt (r : List Bool) (i : Nat) : Bool := (r[i]?).getD false
theorem bAt_get {r : List Bool} {i : Nat} (h : i < r.length) : r[i]? = some (bAt r i) := by simp [bAt,List.getElem?_eq_getElem h]
theorem bAt_set (r : List Bool) (k : Nat) (v : Bool) (j : Nat) : bAt (r.set k v) j = if j = k ∧ k < r.length then v else bAt r j := by
 unfold bAt
 by_cases h : k = j
 ·subst h
  by_cases h2 : k < r.length
  ·rw [List.getElem?_set_self h2,if_pos ⟨rfl,h2⟩]; rfl
  ·rw [List.set_eq_of_length_le (by omega),if_neg (by omega)]
 ·rw [List.getElem?_set_ne h,if_neg (by omega)]
def markIn : List Int → List Bool → List Bool
 | [],r => r
 | a :: t,r => markIn t (r.set a.toNat true)
theorem markIn_len : ∀ (A : List Int) (r : List Bool),(markIn A r).length = r.length
 | [],r => rfl
 | a :: t,r => by rw [markIn,markIn_len t,List.length_set]
theorem markIn_at : ∀ (A : List Int) (r : List Bool) (j : Nat),(∀ a,a ∈ A → a.toNat < r.length) → (bAt (markIn A r) j = true ↔ bAt r j = true ∨ ∃ a,a ∈ A ∧ a.toNat = j)
 | [],r,j,_ => by simp [markIn]
 | a :: t,r,j,h => by
   rw [markIn,markIn_at t _ j fun b hb => by rw [List.length_set]; exact h b (by simp [hb]),bAt_set]
   have ha := h a (by simp)
   by_cases e : j = a.toNat
   ·subst e
    simp [ha]
   ·rw [if_neg (by omega)]
    constructor
    ·rintro (h1 | ⟨b,h1,h2⟩)
     ·exact .inl h1
     ·exact .inr ⟨b,by simp [h1],h2⟩
    ·rintro (h1 | ⟨b,h1,h2⟩)
     ·exact .inl h1
     ·rcases List.mem_cons.1 h1 with rfl | h1
      ·exact absurd h2.symm e
      ·exact .inr ⟨b,h1,h2⟩
def needGo (xs : List T_Step.ty) : Nat → List Bool → List Bool
 | 0,r => r
 | i + 1,r => needGo xs i (if bAt r i then markIn (sAft xs i) r else r)
def needP (xs : List T_Step.ty) (k : Nat) : List Bool := needGo xs (k + 1) ((List.replicate xs.length false).set k true)
structure NeedI (xs : List T_Step.ty) (k i : Nat) (r : List Bool) : Prop where
 len : r.length = xs.length
 top : bAt r k = true
 sound : ∀ j,bAt r j = true → Rch xs k j
 done : ∀ j,i ≤ j → j < xs.length → bAt r j = true → ∀ a,a ∈ sAft xs j → bAt r a.toNat = true
theorem need_step {xs : List T_Step.ty} (S : StFit xs) {k i : Nat} (hi : i < xs.length) {r : List Bool} (I : NeedI xs k (i + 1) r) : NeedI xs k i (if bAt r i then markIn (sAft xs i) r else r) := by
 cases hb : bAt r i
 ·simp only [Bool.false_eq_true,if_false]
  refine ⟨I.len,I.top,I.sound,fun j h1 h2 h3 a ha => ?_⟩
  by_cases e : j = i
  ·subst e; rw [hb] at h3; cases h3
  ·exact I.done j (by omega) h2 h3 a ha
 ·simp only [if_true]
  have hl : ∀ a,a ∈ sAft xs i → a.toNat < r.length := fun a ha => by have := S.aft i hi a ha; rw [I.len]; omega
  have at_ := fun j => markIn_at (sAft xs i) r j hl
  refine ⟨by rw [markIn_len]; exact I.len,(at_ k).2 (.inl I.top),fun j hj => ?_,fun j h1 h2 h3 a ha => ?_⟩
  ·rcases (at_ j).1 hj with h | ⟨a,ha,rfl⟩
   ·exact I.sound j h
   ·exact (I.sound i hb).step ha
  ·have h4 : bAt r j = true := by
    rcases (at_ j).1 h3 with h | ⟨b,hb2,rfl⟩
    ·exact h
    ·have := S.aft i hi b hb2; omega
   by_cases e : j = i
   ·subst e; exact (at_ _).2 (.inr ⟨a,ha,rfl⟩)
   ·exact (at_ _).2 (.inl (I.done j (by omega) h2 h4 a ha))
theorem need_all {xs : List T_Step.ty} (S : StFit xs) {k : Nat} : ∀ (i : Nat) (r : List Bool),i ≤ xs.length → NeedI xs k i r → NeedI xs k 0 (needGo xs i r)
 | 0,r,_,I => I
 | i + 1,r,h,I => need_all S i _ (by omega) (need_step S (by omega) I)
theorem need_start {xs : List T_Step.ty} {k : Nat} (hk : k < xs.length) : NeedI xs k (k + 1) ((List.replicate xs.length false).set k true) := by
 have at_ : ∀ j,bAt ((List.replicate xs.length false).set k true) j = true ↔ j = k := fun j => by
  rw [bAt_set]
  by_cases e : j = k
  ·subst e; simp [hk]
  ·rw [if_neg (by omega)]
   have : bAt (List.replicate xs.length false) j = false := by
    unfold bAt
    rw [List.getElem?_replicate]
    split <;> rfl
   rw [this]
   simp [e]
 refine ⟨by simp,(at_ k).2 rfl,fun j hj => ?_,fun j h1 h2 h3 => ?_⟩
 ·rw [(at_ j).1 hj]; exact Rch.refl _ _
 ·have := (at_ j).1 h3; omega
theorem need_iff {xs : List T_Step.ty} (S : StFit xs) {k : Nat} (hk : k < xs.length) (j : Nat) : bAt (needP xs k) j = true ↔ Rch xs k j := by
 have I := need_all S (k + 1) _ (by omega) (need_start hk)
 refine ⟨I.sound j,fun h => h (fun j => bAt (needP xs k) j = true) I.top fun i a hi ha => ?_⟩
 by_cases hx : i < xs.length
 ·exact I.done i (Nat.zero_le _) hx hi a ha
 ·have : sAft xs i = [] := by
   unfold sAft stAt
   rw [List.getElem?_eq_none (by omega)]; rfl
  rw [this] at ha; cases ha
theorem impl_need_p1_ok {xs : List T_Step.ty} (S : StFit xs) {k i : Nat} (hi : i < xs.length) (b : Bool) : ∀ (q j : Nat) (r : List Bool),j + q = (sAft xs i).length → r.length = xs.length → bAt r i = b →
 impl_NeededBefore_p1 xs k xs.length i (sAft xs i) (sAft xs i).length j r = impl_NeededBefore_p0 xs k xs.length (IntKind.i64.wrap ((i : Int) - 1)) (if b then markIn ((sAft xs i).drop j) r else r)
 | 0,j,r,hk,hr,hb => by
   obtain rfl : j = (sAft xs i).length := by omega
   rw [impl_NeededBefore_p1_eq,List.drop_eq_nil_of_le (Nat.le_refl _)]
   simp only [Int.lt_irrefl,decide_false,Bool.false_eq_true,if_false,markIn,ite_self]
 | q + 1,j,r,hk,hr,hb => by
   have hal := S.al i hi
   have hj : j < (sAft xs i).length := by omega
   have hlj : (j : Int) < ((sAft xs i).length : Int) := by omega
   have hwj : IntKind.i64.wrap ((j : Int) + 1) = ((j + 1 : Nat) : Int) := by rw [w64 (by omega) (by omega)]; omega
   have p := S.aft i hi _ (List.getElem_mem hj)
   have p2 : (sAft xs i)[j] < (xs.length : Int) := by omega
   have p3 : ((sAft xs i)[j]).toNat < r.length := by omega
   have p4 : (i : Int) < (xs.length : Int) := by omega
   have p5 : i < r.length := by omega
   have ne : ¬ (i = ((sAft xs i)[j]).toNat ∧ ((sAft xs i)[j]).toNat < r.length) := by omega
   rw [impl_NeededBefore_p1_eq,List.drop_eq_getElem_cons hj]
   simp only [hlj,Int.natCast_nonneg,decide_true,if_true,Int.toNat_natCast,List.getElem?_eq_getElem hj,Option.bind_some,p.1,p2,Bool.and_self,bAt_get p3,p4,bAt_get p5,hb,hwj]
   have ih := fun (v : Bool) (h : bAt (r.set ((sAft xs i)[j]).toNat v) i = b) => impl_need_p1_ok S (k := k) hi b q (j + 1) (r.set ((sAft xs i)[j]).toNat v) (by omega) (by rw [List.length_set]; exact hr) h
   have keep : ∀ v,bAt (r.set ((sAft xs i)[j]).toNat v) i = b := fun v => by rw [bAt_set,if_neg ne]; exact hb
   cases hx : bAt r ((sAft xs i)[j]).toNat
   ·simp only [Bool.false_eq_true,if_false]
    rw [ih _ (keep _)]
    cases b
    ·simp only [Bool.false_eq_true,if_false]
     congr 1
     refine List.ext_getElem? fun m => ?_
     rw [List.getElem?_set]
     split
     ·rename_i e
      subst e
      rw [bAt_get p3,hx]
     ·rfl
    ·simp only [if_true,markIn]
   ·simp only [if_true]
    rw [ih _ (keep _)]
    cases b
    ·simp only [Bool.false_eq_true,if_false]
     congr 1
     refine List.ext_getElem? fun m => ?_
     rw [List.getElem?_set]
     split
     ·rename_i e
      subst e
      rw [bAt_get p3,hx]
     ·rfl
    ·simp only [if_true,markIn]
theorem impl_need_p2_ok {n k : Nat} (hn : n ≤ 12) (hk : k ≤ n) {r : List Bool} (hr : r.length = n) : ∀ (q i : Nat),i + q = k → impl_NeededBefore_p2 n k i r (idx (bAt r) i) = some (idx (bAt r) k,0)
 | 0,i,hq => by
   obtain rfl : i = k := by omega
   rw [impl_NeededBefore_p2_eq]
   simp only [Int.lt_irrefl,decide_false,Bool.false_eq_true,if_false,List.take_length]
 | q + 1,i,hq => by
   have hlt : (i : Int) < (k : Int) := by omega
   have l1 : (i : Int) < (n : Int) := by omega
   have hwi : IntKind.i64.wrap ((i : Int) + 1) = ((i + 1 : Nat) : Int) := by rw [w64 (by omega) (by omega)]; omega
   have hl := idx_len (bAt r) i
   have hlim : (idx (bAt r) i).length + 1 < lim := by rw [lim_eq]; omega
   have ih := impl_need_p2_ok hn hk hr q (i + 1) (by omega)
   rw [idx_succ] at ih
   rw [impl_NeededBefore_p2_eq]
   simp only [hlt,l1,Int.natCast_nonneg,decide_true,Bool.and_self,if_true,Int.toNat_natCast,bAt_get (show i < r.length by omega),Option.bind_some,hlim,hwi,List.take_length]
   cases hc : bAt r i
   ·rw [hc] at ih
    simp only [Bool.false_eq_true,if_false,List.append_nil] at ih ⊢
    exact ih
   ·rw [hc] at ih
    simp only [if_true] at ih ⊢
    exact ih
theorem impl_need_p0_ok {xs : List T_Step.ty} (S : StFit xs) {k : Nat} (hk : k < xs.length) : ∀ (i : Nat) (r : List Bool),i ≤ xs.length → r.length = xs.length →
 impl_NeededBefore_p0 xs k xs.length (IntKind.i64.wrap ((i : Int) - 1)) r = some (idx (bAt (needGo xs i r)) k,0)
 | 0,r,_,hr => by
   have : ¬ ((-1 : Int) ≥ 0) := by decide
   rw [show IntKind.i64.wrap (((0 : Nat) : Int) - 1) = -1 by decide,impl_NeededBefore_p0_eq]
   simp only [this,decide_false,Bool.false_eq_true,if_false,needGo]
   exact impl_need_p2_ok S.few (by omega) hr k 0 (by omega)
 | i + 1,r,h,hr => by
   have hf := S.few
   have hi : i < xs.length := by omega
   have hw : IntKind.i64.wrap (((i + 1 : Nat) : Int) - 1) = (i : Int) := by rw [w64 (by omega) (by omega)]; omega
   have hge : (i : Int) ≥ 0 := by omega
   have e : (stAt xs i).2.2.2.1 = sAft xs i := rfl
   have n := impl_need_p1_ok S (k := k) hi (bAt r i) (sAft xs i).length 0 r (by omega) hr rfl
   rw [List.drop_zero] at n
   rw [hw,impl_NeededBefore_p0_eq]
   simp only [hge,Int.natCast_nonneg,decide_true,if_true,Int.toNat_natCast,st_get hi,Option.bind_some,e]
   refine n.trans ?_
   rw [needGo]
   exact impl_need_p0_ok S hk i _ (by omega) (by split <;> simp [markIn_len,hr])
theorem impl_NeededBefore_okN {xs : List T_Step.ty} (V : StSmall xs) {k : Nat} (hk : k < xs.length) : impl_NeededBefore xs k = some (idx (bAt (needP xs k)) k,0) := by
 have S := V.fit
 have hf := S.few
 have h1 : (0 : Int) ≤ (xs.length : Int) := by omega
 have h2 : xs.length < lim := by rw [lim_eq]; omega
 have h3 : (k : Int) < (xs.length : Int) := by omega
 have h4 : (k : Int) ≥ 0 := by omega
 have g : (List.replicate xs.length false)[k]? = some false := by rw [List.getElem?_replicate,if_pos hk]
 have n := impl_need_p0_ok S hk (k + 1) ((List.replicate xs.length false).set k true) (by omega) (by simp)
 rw [show IntKind.i64.wrap (((k + 1 : Nat) : Int) - 1) = (k : Int) by rw [w64 (by omega) (by omega)]; omega] at n
 rw [impl_NeededBefore_eq,impl_ValidSteps_ok xs V.s1 V.s2,V.ok,impl_at_eq]
 simp only [Option.bind_some,Bool.not_true,Bool.false_eq_true,if_false,h1,h2,h3,h4,Int.le_refl,decide_true,Bool.and_self,if_true,Int.natCast_nonneg,List.length_replicate,Int.toNat_natCast,g]
 exact n
theorem spec_need_p1_ok {xs : List T_Step.ty} (S : StFit xs) {k i : Nat} (hi : i < xs.length) : ∀ (q j : Nat) (r : List Bool),j + q = (sAft xs i).length → r.length = xs.length →
 spec_NeededBefore_p1 xs k xs.length i j r = spec_NeededBefore_p0 xs k xs.length (IntKind.i64.wrap ((i : Int) - 1)) (markIn ((sAft xs i).drop j) r)
 | 0,j,r,hk,hr => by
   obtain rfl : j = (sAft xs i).length := by omega
   have e : (stAt xs i).2.2.2.1 = sAft xs i := rfl
   rw [spec_NeededBefore_p1_eq,List.drop_eq_nil_of_le (Nat.le_refl _)]
   simp only [Int.natCast_nonneg,decide_true,if_true,Int.toNat_natCast,st_get hi,Option.bind_some,e,Int.lt_irrefl,decide_false,Bool.false_eq_true,if_false,markIn]
 | q + 1,j,r,hk,hr => by
   have hal := S.al i hi
   have hj : j < (sAft xs i).length := by omega
   have hlj : (j : Int) < ((sAft xs i).length : Int) := by omega
   have hwj : IntKind.i64.wrap ((j : Int) + 1) = ((j + 1 : Nat) : Int) := by rw [w64 (by omega) (by omega)]; omega
   have p := S.aft i hi _ (List.getElem_mem hj)
   have p2 : (sAft xs i)[j] < (xs.length : Int) := by omega
   have p3 : ((sAft xs i)[j]).toNat < r.length := by omega
   have e : (stAt xs i).2.2.2.1 = sAft xs i := rfl
   rw [spec_NeededBefore_p1_eq,List.drop_eq_getElem_cons hj]
   simp only [Int.natCast_nonneg,decide_true,if_true,Int.toNat_natCast,st_get hi,Option.bind_some,e,hlj,List.getElem?_eq_getElem hj,p.1,p2,Bool.and_self,bAt_get p3,hwj,markIn]
   exact spec_need_p1_ok S hi q (j + 1) _ (by omega) (by rw [List.length_set]; exact hr)
theorem spec_need_p2_ok {n k : Nat} (hn : n ≤ 12) (hk : k ≤ n) {r : List Bool} (hr : r.length = n) : ∀ (q i : Nat),i + q = k → spec_NeededBefore_p2 k n i r (idx (bAt r) i) = some (idx (bAt r) k,0)
 | 0,i,hq => by
   obtain rfl : i = k := by omega
   rw [spec_NeededBefore_p2_eq]
   simp only [Int.lt_irrefl,decide_false,Bool.false_eq_true,if_false,List.take_length]
 | q + 1,i,hq => by
   have hlt : (i : Int) < (k : Int) := by omega
   have l1 : (i : Int) < (n : Int) := by omega
   have hwi : IntKind.i64.wrap ((i : Int) + 1) = ((i + 1 : Nat) : Int) := by rw [w64 (by omega) (by omega)]; omega
   have hl := idx_len (bAt r) i
   have hlim : (idx (bAt r) i).length + 1 < lim := by rw [lim_eq]; omega
   have ih := spec_need_p2_ok hn hk hr q (i + 1) (by omega)
   rw [idx_succ] at ih
   rw [spec_NeededBefore_p2_eq]
   simp only [hlt,l1,Int.natCast_nonneg,decide_true,Bool.and_self,if_true,Int.toNat_natCast,bAt_get (show i < r.length by omega),Option.bind_some,hlim,hwi,List.take_length]
   cases hc : bAt r i
   ·rw [hc] at ih
    simp only [Bool.false_eq_true,if_false,List.append_nil] at ih ⊢
    exact ih
   ·rw [hc] at ih
    simp only [if_true] at ih ⊢
    exact ih
theorem spec_need_p0_ok {xs : List T_Step.ty} (S : StFit xs) {k : Nat} (hk : k < xs.length) : ∀ (i : Nat) (r : List Bool),i ≤ xs.length → r.length = xs.length →
 spec_NeededBefore_p0 xs k xs.length (IntKind.i64.wrap ((i : Int) - 1)) r = some (idx (bAt (needGo xs i r)) k,0)
 | 0,r,_,hr => by
   have : ¬ ((-1 : Int) ≥ 0) := by decide
   rw [show IntKind.i64.wrap (((0 : Nat) : Int) - 1) = -1 by decide,spec_NeededBefore_p0_eq]
   simp only [this,decide_false,Bool.false_eq_true,if_false,needGo]
   exact spec_need_p2_ok S.few (by omega) hr k 0 (by omega)
 | i + 1,r,h,hr => by
   have hf := S.few
   have hi : i < xs.length := by omega
   have hw : IntKind.i64.wrap (((i + 1 : Nat) : Int) - 1) = (i : Int) := by rw [w64 (by omega) (by omega)]; omega
   have hge : (i : Int) ≥ 0 := by omega
   have p4 : (i : Int) < (xs.length : Int) := by omega
   have n := spec_need_p1_ok S (k := k) hi (sAft xs i).length 0 r (by omega) hr
   rw [List.drop_zero] at n
   rw [hw,spec_NeededBefore_p0_eq]
   simp only [hge,Int.natCast_nonneg,p4,Bool.and_self,decide_true,if_true,Int.toNat_natCast,bAt_get (show i < r.length by omega),Option.bind_some,needGo]
   cases bAt r i
   ·simp only [Bool.not_false,if_true,Bool.false_eq_true,if_false]
    exact spec_need_p0_ok S hk i _ (by omega) hr
   ·simp only [Bool.not_true,if_true,Bool.false_eq_true,if_false]
    exact n.trans (spec_need_p0_ok S hk i _ (by omega) (by rw [markIn_len]; exact hr))
theorem spec_NeededBefore_okN {xs : List T_Step.ty} (V : StSmall xs) {k : Nat} (hk : k < xs.length) : spec_NeededBefore xs k = some (idx (bAt (needP xs k)) k,0) := by
 have S := V.fit
 have hf := S.few
 have h1 : (0 : Int) ≤ (xs.length : Int) := by omega
 have h2 : xs.length < lim := by rw [lim_eq]; omega
 have h3 : (k : Int) < (xs.length : Int) := by omega
 have g : (List.replicate xs.length false)[k]? = some false := by rw [List.getElem?_replicate,if_pos hk]
 have n := spec_need_p0_ok S hk (k + 1) ((List.replicate xs.length false).set k true) (by omega) (by simp)
 rw [show IntKind.i64.wrap (((k + 1 : Nat) : Int) - 1) = (k : Int) by rw [w64 (by omega) (by omega)]; omega] at n
 rw [spec_NeededBefore_eq,spec_l17Ok_ok xs V.s1 V.s2,V.ok,w64 (n := (xs.length : Int) - 1) (by omega) (by omega)]
 simp only [Option.bind_some,Bool.not_true,Bool.false_eq_true,if_false,spec_l00In_ok,inR_iff'.2 (show (0 : Int) ≤ (k : Int) ∧ (k : Int) ≤ (xs.length : Int) - 1 by omega),h1,h2,h3,Int.le_refl,decide_true,Bool.and_self,if_true,Int.natCast_nonneg,List.length_replicate,Int.toNat_natCast,g]
 exact n
end Go.Ab.P
