/- Lemmas on functions of the program. Conditions: told in each. -/
import Derived.Test.YtnfdkcpnoolmfaaPFnClamps
set_option linter.unusedVariables false
set_option linter.unusedSimpArgs false
namespace Go.Ab.P
open Go.Ab
theorem idxLoop {β : Type} (n : Nat) (c : Nat → Bool) (p0 : Int → Option β) (bad last : Option β) (heq : ∀ i : Nat,i < n → p0 (i : Int) = if c i then p0 ((i + 1 : Nat) : Int) else bad) (hlast : p0 (n : Int) = last) :
 ∀ (k i : Nat),i + k = n → p0 (i : Int) = if (List.range' i k).all c then last else bad
 | 0,i,hk => by
   have : i = n := by omega
   subst this
   simp [hlast]
 | k + 1,i,hk => by
   rw [heq i (by omega),idxLoop n c p0 bad last heq hlast k (i + 1) (by omega),List.range'_succ,List.all_cons]
   cases c i
   ·simp
   ·simp only [Bool.true_and,if_true]
def sumG (f : Nat → Int) : Nat → Nat → Int
 | _,0 => 0
 | i,k + 1 => f i + sumG f (i + 1) k
theorem sumG_bd {f : Nat → Int} {lo hi : Int} (hlo : lo ≤ 0) (hhi : 0 ≤ hi) (hf : ∀ i,lo ≤ f i ∧ f i ≤ hi) : ∀ (k i : Nat),lo * k ≤ sumG f i k ∧ sumG f i k ≤ hi * k
 | 0,i => by simp [sumG]
 | k + 1,i => by
   have h1 := sumG_bd hlo hhi hf k (i + 1)
   have h2 := hf i
   have e1 : lo * ((k + 1 : Nat) : Int) = lo * k + lo := by rw [Int.natCast_succ,Int.mul_add,Int.mul_one]
   have e2 : hi * ((k + 1 : Nat) : Int) = hi * k + hi := by rw [Int.natCast_succ,Int.mul_add,Int.mul_one]
   rw [sumG,e1,e2]; omega
theorem sumLoop {γ : Type} (n : Nat) (hn : n ≤ 1048576) (f : Nat → Int) (hf : ∀ i,-100000000 ≤ f i ∧ f i ≤ 100000000) (p0 : Int → Int → Option γ) (last : Int → Option γ)
 (heq : ∀ (i : Nat) (a : Int),i < n → -1000000000000000 ≤ a ∧ a ≤ 1000000000000000 → p0 a (i : Int) = p0 (a + f i) ((i + 1 : Nat) : Int)) (hlast : ∀ a : Int,p0 a (n : Int) = last a) :
 ∀ (k i : Nat) (a : Int),i + k = n → -100000000 * (i : Int) ≤ a ∧ a ≤ 100000000 * (i : Int) → p0 a (i : Int) = last (a + sumG f i k)
 | 0,i,a,hk,ha => by
   have : i = n := by omega
   subst this
   rw [hlast,sumG,Int.add_zero]
 | k + 1,i,a,hk,ha => by
   have h1 := hf i
   rw [heq i a (by omega) (by omega),sumLoop n hn f hf p0 last heq hlast k (i + 1) (a + f i) (by omega) (by omega),sumG,Int.add_assoc]
theorem wsucc {i : Nat} (h : i < 4611686018427387904) : IntKind.i64.wrap ((i : Int) + 1) = ((i + 1 : Nat) : Int) := by
 rw [w64 (by omega) (by omega)]; omega
theorem getElem?_lt {α : Type} {l : List α} {i : Nat} (h : i < l.length) : l[i]? = some l[i] := List.getElem?_eq_getElem h
theorem drop_cons {α : Type} {l : List α} {i : Nat} (h : i < l.length) : l.drop i = l[i] :: l.drop (i + 1) := List.drop_eq_getElem_cons h
theorem tmod_nonneg_eq {a b : Int} (ha : 0 ≤ a) : a.tmod b = a % b := Int.tmod_eq_emod_of_nonneg ha
def small (c : UInt8) : Bool := decide (97 ≤ (c.toNat : Int)) && decide ((c.toNat : Int) ≤ 122)
def digit (c : UInt8) : Bool := decide (48 ≤ (c.toNat : Int)) && decide ((c.toNat : Int) ≤ 57)
def isName (s : List UInt8) : Bool := match s with | [] => false | c :: r => small c && r.all (fun c => small c || digit c) && decide (s.length ≤ 10)
def inR (n lo hi : Int) : Bool := decide (lo ≤ n) && decide (n ≤ hi)
theorem inR_iff' {n lo hi : Int} : inR n lo hi = true ↔ lo ≤ n ∧ n ≤ hi := by simp [inR]
theorem impl_within_ok (n lo hi : Int) : impl_within n lo hi = some (inR n lo hi) := by
 rw [impl_within_eq,inR]; by_cases h : lo ≤ n <;> simp [h]
theorem spec_l00In_ok (n lo hi : Int) : spec_l00In n lo hi = some (inR n lo hi) := by
 rw [spec_l00In_eq,inR]; by_cases h : lo ≤ n <;> simp [h]
theorem spec_l00Max_ok (a b : Int) : spec_l00Max a b = some (if b > a then b else a) := by
 rw [spec_l00Max_eq]; simp only [decide_eq_true_eq]; repeat' split
 all_goals first | rfl | (congr 1; omega)
theorem spec_l01Small_ok (c : UInt8) : spec_l01Small (c.toNat : Int) = some (small c) := by
 rw [spec_l01Small_eq,small]; by_cases h : 97 ≤ (c.toNat : Int) <;> simp [h]
theorem spec_l01Digit_ok (c : UInt8) : spec_l01Digit (c.toNat : Int) = some (digit c) := by
 rw [spec_l01Digit_eq,digit]; by_cases h : 48 ≤ (c.toNat : Int) <;> simp [h]
theorem impl_isDigit_ok (c : UInt8) : impl_isDigit (c.toNat : Int) = some (digit c) := by
 rw [impl_isDigit_eq,digit]; by_cases h : 48 ≤ (c.toNat : Int) <;> simp [h]
theorem spec_l01Name_p1_ok (s : List UInt8) (hs : s.length < 4611686018427387904) : ∀ (k i : Nat),i + k = s.length → spec_l01Name_p1 s i = some ((s.drop i).all fun c => small c || digit c)
 | 0,i,h => by
   rw [spec_l01Name_p1_eq,List.drop_eq_nil_of_le (by omega)]
   simp; omega
 | k + 1,i,h => by
   have hi : i < s.length := by omega
   rw [spec_l01Name_p1_eq,drop_cons hi]
   have h1 : (i : Int) < (s.length : Int) := by omega
   simp only [h1,decide_true,if_true,Int.natCast_nonneg,Int.toNat_natCast,getElem?_lt hi,Option.bind_some,spec_l01Small_ok,spec_l01Digit_ok,wsucc (show i < 4611686018427387904 by omega),spec_l01Name_p1_ok s hs k (i + 1) (by omega),List.all_cons]
   cases small s[i] <;> cases digit s[i] <;> simp
theorem spec_l01Name_ok (s : List UInt8) (hs : s.length < 4611686018427387904) : spec_l01Name s = some (isName s) := by
 rw [spec_l01Name_eq]
 cases s with
 | nil => rfl
 | cons c r =>
   have := spec_l01Name_p1_ok (c :: r) hs (r.length + 1) 0 (by simp)
   simp only [spec_l01Name_p0_eq,List.getElem?_cons_zero,Option.bind_some,spec_l01Small_ok]
   rw [show ((0 : Nat) : Int) = 0 from rfl] at this
   rw [this,isName]
   have e0 : ((c :: r) == ([] : List UInt8)) = false := by simp
   by_cases hl : ((c :: r).length : Int) > 10
   ·have : ¬ (c :: r).length ≤ 10 := by omega
    simp only [e0,hl,this,decide_true,decide_false,if_true,Bool.false_eq_true,if_false,Bool.and_false]
   ·have : (c :: r).length ≤ 10 := by omega
    simp only [e0,hl,this,decide_true,decide_false,if_true,Bool.false_eq_true,if_false,Bool.and_true]
    cases hc : small c <;> simp [hc]
def okFrom : Nat → List UInt8 → Bool
 | _,[] => true
 | i,c :: r => (small c || (i != 0 && digit c)) && okFrom (i + 1) r
theorem okFrom_all (r : List UInt8) : ∀ i,okFrom (i + 1) r = r.all fun c => small c || digit c := by
 induction r with
 | nil => intro i; rfl
 | cons c r ih => intro i; simp [okFrom,ih]
theorem impl_IsName_p0_ok (s : List UInt8) (hs : s.length < 4611686018427387904) : ∀ (k i : Nat),i + k = s.length → impl_IsName_p0 s i = some (okFrom i (s.drop i) && (!(s == []) && decide (s.length ≤ 10)))
 | 0,i,h => by
   rw [impl_IsName_p0_eq,List.drop_eq_nil_of_le (by omega),impl_few_eq]
   have h1 : ¬ (i : Int) < (s.length : Int) := by omega
   simp only [h1,decide_false,Bool.false_eq_true,if_false,okFrom,Option.bind_some,Bool.true_and]
   cases s with
   | nil => rfl
   | cons c r =>
     have : ((c :: r == []) = false) := by simp
     simp only [this,Bool.not_false,if_true,Bool.true_and]
     congr 1
     simp only [decide_eq_decide]; omega
 | k + 1,i,h => by
   have hi : i < s.length := by omega
   have h1 : (i : Int) < (s.length : Int) := by omega
   have ih := impl_IsName_p0_ok s hs k (i + 1) (by omega)
   have e1 : ∀ b : Bool,impl_IsName_p1 s i b = some (((b || (i != 0 && digit s[i])) && okFrom (i + 1) (s.drop (i + 1))) && (!(s == []) && decide (s.length ≤ 10))) := by
    intro b
    rw [impl_IsName_p1_eq]
    simp only [Int.natCast_nonneg,decide_true,if_true,Int.toNat_natCast,getElem?_lt hi,Option.bind_some,impl_isDigit_ok,wsucc (show i < 4611686018427387904 by omega),ih]
    cases b
    ·by_cases h0 : i = 0
     ·subst h0; simp
     ·have : ((i : Int) == 0) = false := by simp [h0]
      have : (i != 0) = true := by simp [h0]
      simp only [*]
      cases digit s[i] <;> simp
    ·simp
   rw [impl_IsName_p0_eq,drop_cons hi,okFrom]
   simp only [h1,decide_true,if_true,Int.natCast_nonneg,Int.toNat_natCast,getElem?_lt hi,Option.bind_some,e1,small]
   by_cases h97 : (s[i].toNat : Int) ≥ 97 <;> simp [h97]
theorem impl_IsName_ok (s : List UInt8) (hs : s.length < 4611686018427387904) : impl_IsName s = some (isName s) := by
 rw [impl_IsName_eq]
 have := impl_IsName_p0_ok s hs s.length 0 (by simp)
 rw [show ((0 : Nat) : Int) = 0 from rfl] at this
 rw [this]
 cases s with
 | nil => rfl
 | cons c r => simp [okFrom,okFrom_all,isName]
theorem wu64 {n : Int} (h1 : 0 ≤ n) (h2 : n < 18446744073709551616) : IntKind.u64.wrap n = n := by
 have e : IntKind.u64.wrap n = if decide false = true then n % 18446744073709551616 - 18446744073709551616 else n % 18446744073709551616 := by
  simp [IntKind.wrap,IntKind.signed,IntKind.bits]
 rw [e]
 simp; omega
theorem and255 (x : Int) : ((BitVec.ofInt IntKind.u64.bits x &&& BitVec.ofInt IntKind.u64.bits 255).toNat : Int) ≤ 255 := by
 have : (BitVec.ofInt IntKind.u64.bits x &&& BitVec.ofInt IntKind.u64.bits 255).toNat ≤ 255 := by
  rw [BitVec.toNat_and]
  refine Nat.le_trans Nat.and_le_right ?_
  decide
 omega
def SrcOk (s : T_l00Src.ty) (c : Int) : Prop := (∀ x : Int,x ∈ s.1 → 0 ≤ x ∧ x ≤ 255) ∧ s.1.length ≤ 1048576 ∧ (0 : Int) ≤ s.2.1 ∧ (s.2.1 : Int) ≤ c
theorem src_eta (s : T_l00Src.ty) : (s.1,s.2.1,s.2.2.1,()) = s := rfl
theorem SrcOk.up {s : T_l00Src.ty} {c d : Int} (h : SrcOk s c) (hd : c ≤ d) : SrcOk s d := ⟨h.1,h.2.1,h.2.2.1,Int.le_trans h.2.2.2 hd⟩
theorem next_p0_ok (v : Int) (l : List Int) (a h : Int) (c : Int) (hs : SrcOk (l,a,h,()) c) (hc : c ≤ 1152921504606846976) (hv : 0 ≤ v ∧ v ≤ 255) :
 ∃ (u : Int) (s' : T_l00Src.ty),spec_l00Src_next_p0 v l a h = some (u,s') ∧ SrcOk s' (c + 1) ∧ 0 ≤ u ∧ u ≤ 255 := by
 obtain ⟨h1,h2,h3,h4⟩ := hs
 have h3 : 0 ≤ a := h3
 have h4 : a ≤ c := h4
 rw [spec_l00Src_next_p0_eq,w64 (n := a + 1) (by omega) (by omega)]
 split
 ·exact ⟨_,_,rfl,⟨h1,h2,by show (0 : Int) ≤ a + 1; omega,by show (a + 1 : Int) ≤ c + 1; omega⟩,hv⟩
 ·refine ⟨_,_,rfl,⟨h1,h2,by show (0 : Int) ≤ a + 1; omega,by show (a + 1 : Int) ≤ c + 1; omega⟩,?_⟩
  generalize hx : ((BitVec.ofInt IntKind.u64.bits _ &&& BitVec.ofInt IntKind.u64.bits 255).toNat : Int) = x
  have := and255 (Int.fdiv (IntKind.u64.wrap ((IntKind.u64.wrap ((IntKind.u64.wrap (h * 6364136223846793005)) + (IntKind.u64.wrap v))) + 1442695040888963407)) (2 ^ (min (40 : Int).toNat IntKind.u64.bits)))
  rw [hx] at this
  have h0 : 0 ≤ x := by rw [← hx]; exact Int.natCast_nonneg _
  rw [wu64 h0 (by omega),w64 (by omega) (by omega)]
  exact ⟨h0,this⟩
theorem next_core (l : List Int) (a h c : Int) (hs : SrcOk (l,a,h,()) c) (hc : c ≤ 1152921504606846976) : ∃ (u : Int) (s' : T_l00Src.ty),spec_l00Src_next (l,a,h,()) = some (u,s') ∧ SrcOk s' (c + 1) ∧ 0 ≤ u ∧ u ≤ 255 := by
 have h3 : (0 : Int) ≤ a := hs.2.2.1
 rw [spec_l00Src_next_eq]
 dsimp only
 split
 ·rename_i hlt
  simp only [decide_eq_true_eq] at hlt
  have hlt' : a < (List.length (α := Int) l : Int) := hlt
  have hi : a.toNat < l.length := by omega
  obtain ⟨x,hx⟩ : ∃ x,l[a.toNat]? = some x := ⟨_,List.getElem?_eq_getElem hi⟩
  have hm : 0 ≤ x ∧ x ≤ 255 := hs.1 x (List.mem_of_getElem? hx)
  rw [if_pos (by simpa using h3),hx,Option.bind_some,w64 (n := x) (by omega) (by omega)]
  exact next_p0_ok x l a h c hs hc hm
 ·exact next_p0_ok 0 l a h c hs hc ⟨by omega,by omega⟩
theorem next_ok {s : T_l00Src.ty} {c : Int} (hs : SrcOk s c) (hc : c ≤ 1152921504606846976) : ∃ (u : Int) (s' : T_l00Src.ty),spec_l00Src_next s = some (u,s') ∧ SrcOk s' (c + 1) ∧ 0 ≤ u ∧ u ≤ 255 :=
 next_core s.1 s.2.1 s.2.2.1 c hs hc
theorem pick_ok {s : T_l00Src.ty} {c : Int} (hs : SrcOk s c) (hc : c ≤ 1000000000000000000) (n : Int) (hn : n ≤ 65536) :
 ∃ (u : Int) (s' : T_l00Src.ty),spec_l00Src_pick s n = some (u,s') ∧ SrcOk s' (c + 2) ∧ 0 ≤ u ∧ (u = 0 ∨ u < n) := by
 rw [spec_l00Src_pick_eq]
 by_cases h1 : n ≤ 1
 ·simp only [h1,decide_true,if_true]
  exact ⟨0,s,rfl,hs.up (by omega),by omega,.inl rfl⟩
 ·obtain ⟨u,s1,e1,k1,b1,b2⟩ := next_ok hs (by omega)
  have hn0 : ¬ n = 0 := by omega
  simp only [h1,decide_false,Bool.false_eq_true,if_false,e1,Option.bind_some,src_eta,hn0]
  by_cases h2 : n > 200
  ·obtain ⟨v,s2,e2,k2,b3,b4⟩ := next_ok k1 (by omega)
   simp only [h2,decide_true,if_true,e2,Option.bind_some,src_eta]
   rw [w64 (n := u * 256) (by omega) (by omega),w64 (n := u * 256 + v) (by omega) (by omega),tmod_nonneg_eq (by omega)]
   exact ⟨_,s2,rfl,k2.up (by omega),Int.emod_nonneg _ hn0,.inr (Int.emod_lt_of_pos _ (by omega))⟩
  ·simp only [h2,decide_false,Bool.false_eq_true,if_false]
   rw [tmod_nonneg_eq b1]
   exact ⟨_,s1,rfl,k1.up (by omega),Int.emod_nonneg _ hn0,.inr (Int.emod_lt_of_pos _ (by omega))⟩
theorem one_ok {s : T_l00Src.ty} {c : Int} (hs : SrcOk s c) (hc : c ≤ 1000000000000000000) (n : Int) (hn : n ≤ 65536) :
 ∃ (u : Bool) (s' : T_l00Src.ty),spec_l00Src_one s n = some (u,s') ∧ SrcOk s' (c + 2) := by
 obtain ⟨u,s1,e1,k1,_⟩ := pick_ok hs hc n hn
 rw [spec_l00Src_one_eq]
 simp only [e1,Option.bind_some,src_eta]
 exact ⟨_,s1,rfl,k1⟩
theorem from_ok (code : List Int) (h1 : ∀ x,x ∈ code → 0 ≤ x ∧ x ≤ 255) (h2 : code.length ≤ 1048576) : ∃ s,spec_l00From code = some s ∧ SrcOk s 0 := by
 rw [spec_l00From_eq]
 exact ⟨_,rfl,h1,h2,Int.le_refl _,Int.le_refl _⟩
theorem bytes_ok {l : List Int} (h : CT.wf (.sl (.one (.int .u8))) l) : ∀ x,x ∈ l → 0 ≤ x ∧ x ≤ 255 := fun x hx => by
 have : (Lit.int .u8 x).wf = true := h.2 x hx
 simp [Lit.wf,IntKind.min,IntKind.max,IntKind.signed,IntKind.bits] at this
 omega
def risesAt (lo hi : Int) (l : List Int) (i : Nat) : Bool := inR ((l[i]?).getD 0) lo hi && (decide (i = 0) || decide ((l[i - 1]?).getD 0 < (l[i]?).getD 0))
def risesB (lo hi : Int) (l : List Int) : Bool := (List.range' 0 l.length).all (risesAt lo hi l)
theorem spec_l00Rises_ok (l : List Int) (lo hi : Int) (hs : l.length ≤ 1048576) : spec_l00Rises l lo hi = some (risesB lo hi l) := by
 rw [spec_l00Rises_eq,risesB]
 have := idxLoop l.length (risesAt lo hi l) (fun i => spec_l00Rises_p0 l lo hi i) (some false) (some true) (fun i hi' => ?_) ?_ l.length 0 (by omega)
 ·rw [show ((0 : Nat) : Int) = 0 from rfl] at this
  rw [this]; cases (List.range' 0 l.length).all (risesAt lo hi l) <;> rfl
 ·have hlt : (i : Int) < (l.length : Int) := by omega
  have hw : IntKind.i64.wrap ((i : Int) + 1) = ((i + 1 : Nat) : Int) := by rw [w64 (by omega) (by omega)]; omega
  show spec_l00Rises_p0 l lo hi i = _
  rw [spec_l00Rises_p0_eq]
  simp only [hlt,decide_true,if_true,Int.natCast_nonneg,Int.toNat_natCast,List.getElem?_eq_getElem hi',Option.bind_some,spec_l00In_ok,hw,risesAt,Option.getD_some]
  cases inR l[i] lo hi
  ·simp
  ·by_cases h0 : i = 0
   ·subst h0; simp
   ·have hp : (i : Int) > 0 := by omega
    have hw2 : IntKind.i64.wrap ((i : Int) - 1) = ((i - 1 : Nat) : Int) := by rw [w64 (by omega) (by omega)]; omega
    simp only [hp,decide_true,if_true,hw2,Int.natCast_nonneg,Int.toNat_natCast,List.getElem?_eq_getElem (show i - 1 < l.length by omega),Option.bind_some,Option.getD_some,h0,decide_false,Bool.false_or,Bool.not_true,Bool.false_eq_true,if_false,Bool.true_and]
    by_cases hc : l[i - 1] < l[i]
    ·have : ¬ l[i - 1] ≥ l[i] := by omega
     simp [hc,this]
    ·have : l[i - 1] ≥ l[i] := by omega
     simp [hc,this]
 ·show spec_l00Rises_p0 l lo hi (l.length : Int) = _
  rw [spec_l00Rises_p0_eq]; simp
theorem risesB_at {lo hi : Int} {l : List Int} (h : risesB lo hi l = true) {i : Nat} (hi' : i < l.length) : risesAt lo hi l i = true :=
 List.all_eq_true.1 h i (by simp; omega)
theorem risesB_lt {lo hi : Int} {l : List Int} (h : risesB lo hi l = true) : ∀ (d i : Nat),(hi' : i + d < l.length) → l[i]'(by omega) ≤ l[i + d] ∧ (0 < d → l[i]'(by omega) < l[i + d])
 | 0,i,hi' => ⟨Int.le_refl _,fun h => absurd h (Nat.lt_irrefl _)⟩
 | d + 1,i,hi' => by
   have h1 := (risesB_lt h d i (by omega)).1
   have h2 := risesB_at h (i := i + d + 1) (by omega)
   simp only [risesAt,Bool.and_eq_true,Bool.or_eq_true,decide_eq_true_eq,List.getElem?_eq_getElem (show i + d + 1 < l.length by omega),Nat.add_sub_cancel,List.getElem?_eq_getElem (show i + d < l.length by omega),Option.getD_some] at h2
   have h3 : l[i + d] < l[i + d + 1] := by rcases h2.2 with h | h; · omega
                                           ·exact h
   have h4 : l[i + (d + 1)] = l[i + d + 1] := rfl
   exact ⟨by rw [h4]; omega,fun _ => by rw [h4]; omega⟩
theorem risesB_last {l : List Int} (h : risesB 0 11 l = true) (i : Int) (hi' : 0 ≤ i) : risesB 0 (i - 1) l = !(decide (0 < l.length) && decide (i ≤ l.getLastD 0)) := by
 by_cases hl : l = []
 ·subst hl; rfl
 have hpos : 0 < l.length := List.length_pos_iff.2 hl
 have hla : l.getLastD 0 = l[l.length - 1] := by
  rw [List.getLastD_eq_getLast?,List.getLast?_eq_getElem?,List.getElem?_eq_getElem (by omega)]; rfl
 rw [hla]
 by_cases hc : i ≤ l[l.length - 1]
 ·have : risesB 0 (i - 1) l = false := by
   rw [Bool.eq_false_iff]
   intro h2
   have := risesB_at h2 (i := l.length - 1) (by omega)
   simp only [risesAt,Bool.and_eq_true,inR,decide_eq_true_eq,List.getElem?_eq_getElem (show l.length - 1 < l.length by omega),Option.getD_some] at this
   omega
  rw [this]; simp [hpos,hc]
 ·have : risesB 0 (i - 1) l = true := by
   refine List.all_eq_true.2 fun j hj => ?_
   have hjl : j < l.length := by simp at hj; omega
   have h1 := risesB_at h hjl
   simp only [risesAt,Bool.and_eq_true,inR,decide_eq_true_eq,List.getElem?_eq_getElem hjl,Option.getD_some] at h1 ⊢
   have h2 := (risesB_lt h (l.length - 1 - j) j (by omega)).1
   have h3 : l[j + (l.length - 1 - j)]'(by omega) = l[l.length - 1] := by congr 1; omega
   rw [h3] at h2
   exact ⟨⟨h1.1.1,by omega⟩,h1.2⟩
  rw [this]; simp [hpos,hc]
def stepOk (x : T_Step.ty) : Bool := isName x.1 && (inR x.2.1 1 200 && (inR x.2.2.1 0 20 && risesB 0 11 x.2.2.2.1))
def stepC (xs : List T_Step.ty) (i : Nat) : Bool := stepOk (stAt xs i) && (risesB 0 ((i : Int) - 1) (stAt xs i).2.2.2.1 && (List.range' 0 i).all fun j => !decide ((stAt xs j).1 = (stAt xs i).1))
def stepsOk (xs : List T_Step.ty) : Bool := (List.range' 0 xs.length).all (stepC xs) && decide ((xs.length : Int) ≤ 12)
theorem stAt_eq (xs : List T_Step.ty) {i : Nat} (h : i < xs.length) : stAt xs i = xs[i] := by simp [stAt,List.getElem?_eq_getElem h]
theorem spec_l17One_ok (x : T_Step.ty) (h0 : x.1.length ≤ 1048576) (h1 : List.length (α := Int) x.2.2.2.1 ≤ 1048576) : spec_l17One x = some (stepOk x) := by
 rw [spec_l17One_eq,stepOk]
 simp only [spec_l01Name_ok x.1 (Nat.lt_of_le_of_lt h0 (by decide)),spec_l00In_ok,spec_l00Rises_ok _ _ _ h1,Option.bind_some]
 cases isName x.1 <;> cases inR x.2.1 1 200 <;> cases inR x.2.2.1 0 20 <;> simp
theorem spec_l17Ok_ok (xs : List T_Step.ty) (hs : xs.length ≤ 1048576) (hx : ∀ x,x ∈ xs → x.1.length ≤ 1048576 ∧ List.length (α := Int) x.2.2.2.1 ≤ 1048576) : spec_l17Ok xs = some (stepsOk xs) := by
 rw [spec_l17Ok_eq,stepsOk]
 have := idxLoop xs.length (stepC xs) (fun i => spec_l17Ok_p0 xs i) (some false) (some (decide ((xs.length : Int) ≤ 12))) (fun i hi' => ?_) ?_ xs.length 0 (by omega)
 ·rw [show ((0 : Nat) : Int) = 0 from rfl] at this
  rw [this]; cases (List.range' 0 xs.length).all (stepC xs) <;> rfl
 ·have hlt : (i : Int) < (xs.length : Int) := by omega
  have hw : IntKind.i64.wrap ((i : Int) + 1) = ((i + 1 : Nat) : Int) := by rw [w64 (by omega) (by omega)]; omega
  have hw2 : IntKind.i64.wrap ((i : Int) - 1) = (i : Int) - 1 := by rw [w64 (by omega) (by omega)]
  obtain ⟨g1,g2⟩ := hx xs[i] (List.getElem_mem hi')
  show spec_l17Ok_p0 xs i = _
  rw [spec_l17Ok_p0_eq]
  simp only [hlt,decide_true,if_true,Int.natCast_nonneg,Int.toNat_natCast,List.getElem?_eq_getElem hi',Option.bind_some,spec_l17One_ok _ g1 g2,spec_l00Rises_ok _ _ _ g2,hw2,stepC,stAt_eq xs hi']
  cases stepOk xs[i]
  ·simp
  cases risesB 0 ((i : Int) - 1) xs[i].2.2.2.1
  ·simp
  simp only [Bool.not_true,Bool.false_eq_true,if_false,Bool.true_and]
  rw [spec_l17Ok_p1_eq]
  have := idxLoop i (fun j => !decide ((stAt xs j).1 = xs[i].1)) (fun j => spec_l17Ok_p2 xs i xs[i].1 xs[i].2.1 xs[i].2.2.1 xs[i].2.2.2.1 j) (some false) (spec_l17Ok_p0 xs ((i + 1 : Nat) : Int)) (fun j hj => ?_) ?_ i 0 (by omega)
  ·rw [show ((0 : Nat) : Int) = 0 from rfl] at this
   rw [this]
  ·have hlt : (j : Int) < (i : Int) := by omega
   have hw : IntKind.i64.wrap ((j : Int) + 1) = ((j + 1 : Nat) : Int) := by rw [w64 (by omega) (by omega)]; omega
   show spec_l17Ok_p2 xs i _ _ _ _ j = _
   rw [spec_l17Ok_p2_eq]
   simp only [hlt,decide_true,if_true,Int.natCast_nonneg,Int.toNat_natCast,List.getElem?_eq_getElem (show j < xs.length by omega),Option.bind_some,hw,stAt_eq xs (show j < xs.length by omega)]
   by_cases hc : xs[j].1 = xs[i].1
   ·simp [hc]
   ·simp [hc]
  ·show spec_l17Ok_p2 xs i _ _ _ _ (i : Int) = _
   rw [spec_l17Ok_p2_eq]
   simp [hw]
 ·show spec_l17Ok_p0 xs (xs.length : Int) = _
  rw [spec_l17Ok_p0_eq]; simp
theorem impl_Step_valid_core (a : List UInt8) (b c : Int) (l : List Int) (h0 : a.length ≤ 1048576) (h1 : l.length ≤ 1048576) : impl_Step_valid (a,b,c,l,()) = some (stepOk (a,b,c,l,())) := by
 rw [impl_Step_valid_eq]
 show impl_Step_valid_p0 l (l.length : Int) 0 a b c l = _
 have := idxLoop l.length (risesAt 0 11 l) (fun i => impl_Step_valid_p0 l (l.length : Int) i a b c l) (some false) (some (isName a && (inR b 1 200 && inR c 0 20))) (fun i hi' => ?_) ?_ l.length 0 (by omega)
 ·rw [show ((0 : Nat) : Int) = 0 from rfl] at this
  rw [this,stepOk]
  show _ = some (isName a && (inR b 1 200 && (inR c 0 20 && risesB 0 11 l)))
  rw [risesB]
  cases (List.range' 0 l.length).all (risesAt 0 11 l) <;> cases isName a <;> cases inR b 1 200 <;> cases inR c 0 20 <;> rfl
 ·have hlt : (i : Int) < (l.length : Int) := by omega
  have hw : IntKind.i64.wrap ((i : Int) + 1) = ((i + 1 : Nat) : Int) := by rw [w64 (by omega) (by omega)]; omega
  show impl_Step_valid_p0 l (l.length : Int) i a b c l = _
  rw [impl_Step_valid_p0_eq]
  simp only [hlt,decide_true,if_true,Int.natCast_nonneg,Int.toNat_natCast,List.getElem?_eq_getElem hi',Option.bind_some,impl_within_ok,hw,risesAt,Option.getD_some]
  cases inR l[i] 0 11
  ·simp
  ·by_cases h0 : i = 0
   ·subst h0; simp
   ·have hp : (i : Int) > 0 := by omega
    have hw2 : IntKind.i64.wrap ((i : Int) - 1) = ((i - 1 : Nat) : Int) := by rw [w64 (by omega) (by omega)]; omega
    simp only [hp,decide_true,if_true,hw2,Int.natCast_nonneg,Int.toNat_natCast,List.getElem?_eq_getElem (show i - 1 < l.length by omega),Option.bind_some,Option.getD_some,h0,decide_false,Bool.false_or,Bool.not_true,Bool.false_eq_true,if_false,Bool.true_and]
    by_cases hc : l[i - 1] < l[i]
    ·have : ¬ l[i - 1] ≥ l[i] := by omega
     simp [hc,this]
    ·have : l[i - 1] ≥ l[i] := by omega
     simp [hc,this]
 ·show impl_Step_valid_p0 l (l.length : Int) (l.length : Int) a b c l = _
  rw [impl_Step_valid_p0_eq]
  simp only [Int.lt_irrefl,decide_false,Bool.false_eq_true,if_false,impl_IsName_ok a (Nat.lt_of_le_of_lt h0 (by decide)),impl_within_ok,Option.bind_some]
  cases isName a <;> cases inR b 1 200 <;> simp
theorem impl_Step_valid_ok (x : T_Step.ty) (h0 : x.1.length ≤ 1048576) (h1 : List.length (α := Int) x.2.2.2.1 ≤ 1048576) : impl_Step_valid x = some (stepOk x) := impl_Step_valid_core x.1 x.2.1 x.2.2.1 x.2.2.2.1 h0 h1
theorem vsSeen_all (ids : Nat → List UInt8) (k : Nat) : ∀ n,vsSeen ids k n = !((List.range' 0 n).all fun j => !decide (ids j = ids k))
 | 0 => rfl
 | n + 1 => by
   rw [vsSeen,vsSeen_all ids k n,List.range'_1_concat,List.all_append]
   simp only [Nat.zero_add,List.all_cons,List.all_nil,Bool.and_true,Bool.not_and,Bool.not_not]
theorem vsGo_all (xs : List T_Step.ty) (ok : Nat → Bool) (fin : Bool) (hok : ∀ i,i < xs.length → ok i = stepOk (stAt xs i)) : ∀ (k i : Nat),i + k = xs.length →
 vsGo (fun j => (stAt xs j).1) (fun j => List.length (α := Int) (stAt xs j).2.2.2.1) (fun j => List.getLastD (α := Int) (stAt xs j).2.2.2.1 0) ok fin k i = ((List.range' i k).all (stepC xs) && fin)
 | 0,i,hk => by simp [vsGo]
 | k + 1,i,hk => by
   rw [vsGo,hok i (by omega),vsGo_all xs ok fin hok k (i + 1) (by omega),List.range'_succ,List.all_cons,vsSeen_all,stepC]
   cases h : stepOk (stAt xs i)
   ·simp
   ·have hr : risesB 0 11 (stAt xs i).2.2.2.1 = true := by
     simp only [stepOk,Bool.and_eq_true] at h
     exact h.2.2.2
    rw [risesB_last hr i (by omega)]
    cases (List.range' 0 i).all fun j => !decide ((stAt xs j).1 = (stAt xs i).1)
    ·simp
    ·cases (decide (0 < List.length (α := Int) (stAt xs i).2.2.2.1) && decide ((i : Int) ≤ List.getLastD (α := Int) (stAt xs i).2.2.2.1 0)) <;> simp
theorem impl_ValidSteps_ok (xs : List T_Step.ty) (hs : xs.length ≤ 1048576) (hx : ∀ x,x ∈ xs → x.1.length ≤ 1048576 ∧ List.length (α := Int) x.2.2.2.1 ≤ 1048576) : impl_ValidSteps xs = some (stepsOk xs) := by
 rw [impl_ValidSteps_eq,vsF]
 have h1 : (xs.all fun x => (impl_Step_valid x).isSome && (decide (List.length (α := UInt8) x.1 ≤ 9223372036854775807) && decide (List.length (α := Int) x.2.2.2.1 ≤ 9223372036854775807))) = true := by
  refine List.all_eq_true.2 fun x hm => ?_
  obtain ⟨g1,g2⟩ := hx x hm
  rw [impl_Step_valid_ok x g1 g2,decide_eq_true (show List.length (α := UInt8) x.1 ≤ 9223372036854775807 by omega),decide_eq_true (show List.length (α := Int) x.2.2.2.1 ≤ 9223372036854775807 by omega)]
  rfl
 rw [h1,decide_eq_true (show xs.length ≤ 9223372036854775807 by omega)]
 simp only [Bool.and_self,if_true,impl_few_eq,Option.bind_some]
 rw [vsGo_all xs _ _ (fun i hi' => ?_) xs.length 0 (by omega),stepsOk]
 obtain ⟨g1,g2⟩ := hx xs[i] (List.getElem_mem hi')
 rw [stAt_eq xs hi',impl_Step_valid_ok _ g1 g2]
 rfl
def startsOk (xs : List T_Step.ty) (l : List Int) : Bool := (l.all fun x => inR x 0 2400) && decide (l.length = xs.length)
def sHrs (xs : List T_Step.ty) (i : Nat) : Int := (stAt xs i).2.1
def sClp (xs : List T_Step.ty) (i : Nat) : Int := (stAt xs i).2.2.1
def sAft (xs : List T_Step.ty) (i : Nat) : List Int := (stAt xs i).2.2.2.1
def sBeg (l : List Int) (i : Nat) : Int := (l[i]?).getD 0
theorem sBeg_get {l : List Int} {i : Nat} (h : i < l.length) : l[i]? = some (sBeg l i) := by simp [sBeg,List.getElem?_eq_getElem h]
theorem st_get {xs : List T_Step.ty} {i : Nat} (h : i < xs.length) : xs[i]? = some (stAt xs i) := by rw [stAt_eq xs h,List.getElem?_eq_getElem h]
structure StepsFit (xs : List T_Step.ty) (l : List Int) : Prop where
 len : l.length = xs.length
 few : xs.length ≤ 12
 hrs : ∀ i,i < xs.length → 1 ≤ sHrs xs i ∧ sHrs xs i ≤ 200
 clp : ∀ i,i < xs.length → 0 ≤ sClp xs i ∧ sClp xs i ≤ 20
 beg : ∀ i,0 ≤ sBeg l i ∧ sBeg l i ≤ 2400
 aft : ∀ i,i < xs.length → ∀ j,j < (sAft xs i).length → 0 ≤ sBeg (sAft xs i) j ∧ sBeg (sAft xs i) j < (i : Int)
 al : ∀ i,i < xs.length → (sAft xs i).length ≤ 1048576
theorem stepsFit {xs : List T_Step.ty} {l : List Int} (h1 : stepsOk xs = true) (h2 : startsOk xs l = true) (hx : ∀ y : T_Step.ty,y ∈ xs → List.length (α := Int) y.2.2.2.1 ≤ 1048576) : StepsFit xs l := by
 simp only [stepsOk,startsOk,Bool.and_eq_true,decide_eq_true_eq] at h1 h2
 have hc : ∀ i,i < xs.length → stepC xs i = true := fun i hi => List.all_eq_true.1 h1.1 i (by simp; omega)
 have ho : ∀ i,i < xs.length → stepOk (stAt xs i) = true ∧ risesB 0 ((i : Int) - 1) (sAft xs i) = true := fun i hi => by
  have := hc i hi
  simp only [stepC,Bool.and_eq_true] at this
  exact ⟨this.1,this.2.1⟩
 refine ⟨h2.2,by omega,fun i hi => ?_,fun i hi => ?_,fun i => ?_,fun i hi j hj => ?_,fun i hi => hx _ (List.mem_of_getElem? (st_get hi))⟩
 ·have := (ho i hi).1
  simp only [stepOk,Bool.and_eq_true,inR_iff'] at this
  exact this.2.1
 ·have := (ho i hi).1
  simp only [stepOk,Bool.and_eq_true,inR_iff'] at this
  exact this.2.2.1
 ·by_cases hi : i < l.length
  ·have := List.all_eq_true.1 h2.1 _ (List.mem_of_getElem? (sBeg_get hi))
   exact inR_iff'.1 this
  ·simp only [sBeg,List.getElem?_eq_none (show l.length ≤ i by omega),Option.getD_none]; omega
 ·have := risesB_at (ho i hi).2 hj
  simp only [risesAt,Bool.and_eq_true,inR_iff'] at this
  have e : sBeg (sAft xs i) j = ((sAft xs i)[j]?).getD 0 := rfl
  omega
def usedG (xs : List T_Step.ty) (l : List Int) (h : Int) (i : Nat) : Int := if decide (sBeg l i ≤ h) && decide (h < sBeg l i + sHrs xs i) then (if i < xs.length then sClp xs i else 0) else 0
def usedP (xs : List T_Step.ty) (l : List Int) (h : Int) : Int := sumG (usedG xs l h) 0 l.length
def mx (a b : Int) : Int := if b > a then b else a
theorem mx_le {a b c : Int} : mx a b ≤ c ↔ a ≤ c ∧ b ≤ c := by unfold mx; split <;> omega
theorem mx_l (a b : Int) : a ≤ mx a b := by unfold mx; split <;> omega
theorem mx_r (a b : Int) : b ≤ mx a b := by unfold mx; split <;> omega
theorem mx_if (a b : Int) : (if b > a then b else a) = mx a b := rfl
def bld (f : List Int → Nat → Int) : Nat → List Int
 | 0 => []
 | k + 1 => bld f k ++ [f (bld f k) k]
theorem bld_len (f : List Int → Nat → Int) : ∀ k,(bld f k).length = k
 | 0 => rfl
 | k + 1 => by rw [bld,List.length_append,bld_len f k]; rfl
theorem beg_app (l : List Int) (s : Int) (j : Nat) : sBeg (l ++ [s]) j = if j < l.length then sBeg l j else if j = l.length then s else 0 := by
 unfold sBeg
 by_cases h : j < l.length
 ·rw [if_pos h,List.getElem?_append_left h]
 ·rw [if_neg h,List.getElem?_append_right (by omega)]
  by_cases h2 : j = l.length
  ·subst h2; simp
  ·rw [if_neg h2,List.getElem?_eq_none (by simp; omega)]; rfl
theorem bld_beg (f : List Int → Nat → Int) : ∀ {j k : Nat},j < k → sBeg (bld f k) j = f (bld f j) j
 | j,k + 1,h => by
   rw [bld,beg_app,bld_len]
   by_cases h2 : j < k
   ·rw [if_pos h2,bld_beg f h2]
   ·have : j = k := by omega
    subst this
    rw [if_neg h2,if_pos rfl]
theorem bld_out (f : List Int → Nat → Int) {j k : Nat} (h : k ≤ j) : sBeg (bld f k) j = 0 := by
 unfold sBeg
 rw [List.getElem?_eq_none (by rw [bld_len]; exact h)]; rfl
theorem bld_same (f : List Int → Nat → Int) {j k m : Nat} (h : j < k) (h' : j < m) : sBeg (bld f k) j = sBeg (bld f m) j := by rw [bld_beg f h,bld_beg f h']
def freeAt (room : Int → Bool) : Nat → Int → Int
 | 0,h => h
 | k + 1,h => if room h then h else freeAt room k (h + 1)
theorem freeAt_ok (room : Int → Bool) (E : Int) (hE : ∀ h,E ≤ h → room h = true) : ∀ (k : Nat) (h : Int),h ≤ E → E - h ≤ k →
 h ≤ freeAt room k h ∧ freeAt room k h ≤ E ∧ room (freeAt room k h) = true
 | 0,h,h1,h2 => ⟨Int.le_refl _,h1,hE h (by omega)⟩
 | k + 1,h,h1,h2 => by
   unfold freeAt
   by_cases hr : room h = true
   ·rw [if_pos hr]; exact ⟨Int.le_refl _,h1,hr⟩
   ·rw [if_neg hr]
    have : h ≠ E := fun e => hr (hE h (by omega))
    obtain ⟨a,b,c⟩ := freeAt_ok room E hE k (h + 1) (by omega) (by omega)
    exact ⟨by omega,b,c⟩
theorem freeAt_now {room : Int → Bool} {h : Int} (hr : room h = true) (k : Nat) : freeAt room k h = h := by
 cases k with
 | zero => rfl
 | succ k => rw [freeAt,if_pos hr]
theorem freeLoop {γ : Type} (room : Int → Bool) (E : Int) (hE : ∀ h,E ≤ h → room h = true) (hb : E ≤ 100000) (p K : Int → Option γ) (heq : ∀ h,0 ≤ h → h ≤ 100000 → p h = if room h then K h else p (h + 1)) :
 ∀ (k : Nat) (h : Int),0 ≤ h → h ≤ E → E - h ≤ k → p h = K (freeAt room k h)
 | 0,h,h0,h1,h2 => by
   rw [heq h h0 (by omega),if_pos (hE h (by omega))]; rfl
 | k + 1,h,h0,h1,h2 => by
   rw [heq h h0 (by omega),freeAt]
   by_cases hr : room h = true
   ·rw [if_pos hr,if_pos hr]
   ·rw [if_neg hr,if_neg hr]
    have : h ≠ E := fun e => hr (hE h (by omega))
    exact freeLoop room E hE hb p K heq k (h + 1) (by omega) (by omega) (by omega)
theorem sumG_congr {f g : Nat → Int} : ∀ (k i : Nat),(∀ j,i ≤ j → j < i + k → f j = g j) → sumG f i k = sumG g i k
 | 0,i,h => rfl
 | k + 1,i,h => by rw [sumG,sumG,h i (Nat.le_refl _) (by omega),sumG_congr k (i + 1) fun j h1 h2 => h j (by omega) (by omega)]
theorem sumG_snoc (f : Nat → Int) : ∀ (k i : Nat),sumG f i (k + 1) = sumG f i k + f (i + k)
 | 0,i => by simp [sumG]
 | k + 1,i => by
   rw [sumG,sumG_snoc f k (i + 1),show sumG f i (k + 1) = f i + sumG f (i + 1) k from rfl,show i + 1 + k = i + (k + 1) by omega]
   omega
theorem sumG_zero {f : Nat → Int} : ∀ (k i : Nat),(∀ j,i ≤ j → j < i + k → f j = 0) → sumG f i k = 0
 | 0,i,h => rfl
 | k + 1,i,h => by rw [sumG,h i (Nat.le_refl _) (by omega),sumG_zero k (i + 1) fun j h1 h2 => h j (by omega) (by omega)]; rfl
theorem sumG_ge {f : Nat → Int} (hf : ∀ j,0 ≤ f j) : ∀ (k i j : Nat),i ≤ j → j < i + k → f j ≤ sumG f i k
 | 0,i,j,h1,h2 => by omega
 | k + 1,i,j,h1,h2 => by
   rw [sumG]
   by_cases h : i = j
   ·subst h
    have := sumG_bd (f := f) (lo := 0) (hi := sumG f (i + 1) k) (Int.le_refl _) (by
     clear h1 h2
     induction k generalizing i with
     | zero => simp [sumG]
     | succ k ih => rw [sumG]; have := ih (i + 1); have := hf (i + 1); omega)
    clear this
    have h0 : ∀ (k i : Nat),0 ≤ sumG f i k := by
     intro k
     induction k with
     | zero => intro i; simp [sumG]
     | succ k ih => intro i; rw [sumG]; have := ih (i + 1); have := hf i; omega
    have := h0 k (i + 1)
    omega
   ·have := sumG_ge hf k (i + 1) j (by omega) (by omega)
    have := hf i
    omega
structure StFit (xs : List T_Step.ty) : Prop where
 few : xs.length ≤ 12
 hrs : ∀ i,i < xs.length → 1 ≤ sHrs xs i ∧ sHrs xs i ≤ 200
 clp : ∀ i,i < xs.length → 0 ≤ sClp xs i ∧ sClp xs i ≤ 20
 aft : ∀ i,i < xs.length → ∀ a,a ∈ sAft xs i → 0 ≤ a ∧ a < (i : Int)
 al : ∀ i,i < xs.length → (sAft xs i).length ≤ 1048576
theorem stFit {xs : List T_Step.ty} (h1 : stepsOk xs = true) (hx : ∀ y : T_Step.ty,y ∈ xs → List.length (α := Int) y.2.2.2.1 ≤ 1048576) : StFit xs := by
 have F := stepsFit (l := List.replicate xs.length 0) h1 (by
  rw [startsOk,Bool.and_eq_true]
  refine ⟨List.all_eq_true.2 fun x hx => ?_,by simp⟩
  rw [List.eq_of_mem_replicate hx]; decide) hx
 refine ⟨F.few,F.hrs,F.clp,fun i hi a ha => ?_,F.al⟩
 obtain ⟨j,hj,e⟩ := List.getElem_of_mem ha
 have := F.aft i hi j hj
 rw [show sBeg (sAft xs i) j = a by rw [sBeg,List.getElem?_eq_getElem hj,e]; rfl] at this
 exact this
structure BgFit (xs : List T_Step.ty) (l : List Int) : Prop where
 len : l.length ≤ xs.length
 beg : ∀ i,0 ≤ sBeg l i ∧ sBeg l i ≤ 2400
def rdyL (xs : List T_Step.ty) (l : List Int) : List Int → Int → Int
 | [],m => m
 | a :: r,m => rdyL xs l r (mx m (sBeg l a.toNat + sHrs xs a.toNat))
theorem rdyL_ge (xs : List T_Step.ty) (l : List Int) : ∀ (A : List Int) (m : Int),m ≤ rdyL xs l A m
 | [],m => Int.le_refl _
 | a :: r,m => Int.le_trans (mx_l _ _) (rdyL_ge xs l r _)
theorem rdyL_mem (xs : List T_Step.ty) (l : List Int) : ∀ (A : List Int) (m a : Int),a ∈ A → sBeg l a.toNat + sHrs xs a.toNat ≤ rdyL xs l A m
 | b :: r,m,a,h => by
   rcases List.mem_cons.1 h with rfl | h
   ·exact Int.le_trans (mx_r _ _) (rdyL_ge xs l r _)
   ·exact rdyL_mem xs l r _ a h
theorem rdyL_le {xs : List T_Step.ty} {l : List Int} {c : Int} : ∀ {A : List Int} {m : Int},m ≤ c → (∀ a,a ∈ A → sBeg l a.toNat + sHrs xs a.toNat ≤ c) → rdyL xs l A m ≤ c
 | [],m,h,_ => h
 | a :: r,m,h,h2 => rdyL_le (A := r) (m := mx m (sBeg l a.toNat + sHrs xs a.toNat)) (mx_le.2 ⟨h,h2 a (by simp)⟩) fun b hb => h2 b (by simp [hb])
def rdyP (xs : List T_Step.ty) (l : List Int) (i : Nat) : Int := rdyL xs l (sAft xs i) 0
theorem rdyP_same {xs : List T_Step.ty} {l l' : List Int} {i : Nat} (h : ∀ a,a ∈ sAft xs i → sBeg l a.toNat = sBeg l' a.toNat) : rdyP xs l i = rdyP xs l' i := by
 have h1 : rdyP xs l i ≤ rdyP xs l' i := rdyL_le (rdyL_ge _ _ _ _) fun a ha => by rw [h a ha]; exact rdyL_mem _ _ _ _ _ ha
 have h2 : rdyP xs l' i ≤ rdyP xs l i := rdyL_le (rdyL_ge _ _ _ _) fun a ha => by rw [← h a ha]; exact rdyL_mem _ _ _ _ _ ha
 omega
theorem rdyP_mono {xs : List T_Step.ty} {l l' : List Int} {i : Nat} (h : ∀ a,a ∈ sAft xs i → sBeg l a.toNat ≤ sBeg l' a.toNat) : rdyP xs l i ≤ rdyP xs l' i :=
 rdyL_le (rdyL_ge _ _ _ _) fun a ha => Int.le_trans (by have := h a ha; omega) (rdyL_mem _ _ _ _ _ ha)
theorem usedG_bdS {xs : List T_Step.ty} (S : StFit xs) (l : List Int) (h : Int) (i : Nat) : 0 ≤ usedG xs l h i ∧ usedG xs l h i ≤ 20 := by
 unfold usedG
 split
 ·split
  ·rename_i hi; exact S.clp i hi
  ·omega
 ·omega
theorem usedP_bdS {xs : List T_Step.ty} (S : StFit xs) (l : List Int) (h : Int) : 0 ≤ usedP xs l h ∧ usedP xs l h ≤ 20 * (l.length : Int) := by
 have := sumG_bd (f := usedG xs l h) (lo := 0) (hi := 20) (by omega) (by omega) (usedG_bdS S l h) l.length 0
 unfold usedP; omega
theorem usedP_app {xs : List T_Step.ty} {l : List Int} (s h : Int) (hl : l.length < xs.length) : usedP xs (l ++ [s]) h = usedP xs l h + if decide (s ≤ h) && decide (h < s + sHrs xs l.length) then sClp xs l.length else 0 := by
 unfold usedP
 rw [List.length_append,show l.length + [s].length = l.length + 1 from rfl,sumG_snoc]
 congr 1
 ·refine sumG_congr _ _ fun j h1 h2 => ?_
  have e : sBeg (l ++ [s]) j = sBeg l j := by rw [beg_app,if_pos (by omega)]
  unfold usedG
  rw [e]
 ·rw [Nat.zero_add]
  have e : sBeg (l ++ [s]) l.length = s := by rw [beg_app,if_neg (Nat.lt_irrefl _),if_pos rfl]
  unfold usedG
  rw [e,if_pos hl]
def roomB (xs : List T_Step.ty) (l : List Int) (i : Nat) (cl h : Int) : Bool := (List.range' 0 (sHrs xs i).toNat).all fun d => decide (usedP xs l (h + (d : Int)) + sClp xs i ≤ cl)
theorem roomB_at {xs : List T_Step.ty} {l : List Int} {i : Nat} {cl h : Int} (hr : roomB xs l i cl h = true) {m : Int} (h1 : h ≤ m) (h2 : m < h + sHrs xs i) : usedP xs l m + sClp xs i ≤ cl := by
 have := List.all_eq_true.1 hr (m - h).toNat (by simp; omega)
 rw [decide_eq_true_eq,show h + (((m - h).toNat : Nat) : Int) = m by omega] at this
 exact this
def planF (xs : List T_Step.ty) (cl : Int) (l : List Int) (i : Nat) : Int := freeAt (roomB xs l i cl) 5000 (rdyP xs l i)
def clpOk (xs : List T_Step.ty) (cl : Int) (n : Nat) : Prop := ∀ i,i < n → sClp xs i ≤ cl
structure PlanOk (xs : List T_Step.ty) (cl : Int) (k : Nat) : Prop where
 beg : ∀ j,j < k → 0 ≤ sBeg (bld (planF xs cl) k) j ∧ sBeg (bld (planF xs cl) k) j + sHrs xs j ≤ 200 * ((j : Int) + 1)
 rdy : ∀ j,j < k → rdyP xs (bld (planF xs cl) k) j ≤ sBeg (bld (planF xs cl) k) j
 use : ∀ h,usedP xs (bld (planF xs cl) k) h ≤ mx 0 cl
theorem room_late {xs : List T_Step.ty} (S : StFit xs) {cl : Int} {k : Nat} (hk : k < xs.length) (hc : clpOk xs cl (k + 1)) (P : PlanOk xs cl k) : ∀ h,200 * (k : Int) ≤ h → roomB xs (bld (planF xs cl) k) k cl h = true := by
 intro h hh
 refine List.all_eq_true.2 fun d _ => decide_eq_true ?_
 have : usedP xs (bld (planF xs cl) k) (h + (d : Int)) = 0 := by
  refine sumG_zero _ _ fun j h1 h2 => ?_
  rw [bld_len] at h2
  have := P.beg j (by omega)
  unfold usedG
  rw [if_neg]
  simp only [Bool.and_eq_true,decide_eq_true_eq]
  omega
 have := hc k (by omega)
 omega
theorem rdy_bd {xs : List T_Step.ty} (S : StFit xs) {k : Nat} {l : List Int} (hk : k < xs.length) (hb : ∀ j,j < k → sBeg l j + sHrs xs j ≤ 200 * ((j : Int) + 1)) : 0 ≤ rdyP xs l k ∧ rdyP xs l k ≤ 200 * (k : Int) := by
 refine ⟨rdyL_ge _ _ _ _,rdyL_le (by omega) fun a ha => ?_⟩
 have h1 := S.aft k hk a ha
 have h2 := hb a.toNat (by omega)
 omega
theorem planF_ok {xs : List T_Step.ty} (S : StFit xs) {cl : Int} {k : Nat} (hk : k < xs.length) (hc : clpOk xs cl (k + 1)) (P : PlanOk xs cl k) :
 rdyP xs (bld (planF xs cl) k) k ≤ planF xs cl (bld (planF xs cl) k) k ∧ planF xs cl (bld (planF xs cl) k) k ≤ 200 * (k : Int) ∧ roomB xs (bld (planF xs cl) k) k cl (planF xs cl (bld (planF xs cl) k) k) = true := by
 have b := rdy_bd S (l := bld (planF xs cl) k) hk fun j hj => (P.beg j hj).2
 have := S.few
 exact freeAt_ok _ (200 * (k : Int)) (room_late S hk hc P) 5000 _ b.2 (by omega)
theorem planOk {xs : List T_Step.ty} (S : StFit xs) {cl : Int} : ∀ (k : Nat),k ≤ xs.length → clpOk xs cl k → PlanOk xs cl k
 | 0,_,_ => ⟨fun j h => by omega,fun j h => by omega,fun h => by
   show (0 : Int) ≤ mx 0 cl
   exact mx_l _ _⟩
 | k + 1,hk,hc => by
   have P := planOk S k (by omega) fun i hi => hc i (by omega)
   obtain ⟨f1,f2,f3⟩ := planF_ok S (by omega) hc P
   have f0 := rdy_bd S (l := bld (planF xs cl) k) (k := k) (by omega) fun j hj => (P.beg j hj).2
   have hh := S.hrs k (by omega)
   refine ⟨fun j hj => ?_,fun j hj => ?_,fun h => ?_⟩
   ·by_cases h : j < k
    ·rw [bld_same (planF xs cl) (k := k + 1) (m := k) (by omega) h]
     exact P.beg j h
    ·have : j = k := by omega
     subst this
     rw [bld_beg (planF xs cl) (by omega)]
     omega
   ·have e : rdyP xs (bld (planF xs cl) (k + 1)) j = rdyP xs (bld (planF xs cl) j) j := rdyP_same fun a ha => by
     have := S.aft j (by omega) a ha
     exact bld_same _ (by omega) (by omega)
    by_cases h : j < k
    ·have e2 : rdyP xs (bld (planF xs cl) k) j = rdyP xs (bld (planF xs cl) j) j := rdyP_same fun a ha => by
      have := S.aft j (by omega) a ha
      exact bld_same _ (by omega) (by omega)
     rw [e,← e2,bld_same (planF xs cl) (k := k + 1) (m := k) (by omega) h]
     exact P.rdy j h
    ·have : j = k := by omega
     subst this
     rw [e,bld_beg (planF xs cl) (by omega)]
     exact f1
   ·rw [bld,usedP_app _ _ (by rw [bld_len]; omega),bld_len]
    have u := P.use h
    split
    ·rename_i hc2
     simp only [Bool.and_eq_true,decide_eq_true_eq] at hc2
     have := roomB_at f3 hc2.1 hc2.2
     exact Int.le_trans this (mx_r _ _)
    ·omega
def endsP (xs : List T_Step.ty) (l : List Int) : Nat → Int
 | 0 => 0
 | k + 1 => mx (endsP xs l k) (sBeg l k + sHrs xs k)
theorem endsP_le {xs : List T_Step.ty} {l : List Int} {c : Int} (h0 : 0 ≤ c) : ∀ k,(∀ j,j < k → sBeg l j + sHrs xs j ≤ c) → endsP xs l k ≤ c
 | 0,_ => h0
 | k + 1,h => mx_le.2 ⟨endsP_le h0 k fun j hj => h j (by omega),h k (by omega)⟩
theorem endsP_ge {xs : List T_Step.ty} {l : List Int} : ∀ {k j : Nat},j < k → sBeg l j + sHrs xs j ≤ endsP xs l k
 | k + 1,j,h => by
   by_cases h2 : j < k
   ·exact Int.le_trans (endsP_ge h2) (mx_l _ _)
   ·have : j = k := by omega
    subst this; exact mx_r _ _
theorem endsP_nonneg (xs : List T_Step.ty) (l : List Int) : ∀ k,0 ≤ endsP xs l k
 | 0 => Int.le_refl _
 | k + 1 => Int.le_trans (endsP_nonneg xs l k) (mx_l _ _)
theorem early_le {xs : List T_Step.ty} (S : StFit xs) {cl : Int} {n : Nat} (hn : n ≤ xs.length) (hc : clpOk xs cl n) : ∀ j,j < n → sBeg (bld (rdyP xs) n) j ≤ sBeg (bld (planF xs cl) n) j := by
 intro j
 induction j using Nat.strongRecOn with
 | _ j ih =>
   intro hj
   have P := planOk S n hn hc
   refine Int.le_trans ?_ (P.rdy j hj)
   rw [bld_beg (rdyP xs) hj,rdyP_same (l' := bld (rdyP xs) n) fun a ha => by
    have := S.aft j (by omega) a ha
    exact bld_same _ (by omega) (by omega)]
   refine rdyP_mono fun a ha => ?_
   have := S.aft j (by omega) a ha
   exact ih a.toNat (by omega) (by omega)
theorem plan_many {xs : List T_Step.ty} (S : StFit xs) : ∀ k,k ≤ xs.length → bld (planF xs 240) k = bld (rdyP xs) k
 | 0,_ => rfl
 | k + 1,hk => by
   have ih := plan_many S k (by omega)
   rw [bld,bld,ih]
   congr 2
   refine freeAt_now (List.all_eq_true.2 fun d _ => decide_eq_true ?_) _
   have h1 := (usedP_bdS S (bld (rdyP xs) k) (rdyP xs (bld (rdyP xs) k) k + (d : Int))).2
   rw [bld_len] at h1
   have h2 := S.clp k (by omega)
   have := S.few
   omega
theorem early_bd {xs : List T_Step.ty} (S : StFit xs) {n : Nat} (hn : n ≤ xs.length) : ∀ j,j < n → 0 ≤ sBeg (bld (rdyP xs) n) j ∧ sBeg (bld (rdyP xs) n) j + sHrs xs j ≤ 200 * ((j : Int) + 1) := by
 intro j hj
 have hc : clpOk xs 240 n := fun i hi => by have := S.clp i (by omega); omega
 have P := planOk S n hn hc
 rw [← plan_many S n hn]
 exact P.beg j hj
theorem plan_fit {xs : List T_Step.ty} (S : StFit xs) {cl : Int} {k : Nat} (hk : k ≤ xs.length) (hc : clpOk xs cl k) : BgFit xs (bld (planF xs cl) k) := by
 have P := planOk S k hk hc
 have := S.few
 refine ⟨by rw [bld_len]; exact hk,fun i => ?_⟩
 by_cases h : i < k
 ·have := P.beg i h
  have := S.hrs i (by omega)
  omega
 ·rw [bld_out _ (by omega)]; omega
theorem early_fit {xs : List T_Step.ty} (S : StFit xs) {k : Nat} (hk : k ≤ xs.length) : BgFit xs (bld (rdyP xs) k) := by
 rw [← plan_many S k hk]
 exact plan_fit S hk fun i hi => by have := S.clp i (by omega); omega
theorem aft_at {xs : List T_Step.ty} (S : StFit xs) {l : List Int} (B : BgFit xs l) {i j : Nat} (hi : i < xs.length) (hl : i ≤ l.length) (hj : j < (sAft xs i).length) :
 0 ≤ (sAft xs i)[j] ∧ ((sAft xs i)[j]).toNat < xs.length ∧ ((sAft xs i)[j]).toNat < l.length ∧ (sAft xs i)[j] < (i : Int) ∧
   IntKind.i64.wrap (sBeg l ((sAft xs i)[j]).toNat + sHrs xs ((sAft xs i)[j]).toNat) = sBeg l ((sAft xs i)[j]).toNat + sHrs xs ((sAft xs i)[j]).toNat ∧
   0 ≤ sBeg l ((sAft xs i)[j]).toNat + sHrs xs ((sAft xs i)[j]).toNat ∧ sBeg l ((sAft xs i)[j]).toNat + sHrs xs ((sAft xs i)[j]).toNat ≤ 2600 := by
 have h1 := S.aft i hi _ (List.getElem_mem hj)
 have h2 := B.beg ((sAft xs i)[j]).toNat
 have h3 := S.hrs ((sAft xs i)[j]).toNat (by omega)
 exact ⟨h1.1,by omega,by omega,h1.2,by rw [w64 (by omega) (by omega)],by omega,by omega⟩
theorem impl_ready_okN {xs : List T_Step.ty} {l : List Int} (S : StFit xs) (B : BgFit xs l) {i : Nat} (hi : i < xs.length) (hl : i ≤ l.length) : impl_ready xs l i = some (rdyP xs l i) := by
 have hal := S.al i hi
 rw [impl_ready_eq]
 simp only [Int.natCast_nonneg,decide_true,if_true,Int.toNat_natCast,st_get hi,Option.bind_some]
 show impl_ready_p0 xs l 0 (sAft xs i) ((sAft xs i).length : Int) 0 = some (rdyL xs l (sAft xs i) 0)
 have loop : ∀ (k j : Nat) (m : Int),j + k = (sAft xs i).length → 0 ≤ m → m ≤ 10000 → impl_ready_p0 xs l m (sAft xs i) ((sAft xs i).length : Int) j = some (rdyL xs l ((sAft xs i).drop j) m) := by
  intro k
  induction k with
  | zero =>
    intro j m hk h0 h1
    rw [impl_ready_p0_eq,List.drop_eq_nil_of_le (by omega)]
    have : ¬ (j : Int) < ((sAft xs i).length : Int) := by omega
    simp only [this,decide_false,Bool.false_eq_true,if_false,rdyL]
  | succ k ih =>
    intro j m hk h0 h1
    have hj : j < (sAft xs i).length := by omega
    have hlj : (j : Int) < ((sAft xs i).length : Int) := by omega
    have hwj : IntKind.i64.wrap ((j : Int) + 1) = ((j + 1 : Nat) : Int) := by rw [w64 (by omega) (by omega)]; omega
    obtain ⟨q1,q2,q3,q4,q5,q6,q7⟩ := aft_at S B hi hl hj
    have q5' : IntKind.i64.wrap (sBeg l ((sAft xs i)[j]).toNat + (stAt xs ((sAft xs i)[j]).toNat).2.1) = sBeg l ((sAft xs i)[j]).toNat + sHrs xs ((sAft xs i)[j]).toNat := q5
    rw [impl_ready_p0_eq,List.drop_eq_getElem_cons hj]
    simp only [Int.natCast_nonneg,decide_true,if_true,Int.toNat_natCast,Option.bind_some,hlj,List.getElem?_eq_getElem hj,q1,sBeg_get q3,st_get q2,q5',hwj,mx_if,rdyL]
    exact ih (j + 1) _ (by omega) (Int.le_trans h0 (mx_l _ _)) (mx_le.2 ⟨h1,by omega⟩)
 have := loop (sAft xs i).length 0 0 (by omega) (by omega) (by omega)
 rwa [List.drop_zero] at this
theorem early_p1_ok {xs : List T_Step.ty} {l : List Int} (S : StFit xs) (B : BgFit xs l) {i : Nat} (hi : i < xs.length) (hl : i = l.length) : ∀ (k j : Nat) (m : Int),j + k = (sAft xs i).length → 0 ≤ m → m ≤ 10000 →
 spec_l17Early_p1 xs i m j l = spec_l17Early_p0 xs ((i + 1 : Nat) : Int) (l ++ [rdyL xs l ((sAft xs i).drop j) m])
 | 0,j,m,hk,h0,h1 => by
   have hal := S.al i hi
   have hf := S.few
   have hwi : IntKind.i64.wrap ((i : Int) + 1) = ((i + 1 : Nat) : Int) := by rw [w64 (by omega) (by omega)]; omega
   have hlim : l.length + 1 < lim := by rw [lim_eq]; omega
   have e : (stAt xs i).2.2.2.1 = sAft xs i := rfl
   have : ¬ (j : Int) < ((sAft xs i).length : Int) := by omega
   rw [spec_l17Early_p1_eq,List.drop_eq_nil_of_le (by omega)]
   simp only [Int.natCast_nonneg,decide_true,if_true,Int.toNat_natCast,st_get hi,Option.bind_some,e,this,decide_false,Bool.false_eq_true,if_false,hlim,List.take_length,hwi,rdyL]
 | k + 1,j,m,hk,h0,h1 => by
   have hal := S.al i hi
   have hj : j < (sAft xs i).length := by omega
   have hlj : (j : Int) < ((sAft xs i).length : Int) := by omega
   have hwj : IntKind.i64.wrap ((j : Int) + 1) = ((j + 1 : Nat) : Int) := by rw [w64 (by omega) (by omega)]; omega
   obtain ⟨q1,q2,q3,q4,q5,q6,q7⟩ := aft_at S B hi (by omega) hj
   have q5' : IntKind.i64.wrap (sBeg l ((sAft xs i)[j]).toNat + (stAt xs ((sAft xs i)[j]).toNat).2.1) = sBeg l ((sAft xs i)[j]).toNat + sHrs xs ((sAft xs i)[j]).toNat := q5
   have q4' : (sAft xs i)[j] < (l.length : Int) := by omega
   have e : (stAt xs i).2.2.2.1 = sAft xs i := rfl
   rw [spec_l17Early_p1_eq,List.drop_eq_getElem_cons hj]
   simp only [Int.natCast_nonneg,decide_true,if_true,Int.toNat_natCast,st_get hi,Option.bind_some,e,hlj,List.getElem?_eq_getElem hj,q1,q4',Bool.and_self,sBeg_get q3,st_get q2,q5',hwj,spec_l00Max_ok,mx_if,rdyL]
   exact early_p1_ok S B hi hl k (j + 1) _ (by omega) (Int.le_trans h0 (mx_l _ _)) (mx_le.2 ⟨h1,by omega⟩)
theorem spec_l17Early_okN {xs : List T_Step.ty} (S : StFit xs) : spec_l17Early xs = some (bld (rdyP xs) xs.length) := by
 have loop : ∀ (k i : Nat),i + k = xs.length → spec_l17Early_p0 xs i (bld (rdyP xs) i) = some (bld (rdyP xs) xs.length) := by
  intro k
  induction k with
  | zero =>
    intro i hk
    obtain rfl : i = xs.length := by omega
    rw [spec_l17Early_p0_eq]
    simp only [Int.lt_irrefl,decide_false,Bool.false_eq_true,if_false,List.take_length]
  | succ k ih =>
    intro i hk
    have hlt : (i : Int) < (xs.length : Int) := by omega
    have := early_p1_ok S (early_fit S (k := i) (by omega)) (i := i) (by omega) (by rw [bld_len]) (sAft xs i).length 0 0 (by omega) (by omega) (by omega)
    rw [spec_l17Early_p0_eq]
    simp only [hlt,decide_true,if_true]
    rw [List.drop_zero] at this
    exact this.trans (ih (i + 1) (by omega))
 rw [spec_l17Early_eq]
 exact loop xs.length 0 (by omega)
theorem spec_l17End_okN {xs : List T_Step.ty} {l : List Int} (S : StFit xs) (B : BgFit xs l) (hl : l.length = xs.length) : spec_l17End xs l = some (endsP xs l xs.length) := by
 have hf := S.few
 have loop : ∀ (k i : Nat),i + k = xs.length → spec_l17End_p0 xs l (endsP xs l i) i = some (endsP xs l xs.length) := by
  intro k
  induction k with
  | zero =>
    intro i hk
    obtain rfl : i = xs.length := by omega
    rw [spec_l17End_p0_eq]
    simp only [Int.lt_irrefl,decide_false,Bool.false_eq_true,if_false]
  | succ k ih =>
    intro i hk
    have hi : i < xs.length := by omega
    have hlt : (i : Int) < (xs.length : Int) := by omega
    have hwi : IntKind.i64.wrap ((i : Int) + 1) = ((i + 1 : Nat) : Int) := by rw [w64 (by omega) (by omega)]; omega
    have h2 := B.beg i
    have h3 := S.hrs i hi
    have hw : IntKind.i64.wrap (sBeg l i + (stAt xs i).2.1) = sBeg l i + sHrs xs i := by
     show IntKind.i64.wrap (sBeg l i + sHrs xs i) = _
     rw [w64 (by omega) (by omega)]
    rw [spec_l17End_p0_eq]
    simp only [hlt,Int.natCast_nonneg,decide_true,if_true,Int.toNat_natCast,sBeg_get (show i < l.length by omega),st_get hi,Option.bind_some,hw,spec_l00Max_ok,mx_if,hwi]
    exact ih (i + 1) (by omega)
 rw [spec_l17End_eq]
 exact loop xs.length 0 (by omega)
theorem impl_ended_okN {xs : List T_Step.ty} {l : List Int} (S : StFit xs) (B : BgFit xs l) (hl : l.length = xs.length) : impl_ended xs l = some (endsP xs l xs.length) := by
 have hf := S.few
 have loop : ∀ (k i : Nat),i + k = xs.length → impl_ended_p0 l (endsP xs l i) xs xs.length i = some (endsP xs l xs.length) := by
  intro k
  induction k with
  | zero =>
    intro i hk
    obtain rfl : i = xs.length := by omega
    rw [impl_ended_p0_eq]
    simp only [Int.lt_irrefl,decide_false,Bool.false_eq_true,if_false]
  | succ k ih =>
    intro i hk
    have hi : i < xs.length := by omega
    have hlt : (i : Int) < (xs.length : Int) := by omega
    have hwi : IntKind.i64.wrap ((i : Int) + 1) = ((i + 1 : Nat) : Int) := by rw [w64 (by omega) (by omega)]; omega
    have h2 := B.beg i
    have h3 := S.hrs i hi
    have hw : IntKind.i64.wrap (sBeg l i + (stAt xs i).2.1) = sBeg l i + sHrs xs i := by
     show IntKind.i64.wrap (sBeg l i + sHrs xs i) = _
     rw [w64 (by omega) (by omega)]
    rw [impl_ended_p0_eq]
    simp only [hlt,Int.natCast_nonneg,decide_true,if_true,Int.toNat_natCast,sBeg_get (show i < l.length by omega),st_get hi,Option.bind_some,hw,mx_if,hwi]
    exact ih (i + 1) (by omega)
 rw [impl_ended_eq]
 exact loop xs.length 0 (by omega)
theorem spec_l17Used_okN {xs : List T_Step.ty} {l : List Int} (S : StFit xs) (B : BgFit xs l) (h : Int) : spec_l17Used xs l h = some (usedP xs l h) := by
 rw [spec_l17Used_eq]
 have fl := B.len
 have ff := S.few
 have := sumLoop l.length (by omega) (usedG xs l h) (fun i => by have := usedG_bdS S l h i; omega) (fun a i => spec_l17Used_p0 xs l h a i) some (fun i a hi ha => ?_) (fun a => ?_) l.length 0 0 (by omega) (by omega)
 ·rw [Int.zero_add] at this; exact this
 ·have hlt : (i : Int) < (l.length : Int) := by omega
  have hi2 : i < xs.length := by omega
  have hw : IntKind.i64.wrap ((i : Int) + 1) = ((i + 1 : Nat) : Int) := by rw [w64 (by omega) (by omega)]; omega
  have g1 := B.beg i
  have g2 := S.hrs i hi2
  have g3 := S.clp i hi2
  have hw2 : IntKind.i64.wrap (sBeg l i + sHrs xs i) = sBeg l i + sHrs xs i := by rw [w64 (by omega) (by omega)]
  have hw3 : IntKind.i64.wrap (a + sClp xs i) = a + sClp xs i := by rw [w64 (by omega) (by omega)]
  show spec_l17Used_p0 xs l h a i = spec_l17Used_p0 xs l h (a + usedG xs l h i) ((i + 1 : Nat) : Int)
  rw [spec_l17Used_p0_eq]
  simp only [hlt,decide_true,if_true,Int.natCast_nonneg,Int.toNat_natCast,sBeg_get hi,st_get hi2,Option.bind_some,spec_l17Used_p1_eq]
  have hw2' : IntKind.i64.wrap (sBeg l i + (stAt xs i).2.1) = sBeg l i + sHrs xs i := hw2
  have hw3' : IntKind.i64.wrap (a + (stAt xs i).2.2.1) = a + sClp xs i := hw3
  rw [hw,hw2',hw3']
  unfold usedG
  by_cases c1 : sBeg l i ≤ h
  ·by_cases c2 : h < sBeg l i + sHrs xs i
   ·simp [c1,c2,hi2]
   ·simp [c1,c2]
  ·simp [c1]
 ·show spec_l17Used_p0 xs l h a (l.length : Int) = _
  rw [spec_l17Used_p0_eq]; simp
theorem impl_used_okN {xs : List T_Step.ty} {l : List Int} (S : StFit xs) (B : BgFit xs l) (h : Int) : impl_used xs l h = some (usedP xs l h) := by
 rw [impl_used_eq]
 have fl := B.len
 have ff := S.few
 have := sumLoop l.length (by omega) (usedG xs l h) (fun i => by have := usedG_bdS S l h i; omega) (fun a i => impl_used_p0 xs h a l l.length i) some (fun i a hi ha => ?_) (fun a => ?_) l.length 0 0 (by omega) (by omega)
 ·rw [Int.zero_add] at this; exact this
 ·have hlt : (i : Int) < (l.length : Int) := by omega
  have hi2 : i < xs.length := by omega
  have hw : IntKind.i64.wrap ((i : Int) + 1) = ((i + 1 : Nat) : Int) := by rw [w64 (by omega) (by omega)]; omega
  have g1 := B.beg i
  have g2 := S.hrs i hi2
  have g3 := S.clp i hi2
  have hw2 : IntKind.i64.wrap (IntKind.i64.wrap (sBeg l i + sHrs xs i) - 1) = sBeg l i + sHrs xs i - 1 := by rw [w64 (n := sBeg l i + sHrs xs i) (by omega) (by omega),w64 (by omega) (by omega)]
  have hw3 : IntKind.i64.wrap (a + sClp xs i) = a + sClp xs i := by rw [w64 (by omega) (by omega)]
  show impl_used_p0 xs h a l l.length i = impl_used_p0 xs h (a + usedG xs l h i) l l.length ((i + 1 : Nat) : Int)
  rw [impl_used_p0_eq]
  simp only [hlt,decide_true,if_true,Int.natCast_nonneg,Int.toNat_natCast,sBeg_get hi,st_get hi2,Option.bind_some,impl_within_ok]
  have hw2' : IntKind.i64.wrap (IntKind.i64.wrap (sBeg l i + (stAt xs i).2.1) - 1) = sBeg l i + sHrs xs i - 1 := hw2
  have hw3' : IntKind.i64.wrap (a + (stAt xs i).2.2.1) = a + sClp xs i := hw3
  rw [hw,hw2',hw3',inR]
  unfold usedG
  by_cases c1 : sBeg l i ≤ h
  ·by_cases c2 : h < sBeg l i + sHrs xs i
   ·have c3 : h ≤ sBeg l i + sHrs xs i - 1 := by omega
    simp [c1,c2,c3,hi2]
   ·have c3 : ¬ h ≤ sBeg l i + sHrs xs i - 1 := by omega
    simp [c1,c2,c3]
  ·simp [c1]
 ·show impl_used_p0 xs h a l l.length (l.length : Int) = _
  rw [impl_used_p0_eq]; simp
theorem spec_l17Free_okN {xs : List T_Step.ty} {l : List Int} (S : StFit xs) (B : BgFit xs l) {i : Nat} (hi : i < xs.length) {h cl : Int} (h0 : 0 ≤ h) (h1 : h ≤ 100000) (c0 : 0 ≤ cl) (c1 : cl ≤ 240) :
 spec_l17Free xs l h (sHrs xs i) (IntKind.i64.wrap (cl - sClp xs i)) = some (roomB xs l i cl h) := by
 have g2 := S.hrs i hi
 have g3 := S.clp i hi
 rw [spec_l17Free_eq,w64 (n := cl - sClp xs i) (by omega) (by omega)]
 have loop : ∀ (k d : Nat),d + k = (sHrs xs i).toNat → spec_l17Free_p0 xs l h (sHrs xs i) (cl - sClp xs i) (h + (d : Int)) = some ((List.range' d k).all fun d => decide (usedP xs l (h + (d : Int)) + sClp xs i ≤ cl)) := by
  intro k
  induction k with
  | zero =>
    intro d hk
    rw [spec_l17Free_p0_eq,w64 (n := h + sHrs xs i) (by omega) (by omega)]
    have : ¬ h + (d : Int) < h + sHrs xs i := by omega
    simp only [this,decide_false,Bool.false_eq_true,if_false,List.range'_zero,List.all_nil]
  | succ k ih =>
    intro d hk
    have hlt : h + (d : Int) < h + sHrs xs i := by omega
    have hw : IntKind.i64.wrap (h + (d : Int) + 1) = h + ((d + 1 : Nat) : Int) := by rw [w64 (by omega) (by omega)]; omega
    rw [spec_l17Free_p0_eq,w64 (n := h + sHrs xs i) (by omega) (by omega)]
    simp only [hlt,decide_true,if_true,spec_l17Used_okN S B,Option.bind_some,hw,List.range'_succ,List.all_cons]
    by_cases hc : usedP xs l (h + (d : Int)) > cl - sClp xs i
    ·have hc' : ¬ usedP xs l (h + (d : Int)) + sClp xs i ≤ cl := by omega
     simp only [hc,hc',decide_true,decide_false,if_true,Bool.false_and]
    ·have hc' : usedP xs l (h + (d : Int)) + sClp xs i ≤ cl := by omega
     simp only [hc,hc',decide_true,decide_false,Bool.false_eq_true,if_false,Bool.true_and]
     exact ih (d + 1) (by omega)
 have := loop (sHrs xs i).toNat 0 (by omega)
 rw [show h + ((0 : Nat) : Int) = h by omega] at this
 exact this
theorem impl_room_okN {xs : List T_Step.ty} {l : List Int} (S : StFit xs) (B : BgFit xs l) {i : Nat} (hi : i < xs.length) (hl : l.length = i) {h cl : Int} (h0 : 0 ≤ h) (h1 : h ≤ 100000) (c0 : 0 ≤ cl) (c1 : cl ≤ 240) :
 impl_room xs l h cl = some (roomB xs l i cl h) := by
 have g2 := S.hrs i hi
 have g3 := S.clp i hi
 rw [impl_room_eq,hl]
 simp only [Int.natCast_nonneg,decide_true,if_true,Int.toNat_natCast,st_get hi,Option.bind_some]
 have loop : ∀ (k d : Nat),d + k = (sHrs xs i).toNat → impl_room_p0 xs l h cl (h + (d : Int)) (stAt xs i).1 (sHrs xs i) (sClp xs i) (stAt xs i).2.2.2.1 = some ((List.range' d k).all fun d => decide (usedP xs l (h + (d : Int)) + sClp xs i ≤ cl)) := by
  intro k
  induction k with
  | zero =>
    intro d hk
    rw [impl_room_p0_eq,w64 (n := h + sHrs xs i) (by omega) (by omega)]
    have : ¬ h + (d : Int) < h + sHrs xs i := by omega
    simp only [this,decide_false,Bool.false_eq_true,if_false,List.range'_zero,List.all_nil]
  | succ k ih =>
    intro d hk
    have hlt : h + (d : Int) < h + sHrs xs i := by omega
    have hw : IntKind.i64.wrap (h + (d : Int) + 1) = h + ((d + 1 : Nat) : Int) := by rw [w64 (by omega) (by omega)]; omega
    have hu := usedP_bdS S l (h + (d : Int))
    have := B.len
    have := S.few
    have hw2 : IntKind.i64.wrap (usedP xs l (h + (d : Int)) + sClp xs i) = usedP xs l (h + (d : Int)) + sClp xs i := by rw [w64 (by omega) (by omega)]
    rw [impl_room_p0_eq,w64 (n := h + sHrs xs i) (by omega) (by omega)]
    simp only [hlt,decide_true,if_true,impl_used_okN S B,Option.bind_some,hw,hw2,List.range'_succ,List.all_cons]
    by_cases hc : usedP xs l (h + (d : Int)) + sClp xs i > cl
    ·have hc' : ¬ usedP xs l (h + (d : Int)) + sClp xs i ≤ cl := by omega
     simp only [hc,hc',decide_true,decide_false,if_true,Bool.false_and]
    ·have hc' : usedP xs l (h + (d : Int)) + sClp xs i ≤ cl := by omega
     simp only [hc,hc',decide_true,decide_false,Bool.false_eq_true,if_false,Bool.true_and]
     exact ih (d + 1) (by omega)
 have := loop (sHrs xs i).toNat 0 (by omega)
 rw [show h + ((0 : Nat) : Int) = h by omega] at this
 exact this
theorem impl_planned_okN {xs : List T_Step.ty} (S : StFit xs) {cl : Int} (c0 : 0 ≤ cl) (c1 : cl ≤ 240) :
 impl_planned xs cl = some (if (List.range' 0 xs.length).all fun i => decide (sClp xs i ≤ cl) then (bld (planF xs cl) xs.length,true) else ([],false)) := by
 have hf := S.few
 have loop : ∀ (k i : Nat),i + k = xs.length → clpOk xs cl i → impl_planned_p0 xs cl xs xs.length i (bld (planF xs cl) i) = some (if (List.range' i k).all fun i => decide (sClp xs i ≤ cl) then (bld (planF xs cl) xs.length,true) else ([],false)) := by
  intro k
  induction k with
  | zero =>
    intro i hk hc
    obtain rfl : i = xs.length := by omega
    rw [impl_planned_p0_eq]
    simp only [Int.lt_irrefl,decide_false,Bool.false_eq_true,if_false,List.take_length,List.range'_zero,List.all_nil,if_true]
  | succ k ih =>
    intro i hk hc
    have hi : i < xs.length := by omega
    have hlt : (i : Int) < (xs.length : Int) := by omega
    have hwi : IntKind.i64.wrap ((i : Int) + 1) = ((i + 1 : Nat) : Int) := by rw [w64 (by omega) (by omega)]; omega
    have B := plan_fit S (cl := cl) (k := i) (by omega) hc
    have e : (stAt xs i).2.2.1 = sClp xs i := rfl
    rw [impl_planned_p0_eq]
    simp only [hlt,decide_true,if_true,Int.natCast_nonneg,Int.toNat_natCast,st_get hi,Option.bind_some,e,List.take_length,List.range'_succ,List.all_cons]
    by_cases hcl : sClp xs i > cl
    ·have hcl' : ¬ sClp xs i ≤ cl := by omega
     simp only [hcl,hcl',decide_true,decide_false,if_true,Bool.false_and,Bool.false_eq_true,if_false]
    have hcl' : sClp xs i ≤ cl := by omega
    have hc2 : clpOk xs cl (i + 1) := fun j hj => by
     by_cases h : j < i
     ·exact hc j h
     ·obtain rfl : j = i := by omega
      exact hcl'
    have P := planOk S i (by omega) hc
    have rb := rdy_bd S (l := bld (planF xs cl) i) (k := i) (by omega) fun j hj => (P.beg j hj).2
    simp only [hcl,hcl',decide_true,decide_false,Bool.false_eq_true,if_false,Bool.true_and,impl_ready_okN S B hi (by rw [bld_len]; exact Nat.le_refl _),Option.bind_some]
    have fl := freeLoop (roomB xs (bld (planF xs cl) i) i cl) (200 * (i : Int)) (room_late S hi hc2 P) (by omega) (fun h => impl_planned_p1 xs cl h xs xs.length i (bld (planF xs cl) i)) (fun h => impl_planned_p0 xs cl xs xs.length ((i + 1 : Nat) : Int) (bld (planF xs cl) i ++ [h])) (fun h h0 h1 => ?_) 5000 _ rb.1 rb.2 (by omega)
    ·exact fl.trans (ih (i + 1) (by omega) hc2)
    ·show impl_planned_p1 xs cl h xs xs.length i (bld (planF xs cl) i) = _
     have hw : IntKind.i64.wrap (h + 1) = h + 1 := by rw [w64 (by omega) (by omega)]
     have hlim : (bld (planF xs cl) i).length + 1 < lim := by rw [lim_eq,bld_len]; omega
     rw [impl_planned_p1_eq,List.take_length,impl_room_okN S B hi (bld_len _ _) h0 h1 c0 c1]
     simp only [Option.bind_some,hw,hlim,decide_true,if_true,hwi]
     cases roomB xs (bld (planF xs cl) i) i cl h <;> simp
 rw [impl_planned_eq]
 exact loop xs.length 0 (by omega) fun j hj => by omega
theorem plan_p1_ok {xs : List T_Step.ty} {l : List Int} (S : StFit xs) (B : BgFit xs l) {cl : Int} {i : Nat} (hi : i < xs.length) (hl : i = l.length) : ∀ (k j : Nat) (m : Int),j + k = (sAft xs i).length → 0 ≤ m → m ≤ 10000 →
 spec_l17Plan_p1 xs cl i m j l = spec_l17Plan_p2 xs cl i (rdyL xs l ((sAft xs i).drop j) m) l
 | 0,j,m,hk,h0,h1 => by
   have e : (stAt xs i).2.2.2.1 = sAft xs i := rfl
   have : ¬ (j : Int) < ((sAft xs i).length : Int) := by omega
   rw [spec_l17Plan_p1_eq,List.drop_eq_nil_of_le (by omega)]
   simp only [Int.natCast_nonneg,decide_true,if_true,Int.toNat_natCast,st_get hi,Option.bind_some,e,this,decide_false,Bool.false_eq_true,if_false,rdyL]
 | k + 1,j,m,hk,h0,h1 => by
   have hal := S.al i hi
   have hj : j < (sAft xs i).length := by omega
   have hlj : (j : Int) < ((sAft xs i).length : Int) := by omega
   have hwj : IntKind.i64.wrap ((j : Int) + 1) = ((j + 1 : Nat) : Int) := by rw [w64 (by omega) (by omega)]; omega
   obtain ⟨q1,q2,q3,q4,q5,q6,q7⟩ := aft_at S B hi (by omega) hj
   have q5' : IntKind.i64.wrap (sBeg l ((sAft xs i)[j]).toNat + (stAt xs ((sAft xs i)[j]).toNat).2.1) = sBeg l ((sAft xs i)[j]).toNat + sHrs xs ((sAft xs i)[j]).toNat := q5
   have q4' : (sAft xs i)[j] < (l.length : Int) := by omega
   have e : (stAt xs i).2.2.2.1 = sAft xs i := rfl
   rw [spec_l17Plan_p1_eq,List.drop_eq_getElem_cons hj]
   simp only [Int.natCast_nonneg,decide_true,if_true,Int.toNat_natCast,st_get hi,Option.bind_some,e,hlj,List.getElem?_eq_getElem hj,q1,q4',Bool.and_self,sBeg_get q3,st_get q2,q5',hwj,spec_l00Max_ok,mx_if,rdyL]
   exact plan_p1_ok S B hi hl k (j + 1) _ (by omega) (Int.le_trans h0 (mx_l _ _)) (mx_le.2 ⟨h1,by omega⟩)
theorem spec_l17Plan_okN {xs : List T_Step.ty} (S : StFit xs) {cl : Int} (c0 : 0 ≤ cl) (c1 : cl ≤ 240) (hc : clpOk xs cl xs.length) : spec_l17Plan xs cl = some (bld (planF xs cl) xs.length) := by
 have hf := S.few
 have loop : ∀ (k i : Nat),i + k = xs.length → spec_l17Plan_p0 xs cl i (bld (planF xs cl) i) = some (bld (planF xs cl) xs.length) := by
  intro k
  induction k with
  | zero =>
    intro i hk
    obtain rfl : i = xs.length := by omega
    rw [spec_l17Plan_p0_eq]
    simp only [Int.lt_irrefl,decide_false,Bool.false_eq_true,if_false,List.take_length]
  | succ k ih =>
    intro i hk
    have hi : i < xs.length := by omega
    have hlt : (i : Int) < (xs.length : Int) := by omega
    have hwi : IntKind.i64.wrap ((i : Int) + 1) = ((i + 1 : Nat) : Int) := by rw [w64 (by omega) (by omega)]; omega
    have hc1 : clpOk xs cl i := fun j hj => hc j (by omega)
    have hc2 : clpOk xs cl (i + 1) := fun j hj => hc j (by omega)
    have B := plan_fit S (cl := cl) (k := i) (by omega) hc1
    have P := planOk S i (by omega) hc1
    have rb := rdy_bd S (l := bld (planF xs cl) i) (k := i) (by omega) fun j hj => (P.beg j hj).2
    have e := plan_p1_ok S B (cl := cl) hi (bld_len _ _).symm (sAft xs i).length 0 0 (by omega) (by omega) (by omega)
    rw [List.drop_zero] at e
    rw [spec_l17Plan_p0_eq]
    simp only [hlt,decide_true,if_true]
    refine e.trans ?_
    have fl := freeLoop (roomB xs (bld (planF xs cl) i) i cl) (200 * (i : Int)) (room_late S hi hc2 P) (by omega) (fun h => spec_l17Plan_p2 xs cl i h (bld (planF xs cl) i)) (fun h => spec_l17Plan_p0 xs cl ((i + 1 : Nat) : Int) (bld (planF xs cl) i ++ [h])) (fun h h0 h1 => ?_) 5000 _ rb.1 rb.2 (by omega)
    ·exact fl.trans (ih (i + 1) (by omega))
    ·show spec_l17Plan_p2 xs cl i h (bld (planF xs cl) i) = _
     have hw : IntKind.i64.wrap (h + 1) = h + 1 := by rw [w64 (by omega) (by omega)]
     have hlim : (bld (planF xs cl) i).length + 1 < lim := by rw [lim_eq,bld_len]; omega
     have fr := spec_l17Free_okN S B hi h0 h1 c0 c1
     have fr' : spec_l17Free xs (bld (planF xs cl) i) h (stAt xs i).2.1 (IntKind.i64.wrap (cl - (stAt xs i).2.2.1)) = _ := fr
     rw [spec_l17Plan_p2_eq]
     simp only [Int.natCast_nonneg,decide_true,if_true,Int.toNat_natCast,st_get hi,Option.bind_some,List.take_length,fr',hw,hlim,hwi]
     cases roomB xs (bld (planF xs cl) i) i cl h <;> simp
 rw [spec_l17Plan_eq]
 exact loop xs.length 0 (by omega)
theorem spec_l17Clamps_okN {xs : List T_Step.ty} (S : StFit xs) (cl : Int) : spec_l17Clamps xs cl = some ((List.range' 0 xs.length).all fun i => decide (sClp xs i ≤ cl)) := by
 have hf := S.few
 have loop : ∀ (k i : Nat),i + k = xs.length → spec_l17Clamps_p0 xs cl i = some ((List.range' i k).all fun i => decide (sClp xs i ≤ cl)) := by
  intro k
  induction k with
  | zero =>
    intro i hk
    obtain rfl : i = xs.length := by omega
    rw [spec_l17Clamps_p0_eq]
    simp only [Int.lt_irrefl,decide_false,Bool.false_eq_true,if_false,List.range'_zero,List.all_nil]
  | succ k ih =>
    intro i hk
    have hi : i < xs.length := by omega
    have hlt : (i : Int) < (xs.length : Int) := by omega
    have hwi : IntKind.i64.wrap ((i : Int) + 1) = ((i + 1 : Nat) : Int) := by rw [w64 (by omega) (by omega)]; omega
    have e : (stAt xs i).2.2.1 = sClp xs i := rfl
    rw [spec_l17Clamps_p0_eq]
    simp only [hlt,decide_true,if_true,Int.natCast_nonneg,Int.toNat_natCast,st_get hi,Option.bind_some,e,hwi,List.range'_succ,List.all_cons]
    by_cases hcl : sClp xs i > cl
    ·have hcl' : ¬ sClp xs i ≤ cl := by omega
     simp only [hcl,hcl',decide_true,decide_false,if_true,Bool.false_and]
    ·have hcl' : sClp xs i ≤ cl := by omega
     simp only [hcl,hcl',decide_true,decide_false,Bool.false_eq_true,if_false,Bool.true_and]
     exact ih (i + 1) (by omega)
 rw [spec_l17Clamps_eq]
 exact loop xs.length 0 (by omega)
theorem clpOk_iff {xs : List T_Step.ty} {cl : Int} : ((List.range' 0 xs.length).all fun i => decide (sClp xs i ≤ cl)) = true ↔ clpOk xs cl xs.length := by
 rw [List.all_eq_true]
 exact ⟨fun h i hi => of_decide_eq_true (h i (by simp; omega)),fun h i hi => decide_eq_true (h i (by simp at hi; omega))⟩
theorem spec_l17Starts_okN {xs : List T_Step.ty} {l : List Int} (S : StFit xs) (B : BgFit xs l) (hl : l.length = xs.length) : spec_l17Starts xs l = some true := by
 have hf := S.few
 have loop : ∀ (k i : Nat),i + k = l.length → spec_l17Starts_p0 xs l i = some true := by
  intro k
  induction k with
  | zero =>
    intro i hk
    obtain rfl : i = l.length := by omega
    rw [spec_l17Starts_p0_eq]
    simp only [Int.lt_irrefl,decide_false,Bool.false_eq_true,if_false,hl,beq_self_eq_true]
  | succ k ih =>
    intro i hk
    have hi : i < l.length := by omega
    have hlt : (i : Int) < (l.length : Int) := by omega
    have hwi : IntKind.i64.wrap ((i : Int) + 1) = ((i + 1 : Nat) : Int) := by rw [w64 (by omega) (by omega)]; omega
    have h2 : inR (sBeg l i) 0 2400 = true := inR_iff'.2 (B.beg i)
    rw [spec_l17Starts_p0_eq]
    simp only [hlt,Int.natCast_nonneg,decide_true,if_true,Int.toNat_natCast,sBeg_get hi,Option.bind_some,spec_l00In_ok,h2,Bool.not_true,Bool.false_eq_true,if_false,hwi]
    exact ih (i + 1) (by omega)
 rw [spec_l17Starts_eq]
 exact loop l.length 0 (by omega)
theorem impl_areStarts_okN {xs : List T_Step.ty} {l : List Int} (S : StFit xs) (B : BgFit xs l) (hl : l.length = xs.length) : impl_areStarts xs l = some true := by
 have hf := S.few
 have loop : ∀ (k i : Nat),i + k = l.length → impl_areStarts_p0 xs l l l.length i = some true := by
  intro k
  induction k with
  | zero =>
    intro i hk
    obtain rfl : i = l.length := by omega
    rw [impl_areStarts_p0_eq]
    simp only [Int.lt_irrefl,decide_false,Bool.false_eq_true,if_false,hl,beq_self_eq_true]
  | succ k ih =>
    intro i hk
    have hi : i < l.length := by omega
    have hlt : (i : Int) < (l.length : Int) := by omega
    have hwi : IntKind.i64.wrap ((i : Int) + 1) = ((i + 1 : Nat) : Int) := by rw [w64 (by omega) (by omega)]; omega
    have h2 : inR (sBeg l i) 0 2400 = true := inR_iff'.2 (B.beg i)
    rw [impl_areStarts_p0_eq]
    simp only [hlt,Int.natCast_nonneg,decide_true,if_true,Int.toNat_natCast,sBeg_get hi,Option.bind_some,impl_within_ok,h2,Bool.not_true,Bool.false_eq_true,if_false,hwi]
    exact ih (i + 1) (by omega)
 rw [impl_areStarts_eq]
 exact loop l.length 0 (by omega)
theorem spec_l17Keeps_okN {xs : List T_Step.ty} {l : List Int} (S : StFit xs) (B : BgFit xs l) (hl : l.length = xs.length) {cl : Int} (hr : ∀ i,i < xs.length → rdyP xs l i ≤ sBeg l i) (hu : ∀ h,usedP xs l h ≤ cl) : spec_l17Keeps xs l cl = some true := by
 have hf := S.few
 have loop : ∀ (k i : Nat),i + k = xs.length → spec_l17Keeps_p0 xs l cl i = some true := by
  intro k
  induction k with
  | zero =>
    intro i hk
    obtain rfl : i = xs.length := by omega
    rw [spec_l17Keeps_p0_eq]
    simp only [Int.lt_irrefl,decide_false,Bool.false_eq_true,if_false]
  | succ k ih =>
    intro i hk
    have hi : i < xs.length := by omega
    have hlt : (i : Int) < (xs.length : Int) := by omega
    have hwi : IntKind.i64.wrap ((i : Int) + 1) = ((i + 1 : Nat) : Int) := by rw [w64 (by omega) (by omega)]; omega
    have hal := S.al i hi
    have inner : ∀ (q j : Nat),j + q = (sAft xs i).length → spec_l17Keeps_p1 xs l cl i j = some true := by
     intro q
     induction q with
     | zero =>
       intro j hj
       have e : (stAt xs i).2.2.2.1 = sAft xs i := rfl
       have : ¬ (j : Int) < ((sAft xs i).length : Int) := by omega
       have hc : ¬ usedP xs l (sBeg l i) > cl := by have := hu (sBeg l i); omega
       rw [spec_l17Keeps_p1_eq]
       simp only [Int.natCast_nonneg,decide_true,if_true,Int.toNat_natCast,st_get hi,Option.bind_some,e,this,decide_false,Bool.false_eq_true,if_false,sBeg_get (show i < l.length by omega),spec_l17Used_okN S B,hc,hwi]
       exact ih (i + 1) (by omega)
     | succ q ihq =>
       intro j hk2
       have hj : j < (sAft xs i).length := by omega
       have hlj : (j : Int) < ((sAft xs i).length : Int) := by omega
       have hwj : IntKind.i64.wrap ((j : Int) + 1) = ((j + 1 : Nat) : Int) := by rw [w64 (by omega) (by omega)]; omega
       obtain ⟨q1,q2,q3,q4,q5,q6,q7⟩ := aft_at S B hi (by omega) hj
       have q5' : IntKind.i64.wrap (sBeg l ((sAft xs i)[j]).toNat + (stAt xs ((sAft xs i)[j]).toNat).2.1) = sBeg l ((sAft xs i)[j]).toNat + sHrs xs ((sAft xs i)[j]).toNat := q5
       have e : (stAt xs i).2.2.2.1 = sAft xs i := rfl
       have h9 := Int.le_trans (rdyL_mem xs l (sAft xs i) 0 _ (List.getElem_mem hj)) (hr i hi)
       have hc : ¬ sBeg l i < sBeg l ((sAft xs i)[j]).toNat + sHrs xs ((sAft xs i)[j]).toNat := by omega
       rw [spec_l17Keeps_p1_eq]
       simp only [Int.natCast_nonneg,decide_true,if_true,Int.toNat_natCast,st_get hi,Option.bind_some,e,hlj,List.getElem?_eq_getElem hj,q1,sBeg_get q3,sBeg_get (show i < l.length by omega),st_get q2,q5',hwj,hc,decide_false,Bool.false_eq_true,if_false]
       exact ihq (j + 1) (by omega)
    rw [spec_l17Keeps_p0_eq]
    simp only [hlt,decide_true,if_true]
    exact inner (sAft xs i).length 0 (by omega)
 rw [spec_l17Keeps_eq]
 exact loop xs.length 0 (by omega)
theorem impl_Keeps_okN {xs : List T_Step.ty} {l : List Int} (S : StFit xs) (B : BgFit xs l) (hl : l.length = xs.length) {cl : Int} (hr : ∀ i,i < xs.length → rdyP xs l i ≤ sBeg l i) (hu : ∀ h,usedP xs l h ≤ cl) : impl_KeepsClamps_p0 xs l cl = some true := by
 have hf := S.few
 have loop : ∀ (k i : Nat),i + k = l.length → impl_KeepsClamps_p1 xs l cl l l.length i = some true := by
  intro k
  induction k with
  | zero =>
    intro i hk
    obtain rfl : i = l.length := by omega
    rw [impl_KeepsClamps_p1_eq]
    simp only [Int.lt_irrefl,decide_false,Bool.false_eq_true,if_false]
  | succ k ih =>
    intro i hk
    have hi : i < l.length := by omega
    have hlt : (i : Int) < (l.length : Int) := by omega
    have hwi : IntKind.i64.wrap ((i : Int) + 1) = ((i + 1 : Nat) : Int) := by rw [w64 (by omega) (by omega)]; omega
    have c1 : ¬ sBeg l i < rdyP xs l i := by have := hr i (by omega); omega
    have c2 : ¬ usedP xs l (sBeg l i) > cl := by have := hu (sBeg l i); omega
    rw [impl_KeepsClamps_p1_eq]
    simp only [hlt,Int.natCast_nonneg,decide_true,if_true,Int.toNat_natCast,sBeg_get hi,Option.bind_some,impl_ready_okN S B (show i < xs.length by omega) (by omega),impl_used_okN S B,c1,c2,decide_false,Bool.false_eq_true,if_false,hwi]
    exact ih (i + 1) (by omega)
 rw [impl_KeepsClamps_p0_eq]
 exact loop l.length 0 (by omega)
structure StSmall (xs : List T_Step.ty) : Prop where
 ok : stepsOk xs = true
 s1 : xs.length ≤ 1048576
 s2 : ∀ x,x ∈ xs → x.1.length ≤ 1048576 ∧ List.length (α := Int) x.2.2.2.1 ≤ 1048576
theorem StSmall.fit {xs : List T_Step.ty} (h : StSmall xs) : StFit xs := stFit h.ok fun y hy => (h.s2 y hy).2
theorem impl_isClamps_okN (n : Int) : impl_isClamps n = some (inR n 0 240) := by rw [impl_isClamps_eq,impl_within_ok]; rfl
theorem impl_WithClamps_okN {xs : List T_Step.ty} (V : StSmall xs) {cl : Int} (c0 : 0 ≤ cl) (c1 : cl ≤ 240) :
 impl_WithClamps xs cl = some (if (List.range' 0 xs.length).all fun i => decide (sClp xs i ≤ cl) then (bld (planF xs cl) xs.length,0) else ([],3)) := by
 rw [impl_WithClamps_eq,impl_ValidSteps_ok xs V.s1 V.s2,V.ok]
 simp only [Option.bind_some,Bool.not_true,Bool.false_eq_true,if_false,impl_isClamps_okN,inR_iff'.2 ⟨c0,c1⟩,impl_planned_okN V.fit c0 c1]
 cases (List.range' 0 xs.length).all fun i => decide (sClp xs i ≤ cl) <;> simp
theorem spec_WithClamps_okN {xs : List T_Step.ty} (V : StSmall xs) {cl : Int} (c0 : 0 ≤ cl) (c1 : cl ≤ 240) (hc : clpOk xs cl xs.length) :
 spec_WithClamps xs cl = some (bld (planF xs cl) xs.length,0) := by
 rw [spec_WithClamps_eq,spec_l17Ok_ok xs V.s1 V.s2,V.ok]
 simp only [Option.bind_some,Bool.not_true,Bool.false_eq_true,if_false,spec_l00In_ok,inR_iff'.2 ⟨c0,c1⟩,spec_l17Clamps_okN V.fit,clpOk_iff.2 hc,spec_l17Plan_okN V.fit c0 c1 hc,List.take_length]
theorem spec_EarliestStarts_okN {xs : List T_Step.ty} (V : StSmall xs) : spec_EarliestStarts xs = some (bld (rdyP xs) xs.length,0) := by
 rw [spec_EarliestStarts_eq,spec_l17Ok_ok xs V.s1 V.s2,V.ok]
 simp only [Option.bind_some,Bool.not_true,Bool.false_eq_true,if_false,spec_l17Early_okN V.fit,List.take_length]
def totalP (xs : List T_Step.ty) : Int := endsP xs (bld (rdyP xs) xs.length) xs.length
theorem spec_TotalHours_okN {xs : List T_Step.ty} (V : StSmall xs) : spec_TotalHours xs = some (totalP xs,0) := by
 rw [spec_TotalHours_eq,spec_l17Ok_ok xs V.s1 V.s2,V.ok]
 simp only [Option.bind_some,Bool.not_true,Bool.false_eq_true,if_false,spec_l17Early_okN V.fit,spec_l17End_okN V.fit (early_fit V.fit (Nat.le_refl _)) (bld_len _ _)]
 rfl
theorem spec_KeepsClamps_okN {xs : List T_Step.ty} (V : StSmall xs) {l : List Int} (B : BgFit xs l) (hl : l.length = xs.length) {cl : Int} (c0 : 0 ≤ cl) (c1 : cl ≤ 240) (hr : ∀ i,i < xs.length → rdyP xs l i ≤ sBeg l i) (hu : ∀ h,usedP xs l h ≤ cl) : spec_KeepsClamps xs l cl = some true := by
 rw [spec_KeepsClamps_eq,spec_l17Ok_ok xs V.s1 V.s2,V.ok]
 simp only [Option.bind_some,if_true,spec_l17Starts_okN V.fit B hl,spec_l00In_ok,inR_iff'.2 ⟨c0,c1⟩,spec_l17Keeps_okN V.fit B hl hr hu]
theorem impl_KeepsClamps_okN {xs : List T_Step.ty} (V : StSmall xs) {l : List Int} (B : BgFit xs l) (hl : l.length = xs.length) {cl : Int} (c0 : 0 ≤ cl) (c1 : cl ≤ 240) (hr : ∀ i,i < xs.length → rdyP xs l i ≤ sBeg l i) (hu : ∀ h,usedP xs l h ≤ cl) : impl_KeepsClamps xs l cl = some true := by
 rw [impl_KeepsClamps_eq,impl_ValidSteps_ok xs V.s1 V.s2,V.ok]
 simp only [Option.bind_some,Bool.not_true,Bool.false_eq_true,if_false,impl_areStarts_okN V.fit B hl,impl_isClamps_okN,inR_iff'.2 ⟨c0,c1⟩,impl_Keeps_okN V.fit B hl hr hu]
theorem impl_ClampsUsed_okN {xs : List T_Step.ty} (V : StSmall xs) {l : List Int} (B : BgFit xs l) (hl : l.length = xs.length) {h : Int} (h0 : 0 ≤ h) (h1 : h ≤ 2400) : impl_ClampsUsed xs l h = some (usedP xs l h,0) := by
 rw [impl_ClampsUsed_eq,impl_ValidSteps_ok xs V.s1 V.s2,V.ok]
 simp only [Option.bind_some,Bool.not_true,Bool.false_eq_true,if_false,impl_within_ok,inR_iff'.2 (show (0 : Int) ≤ h ∧ h ≤ 1000000000000 by omega),impl_areStarts_okN V.fit B hl,impl_used_okN V.fit B]
def goodC (xs : List T_Step.ty) (hours cl : Int) : Prop := clpOk xs cl xs.length ∧ endsP xs (bld (planF xs cl) xs.length) xs.length ≤ hours
theorem impl_Fewest_loop {xs : List T_Step.ty} (S : StFit xs) (hours : Int) : ∀ (k c : Nat),c + k = 241 →
 (∃ f : Nat,c ≤ f ∧ f ≤ 240 ∧ goodC xs hours f ∧ (∀ g : Nat,c ≤ g → g < f → ¬ goodC xs hours g) ∧ impl_FewestClamps_p0 xs hours c = some ((f : Int),0)) ∨
   ((∀ g : Nat,c ≤ g → g ≤ 240 → ¬ goodC xs hours g) ∧ impl_FewestClamps_p0 xs hours c = some (0,3))
 | 0,c,hk => by
   right
   refine ⟨fun g h1 h2 => by omega,?_⟩
   rw [impl_FewestClamps_p0_eq,impl_isClamps_okN]
   have : inR (c : Int) 0 240 = false := by
    rw [Bool.eq_false_iff]; intro h; have := inR_iff'.1 h; omega
   simp only [this,Option.bind_some,Bool.false_eq_true,if_false]
 | k + 1,c,hk => by
   have ih := impl_Fewest_loop S hours k (c + 1) (by omega)
   have hw : IntKind.i64.wrap ((c : Int) + 1) = ((c + 1 : Nat) : Int) := by rw [w64 (by omega) (by omega)]; omega
   have hin : inR (c : Int) 0 240 = true := inR_iff'.2 ⟨by omega,by omega⟩
   have step : (goodC xs hours c → impl_FewestClamps_p0 xs hours c = some ((c : Int),0)) ∧ (¬ goodC xs hours c → impl_FewestClamps_p0 xs hours c = impl_FewestClamps_p0 xs hours ((c + 1 : Nat) : Int)) := by
    rw [impl_FewestClamps_p0_eq,impl_isClamps_okN]
    simp only [hin,Option.bind_some,if_true,impl_planned_okN S (show (0 : Int) ≤ c by omega) (show (c : Int) ≤ 240 by omega),hw]
    by_cases hc : ((List.range' 0 xs.length).all fun i => decide (sClp xs i ≤ (c : Int))) = true
    ·have hc2 := clpOk_iff.1 hc
     simp only [hc,if_true,List.take_length,impl_ended_okN S (plan_fit S (Nat.le_refl _) hc2) (bld_len _ _),Option.bind_some]
     by_cases he : endsP xs (bld (planF xs (c : Int)) xs.length) xs.length ≤ hours
     ·exact ⟨fun _ => by simp [he],fun h => absurd ⟨hc2,he⟩ h⟩
     ·exact ⟨fun h => absurd h.2 he,fun _ => by simp [he]⟩
    ·exact ⟨fun h => absurd (clpOk_iff.2 h.1) hc,fun _ => by simp [hc]⟩
   by_cases hg : goodC xs hours c
   ·left
    exact ⟨c,Nat.le_refl _,by omega,hg,fun g h1 h2 => by omega,step.1 hg⟩
   ·rw [step.2 hg]
    rcases ih with ⟨f,f1,f2,f3,f4,f5⟩ | ⟨f1,f2⟩
    ·refine .inl ⟨f,by omega,f2,f3,fun g h1 h2 => ?_,f5⟩
     by_cases h : g = c
     ·subst h; exact hg
     ·exact f4 g (by omega) h2
    ·refine .inr ⟨fun g h1 h2 => ?_,f2⟩
     by_cases h : g = c
     ·subst h; exact hg
     ·exact f1 g (by omega) h2
theorem impl_FewestClamps_okN {xs : List T_Step.ty} (V : StSmall xs) {hours : Int} (h0 : 0 ≤ hours) (h1 : hours ≤ 2400) :
 (∃ f : Nat,f ≤ 240 ∧ goodC xs hours f ∧ (∀ g : Nat,g < f → ¬ goodC xs hours g) ∧ impl_FewestClamps xs hours = some ((f : Int),0)) ∨
   ((∀ g : Nat,g ≤ 240 → ¬ goodC xs hours g) ∧ impl_FewestClamps xs hours = some (0,3)) := by
 rw [impl_FewestClamps_eq,impl_ValidSteps_ok xs V.s1 V.s2,V.ok]
 simp only [Option.bind_some,Bool.not_true,Bool.false_eq_true,if_false,impl_within_ok,inR_iff'.2 ⟨h0,h1⟩]
 rcases impl_Fewest_loop V.fit hours 241 0 (by omega) with ⟨f,_,f2,f3,f4,f5⟩ | ⟨f1,f2⟩
 ·exact .inl ⟨f,f2,f3,fun g hg => f4 g (by omega) hg,f5⟩
 ·exact .inr ⟨fun g hg => f1 g (by omega) hg,f2⟩
theorem good_many {xs : List T_Step.ty} (S : StFit xs) {hours : Int} (h : totalP xs ≤ hours) : goodC xs hours 240 := by
 refine ⟨fun i hi => by have := S.clp i hi; omega,?_⟩
 rw [plan_many S _ (Nat.le_refl _)]
 exact h
theorem good_ge {xs : List T_Step.ty} (S : StFit xs) {hours cl : Int} (h : goodC xs hours cl) : totalP xs ≤ hours := by
 refine Int.le_trans (endsP_le (endsP_nonneg _ _ _) _ fun j hj => ?_) h.2
 have h1 := early_le S (Nat.le_refl _) h.1 j hj
 have h2 := endsP_ge (xs := xs) (l := bld (planF xs cl) xs.length) hj
 omega
theorem risesB_of {lo hi : Int} {l : List Int} (h1 : ∀ a,a ∈ l → lo ≤ a ∧ a ≤ hi) (h2 : l.Pairwise (· < ·)) : risesB lo hi l = true := by
 refine List.all_eq_true.2 fun i hi' => ?_
 have hi2 : i < l.length := by simp at hi'; omega
 rw [risesAt,Bool.and_eq_true,List.getElem?_eq_getElem hi2]
 refine ⟨inR_iff'.2 (h1 _ (List.getElem_mem hi2)),?_⟩
 by_cases h0 : i = 0
 ·simp [h0]
 ·have := List.pairwise_iff_getElem.1 h2 (i - 1) i (by omega) hi2 (by omega)
  rw [List.getElem?_eq_getElem (by omega : i - 1 < l.length)]
  simp [this]
theorem drawAft_loop (id : List UInt8) (h cl : Int) (n : Nat) (hn : n ≤ 100) (c0 : Int) : ∀ (k j : Nat) (s : T_l00Src.ty) (c : Int) (R : List Int) (e1 : List UInt8) (e2 e3 : Int),j + k = n → SrcOk s c → c + 2 * (k : Int) ≤ 100000000000000000 → R.length ≤ j → R.Pairwise (· < ·) → (∀ a,a ∈ R → 0 ≤ a ∧ a < (j : Int)) →
 ∃ (R' : List Int) (s' : T_l00Src.ty),spec_l17DrawOne_p0 n j s.1 s.2.1 s.2.2.1 e1 e2 e3 id h cl R = some ((id,h,cl,R',()),s') ∧ SrcOk s' (c + 2 * (k : Int)) ∧ R'.length ≤ n ∧ R'.Pairwise (· < ·) ∧ ∀ a,a ∈ R' → 0 ≤ a ∧ a < (n : Int)
 | 0,j,s,c,R,e1,e2,e3,hk,hs,hc,h1,h2,h3 => by
   obtain rfl : j = n := by omega
   refine ⟨R,s,?_,by simpa using hs,h1,h2,h3⟩
   rw [spec_l17DrawOne_p0_eq]
   simp only [Int.lt_irrefl,decide_false,Bool.false_eq_true,if_false,List.take_length]
 | k + 1,j,s,c,R,e1,e2,e3,hk,hs,hc,h1,h2,h3 => by
   have hlt : (j : Int) < (n : Int) := by omega
   have hw : IntKind.i64.wrap ((j : Int) + 1) = ((j + 1 : Nat) : Int) := by rw [w64 (by omega) (by omega)]; omega
   obtain ⟨u,s1,q1,k1⟩ := one_ok hs (by omega) 3 (by omega)
   have hlim : R.length + 1 < lim := by rw [lim_eq]; omega
   rw [spec_l17DrawOne_p0_eq]
   simp only [hlt,decide_true,if_true,src_eta,q1,Option.bind_some,hlim,hw,List.take_length]
   cases u
   ·simp only [Bool.false_eq_true,if_false]
    obtain ⟨R',s',z1,z2,z3⟩ := drawAft_loop id h cl n hn c0 k (j + 1) s1 (c + 2) R e1 e2 e3 (by omega) k1 (by omega) (by omega) h2 fun a ha => by have := h3 a ha; omega
    exact ⟨R',s',z1,z2.up (by omega),z3⟩
   ·simp only [if_true]
    obtain ⟨R',s',z1,z2,z3⟩ := drawAft_loop id h cl n hn c0 k (j + 1) s1 (c + 2) (R ++ [(j : Int)]) e1 e2 e3 (by omega) k1 (by omega) (by simp; omega) (by
     rw [List.pairwise_append]
     refine ⟨h2,by simp,fun a ha b hb => ?_⟩
     rw [List.mem_singleton] at hb
     subst hb
     exact (h3 a ha).2) fun a ha => by
      rcases List.mem_append.1 ha with ha | ha
      ·have := h3 a ha; omega
      ·rw [List.mem_singleton] at ha; omega
    exact ⟨R',s',z1,z2.up (by omega),z3⟩
theorem spec_l17DrawOne_ok {s : T_l00Src.ty} {c : Int} (hs : SrcOk s c) (hc : c ≤ 10000000000000000) (id : List UInt8) (n : Nat) (hn : n ≤ 100) :
 ∃ (h cl : Int) (R : List Int) (s' : T_l00Src.ty),spec_l17DrawOne s id n = some ((id,h,cl,R,()),s') ∧ SrcOk s' (c + 1000) ∧ (1 ≤ h ∧ h ≤ 12) ∧ (0 ≤ cl ∧ cl ≤ 6) ∧ R.length ≤ n ∧ R.Pairwise (· < ·) ∧ ∀ a,a ∈ R → 0 ≤ a ∧ a < (n : Int) := by
 obtain ⟨u,s1,q1,k1,b1,b2⟩ := pick_ok hs (by omega) 12 (by omega)
 obtain ⟨v,s2,q2,k2,b3,b4⟩ := pick_ok k1 (by omega) 7 (by omega)
 obtain ⟨R,s',z1,z2,z3,z4,z5⟩ := drawAft_loop id (1 + u) v n hn 0 n 0 s2 (c + 2 + 2) [] [] 0 0 (by omega) k2 (by omega) (by simp) List.Pairwise.nil (by simp)
 refine ⟨1 + u,v,R,s',?_,z2.up (by omega),by omega,by omega,z3,z4,z5⟩
 rw [spec_l17DrawOne_eq]
 simp only [q1,q2,src_eta,Option.bind_some,w64 (n := 1 + u) (by omega) (by omega)]
 exact z1
structure DrawnSt (N : List (List UInt8)) (k : Nat) (r : List T_Step.ty) : Prop where
 len : r.length ≤ k
 ok : ∀ i,i < r.length → stepC r i = true
 hrs : ∀ i,i < r.length → sHrs r i ≤ 12
 id : ∀ i,i < r.length → (stAt r i).1 ∈ N.take k
 al : ∀ i,i < r.length → List.length (α := Int) (stAt r i).2.2.2.1 ≤ 100
theorem stAt_app (r : List T_Step.ty) (x : T_Step.ty) (i : Nat) : stAt (r ++ [x]) i = if i < r.length then stAt r i else if i = r.length then x else stAt [] 0 := by
 unfold stAt
 by_cases h : i < r.length
 ·rw [if_pos h,List.getElem?_append_left h]
 ·rw [if_neg h,List.getElem?_append_right (by omega)]
  by_cases h2 : i = r.length
  ·subst h2; simp
  ·rw [if_neg h2,List.getElem?_eq_none (by simp; omega)]; rfl
theorem stepC_app {r : List T_Step.ty} {x : T_Step.ty} {i : Nat} (h : i < r.length) : stepC (r ++ [x]) i = stepC r i := by
 have e : ∀ j,j ≤ i → stAt (r ++ [x]) j = stAt r j := fun j hj => by rw [stAt_app,if_pos (by omega)]
 have e2 : ((List.range' 0 i).all fun j => !decide ((stAt (r ++ [x]) j).1 = (stAt r i).1)) = (List.range' 0 i).all fun j => !decide ((stAt r j).1 = (stAt r i).1) := by
  rw [Bool.eq_iff_iff,List.all_eq_true,List.all_eq_true]
  constructor
  ·intro h2 j hj
   have := h2 j hj
   rwa [e j (by simp at hj; omega)] at this
  ·intro h2 j hj
   have := h2 j hj
   rwa [e j (by simp at hj; omega)]
 unfold stepC
 rw [e i (Nat.le_refl _),e2]
theorem drawnSt_add {N : List (List UInt8)} {k : Nat} {r : List T_Step.ty} (D : DrawnSt N k r) (hN : N.Nodup) (hk : k < N.length) (hk2 : k ≤ 11) (hname : ∀ x,x ∈ N → isName x = true) {h cl : Int} {R : List Int} (b1 : 1 ≤ h ∧ h ≤ 12) (b2 : 0 ≤ cl ∧ cl ≤ 6) (b3 : R.length ≤ r.length) (b4 : R.Pairwise (· < ·)) (b5 : ∀ a,a ∈ R → 0 ≤ a ∧ a < (r.length : Int)) :
 DrawnSt N (k + 1) (r ++ [(N[k],h,cl,R,())]) := by
 have dl := D.len
 have sub : ∀ x,x ∈ N.take k → x ∈ N.take (k + 1) := fun x hx => by
  rw [List.take_add_one]; exact List.mem_append_left _ hx
 have last : stAt (r ++ [(N[k],h,cl,R,())]) r.length = (N[k],h,cl,R,()) := by rw [stAt_app,if_neg (Nat.lt_irrefl _),if_pos rfl]
 have old : ∀ i,i < r.length → stAt (r ++ [(N[k],h,cl,R,())]) i = stAt r i := fun i hi => by rw [stAt_app,if_pos hi]
 have split : ∀ i,i < (r ++ [((N[k],h,cl,R,()) : T_Step.ty)]).length → i < r.length ∨ i = r.length := fun i hi => by
  rw [List.length_append] at hi
  have : [((N[k],h,cl,R,()) : T_Step.ty)].length = 1 := rfl
  omega
 refine ⟨by rw [List.length_append]; exact Nat.succ_le_succ dl,fun i hi => ?_,fun i hi => ?_,fun i hi => ?_,fun i hi => ?_⟩
 ·rcases split i hi with h' | rfl
  ·rw [stepC_app h']; exact D.ok i h'
  ·rw [stepC,last,Bool.and_eq_true,Bool.and_eq_true]
   refine ⟨?_,risesB_of (fun a ha => by have := b5 a ha; omega) b4,?_⟩
   ·simp only [stepOk,Bool.and_eq_true]
    exact ⟨hname _ (List.getElem_mem hk),inR_iff'.2 (by omega),inR_iff'.2 (by omega),risesB_of (fun a ha => by have := b5 a ha; omega) b4⟩
   ·refine List.all_eq_true.2 fun j hj => ?_
    have hj2 : j < r.length := by simp at hj; omega
    rw [old j hj2]
    have hm := D.id j hj2
    have hne : ¬ (stAt r j).1 = N[k] := fun e => by
     rw [e] at hm
     obtain ⟨i,hi1,hi2⟩ := List.mem_take_iff_getElem.1 hm
     have := (List.getElem_inj hN).1 hi2
     omega
    simp [hne]
 ·rcases split i hi with h' | rfl
  ·show (stAt (r ++ _) i).2.1 ≤ 12
   rw [old i h']; exact D.hrs i h'
  ·show (stAt (r ++ _) r.length).2.1 ≤ 12
   rw [last]; exact b1.2
 ·rcases split i hi with h' | rfl
  ·rw [old i h']; exact sub _ (D.id i h')
  ·rw [last,List.take_add_one,List.getElem?_eq_getElem hk]
   exact List.mem_append_right _ (List.mem_singleton.2 rfl)
 ·rcases split i hi with h' | rfl
  ·rw [old i h']; exact D.al i h'
  ·rw [last]; show R.length ≤ 100; omega
theorem DrawnSt.more {N : List (List UInt8)} {k : Nat} {r : List T_Step.ty} (D : DrawnSt N k r) : DrawnSt N (k + 1) r :=
 ⟨Nat.le_succ_of_le D.len,D.ok,D.hrs,fun i hi => by rw [List.take_add_one]; exact List.mem_append_left _ (D.id i hi),D.al⟩
def drawNames : List (List UInt8) := [[111,112,101,110],[99,108,101,97,110],[103,108,117,101],[112,97,116,99,104],[99,108,111,115,101],[112,111,108,105,115,104]]
theorem drawSteps_loop : ∀ (k i : Nat) (s : T_l00Src.ty) (c : Int) (r : List T_Step.ty),i + k = 6 → SrcOk s c → c ≤ 1000000000000000 + 2000 * (i : Int) → DrawnSt drawNames i r →
 ∃ (r' : List T_Step.ty) (s' : T_l00Src.ty),spec_l17Draw_p0 i s.1 s.2.1 s.2.2.1 drawNames r = some (r',s') ∧ SrcOk s' (c + 2000 * (k : Int)) ∧ DrawnSt drawNames 6 r'
 | 0,i,s,c,r,hk,hs,hc,D => by
   obtain rfl : i = 6 := by omega
   refine ⟨r,s,?_,by simpa using hs,D⟩
   rw [spec_l17Draw_p0_eq]
   have : ¬ ((6 : Nat) : Int) < (drawNames.length : Int) := by decide
   simp only [this,decide_false,Bool.false_eq_true,if_false,List.take_length]
 | k + 1,i,s,c,r,hk,hs,hc,D => by
   have hl : drawNames.length = 6 := rfl
   have hi : i < drawNames.length := by omega
   have hlt : (i : Int) < (drawNames.length : Int) := by omega
   have hw : IntKind.i64.wrap ((i : Int) + 1) = ((i + 1 : Nat) : Int) := by rw [w64 (by omega) (by omega)]; omega
   obtain ⟨u,s1,q1,k1,b1,b2⟩ := pick_ok hs (by omega) 3 (by omega)
   have dl := D.len
   have hlim : r.length + 1 < lim := by rw [lim_eq]; omega
   rw [spec_l17Draw_p0_eq]
   simp only [hlt,decide_true,if_true,src_eta,q1,Option.bind_some,Int.natCast_nonneg,Bool.and_self,Int.toNat_natCast,List.getElem?_eq_getElem hi,hlim,hw,List.take_length]
   by_cases hu : u > 0
   ·obtain ⟨h,cl,R,s2,q2,k2,z1,z2,z3,z4,z5⟩ := spec_l17DrawOne_ok k1 (by omega) drawNames[i] r.length (by omega)
    simp only [hu,decide_true,if_true,q2,Option.bind_some]
    obtain ⟨r',s',y1,y2,y3⟩ := drawSteps_loop k (i + 1) s2 (c + 2 + 1000) _ (by omega) k2 (by omega) (drawnSt_add D (by decide) hi (by omega) (by decide) z1 z2 z3 z4 z5)
    exact ⟨r',s',y1,y2.up (by omega),y3⟩
   ·simp only [hu,decide_false,Bool.false_eq_true,if_false]
    obtain ⟨r',s',y1,y2,y3⟩ := drawSteps_loop k (i + 1) s1 (c + 2) _ (by omega) k1 (by omega) D.more
    exact ⟨r',s',y1,y2.up (by omega),y3⟩
theorem spec_l17Draw_ok {s : T_l00Src.ty} {c : Int} (hs : SrcOk s c) (hc : c ≤ 1000000000000000) : ∃ (xs : List T_Step.ty) (s' : T_l00Src.ty),spec_l17Draw s = some (xs,s') ∧ SrcOk s' (c + 12000) ∧ StSmall xs ∧ xs.length ≤ 6 ∧ ∀ i,i < xs.length → sHrs xs i ≤ 12 := by
 obtain ⟨r,s',e,k1,D⟩ := drawSteps_loop 6 0 s c [] (by omega) hs (by omega) ⟨Nat.le_refl _,fun i hi => absurd hi (Nat.not_lt_zero _),fun i hi => absurd hi (Nat.not_lt_zero _),fun i hi => absurd hi (Nat.not_lt_zero _),fun i hi => absurd hi (Nat.not_lt_zero _)⟩
 have dl := D.len
 refine ⟨r,s',?_,k1.up (by omega),⟨?_,by omega,fun x hx => ?_⟩,dl,D.hrs⟩
 ·rw [spec_l17Draw_eq]; exact e
 ·rw [stepsOk,Bool.and_eq_true]
  exact ⟨List.all_eq_true.2 fun i hi => D.ok i (by simp at hi; omega),by simp; omega⟩
 ·obtain ⟨i,hi,e2⟩ := List.getElem_of_mem hx
  have h1 := D.al i hi
  have h2 := D.ok i hi
  rw [stAt_eq r hi,e2] at h1
  rw [stepC,Bool.and_eq_true,stAt_eq r hi,e2,stepOk,Bool.and_eq_true] at h2
  refine ⟨?_,by omega⟩
  have h3 := h2.1.1
  unfold isName at h3
  split at h3
  ·cases h3
  ·rename_i e3
   simp only [Bool.and_eq_true,decide_eq_true_eq] at h3
   omega
theorem spec_R8Steps_ok (code : List Int) (h1 : ∀ x,x ∈ code → 0 ≤ x ∧ x ≤ 255) (h2 : code.length ≤ 1048576) : ∃ xs : List T_Step.ty,spec_R8Steps code = some xs ∧ StSmall xs ∧ xs.length ≤ 6 ∧ ∀ i,i < xs.length → sHrs xs i ≤ 12 := by
 obtain ⟨s,e,k⟩ := from_ok code h1 h2
 obtain ⟨xs,s',e2,_,q⟩ := spec_l17Draw_ok k (by omega)
 rw [spec_R8Steps_eq]
 simp only [e,e2,Option.bind_some]
 exact ⟨xs,rfl,q⟩
end Go.Ab.P
