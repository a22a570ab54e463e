/- Lemmas on functions of the program. Conditions: told in each. -/
import Derived.Test.YtfmleilgdgmpeaaGreatDoorPFnBooks
set_option linter.unusedVariables false
set_option linter.unusedSimpArgs false
namespace Go.Ab.P
open Go.Ab
theorem idxLoop {β : Type} (n : Nat) (c : Nat → Bool) (p0 : Int → Option β) (bad last : Option β) (heq : ∀ i : Nat,i < n → p0 (i : Int) = if c i then p0 ((i + 1 : Nat) : Int) else bad) (hlast : p0 (n : Int) = last) :
 ∀ (k i : Nat),i + k = n → p0 (i : Int) = if (List.range' i k).all c then last else bad
 | 0,i,hk => by
   have : i = n := by omega
   subst this
   simp [hlast]
 | k + 1,i,hk => by
   rw [heq i (by omega),idxLoop n c p0 bad last heq hlast k (i + 1) (by omega),List.range'_succ,List.all_cons]
   cases c i
   ·simp
   ·simp only [Bool.true_and,if_true]
theorem wsucc {i : Nat} (h : i < 4611686018427387904) : IntKind.i64.wrap ((i : Int) + 1) = ((i + 1 : Nat) : Int) := by
 rw [w64 (by omega) (by omega)]; omega
theorem getElem?_lt {α : Type} {l : List α} {i : Nat} (h : i < l.length) : l[i]? = some l[i] := List.getElem?_eq_getElem h
theorem drop_cons {α : Type} {l : List α} {i : Nat} (h : i < l.length) : l.drop i = l[i] :: l.drop (i + 1) := List.drop_eq_getElem_cons h
theorem tmod_nonneg_eq {a b : Int} (ha : 0 ≤ a) : a.tmod b = a % b := Int.tmod_eq_emod_of_nonneg ha
def small (c : UInt8) : Bool := decide (97 ≤ (c.toNat : Int)) && decide ((c.toNat : Int) ≤ 122)
def digit (c : UInt8) : Bool := decide (48 ≤ (c.toNat : Int)) && decide ((c.toNat : Int) ≤ 57)
def isName (s : List UInt8) : Bool := match s with | [] => false | c :: r => small c && r.all (fun c => small c || digit c) && decide (s.length ≤ 10)
def inR (n lo hi : Int) : Bool := decide (lo ≤ n) && decide (n ≤ hi)
theorem inR_iff' {n lo hi : Int} : inR n lo hi = true ↔ lo ≤ n ∧ n ≤ hi := by simp [inR]
theorem impl_within_ok (n lo hi : Int) : impl_within n lo hi = some (inR n lo hi) := by
 rw [impl_within_eq,inR]; by_cases h : lo ≤ n <;> simp [h]
theorem impl_isDigit_ok (c : UInt8) : impl_isDigit (c.toNat : Int) = some (digit c) := by
 rw [impl_isDigit_eq,digit]; by_cases h : 48 ≤ (c.toNat : Int) <;> simp [h]
def okFrom : Nat → List UInt8 → Bool
 | _,[] => true
 | i,c :: r => (small c || (i != 0 && digit c)) && okFrom (i + 1) r
theorem okFrom_all (r : List UInt8) : ∀ i,okFrom (i + 1) r = r.all fun c => small c || digit c := by
 induction r with
 | nil => intro i; rfl
 | cons c r ih => intro i; simp [okFrom,ih]
theorem impl_IsName_p0_ok (s : List UInt8) (hs : s.length < 4611686018427387904) : ∀ (k i : Nat),i + k = s.length → impl_IsName_p0 s i = some (okFrom i (s.drop i) && (!(s == []) && decide (s.length ≤ 10)))
 | 0,i,h => by
   rw [impl_IsName_p0_eq,List.drop_eq_nil_of_le (by omega),impl_few_eq]
   have h1 : ¬ (i : Int) < (s.length : Int) := by omega
   simp only [h1,decide_false,Bool.false_eq_true,if_false,okFrom,Option.bind_some,Bool.true_and]
   cases s with
   | nil => rfl
   | cons c r =>
     have : ((c :: r == []) = false) := by simp
     simp only [this,Bool.not_false,if_true,Bool.true_and]
     congr 1
     simp only [decide_eq_decide]; omega
 | k + 1,i,h => by
   have hi : i < s.length := by omega
   have h1 : (i : Int) < (s.length : Int) := by omega
   have ih := impl_IsName_p0_ok s hs k (i + 1) (by omega)
   have e1 : ∀ b : Bool,impl_IsName_p1 s i b = some (((b || (i != 0 && digit s[i])) && okFrom (i + 1) (s.drop (i + 1))) && (!(s == []) && decide (s.length ≤ 10))) := by
    intro b
    rw [impl_IsName_p1_eq]
    simp only [Int.natCast_nonneg,decide_true,if_true,Int.toNat_natCast,getElem?_lt hi,Option.bind_some,impl_isDigit_ok,wsucc (show i < 4611686018427387904 by omega),ih]
    cases b
    ·by_cases h0 : i = 0
     ·subst h0; simp
     ·have : ((i : Int) == 0) = false := by simp [h0]
      have : (i != 0) = true := by simp [h0]
      simp only [*]
      cases digit s[i] <;> simp
    ·simp
   rw [impl_IsName_p0_eq,drop_cons hi,okFrom]
   simp only [h1,decide_true,if_true,Int.natCast_nonneg,Int.toNat_natCast,getElem?_lt hi,Option.bind_some,e1,small]
   by_cases h97 : (s[i].toNat : Int) ≥ 97 <;> simp [h97]
theorem impl_IsName_ok (s : List UInt8) (hs : s.length < 4611686018427387904) : impl_IsName s = some (isName s) := by
 rw [impl_IsName_eq]
 have := impl_IsName_p0_ok s hs s.length 0 (by simp)
 rw [show ((0 : Nat) : Int) = 0 from rfl] at this
 rw [this]
 cases s with
 | nil => rfl
 | cons c r => simp [okFrom,okFrom_all,isName]
theorem index1_none {c : UInt8} : ∀ {a : List UInt8},c ∉ a → Lib.index a [c] = -1
 | [],_ => rfl
 | b :: l,h => by
   have h1 : (c == b) = false := by simp at h; simpa using h.1
   have h2 := index1_none (a := l) (fun e => h (List.mem_cons_of_mem _ e))
   unfold Lib.index
   simp [List.isPrefixOf,h1,h2]
theorem index1_at {c : UInt8} : ∀ {a : List UInt8} (r : List UInt8),c ∉ a → Lib.index (a ++ c :: r) [c] = a.length
 | [],r,_ => by simp [Lib.index,List.isPrefixOf]
 | b :: l,r,h => by
   have h1 : (c == b) = false := by simp at h; simpa using h.1
   have h2 := index1_at (a := l) r (fun e => h (List.mem_cons_of_mem _ e))
   rw [List.cons_append]
   unfold Lib.index
   have h3 : ((l.length : Int) == -1) = false := by rw [beq_eq_false_iff_ne]; omega
   simp [List.isPrefixOf,h1,h2,h3]
theorem split1_last {c : UInt8} {a : List UInt8} (h : c ∉ a) : Lib.splitK [c] 0 (Lib.count a [c]) a = [a] := by
 rw [Lib.count_miss (index1_none h)]; rfl
theorem split1_cons {c : UInt8} {a : List UInt8} (r : List UInt8) (h : c ∉ a) : Lib.splitK [c] 0 (Lib.count (a ++ c :: r) [c]) (a ++ c :: r) = a :: Lib.splitK [c] 0 (Lib.count r [c]) r := by
 have hi := index1_at r h
 have hm : ¬ ((a.length : Int) == -1) = true := by rw [beq_iff_eq]; omega
 have hd : (a ++ c :: r).drop (a.length + [c].length) = r := by simp [List.drop_append]
 rw [Lib.count_hit (by simp) hi,hd,Nat.add_comm 1,Lib.splitK,hi,if_neg hm,Int.toNat_natCast,hd]
 simp
theorem cut1_at {c : UInt8} {a : List UInt8} (r : List UInt8) (h : c ∉ a) : Lib.cut (a ++ c :: r) [c] = (a,r,true) := by
 unfold Lib.cut
 rw [index1_at r h,if_pos (by omega),Int.toNat_natCast]
 simp [List.drop_append]
theorem impl_Decimal_ok (n : Int) (h : -9223372036854775808 ≤ n ∧ n ≤ 9223372036854775807) : impl_Decimal n = some (Lib.itoa n) := by
 rw [impl_Decimal_eq,strconv_FormatInt_eq]
 simp [h.1,h.2]
def runs (m : Int) : Nat → List Int
 | 0 => []
 | n + 1 => m :: runs (m + 1) n
theorem wu64 {n : Int} (h1 : 0 ≤ n) (h2 : n < 18446744073709551616) : IntKind.u64.wrap n = n := by
 have e : IntKind.u64.wrap n = if decide false = true then n % 18446744073709551616 - 18446744073709551616 else n % 18446744073709551616 := by
  simp [IntKind.wrap,IntKind.signed,IntKind.bits]
 rw [e]
 simp; omega
theorem and255 (x : Int) : ((BitVec.ofInt IntKind.u64.bits x &&& BitVec.ofInt IntKind.u64.bits 255).toNat : Int) ≤ 255 := by
 have : (BitVec.ofInt IntKind.u64.bits x &&& BitVec.ofInt IntKind.u64.bits 255).toNat ≤ 255 := by
  rw [BitVec.toNat_and]
  refine Nat.le_trans Nat.and_le_right ?_
  decide
 omega
def SrcOk (s : T_l00Src.ty) (c : Int) : Prop := (∀ x : Int,x ∈ s.1 → 0 ≤ x ∧ x ≤ 255) ∧ s.1.length ≤ 1048576 ∧ (0 : Int) ≤ s.2.1 ∧ (s.2.1 : Int) ≤ c
theorem src_eta (s : T_l00Src.ty) : (s.1,s.2.1,s.2.2.1,()) = s := rfl
theorem SrcOk.up {s : T_l00Src.ty} {c d : Int} (h : SrcOk s c) (hd : c ≤ d) : SrcOk s d := ⟨h.1,h.2.1,h.2.2.1,Int.le_trans h.2.2.2 hd⟩
theorem next_p0_ok (v : Int) (l : List Int) (a h : Int) (c : Int) (hs : SrcOk (l,a,h,()) c) (hc : c ≤ 1152921504606846976) (hv : 0 ≤ v ∧ v ≤ 255) :
 ∃ (u : Int) (s' : T_l00Src.ty),spec_l00Src_next_p0 v l a h = some (u,s') ∧ SrcOk s' (c + 1) ∧ 0 ≤ u ∧ u ≤ 255 := by
 obtain ⟨h1,h2,h3,h4⟩ := hs
 have h3 : 0 ≤ a := h3
 have h4 : a ≤ c := h4
 rw [spec_l00Src_next_p0_eq,w64 (n := a + 1) (by omega) (by omega)]
 split
 ·exact ⟨_,_,rfl,⟨h1,h2,by show (0 : Int) ≤ a + 1; omega,by show (a + 1 : Int) ≤ c + 1; omega⟩,hv⟩
 ·refine ⟨_,_,rfl,⟨h1,h2,by show (0 : Int) ≤ a + 1; omega,by show (a + 1 : Int) ≤ c + 1; omega⟩,?_⟩
  generalize hx : ((BitVec.ofInt IntKind.u64.bits _ &&& BitVec.ofInt IntKind.u64.bits 255).toNat : Int) = x
  have := and255 (Int.fdiv (IntKind.u64.wrap ((IntKind.u64.wrap ((IntKind.u64.wrap (h * 6364136223846793005)) + (IntKind.u64.wrap v))) + 1442695040888963407)) (2 ^ (min (40 : Int).toNat IntKind.u64.bits)))
  rw [hx] at this
  have h0 : 0 ≤ x := by rw [← hx]; exact Int.natCast_nonneg _
  rw [wu64 h0 (by omega),w64 (by omega) (by omega)]
  exact ⟨h0,this⟩
theorem next_core (l : List Int) (a h c : Int) (hs : SrcOk (l,a,h,()) c) (hc : c ≤ 1152921504606846976) : ∃ (u : Int) (s' : T_l00Src.ty),spec_l00Src_next (l,a,h,()) = some (u,s') ∧ SrcOk s' (c + 1) ∧ 0 ≤ u ∧ u ≤ 255 := by
 have h3 : (0 : Int) ≤ a := hs.2.2.1
 rw [spec_l00Src_next_eq]
 dsimp only
 split
 ·rename_i hlt
  simp only [decide_eq_true_eq] at hlt
  have hlt' : a < (List.length (α := Int) l : Int) := hlt
  have hi : a.toNat < l.length := by omega
  obtain ⟨x,hx⟩ : ∃ x,l[a.toNat]? = some x := ⟨_,List.getElem?_eq_getElem hi⟩
  have hm : 0 ≤ x ∧ x ≤ 255 := hs.1 x (List.mem_of_getElem? hx)
  rw [if_pos (by simpa using h3),hx,Option.bind_some,w64 (n := x) (by omega) (by omega)]
  exact next_p0_ok x l a h c hs hc hm
 ·exact next_p0_ok 0 l a h c hs hc ⟨by omega,by omega⟩
theorem next_ok {s : T_l00Src.ty} {c : Int} (hs : SrcOk s c) (hc : c ≤ 1152921504606846976) : ∃ (u : Int) (s' : T_l00Src.ty),spec_l00Src_next s = some (u,s') ∧ SrcOk s' (c + 1) ∧ 0 ≤ u ∧ u ≤ 255 :=
 next_core s.1 s.2.1 s.2.2.1 c hs hc
theorem pick_ok {s : T_l00Src.ty} {c : Int} (hs : SrcOk s c) (hc : c ≤ 1000000000000000000) (n : Int) (hn : n ≤ 65536) :
 ∃ (u : Int) (s' : T_l00Src.ty),spec_l00Src_pick s n = some (u,s') ∧ SrcOk s' (c + 2) ∧ 0 ≤ u ∧ (u = 0 ∨ u < n) := by
 rw [spec_l00Src_pick_eq]
 by_cases h1 : n ≤ 1
 ·simp only [h1,decide_true,if_true]
  exact ⟨0,s,rfl,hs.up (by omega),by omega,.inl rfl⟩
 ·obtain ⟨u,s1,e1,k1,b1,b2⟩ := next_ok hs (by omega)
  have hn0 : ¬ n = 0 := by omega
  simp only [h1,decide_false,Bool.false_eq_true,if_false,e1,Option.bind_some,src_eta,hn0]
  by_cases h2 : n > 200
  ·obtain ⟨v,s2,e2,k2,b3,b4⟩ := next_ok k1 (by omega)
   simp only [h2,decide_true,if_true,e2,Option.bind_some,src_eta]
   rw [w64 (n := u * 256) (by omega) (by omega),w64 (n := u * 256 + v) (by omega) (by omega),tmod_nonneg_eq (by omega)]
   exact ⟨_,s2,rfl,k2.up (by omega),Int.emod_nonneg _ hn0,.inr (Int.emod_lt_of_pos _ (by omega))⟩
  ·simp only [h2,decide_false,Bool.false_eq_true,if_false]
   rw [tmod_nonneg_eq b1]
   exact ⟨_,s1,rfl,k1.up (by omega),Int.emod_nonneg _ hn0,.inr (Int.emod_lt_of_pos _ (by omega))⟩
theorem one_ok {s : T_l00Src.ty} {c : Int} (hs : SrcOk s c) (hc : c ≤ 1000000000000000000) (n : Int) (hn : n ≤ 65536) :
 ∃ (u : Bool) (s' : T_l00Src.ty),spec_l00Src_one s n = some (u,s') ∧ SrcOk s' (c + 2) := by
 obtain ⟨u,s1,e1,k1,_⟩ := pick_ok hs hc n hn
 rw [spec_l00Src_one_eq]
 simp only [e1,Option.bind_some,src_eta]
 exact ⟨_,s1,rfl,k1⟩
theorem from_ok (code : List Int) (h1 : ∀ x,x ∈ code → 0 ≤ x ∧ x ≤ 255) (h2 : code.length ≤ 1048576) : ∃ s,spec_l00From code = some s ∧ SrcOk s 0 := by
 rw [spec_l00From_eq]
 exact ⟨_,rfl,h1,h2,Int.le_refl _,Int.le_refl _⟩
theorem bytes_ok {l : List Int} (h : CT.wf (.sl (.one (.int .u8))) l) : ∀ x,x ∈ l → 0 ≤ x ∧ x ≤ 255 := fun x hx => by
 have : (Lit.int .u8 x).wf = true := h.2 x hx
 simp [Lit.wf,IntKind.min,IntKind.max,IntKind.signed,IntKind.bits] at this
 omega
theorem dig_toNat {d : Nat} (h : d < 10) : (UInt8.ofNat (48 + d)).toNat = 48 + d := by
 rw [UInt8.toNat_ofNat']; omega
theorem decDigits_dig (u : Nat) : ∀ c,c ∈ Lib.decDigits u → 48 ≤ c.toNat ∧ c.toNat ≤ 57 := by
 induction u using Nat.strongRecOn with
 | _ u ih =>
   intro c hc
   rw [Lib.decDigits] at hc
   split at hc
   ·rename_i h
    simp only [List.mem_singleton] at hc
    rw [hc,dig_toNat h]; omega
   ·rename_i h
    rcases List.mem_append.1 hc with h1 | h1
    ·exact ih (u / 10) (by omega) c h1
    ·simp only [List.mem_singleton] at h1
     rw [h1,dig_toNat (by omega)]; omega
theorem decDigits_len : ∀ (k u : Nat),u < 10 ^ (k + 1) → (Lib.decDigits u).length ≤ k + 1 ∧ 1 ≤ (Lib.decDigits u).length
 | 0,u,h => by
   rw [Lib.decDigits,dif_pos (by simpa using h)]; simp
 | k + 1,u,h => by
   rw [Lib.decDigits]
   split
   ·simp
   ·have hq : u / 10 < 10 ^ (k + 1) := by
     have : 10 ^ (k + 1 + 1) = 10 ^ (k + 1) * 10 := Nat.pow_succ ..
     omega
    have := decDigits_len k (u / 10) hq
    simp only [List.length_append,List.length_singleton]
    omega
theorem itoa_pos (u : Nat) : Lib.itoa (u : Int) = Lib.decDigits u := by unfold Lib.itoa; rw [if_neg (by omega)]; simp
theorem up_app : ∀ (a b : List UInt8) (n m : Nat),Lib.parseUint10 n a = .ok m → Lib.parseUint10 n (a ++ b) = Lib.parseUint10 m b
 | [],b,n,m,h => by
   simp only [Lib.parseUint10,Lib.NumEnd.ok.injEq] at h
   rw [h]; rfl
 | c :: r,b,n,m,h => by
   simp only [Lib.parseUint10] at h
   rw [List.cons_append,Lib.parseUint10]
   split at h
   ·rename_i h1
    split at h
    ·cases h
    ·rename_i h2
     split at h
     ·cases h
     ·rename_i h3
      rw [if_pos h1,if_neg h2,if_neg h3]
      exact up_app r b _ m h
   ·cases h
theorem up_dec (u : Nat) (hu : u < 10 ^ 18) : Lib.parseUint10 0 (Lib.decDigits u) = .ok u := by
 have e18 : (10 : Nat) ^ 18 = 1000000000000000000 := by decide
 induction u using Nat.strongRecOn with
 | _ u ih =>
   rw [Lib.decDigits]
   split
   ·rename_i h
    simp only [Lib.parseUint10]
    rw [dig_toNat h,if_pos (by omega),if_neg (by omega),if_neg (by omega)]
    congr 1; omega
   ·rename_i h
    rw [up_app _ _ 0 (u / 10) (ih (u / 10) (by omega) (by omega))]
    simp only [Lib.parseUint10]
    rw [dig_toNat (by omega),if_pos (by omega),if_neg (by omega),if_neg (by omega)]
    congr 1; omega
theorem dec_ne (u : Nat) : Lib.decDigits u ≠ [] := by
 rw [Lib.decDigits]; split <;> simp
theorem itoa_neg (u : Nat) (h : 0 < u) : Lib.itoa (-(u : Int)) = 45 :: Lib.decDigits u := by
 unfold Lib.itoa; rw [if_pos (by omega)]; simp
theorem readDecP_itoa (n : Int) (h : -1000000000000 ≤ n ∧ n ≤ 1000000000000) : readDecP (Lib.itoa n) = (n,true) := by
 have e18 : (10 : Nat) ^ 18 = 1000000000000000000 := by decide
 have e13 : (10 : Nat) ^ (13 + 1) = 100000000000000 := by decide
 by_cases hn : n < 0
 ·obtain ⟨u,rfl,hu0,hu⟩ : ∃ u : Nat,n = -(u : Int) ∧ 0 < u ∧ u ≤ 1000000000000 := ⟨n.natAbs,by omega,by omega,by omega⟩
  have hl := decDigits_len 13 u (by omega)
  unfold readDecP
  rw [itoa_neg u hu0]
  have ht : Lib.trimPrefix (45 :: Lib.decDigits u) [45] = Lib.decDigits u := by simp [Lib.trimPrefix,Lib.hasPrefix,List.isPrefixOf]
  have hp : Lib.parseIntB 64 (45 :: Lib.decDigits u) = .ok (-(u : Int)) := by
   have hm : Lib.parseMag (Lib.decDigits u) = .ok u := by rw [Lib.parseMag,if_neg (dec_ne u),up_dec u (by omega)]
   rw [Lib.parseIntB_64,Lib.atoiAll]
   simp only [show (45 : UInt8).toNat = 45 from rfl,or_true,if_true,hm]
   rw [if_neg (by simp),if_neg (by simp; omega)]
  rw [ht,if_neg (by omega),hp]
  simp only [itoa_neg u hu0,if_true]
 ·obtain ⟨u,rfl,hu⟩ : ∃ u : Nat,n = (u : Int) ∧ u ≤ 1000000000000 := ⟨n.toNat,by omega,by omega⟩
  have hl := decDigits_len 13 u (by omega)
  unfold readDecP
  rw [itoa_pos u]
  cases hd : Lib.decDigits u with
  | nil => exact absurd hd (dec_ne u)
  | cons c r =>
    have hc := decDigits_dig u c (by rw [hd]; simp)
    have h45 : c ≠ 45 := fun e => by subst e; simp at hc
    have ht : Lib.trimPrefix (c :: r) [45] = c :: r := by simp [Lib.trimPrefix,Lib.hasPrefix,List.isPrefixOf,Ne.symm h45]
    have hp : Lib.parseIntB 64 (c :: r) = .ok (u : Int) := by
     have hm : Lib.parseMag (c :: r) = .ok u := by rw [← hd,Lib.parseMag,if_neg (dec_ne u),up_dec u (by omega)]
     rw [Lib.parseIntB_64,Lib.atoiAll]
     have h1 : ¬ c.toNat = 43 := by omega
     have h2 : ¬ c.toNat = 45 := by omega
     simp only [h1,h2,or_self,if_false,hm,not_false_eq_true,true_and,false_and]
     rw [if_neg (by omega)]
    rw [ht,← hd,if_neg (by omega),hd,hp]
    simp only [itoa_pos u,hd,if_true]
theorem itoa_len (n : Int) (h : -1000000000000 ≤ n ∧ n ≤ 1000000000000) : 1 ≤ (Lib.itoa n).length ∧ (Lib.itoa n).length ≤ 15 := by
 have e13 : (10 : Nat) ^ (13 + 1) = 100000000000000 := by decide
 unfold Lib.itoa
 split
 ·have := decDigits_len 13 n.natAbs (by omega)
  simp; omega
 ·have := decDigits_len 13 n.toNat (by omega)
  omega
theorem itoa_mem (n : Int) (c : UInt8) (hc : c ∈ Lib.itoa n) : c = 45 ∨ 48 ≤ c.toNat ∧ c.toNat ≤ 57 := by
 unfold Lib.itoa at hc
 split at hc
 ·rcases List.mem_cons.1 hc with h | h
  ·exact .inl h
  ·exact .inr (decDigits_dig _ c h)
 ·exact .inr (decDigits_dig _ c hc)
theorem itoa_no (n : Int) {c : UInt8} (h : c ≠ 45) (h' : c.toNat < 48 ∨ 57 < c.toNat) : c ∉ Lib.itoa n := fun e => by
 rcases itoa_mem n c e with h1 | h1
 ·exact h h1
 ·omega
theorem impl_ReadDecimal_ok (n : Int) (h : -1000000000000 ≤ n ∧ n ≤ 1000000000000) : impl_ReadDecimal (Lib.itoa n) = some (n,true) := by
 rw [impl_ReadDecimal_eq,readDecP_itoa n h]
theorem impl_SplitWords_3 (a b c : List UInt8) (ha : a ≠ []) (hb : b ≠ []) (hc : c ≠ []) (ha' : (32 : UInt8) ∉ a) (hb' : (32 : UInt8) ∉ b) (hc' : (32 : UInt8) ∉ c) (hl : a.length + b.length + c.length < 1000000) :
 impl_SplitWords (a ++ 32 :: (b ++ 32 :: c)) = some [a,b,c] := by
 have hs : Lib.splitK [32] 0 (Lib.count (a ++ 32 :: (b ++ 32 :: c)) [32]) (a ++ 32 :: (b ++ 32 :: c)) = [a,b,c] := by
  rw [split1_cons _ ha',split1_cons _ hb',split1_last hc']
 have hlen : (a ++ 32 :: (b ++ 32 :: c)).length < 4294967281 := by
  simp only [List.length_append,List.length_cons]; omega
 have h1 : (1 : Nat) ≤ ([32] : List UInt8).length := by decide
 have w1 : IntKind.i64.wrap (0 + 1) = 1 := by decide
 have w2 : IntKind.i64.wrap (1 + 1) = 2 := by decide
 have w3 : IntKind.i64.wrap (2 + 1) = 3 := by decide
 have na : (a == []) = false := by simpa using ha
 have nb : (b == []) = false := by simpa using hb
 have nc : (c == []) = false := by simpa using hc
 have l0 : 0 + 1 < lim := by rw [lim_eq]; omega
 have l1 : 1 + 1 < lim := by rw [lim_eq]; omega
 have l2 : 2 + 1 < lim := by rw [lim_eq]; omega
 have e3 : impl_SplitWords_p0 [a,b,c] 3 3 [a,b,c] = some [a,b,c] := by
  rw [impl_SplitWords_p0_eq]
  rfl
 have e2 : impl_SplitWords_p0 [a,b,c] 3 2 [a,b] = some [a,b,c] := by
  rw [impl_SplitWords_p0_eq]
  have g : ([a,b,c] : List (List UInt8))[(2 : Int).toNat]? = some c := rfl
  have c1 : (0 : Int) ≤ 2 := by decide
  have c2 : (2 : Int) < 3 := by decide
  have c3 : ([a,b] : List (List UInt8)).length + 1 < lim := l2
  simp only [c2,c1,decide_true,if_true,g,Option.bind_some,nc,Bool.not_false,c3,w3]
  exact e3
 have e1 : impl_SplitWords_p0 [a,b,c] 3 1 [a] = some [a,b,c] := by
  rw [impl_SplitWords_p0_eq]
  have g : ([a,b,c] : List (List UInt8))[(1 : Int).toNat]? = some b := rfl
  have c1 : (0 : Int) ≤ 1 := by decide
  have c2 : (1 : Int) < 3 := by decide
  have c3 : ([a] : List (List UInt8)).length + 1 < lim := l1
  simp only [c2,c1,decide_true,if_true,g,Option.bind_some,nb,Bool.not_false,c3,w2]
  exact e2
 have e0 : impl_SplitWords_p0 [a,b,c] 3 0 [] = some [a,b,c] := by
  rw [impl_SplitWords_p0_eq]
  have g : ([a,b,c] : List (List UInt8))[(0 : Int).toNat]? = some a := rfl
  have c1 : (0 : Int) ≤ 0 := by decide
  have c2 : (0 : Int) < 3 := by decide
  have c3 : ([] : List (List UInt8)).length + 1 < lim := l0
  simp only [c2,c1,decide_true,if_true,g,Option.bind_some,na,Bool.not_false,c3,w1]
  exact e1
 rw [impl_SplitWords_eq,strings_Split_eq]
 simp only [hlen,decide_true,h1,Bool.and_self,if_true,hs,Option.bind_some]
 exact e0
theorem isName_mem {s : List UInt8} (h : isName s = true) : (∀ c,c ∈ s → small c = true ∨ digit c = true) ∧ s.length ≤ 10 := by
 cases s with
 | nil => simp [isName] at h
 | cons c r =>
   simp only [isName,Bool.and_eq_true,List.all_eq_true,Bool.or_eq_true,decide_eq_true_eq] at h
   exact ⟨fun x hx => by
    rcases List.mem_cons.1 hx with rfl | hx
    ·exact .inl h.1.1
    ·exact h.1.2 x hx,h.2⟩
theorem isName_no {s : List UInt8} (h : isName s = true) {c : UInt8} (hc : c.toNat < 48) : c ∉ s := fun e => by
 rcases (isName_mem h).1 c e with h1 | h1
 ·simp [small] at h1; omega
 ·simp [digit] at h1; omega
theorem keep_flat {T : List (List UInt8)} {a : List UInt8} : ∀ {E : List (List UInt8)},(∀ d,d ∈ E → d ≠ a) → (E.flatMap fun d => List.replicate ((T ++ [a]).count d) d) = E.flatMap fun d => List.replicate (T.count d) d
 | [],_ => rfl
 | d :: r,h => by
   have h0 : [a].count d = 0 := List.count_eq_zero.2 (by simpa using h d List.mem_cons_self)
   rw [List.flatMap_cons,List.flatMap_cons,keep_flat fun d hd => h d (List.mem_cons_of_mem _ hd),List.count_append,h0,Nat.add_zero]
theorem runs_new {T E : List (List UInt8)} {a : List UInt8} (h1 : T = E.flatMap fun d => List.replicate (T.count d) d) (h2 : E.Pairwise (· < ·)) (h3 : ∀ d,d ∈ E → d ∈ T) (hlt : ∀ d,d ∈ T → d < a) :
 (T ++ [a] = (E ++ [a]).flatMap fun d => List.replicate ((T ++ [a]).count d) d) ∧ (E ++ [a]).Pairwise (· < ·) ∧ ∀ d,d ∈ E ++ [a] → d ∈ T ++ [a] := by
 have ne : ∀ d,d ∈ T → d ≠ a := fun d hd e => List.lt_irrefl a (e ▸ hlt d hd)
 have hc : T.count a = 0 := List.count_eq_zero.2 fun h => ne a h rfl
 refine ⟨?_,?_,fun d hd => ?_⟩
 ·rw [List.flatMap_append,keep_flat fun d hd => ne d (h3 d hd),← h1]
  simp [List.count_append,hc]
 ·rw [List.pairwise_append]
  refine ⟨h2,List.pairwise_singleton _ _,fun x hx y hy => ?_⟩
  rw [List.mem_singleton] at hy
  subst hy
  exact hlt x (h3 x hx)
 ·rcases List.mem_append.1 hd with hd | hd
  ·exact List.mem_append.2 (.inl (h3 d hd))
  ·exact List.mem_append.2 (.inr hd)
theorem runs_same {T E : List (List UInt8)} {a : List UInt8} (h1 : T = (E ++ [a]).flatMap fun d => List.replicate (T.count d) d) (h2 : (E ++ [a]).Pairwise (· < ·)) :
 T ++ [a] = (E ++ [a]).flatMap fun d => List.replicate ((T ++ [a]).count d) d := by
 have ne : ∀ d,d ∈ E → d ≠ a := fun d hd e => by
  rw [List.pairwise_append] at h2
  exact List.lt_irrefl a (e ▸ h2.2.2 d hd a (by simp))
 rw [List.flatMap_append,keep_flat ne]
 have hc : (T ++ [a]).count a = T.count a + 1 := by simp [List.count_append]
 have e : ([a].flatMap fun d => List.replicate ((T ++ [a]).count d) d) = ([a].flatMap fun d => List.replicate (T.count d) d) ++ [a] := by
  simp only [List.flatMap_cons,List.flatMap_nil,List.append_nil,hc,List.replicate_succ']
 rw [e,← List.append_assoc,← List.flatMap_append,← h1]
structure RunsOf (S : List (List UInt8)) (m : Nat) (E : List (List UInt8)) : Prop where
 run : S.take m = E.flatMap fun d => List.replicate ((S.take m).count d) d
 up : E.Pairwise (· < ·)
 mem : ∀ d,d ∈ E → d ∈ S.take m
 last : ∀ a,0 < m → S[m - 1]? = some a → ∃ E',E = E' ++ [a]
theorem runs_ok (S : List (List UInt8)) (hs : S.Pairwise (· ≤ ·)) : ∀ m,m ≤ S.length → RunsOf S m (Lib.compactUpTo S.toArray m)
 | 0,_ => ⟨by simp [Lib.compactUpTo],by simp [Lib.compactUpTo],by simp [Lib.compactUpTo],fun a h => absurd h (by omega)⟩
 | m + 1,hm => by
   have ih := runs_ok S hs m (by omega)
   have hT : S.take (m + 1) = S.take m ++ [S[m]] := by rw [List.take_add_one,List.getElem?_eq_getElem (by omega)]; rfl
   have e1 : S.toArray[m]! = S[m] := by simp [getElem!_pos,show m < S.length by omega]
   have le : ∀ (j : Nat) (hj : j < S.length),j < m → S[j] ≤ S[m] := fun j hj h => List.pairwise_iff_getElem.1 hs j m hj (by omega) h
   rw [Lib.compactUpTo_succ,e1]
   generalize hE : Lib.compactUpTo S.toArray m = E at ih
   by_cases hk : Lib.keeps S.toArray m = true
   ·rw [if_pos hk]
    have hlt : ∀ d,d ∈ S.take m → d < S[m] := fun d hd => by
     obtain ⟨j,hj,rfl⟩ := List.mem_iff_getElem.1 hd
     rw [List.length_take] at hj
     rw [List.getElem_take]
     have l1 := le j (by omega) (by omega)
     have e2 : S.toArray[m - 1]! = S[m - 1] := by simp [getElem!_pos,show m - 1 < S.length by omega]
     have hne : S[m] ≠ S[m - 1] := by
      simp only [Lib.keeps,decide_eq_true_eq,e1,e2] at hk
      exact hk.resolve_left (by omega)
     have l2 := le (m - 1) (by omega) (by omega)
     have l3 : S[j] ≤ S[m - 1] := by
      by_cases h : j = m - 1
      ·subst h; exact List.le_refl _
      ·exact List.pairwise_iff_getElem.1 hs j (m - 1) (by omega) (by omega) (by omega)
     rcases Classical.em (S[j] < S[m]) with h | h
     ·exact h
     ·exact absurd (List.le_antisymm (List.le_trans (show S[m] ≤ S[j] from h) l3) l2) hne
    obtain ⟨h1,h2,h3⟩ := runs_new ih.run ih.up ih.mem hlt
    refine ⟨?_,h2,?_,fun a _ ha => ?_⟩
    ·rw [hT]; exact h1
    ·rw [hT]; exact h3
    ·rw [Nat.add_sub_cancel,List.getElem?_eq_getElem (by omega)] at ha
     exact ⟨E,by rw [Option.some.inj ha]⟩
   ·rw [if_neg hk,List.append_nil]
    simp only [Lib.keeps,decide_eq_true_eq,not_or,Classical.not_not] at hk
    have hm0 : 0 < m := by omega
    have e2 : S.toArray[m - 1]! = S[m - 1] := by simp [getElem!_pos,show m - 1 < S.length by omega]
    have he : S[m] = S[m - 1] := by rw [← e1,← e2]; exact hk.2
    obtain ⟨E',rfl⟩ := ih.last S[m] hm0 (by rw [he,List.getElem?_eq_getElem])
    refine ⟨?_,ih.up,fun d hd => ?_,fun a _ ha => ?_⟩
    ·rw [hT]; exact runs_same ih.run ih.up
    ·rw [hT]; exact List.mem_append.2 (.inl (ih.mem d hd))
    ·rw [Nat.add_sub_cancel,List.getElem?_eq_getElem (by omega)] at ha
     exact ⟨E',by rw [Option.some.inj ha]⟩
def sortP (rows : List (List UInt8)) : List (List UInt8) := rows.mergeSort fun a b => decide (a ≤ b)
def lessP (rows : List (List UInt8)) : List (List UInt8) := Lib.compact (sortP rows)
theorem sortP_perm (rows : List (List UInt8)) : (sortP rows).Perm rows := List.mergeSort_perm _ _
theorem sortP_up (rows : List (List UInt8)) : (sortP rows).Pairwise (· ≤ ·) := by
 have := List.pairwise_mergeSort (le := fun a b : List UInt8 => decide (a ≤ b)) (fun a b c h h' => by
  simp only [decide_eq_true_eq] at h h' ⊢; exact List.le_trans h h') (fun a b => by
  simp only [Bool.or_eq_true,decide_eq_true_eq]; exact List.le_total a b) rows
 exact this.imp fun h => by simpa using h
theorem less_runs (rows : List (List UInt8)) : (sortP rows = (lessP rows).flatMap fun d => List.replicate (rows.count d) d) ∧ (lessP rows).Pairwise (· < ·) ∧ ∀ d,d ∈ lessP rows ↔ d ∈ rows := by
 have h := runs_ok (sortP rows) (sortP_up rows) _ (Nat.le_refl _)
 have h1 := h.run
 have h3 := h.mem
 rw [List.take_length] at h1 h3
 have hc : ∀ d,(sortP rows).count d = rows.count d := fun d => (sortP_perm rows).count_eq d
 simp only [hc] at h1
 refine ⟨h1,h.up,fun d => ⟨fun hd => (sortP_perm rows).mem_iff.1 (h3 d hd),fun hd => ?_⟩⟩
 have := (sortP_perm rows).mem_iff.2 hd
 rw [h1,List.mem_flatMap] at this
 obtain ⟨e,he,hm⟩ := this
 rw [List.eq_of_mem_replicate hm]; exact he
theorem lessP_le (xs : List (List UInt8)) : (lessP xs).length ≤ xs.length := by
 obtain ⟨r1,r2,r3⟩ := less_runs xs
 have hl : (sortP xs).length = xs.length := (sortP_perm xs).length_eq
 have e := congrArg List.length r1
 rw [hl,List.length_flatMap] at e
 have : ∀ (D : List (List UInt8)),(∀ d,d ∈ D → d ∈ xs) → D.length ≤ (D.map fun d => (List.replicate (xs.count d) d).length).sum := fun D => by
  induction D with
  | nil => intro _; simp
  | cons d r ih =>
    intro hd
    have := ih fun x hx => hd x (List.mem_cons_of_mem _ hx)
    have h0 : 0 < xs.count d := List.count_pos_iff.2 (hd d List.mem_cons_self)
    simp only [List.map_cons,List.sum_cons,List.length_cons,List.length_replicate] at this ⊢
    omega
 have := this (lessP xs) fun d hd => (r3 d).1 hd
 omega
theorem text_ok {s : T_l00Src.ty} {c : Int} (hs : SrcOk s c) (hc : c ≤ 1000000000000000000) (l : List (List UInt8)) (h0 : 0 < l.length) (hn : l.length ≤ 65536) :
 ∃ (u : List UInt8) (s' : T_l00Src.ty),spec_l00Src_text s l = some (u,s') ∧ SrcOk s' (c + 2) ∧ u ∈ l := by
 obtain ⟨u,s1,e1,k1,b1,b2⟩ := pick_ok hs hc (l.length : Int) (by omega)
 have hi : u.toNat < l.length := by omega
 rw [spec_l00Src_text_eq]
 simp only [e1,Option.bind_some,src_eta,b1,decide_true,if_true,List.getElem?_eq_getElem hi]
 exact ⟨_,s1,rfl,k1,List.getElem_mem hi⟩
theorem sortedSet_ok (xs : List (List UInt8)) (h : xs.length ≤ 1048576) : impl_sortedSet xs = some (lessP xs,()) := by
 have hl : (sortP xs).length = xs.length := (sortP_perm xs).length_eq
 have hb : xs.length < 4611686018427387904 := by omega
 have hb2 : (sortP xs).length ≤ 9223372036854775807 := by omega
 have hs : slices_Sort___string_string_ xs = some (sortP xs) := by rw [slices_Sort___string_string__eq,if_pos (decide_eq_true hb)]; rfl
 have hc : slices_Compact___string_string_ (sortP xs) = some (lessP xs,()) := by rw [slices_Compact___string_string__eq,if_pos (decide_eq_true hb2)]; rfl
 rw [impl_sortedSet_eq]
 simp only [decide_true,if_true,hs,Option.bind_some,hl,hc,List.take_length]
def entryOk (x : T_Entry.ty) : Bool := inR x.1 0 100000 && (isName x.2.1 && (isName x.2.2.1 && (!(x.2.1 == x.2.2.1) && inR x.2.2.2.1 1 10000000)))
def entryAt (xs : List T_Entry.ty) (i : Nat) : T_Entry.ty := (xs[i]?).getD (0,[],[],0,())
def bookC (xs : List T_Entry.ty) (i : Nat) : Bool := entryOk (entryAt xs i) && (decide (i = 0) || !decide ((entryAt xs (i - 1)).1 > (entryAt xs i).1))
def bookOk (xs : List T_Entry.ty) : Bool := (List.range' 0 xs.length).all (bookC xs) && decide ((xs.length : Int) ≤ 32)
theorem entryAt_get {xs : List T_Entry.ty} {i : Nat} (h : i < xs.length) : xs[i]? = some (entryAt xs i) := by simp [entryAt,List.getElem?_eq_getElem h]
theorem entryAt_mem {xs : List T_Entry.ty} {i : Nat} (h : i < xs.length) : entryAt xs i ∈ xs := List.mem_of_getElem? (entryAt_get h)
theorem impl_Entry_valid_ok (x : T_Entry.ty) (h0 : x.2.1.length < 4611686018427387904) (h1 : x.2.2.1.length < 4611686018427387904) : impl_Entry_valid x = some (entryOk x) := by
 rw [impl_Entry_valid_eq,entryOk]
 simp only [impl_IsName_ok x.2.1 h0,impl_IsName_ok x.2.2.1 h1,impl_isRentDay_eq,impl_within_ok,Option.bind_some]
 cases inR x.1 0 100000 <;> cases isName x.2.1 <;> cases isName x.2.2.1 <;> cases (x.2.1 == x.2.2.1) <;> rfl
theorem impl_ValidBook_ok (xs : List T_Entry.ty) (hs : xs.length ≤ 1048576) (hx : ∀ x,x ∈ xs → x.2.1.length ≤ 1048576 ∧ x.2.2.1.length ≤ 1048576) : impl_ValidBook xs = some (bookOk xs) := by
 rw [impl_ValidBook_eq,bookOk]
 have := idxLoop xs.length (bookC xs) (fun i => impl_ValidBook_p0 xs xs xs.length i) (some false) (some (decide ((xs.length : Int) ≤ 32))) (fun i hi' => ?_) ?_ xs.length 0 (by omega)
 ·rw [show ((0 : Nat) : Int) = 0 from rfl] at this
  rw [this]; cases (List.range' 0 xs.length).all (bookC xs) <;> rfl
 ·have hlt : (i : Int) < (xs.length : Int) := by omega
  have hw : IntKind.i64.wrap ((i : Int) + 1) = ((i + 1 : Nat) : Int) := by rw [w64 (by omega) (by omega)]; omega
  obtain ⟨g1,g2⟩ := hx _ (entryAt_mem hi')
  show impl_ValidBook_p0 xs xs xs.length i = _
  rw [impl_ValidBook_p0_eq]
  simp only [hlt,decide_true,if_true,Int.natCast_nonneg,Int.toNat_natCast,entryAt_get hi',Option.bind_some,impl_Entry_valid_ok _ (Nat.lt_of_le_of_lt g1 (by decide)) (Nat.lt_of_le_of_lt g2 (by decide)),hw,bookC]
  by_cases he : entryOk (entryAt xs i) = true
  case neg => simp [Bool.eq_false_iff.2 he]
  case pos =>
   simp only [he,Bool.true_and,Bool.not_true,Bool.false_eq_true,if_false]
   by_cases h0 : i = 0
   ·subst h0; simp
   ·have hp : (i : Int) > 0 := by omega
    have hw2 : IntKind.i64.wrap ((i : Int) - 1) = ((i - 1 : Nat) : Int) := by rw [w64 (by omega) (by omega)]; omega
    simp only [hp,decide_true,if_true,hw2,Int.natCast_nonneg,Int.toNat_natCast,entryAt_get (show i - 1 < xs.length by omega),Option.bind_some,h0,decide_false,Bool.false_or,Bool.not_true,Bool.false_eq_true,if_false,Bool.true_and]
    by_cases hc : (entryAt xs (i - 1)).1 > (entryAt xs i).1
    ·simp [hc]
    ·simp [hc]
 ·show impl_ValidBook_p0 xs xs xs.length (xs.length : Int) = _
  rw [impl_ValidBook_p0_eq,impl_few_eq]; simp
def chgP (x : T_Entry.ty) (a : List UInt8) : Int := if x.2.1 == a then x.2.2.2.1 else if x.2.2.1 == a then -x.2.2.2.1 else 0
def chgG (xs : List T_Entry.ty) (a : List UInt8) (i : Nat) : Int := chgP (entryAt xs i) a
structure BookFit (xs : List T_Entry.ty) : Prop where
 few : xs.length ≤ 32
 amt : ∀ i,(0 : Int) ≤ (entryAt xs i).2.2.2.1 ∧ ((entryAt xs i).2.2.2.1 : Int) ≤ 10000000
theorem chg_core (p q a : List UInt8) (m : Int) (h : 0 ≤ m ∧ m ≤ 10000000) : -10000000 ≤ (if p == a then m else if q == a then -m else 0) ∧ (if p == a then m else if q == a then -m else 0) ≤ 10000000 := by
 split
 ·omega
 ·split <;> omega
theorem chgG_bd {xs : List T_Entry.ty} (F : BookFit xs) (a : List UInt8) (i : Nat) : -10000000 ≤ chgG xs a i ∧ chgG xs a i ≤ 10000000 := chg_core _ _ a _ (F.amt i)
theorem impl_Entry_change_core (d : Int) (p q a : List UInt8) (m : Int) (h : 0 ≤ m ∧ m ≤ 10000000) : impl_Entry_change (d,p,q,m,()) a = some (chgP (d,p,q,m,()) a) := by
 rw [impl_Entry_change_eq,chgP]
 simp only []
 rw [w64 (n := 0 - m) (by omega) (by omega),show (a == p) = (p == a) from Bool.beq_comm,show (a == q) = (q == a) from Bool.beq_comm]
 cases (p == a) <;> cases (q == a) <;> simp
theorem impl_Entry_change_ok {xs : List T_Entry.ty} (F : BookFit xs) (a : List UInt8) (i : Nat) : impl_Entry_change (entryAt xs i) a = some (chgG xs a i) := impl_Entry_change_core _ _ _ a _ (F.amt i)
def bookSmall (g : List T_Entry.ty) : Prop := ∀ y : T_Entry.ty,y ∈ g → y.2.1.length ≤ 100 ∧ y.2.2.1.length ≤ 100
theorem bookSmall.add {g : List T_Entry.ty} (h : bookSmall g) {y : T_Entry.ty} (hy : y.2.1.length ≤ 100 ∧ y.2.2.1.length ≤ 100) : bookSmall (g ++ [y]) := fun z hz => by
 rcases List.mem_append.1 hz with h1 | h1
 ·exact h z h1
 ·rw [List.mem_singleton] at h1; rw [h1]; exact hy
def isum : List Int → Int
 | [] => 0
 | x :: l => x + isum l
theorem isum_app : ∀ (a b : List Int),isum (a ++ b) = isum a + isum b
 | [],b => by simp [isum]
 | x :: a,b => by simp only [List.cons_append,isum,isum_app a b]; omega
theorem isum_set : ∀ (l : List Int) (i : Nat) (v : Int) (h : i < l.length),isum (l.set i v) = isum l - l[i] + v
 | x :: l,0,v,_ => by simp only [List.set_cons_zero,isum,List.getElem_cons_zero]; omega
 | x :: l,i + 1,v,h => by
   have := isum_set l i v (by simpa using h)
   simp only [List.set_cons_succ,isum,List.getElem_cons_succ,this]; omega
theorem impl_clone_int64__ok (xs : List Int) (h : xs.length ≤ 1048576) : impl_clone_int64_ xs = some xs := by
 rw [impl_clone_int64__eq]
 have h1 : xs.length < lim := by rw [lim_eq]; omega
 simp [h1]
end Go.Ab.P
