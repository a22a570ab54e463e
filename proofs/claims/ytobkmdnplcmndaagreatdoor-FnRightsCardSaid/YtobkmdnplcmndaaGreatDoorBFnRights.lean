/- Lemmas on functions of the program. Conditions: told in each. -/
import Derived.Test.YtobkmdnplcmndaaGreatDoorPFnRights
set_option linter.unusedVariables false
set_option linter.unusedSimpArgs false
namespace Go.Ab.P
open Go.Ab
theorem idxLoop {β : Type} (n : Nat) (c : Nat → Bool) (p0 : Int → Option β) (bad last : Option β) (heq : ∀ i : Nat,i < n → p0 (i : Int) = if c i then p0 ((i + 1 : Nat) : Int) else bad) (hlast : p0 (n : Int) = last) :
 ∀ (k i : Nat),i + k = n → p0 (i : Int) = if (List.range' i k).all c then last else bad
 | 0,i,hk => by
   have : i = n := by omega
   subst this
   simp [hlast]
 | k + 1,i,hk => by
   rw [heq i (by omega),idxLoop n c p0 bad last heq hlast k (i + 1) (by omega),List.range'_succ,List.all_cons]
   cases c i
   ·simp
   ·simp only [Bool.true_and,if_true]
theorem wsucc {i : Nat} (h : i < 4611686018427387904) : IntKind.i64.wrap ((i : Int) + 1) = ((i + 1 : Nat) : Int) := by
 rw [w64 (by omega) (by omega)]; omega
theorem getElem?_lt {α : Type} {l : List α} {i : Nat} (h : i < l.length) : l[i]? = some l[i] := List.getElem?_eq_getElem h
theorem Zzh {α : Type} {l : List α} {i : Nat} (h : i < l.length) : l.drop i = l[i] :: l.drop (i + 1) := List.drop_eq_getElem_cons h
theorem Zgf {a b : Int} (ha : 0 ≤ a) : a.tmod b = a % b := Int.tmod_eq_emod_of_nonneg ha
def small (c : UInt8) : Bool := decide (97 ≤ (c.toNat : Int)) && decide ((c.toNat : Int) ≤ 122)
def digit (c : UInt8) : Bool := decide (48 ≤ (c.toNat : Int)) && decide ((c.toNat : Int) ≤ 57)
def isName (s : List UInt8) : Bool := match s with | [] => false | c :: r => small c && r.all (fun c => small c || digit c) && decide (s.length ≤ 10)
theorem Znm (c : UInt8) : Zg2 (c.toNat : Int) = some (small c) := by
 rw [Zvt,small]; by_cases h : 97 ≤ (c.toNat : Int) <;> simp [h]
theorem Zvo (c : UInt8) : Zk6 (c.toNat : Int) = some (digit c) := by
 rw [Zvn,digit]; by_cases h : 48 ≤ (c.toNat : Int) <;> simp [h]
theorem Zxe (c : UInt8) : Zm9 (c.toNat : Int) = some (digit c) := by
 rw [Zwj,digit]; by_cases h : 48 ≤ (c.toNat : Int) <;> simp [h]
theorem Zkq (s : List UInt8) (hs : s.length < 4611686018427387904) : ∀ (k i : Nat),i + k = s.length → Zdx s i = some ((s.drop i).all fun c => small c || digit c)
 | 0,i,h => by
   rw [Zkn,List.drop_eq_nil_of_le (by omega)]
   simp; omega
 | k + 1,i,h => by
   have hi : i < s.length := by omega
   rw [Zkn,Zzh hi]
   have h1 : (i : Int) < (s.length : Int) := by omega
   simp only [h1,decide_true,if_true,Int.natCast_nonneg,Int.toNat_natCast,getElem?_lt hi,Option.bind_some,Znm,Zvo,wsucc (show i < 4611686018427387904 by omega),Zkq s hs k (i + 1) (by omega),List.all_cons]
   cases small s[i] <;> cases digit s[i] <;> simp
theorem Zoq (s : List UInt8) (hs : s.length < 4611686018427387904) : Zfs s = some (isName s) := by
 rw [Zw3]
 cases s with
 | nil => rfl
 | cons c r =>
   have := Zkq (c :: r) hs (r.length + 1) 0 (by simp)
   simp only [Zsl,List.getElem?_cons_zero,Option.bind_some,Znm]
   rw [show ((0 : Nat) : Int) = 0 from rfl] at this
   rw [this,isName]
   have e0 : ((c :: r) == ([] : List UInt8)) = false := by simp
   by_cases hl : ((c :: r).length : Int) > 10
   ·have : ¬ (c :: r).length ≤ 10 := by omega
    simp only [e0,hl,this,decide_true,decide_false,if_true,Bool.false_eq_true,if_false,Bool.and_false]
   ·have : (c :: r).length ≤ 10 := by omega
    simp only [e0,hl,this,decide_true,decide_false,if_true,Bool.false_eq_true,if_false,Bool.and_true]
    cases hc : small c <;> simp [hc]
def okFrom : Nat → List UInt8 → Bool
 | _,[] => true
 | i,c :: r => (small c || (i != 0 && digit c)) && okFrom (i + 1) r
theorem Z31 (r : List UInt8) : ∀ i,okFrom (i + 1) r = r.all fun c => small c || digit c := by
 induction r with
 | nil => intro i; rfl
 | cons c r ih => intro i; simp [okFrom,ih]
theorem Zlt (s : List UInt8) (hs : s.length < 4611686018427387904) : ∀ (k i : Nat),i + k = s.length → Zea s i = some (okFrom i (s.drop i) && (!(s == []) && decide (s.length ≤ 10)))
 | 0,i,h => by
   rw [Zlj,List.drop_eq_nil_of_le (by omega),Zoy]
   have h1 : ¬ (i : Int) < (s.length : Int) := by omega
   simp only [h1,decide_false,Bool.false_eq_true,if_false,okFrom,Option.bind_some,Bool.true_and]
   cases s with
   | nil => rfl
   | cons c r =>
     have : ((c :: r == []) = false) := by simp
     simp only [this,Bool.not_false,if_true,Bool.true_and]
     congr 1
     simp only [decide_eq_decide]; omega
 | k + 1,i,h => by
   have hi : i < s.length := by omega
   have h1 : (i : Int) < (s.length : Int) := by omega
   have ih := Zlt s hs k (i + 1) (by omega)
   have e1 : ∀ b : Bool,Zga s i b = some (((b || (i != 0 && digit s[i])) && okFrom (i + 1) (s.drop (i + 1))) && (!(s == []) && decide (s.length ≤ 10))) := by
    intro b
    rw [Zt6]
    simp only [Int.natCast_nonneg,decide_true,if_true,Int.toNat_natCast,getElem?_lt hi,Option.bind_some,Zxe,wsucc (show i < 4611686018427387904 by omega),ih]
    cases b
    ·by_cases h0 : i = 0
     ·subst h0; simp
     ·have : ((i : Int) == 0) = false := by simp [h0]
      have : (i != 0) = true := by simp [h0]
      simp only [*]
      cases digit s[i] <;> simp
    ·simp
   rw [Zlj,Zzh hi,okFrom]
   simp only [h1,decide_true,if_true,Int.natCast_nonneg,Int.toNat_natCast,getElem?_lt hi,Option.bind_some,e1,small]
   by_cases h97 : (s[i].toNat : Int) ≥ 97 <;> simp [h97]
theorem Zf3 (s : List UInt8) (hs : s.length < 4611686018427387904) : Zcb s = some (isName s) := by
 rw [Zxi]
 have := Zlt s hs s.length 0 (by simp)
 rw [show ((0 : Nat) : Int) = 0 from rfl] at this
 rw [this]
 cases s with
 | nil => rfl
 | cons c r => simp [okFrom,Z31,isName]
theorem Zuo {c : UInt8} : ∀ {a : List UInt8},c ∉ a → Lib.index a [c] = -1
 | [],_ => rfl
 | b :: l,h => by
   have h1 : (c == b) = false := by simp at h; simpa using h.1
   have h2 := Zuo (a := l) (fun e => h (List.mem_cons_of_mem _ e))
   unfold Lib.index
   simp [List.isPrefixOf,h1,h2]
theorem Zzg {c : UInt8} : ∀ {a : List UInt8} (r : List UInt8),c ∉ a → Lib.index (a ++ c :: r) [c] = a.length
 | [],r,_ => by simp [Lib.index,List.isPrefixOf]
 | b :: l,r,h => by
   have h1 : (c == b) = false := by simp at h; simpa using h.1
   have h2 := Zzg (a := l) r (fun e => h (List.mem_cons_of_mem _ e))
   rw [List.cons_append]
   unfold Lib.index
   have h3 : ((l.length : Int) == -1) = false := by rw [beq_eq_false_iff_ne]; omega
   simp [List.isPrefixOf,h1,h2,h3]
theorem Z2a {c : UInt8} {a : List UInt8} (h : c ∉ a) : Lib.splitK [c] 0 (Lib.count a [c]) a = [a] := by
 rw [Lib.count_miss (Zuo h)]; rfl
theorem Zum {c : UInt8} {a : List UInt8} (r : List UInt8) (h : c ∉ a) : Lib.splitK [c] 0 (Lib.count (a ++ c :: r) [c]) (a ++ c :: r) = a :: Lib.splitK [c] 0 (Lib.count r [c]) r := by
 have hi := Zzg r h
 have hm : ¬ ((a.length : Int) == -1) = true := by rw [beq_iff_eq]; omega
 have hd : (a ++ c :: r).drop (a.length + [c].length) = r := by simp [List.drop_append]
 rw [Lib.count_hit (by simp) hi,hd,Nat.add_comm 1,Lib.splitK,hi,if_neg hm,Int.toNat_natCast,hd]
 simp
def runs (m : Int) : Nat → List Int
 | 0 => []
 | n + 1 => m :: runs (m + 1) n
theorem wu64 {n : Int} (h1 : 0 ≤ n) (h2 : n < 18446744073709551616) : IntKind.u64.wrap n = n := by
 have e : IntKind.u64.wrap n = if decide false = true then n % 18446744073709551616 - 18446744073709551616 else n % 18446744073709551616 := by
  simp [IntKind.wrap,IntKind.signed,IntKind.bits]
 rw [e]
 simp; omega
theorem and255 (x : Int) : ((BitVec.ofInt IntKind.u64.bits x &&& BitVec.ofInt IntKind.u64.bits 255).toNat : Int) ≤ 255 := by
 have : (BitVec.ofInt IntKind.u64.bits x &&& BitVec.ofInt IntKind.u64.bits 255).toNat ≤ 255 := by
  rw [BitVec.toNat_and]
  refine Nat.le_trans Nat.and_le_right ?_
  decide
 omega
def SrcOk (s : Zac.ty) (c : Int) : Prop := (∀ x : Int,x ∈ s.1 → 0 ≤ x ∧ x ≤ 255) ∧ s.1.length ≤ 1048576 ∧ (0 : Int) ≤ s.2.1 ∧ (s.2.1 : Int) ≤ c
theorem Zb9 (s : Zac.ty) : (s.1,s.2.1,s.2.2.1,()) = s := rfl
theorem SrcOk.up {s : Zac.ty} {c d : Int} (h : SrcOk s c) (hd : c ≤ d) : SrcOk s d := ⟨h.1,h.2.1,h.2.2.1,Int.le_trans h.2.2.2 hd⟩
theorem Zw2 (v : Int) (l : List Int) (a h : Int) (c : Int) (hs : SrcOk (l,a,h,()) c) (hc : c ≤ 1152921504606846976) (hv : 0 ≤ v ∧ v ≤ 255) :
 ∃ (u : Int) (s' : Zac.ty),Zdg v l a h = some (u,s') ∧ SrcOk s' (c + 1) ∧ 0 ≤ u ∧ u ≤ 255 := by
 obtain ⟨h1,h2,h3,h4⟩ := hs
 have h3 : 0 ≤ a := h3
 have h4 : a ≤ c := h4
 rw [Zo3,w64 (n := a + 1) (by omega) (by omega)]
 split
 ·exact ⟨_,_,rfl,⟨h1,h2,by show (0 : Int) ≤ a + 1; omega,by show (a + 1 : Int) ≤ c + 1; omega⟩,hv⟩
 ·refine ⟨_,_,rfl,⟨h1,h2,by show (0 : Int) ≤ a + 1; omega,by show (a + 1 : Int) ≤ c + 1; omega⟩,?_⟩
  generalize hx : ((BitVec.ofInt IntKind.u64.bits _ &&& BitVec.ofInt IntKind.u64.bits 255).toNat : Int) = x
  have := and255 (Int.fdiv (IntKind.u64.wrap ((IntKind.u64.wrap ((IntKind.u64.wrap (h * 6364136223846793005)) + (IntKind.u64.wrap v))) + 1442695040888963407)) (2 ^ (min (40 : Int).toNat IntKind.u64.bits)))
  rw [hx] at this
  have h0 : 0 ≤ x := by rw [← hx]; exact Int.natCast_nonneg _
  rw [wu64 h0 (by omega),w64 (by omega) (by omega)]
  exact ⟨h0,this⟩
theorem Z5t (l : List Int) (a h c : Int) (hs : SrcOk (l,a,h,()) c) (hc : c ≤ 1152921504606846976) : ∃ (u : Int) (s' : Zac.ty),Zc6 (l,a,h,()) = some (u,s') ∧ SrcOk s' (c + 1) ∧ 0 ≤ u ∧ u ≤ 255 := by
 have h3 : (0 : Int) ≤ a := hs.2.2.1
 rw [Zrn]
 dsimp only
 split
 ·rename_i hlt
  simp only [decide_eq_true_eq] at hlt
  have hlt' : a < (List.length (α := Int) l : Int) := hlt
  have hi : a.toNat < l.length := by omega
  obtain ⟨x,hx⟩ : ∃ x,l[a.toNat]? = some x := ⟨_,List.getElem?_eq_getElem hi⟩
  have hm : 0 ≤ x ∧ x ≤ 255 := hs.1 x (List.mem_of_getElem? hx)
  rw [if_pos (by simpa using h3),hx,Option.bind_some,w64 (n := x) (by omega) (by omega)]
  exact Zw2 x l a h c hs hc hm
 ·exact Zw2 0 l a h c hs hc ⟨by omega,by omega⟩
theorem Z3o {s : Zac.ty} {c : Int} (hs : SrcOk s c) (hc : c ≤ 1152921504606846976) : ∃ (u : Int) (s' : Zac.ty),Zc6 s = some (u,s') ∧ SrcOk s' (c + 1) ∧ 0 ≤ u ∧ u ≤ 255 :=
 Z5t s.1 s.2.1 s.2.2.1 c hs hc
theorem Ze1 {s : Zac.ty} {c : Int} (hs : SrcOk s c) (hc : c ≤ 1000000000000000000) (n : Int) (hn : n ≤ 65536) :
 ∃ (u : Int) (s' : Zac.ty),Zak s n = some (u,s') ∧ SrcOk s' (c + 2) ∧ 0 ≤ u ∧ (u = 0 ∨ u < n) := by
 rw [Zrz]
 by_cases h1 : n ≤ 1
 ·simp only [h1,decide_true,if_true]
  exact ⟨0,s,rfl,hs.up (by omega),by omega,.inl rfl⟩
 ·obtain ⟨u,s1,e1,k1,b1,b2⟩ := Z3o hs (by omega)
  have hn0 : ¬ n = 0 := by omega
  simp only [h1,decide_false,Bool.false_eq_true,if_false,e1,Option.bind_some,Zb9,hn0]
  by_cases h2 : n > 200
  ·obtain ⟨v,s2,e2,k2,b3,b4⟩ := Z3o k1 (by omega)
   simp only [h2,decide_true,if_true,e2,Option.bind_some,Zb9]
   rw [w64 (n := u * 256) (by omega) (by omega),w64 (n := u * 256 + v) (by omega) (by omega),Zgf (by omega)]
   exact ⟨_,s2,rfl,k2.up (by omega),Int.emod_nonneg _ hn0,.inr (Int.emod_lt_of_pos _ (by omega))⟩
  ·simp only [h2,decide_false,Bool.false_eq_true,if_false]
   rw [Zgf b1]
   exact ⟨_,s1,rfl,k1.up (by omega),Int.emod_nonneg _ hn0,.inr (Int.emod_lt_of_pos _ (by omega))⟩
theorem one_ok {s : Zac.ty} {c : Int} (hs : SrcOk s c) (hc : c ≤ 1000000000000000000) (n : Int) (hn : n ≤ 65536) :
 ∃ (u : Bool) (s' : Zac.ty),Zbm s n = some (u,s') ∧ SrcOk s' (c + 2) := by
 obtain ⟨u,s1,e1,k1,_⟩ := Ze1 hs hc n hn
 rw [Zsj]
 simp only [e1,Option.bind_some,Zb9]
 exact ⟨_,s1,rfl,k1⟩
theorem Zql {s : Zac.ty} {c : Int} (hs : SrcOk s c) (hc : c ≤ 1000000000000000000) (l : List Int) (h0 : 0 < l.length) (hn : l.length ≤ 65536) :
 ∃ (u : Int) (s' : Zac.ty),Zbe s l = some (u,s') ∧ SrcOk s' (c + 2) ∧ u ∈ l := by
 obtain ⟨u,s1,e1,k1,b1,b2⟩ := Ze1 hs hc (l.length : Int) (by omega)
 have hi : u.toNat < l.length := by omega
 rw [Zqf]
 simp only [e1,Option.bind_some,Zb9,b1,decide_true,if_true,List.getElem?_eq_getElem hi]
 exact ⟨_,s1,rfl,k1,List.getElem_mem hi⟩
theorem Z2y (code : List Int) (h1 : ∀ x,x ∈ code → 0 ≤ x ∧ x ≤ 255) (h2 : code.length ≤ 1048576) : ∃ s,Zia code = some s ∧ SrcOk s 0 := by
 rw [Zwu]
 exact ⟨_,rfl,h1,h2,Int.le_refl _,Int.le_refl _⟩
theorem Z03 {l : List Int} (h : CT.wf (.sl (.one (.int .u8))) l) : ∀ x,x ∈ l → 0 ≤ x ∧ x ≤ 255 := fun x hx => by
 have : (Lit.int .u8 x).wf = true := h.2 x hx
 simp [Lit.wf,IntKind.min,IntKind.max,IntKind.signed,IntKind.bits] at this
 omega
theorem Ztv (a b c : List UInt8) (ha : a ≠ []) (hb : b ≠ []) (hc : c ≠ []) (ha' : (32 : UInt8) ∉ a) (hb' : (32 : UInt8) ∉ b) (hc' : (32 : UInt8) ∉ c) (hl : a.length + b.length + c.length < 1000000) :
 Zh4 (a ++ 32 :: (b ++ 32 :: c)) = some [a,b,c] := by
 have hs : Lib.splitK [32] 0 (Lib.count (a ++ 32 :: (b ++ 32 :: c)) [32]) (a ++ 32 :: (b ++ 32 :: c)) = [a,b,c] := by
  rw [Zum _ ha',Zum _ hb',Z2a hc']
 have hlen : (a ++ 32 :: (b ++ 32 :: c)).length < 4294967281 := by
  simp only [List.length_append,List.length_cons]; omega
 have h1 : (1 : Nat) ≤ ([32] : List UInt8).length := by decide
 have w1 : IntKind.i64.wrap (0 + 1) = 1 := by decide
 have w2 : IntKind.i64.wrap (1 + 1) = 2 := by decide
 have w3 : IntKind.i64.wrap (2 + 1) = 3 := by decide
 have na : (a == []) = false := by simpa using ha
 have nb : (b == []) = false := by simpa using hb
 have nc : (c == []) = false := by simpa using hc
 have l0 : 0 + 1 < lim := by rw [lim_eq]; omega
 have l1 : 1 + 1 < lim := by rw [lim_eq]; omega
 have l2 : 2 + 1 < lim := by rw [lim_eq]; omega
 have e3 : Za9 [a,b,c] 3 3 [a,b,c] = some [a,b,c] := by
  rw [Zcg]
  rfl
 have e2 : Za9 [a,b,c] 3 2 [a,b] = some [a,b,c] := by
  rw [Zcg]
  have g : ([a,b,c] : List (List UInt8))[(2 : Int).toNat]? = some c := rfl
  have c1 : (0 : Int) ≤ 2 := by decide
  have c2 : (2 : Int) < 3 := by decide
  have c3 : ([a,b] : List (List UInt8)).length + 1 < lim := l2
  simp only [c2,c1,decide_true,if_true,g,Option.bind_some,nc,Bool.not_false,c3,w3]
  exact e3
 have e1 : Za9 [a,b,c] 3 1 [a] = some [a,b,c] := by
  rw [Zcg]
  have g : ([a,b,c] : List (List UInt8))[(1 : Int).toNat]? = some b := rfl
  have c1 : (0 : Int) ≤ 1 := by decide
  have c2 : (1 : Int) < 3 := by decide
  have c3 : ([a] : List (List UInt8)).length + 1 < lim := l1
  simp only [c2,c1,decide_true,if_true,g,Option.bind_some,nb,Bool.not_false,c3,w2]
  exact e2
 have e0 : Za9 [a,b,c] 3 0 [] = some [a,b,c] := by
  rw [Zcg]
  have g : ([a,b,c] : List (List UInt8))[(0 : Int).toNat]? = some a := rfl
  have c1 : (0 : Int) ≤ 0 := by decide
  have c2 : (0 : Int) < 3 := by decide
  have c3 : ([] : List (List UInt8)).length + 1 < lim := l0
  simp only [c2,c1,decide_true,if_true,g,Option.bind_some,na,Bool.not_false,c3,w1]
  exact e1
 rw [Zs7,Zux]
 simp only [hlen,decide_true,h1,Bool.and_self,if_true,hs,Option.bind_some]
 exact e0
theorem Z4l {s : List UInt8} (h : isName s = true) : (∀ c,c ∈ s → small c = true ∨ digit c = true) ∧ s.length ≤ 10 := by
 cases s with
 | nil => simp [isName] at h
 | cons c r =>
   simp only [isName,Bool.and_eq_true,List.all_eq_true,Bool.or_eq_true,decide_eq_true_eq] at h
   exact ⟨fun x hx => by
    rcases List.mem_cons.1 hx with rfl | hx
    ·exact .inl h.1.1
    ·exact h.1.2 x hx,h.2⟩
theorem Zyp {s : List UInt8} (h : isName s = true) {c : UInt8} (hc : c.toNat < 48) : c ∉ s := fun e => by
 rcases (Z4l h).1 c e with h1 | h1
 ·simp [small] at h1; omega
 ·simp [digit] at h1; omega
theorem Zsi {T : List (List UInt8)} {a : List UInt8} : ∀ {E : List (List UInt8)},(∀ d,d ∈ E → d ≠ a) → (E.flatMap fun d => List.replicate ((T ++ [a]).count d) d) = E.flatMap fun d => List.replicate (T.count d) d
 | [],_ => rfl
 | d :: r,h => by
   have h0 : [a].count d = 0 := List.count_eq_zero.2 (by simpa using h d List.mem_cons_self)
   rw [List.flatMap_cons,List.flatMap_cons,Zsi fun d hd => h d (List.mem_cons_of_mem _ hd),List.count_append,h0,Nat.add_zero]
theorem Z6d {T E : List (List UInt8)} {a : List UInt8} (h1 : T = E.flatMap fun d => List.replicate (T.count d) d) (h2 : E.Pairwise (· < ·)) (h3 : ∀ d,d ∈ E → d ∈ T) (hlt : ∀ d,d ∈ T → d < a) :
 (T ++ [a] = (E ++ [a]).flatMap fun d => List.replicate ((T ++ [a]).count d) d) ∧ (E ++ [a]).Pairwise (· < ·) ∧ ∀ d,d ∈ E ++ [a] → d ∈ T ++ [a] := by
 have ne : ∀ d,d ∈ T → d ≠ a := fun d hd e => List.lt_irrefl a (e ▸ hlt d hd)
 have hc : T.count a = 0 := List.count_eq_zero.2 fun h => ne a h rfl
 refine ⟨?_,?_,fun d hd => ?_⟩
 ·rw [List.flatMap_append,Zsi fun d hd => ne d (h3 d hd),← h1]
  simp [List.count_append,hc]
 ·rw [List.pairwise_append]
  refine ⟨h2,List.pairwise_singleton _ _,fun x hx y hy => ?_⟩
  rw [List.mem_singleton] at hy
  subst hy
  exact hlt x (h3 x hx)
 ·rcases List.mem_append.1 hd with hd | hd
  ·exact List.mem_append.2 (.inl (h3 d hd))
  ·exact List.mem_append.2 (.inr hd)
theorem Z4z {T E : List (List UInt8)} {a : List UInt8} (h1 : T = (E ++ [a]).flatMap fun d => List.replicate (T.count d) d) (h2 : (E ++ [a]).Pairwise (· < ·)) :
 T ++ [a] = (E ++ [a]).flatMap fun d => List.replicate ((T ++ [a]).count d) d := by
 have ne : ∀ d,d ∈ E → d ≠ a := fun d hd e => by
  rw [List.pairwise_append] at h2
  exact List.lt_irrefl a (e ▸ h2.2.2 d hd a (by simp))
 rw [List.flatMap_append,Zsi ne]
 have hc : (T ++ [a]).count a = T.count a + 1 := by simp [List.count_append]
 have e : ([a].flatMap fun d => List.replicate ((T ++ [a]).count d) d) = ([a].flatMap fun d => List.replicate (T.count d) d) ++ [a] := by
  simp only [List.flatMap_cons,List.flatMap_nil,List.append_nil,hc,List.replicate_succ']
 rw [e,← List.append_assoc,← List.flatMap_append,← h1]
structure RunsOf (S : List (List UInt8)) (m : Nat) (E : List (List UInt8)) : Prop where
 run : S.take m = E.flatMap fun d => List.replicate ((S.take m).count d) d
 up : E.Pairwise (· < ·)
 mem : ∀ d,d ∈ E → d ∈ S.take m
 last : ∀ a,0 < m → S[m - 1]? = some a → ∃ E',E = E' ++ [a]
theorem Z3m (S : List (List UInt8)) (hs : S.Pairwise (· ≤ ·)) : ∀ m,m ≤ S.length → RunsOf S m (Lib.compactUpTo S.toArray m)
 | 0,_ => ⟨by simp [Lib.compactUpTo],by simp [Lib.compactUpTo],by simp [Lib.compactUpTo],fun a h => absurd h (by omega)⟩
 | m + 1,hm => by
   have ih := Z3m S hs m (by omega)
   have hT : S.take (m + 1) = S.take m ++ [S[m]] := by rw [List.take_add_one,List.getElem?_eq_getElem (by omega)]; rfl
   have e1 : S.toArray[m]! = S[m] := by simp [getElem!_pos,show m < S.length by omega]
   have le : ∀ (j : Nat) (hj : j < S.length),j < m → S[j] ≤ S[m] := fun j hj h => List.pairwise_iff_getElem.1 hs j m hj (by omega) h
   rw [Lib.compactUpTo_succ,e1]
   generalize hE : Lib.compactUpTo S.toArray m = E at ih
   by_cases hk : Lib.keeps S.toArray m = true
   ·rw [if_pos hk]
    have hlt : ∀ d,d ∈ S.take m → d < S[m] := fun d hd => by
     obtain ⟨j,hj,rfl⟩ := List.mem_iff_getElem.1 hd
     rw [List.length_take] at hj
     rw [List.getElem_take]
     have l1 := le j (by omega) (by omega)
     have e2 : S.toArray[m - 1]! = S[m - 1] := by simp [getElem!_pos,show m - 1 < S.length by omega]
     have hne : S[m] ≠ S[m - 1] := by
      simp only [Lib.keeps,decide_eq_true_eq,e1,e2] at hk
      exact hk.resolve_left (by omega)
     have l2 := le (m - 1) (by omega) (by omega)
     have l3 : S[j] ≤ S[m - 1] := by
      by_cases h : j = m - 1
      ·subst h; exact List.le_refl _
      ·exact List.pairwise_iff_getElem.1 hs j (m - 1) (by omega) (by omega) (by omega)
     rcases Classical.em (S[j] < S[m]) with h | h
     ·exact h
     ·exact absurd (List.le_antisymm (List.le_trans (show S[m] ≤ S[j] from h) l3) l2) hne
    obtain ⟨h1,h2,h3⟩ := Z6d ih.run ih.up ih.mem hlt
    refine ⟨?_,h2,?_,fun a _ ha => ?_⟩
    ·rw [hT]; exact h1
    ·rw [hT]; exact h3
    ·rw [Nat.add_sub_cancel,List.getElem?_eq_getElem (by omega)] at ha
     exact ⟨E,by rw [Option.some.inj ha]⟩
   ·rw [if_neg hk,List.append_nil]
    simp only [Lib.keeps,decide_eq_true_eq,not_or,Classical.not_not] at hk
    have hm0 : 0 < m := by omega
    have e2 : S.toArray[m - 1]! = S[m - 1] := by simp [getElem!_pos,show m - 1 < S.length by omega]
    have he : S[m] = S[m - 1] := by rw [← e1,← e2]; exact hk.2
    obtain ⟨E',rfl⟩ := ih.last S[m] hm0 (by rw [he,List.getElem?_eq_getElem])
    refine ⟨?_,ih.up,fun d hd => ?_,fun a _ ha => ?_⟩
    ·rw [hT]; exact Z4z ih.run ih.up
    ·rw [hT]; exact List.mem_append.2 (.inl (ih.mem d hd))
    ·rw [Nat.add_sub_cancel,List.getElem?_eq_getElem (by omega)] at ha
     exact ⟨E',by rw [Option.some.inj ha]⟩
def sortP (rows : List (List UInt8)) : List (List UInt8) := rows.mergeSort fun a b => decide (a ≤ b)
def lessP (rows : List (List UInt8)) : List (List UInt8) := Lib.compact (sortP rows)
theorem Zip (rows : List (List UInt8)) : (sortP rows).Perm rows := List.mergeSort_perm _ _
theorem Z6j (rows : List (List UInt8)) : (sortP rows).Pairwise (· ≤ ·) := by
 have := List.pairwise_mergeSort (le := fun a b : List UInt8 => decide (a ≤ b)) (fun a b c h h' => by
  simp only [decide_eq_true_eq] at h h' ⊢; exact List.le_trans h h') (fun a b => by
  simp only [Bool.or_eq_true,decide_eq_true_eq]; exact List.le_total a b) rows
 exact this.imp fun h => by simpa using h
theorem Zy2 (rows : List (List UInt8)) : (sortP rows = (lessP rows).flatMap fun d => List.replicate (rows.count d) d) ∧ (lessP rows).Pairwise (· < ·) ∧ ∀ d,d ∈ lessP rows ↔ d ∈ rows := by
 have h := Z3m (sortP rows) (Z6j rows) _ (Nat.le_refl _)
 have h1 := h.run
 have h3 := h.mem
 rw [List.take_length] at h1 h3
 have hc : ∀ d,(sortP rows).count d = rows.count d := fun d => (Zip rows).count_eq d
 simp only [hc] at h1
 refine ⟨h1,h.up,fun d => ⟨fun hd => (Zip rows).mem_iff.1 (h3 d hd),fun hd => ?_⟩⟩
 have := (Zip rows).mem_iff.2 hd
 rw [h1,List.mem_flatMap] at this
 obtain ⟨e,he,hm⟩ := this
 rw [List.eq_of_mem_replicate hm]; exact he
theorem Z6r (xs : List (List UInt8)) : (lessP xs).length ≤ xs.length := by
 obtain ⟨r1,r2,r3⟩ := Zy2 xs
 have hl : (sortP xs).length = xs.length := (Zip xs).length_eq
 have e := congrArg List.length r1
 rw [hl,List.length_flatMap] at e
 have : ∀ (D : List (List UInt8)),(∀ d,d ∈ D → d ∈ xs) → D.length ≤ (D.map fun d => (List.replicate (xs.count d) d).length).sum := fun D => by
  induction D with
  | nil => intro _; simp
  | cons d r ih =>
    intro hd
    have := ih fun x hx => hd x (List.mem_cons_of_mem _ hx)
    have h0 : 0 < xs.count d := List.count_pos_iff.2 (hd d List.mem_cons_self)
    simp only [List.map_cons,List.sum_cons,List.length_cons,List.length_replicate] at this ⊢
    omega
 have := this (lessP xs) fun d hd => (r3 d).1 hd
 omega
theorem Zmm {s : Zac.ty} {c : Int} (hs : SrcOk s c) (hc : c ≤ 1000000000000000000) (l : List (List UInt8)) (h0 : 0 < l.length) (hn : l.length ≤ 65536) :
 ∃ (u : List UInt8) (s' : Zac.ty),Zbb s l = some (u,s') ∧ SrcOk s' (c + 2) ∧ u ∈ l := by
 obtain ⟨u,s1,e1,k1,b1,b2⟩ := Ze1 hs hc (l.length : Int) (by omega)
 have hi : u.toNat < l.length := by omega
 rw [Zr0]
 simp only [e1,Option.bind_some,Zb9,b1,decide_true,if_true,List.getElem?_eq_getElem hi]
 exact ⟨_,s1,rfl,k1,List.getElem_mem hi⟩
theorem Z06 (xs : List (List UInt8)) (h : xs.length ≤ 1048576) : Zjt xs = some (lessP xs,()) := by
 have hl : (sortP xs).length = xs.length := (Zip xs).length_eq
 have hb : xs.length < 4611686018427387904 := by omega
 have hb2 : (sortP xs).length ≤ 9223372036854775807 := by omega
 have hs : Zb8 xs = some (sortP xs) := by rw [Zhy,if_pos (decide_eq_true hb)]; rfl
 have hc : Zbu (sortP xs) = some (lessP xs,()) := by rw [Zgl,if_pos (decide_eq_true hb2)]; rfl
 rw [Zt8]
 simp only [decide_true,if_true,hs,Option.bind_some,hl,hc,List.take_length]
end Go.Ab.P
