/- Lemmas on functions of the program. Conditions: told in each. -/
import Derived.Test.YtobkmdnplcmndaaPFnDuties
set_option linter.unusedVariables false
set_option linter.unusedSimpArgs false
namespace Go.Ab.P
open Go.Ab
theorem idxLoop {β : Type} (n : Nat) (c : Nat → Bool) (p0 : Int → Option β) (bad last : Option β) (heq : ∀ i : Nat,i < n → p0 (i : Int) = if c i then p0 ((i + 1 : Nat) : Int) else bad) (hlast : p0 (n : Int) = last) :
 ∀ (k i : Nat),i + k = n → p0 (i : Int) = if (List.range' i k).all c then last else bad
 | 0,i,hk => by
   have : i = n := by omega
   subst this
   simp [hlast]
 | k + 1,i,hk => by
   rw [heq i (by omega),idxLoop n c p0 bad last heq hlast k (i + 1) (by omega),List.range'_succ,List.all_cons]
   cases c i
   ·simp
   ·simp only [Bool.true_and,if_true]
theorem wsucc {i : Nat} (h : i < 4611686018427387904) : IntKind.i64.wrap ((i : Int) + 1) = ((i + 1 : Nat) : Int) := by
 rw [w64 (by omega) (by omega)]; omega
theorem getElem?_lt {α : Type} {l : List α} {i : Nat} (h : i < l.length) : l[i]? = some l[i] := List.getElem?_eq_getElem h
theorem Z1b {α : Type} {l : List α} {i : Nat} (h : i < l.length) : l.drop i = l[i] :: l.drop (i + 1) := List.drop_eq_getElem_cons h
theorem Zhu {a b : Int} (ha : 0 ≤ a) : a.tmod b = a % b := Int.tmod_eq_emod_of_nonneg ha
def small (c : UInt8) : Bool := decide (97 ≤ (c.toNat : Int)) && decide ((c.toNat : Int) ≤ 122)
def digit (c : UInt8) : Bool := decide (48 ≤ (c.toNat : Int)) && decide ((c.toNat : Int) ≤ 57)
def isName (s : List UInt8) : Bool := match s with | [] => false | c :: r => small c && r.all (fun c => small c || digit c) && decide (s.length ≤ 10)
theorem Zpk (c : UInt8) : Ziw (c.toNat : Int) = some (small c) := by
 rw [Zxx,small]; by_cases h : 97 ≤ (c.toNat : Int) <;> simp [h]
theorem Zxq (c : UInt8) : Znj (c.toNat : Int) = some (digit c) := by
 rw [Zxt,digit]; by_cases h : 48 ≤ (c.toNat : Int) <;> simp [h]
theorem Zyz (c : UInt8) : Zoq (c.toNat : Int) = some (digit c) := by
 rw [Zyn,digit]; by_cases h : 48 ≤ (c.toNat : Int) <;> simp [h]
theorem Zm8 (s : List UInt8) (hs : s.length < 4611686018427387904) : ∀ (k i : Nat),i + k = s.length → Ze5 s i = some ((s.drop i).all fun c => small c || digit c)
 | 0,i,h => by
   rw [Zmg,List.drop_eq_nil_of_le (by omega)]
   simp; omega
 | k + 1,i,h => by
   have hi : i < s.length := by omega
   rw [Zmg,Z1b hi]
   have h1 : (i : Int) < (s.length : Int) := by omega
   simp only [h1,decide_true,if_true,Int.natCast_nonneg,Int.toNat_natCast,getElem?_lt hi,Option.bind_some,Zpk,Zxq,wsucc (show i < 4611686018427387904 by omega),Zm8 s hs k (i + 1) (by omega),List.all_cons]
   cases small s[i] <;> cases digit s[i] <;> simp
theorem Zqo (s : List UInt8) (hs : s.length < 4611686018427387904) : Zg8 s = some (isName s) := by
 rw [Zyo]
 cases s with
 | nil => rfl
 | cons c r =>
   have := Zm8 (c :: r) hs (r.length + 1) 0 (by simp)
   simp only [Zur,List.getElem?_cons_zero,Option.bind_some,Zpk]
   rw [show ((0 : Nat) : Int) = 0 from rfl] at this
   rw [this,isName]
   have e0 : ((c :: r) == ([] : List UInt8)) = false := by simp
   by_cases hl : ((c :: r).length : Int) > 10
   ·have : ¬ (c :: r).length ≤ 10 := by omega
    simp only [e0,hl,this,decide_true,decide_false,if_true,Bool.false_eq_true,if_false,Bool.and_false]
   ·have : (c :: r).length ≤ 10 := by omega
    simp only [e0,hl,this,decide_true,decide_false,if_true,Bool.false_eq_true,if_false,Bool.and_true]
    cases hc : small c <;> simp [hc]
def okFrom : Nat → List UInt8 → Bool
 | _,[] => true
 | i,c :: r => (small c || (i != 0 && digit c)) && okFrom (i + 1) r
theorem Z5s (r : List UInt8) : ∀ i,okFrom (i + 1) r = r.all fun c => small c || digit c := by
 induction r with
 | nil => intro i; rfl
 | cons c r ih => intro i; simp [okFrom,ih]
theorem Znx (s : List UInt8) (hs : s.length < 4611686018427387904) : ∀ (k i : Nat),i + k = s.length → Zfn s i = some (okFrom i (s.drop i) && (!(s == []) && decide (s.length ≤ 10)))
 | 0,i,h => by
   rw [Znr,List.drop_eq_nil_of_le (by omega),Zrf]
   have h1 : ¬ (i : Int) < (s.length : Int) := by omega
   simp only [h1,decide_false,Bool.false_eq_true,if_false,okFrom,Option.bind_some,Bool.true_and]
   cases s with
   | nil => rfl
   | cons c r =>
     have : ((c :: r == []) = false) := by simp
     simp only [this,Bool.not_false,if_true,Bool.true_and]
     congr 1
     simp only [decide_eq_decide]; omega
 | k + 1,i,h => by
   have hi : i < s.length := by omega
   have h1 : (i : Int) < (s.length : Int) := by omega
   have ih := Znx s hs k (i + 1) (by omega)
   have e1 : ∀ b : Bool,Zhr s i b = some (((b || (i != 0 && digit s[i])) && okFrom (i + 1) (s.drop (i + 1))) && (!(s == []) && decide (s.length ≤ 10))) := by
    intro b
    rw [Zwb]
    simp only [Int.natCast_nonneg,decide_true,if_true,Int.toNat_natCast,getElem?_lt hi,Option.bind_some,Zyz,wsucc (show i < 4611686018427387904 by omega),ih]
    cases b
    ·by_cases h0 : i = 0
     ·subst h0; simp
     ·have : ((i : Int) == 0) = false := by simp [h0]
      have : (i != 0) = true := by simp [h0]
      simp only [*]
      cases digit s[i] <;> simp
    ·simp
   rw [Znr,Z1b hi,okFrom]
   simp only [h1,decide_true,if_true,Int.natCast_nonneg,Int.toNat_natCast,getElem?_lt hi,Option.bind_some,e1,small]
   by_cases h97 : (s[i].toNat : Int) ≥ 97 <;> simp [h97]
theorem Zsa (s : List UInt8) (hs : s.length < 4611686018427387904) : Zip s = some (isName s) := by
 rw [Z0q]
 have := Znx s hs s.length 0 (by simp)
 rw [show ((0 : Nat) : Int) = 0 from rfl] at this
 rw [this]
 cases s with
 | nil => rfl
 | cons c r => simp [okFrom,Z5s,isName]
def runs (m : Int) : Nat → List Int
 | 0 => []
 | n + 1 => m :: runs (m + 1) n
theorem wu64 {n : Int} (h1 : 0 ≤ n) (h2 : n < 18446744073709551616) : IntKind.u64.wrap n = n := by
 have e : IntKind.u64.wrap n = if decide false = true then n % 18446744073709551616 - 18446744073709551616 else n % 18446744073709551616 := by
  simp [IntKind.wrap,IntKind.signed,IntKind.bits]
 rw [e]
 simp; omega
theorem and255 (x : Int) : ((BitVec.ofInt IntKind.u64.bits x &&& BitVec.ofInt IntKind.u64.bits 255).toNat : Int) ≤ 255 := by
 have : (BitVec.ofInt IntKind.u64.bits x &&& BitVec.ofInt IntKind.u64.bits 255).toNat ≤ 255 := by
  rw [BitVec.toNat_and]
  refine Nat.le_trans Nat.and_le_right ?_
  decide
 omega
def SrcOk (s : Zab.ty) (c : Int) : Prop := (∀ x : Int,x ∈ s.1 → 0 ≤ x ∧ x ≤ 255) ∧ s.1.length ≤ 1048576 ∧ (0 : Int) ≤ s.2.1 ∧ (s.2.1 : Int) ≤ c
theorem Zdg (s : Zab.ty) : (s.1,s.2.1,s.2.2.1,()) = s := rfl
theorem SrcOk.up {s : Zab.ty} {c d : Int} (h : SrcOk s c) (hd : c ≤ d) : SrcOk s d := ⟨h.1,h.2.1,h.2.2.1,Int.le_trans h.2.2.2 hd⟩
theorem Zzm (v : Int) (l : List Int) (a h : Int) (c : Int) (hs : SrcOk (l,a,h,()) c) (hc : c ≤ 1152921504606846976) (hv : 0 ≤ v ∧ v ≤ 255) :
 ∃ (u : Int) (s' : Zab.ty),Zer v l a h = some (u,s') ∧ SrcOk s' (c + 1) ∧ 0 ≤ u ∧ u ≤ 255 := by
 obtain ⟨h1,h2,h3,h4⟩ := hs
 have h3 : 0 ≤ a := h3
 have h4 : a ≤ c := h4
 rw [Zrh,w64 (n := a + 1) (by omega) (by omega)]
 split
 ·exact ⟨_,_,rfl,⟨h1,h2,by show (0 : Int) ≤ a + 1; omega,by show (a + 1 : Int) ≤ c + 1; omega⟩,hv⟩
 ·refine ⟨_,_,rfl,⟨h1,h2,by show (0 : Int) ≤ a + 1; omega,by show (a + 1 : Int) ≤ c + 1; omega⟩,?_⟩
  generalize hx : ((BitVec.ofInt IntKind.u64.bits _ &&& BitVec.ofInt IntKind.u64.bits 255).toNat : Int) = x
  have := and255 (Int.fdiv (IntKind.u64.wrap ((IntKind.u64.wrap ((IntKind.u64.wrap (h * 6364136223846793005)) + (IntKind.u64.wrap v))) + 1442695040888963407)) (2 ^ (min (40 : Int).toNat IntKind.u64.bits)))
  rw [hx] at this
  have h0 : 0 ≤ x := by rw [← hx]; exact Int.natCast_nonneg _
  rw [wu64 h0 (by omega),w64 (by omega) (by omega)]
  exact ⟨h0,this⟩
theorem Z7d (l : List Int) (a h c : Int) (hs : SrcOk (l,a,h,()) c) (hc : c ≤ 1152921504606846976) : ∃ (u : Int) (s' : Zab.ty),Zed (l,a,h,()) = some (u,s') ∧ SrcOk s' (c + 1) ∧ 0 ≤ u ∧ u ≤ 255 := by
 have h3 : (0 : Int) ≤ a := hs.2.2.1
 rw [Zty]
 dsimp only
 split
 ·rename_i hlt
  simp only [decide_eq_true_eq] at hlt
  have hlt' : a < (List.length (α := Int) l : Int) := hlt
  have hi : a.toNat < l.length := by omega
  obtain ⟨x,hx⟩ : ∃ x,l[a.toNat]? = some x := ⟨_,List.getElem?_eq_getElem hi⟩
  have hm : 0 ≤ x ∧ x ≤ 255 := hs.1 x (List.mem_of_getElem? hx)
  rw [if_pos (by simpa using h3),hx,Option.bind_some,w64 (n := x) (by omega) (by omega)]
  exact Zzm x l a h c hs hc hm
 ·exact Zzm 0 l a h c hs hc ⟨by omega,by omega⟩
theorem Z5c {s : Zab.ty} {c : Int} (hs : SrcOk s c) (hc : c ≤ 1152921504606846976) : ∃ (u : Int) (s' : Zab.ty),Zed s = some (u,s') ∧ SrcOk s' (c + 1) ∧ 0 ≤ u ∧ u ≤ 255 :=
 Z7d s.1 s.2.1 s.2.2.1 c hs hc
theorem Zgm {s : Zab.ty} {c : Int} (hs : SrcOk s c) (hc : c ≤ 1000000000000000000) (n : Int) (hn : n ≤ 65536) :
 ∃ (u : Int) (s' : Zab.ty),Zax s n = some (u,s') ∧ SrcOk s' (c + 2) ∧ 0 ≤ u ∧ (u = 0 ∨ u < n) := by
 rw [Zt5]
 by_cases h1 : n ≤ 1
 ·simp only [h1,decide_true,if_true]
  exact ⟨0,s,rfl,hs.up (by omega),by omega,.inl rfl⟩
 ·obtain ⟨u,s1,e1,k1,b1,b2⟩ := Z5c hs (by omega)
  have hn0 : ¬ n = 0 := by omega
  simp only [h1,decide_false,Bool.false_eq_true,if_false,e1,Option.bind_some,Zdg,hn0]
  by_cases h2 : n > 200
  ·obtain ⟨v,s2,e2,k2,b3,b4⟩ := Z5c k1 (by omega)
   simp only [h2,decide_true,if_true,e2,Option.bind_some,Zdg]
   rw [w64 (n := u * 256) (by omega) (by omega),w64 (n := u * 256 + v) (by omega) (by omega),Zhu (by omega)]
   exact ⟨_,s2,rfl,k2.up (by omega),Int.emod_nonneg _ hn0,.inr (Int.emod_lt_of_pos _ (by omega))⟩
  ·simp only [h2,decide_false,Bool.false_eq_true,if_false]
   rw [Zhu b1]
   exact ⟨_,s1,rfl,k1.up (by omega),Int.emod_nonneg _ hn0,.inr (Int.emod_lt_of_pos _ (by omega))⟩
theorem one_ok {s : Zab.ty} {c : Int} (hs : SrcOk s c) (hc : c ≤ 1000000000000000000) (n : Int) (hn : n ≤ 65536) :
 ∃ (u : Bool) (s' : Zab.ty),Zcc s n = some (u,s') ∧ SrcOk s' (c + 2) := by
 obtain ⟨u,s1,e1,k1,_⟩ := Zgm hs hc n hn
 rw [Zu6]
 simp only [e1,Option.bind_some,Zdg]
 exact ⟨_,s1,rfl,k1⟩
theorem Zxo {s : Zab.ty} {c : Int} (hs : SrcOk s c) (hc : c ≤ 1000000000000000000) (l : List Int) (h0 : 0 < l.length) (hn : l.length ≤ 65536) :
 ∃ (u : Int) (s' : Zab.ty),Zcl s l = some (u,s') ∧ SrcOk s' (c + 2) ∧ u ∈ l := by
 obtain ⟨u,s1,e1,k1,b1,b2⟩ := Zgm hs hc (l.length : Int) (by omega)
 have hi : u.toNat < l.length := by omega
 rw [Zs9]
 simp only [e1,Option.bind_some,Zdg,b1,decide_true,if_true,List.getElem?_eq_getElem hi]
 exact ⟨_,s1,rfl,k1,List.getElem_mem hi⟩
theorem Z4r (code : List Int) (h1 : ∀ x,x ∈ code → 0 ≤ x ∧ x ≤ 255) (h2 : code.length ≤ 1048576) : ∃ s,Zkj code = some s ∧ SrcOk s 0 := by
 rw [Zyb]
 exact ⟨_,rfl,h1,h2,Int.le_refl _,Int.le_refl _⟩
theorem Z2q {l : List Int} (h : CT.wf (.sl (.one (.int .u8))) l) : ∀ x,x ∈ l → 0 ≤ x ∧ x ≤ 255 := fun x hx => by
 have : (Lit.int .u8 x).wf = true := h.2 x hx
 simp [Lit.wf,IntKind.min,IntKind.max,IntKind.signed,IntKind.bits] at this
 omega
theorem Zvc {T : List (List UInt8)} {a : List UInt8} : ∀ {E : List (List UInt8)},(∀ d,d ∈ E → d ≠ a) → (E.flatMap fun d => List.replicate ((T ++ [a]).count d) d) = E.flatMap fun d => List.replicate (T.count d) d
 | [],_ => rfl
 | d :: r,h => by
   have h0 : [a].count d = 0 := List.count_eq_zero.2 (by simpa using h d List.mem_cons_self)
   rw [List.flatMap_cons,List.flatMap_cons,Zvc fun d hd => h d (List.mem_cons_of_mem _ hd),List.count_append,h0,Nat.add_zero]
theorem Z8m {T E : List (List UInt8)} {a : List UInt8} (h1 : T = E.flatMap fun d => List.replicate (T.count d) d) (h2 : E.Pairwise (· < ·)) (h3 : ∀ d,d ∈ E → d ∈ T) (hlt : ∀ d,d ∈ T → d < a) :
 (T ++ [a] = (E ++ [a]).flatMap fun d => List.replicate ((T ++ [a]).count d) d) ∧ (E ++ [a]).Pairwise (· < ·) ∧ ∀ d,d ∈ E ++ [a] → d ∈ T ++ [a] := by
 have ne : ∀ d,d ∈ T → d ≠ a := fun d hd e => List.lt_irrefl a (e ▸ hlt d hd)
 have hc : T.count a = 0 := List.count_eq_zero.2 fun h => ne a h rfl
 refine ⟨?_,?_,fun d hd => ?_⟩
 ·rw [List.flatMap_append,Zvc fun d hd => ne d (h3 d hd),← h1]
  simp [List.count_append,hc]
 ·rw [List.pairwise_append]
  refine ⟨h2,List.pairwise_singleton _ _,fun x hx y hy => ?_⟩
  rw [List.mem_singleton] at hy
  subst hy
  exact hlt x (h3 x hx)
 ·rcases List.mem_append.1 hd with hd | hd
  ·exact List.mem_append.2 (.inl (h3 d hd))
  ·exact List.mem_append.2 (.inr hd)
theorem Z6p {T E : List (List UInt8)} {a : List UInt8} (h1 : T = (E ++ [a]).flatMap fun d => List.replicate (T.count d) d) (h2 : (E ++ [a]).Pairwise (· < ·)) :
 T ++ [a] = (E ++ [a]).flatMap fun d => List.replicate ((T ++ [a]).count d) d := by
 have ne : ∀ d,d ∈ E → d ≠ a := fun d hd e => by
  rw [List.pairwise_append] at h2
  exact List.lt_irrefl a (e ▸ h2.2.2 d hd a (by simp))
 rw [List.flatMap_append,Zvc ne]
 have hc : (T ++ [a]).count a = T.count a + 1 := by simp [List.count_append]
 have e : ([a].flatMap fun d => List.replicate ((T ++ [a]).count d) d) = ([a].flatMap fun d => List.replicate (T.count d) d) ++ [a] := by
  simp only [List.flatMap_cons,List.flatMap_nil,List.append_nil,hc,List.replicate_succ']
 rw [e,← List.append_assoc,← List.flatMap_append,← h1]
structure RunsOf (S : List (List UInt8)) (m : Nat) (E : List (List UInt8)) : Prop where
 run : S.take m = E.flatMap fun d => List.replicate ((S.take m).count d) d
 up : E.Pairwise (· < ·)
 mem : ∀ d,d ∈ E → d ∈ S.take m
 last : ∀ a,0 < m → S[m - 1]? = some a → ∃ E',E = E' ++ [a]
theorem Z49 (S : List (List UInt8)) (hs : S.Pairwise (· ≤ ·)) : ∀ m,m ≤ S.length → RunsOf S m (Lib.compactUpTo S.toArray m)
 | 0,_ => ⟨by simp [Lib.compactUpTo],by simp [Lib.compactUpTo],by simp [Lib.compactUpTo],fun a h => absurd h (by omega)⟩
 | m + 1,hm => by
   have ih := Z49 S hs m (by omega)
   have hT : S.take (m + 1) = S.take m ++ [S[m]] := by rw [List.take_add_one,List.getElem?_eq_getElem (by omega)]; rfl
   have e1 : S.toArray[m]! = S[m] := by simp [getElem!_pos,show m < S.length by omega]
   have le : ∀ (j : Nat) (hj : j < S.length),j < m → S[j] ≤ S[m] := fun j hj h => List.pairwise_iff_getElem.1 hs j m hj (by omega) h
   rw [Lib.compactUpTo_succ,e1]
   generalize hE : Lib.compactUpTo S.toArray m = E at ih
   by_cases hk : Lib.keeps S.toArray m = true
   ·rw [if_pos hk]
    have hlt : ∀ d,d ∈ S.take m → d < S[m] := fun d hd => by
     obtain ⟨j,hj,rfl⟩ := List.mem_iff_getElem.1 hd
     rw [List.length_take] at hj
     rw [List.getElem_take]
     have l1 := le j (by omega) (by omega)
     have e2 : S.toArray[m - 1]! = S[m - 1] := by simp [getElem!_pos,show m - 1 < S.length by omega]
     have hne : S[m] ≠ S[m - 1] := by
      simp only [Lib.keeps,decide_eq_true_eq,e1,e2] at hk
      exact hk.resolve_left (by omega)
     have l2 := le (m - 1) (by omega) (by omega)
     have l3 : S[j] ≤ S[m - 1] := by
      by_cases h : j = m - 1
      ·subst h; exact List.le_refl _
      ·exact List.pairwise_iff_getElem.1 hs j (m - 1) (by omega) (by omega) (by omega)
     rcases Classical.em (S[j] < S[m]) with h | h
     ·exact h
     ·exact absurd (List.le_antisymm (List.le_trans (show S[m] ≤ S[j] from h) l3) l2) hne
    obtain ⟨h1,h2,h3⟩ := Z8m ih.run ih.up ih.mem hlt
    refine ⟨?_,h2,?_,fun a _ ha => ?_⟩
    ·rw [hT]; exact h1
    ·rw [hT]; exact h3
    ·rw [Nat.add_sub_cancel,List.getElem?_eq_getElem (by omega)] at ha
     exact ⟨E,by rw [Option.some.inj ha]⟩
   ·rw [if_neg hk,List.append_nil]
    simp only [Lib.keeps,decide_eq_true_eq,not_or,Classical.not_not] at hk
    have hm0 : 0 < m := by omega
    have e2 : S.toArray[m - 1]! = S[m - 1] := by simp [getElem!_pos,show m - 1 < S.length by omega]
    have he : S[m] = S[m - 1] := by rw [← e1,← e2]; exact hk.2
    obtain ⟨E',rfl⟩ := ih.last S[m] hm0 (by rw [he,List.getElem?_eq_getElem])
    refine ⟨?_,ih.up,fun d hd => ?_,fun a _ ha => ?_⟩
    ·rw [hT]; exact Z6p ih.run ih.up
    ·rw [hT]; exact List.mem_append.2 (.inl (ih.mem d hd))
    ·rw [Nat.add_sub_cancel,List.getElem?_eq_getElem (by omega)] at ha
     exact ⟨E',by rw [Option.some.inj ha]⟩
def sortP (rows : List (List UInt8)) : List (List UInt8) := rows.mergeSort fun a b => decide (a ≤ b)
def lessP (rows : List (List UInt8)) : List (List UInt8) := Lib.compact (sortP rows)
theorem Zj4 (rows : List (List UInt8)) : (sortP rows).Perm rows := List.mergeSort_perm _ _
theorem Z76 (rows : List (List UInt8)) : (sortP rows).Pairwise (· ≤ ·) := by
 have := List.pairwise_mergeSort (le := fun a b : List UInt8 => decide (a ≤ b)) (fun a b c h h' => by
  simp only [decide_eq_true_eq] at h h' ⊢; exact List.le_trans h h') (fun a b => by
  simp only [Bool.or_eq_true,decide_eq_true_eq]; exact List.le_total a b) rows
 exact this.imp fun h => by simpa using h
theorem Z03 (rows : List (List UInt8)) : (sortP rows = (lessP rows).flatMap fun d => List.replicate (rows.count d) d) ∧ (lessP rows).Pairwise (· < ·) ∧ ∀ d,d ∈ lessP rows ↔ d ∈ rows := by
 have h := Z49 (sortP rows) (Z76 rows) _ (Nat.le_refl _)
 have h1 := h.run
 have h3 := h.mem
 rw [List.take_length] at h1 h3
 have hc : ∀ d,(sortP rows).count d = rows.count d := fun d => (Zj4 rows).count_eq d
 simp only [hc] at h1
 refine ⟨h1,h.up,fun d => ⟨fun hd => (Zj4 rows).mem_iff.1 (h3 d hd),fun hd => ?_⟩⟩
 have := (Zj4 rows).mem_iff.2 hd
 rw [h1,List.mem_flatMap] at this
 obtain ⟨e,he,hm⟩ := this
 rw [List.eq_of_mem_replicate hm]; exact he
theorem Z89 (xs : List (List UInt8)) : (lessP xs).length ≤ xs.length := by
 obtain ⟨r1,r2,r3⟩ := Z03 xs
 have hl : (sortP xs).length = xs.length := (Zj4 xs).length_eq
 have e := congrArg List.length r1
 rw [hl,List.length_flatMap] at e
 have : ∀ (D : List (List UInt8)),(∀ d,d ∈ D → d ∈ xs) → D.length ≤ (D.map fun d => (List.replicate (xs.count d) d).length).sum := fun D => by
  induction D with
  | nil => intro _; simp
  | cons d r ih =>
    intro hd
    have := ih fun x hx => hd x (List.mem_cons_of_mem _ hx)
    have h0 : 0 < xs.count d := List.count_pos_iff.2 (hd d List.mem_cons_self)
    simp only [List.map_cons,List.sum_cons,List.length_cons,List.length_replicate] at this ⊢
    omega
 have := this (lessP xs) fun d hd => (r3 d).1 hd
 omega
theorem Zv4 {s : Zab.ty} {c : Int} (hs : SrcOk s c) (hc : c ≤ 1000000000000000000) (l : List (List UInt8)) (h0 : 0 < l.length) (hn : l.length ≤ 65536) :
 ∃ (u : List UInt8) (s' : Zab.ty),Zch s l = some (u,s') ∧ SrcOk s' (c + 2) ∧ u ∈ l := by
 obtain ⟨u,s1,e1,k1,b1,b2⟩ := Zgm hs hc (l.length : Int) (by omega)
 have hi : u.toNat < l.length := by omega
 rw [Zuj]
 simp only [e1,Option.bind_some,Zdg,b1,decide_true,if_true,List.getElem?_eq_getElem hi]
 exact ⟨_,s1,rfl,k1,List.getElem_mem hi⟩
theorem Z28 (xs : List (List UInt8)) (h : xs.length ≤ 1048576) : Zl1 xs = some (lessP xs,()) := by
 have hl : (sortP xs).length = xs.length := (Zj4 xs).length_eq
 have hb : xs.length < 4611686018427387904 := by omega
 have hb2 : (sortP xs).length ≤ 9223372036854775807 := by omega
 have hs : Zdp xs = some (sortP xs) := by rw [Zjs,if_pos (decide_eq_true hb)]; rfl
 have hc : Zc0 (sortP xs) = some (lessP xs,()) := by rw [Zie,if_pos (decide_eq_true hb2)]; rfl
 rw [Zwa]
 simp only [decide_true,if_true,hs,Option.bind_some,hl,hc,List.take_length]
end Go.Ab.P
